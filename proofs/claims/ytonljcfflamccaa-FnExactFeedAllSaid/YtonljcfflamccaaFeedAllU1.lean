/- What functions of the program answer, on values without memory (part 1): conditions stand at each theorem. -/
import Derived.Test.YtonljcfflamccaaRows
import Derived.Test.YtonljcfflamccaaAm4
set_option linter.unusedVariables false
set_option linter.unusedSimpArgs false
set_option maxRecDepth 100000
set_option maxHeartbeats 4000000
namespace Go.Proofs.Ytonljcfflamccaa.U
open Go Go.RowKit Go.Proofs Go.Proofs.Ytonljcfflamccaa.Am AV Go.Proofs.Try
theorem ti_3 : tinfo prog 3 = { size := 1, bytes := 8, agg := some false, kind := 5, esz := 0, ebytes := 0, eagg := none, alen := 0, fields := [], zero := .int .i64 0, ezero := .undef, zok := true, ezok := false } := by rfl
theorem ti_4 : tinfo prog 4 = { size := 1, bytes := 1, agg := some false, kind := 6, esz := 0, ebytes := 0, eagg := none, alen := 0, fields := [], zero := .bool false, ezero := .undef, zok := true, ezok := false } := by rfl
theorem ti_9 : tinfo prog 9 = { size := 1, bytes := 16, agg := some false, kind := 4, esz := 0, ebytes := 0, eagg := none, alen := 0, fields := [], zero := .str [], ezero := .undef, zok := true, ezok := false } := by rfl
theorem ti_5 : tinfo prog 5 = { size := 1, bytes := 1, agg := some false, kind := 5, esz := 0, ebytes := 0, eagg := none, alen := 0, fields := [], zero := .int .u8 0, ezero := .undef, zok := true, ezok := false } := by rfl
theorem ti_21 : tinfo prog 21 = { size := 1, bytes := 4, agg := some false, kind := 5, esz := 0, ebytes := 0, eagg := none, alen := 0, fields := [], zero := .int .i32 0, ezero := .undef, zok := true, ezok := false } := by rfl
theorem ti_22 : tinfo prog 22 = { size := 1, bytes := 24, agg := some false, kind := 1, esz := 1, ebytes := 1, eagg := some false, alen := 0, fields := [], zero := .sl true 0 [], ezero := .int .u8 0, zok := true, ezok := true } := by rfl
theorem ti_180 : tinfo prog 180 = { size := 1, bytes := 24, agg := some false, kind := 1, esz := 1, ebytes := 1, eagg := some false, alen := 0, fields := [], zero := .sl true 0 [], ezero := .bool false, zok := true, ezok := true } := by rfl
theorem ti_86 : tinfo prog 86 = { size := 1, bytes := 24, agg := some false, kind := 1, esz := 1, ebytes := 8, eagg := some false, alen := 0, fields := [], zero := .sl true 0 [], ezero := .int .i64 0, zok := true, ezok := true } := by rfl
theorem ti_85 : tinfo prog 85 = { size := 1, bytes := 24, agg := some false, kind := 1, esz := 1, ebytes := 24, eagg := some false, alen := 0, fields := [], zero := .sl true 0 [], ezero := .sl true 0 [], zok := true, ezok := true } := by rfl
theorem ti_29 : tinfo prog 29 = { size := 1, bytes := 24, agg := some false, kind := 1, esz := 1, ebytes := 16, eagg := some false, alen := 0, fields := [], zero := .sl true 0 [], ezero := .str [], zok := true, ezok := true } := by rfl
theorem ti_164 : tinfo prog 164 = { size := 256, bytes := 256, agg := some true, kind := 2, esz := 1, ebytes := 1, eagg := some false, alen := 256, fields := [], zero := .arr 1 (List.replicate 256 (.bool false)), ezero := .bool false, zok := true, ezok := true } := by rfl
theorem ti_109 : tinfo prog 109 = { size := 13, bytes := 13, agg := some true, kind := 2, esz := 1, ebytes := 1, eagg := some false, alen := 13, fields := [], zero := .arr 1 (List.replicate 13 (.bool false)), ezero := .bool false, zok := true, ezok := true } := by rfl
theorem ti_110 : tinfo prog 110 = { size := 169, bytes := 169, agg := some true, kind := 2, esz := 13, ebytes := 13, eagg := some true, alen := 13, fields := [], zero := .arr 13 (List.replicate 13 (.arr 1 (List.replicate 13 (.bool false)))), ezero := .arr 1 (List.replicate 13 (.bool false)), zok := true, ezok := true } := by rfl
theorem ti_115 : tinfo prog 115 = { size := 2, bytes := 16, agg := some true, kind := 3, esz := 0, ebytes := 0, eagg := none, alen := 0, fields := [(0, 1, some false), (1, 1, some false)], zero := .agg [.int .i64 0, .int .i64 0], ezero := .undef, zok := true, ezok := false } := by rfl
theorem ti_23 : tinfo prog 23 = { size := 1, bytes := 24, agg := some false, kind := 1, esz := 2, ebytes := 16, eagg := some true, alen := 0, fields := [], zero := .sl true 0 [], ezero := .agg [.int .i64 0, .int .i64 0], zok := true, ezok := true } := by rfl
theorem ti_92 : tinfo prog 92 = { size := 1, bytes := 24, agg := some false, kind := 1, esz := 1, ebytes := 24, eagg := some false, alen := 0, fields := [], zero := .sl true 0 [], ezero := .sl true 0 [], zok := true, ezok := true } := by rfl
theorem ti_26 : tinfo prog 26 = { size := 3, bytes := 56, agg := some true, kind := 3, esz := 0, ebytes := 0, eagg := none, alen := 0, fields := [(0, 1, some false), (1, 1, some false), (2, 1, some false)], zero := .agg [.int .i64 0, .sl true 0 [], .sl true 0 []], ezero := .undef, zok := true, ezok := false } := by rfl
theorem ti_24 : tinfo prog 24 = { size := 1, bytes := 24, agg := some false, kind := 1, esz := 3, ebytes := 56, eagg := some true, alen := 0, fields := [], zero := .sl true 0 [], ezero := .agg [.int .i64 0, .sl true 0 [], .sl true 0 []], zok := true, ezok := true } := by rfl
theorem ti_129 : tinfo prog 129 = { size := 4, bytes := 32, agg := some true, kind := 3, esz := 0, ebytes := 0, eagg := none, alen := 0, fields := [(0, 1, some false), (1, 1, some false), (2, 1, some false), (3, 1, some false)], zero := .agg [.int .i64 0, .int .i64 0, .int .i64 0, .int .i64 0], ezero := .undef, zok := true, ezok := false } := by rfl
theorem ti_59 : tinfo prog 59 = { size := 1, bytes := 24, agg := some false, kind := 1, esz := 4, ebytes := 32, eagg := some true, alen := 0, fields := [], zero := .sl true 0 [], ezero := .agg [.int .i64 0, .int .i64 0, .int .i64 0, .int .i64 0], zok := true, ezok := true } := by rfl
theorem ti_134 : tinfo prog 134 = { size := 3, bytes := 24, agg := some true, kind := 3, esz := 0, ebytes := 0, eagg := none, alen := 0, fields := [(0, 1, some false), (1, 1, some false), (2, 1, some false)], zero := .agg [.int .i64 0, .int .i64 0, .int .i64 0], ezero := .undef, zok := true, ezok := false } := by rfl
theorem ti_56 : tinfo prog 56 = { size := 1, bytes := 24, agg := some false, kind := 1, esz := 3, ebytes := 24, eagg := some true, alen := 0, fields := [], zero := .sl true 0 [], ezero := .agg [.int .i64 0, .int .i64 0, .int .i64 0], zok := true, ezok := true } := by rfl
theorem ti_72 : tinfo prog 72 = { size := 9, bytes := 112, agg := some true, kind := 3, esz := 0, ebytes := 0, eagg := none, alen := 0, fields := [(0, 1, some false), (1, 1, some false), (2, 1, some false), (3, 1, some false), (4, 1, some false), (5, 1, some false), (6, 1, some false), (7, 1, some false), (8, 1, some false)], zero := .agg [.sl true 0 [], .str [], .int .i64 0, .int .i64 0, .int .i64 0, .int .i64 0, .int .i64 0, .sl true 0 [], .bool false], ezero := .undef, zok := true, ezok := false } := by rfl
theorem ti_94 : tinfo prog 94 = { size := 3, bytes := 72, agg := some true, kind := 3, esz := 0, ebytes := 0, eagg := none, alen := 0, fields := [(0, 1, some false), (1, 1, some false), (2, 1, some false)], zero := .agg [.sl true 0 [], .sl true 0 [], .sl true 0 []], ezero := .undef, zok := true, ezok := false } := by rfl
theorem ti_165 : tinfo prog 165 = { size := 256, bytes := 256, agg := some true, kind := 2, esz := 1, ebytes := 1, eagg := some false, alen := 256, fields := [], zero := .arr 1 (List.replicate 256 (.bool false)), ezero := .bool false, zok := true, ezok := true } := by rfl
theorem ti_111 : tinfo prog 111 = { size := 169, bytes := 169, agg := some true, kind := 2, esz := 13, ebytes := 13, eagg := some true, alen := 13, fields := [], zero := .arr 13 (List.replicate 13 (.arr 1 (List.replicate 13 (.bool false)))), ezero := .arr 1 (List.replicate 13 (.bool false)), zok := true, ezok := true } := by rfl
theorem ti_157 : tinfo prog 157 = { size := 338, bytes := 338, agg := some true, kind := 2, esz := 169, ebytes := 169, eagg := some true, alen := 2, fields := [], zero := .arr 169 (List.replicate 2 (.arr 13 (List.replicate 13 (.arr 1 (List.replicate 13 (.bool false)))))), ezero := .arr 13 (List.replicate 13 (.arr 1 (List.replicate 13 (.bool false)))), zok := true, ezok := true } := by rfl
theorem ti_162 : tinfo prog 162 = { size := 2, bytes := 16, agg := some true, kind := 3, esz := 0, ebytes := 0, eagg := none, alen := 0, fields := [(0, 1, some false), (1, 1, some false)], zero := .agg [.int .i64 0, .int .i64 0], ezero := .undef, zok := true, ezok := false } := by rfl
theorem ti_41 : tinfo prog 41 = { size := 1, bytes := 24, agg := some false, kind := 1, esz := 2, ebytes := 16, eagg := some true, alen := 0, fields := [], zero := .sl true 0 [], ezero := .agg [.int .i64 0, .int .i64 0], zok := true, ezok := true } := by rfl
theorem ti_84 : tinfo prog 84 = { size := 1, bytes := 24, agg := some false, kind := 1, esz := 1, ebytes := 24, eagg := some false, alen := 0, fields := [], zero := .sl true 0 [], ezero := .sl true 0 [], zok := true, ezok := true } := by rfl
theorem ti_44 : tinfo prog 44 = { size := 3, bytes := 56, agg := some true, kind := 3, esz := 0, ebytes := 0, eagg := none, alen := 0, fields := [(0, 1, some false), (1, 1, some false), (2, 1, some false)], zero := .agg [.int .i64 0, .sl true 0 [], .sl true 0 []], ezero := .undef, zok := true, ezok := false } := by rfl
theorem ti_42 : tinfo prog 42 = { size := 1, bytes := 24, agg := some false, kind := 1, esz := 3, ebytes := 56, eagg := some true, alen := 0, fields := [], zero := .sl true 0 [], ezero := .agg [.int .i64 0, .sl true 0 [], .sl true 0 []], zok := true, ezok := true } := by rfl
theorem ti_131 : tinfo prog 131 = { size := 4, bytes := 32, agg := some true, kind := 3, esz := 0, ebytes := 0, eagg := none, alen := 0, fields := [(0, 1, some false), (1, 1, some false), (2, 1, some false), (3, 1, some false)], zero := .agg [.int .i64 0, .int .i64 0, .int .i64 0, .int .i64 0], ezero := .undef, zok := true, ezok := false } := by rfl
theorem ti_54 : tinfo prog 54 = { size := 1, bytes := 24, agg := some false, kind := 1, esz := 4, ebytes := 32, eagg := some true, alen := 0, fields := [], zero := .sl true 0 [], ezero := .agg [.int .i64 0, .int .i64 0, .int .i64 0, .int .i64 0], zok := true, ezok := true } := by rfl
theorem ti_174 : tinfo prog 174 = { size := 3, bytes := 24, agg := some true, kind := 3, esz := 0, ebytes := 0, eagg := none, alen := 0, fields := [(0, 1, some false), (1, 1, some false), (2, 1, some false)], zero := .agg [.int .i64 0, .int .i64 0, .int .i64 0], ezero := .undef, zok := true, ezok := false } := by rfl
theorem ti_67 : tinfo prog 67 = { size := 1, bytes := 24, agg := some false, kind := 1, esz := 3, ebytes := 24, eagg := some true, alen := 0, fields := [], zero := .sl true 0 [], ezero := .agg [.int .i64 0, .int .i64 0, .int .i64 0], zok := true, ezok := true } := by rfl
theorem ti_69 : tinfo prog 69 = { size := 9, bytes := 112, agg := some true, kind := 3, esz := 0, ebytes := 0, eagg := none, alen := 0, fields := [(0, 1, some false), (1, 1, some false), (2, 1, some false), (3, 1, some false), (4, 1, some false), (5, 1, some false), (6, 1, some false), (7, 1, some false), (8, 1, some false)], zero := .agg [.sl true 0 [], .str [], .int .i64 0, .int .i64 0, .int .i64 0, .int .i64 0, .int .i64 0, .sl true 0 [], .bool false], ezero := .undef, zok := true, ezok := false } := by rfl
theorem ti_88 : tinfo prog 88 = { size := 3, bytes := 72, agg := some true, kind := 3, esz := 0, ebytes := 0, eagg := none, alen := 0, fields := [(0, 1, some false), (1, 1, some false), (2, 1, some false)], zero := .agg [.sl true 0 [], .sl true 0 [], .sl true 0 []], ezero := .undef, zok := true, ezok := false } := by rfl
theorem ti_154 : tinfo prog 154 = { size := 2, bytes := 32, agg := some true, kind := 3, esz := 0, ebytes := 0, eagg := none, alen := 0, fields := [(0, 1, some false), (1, 1, some false)], zero := .agg [.sl true 0 [], .int .i64 0], ezero := .undef, zok := true, ezok := false } := by rfl
theorem ub_3 : prog.underlying 3 = some (.int .i64) := by kernel_rfl
theorem ub_4 : prog.underlying 4 = some .bool := by kernel_rfl
theorem ub_5 : prog.underlying 5 = some (.int .u8) := by kernel_rfl
theorem ub_21 : prog.underlying 21 = some (.int .i32) := by kernel_rfl
theorem fk_115 : flatK prog 115 = some [5, 5] := by kernel_rfl
theorem fk_129 : flatK prog 129 = some [5, 5, 5, 5] := by kernel_rfl
theorem fk_134 : flatK prog 134 = some [5, 5, 5] := by kernel_rfl
theorem fk_162 : flatK prog 162 = some [5, 5] := by kernel_rfl
theorem fk_131 : flatK prog 131 = some [5, 5, 5, 5] := by kernel_rfl
theorem fk_174 : flatK prog 174 = some [5, 5, 5] := by kernel_rfl
theorem tis : type_of% @ti_3 ∧ type_of% @ti_4 ∧ type_of% @ti_9 ∧ type_of% @ti_5 ∧ type_of% @ti_21 ∧ type_of% @ti_22 ∧ type_of% @ti_180 ∧ type_of% @ti_86 ∧ type_of% @ti_85 ∧ type_of% @ti_29 ∧ type_of% @ti_164 ∧ type_of% @ti_109 ∧ type_of% @ti_110 ∧ type_of% @ti_115 ∧ type_of% @ti_23 ∧ type_of% @ti_92 ∧ type_of% @ti_26 ∧ type_of% @ti_24 ∧ type_of% @ti_129 ∧ type_of% @ti_59 ∧ type_of% @ti_134 ∧ type_of% @ti_56 ∧ type_of% @ti_72 ∧ type_of% @ti_94 ∧ type_of% @ti_165 ∧ type_of% @ti_111 ∧ type_of% @ti_157 ∧ type_of% @ti_162 ∧ type_of% @ti_41 ∧ type_of% @ti_84 ∧ type_of% @ti_44 ∧ type_of% @ti_42 ∧ type_of% @ti_131 ∧ type_of% @ti_54 ∧ type_of% @ti_174 ∧ type_of% @ti_67 ∧ type_of% @ti_69 ∧ type_of% @ti_88 ∧ type_of% @ti_154 ∧ type_of% @ub_3 ∧ type_of% @ub_4 ∧ type_of% @ub_5 ∧ type_of% @ub_21 ∧ type_of% @fk_115 ∧ type_of% @fk_129 ∧ type_of% @fk_134 ∧ type_of% @fk_162 ∧ type_of% @fk_131 ∧ type_of% @fk_174 := ⟨ti_3, ti_4, ti_9, ti_5, ti_21, ti_22, ti_180, ti_86, ti_85, ti_29, ti_164, ti_109, ti_110, ti_115, ti_23, ti_92, ti_26, ti_24, ti_129, ti_59, ti_134, ti_56, ti_72, ti_94, ti_165, ti_111, ti_157, ti_162, ti_41, ti_84, ti_44, ti_42, ti_131, ti_54, ti_174, ti_67, ti_69, ti_88, ti_154, ub_3, ub_4, ub_5, ub_21, fk_115, fk_129, fk_134, fk_162, fk_131, fk_174⟩
structure Span where
  lo : Int
  hi : Int
  deriving DecidableEq
structure Ins where
  op : Int
  a : Int
  b : Int
  to : Int
  deriving DecidableEq
structure Token where
  rule : Int
  frm : Int
  to : Int
  deriving DecidableEq
instance : Inhabited Span := ⟨⟨0, 0⟩⟩
instance : Inhabited Ins := ⟨⟨0, 0, 0, 0⟩⟩
instance : Inhabited Token := ⟨⟨0, 0, 0⟩⟩
def eSpan (x : Span) : AV := .agg [.int .i64 x.lo, .int .i64 x.hi]
def eIns (x : Ins) : AV := .agg [.int .i64 x.op, .int .i64 x.a, .int .i64 x.b, .int .i64 x.to]
def eToken (x : Token) : AV := .agg [.int .i64 x.rule, .int .i64 x.frm, .int .i64 x.to]
/-- In a list of such nothing is own. -/
structure Flat {α : Type} (f : α → AV) (n : Nat) : Prop where
  er : ∀ x, erase (f x) = f x
  de : ∀ x, dead (f x) = f x
  pl : ∀ x, plain (f x) = true
  cl : ∀ x, closed (f x) = true
  nc : ∀ x, ncells (f x) = n
section
variable {α : Type} {f : α → AV} {n : Nat}
theorem Flat.eraseL (h : Flat f n) (l : List α) : eraseL (l.map f) = l.map f := by rw [eraseL_map, List.map_map]; exact List.map_congr_left fun x _ => h.er x
theorem Flat.deadL (h : Flat f n) (l : List α) : deadL (l.map f) = l.map f := by rw [deadL_map, List.map_map]; exact List.map_congr_left fun x _ => h.de x
theorem Flat.plainL (h : Flat f n) (l : List α) : plainL (l.map f) = true := by rw [plainL_all]; simp [h.pl]
theorem Flat.closedL (h : Flat f n) (l : List α) : closedL (l.map f) = true := by rw [closedL_all]; simp [h.cl]
theorem plainL_app (a b : List AV) : plainL (a ++ b) = (plainL a && plainL b) := by simp [plainL_all]
theorem closedL_app (a b : List AV) : closedL (a ++ b) = (closedL a && closedL b) := by simp [closedL_all]
theorem eraseL_app (a b : List AV) : eraseL (a ++ b) = eraseL a ++ eraseL b := by simp [eraseL_map]
theorem closedL_rep (k : Nat) (x : AV) (h : closed x = true) : closedL (List.replicate k x) = true := by rw [closedL_all]; simp [h]
theorem plainL_rep (k : Nat) (x : AV) (h : plain x = true) : plainL (List.replicate k x) = true := by rw [plainL_all]; simp [h]
end
theorem flSpan : Flat eSpan 2 := ⟨fun _ => rfl, fun _ => rfl, fun _ => rfl, fun _ => rfl, fun _ => rfl⟩
theorem flIns : Flat eIns 4 := ⟨fun _ => rfl, fun _ => rfl, fun _ => rfl, fun _ => rfl, fun _ => rfl⟩
theorem flToken : Flat eToken 3 := ⟨fun _ => rfl, fun _ => rfl, fun _ => rfl, fun _ => rfl, fun _ => rfl⟩
def eInt (x : Int) : AV := .int .i64 x
def eBool (x : Bool) : AV := .bool x
def eStr (x : List UInt8) : AV := .str x
theorem flInt : Flat eInt 1 := ⟨fun _ => rfl, fun _ => rfl, fun _ => rfl, fun _ => rfl, fun _ => rfl⟩
theorem flBool : Flat eBool 1 := ⟨fun _ => rfl, fun _ => rfl, fun _ => rfl, fun _ => rfl, fun _ => rfl⟩
theorem flStr : Flat eStr 1 := ⟨fun _ => rfl, fun _ => rfl, fun _ => rfl, fun _ => rfl, fun _ => rfl⟩
theorem fls : (∀ l : List Span, eraseL (l.map eSpan) = l.map eSpan) ∧ (∀ l : List Span, deadL (l.map eSpan) = l.map eSpan) ∧ (∀ l : List Span, plainL (l.map eSpan) = true) ∧ (∀ l : List Span, closedL (l.map eSpan) = true) ∧
    (∀ l : List Ins, eraseL (l.map eIns) = l.map eIns) ∧ (∀ l : List Ins, deadL (l.map eIns) = l.map eIns) ∧ (∀ l : List Ins, plainL (l.map eIns) = true) ∧ (∀ l : List Ins, closedL (l.map eIns) = true) ∧
    (∀ l : List Token, eraseL (l.map eToken) = l.map eToken) ∧ (∀ l : List Token, deadL (l.map eToken) = l.map eToken) ∧ (∀ l : List Token, plainL (l.map eToken) = true) ∧ (∀ l : List Token, closedL (l.map eToken) = true) ∧
    (∀ l : List Int, eraseL (l.map eInt) = l.map eInt) ∧ (∀ l : List Int, deadL (l.map eInt) = l.map eInt) ∧ (∀ l : List Int, plainL (l.map eInt) = true) ∧ (∀ l : List Int, closedL (l.map eInt) = true) ∧
    (∀ l : List Bool, eraseL (l.map eBool) = l.map eBool) ∧ (∀ l : List Bool, deadL (l.map eBool) = l.map eBool) ∧ (∀ l : List Bool, plainL (l.map eBool) = true) ∧ (∀ l : List Bool, closedL (l.map eBool) = true) ∧
    (∀ l : List (List UInt8), eraseL (l.map eStr) = l.map eStr) ∧ (∀ l : List (List UInt8), deadL (l.map eStr) = l.map eStr) ∧ (∀ l : List (List UInt8), plainL (l.map eStr) = true) ∧ (∀ l : List (List UInt8), closedL (l.map eStr) = true) :=
  ⟨flSpan.eraseL, flSpan.deadL, flSpan.plainL, flSpan.closedL, flIns.eraseL, flIns.deadL, flIns.plainL, flIns.closedL, flToken.eraseL, flToken.deadL, flToken.plainL, flToken.closedL,
    flInt.eraseL, flInt.deadL, flInt.plainL, flInt.closedL, flBool.eraseL, flBool.deadL, flBool.plainL, flBool.closedL, flStr.eraseL, flStr.deadL, flStr.plainL, flStr.closedL⟩

/-! A list that is built from the front. -/
theorem build_get {α : Type} (f : α → AV) (z : AV) (p : List α) (i : Nat) (h : i < p.length) : ((p.take i).map f ++ List.replicate (p.length - i) z)[i]? = some z := by
  rw [List.getElem?_append_right (by simp; omega)]
  have h1 : i - ((p.take i).map f).length = 0 := by simp; omega
  rw [h1, show p.length - i = (p.length - (i + 1)) + 1 by omega, List.replicate_succ]
  rfl
theorem build_set {α : Type} (f : α → AV) (z : AV) (p : List α) (i : Nat) (h : i < p.length) : ((p.take i).map f ++ List.replicate (p.length - i) z).set i (f p[i]) = (p.take (i + 1)).map f ++ List.replicate (p.length - (i + 1)) z := by
  rw [List.set_append_right _ _ (by simp; omega)]
  have h1 : i - ((p.take i).map f).length = 0 := by simp; omega
  rw [h1, show p.length - i = (p.length - (i + 1)) + 1 by omega, List.replicate_succ, List.set_cons_zero, List.take_succ_eq_append_getElem h, List.map_append, List.append_assoc]
  rfl
theorem build_len {α : Type} (f : α → AV) (z : AV) (p : List α) (i : Nat) (h : i ≤ p.length) : ((p.take i).map f ++ List.replicate (p.length - i) z).length = p.length := by simp; omega
/-! A list that is turned from the front. -/
theorem turn_get {α : Type} (A : List AV) (f : α → AV) (p : List α) (i : Nat) (hA : A.length = i) (h : i < p.length) : (A ++ (p.drop i).map f)[i]? = some (f p[i]) := by
  rw [List.getElem?_append_right (by omega), hA, Nat.sub_self]; simp [h]
theorem turn_set {α : Type} (A : List AV) (f : α → AV) (p : List α) (i : Nat) (y : AV) (hA : A.length = i) (h : i < p.length) : (A ++ (p.drop i).map f).set i y = A ++ [y] ++ (p.drop (i + 1)).map f := by
  rw [List.set_append_right _ _ (by omega), hA, Nat.sub_self, List.drop_eq_getElem_cons h, List.map_cons, List.set_cons_zero, List.append_assoc]
  rfl
/-- A place where one can go on. -/
def doorB (p : List Ins) (i : Nat) : Bool := match p[i]? with
  | some x => x.op == 2 || (x.op == 1 && (match p[i + 1]? with | some y => y.op == 2 | none => false))
  | none => false
def doorI (p : List Ins) (i : Int) : Bool := decide (0 ≤ i) && doorB p i.toNat
def insB (p : List Ins) (i : Nat) : Bool := match p[i]? with
  | some x => (x.op == 1 && (decide (0 ≤ x.a ∧ x.a ≤ 4 ∧ x.b = 0 ∧ x.to = 0) && doorB p i)) || ((x.op == 2 || x.op == 4) && decide (x.a = 0 ∧ x.b = 0 ∧ x.to = 0)) ||
      (x.op == 3 && (decide (0 ≤ x.a ∧ x.a ≤ x.b ∧ x.b ≤ 255) && doorI p x.to))
  | none => false
def lastB (p : List Ins) : Bool := match p.getLast? with | some x => x.op == 4 | none => false
def progB (p : List Ins) : Bool := decide (1 ≤ p.length ∧ p.length ≤ 1500) && (doorB p 0 && (lastB p && (List.range p.length).all (insB p)))
theorem doorB_lt {p : List Ins} {i : Nat} (h : doorB p i = true) : i < p.length := by
  unfold doorB at h
  split at h
  · rename_i x e; exact (List.getElem?_eq_some_iff.1 e).1
  · cases h
theorem doorB_at {p : List Ins} {i : Nat} (h : i < p.length) : doorB p i = (p[i].op == 2 || (p[i].op == 1 && (match p[i + 1]? with | some y => y.op == 2 | none => false))) := by
  simp [doorB, h]
theorem insB_at {p : List Ins} {i : Nat} (h : i < p.length) : insB p i = ((p[i].op == 1 && (decide (0 ≤ p[i].a ∧ p[i].a ≤ 4 ∧ p[i].b = 0 ∧ p[i].to = 0) && doorB p i)) || ((p[i].op == 2 || p[i].op == 4) && decide (p[i].a = 0 ∧ p[i].b = 0 ∧ p[i].to = 0)) ||
      (p[i].op == 3 && (decide (0 ≤ p[i].a ∧ p[i].a ≤ p[i].b ∧ p[i].b ≤ 255) && doorI p p[i].to))) := by
  simp [insB, h]
theorem doorI_out {p : List Ins} {i : Int} (h : ¬ (0 ≤ i ∧ i < p.length)) : doorI p i = false := by
  unfold doorI
  by_cases h0 : 0 ≤ i
  · have : p.length ≤ i.toNat := by omega
    simp [doorB, List.getElem?_eq_none this]
  · simp [h0]
theorem lastB_at {p : List Ins} (h : 0 < p.length) : lastB p = (p[p.length - 1].op == 4) := by
  have h1 : p.length - 1 < p.length := by omega
  simp [lastB, List.getLast?_eq_getElem?, h1]

theorem progB_false1 {p : List Ins} (h : ¬ (1 ≤ (p.length : Int) ∧ (p.length : Int) ≤ 1500)) : progB p = false := by
  have : ¬ (1 ≤ p.length ∧ p.length ≤ 1500) := by omega
  simp only [progB, this, decide_false, Bool.false_and]
theorem progB_false2 {p : List Ins} (h : doorB p 0 = false) : progB p = false := by simp [progB, h]
theorem progB_false3 {p : List Ins} (h : lastB p = false) : progB p = false := by simp [progB, h]
theorem progB_false4 {p : List Ins} {i : Nat} (hi : i < p.length) (h : insB p i = false) : progB p = false := by
  have : (List.range p.length).all (insB p) = false := by
    rw [List.all_eq_false]; exact ⟨i, by simpa using hi, by simp [h]⟩
  simp [progB, this]
theorem progB_true {p : List Ins} (h1 : 1 ≤ (p.length : Int) ∧ (p.length : Int) ≤ 1500) (h2 : doorB p 0 = true) (h3 : lastB p = true) (h4 : ∀ i, i < p.length → insB p i = true) : progB p = true := by
  have : (1 ≤ p.length ∧ p.length ≤ 1500) := by omega
  simp only [progB, this, h2, h3, Bool.and_eq_true, decide_true, Bool.true_and]
  simpa using h4
theorem doorI_zero (p : List Ins) : doorI p 0 = doorB p 0 := by simp [doorI]
theorem doorI_nat (p : List Ins) (i : Nat) : doorI p (i : Int) = doorB p i := by simp [doorI]
theorem progB_len {p : List Ins} (h : progB p = true) : 1 ≤ p.length ∧ p.length ≤ 1500 := by
  simp only [progB, Bool.and_eq_true, decide_eq_true_eq] at h; exact h.1
structure Feed where
  prog : List Ins
  buf : List UInt8
  base : Int
  pc : Int
  at_ : Int
  rule : Int
  to : Int
  out : List Token
  stuck : Bool
  deriving DecidableEq
def eFeed (o : Bool) (f : Feed) : AV := .agg [.sl o 4 (f.prog.map eIns), .str f.buf, .int .i64 f.base, .int .i64 f.pc, .int .i64 f.at_, .int .i64 f.rule, .int .i64 f.to, .sl o 3 (f.out.map eToken), .bool f.stuck]
/-- The tokens follow one another: where they end. -/
def outEnd : List Token → Int → Option Int
  | [], e => some e
  | t :: r, e => if t.frm = e ∧ e < t.to ∧ 0 ≤ t.rule ∧ t.rule ≤ 4 then outEnd r t.to else none
def feedB (f : Feed) : Bool := progB f.prog && (decide (0 ≤ f.base ∧ f.base + f.buf.length ≤ 200) && (doorI f.prog f.pc && (decide (0 ≤ f.at_ ∧ f.at_ ≤ f.buf.length ∧ (f.at_ = 0 → f.pc = 0) ∧ 0 ≤ f.to ∧ f.to ≤ f.at_ ∧ -1 ≤ f.rule ∧ f.rule ≤ 4 ∧ (f.rule = -1 ↔ f.to = 0)) && outEnd f.out 0 == some f.base)))
theorem outEnd_app (a : List Token) (t : Token) (e : Int) : outEnd (a ++ [t]) e = (match outEnd a e with | some e' => outEnd [t] e' | none => none) := by
  induction a generalizing e with
  | nil => rfl
  | cons x a ih =>
    simp only [List.cons_append, outEnd]
    split
    · exact ih _
    · rfl
theorem outEnd_take {l : List Token} {i : Nat} {e e' : Int} (h : i < l.length) (h1 : outEnd (l.take i) e = some e') (h2 : l[i].frm = e' ∧ e' < l[i].to ∧ 0 ≤ l[i].rule ∧ l[i].rule ≤ 4) : outEnd (l.take (i + 1)) e = some l[i].to := by
  rw [List.take_succ_eq_append_getElem h, outEnd_app, h1]
  simp [outEnd, h2]
theorem outEnd_fail {l : List Token} {i : Nat} {e e' : Int} (h : i < l.length) (h1 : outEnd (l.take i) e = some e') (h2 : ¬ (l[i].frm = e' ∧ e' < l[i].to ∧ 0 ≤ l[i].rule ∧ l[i].rule ≤ 4)) : outEnd l e = none := by
  have : l = l.take i ++ l[i] :: l.drop (i + 1) := by rw [← List.drop_eq_getElem_cons h, List.take_append_drop]
  rw [this]
  generalize l.take i = a at h1
  generalize l[i] = x at h2
  induction a generalizing e with
  | nil =>
    simp only [outEnd, Option.some.injEq] at h1; subst h1
    simp only [List.nil_append, outEnd]
    rw [if_neg h2]
  | cons y a ih =>
    simp only [List.cons_append, outEnd] at h1 ⊢
    split
    · rename_i hy; rw [if_pos hy] at h1; exact ih h1
    · rfl
theorem progB_parts {p : List Ins} (h : progB p = true) : (1 ≤ p.length ∧ p.length ≤ 1500) ∧ doorB p 0 = true ∧ lastB p = true ∧ ∀ i, i < p.length → insB p i = true := by
  unfold progB at h
  simp only [Bool.and_eq_true, decide_eq_true_eq, List.all_eq_true, List.mem_range] at h
  exact ⟨h.1, h.2.1, h.2.2.1, h.2.2.2⟩
/-- Where one goes from the instructions behind a get, with a byte. -/
def goesP (p : List Ins) (b : Int) : Nat → Nat → Int
  | 0, _ => -1
  | n + 1, at_ => match p[at_]? with
    | some x => if x.op = 3 then (if x.a ≤ b ∧ b ≤ x.b then x.to else goesP p b n (at_ + 1)) else if doorB p at_ = true then at_ else -1
    | none => -1
def getP (f : Feed) : Nat := match f.prog[f.pc.toNat]? with | some x => if x.op = 1 then f.pc.toNat + 1 else f.pc.toNat | none => 0
def markF (f : Feed) : Feed := match f.prog[f.pc.toNat]? with | some x => if x.op = 1 ∧ 0 < f.at_ then { f with rule := x.a, to := f.at_ } else f | none => f
def cutF (f : Feed) : Feed := if f.rule = -1 then { f with stuck := true } else
  { f with out := f.out ++ [⟨f.rule, f.base, f.base + f.to⟩], base := f.base + f.to, buf := f.buf.drop f.to.toNat, pc := 0, at_ := 0, to := 0, rule := -1 }
def byteF (f : Feed) : Int := ((f.buf.getD f.at_.toNat 0).toNat : Int)
def toF (f : Feed) : Int := goesP f.prog (byteF f) f.prog.length (getP f + 1)
/-- On by a byte. -/
def stepF (f : Feed) : Feed := if toF f < 0 then cutF (markF f) else { markF f with at_ := f.at_ + 1, pc := toF f }
def runF : Nat → Feed → Feed
  | 0, f => f
  | n + 1, f => if f.stuck = true then f else if (f.buf.length : Int) ≤ f.at_ then markF f else runF n (stepF f)
/-- What holds in between. -/
structure FI (f : Feed) : Prop where
  prog : progB f.prog = true
  door : doorI f.prog f.pc = true
  at1 : 0 ≤ f.at_ ∧ f.at_ ≤ f.buf.length
  to1 : 0 ≤ f.to ∧ f.to ≤ f.at_
  rule : -1 ≤ f.rule ∧ f.rule ≤ 4
  rt : f.rule = -1 ↔ f.to = 0
  base : 0 ≤ f.base ∧ f.base + f.buf.length ≤ 200
  out : (f.out.length : Int) ≤ f.base
theorem doorI_at {p : List Ins} {i : Int} (h : doorI p i = true) : 0 ≤ i ∧ i < p.length ∧ doorB p i.toNat = true := by
  unfold doorI at h
  simp only [Bool.and_eq_true, decide_eq_true_eq] at h
  have := doorB_lt h.2
  exact ⟨h.1, by omega, h.2⟩
theorem last_stop {p : List Ins} (h : progB p = true) {i : Nat} (hi : i < p.length) (h3 : p[i].op ≠ 4) : i + 1 < p.length := by
  obtain ⟨h1, _, hl, _⟩ := progB_parts h
  rw [lastB_at (by omega)] at hl
  by_cases hh : i + 1 < p.length
  · exact hh
  · have : i = p.length - 1 := by omega
    subst this
    exact absurd (by simpa using hl) h3
theorem FI.pc {f : Feed} (h : FI f) : 0 ≤ f.pc ∧ f.pc < f.prog.length := by
  have := doorI_at h.door
  exact ⟨this.1, this.2.1⟩
theorem FI.get {f : Feed} (h : FI f) : ∃ hp : f.pc.toNat < f.prog.length, (f.prog[f.pc.toNat].op = 1 ∧ getP f = f.pc.toNat + 1 ∧ (∃ hq : f.pc.toNat + 1 < f.prog.length, f.prog[f.pc.toNat + 1].op = 2) ∧ 0 ≤ f.prog[f.pc.toNat].a ∧ f.prog[f.pc.toNat].a ≤ 4) ∨ (f.prog[f.pc.toNat].op = 2 ∧ getP f = f.pc.toNat) := by
  obtain ⟨h1, h2, h3⟩ := doorI_at h.door
  have hp : f.pc.toNat < f.prog.length := by omega
  refine ⟨hp, ?_⟩
  have hi := (progB_parts h.prog).2.2.2 _ hp
  rw [doorB_at hp] at h3
  rw [insB_at hp] at hi
  by_cases e1 : f.prog[f.pc.toNat].op = 1
  · left
    simp only [e1, beq_self_eq_true, Bool.true_and, show ((1 : Int) == 2) = false from rfl, Bool.false_or, show ((1 : Int) == 4) = false from rfl, show ((1 : Int) == 3) = false from rfl, Bool.false_and, Bool.or_false, Bool.and_eq_true, decide_eq_true_eq] at h3 hi
    refine ⟨e1, ?_, ?_, hi.1.1, hi.1.2.1⟩
    · unfold getP; rw [List.getElem?_eq_getElem hp]; simp [e1]
    · split at h3
      · rename_i y hy
        obtain ⟨hq, hy⟩ := List.getElem?_eq_some_iff.1 hy
        exact ⟨hq, by rw [hy]; simpa using h3⟩
      · cases h3
  · right
    have e2 : f.prog[f.pc.toNat].op = 2 := by
      have : (f.prog[f.pc.toNat].op == 1) = false := by simp [e1]
      rw [this] at h3
      simpa using h3
    refine ⟨e2, ?_⟩
    unfold getP; rw [List.getElem?_eq_getElem hp]; simp [e1]
theorem FI.get1 {f : Feed} (h : FI f) : getP f + 1 < f.prog.length := by
  obtain ⟨hp, h⟩ := h.get
  rename_i h0
  rcases h with ⟨_, e, ⟨hq, e2⟩, _⟩ | ⟨e2, e⟩
  · rw [e]; exact last_stop h0.prog hq (by rw [e2]; decide)
  · rw [e]; exact last_stop h0.prog hp (by rw [e2]; decide)
theorem goesP_at {p : List Ins} {b : Int} {n i : Nat} (hi : i < p.length) : goesP p b (n + 1) i = if p[i].op = 3 then (if p[i].a ≤ b ∧ b ≤ p[i].b then p[i].to else goesP p b n (i + 1)) else if doorB p i = true then (i : Int) else -1 := by
  rw [goesP, List.getElem?_eq_getElem hi]
theorem goesP_door {p : List Ins} (hp : progB p = true) {b : Int} : ∀ n i, i < p.length → goesP p b n i < 0 ∨ doorI p (goesP p b n i) = true
  | 0, i, hi => .inl (by rw [goesP]; decide)
  | n + 1, i, hi => by
    rw [goesP_at hi]
    have hin := (progB_parts hp).2.2.2 _ hi
    by_cases h3 : p[i].op = 3
    · rw [if_pos h3]
      by_cases hb : p[i].a ≤ b ∧ b ≤ p[i].b
      · rw [if_pos hb]
        right
        rw [insB_at hi] at hin
        simp only [h3, show ((3 : Int) == 1) = false from rfl, show ((3 : Int) == 2) = false from rfl, show ((3 : Int) == 4) = false from rfl, beq_self_eq_true, Bool.false_and, Bool.or_false, Bool.false_or, Bool.true_and, Bool.and_eq_true] at hin
        exact hin.2
      · rw [if_neg hb]
        exact goesP_door hp n (i + 1) (last_stop hp hi (by rw [h3]; decide))
    · rw [if_neg h3]
      by_cases hd : doorB p i = true
      · rw [if_pos hd]
        right
        unfold doorI
        simp [hd]
      · rw [if_neg hd]; exact .inl (by decide)
theorem markF_same (f : Feed) : (markF f).prog = f.prog ∧ (markF f).buf = f.buf ∧ (markF f).base = f.base ∧ (markF f).pc = f.pc ∧ (markF f).at_ = f.at_ ∧ (markF f).out = f.out ∧ (markF f).stuck = f.stuck := by
  unfold markF; split
  · split <;> simp
  · simp
theorem FI.mark {f : Feed} (h : FI f) : FI (markF f) := by
  obtain ⟨hp, hg⟩ := h.get
  unfold markF
  rw [List.getElem?_eq_getElem hp]
  simp only
  by_cases hc : f.prog[f.pc.toNat].op = 1 ∧ 0 < f.at_
  · rw [if_pos hc]
    rcases hg with ⟨_, _, _, a1, a2⟩ | ⟨e2, _⟩
    · exact ⟨h.prog, h.door, h.at1, ⟨by simp only; omega, by simp only; omega⟩, ⟨by simp only; omega, a2⟩, by simp only; constructor <;> intro <;> omega, h.base, h.out⟩
    · rw [hc.1] at e2; exact absurd e2 (by decide)
  · rw [if_neg hc]; exact h
theorem doorI_0 {p : List Ins} (h : progB p = true) : doorI p 0 = true := by
  have := (progB_parts h).2.1
  unfold doorI; simpa using this
theorem FI.cut {f : Feed} (h : FI f) : FI (cutF f) := by
  unfold cutF
  split
  · exact ⟨h.prog, h.door, h.at1, h.to1, h.rule, h.rt, h.base, h.out⟩
  · rename_i hr
    have ht : f.to ≠ 0 := fun e => hr (h.rt.2 e)
    have h1 := h.to1
    have h2 := h.at1
    have h3 := h.base
    have h4 := h.out
    refine ⟨h.prog, doorI_0 h.prog, ⟨by simp only; omega, by simp only; omega⟩, ⟨by simp only; omega, by simp only; omega⟩, ⟨by simp only; omega, by simp only; omega⟩, by simp, ⟨by simp only; omega, by simp only [List.length_drop]; omega⟩, by simp only [List.length_append, List.length_singleton]; omega⟩
theorem FI.step {f : Feed} (h : FI f) (hl : f.at_ < f.buf.length) : FI (stepF f) := by
  have hm := h.mark
  have hs := markF_same f
  unfold stepF
  split
  · exact hm.cut
  · rename_i ht
    have hd : doorI f.prog (toF f) = true := (goesP_door h.prog _ _ h.get1).resolve_left ht
    have h1 := hm.to1
    have h2 := h.at1
    rw [hs.2.2.2.2.1] at h1
    exact ⟨hm.prog, by simp only; rw [hs.1]; exact hd, ⟨by simp only; omega, by simp only; rw [hs.2.1]; omega⟩, ⟨by simp only; omega, by simp only; omega⟩, hm.rule, hm.rt, hm.base, hm.out⟩
/-- How much is still to be done. -/
def muF (f : Feed) : Nat := if f.stuck = true then 0 else f.buf.length * 300 + (f.buf.length - f.at_.toNat) + 1
theorem muF_step {f : Feed} (h : FI f) (hst : f.stuck = false) (hl : f.at_ < f.buf.length) : muF (stepF f) < muF f := by
  have hm := h.mark
  have hs := markF_same f
  have h2 := h.at1
  have h3 := h.base
  have e0 : muF f = f.buf.length * 300 + (f.buf.length - f.at_.toNat) + 1 := by unfold muF; rw [hst]; simp
  rw [e0]
  unfold stepF
  split
  · unfold cutF
    split
    · unfold muF; simp
    · rename_i hr
      have ht : (markF f).to ≠ 0 := fun e => hr (hm.rt.2 e)
      have h1 := hm.to1
      unfold muF
      simp only [hs.2.2.2.2.2.2, hst, Bool.false_eq_true, if_false, List.length_drop, hs.2.1]
      rw [hs.2.2.2.2.1] at h1
      have : (markF f).to.toNat ≤ f.buf.length := by omega
      have : 1 ≤ (markF f).to.toNat := by omega
      have : f.buf.length ≤ 200 := by omega
      simp only [Int.toNat_zero]
      omega
  · unfold muF
    simp only [hs.2.2.2.2.2.2, hst, Bool.false_eq_true, if_false, hs.2.1]
    omega
theorem runF_more {f : Feed} : ∀ n m, FI f → muF f ≤ n → n ≤ m → runF n f = runF m f := by
  intro n
  induction n generalizing f with
  | zero =>
    intro m h hn hm
    have hst : f.stuck = true := by
      cases hs : f.stuck with
      | true => rfl
      | false => unfold muF at hn; rw [hs] at hn; simp at hn
    cases m <;> simp [runF, hst]
  | succ n ih =>
    intro m h hn hm
    obtain ⟨m, rfl⟩ : ∃ k, m = k + 1 := ⟨m - 1, by omega⟩
    cases hs : f.stuck with
    | true => simp [runF, hs]
    | false =>
      by_cases hl : (f.buf.length : Int) ≤ f.at_
      · simp [runF, hs, hl]
      · simp only [runF, hs, Bool.false_eq_true, if_false, if_neg hl]
        have := muF_step h hs (by omega)
        exact ih m (h.step (by omega)) (by omega) (by omega)
/-- As far as there are bytes. -/
def goF (f : Feed) : Feed := runF (muF f) f
theorem goF_stuck {f : Feed} (h : f.stuck = true) : goF f = f := by
  unfold goF; cases muF f <;> simp [runF, h]
theorem goF_end {f : Feed} (h : f.stuck = false) (hl : (f.buf.length : Int) ≤ f.at_) : goF f = markF f := by
  unfold goF
  have : muF f = f.buf.length * 300 + (f.buf.length - f.at_.toNat) + 1 := by unfold muF; rw [h]; simp
  rw [this]; simp [runF, h, hl]
theorem goF_step {f : Feed} (hf : FI f) (h : f.stuck = false) (hl : f.at_ < f.buf.length) : goF f = goF (stepF f) := by
  have hm := muF_step hf h hl
  unfold goF
  obtain ⟨n, hn⟩ : ∃ k, muF f = k + 1 := ⟨muF f - 1, by omega⟩
  rw [hn]
  simp only [runF, h, Bool.false_eq_true, if_false]
  rw [if_neg (by omega)]
  exact (runF_more _ _ (hf.step hl) (Nat.le_refl _) (by omega)).symm
theorem goF_FI {f : Feed} (hf : FI f) : FI (goF f) := by
  unfold goF
  generalize muF f = n
  induction n generalizing f with
  | zero => exact hf
  | succ n ih =>
    unfold runF
    split
    · exact hf
    · split
      · exact hf.mark
      · exact ih (hf.step (by omega))
/-- impl.in -/
theorem fits_in (n l h : Int) : Fits prog 72 [.int .i64 n, .int .i64 l, .int .i64 h] (.bool (decide (l ≤ n ∧ n ≤ h))) [] := by
  refine fits_of_code [6] [] [0, 1, 2, 6] func72 rfl rfl rfl (by rfl) (by show 3 ≤ 15; decide) (by rfl) (by rfl) (by show 0 ≤ 3; decide) (by rfl) (run_of ?_)
  (simp -implicitDefEqProofs (maxSteps := 100000) (disch := first | (intros; contradiction) | omega) only [am0, am1, am2, am3, am4, am5, am6, am7, am8, am9, Nat.reduceSub, ↓reduceIte, reduceCtorEq, Nat.reduceEqDiff, Nat.reduceBEq, Nat.reduceAdd, Nat.reduceLT, Nat.reduceBNe, Nat.reduceMul, ↓reduceIte, tis]; (repeat' ((first | (refine Or.inl (And.intro (a := drawOk _ _ = true) (by kernel_rfl) ?_)) | (refine Or.inl (show drawOk _ _ = true from (by kernel_rfl))) | (refine cond_beq (fun _ => ?_) (fun _ => ?_)) | (refine cond_bne (fun _ => ?_) (fun _ => ?_)) | (refine cond_dec (fun _ => ?_) (fun _ => ?_)) | (refine cond_of (fun _ => ?_) (fun _ => ?_)) | (refine guard_beq (fun _ => ?_) (fun _ => ?_)) | (refine guard_bne (fun _ => ?_) (fun _ => ?_)) | (refine guard_dec (fun _ => ?_) (fun _ => ?_)) | (refine guard_of (fun _ => ?_) (fun _ => ?_)) | (refine guardD_beq (fun _ => ?_) (fun _ => ?_)) | (refine guardD_bne (fun _ => ?_) (fun _ => ?_)) | (refine guardD_dec (fun _ => ?_) (fun _ => ?_)) | (refine guardD_of (fun _ => ?_) (fun _ => ?_))) <;> (try simp -implicitDefEqProofs (maxSteps := 100000) (disch := first | (intros; contradiction) | omega) only [am0, am1, am2, am3, am4, am5, am6, am7, am8, am9, Nat.reduceSub, ↓reduceIte, reduceCtorEq, Nat.reduceEqDiff, Nat.reduceBEq, Nat.reduceAdd, Nat.reduceLT, Nat.reduceBNe, Nat.reduceMul, ↓reduceIte, tis]))))
  all_goals (simp_all)
/-- impl.door -/
theorem fits_door (p : List Ins) (i : Int) (hp : p.length ≤ 1099511627776) : Fits prog 154 [.sl false 4 (p.map eIns), .int .i64 i] (.bool (doorI p i)) [] := by
  refine fits_of_code [4] [] [0, 1, 4, 10] func154 rfl rfl rfl (by rfl) (by show 2 ≤ 41; decide) (by rfl) (by rfl) (by show 0 ≤ 2; decide) (by rfl) (run_of ?_)
  simp -implicitDefEqProofs (maxSteps := 100000) (disch := first | (intros; contradiction) | omega) only [am0, am1, am2, am3, am4, am5, am6, am7, am8, am9, Nat.reduceSub, ↓reduceIte, reduceCtorEq, Nat.reduceEqDiff, Nat.reduceBEq, Nat.reduceAdd, Nat.reduceLT, Nat.reduceBNe, Nat.reduceMul, ↓reduceIte, tis]
  refine callb_of (fits_in i 0 (p.length - 1)) (by simp -implicitDefEqProofs (maxSteps := 100000) (disch := first | (intros; contradiction) | omega) only [am0, am1, am2, am3, am4, am5, am6, am7, am8, am9, Nat.reduceSub, ↓reduceIte, reduceCtorEq, Nat.reduceEqDiff, Nat.reduceBEq, Nat.reduceAdd, Nat.reduceLT, Nat.reduceBNe, Nat.reduceMul, ↓reduceIte, tis]) (.inl rfl) rfl ?_
  by_cases hi : 0 ≤ i ∧ i < p.length
  case neg =>
    have h2 : ¬ (0 ≤ i ∧ i ≤ (p.length : Int) - 1) := by omega
    simp -implicitDefEqProofs (maxSteps := 100000) (disch := first | (intros; contradiction) | omega) only [am0, am1, am2, am3, am4, am5, am6, am7, am8, am9, Nat.reduceSub, ↓reduceIte, reduceCtorEq, Nat.reduceEqDiff, Nat.reduceBEq, Nat.reduceAdd, Nat.reduceLT, Nat.reduceBNe, Nat.reduceMul, ↓reduceIte, tis, h2, doorI_out hi]
  obtain ⟨j, rfl⟩ : ∃ j : Nat, i = j := ⟨i.toNat, by omega⟩
  have hj : j < p.length := by omega
  have h2 : (0 ≤ (j : Int) ∧ (j : Int) ≤ (p.length : Int) - 1) := by omega
  (simp -implicitDefEqProofs (maxSteps := 100000) (disch := first | (intros; contradiction) | omega) only [am0, am1, am2, am3, am4, am5, am6, am7, am8, am9, Nat.reduceSub, ↓reduceIte, reduceCtorEq, Nat.reduceEqDiff, Nat.reduceBEq, Nat.reduceAdd, Nat.reduceLT, Nat.reduceBNe, Nat.reduceMul, ↓reduceIte, tis, h2, eIns]; (repeat' ((first | (refine Or.inl (And.intro (a := drawOk _ _ = true) (by kernel_rfl) ?_)) | (refine Or.inl (show drawOk _ _ = true from (by kernel_rfl))) | (refine cond_beq (fun _ => ?_) (fun _ => ?_)) | (refine cond_bne (fun _ => ?_) (fun _ => ?_)) | (refine cond_dec (fun _ => ?_) (fun _ => ?_)) | (refine cond_of (fun _ => ?_) (fun _ => ?_)) | (refine guard_beq (fun _ => ?_) (fun _ => ?_)) | (refine guard_bne (fun _ => ?_) (fun _ => ?_)) | (refine guard_dec (fun _ => ?_) (fun _ => ?_)) | (refine guard_of (fun _ => ?_) (fun _ => ?_)) | (refine guardD_beq (fun _ => ?_) (fun _ => ?_)) | (refine guardD_bne (fun _ => ?_) (fun _ => ?_)) | (refine guardD_dec (fun _ => ?_) (fun _ => ?_)) | (refine guardD_of (fun _ => ?_) (fun _ => ?_))) <;> (try simp -implicitDefEqProofs (maxSteps := 100000) (disch := first | (intros; contradiction) | omega) only [am0, am1, am2, am3, am4, am5, am6, am7, am8, am9, Nat.reduceSub, ↓reduceIte, reduceCtorEq, Nat.reduceEqDiff, Nat.reduceBEq, Nat.reduceAdd, Nat.reduceLT, Nat.reduceBNe, Nat.reduceMul, ↓reduceIte, tis, h2, eIns]))))
  all_goals (have hq : j + 1 < p.length ∨ ¬ j + 1 < p.length := by omega)
  all_goals (rcases hq with hq | hq <;> first | omega | (simp_all [doorI, doorB_at hj]))

/-- impl.insOk -/
theorem fits_insOk (p : List Ins) (i : Nat) (hp : p.length ≤ 1099511627776) (hi : i < p.length) : Fits prog 155 [.sl false 4 (p.map eIns), .int .i64 i] (.bool (insB p i)) [] := by
  refine fits_of_code [4] [] [0, 1, 4, 5, 11, 12, 32, 48] func155 rfl rfl rfl (by rfl) (by show 2 ≤ 71; decide) (by rfl) (by rfl) (by show 0 ≤ 2; decide) (by rfl) (run_of ?_)
  (simp -implicitDefEqProofs (maxSteps := 100000) (disch := first | (intros; contradiction) | omega) only [am0, am1, am2, am3, am4, am5, am6, am7, am8, am9, Nat.reduceSub, ↓reduceIte, reduceCtorEq, Nat.reduceEqDiff, Nat.reduceBEq, Nat.reduceAdd, Nat.reduceLT, Nat.reduceBNe, Nat.reduceMul, ↓reduceIte, tis, eIns]; (repeat' ((first | (refine callb_of (fits_in _ _ _) (by simp -implicitDefEqProofs (maxSteps := 100000) (disch := first | (intros; contradiction) | omega) only [am0, am1, am2, am3, am4, am5, am6, am7, am8, am9, Nat.reduceSub, ↓reduceIte, reduceCtorEq, Nat.reduceEqDiff, Nat.reduceBEq, Nat.reduceAdd, Nat.reduceLT, Nat.reduceBNe, Nat.reduceMul, ↓reduceIte, tis, eIns]; (repeat' (first | rfl | constructor))) (by first | exact .inl rfl | (right; simp -implicitDefEqProofs (maxSteps := 100000) (disch := first | (intros; contradiction) | omega) only [am0, am1, am2, am3, am4, am5, am6, am7, am8, am9, Nat.reduceSub, ↓reduceIte, reduceCtorEq, Nat.reduceEqDiff, Nat.reduceBEq, Nat.reduceAdd, Nat.reduceLT, Nat.reduceBNe, Nat.reduceMul, ↓reduceIte, tis, eIns])) rfl ?_) | (refine call_of (fits_in _ _ _) (by simp -implicitDefEqProofs (maxSteps := 100000) (disch := first | (intros; contradiction) | omega) only [am0, am1, am2, am3, am4, am5, am6, am7, am8, am9, Nat.reduceSub, ↓reduceIte, reduceCtorEq, Nat.reduceEqDiff, Nat.reduceBEq, Nat.reduceAdd, Nat.reduceLT, Nat.reduceBNe, Nat.reduceMul, ↓reduceIte, tis, eIns]; (repeat' (first | rfl | constructor))) (by first | exact .inl rfl | (right; simp -implicitDefEqProofs (maxSteps := 100000) (disch := first | (intros; contradiction) | omega) only [am0, am1, am2, am3, am4, am5, am6, am7, am8, am9, Nat.reduceSub, ↓reduceIte, reduceCtorEq, Nat.reduceEqDiff, Nat.reduceBEq, Nat.reduceAdd, Nat.reduceLT, Nat.reduceBNe, Nat.reduceMul, ↓reduceIte, tis, eIns])) rfl ?_) | (refine callb_of (fits_door p _ hp) (by simp -implicitDefEqProofs (maxSteps := 100000) (disch := first | (intros; contradiction) | omega) only [am0, am1, am2, am3, am4, am5, am6, am7, am8, am9, Nat.reduceSub, ↓reduceIte, reduceCtorEq, Nat.reduceEqDiff, Nat.reduceBEq, Nat.reduceAdd, Nat.reduceLT, Nat.reduceBNe, Nat.reduceMul, ↓reduceIte, tis, eIns]; (repeat' (first | rfl | constructor))) (by first | exact .inl rfl | (right; simp -implicitDefEqProofs (maxSteps := 100000) (disch := first | (intros; contradiction) | omega) only [am0, am1, am2, am3, am4, am5, am6, am7, am8, am9, Nat.reduceSub, ↓reduceIte, reduceCtorEq, Nat.reduceEqDiff, Nat.reduceBEq, Nat.reduceAdd, Nat.reduceLT, Nat.reduceBNe, Nat.reduceMul, ↓reduceIte, tis, eIns])) rfl ?_) | (refine call_of (fits_door p _ hp) (by simp -implicitDefEqProofs (maxSteps := 100000) (disch := first | (intros; contradiction) | omega) only [am0, am1, am2, am3, am4, am5, am6, am7, am8, am9, Nat.reduceSub, ↓reduceIte, reduceCtorEq, Nat.reduceEqDiff, Nat.reduceBEq, Nat.reduceAdd, Nat.reduceLT, Nat.reduceBNe, Nat.reduceMul, ↓reduceIte, tis, eIns]; (repeat' (first | rfl | constructor))) (by first | exact .inl rfl | (right; simp -implicitDefEqProofs (maxSteps := 100000) (disch := first | (intros; contradiction) | omega) only [am0, am1, am2, am3, am4, am5, am6, am7, am8, am9, Nat.reduceSub, ↓reduceIte, reduceCtorEq, Nat.reduceEqDiff, Nat.reduceBEq, Nat.reduceAdd, Nat.reduceLT, Nat.reduceBNe, Nat.reduceMul, ↓reduceIte, tis, eIns])) rfl ?_) | (refine Or.inl (And.intro (a := drawOk _ _ = true) (by kernel_rfl) ?_)) | (refine Or.inl (show drawOk _ _ = true from (by kernel_rfl))) | (refine cond_beq (fun _ => ?_) (fun _ => ?_)) | (refine cond_bne (fun _ => ?_) (fun _ => ?_)) | (refine cond_dec (fun _ => ?_) (fun _ => ?_)) | (refine cond_of (fun _ => ?_) (fun _ => ?_)) | (refine guard_beq (fun _ => ?_) (fun _ => ?_)) | (refine guard_bne (fun _ => ?_) (fun _ => ?_)) | (refine guard_dec (fun _ => ?_) (fun _ => ?_)) | (refine guard_of (fun _ => ?_) (fun _ => ?_)) | (refine guardD_beq (fun _ => ?_) (fun _ => ?_)) | (refine guardD_bne (fun _ => ?_) (fun _ => ?_)) | (refine guardD_dec (fun _ => ?_) (fun _ => ?_)) | (refine guardD_of (fun _ => ?_) (fun _ => ?_))) <;> (try simp -implicitDefEqProofs (maxSteps := 100000) (disch := first | (intros; contradiction) | omega) only [am0, am1, am2, am3, am4, am5, am6, am7, am8, am9, Nat.reduceSub, ↓reduceIte, reduceCtorEq, Nat.reduceEqDiff, Nat.reduceBEq, Nat.reduceAdd, Nat.reduceLT, Nat.reduceBNe, Nat.reduceMul, ↓reduceIte, tis, eIns]))))
  all_goals (simp_all [insB_at hi])
  all_goals first | (intros; omega) | grind [doorI]
/-- impl.goes -/
theorem fits_goes (f : Feed) (hp : progB f.prog = true) (i0 : Nat) (h0 : i0 + 1 < f.prog.length) (b : Int) : Fits prog 158 [.dptr (eFeed false f), .int .i64 i0, .int .i64 b] (.int .i64 (goesP f.prog b f.prog.length (i0 + 1))) [] := by
  have hl := (progB_parts hp).1
  unfold eFeed
  refine fits_of_code [6] [] [0, 1, 2, 6, 7, 18, 36, 52] func158 rfl rfl rfl (by rfl) (by show 3 ≤ 54; decide) (by rfl) (by rfl) (by show 0 ≤ 3; decide) (by rfl) (run_of ?_)
  simp -implicitDefEqProofs (maxSteps := 100000) (disch := first | (intros; contradiction) | omega) only [am0, am1, am2, am3, am4, am5, am6, am7, am8, am9, Nat.reduceSub, ↓reduceIte, reduceCtorEq, Nat.reduceEqDiff, Nat.reduceBEq, Nat.reduceAdd, Nat.reduceLT, Nat.reduceBNe, Nat.reduceMul, ↓reduceIte, tis, fls]
  refine run_loop (α := Nat × Nat) (fun g => goesP f.prog b f.prog.length (i0 + 1) = goesP f.prog b g.1 g.2 ∧ g.2 < f.prog.length ∧ f.prog.length ≤ g.1 + g.2) (fun g => [(0, .dptr (.agg [.sl false 4 (f.prog.map eIns), .str f.buf, .int .i64 f.base, .int .i64 f.pc, .int .i64 f.at_, .int .i64 f.rule, .int .i64 f.to, .sl false 3 (f.out.map eToken), .bool f.stuck])), (2, .int .i64 b), (7, .int .i64 g.2)]) (fun g => f.prog.length - g.2) (f.prog.length, i0 + 1) ⟨rfl, h0, by simp only; omega⟩ ?_ ?_
  · simp -implicitDefEqProofs (maxSteps := 100000) (disch := first | (intros; contradiction) | omega) only [am0, am1, am2, am3, am4, am5, am6, am7, am8, am9, Nat.reduceSub, ↓reduceIte, reduceCtorEq, Nat.reduceEqDiff, Nat.reduceBEq, Nat.reduceAdd, Nat.reduceLT, Nat.reduceBNe, Nat.reduceMul, ↓reduceIte, tis]
  · rintro ⟨m, i⟩ ⟨h1, h2, h3⟩
    simp only at h1 h2 h3
    obtain ⟨m, rfl⟩ : ∃ k, m = k + 1 := ⟨m - 1, by omega⟩
    rw [goesP_at h2] at h1
    by_cases h5 : f.prog[i].op = 3
    · rw [if_pos h5] at h1
      have hn := last_stop hp h2 (by rw [h5]; decide)
      simp -implicitDefEqProofs (maxSteps := 100000) (disch := first | (intros; contradiction) | omega) only [am0, am1, am2, am3, am4, am5, am6, am7, am8, am9, Nat.reduceSub, ↓reduceIte, reduceCtorEq, Nat.reduceEqDiff, Nat.reduceBEq, Nat.reduceAdd, Nat.reduceLT, Nat.reduceBNe, Nat.reduceMul, ↓reduceIte, tis, fls, eIns, h5]
      refine .inl ⟨by kernel_rfl, ?_⟩
      refine callL (fits_in b f.prog[i].a f.prog[i].b) ?_
      by_cases h6 : f.prog[i].a ≤ b ∧ b ≤ f.prog[i].b
      · rw [if_pos h6] at h1
        simp -implicitDefEqProofs (maxSteps := 100000) (disch := first | (intros; contradiction) | omega) only [am0, am1, am2, am3, am4, am5, am6, am7, am8, am9, Nat.reduceSub, ↓reduceIte, reduceCtorEq, Nat.reduceEqDiff, Nat.reduceBEq, Nat.reduceAdd, Nat.reduceLT, Nat.reduceBNe, Nat.reduceMul, ↓reduceIte, tis, fls, eIns, h5, h6, h1]
      · rw [if_neg h6] at h1
        simp -implicitDefEqProofs (maxSteps := 100000) (disch := first | (intros; contradiction) | omega) only [am0, am1, am2, am3, am4, am5, am6, am7, am8, am9, Nat.reduceSub, ↓reduceIte, reduceCtorEq, Nat.reduceEqDiff, Nat.reduceBEq, Nat.reduceAdd, Nat.reduceLT, Nat.reduceBNe, Nat.reduceMul, ↓reduceIte, tis, fls, eIns, h5, h6]
        refine round_normal (m, i + 1) ⟨h1, hn, by simp only; omega⟩ ?_ (by show f.prog.length - (i + 1) < f.prog.length - i; omega)
        simp -implicitDefEqProofs (maxSteps := 100000) (disch := first | (intros; contradiction) | omega) only [am0, am1, am2, am3, am4, am5, am6, am7, am8, am9, Nat.reduceSub, ↓reduceIte, reduceCtorEq, Nat.reduceEqDiff, Nat.reduceBEq, Nat.reduceAdd, Nat.reduceLT, Nat.reduceBNe, Nat.reduceMul, ↓reduceIte, tis]
    · rw [if_neg h5] at h1
      have cD := fits_door f.prog i (by omega)
      rw [doorI_nat] at cD
      simp -implicitDefEqProofs (maxSteps := 100000) (disch := first | (intros; contradiction) | omega) only [am0, am1, am2, am3, am4, am5, am6, am7, am8, am9, Nat.reduceSub, ↓reduceIte, reduceCtorEq, Nat.reduceEqDiff, Nat.reduceBEq, Nat.reduceAdd, Nat.reduceLT, Nat.reduceBNe, Nat.reduceMul, ↓reduceIte, tis, fls, eIns, h5]
      refine callB cD ?_
      cases hd : doorB f.prog i with
      | true =>
        rw [if_pos hd] at h1
        simp -implicitDefEqProofs (maxSteps := 100000) (disch := first | (intros; contradiction) | omega) only [am0, am1, am2, am3, am4, am5, am6, am7, am8, am9, Nat.reduceSub, ↓reduceIte, reduceCtorEq, Nat.reduceEqDiff, Nat.reduceBEq, Nat.reduceAdd, Nat.reduceLT, Nat.reduceBNe, Nat.reduceMul, ↓reduceIte, tis, fls, h1]
      | false =>
        rw [if_neg (by simp [hd])] at h1
        simp -implicitDefEqProofs (maxSteps := 100000) (disch := first | (intros; contradiction) | omega) only [am0, am1, am2, am3, am4, am5, am6, am7, am8, am9, Nat.reduceSub, ↓reduceIte, reduceCtorEq, Nat.reduceEqDiff, Nat.reduceBEq, Nat.reduceAdd, Nat.reduceLT, Nat.reduceBNe, Nat.reduceMul, ↓reduceIte, tis, fls, h1]
/-- impl.cuts -/
theorem fits_cuts (f : Feed) (h : FI f) : Fits prog 117 [.box (eFeed true f)] (.tup []) [.box (eFeed true (cutF f))] := by
  have hb := h.base
  have ho := h.out
  have h1 := h.to1
  have h2 := h.at1
  unfold eFeed
  by_cases hr : f.rule = -1
  · have e : cutF f = { f with stuck := true } := if_pos hr
    rw [e]
    refine fits_of_code [] [0] [0, 6] func117 rfl rfl rfl (by rfl) (by show 1 ≤ 72; decide) (by rfl) (by rfl) (by show 1 ≤ 1; decide) (by rfl) (run_of ?_)
    simp -implicitDefEqProofs (maxSteps := 100000) (disch := first | (intros; contradiction) | omega) only [am0, am1, am2, am3, am4, am5, am6, am7, am8, am9, Nat.reduceSub, ↓reduceIte, reduceCtorEq, Nat.reduceEqDiff, Nat.reduceBEq, Nat.reduceAdd, Nat.reduceLT, Nat.reduceBNe, Nat.reduceMul, ↓reduceIte, tis, fls, hr]
  · have e : cutF f = { f with out := f.out ++ [⟨f.rule, f.base, f.base + f.to⟩], base := f.base + f.to, buf := f.buf.drop f.to.toNat, pc := 0, at_ := 0, to := 0, rule := -1 } := if_neg hr
    rw [e]
    refine fits_of_code [] [0] [0, 6] func117 rfl rfl rfl (by rfl) (by show 1 ≤ 72; decide) (by rfl) (by rfl) (by show 1 ≤ 1; decide) (by rfl) (run_of ?_)
    simp -implicitDefEqProofs (maxSteps := 100000) (disch := first | (intros; contradiction) | omega) only [am0, am1, am2, am3, am4, am5, am6, am7, am8, am9, Nat.reduceSub, ↓reduceIte, reduceCtorEq, Nat.reduceEqDiff, Nat.reduceBEq, Nat.reduceAdd, Nat.reduceLT, Nat.reduceBNe, Nat.reduceMul, ↓reduceIte, tis, fls, hr]
    refine .inr (run_late 24 [[0], []] (by kernel_rfl) ?_)
    simp -implicitDefEqProofs (maxSteps := 100000) (disch := first | (intros; contradiction) | omega) only [am0, am1, am2, am3, am4, am5, am6, am7, am8, am9, Nat.reduceSub, ↓reduceIte, reduceCtorEq, Nat.reduceEqDiff, Nat.reduceBEq, Nat.reduceAdd, Nat.reduceLT, Nat.reduceBNe, Nat.reduceMul, ↓reduceIte, tis, fls, hr, List.take_length]
    refine .inl ⟨by kernel_rfl, ?_⟩
    refine .inl ⟨by kernel_rfl, ?_⟩
    simp [eToken]
theorem markF_1 {f : Feed} {x : Ins} (hx : f.prog[f.pc.toNat]? = some x) (h : x.op = 1) (h0 : 0 < f.at_) : markF f = { f with rule := x.a, to := f.at_ } := by unfold markF; rw [hx]; simp [h, h0]
theorem markF_2 {f : Feed} {x : Ins} (hx : f.prog[f.pc.toNat]? = some x) (h : ¬ (x.op = 1 ∧ 0 < f.at_)) : markF f = f := by unfold markF; rw [hx]; simp only; rw [if_neg h]
theorem stepF_1 {f : Feed} (h : toF f < 0) : stepF f = cutF (markF f) := if_pos h
theorem stepF_2 {f : Feed} (h : ¬ toF f < 0) : stepF f = { markF f with at_ := f.at_ + 1, pc := toF f } := if_neg h
/-- impl.goOn -/
theorem fits_goOn (f : Feed) (hf : FI f) : Fits prog 116 [.box (eFeed true f)] (.tup []) [.box (eFeed true (goF f))] := by
  unfold eFeed
  refine fits_of_code [] [0] [0, 2, 3, 8, 24, 31, 62, 77] func116 rfl rfl rfl (by rfl) (by show 1 ≤ 91; decide) (by rfl) (by rfl) (by show 1 ≤ 1; decide) (by rfl) (run_of ?_)
  simp -implicitDefEqProofs (maxSteps := 100000) (disch := first | (intros; contradiction) | omega) only [am0, am1, am2, am3, am4, am5, am6, am7, am8, am9, Nat.reduceSub, ↓reduceIte, reduceCtorEq, Nat.reduceEqDiff, Nat.reduceBEq, Nat.reduceAdd, Nat.reduceLT, Nat.reduceBNe, Nat.reduceMul, ↓reduceIte, tis, fls]
  refine run_loop (α := Feed) (fun g => FI g ∧ goF f = goF g) (fun g => [(0, .box (.agg [.sl true 4 (g.prog.map eIns), .str g.buf, .int .i64 g.base, .int .i64 g.pc, .int .i64 g.at_, .int .i64 g.rule, .int .i64 g.to, .sl true 3 (g.out.map eToken), .bool g.stuck]))]) muF f ⟨hf, rfl⟩ ?_ ?_
  · simp -implicitDefEqProofs (maxSteps := 100000) (disch := first | (intros; contradiction) | omega) only [am0, am1, am2, am3, am4, am5, am6, am7, am8, am9, Nat.reduceSub, ↓reduceIte, reduceCtorEq, Nat.reduceEqDiff, Nat.reduceBEq, Nat.reduceAdd, Nat.reduceLT, Nat.reduceBNe, Nat.reduceMul, ↓reduceIte, tis]
  · rintro g ⟨hg, hgo⟩
    cases hs : g.stuck with
    | true =>
      rw [goF_stuck hs] at hgo
      rw [hgo]
      simp -implicitDefEqProofs (maxSteps := 100000) (disch := first | (intros; contradiction) | omega) only [am0, am1, am2, am3, am4, am5, am6, am7, am8, am9, Nat.reduceSub, ↓reduceIte, reduceCtorEq, Nat.reduceEqDiff, Nat.reduceBEq, Nat.reduceAdd, Nat.reduceLT, Nat.reduceBNe, Nat.reduceMul, ↓reduceIte, tis, fls, hs]
    | false =>
      obtain ⟨hp, hget⟩ := hg.get
      have hpc := hg.pc
      have hat := hg.at1
      have hba := hg.base
      have hout := hg.out
      have hlen := (progB_parts hg.prog).1
      have h1 := hg.get1
      have hx : g.prog[g.pc.toNat]? = some g.prog[g.pc.toNat] := List.getElem?_eq_getElem hp
      have hm := hg.mark
      have hms := markF_same g
      have gx : (g.prog.map eIns)[g.pc.toNat]? = some (eIns g.prog[g.pc.toNat]) := by rw [List.getElem?_map, hx]; rfl
      have gl : (g.prog.map eIns).length = g.prog.length := by simp
      simp only [eIns] at gx
      rcases hget with ⟨e1, eg, ⟨hq, _⟩, _⟩ | ⟨e2, eg⟩
      · have egi : ((getP g : Nat) : Int) = g.pc + 1 := by rw [eg]; omega
        by_cases h0 : 0 < g.at_
        · have em := markF_1 hx e1 h0
          by_cases hl : (g.buf.length : Int) ≤ g.at_
          · rw [goF_end hs hl, em] at hgo
            rw [hgo]
            simp -implicitDefEqProofs (maxSteps := 100000) (disch := first | (intros; contradiction) | omega) only [am0, am1, am2, am3, am4, am5, am6, am7, am8, am9, Nat.reduceSub, ↓reduceIte, reduceCtorEq, Nat.reduceEqDiff, Nat.reduceBEq, Nat.reduceAdd, Nat.reduceLT, Nat.reduceBNe, Nat.reduceMul, ↓reduceIte, tis, fls, hs, gx, gl, e1, h0, hl]
            refine .inl ⟨by kernel_rfl, ?_⟩
            refine .inl ⟨by kernel_rfl, ?_⟩
            refine .inl ?_
            show _ = _
            kernel_rfl
          · have hb2 : g.at_.toNat < g.buf.length := by omega
            have hby : byteF g = ((g.buf.getD g.at_.toNat 0).toNat : Int) := rfl
            have hlt : (g.buf.getD g.at_.toNat 0).toNat < 256 := (g.buf.getD g.at_.toNat 0).toNat_lt
            have hgo2 : goF f = goF (stepF g) := by rw [hgo]; exact goF_step hg hs (by omega)
            have hst := hg.step (by omega : g.at_ < g.buf.length)
            have hmu := muF_step hg hs (by omega : g.at_ < g.buf.length)
            have cG := fits_goes (markF g) hm.prog (getP g) (by rw [hms.1]; exact h1) (byteF g)
            have cC := fits_cuts (markF g) hm
            have htF : goesP (markF g).prog (byteF g) (markF g).prog.length (getP g + 1) = toF g := by rw [hms.1]; rfl
            rw [htF] at cG
            by_cases ht : toF g < 0
            · rw [stepF_1 ht] at hst hgo2 hmu
              generalize cutF (markF g) = c at *
              rw [em] at cG cC
              simp only [eFeed, egi, hby, hs] at cG cC
              simp -implicitDefEqProofs (maxSteps := 100000) (disch := first | (intros; contradiction) | omega) only [am0, am1, am2, am3, am4, am5, am6, am7, am8, am9, Nat.reduceSub, ↓reduceIte, reduceCtorEq, Nat.reduceEqDiff, Nat.reduceBEq, Nat.reduceAdd, Nat.reduceLT, Nat.reduceBNe, Nat.reduceMul, ↓reduceIte, tis, fls, hs, gx, gl, e1, h0, hl]
              refine .inl ⟨by kernel_rfl, ?_⟩
              refine .inl ⟨by kernel_rfl, ?_⟩
              refine .inl ⟨by kernel_rfl, ?_⟩
              refine .inl ⟨by kernel_rfl, ?_⟩
              refine callL cG ?_
              simp -implicitDefEqProofs (maxSteps := 100000) (disch := first | (intros; contradiction) | omega) only [am0, am1, am2, am3, am4, am5, am6, am7, am8, am9, Nat.reduceSub, ↓reduceIte, reduceCtorEq, Nat.reduceEqDiff, Nat.reduceBEq, Nat.reduceAdd, Nat.reduceLT, Nat.reduceBNe, Nat.reduceMul, ↓reduceIte, tis, fls, hs, ht]
              refine callM 0 cC ?_
              simp -implicitDefEqProofs (maxSteps := 100000) (disch := first | (intros; contradiction) | omega) only [am0, am1, am2, am3, am4, am5, am6, am7, am8, am9, Nat.reduceSub, ↓reduceIte, reduceCtorEq, Nat.reduceEqDiff, Nat.reduceBEq, Nat.reduceAdd, Nat.reduceLT, Nat.reduceBNe, Nat.reduceMul, ↓reduceIte, tis, fls, List.dropLast_singleton]
              refine round_normal _ ⟨hst, hgo2⟩ ?_ hmu
              simp -implicitDefEqProofs (maxSteps := 100000) (disch := first | (intros; contradiction) | omega) only [am0, am1, am2, am3, am4, am5, am6, am7, am8, am9, Nat.reduceSub, ↓reduceIte, reduceCtorEq, Nat.reduceEqDiff, Nat.reduceBEq, Nat.reduceAdd, Nat.reduceLT, Nat.reduceBNe, Nat.reduceMul, ↓reduceIte, tis]
            · rw [stepF_2 ht, em] at hst hgo2 hmu
              rw [em] at cG
              simp only [eFeed, egi, hby] at cG
              simp -implicitDefEqProofs (maxSteps := 100000) (disch := first | (intros; contradiction) | omega) only [am0, am1, am2, am3, am4, am5, am6, am7, am8, am9, Nat.reduceSub, ↓reduceIte, reduceCtorEq, Nat.reduceEqDiff, Nat.reduceBEq, Nat.reduceAdd, Nat.reduceLT, Nat.reduceBNe, Nat.reduceMul, ↓reduceIte, tis, fls, hs, gx, gl, e1, h0, hl]
              refine .inl ⟨by kernel_rfl, ?_⟩
              refine .inl ⟨by kernel_rfl, ?_⟩
              refine .inl ⟨by kernel_rfl, ?_⟩
              refine .inl ⟨by kernel_rfl, ?_⟩
              refine callL cG ?_
              simp -implicitDefEqProofs (maxSteps := 100000) (disch := first | (intros; contradiction) | omega) only [am0, am1, am2, am3, am4, am5, am6, am7, am8, am9, Nat.reduceSub, ↓reduceIte, reduceCtorEq, Nat.reduceEqDiff, Nat.reduceBEq, Nat.reduceAdd, Nat.reduceLT, Nat.reduceBNe, Nat.reduceMul, ↓reduceIte, tis, fls, hs, ht]
              refine round_normal _ ⟨hst, hgo2⟩ ?_ hmu
              simp -implicitDefEqProofs (maxSteps := 100000) (disch := first | (intros; contradiction) | omega) only [am0, am1, am2, am3, am4, am5, am6, am7, am8, am9, Nat.reduceSub, ↓reduceIte, reduceCtorEq, Nat.reduceEqDiff, Nat.reduceBEq, Nat.reduceAdd, Nat.reduceLT, Nat.reduceBNe, Nat.reduceMul, ↓reduceIte, tis, hs]
        · have em := markF_2 hx (fun h => h0 h.2)
          by_cases hl : (g.buf.length : Int) ≤ g.at_
          · rw [goF_end hs hl, em] at hgo
            rw [hgo]
            simp -implicitDefEqProofs (maxSteps := 100000) (disch := first | (intros; contradiction) | omega) only [am0, am1, am2, am3, am4, am5, am6, am7, am8, am9, Nat.reduceSub, ↓reduceIte, reduceCtorEq, Nat.reduceEqDiff, Nat.reduceBEq, Nat.reduceAdd, Nat.reduceLT, Nat.reduceBNe, Nat.reduceMul, ↓reduceIte, tis, fls, hs, gx, gl, e1, h0, hl]
            refine .inl ⟨by kernel_rfl, ?_⟩
            refine .inl ?_
            show _ = _
            kernel_rfl
          · have hb2 : g.at_.toNat < g.buf.length := by omega
            have hby : byteF g = ((g.buf.getD g.at_.toNat 0).toNat : Int) := rfl
            have hlt : (g.buf.getD g.at_.toNat 0).toNat < 256 := (g.buf.getD g.at_.toNat 0).toNat_lt
            have hgo2 : goF f = goF (stepF g) := by rw [hgo]; exact goF_step hg hs (by omega)
            have hst := hg.step (by omega : g.at_ < g.buf.length)
            have hmu := muF_step hg hs (by omega : g.at_ < g.buf.length)
            have cG := fits_goes (markF g) hm.prog (getP g) (by rw [hms.1]; exact h1) (byteF g)
            have cC := fits_cuts (markF g) hm
            have htF : goesP (markF g).prog (byteF g) (markF g).prog.length (getP g + 1) = toF g := by rw [hms.1]; rfl
            rw [htF] at cG
            by_cases ht : toF g < 0
            · rw [stepF_1 ht] at hst hgo2 hmu
              generalize cutF (markF g) = c at *
              rw [em] at cG cC
              simp only [eFeed, egi, hby, hs] at cG cC
              simp -implicitDefEqProofs (maxSteps := 100000) (disch := first | (intros; contradiction) | omega) only [am0, am1, am2, am3, am4, am5, am6, am7, am8, am9, Nat.reduceSub, ↓reduceIte, reduceCtorEq, Nat.reduceEqDiff, Nat.reduceBEq, Nat.reduceAdd, Nat.reduceLT, Nat.reduceBNe, Nat.reduceMul, ↓reduceIte, tis, fls, hs, gx, gl, e1, h0, hl]
              refine .inl ⟨by kernel_rfl, ?_⟩
              refine .inl ⟨by kernel_rfl, ?_⟩
              refine .inl ⟨by kernel_rfl, ?_⟩
              refine callL cG ?_
              simp -implicitDefEqProofs (maxSteps := 100000) (disch := first | (intros; contradiction) | omega) only [am0, am1, am2, am3, am4, am5, am6, am7, am8, am9, Nat.reduceSub, ↓reduceIte, reduceCtorEq, Nat.reduceEqDiff, Nat.reduceBEq, Nat.reduceAdd, Nat.reduceLT, Nat.reduceBNe, Nat.reduceMul, ↓reduceIte, tis, fls, hs, ht]
              refine callM 0 cC ?_
              simp -implicitDefEqProofs (maxSteps := 100000) (disch := first | (intros; contradiction) | omega) only [am0, am1, am2, am3, am4, am5, am6, am7, am8, am9, Nat.reduceSub, ↓reduceIte, reduceCtorEq, Nat.reduceEqDiff, Nat.reduceBEq, Nat.reduceAdd, Nat.reduceLT, Nat.reduceBNe, Nat.reduceMul, ↓reduceIte, tis, fls, List.dropLast_singleton]
              refine round_normal _ ⟨hst, hgo2⟩ ?_ hmu
              simp -implicitDefEqProofs (maxSteps := 100000) (disch := first | (intros; contradiction) | omega) only [am0, am1, am2, am3, am4, am5, am6, am7, am8, am9, Nat.reduceSub, ↓reduceIte, reduceCtorEq, Nat.reduceEqDiff, Nat.reduceBEq, Nat.reduceAdd, Nat.reduceLT, Nat.reduceBNe, Nat.reduceMul, ↓reduceIte, tis]
            · rw [stepF_2 ht, em] at hst hgo2 hmu
              rw [em] at cG
              simp only [eFeed, egi, hby] at cG
              simp -implicitDefEqProofs (maxSteps := 100000) (disch := first | (intros; contradiction) | omega) only [am0, am1, am2, am3, am4, am5, am6, am7, am8, am9, Nat.reduceSub, ↓reduceIte, reduceCtorEq, Nat.reduceEqDiff, Nat.reduceBEq, Nat.reduceAdd, Nat.reduceLT, Nat.reduceBNe, Nat.reduceMul, ↓reduceIte, tis, fls, hs, gx, gl, e1, h0, hl]
              refine .inl ⟨by kernel_rfl, ?_⟩
              refine .inl ⟨by kernel_rfl, ?_⟩
              refine .inl ⟨by kernel_rfl, ?_⟩
              refine callL cG ?_
              simp -implicitDefEqProofs (maxSteps := 100000) (disch := first | (intros; contradiction) | omega) only [am0, am1, am2, am3, am4, am5, am6, am7, am8, am9, Nat.reduceSub, ↓reduceIte, reduceCtorEq, Nat.reduceEqDiff, Nat.reduceBEq, Nat.reduceAdd, Nat.reduceLT, Nat.reduceBNe, Nat.reduceMul, ↓reduceIte, tis, fls, hs, ht]
              refine round_normal _ ⟨hst, hgo2⟩ ?_ hmu
              simp -implicitDefEqProofs (maxSteps := 100000) (disch := first | (intros; contradiction) | omega) only [am0, am1, am2, am3, am4, am5, am6, am7, am8, am9, Nat.reduceSub, ↓reduceIte, reduceCtorEq, Nat.reduceEqDiff, Nat.reduceBEq, Nat.reduceAdd, Nat.reduceLT, Nat.reduceBNe, Nat.reduceMul, ↓reduceIte, tis, hs]
      · have egi : ((getP g : Nat) : Int) = g.pc := by rw [eg]; omega
        have em := markF_2 hx (fun h => by rw [e2] at h; exact absurd h.1 (by decide))
        by_cases hl : (g.buf.length : Int) ≤ g.at_
        · rw [goF_end hs hl, em] at hgo
          rw [hgo]
          simp -implicitDefEqProofs (maxSteps := 100000) (disch := first | (intros; contradiction) | omega) only [am0, am1, am2, am3, am4, am5, am6, am7, am8, am9, Nat.reduceSub, ↓reduceIte, reduceCtorEq, Nat.reduceEqDiff, Nat.reduceBEq, Nat.reduceAdd, Nat.reduceLT, Nat.reduceBNe, Nat.reduceMul, ↓reduceIte, tis, fls, hs, gx, gl, e2, hl]
          refine .inl ⟨by kernel_rfl, ?_⟩
          refine .inl ?_
          show _ = _
          kernel_rfl
        · have hb2 : g.at_.toNat < g.buf.length := by omega
          have hby : byteF g = ((g.buf.getD g.at_.toNat 0).toNat : Int) := rfl
          have hlt : (g.buf.getD g.at_.toNat 0).toNat < 256 := (g.buf.getD g.at_.toNat 0).toNat_lt
          have hgo2 : goF f = goF (stepF g) := by rw [hgo]; exact goF_step hg hs (by omega)
          have hst := hg.step (by omega : g.at_ < g.buf.length)
          have hmu := muF_step hg hs (by omega : g.at_ < g.buf.length)
          have cG := fits_goes (markF g) hm.prog (getP g) (by rw [hms.1]; exact h1) (byteF g)
          have cC := fits_cuts (markF g) hm
          have htF : goesP (markF g).prog (byteF g) (markF g).prog.length (getP g + 1) = toF g := by rw [hms.1]; rfl
          rw [htF] at cG
          by_cases ht : toF g < 0
          · rw [stepF_1 ht] at hst hgo2 hmu
            generalize cutF (markF g) = c at *
            rw [em] at cG cC
            simp only [eFeed, egi, hby, hs] at cG cC
            simp -implicitDefEqProofs (maxSteps := 100000) (disch := first | (intros; contradiction) | omega) only [am0, am1, am2, am3, am4, am5, am6, am7, am8, am9, Nat.reduceSub, ↓reduceIte, reduceCtorEq, Nat.reduceEqDiff, Nat.reduceBEq, Nat.reduceAdd, Nat.reduceLT, Nat.reduceBNe, Nat.reduceMul, ↓reduceIte, tis, fls, hs, gx, gl, e2, hl]
            refine .inl ⟨by kernel_rfl, ?_⟩
            refine .inl ⟨by kernel_rfl, ?_⟩
            refine .inl ⟨by kernel_rfl, ?_⟩
            refine callL cG ?_
            simp -implicitDefEqProofs (maxSteps := 100000) (disch := first | (intros; contradiction) | omega) only [am0, am1, am2, am3, am4, am5, am6, am7, am8, am9, Nat.reduceSub, ↓reduceIte, reduceCtorEq, Nat.reduceEqDiff, Nat.reduceBEq, Nat.reduceAdd, Nat.reduceLT, Nat.reduceBNe, Nat.reduceMul, ↓reduceIte, tis, fls, hs, ht]
            refine callM 0 cC ?_
            simp -implicitDefEqProofs (maxSteps := 100000) (disch := first | (intros; contradiction) | omega) only [am0, am1, am2, am3, am4, am5, am6, am7, am8, am9, Nat.reduceSub, ↓reduceIte, reduceCtorEq, Nat.reduceEqDiff, Nat.reduceBEq, Nat.reduceAdd, Nat.reduceLT, Nat.reduceBNe, Nat.reduceMul, ↓reduceIte, tis, fls, List.dropLast_singleton]
            refine round_normal _ ⟨hst, hgo2⟩ ?_ hmu
            simp -implicitDefEqProofs (maxSteps := 100000) (disch := first | (intros; contradiction) | omega) only [am0, am1, am2, am3, am4, am5, am6, am7, am8, am9, Nat.reduceSub, ↓reduceIte, reduceCtorEq, Nat.reduceEqDiff, Nat.reduceBEq, Nat.reduceAdd, Nat.reduceLT, Nat.reduceBNe, Nat.reduceMul, ↓reduceIte, tis]
          · rw [stepF_2 ht, em] at hst hgo2 hmu
            rw [em] at cG
            simp only [eFeed, egi, hby] at cG
            simp -implicitDefEqProofs (maxSteps := 100000) (disch := first | (intros; contradiction) | omega) only [am0, am1, am2, am3, am4, am5, am6, am7, am8, am9, Nat.reduceSub, ↓reduceIte, reduceCtorEq, Nat.reduceEqDiff, Nat.reduceBEq, Nat.reduceAdd, Nat.reduceLT, Nat.reduceBNe, Nat.reduceMul, ↓reduceIte, tis, fls, hs, gx, gl, e2, hl]
            refine .inl ⟨by kernel_rfl, ?_⟩
            refine .inl ⟨by kernel_rfl, ?_⟩
            refine .inl ⟨by kernel_rfl, ?_⟩
            refine callL cG ?_
            simp -implicitDefEqProofs (maxSteps := 100000) (disch := first | (intros; contradiction) | omega) only [am0, am1, am2, am3, am4, am5, am6, am7, am8, am9, Nat.reduceSub, ↓reduceIte, reduceCtorEq, Nat.reduceEqDiff, Nat.reduceBEq, Nat.reduceAdd, Nat.reduceLT, Nat.reduceBNe, Nat.reduceMul, ↓reduceIte, tis, fls, hs, ht]
            refine round_normal _ ⟨hst, hgo2⟩ ?_ hmu
            simp -implicitDefEqProofs (maxSteps := 100000) (disch := first | (intros; contradiction) | omega) only [am0, am1, am2, am3, am4, am5, am6, am7, am8, am9, Nat.reduceSub, ↓reduceIte, reduceCtorEq, Nat.reduceEqDiff, Nat.reduceBEq, Nat.reduceAdd, Nat.reduceLT, Nat.reduceBNe, Nat.reduceMul, ↓reduceIte, tis, hs]
/-- impl.ProgOk -/
theorem fits_progOk (p : List Ins) (hp : p.length ≤ 1099511627776) : Fits prog 103 [.sl false 4 (p.map eIns)] (.bool (progB p)) [] := by
  refine fits_of_code [2] [] [0, 2, 3, 22, 24, 25, 26, 31] func103 rfl rfl rfl (by rfl) (by show 1 ≤ 33; decide) (by rfl) (by rfl) (by show 0 ≤ 1; decide) (by rfl) (run_of ?_)
  simp -implicitDefEqProofs (maxSteps := 100000) (disch := first | (intros; contradiction) | omega) only [am0, am1, am2, am3, am4, am5, am6, am7, am8, am9, Nat.reduceSub, ↓reduceIte, reduceCtorEq, Nat.reduceEqDiff, Nat.reduceBEq, Nat.reduceAdd, Nat.reduceLT, Nat.reduceBNe, Nat.reduceMul, ↓reduceIte, tis]
  refine callb_of (fits_in p.length 1 1500) (by simp -implicitDefEqProofs (maxSteps := 100000) (disch := first | (intros; contradiction) | omega) only [am0, am1, am2, am3, am4, am5, am6, am7, am8, am9, Nat.reduceSub, ↓reduceIte, reduceCtorEq, Nat.reduceEqDiff, Nat.reduceBEq, Nat.reduceAdd, Nat.reduceLT, Nat.reduceBNe, Nat.reduceMul, ↓reduceIte, tis]) (.inl rfl) rfl ?_
  by_cases h1 : 1 ≤ (p.length : Int) ∧ (p.length : Int) ≤ 1500
  case neg => simp -implicitDefEqProofs (maxSteps := 100000) (disch := first | (intros; contradiction) | omega) only [am0, am1, am2, am3, am4, am5, am6, am7, am8, am9, Nat.reduceSub, ↓reduceIte, reduceCtorEq, Nat.reduceEqDiff, Nat.reduceBEq, Nat.reduceAdd, Nat.reduceLT, Nat.reduceBNe, Nat.reduceMul, ↓reduceIte, tis, h1, progB_false1 h1]
  obtain ⟨h1a, h1b⟩ := h1
  simp -implicitDefEqProofs (maxSteps := 100000) (disch := first | (intros; contradiction) | omega) only [am0, am1, am2, am3, am4, am5, am6, am7, am8, am9, Nat.reduceSub, ↓reduceIte, reduceCtorEq, Nat.reduceEqDiff, Nat.reduceBEq, Nat.reduceAdd, Nat.reduceLT, Nat.reduceBNe, Nat.reduceMul, ↓reduceIte, tis]
  refine callb_of (fits_door p 0 hp) (by simp -implicitDefEqProofs (maxSteps := 100000) (disch := first | (intros; contradiction) | omega) only [am0, am1, am2, am3, am4, am5, am6, am7, am8, am9, Nat.reduceSub, ↓reduceIte, reduceCtorEq, Nat.reduceEqDiff, Nat.reduceBEq, Nat.reduceAdd, Nat.reduceLT, Nat.reduceBNe, Nat.reduceMul, ↓reduceIte, tis]) (.inl rfl) rfl ?_
  have hl : 0 < p.length := by omega
  cases h2 : doorB p 0 with
  | false => simp -implicitDefEqProofs (maxSteps := 100000) (disch := first | (intros; contradiction) | omega) only [am0, am1, am2, am3, am4, am5, am6, am7, am8, am9, Nat.reduceSub, ↓reduceIte, reduceCtorEq, Nat.reduceEqDiff, Nat.reduceBEq, Nat.reduceAdd, Nat.reduceLT, Nat.reduceBNe, Nat.reduceMul, ↓reduceIte, tis, doorI_zero, h2, progB_false2 h2]
  | true =>
    cases h3 : lastB p with
    | false =>
      have h3' := h3
      rw [lastB_at hl] at h3'
      have h3' : p[p.length - 1].op ≠ 4 := by simpa using h3'
      have e : ((p.length : Int) - 1).toNat = p.length - 1 := by omega
      simp -implicitDefEqProofs (maxSteps := 100000) (disch := first | (intros; contradiction) | omega) only [am0, am1, am2, am3, am4, am5, am6, am7, am8, am9, Nat.reduceSub, ↓reduceIte, reduceCtorEq, Nat.reduceEqDiff, Nat.reduceBEq, Nat.reduceAdd, Nat.reduceLT, Nat.reduceBNe, Nat.reduceMul, ↓reduceIte, tis, doorI_zero, h2, e, eIns, progB_false3 h3]
    | true =>
      have h3' := h3
      rw [lastB_at hl] at h3'
      have h3' : p[p.length - 1].op = 4 := by simpa using h3'
      have e : ((p.length : Int) - 1).toNat = p.length - 1 := by omega
      simp -implicitDefEqProofs (maxSteps := 100000) (disch := first | (intros; contradiction) | omega) only [am0, am1, am2, am3, am4, am5, am6, am7, am8, am9, Nat.reduceSub, ↓reduceIte, reduceCtorEq, Nat.reduceEqDiff, Nat.reduceBEq, Nat.reduceAdd, Nat.reduceLT, Nat.reduceBNe, Nat.reduceMul, ↓reduceIte, tis, doorI_zero, h2, e, eIns]
      refine run_loop (α := Nat) (fun i => i ≤ p.length ∧ ∀ j, j < i → insB p j = true) (fun i => [(0, .sl false 4 (p.map eIns)), (24, .int .i64 p.length), (25, .int .i64 i)]) (fun i => p.length - i) 0 ⟨Nat.zero_le _, by simp⟩ ?_ ?_
      · simp -implicitDefEqProofs (maxSteps := 100000) (disch := first | (intros; contradiction) | omega) only [am0, am1, am2, am3, am4, am5, am6, am7, am8, am9, Nat.reduceSub, ↓reduceIte, reduceCtorEq, Nat.reduceEqDiff, Nat.reduceBEq, Nat.reduceAdd, Nat.reduceLT, Nat.reduceBNe, Nat.reduceMul, ↓reduceIte, tis]
      · rintro i ⟨hi', hb⟩
        by_cases hi : i < p.length
        · simp -implicitDefEqProofs (maxSteps := 100000) (disch := first | (intros; contradiction) | omega) only [am0, am1, am2, am3, am4, am5, am6, am7, am8, am9, Nat.reduceSub, ↓reduceIte, reduceCtorEq, Nat.reduceEqDiff, Nat.reduceBEq, Nat.reduceAdd, Nat.reduceLT, Nat.reduceBNe, Nat.reduceMul, ↓reduceIte, tis]
          refine callb_of (fits_insOk p i hp hi) (by simp -implicitDefEqProofs (maxSteps := 100000) (disch := first | (intros; contradiction) | omega) only [am0, am1, am2, am3, am4, am5, am6, am7, am8, am9, Nat.reduceSub, ↓reduceIte, reduceCtorEq, Nat.reduceEqDiff, Nat.reduceBEq, Nat.reduceAdd, Nat.reduceLT, Nat.reduceBNe, Nat.reduceMul, ↓reduceIte, tis]) (.inl rfl) rfl ?_
          cases h5 : insB p i with
          | false => simp -implicitDefEqProofs (maxSteps := 100000) (disch := first | (intros; contradiction) | omega) only [am0, am1, am2, am3, am4, am5, am6, am7, am8, am9, Nat.reduceSub, ↓reduceIte, reduceCtorEq, Nat.reduceEqDiff, Nat.reduceBEq, Nat.reduceAdd, Nat.reduceLT, Nat.reduceBNe, Nat.reduceMul, ↓reduceIte, tis, h5, progB_false4 hi h5]
          | true =>
            simp -implicitDefEqProofs (maxSteps := 100000) (disch := first | (intros; contradiction) | omega) only [am0, am1, am2, am3, am4, am5, am6, am7, am8, am9, Nat.reduceSub, ↓reduceIte, reduceCtorEq, Nat.reduceEqDiff, Nat.reduceBEq, Nat.reduceAdd, Nat.reduceLT, Nat.reduceBNe, Nat.reduceMul, ↓reduceIte, tis, h5]
            refine round_normal (i + 1) ⟨by omega, ?_⟩ ?_ (by show p.length - (i + 1) < p.length - i; omega)
            · intro j hj
              by_cases hji : j < i
              · exact hb j hji
              · obtain rfl : j = i := by omega
                exact h5
            · simp -implicitDefEqProofs (maxSteps := 100000) (disch := first | (intros; contradiction) | omega) only [am0, am1, am2, am3, am4, am5, am6, am7, am8, am9, Nat.reduceSub, ↓reduceIte, reduceCtorEq, Nat.reduceEqDiff, Nat.reduceBEq, Nat.reduceAdd, Nat.reduceLT, Nat.reduceBNe, Nat.reduceMul, ↓reduceIte, tis]
        · obtain rfl : i = p.length := by omega
          simp -implicitDefEqProofs (maxSteps := 100000) (disch := first | (intros; contradiction) | omega) only [am0, am1, am2, am3, am4, am5, am6, am7, am8, am9, Nat.reduceSub, ↓reduceIte, reduceCtorEq, Nat.reduceEqDiff, Nat.reduceBEq, Nat.reduceAdd, Nat.reduceLT, Nat.reduceBNe, Nat.reduceMul, ↓reduceIte, tis, progB_true ⟨h1a, h1b⟩ h2 h3 hb]
/-- spec.l10Door -/
theorem fits_sDoor (p : List Ins) (j : Nat) (hp : p.length ≤ 1099511627776) (hj : j < p.length) : Fits prog 152 [.sl false 4 (p.map eIns), .int .i64 j] (.bool (doorB p j)) [] := by
  refine fits_of_code [4] [] [0, 1, 4, 10] func152 rfl rfl rfl (by rfl) (by show 2 ≤ 31; decide) (by rfl) (by rfl) (by show 0 ≤ 2; decide) (by rfl) (run_of ?_)
  (simp -implicitDefEqProofs (maxSteps := 100000) (disch := first | (intros; contradiction) | omega) only [am0, am1, am2, am3, am4, am5, am6, am7, am8, am9, Nat.reduceSub, ↓reduceIte, reduceCtorEq, Nat.reduceEqDiff, Nat.reduceBEq, Nat.reduceAdd, Nat.reduceLT, Nat.reduceBNe, Nat.reduceMul, ↓reduceIte, tis, eIns]; (repeat' ((first | (refine Or.inl (And.intro (a := drawOk _ _ = true) (by kernel_rfl) ?_)) | (refine Or.inl (show drawOk _ _ = true from (by kernel_rfl))) | (refine cond_beq (fun _ => ?_) (fun _ => ?_)) | (refine cond_bne (fun _ => ?_) (fun _ => ?_)) | (refine cond_dec (fun _ => ?_) (fun _ => ?_)) | (refine cond_of (fun _ => ?_) (fun _ => ?_)) | (refine guard_beq (fun _ => ?_) (fun _ => ?_)) | (refine guard_bne (fun _ => ?_) (fun _ => ?_)) | (refine guard_dec (fun _ => ?_) (fun _ => ?_)) | (refine guard_of (fun _ => ?_) (fun _ => ?_)) | (refine guardD_beq (fun _ => ?_) (fun _ => ?_)) | (refine guardD_bne (fun _ => ?_) (fun _ => ?_)) | (refine guardD_dec (fun _ => ?_) (fun _ => ?_)) | (refine guardD_of (fun _ => ?_) (fun _ => ?_))) <;> (try simp -implicitDefEqProofs (maxSteps := 100000) (disch := first | (intros; contradiction) | omega) only [am0, am1, am2, am3, am4, am5, am6, am7, am8, am9, Nat.reduceSub, ↓reduceIte, reduceCtorEq, Nat.reduceEqDiff, Nat.reduceBEq, Nat.reduceAdd, Nat.reduceLT, Nat.reduceBNe, Nat.reduceMul, ↓reduceIte, tis, eIns]))))
  all_goals (have hq : j + 1 < p.length ∨ ¬ j + 1 < p.length := by omega)
  all_goals (rcases hq with hq | hq <;> first | omega | (simp_all [doorB_at hj]))
/-- An instruction by itself. -/
def insS (x : Ins) (n : Int) : Bool := (x.op == 1 && decide (0 ≤ x.a ∧ x.a ≤ 4 ∧ x.b = 0 ∧ x.to = 0)) || ((x.op == 2 || x.op == 4) && decide (x.a = 0 ∧ x.b = 0 ∧ x.to = 0)) ||
      (x.op == 3 && decide (0 ≤ x.a ∧ x.a ≤ x.b ∧ x.b ≤ 255 ∧ 0 ≤ x.to ∧ x.to < n))
/-- spec.l10Ins -/
theorem fits_sIns (x : Ins) (n : Int) : Fits prog 153 [eIns x, .int .i64 n] (.bool (insS x n)) [] := by
  refine fits_of_code [4] [] [0, 1, 2, 4, 6, 7, 27, 43] func153 rfl rfl rfl (by rfl) (by show 2 ≤ 71; decide) (by rfl) (by rfl) (by show 0 ≤ 2; decide) (by rfl) (run_of ?_)
  (simp -implicitDefEqProofs (maxSteps := 100000) (disch := first | (intros; contradiction) | omega) only [am0, am1, am2, am3, am4, am5, am6, am7, am8, am9, Nat.reduceSub, ↓reduceIte, reduceCtorEq, Nat.reduceEqDiff, Nat.reduceBEq, Nat.reduceAdd, Nat.reduceLT, Nat.reduceBNe, Nat.reduceMul, ↓reduceIte, tis, eIns]; (repeat' ((first | (refine Or.inl (And.intro (a := drawOk _ _ = true) (by kernel_rfl) ?_)) | (refine Or.inl (show drawOk _ _ = true from (by kernel_rfl))) | (refine cond_beq (fun _ => ?_) (fun _ => ?_)) | (refine cond_bne (fun _ => ?_) (fun _ => ?_)) | (refine cond_dec (fun _ => ?_) (fun _ => ?_)) | (refine cond_of (fun _ => ?_) (fun _ => ?_)) | (refine guard_beq (fun _ => ?_) (fun _ => ?_)) | (refine guard_bne (fun _ => ?_) (fun _ => ?_)) | (refine guard_dec (fun _ => ?_) (fun _ => ?_)) | (refine guard_of (fun _ => ?_) (fun _ => ?_)) | (refine guardD_beq (fun _ => ?_) (fun _ => ?_)) | (refine guardD_bne (fun _ => ?_) (fun _ => ?_)) | (refine guardD_dec (fun _ => ?_) (fun _ => ?_)) | (refine guardD_of (fun _ => ?_) (fun _ => ?_))) <;> (try simp -implicitDefEqProofs (maxSteps := 100000) (disch := first | (intros; contradiction) | omega) only [am0, am1, am2, am3, am4, am5, am6, am7, am8, am9, Nat.reduceSub, ↓reduceIte, reduceCtorEq, Nat.reduceEqDiff, Nat.reduceBEq, Nat.reduceAdd, Nat.reduceLT, Nat.reduceBNe, Nat.reduceMul, ↓reduceIte, tis, eIns]))))
  all_goals (simp_all [insS])
  all_goals first | (intros; omega) | grind
theorem insB_S {p : List Ins} {i : Nat} (h : i < p.length) : insB p i = (insS p[i] p.length && ((!(p[i].op == 3) || doorI p p[i].to) && (!(p[i].op == 1) || doorB p i))) := by
  rw [insB_at h, insS]
  generalize p[i] = x
  have hd : doorI p x.to = true → 0 ≤ x.to ∧ x.to < p.length := by
    intro hh
    refine Classical.byContradiction fun hc => ?_
    rw [doorI_out hc] at hh; cases hh
  rw [Bool.eq_iff_iff]
  simp only [Bool.and_eq_true, Bool.or_eq_true, beq_iff_eq, decide_eq_true_eq, Bool.not_eq_true', beq_eq_false_iff_ne]
  constructor
  · rintro ((⟨h1, h2, h3⟩ | ⟨h1, h2⟩) | ⟨h1, h2, h3⟩)
    · exact ⟨.inl (.inl ⟨h1, h2⟩), .inl (by omega), .inr h3⟩
    · exact ⟨.inl (.inr ⟨h1, h2⟩), .inl (by omega), .inl (by omega)⟩
    · have := hd h3
      exact ⟨.inr ⟨h1, by omega⟩, .inr h3, .inl (by omega)⟩
  · rintro ⟨(⟨h1, h2⟩ | ⟨h1, h2⟩) | ⟨h1, h2⟩, h3, h4⟩
    · exact .inl (.inl ⟨h1, h2, h4.resolve_left (by omega)⟩)
    · exact .inl (.inr ⟨h1, h2⟩)
    · exact .inr ⟨h1, by omega, h3.resolve_left (by omega)⟩
/-- spec.ProgOk -/
theorem fits_sProgOk (p : List Ins) (hp : p.length ≤ 1099511627776) : Fits prog 100 [.sl false 4 (p.map eIns)] (.bool (progB p)) [] := by
  refine fits_of_code [2] [] [0, 2, 3, 26, 30, 72] func100 rfl rfl rfl (by rfl) (by show 1 ≤ 73; decide) (by rfl) (by rfl) (by show 0 ≤ 1; decide) (by rfl) (run_of ?_)
  by_cases h1 : 1 ≤ (p.length : Int) ∧ (p.length : Int) ≤ 1500
  case neg =>
    by_cases h2 : (p.length : Int) < 1
    · simp -implicitDefEqProofs (maxSteps := 100000) (disch := first | (intros; contradiction) | omega) only [am0, am1, am2, am3, am4, am5, am6, am7, am8, am9, Nat.reduceSub, ↓reduceIte, reduceCtorEq, Nat.reduceEqDiff, Nat.reduceBEq, Nat.reduceAdd, Nat.reduceLT, Nat.reduceBNe, Nat.reduceMul, ↓reduceIte, tis, progB_false1 h1]
    · simp -implicitDefEqProofs (maxSteps := 100000) (disch := first | (intros; contradiction) | omega) only [am0, am1, am2, am3, am4, am5, am6, am7, am8, am9, Nat.reduceSub, ↓reduceIte, reduceCtorEq, Nat.reduceEqDiff, Nat.reduceBEq, Nat.reduceAdd, Nat.reduceLT, Nat.reduceBNe, Nat.reduceMul, ↓reduceIte, tis, progB_false1 h1]
  obtain ⟨h1a, h1b⟩ := h1
  have hl : 0 < p.length := by omega
  simp -implicitDefEqProofs (maxSteps := 100000) (disch := first | (intros; contradiction) | omega) only [am0, am1, am2, am3, am4, am5, am6, am7, am8, am9, Nat.reduceSub, ↓reduceIte, reduceCtorEq, Nat.reduceEqDiff, Nat.reduceBEq, Nat.reduceAdd, Nat.reduceLT, Nat.reduceBNe, Nat.reduceMul, ↓reduceIte, tis]
  refine callb_of (fits_sDoor p 0 hp hl) (by simp -implicitDefEqProofs (maxSteps := 100000) (disch := first | (intros; contradiction) | omega) only [am0, am1, am2, am3, am4, am5, am6, am7, am8, am9, Nat.reduceSub, ↓reduceIte, reduceCtorEq, Nat.reduceEqDiff, Nat.reduceBEq, Nat.reduceAdd, Nat.reduceLT, Nat.reduceBNe, Nat.reduceMul, ↓reduceIte, tis]) (.inl rfl) rfl ?_
  cases h2 : doorB p 0 with
  | false => simp -implicitDefEqProofs (maxSteps := 100000) (disch := first | (intros; contradiction) | omega) only [am0, am1, am2, am3, am4, am5, am6, am7, am8, am9, Nat.reduceSub, ↓reduceIte, reduceCtorEq, Nat.reduceEqDiff, Nat.reduceBEq, Nat.reduceAdd, Nat.reduceLT, Nat.reduceBNe, Nat.reduceMul, ↓reduceIte, tis, h2, progB_false2 h2]
  | true =>
    have e : ((p.length : Int) - 1).toNat = p.length - 1 := by omega
    cases h3 : lastB p with
    | false =>
      have h3' := h3
      rw [lastB_at hl] at h3'
      have h3' : p[p.length - 1].op ≠ 4 := by simpa using h3'
      simp -implicitDefEqProofs (maxSteps := 100000) (disch := first | (intros; contradiction) | omega) only [am0, am1, am2, am3, am4, am5, am6, am7, am8, am9, Nat.reduceSub, ↓reduceIte, reduceCtorEq, Nat.reduceEqDiff, Nat.reduceBEq, Nat.reduceAdd, Nat.reduceLT, Nat.reduceBNe, Nat.reduceMul, ↓reduceIte, tis, h2, e, eIns, progB_false3 h3]
    | true =>
      have h3' := h3
      rw [lastB_at hl] at h3'
      have h3' : p[p.length - 1].op = 4 := by simpa using h3'
      simp -implicitDefEqProofs (maxSteps := 100000) (disch := first | (intros; contradiction) | omega) only [am0, am1, am2, am3, am4, am5, am6, am7, am8, am9, Nat.reduceSub, ↓reduceIte, reduceCtorEq, Nat.reduceEqDiff, Nat.reduceBEq, Nat.reduceAdd, Nat.reduceLT, Nat.reduceBNe, Nat.reduceMul, ↓reduceIte, tis, h2, e, eIns]
      refine run_loop (α := Nat) (fun i => i ≤ p.length ∧ ∀ j, j < i → insB p j = true) (fun i => [(0, .sl false 4 (p.map eIns)), (3, .int .i64 i)]) (fun i => p.length - i) 0 ⟨Nat.zero_le _, by simp⟩ ?_ ?_
      · simp -implicitDefEqProofs (maxSteps := 100000) (disch := first | (intros; contradiction) | omega) only [am0, am1, am2, am3, am4, am5, am6, am7, am8, am9, Nat.reduceSub, ↓reduceIte, reduceCtorEq, Nat.reduceEqDiff, Nat.reduceBEq, Nat.reduceAdd, Nat.reduceLT, Nat.reduceBNe, Nat.reduceMul, ↓reduceIte, tis]
      · rintro i ⟨hi', hb⟩
        by_cases hi : i < p.length
        · have good : insB p i = true → Le [(0, AV.sl false 4 (p.map eIns)), (3, AV.int .i64 ((i : Int) + 1))] [(0, AV.sl false 4 (p.map eIns)), (3, AV.int .i64 ((i + 1 : Nat) : Int))] ∧ ∀ j, j < i + 1 → insB p j = true := by
            intro h5
            refine ⟨by simp -implicitDefEqProofs (maxSteps := 100000) (disch := first | (intros; contradiction) | omega) only [am0, am1, am2, am3, am4, am5, am6, am7, am8, am9, Nat.reduceSub, ↓reduceIte, reduceCtorEq, Nat.reduceEqDiff, Nat.reduceBEq, Nat.reduceAdd, Nat.reduceLT, Nat.reduceBNe, Nat.reduceMul, ↓reduceIte, tis], ?_⟩
            intro j hj
            by_cases hji : j < i
            · exact hb j hji
            · obtain rfl : j = i := by omega
              exact h5
          have e5 := insB_S hi
          simp -implicitDefEqProofs (maxSteps := 100000) (disch := first | (intros; contradiction) | omega) only [am0, am1, am2, am3, am4, am5, am6, am7, am8, am9, Nat.reduceSub, ↓reduceIte, reduceCtorEq, Nat.reduceEqDiff, Nat.reduceBEq, Nat.reduceAdd, Nat.reduceLT, Nat.reduceBNe, Nat.reduceMul, ↓reduceIte, tis, eIns]
          refine callb_of (fits_sIns p[i] p.length) (by simp -implicitDefEqProofs (maxSteps := 100000) (disch := first | (intros; contradiction) | omega) only [am0, am1, am2, am3, am4, am5, am6, am7, am8, am9, Nat.reduceSub, ↓reduceIte, reduceCtorEq, Nat.reduceEqDiff, Nat.reduceBEq, Nat.reduceAdd, Nat.reduceLT, Nat.reduceBNe, Nat.reduceMul, ↓reduceIte, tis, eIns]) (.inl rfl) rfl ?_
          cases h5 : insS p[i] p.length with
          | false =>
            rw [h5] at e5
            simp -implicitDefEqProofs (maxSteps := 100000) (disch := first | (intros; contradiction) | omega) only [am0, am1, am2, am3, am4, am5, am6, am7, am8, am9, Nat.reduceSub, ↓reduceIte, reduceCtorEq, Nat.reduceEqDiff, Nat.reduceBEq, Nat.reduceAdd, Nat.reduceLT, Nat.reduceBNe, Nat.reduceMul, ↓reduceIte, tis, h5, eIns, progB_false4 hi (by simpa using e5)]
          | true =>
            rw [h5] at e5
            by_cases h6 : p[i].op = 3
            · have hto : 0 ≤ p[i].to ∧ p[i].to < p.length := by
                simp [insS, h6] at h5; omega
              obtain ⟨q, hq⟩ : ∃ q : Nat, p[i].to = q := ⟨p[i].to.toNat, by omega⟩
              have hq2 : q < p.length := by omega
              simp -implicitDefEqProofs (maxSteps := 100000) (disch := first | (intros; contradiction) | omega) only [am0, am1, am2, am3, am4, am5, am6, am7, am8, am9, Nat.reduceSub, ↓reduceIte, reduceCtorEq, Nat.reduceEqDiff, Nat.reduceBEq, Nat.reduceAdd, Nat.reduceLT, Nat.reduceBNe, Nat.reduceMul, ↓reduceIte, tis, h5, h6, eIns]
              refine callb_of (fits_sDoor p q hp hq2) (by simp -implicitDefEqProofs (maxSteps := 100000) (disch := first | (intros; contradiction) | omega) only [am0, am1, am2, am3, am4, am5, am6, am7, am8, am9, Nat.reduceSub, ↓reduceIte, reduceCtorEq, Nat.reduceEqDiff, Nat.reduceBEq, Nat.reduceAdd, Nat.reduceLT, Nat.reduceBNe, Nat.reduceMul, ↓reduceIte, tis, eIns, hq]) (.inl rfl) rfl ?_
              rw [hq, doorI_nat] at e5
              cases h7 : doorB p q with
              | false => simp -implicitDefEqProofs (maxSteps := 100000) (disch := first | (intros; contradiction) | omega) only [am0, am1, am2, am3, am4, am5, am6, am7, am8, am9, Nat.reduceSub, ↓reduceIte, reduceCtorEq, Nat.reduceEqDiff, Nat.reduceBEq, Nat.reduceAdd, Nat.reduceLT, Nat.reduceBNe, Nat.reduceMul, ↓reduceIte, tis, h7, h6, eIns, progB_false4 hi (by simpa [h6, h7] using e5)]
              | true =>
                simp -implicitDefEqProofs (maxSteps := 100000) (disch := first | (intros; contradiction) | omega) only [am0, am1, am2, am3, am4, am5, am6, am7, am8, am9, Nat.reduceSub, ↓reduceIte, reduceCtorEq, Nat.reduceEqDiff, Nat.reduceBEq, Nat.reduceAdd, Nat.reduceLT, Nat.reduceBNe, Nat.reduceMul, ↓reduceIte, tis, h7, h6, eIns]
                obtain ⟨g1, g2⟩ := good (by simpa [h6, h7] using e5)
                exact round_normal (i + 1) ⟨by omega, g2⟩ (by simp -implicitDefEqProofs (maxSteps := 100000) (disch := first | (intros; contradiction) | omega) only [am0, am1, am2, am3, am4, am5, am6, am7, am8, am9, Nat.reduceSub, ↓reduceIte, reduceCtorEq, Nat.reduceEqDiff, Nat.reduceBEq, Nat.reduceAdd, Nat.reduceLT, Nat.reduceBNe, Nat.reduceMul, ↓reduceIte, tis]) (by show p.length - (i + 1) < p.length - i; omega)
            · by_cases h8 : p[i].op = 1
              · simp -implicitDefEqProofs (maxSteps := 100000) (disch := first | (intros; contradiction) | omega) only [am0, am1, am2, am3, am4, am5, am6, am7, am8, am9, Nat.reduceSub, ↓reduceIte, reduceCtorEq, Nat.reduceEqDiff, Nat.reduceBEq, Nat.reduceAdd, Nat.reduceLT, Nat.reduceBNe, Nat.reduceMul, ↓reduceIte, tis, h5, h6, h8, eIns]
                refine callb_of (fits_sDoor p i hp hi) (by simp -implicitDefEqProofs (maxSteps := 100000) (disch := first | (intros; contradiction) | omega) only [am0, am1, am2, am3, am4, am5, am6, am7, am8, am9, Nat.reduceSub, ↓reduceIte, reduceCtorEq, Nat.reduceEqDiff, Nat.reduceBEq, Nat.reduceAdd, Nat.reduceLT, Nat.reduceBNe, Nat.reduceMul, ↓reduceIte, tis, eIns]) (.inl rfl) rfl ?_
                cases h7 : doorB p i with
                | false => simp -implicitDefEqProofs (maxSteps := 100000) (disch := first | (intros; contradiction) | omega) only [am0, am1, am2, am3, am4, am5, am6, am7, am8, am9, Nat.reduceSub, ↓reduceIte, reduceCtorEq, Nat.reduceEqDiff, Nat.reduceBEq, Nat.reduceAdd, Nat.reduceLT, Nat.reduceBNe, Nat.reduceMul, ↓reduceIte, tis, h7, h8, eIns, progB_false4 hi (by simpa [h8, h7] using e5)]
                | true =>
                  simp -implicitDefEqProofs (maxSteps := 100000) (disch := first | (intros; contradiction) | omega) only [am0, am1, am2, am3, am4, am5, am6, am7, am8, am9, Nat.reduceSub, ↓reduceIte, reduceCtorEq, Nat.reduceEqDiff, Nat.reduceBEq, Nat.reduceAdd, Nat.reduceLT, Nat.reduceBNe, Nat.reduceMul, ↓reduceIte, tis, h7, h8, eIns]
                  obtain ⟨g1, g2⟩ := good (by simpa [h8, h7] using e5)
                  exact round_normal (i + 1) ⟨by omega, g2⟩ (by simp -implicitDefEqProofs (maxSteps := 100000) (disch := first | (intros; contradiction) | omega) only [am0, am1, am2, am3, am4, am5, am6, am7, am8, am9, Nat.reduceSub, ↓reduceIte, reduceCtorEq, Nat.reduceEqDiff, Nat.reduceBEq, Nat.reduceAdd, Nat.reduceLT, Nat.reduceBNe, Nat.reduceMul, ↓reduceIte, tis]) (by show p.length - (i + 1) < p.length - i; omega)
              · simp -implicitDefEqProofs (maxSteps := 100000) (disch := first | (intros; contradiction) | omega) only [am0, am1, am2, am3, am4, am5, am6, am7, am8, am9, Nat.reduceSub, ↓reduceIte, reduceCtorEq, Nat.reduceEqDiff, Nat.reduceBEq, Nat.reduceAdd, Nat.reduceLT, Nat.reduceBNe, Nat.reduceMul, ↓reduceIte, tis, h5, h6, h8, eIns]
                obtain ⟨g1, g2⟩ := good (by rw [e5, ibeq_f h6, ibeq_f h8]; rfl)
                exact round_normal (i + 1) ⟨by omega, g2⟩ (by simp -implicitDefEqProofs (maxSteps := 100000) (disch := first | (intros; contradiction) | omega) only [am0, am1, am2, am3, am4, am5, am6, am7, am8, am9, Nat.reduceSub, ↓reduceIte, reduceCtorEq, Nat.reduceEqDiff, Nat.reduceBEq, Nat.reduceAdd, Nat.reduceLT, Nat.reduceBNe, Nat.reduceMul, ↓reduceIte, tis]) (by show p.length - (i + 1) < p.length - i; omega)
        · obtain rfl : i = p.length := by omega
          simp -implicitDefEqProofs (maxSteps := 100000) (disch := first | (intros; contradiction) | omega) only [am0, am1, am2, am3, am4, am5, am6, am7, am8, am9, Nat.reduceSub, ↓reduceIte, reduceCtorEq, Nat.reduceEqDiff, Nat.reduceBEq, Nat.reduceAdd, Nat.reduceLT, Nat.reduceBNe, Nat.reduceMul, ↓reduceIte, tis, progB_true ⟨h1a, h1b⟩ h2 h3 hb]
def feedZ : Feed := ⟨[], [], 0, 0, 0, 0, 0, [], false⟩
/-- FeedOpen. -/
def feedOpenP (p : List Ins) : Feed := if progB p then ⟨p, [], 0, 0, 0, -1, 0, [], false⟩ else feedZ
/-- impl.copied of instructions -/
theorem fits_copiedIns (p : List Ins) (hp : p.length ≤ 1099511627776) : Fits prog 128 [.sl false 4 (p.map eIns)] (.sl true 4 (p.map eIns)) [] := by
  refine fits_of_code [2] [] [0, 2, 3, 6] func128 rfl rfl rfl (by rfl) (by show 1 ≤ 14; decide) (by rfl) (by rfl) (by show 0 ≤ 1; decide) (by rfl) (run_of ?_)
  cases p with
  | nil => simp -implicitDefEqProofs (maxSteps := 100000) (disch := first | (intros; contradiction) | omega) only [am0, am1, am2, am3, am4, am5, am6, am7, am8, am9, Nat.reduceSub, ↓reduceIte, reduceCtorEq, Nat.reduceEqDiff, Nat.reduceBEq, Nat.reduceAdd, Nat.reduceLT, Nat.reduceBNe, Nat.reduceMul, ↓reduceIte, tis]
  | cons x r =>
    have hl : ((x :: r).length : Int) ≠ 0 := by simp; omega
    generalize (x :: r) = p at *
    simp -implicitDefEqProofs (maxSteps := 100000) (disch := first | (intros; contradiction) | omega) only [am0, am1, am2, am3, am4, am5, am6, am7, am8, am9, Nat.reduceSub, ↓reduceIte, reduceCtorEq, Nat.reduceEqDiff, Nat.reduceBEq, Nat.reduceAdd, Nat.reduceLT, Nat.reduceBNe, Nat.reduceMul, ↓reduceIte, tis]
    simp -implicitDefEqProofs (maxSteps := 100000) (disch := first | (intros; contradiction) | omega) only [am0, am1, am2, am3, am4, am5, am6, am7, am8, am9, Nat.reduceSub, ↓reduceIte, reduceCtorEq, Nat.reduceEqDiff, Nat.reduceBEq, Nat.reduceAdd, Nat.reduceLT, Nat.reduceBNe, Nat.reduceMul, ↓reduceIte, tis, List.length_replicate, fls]
    simp [List.take_of_length_le]
/-- impl.FeedOpen -/
theorem fits_feedOpen (p : List Ins) (hp : p.length ≤ 1099511627776) : Fits prog 104 [.sl false 4 (p.map eIns)] (eFeed true (feedOpenP p)) [] := by
  refine fits_of_cell 2 72 [] [0, 2, 5] func104 rfl rfl rfl (by show 2 < 10; decide) (by show 1 ≤ 10; decide) (by rfl) (by rfl) (by show 0 ≤ 1; decide) (by rfl) (run_of ?_)
  simp -implicitDefEqProofs (maxSteps := 100000) (disch := first | (intros; contradiction) | omega) only [am0, am1, am2, am3, am4, am5, am6, am7, am8, am9, Nat.reduceSub, ↓reduceIte, reduceCtorEq, Nat.reduceEqDiff, Nat.reduceBEq, Nat.reduceAdd, Nat.reduceLT, Nat.reduceBNe, Nat.reduceMul, ↓reduceIte, tis]
  refine callb_of (fits_progOk p hp) (by simp -implicitDefEqProofs (maxSteps := 100000) (disch := first | (intros; contradiction) | omega) only [am0, am1, am2, am3, am4, am5, am6, am7, am8, am9, Nat.reduceSub, ↓reduceIte, reduceCtorEq, Nat.reduceEqDiff, Nat.reduceBEq, Nat.reduceAdd, Nat.reduceLT, Nat.reduceBNe, Nat.reduceMul, ↓reduceIte, tis]) (.inl rfl) rfl ?_
  cases h1 : progB p with
  | false => simp -implicitDefEqProofs (maxSteps := 100000) (disch := first | (intros; contradiction) | omega) only [am0, am1, am2, am3, am4, am5, am6, am7, am8, am9, Nat.reduceSub, ↓reduceIte, reduceCtorEq, Nat.reduceEqDiff, Nat.reduceBEq, Nat.reduceAdd, Nat.reduceLT, Nat.reduceBNe, Nat.reduceMul, ↓reduceIte, tis, h1, feedOpenP, feedZ, eFeed]
  | true =>
    simp -implicitDefEqProofs (maxSteps := 100000) (disch := first | (intros; contradiction) | omega) only [am0, am1, am2, am3, am4, am5, am6, am7, am8, am9, Nat.reduceSub, ↓reduceIte, reduceCtorEq, Nat.reduceEqDiff, Nat.reduceBEq, Nat.reduceAdd, Nat.reduceLT, Nat.reduceBNe, Nat.reduceMul, ↓reduceIte, tis]
    refine callb_of (fits_copiedIns p hp) (by simp -implicitDefEqProofs (maxSteps := 100000) (disch := first | (intros; contradiction) | omega) only [am0, am1, am2, am3, am4, am5, am6, am7, am8, am9, Nat.reduceSub, ↓reduceIte, reduceCtorEq, Nat.reduceEqDiff, Nat.reduceBEq, Nat.reduceAdd, Nat.reduceLT, Nat.reduceBNe, Nat.reduceMul, ↓reduceIte, tis]) (.inl (by simp -implicitDefEqProofs (maxSteps := 100000) (disch := first | (intros; contradiction) | omega) only [am0, am1, am2, am3, am4, am5, am6, am7, am8, am9, Nat.reduceSub, ↓reduceIte, reduceCtorEq, Nat.reduceEqDiff, Nat.reduceBEq, Nat.reduceAdd, Nat.reduceLT, Nat.reduceBNe, Nat.reduceMul, ↓reduceIte, fls])) rfl ?_
    simp -implicitDefEqProofs (maxSteps := 100000) (disch := first | (intros; contradiction) | omega) only [am0, am1, am2, am3, am4, am5, am6, am7, am8, am9, Nat.reduceSub, ↓reduceIte, reduceCtorEq, Nat.reduceEqDiff, Nat.reduceBEq, Nat.reduceAdd, Nat.reduceLT, Nat.reduceBNe, Nat.reduceMul, ↓reduceIte, tis, h1, feedOpenP, eFeed]
/-- spec.FeedOpen -/
theorem fits_sFeedOpen (p : List Ins) (hp : p.length ≤ 1099511627776) : Fits prog 101 [.sl false 4 (p.map eIns)] (eFeed true (feedOpenP p)) [] := by
  refine fits_of_cell 2 72 [] [0, 2, 5] func101 rfl rfl rfl (by show 2 < 11; decide) (by show 1 ≤ 11; decide) (by rfl) (by rfl) (by show 0 ≤ 1; decide) (by rfl) (run_of ?_)
  simp -implicitDefEqProofs (maxSteps := 100000) (disch := first | (intros; contradiction) | omega) only [am0, am1, am2, am3, am4, am5, am6, am7, am8, am9, Nat.reduceSub, ↓reduceIte, reduceCtorEq, Nat.reduceEqDiff, Nat.reduceBEq, Nat.reduceAdd, Nat.reduceLT, Nat.reduceBNe, Nat.reduceMul, ↓reduceIte, tis]
  refine callb_of (fits_sProgOk p hp) (by simp -implicitDefEqProofs (maxSteps := 100000) (disch := first | (intros; contradiction) | omega) only [am0, am1, am2, am3, am4, am5, am6, am7, am8, am9, Nat.reduceSub, ↓reduceIte, reduceCtorEq, Nat.reduceEqDiff, Nat.reduceBEq, Nat.reduceAdd, Nat.reduceLT, Nat.reduceBNe, Nat.reduceMul, ↓reduceIte, tis]) (.inl rfl) rfl ?_
  cases h1 : progB p with
  | false => simp -implicitDefEqProofs (maxSteps := 100000) (disch := first | (intros; contradiction) | omega) only [am0, am1, am2, am3, am4, am5, am6, am7, am8, am9, Nat.reduceSub, ↓reduceIte, reduceCtorEq, Nat.reduceEqDiff, Nat.reduceBEq, Nat.reduceAdd, Nat.reduceLT, Nat.reduceBNe, Nat.reduceMul, ↓reduceIte, tis, h1, feedOpenP, feedZ, eFeed]
  | true => simp -implicitDefEqProofs (maxSteps := 100000) (disch := first | (intros; contradiction) | omega) only [am0, am1, am2, am3, am4, am5, am6, am7, am8, am9, Nat.reduceSub, ↓reduceIte, reduceCtorEq, Nat.reduceEqDiff, Nat.reduceBEq, Nat.reduceAdd, Nat.reduceLT, Nat.reduceBNe, Nat.reduceMul, ↓reduceIte, tis, h1, feedOpenP, eFeed, fls]
theorem feedB_no1 {f : Feed} (h : progB f.prog = false) : feedB f = false := by simp [feedB, h]
theorem feedB_no2 {f : Feed} (h : ¬ (0 ≤ f.base ∧ f.base + f.buf.length ≤ 200)) : feedB f = false := by simp only [feedB, h, decide_false, Bool.false_and, Bool.and_false]
theorem feedB_no3 {f : Feed} (h : doorI f.prog f.pc = false) : feedB f = false := by simp [feedB, h]
theorem feedB_no4 {f : Feed} (h : ¬ (0 ≤ f.at_ ∧ f.at_ ≤ f.buf.length ∧ (f.at_ = 0 → f.pc = 0) ∧ 0 ≤ f.to ∧ f.to ≤ f.at_ ∧ -1 ≤ f.rule ∧ f.rule ≤ 4 ∧ (f.rule = -1 ↔ f.to = 0))) : feedB f = false := by simp only [feedB, h, decide_false, Bool.false_and, Bool.and_false]
theorem feedB_no5 {f : Feed} (h : outEnd f.out 0 = none) : feedB f = false := by simp [feedB, h]
theorem feedB_eq {f : Feed} {e : Int} (h1 : progB f.prog = true) (h2 : 0 ≤ f.base ∧ f.base + f.buf.length ≤ 200) (h3 : doorI f.prog f.pc = true) (h4 : 0 ≤ f.at_ ∧ f.at_ ≤ f.buf.length ∧ (f.at_ = 0 → f.pc = 0) ∧ 0 ≤ f.to ∧ f.to ≤ f.at_ ∧ -1 ≤ f.rule ∧ f.rule ≤ 4 ∧ (f.rule = -1 ↔ f.to = 0)) (h5 : outEnd f.out 0 = some e) : feedB f = (e == f.base) := by
  have h2' := decide_eq_true h2
  have h4' := decide_eq_true h4
  unfold feedB
  rw [h1, h2', h3, h4', h5]
  rfl
/-- impl.FeedOk -/
theorem fits_feedOk (f : Feed) (hp : f.prog.length ≤ 1099511627776) (hb : f.buf.length ≤ 1099511627776) (ho : f.out.length ≤ 1099511627776) : Fits prog 114 [eFeed false f] (.bool (feedB f)) [] := by
  refine fits_of_code [2] [] [0, 1, 2, 3, 5, 51, 72, 74, 75, 76, 77, 95] func114 rfl rfl rfl (by rfl) (by show 1 ≤ 103; decide) (by rfl) (by rfl) (by show 0 ≤ 1; decide) (by rfl) (run_of ?_)
  simp -implicitDefEqProofs (maxSteps := 100000) (disch := first | (intros; contradiction) | omega) only [am0, am1, am2, am3, am4, am5, am6, am7, am8, am9, Nat.reduceSub, ↓reduceIte, reduceCtorEq, Nat.reduceEqDiff, Nat.reduceBEq, Nat.reduceAdd, Nat.reduceLT, Nat.reduceBNe, Nat.reduceMul, ↓reduceIte, tis, eFeed]
  refine callb_of (fits_progOk f.prog hp) (by simp -implicitDefEqProofs (maxSteps := 100000) (disch := first | (intros; contradiction) | omega) only [am0, am1, am2, am3, am4, am5, am6, am7, am8, am9, Nat.reduceSub, ↓reduceIte, reduceCtorEq, Nat.reduceEqDiff, Nat.reduceBEq, Nat.reduceAdd, Nat.reduceLT, Nat.reduceBNe, Nat.reduceMul, ↓reduceIte, tis]) (.inl rfl) rfl ?_
  cases h1 : progB f.prog with
  | false => simp -implicitDefEqProofs (maxSteps := 100000) (disch := first | (intros; contradiction) | omega) only [am0, am1, am2, am3, am4, am5, am6, am7, am8, am9, Nat.reduceSub, ↓reduceIte, reduceCtorEq, Nat.reduceEqDiff, Nat.reduceBEq, Nat.reduceAdd, Nat.reduceLT, Nat.reduceBNe, Nat.reduceMul, ↓reduceIte, tis, h1, feedB_no1 h1]
  | true =>
  simp -implicitDefEqProofs (maxSteps := 100000) (disch := first | (intros; contradiction) | omega) only [am0, am1, am2, am3, am4, am5, am6, am7, am8, am9, Nat.reduceSub, ↓reduceIte, reduceCtorEq, Nat.reduceEqDiff, Nat.reduceBEq, Nat.reduceAdd, Nat.reduceLT, Nat.reduceBNe, Nat.reduceMul, ↓reduceIte, tis, h1]
  refine callb_of (fits_in f.base 0 200) (by simp -implicitDefEqProofs (maxSteps := 100000) (disch := first | (intros; contradiction) | omega) only [am0, am1, am2, am3, am4, am5, am6, am7, am8, am9, Nat.reduceSub, ↓reduceIte, reduceCtorEq, Nat.reduceEqDiff, Nat.reduceBEq, Nat.reduceAdd, Nat.reduceLT, Nat.reduceBNe, Nat.reduceMul, ↓reduceIte, tis]) (.inl rfl) rfl ?_
  by_cases h2 : 0 ≤ f.base ∧ f.base ≤ 200
  case neg => simp -implicitDefEqProofs (maxSteps := 100000) (disch := first | (intros; contradiction) | omega) only [am0, am1, am2, am3, am4, am5, am6, am7, am8, am9, Nat.reduceSub, ↓reduceIte, reduceCtorEq, Nat.reduceEqDiff, Nat.reduceBEq, Nat.reduceAdd, Nat.reduceLT, Nat.reduceBNe, Nat.reduceMul, ↓reduceIte, tis, h2, feedB_no2 (f := f) (by omega)]
  by_cases h2b : f.base + f.buf.length ≤ 200
  case neg => simp -implicitDefEqProofs (maxSteps := 100000) (disch := first | (intros; contradiction) | omega) only [am0, am1, am2, am3, am4, am5, am6, am7, am8, am9, Nat.reduceSub, ↓reduceIte, reduceCtorEq, Nat.reduceEqDiff, Nat.reduceBEq, Nat.reduceAdd, Nat.reduceLT, Nat.reduceBNe, Nat.reduceMul, ↓reduceIte, tis, h2, feedB_no2 (f := f) (by omega)]
  simp -implicitDefEqProofs (maxSteps := 100000) (disch := first | (intros; contradiction) | omega) only [am0, am1, am2, am3, am4, am5, am6, am7, am8, am9, Nat.reduceSub, ↓reduceIte, reduceCtorEq, Nat.reduceEqDiff, Nat.reduceBEq, Nat.reduceAdd, Nat.reduceLT, Nat.reduceBNe, Nat.reduceMul, ↓reduceIte, tis, h2]
  refine callb_of (fits_door f.prog f.pc hp) (by simp -implicitDefEqProofs (maxSteps := 100000) (disch := first | (intros; contradiction) | omega) only [am0, am1, am2, am3, am4, am5, am6, am7, am8, am9, Nat.reduceSub, ↓reduceIte, reduceCtorEq, Nat.reduceEqDiff, Nat.reduceBEq, Nat.reduceAdd, Nat.reduceLT, Nat.reduceBNe, Nat.reduceMul, ↓reduceIte, tis]) (.inl rfl) rfl ?_
  cases h3 : doorI f.prog f.pc with
  | false => simp -implicitDefEqProofs (maxSteps := 100000) (disch := first | (intros; contradiction) | omega) only [am0, am1, am2, am3, am4, am5, am6, am7, am8, am9, Nat.reduceSub, ↓reduceIte, reduceCtorEq, Nat.reduceEqDiff, Nat.reduceBEq, Nat.reduceAdd, Nat.reduceLT, Nat.reduceBNe, Nat.reduceMul, ↓reduceIte, tis, h3, feedB_no3 h3]
  | true =>
  simp -implicitDefEqProofs (maxSteps := 100000) (disch := first | (intros; contradiction) | omega) only [am0, am1, am2, am3, am4, am5, am6, am7, am8, am9, Nat.reduceSub, ↓reduceIte, reduceCtorEq, Nat.reduceEqDiff, Nat.reduceBEq, Nat.reduceAdd, Nat.reduceLT, Nat.reduceBNe, Nat.reduceMul, ↓reduceIte, tis, h3]
  refine callb_of (fits_in f.at_ 0 f.buf.length) (by simp -implicitDefEqProofs (maxSteps := 100000) (disch := first | (intros; contradiction) | omega) only [am0, am1, am2, am3, am4, am5, am6, am7, am8, am9, Nat.reduceSub, ↓reduceIte, reduceCtorEq, Nat.reduceEqDiff, Nat.reduceBEq, Nat.reduceAdd, Nat.reduceLT, Nat.reduceBNe, Nat.reduceMul, ↓reduceIte, tis]) (.inl rfl) rfl ?_
  by_cases h4 : 0 ≤ f.at_ ∧ f.at_ ≤ f.buf.length
  case neg => simp -implicitDefEqProofs (maxSteps := 100000) (disch := first | (intros; contradiction) | omega) only [am0, am1, am2, am3, am4, am5, am6, am7, am8, am9, Nat.reduceSub, ↓reduceIte, reduceCtorEq, Nat.reduceEqDiff, Nat.reduceBEq, Nat.reduceAdd, Nat.reduceLT, Nat.reduceBNe, Nat.reduceMul, ↓reduceIte, tis, h4, feedB_no4 (f := f) (by omega)]
  by_cases h5 : f.at_ = 0 → f.pc = 0
  case neg =>
    have h5a : f.at_ = 0 := by omega
    have h5b : f.pc ≠ 0 := by omega
    simp -implicitDefEqProofs (maxSteps := 100000) (disch := first | (intros; contradiction) | omega) only [am0, am1, am2, am3, am4, am5, am6, am7, am8, am9, Nat.reduceSub, ↓reduceIte, reduceCtorEq, Nat.reduceEqDiff, Nat.reduceBEq, Nat.reduceAdd, Nat.reduceLT, Nat.reduceBNe, Nat.reduceMul, ↓reduceIte, tis, h4, h5a, h5b, feedB_no4 (f := f) (by omega)]
  have key : (f.at_ = 0 ∧ f.pc = 0) ∨ f.at_ ≠ 0 := by omega
  rcases key with h0 | h0
  all_goals
    simp -implicitDefEqProofs (maxSteps := 100000) (disch := first | (intros; contradiction) | omega) only [am0, am1, am2, am3, am4, am5, am6, am7, am8, am9, Nat.reduceSub, ↓reduceIte, reduceCtorEq, Nat.reduceEqDiff, Nat.reduceBEq, Nat.reduceAdd, Nat.reduceLT, Nat.reduceBNe, Nat.reduceMul, ↓reduceIte, tis, h4]
    refine callb_of (fits_in f.to 0 f.at_) (by simp -implicitDefEqProofs (maxSteps := 100000) (disch := first | (intros; contradiction) | omega) only [am0, am1, am2, am3, am4, am5, am6, am7, am8, am9, Nat.reduceSub, ↓reduceIte, reduceCtorEq, Nat.reduceEqDiff, Nat.reduceBEq, Nat.reduceAdd, Nat.reduceLT, Nat.reduceBNe, Nat.reduceMul, ↓reduceIte, tis]) (.inl rfl) rfl ?_
    by_cases h6 : 0 ≤ f.to ∧ f.to ≤ f.at_
    case neg => simp -implicitDefEqProofs (maxSteps := 100000) (disch := first | (intros; contradiction) | omega) only [am0, am1, am2, am3, am4, am5, am6, am7, am8, am9, Nat.reduceSub, ↓reduceIte, reduceCtorEq, Nat.reduceEqDiff, Nat.reduceBEq, Nat.reduceAdd, Nat.reduceLT, Nat.reduceBNe, Nat.reduceMul, ↓reduceIte, tis, h6, feedB_no4 (f := f) (by omega)]
    simp -implicitDefEqProofs (maxSteps := 100000) (disch := first | (intros; contradiction) | omega) only [am0, am1, am2, am3, am4, am5, am6, am7, am8, am9, Nat.reduceSub, ↓reduceIte, reduceCtorEq, Nat.reduceEqDiff, Nat.reduceBEq, Nat.reduceAdd, Nat.reduceLT, Nat.reduceBNe, Nat.reduceMul, ↓reduceIte, tis, h6]
    refine callb_of (fits_in f.rule (-1) 4) (by simp -implicitDefEqProofs (maxSteps := 100000) (disch := first | (intros; contradiction) | omega) only [am0, am1, am2, am3, am4, am5, am6, am7, am8, am9, Nat.reduceSub, ↓reduceIte, reduceCtorEq, Nat.reduceEqDiff, Nat.reduceBEq, Nat.reduceAdd, Nat.reduceLT, Nat.reduceBNe, Nat.reduceMul, ↓reduceIte, tis]) (.inl rfl) rfl ?_
    by_cases h7 : -1 ≤ f.rule ∧ f.rule ≤ 4
    case neg => simp -implicitDefEqProofs (maxSteps := 100000) (disch := first | (intros; contradiction) | omega) only [am0, am1, am2, am3, am4, am5, am6, am7, am8, am9, Nat.reduceSub, ↓reduceIte, reduceCtorEq, Nat.reduceEqDiff, Nat.reduceBEq, Nat.reduceAdd, Nat.reduceLT, Nat.reduceBNe, Nat.reduceMul, ↓reduceIte, tis, h7, feedB_no4 (f := f) (by omega)]
    by_cases h8 : (f.rule = -1 ↔ f.to = 0)
    case neg =>
      have hq : (f.rule = -1 ∧ f.to ≠ 0) ∨ (f.rule ≠ -1 ∧ f.to = 0) := by omega
      rcases hq with ⟨hq1, hq2⟩ | ⟨hq1, hq2⟩
      · have e1 : (f.rule == -1) = true := ibeq_t hq1
        have e2 : (f.to == 0) = false := ibeq_f hq2
        first | omega | (simp -implicitDefEqProofs (maxSteps := 100000) (disch := first | (intros; contradiction) | omega) only [am0, am1, am2, am3, am4, am5, am6, am7, am8, am9, Nat.reduceSub, ↓reduceIte, reduceCtorEq, Nat.reduceEqDiff, Nat.reduceBEq, Nat.reduceAdd, Nat.reduceLT, Nat.reduceBNe, Nat.reduceMul, ↓reduceIte, tis, h7, e1, e2, bne, feedB_no4 (f := f) (by omega)])
      · have e1 : (f.rule == -1) = false := ibeq_f hq1
        have e2 : (f.to == 0) = true := ibeq_t hq2
        simp -implicitDefEqProofs (maxSteps := 100000) (disch := first | (intros; contradiction) | omega) only [am0, am1, am2, am3, am4, am5, am6, am7, am8, am9, Nat.reduceSub, ↓reduceIte, reduceCtorEq, Nat.reduceEqDiff, Nat.reduceBEq, Nat.reduceAdd, Nat.reduceLT, Nat.reduceBNe, Nat.reduceMul, ↓reduceIte, tis, h7, e1, e2, bne, feedB_no4 (f := f) (by omega)]
    have e12 : (f.rule == -1) = (f.to == 0) := by
      by_cases hq : f.rule = -1
      · rw [ibeq_t hq, ibeq_t (h8.1 hq)]
      · rw [ibeq_f hq, ibeq_f (fun h => hq (h8.2 h))]
    have good := fun e => feedB_eq (f := f) (e := e) h1 ⟨h2.1, h2b⟩ h3 ⟨h4.1, h4.2, h5, h6.1, h6.2, h7.1, h7.2, h8⟩
    simp -implicitDefEqProofs (maxSteps := 100000) (disch := first | (intros; contradiction) | omega) only [am0, am1, am2, am3, am4, am5, am6, am7, am8, am9, Nat.reduceSub, ↓reduceIte, reduceCtorEq, Nat.reduceEqDiff, Nat.reduceBEq, Nat.reduceAdd, Nat.reduceLT, Nat.reduceBNe, Nat.reduceMul, ↓reduceIte, tis, h7, e12, bne]
    refine run_loop (α := Nat × Int) (fun g => g.1 ≤ f.out.length ∧ outEnd (f.out.take g.1) 0 = some g.2) (fun g => [(1, .box (eFeed false f)), (3, .int .i64 g.2), (74, .sl false 3 (f.out.map eToken)), (75, .int .i64 f.out.length), (76, .int .i64 g.1)]) (fun g => f.out.length - g.1) (0, 0) ⟨Nat.zero_le _, by simp [outEnd]⟩ ?_ ?_
    · simp -implicitDefEqProofs (maxSteps := 100000) (disch := first | (intros; contradiction) | omega) only [am0, am1, am2, am3, am4, am5, am6, am7, am8, am9, Nat.reduceSub, ↓reduceIte, reduceCtorEq, Nat.reduceEqDiff, Nat.reduceBEq, Nat.reduceAdd, Nat.reduceLT, Nat.reduceBNe, Nat.reduceMul, ↓reduceIte, tis, eFeed]
    · rintro ⟨i, e⟩ ⟨hi', he⟩
      by_cases hi : i < f.out.length
      · simp only at he
        by_cases h9 : f.out[i].frm = e ∧ e < f.out[i].to ∧ 0 ≤ f.out[i].rule ∧ f.out[i].rule ≤ 4
        case neg =>
          have hno := outEnd_fail hi he h9
          (simp -implicitDefEqProofs (maxSteps := 100000) (disch := first | (intros; contradiction) | omega) only [am0, am1, am2, am3, am4, am5, am6, am7, am8, am9, Nat.reduceSub, ↓reduceIte, reduceCtorEq, Nat.reduceEqDiff, Nat.reduceBEq, Nat.reduceAdd, Nat.reduceLT, Nat.reduceBNe, Nat.reduceMul, ↓reduceIte, tis, eFeed, eToken]; (repeat' ((first | (refine callb_of (fits_in _ _ _) (by simp -implicitDefEqProofs (maxSteps := 100000) (disch := first | (intros; contradiction) | omega) only [am0, am1, am2, am3, am4, am5, am6, am7, am8, am9, Nat.reduceSub, ↓reduceIte, reduceCtorEq, Nat.reduceEqDiff, Nat.reduceBEq, Nat.reduceAdd, Nat.reduceLT, Nat.reduceBNe, Nat.reduceMul, ↓reduceIte, tis, eFeed, eToken]; (repeat' (first | rfl | constructor))) (by first | exact .inl rfl | (right; simp -implicitDefEqProofs (maxSteps := 100000) (disch := first | (intros; contradiction) | omega) only [am0, am1, am2, am3, am4, am5, am6, am7, am8, am9, Nat.reduceSub, ↓reduceIte, reduceCtorEq, Nat.reduceEqDiff, Nat.reduceBEq, Nat.reduceAdd, Nat.reduceLT, Nat.reduceBNe, Nat.reduceMul, ↓reduceIte, tis, eFeed, eToken])) rfl ?_) | (refine call_of (fits_in _ _ _) (by simp -implicitDefEqProofs (maxSteps := 100000) (disch := first | (intros; contradiction) | omega) only [am0, am1, am2, am3, am4, am5, am6, am7, am8, am9, Nat.reduceSub, ↓reduceIte, reduceCtorEq, Nat.reduceEqDiff, Nat.reduceBEq, Nat.reduceAdd, Nat.reduceLT, Nat.reduceBNe, Nat.reduceMul, ↓reduceIte, tis, eFeed, eToken]; (repeat' (first | rfl | constructor))) (by first | exact .inl rfl | (right; simp -implicitDefEqProofs (maxSteps := 100000) (disch := first | (intros; contradiction) | omega) only [am0, am1, am2, am3, am4, am5, am6, am7, am8, am9, Nat.reduceSub, ↓reduceIte, reduceCtorEq, Nat.reduceEqDiff, Nat.reduceBEq, Nat.reduceAdd, Nat.reduceLT, Nat.reduceBNe, Nat.reduceMul, ↓reduceIte, tis, eFeed, eToken])) rfl ?_) | (refine Or.inl (And.intro (a := drawOk _ _ = true) (by kernel_rfl) ?_)) | (refine Or.inl (show drawOk _ _ = true from (by kernel_rfl))) | (refine cond_beq (fun _ => ?_) (fun _ => ?_)) | (refine cond_bne (fun _ => ?_) (fun _ => ?_)) | (refine cond_dec (fun _ => ?_) (fun _ => ?_)) | (refine cond_of (fun _ => ?_) (fun _ => ?_)) | (refine guard_beq (fun _ => ?_) (fun _ => ?_)) | (refine guard_bne (fun _ => ?_) (fun _ => ?_)) | (refine guard_dec (fun _ => ?_) (fun _ => ?_)) | (refine guard_of (fun _ => ?_) (fun _ => ?_)) | (refine guardD_beq (fun _ => ?_) (fun _ => ?_)) | (refine guardD_bne (fun _ => ?_) (fun _ => ?_)) | (refine guardD_dec (fun _ => ?_) (fun _ => ?_)) | (refine guardD_of (fun _ => ?_) (fun _ => ?_))) <;> (try simp -implicitDefEqProofs (maxSteps := 100000) (disch := first | (intros; contradiction) | omega) only [am0, am1, am2, am3, am4, am5, am6, am7, am8, am9, Nat.reduceSub, ↓reduceIte, reduceCtorEq, Nat.reduceEqDiff, Nat.reduceBEq, Nat.reduceAdd, Nat.reduceLT, Nat.reduceBNe, Nat.reduceMul, ↓reduceIte, tis, eFeed, eToken]))))
          all_goals first | omega | (simp [feedB_no5 hno]; done) | skip
        · obtain ⟨h9a, h9b, h9c, h9d⟩ := h9
          simp -implicitDefEqProofs (maxSteps := 100000) (disch := first | (intros; contradiction) | omega) only [am0, am1, am2, am3, am4, am5, am6, am7, am8, am9, Nat.reduceSub, ↓reduceIte, reduceCtorEq, Nat.reduceEqDiff, Nat.reduceBEq, Nat.reduceAdd, Nat.reduceLT, Nat.reduceBNe, Nat.reduceMul, ↓reduceIte, tis, eFeed, eToken, h9a]
          refine callb_of (fits_in f.out[i].rule 0 4) (by simp -implicitDefEqProofs (maxSteps := 100000) (disch := first | (intros; contradiction) | omega) only [am0, am1, am2, am3, am4, am5, am6, am7, am8, am9, Nat.reduceSub, ↓reduceIte, reduceCtorEq, Nat.reduceEqDiff, Nat.reduceBEq, Nat.reduceAdd, Nat.reduceLT, Nat.reduceBNe, Nat.reduceMul, ↓reduceIte, tis]) (.inl rfl) rfl ?_
          simp -implicitDefEqProofs (maxSteps := 100000) (disch := first | (intros; contradiction) | omega) only [am0, am1, am2, am3, am4, am5, am6, am7, am8, am9, Nat.reduceSub, ↓reduceIte, reduceCtorEq, Nat.reduceEqDiff, Nat.reduceBEq, Nat.reduceAdd, Nat.reduceLT, Nat.reduceBNe, Nat.reduceMul, ↓reduceIte, tis, h9c, h9d]
          exact round_normal (i + 1, f.out[i].to) ⟨by simp only; omega, outEnd_take hi he ⟨h9a, h9b, h9c, h9d⟩⟩ (by simp -implicitDefEqProofs (maxSteps := 100000) (disch := first | (intros; contradiction) | omega) only [am0, am1, am2, am3, am4, am5, am6, am7, am8, am9, Nat.reduceSub, ↓reduceIte, reduceCtorEq, Nat.reduceEqDiff, Nat.reduceBEq, Nat.reduceAdd, Nat.reduceLT, Nat.reduceBNe, Nat.reduceMul, ↓reduceIte, tis, eFeed]) (by show f.out.length - (i + 1) < f.out.length - i; omega)
      · obtain rfl : i = f.out.length := by simp only at hi'; omega
        rw [List.take_of_length_le (Nat.le_refl _)] at he
        simp -implicitDefEqProofs (maxSteps := 100000) (disch := first | (intros; contradiction) | omega) only [am0, am1, am2, am3, am4, am5, am6, am7, am8, am9, Nat.reduceSub, ↓reduceIte, reduceCtorEq, Nat.reduceEqDiff, Nat.reduceBEq, Nat.reduceAdd, Nat.reduceLT, Nat.reduceBNe, Nat.reduceMul, ↓reduceIte, tis, eFeed, good e he]
/-- spec.FeedOk -/
theorem fits_sFeedOk (f : Feed) (hp : f.prog.length ≤ 1099511627776) (hb : f.buf.length ≤ 1099511627776) (ho : f.out.length ≤ 1099511627776) : Fits prog 109 [eFeed false f] (.bool (feedB f)) [] := by
  refine fits_of_code [2] [] [0, 1, 2, 3, 4, 98, 106, 111, 149] func109 rfl rfl rfl (by rfl) (by show 1 ≤ 160; decide) (by rfl) (by rfl) (by show 0 ≤ 1; decide) (by rfl) (run_of ?_)
  simp -implicitDefEqProofs (maxSteps := 100000) (disch := first | (intros; contradiction) | omega) only [am0, am1, am2, am3, am4, am5, am6, am7, am8, am9, Nat.reduceSub, ↓reduceIte, reduceCtorEq, Nat.reduceEqDiff, Nat.reduceBEq, Nat.reduceAdd, Nat.reduceLT, Nat.reduceBNe, Nat.reduceMul, ↓reduceIte, tis, eFeed]
  refine callb_of (fits_sProgOk f.prog hp) (by simp -implicitDefEqProofs (maxSteps := 100000) (disch := first | (intros; contradiction) | omega) only [am0, am1, am2, am3, am4, am5, am6, am7, am8, am9, Nat.reduceSub, ↓reduceIte, reduceCtorEq, Nat.reduceEqDiff, Nat.reduceBEq, Nat.reduceAdd, Nat.reduceLT, Nat.reduceBNe, Nat.reduceMul, ↓reduceIte, tis]) (.inl rfl) rfl ?_
  cases h1 : progB f.prog with
  | false => simp -implicitDefEqProofs (maxSteps := 100000) (disch := first | (intros; contradiction) | omega) only [am0, am1, am2, am3, am4, am5, am6, am7, am8, am9, Nat.reduceSub, ↓reduceIte, reduceCtorEq, Nat.reduceEqDiff, Nat.reduceBEq, Nat.reduceAdd, Nat.reduceLT, Nat.reduceBNe, Nat.reduceMul, ↓reduceIte, tis, h1, feedB_no1 h1]
  | true =>
  have hpl := progB_len h1
  by_cases a1 : 0 ≤ f.base
  case neg => simp -implicitDefEqProofs (maxSteps := 100000) (disch := first | (intros; contradiction) | omega) only [am0, am1, am2, am3, am4, am5, am6, am7, am8, am9, Nat.reduceSub, ↓reduceIte, reduceCtorEq, Nat.reduceEqDiff, Nat.reduceBEq, Nat.reduceAdd, Nat.reduceLT, Nat.reduceBNe, Nat.reduceMul, ↓reduceIte, tis, h1, feedB_no2 (f := f) (by omega)]
  by_cases a2 : f.base ≤ 200
  case neg => simp -implicitDefEqProofs (maxSteps := 100000) (disch := first | (intros; contradiction) | omega) only [am0, am1, am2, am3, am4, am5, am6, am7, am8, am9, Nat.reduceSub, ↓reduceIte, reduceCtorEq, Nat.reduceEqDiff, Nat.reduceBEq, Nat.reduceAdd, Nat.reduceLT, Nat.reduceBNe, Nat.reduceMul, ↓reduceIte, tis, h1, feedB_no2 (f := f) (by omega)]
  by_cases a3 : (f.buf.length : Int) ≤ 200
  case neg => simp -implicitDefEqProofs (maxSteps := 100000) (disch := first | (intros; contradiction) | omega) only [am0, am1, am2, am3, am4, am5, am6, am7, am8, am9, Nat.reduceSub, ↓reduceIte, reduceCtorEq, Nat.reduceEqDiff, Nat.reduceBEq, Nat.reduceAdd, Nat.reduceLT, Nat.reduceBNe, Nat.reduceMul, ↓reduceIte, tis, h1, feedB_no2 (f := f) (by omega)]
  by_cases a4 : f.base + f.buf.length ≤ 200
  case neg => simp -implicitDefEqProofs (maxSteps := 100000) (disch := first | (intros; contradiction) | omega) only [am0, am1, am2, am3, am4, am5, am6, am7, am8, am9, Nat.reduceSub, ↓reduceIte, reduceCtorEq, Nat.reduceEqDiff, Nat.reduceBEq, Nat.reduceAdd, Nat.reduceLT, Nat.reduceBNe, Nat.reduceMul, ↓reduceIte, tis, h1, feedB_no2 (f := f) (by omega)]
  by_cases a5 : 0 ≤ f.pc
  case neg => simp -implicitDefEqProofs (maxSteps := 100000) (disch := first | (intros; contradiction) | omega) only [am0, am1, am2, am3, am4, am5, am6, am7, am8, am9, Nat.reduceSub, ↓reduceIte, reduceCtorEq, Nat.reduceEqDiff, Nat.reduceBEq, Nat.reduceAdd, Nat.reduceLT, Nat.reduceBNe, Nat.reduceMul, ↓reduceIte, tis, h1, feedB_no3 (f := f) (doorI_out (by omega))]
  by_cases a6 : f.pc < f.prog.length
  case neg => simp -implicitDefEqProofs (maxSteps := 100000) (disch := first | (intros; contradiction) | omega) only [am0, am1, am2, am3, am4, am5, am6, am7, am8, am9, Nat.reduceSub, ↓reduceIte, reduceCtorEq, Nat.reduceEqDiff, Nat.reduceBEq, Nat.reduceAdd, Nat.reduceLT, Nat.reduceBNe, Nat.reduceMul, ↓reduceIte, tis, h1, feedB_no3 (f := f) (doorI_out (by omega))]
  obtain ⟨q, hq⟩ : ∃ q : Nat, f.pc = q := ⟨f.pc.toNat, by omega⟩
  have hq2 : q < f.prog.length := by omega
  simp -implicitDefEqProofs (maxSteps := 100000) (disch := first | (intros; contradiction) | omega) only [am0, am1, am2, am3, am4, am5, am6, am7, am8, am9, Nat.reduceSub, ↓reduceIte, reduceCtorEq, Nat.reduceEqDiff, Nat.reduceBEq, Nat.reduceAdd, Nat.reduceLT, Nat.reduceBNe, Nat.reduceMul, ↓reduceIte, tis, h1]
  refine callb_of (fits_sDoor f.prog q hp hq2) (by simp -implicitDefEqProofs (maxSteps := 100000) (disch := first | (intros; contradiction) | omega) only [am0, am1, am2, am3, am4, am5, am6, am7, am8, am9, Nat.reduceSub, ↓reduceIte, reduceCtorEq, Nat.reduceEqDiff, Nat.reduceBEq, Nat.reduceAdd, Nat.reduceLT, Nat.reduceBNe, Nat.reduceMul, ↓reduceIte, tis, hq]) (.inl rfl) rfl ?_
  have hdq : doorI f.prog f.pc = doorB f.prog q := by rw [hq, doorI_nat]
  cases h3 : doorB f.prog q with
  | false => simp -implicitDefEqProofs (maxSteps := 100000) (disch := first | (intros; contradiction) | omega) only [am0, am1, am2, am3, am4, am5, am6, am7, am8, am9, Nat.reduceSub, ↓reduceIte, reduceCtorEq, Nat.reduceEqDiff, Nat.reduceBEq, Nat.reduceAdd, Nat.reduceLT, Nat.reduceBNe, Nat.reduceMul, ↓reduceIte, tis, h3, feedB_no3 (f := f) (hdq.trans h3)]
  | true =>
  by_cases b1 : 0 ≤ f.at_
  case neg => simp -implicitDefEqProofs (maxSteps := 100000) (disch := first | (intros; contradiction) | omega) only [am0, am1, am2, am3, am4, am5, am6, am7, am8, am9, Nat.reduceSub, ↓reduceIte, reduceCtorEq, Nat.reduceEqDiff, Nat.reduceBEq, Nat.reduceAdd, Nat.reduceLT, Nat.reduceBNe, Nat.reduceMul, ↓reduceIte, tis, h3, feedB_no4 (f := f) (by omega)]
  by_cases b2 : f.at_ ≤ f.buf.length
  case neg => simp -implicitDefEqProofs (maxSteps := 100000) (disch := first | (intros; contradiction) | omega) only [am0, am1, am2, am3, am4, am5, am6, am7, am8, am9, Nat.reduceSub, ↓reduceIte, reduceCtorEq, Nat.reduceEqDiff, Nat.reduceBEq, Nat.reduceAdd, Nat.reduceLT, Nat.reduceBNe, Nat.reduceMul, ↓reduceIte, tis, h3, feedB_no4 (f := f) (by omega)]
  by_cases b3 : 0 ≤ f.to
  case neg => simp -implicitDefEqProofs (maxSteps := 100000) (disch := first | (intros; contradiction) | omega) only [am0, am1, am2, am3, am4, am5, am6, am7, am8, am9, Nat.reduceSub, ↓reduceIte, reduceCtorEq, Nat.reduceEqDiff, Nat.reduceBEq, Nat.reduceAdd, Nat.reduceLT, Nat.reduceBNe, Nat.reduceMul, ↓reduceIte, tis, h3, feedB_no4 (f := f) (by omega)]
  by_cases b4 : f.to ≤ f.at_
  case neg => simp -implicitDefEqProofs (maxSteps := 100000) (disch := first | (intros; contradiction) | omega) only [am0, am1, am2, am3, am4, am5, am6, am7, am8, am9, Nat.reduceSub, ↓reduceIte, reduceCtorEq, Nat.reduceEqDiff, Nat.reduceBEq, Nat.reduceAdd, Nat.reduceLT, Nat.reduceBNe, Nat.reduceMul, ↓reduceIte, tis, h3, feedB_no4 (f := f) (by omega)]
  by_cases b5 : -1 ≤ f.rule
  case neg => simp -implicitDefEqProofs (maxSteps := 100000) (disch := first | (intros; contradiction) | omega) only [am0, am1, am2, am3, am4, am5, am6, am7, am8, am9, Nat.reduceSub, ↓reduceIte, reduceCtorEq, Nat.reduceEqDiff, Nat.reduceBEq, Nat.reduceAdd, Nat.reduceLT, Nat.reduceBNe, Nat.reduceMul, ↓reduceIte, tis, h3, feedB_no4 (f := f) (by omega)]
  by_cases b6 : f.rule ≤ 4
  case neg => simp -implicitDefEqProofs (maxSteps := 100000) (disch := first | (intros; contradiction) | omega) only [am0, am1, am2, am3, am4, am5, am6, am7, am8, am9, Nat.reduceSub, ↓reduceIte, reduceCtorEq, Nat.reduceEqDiff, Nat.reduceBEq, Nat.reduceAdd, Nat.reduceLT, Nat.reduceBNe, Nat.reduceMul, ↓reduceIte, tis, h3, feedB_no4 (f := f) (by omega)]
  by_cases h8 : (f.rule = -1 ↔ f.to = 0)
  case neg =>
    have hr : (0 ≤ f.rule ∧ ¬ 0 < f.to) ∨ (f.rule < 0 ∧ 0 < f.to) := by omega
    rcases hr with ⟨hr1, hr2⟩ | ⟨hr1, hr2⟩
    · simp -implicitDefEqProofs (maxSteps := 100000) (disch := first | (intros; contradiction) | omega) only [am0, am1, am2, am3, am4, am5, am6, am7, am8, am9, Nat.reduceSub, ↓reduceIte, reduceCtorEq, Nat.reduceEqDiff, Nat.reduceBEq, Nat.reduceAdd, Nat.reduceLT, Nat.reduceBNe, Nat.reduceMul, ↓reduceIte, tis, h3, bne, feedB_no4 (f := f) (by omega)]
    · simp -implicitDefEqProofs (maxSteps := 100000) (disch := first | (intros; contradiction) | omega) only [am0, am1, am2, am3, am4, am5, am6, am7, am8, am9, Nat.reduceSub, ↓reduceIte, reduceCtorEq, Nat.reduceEqDiff, Nat.reduceBEq, Nat.reduceAdd, Nat.reduceLT, Nat.reduceBNe, Nat.reduceMul, ↓reduceIte, tis, h3, bne, feedB_no4 (f := f) (by omega)]
  by_cases h5 : f.at_ = 0 → f.pc = 0
  case neg =>
    have h5a : f.at_ = 0 := by omega
    have h5b : f.pc ≠ 0 := by omega
    have hr : f.rule < 0 ∧ ¬ 0 < f.to := by omega
    obtain ⟨hr1, hr2⟩ := hr
    simp -implicitDefEqProofs (maxSteps := 100000) (disch := first | (intros; contradiction) | omega) only [am0, am1, am2, am3, am4, am5, am6, am7, am8, am9, Nat.reduceSub, ↓reduceIte, reduceCtorEq, Nat.reduceEqDiff, Nat.reduceBEq, Nat.reduceAdd, Nat.reduceLT, Nat.reduceBNe, Nat.reduceMul, ↓reduceIte, tis, h3, bne, feedB_no4 (f := f) (by omega)]
  have good := fun e => feedB_eq (f := f) (e := e) h1 ⟨a1, a4⟩ (hdq.trans h3) ⟨b1, b2, h5, b3, b4, b5, b6, h8⟩
  have hr : ((0 ≤ f.rule ∧ 0 < f.to) ∨ (f.rule < 0 ∧ ¬ 0 < f.to)) ∧ ((f.at_ = 0 ∧ f.pc = 0) ∨ f.at_ ≠ 0) := by omega
  obtain ⟨hr1, hr2⟩ := hr
  rcases hr1 with ⟨hr1, hr3⟩ | ⟨hr1, hr3⟩ <;> rcases hr2 with hr2 | hr2
  all_goals first | omega | skip
  all_goals
    simp -implicitDefEqProofs (maxSteps := 100000) (disch := first | (intros; contradiction) | omega) only [am0, am1, am2, am3, am4, am5, am6, am7, am8, am9, Nat.reduceSub, ↓reduceIte, reduceCtorEq, Nat.reduceEqDiff, Nat.reduceBEq, Nat.reduceAdd, Nat.reduceLT, Nat.reduceBNe, Nat.reduceMul, ↓reduceIte, tis, h3, bne]
    refine run_loop (α := Nat × Int) (fun g => g.1 ≤ f.out.length ∧ outEnd (f.out.take g.1) 0 = some g.2) (fun g => [(1, .box (eFeed false f)), (3, .int .i64 g.2), (4, .int .i64 g.1)]) (fun g => f.out.length - g.1) (0, 0) ⟨Nat.zero_le _, by simp [outEnd]⟩ ?_ ?_
    · simp -implicitDefEqProofs (maxSteps := 100000) (disch := first | (intros; contradiction) | omega) only [am0, am1, am2, am3, am4, am5, am6, am7, am8, am9, Nat.reduceSub, ↓reduceIte, reduceCtorEq, Nat.reduceEqDiff, Nat.reduceBEq, Nat.reduceAdd, Nat.reduceLT, Nat.reduceBNe, Nat.reduceMul, ↓reduceIte, tis, eFeed]
    · rintro ⟨i, e⟩ ⟨hi', he⟩
      by_cases hi : i < f.out.length
      · simp only at he
        by_cases h9a : f.out[i].frm = e
        case neg => simp -implicitDefEqProofs (maxSteps := 100000) (disch := first | (intros; contradiction) | omega) only [am0, am1, am2, am3, am4, am5, am6, am7, am8, am9, Nat.reduceSub, ↓reduceIte, reduceCtorEq, Nat.reduceEqDiff, Nat.reduceBEq, Nat.reduceAdd, Nat.reduceLT, Nat.reduceBNe, Nat.reduceMul, ↓reduceIte, tis, eFeed, eToken, feedB_no5 (outEnd_fail hi he (by omega))]
        by_cases h9b : e < f.out[i].to
        case neg => simp -implicitDefEqProofs (maxSteps := 100000) (disch := first | (intros; contradiction) | omega) only [am0, am1, am2, am3, am4, am5, am6, am7, am8, am9, Nat.reduceSub, ↓reduceIte, reduceCtorEq, Nat.reduceEqDiff, Nat.reduceBEq, Nat.reduceAdd, Nat.reduceLT, Nat.reduceBNe, Nat.reduceMul, ↓reduceIte, tis, eFeed, eToken, feedB_no5 (outEnd_fail hi he (by omega))]
        by_cases h9c : 0 ≤ f.out[i].rule
        case neg => simp -implicitDefEqProofs (maxSteps := 100000) (disch := first | (intros; contradiction) | omega) only [am0, am1, am2, am3, am4, am5, am6, am7, am8, am9, Nat.reduceSub, ↓reduceIte, reduceCtorEq, Nat.reduceEqDiff, Nat.reduceBEq, Nat.reduceAdd, Nat.reduceLT, Nat.reduceBNe, Nat.reduceMul, ↓reduceIte, tis, eFeed, eToken, feedB_no5 (outEnd_fail hi he (by omega))]
        by_cases h9d : f.out[i].rule ≤ 4
        case neg => simp -implicitDefEqProofs (maxSteps := 100000) (disch := first | (intros; contradiction) | omega) only [am0, am1, am2, am3, am4, am5, am6, am7, am8, am9, Nat.reduceSub, ↓reduceIte, reduceCtorEq, Nat.reduceEqDiff, Nat.reduceBEq, Nat.reduceAdd, Nat.reduceLT, Nat.reduceBNe, Nat.reduceMul, ↓reduceIte, tis, eFeed, eToken, feedB_no5 (outEnd_fail hi he (by omega))]
        simp -implicitDefEqProofs (maxSteps := 100000) (disch := first | (intros; contradiction) | omega) only [am0, am1, am2, am3, am4, am5, am6, am7, am8, am9, Nat.reduceSub, ↓reduceIte, reduceCtorEq, Nat.reduceEqDiff, Nat.reduceBEq, Nat.reduceAdd, Nat.reduceLT, Nat.reduceBNe, Nat.reduceMul, ↓reduceIte, tis, eFeed, eToken]
        exact round_normal (i + 1, f.out[i].to) ⟨by simp only; omega, outEnd_take hi he ⟨h9a, h9b, h9c, h9d⟩⟩ (by simp -implicitDefEqProofs (maxSteps := 100000) (disch := first | (intros; contradiction) | omega) only [am0, am1, am2, am3, am4, am5, am6, am7, am8, am9, Nat.reduceSub, ↓reduceIte, reduceCtorEq, Nat.reduceEqDiff, Nat.reduceBEq, Nat.reduceAdd, Nat.reduceLT, Nat.reduceBNe, Nat.reduceMul, ↓reduceIte, tis, eFeed]) (by show f.out.length - (i + 1) < f.out.length - i; omega)
      · obtain rfl : i = f.out.length := by simp only at hi'; omega
        rw [List.take_of_length_le (Nat.le_refl _)] at he
        simp -implicitDefEqProofs (maxSteps := 100000) (disch := first | (intros; contradiction) | omega) only [am0, am1, am2, am3, am4, am5, am6, am7, am8, am9, Nat.reduceSub, ↓reduceIte, reduceCtorEq, Nat.reduceEqDiff, Nat.reduceBEq, Nat.reduceAdd, Nat.reduceLT, Nat.reduceBNe, Nat.reduceMul, ↓reduceIte, tis, eFeed, good e he]
/-- impl.copied of tokens -/
theorem fits_copiedTok (p : List Token) (hp : p.length ≤ 1099511627776) : Fits prog 105 [.sl false 3 (p.map eToken)] (.sl true 3 (p.map eToken)) [] := by
  refine fits_of_code [2] [] [0, 2, 3, 6] func105 rfl rfl rfl (by rfl) (by show 1 ≤ 14; decide) (by rfl) (by rfl) (by show 0 ≤ 1; decide) (by rfl) (run_of ?_)
  cases p with
  | nil => simp -implicitDefEqProofs (maxSteps := 100000) (disch := first | (intros; contradiction) | omega) only [am0, am1, am2, am3, am4, am5, am6, am7, am8, am9, Nat.reduceSub, ↓reduceIte, reduceCtorEq, Nat.reduceEqDiff, Nat.reduceBEq, Nat.reduceAdd, Nat.reduceLT, Nat.reduceBNe, Nat.reduceMul, ↓reduceIte, tis]
  | cons x r =>
    have hl : ((x :: r).length : Int) ≠ 0 := by simp; omega
    generalize (x :: r) = p at *
    simp -implicitDefEqProofs (maxSteps := 100000) (disch := first | (intros; contradiction) | omega) only [am0, am1, am2, am3, am4, am5, am6, am7, am8, am9, Nat.reduceSub, ↓reduceIte, reduceCtorEq, Nat.reduceEqDiff, Nat.reduceBEq, Nat.reduceAdd, Nat.reduceLT, Nat.reduceBNe, Nat.reduceMul, ↓reduceIte, tis]
    simp -implicitDefEqProofs (maxSteps := 100000) (disch := first | (intros; contradiction) | omega) only [am0, am1, am2, am3, am4, am5, am6, am7, am8, am9, Nat.reduceSub, ↓reduceIte, reduceCtorEq, Nat.reduceEqDiff, Nat.reduceBEq, Nat.reduceAdd, Nat.reduceLT, Nat.reduceBNe, Nat.reduceMul, ↓reduceIte, tis, List.length_replicate, fls]
    simp [List.take_of_length_le]
/-- impl.feedCopy -/
theorem fits_feedCopy (f : Feed) (hp : f.prog.length ≤ 1099511627776) (ho : f.out.length ≤ 1099511627776) : Fits prog 115 [eFeed false f] (eFeed true f) [] := by
  unfold eFeed
  refine fits_of_cell 2 72 [] [0, 1, 2, 3] func115 rfl rfl rfl (by show 2 < 14; decide) (by show 1 ≤ 14; decide) (by rfl) (by rfl) (by show 0 ≤ 1; decide) (by rfl) (run_of ?_)
  simp -implicitDefEqProofs (maxSteps := 100000) (disch := first | (intros; contradiction) | omega) only [am0, am1, am2, am3, am4, am5, am6, am7, am8, am9, Nat.reduceSub, ↓reduceIte, reduceCtorEq, Nat.reduceEqDiff, Nat.reduceBEq, Nat.reduceAdd, Nat.reduceLT, Nat.reduceBNe, Nat.reduceMul, ↓reduceIte, tis, fls]
  refine callB (fits_copiedIns f.prog hp) ?_
  simp -implicitDefEqProofs (maxSteps := 100000) (disch := first | (intros; contradiction) | omega) only [am0, am1, am2, am3, am4, am5, am6, am7, am8, am9, Nat.reduceSub, ↓reduceIte, reduceCtorEq, Nat.reduceEqDiff, Nat.reduceBEq, Nat.reduceAdd, Nat.reduceLT, Nat.reduceBNe, Nat.reduceMul, ↓reduceIte, tis, fls]
  refine callB (fits_copiedTok f.out ho) ?_
  simp -implicitDefEqProofs (maxSteps := 100000) (disch := first | (intros; contradiction) | omega) only [am0, am1, am2, am3, am4, am5, am6, am7, am8, am9, Nat.reduceSub, ↓reduceIte, reduceCtorEq, Nat.reduceEqDiff, Nat.reduceBEq, Nat.reduceAdd, Nat.reduceLT, Nat.reduceBNe, Nat.reduceMul, ↓reduceIte, tis, fls]
theorem outEnd_len : ∀ (l : List Token) (e b : Int), outEnd l e = some b → (l.length : Int) + e ≤ b
  | [], e, b, h => by simp only [outEnd, Option.some.injEq] at h; subst h; simp
  | t :: r, e, b, h => by
    unfold outEnd at h
    by_cases ht : t.frm = e ∧ e < t.to ∧ 0 ≤ t.rule ∧ t.rule ≤ 4
    · rw [if_pos ht] at h
      have := outEnd_len r _ _ h
      simp only [List.length_cons, Int.natCast_add, Int.natCast_one]; omega
    · rw [if_neg ht] at h; exact absurd h (by simp)
theorem feedB_FI {f : Feed} (h : feedB f = true) : FI f := by
  unfold feedB at h
  simp only [Bool.and_eq_true, decide_eq_true_eq, beq_iff_eq] at h
  obtain ⟨h1, h2, h3, ⟨h4, h5, h6, h7, h8, h9, h10, h11⟩, h12⟩ := h
  have := outEnd_len _ _ _ h12
  exact ⟨h1, h3, ⟨h4, h5⟩, ⟨h7, h8⟩, ⟨h9, h10⟩, h11, h2, by omega⟩
theorem FI.more {f : Feed} (h : FI f) (w : List UInt8) (hw : f.base + f.buf.length + w.length ≤ 200) : FI { f with buf := f.buf ++ w } := by
  obtain ⟨h1, h2, h3, h4, h5, h6, h7, h8⟩ := h
  refine ⟨h1, h2, ?_, h4, h5, h6, ?_, h8⟩
  · simp only [List.length_append]; omega
  · simp only [List.length_append]; omega
/-- FeedPush. -/
def pushP (f : Feed) (w : List UInt8) : Feed := if feedB f = true then (if f.stuck = true ∨ f.base + f.buf.length + w.length > 200 then f else goF { f with buf := f.buf ++ w }) else feedZ
/-- FeedEnd's rounds. -/
def endN : Nat → Feed → Feed
  | 0, f => f
  | n + 1, f => if f.stuck = true ∨ f.buf = [] then f else endN n (goF (cutF f))
def muE (f : Feed) : Nat := if f.stuck = true then 0 else f.buf.length + 1
def endF (f : Feed) : Feed := endN (muE f) f
def endP (f : Feed) : Feed := if feedB f = true then endF (goF f) else feedZ
theorem cutF_buf (f : Feed) : (cutF f).buf.length ≤ f.buf.length := by
  unfold cutF; split
  · exact Nat.le_refl _
  · simp only [List.length_drop]; omega
theorem stepF_buf (f : Feed) : (stepF f).buf.length ≤ f.buf.length := by
  unfold stepF; split
  · have := cutF_buf (markF f); rw [(markF_same f).2.1] at this; exact this
  · simp only [(markF_same f).2.1]; exact Nat.le_refl _
theorem runF_buf : ∀ (n : Nat) (f : Feed), (runF n f).buf.length ≤ f.buf.length
  | 0, f => Nat.le_refl _
  | n + 1, f => by
    unfold runF; split
    · exact Nat.le_refl _
    · split
      · rw [(markF_same f).2.1]; exact Nat.le_refl _
      · exact Nat.le_trans (runF_buf n _) (stepF_buf f)
theorem muE_lt {f : Feed} (h : FI f) (hs : f.stuck = false) (hb : f.buf ≠ []) : muE (goF (cutF f)) < muE f := by
  have e : muE f = f.buf.length + 1 := by unfold muE; rw [if_neg (by rw [hs]; decide)]
  rw [e]
  by_cases hr : f.rule = -1
  · have e : cutF f = { f with stuck := true } := if_pos hr
    rw [e, goF_stuck rfl]
    show (if true = true then 0 else _) < _
    rw [if_pos rfl]; omega
  · have h1 := h.rt
    have h2 := h.to1
    have hp : 0 < f.buf.length := List.length_pos_iff.mpr hb
    have hl : (cutF f).buf.length < f.buf.length := by
      unfold cutF; rw [if_neg hr]; simp only [List.length_drop]; omega
    have := runF_buf (muF (cutF f)) (cutF f)
    have h3 : (goF (cutF f)).buf.length ≤ (cutF f).buf.length := this
    unfold muE; split <;> omega
theorem endN_more : ∀ (n m : Nat) (f : Feed), FI f → muE f ≤ n → n ≤ m → endN n f = endN m f := by
  intro n
  induction n with
  | zero =>
    intro m f h h1 h2
    have : f.stuck = true := by
      unfold muE at h1; split at h1
      · assumption
      · omega
    cases m with
    | zero => rfl
    | succ m => unfold endN; rw [if_pos (.inl this)]
  | succ n ih =>
    intro m f h h1 h2
    obtain ⟨m, rfl⟩ : ∃ k, m = k + 1 := ⟨m - 1, by omega⟩
    unfold endN
    by_cases hs : f.stuck = true ∨ f.buf = []
    · rw [if_pos hs, if_pos hs]
    · rw [if_neg hs, if_neg hs]
      have := muE_lt h (by cases hh : f.stuck with | true => exact absurd (.inl hh) hs | false => rfl) (fun e => hs (.inr e))
      exact ih m _ (goF_FI h.cut) (by omega) (by omega)
theorem endF_stop {f : Feed} (h : f.stuck = true ∨ f.buf = []) : endF f = f := by
  unfold endF
  cases muE f with
  | zero => rfl
  | succ n => unfold endN; rw [if_pos h]
theorem endF_step {f : Feed} (h : FI f) (hs : f.stuck = false) (hb : f.buf ≠ []) : endF f = endF (goF (cutF f)) := by
  have h1 := muE_lt h hs hb
  have e : muE f = f.buf.length + 1 := by unfold muE; rw [if_neg (by rw [hs]; decide)]
  unfold endF
  rw [e]
  have e2 : endN (f.buf.length + 1) f = endN f.buf.length (goF (cutF f)) := if_neg (by rw [hs]; intro h; rcases h with h | h; exact absurd h (by decide); exact hb h)
  rw [e2]
  exact (endN_more _ _ _ (goF_FI h.cut) (Nat.le_refl _) (by omega)).symm
/-- impl.FeedPush -/
theorem fits_feedPush (f : Feed) (w : List UInt8) (hp : f.prog.length ≤ 1048576) (hb : f.buf.length ≤ 1048576) (ho : f.out.length ≤ 1048576) (hw : w.length ≤ 1048576) : Fits prog 56 [eFeed false f, .str w] (eFeed true (pushP f w)) [] := by
  have cO := fits_feedOk f (by omega) (by omega) (by omega)
  have cC := fits_feedCopy f (by omega) (by omega)
  unfold pushP
  cases h1 : feedB f with
  | false =>
    unfold eFeed at cO ⊢
    refine fits_of_cell 4 72 [] [0, 1, 2, 4, 5, 8, 25] func56 rfl rfl rfl (by show 4 < 35; decide) (by show 2 ≤ 35; decide) (by rfl) (by rfl) (by show 0 ≤ 2; decide) (by rfl) (run_of ?_)
    simp -implicitDefEqProofs (maxSteps := 100000) (disch := first | (intros; contradiction) | omega) only [am0, am1, am2, am3, am4, am5, am6, am7, am8, am9, Nat.reduceSub, ↓reduceIte, reduceCtorEq, Nat.reduceEqDiff, Nat.reduceBEq, Nat.reduceAdd, Nat.reduceLT, Nat.reduceBNe, Nat.reduceMul, ↓reduceIte, tis, fls]
    refine callB cO ?_
    simp -implicitDefEqProofs (maxSteps := 100000) (disch := first | (intros; contradiction) | omega) only [am0, am1, am2, am3, am4, am5, am6, am7, am8, am9, Nat.reduceSub, ↓reduceIte, reduceCtorEq, Nat.reduceEqDiff, Nat.reduceBEq, Nat.reduceAdd, Nat.reduceLT, Nat.reduceBNe, Nat.reduceMul, ↓reduceIte, tis, fls, h1, feedZ]
  | true =>
    have hf := feedB_FI h1
    have hba := hf.base
    unfold eFeed at cO cC
    rcases Bool.eq_false_or_eq_true f.stuck with hs | hs
    · rw [if_pos rfl, if_pos (.inl hs)]
      simp only [hs] at cO cC
      unfold eFeed
      simp only [hs]
      refine fits_of_cell 4 72 [] [0, 1, 2, 4, 5, 8, 25] func56 rfl rfl rfl (by show 4 < 35; decide) (by show 2 ≤ 35; decide) (by rfl) (by rfl) (by show 0 ≤ 2; decide) (by rfl) (run_of ?_)
      simp -implicitDefEqProofs (maxSteps := 100000) (disch := first | (intros; contradiction) | omega) only [am0, am1, am2, am3, am4, am5, am6, am7, am8, am9, Nat.reduceSub, ↓reduceIte, reduceCtorEq, Nat.reduceEqDiff, Nat.reduceBEq, Nat.reduceAdd, Nat.reduceLT, Nat.reduceBNe, Nat.reduceMul, ↓reduceIte, tis, fls]
      refine callB cO ?_
      simp -implicitDefEqProofs (maxSteps := 100000) (disch := first | (intros; contradiction) | omega) only [am0, am1, am2, am3, am4, am5, am6, am7, am8, am9, Nat.reduceSub, ↓reduceIte, reduceCtorEq, Nat.reduceEqDiff, Nat.reduceBEq, Nat.reduceAdd, Nat.reduceLT, Nat.reduceBNe, Nat.reduceMul, ↓reduceIte, tis, fls, h1]
      refine callB cC ?_
      simp -implicitDefEqProofs (maxSteps := 100000) (disch := first | (intros; contradiction) | omega) only [am0, am1, am2, am3, am4, am5, am6, am7, am8, am9, Nat.reduceSub, ↓reduceIte, reduceCtorEq, Nat.reduceEqDiff, Nat.reduceBEq, Nat.reduceAdd, Nat.reduceLT, Nat.reduceBNe, Nat.reduceMul, ↓reduceIte, tis, fls, h1]
    · simp only [hs] at cO cC
      by_cases h2 : f.base + f.buf.length + w.length > 200
      · rw [if_pos rfl, if_pos (.inr h2)]
        unfold eFeed
        simp only [hs]
        refine fits_of_cell 4 72 [] [0, 1, 2, 4, 5, 8, 25] func56 rfl rfl rfl (by show 4 < 35; decide) (by show 2 ≤ 35; decide) (by rfl) (by rfl) (by show 0 ≤ 2; decide) (by rfl) (run_of ?_)
        simp -implicitDefEqProofs (maxSteps := 100000) (disch := first | (intros; contradiction) | omega) only [am0, am1, am2, am3, am4, am5, am6, am7, am8, am9, Nat.reduceSub, ↓reduceIte, reduceCtorEq, Nat.reduceEqDiff, Nat.reduceBEq, Nat.reduceAdd, Nat.reduceLT, Nat.reduceBNe, Nat.reduceMul, ↓reduceIte, tis, fls]
        refine callB cO ?_
        simp -implicitDefEqProofs (maxSteps := 100000) (disch := first | (intros; contradiction) | omega) only [am0, am1, am2, am3, am4, am5, am6, am7, am8, am9, Nat.reduceSub, ↓reduceIte, reduceCtorEq, Nat.reduceEqDiff, Nat.reduceBEq, Nat.reduceAdd, Nat.reduceLT, Nat.reduceBNe, Nat.reduceMul, ↓reduceIte, tis, fls, h1]
        refine callB cC ?_
        simp -implicitDefEqProofs (maxSteps := 100000) (disch := first | (intros; contradiction) | omega) only [am0, am1, am2, am3, am4, am5, am6, am7, am8, am9, Nat.reduceSub, ↓reduceIte, reduceCtorEq, Nat.reduceEqDiff, Nat.reduceBEq, Nat.reduceAdd, Nat.reduceLT, Nat.reduceBNe, Nat.reduceMul, ↓reduceIte, tis, fls, h1]
      · rw [if_pos rfl, if_neg (fun h => by rcases h with h | h; exact absurd (hs.symm.trans h) (by decide); exact h2 h)]
        have hm := hf.more w (by omega)
        have cG := fits_goOn _ hm
        have hgi := goF_FI hm
        generalize hc : goF { f with buf := f.buf ++ w } = c at *
        have hcp := (progB_parts hgi.prog).1
        have hco := hgi.out
        have hcb := hgi.base
        have cC2 := fits_feedCopy c (by omega) (by omega)
        unfold eFeed at cC2 cG ⊢
        simp only [hs] at cG ⊢
        refine fits_of_cell 4 72 [] [0, 1, 2, 4, 5, 8, 25] func56 rfl rfl rfl (by show 4 < 35; decide) (by show 2 ≤ 35; decide) (by rfl) (by rfl) (by show 0 ≤ 2; decide) (by rfl) (run_of ?_)
        simp -implicitDefEqProofs (maxSteps := 100000) (disch := first | (intros; contradiction) | omega) only [am0, am1, am2, am3, am4, am5, am6, am7, am8, am9, Nat.reduceSub, ↓reduceIte, reduceCtorEq, Nat.reduceEqDiff, Nat.reduceBEq, Nat.reduceAdd, Nat.reduceLT, Nat.reduceBNe, Nat.reduceMul, ↓reduceIte, tis, fls]
        refine callB cO ?_
        simp -implicitDefEqProofs (maxSteps := 100000) (disch := first | (intros; contradiction) | omega) only [am0, am1, am2, am3, am4, am5, am6, am7, am8, am9, Nat.reduceSub, ↓reduceIte, reduceCtorEq, Nat.reduceEqDiff, Nat.reduceBEq, Nat.reduceAdd, Nat.reduceLT, Nat.reduceBNe, Nat.reduceMul, ↓reduceIte, tis, fls, h1]
        refine callB cC ?_
        simp -implicitDefEqProofs (maxSteps := 100000) (disch := first | (intros; contradiction) | omega) only [am0, am1, am2, am3, am4, am5, am6, am7, am8, am9, Nat.reduceSub, ↓reduceIte, reduceCtorEq, Nat.reduceEqDiff, Nat.reduceBEq, Nat.reduceAdd, Nat.reduceLT, Nat.reduceBNe, Nat.reduceMul, ↓reduceIte, tis, fls, h1]
        refine callM 0 cG ?_
        simp -implicitDefEqProofs (maxSteps := 100000) (disch := first | (intros; contradiction) | omega) only [am0, am1, am2, am3, am4, am5, am6, am7, am8, am9, Nat.reduceSub, ↓reduceIte, reduceCtorEq, Nat.reduceEqDiff, Nat.reduceBEq, Nat.reduceAdd, Nat.reduceLT, Nat.reduceBNe, Nat.reduceMul, ↓reduceIte, tis, fls, List.dropLast_singleton]
        refine callB cC2 ?_
        simp -implicitDefEqProofs (maxSteps := 100000) (disch := first | (intros; contradiction) | omega) only [am0, am1, am2, am3, am4, am5, am6, am7, am8, am9, Nat.reduceSub, ↓reduceIte, reduceCtorEq, Nat.reduceEqDiff, Nat.reduceBEq, Nat.reduceAdd, Nat.reduceLT, Nat.reduceBNe, Nat.reduceMul, ↓reduceIte, tis, fls]
/-- impl.FeedEnd -/
theorem fits_feedEnd (f : Feed) (hp : f.prog.length ≤ 1048576) (hb : f.buf.length ≤ 1048576) (ho : f.out.length ≤ 1048576) : Fits prog 51 [eFeed false f] (eFeed true (endP f)) [] := by
  have cO := fits_feedOk f (by omega) (by omega) (by omega)
  have cC := fits_feedCopy f (by omega) (by omega)
  unfold endP
  cases h1 : feedB f with
  | false =>
    unfold eFeed at cO ⊢
    refine fits_of_cell 2 72 [] [0, 1, 2, 3, 6, 18] func51 rfl rfl rfl (by show 2 < 23; decide) (by show 1 ≤ 23; decide) (by rfl) (by rfl) (by show 0 ≤ 1; decide) (by rfl) (run_of ?_)
    simp -implicitDefEqProofs (maxSteps := 100000) (disch := first | (intros; contradiction) | omega) only [am0, am1, am2, am3, am4, am5, am6, am7, am8, am9, Nat.reduceSub, ↓reduceIte, reduceCtorEq, Nat.reduceEqDiff, Nat.reduceBEq, Nat.reduceAdd, Nat.reduceLT, Nat.reduceBNe, Nat.reduceMul, ↓reduceIte, tis, fls]
    refine callB cO ?_
    simp -implicitDefEqProofs (maxSteps := 100000) (disch := first | (intros; contradiction) | omega) only [am0, am1, am2, am3, am4, am5, am6, am7, am8, am9, Nat.reduceSub, ↓reduceIte, reduceCtorEq, Nat.reduceEqDiff, Nat.reduceBEq, Nat.reduceAdd, Nat.reduceLT, Nat.reduceBNe, Nat.reduceMul, ↓reduceIte, tis, fls, h1, feedZ]
  | true =>
    have hf := feedB_FI h1
    have cG := fits_goOn f hf
    rw [if_pos rfl]
    unfold eFeed at cO cC cG ⊢
    refine fits_of_cell 2 72 [] [0, 1, 2, 3, 6, 18] func51 rfl rfl rfl (by show 2 < 23; decide) (by show 1 ≤ 23; decide) (by rfl) (by rfl) (by show 0 ≤ 1; decide) (by rfl) (run_of ?_)
    simp -implicitDefEqProofs (maxSteps := 100000) (disch := first | (intros; contradiction) | omega) only [am0, am1, am2, am3, am4, am5, am6, am7, am8, am9, Nat.reduceSub, ↓reduceIte, reduceCtorEq, Nat.reduceEqDiff, Nat.reduceBEq, Nat.reduceAdd, Nat.reduceLT, Nat.reduceBNe, Nat.reduceMul, ↓reduceIte, tis, fls]
    refine callB cO ?_
    simp -implicitDefEqProofs (maxSteps := 100000) (disch := first | (intros; contradiction) | omega) only [am0, am1, am2, am3, am4, am5, am6, am7, am8, am9, Nat.reduceSub, ↓reduceIte, reduceCtorEq, Nat.reduceEqDiff, Nat.reduceBEq, Nat.reduceAdd, Nat.reduceLT, Nat.reduceBNe, Nat.reduceMul, ↓reduceIte, tis, fls, h1]
    refine callB cC ?_
    simp -implicitDefEqProofs (maxSteps := 100000) (disch := first | (intros; contradiction) | omega) only [am0, am1, am2, am3, am4, am5, am6, am7, am8, am9, Nat.reduceSub, ↓reduceIte, reduceCtorEq, Nat.reduceEqDiff, Nat.reduceBEq, Nat.reduceAdd, Nat.reduceLT, Nat.reduceBNe, Nat.reduceMul, ↓reduceIte, tis, fls, h1]
    refine callM 0 cG ?_
    simp -implicitDefEqProofs (maxSteps := 100000) (disch := first | (intros; contradiction) | omega) only [am0, am1, am2, am3, am4, am5, am6, am7, am8, am9, Nat.reduceSub, ↓reduceIte, reduceCtorEq, Nat.reduceEqDiff, Nat.reduceBEq, Nat.reduceAdd, Nat.reduceLT, Nat.reduceBNe, Nat.reduceMul, ↓reduceIte, tis, fls, List.dropLast_singleton]
    have hg0 := goF_FI hf
    refine run_loop (α := Feed) (fun g => FI g ∧ endF (goF f) = endF g) (fun g => [(2, .box (.agg [.sl true 0 [], .str [], .int .i64 0, .int .i64 0, .int .i64 0, .int .i64 0, .int .i64 0, .sl true 0 [], .bool false])), (3, .box (.agg [.sl true 4 (g.prog.map eIns), .str g.buf, .int .i64 g.base, .int .i64 g.pc, .int .i64 g.at_, .int .i64 g.rule, .int .i64 g.to, .sl true 3 (g.out.map eToken), .bool g.stuck]))]) muE (goF f) ⟨hg0, rfl⟩ ?_ ?_
    · simp -implicitDefEqProofs (maxSteps := 100000) (disch := first | (intros; contradiction) | omega) only [am0, am1, am2, am3, am4, am5, am6, am7, am8, am9, Nat.reduceSub, ↓reduceIte, reduceCtorEq, Nat.reduceEqDiff, Nat.reduceBEq, Nat.reduceAdd, Nat.reduceLT, Nat.reduceBNe, Nat.reduceMul, ↓reduceIte, tis]
    · rintro g ⟨hg, hge⟩
      have hcp := (progB_parts hg.prog).1
      have hco := hg.out
      have hcb := hg.base
      have cC2 := fits_feedCopy g (by omega) (by omega)
      unfold eFeed at cC2
      by_cases hst : g.stuck = true ∨ g.buf = []
      · rw [endF_stop hst] at hge
        rw [hge]
        rcases hst with hs | hs
        · simp only [hs] at cC2
          simp -implicitDefEqProofs (maxSteps := 100000) (disch := first | (intros; contradiction) | omega) only [am0, am1, am2, am3, am4, am5, am6, am7, am8, am9, Nat.reduceSub, ↓reduceIte, reduceCtorEq, Nat.reduceEqDiff, Nat.reduceBEq, Nat.reduceAdd, Nat.reduceLT, Nat.reduceBNe, Nat.reduceMul, ↓reduceIte, tis, fls, hs]
          refine callB cC2 ?_
          simp -implicitDefEqProofs (maxSteps := 100000) (disch := first | (intros; contradiction) | omega) only [am0, am1, am2, am3, am4, am5, am6, am7, am8, am9, Nat.reduceSub, ↓reduceIte, reduceCtorEq, Nat.reduceEqDiff, Nat.reduceBEq, Nat.reduceAdd, Nat.reduceLT, Nat.reduceBNe, Nat.reduceMul, ↓reduceIte, tis, fls, hs]
        · rcases Bool.eq_false_or_eq_true g.stuck with h2 | h2
          · simp only [hs, h2] at cC2
            simp -implicitDefEqProofs (maxSteps := 100000) (disch := first | (intros; contradiction) | omega) only [am0, am1, am2, am3, am4, am5, am6, am7, am8, am9, Nat.reduceSub, ↓reduceIte, reduceCtorEq, Nat.reduceEqDiff, Nat.reduceBEq, Nat.reduceAdd, Nat.reduceLT, Nat.reduceBNe, Nat.reduceMul, ↓reduceIte, tis, fls, hs, h2]
            refine callB cC2 ?_
            simp -implicitDefEqProofs (maxSteps := 100000) (disch := first | (intros; contradiction) | omega) only [am0, am1, am2, am3, am4, am5, am6, am7, am8, am9, Nat.reduceSub, ↓reduceIte, reduceCtorEq, Nat.reduceEqDiff, Nat.reduceBEq, Nat.reduceAdd, Nat.reduceLT, Nat.reduceBNe, Nat.reduceMul, ↓reduceIte, tis, fls, hs, h2]
          · simp only [hs, h2] at cC2
            simp -implicitDefEqProofs (maxSteps := 100000) (disch := first | (intros; contradiction) | omega) only [am0, am1, am2, am3, am4, am5, am6, am7, am8, am9, Nat.reduceSub, ↓reduceIte, reduceCtorEq, Nat.reduceEqDiff, Nat.reduceBEq, Nat.reduceAdd, Nat.reduceLT, Nat.reduceBNe, Nat.reduceMul, ↓reduceIte, tis, fls, hs, h2]
            refine callB cC2 ?_
            simp -implicitDefEqProofs (maxSteps := 100000) (disch := first | (intros; contradiction) | omega) only [am0, am1, am2, am3, am4, am5, am6, am7, am8, am9, Nat.reduceSub, ↓reduceIte, reduceCtorEq, Nat.reduceEqDiff, Nat.reduceBEq, Nat.reduceAdd, Nat.reduceLT, Nat.reduceBNe, Nat.reduceMul, ↓reduceIte, tis, fls, hs, h2]
      · have h2 : g.stuck = false := by cases hh : g.stuck with | true => exact absurd (.inl hh) hst | false => rfl
        have hb : g.buf ≠ [] := fun e => hst (.inr e)
        have hmu := muE_lt hg h2 hb
        rw [endF_step hg h2 hb] at hge
        have hgc := hg.cut
        have cC3 := fits_cuts g hg
        have cG3 := fits_goOn (cutF g) hgc
        have hgg := goF_FI hgc
        generalize goF (cutF g) = d at *
        generalize cutF g = c at *
        unfold eFeed at cC3 cG3
        simp only [h2] at cC3
        have hb' : (g.buf == []) = false := by simpa using hb
        simp -implicitDefEqProofs (maxSteps := 100000) (disch := first | (intros; contradiction) | omega) only [am0, am1, am2, am3, am4, am5, am6, am7, am8, am9, Nat.reduceSub, ↓reduceIte, reduceCtorEq, Nat.reduceEqDiff, Nat.reduceBEq, Nat.reduceAdd, Nat.reduceLT, Nat.reduceBNe, Nat.reduceMul, ↓reduceIte, tis, fls, h2, hb']
        refine callM 0 cC3 ?_
        simp -implicitDefEqProofs (maxSteps := 100000) (disch := first | (intros; contradiction) | omega) only [am0, am1, am2, am3, am4, am5, am6, am7, am8, am9, Nat.reduceSub, ↓reduceIte, reduceCtorEq, Nat.reduceEqDiff, Nat.reduceBEq, Nat.reduceAdd, Nat.reduceLT, Nat.reduceBNe, Nat.reduceMul, ↓reduceIte, tis, fls, List.dropLast_singleton]
        refine callM 0 cG3 ?_
        simp -implicitDefEqProofs (maxSteps := 100000) (disch := first | (intros; contradiction) | omega) only [am0, am1, am2, am3, am4, am5, am6, am7, am8, am9, Nat.reduceSub, ↓reduceIte, reduceCtorEq, Nat.reduceEqDiff, Nat.reduceBEq, Nat.reduceAdd, Nat.reduceLT, Nat.reduceBNe, Nat.reduceMul, ↓reduceIte, tis, fls, List.dropLast_singleton]
        refine round_normal d ⟨hgg, hge⟩ ?_ hmu
        simp -implicitDefEqProofs (maxSteps := 100000) (disch := first | (intros; contradiction) | omega) only [am0, am1, am2, am3, am4, am5, am6, am7, am8, am9, Nat.reduceSub, ↓reduceIte, reduceCtorEq, Nat.reduceEqDiff, Nat.reduceBEq, Nat.reduceAdd, Nat.reduceLT, Nat.reduceBNe, Nat.reduceMul, ↓reduceIte, tis]
/-- spec.l11Copy -/
theorem fits_l11Copy (f : Feed) (hp : f.prog.length ≤ 1048576) (ho : f.out.length ≤ 1048576) : Fits prog 111 [eFeed false f] (eFeed true f) [] := by
  unfold eFeed
  refine fits_of_cell 2 72 [] [0, 1, 2, 3] func111 rfl rfl rfl (by show 2 < 16; decide) (by show 1 ≤ 16; decide) (by rfl) (by rfl) (by show 0 ≤ 1; decide) (by rfl) (run_of ?_)
  simp -implicitDefEqProofs (maxSteps := 100000) (disch := first | (intros; contradiction) | omega) only [am0, am1, am2, am3, am4, am5, am6, am7, am8, am9, Nat.reduceSub, ↓reduceIte, reduceCtorEq, Nat.reduceEqDiff, Nat.reduceBEq, Nat.reduceAdd, Nat.reduceLT, Nat.reduceBNe, Nat.reduceMul, ↓reduceIte, tis, fls]
/-- spec.l11Cut -/
theorem fits_l11Cut (f : Feed) (h : FI f) : Fits prog 112 [eFeed true f] (eFeed true (cutF f)) [] := by
  have hb := h.base
  have ho := h.out
  have h1 := h.to1
  have h2 := h.at1
  have h3 := h.rule
  unfold eFeed
  by_cases hr : f.rule = -1
  · have e : cutF f = { f with stuck := true } := if_pos hr
    rw [e]
    refine fits_of_cell 2 72 [] [0, 1, 2, 5] func112 rfl rfl rfl (by show 2 < 40; decide) (by show 1 ≤ 40; decide) (by rfl) (by rfl) (by show 0 ≤ 1; decide) (by rfl) (run_of ?_)
    simp -implicitDefEqProofs (maxSteps := 100000) (disch := first | (intros; contradiction) | omega) only [am0, am1, am2, am3, am4, am5, am6, am7, am8, am9, Nat.reduceSub, ↓reduceIte, reduceCtorEq, Nat.reduceEqDiff, Nat.reduceBEq, Nat.reduceAdd, Nat.reduceLT, Nat.reduceBNe, Nat.reduceMul, ↓reduceIte, tis, fls, hr]
  · have e : cutF f = { f with out := f.out ++ [⟨f.rule, f.base, f.base + f.to⟩], base := f.base + f.to, buf := f.buf.drop f.to.toNat, pc := 0, at_ := 0, to := 0, rule := -1 } := if_neg hr
    rw [e]
    refine fits_of_cell 2 72 [] [0, 1, 2, 5] func112 rfl rfl rfl (by show 2 < 40; decide) (by show 1 ≤ 40; decide) (by rfl) (by rfl) (by show 0 ≤ 1; decide) (by rfl) (run_of ?_)
    simp -implicitDefEqProofs (maxSteps := 100000) (disch := first | (intros; contradiction) | omega) only [am0, am1, am2, am3, am4, am5, am6, am7, am8, am9, Nat.reduceSub, ↓reduceIte, reduceCtorEq, Nat.reduceEqDiff, Nat.reduceBEq, Nat.reduceAdd, Nat.reduceLT, Nat.reduceBNe, Nat.reduceMul, ↓reduceIte, tis, fls]
    simp [eToken]
theorem doorB_no4 {p : List Ins} {i : Nat} (hi : i < p.length) (h : doorB p i = true) : p[i].op ≠ 4 := by
  rw [doorB_at hi] at h
  intro e
  rw [e] at h
  exact absurd h (by simp)
/-- The step, and whether it went. -/
def stP (f : Feed) : Feed := if (f.buf.length : Int) ≤ f.at_ then markF f else stepF f
/-- spec.l11Step -/
theorem fits_l11Step (g : Feed) (hg : FI g) : Fits prog 156 [eFeed true g] (.tup [eFeed true (stP g), .bool (decide (¬ (g.buf.length : Int) ≤ g.at_))]) [] := by
  obtain ⟨hp, hget⟩ := hg.get
  have hpc := hg.pc
  have hat := hg.at1
  have hba := hg.base
  have hout := hg.out
  have hlen := (progB_parts hg.prog).1
  have h1 := hg.get1
  have hx : g.prog[g.pc.toNat]? = some g.prog[g.pc.toNat] := List.getElem?_eq_getElem hp
  have hm := hg.mark
  have hms := markF_same g
  have gx : (g.prog.map eIns)[g.pc.toNat]? = some (eIns g.prog[g.pc.toNat]) := by rw [List.getElem?_map, hx]; rfl
  have gl : (g.prog.map eIns).length = g.prog.length := by simp
  simp only [eIns] at gx
  have hb2 : ¬ (g.buf.length : Int) ≤ g.at_ → g.at_.toNat < g.buf.length := by omega
  have hby : byteF g = ((g.buf.getD g.at_.toNat 0).toNat : Int) := rfl
  have hlt : (g.buf.getD g.at_.toNat 0).toNat < 256 := (g.buf.getD g.at_.toNat 0).toNat_lt
  have htF : toF g = goesP g.prog (byteF g) g.prog.length (getP g + 1) := rfl
  rcases hget with ⟨e1, eg, ⟨hq, _⟩, _⟩ | ⟨e2, eg⟩
  · have egi : ((getP g : Nat) : Int) = g.pc + 1 := by rw [eg]; omega
    by_cases h0 : 0 < g.at_
    · have em := markF_1 hx e1 h0
      by_cases hl : (g.buf.length : Int) ≤ g.at_
      · have es : stP g = { g with rule := g.prog[g.pc.toNat].a, to := g.at_ } := by unfold stP; rw [if_pos hl, em]
        rw [es]
        unfold eFeed
        refine fits_of_pair 2 72 3 [] [0, 1, 2, 3, 4, 5, 6, 7, 16, 19, 37, 53, 73, 94, 109] func156 rfl rfl rfl (by show 2 < 119; decide) (by show 3 < 119; decide) (by show 1 ≤ 119; decide) (by rfl) (by rfl) (by show 0 ≤ 1; decide) (by rfl) (run_of ?_)
        simp -implicitDefEqProofs (maxSteps := 100000) (disch := first | (intros; contradiction) | omega) only [am0, am1, am2, am3, am4, am5, am6, am7, am8, am9, Nat.reduceSub, ↓reduceIte, reduceCtorEq, Nat.reduceEqDiff, Nat.reduceBEq, Nat.reduceAdd, Nat.reduceLT, Nat.reduceBNe, Nat.reduceMul, ↓reduceIte, retCB, tis, fls, gx, gl, e1, h0, hl]
      · have es : stP g = stepF g := if_neg hl
        rw [es]
        have hb3 := hb2 hl
        have cC := fits_l11Cut (markF g) hm
        rw [em] at cC
        unfold eFeed at cC ⊢
        refine fits_of_pair 2 72 3 [] [0, 1, 2, 3, 4, 5, 6, 7, 16, 19, 37, 53, 73, 94, 109] func156 rfl rfl rfl (by show 2 < 119; decide) (by show 3 < 119; decide) (by show 1 ≤ 119; decide) (by rfl) (by rfl) (by show 0 ≤ 1; decide) (by rfl) (run_of ?_)
        simp -implicitDefEqProofs (maxSteps := 100000) (disch := first | (intros; contradiction) | omega) only [am0, am1, am2, am3, am4, am5, am6, am7, am8, am9, Nat.reduceSub, ↓reduceIte, reduceCtorEq, Nat.reduceEqDiff, Nat.reduceBEq, Nat.reduceAdd, Nat.reduceLT, Nat.reduceBNe, Nat.reduceMul, ↓reduceIte, retCB, tis, fls, gx, gl, e1, h0, hl]
        refine run_loop (α := Nat × Nat) (fun x => toF g = goesP g.prog (byteF g) x.1 x.2 ∧ getP g + 1 ≤ x.2 ∧ x.2 < g.prog.length ∧ g.prog.length ≤ x.1 + x.2 ∧ ∀ k (hk : k < g.prog.length), getP g + 1 ≤ k → k < x.2 → g.prog[k].op = 3) (fun x => [(1, .box (.agg [.sl true 4 (g.prog.map eIns), .str g.buf, .int .i64 g.base, .int .i64 g.pc, .int .i64 g.at_, .int .i64 g.prog[g.pc.toNat].a, .int .i64 g.at_, .sl true 3 (g.out.map eToken), .bool g.stuck])), (2, .box (.agg [.sl true 0 [], .str [], .int .i64 0, .int .i64 0, .int .i64 0, .int .i64 0, .int .i64 0, .sl true 0 [], .bool false])), (3, .bool false), (4, .int .i64 (g.pc + 1)), (5, .int .i64 ((g.buf.getD g.at_.toNat 0).toNat : Int)), (6, .int .i64 x.2)]) (fun x => g.prog.length - x.2) (g.prog.length, getP g + 1) ⟨htF, Nat.le_refl _, h1, by simp only; omega, fun k _ a b => by simp only at b; omega⟩ ?_ ?_
        · simp -implicitDefEqProofs (maxSteps := 100000) (disch := first | (intros; contradiction) | omega) only [am0, am1, am2, am3, am4, am5, am6, am7, am8, am9, Nat.reduceSub, ↓reduceIte, reduceCtorEq, Nat.reduceEqDiff, Nat.reduceBEq, Nat.reduceAdd, Nat.reduceLT, Nat.reduceBNe, Nat.reduceMul, ↓reduceIte, tis, egi]
        · rintro ⟨n, i⟩ ⟨j1, j2, j3, j4, j5⟩
          simp only at j1 j2 j3 j4 j5
          obtain ⟨n, rfl⟩ : ∃ k, n = k + 1 := ⟨n - 1, by omega⟩
          rw [goesP_at j3] at j1
          by_cases h5 : g.prog[i].op = 3
          · rw [if_pos h5] at j1
            have hn := last_stop hg.prog j3 (by rw [h5]; decide)
            by_cases h6 : g.prog[i].a ≤ byteF g ∧ byteF g ≤ g.prog[i].b
            · rw [if_pos h6] at j1
              have ht : ¬ toF g < 0 := by
                have hi := (progB_parts hg.prog).2.2.2 _ j3
                rw [j1, insB_at j3] at *
                simp [h5, doorI] at hi
                omega
              rw [stepF_2 ht, em]
              rw [hby] at h6
              simp -implicitDefEqProofs (maxSteps := 100000) (disch := first | (intros; contradiction) | omega) only [am0, am1, am2, am3, am4, am5, am6, am7, am8, am9, Nat.reduceSub, ↓reduceIte, reduceCtorEq, Nat.reduceEqDiff, Nat.reduceBEq, Nat.reduceAdd, Nat.reduceLT, Nat.reduceBNe, Nat.reduceMul, ↓reduceIte, retCB, tis, fls, eIns, h5, h6, j1]
            · rw [if_neg h6] at j1
              rw [hby] at h6
              have nx : goesP g.prog (byteF g) n (i + 1) = goesP g.prog (byteF g) n (i + 1) := rfl
              by_cases h7 : g.prog[i].a ≤ ((g.buf.getD g.at_.toNat 0).toNat : Int)
              · have h8 : ¬ ((g.buf.getD g.at_.toNat 0).toNat : Int) ≤ g.prog[i].b := fun h => h6 ⟨h7, h⟩
                simp -implicitDefEqProofs (maxSteps := 100000) (disch := first | (intros; contradiction) | omega) only [am0, am1, am2, am3, am4, am5, am6, am7, am8, am9, Nat.reduceSub, ↓reduceIte, reduceCtorEq, Nat.reduceEqDiff, Nat.reduceBEq, Nat.reduceAdd, Nat.reduceLT, Nat.reduceBNe, Nat.reduceMul, ↓reduceIte, retCB, tis, fls, eIns, h5, h7, h8]
                refine round_normal (n, i + 1) ⟨j1, by simp only; omega, hn, by simp only; omega, fun k hk a b => by simp only at b; rcases Nat.lt_or_ge k i with h | h; exact j5 k hk a h; (have : k = i := by omega); subst this; exact h5⟩ ?_ (by show g.prog.length - (i + 1) < g.prog.length - i; omega)
                simp -implicitDefEqProofs (maxSteps := 100000) (disch := first | (intros; contradiction) | omega) only [am0, am1, am2, am3, am4, am5, am6, am7, am8, am9, Nat.reduceSub, ↓reduceIte, reduceCtorEq, Nat.reduceEqDiff, Nat.reduceBEq, Nat.reduceAdd, Nat.reduceLT, Nat.reduceBNe, Nat.reduceMul, ↓reduceIte, tis]
              · simp -implicitDefEqProofs (maxSteps := 100000) (disch := first | (intros; contradiction) | omega) only [am0, am1, am2, am3, am4, am5, am6, am7, am8, am9, Nat.reduceSub, ↓reduceIte, reduceCtorEq, Nat.reduceEqDiff, Nat.reduceBEq, Nat.reduceAdd, Nat.reduceLT, Nat.reduceBNe, Nat.reduceMul, ↓reduceIte, retCB, tis, fls, eIns, h5, h7]
                refine round_normal (n, i + 1) ⟨j1, by simp only; omega, hn, by simp only; omega, fun k hk a b => by simp only at b; rcases Nat.lt_or_ge k i with h | h; exact j5 k hk a h; (have : k = i := by omega); subst this; exact h5⟩ ?_ (by show g.prog.length - (i + 1) < g.prog.length - i; omega)
                simp -implicitDefEqProofs (maxSteps := 100000) (disch := first | (intros; contradiction) | omega) only [am0, am1, am2, am3, am4, am5, am6, am7, am8, am9, Nat.reduceSub, ↓reduceIte, reduceCtorEq, Nat.reduceEqDiff, Nat.reduceBEq, Nat.reduceAdd, Nat.reduceLT, Nat.reduceBNe, Nat.reduceMul, ↓reduceIte, tis]
          · rw [if_neg h5] at j1
            have cD := fits_sDoor g.prog i (by omega) j3
            simp -implicitDefEqProofs (maxSteps := 100000) (disch := first | (intros; contradiction) | omega) only [am0, am1, am2, am3, am4, am5, am6, am7, am8, am9, Nat.reduceSub, ↓reduceIte, reduceCtorEq, Nat.reduceEqDiff, Nat.reduceBEq, Nat.reduceAdd, Nat.reduceLT, Nat.reduceBNe, Nat.reduceMul, ↓reduceIte, retCB, tis, fls, eIns, h5]
            refine run_loop (α := Nat) (fun k => getP g + 1 ≤ k ∧ k ≤ i) (fun k => [(1, .box (.agg [.sl true 4 (g.prog.map eIns), .str g.buf, .int .i64 g.base, .int .i64 g.pc, .int .i64 g.at_, .int .i64 g.prog[g.pc.toNat].a, .int .i64 g.at_, .sl true 3 (g.out.map eToken), .bool g.stuck])), (2, .box (.agg [.sl true 0 [], .str [], .int .i64 0, .int .i64 0, .int .i64 0, .int .i64 0, .int .i64 0, .sl true 0 [], .bool false])), (3, .bool false), (7, .int .i64 k)]) (fun k => i - k) (getP g + 1) ⟨Nat.le_refl _, j2⟩ ?_ ?_
            · simp -implicitDefEqProofs (maxSteps := 100000) (disch := first | (intros; contradiction) | omega) only [am0, am1, am2, am3, am4, am5, am6, am7, am8, am9, Nat.reduceSub, ↓reduceIte, reduceCtorEq, Nat.reduceEqDiff, Nat.reduceBEq, Nat.reduceAdd, Nat.reduceLT, Nat.reduceBNe, Nat.reduceMul, ↓reduceIte, tis, egi]
            · rintro k ⟨k1, k2⟩
              have k3 : k < g.prog.length := by omega
              rcases Nat.lt_or_ge k i with hk | hk
              · have h7 := j5 k k3 k1 hk
                simp -implicitDefEqProofs (maxSteps := 100000) (disch := first | (intros; contradiction) | omega) only [am0, am1, am2, am3, am4, am5, am6, am7, am8, am9, Nat.reduceSub, ↓reduceIte, reduceCtorEq, Nat.reduceEqDiff, Nat.reduceBEq, Nat.reduceAdd, Nat.reduceLT, Nat.reduceBNe, Nat.reduceMul, ↓reduceIte, retCB, tis, fls, eIns, h7]
                refine round_normal (k + 1) ⟨by omega, by omega⟩ ?_ (by show i - (k + 1) < i - k; omega)
                simp -implicitDefEqProofs (maxSteps := 100000) (disch := first | (intros; contradiction) | omega) only [am0, am1, am2, am3, am4, am5, am6, am7, am8, am9, Nat.reduceSub, ↓reduceIte, reduceCtorEq, Nat.reduceEqDiff, Nat.reduceBEq, Nat.reduceAdd, Nat.reduceLT, Nat.reduceBNe, Nat.reduceMul, ↓reduceIte, tis]
              · obtain rfl : k = i := by omega
                simp -implicitDefEqProofs (maxSteps := 100000) (disch := first | (intros; contradiction) | omega) only [am0, am1, am2, am3, am4, am5, am6, am7, am8, am9, Nat.reduceSub, ↓reduceIte, reduceCtorEq, Nat.reduceEqDiff, Nat.reduceBEq, Nat.reduceAdd, Nat.reduceLT, Nat.reduceBNe, Nat.reduceMul, ↓reduceIte, retCB, tis, fls, eIns, h5]
                refine callB cD ?_
                cases hd : doorB g.prog k with
                | true =>
                  rw [if_pos hd] at j1
                  have h4 := doorB_no4 j3 hd
                  have ht : ¬ toF g < 0 := by rw [j1]; omega
                  rw [stepF_2 ht, em]
                  simp -implicitDefEqProofs (maxSteps := 100000) (disch := first | (intros; contradiction) | omega) only [am0, am1, am2, am3, am4, am5, am6, am7, am8, am9, Nat.reduceSub, ↓reduceIte, reduceCtorEq, Nat.reduceEqDiff, Nat.reduceBEq, Nat.reduceAdd, Nat.reduceLT, Nat.reduceBNe, Nat.reduceMul, ↓reduceIte, retCB, tis, fls, eIns, h4, j1]
                | false =>
                  rw [if_neg (by simp [hd])] at j1
                  have ht : toF g < 0 := by rw [j1]; omega
                  rw [stepF_1 ht, em]
                  simp -implicitDefEqProofs (maxSteps := 100000) (disch := first | (intros; contradiction) | omega) only [am0, am1, am2, am3, am4, am5, am6, am7, am8, am9, Nat.reduceSub, ↓reduceIte, reduceCtorEq, Nat.reduceEqDiff, Nat.reduceBEq, Nat.reduceAdd, Nat.reduceLT, Nat.reduceBNe, Nat.reduceMul, ↓reduceIte, retCB, tis, fls]
                  refine callV cC ?_
                  simp -implicitDefEqProofs (maxSteps := 100000) (disch := first | (intros; contradiction) | omega) only [am0, am1, am2, am3, am4, am5, am6, am7, am8, am9, Nat.reduceSub, ↓reduceIte, reduceCtorEq, Nat.reduceEqDiff, Nat.reduceBEq, Nat.reduceAdd, Nat.reduceLT, Nat.reduceBNe, Nat.reduceMul, ↓reduceIte, retCB, tis, fls]
    · have em := markF_2 hx (fun h => h0 h.2)
      by_cases hl : (g.buf.length : Int) ≤ g.at_
      · have es : stP g = g := by unfold stP; rw [if_pos hl, em]
        rw [es]
        unfold eFeed
        refine fits_of_pair 2 72 3 [] [0, 1, 2, 3, 4, 5, 6, 7, 16, 19, 37, 53, 73, 94, 109] func156 rfl rfl rfl (by show 2 < 119; decide) (by show 3 < 119; decide) (by show 1 ≤ 119; decide) (by rfl) (by rfl) (by show 0 ≤ 1; decide) (by rfl) (run_of ?_)
        simp -implicitDefEqProofs (maxSteps := 100000) (disch := first | (intros; contradiction) | omega) only [am0, am1, am2, am3, am4, am5, am6, am7, am8, am9, Nat.reduceSub, ↓reduceIte, reduceCtorEq, Nat.reduceEqDiff, Nat.reduceBEq, Nat.reduceAdd, Nat.reduceLT, Nat.reduceBNe, Nat.reduceMul, ↓reduceIte, retCB, tis, fls, gx, gl, e1, h0, hl]
      · have es : stP g = stepF g := if_neg hl
        rw [es]
        have hb3 := hb2 hl
        have cC := fits_l11Cut (markF g) hm
        rw [em] at cC
        unfold eFeed at cC ⊢
        refine fits_of_pair 2 72 3 [] [0, 1, 2, 3, 4, 5, 6, 7, 16, 19, 37, 53, 73, 94, 109] func156 rfl rfl rfl (by show 2 < 119; decide) (by show 3 < 119; decide) (by show 1 ≤ 119; decide) (by rfl) (by rfl) (by show 0 ≤ 1; decide) (by rfl) (run_of ?_)
        simp -implicitDefEqProofs (maxSteps := 100000) (disch := first | (intros; contradiction) | omega) only [am0, am1, am2, am3, am4, am5, am6, am7, am8, am9, Nat.reduceSub, ↓reduceIte, reduceCtorEq, Nat.reduceEqDiff, Nat.reduceBEq, Nat.reduceAdd, Nat.reduceLT, Nat.reduceBNe, Nat.reduceMul, ↓reduceIte, retCB, tis, fls, gx, gl, e1, h0, hl]
        refine run_loop (α := Nat × Nat) (fun x => toF g = goesP g.prog (byteF g) x.1 x.2 ∧ getP g + 1 ≤ x.2 ∧ x.2 < g.prog.length ∧ g.prog.length ≤ x.1 + x.2 ∧ ∀ k (hk : k < g.prog.length), getP g + 1 ≤ k → k < x.2 → g.prog[k].op = 3) (fun x => [(1, .box (.agg [.sl true 4 (g.prog.map eIns), .str g.buf, .int .i64 g.base, .int .i64 g.pc, .int .i64 g.at_, .int .i64 g.rule, .int .i64 g.to, .sl true 3 (g.out.map eToken), .bool g.stuck])), (2, .box (.agg [.sl true 0 [], .str [], .int .i64 0, .int .i64 0, .int .i64 0, .int .i64 0, .int .i64 0, .sl true 0 [], .bool false])), (3, .bool false), (4, .int .i64 (g.pc + 1)), (5, .int .i64 ((g.buf.getD g.at_.toNat 0).toNat : Int)), (6, .int .i64 x.2)]) (fun x => g.prog.length - x.2) (g.prog.length, getP g + 1) ⟨htF, Nat.le_refl _, h1, by simp only; omega, fun k _ a b => by simp only at b; omega⟩ ?_ ?_
        · simp -implicitDefEqProofs (maxSteps := 100000) (disch := first | (intros; contradiction) | omega) only [am0, am1, am2, am3, am4, am5, am6, am7, am8, am9, Nat.reduceSub, ↓reduceIte, reduceCtorEq, Nat.reduceEqDiff, Nat.reduceBEq, Nat.reduceAdd, Nat.reduceLT, Nat.reduceBNe, Nat.reduceMul, ↓reduceIte, tis, egi]
        · rintro ⟨n, i⟩ ⟨j1, j2, j3, j4, j5⟩
          simp only at j1 j2 j3 j4 j5
          obtain ⟨n, rfl⟩ : ∃ k, n = k + 1 := ⟨n - 1, by omega⟩
          rw [goesP_at j3] at j1
          by_cases h5 : g.prog[i].op = 3
          · rw [if_pos h5] at j1
            have hn := last_stop hg.prog j3 (by rw [h5]; decide)
            by_cases h6 : g.prog[i].a ≤ byteF g ∧ byteF g ≤ g.prog[i].b
            · rw [if_pos h6] at j1
              have ht : ¬ toF g < 0 := by
                have hi := (progB_parts hg.prog).2.2.2 _ j3
                rw [j1, insB_at j3] at *
                simp [h5, doorI] at hi
                omega
              rw [stepF_2 ht, em]
              rw [hby] at h6
              simp -implicitDefEqProofs (maxSteps := 100000) (disch := first | (intros; contradiction) | omega) only [am0, am1, am2, am3, am4, am5, am6, am7, am8, am9, Nat.reduceSub, ↓reduceIte, reduceCtorEq, Nat.reduceEqDiff, Nat.reduceBEq, Nat.reduceAdd, Nat.reduceLT, Nat.reduceBNe, Nat.reduceMul, ↓reduceIte, retCB, tis, fls, eIns, h5, h6, j1]
            · rw [if_neg h6] at j1
              rw [hby] at h6
              have nx : goesP g.prog (byteF g) n (i + 1) = goesP g.prog (byteF g) n (i + 1) := rfl
              by_cases h7 : g.prog[i].a ≤ ((g.buf.getD g.at_.toNat 0).toNat : Int)
              · have h8 : ¬ ((g.buf.getD g.at_.toNat 0).toNat : Int) ≤ g.prog[i].b := fun h => h6 ⟨h7, h⟩
                simp -implicitDefEqProofs (maxSteps := 100000) (disch := first | (intros; contradiction) | omega) only [am0, am1, am2, am3, am4, am5, am6, am7, am8, am9, Nat.reduceSub, ↓reduceIte, reduceCtorEq, Nat.reduceEqDiff, Nat.reduceBEq, Nat.reduceAdd, Nat.reduceLT, Nat.reduceBNe, Nat.reduceMul, ↓reduceIte, retCB, tis, fls, eIns, h5, h7, h8]
                refine round_normal (n, i + 1) ⟨j1, by simp only; omega, hn, by simp only; omega, fun k hk a b => by simp only at b; rcases Nat.lt_or_ge k i with h | h; exact j5 k hk a h; (have : k = i := by omega); subst this; exact h5⟩ ?_ (by show g.prog.length - (i + 1) < g.prog.length - i; omega)
                simp -implicitDefEqProofs (maxSteps := 100000) (disch := first | (intros; contradiction) | omega) only [am0, am1, am2, am3, am4, am5, am6, am7, am8, am9, Nat.reduceSub, ↓reduceIte, reduceCtorEq, Nat.reduceEqDiff, Nat.reduceBEq, Nat.reduceAdd, Nat.reduceLT, Nat.reduceBNe, Nat.reduceMul, ↓reduceIte, tis]
              · simp -implicitDefEqProofs (maxSteps := 100000) (disch := first | (intros; contradiction) | omega) only [am0, am1, am2, am3, am4, am5, am6, am7, am8, am9, Nat.reduceSub, ↓reduceIte, reduceCtorEq, Nat.reduceEqDiff, Nat.reduceBEq, Nat.reduceAdd, Nat.reduceLT, Nat.reduceBNe, Nat.reduceMul, ↓reduceIte, retCB, tis, fls, eIns, h5, h7]
                refine round_normal (n, i + 1) ⟨j1, by simp only; omega, hn, by simp only; omega, fun k hk a b => by simp only at b; rcases Nat.lt_or_ge k i with h | h; exact j5 k hk a h; (have : k = i := by omega); subst this; exact h5⟩ ?_ (by show g.prog.length - (i + 1) < g.prog.length - i; omega)
                simp -implicitDefEqProofs (maxSteps := 100000) (disch := first | (intros; contradiction) | omega) only [am0, am1, am2, am3, am4, am5, am6, am7, am8, am9, Nat.reduceSub, ↓reduceIte, reduceCtorEq, Nat.reduceEqDiff, Nat.reduceBEq, Nat.reduceAdd, Nat.reduceLT, Nat.reduceBNe, Nat.reduceMul, ↓reduceIte, tis]
          · rw [if_neg h5] at j1
            have cD := fits_sDoor g.prog i (by omega) j3
            simp -implicitDefEqProofs (maxSteps := 100000) (disch := first | (intros; contradiction) | omega) only [am0, am1, am2, am3, am4, am5, am6, am7, am8, am9, Nat.reduceSub, ↓reduceIte, reduceCtorEq, Nat.reduceEqDiff, Nat.reduceBEq, Nat.reduceAdd, Nat.reduceLT, Nat.reduceBNe, Nat.reduceMul, ↓reduceIte, retCB, tis, fls, eIns, h5]
            refine run_loop (α := Nat) (fun k => getP g + 1 ≤ k ∧ k ≤ i) (fun k => [(1, .box (.agg [.sl true 4 (g.prog.map eIns), .str g.buf, .int .i64 g.base, .int .i64 g.pc, .int .i64 g.at_, .int .i64 g.rule, .int .i64 g.to, .sl true 3 (g.out.map eToken), .bool g.stuck])), (2, .box (.agg [.sl true 0 [], .str [], .int .i64 0, .int .i64 0, .int .i64 0, .int .i64 0, .int .i64 0, .sl true 0 [], .bool false])), (3, .bool false), (7, .int .i64 k)]) (fun k => i - k) (getP g + 1) ⟨Nat.le_refl _, j2⟩ ?_ ?_
            · simp -implicitDefEqProofs (maxSteps := 100000) (disch := first | (intros; contradiction) | omega) only [am0, am1, am2, am3, am4, am5, am6, am7, am8, am9, Nat.reduceSub, ↓reduceIte, reduceCtorEq, Nat.reduceEqDiff, Nat.reduceBEq, Nat.reduceAdd, Nat.reduceLT, Nat.reduceBNe, Nat.reduceMul, ↓reduceIte, tis, egi]
            · rintro k ⟨k1, k2⟩
              have k3 : k < g.prog.length := by omega
              rcases Nat.lt_or_ge k i with hk | hk
              · have h7 := j5 k k3 k1 hk
                simp -implicitDefEqProofs (maxSteps := 100000) (disch := first | (intros; contradiction) | omega) only [am0, am1, am2, am3, am4, am5, am6, am7, am8, am9, Nat.reduceSub, ↓reduceIte, reduceCtorEq, Nat.reduceEqDiff, Nat.reduceBEq, Nat.reduceAdd, Nat.reduceLT, Nat.reduceBNe, Nat.reduceMul, ↓reduceIte, retCB, tis, fls, eIns, h7]
                refine round_normal (k + 1) ⟨by omega, by omega⟩ ?_ (by show i - (k + 1) < i - k; omega)
                simp -implicitDefEqProofs (maxSteps := 100000) (disch := first | (intros; contradiction) | omega) only [am0, am1, am2, am3, am4, am5, am6, am7, am8, am9, Nat.reduceSub, ↓reduceIte, reduceCtorEq, Nat.reduceEqDiff, Nat.reduceBEq, Nat.reduceAdd, Nat.reduceLT, Nat.reduceBNe, Nat.reduceMul, ↓reduceIte, tis]
              · obtain rfl : k = i := by omega
                simp -implicitDefEqProofs (maxSteps := 100000) (disch := first | (intros; contradiction) | omega) only [am0, am1, am2, am3, am4, am5, am6, am7, am8, am9, Nat.reduceSub, ↓reduceIte, reduceCtorEq, Nat.reduceEqDiff, Nat.reduceBEq, Nat.reduceAdd, Nat.reduceLT, Nat.reduceBNe, Nat.reduceMul, ↓reduceIte, retCB, tis, fls, eIns, h5]
                refine callB cD ?_
                cases hd : doorB g.prog k with
                | true =>
                  rw [if_pos hd] at j1
                  have h4 := doorB_no4 j3 hd
                  have ht : ¬ toF g < 0 := by rw [j1]; omega
                  rw [stepF_2 ht, em]
                  simp -implicitDefEqProofs (maxSteps := 100000) (disch := first | (intros; contradiction) | omega) only [am0, am1, am2, am3, am4, am5, am6, am7, am8, am9, Nat.reduceSub, ↓reduceIte, reduceCtorEq, Nat.reduceEqDiff, Nat.reduceBEq, Nat.reduceAdd, Nat.reduceLT, Nat.reduceBNe, Nat.reduceMul, ↓reduceIte, retCB, tis, fls, eIns, h4, j1]
                | false =>
                  rw [if_neg (by simp [hd])] at j1
                  have ht : toF g < 0 := by rw [j1]; omega
                  rw [stepF_1 ht, em]
                  simp -implicitDefEqProofs (maxSteps := 100000) (disch := first | (intros; contradiction) | omega) only [am0, am1, am2, am3, am4, am5, am6, am7, am8, am9, Nat.reduceSub, ↓reduceIte, reduceCtorEq, Nat.reduceEqDiff, Nat.reduceBEq, Nat.reduceAdd, Nat.reduceLT, Nat.reduceBNe, Nat.reduceMul, ↓reduceIte, retCB, tis, fls]
                  refine callV cC ?_
                  simp -implicitDefEqProofs (maxSteps := 100000) (disch := first | (intros; contradiction) | omega) only [am0, am1, am2, am3, am4, am5, am6, am7, am8, am9, Nat.reduceSub, ↓reduceIte, reduceCtorEq, Nat.reduceEqDiff, Nat.reduceBEq, Nat.reduceAdd, Nat.reduceLT, Nat.reduceBNe, Nat.reduceMul, ↓reduceIte, retCB, tis, fls]
  · have egi : ((getP g : Nat) : Int) = g.pc := by rw [eg]; omega
    have em := markF_2 hx (fun h => by rw [e2] at h; exact absurd h.1 (by decide))
    by_cases hl : (g.buf.length : Int) ≤ g.at_
    · have es : stP g = g := by unfold stP; rw [if_pos hl, em]
      rw [es]
      unfold eFeed
      refine fits_of_pair 2 72 3 [] [0, 1, 2, 3, 4, 5, 6, 7, 16, 19, 37, 53, 73, 94, 109] func156 rfl rfl rfl (by show 2 < 119; decide) (by show 3 < 119; decide) (by show 1 ≤ 119; decide) (by rfl) (by rfl) (by show 0 ≤ 1; decide) (by rfl) (run_of ?_)
      simp -implicitDefEqProofs (maxSteps := 100000) (disch := first | (intros; contradiction) | omega) only [am0, am1, am2, am3, am4, am5, am6, am7, am8, am9, Nat.reduceSub, ↓reduceIte, reduceCtorEq, Nat.reduceEqDiff, Nat.reduceBEq, Nat.reduceAdd, Nat.reduceLT, Nat.reduceBNe, Nat.reduceMul, ↓reduceIte, retCB, tis, fls, gx, gl, e2, hl]
    · have es : stP g = stepF g := if_neg hl
      rw [es]
      have hb3 := hb2 hl
      have cC := fits_l11Cut (markF g) hm
      rw [em] at cC
      unfold eFeed at cC ⊢
      refine fits_of_pair 2 72 3 [] [0, 1, 2, 3, 4, 5, 6, 7, 16, 19, 37, 53, 73, 94, 109] func156 rfl rfl rfl (by show 2 < 119; decide) (by show 3 < 119; decide) (by show 1 ≤ 119; decide) (by rfl) (by rfl) (by show 0 ≤ 1; decide) (by rfl) (run_of ?_)
      simp -implicitDefEqProofs (maxSteps := 100000) (disch := first | (intros; contradiction) | omega) only [am0, am1, am2, am3, am4, am5, am6, am7, am8, am9, Nat.reduceSub, ↓reduceIte, reduceCtorEq, Nat.reduceEqDiff, Nat.reduceBEq, Nat.reduceAdd, Nat.reduceLT, Nat.reduceBNe, Nat.reduceMul, ↓reduceIte, retCB, tis, fls, gx, gl, e2, hl]
      refine run_loop (α := Nat × Nat) (fun x => toF g = goesP g.prog (byteF g) x.1 x.2 ∧ getP g + 1 ≤ x.2 ∧ x.2 < g.prog.length ∧ g.prog.length ≤ x.1 + x.2 ∧ ∀ k (hk : k < g.prog.length), getP g + 1 ≤ k → k < x.2 → g.prog[k].op = 3) (fun x => [(1, .box (.agg [.sl true 4 (g.prog.map eIns), .str g.buf, .int .i64 g.base, .int .i64 g.pc, .int .i64 g.at_, .int .i64 g.rule, .int .i64 g.to, .sl true 3 (g.out.map eToken), .bool g.stuck])), (2, .box (.agg [.sl true 0 [], .str [], .int .i64 0, .int .i64 0, .int .i64 0, .int .i64 0, .int .i64 0, .sl true 0 [], .bool false])), (3, .bool false), (4, .int .i64 g.pc), (5, .int .i64 ((g.buf.getD g.at_.toNat 0).toNat : Int)), (6, .int .i64 x.2)]) (fun x => g.prog.length - x.2) (g.prog.length, getP g + 1) ⟨htF, Nat.le_refl _, h1, by simp only; omega, fun k _ a b => by simp only at b; omega⟩ ?_ ?_
      · simp -implicitDefEqProofs (maxSteps := 100000) (disch := first | (intros; contradiction) | omega) only [am0, am1, am2, am3, am4, am5, am6, am7, am8, am9, Nat.reduceSub, ↓reduceIte, reduceCtorEq, Nat.reduceEqDiff, Nat.reduceBEq, Nat.reduceAdd, Nat.reduceLT, Nat.reduceBNe, Nat.reduceMul, ↓reduceIte, tis, egi]
      · rintro ⟨n, i⟩ ⟨j1, j2, j3, j4, j5⟩
        simp only at j1 j2 j3 j4 j5
        obtain ⟨n, rfl⟩ : ∃ k, n = k + 1 := ⟨n - 1, by omega⟩
        rw [goesP_at j3] at j1
        by_cases h5 : g.prog[i].op = 3
        · rw [if_pos h5] at j1
          have hn := last_stop hg.prog j3 (by rw [h5]; decide)
          by_cases h6 : g.prog[i].a ≤ byteF g ∧ byteF g ≤ g.prog[i].b
          · rw [if_pos h6] at j1
            have ht : ¬ toF g < 0 := by
              have hi := (progB_parts hg.prog).2.2.2 _ j3
              rw [j1, insB_at j3] at *
              simp [h5, doorI] at hi
              omega
            rw [stepF_2 ht, em]
            rw [hby] at h6
            simp -implicitDefEqProofs (maxSteps := 100000) (disch := first | (intros; contradiction) | omega) only [am0, am1, am2, am3, am4, am5, am6, am7, am8, am9, Nat.reduceSub, ↓reduceIte, reduceCtorEq, Nat.reduceEqDiff, Nat.reduceBEq, Nat.reduceAdd, Nat.reduceLT, Nat.reduceBNe, Nat.reduceMul, ↓reduceIte, retCB, tis, fls, eIns, h5, h6, j1]
          · rw [if_neg h6] at j1
            rw [hby] at h6
            have nx : goesP g.prog (byteF g) n (i + 1) = goesP g.prog (byteF g) n (i + 1) := rfl
            by_cases h7 : g.prog[i].a ≤ ((g.buf.getD g.at_.toNat 0).toNat : Int)
            · have h8 : ¬ ((g.buf.getD g.at_.toNat 0).toNat : Int) ≤ g.prog[i].b := fun h => h6 ⟨h7, h⟩
              simp -implicitDefEqProofs (maxSteps := 100000) (disch := first | (intros; contradiction) | omega) only [am0, am1, am2, am3, am4, am5, am6, am7, am8, am9, Nat.reduceSub, ↓reduceIte, reduceCtorEq, Nat.reduceEqDiff, Nat.reduceBEq, Nat.reduceAdd, Nat.reduceLT, Nat.reduceBNe, Nat.reduceMul, ↓reduceIte, retCB, tis, fls, eIns, h5, h7, h8]
              refine round_normal (n, i + 1) ⟨j1, by simp only; omega, hn, by simp only; omega, fun k hk a b => by simp only at b; rcases Nat.lt_or_ge k i with h | h; exact j5 k hk a h; (have : k = i := by omega); subst this; exact h5⟩ ?_ (by show g.prog.length - (i + 1) < g.prog.length - i; omega)
              simp -implicitDefEqProofs (maxSteps := 100000) (disch := first | (intros; contradiction) | omega) only [am0, am1, am2, am3, am4, am5, am6, am7, am8, am9, Nat.reduceSub, ↓reduceIte, reduceCtorEq, Nat.reduceEqDiff, Nat.reduceBEq, Nat.reduceAdd, Nat.reduceLT, Nat.reduceBNe, Nat.reduceMul, ↓reduceIte, tis]
            · simp -implicitDefEqProofs (maxSteps := 100000) (disch := first | (intros; contradiction) | omega) only [am0, am1, am2, am3, am4, am5, am6, am7, am8, am9, Nat.reduceSub, ↓reduceIte, reduceCtorEq, Nat.reduceEqDiff, Nat.reduceBEq, Nat.reduceAdd, Nat.reduceLT, Nat.reduceBNe, Nat.reduceMul, ↓reduceIte, retCB, tis, fls, eIns, h5, h7]
              refine round_normal (n, i + 1) ⟨j1, by simp only; omega, hn, by simp only; omega, fun k hk a b => by simp only at b; rcases Nat.lt_or_ge k i with h | h; exact j5 k hk a h; (have : k = i := by omega); subst this; exact h5⟩ ?_ (by show g.prog.length - (i + 1) < g.prog.length - i; omega)
              simp -implicitDefEqProofs (maxSteps := 100000) (disch := first | (intros; contradiction) | omega) only [am0, am1, am2, am3, am4, am5, am6, am7, am8, am9, Nat.reduceSub, ↓reduceIte, reduceCtorEq, Nat.reduceEqDiff, Nat.reduceBEq, Nat.reduceAdd, Nat.reduceLT, Nat.reduceBNe, Nat.reduceMul, ↓reduceIte, tis]
        · rw [if_neg h5] at j1
          have cD := fits_sDoor g.prog i (by omega) j3
          simp -implicitDefEqProofs (maxSteps := 100000) (disch := first | (intros; contradiction) | omega) only [am0, am1, am2, am3, am4, am5, am6, am7, am8, am9, Nat.reduceSub, ↓reduceIte, reduceCtorEq, Nat.reduceEqDiff, Nat.reduceBEq, Nat.reduceAdd, Nat.reduceLT, Nat.reduceBNe, Nat.reduceMul, ↓reduceIte, retCB, tis, fls, eIns, h5]
          refine run_loop (α := Nat) (fun k => getP g + 1 ≤ k ∧ k ≤ i) (fun k => [(1, .box (.agg [.sl true 4 (g.prog.map eIns), .str g.buf, .int .i64 g.base, .int .i64 g.pc, .int .i64 g.at_, .int .i64 g.rule, .int .i64 g.to, .sl true 3 (g.out.map eToken), .bool g.stuck])), (2, .box (.agg [.sl true 0 [], .str [], .int .i64 0, .int .i64 0, .int .i64 0, .int .i64 0, .int .i64 0, .sl true 0 [], .bool false])), (3, .bool false), (7, .int .i64 k)]) (fun k => i - k) (getP g + 1) ⟨Nat.le_refl _, j2⟩ ?_ ?_
          · simp -implicitDefEqProofs (maxSteps := 100000) (disch := first | (intros; contradiction) | omega) only [am0, am1, am2, am3, am4, am5, am6, am7, am8, am9, Nat.reduceSub, ↓reduceIte, reduceCtorEq, Nat.reduceEqDiff, Nat.reduceBEq, Nat.reduceAdd, Nat.reduceLT, Nat.reduceBNe, Nat.reduceMul, ↓reduceIte, tis, egi]
          · rintro k ⟨k1, k2⟩
            have k3 : k < g.prog.length := by omega
            rcases Nat.lt_or_ge k i with hk | hk
            · have h7 := j5 k k3 k1 hk
              simp -implicitDefEqProofs (maxSteps := 100000) (disch := first | (intros; contradiction) | omega) only [am0, am1, am2, am3, am4, am5, am6, am7, am8, am9, Nat.reduceSub, ↓reduceIte, reduceCtorEq, Nat.reduceEqDiff, Nat.reduceBEq, Nat.reduceAdd, Nat.reduceLT, Nat.reduceBNe, Nat.reduceMul, ↓reduceIte, retCB, tis, fls, eIns, h7]
              refine round_normal (k + 1) ⟨by omega, by omega⟩ ?_ (by show i - (k + 1) < i - k; omega)
              simp -implicitDefEqProofs (maxSteps := 100000) (disch := first | (intros; contradiction) | omega) only [am0, am1, am2, am3, am4, am5, am6, am7, am8, am9, Nat.reduceSub, ↓reduceIte, reduceCtorEq, Nat.reduceEqDiff, Nat.reduceBEq, Nat.reduceAdd, Nat.reduceLT, Nat.reduceBNe, Nat.reduceMul, ↓reduceIte, tis]
            · obtain rfl : k = i := by omega
              simp -implicitDefEqProofs (maxSteps := 100000) (disch := first | (intros; contradiction) | omega) only [am0, am1, am2, am3, am4, am5, am6, am7, am8, am9, Nat.reduceSub, ↓reduceIte, reduceCtorEq, Nat.reduceEqDiff, Nat.reduceBEq, Nat.reduceAdd, Nat.reduceLT, Nat.reduceBNe, Nat.reduceMul, ↓reduceIte, retCB, tis, fls, eIns, h5]
              refine callB cD ?_
              cases hd : doorB g.prog k with
              | true =>
                rw [if_pos hd] at j1
                have h4 := doorB_no4 j3 hd
                have ht : ¬ toF g < 0 := by rw [j1]; omega
                rw [stepF_2 ht, em]
                simp -implicitDefEqProofs (maxSteps := 100000) (disch := first | (intros; contradiction) | omega) only [am0, am1, am2, am3, am4, am5, am6, am7, am8, am9, Nat.reduceSub, ↓reduceIte, reduceCtorEq, Nat.reduceEqDiff, Nat.reduceBEq, Nat.reduceAdd, Nat.reduceLT, Nat.reduceBNe, Nat.reduceMul, ↓reduceIte, retCB, tis, fls, eIns, h4, j1]
              | false =>
                rw [if_neg (by simp [hd])] at j1
                have ht : toF g < 0 := by rw [j1]; omega
                rw [stepF_1 ht, em]
                simp -implicitDefEqProofs (maxSteps := 100000) (disch := first | (intros; contradiction) | omega) only [am0, am1, am2, am3, am4, am5, am6, am7, am8, am9, Nat.reduceSub, ↓reduceIte, reduceCtorEq, Nat.reduceEqDiff, Nat.reduceBEq, Nat.reduceAdd, Nat.reduceLT, Nat.reduceBNe, Nat.reduceMul, ↓reduceIte, retCB, tis, fls]
                refine callV cC ?_
                simp -implicitDefEqProofs (maxSteps := 100000) (disch := first | (intros; contradiction) | omega) only [am0, am1, am2, am3, am4, am5, am6, am7, am8, am9, Nat.reduceSub, ↓reduceIte, reduceCtorEq, Nat.reduceEqDiff, Nat.reduceBEq, Nat.reduceAdd, Nat.reduceLT, Nat.reduceBNe, Nat.reduceMul, ↓reduceIte, retCB, tis, fls]
theorem stP_FI {g : Feed} (h : FI g) : FI (stP g) := by
  unfold stP; split
  · exact h.mark
  · exact h.step (by omega)
/-- A reading out of a tuple, by what the tuple is. -/
def exGo (σ : St) (t i d : Nat) (K : St → Prop) : AV → Prop
  | .tup vs => i < vs.length ∧ t ≠ d ∧ (vs.getD i .undef).target = none ∧ (if plain (vs.getD i .undef) then K (put σ d (vs.getD i .undef) []) else K (upd (put σ d .undef []) [(d, vs.getD i .undef), (t, .tup (vs.set i .undef))]))
  | _ => False
theorem ex_eq (σ : St) (t i d : Nat) (K : St → Prop) : extractW σ (.tmp t) i d K = exGo σ t i d K (ev σ (.tmp t)) := by
  unfold extractW exGo
  cases ev σ (.tmp t) <;> rfl
theorem exGo_tup (σ : St) (t i d : Nat) (K : St → Prop) (vs : List AV) : exGo σ t i d K (.tup vs) = (i < vs.length ∧ t ≠ d ∧ (vs.getD i .undef).target = none ∧ (if plain (vs.getD i .undef) then K (put σ d (vs.getD i .undef) []) else K (upd (put σ d .undef []) [(d, vs.getD i .undef), (t, .tup (vs.set i .undef))]))) := rfl
/-- spec.l11Go -/
theorem fits_l11Go (f : Feed) (hf : FI f) : Fits prog 110 [eFeed true f] (eFeed true (goF f)) [] := by
  unfold eFeed
  refine fits_of_cell 2 72 [] [0, 1, 2, 3, 4, 5, 11] func110 rfl rfl rfl (by show 2 < 20; decide) (by show 1 ≤ 20; decide) (by rfl) (by rfl) (by show 0 ≤ 1; decide) (by rfl) (run_of ?_)
  simp -implicitDefEqProofs (maxSteps := 100000) (disch := first | (intros; contradiction) | omega) only [am0, am1, am2, am3, am4, am5, am6, am7, am8, am9, Nat.reduceSub, ↓reduceIte, reduceCtorEq, Nat.reduceEqDiff, Nat.reduceBEq, Nat.reduceAdd, Nat.reduceLT, Nat.reduceBNe, Nat.reduceMul, ↓reduceIte, tis, fls]
  refine run_loop (α := Feed × Bool) (fun x => FI x.1 ∧ goF f = (if x.2 = true then goF x.1 else x.1)) (fun x => [(1, .box (.agg [.sl true 4 (x.1.prog.map eIns), .str x.1.buf, .int .i64 x.1.base, .int .i64 x.1.pc, .int .i64 x.1.at_, .int .i64 x.1.rule, .int .i64 x.1.to, .sl true 3 (x.1.out.map eToken), .bool x.1.stuck])), (2, .box (.agg [.sl true 0 [], .str [], .int .i64 0, .int .i64 0, .int .i64 0, .int .i64 0, .int .i64 0, .sl true 0 [], .bool false])), (3, .bool x.2)]) (fun x => if x.2 = true then muF x.1 + 1 else 0) (f, true) ⟨hf, rfl⟩ ?_ ?_
  · simp -implicitDefEqProofs (maxSteps := 100000) (disch := first | (intros; contradiction) | omega) only [am0, am1, am2, am3, am4, am5, am6, am7, am8, am9, Nat.reduceSub, ↓reduceIte, reduceCtorEq, Nat.reduceEqDiff, Nat.reduceBEq, Nat.reduceAdd, Nat.reduceLT, Nat.reduceBNe, Nat.reduceMul, ↓reduceIte, tis]
  · rintro ⟨g, on⟩ ⟨hg, hge⟩
    simp only at hg hge
    cases on with
    | false =>
      rw [if_neg (by simp)] at hge
      rw [hge]
      simp -implicitDefEqProofs (maxSteps := 100000) (disch := first | (intros; contradiction) | omega) only [am0, am1, am2, am3, am4, am5, am6, am7, am8, am9, Nat.reduceSub, ↓reduceIte, reduceCtorEq, Nat.reduceEqDiff, Nat.reduceBEq, Nat.reduceAdd, Nat.reduceLT, Nat.reduceBNe, Nat.reduceMul, ↓reduceIte, tis, fls]
    | true =>
      rw [if_pos rfl] at hge
      rcases Bool.eq_false_or_eq_true g.stuck with hs | hs
      · rw [goF_stuck hs] at hge
        rw [hge]
        simp -implicitDefEqProofs (maxSteps := 100000) (disch := first | (intros; contradiction) | omega) only [am0, am1, am2, am3, am4, am5, am6, am7, am8, am9, Nat.reduceSub, ↓reduceIte, reduceCtorEq, Nat.reduceEqDiff, Nat.reduceBEq, Nat.reduceAdd, Nat.reduceLT, Nat.reduceBNe, Nat.reduceMul, ↓reduceIte, tis, fls, hs]
      · have cS := fits_l11Step g hg
        have hst := stP_FI hg
        by_cases hl : (g.buf.length : Int) ≤ g.at_
        · have e : goF f = stP g := by rw [hge, goF_end hs hl]; unfold stP; rw [if_pos hl]
          have hd : decide (¬ (g.buf.length : Int) ≤ g.at_) = false := by simp [hl]
          rw [hd] at cS
          generalize stP g = c at *
          unfold eFeed at cS
          simp only [hs] at cS
          simp -implicitDefEqProofs (maxSteps := 100000) (disch := first | (intros; contradiction) | omega) only [am0, am1, am2, am3, am4, am5, am6, am7, am8, am9, Nat.reduceSub, ↓reduceIte, reduceCtorEq, Nat.reduceEqDiff, Nat.reduceBEq, Nat.reduceAdd, Nat.reduceLT, Nat.reduceBNe, Nat.reduceMul, ↓reduceIte, tis, fls, hs]
          refine callV cS ?_
          simp -implicitDefEqProofs (maxSteps := 100000) (disch := first | (intros; contradiction) | omega) only [am0, am1, am2, am3, am4, am5, am6, am7, am8, am9, Nat.reduceSub, ↓reduceIte, reduceCtorEq, Nat.reduceEqDiff, Nat.reduceBEq, Nat.reduceAdd, Nat.reduceLT, Nat.reduceBNe, Nat.reduceMul, ↓reduceIte, tis, fls, ex_eq, exGo_tup, plain, plainL]
          refine round_normal (c, false) ⟨hst, by simpa using e⟩ ?_ (by simp)
          simp -implicitDefEqProofs (maxSteps := 100000) (disch := first | (intros; contradiction) | omega) only [am0, am1, am2, am3, am4, am5, am6, am7, am8, am9, Nat.reduceSub, ↓reduceIte, reduceCtorEq, Nat.reduceEqDiff, Nat.reduceBEq, Nat.reduceAdd, Nat.reduceLT, Nat.reduceBNe, Nat.reduceMul, ↓reduceIte, tis]
        · have e0 : stP g = stepF g := if_neg hl
          have e : goF f = goF (stP g) := by rw [hge, goF_step hg hs (by omega), e0]
          have hmu := muF_step hg hs (by omega : g.at_ < g.buf.length)
          rw [← e0] at hmu
          have hd : decide (¬ (g.buf.length : Int) ≤ g.at_) = true := by simp; omega
          rw [hd] at cS
          generalize stP g = c at *
          unfold eFeed at cS
          simp only [hs] at cS
          simp -implicitDefEqProofs (maxSteps := 100000) (disch := first | (intros; contradiction) | omega) only [am0, am1, am2, am3, am4, am5, am6, am7, am8, am9, Nat.reduceSub, ↓reduceIte, reduceCtorEq, Nat.reduceEqDiff, Nat.reduceBEq, Nat.reduceAdd, Nat.reduceLT, Nat.reduceBNe, Nat.reduceMul, ↓reduceIte, tis, fls, hs]
          refine callV cS ?_
          simp -implicitDefEqProofs (maxSteps := 100000) (disch := first | (intros; contradiction) | omega) only [am0, am1, am2, am3, am4, am5, am6, am7, am8, am9, Nat.reduceSub, ↓reduceIte, reduceCtorEq, Nat.reduceEqDiff, Nat.reduceBEq, Nat.reduceAdd, Nat.reduceLT, Nat.reduceBNe, Nat.reduceMul, ↓reduceIte, tis, fls, ex_eq, exGo_tup, plain, plainL]
          refine round_normal (c, true) ⟨hst, by simpa using e⟩ ?_ (by simpa using hmu)
          simp -implicitDefEqProofs (maxSteps := 100000) (disch := first | (intros; contradiction) | omega) only [am0, am1, am2, am3, am4, am5, am6, am7, am8, am9, Nat.reduceSub, ↓reduceIte, reduceCtorEq, Nat.reduceEqDiff, Nat.reduceBEq, Nat.reduceAdd, Nat.reduceLT, Nat.reduceBNe, Nat.reduceMul, ↓reduceIte, tis]
/-- spec.FeedPush -/
theorem fits_sFeedPush (f : Feed) (w : List UInt8) (hp : f.prog.length ≤ 1048576) (hb : f.buf.length ≤ 1048576) (ho : f.out.length ≤ 1048576) (hw : w.length ≤ 1048576) : Fits prog 55 [eFeed false f, .str w] (eFeed true (pushP f w)) [] := by
  have cO := fits_sFeedOk f (by omega) (by omega) (by omega)
  have cC := fits_l11Copy f (by omega) (by omega)
  unfold pushP
  cases h1 : feedB f with
  | false =>
    unfold eFeed at cO ⊢
    refine fits_of_cell 4 72 [] [0, 1, 2, 4, 5, 8, 25] func55 rfl rfl rfl (by show 4 < 34; decide) (by show 2 ≤ 34; decide) (by rfl) (by rfl) (by show 0 ≤ 2; decide) (by rfl) (run_of ?_)
    simp -implicitDefEqProofs (maxSteps := 100000) (disch := first | (intros; contradiction) | omega) only [am0, am1, am2, am3, am4, am5, am6, am7, am8, am9, Nat.reduceSub, ↓reduceIte, reduceCtorEq, Nat.reduceEqDiff, Nat.reduceBEq, Nat.reduceAdd, Nat.reduceLT, Nat.reduceBNe, Nat.reduceMul, ↓reduceIte, tis, fls]
    refine callB cO ?_
    simp -implicitDefEqProofs (maxSteps := 100000) (disch := first | (intros; contradiction) | omega) only [am0, am1, am2, am3, am4, am5, am6, am7, am8, am9, Nat.reduceSub, ↓reduceIte, reduceCtorEq, Nat.reduceEqDiff, Nat.reduceBEq, Nat.reduceAdd, Nat.reduceLT, Nat.reduceBNe, Nat.reduceMul, ↓reduceIte, tis, fls, h1, feedZ]
  | true =>
    have hf := feedB_FI h1
    have hba := hf.base
    unfold eFeed at cO cC
    rcases Bool.eq_false_or_eq_true f.stuck with hs | hs
    · rw [if_pos rfl, if_pos (.inl hs)]
      simp only [hs] at cO cC
      unfold eFeed
      simp only [hs]
      refine fits_of_cell 4 72 [] [0, 1, 2, 4, 5, 8, 25] func55 rfl rfl rfl (by show 4 < 34; decide) (by show 2 ≤ 34; decide) (by rfl) (by rfl) (by show 0 ≤ 2; decide) (by rfl) (run_of ?_)
      simp -implicitDefEqProofs (maxSteps := 100000) (disch := first | (intros; contradiction) | omega) only [am0, am1, am2, am3, am4, am5, am6, am7, am8, am9, Nat.reduceSub, ↓reduceIte, reduceCtorEq, Nat.reduceEqDiff, Nat.reduceBEq, Nat.reduceAdd, Nat.reduceLT, Nat.reduceBNe, Nat.reduceMul, ↓reduceIte, tis, fls]
      refine callB cO ?_
      simp -implicitDefEqProofs (maxSteps := 100000) (disch := first | (intros; contradiction) | omega) only [am0, am1, am2, am3, am4, am5, am6, am7, am8, am9, Nat.reduceSub, ↓reduceIte, reduceCtorEq, Nat.reduceEqDiff, Nat.reduceBEq, Nat.reduceAdd, Nat.reduceLT, Nat.reduceBNe, Nat.reduceMul, ↓reduceIte, tis, fls, h1]
      refine callB cC ?_
      simp -implicitDefEqProofs (maxSteps := 100000) (disch := first | (intros; contradiction) | omega) only [am0, am1, am2, am3, am4, am5, am6, am7, am8, am9, Nat.reduceSub, ↓reduceIte, reduceCtorEq, Nat.reduceEqDiff, Nat.reduceBEq, Nat.reduceAdd, Nat.reduceLT, Nat.reduceBNe, Nat.reduceMul, ↓reduceIte, tis, fls, h1]
    · simp only [hs] at cO cC
      by_cases h2 : f.base + f.buf.length + w.length > 200
      · rw [if_pos rfl, if_pos (.inr h2)]
        unfold eFeed
        simp only [hs]
        refine fits_of_cell 4 72 [] [0, 1, 2, 4, 5, 8, 25] func55 rfl rfl rfl (by show 4 < 34; decide) (by show 2 ≤ 34; decide) (by rfl) (by rfl) (by show 0 ≤ 2; decide) (by rfl) (run_of ?_)
        simp -implicitDefEqProofs (maxSteps := 100000) (disch := first | (intros; contradiction) | omega) only [am0, am1, am2, am3, am4, am5, am6, am7, am8, am9, Nat.reduceSub, ↓reduceIte, reduceCtorEq, Nat.reduceEqDiff, Nat.reduceBEq, Nat.reduceAdd, Nat.reduceLT, Nat.reduceBNe, Nat.reduceMul, ↓reduceIte, tis, fls]
        refine callB cO ?_
        simp -implicitDefEqProofs (maxSteps := 100000) (disch := first | (intros; contradiction) | omega) only [am0, am1, am2, am3, am4, am5, am6, am7, am8, am9, Nat.reduceSub, ↓reduceIte, reduceCtorEq, Nat.reduceEqDiff, Nat.reduceBEq, Nat.reduceAdd, Nat.reduceLT, Nat.reduceBNe, Nat.reduceMul, ↓reduceIte, tis, fls, h1]
        refine callB cC ?_
        simp -implicitDefEqProofs (maxSteps := 100000) (disch := first | (intros; contradiction) | omega) only [am0, am1, am2, am3, am4, am5, am6, am7, am8, am9, Nat.reduceSub, ↓reduceIte, reduceCtorEq, Nat.reduceEqDiff, Nat.reduceBEq, Nat.reduceAdd, Nat.reduceLT, Nat.reduceBNe, Nat.reduceMul, ↓reduceIte, tis, fls, h1]
      · rw [if_pos rfl, if_neg (fun h => by rcases h with h | h; exact absurd (hs.symm.trans h) (by decide); exact h2 h)]
        have hm := hf.more w (by omega)
        have cG := fits_l11Go _ hm
        generalize hc : goF { f with buf := f.buf ++ w } = c at *
        unfold eFeed at cG ⊢
        simp only [hs] at cG ⊢
        refine fits_of_cell 4 72 [] [0, 1, 2, 4, 5, 8, 25] func55 rfl rfl rfl (by show 4 < 34; decide) (by show 2 ≤ 34; decide) (by rfl) (by rfl) (by show 0 ≤ 2; decide) (by rfl) (run_of ?_)
        simp -implicitDefEqProofs (maxSteps := 100000) (disch := first | (intros; contradiction) | omega) only [am0, am1, am2, am3, am4, am5, am6, am7, am8, am9, Nat.reduceSub, ↓reduceIte, reduceCtorEq, Nat.reduceEqDiff, Nat.reduceBEq, Nat.reduceAdd, Nat.reduceLT, Nat.reduceBNe, Nat.reduceMul, ↓reduceIte, tis, fls]
        refine callB cO ?_
        simp -implicitDefEqProofs (maxSteps := 100000) (disch := first | (intros; contradiction) | omega) only [am0, am1, am2, am3, am4, am5, am6, am7, am8, am9, Nat.reduceSub, ↓reduceIte, reduceCtorEq, Nat.reduceEqDiff, Nat.reduceBEq, Nat.reduceAdd, Nat.reduceLT, Nat.reduceBNe, Nat.reduceMul, ↓reduceIte, tis, fls, h1]
        refine callB cC ?_
        simp -implicitDefEqProofs (maxSteps := 100000) (disch := first | (intros; contradiction) | omega) only [am0, am1, am2, am3, am4, am5, am6, am7, am8, am9, Nat.reduceSub, ↓reduceIte, reduceCtorEq, Nat.reduceEqDiff, Nat.reduceBEq, Nat.reduceAdd, Nat.reduceLT, Nat.reduceBNe, Nat.reduceMul, ↓reduceIte, tis, fls, h1]
        refine callV cG ?_
        simp -implicitDefEqProofs (maxSteps := 100000) (disch := first | (intros; contradiction) | omega) only [am0, am1, am2, am3, am4, am5, am6, am7, am8, am9, Nat.reduceSub, ↓reduceIte, reduceCtorEq, Nat.reduceEqDiff, Nat.reduceBEq, Nat.reduceAdd, Nat.reduceLT, Nat.reduceBNe, Nat.reduceMul, ↓reduceIte, tis, fls]
/-- spec.FeedEnd -/
theorem fits_sFeedEnd (f : Feed) (hp : f.prog.length ≤ 1048576) (hb : f.buf.length ≤ 1048576) (ho : f.out.length ≤ 1048576) : Fits prog 49 [eFeed false f] (eFeed true (endP f)) [] := by
  have cO := fits_sFeedOk f (by omega) (by omega) (by omega)
  have cC := fits_l11Copy f (by omega) (by omega)
  unfold endP
  cases h1 : feedB f with
  | false =>
    unfold eFeed at cO ⊢
    refine fits_of_cell 2 72 [] [0, 1, 2, 3, 6, 19] func49 rfl rfl rfl (by show 2 < 24; decide) (by show 1 ≤ 24; decide) (by rfl) (by rfl) (by show 0 ≤ 1; decide) (by rfl) (run_of ?_)
    simp -implicitDefEqProofs (maxSteps := 100000) (disch := first | (intros; contradiction) | omega) only [am0, am1, am2, am3, am4, am5, am6, am7, am8, am9, Nat.reduceSub, ↓reduceIte, reduceCtorEq, Nat.reduceEqDiff, Nat.reduceBEq, Nat.reduceAdd, Nat.reduceLT, Nat.reduceBNe, Nat.reduceMul, ↓reduceIte, tis, fls]
    refine callB cO ?_
    simp -implicitDefEqProofs (maxSteps := 100000) (disch := first | (intros; contradiction) | omega) only [am0, am1, am2, am3, am4, am5, am6, am7, am8, am9, Nat.reduceSub, ↓reduceIte, reduceCtorEq, Nat.reduceEqDiff, Nat.reduceBEq, Nat.reduceAdd, Nat.reduceLT, Nat.reduceBNe, Nat.reduceMul, ↓reduceIte, tis, fls, h1, feedZ]
  | true =>
    have hf := feedB_FI h1
    have cG := fits_l11Go f hf
    rw [if_pos rfl]
    unfold eFeed at cO cC cG ⊢
    refine fits_of_cell 2 72 [] [0, 1, 2, 3, 6, 19] func49 rfl rfl rfl (by show 2 < 24; decide) (by show 1 ≤ 24; decide) (by rfl) (by rfl) (by show 0 ≤ 1; decide) (by rfl) (run_of ?_)
    simp -implicitDefEqProofs (maxSteps := 100000) (disch := first | (intros; contradiction) | omega) only [am0, am1, am2, am3, am4, am5, am6, am7, am8, am9, Nat.reduceSub, ↓reduceIte, reduceCtorEq, Nat.reduceEqDiff, Nat.reduceBEq, Nat.reduceAdd, Nat.reduceLT, Nat.reduceBNe, Nat.reduceMul, ↓reduceIte, tis, fls]
    refine callB cO ?_
    simp -implicitDefEqProofs (maxSteps := 100000) (disch := first | (intros; contradiction) | omega) only [am0, am1, am2, am3, am4, am5, am6, am7, am8, am9, Nat.reduceSub, ↓reduceIte, reduceCtorEq, Nat.reduceEqDiff, Nat.reduceBEq, Nat.reduceAdd, Nat.reduceLT, Nat.reduceBNe, Nat.reduceMul, ↓reduceIte, tis, fls, h1]
    refine callB cC ?_
    simp -implicitDefEqProofs (maxSteps := 100000) (disch := first | (intros; contradiction) | omega) only [am0, am1, am2, am3, am4, am5, am6, am7, am8, am9, Nat.reduceSub, ↓reduceIte, reduceCtorEq, Nat.reduceEqDiff, Nat.reduceBEq, Nat.reduceAdd, Nat.reduceLT, Nat.reduceBNe, Nat.reduceMul, ↓reduceIte, tis, fls, h1]
    refine callV cG ?_
    simp -implicitDefEqProofs (maxSteps := 100000) (disch := first | (intros; contradiction) | omega) only [am0, am1, am2, am3, am4, am5, am6, am7, am8, am9, Nat.reduceSub, ↓reduceIte, reduceCtorEq, Nat.reduceEqDiff, Nat.reduceBEq, Nat.reduceAdd, Nat.reduceLT, Nat.reduceBNe, Nat.reduceMul, ↓reduceIte, tis, fls]
    have hg0 := goF_FI hf
    refine run_loop (α := Feed) (fun g => FI g ∧ endF (goF f) = endF g) (fun g => [(2, .box (.agg [.sl true 0 [], .str [], .int .i64 0, .int .i64 0, .int .i64 0, .int .i64 0, .int .i64 0, .sl true 0 [], .bool false])), (3, .box (.agg [.sl true 4 (g.prog.map eIns), .str g.buf, .int .i64 g.base, .int .i64 g.pc, .int .i64 g.at_, .int .i64 g.rule, .int .i64 g.to, .sl true 3 (g.out.map eToken), .bool g.stuck]))]) muE (goF f) ⟨hg0, rfl⟩ ?_ ?_
    · simp -implicitDefEqProofs (maxSteps := 100000) (disch := first | (intros; contradiction) | omega) only [am0, am1, am2, am3, am4, am5, am6, am7, am8, am9, Nat.reduceSub, ↓reduceIte, reduceCtorEq, Nat.reduceEqDiff, Nat.reduceBEq, Nat.reduceAdd, Nat.reduceLT, Nat.reduceBNe, Nat.reduceMul, ↓reduceIte, tis]
    · rintro g ⟨hg, hge⟩
      have hcb := hg.base
      by_cases hst : g.stuck = true ∨ g.buf = []
      · rw [endF_stop hst] at hge
        rw [hge]
        rcases hst with hs | hs
        · simp -implicitDefEqProofs (maxSteps := 100000) (disch := first | (intros; contradiction) | omega) only [am0, am1, am2, am3, am4, am5, am6, am7, am8, am9, Nat.reduceSub, ↓reduceIte, reduceCtorEq, Nat.reduceEqDiff, Nat.reduceBEq, Nat.reduceAdd, Nat.reduceLT, Nat.reduceBNe, Nat.reduceMul, ↓reduceIte, tis, fls, hs]
        · rcases Bool.eq_false_or_eq_true g.stuck with h2 | h2
          · simp -implicitDefEqProofs (maxSteps := 100000) (disch := first | (intros; contradiction) | omega) only [am0, am1, am2, am3, am4, am5, am6, am7, am8, am9, Nat.reduceSub, ↓reduceIte, reduceCtorEq, Nat.reduceEqDiff, Nat.reduceBEq, Nat.reduceAdd, Nat.reduceLT, Nat.reduceBNe, Nat.reduceMul, ↓reduceIte, tis, fls, hs, h2]
          · simp -implicitDefEqProofs (maxSteps := 100000) (disch := first | (intros; contradiction) | omega) only [am0, am1, am2, am3, am4, am5, am6, am7, am8, am9, Nat.reduceSub, ↓reduceIte, reduceCtorEq, Nat.reduceEqDiff, Nat.reduceBEq, Nat.reduceAdd, Nat.reduceLT, Nat.reduceBNe, Nat.reduceMul, ↓reduceIte, tis, fls, hs, h2]
      · have h2 : g.stuck = false := by cases hh : g.stuck with | true => exact absurd (.inl hh) hst | false => rfl
        have hb : g.buf ≠ [] := fun e => hst (.inr e)
        have hb0 : 0 < g.buf.length := List.length_pos_iff.mpr hb
        have hmu := muE_lt hg h2 hb
        rw [endF_step hg h2 hb] at hge
        have hgc := hg.cut
        have cC3 := fits_l11Cut g hg
        have cG3 := fits_l11Go (cutF g) hgc
        have hgg := goF_FI hgc
        generalize goF (cutF g) = d at *
        generalize cutF g = c at *
        unfold eFeed at cC3 cG3
        simp only [h2] at cC3
        simp -implicitDefEqProofs (maxSteps := 100000) (disch := first | (intros; contradiction) | omega) only [am0, am1, am2, am3, am4, am5, am6, am7, am8, am9, Nat.reduceSub, ↓reduceIte, reduceCtorEq, Nat.reduceEqDiff, Nat.reduceBEq, Nat.reduceAdd, Nat.reduceLT, Nat.reduceBNe, Nat.reduceMul, ↓reduceIte, tis, fls, h2]
        refine callV cC3 ?_
        simp -implicitDefEqProofs (maxSteps := 100000) (disch := first | (intros; contradiction) | omega) only [am0, am1, am2, am3, am4, am5, am6, am7, am8, am9, Nat.reduceSub, ↓reduceIte, reduceCtorEq, Nat.reduceEqDiff, Nat.reduceBEq, Nat.reduceAdd, Nat.reduceLT, Nat.reduceBNe, Nat.reduceMul, ↓reduceIte, tis, fls]
        refine callV cG3 ?_
        simp -implicitDefEqProofs (maxSteps := 100000) (disch := first | (intros; contradiction) | omega) only [am0, am1, am2, am3, am4, am5, am6, am7, am8, am9, Nat.reduceSub, ↓reduceIte, reduceCtorEq, Nat.reduceEqDiff, Nat.reduceBEq, Nat.reduceAdd, Nat.reduceLT, Nat.reduceBNe, Nat.reduceMul, ↓reduceIte, tis, fls]
        refine round_normal d ⟨hgg, hge⟩ ?_ hmu
        simp -implicitDefEqProofs (maxSteps := 100000) (disch := first | (intros; contradiction) | omega) only [am0, am1, am2, am3, am4, am5, am6, am7, am8, am9, Nat.reduceSub, ↓reduceIte, reduceCtorEq, Nat.reduceEqDiff, Nat.reduceBEq, Nat.reduceAdd, Nat.reduceLT, Nat.reduceBNe, Nat.reduceMul, ↓reduceIte, tis]
/-- A number's digits. -/
def digs (n : Nat) : List UInt8 := if n = 0 then [] else digs (n / 10) ++ [UInt8.ofNat (48 + n % 10)]
termination_by n
decreasing_by omega
theorem digs_pos {n : Nat} (h : 0 < n) : digs n = digs (n / 10) ++ [UInt8.ofNat (48 + n % 10)] := by rw [digs, if_neg (by omega)]
theorem digs_len (n : Nat) : (digs n).length ≤ n := by
  induction n using Nat.strongRecOn with
  | ind n ih =>
    by_cases h : n = 0
    · subst h; rw [digs]; simp
    · rw [digs_pos (by omega), List.length_append, List.length_singleton]
      have := ih (n / 10) (by omega)
      omega
def mkT (k : Int) : List UInt8 := if k ≤ 0 then [109, 48] else 109 :: digs k.toNat
theorem bytesBack_1 (d : UInt8) : bytesBack [.int .u8 (d.toNat : Int)] = some [d] := bytesBack_bytesA [d]
/-- laws.markText -/
theorem fits_markText (k : Int) (hk : k ≤ 1152921504606846976) : Fits prog 97 [.int .i64 k] (.str (mkT k)) [] := by
  have i10 : ((10 : Int) = 0) = False := by simp
  refine fits_of_code [2] [] [0, 2, 3, 5, 7] func97 rfl rfl rfl (by rfl) (by show 1 ≤ 20; decide) (by rfl) (by rfl) (by show 0 ≤ 1; decide) (by rfl) (run_of ?_)
  by_cases h0 : k ≤ 0
  · have e : mkT k = [109, 48] := if_pos h0
    rw [e]
    simp -implicitDefEqProofs (maxSteps := 100000) (disch := first | (intros; contradiction) | omega) only [am0, am1, am2, am3, am4, am5, am6, am7, am8, am9, Nat.reduceSub, ↓reduceIte, reduceCtorEq, Nat.reduceEqDiff, Nat.reduceBEq, Nat.reduceAdd, Nat.reduceLT, Nat.reduceBNe, Nat.reduceMul, ↓reduceIte, tis]
  · obtain ⟨n, rfl⟩ : ∃ n : Nat, k = n := ⟨k.toNat, by omega⟩
    have e : mkT (n : Int) = 109 :: digs n := by unfold mkT; rw [if_neg h0]; rfl
    rw [e]
    simp -implicitDefEqProofs (maxSteps := 100000) (disch := first | (intros; contradiction) | omega) only [am0, am1, am2, am3, am4, am5, am6, am7, am8, am9, Nat.reduceSub, ↓reduceIte, reduceCtorEq, Nat.reduceEqDiff, Nat.reduceBEq, Nat.reduceAdd, Nat.reduceLT, Nat.reduceBNe, Nat.reduceMul, ↓reduceIte, tis]
    refine run_loop (α := Nat × List UInt8) (fun g => digs n = digs g.1 ++ g.2 ∧ g.1 ≤ n ∧ g.2.length + g.1 ≤ 2 * n) (fun g => [(0, .int .i64 g.1), (3, .str g.2)]) (fun g => g.1) (n, []) ⟨by simp, by omega, by simp; omega⟩ ?_ ?_
    · simp -implicitDefEqProofs (maxSteps := 100000) (disch := first | (intros; contradiction) | omega) only [am0, am1, am2, am3, am4, am5, am6, am7, am8, am9, Nat.reduceSub, ↓reduceIte, reduceCtorEq, Nat.reduceEqDiff, Nat.reduceBEq, Nat.reduceAdd, Nat.reduceLT, Nat.reduceBNe, Nat.reduceMul, ↓reduceIte, tis]
    · rintro ⟨m, o⟩ ⟨h1, h2, h3⟩
      simp only at h1 h2 h3
      by_cases hm : 0 < m
      · have hd : (48 + (m : Int).tmod 10) = ((UInt8.ofNat (48 + m % 10)).toNat : Int) := by
          rw [UInt8.toNat_ofNat']
          have : (m : Int).tmod 10 = ((m % 10 : Nat) : Int) := by rw [Int.tmod_eq_emod_of_nonneg (by omega)]; omega
          omega
        have hq : (m : Int).tdiv 10 = ((m / 10 : Nat) : Int) := by rw [Int.tdiv_eq_ediv_of_nonneg (by omega)]; omega
        have hlt : (UInt8.ofNat (48 + m % 10)).toNat < 256 := (UInt8.ofNat (48 + m % 10)).toNat_lt
        have ht : 0 ≤ (m : Int).tmod 10 ∧ (m : Int).tmod 10 < 10 := by rw [Int.tmod_eq_emod_of_nonneg (by omega)]; omega
        have hdl : (digs n).length ≤ n := digs_len n
        simp -implicitDefEqProofs (maxSteps := 100000) (disch := first | (intros; contradiction) | omega) only [am0, am1, am2, am3, am4, am5, am6, am7, am8, am9, Nat.reduceSub, ↓reduceIte, reduceCtorEq, Nat.reduceEqDiff, Nat.reduceBEq, Nat.reduceAdd, Nat.reduceLT, Nat.reduceBNe, Nat.reduceMul, ↓reduceIte, tis, hd, hq, bytesBack_1, i10]
        refine round_normal (m / 10, [UInt8.ofNat (48 + m % 10)] ++ o) ⟨by simp only; rw [h1, digs_pos hm]; simp, by simp only; omega, by simp only [List.length_append, List.length_singleton]; omega⟩ ?_ (by show m / 10 < m; omega)
        simp -implicitDefEqProofs (maxSteps := 100000) (disch := first | (intros; contradiction) | omega) only [am0, am1, am2, am3, am4, am5, am6, am7, am8, am9, Nat.reduceSub, ↓reduceIte, reduceCtorEq, Nat.reduceEqDiff, Nat.reduceBEq, Nat.reduceAdd, Nat.reduceLT, Nat.reduceBNe, Nat.reduceMul, ↓reduceIte, tis]
      · obtain rfl : m = 0 := by omega
        have e0 : digs 0 = [] := by rw [digs]; simp
        rw [e0, List.nil_append] at h1
        have hdl : (digs n).length ≤ n := digs_len n
        simp -implicitDefEqProofs (maxSteps := 100000) (disch := first | (intros; contradiction) | omega) only [am0, am1, am2, am3, am4, am5, am6, am7, am8, am9, Nat.reduceSub, ↓reduceIte, reduceCtorEq, Nat.reduceEqDiff, Nat.reduceBEq, Nat.reduceAdd, Nat.reduceLT, Nat.reduceBNe, Nat.reduceMul, ↓reduceIte, tis, h1]
/-- impl.copied of texts -/
theorem fits_copiedStr (p : List (List UInt8)) (hp : p.length ≤ 1099511627776) : Fits prog 73 [.sl false 1 (p.map eStr)] (.sl true 1 (p.map eStr)) [] := by
  refine fits_of_code [2] [] [0, 2, 3, 6] func73 rfl rfl rfl (by rfl) (by show 1 ≤ 14; decide) (by rfl) (by rfl) (by show 0 ≤ 1; decide) (by rfl) (run_of ?_)
  cases p with
  | nil => simp -implicitDefEqProofs (maxSteps := 100000) (disch := first | (intros; contradiction) | omega) only [am0, am1, am2, am3, am4, am5, am6, am7, am8, am9, Nat.reduceSub, ↓reduceIte, reduceCtorEq, Nat.reduceEqDiff, Nat.reduceBEq, Nat.reduceAdd, Nat.reduceLT, Nat.reduceBNe, Nat.reduceMul, ↓reduceIte, tis]
  | cons x r =>
    have hl : ((x :: r).length : Int) ≠ 0 := by simp; omega
    generalize (x :: r) = p at *
    simp -implicitDefEqProofs (maxSteps := 100000) (disch := first | (intros; contradiction) | omega) only [am0, am1, am2, am3, am4, am5, am6, am7, am8, am9, Nat.reduceSub, ↓reduceIte, reduceCtorEq, Nat.reduceEqDiff, Nat.reduceBEq, Nat.reduceAdd, Nat.reduceLT, Nat.reduceBNe, Nat.reduceMul, ↓reduceIte, tis]
    simp -implicitDefEqProofs (maxSteps := 100000) (disch := first | (intros; contradiction) | omega) only [am0, am1, am2, am3, am4, am5, am6, am7, am8, am9, Nat.reduceSub, ↓reduceIte, reduceCtorEq, Nat.reduceEqDiff, Nat.reduceBEq, Nat.reduceAdd, Nat.reduceLT, Nat.reduceBNe, Nat.reduceMul, ↓reduceIte, tis, List.length_replicate, fls]
    simp [List.take_of_length_le]
/-- laws.eqStringS -/
theorem fits_eqStringS (p q : List (List UInt8)) (hp : p.length ≤ 1048576) (hq : q.length ≤ 1048576) : Fits prog 29 [.sl false 1 (p.map eStr), .sl false 1 (q.map eStr)] (.bool (decide (p = q))) [] := by
  refine fits_of_code [4] [] [0, 1, 4, 5, 10, 14, 25] func29 rfl rfl rfl (by rfl) (by show 2 ≤ 26; decide) (by rfl) (by rfl) (by show 0 ≤ 2; decide) (by rfl) (run_of ?_)
  by_cases hl : p.length = q.length
  · simp -implicitDefEqProofs (maxSteps := 100000) (disch := first | (intros; contradiction) | omega) only [am0, am1, am2, am3, am4, am5, am6, am7, am8, am9, Nat.reduceSub, ↓reduceIte, reduceCtorEq, Nat.reduceEqDiff, Nat.reduceBEq, Nat.reduceAdd, Nat.reduceLT, Nat.reduceBNe, Nat.reduceMul, ↓reduceIte, tis]
    refine run_loop (α := Nat) (fun i => i ≤ p.length ∧ p.take i = q.take i) (fun i => [(0, .sl false 1 (p.map eStr)), (1, .sl false 1 (q.map eStr)), (5, .int .i64 i)]) (fun i => p.length - i) 0 ⟨Nat.zero_le _, by simp⟩ ?_ ?_
    · simp -implicitDefEqProofs (maxSteps := 100000) (disch := first | (intros; contradiction) | omega) only [am0, am1, am2, am3, am4, am5, am6, am7, am8, am9, Nat.reduceSub, ↓reduceIte, reduceCtorEq, Nat.reduceEqDiff, Nat.reduceBEq, Nat.reduceAdd, Nat.reduceLT, Nat.reduceBNe, Nat.reduceMul, ↓reduceIte, tis]
    · rintro i ⟨h1, h2⟩
      by_cases hi : i < p.length
      · by_cases h : p[i] = q[i]
        · have hb : (p[i] == q[i]) = true := by simp [h]
          simp -implicitDefEqProofs (maxSteps := 100000) (disch := first | (intros; contradiction) | omega) only [am0, am1, am2, am3, am4, am5, am6, am7, am8, am9, Nat.reduceSub, ↓reduceIte, reduceCtorEq, Nat.reduceEqDiff, Nat.reduceBEq, Nat.reduceAdd, Nat.reduceLT, Nat.reduceBNe, Nat.reduceMul, ↓reduceIte, tis, eStr, hb]
          refine .inl ⟨by kernel_rfl, ?_⟩
          refine round_normal (i + 1) ⟨by omega, ?_⟩ ?_ (by show p.length - (i + 1) < p.length - i; omega)
          · rw [List.take_succ_eq_append_getElem hi, List.take_succ_eq_append_getElem (by omega : i < q.length), h2, h]
          · simp -implicitDefEqProofs (maxSteps := 100000) (disch := first | (intros; contradiction) | omega) only [am0, am1, am2, am3, am4, am5, am6, am7, am8, am9, Nat.reduceSub, ↓reduceIte, reduceCtorEq, Nat.reduceEqDiff, Nat.reduceBEq, Nat.reduceAdd, Nat.reduceLT, Nat.reduceBNe, Nat.reduceMul, ↓reduceIte, tis]
        · have hne : p ≠ q := by rintro rfl; exact h rfl
          have hb : (p[i] == q[i]) = false := by simp [h]
          simp -implicitDefEqProofs (maxSteps := 100000) (disch := first | (intros; contradiction) | omega) only [am0, am1, am2, am3, am4, am5, am6, am7, am8, am9, Nat.reduceSub, ↓reduceIte, reduceCtorEq, Nat.reduceEqDiff, Nat.reduceBEq, Nat.reduceAdd, Nat.reduceLT, Nat.reduceBNe, Nat.reduceMul, ↓reduceIte, tis, eStr, hb, hne]
          refine .inl ?_
          show _ = _
          kernel_rfl
      · obtain rfl : i = p.length := by omega
        have hpq : p = q := by rwa [List.take_of_length_le (Nat.le_refl _), List.take_of_length_le (by omega)] at h2
        simp -implicitDefEqProofs (maxSteps := 100000) (disch := first | (intros; contradiction) | omega) only [am0, am1, am2, am3, am4, am5, am6, am7, am8, am9, Nat.reduceSub, ↓reduceIte, reduceCtorEq, Nat.reduceEqDiff, Nat.reduceBEq, Nat.reduceAdd, Nat.reduceLT, Nat.reduceBNe, Nat.reduceMul, ↓reduceIte, tis, hpq]
  · have hne : p ≠ q := fun h => hl (by rw [h])
    simp -implicitDefEqProofs (maxSteps := 100000) (disch := first | (intros; contradiction) | omega) only [am0, am1, am2, am3, am4, am5, am6, am7, am8, am9, Nat.reduceSub, ↓reduceIte, reduceCtorEq, Nat.reduceEqDiff, Nat.reduceBEq, Nat.reduceAdd, Nat.reduceLT, Nat.reduceBNe, Nat.reduceMul, ↓reduceIte, tis, hne]
def mkStrs (n : Nat) (k : Int) : List (List UInt8) := (List.range n).map fun (i : Nat) => mkT (k + (i : Int))
theorem mkStrs_succ (n : Nat) (k : Int) : mkStrs (n + 1) k = mkStrs n k ++ [mkT (k + n)] := by simp [mkStrs, List.range_succ]
theorem mkStrs_len (n : Nat) (k : Int) : (mkStrs n k).length = n := by simp [mkStrs]
/-- laws.markStringS -/
theorem fits_markStringS (p : List (List UInt8)) (k : Int) (hp : p.length ≤ 1048576) (h0 : 0 ≤ k) (hk : k ≤ 1099511627776) : Fits prog 32 [.sl true 1 (p.map eStr), .int .i64 k] (.int .i64 (k + p.length)) [.sl true 1 ((mkStrs p.length k).map eStr)] := by
  refine fits_of_code [4] [0] [0, 1, 4, 5, 9] func32 rfl rfl rfl (by rfl) (by show 2 ≤ 20; decide) (by rfl) (by rfl) (by show 1 ≤ 2; decide) (by rfl) (run_of ?_)
  simp -implicitDefEqProofs (maxSteps := 100000) (disch := first | (intros; contradiction) | omega) only [am0, am1, am2, am3, am4, am5, am6, am7, am8, am9, Nat.reduceSub, ↓reduceIte, reduceCtorEq, Nat.reduceEqDiff, Nat.reduceBEq, Nat.reduceAdd, Nat.reduceLT, Nat.reduceBNe, Nat.reduceMul, ↓reduceIte, tis]
  refine run_loop (α := Nat) (fun i => i ≤ p.length) (fun i => [(0, .sl true 1 ((mkStrs i k).map eStr ++ (p.drop i).map eStr)), (1, .int .i64 (k + i)), (5, .int .i64 i)]) (fun i => p.length - i) 0 (Nat.zero_le _) ?_ ?_
  · simp -implicitDefEqProofs (maxSteps := 100000) (disch := first | (intros; contradiction) | omega) only [am0, am1, am2, am3, am4, am5, am6, am7, am8, am9, Nat.reduceSub, ↓reduceIte, reduceCtorEq, Nat.reduceEqDiff, Nat.reduceBEq, Nat.reduceAdd, Nat.reduceLT, Nat.reduceBNe, Nat.reduceMul, ↓reduceIte, tis, mkStrs]
    try simp
  · intro i hi'
    have hA : ((mkStrs i k).map eStr).length = i := by simp [mkStrs_len]
    have hL : ((mkStrs i k).map eStr ++ (p.drop i).map eStr).length = p.length := by simp [mkStrs_len]; omega
    by_cases hi : i < p.length
    · have g1 := turn_get _ eStr p i hA hi
      have g2 := fun y => turn_set _ eStr p i y hA hi
      have cM := fits_markText (k + i) (by omega)
      simp only [eStr] at g1
      simp -implicitDefEqProofs (maxSteps := 100000) (disch := first | (intros; contradiction) | omega) only [am0, am1, am2, am3, am4, am5, am6, am7, am8, am9, Nat.reduceSub, ↓reduceIte, reduceCtorEq, Nat.reduceEqDiff, Nat.reduceBEq, Nat.reduceAdd, Nat.reduceLT, Nat.reduceBNe, Nat.reduceMul, ↓reduceIte, tis, hL, g1, g2]
      refine callB cM ?_
      simp -implicitDefEqProofs (maxSteps := 100000) (disch := first | (intros; contradiction) | omega) only [am0, am1, am2, am3, am4, am5, am6, am7, am8, am9, Nat.reduceSub, ↓reduceIte, reduceCtorEq, Nat.reduceEqDiff, Nat.reduceBEq, Nat.reduceAdd, Nat.reduceLT, Nat.reduceBNe, Nat.reduceMul, ↓reduceIte, tis, hL, g1, g2]
      refine round_normal (i + 1) (by omega) ?_ (by show p.length - (i + 1) < p.length - i; omega)
      simp -implicitDefEqProofs (maxSteps := 100000) (disch := first | (intros; contradiction) | omega) only [am0, am1, am2, am3, am4, am5, am6, am7, am8, am9, Nat.reduceSub, ↓reduceIte, reduceCtorEq, Nat.reduceEqDiff, Nat.reduceBEq, Nat.reduceAdd, Nat.reduceLT, Nat.reduceBNe, Nat.reduceMul, ↓reduceIte, tis, mkStrs_succ]
      simp [eStr]
      omega
    · obtain rfl : i = p.length := by omega
      simp -implicitDefEqProofs (maxSteps := 100000) (disch := first | (intros; contradiction) | omega) only [am0, am1, am2, am3, am4, am5, am6, am7, am8, am9, Nat.reduceSub, ↓reduceIte, reduceCtorEq, Nat.reduceEqDiff, Nat.reduceBEq, Nat.reduceAdd, Nat.reduceLT, Nat.reduceBNe, Nat.reduceMul, ↓reduceIte, tis, mkStrs_len]
theorem mkStrs_get (n : Nat) (k : Int) (i : Nat) (h : i < n) : ((mkStrs n k).map eStr).getD i .undef = .str (mkT (k + i)) := by
  simp [mkStrs, List.getD, h, eStr]
/-- laws.heldStringS -/
theorem fits_heldStringS (m : Nat) (k : Int) (hp : m ≤ 1048576) (h0 : 0 ≤ k) (hk : k ≤ 1048576) : Fits prog 33 [.sl false 1 ((mkStrs m k).map eStr), .int .i64 k] (.int .i64 (k + m)) [] := by
  refine fits_of_code [4] [] [0, 1, 4, 5, 9, 18] func33 rfl rfl rfl (by rfl) (by show 2 ≤ 22; decide) (by rfl) (by rfl) (by show 0 ≤ 2; decide) (by rfl) (run_of ?_)
  simp -implicitDefEqProofs (maxSteps := 100000) (disch := first | (intros; contradiction) | omega) only [am0, am1, am2, am3, am4, am5, am6, am7, am8, am9, Nat.reduceSub, ↓reduceIte, reduceCtorEq, Nat.reduceEqDiff, Nat.reduceBEq, Nat.reduceAdd, Nat.reduceLT, Nat.reduceBNe, Nat.reduceMul, ↓reduceIte, tis]
  refine run_loop (α := Nat) (fun i => i ≤ m) (fun i => [(0, .sl false 1 ((mkStrs m k).map eStr)), (1, .int .i64 (k + i)), (5, .int .i64 i)]) (fun i => m - i) 0 (Nat.zero_le _) ?_ ?_
  · simp -implicitDefEqProofs (maxSteps := 100000) (disch := first | (intros; contradiction) | omega) only [am0, am1, am2, am3, am4, am5, am6, am7, am8, am9, Nat.reduceSub, ↓reduceIte, reduceCtorEq, Nat.reduceEqDiff, Nat.reduceBEq, Nat.reduceAdd, Nat.reduceLT, Nat.reduceBNe, Nat.reduceMul, ↓reduceIte, tis]
  · intro i hi'
    by_cases hi : i < m
    · have g := mkStrs_get m k i hi
      have cM := fits_markText (k + i) (by omega)
      have hb : (mkT (k + i) == mkT (k + i)) = true := by simp
      simp -implicitDefEqProofs (maxSteps := 100000) (disch := first | (intros; contradiction) | omega) only [am0, am1, am2, am3, am4, am5, am6, am7, am8, am9, Nat.reduceSub, ↓reduceIte, reduceCtorEq, Nat.reduceEqDiff, Nat.reduceBEq, Nat.reduceAdd, Nat.reduceLT, Nat.reduceBNe, Nat.reduceMul, ↓reduceIte, tis, g, mkStrs_len]
      refine .inl ⟨by kernel_rfl, ?_⟩
      refine callL cM ?_
      simp -implicitDefEqProofs (maxSteps := 100000) (disch := first | (intros; contradiction) | omega) only [am0, am1, am2, am3, am4, am5, am6, am7, am8, am9, Nat.reduceSub, ↓reduceIte, reduceCtorEq, Nat.reduceEqDiff, Nat.reduceBEq, Nat.reduceAdd, Nat.reduceLT, Nat.reduceBNe, Nat.reduceMul, ↓reduceIte, tis, g, mkStrs_len, hb]
      refine round_normal (i + 1) (by omega) ?_ (by show m - (i + 1) < m - i; omega)
      simp -implicitDefEqProofs (maxSteps := 100000) (disch := first | (intros; contradiction) | omega) only [am0, am1, am2, am3, am4, am5, am6, am7, am8, am9, Nat.reduceSub, ↓reduceIte, reduceCtorEq, Nat.reduceEqDiff, Nat.reduceBEq, Nat.reduceAdd, Nat.reduceLT, Nat.reduceBNe, Nat.reduceMul, ↓reduceIte, tis, mkStrs_len]
      omega
    · obtain rfl : i = m := by omega
      simp -implicitDefEqProofs (maxSteps := 100000) (disch := first | (intros; contradiction) | omega) only [am0, am1, am2, am3, am4, am5, am6, am7, am8, am9, Nat.reduceSub, ↓reduceIte, reduceCtorEq, Nat.reduceEqDiff, Nat.reduceBEq, Nat.reduceAdd, Nat.reduceLT, Nat.reduceBNe, Nat.reduceMul, ↓reduceIte, tis, mkStrs_len]
/-- laws.toIns -/
theorem fits_toIns (x : Ins) : Fits prog 102 [eIns x] (eIns x) [] := by
  refine fits_of_cell 2 129 [] [0, 1, 2, 3] func102 rfl rfl rfl (by show 2 < 17; decide) (by show 1 ≤ 17; decide) (by rfl) (by rfl) (by show 0 ≤ 1; decide) (by rfl) (run_of ?_)
  simp -implicitDefEqProofs only [am0, am1, am2, am3, am4, am5, am6, am7, am8, am9, Nat.reduceSub, ↓reduceIte, reduceCtorEq, Nat.reduceEqDiff, Nat.reduceBEq, Nat.reduceAdd, Nat.reduceLT, Nat.reduceBNe, Nat.reduceMul, ↓reduceIte, tis, eIns]
/-- laws.eqIns -/
theorem fits_eqIns (x y : Ins) : Fits prog 107 [eIns x, eIns y] (.bool (decide (x = y))) [] := by
  refine fits_of_code [4] [] [0, 1, 2, 3, 4, 9, 14, 19, 24] func107 rfl rfl rfl (by rfl) (by show 2 ≤ 25; decide) (by rfl) (by rfl) (by show 0 ≤ 2; decide) (by rfl) (run_of ?_)
  obtain ⟨a0, a1, a2, a3⟩ := x
  obtain ⟨b0, b1, b2, b3⟩ := y
  by_cases h0 : a0 = b0
  case neg =>
    simp -implicitDefEqProofs (maxSteps := 100000) (disch := first | (intros; contradiction) | omega) only [am0, am1, am2, am3, am4, am5, am6, am7, am8, am9, Nat.reduceSub, ↓reduceIte, reduceCtorEq, Nat.reduceEqDiff, Nat.reduceBEq, Nat.reduceAdd, Nat.reduceLT, Nat.reduceBNe, Nat.reduceMul, ↓reduceIte, tis, eIns, h0]
    simp [h0]
  by_cases h1 : a1 = b1
  case neg =>
    simp -implicitDefEqProofs (maxSteps := 100000) (disch := first | (intros; contradiction) | omega) only [am0, am1, am2, am3, am4, am5, am6, am7, am8, am9, Nat.reduceSub, ↓reduceIte, reduceCtorEq, Nat.reduceEqDiff, Nat.reduceBEq, Nat.reduceAdd, Nat.reduceLT, Nat.reduceBNe, Nat.reduceMul, ↓reduceIte, tis, eIns, h0, h1]
    simp [h1]
  by_cases h2 : a2 = b2
  case neg =>
    simp -implicitDefEqProofs (maxSteps := 100000) (disch := first | (intros; contradiction) | omega) only [am0, am1, am2, am3, am4, am5, am6, am7, am8, am9, Nat.reduceSub, ↓reduceIte, reduceCtorEq, Nat.reduceEqDiff, Nat.reduceBEq, Nat.reduceAdd, Nat.reduceLT, Nat.reduceBNe, Nat.reduceMul, ↓reduceIte, tis, eIns, h0, h1, h2]
    simp [h2]
  by_cases h3 : a3 = b3
  case neg =>
    simp -implicitDefEqProofs (maxSteps := 100000) (disch := first | (intros; contradiction) | omega) only [am0, am1, am2, am3, am4, am5, am6, am7, am8, am9, Nat.reduceSub, ↓reduceIte, reduceCtorEq, Nat.reduceEqDiff, Nat.reduceBEq, Nat.reduceAdd, Nat.reduceLT, Nat.reduceBNe, Nat.reduceMul, ↓reduceIte, tis, eIns, h0, h1, h2, h3]
    simp [h3]
  simp -implicitDefEqProofs (maxSteps := 100000) (disch := first | (intros; contradiction) | omega) only [am0, am1, am2, am3, am4, am5, am6, am7, am8, am9, Nat.reduceSub, ↓reduceIte, reduceCtorEq, Nat.reduceEqDiff, Nat.reduceBEq, Nat.reduceAdd, Nat.reduceLT, Nat.reduceBNe, Nat.reduceMul, ↓reduceIte, tis, eIns, h0, h1, h2, h3]
/-- laws.szInsS -/
theorem fits_szInsS (p : List Ins) (n : Int) (hp : p.length ≤ 9223372036854775807) (hn : n ≤ 1048576) (hn0 : 0 ≤ n) : Fits prog 37 [.sl false 4 (p.map eIns), .int .i64 n] (.int .i64 (if n - p.length < 0 then -1 else n - p.length)) [] := by
  refine fits_of_code [4] [] [0, 1, 4, 10] func37 rfl rfl rfl (by rfl) (by show 2 ≤ 12; decide) (by rfl) (by rfl) (by show 0 ≤ 2; decide) (by rfl) (run_of ?_)
  by_cases hl : n - p.length < 0
  · simp -implicitDefEqProofs (maxSteps := 100000) (disch := first | (intros; contradiction) | omega) only [am0, am1, am2, am3, am4, am5, am6, am7, am8, am9, Nat.reduceSub, ↓reduceIte, reduceCtorEq, Nat.reduceEqDiff, Nat.reduceBEq, Nat.reduceAdd, Nat.reduceLT, Nat.reduceBNe, Nat.reduceMul, ↓reduceIte, tis, hl]
  · simp -implicitDefEqProofs (maxSteps := 100000) (disch := first | (intros; contradiction) | omega) only [am0, am1, am2, am3, am4, am5, am6, am7, am8, am9, Nat.reduceSub, ↓reduceIte, reduceCtorEq, Nat.reduceEqDiff, Nat.reduceBEq, Nat.reduceAdd, Nat.reduceLT, Nat.reduceBNe, Nat.reduceMul, ↓reduceIte, tis, hl]
/-- laws.toInsS -/
theorem fits_toInsS (p : List Ins) (hp : p.length ≤ 1048576) : Fits prog 40 [.sl false 4 (p.map eIns)] (.sl true 4 (p.map eIns)) [] := by
  refine fits_of_code [2] [] [0, 2, 3, 4, 11] func40 rfl rfl rfl (by rfl) (by show 1 ≤ 23; decide) (by rfl) (by rfl) (by show 0 ≤ 1; decide) (by rfl) (run_of ?_)
  simp -implicitDefEqProofs (maxSteps := 100000) (disch := first | (intros; contradiction) | omega) only [am0, am1, am2, am3, am4, am5, am6, am7, am8, am9, Nat.reduceSub, ↓reduceIte, reduceCtorEq, Nat.reduceEqDiff, Nat.reduceBEq, Nat.reduceAdd, Nat.reduceLT, Nat.reduceBNe, Nat.reduceMul, ↓reduceIte, tis]
  refine run_loop (α := Nat) (fun i => i ≤ p.length) (fun i => [(0, .sl false 4 (p.map eIns)), (3, .sl true 4 ((p.take i).map eIns ++ List.replicate (p.length - i) (eIns ⟨0, 0, 0, 0⟩))), (4, .int .i64 i)]) (fun i => p.length - i) 0 (Nat.zero_le _) ?_ ?_
  · simp -implicitDefEqProofs (maxSteps := 100000) (disch := first | (intros; contradiction) | omega) only [am0, am1, am2, am3, am4, am5, am6, am7, am8, am9, Nat.reduceSub, ↓reduceIte, reduceCtorEq, Nat.reduceEqDiff, Nat.reduceBEq, Nat.reduceAdd, Nat.reduceLT, Nat.reduceBNe, Nat.reduceMul, ↓reduceIte, eIns]
  · intro i hi'
    by_cases hi : i < p.length
    · have g2 := build_get eIns (eIns ⟨0, 0, 0, 0⟩) p i hi
      have g3 := build_set eIns (eIns ⟨0, 0, 0, 0⟩) p i hi
      have g4 := build_len eIns (eIns ⟨0, 0, 0, 0⟩) p i hi'
      simp only [eIns] at g2 g3 g4
      simp -implicitDefEqProofs (maxSteps := 100000) (disch := first | (intros; contradiction) | omega) only [am0, am1, am2, am3, am4, am5, am6, am7, am8, am9, Nat.reduceSub, ↓reduceIte, reduceCtorEq, Nat.reduceEqDiff, Nat.reduceBEq, Nat.reduceAdd, Nat.reduceLT, Nat.reduceBNe, Nat.reduceMul, ↓reduceIte, tis, eIns]
      refine callb_of (fits_toIns p[i]) (by simp -implicitDefEqProofs (maxSteps := 100000) (disch := first | (intros; contradiction) | omega) only [am0, am1, am2, am3, am4, am5, am6, am7, am8, am9, Nat.reduceSub, ↓reduceIte, reduceCtorEq, Nat.reduceEqDiff, Nat.reduceBEq, Nat.reduceAdd, Nat.reduceLT, Nat.reduceBNe, Nat.reduceMul, ↓reduceIte, tis, eIns]) (.inl rfl) rfl ?_
      simp -implicitDefEqProofs (maxSteps := 100000) (disch := first | (intros; contradiction) | omega) only [am0, am1, am2, am3, am4, am5, am6, am7, am8, am9, Nat.reduceSub, ↓reduceIte, reduceCtorEq, Nat.reduceEqDiff, Nat.reduceBEq, Nat.reduceAdd, Nat.reduceLT, Nat.reduceBNe, Nat.reduceMul, ↓reduceIte, tis, eIns, g2, g3, g4]
      refine round_normal (i + 1) (by omega) ?_ (by show p.length - (i + 1) < p.length - i; omega)
      simp -implicitDefEqProofs (maxSteps := 100000) (disch := first | (intros; contradiction) | omega) only [am0, am1, am2, am3, am4, am5, am6, am7, am8, am9, Nat.reduceSub, ↓reduceIte, reduceCtorEq, Nat.reduceEqDiff, Nat.reduceBEq, Nat.reduceAdd, Nat.reduceLT, Nat.reduceBNe, Nat.reduceMul, ↓reduceIte, eIns]
    · obtain rfl : i = p.length := by omega
      simp -implicitDefEqProofs (maxSteps := 100000) (disch := first | (intros; contradiction) | omega) only [am0, am1, am2, am3, am4, am5, am6, am7, am8, am9, Nat.reduceSub, ↓reduceIte, reduceCtorEq, Nat.reduceEqDiff, Nat.reduceBEq, Nat.reduceAdd, Nat.reduceLT, Nat.reduceBNe, Nat.reduceMul, ↓reduceIte, tis]
/-- laws.eqInsS -/
theorem fits_eqInsS (p q : List Ins) (hp : p.length ≤ 1048576) (hq : q.length ≤ 1048576) : Fits prog 44 [.sl false 4 (p.map eIns), .sl false 4 (q.map eIns)] (.bool (decide (p = q))) [] := by
  refine fits_of_code [4] [] [0, 1, 4, 5, 10, 14, 26] func44 rfl rfl rfl (by rfl) (by show 2 ≤ 27; decide) (by rfl) (by rfl) (by show 0 ≤ 2; decide) (by rfl) (run_of ?_)
  by_cases hl : p.length = q.length
  · simp -implicitDefEqProofs (maxSteps := 100000) (disch := first | (intros; contradiction) | omega) only [am0, am1, am2, am3, am4, am5, am6, am7, am8, am9, Nat.reduceSub, ↓reduceIte, reduceCtorEq, Nat.reduceEqDiff, Nat.reduceBEq, Nat.reduceAdd, Nat.reduceLT, Nat.reduceBNe, Nat.reduceMul, ↓reduceIte, tis]
    refine run_loop (α := Nat) (fun i => i ≤ p.length ∧ p.take i = q.take i) (fun i => [(0, .sl false 4 (p.map eIns)), (1, .sl false 4 (q.map eIns)), (5, .int .i64 i)]) (fun i => p.length - i) 0 ⟨Nat.zero_le _, by simp⟩ ?_ ?_
    · simp -implicitDefEqProofs (maxSteps := 100000) (disch := first | (intros; contradiction) | omega) only [am0, am1, am2, am3, am4, am5, am6, am7, am8, am9, Nat.reduceSub, ↓reduceIte, reduceCtorEq, Nat.reduceEqDiff, Nat.reduceBEq, Nat.reduceAdd, Nat.reduceLT, Nat.reduceBNe, Nat.reduceMul, ↓reduceIte, tis]
    · rintro i ⟨h1, h2⟩
      by_cases hi : i < p.length
      · simp -implicitDefEqProofs (maxSteps := 100000) (disch := first | (intros; contradiction) | omega) only [am0, am1, am2, am3, am4, am5, am6, am7, am8, am9, Nat.reduceSub, ↓reduceIte, reduceCtorEq, Nat.reduceEqDiff, Nat.reduceBEq, Nat.reduceAdd, Nat.reduceLT, Nat.reduceBNe, Nat.reduceMul, ↓reduceIte, tis, eIns]
        refine .inl ⟨by kernel_rfl, ?_⟩
        refine call_of (fits_eqIns p[i] q[i]) (by simp -implicitDefEqProofs (maxSteps := 100000) (disch := first | (intros; contradiction) | omega) only [am0, am1, am2, am3, am4, am5, am6, am7, am8, am9, Nat.reduceSub, ↓reduceIte, reduceCtorEq, Nat.reduceEqDiff, Nat.reduceBEq, Nat.reduceAdd, Nat.reduceLT, Nat.reduceBNe, Nat.reduceMul, ↓reduceIte, tis, eIns]) (.inl rfl) rfl ?_
        by_cases h : p[i] = q[i]
        · simp -implicitDefEqProofs (maxSteps := 100000) (disch := first | (intros; contradiction) | omega) only [am0, am1, am2, am3, am4, am5, am6, am7, am8, am9, Nat.reduceSub, ↓reduceIte, reduceCtorEq, Nat.reduceEqDiff, Nat.reduceBEq, Nat.reduceAdd, Nat.reduceLT, Nat.reduceBNe, Nat.reduceMul, ↓reduceIte, tis, h]
          refine round_normal (i + 1) ⟨by omega, ?_⟩ ?_ (by show p.length - (i + 1) < p.length - i; omega)
          · rw [List.take_succ_eq_append_getElem hi, List.take_succ_eq_append_getElem (by omega : i < q.length), h2, h]
          · simp -implicitDefEqProofs (maxSteps := 100000) (disch := first | (intros; contradiction) | omega) only [am0, am1, am2, am3, am4, am5, am6, am7, am8, am9, Nat.reduceSub, ↓reduceIte, reduceCtorEq, Nat.reduceEqDiff, Nat.reduceBEq, Nat.reduceAdd, Nat.reduceLT, Nat.reduceBNe, Nat.reduceMul, ↓reduceIte, tis]
        · have hne : p ≠ q := by rintro rfl; exact h rfl
          simp -implicitDefEqProofs (maxSteps := 100000) (disch := first | (intros; contradiction) | omega) only [am0, am1, am2, am3, am4, am5, am6, am7, am8, am9, Nat.reduceSub, ↓reduceIte, reduceCtorEq, Nat.reduceEqDiff, Nat.reduceBEq, Nat.reduceAdd, Nat.reduceLT, Nat.reduceBNe, Nat.reduceMul, ↓reduceIte, tis, h, hne]
      · obtain rfl : i = p.length := by omega
        have hpq : p = q := by rwa [List.take_of_length_le (Nat.le_refl _), List.take_of_length_le (by omega)] at h2
        simp -implicitDefEqProofs (maxSteps := 100000) (disch := first | (intros; contradiction) | omega) only [am0, am1, am2, am3, am4, am5, am6, am7, am8, am9, Nat.reduceSub, ↓reduceIte, reduceCtorEq, Nat.reduceEqDiff, Nat.reduceBEq, Nat.reduceAdd, Nat.reduceLT, Nat.reduceBNe, Nat.reduceMul, ↓reduceIte, tis, hpq]
  · have hne : p ≠ q := fun h => hl (by rw [h])
    simp -implicitDefEqProofs (maxSteps := 100000) (disch := first | (intros; contradiction) | omega) only [am0, am1, am2, am3, am4, am5, am6, am7, am8, am9, Nat.reduceSub, ↓reduceIte, reduceCtorEq, Nat.reduceEqDiff, Nat.reduceBEq, Nat.reduceAdd, Nat.reduceLT, Nat.reduceBNe, Nat.reduceMul, ↓reduceIte, tis, hne]
/-- The marks that are put into n such from k on. -/
def mkIns (k : Int) : Ins := ⟨k, k + 1, k + 2, k + 3⟩
def mkInss (n : Nat) (k : Int) : List Ins := (List.range n).map fun (i : Nat) => mkIns (k + 4 * (i : Int))
theorem mkInss_succ (n : Nat) (k : Int) : mkInss (n + 1) k = mkInss n k ++ [mkIns (k + 4 * n)] := by simp [mkInss, List.range_succ]
theorem mkInss_len (n : Nat) (k : Int) : (mkInss n k).length = n := by simp [mkInss]
/-- laws.markInsS -/
theorem fits_markInsS (p : List Ins) (k : Int) (hp : p.length ≤ 1048576) (h0 : 0 ≤ k) (hk : k ≤ 1152921504606846976) : Fits prog 45 [.sl true 4 (p.map eIns), .int .i64 k] (.int .i64 (k + 4 * p.length)) [.sl true 4 ((mkInss p.length k).map eIns)] := by
  refine fits_of_code [4] [0] [0, 1, 4, 5, 9] func45 rfl rfl rfl (by rfl) (by show 2 ≤ 41; decide) (by rfl) (by rfl) (by show 1 ≤ 2; decide) (by rfl) (run_of ?_)
  simp -implicitDefEqProofs (maxSteps := 100000) (disch := first | (intros; contradiction) | omega) only [am0, am1, am2, am3, am4, am5, am6, am7, am8, am9, Nat.reduceSub, ↓reduceIte, reduceCtorEq, Nat.reduceEqDiff, Nat.reduceBEq, Nat.reduceAdd, Nat.reduceLT, Nat.reduceBNe, Nat.reduceMul, ↓reduceIte, tis]
  refine run_loop (α := Nat) (fun i => i ≤ p.length) (fun i => [(0, .sl true 4 ((mkInss i k).map eIns ++ (p.drop i).map eIns)), (1, .int .i64 (k + 4 * i)), (5, .int .i64 i)]) (fun i => p.length - i) 0 (Nat.zero_le _) ?_ ?_
  · simp -implicitDefEqProofs (maxSteps := 100000) (disch := first | (intros; contradiction) | omega) only [am0, am1, am2, am3, am4, am5, am6, am7, am8, am9, Nat.reduceSub, ↓reduceIte, reduceCtorEq, Nat.reduceEqDiff, Nat.reduceBEq, Nat.reduceAdd, Nat.reduceLT, Nat.reduceBNe, Nat.reduceMul, ↓reduceIte, tis, mkInss]
    try simp
  · intro i hi'
    have hA : ((mkInss i k).map eIns).length = i := by simp [mkInss_len]
    have hL : ((mkInss i k).map eIns ++ (p.drop i).map eIns).length = p.length := by simp [mkInss_len]; omega
    by_cases hi : i < p.length
    · have g1 := turn_get _ eIns p i hA hi
      have g2 := fun y => turn_set _ eIns p i y hA hi
      have g3 : ∀ y, ((mkInss i k).map eIns ++ [y] ++ (p.drop (i + 1)).map eIns)[i]? = some y := fun y => by
        rw [List.append_assoc, List.getElem?_append_right (by omega), hA, Nat.sub_self]; rfl
      have g4 : ∀ y z, ((mkInss i k).map eIns ++ [y] ++ (p.drop (i + 1)).map eIns).set i z = (mkInss i k).map eIns ++ [z] ++ (p.drop (i + 1)).map eIns := fun y z => by
        rw [List.append_assoc, List.set_append_right _ _ (by omega), hA, Nat.sub_self]; simp
      have g5 : ∀ y, ((mkInss i k).map eIns ++ [y] ++ (p.drop (i + 1)).map eIns).length = p.length := fun y => by simp [mkInss_len]; omega
      simp only [eIns] at g1
      simp -implicitDefEqProofs (maxSteps := 100000) (disch := first | (intros; contradiction) | omega) only [am0, am1, am2, am3, am4, am5, am6, am7, am8, am9, Nat.reduceSub, ↓reduceIte, reduceCtorEq, Nat.reduceEqDiff, Nat.reduceBEq, Nat.reduceAdd, Nat.reduceLT, Nat.reduceBNe, Nat.reduceMul, ↓reduceIte, tis, hL, g1, g2, g3, g4, g5]
      refine round_normal (i + 1) (by omega) ?_ (by show p.length - (i + 1) < p.length - i; omega)
      simp -implicitDefEqProofs (maxSteps := 100000) (disch := first | (intros; contradiction) | omega) only [am0, am1, am2, am3, am4, am5, am6, am7, am8, am9, Nat.reduceSub, ↓reduceIte, reduceCtorEq, Nat.reduceEqDiff, Nat.reduceBEq, Nat.reduceAdd, Nat.reduceLT, Nat.reduceBNe, Nat.reduceMul, ↓reduceIte, tis, mkInss_succ]
      simp [mkIns, eIns]
      omega
    · obtain rfl : i = p.length := by omega
      simp -implicitDefEqProofs (maxSteps := 100000) (disch := first | (intros; contradiction) | omega) only [am0, am1, am2, am3, am4, am5, am6, am7, am8, am9, Nat.reduceSub, ↓reduceIte, reduceCtorEq, Nat.reduceEqDiff, Nat.reduceBEq, Nat.reduceAdd, Nat.reduceLT, Nat.reduceBNe, Nat.reduceMul, ↓reduceIte, tis, mkInss_len]
theorem mkInss_get (n : Nat) (k : Int) (i : Nat) (h : i < n) : ((mkInss n k).map eIns).getD i .undef = eIns (mkIns (k + 4 * i)) := by
  simp [mkInss, List.getD, h]
/-- laws.heldInsS -/
theorem fits_heldInsS (m : Nat) (k : Int) (hp : m ≤ 1048576) (h0 : 0 ≤ k) (hk : k ≤ 1152921504606846976) : Fits prog 67 [.sl false 4 ((mkInss m k).map eIns), .int .i64 k] (.int .i64 (k + 4 * m)) [] := by
  refine fits_of_code [4] [] [0, 1, 4, 5, 9, 18, 27, 36, 45] func67 rfl rfl rfl (by rfl) (by show 2 ≤ 49; decide) (by rfl) (by rfl) (by show 0 ≤ 2; decide) (by rfl) (run_of ?_)
  simp -implicitDefEqProofs (maxSteps := 100000) (disch := first | (intros; contradiction) | omega) only [am0, am1, am2, am3, am4, am5, am6, am7, am8, am9, Nat.reduceSub, ↓reduceIte, reduceCtorEq, Nat.reduceEqDiff, Nat.reduceBEq, Nat.reduceAdd, Nat.reduceLT, Nat.reduceBNe, Nat.reduceMul, ↓reduceIte, tis]
  refine run_loop (α := Nat) (fun i => i ≤ m) (fun i => [(0, .sl false 4 ((mkInss m k).map eIns)), (1, .int .i64 (k + 4 * i)), (5, .int .i64 i)]) (fun i => m - i) 0 (Nat.zero_le _) ?_ ?_
  · simp -implicitDefEqProofs (maxSteps := 100000) (disch := first | (intros; contradiction) | omega) only [am0, am1, am2, am3, am4, am5, am6, am7, am8, am9, Nat.reduceSub, ↓reduceIte, reduceCtorEq, Nat.reduceEqDiff, Nat.reduceBEq, Nat.reduceAdd, Nat.reduceLT, Nat.reduceBNe, Nat.reduceMul, ↓reduceIte, tis]
  · intro i hi'
    by_cases hi : i < m
    · have g := mkInss_get m k i hi
      simp only [eIns, mkIns] at g
      simp -implicitDefEqProofs (maxSteps := 100000) (disch := first | (intros; contradiction) | omega) only [am0, am1, am2, am3, am4, am5, am6, am7, am8, am9, Nat.reduceSub, ↓reduceIte, reduceCtorEq, Nat.reduceEqDiff, Nat.reduceBEq, Nat.reduceAdd, Nat.reduceLT, Nat.reduceBNe, Nat.reduceMul, ↓reduceIte, tis, g, mkInss_len]
      refine round_normal (i + 1) (by omega) ?_ (by show m - (i + 1) < m - i; omega)
      simp -implicitDefEqProofs (maxSteps := 100000) (disch := first | (intros; contradiction) | omega) only [am0, am1, am2, am3, am4, am5, am6, am7, am8, am9, Nat.reduceSub, ↓reduceIte, reduceCtorEq, Nat.reduceEqDiff, Nat.reduceBEq, Nat.reduceAdd, Nat.reduceLT, Nat.reduceBNe, Nat.reduceMul, ↓reduceIte, tis, mkInss_len]
      omega
    · obtain rfl : i = m := by omega
      simp -implicitDefEqProofs (maxSteps := 100000) (disch := first | (intros; contradiction) | omega) only [am0, am1, am2, am3, am4, am5, am6, am7, am8, am9, Nat.reduceSub, ↓reduceIte, reduceCtorEq, Nat.reduceEqDiff, Nat.reduceBEq, Nat.reduceAdd, Nat.reduceLT, Nat.reduceBNe, Nat.reduceMul, ↓reduceIte, tis, mkInss_len]
/-- laws.toToken -/
theorem fits_toToken (x : Token) : Fits prog 157 [eToken x] (eToken x) [] := by
  refine fits_of_cell 2 134 [] [0, 1, 2, 3] func157 rfl rfl rfl (by show 2 < 14; decide) (by show 1 ≤ 14; decide) (by rfl) (by rfl) (by show 0 ≤ 1; decide) (by rfl) (run_of ?_)
  simp -implicitDefEqProofs only [am0, am1, am2, am3, am4, am5, am6, am7, am8, am9, Nat.reduceSub, ↓reduceIte, reduceCtorEq, Nat.reduceEqDiff, Nat.reduceBEq, Nat.reduceAdd, Nat.reduceLT, Nat.reduceBNe, Nat.reduceMul, ↓reduceIte, tis, eToken]
/-- laws.eqToken -/
theorem fits_eqToken (x y : Token) : Fits prog 106 [eToken x, eToken y] (.bool (decide (x = y))) [] := by
  refine fits_of_code [4] [] [0, 1, 2, 3, 4, 9, 14, 19] func106 rfl rfl rfl (by rfl) (by show 2 ≤ 20; decide) (by rfl) (by rfl) (by show 0 ≤ 2; decide) (by rfl) (run_of ?_)
  obtain ⟨a0, a1, a2⟩ := x
  obtain ⟨b0, b1, b2⟩ := y
  by_cases h0 : a0 = b0
  case neg =>
    simp -implicitDefEqProofs (maxSteps := 100000) (disch := first | (intros; contradiction) | omega) only [am0, am1, am2, am3, am4, am5, am6, am7, am8, am9, Nat.reduceSub, ↓reduceIte, reduceCtorEq, Nat.reduceEqDiff, Nat.reduceBEq, Nat.reduceAdd, Nat.reduceLT, Nat.reduceBNe, Nat.reduceMul, ↓reduceIte, tis, eToken, h0]
    simp [h0]
  by_cases h1 : a1 = b1
  case neg =>
    simp -implicitDefEqProofs (maxSteps := 100000) (disch := first | (intros; contradiction) | omega) only [am0, am1, am2, am3, am4, am5, am6, am7, am8, am9, Nat.reduceSub, ↓reduceIte, reduceCtorEq, Nat.reduceEqDiff, Nat.reduceBEq, Nat.reduceAdd, Nat.reduceLT, Nat.reduceBNe, Nat.reduceMul, ↓reduceIte, tis, eToken, h0, h1]
    simp [h1]
  by_cases h2 : a2 = b2
  case neg =>
    simp -implicitDefEqProofs (maxSteps := 100000) (disch := first | (intros; contradiction) | omega) only [am0, am1, am2, am3, am4, am5, am6, am7, am8, am9, Nat.reduceSub, ↓reduceIte, reduceCtorEq, Nat.reduceEqDiff, Nat.reduceBEq, Nat.reduceAdd, Nat.reduceLT, Nat.reduceBNe, Nat.reduceMul, ↓reduceIte, tis, eToken, h0, h1, h2]
    simp [h2]
  simp -implicitDefEqProofs (maxSteps := 100000) (disch := first | (intros; contradiction) | omega) only [am0, am1, am2, am3, am4, am5, am6, am7, am8, am9, Nat.reduceSub, ↓reduceIte, reduceCtorEq, Nat.reduceEqDiff, Nat.reduceBEq, Nat.reduceAdd, Nat.reduceLT, Nat.reduceBNe, Nat.reduceMul, ↓reduceIte, tis, eToken, h0, h1, h2]
/-- laws.szTokenS -/
theorem fits_szTokenS (p : List Token) (n : Int) (hp : p.length ≤ 9223372036854775807) (hn : n ≤ 1048576) (hn0 : 0 ≤ n) : Fits prog 108 [.sl false 3 (p.map eToken), .int .i64 n] (.int .i64 (if n - p.length < 0 then -1 else n - p.length)) [] := by
  refine fits_of_code [4] [] [0, 1, 4, 10] func108 rfl rfl rfl (by rfl) (by show 2 ≤ 12; decide) (by rfl) (by rfl) (by show 0 ≤ 2; decide) (by rfl) (run_of ?_)
  by_cases hl : n - p.length < 0
  · simp -implicitDefEqProofs (maxSteps := 100000) (disch := first | (intros; contradiction) | omega) only [am0, am1, am2, am3, am4, am5, am6, am7, am8, am9, Nat.reduceSub, ↓reduceIte, reduceCtorEq, Nat.reduceEqDiff, Nat.reduceBEq, Nat.reduceAdd, Nat.reduceLT, Nat.reduceBNe, Nat.reduceMul, ↓reduceIte, tis, hl]
  · simp -implicitDefEqProofs (maxSteps := 100000) (disch := first | (intros; contradiction) | omega) only [am0, am1, am2, am3, am4, am5, am6, am7, am8, am9, Nat.reduceSub, ↓reduceIte, reduceCtorEq, Nat.reduceEqDiff, Nat.reduceBEq, Nat.reduceAdd, Nat.reduceLT, Nat.reduceBNe, Nat.reduceMul, ↓reduceIte, tis, hl]
/-- laws.toTokenS -/
theorem fits_toTokenS (p : List Token) (hp : p.length ≤ 1048576) : Fits prog 113 [.sl false 3 (p.map eToken)] (.sl true 3 (p.map eToken)) [] := by
  refine fits_of_code [2] [] [0, 2, 3, 4, 11] func113 rfl rfl rfl (by rfl) (by show 1 ≤ 23; decide) (by rfl) (by rfl) (by show 0 ≤ 1; decide) (by rfl) (run_of ?_)
  simp -implicitDefEqProofs (maxSteps := 100000) (disch := first | (intros; contradiction) | omega) only [am0, am1, am2, am3, am4, am5, am6, am7, am8, am9, Nat.reduceSub, ↓reduceIte, reduceCtorEq, Nat.reduceEqDiff, Nat.reduceBEq, Nat.reduceAdd, Nat.reduceLT, Nat.reduceBNe, Nat.reduceMul, ↓reduceIte, tis]
  refine run_loop (α := Nat) (fun i => i ≤ p.length) (fun i => [(0, .sl false 3 (p.map eToken)), (3, .sl true 3 ((p.take i).map eToken ++ List.replicate (p.length - i) (eToken ⟨0, 0, 0⟩))), (4, .int .i64 i)]) (fun i => p.length - i) 0 (Nat.zero_le _) ?_ ?_
  · simp -implicitDefEqProofs (maxSteps := 100000) (disch := first | (intros; contradiction) | omega) only [am0, am1, am2, am3, am4, am5, am6, am7, am8, am9, Nat.reduceSub, ↓reduceIte, reduceCtorEq, Nat.reduceEqDiff, Nat.reduceBEq, Nat.reduceAdd, Nat.reduceLT, Nat.reduceBNe, Nat.reduceMul, ↓reduceIte, eToken]
  · intro i hi'
    by_cases hi : i < p.length
    · have g2 := build_get eToken (eToken ⟨0, 0, 0⟩) p i hi
      have g3 := build_set eToken (eToken ⟨0, 0, 0⟩) p i hi
      have g4 := build_len eToken (eToken ⟨0, 0, 0⟩) p i hi'
      simp only [eToken] at g2 g3 g4
      simp -implicitDefEqProofs (maxSteps := 100000) (disch := first | (intros; contradiction) | omega) only [am0, am1, am2, am3, am4, am5, am6, am7, am8, am9, Nat.reduceSub, ↓reduceIte, reduceCtorEq, Nat.reduceEqDiff, Nat.reduceBEq, Nat.reduceAdd, Nat.reduceLT, Nat.reduceBNe, Nat.reduceMul, ↓reduceIte, tis, eToken]
      refine callb_of (fits_toToken p[i]) (by simp -implicitDefEqProofs (maxSteps := 100000) (disch := first | (intros; contradiction) | omega) only [am0, am1, am2, am3, am4, am5, am6, am7, am8, am9, Nat.reduceSub, ↓reduceIte, reduceCtorEq, Nat.reduceEqDiff, Nat.reduceBEq, Nat.reduceAdd, Nat.reduceLT, Nat.reduceBNe, Nat.reduceMul, ↓reduceIte, tis, eToken]) (.inl rfl) rfl ?_
      simp -implicitDefEqProofs (maxSteps := 100000) (disch := first | (intros; contradiction) | omega) only [am0, am1, am2, am3, am4, am5, am6, am7, am8, am9, Nat.reduceSub, ↓reduceIte, reduceCtorEq, Nat.reduceEqDiff, Nat.reduceBEq, Nat.reduceAdd, Nat.reduceLT, Nat.reduceBNe, Nat.reduceMul, ↓reduceIte, tis, eToken, g2, g3, g4]
      refine round_normal (i + 1) (by omega) ?_ (by show p.length - (i + 1) < p.length - i; omega)
      simp -implicitDefEqProofs (maxSteps := 100000) (disch := first | (intros; contradiction) | omega) only [am0, am1, am2, am3, am4, am5, am6, am7, am8, am9, Nat.reduceSub, ↓reduceIte, reduceCtorEq, Nat.reduceEqDiff, Nat.reduceBEq, Nat.reduceAdd, Nat.reduceLT, Nat.reduceBNe, Nat.reduceMul, ↓reduceIte, eToken]
    · obtain rfl : i = p.length := by omega
      simp -implicitDefEqProofs (maxSteps := 100000) (disch := first | (intros; contradiction) | omega) only [am0, am1, am2, am3, am4, am5, am6, am7, am8, am9, Nat.reduceSub, ↓reduceIte, reduceCtorEq, Nat.reduceEqDiff, Nat.reduceBEq, Nat.reduceAdd, Nat.reduceLT, Nat.reduceBNe, Nat.reduceMul, ↓reduceIte, tis]
/-- laws.eqTokenS -/
theorem fits_eqTokenS (p q : List Token) (hp : p.length ≤ 1048576) (hq : q.length ≤ 1048576) : Fits prog 43 [.sl false 3 (p.map eToken), .sl false 3 (q.map eToken)] (.bool (decide (p = q))) [] := by
  refine fits_of_code [4] [] [0, 1, 4, 5, 10, 14, 26] func43 rfl rfl rfl (by rfl) (by show 2 ≤ 27; decide) (by rfl) (by rfl) (by show 0 ≤ 2; decide) (by rfl) (run_of ?_)
  by_cases hl : p.length = q.length
  · simp -implicitDefEqProofs (maxSteps := 100000) (disch := first | (intros; contradiction) | omega) only [am0, am1, am2, am3, am4, am5, am6, am7, am8, am9, Nat.reduceSub, ↓reduceIte, reduceCtorEq, Nat.reduceEqDiff, Nat.reduceBEq, Nat.reduceAdd, Nat.reduceLT, Nat.reduceBNe, Nat.reduceMul, ↓reduceIte, tis]
    refine run_loop (α := Nat) (fun i => i ≤ p.length ∧ p.take i = q.take i) (fun i => [(0, .sl false 3 (p.map eToken)), (1, .sl false 3 (q.map eToken)), (5, .int .i64 i)]) (fun i => p.length - i) 0 ⟨Nat.zero_le _, by simp⟩ ?_ ?_
    · simp -implicitDefEqProofs (maxSteps := 100000) (disch := first | (intros; contradiction) | omega) only [am0, am1, am2, am3, am4, am5, am6, am7, am8, am9, Nat.reduceSub, ↓reduceIte, reduceCtorEq, Nat.reduceEqDiff, Nat.reduceBEq, Nat.reduceAdd, Nat.reduceLT, Nat.reduceBNe, Nat.reduceMul, ↓reduceIte, tis]
    · rintro i ⟨h1, h2⟩
      by_cases hi : i < p.length
      · simp -implicitDefEqProofs (maxSteps := 100000) (disch := first | (intros; contradiction) | omega) only [am0, am1, am2, am3, am4, am5, am6, am7, am8, am9, Nat.reduceSub, ↓reduceIte, reduceCtorEq, Nat.reduceEqDiff, Nat.reduceBEq, Nat.reduceAdd, Nat.reduceLT, Nat.reduceBNe, Nat.reduceMul, ↓reduceIte, tis, eToken]
        refine .inl ⟨by kernel_rfl, ?_⟩
        refine call_of (fits_eqToken p[i] q[i]) (by simp -implicitDefEqProofs (maxSteps := 100000) (disch := first | (intros; contradiction) | omega) only [am0, am1, am2, am3, am4, am5, am6, am7, am8, am9, Nat.reduceSub, ↓reduceIte, reduceCtorEq, Nat.reduceEqDiff, Nat.reduceBEq, Nat.reduceAdd, Nat.reduceLT, Nat.reduceBNe, Nat.reduceMul, ↓reduceIte, tis, eToken]) (.inl rfl) rfl ?_
        by_cases h : p[i] = q[i]
        · simp -implicitDefEqProofs (maxSteps := 100000) (disch := first | (intros; contradiction) | omega) only [am0, am1, am2, am3, am4, am5, am6, am7, am8, am9, Nat.reduceSub, ↓reduceIte, reduceCtorEq, Nat.reduceEqDiff, Nat.reduceBEq, Nat.reduceAdd, Nat.reduceLT, Nat.reduceBNe, Nat.reduceMul, ↓reduceIte, tis, h]
          refine round_normal (i + 1) ⟨by omega, ?_⟩ ?_ (by show p.length - (i + 1) < p.length - i; omega)
          · rw [List.take_succ_eq_append_getElem hi, List.take_succ_eq_append_getElem (by omega : i < q.length), h2, h]
          · simp -implicitDefEqProofs (maxSteps := 100000) (disch := first | (intros; contradiction) | omega) only [am0, am1, am2, am3, am4, am5, am6, am7, am8, am9, Nat.reduceSub, ↓reduceIte, reduceCtorEq, Nat.reduceEqDiff, Nat.reduceBEq, Nat.reduceAdd, Nat.reduceLT, Nat.reduceBNe, Nat.reduceMul, ↓reduceIte, tis]
        · have hne : p ≠ q := by rintro rfl; exact h rfl
          simp -implicitDefEqProofs (maxSteps := 100000) (disch := first | (intros; contradiction) | omega) only [am0, am1, am2, am3, am4, am5, am6, am7, am8, am9, Nat.reduceSub, ↓reduceIte, reduceCtorEq, Nat.reduceEqDiff, Nat.reduceBEq, Nat.reduceAdd, Nat.reduceLT, Nat.reduceBNe, Nat.reduceMul, ↓reduceIte, tis, h, hne]
      · obtain rfl : i = p.length := by omega
        have hpq : p = q := by rwa [List.take_of_length_le (Nat.le_refl _), List.take_of_length_le (by omega)] at h2
        simp -implicitDefEqProofs (maxSteps := 100000) (disch := first | (intros; contradiction) | omega) only [am0, am1, am2, am3, am4, am5, am6, am7, am8, am9, Nat.reduceSub, ↓reduceIte, reduceCtorEq, Nat.reduceEqDiff, Nat.reduceBEq, Nat.reduceAdd, Nat.reduceLT, Nat.reduceBNe, Nat.reduceMul, ↓reduceIte, tis, hpq]
  · have hne : p ≠ q := fun h => hl (by rw [h])
    simp -implicitDefEqProofs (maxSteps := 100000) (disch := first | (intros; contradiction) | omega) only [am0, am1, am2, am3, am4, am5, am6, am7, am8, am9, Nat.reduceSub, ↓reduceIte, reduceCtorEq, Nat.reduceEqDiff, Nat.reduceBEq, Nat.reduceAdd, Nat.reduceLT, Nat.reduceBNe, Nat.reduceMul, ↓reduceIte, tis, hne]
/-- The marks that are put into n such from k on. -/
def mkToken (k : Int) : Token := ⟨k, k + 1, k + 2⟩
def mkTokens (n : Nat) (k : Int) : List Token := (List.range n).map fun (i : Nat) => mkToken (k + 3 * (i : Int))
theorem mkTokens_succ (n : Nat) (k : Int) : mkTokens (n + 1) k = mkTokens n k ++ [mkToken (k + 3 * n)] := by simp [mkTokens, List.range_succ]
theorem mkTokens_len (n : Nat) (k : Int) : (mkTokens n k).length = n := by simp [mkTokens]
/-- laws.markTokenS -/
theorem fits_markTokenS (p : List Token) (k : Int) (hp : p.length ≤ 1048576) (h0 : 0 ≤ k) (hk : k ≤ 1152921504606846976) : Fits prog 46 [.sl true 3 (p.map eToken), .int .i64 k] (.int .i64 (k + 3 * p.length)) [.sl true 3 ((mkTokens p.length k).map eToken)] := by
  refine fits_of_code [4] [0] [0, 1, 4, 5, 9] func46 rfl rfl rfl (by rfl) (by show 2 ≤ 34; decide) (by rfl) (by rfl) (by show 1 ≤ 2; decide) (by rfl) (run_of ?_)
  simp -implicitDefEqProofs (maxSteps := 100000) (disch := first | (intros; contradiction) | omega) only [am0, am1, am2, am3, am4, am5, am6, am7, am8, am9, Nat.reduceSub, ↓reduceIte, reduceCtorEq, Nat.reduceEqDiff, Nat.reduceBEq, Nat.reduceAdd, Nat.reduceLT, Nat.reduceBNe, Nat.reduceMul, ↓reduceIte, tis]
  refine run_loop (α := Nat) (fun i => i ≤ p.length) (fun i => [(0, .sl true 3 ((mkTokens i k).map eToken ++ (p.drop i).map eToken)), (1, .int .i64 (k + 3 * i)), (5, .int .i64 i)]) (fun i => p.length - i) 0 (Nat.zero_le _) ?_ ?_
  · simp -implicitDefEqProofs (maxSteps := 100000) (disch := first | (intros; contradiction) | omega) only [am0, am1, am2, am3, am4, am5, am6, am7, am8, am9, Nat.reduceSub, ↓reduceIte, reduceCtorEq, Nat.reduceEqDiff, Nat.reduceBEq, Nat.reduceAdd, Nat.reduceLT, Nat.reduceBNe, Nat.reduceMul, ↓reduceIte, tis, mkTokens]
    try simp
  · intro i hi'
    have hA : ((mkTokens i k).map eToken).length = i := by simp [mkTokens_len]
    have hL : ((mkTokens i k).map eToken ++ (p.drop i).map eToken).length = p.length := by simp [mkTokens_len]; omega
    by_cases hi : i < p.length
    · have g1 := turn_get _ eToken p i hA hi
      have g2 := fun y => turn_set _ eToken p i y hA hi
      have g3 : ∀ y, ((mkTokens i k).map eToken ++ [y] ++ (p.drop (i + 1)).map eToken)[i]? = some y := fun y => by
        rw [List.append_assoc, List.getElem?_append_right (by omega), hA, Nat.sub_self]; rfl
      have g4 : ∀ y z, ((mkTokens i k).map eToken ++ [y] ++ (p.drop (i + 1)).map eToken).set i z = (mkTokens i k).map eToken ++ [z] ++ (p.drop (i + 1)).map eToken := fun y z => by
        rw [List.append_assoc, List.set_append_right _ _ (by omega), hA, Nat.sub_self]; simp
      have g5 : ∀ y, ((mkTokens i k).map eToken ++ [y] ++ (p.drop (i + 1)).map eToken).length = p.length := fun y => by simp [mkTokens_len]; omega
      simp only [eToken] at g1
      simp -implicitDefEqProofs (maxSteps := 100000) (disch := first | (intros; contradiction) | omega) only [am0, am1, am2, am3, am4, am5, am6, am7, am8, am9, Nat.reduceSub, ↓reduceIte, reduceCtorEq, Nat.reduceEqDiff, Nat.reduceBEq, Nat.reduceAdd, Nat.reduceLT, Nat.reduceBNe, Nat.reduceMul, ↓reduceIte, tis, hL, g1, g2, g3, g4, g5]
      refine round_normal (i + 1) (by omega) ?_ (by show p.length - (i + 1) < p.length - i; omega)
      simp -implicitDefEqProofs (maxSteps := 100000) (disch := first | (intros; contradiction) | omega) only [am0, am1, am2, am3, am4, am5, am6, am7, am8, am9, Nat.reduceSub, ↓reduceIte, reduceCtorEq, Nat.reduceEqDiff, Nat.reduceBEq, Nat.reduceAdd, Nat.reduceLT, Nat.reduceBNe, Nat.reduceMul, ↓reduceIte, tis, mkTokens_succ]
      simp [mkToken, eToken]
      omega
    · obtain rfl : i = p.length := by omega
      simp -implicitDefEqProofs (maxSteps := 100000) (disch := first | (intros; contradiction) | omega) only [am0, am1, am2, am3, am4, am5, am6, am7, am8, am9, Nat.reduceSub, ↓reduceIte, reduceCtorEq, Nat.reduceEqDiff, Nat.reduceBEq, Nat.reduceAdd, Nat.reduceLT, Nat.reduceBNe, Nat.reduceMul, ↓reduceIte, tis, mkTokens_len]
theorem mkTokens_get (n : Nat) (k : Int) (i : Nat) (h : i < n) : ((mkTokens n k).map eToken).getD i .undef = eToken (mkToken (k + 3 * i)) := by
  simp [mkTokens, List.getD, h]
/-- laws.heldTokenS -/
theorem fits_heldTokenS (m : Nat) (k : Int) (hp : m ≤ 1048576) (h0 : 0 ≤ k) (hk : k ≤ 1152921504606846976) : Fits prog 47 [.sl false 3 ((mkTokens m k).map eToken), .int .i64 k] (.int .i64 (k + 3 * m)) [] := by
  refine fits_of_code [4] [] [0, 1, 4, 5, 9, 18, 27, 36] func47 rfl rfl rfl (by rfl) (by show 2 ≤ 40; decide) (by rfl) (by rfl) (by show 0 ≤ 2; decide) (by rfl) (run_of ?_)
  simp -implicitDefEqProofs (maxSteps := 100000) (disch := first | (intros; contradiction) | omega) only [am0, am1, am2, am3, am4, am5, am6, am7, am8, am9, Nat.reduceSub, ↓reduceIte, reduceCtorEq, Nat.reduceEqDiff, Nat.reduceBEq, Nat.reduceAdd, Nat.reduceLT, Nat.reduceBNe, Nat.reduceMul, ↓reduceIte, tis]
  refine run_loop (α := Nat) (fun i => i ≤ m) (fun i => [(0, .sl false 3 ((mkTokens m k).map eToken)), (1, .int .i64 (k + 3 * i)), (5, .int .i64 i)]) (fun i => m - i) 0 (Nat.zero_le _) ?_ ?_
  · simp -implicitDefEqProofs (maxSteps := 100000) (disch := first | (intros; contradiction) | omega) only [am0, am1, am2, am3, am4, am5, am6, am7, am8, am9, Nat.reduceSub, ↓reduceIte, reduceCtorEq, Nat.reduceEqDiff, Nat.reduceBEq, Nat.reduceAdd, Nat.reduceLT, Nat.reduceBNe, Nat.reduceMul, ↓reduceIte, tis]
  · intro i hi'
    by_cases hi : i < m
    · have g := mkTokens_get m k i hi
      simp only [eToken, mkToken] at g
      simp -implicitDefEqProofs (maxSteps := 100000) (disch := first | (intros; contradiction) | omega) only [am0, am1, am2, am3, am4, am5, am6, am7, am8, am9, Nat.reduceSub, ↓reduceIte, reduceCtorEq, Nat.reduceEqDiff, Nat.reduceBEq, Nat.reduceAdd, Nat.reduceLT, Nat.reduceBNe, Nat.reduceMul, ↓reduceIte, tis, g, mkTokens_len]
      refine round_normal (i + 1) (by omega) ?_ (by show m - (i + 1) < m - i; omega)
      simp -implicitDefEqProofs (maxSteps := 100000) (disch := first | (intros; contradiction) | omega) only [am0, am1, am2, am3, am4, am5, am6, am7, am8, am9, Nat.reduceSub, ↓reduceIte, reduceCtorEq, Nat.reduceEqDiff, Nat.reduceBEq, Nat.reduceAdd, Nat.reduceLT, Nat.reduceBNe, Nat.reduceMul, ↓reduceIte, tis, mkTokens_len]
      omega
    · obtain rfl : i = m := by omega
      simp -implicitDefEqProofs (maxSteps := 100000) (disch := first | (intros; contradiction) | omega) only [am0, am1, am2, am3, am4, am5, am6, am7, am8, am9, Nat.reduceSub, ↓reduceIte, reduceCtorEq, Nat.reduceEqDiff, Nat.reduceBEq, Nat.reduceAdd, Nat.reduceLT, Nat.reduceBNe, Nat.reduceMul, ↓reduceIte, tis, mkTokens_len]
end Go.Proofs.Ytonljcfflamccaa.U
