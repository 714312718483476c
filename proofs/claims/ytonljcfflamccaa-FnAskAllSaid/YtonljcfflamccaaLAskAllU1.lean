/- What functions of the program answer, on values without memory (part 1): conditions stand at each theorem. -/
import Derived.Test.YtonljcfflamccaaRows
import Derived.Test.YtonljcfflamccaaAm4
set_option linter.unusedVariables false
set_option linter.unusedSimpArgs false
set_option maxRecDepth 100000
set_option maxHeartbeats 4000000
namespace Go.Proofs.Ytonljcfflamccaa.U
open Go Go.RowKit Go.Proofs Go.Proofs.Ytonljcfflamccaa.Am AV Go.Proofs.Try
theorem ti_3 : tinfo prog 3 = { size := 1, bytes := 8, agg := some false, kind := 5, esz := 0, ebytes := 0, eagg := none, alen := 0, fields := [], zero := .int .i64 0, ezero := .undef, zok := true, ezok := false } := by rfl
theorem ti_4 : tinfo prog 4 = { size := 1, bytes := 1, agg := some false, kind := 6, esz := 0, ebytes := 0, eagg := none, alen := 0, fields := [], zero := .bool false, ezero := .undef, zok := true, ezok := false } := by rfl
theorem ti_9 : tinfo prog 9 = { size := 1, bytes := 16, agg := some false, kind := 4, esz := 0, ebytes := 0, eagg := none, alen := 0, fields := [], zero := .str [], ezero := .undef, zok := true, ezok := false } := by rfl
theorem ti_5 : tinfo prog 5 = { size := 1, bytes := 1, agg := some false, kind := 5, esz := 0, ebytes := 0, eagg := none, alen := 0, fields := [], zero := .int .u8 0, ezero := .undef, zok := true, ezok := false } := by rfl
theorem ti_21 : tinfo prog 21 = { size := 1, bytes := 4, agg := some false, kind := 5, esz := 0, ebytes := 0, eagg := none, alen := 0, fields := [], zero := .int .i32 0, ezero := .undef, zok := true, ezok := false } := by rfl
theorem ti_22 : tinfo prog 22 = { size := 1, bytes := 24, agg := some false, kind := 1, esz := 1, ebytes := 1, eagg := some false, alen := 0, fields := [], zero := .sl true 0 [], ezero := .int .u8 0, zok := true, ezok := true } := by rfl
theorem ti_180 : tinfo prog 180 = { size := 1, bytes := 24, agg := some false, kind := 1, esz := 1, ebytes := 1, eagg := some false, alen := 0, fields := [], zero := .sl true 0 [], ezero := .bool false, zok := true, ezok := true } := by rfl
theorem ti_86 : tinfo prog 86 = { size := 1, bytes := 24, agg := some false, kind := 1, esz := 1, ebytes := 8, eagg := some false, alen := 0, fields := [], zero := .sl true 0 [], ezero := .int .i64 0, zok := true, ezok := true } := by rfl
theorem ti_85 : tinfo prog 85 = { size := 1, bytes := 24, agg := some false, kind := 1, esz := 1, ebytes := 24, eagg := some false, alen := 0, fields := [], zero := .sl true 0 [], ezero := .sl true 0 [], zok := true, ezok := true } := by rfl
theorem ti_29 : tinfo prog 29 = { size := 1, bytes := 24, agg := some false, kind := 1, esz := 1, ebytes := 16, eagg := some false, alen := 0, fields := [], zero := .sl true 0 [], ezero := .str [], zok := true, ezok := true } := by rfl
theorem ti_164 : tinfo prog 164 = { size := 256, bytes := 256, agg := some true, kind := 2, esz := 1, ebytes := 1, eagg := some false, alen := 256, fields := [], zero := .arr 1 (List.replicate 256 (.bool false)), ezero := .bool false, zok := true, ezok := true } := by rfl
theorem ti_109 : tinfo prog 109 = { size := 13, bytes := 13, agg := some true, kind := 2, esz := 1, ebytes := 1, eagg := some false, alen := 13, fields := [], zero := .arr 1 (List.replicate 13 (.bool false)), ezero := .bool false, zok := true, ezok := true } := by rfl
theorem ti_110 : tinfo prog 110 = { size := 169, bytes := 169, agg := some true, kind := 2, esz := 13, ebytes := 13, eagg := some true, alen := 13, fields := [], zero := .arr 13 (List.replicate 13 (.arr 1 (List.replicate 13 (.bool false)))), ezero := .arr 1 (List.replicate 13 (.bool false)), zok := true, ezok := true } := by rfl
theorem ti_115 : tinfo prog 115 = { size := 2, bytes := 16, agg := some true, kind := 3, esz := 0, ebytes := 0, eagg := none, alen := 0, fields := [(0, 1, some false), (1, 1, some false)], zero := .agg [.int .i64 0, .int .i64 0], ezero := .undef, zok := true, ezok := false } := by rfl
theorem ti_23 : tinfo prog 23 = { size := 1, bytes := 24, agg := some false, kind := 1, esz := 2, ebytes := 16, eagg := some true, alen := 0, fields := [], zero := .sl true 0 [], ezero := .agg [.int .i64 0, .int .i64 0], zok := true, ezok := true } := by rfl
theorem ti_92 : tinfo prog 92 = { size := 1, bytes := 24, agg := some false, kind := 1, esz := 1, ebytes := 24, eagg := some false, alen := 0, fields := [], zero := .sl true 0 [], ezero := .sl true 0 [], zok := true, ezok := true } := by rfl
theorem ti_26 : tinfo prog 26 = { size := 3, bytes := 56, agg := some true, kind := 3, esz := 0, ebytes := 0, eagg := none, alen := 0, fields := [(0, 1, some false), (1, 1, some false), (2, 1, some false)], zero := .agg [.int .i64 0, .sl true 0 [], .sl true 0 []], ezero := .undef, zok := true, ezok := false } := by rfl
theorem ti_24 : tinfo prog 24 = { size := 1, bytes := 24, agg := some false, kind := 1, esz := 3, ebytes := 56, eagg := some true, alen := 0, fields := [], zero := .sl true 0 [], ezero := .agg [.int .i64 0, .sl true 0 [], .sl true 0 []], zok := true, ezok := true } := by rfl
theorem ti_129 : tinfo prog 129 = { size := 4, bytes := 32, agg := some true, kind := 3, esz := 0, ebytes := 0, eagg := none, alen := 0, fields := [(0, 1, some false), (1, 1, some false), (2, 1, some false), (3, 1, some false)], zero := .agg [.int .i64 0, .int .i64 0, .int .i64 0, .int .i64 0], ezero := .undef, zok := true, ezok := false } := by rfl
theorem ti_59 : tinfo prog 59 = { size := 1, bytes := 24, agg := some false, kind := 1, esz := 4, ebytes := 32, eagg := some true, alen := 0, fields := [], zero := .sl true 0 [], ezero := .agg [.int .i64 0, .int .i64 0, .int .i64 0, .int .i64 0], zok := true, ezok := true } := by rfl
theorem ti_134 : tinfo prog 134 = { size := 3, bytes := 24, agg := some true, kind := 3, esz := 0, ebytes := 0, eagg := none, alen := 0, fields := [(0, 1, some false), (1, 1, some false), (2, 1, some false)], zero := .agg [.int .i64 0, .int .i64 0, .int .i64 0], ezero := .undef, zok := true, ezok := false } := by rfl
theorem ti_56 : tinfo prog 56 = { size := 1, bytes := 24, agg := some false, kind := 1, esz := 3, ebytes := 24, eagg := some true, alen := 0, fields := [], zero := .sl true 0 [], ezero := .agg [.int .i64 0, .int .i64 0, .int .i64 0], zok := true, ezok := true } := by rfl
theorem ti_72 : tinfo prog 72 = { size := 9, bytes := 112, agg := some true, kind := 3, esz := 0, ebytes := 0, eagg := none, alen := 0, fields := [(0, 1, some false), (1, 1, some false), (2, 1, some false), (3, 1, some false), (4, 1, some false), (5, 1, some false), (6, 1, some false), (7, 1, some false), (8, 1, some false)], zero := .agg [.sl true 0 [], .str [], .int .i64 0, .int .i64 0, .int .i64 0, .int .i64 0, .int .i64 0, .sl true 0 [], .bool false], ezero := .undef, zok := true, ezok := false } := by rfl
theorem ti_94 : tinfo prog 94 = { size := 3, bytes := 72, agg := some true, kind := 3, esz := 0, ebytes := 0, eagg := none, alen := 0, fields := [(0, 1, some false), (1, 1, some false), (2, 1, some false)], zero := .agg [.sl true 0 [], .sl true 0 [], .sl true 0 []], ezero := .undef, zok := true, ezok := false } := by rfl
theorem ti_165 : tinfo prog 165 = { size := 256, bytes := 256, agg := some true, kind := 2, esz := 1, ebytes := 1, eagg := some false, alen := 256, fields := [], zero := .arr 1 (List.replicate 256 (.bool false)), ezero := .bool false, zok := true, ezok := true } := by rfl
theorem ti_111 : tinfo prog 111 = { size := 169, bytes := 169, agg := some true, kind := 2, esz := 13, ebytes := 13, eagg := some true, alen := 13, fields := [], zero := .arr 13 (List.replicate 13 (.arr 1 (List.replicate 13 (.bool false)))), ezero := .arr 1 (List.replicate 13 (.bool false)), zok := true, ezok := true } := by rfl
theorem ti_157 : tinfo prog 157 = { size := 338, bytes := 338, agg := some true, kind := 2, esz := 169, ebytes := 169, eagg := some true, alen := 2, fields := [], zero := .arr 169 (List.replicate 2 (.arr 13 (List.replicate 13 (.arr 1 (List.replicate 13 (.bool false)))))), ezero := .arr 13 (List.replicate 13 (.arr 1 (List.replicate 13 (.bool false)))), zok := true, ezok := true } := by rfl
theorem ti_162 : tinfo prog 162 = { size := 2, bytes := 16, agg := some true, kind := 3, esz := 0, ebytes := 0, eagg := none, alen := 0, fields := [(0, 1, some false), (1, 1, some false)], zero := .agg [.int .i64 0, .int .i64 0], ezero := .undef, zok := true, ezok := false } := by rfl
theorem ti_41 : tinfo prog 41 = { size := 1, bytes := 24, agg := some false, kind := 1, esz := 2, ebytes := 16, eagg := some true, alen := 0, fields := [], zero := .sl true 0 [], ezero := .agg [.int .i64 0, .int .i64 0], zok := true, ezok := true } := by rfl
theorem ti_84 : tinfo prog 84 = { size := 1, bytes := 24, agg := some false, kind := 1, esz := 1, ebytes := 24, eagg := some false, alen := 0, fields := [], zero := .sl true 0 [], ezero := .sl true 0 [], zok := true, ezok := true } := by rfl
theorem ti_44 : tinfo prog 44 = { size := 3, bytes := 56, agg := some true, kind := 3, esz := 0, ebytes := 0, eagg := none, alen := 0, fields := [(0, 1, some false), (1, 1, some false), (2, 1, some false)], zero := .agg [.int .i64 0, .sl true 0 [], .sl true 0 []], ezero := .undef, zok := true, ezok := false } := by rfl
theorem ti_42 : tinfo prog 42 = { size := 1, bytes := 24, agg := some false, kind := 1, esz := 3, ebytes := 56, eagg := some true, alen := 0, fields := [], zero := .sl true 0 [], ezero := .agg [.int .i64 0, .sl true 0 [], .sl true 0 []], zok := true, ezok := true } := by rfl
theorem ti_131 : tinfo prog 131 = { size := 4, bytes := 32, agg := some true, kind := 3, esz := 0, ebytes := 0, eagg := none, alen := 0, fields := [(0, 1, some false), (1, 1, some false), (2, 1, some false), (3, 1, some false)], zero := .agg [.int .i64 0, .int .i64 0, .int .i64 0, .int .i64 0], ezero := .undef, zok := true, ezok := false } := by rfl
theorem ti_54 : tinfo prog 54 = { size := 1, bytes := 24, agg := some false, kind := 1, esz := 4, ebytes := 32, eagg := some true, alen := 0, fields := [], zero := .sl true 0 [], ezero := .agg [.int .i64 0, .int .i64 0, .int .i64 0, .int .i64 0], zok := true, ezok := true } := by rfl
theorem ti_174 : tinfo prog 174 = { size := 3, bytes := 24, agg := some true, kind := 3, esz := 0, ebytes := 0, eagg := none, alen := 0, fields := [(0, 1, some false), (1, 1, some false), (2, 1, some false)], zero := .agg [.int .i64 0, .int .i64 0, .int .i64 0], ezero := .undef, zok := true, ezok := false } := by rfl
theorem ti_67 : tinfo prog 67 = { size := 1, bytes := 24, agg := some false, kind := 1, esz := 3, ebytes := 24, eagg := some true, alen := 0, fields := [], zero := .sl true 0 [], ezero := .agg [.int .i64 0, .int .i64 0, .int .i64 0], zok := true, ezok := true } := by rfl
theorem ti_69 : tinfo prog 69 = { size := 9, bytes := 112, agg := some true, kind := 3, esz := 0, ebytes := 0, eagg := none, alen := 0, fields := [(0, 1, some false), (1, 1, some false), (2, 1, some false), (3, 1, some false), (4, 1, some false), (5, 1, some false), (6, 1, some false), (7, 1, some false), (8, 1, some false)], zero := .agg [.sl true 0 [], .str [], .int .i64 0, .int .i64 0, .int .i64 0, .int .i64 0, .int .i64 0, .sl true 0 [], .bool false], ezero := .undef, zok := true, ezok := false } := by rfl
theorem ti_88 : tinfo prog 88 = { size := 3, bytes := 72, agg := some true, kind := 3, esz := 0, ebytes := 0, eagg := none, alen := 0, fields := [(0, 1, some false), (1, 1, some false), (2, 1, some false)], zero := .agg [.sl true 0 [], .sl true 0 [], .sl true 0 []], ezero := .undef, zok := true, ezok := false } := by rfl
theorem ti_154 : tinfo prog 154 = { size := 2, bytes := 32, agg := some true, kind := 3, esz := 0, ebytes := 0, eagg := none, alen := 0, fields := [(0, 1, some false), (1, 1, some false)], zero := .agg [.sl true 0 [], .int .i64 0], ezero := .undef, zok := true, ezok := false } := by rfl
theorem ub_3 : prog.underlying 3 = some (.int .i64) := by kernel_rfl
theorem ub_4 : prog.underlying 4 = some .bool := by kernel_rfl
theorem ub_5 : prog.underlying 5 = some (.int .u8) := by kernel_rfl
theorem ub_21 : prog.underlying 21 = some (.int .i32) := by kernel_rfl
theorem fk_115 : flatK prog 115 = some [5, 5] := by kernel_rfl
theorem fk_129 : flatK prog 129 = some [5, 5, 5, 5] := by kernel_rfl
theorem fk_134 : flatK prog 134 = some [5, 5, 5] := by kernel_rfl
theorem fk_162 : flatK prog 162 = some [5, 5] := by kernel_rfl
theorem fk_131 : flatK prog 131 = some [5, 5, 5, 5] := by kernel_rfl
theorem fk_174 : flatK prog 174 = some [5, 5, 5] := by kernel_rfl
theorem tis : type_of% @ti_3 ∧ type_of% @ti_4 ∧ type_of% @ti_9 ∧ type_of% @ti_5 ∧ type_of% @ti_21 ∧ type_of% @ti_22 ∧ type_of% @ti_180 ∧ type_of% @ti_86 ∧ type_of% @ti_85 ∧ type_of% @ti_29 ∧ type_of% @ti_164 ∧ type_of% @ti_109 ∧ type_of% @ti_110 ∧ type_of% @ti_115 ∧ type_of% @ti_23 ∧ type_of% @ti_92 ∧ type_of% @ti_26 ∧ type_of% @ti_24 ∧ type_of% @ti_129 ∧ type_of% @ti_59 ∧ type_of% @ti_134 ∧ type_of% @ti_56 ∧ type_of% @ti_72 ∧ type_of% @ti_94 ∧ type_of% @ti_165 ∧ type_of% @ti_111 ∧ type_of% @ti_157 ∧ type_of% @ti_162 ∧ type_of% @ti_41 ∧ type_of% @ti_84 ∧ type_of% @ti_44 ∧ type_of% @ti_42 ∧ type_of% @ti_131 ∧ type_of% @ti_54 ∧ type_of% @ti_174 ∧ type_of% @ti_67 ∧ type_of% @ti_69 ∧ type_of% @ti_88 ∧ type_of% @ti_154 ∧ type_of% @ub_3 ∧ type_of% @ub_4 ∧ type_of% @ub_5 ∧ type_of% @ub_21 ∧ type_of% @fk_115 ∧ type_of% @fk_129 ∧ type_of% @fk_134 ∧ type_of% @fk_162 ∧ type_of% @fk_131 ∧ type_of% @fk_174 := ⟨ti_3, ti_4, ti_9, ti_5, ti_21, ti_22, ti_180, ti_86, ti_85, ti_29, ti_164, ti_109, ti_110, ti_115, ti_23, ti_92, ti_26, ti_24, ti_129, ti_59, ti_134, ti_56, ti_72, ti_94, ti_165, ti_111, ti_157, ti_162, ti_41, ti_84, ti_44, ti_42, ti_131, ti_54, ti_174, ti_67, ti_69, ti_88, ti_154, ub_3, ub_4, ub_5, ub_21, fk_115, fk_129, fk_134, fk_162, fk_131, fk_174⟩
structure Span where
  lo : Int
  hi : Int
  deriving DecidableEq
structure Ins where
  op : Int
  a : Int
  b : Int
  to : Int
  deriving DecidableEq
structure Token where
  rule : Int
  frm : Int
  to : Int
  deriving DecidableEq
instance : Inhabited Span := ⟨⟨0, 0⟩⟩
instance : Inhabited Ins := ⟨⟨0, 0, 0, 0⟩⟩
instance : Inhabited Token := ⟨⟨0, 0, 0⟩⟩
def eSpan (x : Span) : AV := .agg [.int .i64 x.lo, .int .i64 x.hi]
def eIns (x : Ins) : AV := .agg [.int .i64 x.op, .int .i64 x.a, .int .i64 x.b, .int .i64 x.to]
def eToken (x : Token) : AV := .agg [.int .i64 x.rule, .int .i64 x.frm, .int .i64 x.to]
/-- In a list of such nothing is own. -/
structure Flat {α : Type} (f : α → AV) (n : Nat) : Prop where
  er : ∀ x, erase (f x) = f x
  de : ∀ x, dead (f x) = f x
  pl : ∀ x, plain (f x) = true
  cl : ∀ x, closed (f x) = true
  nc : ∀ x, ncells (f x) = n
section
variable {α : Type} {f : α → AV} {n : Nat}
theorem Flat.eraseL (h : Flat f n) (l : List α) : eraseL (l.map f) = l.map f := by rw [eraseL_map, List.map_map]; exact List.map_congr_left fun x _ => h.er x
theorem Flat.deadL (h : Flat f n) (l : List α) : deadL (l.map f) = l.map f := by rw [deadL_map, List.map_map]; exact List.map_congr_left fun x _ => h.de x
theorem Flat.plainL (h : Flat f n) (l : List α) : plainL (l.map f) = true := by rw [plainL_all]; simp [h.pl]
theorem Flat.closedL (h : Flat f n) (l : List α) : closedL (l.map f) = true := by rw [closedL_all]; simp [h.cl]
theorem plainL_app (a b : List AV) : plainL (a ++ b) = (plainL a && plainL b) := by simp [plainL_all]
theorem closedL_app (a b : List AV) : closedL (a ++ b) = (closedL a && closedL b) := by simp [closedL_all]
theorem eraseL_app (a b : List AV) : eraseL (a ++ b) = eraseL a ++ eraseL b := by simp [eraseL_map]
theorem closedL_rep (k : Nat) (x : AV) (h : closed x = true) : closedL (List.replicate k x) = true := by rw [closedL_all]; simp [h]
theorem plainL_rep (k : Nat) (x : AV) (h : plain x = true) : plainL (List.replicate k x) = true := by rw [plainL_all]; simp [h]
end
theorem flSpan : Flat eSpan 2 := ⟨fun _ => rfl, fun _ => rfl, fun _ => rfl, fun _ => rfl, fun _ => rfl⟩
theorem flIns : Flat eIns 4 := ⟨fun _ => rfl, fun _ => rfl, fun _ => rfl, fun _ => rfl, fun _ => rfl⟩
theorem flToken : Flat eToken 3 := ⟨fun _ => rfl, fun _ => rfl, fun _ => rfl, fun _ => rfl, fun _ => rfl⟩
def eInt (x : Int) : AV := .int .i64 x
def eBool (x : Bool) : AV := .bool x
def eStr (x : List UInt8) : AV := .str x
theorem flInt : Flat eInt 1 := ⟨fun _ => rfl, fun _ => rfl, fun _ => rfl, fun _ => rfl, fun _ => rfl⟩
theorem flBool : Flat eBool 1 := ⟨fun _ => rfl, fun _ => rfl, fun _ => rfl, fun _ => rfl, fun _ => rfl⟩
theorem flStr : Flat eStr 1 := ⟨fun _ => rfl, fun _ => rfl, fun _ => rfl, fun _ => rfl, fun _ => rfl⟩
theorem fls : (∀ l : List Span, eraseL (l.map eSpan) = l.map eSpan) ∧ (∀ l : List Span, deadL (l.map eSpan) = l.map eSpan) ∧ (∀ l : List Span, plainL (l.map eSpan) = true) ∧ (∀ l : List Span, closedL (l.map eSpan) = true) ∧
    (∀ l : List Ins, eraseL (l.map eIns) = l.map eIns) ∧ (∀ l : List Ins, deadL (l.map eIns) = l.map eIns) ∧ (∀ l : List Ins, plainL (l.map eIns) = true) ∧ (∀ l : List Ins, closedL (l.map eIns) = true) ∧
    (∀ l : List Token, eraseL (l.map eToken) = l.map eToken) ∧ (∀ l : List Token, deadL (l.map eToken) = l.map eToken) ∧ (∀ l : List Token, plainL (l.map eToken) = true) ∧ (∀ l : List Token, closedL (l.map eToken) = true) ∧
    (∀ l : List Int, eraseL (l.map eInt) = l.map eInt) ∧ (∀ l : List Int, deadL (l.map eInt) = l.map eInt) ∧ (∀ l : List Int, plainL (l.map eInt) = true) ∧ (∀ l : List Int, closedL (l.map eInt) = true) ∧
    (∀ l : List Bool, eraseL (l.map eBool) = l.map eBool) ∧ (∀ l : List Bool, deadL (l.map eBool) = l.map eBool) ∧ (∀ l : List Bool, plainL (l.map eBool) = true) ∧ (∀ l : List Bool, closedL (l.map eBool) = true) ∧
    (∀ l : List (List UInt8), eraseL (l.map eStr) = l.map eStr) ∧ (∀ l : List (List UInt8), deadL (l.map eStr) = l.map eStr) ∧ (∀ l : List (List UInt8), plainL (l.map eStr) = true) ∧ (∀ l : List (List UInt8), closedL (l.map eStr) = true) :=
  ⟨flSpan.eraseL, flSpan.deadL, flSpan.plainL, flSpan.closedL, flIns.eraseL, flIns.deadL, flIns.plainL, flIns.closedL, flToken.eraseL, flToken.deadL, flToken.plainL, flToken.closedL,
    flInt.eraseL, flInt.deadL, flInt.plainL, flInt.closedL, flBool.eraseL, flBool.deadL, flBool.plainL, flBool.closedL, flStr.eraseL, flStr.deadL, flStr.plainL, flStr.closedL⟩

/-! A list that is built from the front. -/
theorem build_get {α : Type} (f : α → AV) (z : AV) (p : List α) (i : Nat) (h : i < p.length) : ((p.take i).map f ++ List.replicate (p.length - i) z)[i]? = some z := by
  rw [List.getElem?_append_right (by simp; omega)]
  have h1 : i - ((p.take i).map f).length = 0 := by simp; omega
  rw [h1, show p.length - i = (p.length - (i + 1)) + 1 by omega, List.replicate_succ]
  rfl
theorem build_set {α : Type} (f : α → AV) (z : AV) (p : List α) (i : Nat) (h : i < p.length) : ((p.take i).map f ++ List.replicate (p.length - i) z).set i (f p[i]) = (p.take (i + 1)).map f ++ List.replicate (p.length - (i + 1)) z := by
  rw [List.set_append_right _ _ (by simp; omega)]
  have h1 : i - ((p.take i).map f).length = 0 := by simp; omega
  rw [h1, show p.length - i = (p.length - (i + 1)) + 1 by omega, List.replicate_succ, List.set_cons_zero, List.take_succ_eq_append_getElem h, List.map_append, List.append_assoc]
  rfl
theorem build_len {α : Type} (f : α → AV) (z : AV) (p : List α) (i : Nat) (h : i ≤ p.length) : ((p.take i).map f ++ List.replicate (p.length - i) z).length = p.length := by simp; omega
/-! A list that is turned from the front. -/
theorem turn_get {α : Type} (A : List AV) (f : α → AV) (p : List α) (i : Nat) (hA : A.length = i) (h : i < p.length) : (A ++ (p.drop i).map f)[i]? = some (f p[i]) := by
  rw [List.getElem?_append_right (by omega), hA, Nat.sub_self]; simp [h]
theorem turn_set {α : Type} (A : List AV) (f : α → AV) (p : List α) (i : Nat) (y : AV) (hA : A.length = i) (h : i < p.length) : (A ++ (p.drop i).map f).set i y = A ++ [y] ++ (p.drop (i + 1)).map f := by
  rw [List.set_append_right _ _ (by omega), hA, Nat.sub_self, List.drop_eq_getElem_cons h, List.map_cons, List.set_cons_zero, List.append_assoc]
  rfl
/-- laws.toSpan -/
theorem fits_toSpan (x : Span) : Fits prog 147 [eSpan x] (eSpan x) [] := by
  refine fits_of_cell 2 115 [] [0, 1, 2, 3] func147 rfl rfl rfl (by show 2 < 11; decide) (by show 1 ≤ 11; decide) (by rfl) (by rfl) (by show 0 ≤ 1; decide) (by rfl) (run_of ?_)
  simp -implicitDefEqProofs only [am0, am1, am2, am3, am4, am5, am6, am7, am8, am9, Nat.reduceSub, ↓reduceIte, reduceCtorEq, Nat.reduceEqDiff, Nat.reduceBEq, Nat.reduceAdd, Nat.reduceLT, Nat.reduceBNe, Nat.reduceMul, ↓reduceIte, tis, eSpan]
/-- laws.eqSpan -/
theorem fits_eqSpan (x y : Span) : Fits prog 148 [eSpan x, eSpan y] (.bool (decide (x = y))) [] := by
  refine fits_of_code [4] [] [0, 1, 2, 3, 4, 9, 14] func148 rfl rfl rfl (by rfl) (by show 2 ≤ 15; decide) (by rfl) (by rfl) (by show 0 ≤ 2; decide) (by rfl) (run_of ?_)
  obtain ⟨a0, a1⟩ := x
  obtain ⟨b0, b1⟩ := y
  by_cases h0 : a0 = b0
  case neg =>
    simp -implicitDefEqProofs (maxSteps := 100000) (disch := first | (intros; contradiction) | omega) only [am0, am1, am2, am3, am4, am5, am6, am7, am8, am9, Nat.reduceSub, ↓reduceIte, reduceCtorEq, Nat.reduceEqDiff, Nat.reduceBEq, Nat.reduceAdd, Nat.reduceLT, Nat.reduceBNe, Nat.reduceMul, ↓reduceIte, tis, eSpan, h0]
    simp [h0]
  by_cases h1 : a1 = b1
  case neg =>
    simp -implicitDefEqProofs (maxSteps := 100000) (disch := first | (intros; contradiction) | omega) only [am0, am1, am2, am3, am4, am5, am6, am7, am8, am9, Nat.reduceSub, ↓reduceIte, reduceCtorEq, Nat.reduceEqDiff, Nat.reduceBEq, Nat.reduceAdd, Nat.reduceLT, Nat.reduceBNe, Nat.reduceMul, ↓reduceIte, tis, eSpan, h0, h1]
    simp [h1]
  simp -implicitDefEqProofs (maxSteps := 100000) (disch := first | (intros; contradiction) | omega) only [am0, am1, am2, am3, am4, am5, am6, am7, am8, am9, Nat.reduceSub, ↓reduceIte, reduceCtorEq, Nat.reduceEqDiff, Nat.reduceBEq, Nat.reduceAdd, Nat.reduceLT, Nat.reduceBNe, Nat.reduceMul, ↓reduceIte, tis, eSpan, h0, h1]
/-- laws.szSpanS -/
theorem fits_szSpanS (p : List Span) (n : Int) (hp : p.length ≤ 9223372036854775807) (hn : n ≤ 1048576) (hn0 : 0 ≤ n) : Fits prog 89 [.sl false 2 (p.map eSpan), .int .i64 n] (.int .i64 (if n - p.length < 0 then -1 else n - p.length)) [] := by
  refine fits_of_code [4] [] [0, 1, 4, 10] func89 rfl rfl rfl (by rfl) (by show 2 ≤ 12; decide) (by rfl) (by rfl) (by show 0 ≤ 2; decide) (by rfl) (run_of ?_)
  by_cases hl : n - p.length < 0
  · simp -implicitDefEqProofs (maxSteps := 100000) (disch := first | (intros; contradiction) | omega) only [am0, am1, am2, am3, am4, am5, am6, am7, am8, am9, Nat.reduceSub, ↓reduceIte, reduceCtorEq, Nat.reduceEqDiff, Nat.reduceBEq, Nat.reduceAdd, Nat.reduceLT, Nat.reduceBNe, Nat.reduceMul, ↓reduceIte, tis, hl]
  · simp -implicitDefEqProofs (maxSteps := 100000) (disch := first | (intros; contradiction) | omega) only [am0, am1, am2, am3, am4, am5, am6, am7, am8, am9, Nat.reduceSub, ↓reduceIte, reduceCtorEq, Nat.reduceEqDiff, Nat.reduceBEq, Nat.reduceAdd, Nat.reduceLT, Nat.reduceBNe, Nat.reduceMul, ↓reduceIte, tis, hl]
/-- laws.toSpanS -/
theorem fits_toSpanS (p : List Span) (hp : p.length ≤ 1048576) : Fits prog 91 [.sl false 2 (p.map eSpan)] (.sl true 2 (p.map eSpan)) [] := by
  refine fits_of_code [2] [] [0, 2, 3, 4, 11] func91 rfl rfl rfl (by rfl) (by show 1 ≤ 23; decide) (by rfl) (by rfl) (by show 0 ≤ 1; decide) (by rfl) (run_of ?_)
  simp -implicitDefEqProofs (maxSteps := 100000) (disch := first | (intros; contradiction) | omega) only [am0, am1, am2, am3, am4, am5, am6, am7, am8, am9, Nat.reduceSub, ↓reduceIte, reduceCtorEq, Nat.reduceEqDiff, Nat.reduceBEq, Nat.reduceAdd, Nat.reduceLT, Nat.reduceBNe, Nat.reduceMul, ↓reduceIte, tis]
  refine run_loop (α := Nat) (fun i => i ≤ p.length) (fun i => [(0, .sl false 2 (p.map eSpan)), (3, .sl true 2 ((p.take i).map eSpan ++ List.replicate (p.length - i) (eSpan ⟨0, 0⟩))), (4, .int .i64 i)]) (fun i => p.length - i) 0 (Nat.zero_le _) ?_ ?_
  · simp -implicitDefEqProofs (maxSteps := 100000) (disch := first | (intros; contradiction) | omega) only [am0, am1, am2, am3, am4, am5, am6, am7, am8, am9, Nat.reduceSub, ↓reduceIte, reduceCtorEq, Nat.reduceEqDiff, Nat.reduceBEq, Nat.reduceAdd, Nat.reduceLT, Nat.reduceBNe, Nat.reduceMul, ↓reduceIte, eSpan]
  · intro i hi'
    by_cases hi : i < p.length
    · have g2 := build_get eSpan (eSpan ⟨0, 0⟩) p i hi
      have g3 := build_set eSpan (eSpan ⟨0, 0⟩) p i hi
      have g4 := build_len eSpan (eSpan ⟨0, 0⟩) p i hi'
      simp only [eSpan] at g2 g3 g4
      simp -implicitDefEqProofs (maxSteps := 100000) (disch := first | (intros; contradiction) | omega) only [am0, am1, am2, am3, am4, am5, am6, am7, am8, am9, Nat.reduceSub, ↓reduceIte, reduceCtorEq, Nat.reduceEqDiff, Nat.reduceBEq, Nat.reduceAdd, Nat.reduceLT, Nat.reduceBNe, Nat.reduceMul, ↓reduceIte, tis, eSpan]
      refine callb_of (fits_toSpan p[i]) (by simp -implicitDefEqProofs (maxSteps := 100000) (disch := first | (intros; contradiction) | omega) only [am0, am1, am2, am3, am4, am5, am6, am7, am8, am9, Nat.reduceSub, ↓reduceIte, reduceCtorEq, Nat.reduceEqDiff, Nat.reduceBEq, Nat.reduceAdd, Nat.reduceLT, Nat.reduceBNe, Nat.reduceMul, ↓reduceIte, tis, eSpan]) (.inl rfl) rfl ?_
      simp -implicitDefEqProofs (maxSteps := 100000) (disch := first | (intros; contradiction) | omega) only [am0, am1, am2, am3, am4, am5, am6, am7, am8, am9, Nat.reduceSub, ↓reduceIte, reduceCtorEq, Nat.reduceEqDiff, Nat.reduceBEq, Nat.reduceAdd, Nat.reduceLT, Nat.reduceBNe, Nat.reduceMul, ↓reduceIte, tis, eSpan, g2, g3, g4]
      refine round_normal (i + 1) (by omega) ?_ (by show p.length - (i + 1) < p.length - i; omega)
      simp -implicitDefEqProofs (maxSteps := 100000) (disch := first | (intros; contradiction) | omega) only [am0, am1, am2, am3, am4, am5, am6, am7, am8, am9, Nat.reduceSub, ↓reduceIte, reduceCtorEq, Nat.reduceEqDiff, Nat.reduceBEq, Nat.reduceAdd, Nat.reduceLT, Nat.reduceBNe, Nat.reduceMul, ↓reduceIte, eSpan]
    · obtain rfl : i = p.length := by omega
      simp -implicitDefEqProofs (maxSteps := 100000) (disch := first | (intros; contradiction) | omega) only [am0, am1, am2, am3, am4, am5, am6, am7, am8, am9, Nat.reduceSub, ↓reduceIte, reduceCtorEq, Nat.reduceEqDiff, Nat.reduceBEq, Nat.reduceAdd, Nat.reduceLT, Nat.reduceBNe, Nat.reduceMul, ↓reduceIte, tis]
/-- laws.eqSpanS -/
theorem fits_eqSpanS (p q : List Span) (hp : p.length ≤ 1048576) (hq : q.length ≤ 1048576) : Fits prog 93 [.sl false 2 (p.map eSpan), .sl false 2 (q.map eSpan)] (.bool (decide (p = q))) [] := by
  refine fits_of_code [4] [] [0, 1, 4, 5, 10, 14, 26] func93 rfl rfl rfl (by rfl) (by show 2 ≤ 27; decide) (by rfl) (by rfl) (by show 0 ≤ 2; decide) (by rfl) (run_of ?_)
  by_cases hl : p.length = q.length
  · simp -implicitDefEqProofs (maxSteps := 100000) (disch := first | (intros; contradiction) | omega) only [am0, am1, am2, am3, am4, am5, am6, am7, am8, am9, Nat.reduceSub, ↓reduceIte, reduceCtorEq, Nat.reduceEqDiff, Nat.reduceBEq, Nat.reduceAdd, Nat.reduceLT, Nat.reduceBNe, Nat.reduceMul, ↓reduceIte, tis]
    refine run_loop (α := Nat) (fun i => i ≤ p.length ∧ p.take i = q.take i) (fun i => [(0, .sl false 2 (p.map eSpan)), (1, .sl false 2 (q.map eSpan)), (5, .int .i64 i)]) (fun i => p.length - i) 0 ⟨Nat.zero_le _, by simp⟩ ?_ ?_
    · simp -implicitDefEqProofs (maxSteps := 100000) (disch := first | (intros; contradiction) | omega) only [am0, am1, am2, am3, am4, am5, am6, am7, am8, am9, Nat.reduceSub, ↓reduceIte, reduceCtorEq, Nat.reduceEqDiff, Nat.reduceBEq, Nat.reduceAdd, Nat.reduceLT, Nat.reduceBNe, Nat.reduceMul, ↓reduceIte, tis]
    · rintro i ⟨h1, h2⟩
      by_cases hi : i < p.length
      · simp -implicitDefEqProofs (maxSteps := 100000) (disch := first | (intros; contradiction) | omega) only [am0, am1, am2, am3, am4, am5, am6, am7, am8, am9, Nat.reduceSub, ↓reduceIte, reduceCtorEq, Nat.reduceEqDiff, Nat.reduceBEq, Nat.reduceAdd, Nat.reduceLT, Nat.reduceBNe, Nat.reduceMul, ↓reduceIte, tis, eSpan]
        refine .inl ⟨by kernel_rfl, ?_⟩
        refine call_of (fits_eqSpan p[i] q[i]) (by simp -implicitDefEqProofs (maxSteps := 100000) (disch := first | (intros; contradiction) | omega) only [am0, am1, am2, am3, am4, am5, am6, am7, am8, am9, Nat.reduceSub, ↓reduceIte, reduceCtorEq, Nat.reduceEqDiff, Nat.reduceBEq, Nat.reduceAdd, Nat.reduceLT, Nat.reduceBNe, Nat.reduceMul, ↓reduceIte, tis, eSpan]) (.inl rfl) rfl ?_
        by_cases h : p[i] = q[i]
        · simp -implicitDefEqProofs (maxSteps := 100000) (disch := first | (intros; contradiction) | omega) only [am0, am1, am2, am3, am4, am5, am6, am7, am8, am9, Nat.reduceSub, ↓reduceIte, reduceCtorEq, Nat.reduceEqDiff, Nat.reduceBEq, Nat.reduceAdd, Nat.reduceLT, Nat.reduceBNe, Nat.reduceMul, ↓reduceIte, tis, h]
          refine round_normal (i + 1) ⟨by omega, ?_⟩ ?_ (by show p.length - (i + 1) < p.length - i; omega)
          · rw [List.take_succ_eq_append_getElem hi, List.take_succ_eq_append_getElem (by omega : i < q.length), h2, h]
          · simp -implicitDefEqProofs (maxSteps := 100000) (disch := first | (intros; contradiction) | omega) only [am0, am1, am2, am3, am4, am5, am6, am7, am8, am9, Nat.reduceSub, ↓reduceIte, reduceCtorEq, Nat.reduceEqDiff, Nat.reduceBEq, Nat.reduceAdd, Nat.reduceLT, Nat.reduceBNe, Nat.reduceMul, ↓reduceIte, tis]
        · have hne : p ≠ q := by rintro rfl; exact h rfl
          simp -implicitDefEqProofs (maxSteps := 100000) (disch := first | (intros; contradiction) | omega) only [am0, am1, am2, am3, am4, am5, am6, am7, am8, am9, Nat.reduceSub, ↓reduceIte, reduceCtorEq, Nat.reduceEqDiff, Nat.reduceBEq, Nat.reduceAdd, Nat.reduceLT, Nat.reduceBNe, Nat.reduceMul, ↓reduceIte, tis, h, hne]
      · obtain rfl : i = p.length := by omega
        have hpq : p = q := by rwa [List.take_of_length_le (Nat.le_refl _), List.take_of_length_le (by omega)] at h2
        simp -implicitDefEqProofs (maxSteps := 100000) (disch := first | (intros; contradiction) | omega) only [am0, am1, am2, am3, am4, am5, am6, am7, am8, am9, Nat.reduceSub, ↓reduceIte, reduceCtorEq, Nat.reduceEqDiff, Nat.reduceBEq, Nat.reduceAdd, Nat.reduceLT, Nat.reduceBNe, Nat.reduceMul, ↓reduceIte, tis, hpq]
  · have hne : p ≠ q := fun h => hl (by rw [h])
    simp -implicitDefEqProofs (maxSteps := 100000) (disch := first | (intros; contradiction) | omega) only [am0, am1, am2, am3, am4, am5, am6, am7, am8, am9, Nat.reduceSub, ↓reduceIte, reduceCtorEq, Nat.reduceEqDiff, Nat.reduceBEq, Nat.reduceAdd, Nat.reduceLT, Nat.reduceBNe, Nat.reduceMul, ↓reduceIte, tis, hne]
/-- The marks that are put into n such from k on. -/
def mkSpan (k : Int) : Span := ⟨k, k + 1⟩
def mkSpans (n : Nat) (k : Int) : List Span := (List.range n).map fun (i : Nat) => mkSpan (k + 2 * (i : Int))
theorem mkSpans_succ (n : Nat) (k : Int) : mkSpans (n + 1) k = mkSpans n k ++ [mkSpan (k + 2 * n)] := by simp [mkSpans, List.range_succ]
theorem mkSpans_len (n : Nat) (k : Int) : (mkSpans n k).length = n := by simp [mkSpans]
/-- laws.markSpanS -/
theorem fits_markSpanS (p : List Span) (k : Int) (hp : p.length ≤ 1048576) (h0 : 0 ≤ k) (hk : k ≤ 1152921504606846976) : Fits prog 95 [.sl true 2 (p.map eSpan), .int .i64 k] (.int .i64 (k + 2 * p.length)) [.sl true 2 ((mkSpans p.length k).map eSpan)] := by
  refine fits_of_code [4] [0] [0, 1, 4, 5, 9] func95 rfl rfl rfl (by rfl) (by show 2 ≤ 27; decide) (by rfl) (by rfl) (by show 1 ≤ 2; decide) (by rfl) (run_of ?_)
  simp -implicitDefEqProofs (maxSteps := 100000) (disch := first | (intros; contradiction) | omega) only [am0, am1, am2, am3, am4, am5, am6, am7, am8, am9, Nat.reduceSub, ↓reduceIte, reduceCtorEq, Nat.reduceEqDiff, Nat.reduceBEq, Nat.reduceAdd, Nat.reduceLT, Nat.reduceBNe, Nat.reduceMul, ↓reduceIte, tis]
  refine run_loop (α := Nat) (fun i => i ≤ p.length) (fun i => [(0, .sl true 2 ((mkSpans i k).map eSpan ++ (p.drop i).map eSpan)), (1, .int .i64 (k + 2 * i)), (5, .int .i64 i)]) (fun i => p.length - i) 0 (Nat.zero_le _) ?_ ?_
  · simp -implicitDefEqProofs (maxSteps := 100000) (disch := first | (intros; contradiction) | omega) only [am0, am1, am2, am3, am4, am5, am6, am7, am8, am9, Nat.reduceSub, ↓reduceIte, reduceCtorEq, Nat.reduceEqDiff, Nat.reduceBEq, Nat.reduceAdd, Nat.reduceLT, Nat.reduceBNe, Nat.reduceMul, ↓reduceIte, tis, mkSpans]
    try simp
  · intro i hi'
    have hA : ((mkSpans i k).map eSpan).length = i := by simp [mkSpans_len]
    have hL : ((mkSpans i k).map eSpan ++ (p.drop i).map eSpan).length = p.length := by simp [mkSpans_len]; omega
    by_cases hi : i < p.length
    · have g1 := turn_get _ eSpan p i hA hi
      have g2 := fun y => turn_set _ eSpan p i y hA hi
      have g3 : ∀ y, ((mkSpans i k).map eSpan ++ [y] ++ (p.drop (i + 1)).map eSpan)[i]? = some y := fun y => by
        rw [List.append_assoc, List.getElem?_append_right (by omega), hA, Nat.sub_self]; rfl
      have g4 : ∀ y z, ((mkSpans i k).map eSpan ++ [y] ++ (p.drop (i + 1)).map eSpan).set i z = (mkSpans i k).map eSpan ++ [z] ++ (p.drop (i + 1)).map eSpan := fun y z => by
        rw [List.append_assoc, List.set_append_right _ _ (by omega), hA, Nat.sub_self]; simp
      have g5 : ∀ y, ((mkSpans i k).map eSpan ++ [y] ++ (p.drop (i + 1)).map eSpan).length = p.length := fun y => by simp [mkSpans_len]; omega
      simp only [eSpan] at g1
      simp -implicitDefEqProofs (maxSteps := 100000) (disch := first | (intros; contradiction) | omega) only [am0, am1, am2, am3, am4, am5, am6, am7, am8, am9, Nat.reduceSub, ↓reduceIte, reduceCtorEq, Nat.reduceEqDiff, Nat.reduceBEq, Nat.reduceAdd, Nat.reduceLT, Nat.reduceBNe, Nat.reduceMul, ↓reduceIte, tis, hL, g1, g2, g3, g4, g5]
      refine round_normal (i + 1) (by omega) ?_ (by show p.length - (i + 1) < p.length - i; omega)
      simp -implicitDefEqProofs (maxSteps := 100000) (disch := first | (intros; contradiction) | omega) only [am0, am1, am2, am3, am4, am5, am6, am7, am8, am9, Nat.reduceSub, ↓reduceIte, reduceCtorEq, Nat.reduceEqDiff, Nat.reduceBEq, Nat.reduceAdd, Nat.reduceLT, Nat.reduceBNe, Nat.reduceMul, ↓reduceIte, tis, mkSpans_succ]
      simp [mkSpan, eSpan]
      omega
    · obtain rfl : i = p.length := by omega
      simp -implicitDefEqProofs (maxSteps := 100000) (disch := first | (intros; contradiction) | omega) only [am0, am1, am2, am3, am4, am5, am6, am7, am8, am9, Nat.reduceSub, ↓reduceIte, reduceCtorEq, Nat.reduceEqDiff, Nat.reduceBEq, Nat.reduceAdd, Nat.reduceLT, Nat.reduceBNe, Nat.reduceMul, ↓reduceIte, tis, mkSpans_len]
theorem mkSpans_get (n : Nat) (k : Int) (i : Nat) (h : i < n) : ((mkSpans n k).map eSpan).getD i .undef = eSpan (mkSpan (k + 2 * i)) := by
  simp [mkSpans, List.getD, h]
inductive Rex where
  | mk (kind : Int) (set : List Span) (kids : List Rex)
def Rex.kind : Rex → Int | .mk k _ _ => k
def Rex.set : Rex → List Span | .mk _ s _ => s
def Rex.kids : Rex → List Rex | .mk _ _ ks => ks
instance : Inhabited Rex := ⟨.mk 0 [] []⟩
theorem Rex.eta (r : Rex) : .mk r.kind r.set r.kids = r := by cases r; rfl
theorem Rex.ind {p : Rex → Prop} (h : ∀ k s ks, (∀ x ∈ ks, p x) → p (.mk k s ks)) : ∀ r, p r
  | .mk k s ks => h k s ks (fun x _ => Rex.ind h x)
termination_by r => SizeOf.sizeOf r
decreasing_by simp_wf; have := List.sizeOf_lt_of_mem ‹_›; omega
theorem Rex.ind' {p : Rex → Prop} (h : ∀ r : Rex, (∀ x ∈ r.kids, p x) → p r) (r : Rex) : p r := Rex.ind (fun k s ks ih => h (.mk k s ks) ih) r
def eRex (o : Bool) : Rex → AV
  | .mk k s ks => .agg [.int .i64 k, .sl o 2 (s.map eSpan), .sl o 3 (ks.map (eRex o))]
theorem eRex_eq (o : Bool) (r : Rex) : eRex o r = .agg [.int .i64 r.kind, .sl o 2 (r.set.map eSpan), .sl o 3 (r.kids.map (eRex o))] := by
  cases r; rw [eRex]; rfl
theorem er_rex (o : Bool) (r : Rex) : erase (eRex o r) = eRex false r := by
  induction r using Rex.ind' with
  | h r ih =>
    rw [eRex_eq, eRex_eq]
    simp only [erase, eraseL, flSpan.eraseL, eraseL_map, List.map_map]
    congr 3
    simpa using ih
theorem erL_rex (o : Bool) (l : List Rex) : eraseL (l.map (eRex o)) = l.map (eRex false) := by
  rw [eraseL_map, List.map_map]; exact List.map_congr_left fun x _ => er_rex o x
theorem pl_rex (r : Rex) : plain (eRex false r) = true := by rw [eRex_eq]; simp [plain, plainL]
theorem plL_rex (l : List Rex) : plainL (l.map (eRex false)) = true := by rw [plainL_all]; simp [pl_rex]
theorem cl_rex (r : Rex) : closed (eRex true r) = true := by
  induction r using Rex.ind' with
  | h r ih =>
    rw [eRex_eq]
    simp only [closed, closedL, flSpan.closedL, closedL_all, Bool.true_and, Bool.and_true]
    simpa using ih
theorem clL_rex (l : List Rex) : closedL (l.map (eRex true)) = true := by rw [closedL_all]; simp [cl_rex]
theorem nc_rex (o : Bool) (r : Rex) : ncells (eRex o r) = 3 := by rw [eRex_eq]; simp [ncells, ncellsL]
theorem ag_rex (o : Bool) (r : Rex) : AV.isAgg (eRex o r) = true := by rw [eRex_eq]; rfl
theorem st_rex (o : Bool) (r : Rex) : AV.stor (eRex o r) = true := by rw [eRex_eq]; rfl
theorem tg_rex (o : Bool) (r : Rex) : AV.target (eRex o r) = none := by rw [eRex_eq]; rfl
theorem de_rex (o : Bool) (r : Rex) : plain (dead (eRex o r)) = true := by rw [eRex_eq]; cases o <;> simp [dead, deadL, plain, plainL]
/-- All that is known of the parts as a whole. -/
theorem rx : (∀ o r, erase (eRex o r) = eRex false r) ∧ (∀ o (l : List Rex), eraseL (l.map (eRex o)) = l.map (eRex false)) ∧ (∀ r, plain (eRex false r) = true) ∧ (∀ l : List Rex, plainL (l.map (eRex false)) = true) ∧
    (∀ r, closed (eRex true r) = true) ∧ (∀ l : List Rex, closedL (l.map (eRex true)) = true) ∧ (∀ o r, ncells (eRex o r) = 3) ∧ (∀ o r, AV.isAgg (eRex o r) = true) ∧ (∀ o r, AV.stor (eRex o r) = true) ∧ (∀ o r, AV.target (eRex o r) = none) :=
  ⟨er_rex, erL_rex, pl_rex, plL_rex, cl_rex, clL_rex, nc_rex, ag_rex, st_rex, tg_rex⟩
/-- How many spans and parts there are. -/
def bd : Rex → Nat
  | .mk _ s ks => s.length + (ks.length + (ks.map bd).sum)
theorem bd_eq (r : Rex) : bd r = r.set.length + (r.kids.length + (r.kids.map bd).sum) := by cases r; rw [bd]; rfl
theorem le_sum : ∀ {l : List Nat} {n : Nat}, n ∈ l → n ≤ l.sum
  | x :: l, n, h => by
    rcases List.mem_cons.1 h with rfl | h
    · simp
    · have := le_sum h
      simp; omega
theorem bd_kid {r x : Rex} (h : x ∈ r.kids) : bd x ≤ bd r := by
  rw [bd_eq r]
  have := le_sum (List.mem_map_of_mem (f := bd) h)
  omega
/-- No list of it is longer than Go's lists can be. -/
inductive Lens : Rex → Prop
  | mk (r : Rex) (h1 : r.set.length ≤ 9223372036854775807) (h2 : r.kids.length ≤ 9223372036854775807) (h3 : ∀ x ∈ r.kids, Lens x) : Lens r
/-- A place where one can go on. -/
def doorB (p : List Ins) (i : Nat) : Bool := match p[i]? with
  | some x => x.op == 2 || (x.op == 1 && (match p[i + 1]? with | some y => y.op == 2 | none => false))
  | none => false
def doorI (p : List Ins) (i : Int) : Bool := decide (0 ≤ i) && doorB p i.toNat
def insB (p : List Ins) (i : Nat) : Bool := match p[i]? with
  | some x => (x.op == 1 && (decide (0 ≤ x.a ∧ x.a ≤ 4 ∧ x.b = 0 ∧ x.to = 0) && doorB p i)) || ((x.op == 2 || x.op == 4) && decide (x.a = 0 ∧ x.b = 0 ∧ x.to = 0)) ||
      (x.op == 3 && (decide (0 ≤ x.a ∧ x.a ≤ x.b ∧ x.b ≤ 255) && doorI p x.to))
  | none => false
def lastB (p : List Ins) : Bool := match p.getLast? with | some x => x.op == 4 | none => false
def progB (p : List Ins) : Bool := decide (1 ≤ p.length ∧ p.length ≤ 1500) && (doorB p 0 && (lastB p && (List.range p.length).all (insB p)))
theorem doorB_lt {p : List Ins} {i : Nat} (h : doorB p i = true) : i < p.length := by
  unfold doorB at h
  split at h
  · rename_i x e; exact (List.getElem?_eq_some_iff.1 e).1
  · cases h
theorem doorB_at {p : List Ins} {i : Nat} (h : i < p.length) : doorB p i = (p[i].op == 2 || (p[i].op == 1 && (match p[i + 1]? with | some y => y.op == 2 | none => false))) := by
  simp [doorB, h]
theorem insB_at {p : List Ins} {i : Nat} (h : i < p.length) : insB p i = ((p[i].op == 1 && (decide (0 ≤ p[i].a ∧ p[i].a ≤ 4 ∧ p[i].b = 0 ∧ p[i].to = 0) && doorB p i)) || ((p[i].op == 2 || p[i].op == 4) && decide (p[i].a = 0 ∧ p[i].b = 0 ∧ p[i].to = 0)) ||
      (p[i].op == 3 && (decide (0 ≤ p[i].a ∧ p[i].a ≤ p[i].b ∧ p[i].b ≤ 255) && doorI p p[i].to))) := by
  simp [insB, h]
theorem doorI_out {p : List Ins} {i : Int} (h : ¬ (0 ≤ i ∧ i < p.length)) : doorI p i = false := by
  unfold doorI
  by_cases h0 : 0 ≤ i
  · have : p.length ≤ i.toNat := by omega
    simp [doorB, List.getElem?_eq_none this]
  · simp [h0]
theorem lastB_at {p : List Ins} (h : 0 < p.length) : lastB p = (p[p.length - 1].op == 4) := by
  have h1 : p.length - 1 < p.length := by omega
  simp [lastB, List.getLast?_eq_getElem?, h1]

theorem progB_false1 {p : List Ins} (h : ¬ (1 ≤ (p.length : Int) ∧ (p.length : Int) ≤ 1500)) : progB p = false := by
  have : ¬ (1 ≤ p.length ∧ p.length ≤ 1500) := by omega
  simp only [progB, this, decide_false, Bool.false_and]
theorem progB_false2 {p : List Ins} (h : doorB p 0 = false) : progB p = false := by simp [progB, h]
theorem progB_false3 {p : List Ins} (h : lastB p = false) : progB p = false := by simp [progB, h]
theorem progB_false4 {p : List Ins} {i : Nat} (hi : i < p.length) (h : insB p i = false) : progB p = false := by
  have : (List.range p.length).all (insB p) = false := by
    rw [List.all_eq_false]; exact ⟨i, by simpa using hi, by simp [h]⟩
  simp [progB, this]
theorem progB_true {p : List Ins} (h1 : 1 ≤ (p.length : Int) ∧ (p.length : Int) ≤ 1500) (h2 : doorB p 0 = true) (h3 : lastB p = true) (h4 : ∀ i, i < p.length → insB p i = true) : progB p = true := by
  have : (1 ≤ p.length ∧ p.length ≤ 1500) := by omega
  simp only [progB, this, h2, h3, Bool.and_eq_true, decide_true, Bool.true_and]
  simpa using h4
theorem doorI_zero (p : List Ins) : doorI p 0 = doorB p 0 := by simp [doorI]
theorem doorI_nat (p : List Ins) (i : Nat) : doorI p (i : Int) = doorB p i := by simp [doorI]
theorem progB_len {p : List Ins} (h : progB p = true) : 1 ≤ p.length ∧ p.length ≤ 1500 := by
  simp only [progB, Bool.and_eq_true, decide_eq_true_eq] at h; exact h.1
/-- impl.in -/
theorem fits_in (n l h : Int) : Fits prog 72 [.int .i64 n, .int .i64 l, .int .i64 h] (.bool (decide (l ≤ n ∧ n ≤ h))) [] := by
  refine fits_of_code [6] [] [0, 1, 2, 6] func72 rfl rfl rfl (by rfl) (by show 3 ≤ 15; decide) (by rfl) (by rfl) (by show 0 ≤ 3; decide) (by rfl) (run_of ?_)
  (simp -implicitDefEqProofs (maxSteps := 100000) (disch := first | (intros; contradiction) | omega) only [am0, am1, am2, am3, am4, am5, am6, am7, am8, am9, Nat.reduceSub, ↓reduceIte, reduceCtorEq, Nat.reduceEqDiff, Nat.reduceBEq, Nat.reduceAdd, Nat.reduceLT, Nat.reduceBNe, Nat.reduceMul, ↓reduceIte, tis]; (repeat' ((first | (refine Or.inl (And.intro (a := drawOk _ _ = true) (by kernel_rfl) ?_)) | (refine Or.inl (show drawOk _ _ = true from (by kernel_rfl))) | (refine cond_beq (fun _ => ?_) (fun _ => ?_)) | (refine cond_bne (fun _ => ?_) (fun _ => ?_)) | (refine cond_dec (fun _ => ?_) (fun _ => ?_)) | (refine cond_of (fun _ => ?_) (fun _ => ?_)) | (refine guard_beq (fun _ => ?_) (fun _ => ?_)) | (refine guard_bne (fun _ => ?_) (fun _ => ?_)) | (refine guard_dec (fun _ => ?_) (fun _ => ?_)) | (refine guard_of (fun _ => ?_) (fun _ => ?_)) | (refine guardD_beq (fun _ => ?_) (fun _ => ?_)) | (refine guardD_bne (fun _ => ?_) (fun _ => ?_)) | (refine guardD_dec (fun _ => ?_) (fun _ => ?_)) | (refine guardD_of (fun _ => ?_) (fun _ => ?_))) <;> (try simp -implicitDefEqProofs (maxSteps := 100000) (disch := first | (intros; contradiction) | omega) only [am0, am1, am2, am3, am4, am5, am6, am7, am8, am9, Nat.reduceSub, ↓reduceIte, reduceCtorEq, Nat.reduceEqDiff, Nat.reduceBEq, Nat.reduceAdd, Nat.reduceLT, Nat.reduceBNe, Nat.reduceMul, ↓reduceIte, tis]))))
  all_goals (simp_all)
/-- impl.door -/
theorem fits_door (p : List Ins) (i : Int) (hp : p.length ≤ 1099511627776) : Fits prog 154 [.sl false 4 (p.map eIns), .int .i64 i] (.bool (doorI p i)) [] := by
  refine fits_of_code [4] [] [0, 1, 4, 10] func154 rfl rfl rfl (by rfl) (by show 2 ≤ 41; decide) (by rfl) (by rfl) (by show 0 ≤ 2; decide) (by rfl) (run_of ?_)
  simp -implicitDefEqProofs (maxSteps := 100000) (disch := first | (intros; contradiction) | omega) only [am0, am1, am2, am3, am4, am5, am6, am7, am8, am9, Nat.reduceSub, ↓reduceIte, reduceCtorEq, Nat.reduceEqDiff, Nat.reduceBEq, Nat.reduceAdd, Nat.reduceLT, Nat.reduceBNe, Nat.reduceMul, ↓reduceIte, tis]
  refine callb_of (fits_in i 0 (p.length - 1)) (by simp -implicitDefEqProofs (maxSteps := 100000) (disch := first | (intros; contradiction) | omega) only [am0, am1, am2, am3, am4, am5, am6, am7, am8, am9, Nat.reduceSub, ↓reduceIte, reduceCtorEq, Nat.reduceEqDiff, Nat.reduceBEq, Nat.reduceAdd, Nat.reduceLT, Nat.reduceBNe, Nat.reduceMul, ↓reduceIte, tis]) (.inl rfl) rfl ?_
  by_cases hi : 0 ≤ i ∧ i < p.length
  case neg =>
    have h2 : ¬ (0 ≤ i ∧ i ≤ (p.length : Int) - 1) := by omega
    simp -implicitDefEqProofs (maxSteps := 100000) (disch := first | (intros; contradiction) | omega) only [am0, am1, am2, am3, am4, am5, am6, am7, am8, am9, Nat.reduceSub, ↓reduceIte, reduceCtorEq, Nat.reduceEqDiff, Nat.reduceBEq, Nat.reduceAdd, Nat.reduceLT, Nat.reduceBNe, Nat.reduceMul, ↓reduceIte, tis, h2, doorI_out hi]
  obtain ⟨j, rfl⟩ : ∃ j : Nat, i = j := ⟨i.toNat, by omega⟩
  have hj : j < p.length := by omega
  have h2 : (0 ≤ (j : Int) ∧ (j : Int) ≤ (p.length : Int) - 1) := by omega
  (simp -implicitDefEqProofs (maxSteps := 100000) (disch := first | (intros; contradiction) | omega) only [am0, am1, am2, am3, am4, am5, am6, am7, am8, am9, Nat.reduceSub, ↓reduceIte, reduceCtorEq, Nat.reduceEqDiff, Nat.reduceBEq, Nat.reduceAdd, Nat.reduceLT, Nat.reduceBNe, Nat.reduceMul, ↓reduceIte, tis, h2, eIns]; (repeat' ((first | (refine Or.inl (And.intro (a := drawOk _ _ = true) (by kernel_rfl) ?_)) | (refine Or.inl (show drawOk _ _ = true from (by kernel_rfl))) | (refine cond_beq (fun _ => ?_) (fun _ => ?_)) | (refine cond_bne (fun _ => ?_) (fun _ => ?_)) | (refine cond_dec (fun _ => ?_) (fun _ => ?_)) | (refine cond_of (fun _ => ?_) (fun _ => ?_)) | (refine guard_beq (fun _ => ?_) (fun _ => ?_)) | (refine guard_bne (fun _ => ?_) (fun _ => ?_)) | (refine guard_dec (fun _ => ?_) (fun _ => ?_)) | (refine guard_of (fun _ => ?_) (fun _ => ?_)) | (refine guardD_beq (fun _ => ?_) (fun _ => ?_)) | (refine guardD_bne (fun _ => ?_) (fun _ => ?_)) | (refine guardD_dec (fun _ => ?_) (fun _ => ?_)) | (refine guardD_of (fun _ => ?_) (fun _ => ?_))) <;> (try simp -implicitDefEqProofs (maxSteps := 100000) (disch := first | (intros; contradiction) | omega) only [am0, am1, am2, am3, am4, am5, am6, am7, am8, am9, Nat.reduceSub, ↓reduceIte, reduceCtorEq, Nat.reduceEqDiff, Nat.reduceBEq, Nat.reduceAdd, Nat.reduceLT, Nat.reduceBNe, Nat.reduceMul, ↓reduceIte, tis, h2, eIns]))))
  all_goals (have hq : j + 1 < p.length ∨ ¬ j + 1 < p.length := by omega)
  all_goals (rcases hq with hq | hq <;> first | omega | (simp_all [doorI, doorB_at hj]))

/-- impl.insOk -/
theorem fits_insOk (p : List Ins) (i : Nat) (hp : p.length ≤ 1099511627776) (hi : i < p.length) : Fits prog 155 [.sl false 4 (p.map eIns), .int .i64 i] (.bool (insB p i)) [] := by
  refine fits_of_code [4] [] [0, 1, 4, 5, 11, 12, 32, 48] func155 rfl rfl rfl (by rfl) (by show 2 ≤ 71; decide) (by rfl) (by rfl) (by show 0 ≤ 2; decide) (by rfl) (run_of ?_)
  (simp -implicitDefEqProofs (maxSteps := 100000) (disch := first | (intros; contradiction) | omega) only [am0, am1, am2, am3, am4, am5, am6, am7, am8, am9, Nat.reduceSub, ↓reduceIte, reduceCtorEq, Nat.reduceEqDiff, Nat.reduceBEq, Nat.reduceAdd, Nat.reduceLT, Nat.reduceBNe, Nat.reduceMul, ↓reduceIte, tis, eIns]; (repeat' ((first | (refine callb_of (fits_in _ _ _) (by simp -implicitDefEqProofs (maxSteps := 100000) (disch := first | (intros; contradiction) | omega) only [am0, am1, am2, am3, am4, am5, am6, am7, am8, am9, Nat.reduceSub, ↓reduceIte, reduceCtorEq, Nat.reduceEqDiff, Nat.reduceBEq, Nat.reduceAdd, Nat.reduceLT, Nat.reduceBNe, Nat.reduceMul, ↓reduceIte, tis, eIns]; (repeat' (first | rfl | constructor))) (by first | exact .inl rfl | (right; simp -implicitDefEqProofs (maxSteps := 100000) (disch := first | (intros; contradiction) | omega) only [am0, am1, am2, am3, am4, am5, am6, am7, am8, am9, Nat.reduceSub, ↓reduceIte, reduceCtorEq, Nat.reduceEqDiff, Nat.reduceBEq, Nat.reduceAdd, Nat.reduceLT, Nat.reduceBNe, Nat.reduceMul, ↓reduceIte, tis, eIns])) rfl ?_) | (refine call_of (fits_in _ _ _) (by simp -implicitDefEqProofs (maxSteps := 100000) (disch := first | (intros; contradiction) | omega) only [am0, am1, am2, am3, am4, am5, am6, am7, am8, am9, Nat.reduceSub, ↓reduceIte, reduceCtorEq, Nat.reduceEqDiff, Nat.reduceBEq, Nat.reduceAdd, Nat.reduceLT, Nat.reduceBNe, Nat.reduceMul, ↓reduceIte, tis, eIns]; (repeat' (first | rfl | constructor))) (by first | exact .inl rfl | (right; simp -implicitDefEqProofs (maxSteps := 100000) (disch := first | (intros; contradiction) | omega) only [am0, am1, am2, am3, am4, am5, am6, am7, am8, am9, Nat.reduceSub, ↓reduceIte, reduceCtorEq, Nat.reduceEqDiff, Nat.reduceBEq, Nat.reduceAdd, Nat.reduceLT, Nat.reduceBNe, Nat.reduceMul, ↓reduceIte, tis, eIns])) rfl ?_) | (refine callb_of (fits_door p _ hp) (by simp -implicitDefEqProofs (maxSteps := 100000) (disch := first | (intros; contradiction) | omega) only [am0, am1, am2, am3, am4, am5, am6, am7, am8, am9, Nat.reduceSub, ↓reduceIte, reduceCtorEq, Nat.reduceEqDiff, Nat.reduceBEq, Nat.reduceAdd, Nat.reduceLT, Nat.reduceBNe, Nat.reduceMul, ↓reduceIte, tis, eIns]; (repeat' (first | rfl | constructor))) (by first | exact .inl rfl | (right; simp -implicitDefEqProofs (maxSteps := 100000) (disch := first | (intros; contradiction) | omega) only [am0, am1, am2, am3, am4, am5, am6, am7, am8, am9, Nat.reduceSub, ↓reduceIte, reduceCtorEq, Nat.reduceEqDiff, Nat.reduceBEq, Nat.reduceAdd, Nat.reduceLT, Nat.reduceBNe, Nat.reduceMul, ↓reduceIte, tis, eIns])) rfl ?_) | (refine call_of (fits_door p _ hp) (by simp -implicitDefEqProofs (maxSteps := 100000) (disch := first | (intros; contradiction) | omega) only [am0, am1, am2, am3, am4, am5, am6, am7, am8, am9, Nat.reduceSub, ↓reduceIte, reduceCtorEq, Nat.reduceEqDiff, Nat.reduceBEq, Nat.reduceAdd, Nat.reduceLT, Nat.reduceBNe, Nat.reduceMul, ↓reduceIte, tis, eIns]; (repeat' (first | rfl | constructor))) (by first | exact .inl rfl | (right; simp -implicitDefEqProofs (maxSteps := 100000) (disch := first | (intros; contradiction) | omega) only [am0, am1, am2, am3, am4, am5, am6, am7, am8, am9, Nat.reduceSub, ↓reduceIte, reduceCtorEq, Nat.reduceEqDiff, Nat.reduceBEq, Nat.reduceAdd, Nat.reduceLT, Nat.reduceBNe, Nat.reduceMul, ↓reduceIte, tis, eIns])) rfl ?_) | (refine Or.inl (And.intro (a := drawOk _ _ = true) (by kernel_rfl) ?_)) | (refine Or.inl (show drawOk _ _ = true from (by kernel_rfl))) | (refine cond_beq (fun _ => ?_) (fun _ => ?_)) | (refine cond_bne (fun _ => ?_) (fun _ => ?_)) | (refine cond_dec (fun _ => ?_) (fun _ => ?_)) | (refine cond_of (fun _ => ?_) (fun _ => ?_)) | (refine guard_beq (fun _ => ?_) (fun _ => ?_)) | (refine guard_bne (fun _ => ?_) (fun _ => ?_)) | (refine guard_dec (fun _ => ?_) (fun _ => ?_)) | (refine guard_of (fun _ => ?_) (fun _ => ?_)) | (refine guardD_beq (fun _ => ?_) (fun _ => ?_)) | (refine guardD_bne (fun _ => ?_) (fun _ => ?_)) | (refine guardD_dec (fun _ => ?_) (fun _ => ?_)) | (refine guardD_of (fun _ => ?_) (fun _ => ?_))) <;> (try simp -implicitDefEqProofs (maxSteps := 100000) (disch := first | (intros; contradiction) | omega) only [am0, am1, am2, am3, am4, am5, am6, am7, am8, am9, Nat.reduceSub, ↓reduceIte, reduceCtorEq, Nat.reduceEqDiff, Nat.reduceBEq, Nat.reduceAdd, Nat.reduceLT, Nat.reduceBNe, Nat.reduceMul, ↓reduceIte, tis, eIns]))))
  all_goals (simp_all [insB_at hi])
  all_goals first | (intros; omega) | grind [doorI]
/-- A span by its place. -/
def setN (s : List Span) (i : Nat) : Bool := match s[i]? with
  | some x => decide (0 ≤ x.lo ∧ x.lo ≤ x.hi ∧ x.hi ≤ 255) && (decide (i = 0) || (match s[i - 1]? with | some y => decide (y.hi + 1 < x.lo) | none => false))
  | none => false
def setB (s : List Span) : Bool := (List.range s.length).all (setN s)
theorem setN_at {s : List Span} {i : Nat} (h : i < s.length) : setN s i = (decide (0 ≤ s[i].lo ∧ s[i].lo ≤ s[i].hi ∧ s[i].hi ≤ 255) && (decide (i = 0) || (match s[i - 1]? with | some y => decide (y.hi + 1 < s[i].lo) | none => false))) := by
  simp [setN, h]
theorem setN_0 {s : List Span} {i : Nat} (h : i < s.length) (h0 : i = 0) : setN s i = decide (0 ≤ s[i].lo ∧ s[i].lo ≤ s[i].hi ∧ s[i].hi ≤ 255) := by
  rw [setN_at h]; simp [h0]
theorem setN_1 {s : List Span} {i : Nat} (h : i < s.length) (h0 : i ≠ 0) : setN s i = (decide (0 ≤ s[i].lo ∧ s[i].lo ≤ s[i].hi ∧ s[i].hi ≤ 255) && decide (s[i - 1].hi + 1 < s[i].lo)) := by
  have : i - 1 < s.length := by omega
  rw [setN_at h]; simp [h0, this]
theorem setN_b {s : List Span} {i : Nat} (h : i < s.length) (h0 : setN s i = true) : 0 ≤ s[i].lo ∧ s[i].lo ≤ s[i].hi ∧ s[i].hi ≤ 255 := by
  rw [setN_at h] at h0
  simp only [Bool.and_eq_true, decide_eq_true_eq] at h0
  exact h0.1
theorem setB_false {s : List Span} {i : Nat} (hi : i < s.length) (h : setN s i = false) : setB s = false := by
  unfold setB; rw [List.all_eq_false]; exact ⟨i, by simpa using hi, by simp [h]⟩
theorem setB_true {s : List Span} (h : ∀ i, i < s.length → setN s i = true) : setB s = true := by
  unfold setB; simpa using h
/-- impl.SetOk -/
theorem fits_setOk (s : List Span) (hp : s.length ≤ 1099511627776) : Fits prog 146 [.sl false 2 (s.map eSpan)] (.bool (setB s)) [] := by
  refine fits_of_code [2] [] [0, 2, 3, 4, 5, 6, 7, 8, 42] func146 rfl rfl rfl (by rfl) (by show 1 ≤ 44; decide) (by rfl) (by rfl) (by show 0 ≤ 1; decide) (by rfl) (run_of ?_)
  simp -implicitDefEqProofs (maxSteps := 100000) (disch := first | (intros; contradiction) | omega) only [am0, am1, am2, am3, am4, am5, am6, am7, am8, am9, Nat.reduceSub, ↓reduceIte, reduceCtorEq, Nat.reduceEqDiff, Nat.reduceBEq, Nat.reduceAdd, Nat.reduceLT, Nat.reduceBNe, Nat.reduceMul, ↓reduceIte, tis]
  refine run_loop (α := Nat) (fun i => i ≤ s.length ∧ ∀ j, j < i → setN s j = true) (fun i => [(0, .sl false 2 (s.map eSpan)), (5, .sl false 2 (s.map eSpan)), (6, .int .i64 s.length), (7, .int .i64 i)]) (fun i => s.length - i) 0 ⟨Nat.zero_le _, by simp⟩ ?_ ?_
  · simp -implicitDefEqProofs (maxSteps := 100000) (disch := first | (intros; contradiction) | omega) only [am0, am1, am2, am3, am4, am5, am6, am7, am8, am9, Nat.reduceSub, ↓reduceIte, reduceCtorEq, Nat.reduceEqDiff, Nat.reduceBEq, Nat.reduceAdd, Nat.reduceLT, Nat.reduceBNe, Nat.reduceMul, ↓reduceIte, tis]
  · rintro i ⟨hi', hb⟩
    by_cases hi : i < s.length
    · have next : setN s i = true → ∀ j, j < i + 1 → setN s j = true := by
        intro h5 j hj
        by_cases hji : j < i
        · exact hb j hji
        · obtain rfl : j = i := by omega
          exact h5
      by_cases h0 : i = 0
      · have e := setN_0 hi h0
        by_cases h1 : 0 ≤ s[i].lo ∧ s[i].lo ≤ s[i].hi ∧ s[i].hi ≤ 255
        · rw [decide_eq_true h1] at e
          simp -implicitDefEqProofs (maxSteps := 100000) (disch := first | (intros; contradiction) | omega) only [am0, am1, am2, am3, am4, am5, am6, am7, am8, am9, Nat.reduceSub, ↓reduceIte, reduceCtorEq, Nat.reduceEqDiff, Nat.reduceBEq, Nat.reduceAdd, Nat.reduceLT, Nat.reduceBNe, Nat.reduceMul, ↓reduceIte, tis, eSpan, fls]
          refine .inl ⟨by kernel_rfl, ?_⟩
          exact round_normal (i + 1) ⟨by omega, next e⟩ (by simp -implicitDefEqProofs (maxSteps := 100000) (disch := first | (intros; contradiction) | omega) only [am0, am1, am2, am3, am4, am5, am6, am7, am8, am9, Nat.reduceSub, ↓reduceIte, reduceCtorEq, Nat.reduceEqDiff, Nat.reduceBEq, Nat.reduceAdd, Nat.reduceLT, Nat.reduceBNe, Nat.reduceMul, ↓reduceIte, tis]) (by show s.length - (i + 1) < s.length - i; omega)
        · rw [decide_eq_false h1] at e
          have e2 := setB_false hi e
          (simp -implicitDefEqProofs (maxSteps := 100000) (disch := first | (intros; contradiction) | omega) only [am0, am1, am2, am3, am4, am5, am6, am7, am8, am9, Nat.reduceSub, ↓reduceIte, reduceCtorEq, Nat.reduceEqDiff, Nat.reduceBEq, Nat.reduceAdd, Nat.reduceLT, Nat.reduceBNe, Nat.reduceMul, ↓reduceIte, tis, eSpan, fls, e2]; (repeat' ((first | (refine Or.inl (And.intro (a := drawOk _ _ = true) (by kernel_rfl) ?_)) | (refine Or.inl (show drawOk _ _ = true from (by kernel_rfl))) | (refine cond_beq (fun _ => ?_) (fun _ => ?_)) | (refine cond_bne (fun _ => ?_) (fun _ => ?_)) | (refine cond_dec (fun _ => ?_) (fun _ => ?_)) | (refine cond_of (fun _ => ?_) (fun _ => ?_)) | (refine guard_beq (fun _ => ?_) (fun _ => ?_)) | (refine guard_bne (fun _ => ?_) (fun _ => ?_)) | (refine guard_dec (fun _ => ?_) (fun _ => ?_)) | (refine guard_of (fun _ => ?_) (fun _ => ?_)) | (refine guardD_beq (fun _ => ?_) (fun _ => ?_)) | (refine guardD_bne (fun _ => ?_) (fun _ => ?_)) | (refine guardD_dec (fun _ => ?_) (fun _ => ?_)) | (refine guardD_of (fun _ => ?_) (fun _ => ?_))) <;> (try simp -implicitDefEqProofs (maxSteps := 100000) (disch := first | (intros; contradiction) | omega) only [am0, am1, am2, am3, am4, am5, am6, am7, am8, am9, Nat.reduceSub, ↓reduceIte, reduceCtorEq, Nat.reduceEqDiff, Nat.reduceBEq, Nat.reduceAdd, Nat.reduceLT, Nat.reduceBNe, Nat.reduceMul, ↓reduceIte, tis, eSpan, fls, e2]))))
          all_goals omega
      · have e := setN_1 hi h0
        have hi1 : i - 1 < s.length := by omega
        have b := setN_b hi1 (hb (i - 1) (by omega))
        have ei : ((i : Int) - 1).toNat = i - 1 := by omega
        by_cases h1 : 0 ≤ s[i].lo ∧ s[i].lo ≤ s[i].hi ∧ s[i].hi ≤ 255
        · by_cases h2 : s[i - 1].hi + 1 < s[i].lo
          · rw [decide_eq_true h1, decide_eq_true h2] at e
            simp -implicitDefEqProofs (maxSteps := 100000) (disch := first | (intros; contradiction) | omega) only [am0, am1, am2, am3, am4, am5, am6, am7, am8, am9, Nat.reduceSub, ↓reduceIte, reduceCtorEq, Nat.reduceEqDiff, Nat.reduceBEq, Nat.reduceAdd, Nat.reduceLT, Nat.reduceBNe, Nat.reduceMul, ↓reduceIte, tis, eSpan, fls, ei]
            refine .inl ⟨by kernel_rfl, ?_⟩
            exact round_normal (i + 1) ⟨by omega, next e⟩ (by simp -implicitDefEqProofs (maxSteps := 100000) (disch := first | (intros; contradiction) | omega) only [am0, am1, am2, am3, am4, am5, am6, am7, am8, am9, Nat.reduceSub, ↓reduceIte, reduceCtorEq, Nat.reduceEqDiff, Nat.reduceBEq, Nat.reduceAdd, Nat.reduceLT, Nat.reduceBNe, Nat.reduceMul, ↓reduceIte, tis]) (by show s.length - (i + 1) < s.length - i; omega)
          · rw [decide_eq_true h1, decide_eq_false h2] at e
            have e2 := setB_false hi e
            simp -implicitDefEqProofs (maxSteps := 100000) (disch := first | (intros; contradiction) | omega) only [am0, am1, am2, am3, am4, am5, am6, am7, am8, am9, Nat.reduceSub, ↓reduceIte, reduceCtorEq, Nat.reduceEqDiff, Nat.reduceBEq, Nat.reduceAdd, Nat.reduceLT, Nat.reduceBNe, Nat.reduceMul, ↓reduceIte, tis, eSpan, fls, e2, ei]
            refine .inl ?_
            show _ = _
            kernel_rfl
        · rw [decide_eq_false h1] at e
          have e2 := setB_false hi e
          (simp -implicitDefEqProofs (maxSteps := 100000) (disch := first | (intros; contradiction) | omega) only [am0, am1, am2, am3, am4, am5, am6, am7, am8, am9, Nat.reduceSub, ↓reduceIte, reduceCtorEq, Nat.reduceEqDiff, Nat.reduceBEq, Nat.reduceAdd, Nat.reduceLT, Nat.reduceBNe, Nat.reduceMul, ↓reduceIte, tis, eSpan, fls, e2, ei]; (repeat' ((first | (refine Or.inl (And.intro (a := drawOk _ _ = true) (by kernel_rfl) ?_)) | (refine Or.inl (show drawOk _ _ = true from (by kernel_rfl))) | (refine cond_beq (fun _ => ?_) (fun _ => ?_)) | (refine cond_bne (fun _ => ?_) (fun _ => ?_)) | (refine cond_dec (fun _ => ?_) (fun _ => ?_)) | (refine cond_of (fun _ => ?_) (fun _ => ?_)) | (refine guard_beq (fun _ => ?_) (fun _ => ?_)) | (refine guard_bne (fun _ => ?_) (fun _ => ?_)) | (refine guard_dec (fun _ => ?_) (fun _ => ?_)) | (refine guard_of (fun _ => ?_) (fun _ => ?_)) | (refine guardD_beq (fun _ => ?_) (fun _ => ?_)) | (refine guardD_bne (fun _ => ?_) (fun _ => ?_)) | (refine guardD_dec (fun _ => ?_) (fun _ => ?_)) | (refine guardD_of (fun _ => ?_) (fun _ => ?_))) <;> (try simp -implicitDefEqProofs (maxSteps := 100000) (disch := first | (intros; contradiction) | omega) only [am0, am1, am2, am3, am4, am5, am6, am7, am8, am9, Nat.reduceSub, ↓reduceIte, reduceCtorEq, Nat.reduceEqDiff, Nat.reduceBEq, Nat.reduceAdd, Nat.reduceLT, Nat.reduceBNe, Nat.reduceMul, ↓reduceIte, tis, eSpan, fls, e2, ei]))))
          all_goals omega
    · obtain rfl : i = s.length := by omega
      simp -implicitDefEqProofs (maxSteps := 100000) (disch := first | (intros; contradiction) | omega) only [am0, am1, am2, am3, am4, am5, am6, am7, am8, am9, Nat.reduceSub, ↓reduceIte, reduceCtorEq, Nat.reduceEqDiff, Nat.reduceBEq, Nat.reduceAdd, Nat.reduceLT, Nat.reduceBNe, Nat.reduceMul, ↓reduceIte, tis, setB_true hb]
def hasB (s : List Span) (b : Int) : Bool := s.any fun x => decide (x.lo ≤ b ∧ b ≤ x.hi)
theorem hasB_t {s : List Span} {b : Int} {i : Nat} (hi : i < s.length) (h : s[i].lo ≤ b ∧ b ≤ s[i].hi) : hasB s b = true := by
  unfold hasB; rw [List.any_eq_true]; exact ⟨_, List.getElem_mem hi, by simpa using h⟩
theorem hasB_f {s : List Span} {b : Int} (h : ∀ i (hi : i < s.length), ¬ (s[i].lo ≤ b ∧ b ≤ s[i].hi)) : hasB s b = false := by
  unfold hasB; rw [List.any_eq_false]; intro x hx; obtain ⟨i, hi, rfl⟩ := List.getElem_of_mem hx; simpa using h i hi
def bitsL (s : List Span) : List Bool := (List.range 256).map fun b => hasB s (b : Nat)
theorem bitsL_len (s : List Span) : (bitsL s).length = 256 := by simp [bitsL]
theorem bitsL_get (s : List Span) (i : Nat) (h : i < (bitsL s).length) : (bitsL s)[i] = hasB s i := by simp [bitsL]
/-- impl.SetHas -/
theorem fits_setHas (s : List Span) (b : Int) (hp : s.length ≤ 1099511627776) : Fits prog 140 [.sl false 2 (s.map eSpan), .int .i64 b] (.bool (hasB s b)) [] := by
  refine fits_of_code [4] [] [0, 1, 4, 6, 7, 8, 9, 10, 18] func140 rfl rfl rfl (by rfl) (by show 2 ≤ 20; decide) (by rfl) (by rfl) (by show 0 ≤ 2; decide) (by rfl) (run_of ?_)
  simp -implicitDefEqProofs (maxSteps := 100000) (disch := first | (intros; contradiction) | omega) only [am0, am1, am2, am3, am4, am5, am6, am7, am8, am9, Nat.reduceSub, ↓reduceIte, reduceCtorEq, Nat.reduceEqDiff, Nat.reduceBEq, Nat.reduceAdd, Nat.reduceLT, Nat.reduceBNe, Nat.reduceMul, ↓reduceIte, tis]
  refine run_loop (α := Nat) (fun i => i ≤ s.length ∧ ∀ j (hj : j < s.length), j < i → ¬ (s[j].lo ≤ b ∧ b ≤ s[j].hi)) (fun i => [(1, .int .i64 b), (7, .sl false 2 (s.map eSpan)), (8, .int .i64 s.length), (9, .int .i64 i)]) (fun i => s.length - i) 0 ⟨Nat.zero_le _, by intros; omega⟩ ?_ ?_
  · simp -implicitDefEqProofs (maxSteps := 100000) (disch := first | (intros; contradiction) | omega) only [am0, am1, am2, am3, am4, am5, am6, am7, am8, am9, Nat.reduceSub, ↓reduceIte, reduceCtorEq, Nat.reduceEqDiff, Nat.reduceBEq, Nat.reduceAdd, Nat.reduceLT, Nat.reduceBNe, Nat.reduceMul, ↓reduceIte, tis]
  · rintro i ⟨hi', hb⟩
    by_cases hi : i < s.length
    · simp -implicitDefEqProofs (maxSteps := 100000) (disch := first | (intros; contradiction) | omega) only [am0, am1, am2, am3, am4, am5, am6, am7, am8, am9, Nat.reduceSub, ↓reduceIte, reduceCtorEq, Nat.reduceEqDiff, Nat.reduceBEq, Nat.reduceAdd, Nat.reduceLT, Nat.reduceBNe, Nat.reduceMul, ↓reduceIte, tis, eSpan, fls]
      refine callB (fits_in b s[i].lo s[i].hi) ?_
      by_cases h1 : s[i].lo ≤ b ∧ b ≤ s[i].hi
      · simp -implicitDefEqProofs (maxSteps := 100000) (disch := first | (intros; contradiction) | omega) only [am0, am1, am2, am3, am4, am5, am6, am7, am8, am9, Nat.reduceSub, ↓reduceIte, reduceCtorEq, Nat.reduceEqDiff, Nat.reduceBEq, Nat.reduceAdd, Nat.reduceLT, Nat.reduceBNe, Nat.reduceMul, ↓reduceIte, tis, eSpan, fls, h1, hasB_t hi h1]
      · simp -implicitDefEqProofs (maxSteps := 100000) (disch := first | (intros; contradiction) | omega) only [am0, am1, am2, am3, am4, am5, am6, am7, am8, am9, Nat.reduceSub, ↓reduceIte, reduceCtorEq, Nat.reduceEqDiff, Nat.reduceBEq, Nat.reduceAdd, Nat.reduceLT, Nat.reduceBNe, Nat.reduceMul, ↓reduceIte, tis, eSpan, fls, h1]
        refine round_normal (i + 1) ⟨by omega, ?_⟩ (by simp -implicitDefEqProofs (maxSteps := 100000) (disch := first | (intros; contradiction) | omega) only [am0, am1, am2, am3, am4, am5, am6, am7, am8, am9, Nat.reduceSub, ↓reduceIte, reduceCtorEq, Nat.reduceEqDiff, Nat.reduceBEq, Nat.reduceAdd, Nat.reduceLT, Nat.reduceBNe, Nat.reduceMul, ↓reduceIte, tis]) (by show s.length - (i + 1) < s.length - i; omega)
        intro j hj hj2
        by_cases hji : j < i
        · exact hb j hj hji
        · obtain rfl : j = i := by omega
          exact h1
    · obtain rfl : i = s.length := by omega
      simp -implicitDefEqProofs (maxSteps := 100000) (disch := first | (intros; contradiction) | omega) only [am0, am1, am2, am3, am4, am5, am6, am7, am8, am9, Nat.reduceSub, ↓reduceIte, reduceCtorEq, Nat.reduceEqDiff, Nat.reduceBEq, Nat.reduceAdd, Nat.reduceLT, Nat.reduceBNe, Nat.reduceMul, ↓reduceIte, tis, hasB_f fun i hi => hb i hi hi]
/-- spec.SetHas -/
theorem fits_sSetHas (s : List Span) (b : Int) (hp : s.length ≤ 1099511627776) : Fits prog 137 [.sl false 2 (s.map eSpan), .int .i64 b] (.bool (hasB s b)) [] := by
  refine fits_of_code [4] [] [0, 1, 4, 5, 9, 27] func137 rfl rfl rfl (by rfl) (by show 2 ≤ 28; decide) (by rfl) (by rfl) (by show 0 ≤ 2; decide) (by rfl) (run_of ?_)
  simp -implicitDefEqProofs (maxSteps := 100000) (disch := first | (intros; contradiction) | omega) only [am0, am1, am2, am3, am4, am5, am6, am7, am8, am9, Nat.reduceSub, ↓reduceIte, reduceCtorEq, Nat.reduceEqDiff, Nat.reduceBEq, Nat.reduceAdd, Nat.reduceLT, Nat.reduceBNe, Nat.reduceMul, ↓reduceIte, tis]
  refine run_loop (α := Nat) (fun i => i ≤ s.length ∧ ∀ j (hj : j < s.length), j < i → ¬ (s[j].lo ≤ b ∧ b ≤ s[j].hi)) (fun i => [(0, .sl false 2 (s.map eSpan)), (1, .int .i64 b), (5, .int .i64 i)]) (fun i => s.length - i) 0 ⟨Nat.zero_le _, by intros; omega⟩ ?_ ?_
  · simp -implicitDefEqProofs (maxSteps := 100000) (disch := first | (intros; contradiction) | omega) only [am0, am1, am2, am3, am4, am5, am6, am7, am8, am9, Nat.reduceSub, ↓reduceIte, reduceCtorEq, Nat.reduceEqDiff, Nat.reduceBEq, Nat.reduceAdd, Nat.reduceLT, Nat.reduceBNe, Nat.reduceMul, ↓reduceIte, tis]
  · rintro i ⟨hi', hb⟩
    by_cases hi : i < s.length
    · have nx : ¬ (s[i].lo ≤ b ∧ b ≤ s[i].hi) → ∀ j (hj : j < s.length), j < i + 1 → ¬ (s[j].lo ≤ b ∧ b ≤ s[j].hi) := by
        intro h1 j hj hj2
        by_cases hji : j < i
        · exact hb j hj hji
        · obtain rfl : j = i := by omega
          exact h1
      by_cases h1 : s[i].lo ≤ b
      · by_cases h2 : b ≤ s[i].hi
        · simp -implicitDefEqProofs (maxSteps := 100000) (disch := first | (intros; contradiction) | omega) only [am0, am1, am2, am3, am4, am5, am6, am7, am8, am9, Nat.reduceSub, ↓reduceIte, reduceCtorEq, Nat.reduceEqDiff, Nat.reduceBEq, Nat.reduceAdd, Nat.reduceLT, Nat.reduceBNe, Nat.reduceMul, ↓reduceIte, tis, eSpan, fls, h1, h2, hasB_t hi ⟨h1, h2⟩]
        · simp -implicitDefEqProofs (maxSteps := 100000) (disch := first | (intros; contradiction) | omega) only [am0, am1, am2, am3, am4, am5, am6, am7, am8, am9, Nat.reduceSub, ↓reduceIte, reduceCtorEq, Nat.reduceEqDiff, Nat.reduceBEq, Nat.reduceAdd, Nat.reduceLT, Nat.reduceBNe, Nat.reduceMul, ↓reduceIte, tis, eSpan, fls, h1, h2]
          refine round_normal (i + 1) ⟨by omega, nx (by omega)⟩ (by simp -implicitDefEqProofs (maxSteps := 100000) (disch := first | (intros; contradiction) | omega) only [am0, am1, am2, am3, am4, am5, am6, am7, am8, am9, Nat.reduceSub, ↓reduceIte, reduceCtorEq, Nat.reduceEqDiff, Nat.reduceBEq, Nat.reduceAdd, Nat.reduceLT, Nat.reduceBNe, Nat.reduceMul, ↓reduceIte, tis]) (by show s.length - (i + 1) < s.length - i; omega)
      · simp -implicitDefEqProofs (maxSteps := 100000) (disch := first | (intros; contradiction) | omega) only [am0, am1, am2, am3, am4, am5, am6, am7, am8, am9, Nat.reduceSub, ↓reduceIte, reduceCtorEq, Nat.reduceEqDiff, Nat.reduceBEq, Nat.reduceAdd, Nat.reduceLT, Nat.reduceBNe, Nat.reduceMul, ↓reduceIte, tis, eSpan, fls, h1]
        refine round_normal (i + 1) ⟨by omega, nx (by omega)⟩ (by simp -implicitDefEqProofs (maxSteps := 100000) (disch := first | (intros; contradiction) | omega) only [am0, am1, am2, am3, am4, am5, am6, am7, am8, am9, Nat.reduceSub, ↓reduceIte, reduceCtorEq, Nat.reduceEqDiff, Nat.reduceBEq, Nat.reduceAdd, Nat.reduceLT, Nat.reduceBNe, Nat.reduceMul, ↓reduceIte, tis]) (by show s.length - (i + 1) < s.length - i; omega)
    · obtain rfl : i = s.length := by omega
      simp -implicitDefEqProofs (maxSteps := 100000) (disch := first | (intros; contradiction) | omega) only [am0, am1, am2, am3, am4, am5, am6, am7, am8, am9, Nat.reduceSub, ↓reduceIte, reduceCtorEq, Nat.reduceEqDiff, Nat.reduceBEq, Nat.reduceAdd, Nat.reduceLT, Nat.reduceBNe, Nat.reduceMul, ↓reduceIte, tis, hasB_f fun i hi => hb i hi hi]
/-- impl.bitsOf -/
theorem fits_bitsOf (s : List Span) (hp : s.length ≤ 1099511627776) : Fits prog 149 [.sl false 2 (s.map eSpan)] (.arr 1 ((bitsL s).map eBool)) [] := by
  have hl := bitsL_len s
  refine fits_of_cell 2 165 [] [0, 2, 3, 4, 5, 6] func149 rfl rfl rfl (by show 2 < 15; decide) (by show 1 ≤ 15; decide) (by rfl) (by rfl) (by show 0 ≤ 1; decide) (by rfl) (run_of ?_)
  simp -implicitDefEqProofs (maxSteps := 100000) (disch := first | (intros; contradiction) | omega) only [am0, am1, am2, am3, am4, am5, am6, am7, am8, am9, Nat.reduceSub, ↓reduceIte, reduceCtorEq, Nat.reduceEqDiff, Nat.reduceBEq, Nat.reduceAdd, Nat.reduceLT, Nat.reduceBNe, Nat.reduceMul, ↓reduceIte, tis]
  refine run_loop (α := Nat) (fun i => i ≤ 256) (fun i => [(0, .sl false 2 (s.map eSpan)), (2, .box (.arr 1 (List.replicate 256 (.bool false)))), (3, .box (.arr 1 (((bitsL s).take i).map eBool ++ List.replicate (256 - i) (.bool false)))), (5, .int .i64 i)]) (fun i => 256 - i) 0 (Nat.zero_le _) ?_ ?_
  · simp -implicitDefEqProofs (maxSteps := 100000) (disch := first | (intros; contradiction) | omega) only [am0, am1, am2, am3, am4, am5, am6, am7, am8, am9, Nat.reduceSub, ↓reduceIte, reduceCtorEq, Nat.reduceEqDiff, Nat.reduceBEq, Nat.reduceAdd, Nat.reduceLT, Nat.reduceBNe, Nat.reduceMul, ↓reduceIte, tis]
  · intro i hi'
    have g1 := build_len eBool (.bool false) (bitsL s) i (by omega)
    rw [hl] at g1
    by_cases hi : i < 256
    · have g2 := build_get eBool (.bool false) (bitsL s) i (by omega)
      have g3 := build_set eBool (.bool false) (bitsL s) i (by omega)
      rw [bitsL_get s i (by omega)] at g3
      rw [hl] at g2 g3
      simp -implicitDefEqProofs (maxSteps := 100000) (disch := first | (intros; contradiction) | omega) only [am0, am1, am2, am3, am4, am5, am6, am7, am8, am9, Nat.reduceSub, ↓reduceIte, reduceCtorEq, Nat.reduceEqDiff, Nat.reduceBEq, Nat.reduceAdd, Nat.reduceLT, Nat.reduceBNe, Nat.reduceMul, ↓reduceIte, tis, fls, g1, g2]
      refine callB (fits_setHas s i hp) ?_
      simp -implicitDefEqProofs (maxSteps := 100000) (disch := first | (intros; contradiction) | omega) only [am0, am1, am2, am3, am4, am5, am6, am7, am8, am9, Nat.reduceSub, ↓reduceIte, reduceCtorEq, Nat.reduceEqDiff, Nat.reduceBEq, Nat.reduceAdd, Nat.reduceLT, Nat.reduceBNe, Nat.reduceMul, ↓reduceIte, tis, fls, g1, g2]
      refine round_normal (i + 1) (by omega) ?_ (by show 256 - (i + 1) < 256 - i; omega)
      rw [show AV.bool (hasB s i) = eBool (hasB s i) from rfl, g3]
      simp -implicitDefEqProofs (maxSteps := 100000) (disch := first | (intros; contradiction) | omega) only [am0, am1, am2, am3, am4, am5, am6, am7, am8, am9, Nat.reduceSub, ↓reduceIte, reduceCtorEq, Nat.reduceEqDiff, Nat.reduceBEq, Nat.reduceAdd, Nat.reduceLT, Nat.reduceBNe, Nat.reduceMul, ↓reduceIte, tis]
    · obtain rfl : i = 256 := by omega
      have e : (bitsL s).take 256 = bitsL s := List.take_of_length_le (by omega)
      simp -implicitDefEqProofs (maxSteps := 100000) (disch := first | (intros; contradiction) | omega) only [am0, am1, am2, am3, am4, am5, am6, am7, am8, am9, Nat.reduceSub, ↓reduceIte, reduceCtorEq, Nat.reduceEqDiff, Nat.reduceBEq, Nat.reduceAdd, Nat.reduceLT, Nat.reduceBNe, Nat.reduceMul, ↓reduceIte, tis, g1, e, fls]
      omega
def kidsN (k : Int) : Int := if k = 1 ∨ k = 2 then 0 else if k = 5 ∨ k = 7 then 1 else if k = 3 ∨ k = 4 ∨ k = 6 then 2 else -1
/-- impl.kidsOf -/
theorem fits_kidsOf (k : Int) : Fits prog 145 [.int .i64 k] (.int .i64 (kidsN k)) [] := by
  refine fits_of_code [2] [] [0, 2, 3, 4, 7, 10] func145 rfl rfl rfl (by rfl) (by show 1 ≤ 14; decide) (by rfl) (by rfl) (by show 0 ≤ 1; decide) (by rfl) (run_of ?_)
  (simp -implicitDefEqProofs (maxSteps := 100000) (disch := first | (intros; contradiction) | omega) only [am0, am1, am2, am3, am4, am5, am6, am7, am8, am9, Nat.reduceSub, ↓reduceIte, reduceCtorEq, Nat.reduceEqDiff, Nat.reduceBEq, Nat.reduceAdd, Nat.reduceLT, Nat.reduceBNe, Nat.reduceMul, ↓reduceIte, tis]; (repeat' ((first | (refine Or.inl (And.intro (a := drawOk _ _ = true) (by kernel_rfl) ?_)) | (refine Or.inl (show drawOk _ _ = true from (by kernel_rfl))) | (refine cond_beq (fun _ => ?_) (fun _ => ?_)) | (refine cond_bne (fun _ => ?_) (fun _ => ?_)) | (refine cond_dec (fun _ => ?_) (fun _ => ?_)) | (refine cond_of (fun _ => ?_) (fun _ => ?_)) | (refine guard_beq (fun _ => ?_) (fun _ => ?_)) | (refine guard_bne (fun _ => ?_) (fun _ => ?_)) | (refine guard_dec (fun _ => ?_) (fun _ => ?_)) | (refine guard_of (fun _ => ?_) (fun _ => ?_)) | (refine guardD_beq (fun _ => ?_) (fun _ => ?_)) | (refine guardD_bne (fun _ => ?_) (fun _ => ?_)) | (refine guardD_dec (fun _ => ?_) (fun _ => ?_)) | (refine guardD_of (fun _ => ?_) (fun _ => ?_))) <;> (try simp -implicitDefEqProofs (maxSteps := 100000) (disch := first | (intros; contradiction) | omega) only [am0, am1, am2, am3, am4, am5, am6, am7, am8, am9, Nat.reduceSub, ↓reduceIte, reduceCtorEq, Nat.reduceEqDiff, Nat.reduceBEq, Nat.reduceAdd, Nat.reduceLT, Nat.reduceBNe, Nat.reduceMul, ↓reduceIte, tis]))))
  all_goals (simp_all [kidsN])
/-- spec.l2Kids -/
theorem fits_sKids (k : Int) : Fits prog 143 [.int .i64 k] (.int .i64 (kidsN k)) [] := by
  refine fits_of_code [2] [] [0, 2, 3, 4, 7, 10] func143 rfl rfl rfl (by rfl) (by show 1 ≤ 14; decide) (by rfl) (by rfl) (by show 0 ≤ 1; decide) (by rfl) (run_of ?_)
  (simp -implicitDefEqProofs (maxSteps := 100000) (disch := first | (intros; contradiction) | omega) only [am0, am1, am2, am3, am4, am5, am6, am7, am8, am9, Nat.reduceSub, ↓reduceIte, reduceCtorEq, Nat.reduceEqDiff, Nat.reduceBEq, Nat.reduceAdd, Nat.reduceLT, Nat.reduceBNe, Nat.reduceMul, ↓reduceIte, tis]; (repeat' ((first | (refine Or.inl (And.intro (a := drawOk _ _ = true) (by kernel_rfl) ?_)) | (refine Or.inl (show drawOk _ _ = true from (by kernel_rfl))) | (refine cond_beq (fun _ => ?_) (fun _ => ?_)) | (refine cond_bne (fun _ => ?_) (fun _ => ?_)) | (refine cond_dec (fun _ => ?_) (fun _ => ?_)) | (refine cond_of (fun _ => ?_) (fun _ => ?_)) | (refine guard_beq (fun _ => ?_) (fun _ => ?_)) | (refine guard_bne (fun _ => ?_) (fun _ => ?_)) | (refine guard_dec (fun _ => ?_) (fun _ => ?_)) | (refine guard_of (fun _ => ?_) (fun _ => ?_)) | (refine guardD_beq (fun _ => ?_) (fun _ => ?_)) | (refine guardD_bne (fun _ => ?_) (fun _ => ?_)) | (refine guardD_dec (fun _ => ?_) (fun _ => ?_)) | (refine guardD_of (fun _ => ?_) (fun _ => ?_))) <;> (try simp -implicitDefEqProofs (maxSteps := 100000) (disch := first | (intros; contradiction) | omega) only [am0, am1, am2, am3, am4, am5, am6, am7, am8, am9, Nat.reduceSub, ↓reduceIte, reduceCtorEq, Nat.reduceEqDiff, Nat.reduceBEq, Nat.reduceAdd, Nat.reduceLT, Nat.reduceBNe, Nat.reduceMul, ↓reduceIte, tis]))))
  all_goals (simp_all [kidsN])
/-- impl.copied of spans -/
theorem fits_copiedSpan (p : List Span) (hp : p.length ≤ 1099511627776) : Fits prog 141 [.sl false 2 (p.map eSpan)] (.sl true 2 (p.map eSpan)) [] := by
  refine fits_of_code [2] [] [0, 2, 3, 6] func141 rfl rfl rfl (by rfl) (by show 1 ≤ 14; decide) (by rfl) (by rfl) (by show 0 ≤ 1; decide) (by rfl) (run_of ?_)
  cases p with
  | nil => simp -implicitDefEqProofs (maxSteps := 100000) (disch := first | (intros; contradiction) | omega) only [am0, am1, am2, am3, am4, am5, am6, am7, am8, am9, Nat.reduceSub, ↓reduceIte, reduceCtorEq, Nat.reduceEqDiff, Nat.reduceBEq, Nat.reduceAdd, Nat.reduceLT, Nat.reduceBNe, Nat.reduceMul, ↓reduceIte, tis]
  | cons x r =>
    have hl : ((x :: r).length : Int) ≠ 0 := by simp; omega
    generalize (x :: r) = p at *
    simp -implicitDefEqProofs (maxSteps := 100000) (disch := first | (intros; contradiction) | omega) only [am0, am1, am2, am3, am4, am5, am6, am7, am8, am9, Nat.reduceSub, ↓reduceIte, reduceCtorEq, Nat.reduceEqDiff, Nat.reduceBEq, Nat.reduceAdd, Nat.reduceLT, Nat.reduceBNe, Nat.reduceMul, ↓reduceIte, tis]
    simp -implicitDefEqProofs (maxSteps := 100000) (disch := first | (intros; contradiction) | omega) only [am0, am1, am2, am3, am4, am5, am6, am7, am8, am9, Nat.reduceSub, ↓reduceIte, reduceCtorEq, Nat.reduceEqDiff, Nat.reduceBEq, Nat.reduceAdd, Nat.reduceLT, Nat.reduceBNe, Nat.reduceMul, ↓reduceIte, tis, List.length_replicate, fls]
    simp [List.take_of_length_le]
/-- How many parts there are. -/
def ps : Rex → Nat
  | .mk _ _ ks => 1 + (ks.map ps).sum
theorem ps_eq (r : Rex) : ps r = 1 + (r.kids.map ps).sum := by cases r; rw [ps]; rfl
def fm : Nat → Rex → Bool
  | 0, _ => false
  | d + 1, r => decide (kidsN r.kind = r.kids.length) && (decide (r.kind = 1 ∨ r.set.length = 0) && (setB r.set && r.kids.all (fm d)))
theorem fm_ok {d : Nat} {r : Rex} (h : fm (d + 1) r = true) : kidsN r.kind = r.kids.length ∧ (r.kind = 1 ∨ r.set.length = 0) ∧ setB r.set = true ∧ ∀ x ∈ r.kids, fm d x = true := by
  simpa [fm] using h
theorem kidsN_le (k : Int) : kidsN k ≤ 2 := by unfold kidsN; split <;> (try split) <;> (try split) <;> omega
theorem fm_pos {d : Nat} {r : Rex} (h : fm d r = true) : 0 < d := by cases d with | zero => simp [fm] at h | succ d => omega
theorem fm_kids {d : Nat} {r : Rex} (h : fm d r = true) : r.kids.length ≤ 2 := by
  cases d with
  | zero => simp [fm] at h
  | succ d => have := (fm_ok h).1; have := kidsN_le r.kind; omega
theorem sum2 {l : List Nat} {b : Nat} (h : ∀ x ∈ l, x ≤ b) (h2 : l.length ≤ 2) : l.sum ≤ 2 * b := by
  match l, h2 with
  | [], _ => simp
  | [x], _ => have := h x (by simp); simp; omega
  | [x, y], _ => have := h x (by simp); have := h y (by simp); simp; omega
theorem ps_le : ∀ (d : Nat) (r : Rex), fm d r = true → ps r + 1 ≤ 2 ^ d
  | 0, r, h => by simp [fm] at h
  | d + 1, r, h => by
    have h4 := (fm_ok h).2.2.2
    have hk := fm_kids h
    have : (r.kids.map ps).sum ≤ 2 * (2 ^ d - 1) := by
      refine sum2 (fun x hx => ?_) (by simpa using hk)
      obtain ⟨y, hy, rfl⟩ := List.mem_map.1 hx
      have := ps_le d y (h4 y hy)
      omega
    rw [ps_eq, Nat.pow_succ]
    have := Nat.one_le_two_pow (n := d)
    omega
theorem fm_f {d : Nat} {r : Rex} {i : Nat} (hi : i < r.kids.length) (h : fm d r.kids[i] = false) : fm (d + 1) r = false := by
  have : r.kids.all (fm d) = false := by rw [List.all_eq_false]; exact ⟨_, List.getElem_mem hi, by simp [h]⟩
  simp [fm, this]
theorem fm_t {d : Nat} {r : Rex} (h1 : kidsN r.kind = r.kids.length) (h2 : r.kind = 1 ∨ r.set.length = 0) (h3 : setB r.set = true) (h : ∀ i (hi : i < r.kids.length), fm d r.kids[i] = true) : fm (d + 1) r = true := by
  have : r.kids.all (fm d) = true := by rw [List.all_eq_true]; intro x hx; obtain ⟨i, hi, rfl⟩ := List.getElem_of_mem hx; exact h i hi
  simp only [fm, this, h1, h2, h3, decide_true, Bool.and_self, Bool.true_and]
theorem fm_f1 {d : Nat} {r : Rex} (h : ¬ kidsN r.kind = r.kids.length) : fm (d + 1) r = false := by simp [fm, h]
theorem fm_f2 {d : Nat} {r : Rex} (h : ¬ (r.kind = 1 ∨ r.set.length = 0)) : fm (d + 1) r = false := by simp only [fm, h, decide_false, Bool.false_and, Bool.and_false]
theorem fm_f3 {d : Nat} {r : Rex} (h : setB r.set = false) : fm (d + 1) r = false := by simp [fm, h]
theorem fm_0 {r : Rex} : fm 0 r = false := rfl
/-- impl.formed -/
theorem fits_formed (r : Rex) (d : Nat) (hd : d ≤ 8) (hb : bd r ≤ 1048576) : Fits prog 86 [eRex false r, .int .i64 d] (.bool (fm d r)) [] := by
  induction d generalizing r with
  | zero =>
    rw [eRex_eq]
    refine fits_of_code [4] [] [0, 1, 2, 4, 6, 34, 36, 37, 38, 39, 46] func86 rfl rfl rfl (by rfl) (by show 2 ≤ 48; decide) (by rfl) (by rfl) (by show 0 ≤ 2; decide) (by rfl) (run_of ?_)
    simp -implicitDefEqProofs (maxSteps := 100000) (disch := first | (intros; contradiction) | omega) only [am0, am1, am2, am3, am4, am5, am6, am7, am8, am9, Nat.reduceSub, ↓reduceIte, reduceCtorEq, Nat.reduceEqDiff, Nat.reduceBEq, Nat.reduceAdd, Nat.reduceLT, Nat.reduceBNe, Nat.reduceMul, ↓reduceIte, tis, fm_0]
    refine .inl ?_
    show _ = _
    kernel_rfl
  | succ d ih =>
    have hb' := bd_eq r
    have cK := fits_kidsOf r.kind
    have cS := fits_setOk r.set (by omega)
    rw [eRex_eq]
    refine fits_of_code [4] [] [0, 1, 2, 4, 6, 34, 36, 37, 38, 39, 46] func86 rfl rfl rfl (by rfl) (by show 2 ≤ 48; decide) (by rfl) (by rfl) (by show 0 ≤ 2; decide) (by rfl) (run_of ?_)
    simp -implicitDefEqProofs (maxSteps := 100000) (disch := first | (intros; contradiction) | omega) only [am0, am1, am2, am3, am4, am5, am6, am7, am8, am9, Nat.reduceSub, ↓reduceIte, reduceCtorEq, Nat.reduceEqDiff, Nat.reduceBEq, Nat.reduceAdd, Nat.reduceLT, Nat.reduceBNe, Nat.reduceMul, ↓reduceIte, tis]
    refine .inl ⟨by kernel_rfl, ?_⟩
    refine callL cK ?_
    by_cases h1 : kidsN r.kind = r.kids.length
    case neg => simp -implicitDefEqProofs (maxSteps := 100000) (disch := first | (intros; contradiction) | omega) only [am0, am1, am2, am3, am4, am5, am6, am7, am8, am9, Nat.reduceSub, ↓reduceIte, reduceCtorEq, Nat.reduceEqDiff, Nat.reduceBEq, Nat.reduceAdd, Nat.reduceLT, Nat.reduceBNe, Nat.reduceMul, ↓reduceIte, tis, fm_f1 h1]
    by_cases h2 : r.kind = 1 ∨ r.set.length = 0
    case neg =>
      have h2a : r.kind ≠ 1 := fun h => h2 (.inl h)
      have h2b : 0 < (r.set.length : Int) := by omega
      simp -implicitDefEqProofs (maxSteps := 100000) (disch := first | (intros; contradiction) | omega) only [am0, am1, am2, am3, am4, am5, am6, am7, am8, am9, Nat.reduceSub, ↓reduceIte, reduceCtorEq, Nat.reduceEqDiff, Nat.reduceBEq, Nat.reduceAdd, Nat.reduceLT, Nat.reduceBNe, Nat.reduceMul, ↓reduceIte, tis, fm_f2 h2]
    have h2c : r.kind = 1 ∨ (r.kind ≠ 1 ∧ (r.set.length : Int) = 0) := by omega
    cases h3 : setB r.set with
    | false =>
      rcases h2c with h2c | ⟨h2c, h2d⟩
      all_goals
        simp -implicitDefEqProofs (maxSteps := 100000) (disch := first | (intros; contradiction) | omega) only [am0, am1, am2, am3, am4, am5, am6, am7, am8, am9, Nat.reduceSub, ↓reduceIte, reduceCtorEq, Nat.reduceEqDiff, Nat.reduceBEq, Nat.reduceAdd, Nat.reduceLT, Nat.reduceBNe, Nat.reduceMul, ↓reduceIte, tis]
        refine callL cS ?_
        simp -implicitDefEqProofs (maxSteps := 100000) (disch := first | (intros; contradiction) | omega) only [am0, am1, am2, am3, am4, am5, am6, am7, am8, am9, Nat.reduceSub, ↓reduceIte, reduceCtorEq, Nat.reduceEqDiff, Nat.reduceBEq, Nat.reduceAdd, Nat.reduceLT, Nat.reduceBNe, Nat.reduceMul, ↓reduceIte, tis, h3, fm_f3 h3]
    | true =>
      rcases h2c with h2c | ⟨h2c, h2d⟩
      all_goals
        simp -implicitDefEqProofs (maxSteps := 100000) (disch := first | (intros; contradiction) | omega) only [am0, am1, am2, am3, am4, am5, am6, am7, am8, am9, Nat.reduceSub, ↓reduceIte, reduceCtorEq, Nat.reduceEqDiff, Nat.reduceBEq, Nat.reduceAdd, Nat.reduceLT, Nat.reduceBNe, Nat.reduceMul, ↓reduceIte, tis]
        refine callL cS ?_
        simp -implicitDefEqProofs (maxSteps := 100000) (disch := first | (intros; contradiction) | omega) only [am0, am1, am2, am3, am4, am5, am6, am7, am8, am9, Nat.reduceSub, ↓reduceIte, reduceCtorEq, Nat.reduceEqDiff, Nat.reduceBEq, Nat.reduceAdd, Nat.reduceLT, Nat.reduceBNe, Nat.reduceMul, ↓reduceIte, tis, h3]
        refine run_loop (α := Nat) (fun i => i ≤ r.kids.length ∧ ∀ j (hj : j < r.kids.length), j < i → fm d r.kids[j] = true) (fun i => [(1, .int .i64 ((d : Int) + 1)), (36, .sl false 3 (r.kids.map (eRex false))), (37, .int .i64 r.kids.length), (38, .int .i64 i)]) (fun i => r.kids.length - i) 0 ⟨Nat.zero_le _, by intros; omega⟩ ?_ ?_
        · simp -implicitDefEqProofs (maxSteps := 100000) (disch := first | (intros; contradiction) | omega) only [am0, am1, am2, am3, am4, am5, am6, am7, am8, am9, Nat.reduceSub, ↓reduceIte, reduceCtorEq, Nat.reduceEqDiff, Nat.reduceBEq, Nat.reduceAdd, Nat.reduceLT, Nat.reduceBNe, Nat.reduceMul, ↓reduceIte, tis]
        · rintro i ⟨hi', hb2⟩
          by_cases hi : i < r.kids.length
          · have e1 : ((d : Int) + 1 - 1) = d := by omega
            have cF := ih r.kids[i] (by omega) (Nat.le_trans (bd_kid (List.getElem_mem hi)) hb)
            simp -implicitDefEqProofs (maxSteps := 100000) (disch := first | (intros; contradiction) | omega) only [am0, am1, am2, am3, am4, am5, am6, am7, am8, am9, Nat.reduceSub, ↓reduceIte, reduceCtorEq, Nat.reduceEqDiff, Nat.reduceBEq, Nat.reduceAdd, Nat.reduceLT, Nat.reduceBNe, Nat.reduceMul, ↓reduceIte, tis, rx, eRex_eq]
            refine callB cF ?_
            cases h5 : fm d r.kids[i] with
            | false => simp -implicitDefEqProofs (maxSteps := 100000) (disch := first | (intros; contradiction) | omega) only [am0, am1, am2, am3, am4, am5, am6, am7, am8, am9, Nat.reduceSub, ↓reduceIte, reduceCtorEq, Nat.reduceEqDiff, Nat.reduceBEq, Nat.reduceAdd, Nat.reduceLT, Nat.reduceBNe, Nat.reduceMul, ↓reduceIte, tis, rx, eRex_eq, e1, fm_f hi h5]
            | true =>
              simp -implicitDefEqProofs (maxSteps := 100000) (disch := first | (intros; contradiction) | omega) only [am0, am1, am2, am3, am4, am5, am6, am7, am8, am9, Nat.reduceSub, ↓reduceIte, reduceCtorEq, Nat.reduceEqDiff, Nat.reduceBEq, Nat.reduceAdd, Nat.reduceLT, Nat.reduceBNe, Nat.reduceMul, ↓reduceIte, tis, rx, eRex_eq, e1]
              refine round_normal (i + 1) ⟨by omega, ?_⟩ ?_ (by show r.kids.length - (i + 1) < r.kids.length - i; omega)
              · intro j hj hj2
                by_cases hji : j < i
                · exact hb2 j hj hji
                · obtain rfl : j = i := by omega
                  exact h5
              · simp -implicitDefEqProofs (maxSteps := 100000) (disch := first | (intros; contradiction) | omega) only [am0, am1, am2, am3, am4, am5, am6, am7, am8, am9, Nat.reduceSub, ↓reduceIte, reduceCtorEq, Nat.reduceEqDiff, Nat.reduceBEq, Nat.reduceAdd, Nat.reduceLT, Nat.reduceBNe, Nat.reduceMul, ↓reduceIte, tis]
          · obtain rfl : i = r.kids.length := by omega
            simp -implicitDefEqProofs (maxSteps := 100000) (disch := first | (intros; contradiction) | omega) only [am0, am1, am2, am3, am4, am5, am6, am7, am8, am9, Nat.reduceSub, ↓reduceIte, reduceCtorEq, Nat.reduceEqDiff, Nat.reduceBEq, Nat.reduceAdd, Nat.reduceLT, Nat.reduceBNe, Nat.reduceMul, ↓reduceIte, tis, fm_t h1 h2 h3 (fun i hi => hb2 i hi hi)]
/-- spec.SetOk -/
theorem fits_sSetOk (s : List Span) (hp : s.length ≤ 1099511627776) : Fits prog 144 [.sl false 2 (s.map eSpan)] (.bool (setB s)) [] := by
  refine fits_of_code [2] [] [0, 2, 3, 7, 55] func144 rfl rfl rfl (by rfl) (by show 1 ≤ 56; decide) (by rfl) (by rfl) (by show 0 ≤ 1; decide) (by rfl) (run_of ?_)
  simp -implicitDefEqProofs (maxSteps := 100000) (disch := first | (intros; contradiction) | omega) only [am0, am1, am2, am3, am4, am5, am6, am7, am8, am9, Nat.reduceSub, ↓reduceIte, reduceCtorEq, Nat.reduceEqDiff, Nat.reduceBEq, Nat.reduceAdd, Nat.reduceLT, Nat.reduceBNe, Nat.reduceMul, ↓reduceIte, tis]
  refine run_loop (α := Nat) (fun i => i ≤ s.length ∧ ∀ j, j < i → setN s j = true) (fun i => [(0, .sl false 2 (s.map eSpan)), (3, .int .i64 i)]) (fun i => s.length - i) 0 ⟨Nat.zero_le _, by simp⟩ ?_ ?_
  · simp -implicitDefEqProofs (maxSteps := 100000) (disch := first | (intros; contradiction) | omega) only [am0, am1, am2, am3, am4, am5, am6, am7, am8, am9, Nat.reduceSub, ↓reduceIte, reduceCtorEq, Nat.reduceEqDiff, Nat.reduceBEq, Nat.reduceAdd, Nat.reduceLT, Nat.reduceBNe, Nat.reduceMul, ↓reduceIte, tis]
  · rintro i ⟨hi', hb⟩
    by_cases hi : i < s.length
    · have next : setN s i = true → ∀ j, j < i + 1 → setN s j = true := by
        intro h5 j hj
        by_cases hji : j < i
        · exact hb j hji
        · obtain rfl : j = i := by omega
          exact h5
      by_cases h0 : i = 0
      · have e := setN_0 hi h0
        by_cases h1 : 0 ≤ s[i].lo ∧ s[i].lo ≤ s[i].hi ∧ s[i].hi ≤ 255
        · rw [decide_eq_true h1] at e
          simp -implicitDefEqProofs (maxSteps := 100000) (disch := first | (intros; contradiction) | omega) only [am0, am1, am2, am3, am4, am5, am6, am7, am8, am9, Nat.reduceSub, ↓reduceIte, reduceCtorEq, Nat.reduceEqDiff, Nat.reduceBEq, Nat.reduceAdd, Nat.reduceLT, Nat.reduceBNe, Nat.reduceMul, ↓reduceIte, tis, eSpan, fls]
          refine .inl ⟨by kernel_rfl, ?_⟩
          exact round_normal (i + 1) ⟨by omega, next e⟩ (by simp -implicitDefEqProofs (maxSteps := 100000) (disch := first | (intros; contradiction) | omega) only [am0, am1, am2, am3, am4, am5, am6, am7, am8, am9, Nat.reduceSub, ↓reduceIte, reduceCtorEq, Nat.reduceEqDiff, Nat.reduceBEq, Nat.reduceAdd, Nat.reduceLT, Nat.reduceBNe, Nat.reduceMul, ↓reduceIte, tis]) (by show s.length - (i + 1) < s.length - i; omega)
        · rw [decide_eq_false h1] at e
          have e2 := setB_false hi e
          by_cases a1 : s[i].lo < 0
          · simp -implicitDefEqProofs (maxSteps := 100000) (disch := first | (intros; contradiction) | omega) only [am0, am1, am2, am3, am4, am5, am6, am7, am8, am9, Nat.reduceSub, ↓reduceIte, reduceCtorEq, Nat.reduceEqDiff, Nat.reduceBEq, Nat.reduceAdd, Nat.reduceLT, Nat.reduceBNe, Nat.reduceMul, ↓reduceIte, tis, eSpan, fls, e2]
            refine .inl ?_
            show _ = _
            kernel_rfl
          by_cases a2 : 255 < s[i].hi
          · simp -implicitDefEqProofs (maxSteps := 100000) (disch := first | (intros; contradiction) | omega) only [am0, am1, am2, am3, am4, am5, am6, am7, am8, am9, Nat.reduceSub, ↓reduceIte, reduceCtorEq, Nat.reduceEqDiff, Nat.reduceBEq, Nat.reduceAdd, Nat.reduceLT, Nat.reduceBNe, Nat.reduceMul, ↓reduceIte, tis, eSpan, fls, e2]
            refine .inl ?_
            show _ = _
            kernel_rfl
          have a3 : s[i].hi < s[i].lo := by omega
          simp -implicitDefEqProofs (maxSteps := 100000) (disch := first | (intros; contradiction) | omega) only [am0, am1, am2, am3, am4, am5, am6, am7, am8, am9, Nat.reduceSub, ↓reduceIte, reduceCtorEq, Nat.reduceEqDiff, Nat.reduceBEq, Nat.reduceAdd, Nat.reduceLT, Nat.reduceBNe, Nat.reduceMul, ↓reduceIte, tis, eSpan, fls, e2]
          refine .inl ?_
          show _ = _
          kernel_rfl
      · have e := setN_1 hi h0
        have hi1 : i - 1 < s.length := by omega
        have b := setN_b hi1 (hb (i - 1) (by omega))
        have ei : ((i : Int) - 1).toNat = i - 1 := by omega
        by_cases h1 : 0 ≤ s[i].lo ∧ s[i].lo ≤ s[i].hi ∧ s[i].hi ≤ 255
        · by_cases h2 : s[i - 1].hi + 1 < s[i].lo
          · rw [decide_eq_true h1, decide_eq_true h2] at e
            simp -implicitDefEqProofs (maxSteps := 100000) (disch := first | (intros; contradiction) | omega) only [am0, am1, am2, am3, am4, am5, am6, am7, am8, am9, Nat.reduceSub, ↓reduceIte, reduceCtorEq, Nat.reduceEqDiff, Nat.reduceBEq, Nat.reduceAdd, Nat.reduceLT, Nat.reduceBNe, Nat.reduceMul, ↓reduceIte, tis, eSpan, fls, ei]
            refine .inl ⟨by kernel_rfl, ?_⟩
            exact round_normal (i + 1) ⟨by omega, next e⟩ (by simp -implicitDefEqProofs (maxSteps := 100000) (disch := first | (intros; contradiction) | omega) only [am0, am1, am2, am3, am4, am5, am6, am7, am8, am9, Nat.reduceSub, ↓reduceIte, reduceCtorEq, Nat.reduceEqDiff, Nat.reduceBEq, Nat.reduceAdd, Nat.reduceLT, Nat.reduceBNe, Nat.reduceMul, ↓reduceIte, tis]) (by show s.length - (i + 1) < s.length - i; omega)
          · rw [decide_eq_true h1, decide_eq_false h2] at e
            have e2 := setB_false hi e
            simp -implicitDefEqProofs (maxSteps := 100000) (disch := first | (intros; contradiction) | omega) only [am0, am1, am2, am3, am4, am5, am6, am7, am8, am9, Nat.reduceSub, ↓reduceIte, reduceCtorEq, Nat.reduceEqDiff, Nat.reduceBEq, Nat.reduceAdd, Nat.reduceLT, Nat.reduceBNe, Nat.reduceMul, ↓reduceIte, tis, eSpan, fls, e2, ei]
            refine .inl ?_
            show _ = _
            kernel_rfl
        · rw [decide_eq_false h1] at e
          have e2 := setB_false hi e
          by_cases a1 : s[i].lo < 0
          · simp -implicitDefEqProofs (maxSteps := 100000) (disch := first | (intros; contradiction) | omega) only [am0, am1, am2, am3, am4, am5, am6, am7, am8, am9, Nat.reduceSub, ↓reduceIte, reduceCtorEq, Nat.reduceEqDiff, Nat.reduceBEq, Nat.reduceAdd, Nat.reduceLT, Nat.reduceBNe, Nat.reduceMul, ↓reduceIte, tis, eSpan, fls, e2, ei]
            refine .inl ?_
            show _ = _
            kernel_rfl
          by_cases a2 : 255 < s[i].hi
          · simp -implicitDefEqProofs (maxSteps := 100000) (disch := first | (intros; contradiction) | omega) only [am0, am1, am2, am3, am4, am5, am6, am7, am8, am9, Nat.reduceSub, ↓reduceIte, reduceCtorEq, Nat.reduceEqDiff, Nat.reduceBEq, Nat.reduceAdd, Nat.reduceLT, Nat.reduceBNe, Nat.reduceMul, ↓reduceIte, tis, eSpan, fls, e2, ei]
            refine .inl ?_
            show _ = _
            kernel_rfl
          have a3 : s[i].hi < s[i].lo := by omega
          simp -implicitDefEqProofs (maxSteps := 100000) (disch := first | (intros; contradiction) | omega) only [am0, am1, am2, am3, am4, am5, am6, am7, am8, am9, Nat.reduceSub, ↓reduceIte, reduceCtorEq, Nat.reduceEqDiff, Nat.reduceBEq, Nat.reduceAdd, Nat.reduceLT, Nat.reduceBNe, Nat.reduceMul, ↓reduceIte, tis, eSpan, fls, e2, ei]
          refine .inl ?_
          show _ = _
          kernel_rfl
    · obtain rfl : i = s.length := by omega
      simp -implicitDefEqProofs (maxSteps := 100000) (disch := first | (intros; contradiction) | omega) only [am0, am1, am2, am3, am4, am5, am6, am7, am8, am9, Nat.reduceSub, ↓reduceIte, reduceCtorEq, Nat.reduceEqDiff, Nat.reduceBEq, Nat.reduceAdd, Nat.reduceLT, Nat.reduceBNe, Nat.reduceMul, ↓reduceIte, tis, setB_true hb]
/-- spec.l2Form -/
theorem fits_sForm (r : Rex) (d : Nat) (hd : d ≤ 8) (hb : bd r ≤ 1048576) : Fits prog 84 [eRex false r, .int .i64 d] (.bool (fm d r)) [] := by
  induction d generalizing r with
  | zero =>
    rw [eRex_eq]
    refine fits_of_code [4] [] [0, 1, 2, 4, 5, 33, 38, 49] func84 rfl rfl rfl (by rfl) (by show 2 ≤ 50; decide) (by rfl) (by rfl) (by show 0 ≤ 2; decide) (by rfl) (run_of ?_)
    simp -implicitDefEqProofs (maxSteps := 100000) (disch := first | (intros; contradiction) | omega) only [am0, am1, am2, am3, am4, am5, am6, am7, am8, am9, Nat.reduceSub, ↓reduceIte, reduceCtorEq, Nat.reduceEqDiff, Nat.reduceBEq, Nat.reduceAdd, Nat.reduceLT, Nat.reduceBNe, Nat.reduceMul, ↓reduceIte, tis, fm_0]
    refine .inl ?_
    show _ = _
    kernel_rfl
  | succ d ih =>
    have hb' := bd_eq r
    have cK := fits_sKids r.kind
    have cS := fits_sSetOk r.set (by omega)
    rw [eRex_eq]
    refine fits_of_code [4] [] [0, 1, 2, 4, 5, 33, 38, 49] func84 rfl rfl rfl (by rfl) (by show 2 ≤ 50; decide) (by rfl) (by rfl) (by show 0 ≤ 2; decide) (by rfl) (run_of ?_)
    simp -implicitDefEqProofs (maxSteps := 100000) (disch := first | (intros; contradiction) | omega) only [am0, am1, am2, am3, am4, am5, am6, am7, am8, am9, Nat.reduceSub, ↓reduceIte, reduceCtorEq, Nat.reduceEqDiff, Nat.reduceBEq, Nat.reduceAdd, Nat.reduceLT, Nat.reduceBNe, Nat.reduceMul, ↓reduceIte, tis]
    refine .inl ⟨by kernel_rfl, ?_⟩
    refine callL cK ?_
    by_cases h1 : kidsN r.kind = r.kids.length
    case neg => simp -implicitDefEqProofs (maxSteps := 100000) (disch := first | (intros; contradiction) | omega) only [am0, am1, am2, am3, am4, am5, am6, am7, am8, am9, Nat.reduceSub, ↓reduceIte, reduceCtorEq, Nat.reduceEqDiff, Nat.reduceBEq, Nat.reduceAdd, Nat.reduceLT, Nat.reduceBNe, Nat.reduceMul, ↓reduceIte, tis, fm_f1 h1]
    by_cases h2 : r.kind = 1 ∨ r.set.length = 0
    case neg =>
      have h2a : r.kind ≠ 1 := fun h => h2 (.inl h)
      have h2b : 0 < (r.set.length : Int) := by omega
      simp -implicitDefEqProofs (maxSteps := 100000) (disch := first | (intros; contradiction) | omega) only [am0, am1, am2, am3, am4, am5, am6, am7, am8, am9, Nat.reduceSub, ↓reduceIte, reduceCtorEq, Nat.reduceEqDiff, Nat.reduceBEq, Nat.reduceAdd, Nat.reduceLT, Nat.reduceBNe, Nat.reduceMul, ↓reduceIte, tis, fm_f2 h2]
    have h2c : r.kind = 1 ∨ (r.kind ≠ 1 ∧ (r.set.length : Int) = 0) := by omega
    cases h3 : setB r.set with
    | false =>
      rcases h2c with h2c | ⟨h2c, h2d⟩
      all_goals
        simp -implicitDefEqProofs (maxSteps := 100000) (disch := first | (intros; contradiction) | omega) only [am0, am1, am2, am3, am4, am5, am6, am7, am8, am9, Nat.reduceSub, ↓reduceIte, reduceCtorEq, Nat.reduceEqDiff, Nat.reduceBEq, Nat.reduceAdd, Nat.reduceLT, Nat.reduceBNe, Nat.reduceMul, ↓reduceIte, tis]
        refine callL cS ?_
        simp -implicitDefEqProofs (maxSteps := 100000) (disch := first | (intros; contradiction) | omega) only [am0, am1, am2, am3, am4, am5, am6, am7, am8, am9, Nat.reduceSub, ↓reduceIte, reduceCtorEq, Nat.reduceEqDiff, Nat.reduceBEq, Nat.reduceAdd, Nat.reduceLT, Nat.reduceBNe, Nat.reduceMul, ↓reduceIte, tis, h3, fm_f3 h3]
    | true =>
      rcases h2c with h2c | ⟨h2c, h2d⟩
      all_goals
        simp -implicitDefEqProofs (maxSteps := 100000) (disch := first | (intros; contradiction) | omega) only [am0, am1, am2, am3, am4, am5, am6, am7, am8, am9, Nat.reduceSub, ↓reduceIte, reduceCtorEq, Nat.reduceEqDiff, Nat.reduceBEq, Nat.reduceAdd, Nat.reduceLT, Nat.reduceBNe, Nat.reduceMul, ↓reduceIte, tis]
        refine callL cS ?_
        simp -implicitDefEqProofs (maxSteps := 100000) (disch := first | (intros; contradiction) | omega) only [am0, am1, am2, am3, am4, am5, am6, am7, am8, am9, Nat.reduceSub, ↓reduceIte, reduceCtorEq, Nat.reduceEqDiff, Nat.reduceBEq, Nat.reduceAdd, Nat.reduceLT, Nat.reduceBNe, Nat.reduceMul, ↓reduceIte, tis, h3]
        refine run_loop (α := Nat) (fun i => i ≤ r.kids.length ∧ ∀ j (hj : j < r.kids.length), j < i → fm d r.kids[j] = true) (fun i => [(1, .int .i64 ((d : Int) + 1)), (2, .box (.agg [.int .i64 r.kind, .sl false 2 (r.set.map eSpan), .sl false 3 (r.kids.map (eRex false))])), (5, .int .i64 i)]) (fun i => r.kids.length - i) 0 ⟨Nat.zero_le _, by intros; omega⟩ ?_ ?_
        · simp -implicitDefEqProofs (maxSteps := 100000) (disch := first | (intros; contradiction) | omega) only [am0, am1, am2, am3, am4, am5, am6, am7, am8, am9, Nat.reduceSub, ↓reduceIte, reduceCtorEq, Nat.reduceEqDiff, Nat.reduceBEq, Nat.reduceAdd, Nat.reduceLT, Nat.reduceBNe, Nat.reduceMul, ↓reduceIte, tis]
        · rintro i ⟨hi', hb2⟩
          by_cases hi : i < r.kids.length
          · have e1 : ((d : Int) + 1 - 1) = d := by omega
            have cF := ih r.kids[i] (by omega) (Nat.le_trans (bd_kid (List.getElem_mem hi)) hb)
            simp -implicitDefEqProofs (maxSteps := 100000) (disch := first | (intros; contradiction) | omega) only [am0, am1, am2, am3, am4, am5, am6, am7, am8, am9, Nat.reduceSub, ↓reduceIte, reduceCtorEq, Nat.reduceEqDiff, Nat.reduceBEq, Nat.reduceAdd, Nat.reduceLT, Nat.reduceBNe, Nat.reduceMul, ↓reduceIte, tis, rx, eRex_eq]
            refine callB cF ?_
            cases h5 : fm d r.kids[i] with
            | false => simp -implicitDefEqProofs (maxSteps := 100000) (disch := first | (intros; contradiction) | omega) only [am0, am1, am2, am3, am4, am5, am6, am7, am8, am9, Nat.reduceSub, ↓reduceIte, reduceCtorEq, Nat.reduceEqDiff, Nat.reduceBEq, Nat.reduceAdd, Nat.reduceLT, Nat.reduceBNe, Nat.reduceMul, ↓reduceIte, tis, rx, eRex_eq, e1, fm_f hi h5]
            | true =>
              simp -implicitDefEqProofs (maxSteps := 100000) (disch := first | (intros; contradiction) | omega) only [am0, am1, am2, am3, am4, am5, am6, am7, am8, am9, Nat.reduceSub, ↓reduceIte, reduceCtorEq, Nat.reduceEqDiff, Nat.reduceBEq, Nat.reduceAdd, Nat.reduceLT, Nat.reduceBNe, Nat.reduceMul, ↓reduceIte, tis, rx, eRex_eq, e1]
              refine round_normal (i + 1) ⟨by omega, ?_⟩ ?_ (by show r.kids.length - (i + 1) < r.kids.length - i; omega)
              · intro j hj hj2
                by_cases hji : j < i
                · exact hb2 j hj hji
                · obtain rfl : j = i := by omega
                  exact h5
              · simp -implicitDefEqProofs (maxSteps := 100000) (disch := first | (intros; contradiction) | omega) only [am0, am1, am2, am3, am4, am5, am6, am7, am8, am9, Nat.reduceSub, ↓reduceIte, reduceCtorEq, Nat.reduceEqDiff, Nat.reduceBEq, Nat.reduceAdd, Nat.reduceLT, Nat.reduceBNe, Nat.reduceMul, ↓reduceIte, tis]
          · obtain rfl : i = r.kids.length := by omega
            simp -implicitDefEqProofs (maxSteps := 100000) (disch := first | (intros; contradiction) | omega) only [am0, am1, am2, am3, am4, am5, am6, am7, am8, am9, Nat.reduceSub, ↓reduceIte, reduceCtorEq, Nat.reduceEqDiff, Nat.reduceBEq, Nat.reduceAdd, Nat.reduceLT, Nat.reduceBNe, Nat.reduceMul, ↓reduceIte, tis, fm_t h1 h2 h3 (fun i hi => hb2 i hi hi)]
theorem build_getR (p : List Rex) (i : Nat) (h : i < p.length) : ((p.take i).map (eRex true) ++ List.replicate (p.length - i) (.agg [.int .i64 0, .sl true 0 [], .sl true 0 []]))[i]? = some (.agg [.int .i64 0, .sl true 0 [], .sl true 0 []]) := build_get (eRex true) _ p i h
/-- laws.toRexS, of toRex -/
theorem fits_toRexS_of (p : List Rex) (hp : p.length ≤ 1048576) (H : ∀ x ∈ p, Fits prog 28 [eRex false x] (eRex true x) []) : Fits prog 92 [.sl false 3 (p.map (eRex false))] (.sl true 3 (p.map (eRex true))) [] := by
  refine fits_of_code [2] [] [0, 2, 3, 4, 11] func92 rfl rfl rfl (by rfl) (by show 1 ≤ 23; decide) (by rfl) (by rfl) (by show 0 ≤ 1; decide) (by rfl) (run_of ?_)
  simp -implicitDefEqProofs (maxSteps := 100000) (disch := first | (intros; contradiction) | omega) only [am0, am1, am2, am3, am4, am5, am6, am7, am8, am9, Nat.reduceSub, ↓reduceIte, reduceCtorEq, Nat.reduceEqDiff, Nat.reduceBEq, Nat.reduceAdd, Nat.reduceLT, Nat.reduceBNe, Nat.reduceMul, ↓reduceIte, tis]
  refine run_loop (α := Nat) (fun i => i ≤ p.length) (fun i => [(0, .sl false 3 (p.map (eRex false))), (3, .sl true 3 ((p.take i).map (eRex true) ++ List.replicate (p.length - i) (.agg [.int .i64 0, .sl true 0 [], .sl true 0 []]))), (4, .int .i64 i)]) (fun i => p.length - i) 0 (Nat.zero_le _) ?_ ?_
  · simp -implicitDefEqProofs (maxSteps := 100000) (disch := first | (intros; contradiction) | omega) only [am0, am1, am2, am3, am4, am5, am6, am7, am8, am9, Nat.reduceSub, ↓reduceIte, reduceCtorEq, Nat.reduceEqDiff, Nat.reduceBEq, Nat.reduceAdd, Nat.reduceLT, Nat.reduceBNe, Nat.reduceMul, ↓reduceIte, tis]
  · intro i hi'
    by_cases hi : i < p.length
    · have g2 := build_getR p i hi
      have g3 := build_set (eRex true) (.agg [.int .i64 0, .sl true 0 [], .sl true 0 []]) p i hi
      have g4 := build_len (eRex true) (.agg [.int .i64 0, .sl true 0 [], .sl true 0 []]) p i hi'
      simp -implicitDefEqProofs (maxSteps := 100000) (disch := first | (intros; contradiction) | omega) only [am0, am1, am2, am3, am4, am5, am6, am7, am8, am9, Nat.reduceSub, ↓reduceIte, reduceCtorEq, Nat.reduceEqDiff, Nat.reduceBEq, Nat.reduceAdd, Nat.reduceLT, Nat.reduceBNe, Nat.reduceMul, ↓reduceIte, tis, rx, eRex_eq]
      refine callB (H p[i] (List.getElem_mem hi)) ?_
      rw [eRex_eq true] at g3
      simp -implicitDefEqProofs (maxSteps := 100000) (disch := first | (intros; contradiction) | omega) only [am0, am1, am2, am3, am4, am5, am6, am7, am8, am9, Nat.reduceSub, ↓reduceIte, reduceCtorEq, Nat.reduceEqDiff, Nat.reduceBEq, Nat.reduceAdd, Nat.reduceLT, Nat.reduceBNe, Nat.reduceMul, ↓reduceIte, tis, rx, eRex_eq, fls, g2, g3, g4]
      refine round_normal (i + 1) (by omega) ?_ (by show p.length - (i + 1) < p.length - i; omega)
      simp -implicitDefEqProofs (maxSteps := 100000) (disch := first | (intros; contradiction) | omega) only [am0, am1, am2, am3, am4, am5, am6, am7, am8, am9, Nat.reduceSub, ↓reduceIte, reduceCtorEq, Nat.reduceEqDiff, Nat.reduceBEq, Nat.reduceAdd, Nat.reduceLT, Nat.reduceBNe, Nat.reduceMul, ↓reduceIte, tis]
    · obtain rfl : i = p.length := by omega
      simp -implicitDefEqProofs (maxSteps := 100000) (disch := first | (intros; contradiction) | omega) only [am0, am1, am2, am3, am4, am5, am6, am7, am8, am9, Nat.reduceSub, ↓reduceIte, reduceCtorEq, Nat.reduceEqDiff, Nat.reduceBEq, Nat.reduceAdd, Nat.reduceLT, Nat.reduceBNe, Nat.reduceMul, ↓reduceIte, tis]
/-- laws.toRex -/
theorem fits_toRex (r : Rex) (hb : bd r ≤ 1048576) : Fits prog 28 [eRex false r] (eRex true r) [] := by
  induction r using Rex.ind' with
  | h r ih =>
    have hb' := bd_eq r
    have HS := fits_toRexS_of r.kids (by omega) (fun x hx => ih x hx (Nat.le_trans (bd_kid hx) hb))
    have HT := fits_toSpanS r.set (by omega)
    rw [eRex_eq, eRex_eq]
    refine fits_of_cell 2 26 [] [0, 1, 2, 3] func28 rfl rfl rfl (by show 2 < 16; decide) (by show 1 ≤ 16; decide) (by rfl) (by rfl) (by show 0 ≤ 1; decide) (by rfl) (run_of ?_)
    simp -implicitDefEqProofs (maxSteps := 100000) (disch := first | (intros; contradiction) | omega) only [am0, am1, am2, am3, am4, am5, am6, am7, am8, am9, Nat.reduceSub, ↓reduceIte, reduceCtorEq, Nat.reduceEqDiff, Nat.reduceBEq, Nat.reduceAdd, Nat.reduceLT, Nat.reduceBNe, Nat.reduceMul, ↓reduceIte, tis]
    refine callB HT ?_
    simp -implicitDefEqProofs (maxSteps := 100000) (disch := first | (intros; contradiction) | omega) only [am0, am1, am2, am3, am4, am5, am6, am7, am8, am9, Nat.reduceSub, ↓reduceIte, reduceCtorEq, Nat.reduceEqDiff, Nat.reduceBEq, Nat.reduceAdd, Nat.reduceLT, Nat.reduceBNe, Nat.reduceMul, ↓reduceIte, tis, fls, rx]
    refine callB HS ?_
    simp -implicitDefEqProofs (maxSteps := 100000) (disch := first | (intros; contradiction) | omega) only [am0, am1, am2, am3, am4, am5, am6, am7, am8, am9, Nat.reduceSub, ↓reduceIte, reduceCtorEq, Nat.reduceEqDiff, Nat.reduceBEq, Nat.reduceAdd, Nat.reduceLT, Nat.reduceBNe, Nat.reduceMul, ↓reduceIte, tis, fls, rx]
theorem take_sum {l : List Nat} {i : Nat} (h : i < l.length) : (l.take (i + 1)).sum = (l.take i).sum + l[i] := by
  rw [List.take_succ_eq_append_getElem h, List.sum_append, List.sum_cons, List.sum_nil]; rfl
theorem take_sum_le (l : List Nat) (i : Nat) : (l.take i).sum ≤ l.sum := by
  have := congrArg List.sum (List.take_append_drop i l)
  rw [List.sum_append] at this
  omega
/-- laws.szRexS, of szRex -/
theorem fits_szRexS_of (p : List Rex) (n : Int) (hp : p.length ≤ 9223372036854775807) (hn : n ≤ 1048576) (hn0 : 0 ≤ n)
    (H : ∀ x ∈ p, ∀ m : Int, m ≤ 1048576 → 0 ≤ m → Fits prog 27 [eRex false x, .int .i64 m] (.int .i64 (if m - bd x < 0 then -1 else m - bd x)) []) :
    Fits prog 90 [.sl false 3 (p.map (eRex false)), .int .i64 n] (.int .i64 (if n - p.length - (p.map bd).sum < 0 then -1 else n - p.length - (p.map bd).sum)) [] := by
  refine fits_of_code [4] [] [0, 1, 4, 5, 11, 15, 25] func90 rfl rfl rfl (by rfl) (by show 2 ≤ 27; decide) (by rfl) (by rfl) (by show 0 ≤ 2; decide) (by rfl) (run_of ?_)
  by_cases hl : n - p.length < 0
  · have h2 : n - p.length - (p.map bd).sum < 0 := by omega
    simp -implicitDefEqProofs (maxSteps := 100000) (disch := first | (intros; contradiction) | omega) only [am0, am1, am2, am3, am4, am5, am6, am7, am8, am9, Nat.reduceSub, ↓reduceIte, reduceCtorEq, Nat.reduceEqDiff, Nat.reduceBEq, Nat.reduceAdd, Nat.reduceLT, Nat.reduceBNe, Nat.reduceMul, ↓reduceIte, tis, h2, if_true]
  simp -implicitDefEqProofs (maxSteps := 100000) (disch := first | (intros; contradiction) | omega) only [am0, am1, am2, am3, am4, am5, am6, am7, am8, am9, Nat.reduceSub, ↓reduceIte, reduceCtorEq, Nat.reduceEqDiff, Nat.reduceBEq, Nat.reduceAdd, Nat.reduceLT, Nat.reduceBNe, Nat.reduceMul, ↓reduceIte, tis]
  refine run_loop (α := Nat) (fun i => i ≤ p.length ∧ 0 ≤ n - p.length - ((p.map bd).take i).sum) (fun i => [(0, .sl false 3 (p.map (eRex false))), (1, .int .i64 (n - p.length - ((p.map bd).take i).sum)), (5, .int .i64 i)]) (fun i => p.length - i) 0 ⟨Nat.zero_le _, by simp; omega⟩ ?_ ?_
  · simp -implicitDefEqProofs (maxSteps := 100000) (disch := first | (intros; contradiction) | omega) only [am0, am1, am2, am3, am4, am5, am6, am7, am8, am9, Nat.reduceSub, ↓reduceIte, reduceCtorEq, Nat.reduceEqDiff, Nat.reduceBEq, Nat.reduceAdd, Nat.reduceLT, Nat.reduceBNe, Nat.reduceMul, ↓reduceIte, tis, List.sum_nil]
  · rintro i ⟨hi', hs⟩
    by_cases hi : i < p.length
    · have e := take_sum (l := p.map bd) (i := i) (by simpa using hi)
      rw [List.getElem_map] at e
      simp -implicitDefEqProofs (maxSteps := 100000) (disch := first | (intros; contradiction) | omega) only [am0, am1, am2, am3, am4, am5, am6, am7, am8, am9, Nat.reduceSub, ↓reduceIte, reduceCtorEq, Nat.reduceEqDiff, Nat.reduceBEq, Nat.reduceAdd, Nat.reduceLT, Nat.reduceBNe, Nat.reduceMul, ↓reduceIte, tis, rx, eRex_eq]
      refine callB (H p[i] (List.getElem_mem hi) (n - p.length - ((p.map bd).take i).sum) (by omega) hs) ?_
      by_cases h3 : n - p.length - ((p.map bd).take i).sum - bd p[i] < 0
      · have h4 := take_sum_le (p.map bd) (i + 1)
        have h5 : n - p.length - (p.map bd).sum < 0 := by omega
        simp -implicitDefEqProofs (maxSteps := 100000) (disch := first | (intros; contradiction) | omega) only [am0, am1, am2, am3, am4, am5, am6, am7, am8, am9, Nat.reduceSub, ↓reduceIte, reduceCtorEq, Nat.reduceEqDiff, Nat.reduceBEq, Nat.reduceAdd, Nat.reduceLT, Nat.reduceBNe, Nat.reduceMul, ↓reduceIte, tis, rx, eRex_eq, h3, h5]
      · simp -implicitDefEqProofs (maxSteps := 100000) (disch := first | (intros; contradiction) | omega) only [am0, am1, am2, am3, am4, am5, am6, am7, am8, am9, Nat.reduceSub, ↓reduceIte, reduceCtorEq, Nat.reduceEqDiff, Nat.reduceBEq, Nat.reduceAdd, Nat.reduceLT, Nat.reduceBNe, Nat.reduceMul, ↓reduceIte, tis, rx, eRex_eq, h3]
        refine round_normal (i + 1) ⟨by omega, by rw [e]; omega⟩ ?_ (by show p.length - (i + 1) < p.length - i; omega)
        simp -implicitDefEqProofs (maxSteps := 100000) (disch := first | (intros; contradiction) | omega) only [am0, am1, am2, am3, am4, am5, am6, am7, am8, am9, Nat.reduceSub, ↓reduceIte, reduceCtorEq, Nat.reduceEqDiff, Nat.reduceBEq, Nat.reduceAdd, Nat.reduceLT, Nat.reduceBNe, Nat.reduceMul, ↓reduceIte, tis, e]
        omega
    · obtain rfl : i = p.length := by omega
      have e : (p.map bd).take p.length = p.map bd := List.take_of_length_le (by simp)
      rw [e] at hs
      have h5 : ¬ n - p.length - (p.map bd).sum < 0 := by omega
      simp -implicitDefEqProofs (maxSteps := 100000) (disch := first | (intros; contradiction) | omega) only [am0, am1, am2, am3, am4, am5, am6, am7, am8, am9, Nat.reduceSub, ↓reduceIte, reduceCtorEq, Nat.reduceEqDiff, Nat.reduceBEq, Nat.reduceAdd, Nat.reduceLT, Nat.reduceBNe, Nat.reduceMul, ↓reduceIte, tis, e, h5]
/-- laws.szRex -/
theorem fits_szRex (r : Rex) (n : Int) (hl : Lens r) (hn : n ≤ 1048576) (hn0 : 0 ≤ n) : Fits prog 27 [eRex false r, .int .i64 n] (.int .i64 (if n - bd r < 0 then -1 else n - bd r)) [] := by
  induction hl generalizing n with
  | mk r h1 h2 h3 ih =>
    have hb' := bd_eq r
    have HT := fits_szSpanS r.set n h1 hn hn0
    rw [eRex_eq]
    refine fits_of_code [4] [] [0, 1, 2, 4, 10, 16] func27 rfl rfl rfl (by rfl) (by show 2 ≤ 18; decide) (by rfl) (by rfl) (by show 0 ≤ 2; decide) (by rfl) (run_of ?_)
    simp -implicitDefEqProofs (maxSteps := 100000) (disch := first | (intros; contradiction) | omega) only [am0, am1, am2, am3, am4, am5, am6, am7, am8, am9, Nat.reduceSub, ↓reduceIte, reduceCtorEq, Nat.reduceEqDiff, Nat.reduceBEq, Nat.reduceAdd, Nat.reduceLT, Nat.reduceBNe, Nat.reduceMul, ↓reduceIte, tis]
    refine callB HT ?_
    by_cases g1 : n - r.set.length < 0
    · have g2 : n - bd r < 0 := by omega
      simp -implicitDefEqProofs (maxSteps := 100000) (disch := first | (intros; contradiction) | omega) only [am0, am1, am2, am3, am4, am5, am6, am7, am8, am9, Nat.reduceSub, ↓reduceIte, reduceCtorEq, Nat.reduceEqDiff, Nat.reduceBEq, Nat.reduceAdd, Nat.reduceLT, Nat.reduceBNe, Nat.reduceMul, ↓reduceIte, tis, g1, g2]
    have HS := fits_szRexS_of r.kids (n - r.set.length) h2 (by omega) (by omega) (fun x hx m => ih x hx m)
    simp -implicitDefEqProofs (maxSteps := 100000) (disch := first | (intros; contradiction) | omega) only [am0, am1, am2, am3, am4, am5, am6, am7, am8, am9, Nat.reduceSub, ↓reduceIte, reduceCtorEq, Nat.reduceEqDiff, Nat.reduceBEq, Nat.reduceAdd, Nat.reduceLT, Nat.reduceBNe, Nat.reduceMul, ↓reduceIte, tis, g1]
    refine callB HS ?_
    by_cases g3 : n - r.set.length - r.kids.length - (r.kids.map bd).sum < 0
    · have g2 : n - bd r < 0 := by omega
      simp -implicitDefEqProofs (maxSteps := 100000) (disch := first | (intros; contradiction) | omega) only [am0, am1, am2, am3, am4, am5, am6, am7, am8, am9, Nat.reduceSub, ↓reduceIte, reduceCtorEq, Nat.reduceEqDiff, Nat.reduceBEq, Nat.reduceAdd, Nat.reduceLT, Nat.reduceBNe, Nat.reduceMul, ↓reduceIte, tis, g3, g2]
    · have g2 : ¬ n - bd r < 0 := by omega
      simp -implicitDefEqProofs (maxSteps := 100000) (disch := first | (intros; contradiction) | omega) only [am0, am1, am2, am3, am4, am5, am6, am7, am8, am9, Nat.reduceSub, ↓reduceIte, reduceCtorEq, Nat.reduceEqDiff, Nat.reduceBEq, Nat.reduceAdd, Nat.reduceLT, Nat.reduceBNe, Nat.reduceMul, ↓reduceIte, tis, g3, g2]
      omega
/-- impl.manyParts -/
theorem fits_manyParts (r : Rex) (hb : bd r ≤ 1048576) (h2 : ps r ≤ 1048576) : Fits prog 87 [eRex false r] (.int .i64 (ps r)) [] := by
  induction r using Rex.ind' with
  | h r ih =>
    have hb' := bd_eq r
    have hp := ps_eq r
    rw [eRex_eq]
    refine fits_of_code [2] [] [0, 1, 2, 3, 5, 7, 8, 9, 10] func87 rfl rfl rfl (by rfl) (by show 1 ≤ 19; decide) (by rfl) (by rfl) (by show 0 ≤ 1; decide) (by rfl) (run_of ?_)
    simp -implicitDefEqProofs (maxSteps := 100000) (disch := first | (intros; contradiction) | omega) only [am0, am1, am2, am3, am4, am5, am6, am7, am8, am9, Nat.reduceSub, ↓reduceIte, reduceCtorEq, Nat.reduceEqDiff, Nat.reduceBEq, Nat.reduceAdd, Nat.reduceLT, Nat.reduceBNe, Nat.reduceMul, ↓reduceIte, tis]
    refine run_loop (α := Nat) (fun i => i ≤ r.kids.length) (fun i => [(3, .int .i64 ((1 + ((r.kids.map ps).take i).sum : Nat) : Int)), (7, .sl false 3 (r.kids.map (eRex false))), (8, .int .i64 r.kids.length), (9, .int .i64 i)]) (fun i => r.kids.length - i) 0 (Nat.zero_le _) ?_ ?_
    · simp -implicitDefEqProofs (maxSteps := 100000) (disch := first | (intros; contradiction) | omega) only [am0, am1, am2, am3, am4, am5, am6, am7, am8, am9, Nat.reduceSub, ↓reduceIte, reduceCtorEq, Nat.reduceEqDiff, Nat.reduceBEq, Nat.reduceAdd, Nat.reduceLT, Nat.reduceBNe, Nat.reduceMul, ↓reduceIte, tis, List.sum_nil]
    · intro i hi'
      by_cases hi : i < r.kids.length
      · have e := take_sum (l := r.kids.map ps) (i := i) (by simpa using hi)
        have e' := take_sum_le (r.kids.map ps) (i + 1)
        rw [List.getElem_map] at e
        have hm := List.getElem_mem hi
        have hk : ps r.kids[i] ≤ (r.kids.map ps).sum := le_sum (List.mem_map_of_mem hm)
        have cF := ih r.kids[i] hm (Nat.le_trans (bd_kid hm) hb) (by omega)
        simp -implicitDefEqProofs (maxSteps := 100000) (disch := first | (intros; contradiction) | omega) only [am0, am1, am2, am3, am4, am5, am6, am7, am8, am9, Nat.reduceSub, ↓reduceIte, reduceCtorEq, Nat.reduceEqDiff, Nat.reduceBEq, Nat.reduceAdd, Nat.reduceLT, Nat.reduceBNe, Nat.reduceMul, ↓reduceIte, tis, rx, eRex_eq]
        refine callB cF ?_
        simp -implicitDefEqProofs (maxSteps := 100000) (disch := first | (intros; contradiction) | omega) only [am0, am1, am2, am3, am4, am5, am6, am7, am8, am9, Nat.reduceSub, ↓reduceIte, reduceCtorEq, Nat.reduceEqDiff, Nat.reduceBEq, Nat.reduceAdd, Nat.reduceLT, Nat.reduceBNe, Nat.reduceMul, ↓reduceIte, tis, rx, eRex_eq]
        refine round_normal (i + 1) (by omega) ?_ (by show r.kids.length - (i + 1) < r.kids.length - i; omega)
        simp -implicitDefEqProofs (maxSteps := 100000) (disch := first | (intros; contradiction) | omega) only [am0, am1, am2, am3, am4, am5, am6, am7, am8, am9, Nat.reduceSub, ↓reduceIte, reduceCtorEq, Nat.reduceEqDiff, Nat.reduceBEq, Nat.reduceAdd, Nat.reduceLT, Nat.reduceBNe, Nat.reduceMul, ↓reduceIte, tis, e]
        omega
      · obtain rfl : i = r.kids.length := by omega
        have e : (r.kids.map ps).take r.kids.length = r.kids.map ps := List.take_of_length_le (by simp)
        simp -implicitDefEqProofs (maxSteps := 100000) (disch := first | (intros; contradiction) | omega) only [am0, am1, am2, am3, am4, am5, am6, am7, am8, am9, Nat.reduceSub, ↓reduceIte, reduceCtorEq, Nat.reduceEqDiff, Nat.reduceBEq, Nat.reduceAdd, Nat.reduceLT, Nat.reduceBNe, Nat.reduceMul, ↓reduceIte, tis, e, hp]
/-- spec.l2Many -/
theorem fits_sMany (r : Rex) (d : Nat) (hd : d ≤ 8) (hf : fm d r = true) (hb : bd r ≤ 1048576) : Fits prog 85 [eRex false r, .int .i64 d] (.int .i64 (ps r)) [] := by
  induction d generalizing r with
  | zero => simp [fm] at hf
  | succ d ih =>
    have hb' := bd_eq r
    have hp := ps_eq r
    have h4 := (fm_ok hf).2.2.2
    have hps := ps_le (d + 1) r hf
    have h2p : 2 ^ (d + 1) ≤ 2 ^ 8 := Nat.pow_le_pow_right (by omega) hd
    have e1 : ((d : Int) + 1 - 1) = d := by omega
    rw [eRex_eq]
    refine fits_of_code [4] [] [0, 1, 2, 4, 5, 6, 15] func85 rfl rfl rfl (by rfl) (by show 2 ≤ 29; decide) (by rfl) (by rfl) (by show 0 ≤ 2; decide) (by rfl) (run_of ?_)
    simp -implicitDefEqProofs (maxSteps := 100000) (disch := first | (intros; contradiction) | omega) only [am0, am1, am2, am3, am4, am5, am6, am7, am8, am9, Nat.reduceSub, ↓reduceIte, reduceCtorEq, Nat.reduceEqDiff, Nat.reduceBEq, Nat.reduceAdd, Nat.reduceLT, Nat.reduceBNe, Nat.reduceMul, ↓reduceIte, tis]
    refine run_loop (α := Nat) (fun i => i ≤ r.kids.length) (fun i => [(1, .int .i64 ((d : Int) + 1)), (2, .box (.agg [.int .i64 r.kind, .sl false 2 (r.set.map eSpan), .sl false 3 (r.kids.map (eRex false))])), (5, .int .i64 ((1 + ((r.kids.map ps).take i).sum : Nat) : Int)), (6, .int .i64 i)]) (fun i => r.kids.length - i) 0 (Nat.zero_le _) ?_ ?_
    · simp -implicitDefEqProofs (maxSteps := 100000) (disch := first | (intros; contradiction) | omega) only [am0, am1, am2, am3, am4, am5, am6, am7, am8, am9, Nat.reduceSub, ↓reduceIte, reduceCtorEq, Nat.reduceEqDiff, Nat.reduceBEq, Nat.reduceAdd, Nat.reduceLT, Nat.reduceBNe, Nat.reduceMul, ↓reduceIte, tis, List.sum_nil]
    · intro i hi'
      by_cases hi : i < r.kids.length
      · have e := take_sum (l := r.kids.map ps) (i := i) (by simpa using hi)
        have e' := take_sum_le (r.kids.map ps) (i + 1)
        rw [List.getElem_map] at e
        have hm := List.getElem_mem hi
        have hk : ps r.kids[i] ≤ (r.kids.map ps).sum := le_sum (List.mem_map_of_mem hm)
        have cF := ih r.kids[i] (by omega) (h4 _ hm) (Nat.le_trans (bd_kid hm) hb)
        simp -implicitDefEqProofs (maxSteps := 100000) (disch := first | (intros; contradiction) | omega) only [am0, am1, am2, am3, am4, am5, am6, am7, am8, am9, Nat.reduceSub, ↓reduceIte, reduceCtorEq, Nat.reduceEqDiff, Nat.reduceBEq, Nat.reduceAdd, Nat.reduceLT, Nat.reduceBNe, Nat.reduceMul, ↓reduceIte, tis, rx, eRex_eq]
        refine callB cF ?_
        simp -implicitDefEqProofs (maxSteps := 100000) (disch := first | (intros; contradiction) | omega) only [am0, am1, am2, am3, am4, am5, am6, am7, am8, am9, Nat.reduceSub, ↓reduceIte, reduceCtorEq, Nat.reduceEqDiff, Nat.reduceBEq, Nat.reduceAdd, Nat.reduceLT, Nat.reduceBNe, Nat.reduceMul, ↓reduceIte, tis, rx, eRex_eq, e1]
        refine round_normal (i + 1) (by omega) ?_ (by show r.kids.length - (i + 1) < r.kids.length - i; omega)
        simp -implicitDefEqProofs (maxSteps := 100000) (disch := first | (intros; contradiction) | omega) only [am0, am1, am2, am3, am4, am5, am6, am7, am8, am9, Nat.reduceSub, ↓reduceIte, reduceCtorEq, Nat.reduceEqDiff, Nat.reduceBEq, Nat.reduceAdd, Nat.reduceLT, Nat.reduceBNe, Nat.reduceMul, ↓reduceIte, tis, e]
        omega
      · obtain rfl : i = r.kids.length := by omega
        have e : (r.kids.map ps).take r.kids.length = r.kids.map ps := List.take_of_length_le (by simp)
        simp -implicitDefEqProofs (maxSteps := 100000) (disch := first | (intros; contradiction) | omega) only [am0, am1, am2, am3, am4, am5, am6, am7, am8, am9, Nat.reduceSub, ↓reduceIte, reduceCtorEq, Nat.reduceEqDiff, Nat.reduceBEq, Nat.reduceAdd, Nat.reduceLT, Nat.reduceBNe, Nat.reduceMul, ↓reduceIte, tis, e, hp]
def rexB (r : Rex) : Bool := fm 8 r && decide (ps r ≤ 24)
/-- impl.RexOk -/
theorem fits_rexOk (r : Rex) (hb : bd r ≤ 1048576) : Fits prog 25 [eRex false r] (.bool (rexB r)) [] := by
  have cF : Fits prog 86 [eRex false r, .int .i64 8] (.bool (fm 8 r)) [] := fits_formed r 8 (by omega) hb
  cases h : fm 8 r with
  | false =>
    have hx : rexB r = false := by simp [rexB, h]
    rw [h] at cF
    rw [eRex_eq] at *
    refine fits_of_code [2] [] [0, 1, 2] func25 rfl rfl rfl (by rfl) (by show 1 ≤ 10; decide) (by rfl) (by rfl) (by show 0 ≤ 1; decide) (by rfl) (run_of ?_)
    simp -implicitDefEqProofs (maxSteps := 100000) (disch := first | (intros; contradiction) | omega) only [am0, am1, am2, am3, am4, am5, am6, am7, am8, am9, Nat.reduceSub, ↓reduceIte, reduceCtorEq, Nat.reduceEqDiff, Nat.reduceBEq, Nat.reduceAdd, Nat.reduceLT, Nat.reduceBNe, Nat.reduceMul, ↓reduceIte, tis]
    refine callB cF ?_
    simp -implicitDefEqProofs (maxSteps := 100000) (disch := first | (intros; contradiction) | omega) only [am0, am1, am2, am3, am4, am5, am6, am7, am8, am9, Nat.reduceSub, ↓reduceIte, reduceCtorEq, Nat.reduceEqDiff, Nat.reduceBEq, Nat.reduceAdd, Nat.reduceLT, Nat.reduceBNe, Nat.reduceMul, ↓reduceIte, tis, hx]
  | true =>
    have hp := ps_le 8 r h
    have cM := fits_manyParts r hb (by omega)
    rw [h] at cF
    rw [eRex_eq] at *
    by_cases h2 : (ps r : Int) ≤ 24
    · have hx : rexB r = true := by simp only [rexB, h, Bool.true_and, decide_eq_true_eq]; omega
      refine fits_of_code [2] [] [0, 1, 2] func25 rfl rfl rfl (by rfl) (by show 1 ≤ 10; decide) (by rfl) (by rfl) (by show 0 ≤ 1; decide) (by rfl) (run_of ?_)
      simp -implicitDefEqProofs (maxSteps := 100000) (disch := first | (intros; contradiction) | omega) only [am0, am1, am2, am3, am4, am5, am6, am7, am8, am9, Nat.reduceSub, ↓reduceIte, reduceCtorEq, Nat.reduceEqDiff, Nat.reduceBEq, Nat.reduceAdd, Nat.reduceLT, Nat.reduceBNe, Nat.reduceMul, ↓reduceIte, tis]
      refine callB cF ?_
      simp -implicitDefEqProofs (maxSteps := 100000) (disch := first | (intros; contradiction) | omega) only [am0, am1, am2, am3, am4, am5, am6, am7, am8, am9, Nat.reduceSub, ↓reduceIte, reduceCtorEq, Nat.reduceEqDiff, Nat.reduceBEq, Nat.reduceAdd, Nat.reduceLT, Nat.reduceBNe, Nat.reduceMul, ↓reduceIte, tis]
      refine callB cM ?_
      simp -implicitDefEqProofs (maxSteps := 100000) (disch := first | (intros; contradiction) | omega) only [am0, am1, am2, am3, am4, am5, am6, am7, am8, am9, Nat.reduceSub, ↓reduceIte, reduceCtorEq, Nat.reduceEqDiff, Nat.reduceBEq, Nat.reduceAdd, Nat.reduceLT, Nat.reduceBNe, Nat.reduceMul, ↓reduceIte, tis, hx]
    · have hx : rexB r = false := by simp only [rexB, h, Bool.true_and, decide_eq_false_iff_not]; omega
      refine fits_of_code [2] [] [0, 1, 2] func25 rfl rfl rfl (by rfl) (by show 1 ≤ 10; decide) (by rfl) (by rfl) (by show 0 ≤ 1; decide) (by rfl) (run_of ?_)
      simp -implicitDefEqProofs (maxSteps := 100000) (disch := first | (intros; contradiction) | omega) only [am0, am1, am2, am3, am4, am5, am6, am7, am8, am9, Nat.reduceSub, ↓reduceIte, reduceCtorEq, Nat.reduceEqDiff, Nat.reduceBEq, Nat.reduceAdd, Nat.reduceLT, Nat.reduceBNe, Nat.reduceMul, ↓reduceIte, tis]
      refine callB cF ?_
      simp -implicitDefEqProofs (maxSteps := 100000) (disch := first | (intros; contradiction) | omega) only [am0, am1, am2, am3, am4, am5, am6, am7, am8, am9, Nat.reduceSub, ↓reduceIte, reduceCtorEq, Nat.reduceEqDiff, Nat.reduceBEq, Nat.reduceAdd, Nat.reduceLT, Nat.reduceBNe, Nat.reduceMul, ↓reduceIte, tis]
      refine callB cM ?_
      simp -implicitDefEqProofs (maxSteps := 100000) (disch := first | (intros; contradiction) | omega) only [am0, am1, am2, am3, am4, am5, am6, am7, am8, am9, Nat.reduceSub, ↓reduceIte, reduceCtorEq, Nat.reduceEqDiff, Nat.reduceBEq, Nat.reduceAdd, Nat.reduceLT, Nat.reduceBNe, Nat.reduceMul, ↓reduceIte, tis, hx]
/-- spec.RexOk -/
theorem fits_sRexOk (r : Rex) (hb : bd r ≤ 1048576) : Fits prog 24 [eRex false r] (.bool (rexB r)) [] := by
  have cF : Fits prog 84 [eRex false r, .int .i64 8] (.bool (fm 8 r)) [] := fits_sForm r 8 (by omega) hb
  cases h : fm 8 r with
  | false =>
    have hx : rexB r = false := by simp [rexB, h]
    rw [h] at cF
    rw [eRex_eq] at *
    refine fits_of_code [2] [] [0, 1, 2] func24 rfl rfl rfl (by rfl) (by show 1 ≤ 10; decide) (by rfl) (by rfl) (by show 0 ≤ 1; decide) (by rfl) (run_of ?_)
    simp -implicitDefEqProofs (maxSteps := 100000) (disch := first | (intros; contradiction) | omega) only [am0, am1, am2, am3, am4, am5, am6, am7, am8, am9, Nat.reduceSub, ↓reduceIte, reduceCtorEq, Nat.reduceEqDiff, Nat.reduceBEq, Nat.reduceAdd, Nat.reduceLT, Nat.reduceBNe, Nat.reduceMul, ↓reduceIte, tis]
    refine callB cF ?_
    simp -implicitDefEqProofs (maxSteps := 100000) (disch := first | (intros; contradiction) | omega) only [am0, am1, am2, am3, am4, am5, am6, am7, am8, am9, Nat.reduceSub, ↓reduceIte, reduceCtorEq, Nat.reduceEqDiff, Nat.reduceBEq, Nat.reduceAdd, Nat.reduceLT, Nat.reduceBNe, Nat.reduceMul, ↓reduceIte, tis, hx]
  | true =>
    have hp := ps_le 8 r h
    have cM : Fits prog 85 [eRex false r, .int .i64 8] (.int .i64 (ps r)) [] := fits_sMany r 8 (by omega) h hb
    rw [h] at cF
    rw [eRex_eq] at *
    by_cases h2 : (ps r : Int) ≤ 24
    · have hx : rexB r = true := by simp only [rexB, h, Bool.true_and, decide_eq_true_eq]; omega
      refine fits_of_code [2] [] [0, 1, 2] func24 rfl rfl rfl (by rfl) (by show 1 ≤ 10; decide) (by rfl) (by rfl) (by show 0 ≤ 1; decide) (by rfl) (run_of ?_)
      simp -implicitDefEqProofs (maxSteps := 100000) (disch := first | (intros; contradiction) | omega) only [am0, am1, am2, am3, am4, am5, am6, am7, am8, am9, Nat.reduceSub, ↓reduceIte, reduceCtorEq, Nat.reduceEqDiff, Nat.reduceBEq, Nat.reduceAdd, Nat.reduceLT, Nat.reduceBNe, Nat.reduceMul, ↓reduceIte, tis]
      refine callB cF ?_
      simp -implicitDefEqProofs (maxSteps := 100000) (disch := first | (intros; contradiction) | omega) only [am0, am1, am2, am3, am4, am5, am6, am7, am8, am9, Nat.reduceSub, ↓reduceIte, reduceCtorEq, Nat.reduceEqDiff, Nat.reduceBEq, Nat.reduceAdd, Nat.reduceLT, Nat.reduceBNe, Nat.reduceMul, ↓reduceIte, tis]
      refine callB cM ?_
      simp -implicitDefEqProofs (maxSteps := 100000) (disch := first | (intros; contradiction) | omega) only [am0, am1, am2, am3, am4, am5, am6, am7, am8, am9, Nat.reduceSub, ↓reduceIte, reduceCtorEq, Nat.reduceEqDiff, Nat.reduceBEq, Nat.reduceAdd, Nat.reduceLT, Nat.reduceBNe, Nat.reduceMul, ↓reduceIte, tis, hx]
    · have hx : rexB r = false := by simp only [rexB, h, Bool.true_and, decide_eq_false_iff_not]; omega
      refine fits_of_code [2] [] [0, 1, 2] func24 rfl rfl rfl (by rfl) (by show 1 ≤ 10; decide) (by rfl) (by rfl) (by show 0 ≤ 1; decide) (by rfl) (run_of ?_)
      simp -implicitDefEqProofs (maxSteps := 100000) (disch := first | (intros; contradiction) | omega) only [am0, am1, am2, am3, am4, am5, am6, am7, am8, am9, Nat.reduceSub, ↓reduceIte, reduceCtorEq, Nat.reduceEqDiff, Nat.reduceBEq, Nat.reduceAdd, Nat.reduceLT, Nat.reduceBNe, Nat.reduceMul, ↓reduceIte, tis]
      refine callB cF ?_
      simp -implicitDefEqProofs (maxSteps := 100000) (disch := first | (intros; contradiction) | omega) only [am0, am1, am2, am3, am4, am5, am6, am7, am8, am9, Nat.reduceSub, ↓reduceIte, reduceCtorEq, Nat.reduceEqDiff, Nat.reduceBEq, Nat.reduceAdd, Nat.reduceLT, Nat.reduceBNe, Nat.reduceMul, ↓reduceIte, tis]
      refine callB cM ?_
      simp -implicitDefEqProofs (maxSteps := 100000) (disch := first | (intros; contradiction) | omega) only [am0, am1, am2, am3, am4, am5, am6, am7, am8, am9, Nat.reduceSub, ↓reduceIte, reduceCtorEq, Nat.reduceEqDiff, Nat.reduceBEq, Nat.reduceAdd, Nat.reduceLT, Nat.reduceBNe, Nat.reduceMul, ↓reduceIte, tis, hx]
/-! Tables, and what is true of some of the first. -/
def tab {α : Type} (n : Nat) (f : Nat → α) : List α := (List.range n).map f
theorem tab_len {α : Type} (n : Nat) (f : Nat → α) : (tab n f).length = n := by simp [tab]
theorem tab_get {α : Type} {n : Nat} (f : Nat → α) {i : Nat} (h : i < n) : (tab n f)[i]? = some (f i) := by simp [tab, h]
theorem tab_getD {α : Type} {n : Nat} (f : Nat → α) {i : Nat} (d : α) (h : i < n) : (tab n f).getD i d = f i := by simp [tab, h, List.getD]
theorem tab_ext {α : Type} {n : Nat} {f g : Nat → α} (h : ∀ i, i < n → f i = g i) : tab n f = tab n g := by
  unfold tab; exact List.map_congr_left fun i hi => h i (by simpa using hi)
theorem tab_set {α : Type} {n : Nat} (f : Nat → α) (i : Nat) (x : α) : (tab n f).set i x = tab n (fun k => if k = i then x else f k) := by
  apply List.ext_getElem?
  intro k
  by_cases hk : k < n
  · rw [tab_get _ hk, List.getElem?_set]
    by_cases h : i = k
    · subst h; simp [tab_len, hk]
    · rw [if_neg h, tab_get _ hk, if_neg (Ne.symm h)]
  · rw [List.getElem?_eq_none (by simp [tab_len]; omega), List.getElem?_eq_none (by simp [tab_len]; omega)]
theorem rep_tab {α : Type} (n : Nat) (x : α) : List.replicate n x = tab n (fun _ => x) := by
  apply List.ext_getElem?
  intro k
  by_cases hk : k < n
  · rw [tab_get _ hk]; simp [hk]
  · rw [List.getElem?_eq_none (by simp; omega), List.getElem?_eq_none (by simp [tab_len]; omega)]
def anyU (f : Nat → Bool) : Nat → Bool
  | 0 => false
  | n + 1 => anyU f n || f n
theorem anyU_iff (f : Nat → Bool) : ∀ n, anyU f n = true ↔ ∃ i, i < n ∧ f i = true
  | 0 => by simp [anyU]
  | n + 1 => by
    simp only [anyU, Bool.or_eq_true, anyU_iff f n]
    constructor
    · rintro (⟨i, h1, h2⟩ | h)
      · exact ⟨i, by omega, h2⟩
      · exact ⟨n, by omega, h⟩
    · rintro ⟨i, h1, h2⟩
      by_cases h : i = n
      · subst h; exact .inr h2
      · exact .inl ⟨i, by omega, h2⟩
theorem anyU_ext {f g : Nat → Bool} : ∀ n, (∀ i, i < n → f i = g i) → anyU f n = anyU g n
  | 0, _ => rfl
  | n + 1, h => by simp only [anyU]; rw [anyU_ext n (fun i hi => h i (by omega)), h n (by omega)]
/-! What a text is like. -/
abbrev Txt := List UInt8
def sub (t : Txt) (i j : Nat) : Txt := (t.take j).drop i
theorem sub_len {t : Txt} {i j : Nat} (h : j ≤ t.length) : (sub t i j).length = j - i := by simp [sub]; omega
theorem sub_take {t : Txt} {i j x : Nat} (h : i + x ≤ j) : (sub t i j).take x = sub t i (i + x) := by
  unfold sub
  rw [List.take_drop, List.take_take]
  congr 2
  omega
theorem sub_drop {t : Txt} {i j x : Nat} : (sub t i j).drop x = sub t (i + x) j := by
  unfold sub; rw [List.drop_drop]
theorem sub_all (t : Txt) : sub t 0 t.length = t := by simp [sub]
theorem sub_sub {t : Txt} {i j x y : Nat} (h : i + y ≤ j) : sub (sub t i j) x y = sub t (i + x) (i + y) := by
  show ((sub t i j).take y).drop x = _
  rw [sub_take h, sub_drop]
theorem sub_app {t : Txt} {i k j : Nat} (h1 : i ≤ k) (h2 : k ≤ j) : sub t i k ++ sub t k j = sub t i j := by
  have e1 : (sub t i j).take (k - i) = sub t i k := by rw [sub_take (by omega)]; congr 1; omega
  have e2 : (sub t i j).drop (k - i) = sub t k j := by rw [sub_drop]; congr 1; omega
  rw [← e1, ← e2, List.take_append_drop]
def catB (f g : Txt → Bool) (t : Txt) : Bool := anyU (fun k => f (t.take k) && g (t.drop k)) (t.length + 1)
/-- Whether each beginning is any number of such. -/
def okL (f : Txt → Bool) (t : Txt) : Nat → List Bool
  | 0 => [true]
  | k + 1 => okL f t k ++ [anyU (fun i => (okL f t k).getD i false && f (sub t i (k + 1))) (k + 1)]
def starB (f : Txt → Bool) (t : Txt) : Bool := (okL f t t.length).getD t.length false
inductive StarP (f : Txt → Bool) : Txt → Prop
  | nil : StarP f []
  | cons (u v : Txt) : u ≠ [] → f u = true → StarP f v → StarP f (u ++ v)
theorem StarP.one {f : Txt → Bool} {u : Txt} (h : u ≠ []) (hf : f u = true) : StarP f u := by
  have := StarP.cons u [] h hf .nil
  rwa [List.append_nil] at this
theorem StarP.app {f : Txt → Bool} {u v : Txt} (hu : StarP f u) (hv : StarP f v) : StarP f (u ++ v) := by
  induction hu with
  | nil => exact hv
  | cons a b h1 h2 _ ih => rw [List.append_assoc]; exact .cons a _ h1 h2 ih
theorem StarP.snoc {f : Txt → Bool} {w : Txt} (h : StarP f w) : w = [] ∨ ∃ v u, w = v ++ u ∧ u ≠ [] ∧ f u = true ∧ StarP f v := by
  induction h with
  | nil => exact .inl rfl
  | cons a b h1 h2 hb ih =>
    right
    rcases ih with rfl | ⟨v, u, rfl, g1, g2, g3⟩
    · exact ⟨[], a, by simp, h1, h2, .nil⟩
    · exact ⟨a ++ v, u, by simp, g1, g2, .cons a v h1 h2 g3⟩
theorem okL_len (f : Txt → Bool) (t : Txt) : ∀ k, (okL f t k).length = k + 1
  | 0 => rfl
  | k + 1 => by simp [okL, okL_len f t k]
def okAt (f : Txt → Bool) (t : Txt) (k : Nat) : Bool := (okL f t k).getD k false
theorem okL_get (f : Txt → Bool) (t : Txt) : ∀ k i, i ≤ k → (okL f t k).getD i false = okAt f t i
  | 0, i, h => by obtain rfl : i = 0 := by omega
                  rfl
  | k + 1, i, h => by
    by_cases hi : i = k + 1
    · subst hi; rfl
    · have hl := okL_len f t k
      have : (okL f t (k + 1)).getD i false = (okL f t k).getD i false := by
        simp only [okL, List.getD]
        rw [List.getElem?_append_left (by omega)]
      rw [this, okL_get f t k i (by omega)]
theorem okAt_0 (f : Txt → Bool) (t : Txt) : okAt f t 0 = true := rfl
theorem okAt_s (f : Txt → Bool) (t : Txt) (k : Nat) : okAt f t (k + 1) = anyU (fun i => okAt f t i && f (sub t i (k + 1))) (k + 1) := by
  have hl := okL_len f t k
  unfold okAt
  simp only [okL, List.getD]
  rw [List.getElem?_append_right (by omega)]
  simp only [hl, Nat.sub_self, List.getElem?_cons_zero, Option.getD_some]
  refine anyU_ext _ fun i hi => ?_
  have := okL_get f t k i (by omega)
  simp only [List.getD] at this
  rw [this]; rfl
theorem okAt_iff (f : Txt → Bool) (t : Txt) : ∀ (n k : Nat), k ≤ n → k ≤ t.length → (okAt f t k = true ↔ StarP f (t.take k))
  | n, 0, _, _ => by simp [okAt_0, StarP.nil]
  | 0, k + 1, h, _ => by omega
  | n + 1, k + 1, h, hk => by
    rw [okAt_s, anyU_iff]
    constructor
    · rintro ⟨i, hi, hh⟩
      simp only [Bool.and_eq_true] at hh
      have h1 := (okAt_iff f t n i (by omega) (by omega)).1 hh.1
      have e : t.take (k + 1) = t.take i ++ sub t i (k + 1) := by
        have := sub_app (t := t) (i := 0) (k := i) (j := k + 1) (by omega) (by omega)
        simpa [sub] using this.symm
      rw [e]
      refine h1.app (StarP.one ?_ hh.2)
      intro he
      have := sub_len (t := t) (i := i) hk
      rw [he] at this
      simp at this; omega
    · intro hs
      rcases hs.snoc with he | ⟨v, u, he, hu, hf, hv⟩
      · have := congrArg List.length he
        rw [List.length_take, List.length_nil] at this; omega
      · have hl := congrArg List.length he
        simp only [List.length_take, List.length_append] at hl
        have hul : 0 < u.length := List.length_pos_iff.2 hu
        have hvt : t.take v.length = v := by
          have := congrArg (List.take v.length) he
          rw [List.take_take, List.take_left] at this
          rwa [show min v.length (k + 1) = v.length by omega] at this
        have hut : sub t v.length (k + 1) = u := by
          have := congrArg (List.drop v.length) he
          rwa [List.drop_left] at this
        refine ⟨v.length, by omega, ?_⟩
        simp only [Bool.and_eq_true]
        exact ⟨(okAt_iff f t n v.length (by omega) (by omega)).2 (by rw [hvt]; exact hv), by rw [hut]; exact hf⟩
theorem starB_iff (f : Txt → Bool) (t : Txt) : starB f t = true ↔ StarP f t := by
  have := okAt_iff f t t.length t.length (Nat.le_refl _) (Nat.le_refl _)
  rw [List.take_length] at this
  exact this
theorem starB_step (f : Txt → Bool) (t : Txt) : starB f t = (decide (t.length = 0) || anyU (fun x => f (t.take (x + 1)) && starB f (t.drop (x + 1))) t.length) := by
  rw [Bool.eq_iff_iff, starB_iff]
  simp only [Bool.or_eq_true, decide_eq_true_eq, anyU_iff, Bool.and_eq_true, starB_iff]
  constructor
  · intro h
    cases h with
    | nil => exact .inl rfl
    | cons u v h1 h2 h3 =>
      right
      have hul : 0 < u.length := List.length_pos_iff.2 h1
      refine ⟨u.length - 1, by simp; omega, ?_⟩
      rw [show u.length - 1 + 1 = u.length by omega, List.take_left, List.drop_left]
      exact ⟨h2, h3⟩
  · rintro (h | ⟨x, h1, h2, h3⟩)
    · rw [List.eq_nil_of_length_eq_zero h]; exact .nil
    · rw [← List.take_append_drop (x + 1) t]
      refine .cons _ _ ?_ h2 h3
      intro he
      have := congrArg List.length he
      rw [List.length_take, List.length_nil] at this; omega
def mtK (k : Int) (s : List Span) (fs : List (Txt → Bool)) (t : Txt) : Bool :=
  let f0 := fs.getD 0 (fun _ => false)
  let f1 := fs.getD 1 (fun _ => false)
  if k = 1 then (match t with | [c] => hasB s c.toNat | _ => false)
  else if k = 2 then decide (t.length = 0)
  else if k = 3 then catB f0 f1 t
  else if k = 4 then f0 t || f1 t
  else if k = 5 then starB f0 t
  else if k = 6 then f0 t && f1 t
  else !f0 t
def mt : Rex → Txt → Bool
  | .mk k s ks => mtK k s (ks.map mt)
theorem mt_eq (r : Rex) : mt r = mtK r.kind r.set (r.kids.map mt) := by cases r; rw [mt]; rfl
theorem kidsN_1 {k : Int} (h : k = 5 ∨ k = 7) : kidsN k = 1 := by rcases h with rfl | rfl <;> simp [kidsN]
theorem kidsN_2 {k : Int} (h : k = 3 ∨ k = 4 ∨ k = 6) : kidsN k = 2 := by rcases h with rfl | rfl | rfl <;> simp [kidsN]
theorem kidsN_r {k : Int} (h : 0 ≤ kidsN k) : 1 ≤ k ∧ k ≤ 7 := by unfold kidsN at h; split at h <;> (try split at h) <;> (try split at h) <;> omega
theorem fm_two {d : Nat} {r : Rex} (h : fm (d + 1) r = true) (h3 : r.kind = 3 ∨ r.kind = 4 ∨ r.kind = 6) : ∃ a b, r.kids = [a, b] ∧ fm d a = true ∧ fm d b = true ∧ bd a ≤ bd r ∧ bd b ≤ bd r := by
  obtain ⟨h1, _, _, h4⟩ := fm_ok h
  rw [kidsN_2 h3] at h1
  match hk : r.kids, h1 with
  | [a, b], _ => exact ⟨a, b, rfl, h4 a (by rw [hk]; simp), h4 b (by rw [hk]; simp), bd_kid (by rw [hk]; simp), bd_kid (by rw [hk]; simp)⟩
  | [], h1 => simp at h1
  | [_], h1 => simp at h1
  | _ :: _ :: _ :: _, h1 => simp at h1; omega
theorem fm_one {d : Nat} {r : Rex} (h : fm (d + 1) r = true) (h3 : r.kind = 5 ∨ r.kind = 7) : ∃ a, r.kids = [a] ∧ fm d a = true ∧ bd a ≤ bd r := by
  obtain ⟨h1, _, _, h4⟩ := fm_ok h
  rw [kidsN_1 h3] at h1
  match hk : r.kids, h1 with
  | [a], _ => exact ⟨a, rfl, h4 a (by rw [hk]; simp), bd_kid (by rw [hk]; simp)⟩
  | [], h1 => simp at h1
  | _ :: _ :: _, h1 => simp at h1; omega
theorem fm_kind {d : Nat} {r : Rex} (h : fm (d + 1) r = true) : 1 ≤ r.kind ∧ r.kind ≤ 7 := kidsN_r (by have := (fm_ok h).1; omega)
/-- spec.l3Cat, of what it calls -/
theorem fits_l3Cat (a b : Rex) (t : Txt) (ht : t.length ≤ 1048576) (Fa : ∀ u : Txt, u.length ≤ 1048576 → Fits prog 74 [eRex false a, .str u] (.bool (mt a u)) []) (Fb : ∀ u : Txt, u.length ≤ 1048576 → Fits prog 74 [eRex false b, .str u] (.bool (mt b u)) []) :
    Fits prog 138 [eRex false a, eRex false b, .str t] (.bool (catB (mt a) (mt b) t)) [] := by
  simp only [eRex_eq] at *
  refine fits_of_code [6] [] [0, 1, 2, 3, 4, 6, 7, 11, 25] func138 rfl rfl rfl (by rfl) (by show 3 ≤ 26; decide) (by rfl) (by rfl) (by show 0 ≤ 3; decide) (by rfl) (run_of ?_)
  simp -implicitDefEqProofs (maxSteps := 100000) (disch := first | (intros; contradiction) | omega) only [am0, am1, am2, am3, am4, am5, am6, am7, am8, am9, Nat.reduceSub, ↓reduceIte, reduceCtorEq, Nat.reduceEqDiff, Nat.reduceBEq, Nat.reduceAdd, Nat.reduceLT, Nat.reduceBNe, Nat.reduceMul, ↓reduceIte, tis, rx, fls]
  refine run_loop (α := Nat) (fun i => i ≤ t.length + 1 ∧ anyU (fun k => mt a (t.take k) && mt b (t.drop k)) i = false) (fun i => [(2, .str t), (3, .box (.agg [.int .i64 a.kind, .sl false 2 (a.set.map eSpan), .sl false 3 (a.kids.map (eRex false))])), (4, .box (.agg [.int .i64 b.kind, .sl false 2 (b.set.map eSpan), .sl false 3 (b.kids.map (eRex false))])), (7, .int .i64 i)]) (fun i => t.length + 1 - i) 0 ⟨by omega, rfl⟩ ?_ ?_
  · simp -implicitDefEqProofs (maxSteps := 100000) (disch := first | (intros; contradiction) | omega) only [am0, am1, am2, am3, am4, am5, am6, am7, am8, am9, Nat.reduceSub, ↓reduceIte, reduceCtorEq, Nat.reduceEqDiff, Nat.reduceBEq, Nat.reduceAdd, Nat.reduceLT, Nat.reduceBNe, Nat.reduceMul, ↓reduceIte, tis]
  · rintro i ⟨hi', hn⟩
    by_cases hi : i ≤ t.length
    · have cA := Fa (t.take i) (by simp; omega)
      have cB := Fb (t.drop i) (by simp; omega)
      have nx : (mt a (t.take i) && mt b (t.drop i)) = false → anyU (fun k => mt a (t.take k) && mt b (t.drop k)) (i + 1) = false := fun h => by simp only [anyU, hn, Bool.false_or]; exact h
      have ye : (mt a (t.take i) && mt b (t.drop i)) = true → catB (mt a) (mt b) t = true := fun h => by unfold catB; rw [anyU_iff]; exact ⟨i, by omega, h⟩
      simp -implicitDefEqProofs (maxSteps := 100000) (disch := first | (intros; contradiction) | omega) only [am0, am1, am2, am3, am4, am5, am6, am7, am8, am9, Nat.reduceSub, ↓reduceIte, reduceCtorEq, Nat.reduceEqDiff, Nat.reduceBEq, Nat.reduceAdd, Nat.reduceLT, Nat.reduceBNe, Nat.reduceMul, ↓reduceIte, tis, rx, fls, List.take_length]
      refine .inl ⟨by kernel_rfl, ?_⟩
      refine callL cA ?_
      cases h1 : mt a (t.take i) with
      | false =>
        simp -implicitDefEqProofs (maxSteps := 100000) (disch := first | (intros; contradiction) | omega) only [am0, am1, am2, am3, am4, am5, am6, am7, am8, am9, Nat.reduceSub, ↓reduceIte, reduceCtorEq, Nat.reduceEqDiff, Nat.reduceBEq, Nat.reduceAdd, Nat.reduceLT, Nat.reduceBNe, Nat.reduceMul, ↓reduceIte, tis, rx, fls, List.take_length]
        refine round_normal (i + 1) ⟨by omega, nx (by simp [h1])⟩ (by simp -implicitDefEqProofs (maxSteps := 100000) (disch := first | (intros; contradiction) | omega) only [am0, am1, am2, am3, am4, am5, am6, am7, am8, am9, Nat.reduceSub, ↓reduceIte, reduceCtorEq, Nat.reduceEqDiff, Nat.reduceBEq, Nat.reduceAdd, Nat.reduceLT, Nat.reduceBNe, Nat.reduceMul, ↓reduceIte, tis]) (by show t.length + 1 - (i + 1) < t.length + 1 - i; omega)
      | true =>
        simp -implicitDefEqProofs (maxSteps := 100000) (disch := first | (intros; contradiction) | omega) only [am0, am1, am2, am3, am4, am5, am6, am7, am8, am9, Nat.reduceSub, ↓reduceIte, reduceCtorEq, Nat.reduceEqDiff, Nat.reduceBEq, Nat.reduceAdd, Nat.reduceLT, Nat.reduceBNe, Nat.reduceMul, ↓reduceIte, tis, rx, fls, List.take_length]
        refine callL cB ?_
        cases h2 : mt b (t.drop i) with
        | false =>
          simp -implicitDefEqProofs (maxSteps := 100000) (disch := first | (intros; contradiction) | omega) only [am0, am1, am2, am3, am4, am5, am6, am7, am8, am9, Nat.reduceSub, ↓reduceIte, reduceCtorEq, Nat.reduceEqDiff, Nat.reduceBEq, Nat.reduceAdd, Nat.reduceLT, Nat.reduceBNe, Nat.reduceMul, ↓reduceIte, tis, rx, fls, List.take_length]
          refine round_normal (i + 1) ⟨by omega, nx (by simp [h1, h2])⟩ (by simp -implicitDefEqProofs (maxSteps := 100000) (disch := first | (intros; contradiction) | omega) only [am0, am1, am2, am3, am4, am5, am6, am7, am8, am9, Nat.reduceSub, ↓reduceIte, reduceCtorEq, Nat.reduceEqDiff, Nat.reduceBEq, Nat.reduceAdd, Nat.reduceLT, Nat.reduceBNe, Nat.reduceMul, ↓reduceIte, tis]) (by show t.length + 1 - (i + 1) < t.length + 1 - i; omega)
        | true => simp -implicitDefEqProofs (maxSteps := 100000) (disch := first | (intros; contradiction) | omega) only [am0, am1, am2, am3, am4, am5, am6, am7, am8, am9, Nat.reduceSub, ↓reduceIte, reduceCtorEq, Nat.reduceEqDiff, Nat.reduceBEq, Nat.reduceAdd, Nat.reduceLT, Nat.reduceBNe, Nat.reduceMul, ↓reduceIte, tis, rx, fls, ye (by simp [h1, h2])]
    · obtain rfl : i = t.length + 1 := by omega
      have e : catB (mt a) (mt b) t = false := hn
      simp -implicitDefEqProofs (maxSteps := 100000) (disch := first | (intros; contradiction) | omega) only [am0, am1, am2, am3, am4, am5, am6, am7, am8, am9, Nat.reduceSub, ↓reduceIte, reduceCtorEq, Nat.reduceEqDiff, Nat.reduceBEq, Nat.reduceAdd, Nat.reduceLT, Nat.reduceBNe, Nat.reduceMul, ↓reduceIte, tis, e]
def tb (f : Txt → Bool) (t : Txt) (k : Nat) (cur : Bool) (j : Nat) : AV := .bool (if j < k then okAt f t j else if j = k then cur else false)
theorem tb_plain (f : Txt → Bool) (t : Txt) (k : Nat) (c : Bool) (n : Nat) : plainL (tab n (tb f t k c)) = true := by
  rw [plainL_all]; unfold tab; simp [tb, plain]
def stG (f : Txt → Bool) (t : Txt) (k i : Nat) : Bool := okAt f t i && f (sub t i k)
theorem okAt_g (f : Txt → Bool) (t : Txt) {k : Nat} (h : 1 ≤ k) : okAt f t k = anyU (stG f t k) k := by
  obtain ⟨k, rfl⟩ : ∃ n, k = n + 1 := ⟨k - 1, by omega⟩
  exact okAt_s f t k
theorem anyU_up {f : Nat → Bool} {i k : Nat} (h : i ≤ k) (hi : anyU f i = true) : anyU f k = true := by
  rw [anyU_iff] at *
  obtain ⟨j, h1, h2⟩ := hi
  exact ⟨j, by omega, h2⟩
/-- spec.l3Star, of what it calls -/
theorem fits_l3Star (r : Rex) (t : Txt) (ht : t.length ≤ 1048576) (Fa : ∀ u : Txt, u.length ≤ 1048576 → Fits prog 74 [eRex false r, .str u] (.bool (mt r u)) []) :
    Fits prog 139 [eRex false r, .str t] (.bool (starB (mt r) t)) [] := by
  have e0 : List.replicate (Int.toNat ((t.length : Int) + 1)) (AV.bool false) = tab (t.length + 1) (fun _ => .bool false) := by
    rw [show Int.toNat ((t.length : Int) + 1) = t.length + 1 by omega]; exact rep_tab _ _
  have e1 : (tab (t.length + 1) (fun _ => AV.bool false)).set 0 (.bool true) = tab (t.length + 1) (tb (mt r) t 1 false) := by
    rw [tab_set]; refine tab_ext fun i hi => ?_
    by_cases h : i = 0
    · subst h; simp [tb, okAt_0]
    · simp [tb, h]
  have gl := fun (f : Nat → AV) => tab_len (t.length + 1) f
  have e3 : (tab (t.length + 1) (fun _ => AV.bool false))[0]? = some (.bool false) := tab_get _ (by omega)
  simp only [eRex_eq] at *
  refine fits_of_code [4] [] [0, 1, 2, 4, 5, 6, 7, 17, 29] func139 rfl rfl rfl (by rfl) (by show 2 ≤ 52; decide) (by rfl) (by rfl) (by show 0 ≤ 2; decide) (by rfl) (run_of ?_)
  simp -implicitDefEqProofs (maxSteps := 100000) (disch := first | (intros; contradiction) | omega) only [am0, am1, am2, am3, am4, am5, am6, am7, am8, am9, Nat.reduceSub, ↓reduceIte, reduceCtorEq, Nat.reduceEqDiff, Nat.reduceBEq, Nat.reduceAdd, Nat.reduceLT, Nat.reduceBNe, Nat.reduceMul, ↓reduceIte, tis, rx, fls, e0, e1, gl, e3]
  refine run_loop (α := Nat) (fun k => 1 ≤ k ∧ k ≤ t.length + 1) (fun k => [(1, .str t), (2, .box (.agg [.int .i64 r.kind, .sl false 2 (r.set.map eSpan), .sl false 3 (r.kids.map (eRex false))])), (5, .sl true 1 (tab (t.length + 1) (tb (mt r) t k false))), (6, .int .i64 k)]) (fun k => t.length + 1 - k) 1 ⟨by omega, by omega⟩ ?_ ?_
  · have e4 : AV.bool true :: List.replicate t.length (AV.bool false) = tab (t.length + 1) (tb (mt r) t 1 false) := by
      rw [← e1, ← rep_tab, List.replicate_succ]; rfl
    simp -implicitDefEqProofs (maxSteps := 100000) (disch := first | (intros; contradiction) | omega) only [am0, am1, am2, am3, am4, am5, am6, am7, am8, am9, Nat.reduceSub, ↓reduceIte, reduceCtorEq, Nat.reduceEqDiff, Nat.reduceBEq, Nat.reduceAdd, Nat.reduceLT, Nat.reduceBNe, Nat.reduceMul, ↓reduceIte, tis, e4]
  · rintro k ⟨hk1, hk2⟩
    by_cases hk : k ≤ t.length
    · simp -implicitDefEqProofs (maxSteps := 100000) (disch := first | (intros; contradiction) | omega) only [am0, am1, am2, am3, am4, am5, am6, am7, am8, am9, Nat.reduceSub, ↓reduceIte, reduceCtorEq, Nat.reduceEqDiff, Nat.reduceBEq, Nat.reduceAdd, Nat.reduceLT, Nat.reduceBNe, Nat.reduceMul, ↓reduceIte, tis, rx, fls, gl]
      refine run_loop (α := Nat) (fun i => i ≤ k) (fun i => [(1, .str t), (2, .box (.agg [.int .i64 r.kind, .sl false 2 (r.set.map eSpan), .sl false 3 (r.kids.map (eRex false))])), (5, .sl true 1 (tab (t.length + 1) (tb (mt r) t k (anyU (stG (mt r) t k) i)))), (6, .int .i64 k), (7, .int .i64 i)]) (fun i => k - i) 0 (Nat.zero_le _) ?_ ?_
      · simp -implicitDefEqProofs (maxSteps := 100000) (disch := first | (intros; contradiction) | omega) only [am0, am1, am2, am3, am4, am5, am6, am7, am8, am9, Nat.reduceSub, ↓reduceIte, reduceCtorEq, Nat.reduceEqDiff, Nat.reduceBEq, Nat.reduceAdd, Nat.reduceLT, Nat.reduceBNe, Nat.reduceMul, ↓reduceIte, tis, anyU]
      · intro i hi'
        have gk : ∀ c, (tab (t.length + 1) (tb (mt r) t k c))[k]? = some (.bool c) := fun c => by rw [tab_get _ (by omega)]; simp [tb]
        have hdone : ∀ c, c = okAt (mt r) t k → tab (t.length + 1) (tb (mt r) t k c) = tab (t.length + 1) (tb (mt r) t (k + 1) false) := by
          intro c hc
          refine tab_ext fun j hj => ?_
          unfold tb
          by_cases h1 : j < k
          · rw [if_pos h1, if_pos (by omega)]
          · rw [if_neg h1]
            by_cases h2 : j = k
            · subst h2; rw [if_pos rfl, if_pos (by omega), hc]
            · rw [if_neg h2, if_neg (by omega)]; split <;> rfl
        by_cases hi : i < k
        · cases hc : anyU (stG (mt r) t k) i with
          | true =>
            have hd := hdone true (by rw [okAt_g _ _ hk1]; exact (anyU_up hi' hc).symm)
            simp -implicitDefEqProofs (maxSteps := 100000) (disch := first | (intros; contradiction) | omega) only [am0, am1, am2, am3, am4, am5, am6, am7, am8, am9, Nat.reduceSub, ↓reduceIte, reduceCtorEq, Nat.reduceEqDiff, Nat.reduceBEq, Nat.reduceAdd, Nat.reduceLT, Nat.reduceBNe, Nat.reduceMul, ↓reduceIte, tis, rx, fls, gl, gk, hc]
            refine round_normal (k + 1) ⟨by omega, by omega⟩ ?_ (by show t.length + 1 - (k + 1) < t.length + 1 - k; omega)
            simp -implicitDefEqProofs (maxSteps := 100000) (disch := first | (intros; contradiction) | omega) only [am0, am1, am2, am3, am4, am5, am6, am7, am8, am9, Nat.reduceSub, ↓reduceIte, reduceCtorEq, Nat.reduceEqDiff, Nat.reduceBEq, Nat.reduceAdd, Nat.reduceLT, Nat.reduceBNe, Nat.reduceMul, ↓reduceIte, tis, hd]
          | false =>
            have gi : (tab (t.length + 1) (tb (mt r) t k false))[i]? = some (.bool (okAt (mt r) t i)) := by rw [tab_get _ (by omega)]; simp [tb, hi]
            have gs : ∀ b, (tab (t.length + 1) (tb (mt r) t k false)).set k (.bool b) = tab (t.length + 1) (tb (mt r) t k b) := fun b => by
              rw [tab_set]; refine tab_ext fun j hj => ?_
              unfold tb
              by_cases h1 : j = k
              · subst h1; simp
              · simp [h1]
            have cF := Fa (sub t i k) (by rw [sub_len (by omega)]; omega)
            unfold sub at cF
            have hn : anyU (stG (mt r) t k) (i + 1) = (okAt (mt r) t i && mt r (sub t i k)) := by simp only [anyU, hc, Bool.false_or, stG]
            cases ho : okAt (mt r) t i with
            | false =>
              simp -implicitDefEqProofs (maxSteps := 100000) (disch := first | (intros; contradiction) | omega) only [am0, am1, am2, am3, am4, am5, am6, am7, am8, am9, Nat.reduceSub, ↓reduceIte, reduceCtorEq, Nat.reduceEqDiff, Nat.reduceBEq, Nat.reduceAdd, Nat.reduceLT, Nat.reduceBNe, Nat.reduceMul, ↓reduceIte, tis, rx, fls, gl, gk, hc, gi, gs, ho]
              refine .inl ⟨by kernel_rfl, ?_⟩
              refine round_normal (i + 1) (by omega) ?_ (by show k - (i + 1) < k - i; omega)
              simp -implicitDefEqProofs (maxSteps := 100000) (disch := first | (intros; contradiction) | omega) only [am0, am1, am2, am3, am4, am5, am6, am7, am8, am9, Nat.reduceSub, ↓reduceIte, reduceCtorEq, Nat.reduceEqDiff, Nat.reduceBEq, Nat.reduceAdd, Nat.reduceLT, Nat.reduceBNe, Nat.reduceMul, ↓reduceIte, tis, hn, ho]
            | true =>
              simp -implicitDefEqProofs (maxSteps := 100000) (disch := first | (intros; contradiction) | omega) only [am0, am1, am2, am3, am4, am5, am6, am7, am8, am9, Nat.reduceSub, ↓reduceIte, reduceCtorEq, Nat.reduceEqDiff, Nat.reduceBEq, Nat.reduceAdd, Nat.reduceLT, Nat.reduceBNe, Nat.reduceMul, ↓reduceIte, tis, rx, fls, gl, gk, hc, gi, gs, ho]
              refine .inl ⟨by kernel_rfl, ?_⟩
              refine callL cF ?_
              simp -implicitDefEqProofs (maxSteps := 100000) (disch := first | (intros; contradiction) | omega) only [am0, am1, am2, am3, am4, am5, am6, am7, am8, am9, Nat.reduceSub, ↓reduceIte, reduceCtorEq, Nat.reduceEqDiff, Nat.reduceBEq, Nat.reduceAdd, Nat.reduceLT, Nat.reduceBNe, Nat.reduceMul, ↓reduceIte, tis, rx, fls, gl, gk, hc, gi, gs, ho]
              refine round_normal (i + 1) (by omega) ?_ (by show k - (i + 1) < k - i; omega)
              simp -implicitDefEqProofs (maxSteps := 100000) (disch := first | (intros; contradiction) | omega) only [am0, am1, am2, am3, am4, am5, am6, am7, am8, am9, Nat.reduceSub, ↓reduceIte, reduceCtorEq, Nat.reduceEqDiff, Nat.reduceBEq, Nat.reduceAdd, Nat.reduceLT, Nat.reduceBNe, Nat.reduceMul, ↓reduceIte, tis, hn, ho, sub]
        · obtain rfl : i = k := by omega
          have hd := hdone (anyU (stG (mt r) t i) i) (by rw [okAt_g _ _ hk1])
          simp -implicitDefEqProofs (maxSteps := 100000) (disch := first | (intros; contradiction) | omega) only [am0, am1, am2, am3, am4, am5, am6, am7, am8, am9, Nat.reduceSub, ↓reduceIte, reduceCtorEq, Nat.reduceEqDiff, Nat.reduceBEq, Nat.reduceAdd, Nat.reduceLT, Nat.reduceBNe, Nat.reduceMul, ↓reduceIte, tis, rx, fls, gl, gk]
          refine round_normal (i + 1) ⟨by omega, by omega⟩ ?_ (by show t.length + 1 - (i + 1) < t.length + 1 - i; omega)
          simp -implicitDefEqProofs (maxSteps := 100000) (disch := first | (intros; contradiction) | omega) only [am0, am1, am2, am3, am4, am5, am6, am7, am8, am9, Nat.reduceSub, ↓reduceIte, reduceCtorEq, Nat.reduceEqDiff, Nat.reduceBEq, Nat.reduceAdd, Nat.reduceLT, Nat.reduceBNe, Nat.reduceMul, ↓reduceIte, tis, hd]
    · obtain rfl : k = t.length + 1 := by omega
      have e : (tab (t.length + 1) (tb (mt r) t (t.length + 1) false))[t.length]? = some (.bool (starB (mt r) t)) := by
        rw [tab_get _ (by omega)]; simp [tb, starB, okAt]
      simp -implicitDefEqProofs (maxSteps := 100000) (disch := first | (intros; contradiction) | omega) only [am0, am1, am2, am3, am4, am5, am6, am7, am8, am9, Nat.reduceSub, ↓reduceIte, reduceCtorEq, Nat.reduceEqDiff, Nat.reduceBEq, Nat.reduceAdd, Nat.reduceLT, Nat.reduceBNe, Nat.reduceMul, ↓reduceIte, tis, rx, fls, gl, e]
theorem mt_1 {r : Rex} (h : r.kind = 1) (t : Txt) : mt r t = (match t with | [c] => hasB r.set c.toNat | _ => false) := by
  rw [mt_eq]; unfold mtK; simp only [h, if_pos]
  all_goals (rcases t with _ | ⟨c, _ | _⟩ <;> rfl)
theorem mt_2 {r : Rex} (h : r.kind = 2) (t : Txt) : mt r t = decide (t.length = 0) := by rw [mt_eq]; simp [mtK, h]
theorem mt_3 {r : Rex} (h : r.kind = 3) {a b : Rex} (hk : r.kids = [a, b]) (t : Txt) : mt r t = catB (mt a) (mt b) t := by rw [mt_eq]; simp [mtK, h, hk]
theorem mt_4 {r : Rex} (h : r.kind = 4) {a b : Rex} (hk : r.kids = [a, b]) (t : Txt) : mt r t = (mt a t || mt b t) := by rw [mt_eq]; simp [mtK, h, hk]
theorem mt_5 {r : Rex} (h : r.kind = 5) {a : Rex} (hk : r.kids = [a]) (t : Txt) : mt r t = starB (mt a) t := by rw [mt_eq]; simp [mtK, h, hk]
theorem mt_6 {r : Rex} (h : r.kind = 6) {a b : Rex} (hk : r.kids = [a, b]) (t : Txt) : mt r t = (mt a t && mt b t) := by rw [mt_eq]; simp [mtK, h, hk]
theorem mt_7 {r : Rex} (h : r.kind = 7) {a : Rex} (hk : r.kids = [a]) (t : Txt) : mt r t = !mt a t := by rw [mt_eq]; simp [mtK, h, hk]
/-- spec.l3Is -/
theorem fits_l3Is (r : Rex) (d : Nat) (hf : fm d r = true) (hb : bd r ≤ 1048576) (t : Txt) (ht : t.length ≤ 1048576) : Fits prog 74 [eRex false r, .str t] (.bool (mt r t)) [] := by
  induction d generalizing r t with
  | zero => simp [fm] at hf
  | succ d ih =>
    have hb' := bd_eq r
    have hkk := fm_kind hf
    by_cases h1 : r.kind = 1
    · by_cases hl : t.length = 1
      · obtain ⟨c, rfl⟩ : ∃ c, t = [c] := by match t, hl with | [c], _ => exact ⟨c, rfl⟩
        have cS := fits_sSetHas r.set c.toNat (by omega)
        have hc : c.toNat < 256 := c.toNat_lt
        have e : mt r [c] = hasB r.set c.toNat := mt_1 h1 _
        rw [e, eRex_eq]
        refine fits_of_code [4] [] [0, 1, 2, 4, 6, 7, 20, 24, 36, 52, 60] func74 rfl rfl rfl (by rfl) (by show 2 ≤ 83; decide) (by rfl) (by rfl) (by show 0 ≤ 2; decide) (by rfl) (run_of ?_)
        simp -implicitDefEqProofs (maxSteps := 100000) (disch := first | (intros; contradiction) | omega) only [am0, am1, am2, am3, am4, am5, am6, am7, am8, am9, Nat.reduceSub, ↓reduceIte, reduceCtorEq, Nat.reduceEqDiff, Nat.reduceBEq, Nat.reduceAdd, Nat.reduceLT, Nat.reduceBNe, Nat.reduceMul, ↓reduceIte, tis, h1, rx, fls]
        refine .inl ⟨by kernel_rfl, ?_⟩
        refine callL cS ?_
        simp -implicitDefEqProofs (maxSteps := 100000) (disch := first | (intros; contradiction) | omega) only [am0, am1, am2, am3, am4, am5, am6, am7, am8, am9, Nat.reduceSub, ↓reduceIte, reduceCtorEq, Nat.reduceEqDiff, Nat.reduceBEq, Nat.reduceAdd, Nat.reduceLT, Nat.reduceBNe, Nat.reduceMul, ↓reduceIte, tis, h1, rx, fls]
      · have e : mt r t = false := by
          rw [mt_1 h1]
          match t, hl with
          | [], _ => rfl
          | [_], h => simp at h
          | _ :: _ :: _, _ => rfl
        have hl2 : (t.length : Int) ≠ 1 := by omega
        rw [e, eRex_eq]
        refine fits_of_code [4] [] [0, 1, 2, 4, 6, 7, 20, 24, 36, 52, 60] func74 rfl rfl rfl (by rfl) (by show 2 ≤ 83; decide) (by rfl) (by rfl) (by show 0 ≤ 2; decide) (by rfl) (run_of ?_)
        simp -implicitDefEqProofs (maxSteps := 100000) (disch := first | (intros; contradiction) | omega) only [am0, am1, am2, am3, am4, am5, am6, am7, am8, am9, Nat.reduceSub, ↓reduceIte, reduceCtorEq, Nat.reduceEqDiff, Nat.reduceBEq, Nat.reduceAdd, Nat.reduceLT, Nat.reduceBNe, Nat.reduceMul, ↓reduceIte, tis, h1, rx, fls, hl2]
        refine .inl ?_
        kernel_rfl
    by_cases h2 : r.kind = 2
    · rw [mt_2 h2, eRex_eq]
      refine fits_of_code [4] [] [0, 1, 2, 4, 6, 7, 20, 24, 36, 52, 60] func74 rfl rfl rfl (by rfl) (by show 2 ≤ 83; decide) (by rfl) (by rfl) (by show 0 ≤ 2; decide) (by rfl) (run_of ?_)
      simp -implicitDefEqProofs (maxSteps := 100000) (disch := first | (intros; contradiction) | omega) only [am0, am1, am2, am3, am4, am5, am6, am7, am8, am9, Nat.reduceSub, ↓reduceIte, reduceCtorEq, Nat.reduceEqDiff, Nat.reduceBEq, Nat.reduceAdd, Nat.reduceLT, Nat.reduceBNe, Nat.reduceMul, ↓reduceIte, tis, h2, rx, fls]
      cases t <;> simp
    by_cases h3 : r.kind = 3
    · obtain ⟨a, b, hk, fa, fb, ba, bb⟩ := fm_two hf (.inl h3)
      have cC := fits_l3Cat a b t ht (fun u hu => ih a fa (by omega) u hu) (fun u hu => ih b fb (by omega) u hu)
      rw [mt_3 h3 hk]
      simp only [eRex_eq] at *
      refine fits_of_code [4] [] [0, 1, 2, 4, 6, 7, 20, 24, 36, 52, 60] func74 rfl rfl rfl (by rfl) (by show 2 ≤ 83; decide) (by rfl) (by rfl) (by show 0 ≤ 2; decide) (by rfl) (run_of ?_)
      simp -implicitDefEqProofs (maxSteps := 100000) (disch := first | (intros; contradiction) | omega) only [am0, am1, am2, am3, am4, am5, am6, am7, am8, am9, Nat.reduceSub, ↓reduceIte, reduceCtorEq, Nat.reduceEqDiff, Nat.reduceBEq, Nat.reduceAdd, Nat.reduceLT, Nat.reduceBNe, Nat.reduceMul, ↓reduceIte, tis, h3, rx, fls, hk, eRex_eq]
      refine .inl ⟨by kernel_rfl, ?_⟩
      refine callL cC ?_
      simp -implicitDefEqProofs (maxSteps := 100000) (disch := first | (intros; contradiction) | omega) only [am0, am1, am2, am3, am4, am5, am6, am7, am8, am9, Nat.reduceSub, ↓reduceIte, reduceCtorEq, Nat.reduceEqDiff, Nat.reduceBEq, Nat.reduceAdd, Nat.reduceLT, Nat.reduceBNe, Nat.reduceMul, ↓reduceIte, tis, h3, rx, fls]
    by_cases h4 : r.kind = 4
    · obtain ⟨a, b, hk, fa, fb, ba, bb⟩ := fm_two hf (.inr (.inl h4))
      have cA := ih a fa (by omega) t ht
      have cB := ih b fb (by omega) t ht
      rw [mt_4 h4 hk]
      simp only [eRex_eq] at *
      refine fits_of_code [4] [] [0, 1, 2, 4, 6, 7, 20, 24, 36, 52, 60] func74 rfl rfl rfl (by rfl) (by show 2 ≤ 83; decide) (by rfl) (by rfl) (by show 0 ≤ 2; decide) (by rfl) (run_of ?_)
      simp -implicitDefEqProofs (maxSteps := 100000) (disch := first | (intros; contradiction) | omega) only [am0, am1, am2, am3, am4, am5, am6, am7, am8, am9, Nat.reduceSub, ↓reduceIte, reduceCtorEq, Nat.reduceEqDiff, Nat.reduceBEq, Nat.reduceAdd, Nat.reduceLT, Nat.reduceBNe, Nat.reduceMul, ↓reduceIte, tis, h4, rx, fls, hk, eRex_eq]
      refine callB cA ?_
      cases hA : mt a t with
      | true => simp -implicitDefEqProofs (maxSteps := 100000) (disch := first | (intros; contradiction) | omega) only [am0, am1, am2, am3, am4, am5, am6, am7, am8, am9, Nat.reduceSub, ↓reduceIte, reduceCtorEq, Nat.reduceEqDiff, Nat.reduceBEq, Nat.reduceAdd, Nat.reduceLT, Nat.reduceBNe, Nat.reduceMul, ↓reduceIte, tis, h4, rx, fls, hk, eRex_eq]
      | false =>
        simp -implicitDefEqProofs (maxSteps := 100000) (disch := first | (intros; contradiction) | omega) only [am0, am1, am2, am3, am4, am5, am6, am7, am8, am9, Nat.reduceSub, ↓reduceIte, reduceCtorEq, Nat.reduceEqDiff, Nat.reduceBEq, Nat.reduceAdd, Nat.reduceLT, Nat.reduceBNe, Nat.reduceMul, ↓reduceIte, tis, h4, rx, fls, hk, eRex_eq]
        refine callB cB ?_
        simp -implicitDefEqProofs (maxSteps := 100000) (disch := first | (intros; contradiction) | omega) only [am0, am1, am2, am3, am4, am5, am6, am7, am8, am9, Nat.reduceSub, ↓reduceIte, reduceCtorEq, Nat.reduceEqDiff, Nat.reduceBEq, Nat.reduceAdd, Nat.reduceLT, Nat.reduceBNe, Nat.reduceMul, ↓reduceIte, tis, h4, rx, fls]
    by_cases h5 : r.kind = 5
    · obtain ⟨a, hk, fa, ba⟩ := fm_one hf (.inl h5)
      have cS := fits_l3Star a t ht (fun u hu => ih a fa (by omega) u hu)
      rw [mt_5 h5 hk]
      simp only [eRex_eq] at *
      refine fits_of_code [4] [] [0, 1, 2, 4, 6, 7, 20, 24, 36, 52, 60] func74 rfl rfl rfl (by rfl) (by show 2 ≤ 83; decide) (by rfl) (by rfl) (by show 0 ≤ 2; decide) (by rfl) (run_of ?_)
      simp -implicitDefEqProofs (maxSteps := 100000) (disch := first | (intros; contradiction) | omega) only [am0, am1, am2, am3, am4, am5, am6, am7, am8, am9, Nat.reduceSub, ↓reduceIte, reduceCtorEq, Nat.reduceEqDiff, Nat.reduceBEq, Nat.reduceAdd, Nat.reduceLT, Nat.reduceBNe, Nat.reduceMul, ↓reduceIte, tis, h5, rx, fls, hk, eRex_eq]
      refine callB cS ?_
      simp -implicitDefEqProofs (maxSteps := 100000) (disch := first | (intros; contradiction) | omega) only [am0, am1, am2, am3, am4, am5, am6, am7, am8, am9, Nat.reduceSub, ↓reduceIte, reduceCtorEq, Nat.reduceEqDiff, Nat.reduceBEq, Nat.reduceAdd, Nat.reduceLT, Nat.reduceBNe, Nat.reduceMul, ↓reduceIte, tis, h5, rx, fls]
    by_cases h6 : r.kind = 6
    · obtain ⟨a, b, hk, fa, fb, ba, bb⟩ := fm_two hf (.inr (.inr h6))
      have cA := ih a fa (by omega) t ht
      have cB := ih b fb (by omega) t ht
      rw [mt_6 h6 hk]
      simp only [eRex_eq] at *
      refine fits_of_code [4] [] [0, 1, 2, 4, 6, 7, 20, 24, 36, 52, 60] func74 rfl rfl rfl (by rfl) (by show 2 ≤ 83; decide) (by rfl) (by rfl) (by show 0 ≤ 2; decide) (by rfl) (run_of ?_)
      simp -implicitDefEqProofs (maxSteps := 100000) (disch := first | (intros; contradiction) | omega) only [am0, am1, am2, am3, am4, am5, am6, am7, am8, am9, Nat.reduceSub, ↓reduceIte, reduceCtorEq, Nat.reduceEqDiff, Nat.reduceBEq, Nat.reduceAdd, Nat.reduceLT, Nat.reduceBNe, Nat.reduceMul, ↓reduceIte, tis, h6, rx, fls, hk, eRex_eq]
      refine callB cA ?_
      cases hA : mt a t with
      | false => simp -implicitDefEqProofs (maxSteps := 100000) (disch := first | (intros; contradiction) | omega) only [am0, am1, am2, am3, am4, am5, am6, am7, am8, am9, Nat.reduceSub, ↓reduceIte, reduceCtorEq, Nat.reduceEqDiff, Nat.reduceBEq, Nat.reduceAdd, Nat.reduceLT, Nat.reduceBNe, Nat.reduceMul, ↓reduceIte, tis, h6, rx, fls, hk, eRex_eq]
      | true =>
        simp -implicitDefEqProofs (maxSteps := 100000) (disch := first | (intros; contradiction) | omega) only [am0, am1, am2, am3, am4, am5, am6, am7, am8, am9, Nat.reduceSub, ↓reduceIte, reduceCtorEq, Nat.reduceEqDiff, Nat.reduceBEq, Nat.reduceAdd, Nat.reduceLT, Nat.reduceBNe, Nat.reduceMul, ↓reduceIte, tis, h6, rx, fls, hk, eRex_eq]
        refine callB cB ?_
        simp -implicitDefEqProofs (maxSteps := 100000) (disch := first | (intros; contradiction) | omega) only [am0, am1, am2, am3, am4, am5, am6, am7, am8, am9, Nat.reduceSub, ↓reduceIte, reduceCtorEq, Nat.reduceEqDiff, Nat.reduceBEq, Nat.reduceAdd, Nat.reduceLT, Nat.reduceBNe, Nat.reduceMul, ↓reduceIte, tis, h6, rx, fls]
    · have h7 : r.kind = 7 := by omega
      obtain ⟨a, hk, fa, ba⟩ := fm_one hf (.inr h7)
      have cA := ih a fa (by omega) t ht
      rw [mt_7 h7 hk]
      simp only [eRex_eq] at *
      refine fits_of_code [4] [] [0, 1, 2, 4, 6, 7, 20, 24, 36, 52, 60] func74 rfl rfl rfl (by rfl) (by show 2 ≤ 83; decide) (by rfl) (by rfl) (by show 0 ≤ 2; decide) (by rfl) (run_of ?_)
      simp -implicitDefEqProofs (maxSteps := 100000) (disch := first | (intros; contradiction) | omega) only [am0, am1, am2, am3, am4, am5, am6, am7, am8, am9, Nat.reduceSub, ↓reduceIte, reduceCtorEq, Nat.reduceEqDiff, Nat.reduceBEq, Nat.reduceAdd, Nat.reduceLT, Nat.reduceBNe, Nat.reduceMul, ↓reduceIte, tis, h7, rx, fls, hk, eRex_eq]
      refine callB cA ?_
      simp -implicitDefEqProofs (maxSteps := 100000) (disch := first | (intros; contradiction) | omega) only [am0, am1, am2, am3, am4, am5, am6, am7, am8, am9, Nat.reduceSub, ↓reduceIte, reduceCtorEq, Nat.reduceEqDiff, Nat.reduceBEq, Nat.reduceAdd, Nat.reduceLT, Nat.reduceBNe, Nat.reduceMul, ↓reduceIte, tis, h7, rx, fls]
/-! Tables of what pieces of a text are like. -/
def mR (m : Nat → Nat → Bool) (i : Nat) : List AV := tab 13 fun j => .bool (m i j)
def mE (m : Nat → Nat → Bool) : List AV := tab 13 fun i => .arr 1 (mR m i)
theorem mR_len (m i) : (mR m i).length = 13 := tab_len _ _
theorem mE_len (m) : (mE m).length = 13 := tab_len _ _
theorem mR_get (m i) {j : Nat} (h : j < 13) : (mR m i)[j]? = some (.bool (m i j)) := tab_get _ h
theorem mE_get (m) {i : Nat} (h : i < 13) : (mE m)[i]? = some (.arr 1 (mR m i)) := tab_get _ h
theorem mR_getD (m i) {j : Nat} (h : j < 13) : (mR m i).getD j .undef = .bool (m i j) := tab_getD _ _ h
theorem mE_getD (m) {i : Nat} (h : i < 13) : (mE m).getD i .undef = .arr 1 (mR m i) := tab_getD _ _ h
theorem mE_ext {m m' : Nat → Nat → Bool} (h : ∀ i j, i < 13 → j < 13 → m i j = m' i j) : mE m = mE m' := by
  refine tab_ext fun i hi => ?_
  congr 1
  exact tab_ext fun j hj => by rw [h i j hi hj]
theorem mE_set (m) (i j : Nat) (b : Bool) : (mE m).set i (.arr 1 ((mR m i).set j (.bool b))) = mE (fun i' j' => if i' = i ∧ j' = j then b else m i' j') := by
  unfold mE mR
  rw [tab_set, tab_set]
  refine tab_ext fun i' hi => ?_
  by_cases h : i' = i
  · subst h
    rw [if_pos rfl]
    congr 1
    refine tab_ext fun j' hj => ?_
    by_cases h2 : j' = j
    · subst h2; simp
    · simp [h2]
  · rw [if_neg h]
    congr 1
    refine tab_ext fun j' hj => ?_
    simp [h]
theorem mR_plain (m i) : plainL (mR m i) = true := by rw [plainL_all]; unfold mR tab; simp [plain]
theorem mE_plain (m) : plainL (mE m) = true := by rw [plainL_all]; unfold mE tab; simp [plain, mR_plain]
theorem mR_closed (m i) : closedL (mR m i) = true := by rw [closedL_all]; unfold mR tab; simp [closed]
theorem mE_closed (m) : closedL (mE m) = true := by rw [closedL_all]; unfold mE tab; simp [closed, mR_closed]
theorem mR_erase (m i) : eraseL (mR m i) = mR m i := by rw [eraseL_map]; unfold mR tab; simp [erase]
theorem mE_erase (m) : eraseL (mE m) = mE m := by rw [eraseL_map]; unfold mE tab; simp [erase, mR_erase]
theorem mR_dead (m i) : deadL (mR m i) = mR m i := by rw [deadL_map]; unfold mR tab; simp [dead]
theorem mE_dead (m) : deadL (mE m) = mE m := by rw [deadL_map]; unfold mE tab; simp [dead, mR_dead]
theorem rigL_all : ∀ l : List AV, (∀ x ∈ l, rigC x = true) → rigL l = true
  | [], _ => by rw [rigL]
  | x :: r, h => by rw [rigL, h x (List.mem_cons_self ..), rigL_all r fun y hy => h y (List.mem_cons_of_mem _ hy)]; rfl
theorem mR_rig (m i) : rigL (mR m i) = true := rigL_all _ fun x hx => by
  unfold mR tab at hx; obtain ⟨j, _, rfl⟩ := List.mem_map.1 hx; rw [rigC]
theorem mE_rig (m) : rigL (mE m) = true := rigL_all _ fun x hx => by
  unfold mE tab at hx; obtain ⟨j, _, rfl⟩ := List.mem_map.1 hx; rw [rigC]; exact mR_rig _ _
theorem mR_stor (m i) : ∀ x, x ∈ mR m i → false = x.isAgg ∧ x.stor = true := by
  intro x hx; unfold mR tab at hx; obtain ⟨j, _, rfl⟩ := List.mem_map.1 hx; exact ⟨rfl, rfl⟩
theorem mE_stor (m) : ∀ x, x ∈ mE m → true = x.isAgg ∧ x.stor = true := by
  intro x hx; unfold mE tab at hx; obtain ⟨j, _, rfl⟩ := List.mem_map.1 hx; exact ⟨rfl, rfl⟩
/-- All that is known of such tables as a whole. -/
theorem mF : (∀ m i, (mR m i).length = 13) ∧ (∀ m, (mE m).length = 13) ∧ (∀ m i, plainL (mR m i) = true) ∧ (∀ m, plainL (mE m) = true) ∧ (∀ m i, closedL (mR m i) = true) ∧ (∀ m, closedL (mE m) = true) ∧
    (∀ m i, eraseL (mR m i) = mR m i) ∧ (∀ m, eraseL (mE m) = mE m) ∧ (∀ m i, deadL (mR m i) = mR m i) ∧ (∀ m, deadL (mE m) = mE m) ∧ (∀ m, rigL (mE m) = true) ∧
    (∀ m i (j : Nat), j < 13 → (mR m i)[j]? = some (.bool (m i j))) ∧ (∀ m (i : Nat), i < 13 → (mE m)[i]? = some (.arr 1 (mR m i))) ∧ (∀ m i j b, (mE m).set i (.arr 1 ((mR m i).set j (.bool b))) = mE (fun i' j' => if i' = i ∧ j' = j then b else m i' j')) :=
  ⟨mR_len, mE_len, mR_plain, mE_plain, mR_closed, mE_closed, mR_erase, mE_erase, mR_dead, mE_dead, mE_rig, fun m i _ h => mR_get m i h, fun m _ h => mE_get m h, mE_set⟩
def mZ : Nat → Nat → Bool := fun _ _ => false
theorem mZ_rep : mE mZ = List.replicate 13 (.arr 1 (List.replicate 13 (.bool false))) := by
  unfold mE mR; rw [rep_tab, rep_tab]; rfl
def mtx (r : Rex) (t : Txt) (i j : Nat) : Bool := decide (i ≤ j ∧ j ≤ t.length) && mt r (sub t i j)
def part (r : Rex) (t : Txt) (size i0 i j : Nat) : Bool := decide (i ≤ j ∧ j ≤ t.length ∧ (j - i < size ∨ (j - i = size ∧ i < i0))) && mt r (sub t i j)
theorem part_0 (r : Rex) (t : Txt) : mE (part r t 0 0) = mE mZ := mE_ext fun i j _ _ => by
  unfold part mZ; rw [decide_eq_false (by omega)]; rfl
theorem part_end (r : Rex) (t : Txt) : mE (part r t (t.length + 1) 0) = mE (mtx r t) := mE_ext fun i j _ _ => by
  unfold part mtx; congr 1; simp only [decide_eq_decide]; omega
theorem part_row (r : Rex) (t : Txt) (size : Nat) (h : size ≤ t.length) : mE (part r t size (t.length - size + 1)) = mE (part r t (size + 1) 0) := mE_ext fun i j _ _ => by
  unfold part; congr 1; simp only [decide_eq_decide]; omega
theorem part_one (r : Rex) (t : Txt) (size i : Nat) (h : i + size ≤ t.length) {b : Bool} (hb : b = mt r (sub t i (i + size))) :
    mE (fun i' j' => if i' = i ∧ j' = i + size then b else part r t size i i' j') = mE (part r t size (i + 1)) := mE_ext fun i' j' _ _ => by
  by_cases hh : i' = i ∧ j' = i + size
  · obtain ⟨rfl, rfl⟩ := hh
    rw [if_pos ⟨rfl, rfl⟩, hb]
    unfold part; rw [decide_eq_true (by omega)]; rfl
  · rw [if_neg hh]
    unfold part; congr 1; simp only [decide_eq_decide]; omega
/-- The tables of the parts. -/
def kidM (r : Rex) (t : Txt) (n j : Nat) : Nat → Nat → Bool := if j < n then (match r.kids[j]? with | some x => mtx x t | none => mZ) else mZ
theorem mtx_in {r : Rex} {t : Txt} {i j : Nat} (h1 : i ≤ j) (h2 : j ≤ t.length) : mtx r t i j = mt r (sub t i j) := by
  unfold mtx; rw [decide_eq_true ⟨h1, h2⟩]; rfl
theorem kidM_0 {r : Rex} {t : Txt} {a : Rex} {l : List Rex} (h : r.kids = a :: l) : kidM r t r.kids.length 0 = mtx a t := by
  unfold kidM; rw [if_pos (by rw [h]; simp)]; simp [h]
theorem kidM_1 {r : Rex} {t : Txt} {a b : Rex} {l : List Rex} (h : r.kids = a :: b :: l) : kidM r t r.kids.length 1 = mtx b t := by
  unfold kidM; rw [if_pos (by rw [h]; simp)]; simp [h]
theorem kidM_z (r : Rex) (t : Txt) (j : Nat) : kidM r t 0 j = mZ := by unfold kidM; rw [if_neg (by omega)]
theorem cat_val {a b r : Rex} {t : Txt} {i j : Nat} (h1 : i ≤ j) (h2 : j ≤ t.length) : anyU (fun x => mtx a t i (i + x) && mtx b t (i + x) j) (j - i + 1) = catB (mt a) (mt b) (sub t i j) := by
  unfold catB
  rw [sub_len h2]
  refine anyU_ext _ fun x hx => ?_
  rw [mtx_in (by omega) (by omega), mtx_in (by omega) (by omega), sub_take (by omega), sub_drop]
theorem star_val {a r : Rex} {t : Txt} (h5 : r.kind = 5) (hk : r.kids = [a]) {i size : Nat} (h2 : i + size ≤ t.length) :
    (decide (size = 0) || anyU (fun x => mtx a t i (i + 1 + x) && part r t size i (i + 1 + x) (i + size)) size) = mt r (sub t i (i + size)) := by
  rw [mt_5 h5 hk, starB_step, sub_len h2]
  have e : i + size - i = size := by omega
  rw [e]
  congr 1
  refine anyU_ext _ fun x hx => ?_
  rw [mtx_in (by omega) (by omega), sub_take (by omega), sub_drop, ← mt_5 h5 hk]
  unfold part
  rw [decide_eq_true (by omega)]
  simp only [Bool.true_and]
  rw [show i + (x + 1) = i + 1 + x by omega]
/-- impl.piecesOf -/
theorem fits_piecesOf (r : Rex) (d : Nat) (hf : fm d r = true) (hb : bd r ≤ 1048576) (t : Txt) (ht : t.length ≤ 12) : Fits prog 79 [eRex false r, .str t] (.arr 13 (mE (mtx r t))) [] := by
  induction d generalizing r with
  | zero => simp [fm] at hf
  | succ d ih =>
    have hb' := bd_eq r
    have hkk := fm_kind hf
    have hk2 := fm_kids hf
    have h4 := (fm_ok hf).2.2.2
    have zr := mZ_rep.symm
    have cS := fun b => fits_setHas r.set b (by omega)
    rw [eRex_eq]
    refine fits_of_cell 4 111 [] [0, 1, 2, 4, 5, 6, 7, 8, 9, 10, 11, 12, 13, 14, 15, 16, 17, 19, 20, 21, 22, 40, 47, 54, 55, 68, 72, 77, 95, 109, 117, 135, 149] func79 rfl rfl rfl (by show 4 < 163; decide) (by show 2 ≤ 163; decide) (by rfl) (by rfl) (by show 0 ≤ 2; decide) (by rfl) (run_of ?_)
    simp -implicitDefEqProofs (maxSteps := 100000) (disch := first | (intros; contradiction) | omega) only [am0, am1, am2, am3, am4, am5, am6, am7, am8, am9, Nat.reduceSub, ↓reduceIte, reduceCtorEq, Nat.reduceEqDiff, Nat.reduceBEq, Nat.reduceAdd, Nat.reduceLT, Nat.reduceBNe, Nat.reduceMul, ↓reduceIte, tis, rx, fls, ↓zr, mF]
    refine run_loop (α := Nat) (fun i => i ≤ r.kids.length) (fun i => [(1, .str t), (2, .box (.agg [.int .i64 r.kind, .sl false 2 (r.set.map eSpan), .sl false 3 (r.kids.map (eRex false))])), (4, .box (.arr 13 (mE mZ))), (5, .box (.arr 169 [.arr 13 (mE (kidM r t i 0)), .arr 13 (mE (kidM r t i 1))])), (19, .sl false 3 (r.kids.map (eRex false))), (20, .int .i64 r.kids.length), (21, .int .i64 i)]) (fun i => r.kids.length - i) 0 (Nat.zero_le _) ?_ ?_
    · simp -implicitDefEqProofs (maxSteps := 100000) (disch := first | (intros; contradiction) | omega) only [am0, am1, am2, am3, am4, am5, am6, am7, am8, am9, Nat.reduceSub, ↓reduceIte, reduceCtorEq, Nat.reduceEqDiff, Nat.reduceBEq, Nat.reduceAdd, Nat.reduceLT, Nat.reduceBNe, Nat.reduceMul, ↓reduceIte, tis, kidM_z]
    · intro i hi'
      by_cases hi : i < r.kids.length
      · have hm := List.getElem_mem hi
        have cF := ih r.kids[i] (h4 _ hm) (Nat.le_trans (bd_kid hm) hb)
        have hg : r.kids[i]? = some r.kids[i] := List.getElem?_eq_getElem hi
        have hnext : ∀ j, mE (kidM r t (i + 1) j) = if j = i then mE (mtx r.kids[i] t) else mE (kidM r t i j) := by
          intro j
          by_cases h : j = i
          · subst h; simp [kidM, hg]
          · rw [if_neg h]; unfold kidM
            by_cases h2 : j < i
            · rw [if_pos h2, if_pos (by omega)]
            · rw [if_neg h2, if_neg (by omega)]
        rcases (by omega : i = 0 ∨ i = 1) with rfl | rfl
        · have n0 := hnext 0
          have n1 := hnext 1
          simp only [if_true, Nat.one_ne_zero, if_false] at n0 n1
          rw [eRex_eq] at cF
          simp -implicitDefEqProofs (maxSteps := 100000) (disch := first | (intros; contradiction) | omega) only [am0, am1, am2, am3, am4, am5, am6, am7, am8, am9, Nat.reduceSub, ↓reduceIte, reduceCtorEq, Nat.reduceEqDiff, Nat.reduceBEq, Nat.reduceAdd, Nat.reduceLT, Nat.reduceBNe, Nat.reduceMul, ↓reduceIte, tis, rx, fls, mF, show ((0 : Nat) : Int) = 0 from rfl, eRex_eq false r.kids[0]]
          refine callB cF ?_
          simp -implicitDefEqProofs (maxSteps := 100000) (disch := first | (intros; contradiction) | omega) only [am0, am1, am2, am3, am4, am5, am6, am7, am8, am9, Nat.reduceSub, ↓reduceIte, reduceCtorEq, Nat.reduceEqDiff, Nat.reduceBEq, Nat.reduceAdd, Nat.reduceLT, Nat.reduceBNe, Nat.reduceMul, ↓reduceIte, tis, rx, fls, mF, Nat.reduceMul]
          refine round_normal 1 (by omega) ?_ (by show r.kids.length - 1 < r.kids.length - 0; omega)
          simp -implicitDefEqProofs (maxSteps := 100000) (disch := first | (intros; contradiction) | omega) only [am0, am1, am2, am3, am4, am5, am6, am7, am8, am9, Nat.reduceSub, ↓reduceIte, reduceCtorEq, Nat.reduceEqDiff, Nat.reduceBEq, Nat.reduceAdd, Nat.reduceLT, Nat.reduceBNe, Nat.reduceMul, ↓reduceIte, tis, n0, n1, show ((1 : Nat) : Int) = 1 from rfl]
        · have n0 := hnext 0
          have n1 := hnext 1
          simp only [if_true, Nat.zero_ne_one, if_false] at n0 n1
          rw [eRex_eq] at cF
          simp -implicitDefEqProofs (maxSteps := 100000) (disch := first | (intros; contradiction) | omega) only [am0, am1, am2, am3, am4, am5, am6, am7, am8, am9, Nat.reduceSub, ↓reduceIte, reduceCtorEq, Nat.reduceEqDiff, Nat.reduceBEq, Nat.reduceAdd, Nat.reduceLT, Nat.reduceBNe, Nat.reduceMul, ↓reduceIte, tis, rx, fls, mF, show ((1 : Nat) : Int) = 1 from rfl, eRex_eq false r.kids[1]]
          refine callB cF ?_
          simp -implicitDefEqProofs (maxSteps := 100000) (disch := first | (intros; contradiction) | omega) only [am0, am1, am2, am3, am4, am5, am6, am7, am8, am9, Nat.reduceSub, ↓reduceIte, reduceCtorEq, Nat.reduceEqDiff, Nat.reduceBEq, Nat.reduceAdd, Nat.reduceLT, Nat.reduceBNe, Nat.reduceMul, ↓reduceIte, tis, rx, fls, mF, Nat.reduceMul]
          refine round_normal 2 (by omega) ?_ (by show r.kids.length - 2 < r.kids.length - 1; omega)
          simp -implicitDefEqProofs (maxSteps := 100000) (disch := first | (intros; contradiction) | omega) only [am0, am1, am2, am3, am4, am5, am6, am7, am8, am9, Nat.reduceSub, ↓reduceIte, reduceCtorEq, Nat.reduceEqDiff, Nat.reduceBEq, Nat.reduceAdd, Nat.reduceLT, Nat.reduceBNe, Nat.reduceMul, ↓reduceIte, tis, n0, n1, show ((2 : Nat) : Int) = 2 from rfl]
          omega
      · obtain rfl : i = r.kids.length := by omega
        generalize hAA : kidM r t r.kids.length 0 = A at *
        generalize hBB : kidM r t r.kids.length 1 = B at *
        simp -implicitDefEqProofs (maxSteps := 100000) (disch := first | (intros; contradiction) | omega) only [am0, am1, am2, am3, am4, am5, am6, am7, am8, am9, Nat.reduceSub, ↓reduceIte, reduceCtorEq, Nat.reduceEqDiff, Nat.reduceBEq, Nat.reduceAdd, Nat.reduceLT, Nat.reduceBNe, Nat.reduceMul, ↓reduceIte, tis, rx, fls, mF]
        refine .inr (run_late 6 [[2, 3], []] (by kernel_rfl) ?_)
        simp -implicitDefEqProofs (maxSteps := 100000) (disch := first | (intros; contradiction) | omega) only [am0, am1, am2, am3, am4, am5, am6, am7, am8, am9, Nat.reduceSub, ↓reduceIte, reduceCtorEq, Nat.reduceEqDiff, Nat.reduceBEq, Nat.reduceAdd, Nat.reduceLT, Nat.reduceBNe, Nat.reduceMul, ↓reduceIte, tis, rx, fls, mF, ↓zr, Nat.reduceMul]
        refine run_loop (α := Nat) (fun size => size ≤ t.length + 1) (fun size => [(1, .str t), (2, .box (.agg [.int .i64 r.kind, .sl false 2 (r.set.map eSpan), .sl false 3 (r.kids.map (eRex false))])), (4, .box (.arr 13 (mE mZ))), (8, .box (.arr 13 (mE A))), (9, .box (.arr 13 (mE B))), (10, .int .i64 t.length), (11, .box (.arr 13 (mE (part r t size 0)))), (12, .int .i64 size)]) (fun size => t.length + 1 - size) 0 (Nat.zero_le _) ?_ ?_
        · simp -implicitDefEqProofs (maxSteps := 100000) (disch := first | (intros; contradiction) | omega) only [am0, am1, am2, am3, am4, am5, am6, am7, am8, am9, Nat.reduceSub, ↓reduceIte, reduceCtorEq, Nat.reduceEqDiff, Nat.reduceBEq, Nat.reduceAdd, Nat.reduceLT, Nat.reduceBNe, Nat.reduceMul, ↓reduceIte, tis, part_0]
        · intro size hs'
          by_cases hs : size ≤ t.length
          · simp -implicitDefEqProofs (maxSteps := 100000) (disch := first | (intros; contradiction) | omega) only [am0, am1, am2, am3, am4, am5, am6, am7, am8, am9, Nat.reduceSub, ↓reduceIte, reduceCtorEq, Nat.reduceEqDiff, Nat.reduceBEq, Nat.reduceAdd, Nat.reduceLT, Nat.reduceBNe, Nat.reduceMul, ↓reduceIte, tis]
            refine run_loop (α := Nat) (fun i => i ≤ t.length - size + 1) (fun i => [(1, .str t), (2, .box (.agg [.int .i64 r.kind, .sl false 2 (r.set.map eSpan), .sl false 3 (r.kids.map (eRex false))])), (4, .box (.arr 13 (mE mZ))), (8, .box (.arr 13 (mE A))), (9, .box (.arr 13 (mE B))), (10, .int .i64 t.length), (11, .box (.arr 13 (mE (part r t size i)))), (12, .int .i64 size), (13, .int .i64 i)]) (fun i => t.length - size + 1 - i) 0 (Nat.zero_le _) ?_ ?_
            · simp -implicitDefEqProofs (maxSteps := 100000) (disch := first | (intros; contradiction) | omega) only [am0, am1, am2, am3, am4, am5, am6, am7, am8, am9, Nat.reduceSub, ↓reduceIte, reduceCtorEq, Nat.reduceEqDiff, Nat.reduceBEq, Nat.reduceAdd, Nat.reduceLT, Nat.reduceBNe, Nat.reduceMul, ↓reduceIte, tis]
            · intro i hi'
              by_cases hi : i + size ≤ t.length
              · have ej : ((i : Int) + (size : Int)).toNat = i + size := by omega
                have ej2 : ((size : Int) + (i : Int)).toNat = i + size := by omega
                have fin := fun b hb => part_one r t size i hi (b := b) hb
                by_cases h1 : r.kind = 1
                · by_cases hsz : (size : Int) = 1
                  · have hit : i < t.length := by omega
                    have e : sub t i (i + size) = [t[i]] := by
                      obtain rfl : size = 1 := by omega
                      unfold sub; rw [List.drop_take, List.drop_eq_getElem_cons hit, show i + 1 - i = 1 by omega]; rfl
                    have eg : t.getD i 0 = t[i] := by simp [List.getD, hit]
                    have hc : t[i].toNat < 256 := t[i].toNat_lt
                    simp -implicitDefEqProofs (maxSteps := 100000) (disch := first | (intros; contradiction) | omega) only [am0, am1, am2, am3, am4, am5, am6, am7, am8, am9, Nat.reduceSub, ↓reduceIte, reduceCtorEq, Nat.reduceEqDiff, Nat.reduceBEq, Nat.reduceAdd, Nat.reduceLT, Nat.reduceBNe, Nat.reduceMul, ↓reduceIte, tis, h1, hsz, rx, fls, mF, eg]
                    refine .inl ⟨by kernel_rfl, ?_⟩
                    refine callL (cS t[i].toNat) ?_
                    simp -implicitDefEqProofs (maxSteps := 100000) (disch := first | (intros; contradiction) | omega) only [am0, am1, am2, am3, am4, am5, am6, am7, am8, am9, Nat.reduceSub, ↓reduceIte, reduceCtorEq, Nat.reduceEqDiff, Nat.reduceBEq, Nat.reduceAdd, Nat.reduceLT, Nat.reduceBNe, Nat.reduceMul, ↓reduceIte, tis, h1, hsz, rx, fls, mF, ej]
                    refine round_normal (i + 1) (by omega) ?_ (by show t.length - size + 1 - (i + 1) < t.length - size + 1 - i; omega)
                    simp -implicitDefEqProofs (maxSteps := 100000) (disch := first | (intros; contradiction) | omega) only [am0, am1, am2, am3, am4, am5, am6, am7, am8, am9, Nat.reduceSub, ↓reduceIte, reduceCtorEq, Nat.reduceEqDiff, Nat.reduceBEq, Nat.reduceAdd, Nat.reduceLT, Nat.reduceBNe, Nat.reduceMul, ↓reduceIte, tis, h1]
                    have fin2 := fin (hasB r.set t[i].toNat) (by rw [mt_1 h1, e])
                    have hs1 : size = 1 := by omega
                    subst hs1
                    exact fin2
                  · have e : mt r (sub t i (i + size)) = false := by
                      have := sub_len (t := t) (i := i) (j := i + size) hi
                      rw [mt_1 h1]
                      match hsb : sub t i (i + size), this with
                      | [], _ => rfl
                      | [_], h => simp at h; omega
                      | _ :: _ :: _, _ => rfl
                    simp -implicitDefEqProofs (maxSteps := 100000) (disch := first | (intros; contradiction) | omega) only [am0, am1, am2, am3, am4, am5, am6, am7, am8, am9, Nat.reduceSub, ↓reduceIte, reduceCtorEq, Nat.reduceEqDiff, Nat.reduceBEq, Nat.reduceAdd, Nat.reduceLT, Nat.reduceBNe, Nat.reduceMul, ↓reduceIte, tis, h1, hsz, rx, fls, mF, ej]
                    refine .inl ⟨by kernel_rfl, ?_⟩
                    refine round_normal (i + 1) (by omega) ?_ (by show t.length - size + 1 - (i + 1) < t.length - size + 1 - i; omega)
                    simp -implicitDefEqProofs (maxSteps := 100000) (disch := first | (intros; contradiction) | omega) only [am0, am1, am2, am3, am4, am5, am6, am7, am8, am9, Nat.reduceSub, ↓reduceIte, reduceCtorEq, Nat.reduceEqDiff, Nat.reduceBEq, Nat.reduceAdd, Nat.reduceLT, Nat.reduceBNe, Nat.reduceMul, ↓reduceIte, tis, h1]
                    exact fin _ e.symm
                by_cases h2 : r.kind = 2
                · simp -implicitDefEqProofs (maxSteps := 100000) (disch := first | (intros; contradiction) | omega) only [am0, am1, am2, am3, am4, am5, am6, am7, am8, am9, Nat.reduceSub, ↓reduceIte, reduceCtorEq, Nat.reduceEqDiff, Nat.reduceBEq, Nat.reduceAdd, Nat.reduceLT, Nat.reduceBNe, Nat.reduceMul, ↓reduceIte, tis, h2, rx, fls, mF, ej]
                  refine round_normal (i + 1) (by omega) ?_ (by show t.length - size + 1 - (i + 1) < t.length - size + 1 - i; omega)
                  simp -implicitDefEqProofs (maxSteps := 100000) (disch := first | (intros; contradiction) | omega) only [am0, am1, am2, am3, am4, am5, am6, am7, am8, am9, Nat.reduceSub, ↓reduceIte, reduceCtorEq, Nat.reduceEqDiff, Nat.reduceBEq, Nat.reduceAdd, Nat.reduceLT, Nat.reduceBNe, Nat.reduceMul, ↓reduceIte, tis, h2]
                  refine fin _ ?_
                  rw [mt_2 h2, sub_len hi, Bool.eq_iff_iff]
                  simp
                by_cases h3 : r.kind = 3
                · obtain ⟨a, b, hk, fa, fb, ba, bb⟩ := fm_two hf (.inl h3)
                  have hA := kidM_0 (t := t) hk
                  have hB := kidM_1 (t := t) hk
                  rw [hAA] at hA
                  rw [hBB] at hB
                  have hv := cat_val (a := a) (b := b) (r := r) (t := t) (i := i) (j := i + size) (by omega) hi
                  rw [← mt_3 h3 hk, ← hA, ← hB, show i + size - i + 1 = size + 1 by omega] at hv
                  simp -implicitDefEqProofs (maxSteps := 100000) (disch := first | (intros; contradiction) | omega) only [am0, am1, am2, am3, am4, am5, am6, am7, am8, am9, Nat.reduceSub, ↓reduceIte, reduceCtorEq, Nat.reduceEqDiff, Nat.reduceBEq, Nat.reduceAdd, Nat.reduceLT, Nat.reduceBNe, Nat.reduceMul, ↓reduceIte, tis, h3, rx, fls, mF, ej]
                  refine run_loop (α := Nat) (fun x => x ≤ size + 1) (fun x => [(1, .str t), (2, .box (.agg [.int .i64 3, .sl false 2 (r.set.map eSpan), .sl false 3 (r.kids.map (eRex false))])), (4, .box (.arr 13 (mE mZ))), (8, .box (.arr 13 (mE A))), (9, .box (.arr 13 (mE B))), (10, .int .i64 t.length), (11, .box (.arr 13 (mE (part r t size i)))), (12, .int .i64 size), (13, .int .i64 i), (14, .int .i64 (i + size)), (15, .bool (anyU (fun x => A i (i + x) && B (i + x) (i + size)) x)), (16, .int .i64 (i + x))]) (fun x => size + 1 - x) 0 (Nat.zero_le _) ?_ ?_
                  · simp -implicitDefEqProofs (maxSteps := 100000) (disch := first | (intros; contradiction) | omega) only [am0, am1, am2, am3, am4, am5, am6, am7, am8, am9, Nat.reduceSub, ↓reduceIte, reduceCtorEq, Nat.reduceEqDiff, Nat.reduceBEq, Nat.reduceAdd, Nat.reduceLT, Nat.reduceBNe, Nat.reduceMul, ↓reduceIte, tis, anyU, show ((0 : Nat) : Int) = 0 from rfl, Int.add_zero]
                  · intro x hx'
                    have ex : ((i : Int) + (x : Int)).toNat = i + x := by omega
                    have hn : anyU (fun x => A i (i + x) && B (i + x) (i + size)) (x + 1) = (anyU (fun x => A i (i + x) && B (i + x) (i + size)) x || (A i (i + x) && B (i + x) (i + size))) := rfl
                    by_cases hx : x ≤ size
                    · cases hc : anyU (fun x => A i (i + x) && B (i + x) (i + size)) x with
                      | true =>
                        simp -implicitDefEqProofs (maxSteps := 100000) (disch := first | (intros; contradiction) | omega) only [am0, am1, am2, am3, am4, am5, am6, am7, am8, am9, Nat.reduceSub, ↓reduceIte, reduceCtorEq, Nat.reduceEqDiff, Nat.reduceBEq, Nat.reduceAdd, Nat.reduceLT, Nat.reduceBNe, Nat.reduceMul, ↓reduceIte, tis, rx, fls, mF, ej, ex, hc]
                        refine round_normal (x + 1) (by omega) ?_ (by show size + 1 - (x + 1) < size + 1 - x; omega)
                        simp -implicitDefEqProofs (maxSteps := 100000) (disch := first | (intros; contradiction) | omega) only [am0, am1, am2, am3, am4, am5, am6, am7, am8, am9, Nat.reduceSub, ↓reduceIte, reduceCtorEq, Nat.reduceEqDiff, Nat.reduceBEq, Nat.reduceAdd, Nat.reduceLT, Nat.reduceBNe, Nat.reduceMul, ↓reduceIte, tis, hn, hc]
                        omega
                      | false =>
                        cases ha : A i (i + x) with
                        | false =>
                          simp -implicitDefEqProofs (maxSteps := 100000) (disch := first | (intros; contradiction) | omega) only [am0, am1, am2, am3, am4, am5, am6, am7, am8, am9, Nat.reduceSub, ↓reduceIte, reduceCtorEq, Nat.reduceEqDiff, Nat.reduceBEq, Nat.reduceAdd, Nat.reduceLT, Nat.reduceBNe, Nat.reduceMul, ↓reduceIte, tis, rx, fls, mF, ej, ex, hc, ha]
                          refine round_normal (x + 1) (by omega) ?_ (by show size + 1 - (x + 1) < size + 1 - x; omega)
                          simp -implicitDefEqProofs (maxSteps := 100000) (disch := first | (intros; contradiction) | omega) only [am0, am1, am2, am3, am4, am5, am6, am7, am8, am9, Nat.reduceSub, ↓reduceIte, reduceCtorEq, Nat.reduceEqDiff, Nat.reduceBEq, Nat.reduceAdd, Nat.reduceLT, Nat.reduceBNe, Nat.reduceMul, ↓reduceIte, tis, hn, hc, ha]
                          omega
                        | true =>
                          simp -implicitDefEqProofs (maxSteps := 100000) (disch := first | (intros; contradiction) | omega) only [am0, am1, am2, am3, am4, am5, am6, am7, am8, am9, Nat.reduceSub, ↓reduceIte, reduceCtorEq, Nat.reduceEqDiff, Nat.reduceBEq, Nat.reduceAdd, Nat.reduceLT, Nat.reduceBNe, Nat.reduceMul, ↓reduceIte, tis, rx, fls, mF, ej, ex, hc, ha]
                          refine round_normal (x + 1) (by omega) ?_ (by show size + 1 - (x + 1) < size + 1 - x; omega)
                          simp -implicitDefEqProofs (maxSteps := 100000) (disch := first | (intros; contradiction) | omega) only [am0, am1, am2, am3, am4, am5, am6, am7, am8, am9, Nat.reduceSub, ↓reduceIte, reduceCtorEq, Nat.reduceEqDiff, Nat.reduceBEq, Nat.reduceAdd, Nat.reduceLT, Nat.reduceBNe, Nat.reduceMul, ↓reduceIte, tis, hn, hc, ha]
                          omega
                    · obtain rfl : x = size + 1 := by omega
                      rw [hv]
                      simp -implicitDefEqProofs (maxSteps := 100000) (disch := first | (intros; contradiction) | omega) only [am0, am1, am2, am3, am4, am5, am6, am7, am8, am9, Nat.reduceSub, ↓reduceIte, reduceCtorEq, Nat.reduceEqDiff, Nat.reduceBEq, Nat.reduceAdd, Nat.reduceLT, Nat.reduceBNe, Nat.reduceMul, ↓reduceIte, tis, rx, fls, mF, ej]
                      refine round_normal (i + 1) (by omega) ?_ (by show t.length - size + 1 - (i + 1) < t.length - size + 1 - i; omega)
                      simp -implicitDefEqProofs (maxSteps := 100000) (disch := first | (intros; contradiction) | omega) only [am0, am1, am2, am3, am4, am5, am6, am7, am8, am9, Nat.reduceSub, ↓reduceIte, reduceCtorEq, Nat.reduceEqDiff, Nat.reduceBEq, Nat.reduceAdd, Nat.reduceLT, Nat.reduceBNe, Nat.reduceMul, ↓reduceIte, tis, h3]
                      exact fin _ rfl
                by_cases h4' : r.kind = 4
                · obtain ⟨a, b, hk, fa, fb, ba, bb⟩ := fm_two hf (.inr (.inl h4'))
                  have hA := kidM_0 (t := t) hk
                  have hB := kidM_1 (t := t) hk
                  rw [hAA] at hA
                  rw [hBB] at hB
                  have va : A i (i + size) = mt a (sub t i (i + size)) := by rw [hA, mtx_in (by omega) hi]
                  have vb : B i (i + size) = mt b (sub t i (i + size)) := by rw [hB, mtx_in (by omega) hi]
                  cases ha : mt a (sub t i (i + size)) with
                  | true =>
                    simp -implicitDefEqProofs (maxSteps := 100000) (disch := first | (intros; contradiction) | omega) only [am0, am1, am2, am3, am4, am5, am6, am7, am8, am9, Nat.reduceSub, ↓reduceIte, reduceCtorEq, Nat.reduceEqDiff, Nat.reduceBEq, Nat.reduceAdd, Nat.reduceLT, Nat.reduceBNe, Nat.reduceMul, ↓reduceIte, tis, h4', rx, fls, mF, ej, va, ha]
                    refine round_normal (i + 1) (by omega) ?_ (by show t.length - size + 1 - (i + 1) < t.length - size + 1 - i; omega)
                    simp -implicitDefEqProofs (maxSteps := 100000) (disch := first | (intros; contradiction) | omega) only [am0, am1, am2, am3, am4, am5, am6, am7, am8, am9, Nat.reduceSub, ↓reduceIte, reduceCtorEq, Nat.reduceEqDiff, Nat.reduceBEq, Nat.reduceAdd, Nat.reduceLT, Nat.reduceBNe, Nat.reduceMul, ↓reduceIte, tis, h4']
                    exact fin _ (by rw [mt_4 h4' hk, ha]; rfl)
                  | false =>
                    simp -implicitDefEqProofs (maxSteps := 100000) (disch := first | (intros; contradiction) | omega) only [am0, am1, am2, am3, am4, am5, am6, am7, am8, am9, Nat.reduceSub, ↓reduceIte, reduceCtorEq, Nat.reduceEqDiff, Nat.reduceBEq, Nat.reduceAdd, Nat.reduceLT, Nat.reduceBNe, Nat.reduceMul, ↓reduceIte, tis, h4', rx, fls, mF, ej, va, ha, vb]
                    refine round_normal (i + 1) (by omega) ?_ (by show t.length - size + 1 - (i + 1) < t.length - size + 1 - i; omega)
                    simp -implicitDefEqProofs (maxSteps := 100000) (disch := first | (intros; contradiction) | omega) only [am0, am1, am2, am3, am4, am5, am6, am7, am8, am9, Nat.reduceSub, ↓reduceIte, reduceCtorEq, Nat.reduceEqDiff, Nat.reduceBEq, Nat.reduceAdd, Nat.reduceLT, Nat.reduceBNe, Nat.reduceMul, ↓reduceIte, tis, h4']
                    exact fin _ (by rw [mt_4 h4' hk, ha]; rfl)
                by_cases h5 : r.kind = 5
                · obtain ⟨a, hk, fa, ba⟩ := fm_one hf (.inl h5)
                  have hA := kidM_0 (t := t) hk
                  rw [hAA] at hA
                  have hv := star_val (a := a) (r := r) (t := t) h5 hk hi
                  rw [← hA] at hv
                  simp -implicitDefEqProofs (maxSteps := 100000) (disch := first | (intros; contradiction) | omega) only [am0, am1, am2, am3, am4, am5, am6, am7, am8, am9, Nat.reduceSub, ↓reduceIte, reduceCtorEq, Nat.reduceEqDiff, Nat.reduceBEq, Nat.reduceAdd, Nat.reduceLT, Nat.reduceBNe, Nat.reduceMul, ↓reduceIte, tis, h5, rx, fls, mF, ej]
                  refine run_loop (α := Nat) (fun x => x ≤ size) (fun x => [(1, .str t), (2, .box (.agg [.int .i64 5, .sl false 2 (r.set.map eSpan), .sl false 3 (r.kids.map (eRex false))])), (4, .box (.arr 13 (mE mZ))), (8, .box (.arr 13 (mE A))), (9, .box (.arr 13 (mE B))), (10, .int .i64 t.length), (11, .box (.arr 13 (mE (part r t size i)))), (12, .int .i64 size), (13, .int .i64 i), (14, .int .i64 (i + size)), (15, .bool (decide (size = 0) || anyU (fun x => A i (i + 1 + x) && part r t size i (i + 1 + x) (i + size)) x)), (17, .int .i64 (i + 1 + x))]) (fun x => size - x) 0 (Nat.zero_le _) ?_ ?_
                  · have e0 : ((size : Int) == 0) = decide (size = 0) := by rw [Bool.eq_iff_iff]; simp
                    simp -implicitDefEqProofs (maxSteps := 100000) (disch := first | (intros; contradiction) | omega) only [am0, am1, am2, am3, am4, am5, am6, am7, am8, am9, Nat.reduceSub, ↓reduceIte, reduceCtorEq, Nat.reduceEqDiff, Nat.reduceBEq, Nat.reduceAdd, Nat.reduceLT, Nat.reduceBNe, Nat.reduceMul, ↓reduceIte, tis, anyU, e0, show ((0 : Nat) : Int) = 0 from rfl, Int.add_zero]
                  · intro x hx'
                    have ex : ((i : Int) + 1 + (x : Int)).toNat = i + 1 + x := by omega
                    have hn : anyU (fun x => A i (i + 1 + x) && part r t size i (i + 1 + x) (i + size)) (x + 1) = (anyU (fun x => A i (i + 1 + x) && part r t size i (i + 1 + x) (i + size)) x || (A i (i + 1 + x) && part r t size i (i + 1 + x) (i + size))) := rfl
                    by_cases hx : x < size
                    · rw [decide_eq_false (by omega : ¬ size = 0)] at *
                      simp only [Bool.false_or] at *
                      cases hc : anyU (fun x => A i (i + 1 + x) && part r t size i (i + 1 + x) (i + size)) x with
                      | true =>
                        simp -implicitDefEqProofs (maxSteps := 100000) (disch := first | (intros; contradiction) | omega) only [am0, am1, am2, am3, am4, am5, am6, am7, am8, am9, Nat.reduceSub, ↓reduceIte, reduceCtorEq, Nat.reduceEqDiff, Nat.reduceBEq, Nat.reduceAdd, Nat.reduceLT, Nat.reduceBNe, Nat.reduceMul, ↓reduceIte, tis, rx, fls, mF, ej, ex, hc]
                        refine round_normal (x + 1) (by omega) ?_ (by show size - (x + 1) < size - x; omega)
                        simp -implicitDefEqProofs (maxSteps := 100000) (disch := first | (intros; contradiction) | omega) only [am0, am1, am2, am3, am4, am5, am6, am7, am8, am9, Nat.reduceSub, ↓reduceIte, reduceCtorEq, Nat.reduceEqDiff, Nat.reduceBEq, Nat.reduceAdd, Nat.reduceLT, Nat.reduceBNe, Nat.reduceMul, ↓reduceIte, tis, hn, hc]
                        omega
                      | false =>
                        cases ha : A i (i + 1 + x) with
                        | false =>
                          simp -implicitDefEqProofs (maxSteps := 100000) (disch := first | (intros; contradiction) | omega) only [am0, am1, am2, am3, am4, am5, am6, am7, am8, am9, Nat.reduceSub, ↓reduceIte, reduceCtorEq, Nat.reduceEqDiff, Nat.reduceBEq, Nat.reduceAdd, Nat.reduceLT, Nat.reduceBNe, Nat.reduceMul, ↓reduceIte, tis, rx, fls, mF, ej, ex, hc, ha]
                          refine round_normal (x + 1) (by omega) ?_ (by show size - (x + 1) < size - x; omega)
                          simp -implicitDefEqProofs (maxSteps := 100000) (disch := first | (intros; contradiction) | omega) only [am0, am1, am2, am3, am4, am5, am6, am7, am8, am9, Nat.reduceSub, ↓reduceIte, reduceCtorEq, Nat.reduceEqDiff, Nat.reduceBEq, Nat.reduceAdd, Nat.reduceLT, Nat.reduceBNe, Nat.reduceMul, ↓reduceIte, tis, hn, hc, ha]
                          omega
                        | true =>
                          simp -implicitDefEqProofs (maxSteps := 100000) (disch := first | (intros; contradiction) | omega) only [am0, am1, am2, am3, am4, am5, am6, am7, am8, am9, Nat.reduceSub, ↓reduceIte, reduceCtorEq, Nat.reduceEqDiff, Nat.reduceBEq, Nat.reduceAdd, Nat.reduceLT, Nat.reduceBNe, Nat.reduceMul, ↓reduceIte, tis, rx, fls, mF, ej, ex, hc, ha]
                          refine round_normal (x + 1) (by omega) ?_ (by show size - (x + 1) < size - x; omega)
                          simp -implicitDefEqProofs (maxSteps := 100000) (disch := first | (intros; contradiction) | omega) only [am0, am1, am2, am3, am4, am5, am6, am7, am8, am9, Nat.reduceSub, ↓reduceIte, reduceCtorEq, Nat.reduceEqDiff, Nat.reduceBEq, Nat.reduceAdd, Nat.reduceLT, Nat.reduceBNe, Nat.reduceMul, ↓reduceIte, tis, hn, hc, ha]
                          omega
                    · obtain rfl : x = size := by omega
                      rw [hv]
                      simp -implicitDefEqProofs (maxSteps := 100000) (disch := first | (intros; contradiction) | omega) only [am0, am1, am2, am3, am4, am5, am6, am7, am8, am9, Nat.reduceSub, ↓reduceIte, reduceCtorEq, Nat.reduceEqDiff, Nat.reduceBEq, Nat.reduceAdd, Nat.reduceLT, Nat.reduceBNe, Nat.reduceMul, ↓reduceIte, tis, rx, fls, mF, ej]
                      refine round_normal (i + 1) (by omega) ?_ (by show t.length - x + 1 - (i + 1) < t.length - x + 1 - i; omega)
                      simp -implicitDefEqProofs (maxSteps := 100000) (disch := first | (intros; contradiction) | omega) only [am0, am1, am2, am3, am4, am5, am6, am7, am8, am9, Nat.reduceSub, ↓reduceIte, reduceCtorEq, Nat.reduceEqDiff, Nat.reduceBEq, Nat.reduceAdd, Nat.reduceLT, Nat.reduceBNe, Nat.reduceMul, ↓reduceIte, tis, h5]
                      exact fin _ rfl
                by_cases h6 : r.kind = 6
                · obtain ⟨a, b, hk, fa, fb, ba, bb⟩ := fm_two hf (.inr (.inr h6))
                  have hA := kidM_0 (t := t) hk
                  have hB := kidM_1 (t := t) hk
                  rw [hAA] at hA
                  rw [hBB] at hB
                  have va : A i (i + size) = mt a (sub t i (i + size)) := by rw [hA, mtx_in (by omega) hi]
                  have vb : B i (i + size) = mt b (sub t i (i + size)) := by rw [hB, mtx_in (by omega) hi]
                  cases ha : mt a (sub t i (i + size)) with
                  | false =>
                    simp -implicitDefEqProofs (maxSteps := 100000) (disch := first | (intros; contradiction) | omega) only [am0, am1, am2, am3, am4, am5, am6, am7, am8, am9, Nat.reduceSub, ↓reduceIte, reduceCtorEq, Nat.reduceEqDiff, Nat.reduceBEq, Nat.reduceAdd, Nat.reduceLT, Nat.reduceBNe, Nat.reduceMul, ↓reduceIte, tis, h6, rx, fls, mF, ej, va, ha]
                    refine round_normal (i + 1) (by omega) ?_ (by show t.length - size + 1 - (i + 1) < t.length - size + 1 - i; omega)
                    simp -implicitDefEqProofs (maxSteps := 100000) (disch := first | (intros; contradiction) | omega) only [am0, am1, am2, am3, am4, am5, am6, am7, am8, am9, Nat.reduceSub, ↓reduceIte, reduceCtorEq, Nat.reduceEqDiff, Nat.reduceBEq, Nat.reduceAdd, Nat.reduceLT, Nat.reduceBNe, Nat.reduceMul, ↓reduceIte, tis, h6]
                    exact fin _ (by rw [mt_6 h6 hk, ha]; rfl)
                  | true =>
                    simp -implicitDefEqProofs (maxSteps := 100000) (disch := first | (intros; contradiction) | omega) only [am0, am1, am2, am3, am4, am5, am6, am7, am8, am9, Nat.reduceSub, ↓reduceIte, reduceCtorEq, Nat.reduceEqDiff, Nat.reduceBEq, Nat.reduceAdd, Nat.reduceLT, Nat.reduceBNe, Nat.reduceMul, ↓reduceIte, tis, h6, rx, fls, mF, ej, va, ha, vb]
                    refine round_normal (i + 1) (by omega) ?_ (by show t.length - size + 1 - (i + 1) < t.length - size + 1 - i; omega)
                    simp -implicitDefEqProofs (maxSteps := 100000) (disch := first | (intros; contradiction) | omega) only [am0, am1, am2, am3, am4, am5, am6, am7, am8, am9, Nat.reduceSub, ↓reduceIte, reduceCtorEq, Nat.reduceEqDiff, Nat.reduceBEq, Nat.reduceAdd, Nat.reduceLT, Nat.reduceBNe, Nat.reduceMul, ↓reduceIte, tis, h6]
                    exact fin _ (by rw [mt_6 h6 hk, ha]; rfl)
                · have h7 : r.kind = 7 := by omega
                  obtain ⟨a, hk, fa, ba⟩ := fm_one hf (.inr h7)
                  have hA := kidM_0 (t := t) hk
                  rw [hAA] at hA
                  have va : A i (i + size) = mt a (sub t i (i + size)) := by rw [hA, mtx_in (by omega) hi]
                  simp -implicitDefEqProofs (maxSteps := 100000) (disch := first | (intros; contradiction) | omega) only [am0, am1, am2, am3, am4, am5, am6, am7, am8, am9, Nat.reduceSub, ↓reduceIte, reduceCtorEq, Nat.reduceEqDiff, Nat.reduceBEq, Nat.reduceAdd, Nat.reduceLT, Nat.reduceBNe, Nat.reduceMul, ↓reduceIte, tis, h7, rx, fls, mF, ej, va]
                  refine round_normal (i + 1) (by omega) ?_ (by show t.length - size + 1 - (i + 1) < t.length - size + 1 - i; omega)
                  simp -implicitDefEqProofs (maxSteps := 100000) (disch := first | (intros; contradiction) | omega) only [am0, am1, am2, am3, am4, am5, am6, am7, am8, am9, Nat.reduceSub, ↓reduceIte, reduceCtorEq, Nat.reduceEqDiff, Nat.reduceBEq, Nat.reduceAdd, Nat.reduceLT, Nat.reduceBNe, Nat.reduceMul, ↓reduceIte, tis, h7]
                  exact fin _ (by rw [mt_7 h7 hk])
              · obtain rfl : i = t.length - size + 1 := by omega
                have e := part_row r t size hs
                simp -implicitDefEqProofs (maxSteps := 100000) (disch := first | (intros; contradiction) | omega) only [am0, am1, am2, am3, am4, am5, am6, am7, am8, am9, Nat.reduceSub, ↓reduceIte, reduceCtorEq, Nat.reduceEqDiff, Nat.reduceBEq, Nat.reduceAdd, Nat.reduceLT, Nat.reduceBNe, Nat.reduceMul, ↓reduceIte, tis]
                refine round_normal (size + 1) (by omega) ?_ (by show t.length + 1 - (size + 1) < t.length + 1 - size; omega)
                simp -implicitDefEqProofs (maxSteps := 100000) (disch := first | (intros; contradiction) | omega) only [am0, am1, am2, am3, am4, am5, am6, am7, am8, am9, Nat.reduceSub, ↓reduceIte, reduceCtorEq, Nat.reduceEqDiff, Nat.reduceBEq, Nat.reduceAdd, Nat.reduceLT, Nat.reduceBNe, Nat.reduceMul, ↓reduceIte, tis, e]
          · obtain rfl : size = t.length + 1 := by omega
            have e := part_end r t
            simp -implicitDefEqProofs (maxSteps := 100000) (disch := first | (intros; contradiction) | omega) only [am0, am1, am2, am3, am4, am5, am6, am7, am8, am9, Nat.reduceSub, ↓reduceIte, reduceCtorEq, Nat.reduceEqDiff, Nat.reduceBEq, Nat.reduceAdd, Nat.reduceLT, Nat.reduceBNe, Nat.reduceMul, ↓reduceIte, tis, rx, fls, mF, e]
/-- impl.copied of Rex -/
theorem fits_copiedRex (p : List Rex) (hp : p.length ≤ 1099511627776) : Fits prog 142 [.sl false 3 (p.map (eRex false))] (.sl true 3 (p.map (eRex false))) [] := by
  refine fits_of_code [2] [] [0, 2, 3, 6] func142 rfl rfl rfl (by rfl) (by show 1 ≤ 14; decide) (by rfl) (by rfl) (by show 0 ≤ 1; decide) (by rfl) (run_of ?_)
  cases p with
  | nil => simp -implicitDefEqProofs (maxSteps := 100000) (disch := first | (intros; contradiction) | omega) only [am0, am1, am2, am3, am4, am5, am6, am7, am8, am9, Nat.reduceSub, ↓reduceIte, reduceCtorEq, Nat.reduceEqDiff, Nat.reduceBEq, Nat.reduceAdd, Nat.reduceLT, Nat.reduceBNe, Nat.reduceMul, ↓reduceIte, tis]
  | cons x r =>
    have hl : ((x :: r).length : Int) ≠ 0 := by simp; omega
    generalize (x :: r) = p at *
    simp -implicitDefEqProofs (maxSteps := 100000) (disch := first | (intros; contradiction) | omega) only [am0, am1, am2, am3, am4, am5, am6, am7, am8, am9, Nat.reduceSub, ↓reduceIte, reduceCtorEq, Nat.reduceEqDiff, Nat.reduceBEq, Nat.reduceAdd, Nat.reduceLT, Nat.reduceBNe, Nat.reduceMul, ↓reduceIte, tis]
    simp -implicitDefEqProofs (maxSteps := 100000) (disch := first | (intros; contradiction) | omega) only [am0, am1, am2, am3, am4, am5, am6, am7, am8, am9, Nat.reduceSub, ↓reduceIte, reduceCtorEq, Nat.reduceEqDiff, Nat.reduceBEq, Nat.reduceAdd, Nat.reduceLT, Nat.reduceBNe, Nat.reduceMul, ↓reduceIte, tis, List.length_replicate, rx]
    simp [List.take_of_length_le]
/-- impl.rexCopy -/
theorem fits_rexCopy (r : Rex) (hb : bd r ≤ 1048576) : Fits prog 80 [eRex false r] (eRex true r) [] := by
  induction r using Rex.ind' with
  | h r ih =>
    have hb' := bd_eq r
    have cS := fits_copiedSpan r.set (by omega)
    have cK := fits_copiedRex r.kids (by omega)
    rw [eRex_eq, eRex_eq]
    refine fits_of_cell 2 26 [] [0, 1, 2, 3, 4, 16, 17, 18] func80 rfl rfl rfl (by show 2 < 32; decide) (by show 1 ≤ 32; decide) (by rfl) (by rfl) (by show 0 ≤ 1; decide) (by rfl) (run_of ?_)
    simp -implicitDefEqProofs (maxSteps := 100000) (disch := first | (intros; contradiction) | omega) only [am0, am1, am2, am3, am4, am5, am6, am7, am8, am9, Nat.reduceSub, ↓reduceIte, reduceCtorEq, Nat.reduceEqDiff, Nat.reduceBEq, Nat.reduceAdd, Nat.reduceLT, Nat.reduceBNe, Nat.reduceMul, ↓reduceIte, tis]
    refine .inl ⟨by kernel_rfl, ?_⟩
    refine callL cS ?_
    simp -implicitDefEqProofs (maxSteps := 100000) (disch := first | (intros; contradiction) | omega) only [am0, am1, am2, am3, am4, am5, am6, am7, am8, am9, Nat.reduceSub, ↓reduceIte, reduceCtorEq, Nat.reduceEqDiff, Nat.reduceBEq, Nat.reduceAdd, Nat.reduceLT, Nat.reduceBNe, Nat.reduceMul, ↓reduceIte, tis, fls, rx]
    refine callL cK ?_
    simp -implicitDefEqProofs (maxSteps := 100000) (disch := first | (intros; contradiction) | omega) only [am0, am1, am2, am3, am4, am5, am6, am7, am8, am9, Nat.reduceSub, ↓reduceIte, reduceCtorEq, Nat.reduceEqDiff, Nat.reduceBEq, Nat.reduceAdd, Nat.reduceLT, Nat.reduceBNe, Nat.reduceMul, ↓reduceIte, tis, fls, rx, ite_self]
    refine run_loop (α := Nat) (fun i => i ≤ r.kids.length) (fun i => [(2, .box (.agg [.int .i64 0, .sl true 0 [], .sl true 0 []])), (3, .box (.agg [.int .i64 r.kind, .sl true 2 (r.set.map eSpan), .sl true 3 ((r.kids.take i).map (eRex true) ++ (r.kids.drop i).map (eRex false))])), (16, .int .i64 r.kids.length), (17, .int .i64 i)]) (fun i => r.kids.length - i) 0 (Nat.zero_le _) ?_ ?_
    · simp -implicitDefEqProofs (maxSteps := 100000) (disch := first | (intros; contradiction) | omega) only [am0, am1, am2, am3, am4, am5, am6, am7, am8, am9, Nat.reduceSub, ↓reduceIte, reduceCtorEq, Nat.reduceEqDiff, Nat.reduceBEq, Nat.reduceAdd, Nat.reduceLT, Nat.reduceBNe, Nat.reduceMul, ↓reduceIte, tis]
    · intro i hi'
      by_cases hi : i < r.kids.length
      · have hA : ((r.kids.take i).map (eRex true)).length = i := by simp; omega
        have hL : ((r.kids.take i).map (eRex true) ++ (r.kids.drop i).map (eRex false)).length = r.kids.length := by simp; omega
        have g1 := turn_get _ (eRex false) r.kids i hA hi
        have g2 := fun y => turn_set _ (eRex false) r.kids i y hA hi
        have hm := List.getElem_mem hi
        have cF := ih r.kids[i] hm (Nat.le_trans (bd_kid hm) hb)
        simp -implicitDefEqProofs (maxSteps := 100000) (disch := first | (intros; contradiction) | omega) only [am0, am1, am2, am3, am4, am5, am6, am7, am8, am9, Nat.reduceSub, ↓reduceIte, reduceCtorEq, Nat.reduceEqDiff, Nat.reduceBEq, Nat.reduceAdd, Nat.reduceLT, Nat.reduceBNe, Nat.reduceMul, ↓reduceIte, tis, rx, fls, g1, g2, hL, eRex_eq false r.kids[i]]
        refine .inl ⟨by kernel_rfl, ?_⟩
        rw [eRex_eq false r.kids[i], eRex_eq true r.kids[i]] at cF
        refine callL cF ?_
        simp -implicitDefEqProofs (maxSteps := 100000) (disch := first | (intros; contradiction) | omega) only [am0, am1, am2, am3, am4, am5, am6, am7, am8, am9, Nat.reduceSub, ↓reduceIte, reduceCtorEq, Nat.reduceEqDiff, Nat.reduceBEq, Nat.reduceAdd, Nat.reduceLT, Nat.reduceBNe, Nat.reduceMul, ↓reduceIte, tis, rx, fls, g1, g2, hL, eRex_eq false r.kids[i]]
        refine round_normal (i + 1) (by omega) ?_ (by show r.kids.length - (i + 1) < r.kids.length - i; omega)
        rw [List.take_succ_eq_append_getElem hi, List.map_append, List.map_cons, List.map_nil, eRex_eq true r.kids[i]]
        simp -implicitDefEqProofs (maxSteps := 100000) (disch := first | (intros; contradiction) | omega) only [am0, am1, am2, am3, am4, am5, am6, am7, am8, am9, Nat.reduceSub, ↓reduceIte, reduceCtorEq, Nat.reduceEqDiff, Nat.reduceBEq, Nat.reduceAdd, Nat.reduceLT, Nat.reduceBNe, Nat.reduceMul, ↓reduceIte, tis]
      · obtain rfl : i = r.kids.length := by omega
        simp -implicitDefEqProofs (maxSteps := 100000) (disch := first | (intros; contradiction) | omega) only [am0, am1, am2, am3, am4, am5, am6, am7, am8, am9, Nat.reduceSub, ↓reduceIte, reduceCtorEq, Nat.reduceEqDiff, Nat.reduceBEq, Nat.reduceAdd, Nat.reduceLT, Nat.reduceBNe, Nat.reduceMul, ↓reduceIte, tis, List.drop_length, List.take_length]
/-- What is read backwards. -/
def turnR : Rex → Rex
  | .mk k s ks => .mk k s (if k = 3 then (ks.map turnR).reverse else ks.map turnR)
theorem turnR_eq (r : Rex) : turnR r = .mk r.kind r.set (if r.kind = 3 then (r.kids.map turnR).reverse else r.kids.map turnR) := by cases r; rw [turnR]; rfl
theorem bd_turn (r : Rex) : bd (turnR r) = bd r := by
  induction r using Rex.ind' with
  | h r ih =>
    rw [turnR_eq, bd_eq, bd_eq r]
    have e : (r.kids.map turnR).map bd = r.kids.map bd := by rw [List.map_map]; exact List.map_congr_left ih
    show r.set.length + ((if r.kind = 3 then (r.kids.map turnR).reverse else r.kids.map turnR).length + ((if r.kind = 3 then (r.kids.map turnR).reverse else r.kids.map turnR).map bd).sum) = _
    by_cases h : r.kind = 3
    · rw [if_pos h, List.map_reverse, e, List.sum_reverse]; simp
    · rw [if_neg h, e]; simp
theorem fm_cat {d : Nat} {r : Rex} (h : fm d r = true) (h3 : r.kind = 3) : r.kids.length = 2 := by
  cases d with
  | zero => simp [fm] at h
  | succ d => have := (fm_ok h).1; rw [h3] at this; simp [kidsN] at this; omega
/-- impl.turned, its result as shared -/
theorem fits_turned (r : Rex) (d : Nat) (hf : fm d r = true) (hb : bd r ≤ 1048576) : Fits prog 81 [eRex false r] (eRex false (turnR r)) [] := by
  induction d generalizing r with
  | zero => simp [fm] at hf
  | succ d ih =>
    have hb' := bd_eq r
    have h4 := (fm_ok hf).2.2.2
    have cS := fits_copiedSpan r.set (by omega)
    have key : Fits prog 81 [eRex false r] (.agg [.int .i64 r.kind, .sl true 2 (r.set.map eSpan), .sl true 3 ((turnR r).kids.map (eRex false))]) [] := by
      rw [eRex_eq]
      refine fits_of_cell 2 26 [] [0, 1, 2, 3, 5, 13, 14, 15, 16, 29] func81 rfl rfl rfl (by show 2 < 45; decide) (by show 1 ≤ 45; decide) (by rfl) (by rfl) (by show 0 ≤ 1; decide) (by rfl) (run_of ?_)
      simp -implicitDefEqProofs (maxSteps := 100000) (disch := first | (intros; contradiction) | omega) only [am0, am1, am2, am3, am4, am5, am6, am7, am8, am9, Nat.reduceSub, ↓reduceIte, reduceCtorEq, Nat.reduceEqDiff, Nat.reduceBEq, Nat.reduceAdd, Nat.reduceLT, Nat.reduceBNe, Nat.reduceMul, ↓reduceIte, tis]
      refine .inl ⟨by kernel_rfl, ?_⟩
      refine callL cS ?_
      simp -implicitDefEqProofs (maxSteps := 100000) (disch := first | (intros; contradiction) | omega) only [am0, am1, am2, am3, am4, am5, am6, am7, am8, am9, Nat.reduceSub, ↓reduceIte, reduceCtorEq, Nat.reduceEqDiff, Nat.reduceBEq, Nat.reduceAdd, Nat.reduceLT, Nat.reduceBNe, Nat.reduceMul, ↓reduceIte, tis, fls, rx, ite_self]
      refine run_loop (α := Nat) (fun i => i ≤ r.kids.length) (fun i => [(1, .box (.agg [.int .i64 r.kind, .sl false 2 (r.set.map eSpan), .sl false 3 (r.kids.map (eRex false))])), (2, .box (.agg [.int .i64 0, .sl true 0 [], .sl true 0 []])), (3, .box (.agg [.int .i64 r.kind, .sl true 2 (r.set.map eSpan), .sl true 3 ((r.kids.take i).map (fun x => eRex false (turnR x)))])), (13, .sl false 3 (r.kids.map (eRex false))), (14, .int .i64 r.kids.length), (15, .int .i64 i)]) (fun i => r.kids.length - i) 0 (Nat.zero_le _) ?_ ?_
      · simp -implicitDefEqProofs (maxSteps := 100000) (disch := first | (intros; contradiction) | omega) only [am0, am1, am2, am3, am4, am5, am6, am7, am8, am9, Nat.reduceSub, ↓reduceIte, reduceCtorEq, Nat.reduceEqDiff, Nat.reduceBEq, Nat.reduceAdd, Nat.reduceLT, Nat.reduceBNe, Nat.reduceMul, ↓reduceIte, tis]
      · intro i hi'
        by_cases hi : i < r.kids.length
        · have hm := List.getElem_mem hi
          have cF := ih r.kids[i] (h4 _ hm) (Nat.le_trans (bd_kid hm) hb)
          rw [eRex_eq false r.kids[i]] at cF
          simp -implicitDefEqProofs (maxSteps := 100000) (disch := first | (intros; contradiction) | omega) only [am0, am1, am2, am3, am4, am5, am6, am7, am8, am9, Nat.reduceSub, ↓reduceIte, reduceCtorEq, Nat.reduceEqDiff, Nat.reduceBEq, Nat.reduceAdd, Nat.reduceLT, Nat.reduceBNe, Nat.reduceMul, ↓reduceIte, tis, rx, fls, eRex_eq false r.kids[i]]
          refine .inl ⟨by kernel_rfl, ?_⟩
          refine callL cF ?_
          rw [eRex_eq false (turnR r.kids[i])]
          have hlt : (r.kids.take i).length = i := by simp; omega
          simp -implicitDefEqProofs (maxSteps := 100000) (disch := first | (intros; contradiction) | omega) only [am0, am1, am2, am3, am4, am5, am6, am7, am8, am9, Nat.reduceSub, ↓reduceIte, reduceCtorEq, Nat.reduceEqDiff, Nat.reduceBEq, Nat.reduceAdd, Nat.reduceLT, Nat.reduceBNe, Nat.reduceMul, ↓reduceIte, tis, rx, fls, hlt]
          refine round_normal (i + 1) (by omega) ?_ (by show r.kids.length - (i + 1) < r.kids.length - i; omega)
          rw [List.take_succ_eq_append_getElem hi, List.map_append, List.map_cons, List.map_nil, eRex_eq false (turnR r.kids[i])]
          simp -implicitDefEqProofs (maxSteps := 100000) (disch := first | (intros; contradiction) | omega) only [am0, am1, am2, am3, am4, am5, am6, am7, am8, am9, Nat.reduceSub, ↓reduceIte, reduceCtorEq, Nat.reduceEqDiff, Nat.reduceBEq, Nat.reduceAdd, Nat.reduceLT, Nat.reduceBNe, Nat.reduceMul, ↓reduceIte, tis]
        · obtain rfl : i = r.kids.length := by omega
          by_cases h3 : r.kind = 3
          · have h2 := fm_cat hf h3
            obtain ⟨a, b, hab⟩ : ∃ a b, r.kids = [a, b] := by
              match hk : r.kids, h2 with
              | [a, b], _ => exact ⟨a, b, rfl⟩
            have ht : (turnR r).kids.map (eRex false) = [eRex false (turnR b), eRex false (turnR a)] := by
              rw [turnR_eq, if_pos h3, hab]; rfl
            rw [ht]
            simp only [hab, List.map_cons, List.map_nil, List.take_succ_cons, List.take_zero, List.length_cons, List.length_nil, eRex_eq false (turnR a), eRex_eq false (turnR b)]
            have t1 : Int.toNat 1 = 1 := rfl
            have t0 : Int.toNat 0 = 0 := rfl
            simp -implicitDefEqProofs (maxSteps := 100000) (disch := first | (intros; contradiction) | omega) only [am0, am1, am2, am3, am4, am5, am6, am7, am8, am9, Nat.reduceSub, ↓reduceIte, reduceCtorEq, Nat.reduceEqDiff, Nat.reduceBEq, Nat.reduceAdd, Nat.reduceLT, Nat.reduceBNe, Nat.reduceMul, ↓reduceIte, tis, h3, hab, t1, t0]
            refine .inr (run_late 13 [[2, 3], []] (by kernel_rfl) ?_)
            simp -implicitDefEqProofs (maxSteps := 100000) (disch := first | (intros; contradiction) | omega) only [am0, am1, am2, am3, am4, am5, am6, am7, am8, am9, Nat.reduceSub, ↓reduceIte, reduceCtorEq, Nat.reduceEqDiff, Nat.reduceBEq, Nat.reduceAdd, Nat.reduceLT, Nat.reduceBNe, Nat.reduceMul, ↓reduceIte, tis, h3, hab, t1, t0, rx]
          · have ht : (turnR r).kids.map (eRex false) = r.kids.map (fun x => eRex false (turnR x)) := by
              rw [turnR_eq, if_neg h3]; simp [Rex.kids]
            rw [ht]
            simp -implicitDefEqProofs (maxSteps := 100000) (disch := first | (intros; contradiction) | omega) only [am0, am1, am2, am3, am4, am5, am6, am7, am8, am9, Nat.reduceSub, ↓reduceIte, reduceCtorEq, Nat.reduceEqDiff, Nat.reduceBEq, Nat.reduceAdd, Nat.reduceLT, Nat.reduceBNe, Nat.reduceMul, ↓reduceIte, tis, h3]
    have := fits_shared key
    rw [eRex_eq false (turnR r)]
    simp only [erase, eraseL, fls, rx] at this
    rw [turnR_eq] at this ⊢
    exact this
/-- spec.l13Rex -/
theorem fits_l13Rex (r : Rex) (d : Nat) (hf : fm d r = true) (hb : bd r ≤ 1048576) : Fits prog 83 [eRex false r] (eRex true (turnR r)) [] := by
  induction d generalizing r with
  | zero => simp [fm] at hf
  | succ d ih =>
    have hb' := bd_eq r
    have h4 := (fm_ok hf).2.2.2
    have hlen : (turnR r).kids.length = r.kids.length := by rw [turnR_eq]; show (if r.kind = 3 then (r.kids.map turnR).reverse else r.kids.map turnR).length = _; split <;> simp
    have hset : (turnR r).set = r.set := by rw [turnR_eq]; rfl
    have hkind : (turnR r).kind = r.kind := by rw [turnR_eq]; rfl
    have step : ∀ i (hi : i < r.kids.length), ∃ k : Nat, ∃ hk : k < r.kids.length, (turnR r).kids[i]? = some (turnR r.kids[k]) ∧ (k : Int) = if r.kind = 3 then 1 - (i : Int) else i := by
      intro i hi
      by_cases h3 : r.kind = 3
      · have h2 := fm_cat hf h3
        refine ⟨1 - i, by omega, ?_, by rw [if_pos h3]; omega⟩
        rw [turnR_eq, if_pos h3]
        show (r.kids.map turnR).reverse[i]? = _
        rw [List.getElem?_reverse (by simpa using hi)]
        have e : (r.kids.map turnR).length - 1 - i = 1 - i := by simp [h2]
        rw [e, List.getElem?_map, List.getElem?_eq_getElem (by omega : 1 - i < r.kids.length)]; rfl
      · refine ⟨i, hi, ?_, by rw [if_neg h3]⟩
        rw [turnR_eq, if_neg h3]
        show (r.kids.map turnR)[i]? = _
        rw [List.getElem?_map, List.getElem?_eq_getElem hi]; rfl
    rw [eRex_eq, eRex_eq, hset, hkind]
    refine fits_of_cell 2 26 [] [0, 1, 2, 3, 4, 5, 17, 23] func83 rfl rfl rfl (by show 2 < 38; decide) (by show 1 ≤ 38; decide) (by rfl) (by rfl) (by show 0 ≤ 1; decide) (by rfl) (run_of ?_)
    simp -implicitDefEqProofs (maxSteps := 100000) (disch := first | (intros; contradiction) | omega) only [am0, am1, am2, am3, am4, am5, am6, am7, am8, am9, Nat.reduceSub, ↓reduceIte, reduceCtorEq, Nat.reduceEqDiff, Nat.reduceBEq, Nat.reduceAdd, Nat.reduceLT, Nat.reduceBNe, Nat.reduceMul, ↓reduceIte, tis]
    refine .inl ⟨by kernel_rfl, ?_⟩
    refine run_loop (α := Nat) (fun i => i ≤ r.kids.length) (fun i => [(1, .box (.agg [.int .i64 r.kind, .sl false 2 (r.set.map eSpan), .sl false 3 (r.kids.map (eRex false))])), (2, .box (.agg [.int .i64 0, .sl true 0 [], .sl true 0 []])), (3, .box (.agg [.int .i64 r.kind, .sl true 2 (r.set.map eSpan), .sl true 3 (((turnR r).kids.take i).map (eRex true))])), (4, .int .i64 i)]) (fun i => r.kids.length - i) 0 (Nat.zero_le _) ?_ ?_
    · simp -implicitDefEqProofs (maxSteps := 100000) (disch := first | (intros; contradiction) | omega) only [am0, am1, am2, am3, am4, am5, am6, am7, am8, am9, Nat.reduceSub, ↓reduceIte, reduceCtorEq, Nat.reduceEqDiff, Nat.reduceBEq, Nat.reduceAdd, Nat.reduceLT, Nat.reduceBNe, Nat.reduceMul, ↓reduceIte, tis]
    · intro i hi'
      by_cases hi : i < r.kids.length
      · obtain ⟨k, hk, hg, hkk⟩ := step i hi
        have hm := List.getElem_mem hk
        have cF := ih r.kids[k] (h4 _ hm) (Nat.le_trans (bd_kid hm) hb)
        rw [eRex_eq false r.kids[k], eRex_eq true (turnR r.kids[k])] at cF
        have hlt : ((turnR r).kids.take i).length = i := by simp; omega
        have hnext : (turnR r).kids.take (i + 1) = (turnR r).kids.take i ++ [turnR r.kids[k]] := by
          rw [List.take_add_one, hg]; rfl
        by_cases h3 : r.kind = 3
        · rw [if_pos h3] at hkk
          have e1 : (1 : Int) - i = k := hkk.symm
          simp -implicitDefEqProofs (maxSteps := 100000) (disch := first | (intros; contradiction) | omega) only [am0, am1, am2, am3, am4, am5, am6, am7, am8, am9, Nat.reduceSub, ↓reduceIte, reduceCtorEq, Nat.reduceEqDiff, Nat.reduceBEq, Nat.reduceAdd, Nat.reduceLT, Nat.reduceBNe, Nat.reduceMul, ↓reduceIte, tis, rx, fls, e1, eRex_eq false r.kids[k]]
          refine .inl ⟨by kernel_rfl, ?_⟩
          refine callL cF ?_
          simp -implicitDefEqProofs (maxSteps := 100000) (disch := first | (intros; contradiction) | omega) only [am0, am1, am2, am3, am4, am5, am6, am7, am8, am9, Nat.reduceSub, ↓reduceIte, reduceCtorEq, Nat.reduceEqDiff, Nat.reduceBEq, Nat.reduceAdd, Nat.reduceLT, Nat.reduceBNe, Nat.reduceMul, ↓reduceIte, tis, rx, fls, hlt]
          refine round_normal (i + 1) (by omega) ?_ (by show r.kids.length - (i + 1) < r.kids.length - i; omega)
          rw [hnext, List.map_append, List.map_cons, List.map_nil, eRex_eq true (turnR r.kids[k])]
          simp -implicitDefEqProofs (maxSteps := 100000) (disch := first | (intros; contradiction) | omega) only [am0, am1, am2, am3, am4, am5, am6, am7, am8, am9, Nat.reduceSub, ↓reduceIte, reduceCtorEq, Nat.reduceEqDiff, Nat.reduceBEq, Nat.reduceAdd, Nat.reduceLT, Nat.reduceBNe, Nat.reduceMul, ↓reduceIte, tis]
        · rw [if_neg h3] at hkk
          obtain rfl : k = i := by omega
          simp -implicitDefEqProofs (maxSteps := 100000) (disch := first | (intros; contradiction) | omega) only [am0, am1, am2, am3, am4, am5, am6, am7, am8, am9, Nat.reduceSub, ↓reduceIte, reduceCtorEq, Nat.reduceEqDiff, Nat.reduceBEq, Nat.reduceAdd, Nat.reduceLT, Nat.reduceBNe, Nat.reduceMul, ↓reduceIte, tis, rx, fls, eRex_eq false r.kids[k]]
          refine .inl ⟨by kernel_rfl, ?_⟩
          refine callL cF ?_
          simp -implicitDefEqProofs (maxSteps := 100000) (disch := first | (intros; contradiction) | omega) only [am0, am1, am2, am3, am4, am5, am6, am7, am8, am9, Nat.reduceSub, ↓reduceIte, reduceCtorEq, Nat.reduceEqDiff, Nat.reduceBEq, Nat.reduceAdd, Nat.reduceLT, Nat.reduceBNe, Nat.reduceMul, ↓reduceIte, tis, rx, fls, hlt]
          refine round_normal (k + 1) (by omega) ?_ (by show r.kids.length - (k + 1) < r.kids.length - k; omega)
          rw [hnext, List.map_append, List.map_cons, List.map_nil, eRex_eq true (turnR r.kids[k])]
          simp -implicitDefEqProofs (maxSteps := 100000) (disch := first | (intros; contradiction) | omega) only [am0, am1, am2, am3, am4, am5, am6, am7, am8, am9, Nat.reduceSub, ↓reduceIte, reduceCtorEq, Nat.reduceEqDiff, Nat.reduceBEq, Nat.reduceAdd, Nat.reduceLT, Nat.reduceBNe, Nat.reduceMul, ↓reduceIte, tis]
      · obtain rfl : i = r.kids.length := by omega
        have e : (turnR r).kids.take r.kids.length = (turnR r).kids := List.take_of_length_le (by omega)
        simp -implicitDefEqProofs (maxSteps := 100000) (disch := first | (intros; contradiction) | omega) only [am0, am1, am2, am3, am4, am5, am6, am7, am8, am9, Nat.reduceSub, ↓reduceIte, reduceCtorEq, Nat.reduceEqDiff, Nat.reduceBEq, Nat.reduceAdd, Nat.reduceLT, Nat.reduceBNe, Nat.reduceMul, ↓reduceIte, tis, e]
def zRex : Rex := .mk 0 [] []
def turnP (r : Rex) : Rex := if rexB r then turnR r else zRex
theorem rexB_fm {r : Rex} (h : rexB r = true) : fm 8 r = true := by simp only [rexB, Bool.and_eq_true] at h; exact h.1
/-- impl.TurnRex -/
theorem fits_turnRex (r : Rex) (hb : bd r ≤ 1048576) : Fits prog 18 [eRex false r] (eRex true (turnP r)) [] := by
  have cO := fits_rexOk r hb
  cases h : rexB r with
  | false =>
    have e : turnP r = zRex := by simp [turnP, h]
    rw [h] at cO
    rw [e, eRex_eq, eRex_eq] at *
    refine fits_of_cell 2 26 [] [0, 1, 2, 5] func18 rfl rfl rfl (by show 2 < 10; decide) (by show 1 ≤ 10; decide) (by rfl) (by rfl) (by show 0 ≤ 1; decide) (by rfl) (run_of ?_)
    simp -implicitDefEqProofs (maxSteps := 100000) (disch := first | (intros; contradiction) | omega) only [am0, am1, am2, am3, am4, am5, am6, am7, am8, am9, Nat.reduceSub, ↓reduceIte, reduceCtorEq, Nat.reduceEqDiff, Nat.reduceBEq, Nat.reduceAdd, Nat.reduceLT, Nat.reduceBNe, Nat.reduceMul, ↓reduceIte, tis, fls, rx]
    refine callB cO ?_
    simp -implicitDefEqProofs (maxSteps := 100000) (disch := first | (intros; contradiction) | omega) only [am0, am1, am2, am3, am4, am5, am6, am7, am8, am9, Nat.reduceSub, ↓reduceIte, reduceCtorEq, Nat.reduceEqDiff, Nat.reduceBEq, Nat.reduceAdd, Nat.reduceLT, Nat.reduceBNe, Nat.reduceMul, ↓reduceIte, tis, zRex, Rex.kind, Rex.set, Rex.kids, List.map_nil]
  | true =>
    have e : turnP r = turnR r := by simp [turnP, h]
    have cT := fits_turned r 8 (rexB_fm h) hb
    have cC := fits_rexCopy (turnR r) (by rw [bd_turn]; exact hb)
    rw [h] at cO
    rw [e]
    rw [eRex_eq false r] at *
    rw [eRex_eq] at cT
    rw [eRex_eq, eRex_eq] at cC
    rw [eRex_eq]
    refine fits_of_cell 2 26 [] [0, 1, 2, 5] func18 rfl rfl rfl (by show 2 < 10; decide) (by show 1 ≤ 10; decide) (by rfl) (by rfl) (by show 0 ≤ 1; decide) (by rfl) (run_of ?_)
    simp -implicitDefEqProofs (maxSteps := 100000) (disch := first | (intros; contradiction) | omega) only [am0, am1, am2, am3, am4, am5, am6, am7, am8, am9, Nat.reduceSub, ↓reduceIte, reduceCtorEq, Nat.reduceEqDiff, Nat.reduceBEq, Nat.reduceAdd, Nat.reduceLT, Nat.reduceBNe, Nat.reduceMul, ↓reduceIte, tis, fls, rx]
    refine callB cO ?_
    simp -implicitDefEqProofs (maxSteps := 100000) (disch := first | (intros; contradiction) | omega) only [am0, am1, am2, am3, am4, am5, am6, am7, am8, am9, Nat.reduceSub, ↓reduceIte, reduceCtorEq, Nat.reduceEqDiff, Nat.reduceBEq, Nat.reduceAdd, Nat.reduceLT, Nat.reduceBNe, Nat.reduceMul, ↓reduceIte, tis, fls, rx]
    refine callB cT ?_
    simp -implicitDefEqProofs (maxSteps := 100000) (disch := first | (intros; contradiction) | omega) only [am0, am1, am2, am3, am4, am5, am6, am7, am8, am9, Nat.reduceSub, ↓reduceIte, reduceCtorEq, Nat.reduceEqDiff, Nat.reduceBEq, Nat.reduceAdd, Nat.reduceLT, Nat.reduceBNe, Nat.reduceMul, ↓reduceIte, tis, fls, rx]
    refine callB cC ?_
    simp -implicitDefEqProofs (maxSteps := 100000) (disch := first | (intros; contradiction) | omega) only [am0, am1, am2, am3, am4, am5, am6, am7, am8, am9, Nat.reduceSub, ↓reduceIte, reduceCtorEq, Nat.reduceEqDiff, Nat.reduceBEq, Nat.reduceAdd, Nat.reduceLT, Nat.reduceBNe, Nat.reduceMul, ↓reduceIte, tis, fls, rx]
/-- spec.TurnRex -/
theorem fits_sTurnRex (r : Rex) (hb : bd r ≤ 1048576) : Fits prog 22 [eRex false r] (eRex true (turnP r)) [] := by
  have cO := fits_sRexOk r hb
  cases h : rexB r with
  | false =>
    have e : turnP r = zRex := by simp [turnP, h]
    rw [h] at cO
    rw [e, eRex_eq, eRex_eq] at *
    refine fits_of_cell 2 26 [] [0, 1, 2, 5] func22 rfl rfl rfl (by show 2 < 9; decide) (by show 1 ≤ 9; decide) (by rfl) (by rfl) (by show 0 ≤ 1; decide) (by rfl) (run_of ?_)
    simp -implicitDefEqProofs (maxSteps := 100000) (disch := first | (intros; contradiction) | omega) only [am0, am1, am2, am3, am4, am5, am6, am7, am8, am9, Nat.reduceSub, ↓reduceIte, reduceCtorEq, Nat.reduceEqDiff, Nat.reduceBEq, Nat.reduceAdd, Nat.reduceLT, Nat.reduceBNe, Nat.reduceMul, ↓reduceIte, tis, fls, rx]
    refine callB cO ?_
    simp -implicitDefEqProofs (maxSteps := 100000) (disch := first | (intros; contradiction) | omega) only [am0, am1, am2, am3, am4, am5, am6, am7, am8, am9, Nat.reduceSub, ↓reduceIte, reduceCtorEq, Nat.reduceEqDiff, Nat.reduceBEq, Nat.reduceAdd, Nat.reduceLT, Nat.reduceBNe, Nat.reduceMul, ↓reduceIte, tis, zRex, Rex.kind, Rex.set, Rex.kids, List.map_nil]
  | true =>
    have e : turnP r = turnR r := by simp [turnP, h]
    have cT := fits_l13Rex r 8 (rexB_fm h) hb
    rw [h] at cO
    rw [e]
    rw [eRex_eq false r] at *
    rw [eRex_eq] at cT
    rw [eRex_eq]
    refine fits_of_cell 2 26 [] [0, 1, 2, 5] func22 rfl rfl rfl (by show 2 < 9; decide) (by show 1 ≤ 9; decide) (by rfl) (by rfl) (by show 0 ≤ 1; decide) (by rfl) (run_of ?_)
    simp -implicitDefEqProofs (maxSteps := 100000) (disch := first | (intros; contradiction) | omega) only [am0, am1, am2, am3, am4, am5, am6, am7, am8, am9, Nat.reduceSub, ↓reduceIte, reduceCtorEq, Nat.reduceEqDiff, Nat.reduceBEq, Nat.reduceAdd, Nat.reduceLT, Nat.reduceBNe, Nat.reduceMul, ↓reduceIte, tis, fls, rx]
    refine callB cO ?_
    simp -implicitDefEqProofs (maxSteps := 100000) (disch := first | (intros; contradiction) | omega) only [am0, am1, am2, am3, am4, am5, am6, am7, am8, am9, Nat.reduceSub, ↓reduceIte, reduceCtorEq, Nat.reduceEqDiff, Nat.reduceBEq, Nat.reduceAdd, Nat.reduceLT, Nat.reduceBNe, Nat.reduceMul, ↓reduceIte, tis, fls, rx]
    refine callB cT ?_
    simp -implicitDefEqProofs (maxSteps := 100000) (disch := first | (intros; contradiction) | omega) only [am0, am1, am2, am3, am4, am5, am6, am7, am8, am9, Nat.reduceSub, ↓reduceIte, reduceCtorEq, Nat.reduceEqDiff, Nat.reduceBEq, Nat.reduceAdd, Nat.reduceLT, Nat.reduceBNe, Nat.reduceMul, ↓reduceIte, tis, fls, rx]
def isB' (r : Rex) (t : Txt) : Bool := rexB r && (decide (t.length ≤ 12) && mt r t)
/-- impl.MatchWord -/
theorem fits_matchWord (t : Txt) : Fits prog 78 [.str t] (.bool (decide ((t.length : Int) ≤ 12))) [] := by
  refine fits_of_code [2] [] [0, 2] func78 rfl rfl rfl (by rfl) (by show 1 ≤ 6; decide) (by rfl) (by rfl) (by show 0 ≤ 1; decide) (by rfl) (run_of ?_)
  simp -implicitDefEqProofs (maxSteps := 100000) (disch := first | (intros; contradiction) | omega) only [am0, am1, am2, am3, am4, am5, am6, am7, am8, am9, Nat.reduceSub, ↓reduceIte, reduceCtorEq, Nat.reduceEqDiff, Nat.reduceBEq, Nat.reduceAdd, Nat.reduceLT, Nat.reduceBNe, Nat.reduceMul, ↓reduceIte, tis]
/-- impl.MatchIs -/
theorem fits_matchIs (r : Rex) (hb : bd r ≤ 1048576) (t : Txt) : Fits prog 16 [eRex false r, .str t] (.bool (isB' r t)) [] := by
  have cO := fits_rexOk r hb
  have cW := fits_matchWord t
  cases h : rexB r with
  | false =>
    have e : isB' r t = false := by simp [isB', h]
    rw [h] at cO
    rw [e]
    simp only [eRex_eq] at *
    refine fits_of_code [4] [] [0, 1, 2, 4] func16 rfl rfl rfl (by rfl) (by show 2 ≤ 20; decide) (by rfl) (by rfl) (by show 0 ≤ 2; decide) (by rfl) (run_of ?_)
    simp -implicitDefEqProofs (maxSteps := 100000) (disch := first | (intros; contradiction) | omega) only [am0, am1, am2, am3, am4, am5, am6, am7, am8, am9, Nat.reduceSub, ↓reduceIte, reduceCtorEq, Nat.reduceEqDiff, Nat.reduceBEq, Nat.reduceAdd, Nat.reduceLT, Nat.reduceBNe, Nat.reduceMul, ↓reduceIte, tis, rx, fls]
    refine callB cO ?_
    simp -implicitDefEqProofs (maxSteps := 100000) (disch := first | (intros; contradiction) | omega) only [am0, am1, am2, am3, am4, am5, am6, am7, am8, am9, Nat.reduceSub, ↓reduceIte, reduceCtorEq, Nat.reduceEqDiff, Nat.reduceBEq, Nat.reduceAdd, Nat.reduceLT, Nat.reduceBNe, Nat.reduceMul, ↓reduceIte, tis, rx, fls]
  | true =>
    rw [h] at cO
    by_cases hl : (t.length : Int) ≤ 12
    · have cP := fits_piecesOf r 8 (rexB_fm h) hb t (by omega)
      have e : isB' r t = mt r t := by simp only [isB', h, Bool.true_and]; rw [decide_eq_true (by omega)]; rfl
      have hs := mE_stor (mtx r t)
      have hs2 := mR_stor (mtx r t) 0
      have g0 := mE_getD (mtx r t) (i := 0) (by omega)
      have g1 := mR_getD (mtx r t) 0 (j := t.length) (by omega)
      have g2 : mtx r t 0 t.length = mt r t := by rw [mtx_in (by omega) (Nat.le_refl _), sub_all]
      rw [e]
      rw [decide_eq_true hl] at cW
      simp only [eRex_eq] at *
      refine fits_of_code [4] [] [0, 1, 2, 4] func16 rfl rfl rfl (by rfl) (by show 2 ≤ 20; decide) (by rfl) (by rfl) (by show 0 ≤ 2; decide) (by rfl) (run_of ?_)
      simp -implicitDefEqProofs (maxSteps := 100000) (disch := first | (intros; contradiction) | omega) only [am0, am1, am2, am3, am4, am5, am6, am7, am8, am9, Nat.reduceSub, ↓reduceIte, reduceCtorEq, Nat.reduceEqDiff, Nat.reduceBEq, Nat.reduceAdd, Nat.reduceLT, Nat.reduceBNe, Nat.reduceMul, ↓reduceIte, tis, rx, fls]
      refine callB cO ?_
      simp -implicitDefEqProofs (maxSteps := 100000) (disch := first | (intros; contradiction) | omega) only [am0, am1, am2, am3, am4, am5, am6, am7, am8, am9, Nat.reduceSub, ↓reduceIte, reduceCtorEq, Nat.reduceEqDiff, Nat.reduceBEq, Nat.reduceAdd, Nat.reduceLT, Nat.reduceBNe, Nat.reduceMul, ↓reduceIte, tis, rx, fls]
      refine callB cW ?_
      simp -implicitDefEqProofs (maxSteps := 100000) (disch := first | (intros; contradiction) | omega) only [am0, am1, am2, am3, am4, am5, am6, am7, am8, am9, Nat.reduceSub, ↓reduceIte, reduceCtorEq, Nat.reduceEqDiff, Nat.reduceBEq, Nat.reduceAdd, Nat.reduceLT, Nat.reduceBNe, Nat.reduceMul, ↓reduceIte, tis, rx, fls]
      refine callB cP ?_
      simp -implicitDefEqProofs (maxSteps := 100000) (disch := first | (intros; contradiction) | omega) only [am0, am1, am2, am3, am4, am5, am6, am7, am8, am9, Nat.reduceSub, ↓reduceIte, reduceCtorEq, Nat.reduceEqDiff, Nat.reduceBEq, Nat.reduceAdd, Nat.reduceLT, Nat.reduceBNe, Nat.reduceMul, ↓reduceIte, tis, rx, fls, mF, g0, g1, g2]
      exact ⟨hs, hs2⟩
    · have e : isB' r t = false := by simp only [isB', h, Bool.true_and]; rw [decide_eq_false (by omega)]; rfl
      rw [e]
      rw [decide_eq_false hl] at cW
      simp only [eRex_eq] at *
      refine fits_of_code [4] [] [0, 1, 2, 4] func16 rfl rfl rfl (by rfl) (by show 2 ≤ 20; decide) (by rfl) (by rfl) (by show 0 ≤ 2; decide) (by rfl) (run_of ?_)
      simp -implicitDefEqProofs (maxSteps := 100000) (disch := first | (intros; contradiction) | omega) only [am0, am1, am2, am3, am4, am5, am6, am7, am8, am9, Nat.reduceSub, ↓reduceIte, reduceCtorEq, Nat.reduceEqDiff, Nat.reduceBEq, Nat.reduceAdd, Nat.reduceLT, Nat.reduceBNe, Nat.reduceMul, ↓reduceIte, tis, rx, fls]
      refine callB cO ?_
      simp -implicitDefEqProofs (maxSteps := 100000) (disch := first | (intros; contradiction) | omega) only [am0, am1, am2, am3, am4, am5, am6, am7, am8, am9, Nat.reduceSub, ↓reduceIte, reduceCtorEq, Nat.reduceEqDiff, Nat.reduceBEq, Nat.reduceAdd, Nat.reduceLT, Nat.reduceBNe, Nat.reduceMul, ↓reduceIte, tis, rx, fls]
      refine callB cW ?_
      simp -implicitDefEqProofs (maxSteps := 100000) (disch := first | (intros; contradiction) | omega) only [am0, am1, am2, am3, am4, am5, am6, am7, am8, am9, Nat.reduceSub, ↓reduceIte, reduceCtorEq, Nat.reduceEqDiff, Nat.reduceBEq, Nat.reduceAdd, Nat.reduceLT, Nat.reduceBNe, Nat.reduceMul, ↓reduceIte, tis, rx, fls]
/-- A number's digits. -/
def digs (n : Nat) : List UInt8 := if n = 0 then [] else digs (n / 10) ++ [UInt8.ofNat (48 + n % 10)]
termination_by n
decreasing_by omega
theorem digs_pos {n : Nat} (h : 0 < n) : digs n = digs (n / 10) ++ [UInt8.ofNat (48 + n % 10)] := by rw [digs, if_neg (by omega)]
theorem digs_len (n : Nat) : (digs n).length ≤ n := by
  induction n using Nat.strongRecOn with
  | ind n ih =>
    by_cases h : n = 0
    · subst h; rw [digs]; simp
    · rw [digs_pos (by omega), List.length_append, List.length_singleton]
      have := ih (n / 10) (by omega)
      omega
def mkT (k : Int) : List UInt8 := if k ≤ 0 then [109, 48] else 109 :: digs k.toNat
theorem bytesBack_1 (d : UInt8) : bytesBack [.int .u8 (d.toNat : Int)] = some [d] := bytesBack_bytesA [d]
/-- laws.markText -/
theorem fits_markText (k : Int) (hk : k ≤ 1152921504606846976) : Fits prog 97 [.int .i64 k] (.str (mkT k)) [] := by
  have i10 : ((10 : Int) = 0) = False := by simp
  refine fits_of_code [2] [] [0, 2, 3, 5, 7] func97 rfl rfl rfl (by rfl) (by show 1 ≤ 20; decide) (by rfl) (by rfl) (by show 0 ≤ 1; decide) (by rfl) (run_of ?_)
  by_cases h0 : k ≤ 0
  · have e : mkT k = [109, 48] := if_pos h0
    rw [e]
    simp -implicitDefEqProofs (maxSteps := 100000) (disch := first | (intros; contradiction) | omega) only [am0, am1, am2, am3, am4, am5, am6, am7, am8, am9, Nat.reduceSub, ↓reduceIte, reduceCtorEq, Nat.reduceEqDiff, Nat.reduceBEq, Nat.reduceAdd, Nat.reduceLT, Nat.reduceBNe, Nat.reduceMul, ↓reduceIte, tis]
  · obtain ⟨n, rfl⟩ : ∃ n : Nat, k = n := ⟨k.toNat, by omega⟩
    have e : mkT (n : Int) = 109 :: digs n := by unfold mkT; rw [if_neg h0]; rfl
    rw [e]
    simp -implicitDefEqProofs (maxSteps := 100000) (disch := first | (intros; contradiction) | omega) only [am0, am1, am2, am3, am4, am5, am6, am7, am8, am9, Nat.reduceSub, ↓reduceIte, reduceCtorEq, Nat.reduceEqDiff, Nat.reduceBEq, Nat.reduceAdd, Nat.reduceLT, Nat.reduceBNe, Nat.reduceMul, ↓reduceIte, tis]
    refine run_loop (α := Nat × List UInt8) (fun g => digs n = digs g.1 ++ g.2 ∧ g.1 ≤ n ∧ g.2.length + g.1 ≤ 2 * n) (fun g => [(0, .int .i64 g.1), (3, .str g.2)]) (fun g => g.1) (n, []) ⟨by simp, by omega, by simp; omega⟩ ?_ ?_
    · simp -implicitDefEqProofs (maxSteps := 100000) (disch := first | (intros; contradiction) | omega) only [am0, am1, am2, am3, am4, am5, am6, am7, am8, am9, Nat.reduceSub, ↓reduceIte, reduceCtorEq, Nat.reduceEqDiff, Nat.reduceBEq, Nat.reduceAdd, Nat.reduceLT, Nat.reduceBNe, Nat.reduceMul, ↓reduceIte, tis]
    · rintro ⟨m, o⟩ ⟨h1, h2, h3⟩
      simp only at h1 h2 h3
      by_cases hm : 0 < m
      · have hd : (48 + (m : Int).tmod 10) = ((UInt8.ofNat (48 + m % 10)).toNat : Int) := by
          rw [UInt8.toNat_ofNat']
          have : (m : Int).tmod 10 = ((m % 10 : Nat) : Int) := by rw [Int.tmod_eq_emod_of_nonneg (by omega)]; omega
          omega
        have hq : (m : Int).tdiv 10 = ((m / 10 : Nat) : Int) := by rw [Int.tdiv_eq_ediv_of_nonneg (by omega)]; omega
        have hlt : (UInt8.ofNat (48 + m % 10)).toNat < 256 := (UInt8.ofNat (48 + m % 10)).toNat_lt
        have ht : 0 ≤ (m : Int).tmod 10 ∧ (m : Int).tmod 10 < 10 := by rw [Int.tmod_eq_emod_of_nonneg (by omega)]; omega
        have hdl : (digs n).length ≤ n := digs_len n
        simp -implicitDefEqProofs (maxSteps := 100000) (disch := first | (intros; contradiction) | omega) only [am0, am1, am2, am3, am4, am5, am6, am7, am8, am9, Nat.reduceSub, ↓reduceIte, reduceCtorEq, Nat.reduceEqDiff, Nat.reduceBEq, Nat.reduceAdd, Nat.reduceLT, Nat.reduceBNe, Nat.reduceMul, ↓reduceIte, tis, hd, hq, bytesBack_1, i10]
        refine round_normal (m / 10, [UInt8.ofNat (48 + m % 10)] ++ o) ⟨by simp only; rw [h1, digs_pos hm]; simp, by simp only; omega, by simp only [List.length_append, List.length_singleton]; omega⟩ ?_ (by show m / 10 < m; omega)
        simp -implicitDefEqProofs (maxSteps := 100000) (disch := first | (intros; contradiction) | omega) only [am0, am1, am2, am3, am4, am5, am6, am7, am8, am9, Nat.reduceSub, ↓reduceIte, reduceCtorEq, Nat.reduceEqDiff, Nat.reduceBEq, Nat.reduceAdd, Nat.reduceLT, Nat.reduceBNe, Nat.reduceMul, ↓reduceIte, tis]
      · obtain rfl : m = 0 := by omega
        have e0 : digs 0 = [] := by rw [digs]; simp
        rw [e0, List.nil_append] at h1
        have hdl : (digs n).length ≤ n := digs_len n
        simp -implicitDefEqProofs (maxSteps := 100000) (disch := first | (intros; contradiction) | omega) only [am0, am1, am2, am3, am4, am5, am6, am7, am8, am9, Nat.reduceSub, ↓reduceIte, reduceCtorEq, Nat.reduceEqDiff, Nat.reduceBEq, Nat.reduceAdd, Nat.reduceLT, Nat.reduceBNe, Nat.reduceMul, ↓reduceIte, tis, h1]
/-- impl.copied of texts -/
theorem fits_copiedStr (p : List (List UInt8)) (hp : p.length ≤ 1099511627776) : Fits prog 73 [.sl false 1 (p.map eStr)] (.sl true 1 (p.map eStr)) [] := by
  refine fits_of_code [2] [] [0, 2, 3, 6] func73 rfl rfl rfl (by rfl) (by show 1 ≤ 14; decide) (by rfl) (by rfl) (by show 0 ≤ 1; decide) (by rfl) (run_of ?_)
  cases p with
  | nil => simp -implicitDefEqProofs (maxSteps := 100000) (disch := first | (intros; contradiction) | omega) only [am0, am1, am2, am3, am4, am5, am6, am7, am8, am9, Nat.reduceSub, ↓reduceIte, reduceCtorEq, Nat.reduceEqDiff, Nat.reduceBEq, Nat.reduceAdd, Nat.reduceLT, Nat.reduceBNe, Nat.reduceMul, ↓reduceIte, tis]
  | cons x r =>
    have hl : ((x :: r).length : Int) ≠ 0 := by simp; omega
    generalize (x :: r) = p at *
    simp -implicitDefEqProofs (maxSteps := 100000) (disch := first | (intros; contradiction) | omega) only [am0, am1, am2, am3, am4, am5, am6, am7, am8, am9, Nat.reduceSub, ↓reduceIte, reduceCtorEq, Nat.reduceEqDiff, Nat.reduceBEq, Nat.reduceAdd, Nat.reduceLT, Nat.reduceBNe, Nat.reduceMul, ↓reduceIte, tis]
    simp -implicitDefEqProofs (maxSteps := 100000) (disch := first | (intros; contradiction) | omega) only [am0, am1, am2, am3, am4, am5, am6, am7, am8, am9, Nat.reduceSub, ↓reduceIte, reduceCtorEq, Nat.reduceEqDiff, Nat.reduceBEq, Nat.reduceAdd, Nat.reduceLT, Nat.reduceBNe, Nat.reduceMul, ↓reduceIte, tis, List.length_replicate, fls]
    simp [List.take_of_length_le]
/-- laws.eqStringS -/
theorem fits_eqStringS (p q : List (List UInt8)) (hp : p.length ≤ 1048576) (hq : q.length ≤ 1048576) : Fits prog 29 [.sl false 1 (p.map eStr), .sl false 1 (q.map eStr)] (.bool (decide (p = q))) [] := by
  refine fits_of_code [4] [] [0, 1, 4, 5, 10, 14, 25] func29 rfl rfl rfl (by rfl) (by show 2 ≤ 26; decide) (by rfl) (by rfl) (by show 0 ≤ 2; decide) (by rfl) (run_of ?_)
  by_cases hl : p.length = q.length
  · simp -implicitDefEqProofs (maxSteps := 100000) (disch := first | (intros; contradiction) | omega) only [am0, am1, am2, am3, am4, am5, am6, am7, am8, am9, Nat.reduceSub, ↓reduceIte, reduceCtorEq, Nat.reduceEqDiff, Nat.reduceBEq, Nat.reduceAdd, Nat.reduceLT, Nat.reduceBNe, Nat.reduceMul, ↓reduceIte, tis]
    refine run_loop (α := Nat) (fun i => i ≤ p.length ∧ p.take i = q.take i) (fun i => [(0, .sl false 1 (p.map eStr)), (1, .sl false 1 (q.map eStr)), (5, .int .i64 i)]) (fun i => p.length - i) 0 ⟨Nat.zero_le _, by simp⟩ ?_ ?_
    · simp -implicitDefEqProofs (maxSteps := 100000) (disch := first | (intros; contradiction) | omega) only [am0, am1, am2, am3, am4, am5, am6, am7, am8, am9, Nat.reduceSub, ↓reduceIte, reduceCtorEq, Nat.reduceEqDiff, Nat.reduceBEq, Nat.reduceAdd, Nat.reduceLT, Nat.reduceBNe, Nat.reduceMul, ↓reduceIte, tis]
    · rintro i ⟨h1, h2⟩
      by_cases hi : i < p.length
      · by_cases h : p[i] = q[i]
        · have hb : (p[i] == q[i]) = true := by simp [h]
          simp -implicitDefEqProofs (maxSteps := 100000) (disch := first | (intros; contradiction) | omega) only [am0, am1, am2, am3, am4, am5, am6, am7, am8, am9, Nat.reduceSub, ↓reduceIte, reduceCtorEq, Nat.reduceEqDiff, Nat.reduceBEq, Nat.reduceAdd, Nat.reduceLT, Nat.reduceBNe, Nat.reduceMul, ↓reduceIte, tis, eStr, hb]
          refine .inl ⟨by kernel_rfl, ?_⟩
          refine round_normal (i + 1) ⟨by omega, ?_⟩ ?_ (by show p.length - (i + 1) < p.length - i; omega)
          · rw [List.take_succ_eq_append_getElem hi, List.take_succ_eq_append_getElem (by omega : i < q.length), h2, h]
          · simp -implicitDefEqProofs (maxSteps := 100000) (disch := first | (intros; contradiction) | omega) only [am0, am1, am2, am3, am4, am5, am6, am7, am8, am9, Nat.reduceSub, ↓reduceIte, reduceCtorEq, Nat.reduceEqDiff, Nat.reduceBEq, Nat.reduceAdd, Nat.reduceLT, Nat.reduceBNe, Nat.reduceMul, ↓reduceIte, tis]
        · have hne : p ≠ q := by rintro rfl; exact h rfl
          have hb : (p[i] == q[i]) = false := by simp [h]
          simp -implicitDefEqProofs (maxSteps := 100000) (disch := first | (intros; contradiction) | omega) only [am0, am1, am2, am3, am4, am5, am6, am7, am8, am9, Nat.reduceSub, ↓reduceIte, reduceCtorEq, Nat.reduceEqDiff, Nat.reduceBEq, Nat.reduceAdd, Nat.reduceLT, Nat.reduceBNe, Nat.reduceMul, ↓reduceIte, tis, eStr, hb, hne]
          refine .inl ?_
          show _ = _
          kernel_rfl
      · obtain rfl : i = p.length := by omega
        have hpq : p = q := by rwa [List.take_of_length_le (Nat.le_refl _), List.take_of_length_le (by omega)] at h2
        simp -implicitDefEqProofs (maxSteps := 100000) (disch := first | (intros; contradiction) | omega) only [am0, am1, am2, am3, am4, am5, am6, am7, am8, am9, Nat.reduceSub, ↓reduceIte, reduceCtorEq, Nat.reduceEqDiff, Nat.reduceBEq, Nat.reduceAdd, Nat.reduceLT, Nat.reduceBNe, Nat.reduceMul, ↓reduceIte, tis, hpq]
  · have hne : p ≠ q := fun h => hl (by rw [h])
    simp -implicitDefEqProofs (maxSteps := 100000) (disch := first | (intros; contradiction) | omega) only [am0, am1, am2, am3, am4, am5, am6, am7, am8, am9, Nat.reduceSub, ↓reduceIte, reduceCtorEq, Nat.reduceEqDiff, Nat.reduceBEq, Nat.reduceAdd, Nat.reduceLT, Nat.reduceBNe, Nat.reduceMul, ↓reduceIte, tis, hne]
def mkStrs (n : Nat) (k : Int) : List (List UInt8) := (List.range n).map fun (i : Nat) => mkT (k + (i : Int))
theorem mkStrs_succ (n : Nat) (k : Int) : mkStrs (n + 1) k = mkStrs n k ++ [mkT (k + n)] := by simp [mkStrs, List.range_succ]
theorem mkStrs_len (n : Nat) (k : Int) : (mkStrs n k).length = n := by simp [mkStrs]
/-- laws.markStringS -/
theorem fits_markStringS (p : List (List UInt8)) (k : Int) (hp : p.length ≤ 1048576) (h0 : 0 ≤ k) (hk : k ≤ 1099511627776) : Fits prog 32 [.sl true 1 (p.map eStr), .int .i64 k] (.int .i64 (k + p.length)) [.sl true 1 ((mkStrs p.length k).map eStr)] := by
  refine fits_of_code [4] [0] [0, 1, 4, 5, 9] func32 rfl rfl rfl (by rfl) (by show 2 ≤ 20; decide) (by rfl) (by rfl) (by show 1 ≤ 2; decide) (by rfl) (run_of ?_)
  simp -implicitDefEqProofs (maxSteps := 100000) (disch := first | (intros; contradiction) | omega) only [am0, am1, am2, am3, am4, am5, am6, am7, am8, am9, Nat.reduceSub, ↓reduceIte, reduceCtorEq, Nat.reduceEqDiff, Nat.reduceBEq, Nat.reduceAdd, Nat.reduceLT, Nat.reduceBNe, Nat.reduceMul, ↓reduceIte, tis]
  refine run_loop (α := Nat) (fun i => i ≤ p.length) (fun i => [(0, .sl true 1 ((mkStrs i k).map eStr ++ (p.drop i).map eStr)), (1, .int .i64 (k + i)), (5, .int .i64 i)]) (fun i => p.length - i) 0 (Nat.zero_le _) ?_ ?_
  · simp -implicitDefEqProofs (maxSteps := 100000) (disch := first | (intros; contradiction) | omega) only [am0, am1, am2, am3, am4, am5, am6, am7, am8, am9, Nat.reduceSub, ↓reduceIte, reduceCtorEq, Nat.reduceEqDiff, Nat.reduceBEq, Nat.reduceAdd, Nat.reduceLT, Nat.reduceBNe, Nat.reduceMul, ↓reduceIte, tis, mkStrs]
    try simp
  · intro i hi'
    have hA : ((mkStrs i k).map eStr).length = i := by simp [mkStrs_len]
    have hL : ((mkStrs i k).map eStr ++ (p.drop i).map eStr).length = p.length := by simp [mkStrs_len]; omega
    by_cases hi : i < p.length
    · have g1 := turn_get _ eStr p i hA hi
      have g2 := fun y => turn_set _ eStr p i y hA hi
      have cM := fits_markText (k + i) (by omega)
      simp only [eStr] at g1
      simp -implicitDefEqProofs (maxSteps := 100000) (disch := first | (intros; contradiction) | omega) only [am0, am1, am2, am3, am4, am5, am6, am7, am8, am9, Nat.reduceSub, ↓reduceIte, reduceCtorEq, Nat.reduceEqDiff, Nat.reduceBEq, Nat.reduceAdd, Nat.reduceLT, Nat.reduceBNe, Nat.reduceMul, ↓reduceIte, tis, hL, g1, g2]
      refine callB cM ?_
      simp -implicitDefEqProofs (maxSteps := 100000) (disch := first | (intros; contradiction) | omega) only [am0, am1, am2, am3, am4, am5, am6, am7, am8, am9, Nat.reduceSub, ↓reduceIte, reduceCtorEq, Nat.reduceEqDiff, Nat.reduceBEq, Nat.reduceAdd, Nat.reduceLT, Nat.reduceBNe, Nat.reduceMul, ↓reduceIte, tis, hL, g1, g2]
      refine round_normal (i + 1) (by omega) ?_ (by show p.length - (i + 1) < p.length - i; omega)
      simp -implicitDefEqProofs (maxSteps := 100000) (disch := first | (intros; contradiction) | omega) only [am0, am1, am2, am3, am4, am5, am6, am7, am8, am9, Nat.reduceSub, ↓reduceIte, reduceCtorEq, Nat.reduceEqDiff, Nat.reduceBEq, Nat.reduceAdd, Nat.reduceLT, Nat.reduceBNe, Nat.reduceMul, ↓reduceIte, tis, mkStrs_succ]
      simp [eStr]
      omega
    · obtain rfl : i = p.length := by omega
      simp -implicitDefEqProofs (maxSteps := 100000) (disch := first | (intros; contradiction) | omega) only [am0, am1, am2, am3, am4, am5, am6, am7, am8, am9, Nat.reduceSub, ↓reduceIte, reduceCtorEq, Nat.reduceEqDiff, Nat.reduceBEq, Nat.reduceAdd, Nat.reduceLT, Nat.reduceBNe, Nat.reduceMul, ↓reduceIte, tis, mkStrs_len]
theorem mkStrs_get (n : Nat) (k : Int) (i : Nat) (h : i < n) : ((mkStrs n k).map eStr).getD i .undef = .str (mkT (k + i)) := by
  simp [mkStrs, List.getD, h, eStr]
/-- laws.heldStringS -/
theorem fits_heldStringS (m : Nat) (k : Int) (hp : m ≤ 1048576) (h0 : 0 ≤ k) (hk : k ≤ 1048576) : Fits prog 33 [.sl false 1 ((mkStrs m k).map eStr), .int .i64 k] (.int .i64 (k + m)) [] := by
  refine fits_of_code [4] [] [0, 1, 4, 5, 9, 18] func33 rfl rfl rfl (by rfl) (by show 2 ≤ 22; decide) (by rfl) (by rfl) (by show 0 ≤ 2; decide) (by rfl) (run_of ?_)
  simp -implicitDefEqProofs (maxSteps := 100000) (disch := first | (intros; contradiction) | omega) only [am0, am1, am2, am3, am4, am5, am6, am7, am8, am9, Nat.reduceSub, ↓reduceIte, reduceCtorEq, Nat.reduceEqDiff, Nat.reduceBEq, Nat.reduceAdd, Nat.reduceLT, Nat.reduceBNe, Nat.reduceMul, ↓reduceIte, tis]
  refine run_loop (α := Nat) (fun i => i ≤ m) (fun i => [(0, .sl false 1 ((mkStrs m k).map eStr)), (1, .int .i64 (k + i)), (5, .int .i64 i)]) (fun i => m - i) 0 (Nat.zero_le _) ?_ ?_
  · simp -implicitDefEqProofs (maxSteps := 100000) (disch := first | (intros; contradiction) | omega) only [am0, am1, am2, am3, am4, am5, am6, am7, am8, am9, Nat.reduceSub, ↓reduceIte, reduceCtorEq, Nat.reduceEqDiff, Nat.reduceBEq, Nat.reduceAdd, Nat.reduceLT, Nat.reduceBNe, Nat.reduceMul, ↓reduceIte, tis]
  · intro i hi'
    by_cases hi : i < m
    · have g := mkStrs_get m k i hi
      have cM := fits_markText (k + i) (by omega)
      have hb : (mkT (k + i) == mkT (k + i)) = true := by simp
      simp -implicitDefEqProofs (maxSteps := 100000) (disch := first | (intros; contradiction) | omega) only [am0, am1, am2, am3, am4, am5, am6, am7, am8, am9, Nat.reduceSub, ↓reduceIte, reduceCtorEq, Nat.reduceEqDiff, Nat.reduceBEq, Nat.reduceAdd, Nat.reduceLT, Nat.reduceBNe, Nat.reduceMul, ↓reduceIte, tis, g, mkStrs_len]
      refine .inl ⟨by kernel_rfl, ?_⟩
      refine callL cM ?_
      simp -implicitDefEqProofs (maxSteps := 100000) (disch := first | (intros; contradiction) | omega) only [am0, am1, am2, am3, am4, am5, am6, am7, am8, am9, Nat.reduceSub, ↓reduceIte, reduceCtorEq, Nat.reduceEqDiff, Nat.reduceBEq, Nat.reduceAdd, Nat.reduceLT, Nat.reduceBNe, Nat.reduceMul, ↓reduceIte, tis, g, mkStrs_len, hb]
      refine round_normal (i + 1) (by omega) ?_ (by show m - (i + 1) < m - i; omega)
      simp -implicitDefEqProofs (maxSteps := 100000) (disch := first | (intros; contradiction) | omega) only [am0, am1, am2, am3, am4, am5, am6, am7, am8, am9, Nat.reduceSub, ↓reduceIte, reduceCtorEq, Nat.reduceEqDiff, Nat.reduceBEq, Nat.reduceAdd, Nat.reduceLT, Nat.reduceBNe, Nat.reduceMul, ↓reduceIte, tis, mkStrs_len]
      omega
    · obtain rfl : i = m := by omega
      simp -implicitDefEqProofs (maxSteps := 100000) (disch := first | (intros; contradiction) | omega) only [am0, am1, am2, am3, am4, am5, am6, am7, am8, am9, Nat.reduceSub, ↓reduceIte, reduceCtorEq, Nat.reduceEqDiff, Nat.reduceBEq, Nat.reduceAdd, Nat.reduceLT, Nat.reduceBNe, Nat.reduceMul, ↓reduceIte, tis, mkStrs_len]
def extW (ls : Txt) (w : Txt) : List Txt := ls.map fun c => w ++ [c]
def level (ls : Txt) : Nat → List Txt
  | 0 => [[]]
  | n + 1 => (level ls n).flatMap (extW ls)
def askN (r : Rex) (ls : Txt) : Nat → List Txt
  | 0 => []
  | n + 1 => askN r ls n ++ (level ls n).filter (mt r)
theorem level_len (ls : Txt) : ∀ n, (level ls n).length = ls.length ^ n
  | 0 => rfl
  | n + 1 => by
    simp only [level, List.length_flatMap]
    have : ∀ l : List Txt, (l.map fun a => (extW ls a).length).sum = ls.length * l.length := by
      intro l
      have hx : ∀ a, (extW ls a).length = ls.length := fun a => by simp [extW]
      simp only [hx]
      induction l with
      | nil => simp
      | cons x l ih => rw [List.map_cons, List.sum_cons, ih, List.length_cons, Nat.mul_succ, Nat.add_comm]
    rw [this, level_len ls n, Nat.pow_succ, Nat.mul_comm]
theorem level_word (ls : Txt) : ∀ n, ∀ w ∈ level ls n, w.length = n
  | 0, w, h => by simp [level] at h; simp [h]
  | n + 1, w, h => by
    simp only [level, List.mem_flatMap, extW, List.mem_map] at h
    obtain ⟨v, hv, c, _, rfl⟩ := h
    simp [level_word ls n v hv]
theorem level_le {ls : Txt} (h : ls.length ≤ 3) {n : Nat} (hn : n ≤ 6) : (level ls n).length ≤ 729 := by
  rw [level_len]
  calc ls.length ^ n ≤ 3 ^ n := Nat.pow_le_pow_left h n
    _ ≤ 3 ^ 6 := Nat.pow_le_pow_right (by omega) hn
theorem askN_le (r : Rex) {ls : Txt} (h : ls.length ≤ 3) : ∀ n, n ≤ 7 → (askN r ls n).length ≤ 729 * n
  | 0, _ => by simp [askN]
  | n + 1, hn => by
    have h1 := askN_le r h n (by omega)
    have h2 := level_le h (n := n) (by omega)
    have h3 := List.length_filter_le (mt r) (level ls n)
    simp only [askN, List.length_append]
    omega
def askP (r : Rex) (ls : Txt) (most : Int) : List Txt := if rexB r = true ∧ ls.length ≤ 3 ∧ (0 ≤ most ∧ most ≤ 6) then askN r ls (most.toNat + 1) else []
theorem flat_le {ls : Txt} (h : ls.length ≤ 3) (l : List Txt) : (l.flatMap (extW ls)).length ≤ 3 * l.length := by
  induction l with
  | nil => simp
  | cons x l ih =>
    simp only [List.flatMap_cons, List.length_append, List.length_cons, extW, List.length_map] at *
    omega
/-- impl.AskAll -/
theorem fits_askAll (r : Rex) (hb : bd r ≤ 1048576) (ls : Txt) (hls : ls.length ≤ 1048576) (most : Int) : Fits prog 13 [eRex false r, .str ls, .int .i64 most] (.sl true 1 ((askP r ls most).map eStr)) [] := by
  have cO := fits_rexOk r hb
  have cI := fits_in most 0 6
  by_cases hg : rexB r = true ∧ ls.length ≤ 3 ∧ (0 ≤ most ∧ most ≤ 6)
  · obtain ⟨h, hl, hm⟩ := id hg
    have e : askP r ls most = askN r ls (most.toNat + 1) := if_pos hg
    obtain ⟨m, rfl⟩ : ∃ n : Nat, most = n := ⟨most.toNat, by omega⟩
    rw [h] at cO
    rw [decide_eq_true hm] at cI
    rw [e, show Int.toNat (m : Int) = m from rfl]
    have hfin := askN_le r hl (m + 1) (by omega)
    have cC := fits_copiedStr (askN r ls (m + 1)) (by omega)
    have cM := fits_matchIs r hb
    simp only [eRex_eq] at *
    refine fits_of_code [6] [] [0, 1, 2, 3, 6, 7, 8, 9, 10, 12, 13, 26, 30, 33, 34, 35, 36, 41, 49] func13 rfl rfl rfl (by rfl) (by show 3 ≤ 66; decide) (by rfl) (by rfl) (by show 0 ≤ 3; decide) (by rfl) (run_of ?_)
    simp -implicitDefEqProofs (maxSteps := 100000) (disch := first | (intros; contradiction) | omega) only [am0, am1, am2, am3, am4, am5, am6, am7, am8, am9, Nat.reduceSub, ↓reduceIte, reduceCtorEq, Nat.reduceEqDiff, Nat.reduceBEq, Nat.reduceAdd, Nat.reduceLT, Nat.reduceBNe, Nat.reduceMul, ↓reduceIte, tis, rx, fls]
    refine callB cO ?_
    simp -implicitDefEqProofs (maxSteps := 100000) (disch := first | (intros; contradiction) | omega) only [am0, am1, am2, am3, am4, am5, am6, am7, am8, am9, Nat.reduceSub, ↓reduceIte, reduceCtorEq, Nat.reduceEqDiff, Nat.reduceBEq, Nat.reduceAdd, Nat.reduceLT, Nat.reduceBNe, Nat.reduceMul, ↓reduceIte, tis, rx, fls]
    refine callB cI ?_
    simp -implicitDefEqProofs (maxSteps := 100000) (disch := first | (intros; contradiction) | omega) only [am0, am1, am2, am3, am4, am5, am6, am7, am8, am9, Nat.reduceSub, ↓reduceIte, reduceCtorEq, Nat.reduceEqDiff, Nat.reduceBEq, Nat.reduceAdd, Nat.reduceLT, Nat.reduceBNe, Nat.reduceMul, ↓reduceIte, tis, rx, fls]
    refine run_loop (α := Nat) (fun n => n ≤ m + 1) (fun n => [(1, .str ls), (2, .int .i64 m), (3, .box (.agg [.int .i64 r.kind, .sl false 2 (r.set.map eSpan), .sl false 3 (r.kids.map (eRex false))])), (7, .sl true 1 ((askN r ls n).map eStr)), (8, .sl true 1 ((level ls n).map eStr)), (9, .int .i64 n)]) (fun n => m + 1 - n) 0 (Nat.zero_le _) ?_ ?_
    · simp -implicitDefEqProofs (maxSteps := 100000) (disch := first | (intros; contradiction) | omega) only [am0, am1, am2, am3, am4, am5, am6, am7, am8, am9, Nat.reduceSub, ↓reduceIte, reduceCtorEq, Nat.reduceEqDiff, Nat.reduceBEq, Nat.reduceAdd, Nat.reduceLT, Nat.reduceBNe, Nat.reduceMul, ↓reduceIte, tis, askN, level, eStr]
    · intro n hn'
      by_cases hn : n ≤ m
      · have hle := level_le hl (n := n) (by omega)
        have hae := askN_le r hl n (by omega)
        simp -implicitDefEqProofs (maxSteps := 100000) (disch := first | (intros; contradiction) | omega) only [am0, am1, am2, am3, am4, am5, am6, am7, am8, am9, Nat.reduceSub, ↓reduceIte, reduceCtorEq, Nat.reduceEqDiff, Nat.reduceBEq, Nat.reduceAdd, Nat.reduceLT, Nat.reduceBNe, Nat.reduceMul, ↓reduceIte, tis, rx, fls]
        refine run_loop (α := Nat) (fun j => j ≤ (level ls n).length) (fun j => [(1, .str ls), (2, .int .i64 m), (3, .box (.agg [.int .i64 r.kind, .sl false 2 (r.set.map eSpan), .sl false 3 (r.kids.map (eRex false))])), (7, .sl true 1 ((askN r ls n ++ ((level ls n).take j).filter (mt r)).map eStr)), (8, .sl true 1 ((level ls n).map eStr)), (9, .int .i64 n), (10, .sl true 1 ((((level ls n).take j).flatMap (extW ls)).map eStr)), (33, .vref 8 []), (34, .int .i64 (level ls n).length), (35, .int .i64 j)]) (fun j => (level ls n).length - j) 0 (Nat.zero_le _) ?_ ?_
        · simp -implicitDefEqProofs (maxSteps := 100000) (disch := first | (intros; contradiction) | omega) only [am0, am1, am2, am3, am4, am5, am6, am7, am8, am9, Nat.reduceSub, ↓reduceIte, reduceCtorEq, Nat.reduceEqDiff, Nat.reduceBEq, Nat.reduceAdd, Nat.reduceLT, Nat.reduceBNe, Nat.reduceMul, ↓reduceIte, tis, List.filter_nil, List.append_nil, List.flatMap_nil]
        · intro j hj'
          have hfl : (((level ls n).take j).filter (mt r)).length ≤ 729 := Nat.le_trans (List.length_filter_le _ _) (by simp; omega)
          have hx := flat_le hl ((level ls n).take j)
          have hx2 : ((level ls n).take j).length ≤ 729 := by simp; omega
          by_cases hj : j < (level ls n).length
          · have hw : ((level ls n)[j]).length = n := level_word ls n _ (List.getElem_mem hj)
            have eM : isB' r (level ls n)[j] = mt r (level ls n)[j] := by simp only [isB', h, Bool.true_and]; rw [decide_eq_true (by omega)]; rfl
            have cMj := cM (level ls n)[j]
            rw [eM] at cMj
            have et := List.take_succ_eq_append_getElem hj
            have eF : ((level ls n).take (j + 1)).filter (mt r) = ((level ls n).take j).filter (mt r) ++ (if mt r (level ls n)[j] = true then [(level ls n)[j]] else []) := by
              rw [et, List.filter_append]; congr 1
              by_cases hq : mt r (level ls n)[j] = true <;> simp [hq]
            have eX : ((level ls n).take (j + 1)).flatMap (extW ls) = ((level ls n).take j).flatMap (extW ls) ++ extW ls (level ls n)[j] := by
              rw [et, List.flatMap_append]; simp
            have gw : ((level ls n).map eStr)[j]? = some (.str (level ls n)[j]) := by rw [List.getElem?_map, List.getElem?_eq_getElem hj]; rfl
            have gl : ((level ls n).map eStr).length = (level ls n).length := by simp
            have hYl : (askN r ls n ++ ((level ls n).take j).filter (mt r)).length ≤ 8192 := by simp only [List.length_append]; omega
            have eF2 : askN r ls n ++ ((level ls n).take (j + 1)).filter (mt r) = (askN r ls n ++ ((level ls n).take j).filter (mt r)) ++ (if mt r (level ls n)[j] = true then [(level ls n)[j]] else []) := by rw [eF, List.append_assoc]
            clear eF
            have eF := eF2
            generalize (level ls n)[j] = w at *
            generalize ((level ls n).take j).flatMap (extW ls) = X at *
            generalize askN r ls n ++ ((level ls n).take j).filter (mt r) = Y at *
            simp -implicitDefEqProofs (maxSteps := 100000) (disch := first | (intros; contradiction) | omega) only [am0, am1, am2, am3, am4, am5, am6, am7, am8, am9, Nat.reduceSub, ↓reduceIte, reduceCtorEq, Nat.reduceEqDiff, Nat.reduceBEq, Nat.reduceAdd, Nat.reduceLT, Nat.reduceBNe, Nat.reduceMul, ↓reduceIte, tis, rx, fls, gw, gl]
            refine callB cMj ?_
            cases hq : mt r w with
            | true =>
              simp -implicitDefEqProofs (maxSteps := 100000) (disch := first | (intros; contradiction) | omega) only [am0, am1, am2, am3, am4, am5, am6, am7, am8, am9, Nat.reduceSub, ↓reduceIte, reduceCtorEq, Nat.reduceEqDiff, Nat.reduceBEq, Nat.reduceAdd, Nat.reduceLT, Nat.reduceBNe, Nat.reduceMul, ↓reduceIte, tis, rx, fls, gw, gl]
              refine run_loop (α := Nat) (fun i => i ≤ ls.length) (fun i => [(1, .str ls), (2, .int .i64 m), (3, .box (.agg [.int .i64 r.kind, .sl false 2 (r.set.map eSpan), .sl false 3 (r.kids.map (eRex false))])), (7, .sl true 1 ((Y ++ [w]).map eStr)), (8, .sl true 1 ((level ls n).map eStr)), (9, .int .i64 n), (10, .sl true 1 ((X ++ (ls.take i).map fun c => w ++ [c]).map eStr)), (12, .str w), (13, .int .i64 i), (33, .vref 8 []), (34, .int .i64 (level ls n).length), (35, .int .i64 j)]) (fun i => ls.length - i) 0 (Nat.zero_le _) ?_ ?_
              · simp -implicitDefEqProofs (maxSteps := 100000) (disch := first | (intros; contradiction) | omega) only [am0, am1, am2, am3, am4, am5, am6, am7, am8, am9, Nat.reduceSub, ↓reduceIte, reduceCtorEq, Nat.reduceEqDiff, Nat.reduceBEq, Nat.reduceAdd, Nat.reduceLT, Nat.reduceBNe, Nat.reduceMul, ↓reduceIte, tis, List.append_nil, hq, eStr, List.map_append, List.map_cons, List.map_nil]
              · intro i hi'
                by_cases hi : i < ls.length
                · have es : (ls.take (i + 1)).drop i = [ls[i]] := by rw [List.drop_take, List.drop_eq_getElem_cons hi, show i + 1 - i = 1 by omega]; rfl
                  have ei : ((i : Int) + 1).toNat = i + 1 := by omega
                  have hXl : (X ++ (ls.take i).map fun c => w ++ [c]).length ≤ 8192 := by simp; omega
                  have eN : (X ++ (ls.take (i + 1)).map fun c => w ++ [c]) = (X ++ (ls.take i).map fun c => w ++ [c]) ++ [w ++ [ls[i]]] := by
                    rw [List.take_succ_eq_append_getElem hi, List.map_append, List.append_assoc]; rfl
                  have hti : (ls.take i).length = i := by simp; omega
                  simp -implicitDefEqProofs (maxSteps := 100000) (disch := first | (intros; contradiction) | omega) only [am0, am1, am2, am3, am4, am5, am6, am7, am8, am9, Nat.reduceSub, ↓reduceIte, reduceCtorEq, Nat.reduceEqDiff, Nat.reduceBEq, Nat.reduceAdd, Nat.reduceLT, Nat.reduceBNe, Nat.reduceMul, ↓reduceIte, tis, rx, fls, es, ei, hw, hti]
                  refine round_normal (i + 1) (by omega) ?_ (by show ls.length - (i + 1) < ls.length - i; omega)
                  simp -implicitDefEqProofs (maxSteps := 100000) (disch := first | (intros; contradiction) | omega) only [am0, am1, am2, am3, am4, am5, am6, am7, am8, am9, Nat.reduceSub, ↓reduceIte, reduceCtorEq, Nat.reduceEqDiff, Nat.reduceBEq, Nat.reduceAdd, Nat.reduceLT, Nat.reduceBNe, Nat.reduceMul, ↓reduceIte, tis, eN, eStr, List.map_append, List.map_cons, List.map_nil]
                · obtain rfl : i = ls.length := by omega
                  have eT : ls.take ls.length = ls := List.take_length
                  simp -implicitDefEqProofs (maxSteps := 100000) (disch := first | (intros; contradiction) | omega) only [am0, am1, am2, am3, am4, am5, am6, am7, am8, am9, Nat.reduceSub, ↓reduceIte, reduceCtorEq, Nat.reduceEqDiff, Nat.reduceBEq, Nat.reduceAdd, Nat.reduceLT, Nat.reduceBNe, Nat.reduceMul, ↓reduceIte, tis, rx, fls]
                  refine round_normal (j + 1) (by omega) ?_ (by show (level ls n).length - (j + 1) < (level ls n).length - j; omega)
                  simp -implicitDefEqProofs (maxSteps := 100000) (disch := first | (intros; contradiction) | omega) only [am0, am1, am2, am3, am4, am5, am6, am7, am8, am9, Nat.reduceSub, ↓reduceIte, reduceCtorEq, Nat.reduceEqDiff, Nat.reduceBEq, Nat.reduceAdd, Nat.reduceLT, Nat.reduceBNe, Nat.reduceMul, ↓reduceIte, tis, eF, eX, hq, eT, extW, List.append_nil]
            | false =>
              simp -implicitDefEqProofs (maxSteps := 100000) (disch := first | (intros; contradiction) | omega) only [am0, am1, am2, am3, am4, am5, am6, am7, am8, am9, Nat.reduceSub, ↓reduceIte, reduceCtorEq, Nat.reduceEqDiff, Nat.reduceBEq, Nat.reduceAdd, Nat.reduceLT, Nat.reduceBNe, Nat.reduceMul, ↓reduceIte, tis, rx, fls, gw, gl]
              refine run_loop (α := Nat) (fun i => i ≤ ls.length) (fun i => [(1, .str ls), (2, .int .i64 m), (3, .box (.agg [.int .i64 r.kind, .sl false 2 (r.set.map eSpan), .sl false 3 (r.kids.map (eRex false))])), (7, .sl true 1 (Y.map eStr)), (8, .sl true 1 ((level ls n).map eStr)), (9, .int .i64 n), (10, .sl true 1 ((X ++ (ls.take i).map fun c => w ++ [c]).map eStr)), (12, .str w), (13, .int .i64 i), (33, .vref 8 []), (34, .int .i64 (level ls n).length), (35, .int .i64 j)]) (fun i => ls.length - i) 0 (Nat.zero_le _) ?_ ?_
              · simp -implicitDefEqProofs (maxSteps := 100000) (disch := first | (intros; contradiction) | omega) only [am0, am1, am2, am3, am4, am5, am6, am7, am8, am9, Nat.reduceSub, ↓reduceIte, reduceCtorEq, Nat.reduceEqDiff, Nat.reduceBEq, Nat.reduceAdd, Nat.reduceLT, Nat.reduceBNe, Nat.reduceMul, ↓reduceIte, tis, List.append_nil, hq, eStr, List.map_append, List.map_cons, List.map_nil]
              · intro i hi'
                by_cases hi : i < ls.length
                · have es : (ls.take (i + 1)).drop i = [ls[i]] := by rw [List.drop_take, List.drop_eq_getElem_cons hi, show i + 1 - i = 1 by omega]; rfl
                  have ei : ((i : Int) + 1).toNat = i + 1 := by omega
                  have hXl : (X ++ (ls.take i).map fun c => w ++ [c]).length ≤ 8192 := by simp; omega
                  have eN : (X ++ (ls.take (i + 1)).map fun c => w ++ [c]) = (X ++ (ls.take i).map fun c => w ++ [c]) ++ [w ++ [ls[i]]] := by
                    rw [List.take_succ_eq_append_getElem hi, List.map_append, List.append_assoc]; rfl
                  have hti : (ls.take i).length = i := by simp; omega
                  simp -implicitDefEqProofs (maxSteps := 100000) (disch := first | (intros; contradiction) | omega) only [am0, am1, am2, am3, am4, am5, am6, am7, am8, am9, Nat.reduceSub, ↓reduceIte, reduceCtorEq, Nat.reduceEqDiff, Nat.reduceBEq, Nat.reduceAdd, Nat.reduceLT, Nat.reduceBNe, Nat.reduceMul, ↓reduceIte, tis, rx, fls, es, ei, hw, hti]
                  refine round_normal (i + 1) (by omega) ?_ (by show ls.length - (i + 1) < ls.length - i; omega)
                  simp -implicitDefEqProofs (maxSteps := 100000) (disch := first | (intros; contradiction) | omega) only [am0, am1, am2, am3, am4, am5, am6, am7, am8, am9, Nat.reduceSub, ↓reduceIte, reduceCtorEq, Nat.reduceEqDiff, Nat.reduceBEq, Nat.reduceAdd, Nat.reduceLT, Nat.reduceBNe, Nat.reduceMul, ↓reduceIte, tis, eN, eStr, List.map_append, List.map_cons, List.map_nil]
                · obtain rfl : i = ls.length := by omega
                  have eT : ls.take ls.length = ls := List.take_length
                  simp -implicitDefEqProofs (maxSteps := 100000) (disch := first | (intros; contradiction) | omega) only [am0, am1, am2, am3, am4, am5, am6, am7, am8, am9, Nat.reduceSub, ↓reduceIte, reduceCtorEq, Nat.reduceEqDiff, Nat.reduceBEq, Nat.reduceAdd, Nat.reduceLT, Nat.reduceBNe, Nat.reduceMul, ↓reduceIte, tis, rx, fls]
                  refine round_normal (j + 1) (by omega) ?_ (by show (level ls n).length - (j + 1) < (level ls n).length - j; omega)
                  simp -implicitDefEqProofs (maxSteps := 100000) (disch := first | (intros; contradiction) | omega) only [am0, am1, am2, am3, am4, am5, am6, am7, am8, am9, Nat.reduceSub, ↓reduceIte, reduceCtorEq, Nat.reduceEqDiff, Nat.reduceBEq, Nat.reduceAdd, Nat.reduceLT, Nat.reduceBNe, Nat.reduceMul, ↓reduceIte, tis, eF, eX, hq, Bool.false_eq_true, eT, extW, List.append_nil]
          · obtain rfl : j = (level ls n).length := by omega
            have eF : (level ls n).take (level ls n).length = level ls n := List.take_length
            simp -implicitDefEqProofs (maxSteps := 100000) (disch := first | (intros; contradiction) | omega) only [am0, am1, am2, am3, am4, am5, am6, am7, am8, am9, Nat.reduceSub, ↓reduceIte, reduceCtorEq, Nat.reduceEqDiff, Nat.reduceBEq, Nat.reduceAdd, Nat.reduceLT, Nat.reduceBNe, Nat.reduceMul, ↓reduceIte, tis, rx, fls, eF]
            refine round_normal (n + 1) (by omega) ?_ (by show m + 1 - (n + 1) < m + 1 - n; omega)
            simp -implicitDefEqProofs (maxSteps := 100000) (disch := first | (intros; contradiction) | omega) only [am0, am1, am2, am3, am4, am5, am6, am7, am8, am9, Nat.reduceSub, ↓reduceIte, reduceCtorEq, Nat.reduceEqDiff, Nat.reduceBEq, Nat.reduceAdd, Nat.reduceLT, Nat.reduceBNe, Nat.reduceMul, ↓reduceIte, tis, askN, level]
      · obtain rfl : n = m + 1 := by omega
        simp -implicitDefEqProofs (maxSteps := 100000) (disch := first | (intros; contradiction) | omega) only [am0, am1, am2, am3, am4, am5, am6, am7, am8, am9, Nat.reduceSub, ↓reduceIte, reduceCtorEq, Nat.reduceEqDiff, Nat.reduceBEq, Nat.reduceAdd, Nat.reduceLT, Nat.reduceBNe, Nat.reduceMul, ↓reduceIte, tis, rx, fls]
        refine callB cC ?_
        simp -implicitDefEqProofs (maxSteps := 100000) (disch := first | (intros; contradiction) | omega) only [am0, am1, am2, am3, am4, am5, am6, am7, am8, am9, Nat.reduceSub, ↓reduceIte, reduceCtorEq, Nat.reduceEqDiff, Nat.reduceBEq, Nat.reduceAdd, Nat.reduceLT, Nat.reduceBNe, Nat.reduceMul, ↓reduceIte, tis, rx, fls]
  · have e : askP r ls most = [] := if_neg hg
    rw [e]
    simp only [eRex_eq] at *
    cases h : rexB r with
    | false =>
      rw [h] at cO
      refine fits_of_code [6] [] [0, 1, 2, 3, 6, 7, 8, 9, 10, 12, 13, 26, 30, 33, 34, 35, 36, 41, 49] func13 rfl rfl rfl (by rfl) (by show 3 ≤ 66; decide) (by rfl) (by rfl) (by show 0 ≤ 3; decide) (by rfl) (run_of ?_)
      simp -implicitDefEqProofs (maxSteps := 100000) (disch := first | (intros; contradiction) | omega) only [am0, am1, am2, am3, am4, am5, am6, am7, am8, am9, Nat.reduceSub, ↓reduceIte, reduceCtorEq, Nat.reduceEqDiff, Nat.reduceBEq, Nat.reduceAdd, Nat.reduceLT, Nat.reduceBNe, Nat.reduceMul, ↓reduceIte, tis, rx, fls]
      refine callB cO ?_
      simp -implicitDefEqProofs (maxSteps := 100000) (disch := first | (intros; contradiction) | omega) only [am0, am1, am2, am3, am4, am5, am6, am7, am8, am9, Nat.reduceSub, ↓reduceIte, reduceCtorEq, Nat.reduceEqDiff, Nat.reduceBEq, Nat.reduceAdd, Nat.reduceLT, Nat.reduceBNe, Nat.reduceMul, ↓reduceIte, tis, List.map_nil]
    | true =>
      rw [h] at cO
      by_cases hl : (3 : Int) < ls.length
      · refine fits_of_code [6] [] [0, 1, 2, 3, 6, 7, 8, 9, 10, 12, 13, 26, 30, 33, 34, 35, 36, 41, 49] func13 rfl rfl rfl (by rfl) (by show 3 ≤ 66; decide) (by rfl) (by rfl) (by show 0 ≤ 3; decide) (by rfl) (run_of ?_)
        simp -implicitDefEqProofs (maxSteps := 100000) (disch := first | (intros; contradiction) | omega) only [am0, am1, am2, am3, am4, am5, am6, am7, am8, am9, Nat.reduceSub, ↓reduceIte, reduceCtorEq, Nat.reduceEqDiff, Nat.reduceBEq, Nat.reduceAdd, Nat.reduceLT, Nat.reduceBNe, Nat.reduceMul, ↓reduceIte, tis, rx, fls]
        refine callB cO ?_
        simp -implicitDefEqProofs (maxSteps := 100000) (disch := first | (intros; contradiction) | omega) only [am0, am1, am2, am3, am4, am5, am6, am7, am8, am9, Nat.reduceSub, ↓reduceIte, reduceCtorEq, Nat.reduceEqDiff, Nat.reduceBEq, Nat.reduceAdd, Nat.reduceLT, Nat.reduceBNe, Nat.reduceMul, ↓reduceIte, tis, List.map_nil, hl]
      · have hI : ¬ (0 ≤ most ∧ most ≤ 6) := fun hm => hg ⟨h, by omega, hm⟩
        rw [decide_eq_false hI] at cI
        refine fits_of_code [6] [] [0, 1, 2, 3, 6, 7, 8, 9, 10, 12, 13, 26, 30, 33, 34, 35, 36, 41, 49] func13 rfl rfl rfl (by rfl) (by show 3 ≤ 66; decide) (by rfl) (by rfl) (by show 0 ≤ 3; decide) (by rfl) (run_of ?_)
        simp -implicitDefEqProofs (maxSteps := 100000) (disch := first | (intros; contradiction) | omega) only [am0, am1, am2, am3, am4, am5, am6, am7, am8, am9, Nat.reduceSub, ↓reduceIte, reduceCtorEq, Nat.reduceEqDiff, Nat.reduceBEq, Nat.reduceAdd, Nat.reduceLT, Nat.reduceBNe, Nat.reduceMul, ↓reduceIte, tis, rx, fls]
        refine callB cO ?_
        simp -implicitDefEqProofs (maxSteps := 100000) (disch := first | (intros; contradiction) | omega) only [am0, am1, am2, am3, am4, am5, am6, am7, am8, am9, Nat.reduceSub, ↓reduceIte, reduceCtorEq, Nat.reduceEqDiff, Nat.reduceBEq, Nat.reduceAdd, Nat.reduceLT, Nat.reduceBNe, Nat.reduceMul, ↓reduceIte, tis, List.map_nil, hl]
        refine callB cI ?_
        simp -implicitDefEqProofs (maxSteps := 100000) (disch := first | (intros; contradiction) | omega) only [am0, am1, am2, am3, am4, am5, am6, am7, am8, am9, Nat.reduceSub, ↓reduceIte, reduceCtorEq, Nat.reduceEqDiff, Nat.reduceBEq, Nat.reduceAdd, Nat.reduceLT, Nat.reduceBNe, Nat.reduceMul, ↓reduceIte, tis, List.map_nil]
/-! What is told of all texts of some letters. -/
theorem level_mem (ls : Txt) : ∀ (n : Nat) (w : Txt), w ∈ level ls n ↔ w.length = n ∧ ∀ c ∈ w, c ∈ ls
  | 0, w => by simp only [level, List.mem_singleton]; constructor
               · rintro rfl; simp
               · rintro ⟨h, _⟩; exact List.eq_nil_of_length_eq_zero h
  | n + 1, w => by
    simp only [level, List.mem_flatMap, extW, List.mem_map]
    constructor
    · rintro ⟨v, hv, c, hc, rfl⟩
      obtain ⟨h1, h2⟩ := (level_mem ls n v).1 hv
      refine ⟨by simp [h1], fun d hd => ?_⟩
      rcases List.mem_append.1 hd with hd | hd
      · exact h2 d hd
      · rw [List.mem_singleton] at hd; subst hd; exact hc
    · rintro ⟨h1, h2⟩
      have hne : w ≠ [] := by intro e; subst e; simp at h1
      refine ⟨w.dropLast, (level_mem ls n _).2 ⟨by simp [h1], fun d hd => h2 d ((List.dropLast_sublist w).subset hd)⟩, w.getLast hne, h2 _ (List.getLast_mem hne), List.dropLast_concat_getLast hne⟩
theorem level_nodup {ls : Txt} (h : ls.Nodup) : ∀ n, (level ls n).Nodup
  | 0 => by simp [level]
  | n + 1 => by
    have ih := level_nodup h n
    unfold List.Nodup at ih h ⊢
    simp only [level]
    rw [List.pairwise_flatMap]
    refine ⟨fun v _ => ?_, ?_⟩
    · unfold extW
      rw [List.pairwise_map]
      refine h.imp fun hne e => hne ?_
      have := List.append_cancel_left e
      simpa using this
    · refine ih.imp fun {a b} hne x hx y hy e => ?_
      simp only [extW, List.mem_map] at hx hy
      obtain ⟨c, _, rfl⟩ := hx
      obtain ⟨d, _, rfl⟩ := hy
      have h2 := congrArg List.dropLast e
      rw [List.dropLast_concat, List.dropLast_concat] at h2
      exact hne h2
theorem askN_mem (r : Rex) (ls : Txt) : ∀ (n : Nat) (w : Txt), w ∈ askN r ls n ↔ w.length < n ∧ (∀ c ∈ w, c ∈ ls) ∧ mt r w = true
  | 0, w => by simp [askN]
  | n + 1, w => by
    simp only [askN, List.mem_append, List.mem_filter, level_mem, askN_mem r ls n w]
    constructor
    · rintro (⟨h1, h2, h3⟩ | ⟨⟨h1, h2⟩, h3⟩)
      · exact ⟨by omega, h2, h3⟩
      · exact ⟨by omega, h2, h3⟩
    · rintro ⟨h1, h2, h3⟩
      by_cases h : w.length = n
      · exact .inr ⟨⟨h, h2⟩, h3⟩
      · exact .inl ⟨by omega, h2, h3⟩
theorem askN_sorted (r : Rex) {ls : Txt} (h : ls.Nodup) : ∀ n, (askN r ls n).Pairwise (fun a b => a.length ≤ b.length ∧ a ≠ b)
  | 0 => by simp [askN]
  | n + 1 => by
    simp only [askN]
    rw [List.pairwise_append]
    refine ⟨askN_sorted r h n, ?_, fun a ha b hb => ?_⟩
    · have := (level_nodup h n).filter (mt r)
      unfold List.Nodup at this
      refine this.imp_of_mem fun {a b} ha hb hne => ?_
      have h1 := level_word ls n a (List.mem_filter.1 ha).1
      have h2 := level_word ls n b (List.mem_filter.1 hb).1
      exact ⟨by omega, hne⟩
    · have h1 := ((askN_mem r ls n a).1 ha).1
      have h2 := level_word ls n b (List.mem_filter.1 hb).1
      refine ⟨by omega, fun e => ?_⟩
      subst e; omega
theorem askP_adj (r : Rex) {ls : Txt} (h : ls.Nodup) (most : Int) (i : Nat) (h0 : 0 < i) (hi : i < (askP r ls most).length) : ((askP r ls most)[i - 1]'(by omega)).length ≤ (askP r ls most)[i].length ∧ (askP r ls most)[i] ≠ (askP r ls most)[i - 1]'(by omega) := by
  have hp : (askP r ls most).Pairwise (fun a b => a.length ≤ b.length ∧ a ≠ b) := by
    unfold askP; split
    · exact askN_sorted r h _
    · exact .nil
  have := (List.pairwise_iff_getElem.1 hp) (i - 1) i (by omega) hi (by omega)
  exact ⟨this.1, fun e => this.2 e.symm⟩
theorem askP_is (r : Rex) (ls : Txt) (most : Int) : ∀ w ∈ askP r ls most, isB' r w = true := by
  intro w hw
  unfold askP at hw
  split at hw
  · rename_i h
    obtain ⟨h1, h2, h3⟩ := (askN_mem r ls _ w).1 hw
    unfold isB'
    rw [h.1, h3, decide_eq_true (by omega)]; rfl
  · simp at hw
theorem askP_all (r : Rex) (ls : Txt) (most : Int) (t : Txt) (h1 : (t.length : Int) ≤ most) (h2 : most ≤ 6) (h3 : (ls.length : Int) ≤ 3) (h4 : ∀ c ∈ t, c ∈ ls) : (t ∈ askP r ls most ↔ isB' r t = true) := by
  unfold askP isB'
  by_cases hr : rexB r = true
  · rw [if_pos ⟨hr, by omega, by omega, h2⟩, askN_mem, hr, decide_eq_true (by omega), Bool.true_and, Bool.true_and]
    exact ⟨fun h => h.2.2, fun h => ⟨by omega, h4, h⟩⟩
  · have hr : rexB r = false := by simpa using hr
    rw [if_neg (by rw [hr]; simp), hr]
    simp
theorem askP_le' (r : Rex) (ls : Txt) (m : Int) : (askP r ls m).length ≤ 8192 := by
  unfold askP
  split
  · rename_i h
    have := askN_le r h.2.1 (m.toNat + 1) (by omega)
    omega
  · simp
/-- A reading out of a tuple, by what the tuple is. -/
def exGo (σ : St) (t i d : Nat) (K : St → Prop) : AV → Prop
  | .tup vs => i < vs.length ∧ t ≠ d ∧ (vs.getD i .undef).target = none ∧ (if plain (vs.getD i .undef) then K (put σ d (vs.getD i .undef) []) else K (upd (put σ d .undef []) [(d, vs.getD i .undef), (t, .tup (vs.set i .undef))]))
  | _ => False
theorem ex_eq (σ : St) (t i d : Nat) (K : St → Prop) : extractW σ (.tmp t) i d K = exGo σ t i d K (ev σ (.tmp t)) := by
  unfold extractW exGo
  cases ev σ (.tmp t) <;> rfl
theorem exGo_tup (σ : St) (t i d : Nat) (K : St → Prop) (vs : List AV) : exGo σ t i d K (.tup vs) = (i < vs.length ∧ t ≠ d ∧ (vs.getD i .undef).target = none ∧ (if plain (vs.getD i .undef) then K (put σ d (vs.getD i .undef) []) else K (upd (put σ d .undef []) [(d, vs.getD i .undef), (t, .tup (vs.set i .undef))]))) := rfl
end Go.Proofs.Ytonljcfflamccaa.U
