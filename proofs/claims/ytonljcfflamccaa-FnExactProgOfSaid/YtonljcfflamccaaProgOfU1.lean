/- What functions of the program answer, on values without memory (part 1): conditions stand at each theorem. -/
import Derived.Test.YtonljcfflamccaaRows
import Derived.Test.YtonljcfflamccaaAm4
set_option linter.unusedVariables false
set_option linter.unusedSimpArgs false
set_option maxRecDepth 100000
set_option maxHeartbeats 4000000
namespace Go.Proofs.Ytonljcfflamccaa.U
open Go Go.RowKit Go.Proofs Go.Proofs.Ytonljcfflamccaa.Am AV Go.Proofs.Try
theorem ti_3 : tinfo prog 3 = { size := 1, bytes := 8, agg := some false, kind := 5, esz := 0, ebytes := 0, eagg := none, alen := 0, fields := [], zero := .int .i64 0, ezero := .undef, zok := true, ezok := false } := by rfl
theorem ti_4 : tinfo prog 4 = { size := 1, bytes := 1, agg := some false, kind := 6, esz := 0, ebytes := 0, eagg := none, alen := 0, fields := [], zero := .bool false, ezero := .undef, zok := true, ezok := false } := by rfl
theorem ti_9 : tinfo prog 9 = { size := 1, bytes := 16, agg := some false, kind := 4, esz := 0, ebytes := 0, eagg := none, alen := 0, fields := [], zero := .str [], ezero := .undef, zok := true, ezok := false } := by rfl
theorem ti_5 : tinfo prog 5 = { size := 1, bytes := 1, agg := some false, kind := 5, esz := 0, ebytes := 0, eagg := none, alen := 0, fields := [], zero := .int .u8 0, ezero := .undef, zok := true, ezok := false } := by rfl
theorem ti_21 : tinfo prog 21 = { size := 1, bytes := 4, agg := some false, kind := 5, esz := 0, ebytes := 0, eagg := none, alen := 0, fields := [], zero := .int .i32 0, ezero := .undef, zok := true, ezok := false } := by rfl
theorem ti_22 : tinfo prog 22 = { size := 1, bytes := 24, agg := some false, kind := 1, esz := 1, ebytes := 1, eagg := some false, alen := 0, fields := [], zero := .sl true 0 [], ezero := .int .u8 0, zok := true, ezok := true } := by rfl
theorem ti_180 : tinfo prog 180 = { size := 1, bytes := 24, agg := some false, kind := 1, esz := 1, ebytes := 1, eagg := some false, alen := 0, fields := [], zero := .sl true 0 [], ezero := .bool false, zok := true, ezok := true } := by rfl
theorem ti_86 : tinfo prog 86 = { size := 1, bytes := 24, agg := some false, kind := 1, esz := 1, ebytes := 8, eagg := some false, alen := 0, fields := [], zero := .sl true 0 [], ezero := .int .i64 0, zok := true, ezok := true } := by rfl
theorem ti_85 : tinfo prog 85 = { size := 1, bytes := 24, agg := some false, kind := 1, esz := 1, ebytes := 24, eagg := some false, alen := 0, fields := [], zero := .sl true 0 [], ezero := .sl true 0 [], zok := true, ezok := true } := by rfl
theorem ti_29 : tinfo prog 29 = { size := 1, bytes := 24, agg := some false, kind := 1, esz := 1, ebytes := 16, eagg := some false, alen := 0, fields := [], zero := .sl true 0 [], ezero := .str [], zok := true, ezok := true } := by rfl
theorem ti_164 : tinfo prog 164 = { size := 256, bytes := 256, agg := some true, kind := 2, esz := 1, ebytes := 1, eagg := some false, alen := 256, fields := [], zero := .arr 1 (List.replicate 256 (.bool false)), ezero := .bool false, zok := true, ezok := true } := by rfl
theorem ti_109 : tinfo prog 109 = { size := 13, bytes := 13, agg := some true, kind := 2, esz := 1, ebytes := 1, eagg := some false, alen := 13, fields := [], zero := .arr 1 (List.replicate 13 (.bool false)), ezero := .bool false, zok := true, ezok := true } := by rfl
theorem ti_110 : tinfo prog 110 = { size := 169, bytes := 169, agg := some true, kind := 2, esz := 13, ebytes := 13, eagg := some true, alen := 13, fields := [], zero := .arr 13 (List.replicate 13 (.arr 1 (List.replicate 13 (.bool false)))), ezero := .arr 1 (List.replicate 13 (.bool false)), zok := true, ezok := true } := by rfl
theorem ti_115 : tinfo prog 115 = { size := 2, bytes := 16, agg := some true, kind := 3, esz := 0, ebytes := 0, eagg := none, alen := 0, fields := [(0, 1, some false), (1, 1, some false)], zero := .agg [.int .i64 0, .int .i64 0], ezero := .undef, zok := true, ezok := false } := by rfl
theorem ti_23 : tinfo prog 23 = { size := 1, bytes := 24, agg := some false, kind := 1, esz := 2, ebytes := 16, eagg := some true, alen := 0, fields := [], zero := .sl true 0 [], ezero := .agg [.int .i64 0, .int .i64 0], zok := true, ezok := true } := by rfl
theorem ti_92 : tinfo prog 92 = { size := 1, bytes := 24, agg := some false, kind := 1, esz := 1, ebytes := 24, eagg := some false, alen := 0, fields := [], zero := .sl true 0 [], ezero := .sl true 0 [], zok := true, ezok := true } := by rfl
theorem ti_26 : tinfo prog 26 = { size := 3, bytes := 56, agg := some true, kind := 3, esz := 0, ebytes := 0, eagg := none, alen := 0, fields := [(0, 1, some false), (1, 1, some false), (2, 1, some false)], zero := .agg [.int .i64 0, .sl true 0 [], .sl true 0 []], ezero := .undef, zok := true, ezok := false } := by rfl
theorem ti_24 : tinfo prog 24 = { size := 1, bytes := 24, agg := some false, kind := 1, esz := 3, ebytes := 56, eagg := some true, alen := 0, fields := [], zero := .sl true 0 [], ezero := .agg [.int .i64 0, .sl true 0 [], .sl true 0 []], zok := true, ezok := true } := by rfl
theorem ti_129 : tinfo prog 129 = { size := 4, bytes := 32, agg := some true, kind := 3, esz := 0, ebytes := 0, eagg := none, alen := 0, fields := [(0, 1, some false), (1, 1, some false), (2, 1, some false), (3, 1, some false)], zero := .agg [.int .i64 0, .int .i64 0, .int .i64 0, .int .i64 0], ezero := .undef, zok := true, ezok := false } := by rfl
theorem ti_59 : tinfo prog 59 = { size := 1, bytes := 24, agg := some false, kind := 1, esz := 4, ebytes := 32, eagg := some true, alen := 0, fields := [], zero := .sl true 0 [], ezero := .agg [.int .i64 0, .int .i64 0, .int .i64 0, .int .i64 0], zok := true, ezok := true } := by rfl
theorem ti_134 : tinfo prog 134 = { size := 3, bytes := 24, agg := some true, kind := 3, esz := 0, ebytes := 0, eagg := none, alen := 0, fields := [(0, 1, some false), (1, 1, some false), (2, 1, some false)], zero := .agg [.int .i64 0, .int .i64 0, .int .i64 0], ezero := .undef, zok := true, ezok := false } := by rfl
theorem ti_56 : tinfo prog 56 = { size := 1, bytes := 24, agg := some false, kind := 1, esz := 3, ebytes := 24, eagg := some true, alen := 0, fields := [], zero := .sl true 0 [], ezero := .agg [.int .i64 0, .int .i64 0, .int .i64 0], zok := true, ezok := true } := by rfl
theorem ti_72 : tinfo prog 72 = { size := 9, bytes := 112, agg := some true, kind := 3, esz := 0, ebytes := 0, eagg := none, alen := 0, fields := [(0, 1, some false), (1, 1, some false), (2, 1, some false), (3, 1, some false), (4, 1, some false), (5, 1, some false), (6, 1, some false), (7, 1, some false), (8, 1, some false)], zero := .agg [.sl true 0 [], .str [], .int .i64 0, .int .i64 0, .int .i64 0, .int .i64 0, .int .i64 0, .sl true 0 [], .bool false], ezero := .undef, zok := true, ezok := false } := by rfl
theorem ti_94 : tinfo prog 94 = { size := 3, bytes := 72, agg := some true, kind := 3, esz := 0, ebytes := 0, eagg := none, alen := 0, fields := [(0, 1, some false), (1, 1, some false), (2, 1, some false)], zero := .agg [.sl true 0 [], .sl true 0 [], .sl true 0 []], ezero := .undef, zok := true, ezok := false } := by rfl
theorem ti_165 : tinfo prog 165 = { size := 256, bytes := 256, agg := some true, kind := 2, esz := 1, ebytes := 1, eagg := some false, alen := 256, fields := [], zero := .arr 1 (List.replicate 256 (.bool false)), ezero := .bool false, zok := true, ezok := true } := by rfl
theorem ti_111 : tinfo prog 111 = { size := 169, bytes := 169, agg := some true, kind := 2, esz := 13, ebytes := 13, eagg := some true, alen := 13, fields := [], zero := .arr 13 (List.replicate 13 (.arr 1 (List.replicate 13 (.bool false)))), ezero := .arr 1 (List.replicate 13 (.bool false)), zok := true, ezok := true } := by rfl
theorem ti_157 : tinfo prog 157 = { size := 338, bytes := 338, agg := some true, kind := 2, esz := 169, ebytes := 169, eagg := some true, alen := 2, fields := [], zero := .arr 169 (List.replicate 2 (.arr 13 (List.replicate 13 (.arr 1 (List.replicate 13 (.bool false)))))), ezero := .arr 13 (List.replicate 13 (.arr 1 (List.replicate 13 (.bool false)))), zok := true, ezok := true } := by rfl
theorem ti_162 : tinfo prog 162 = { size := 2, bytes := 16, agg := some true, kind := 3, esz := 0, ebytes := 0, eagg := none, alen := 0, fields := [(0, 1, some false), (1, 1, some false)], zero := .agg [.int .i64 0, .int .i64 0], ezero := .undef, zok := true, ezok := false } := by rfl
theorem ti_41 : tinfo prog 41 = { size := 1, bytes := 24, agg := some false, kind := 1, esz := 2, ebytes := 16, eagg := some true, alen := 0, fields := [], zero := .sl true 0 [], ezero := .agg [.int .i64 0, .int .i64 0], zok := true, ezok := true } := by rfl
theorem ti_84 : tinfo prog 84 = { size := 1, bytes := 24, agg := some false, kind := 1, esz := 1, ebytes := 24, eagg := some false, alen := 0, fields := [], zero := .sl true 0 [], ezero := .sl true 0 [], zok := true, ezok := true } := by rfl
theorem ti_44 : tinfo prog 44 = { size := 3, bytes := 56, agg := some true, kind := 3, esz := 0, ebytes := 0, eagg := none, alen := 0, fields := [(0, 1, some false), (1, 1, some false), (2, 1, some false)], zero := .agg [.int .i64 0, .sl true 0 [], .sl true 0 []], ezero := .undef, zok := true, ezok := false } := by rfl
theorem ti_42 : tinfo prog 42 = { size := 1, bytes := 24, agg := some false, kind := 1, esz := 3, ebytes := 56, eagg := some true, alen := 0, fields := [], zero := .sl true 0 [], ezero := .agg [.int .i64 0, .sl true 0 [], .sl true 0 []], zok := true, ezok := true } := by rfl
theorem ti_131 : tinfo prog 131 = { size := 4, bytes := 32, agg := some true, kind := 3, esz := 0, ebytes := 0, eagg := none, alen := 0, fields := [(0, 1, some false), (1, 1, some false), (2, 1, some false), (3, 1, some false)], zero := .agg [.int .i64 0, .int .i64 0, .int .i64 0, .int .i64 0], ezero := .undef, zok := true, ezok := false } := by rfl
theorem ti_54 : tinfo prog 54 = { size := 1, bytes := 24, agg := some false, kind := 1, esz := 4, ebytes := 32, eagg := some true, alen := 0, fields := [], zero := .sl true 0 [], ezero := .agg [.int .i64 0, .int .i64 0, .int .i64 0, .int .i64 0], zok := true, ezok := true } := by rfl
theorem ti_174 : tinfo prog 174 = { size := 3, bytes := 24, agg := some true, kind := 3, esz := 0, ebytes := 0, eagg := none, alen := 0, fields := [(0, 1, some false), (1, 1, some false), (2, 1, some false)], zero := .agg [.int .i64 0, .int .i64 0, .int .i64 0], ezero := .undef, zok := true, ezok := false } := by rfl
theorem ti_67 : tinfo prog 67 = { size := 1, bytes := 24, agg := some false, kind := 1, esz := 3, ebytes := 24, eagg := some true, alen := 0, fields := [], zero := .sl true 0 [], ezero := .agg [.int .i64 0, .int .i64 0, .int .i64 0], zok := true, ezok := true } := by rfl
theorem ti_69 : tinfo prog 69 = { size := 9, bytes := 112, agg := some true, kind := 3, esz := 0, ebytes := 0, eagg := none, alen := 0, fields := [(0, 1, some false), (1, 1, some false), (2, 1, some false), (3, 1, some false), (4, 1, some false), (5, 1, some false), (6, 1, some false), (7, 1, some false), (8, 1, some false)], zero := .agg [.sl true 0 [], .str [], .int .i64 0, .int .i64 0, .int .i64 0, .int .i64 0, .int .i64 0, .sl true 0 [], .bool false], ezero := .undef, zok := true, ezok := false } := by rfl
theorem ti_88 : tinfo prog 88 = { size := 3, bytes := 72, agg := some true, kind := 3, esz := 0, ebytes := 0, eagg := none, alen := 0, fields := [(0, 1, some false), (1, 1, some false), (2, 1, some false)], zero := .agg [.sl true 0 [], .sl true 0 [], .sl true 0 []], ezero := .undef, zok := true, ezok := false } := by rfl
theorem ti_154 : tinfo prog 154 = { size := 2, bytes := 32, agg := some true, kind := 3, esz := 0, ebytes := 0, eagg := none, alen := 0, fields := [(0, 1, some false), (1, 1, some false)], zero := .agg [.sl true 0 [], .int .i64 0], ezero := .undef, zok := true, ezok := false } := by rfl
theorem ub_3 : prog.underlying 3 = some (.int .i64) := by kernel_rfl
theorem ub_4 : prog.underlying 4 = some .bool := by kernel_rfl
theorem ub_5 : prog.underlying 5 = some (.int .u8) := by kernel_rfl
theorem ub_21 : prog.underlying 21 = some (.int .i32) := by kernel_rfl
theorem fk_115 : flatK prog 115 = some [5, 5] := by kernel_rfl
theorem fk_129 : flatK prog 129 = some [5, 5, 5, 5] := by kernel_rfl
theorem fk_134 : flatK prog 134 = some [5, 5, 5] := by kernel_rfl
theorem fk_162 : flatK prog 162 = some [5, 5] := by kernel_rfl
theorem fk_131 : flatK prog 131 = some [5, 5, 5, 5] := by kernel_rfl
theorem fk_174 : flatK prog 174 = some [5, 5, 5] := by kernel_rfl
theorem tis : type_of% @ti_3 ∧ type_of% @ti_4 ∧ type_of% @ti_9 ∧ type_of% @ti_5 ∧ type_of% @ti_21 ∧ type_of% @ti_22 ∧ type_of% @ti_180 ∧ type_of% @ti_86 ∧ type_of% @ti_85 ∧ type_of% @ti_29 ∧ type_of% @ti_164 ∧ type_of% @ti_109 ∧ type_of% @ti_110 ∧ type_of% @ti_115 ∧ type_of% @ti_23 ∧ type_of% @ti_92 ∧ type_of% @ti_26 ∧ type_of% @ti_24 ∧ type_of% @ti_129 ∧ type_of% @ti_59 ∧ type_of% @ti_134 ∧ type_of% @ti_56 ∧ type_of% @ti_72 ∧ type_of% @ti_94 ∧ type_of% @ti_165 ∧ type_of% @ti_111 ∧ type_of% @ti_157 ∧ type_of% @ti_162 ∧ type_of% @ti_41 ∧ type_of% @ti_84 ∧ type_of% @ti_44 ∧ type_of% @ti_42 ∧ type_of% @ti_131 ∧ type_of% @ti_54 ∧ type_of% @ti_174 ∧ type_of% @ti_67 ∧ type_of% @ti_69 ∧ type_of% @ti_88 ∧ type_of% @ti_154 ∧ type_of% @ub_3 ∧ type_of% @ub_4 ∧ type_of% @ub_5 ∧ type_of% @ub_21 ∧ type_of% @fk_115 ∧ type_of% @fk_129 ∧ type_of% @fk_134 ∧ type_of% @fk_162 ∧ type_of% @fk_131 ∧ type_of% @fk_174 := ⟨ti_3, ti_4, ti_9, ti_5, ti_21, ti_22, ti_180, ti_86, ti_85, ti_29, ti_164, ti_109, ti_110, ti_115, ti_23, ti_92, ti_26, ti_24, ti_129, ti_59, ti_134, ti_56, ti_72, ti_94, ti_165, ti_111, ti_157, ti_162, ti_41, ti_84, ti_44, ti_42, ti_131, ti_54, ti_174, ti_67, ti_69, ti_88, ti_154, ub_3, ub_4, ub_5, ub_21, fk_115, fk_129, fk_134, fk_162, fk_131, fk_174⟩
structure Span where
  lo : Int
  hi : Int
  deriving DecidableEq
structure Ins where
  op : Int
  a : Int
  b : Int
  to : Int
  deriving DecidableEq
structure Token where
  rule : Int
  frm : Int
  to : Int
  deriving DecidableEq
instance : Inhabited Span := ⟨⟨0, 0⟩⟩
instance : Inhabited Ins := ⟨⟨0, 0, 0, 0⟩⟩
instance : Inhabited Token := ⟨⟨0, 0, 0⟩⟩
def eSpan (x : Span) : AV := .agg [.int .i64 x.lo, .int .i64 x.hi]
def eIns (x : Ins) : AV := .agg [.int .i64 x.op, .int .i64 x.a, .int .i64 x.b, .int .i64 x.to]
def eToken (x : Token) : AV := .agg [.int .i64 x.rule, .int .i64 x.frm, .int .i64 x.to]
/-- In a list of such nothing is own. -/
structure Flat {α : Type} (f : α → AV) (n : Nat) : Prop where
  er : ∀ x, erase (f x) = f x
  de : ∀ x, dead (f x) = f x
  pl : ∀ x, plain (f x) = true
  cl : ∀ x, closed (f x) = true
  nc : ∀ x, ncells (f x) = n
section
variable {α : Type} {f : α → AV} {n : Nat}
theorem Flat.eraseL (h : Flat f n) (l : List α) : eraseL (l.map f) = l.map f := by rw [eraseL_map, List.map_map]; exact List.map_congr_left fun x _ => h.er x
theorem Flat.deadL (h : Flat f n) (l : List α) : deadL (l.map f) = l.map f := by rw [deadL_map, List.map_map]; exact List.map_congr_left fun x _ => h.de x
theorem Flat.plainL (h : Flat f n) (l : List α) : plainL (l.map f) = true := by rw [plainL_all]; simp [h.pl]
theorem Flat.closedL (h : Flat f n) (l : List α) : closedL (l.map f) = true := by rw [closedL_all]; simp [h.cl]
theorem plainL_app (a b : List AV) : plainL (a ++ b) = (plainL a && plainL b) := by simp [plainL_all]
theorem closedL_app (a b : List AV) : closedL (a ++ b) = (closedL a && closedL b) := by simp [closedL_all]
theorem eraseL_app (a b : List AV) : eraseL (a ++ b) = eraseL a ++ eraseL b := by simp [eraseL_map]
theorem closedL_rep (k : Nat) (x : AV) (h : closed x = true) : closedL (List.replicate k x) = true := by rw [closedL_all]; simp [h]
theorem plainL_rep (k : Nat) (x : AV) (h : plain x = true) : plainL (List.replicate k x) = true := by rw [plainL_all]; simp [h]
end
theorem flSpan : Flat eSpan 2 := ⟨fun _ => rfl, fun _ => rfl, fun _ => rfl, fun _ => rfl, fun _ => rfl⟩
theorem flIns : Flat eIns 4 := ⟨fun _ => rfl, fun _ => rfl, fun _ => rfl, fun _ => rfl, fun _ => rfl⟩
theorem flToken : Flat eToken 3 := ⟨fun _ => rfl, fun _ => rfl, fun _ => rfl, fun _ => rfl, fun _ => rfl⟩
def eInt (x : Int) : AV := .int .i64 x
def eBool (x : Bool) : AV := .bool x
def eStr (x : List UInt8) : AV := .str x
theorem flInt : Flat eInt 1 := ⟨fun _ => rfl, fun _ => rfl, fun _ => rfl, fun _ => rfl, fun _ => rfl⟩
theorem flBool : Flat eBool 1 := ⟨fun _ => rfl, fun _ => rfl, fun _ => rfl, fun _ => rfl, fun _ => rfl⟩
theorem flStr : Flat eStr 1 := ⟨fun _ => rfl, fun _ => rfl, fun _ => rfl, fun _ => rfl, fun _ => rfl⟩
theorem fls : (∀ l : List Span, eraseL (l.map eSpan) = l.map eSpan) ∧ (∀ l : List Span, deadL (l.map eSpan) = l.map eSpan) ∧ (∀ l : List Span, plainL (l.map eSpan) = true) ∧ (∀ l : List Span, closedL (l.map eSpan) = true) ∧
    (∀ l : List Ins, eraseL (l.map eIns) = l.map eIns) ∧ (∀ l : List Ins, deadL (l.map eIns) = l.map eIns) ∧ (∀ l : List Ins, plainL (l.map eIns) = true) ∧ (∀ l : List Ins, closedL (l.map eIns) = true) ∧
    (∀ l : List Token, eraseL (l.map eToken) = l.map eToken) ∧ (∀ l : List Token, deadL (l.map eToken) = l.map eToken) ∧ (∀ l : List Token, plainL (l.map eToken) = true) ∧ (∀ l : List Token, closedL (l.map eToken) = true) ∧
    (∀ l : List Int, eraseL (l.map eInt) = l.map eInt) ∧ (∀ l : List Int, deadL (l.map eInt) = l.map eInt) ∧ (∀ l : List Int, plainL (l.map eInt) = true) ∧ (∀ l : List Int, closedL (l.map eInt) = true) ∧
    (∀ l : List Bool, eraseL (l.map eBool) = l.map eBool) ∧ (∀ l : List Bool, deadL (l.map eBool) = l.map eBool) ∧ (∀ l : List Bool, plainL (l.map eBool) = true) ∧ (∀ l : List Bool, closedL (l.map eBool) = true) ∧
    (∀ l : List (List UInt8), eraseL (l.map eStr) = l.map eStr) ∧ (∀ l : List (List UInt8), deadL (l.map eStr) = l.map eStr) ∧ (∀ l : List (List UInt8), plainL (l.map eStr) = true) ∧ (∀ l : List (List UInt8), closedL (l.map eStr) = true) :=
  ⟨flSpan.eraseL, flSpan.deadL, flSpan.plainL, flSpan.closedL, flIns.eraseL, flIns.deadL, flIns.plainL, flIns.closedL, flToken.eraseL, flToken.deadL, flToken.plainL, flToken.closedL,
    flInt.eraseL, flInt.deadL, flInt.plainL, flInt.closedL, flBool.eraseL, flBool.deadL, flBool.plainL, flBool.closedL, flStr.eraseL, flStr.deadL, flStr.plainL, flStr.closedL⟩

/-! A list that is built from the front. -/
theorem build_get {α : Type} (f : α → AV) (z : AV) (p : List α) (i : Nat) (h : i < p.length) : ((p.take i).map f ++ List.replicate (p.length - i) z)[i]? = some z := by
  rw [List.getElem?_append_right (by simp; omega)]
  have h1 : i - ((p.take i).map f).length = 0 := by simp; omega
  rw [h1, show p.length - i = (p.length - (i + 1)) + 1 by omega, List.replicate_succ]
  rfl
theorem build_set {α : Type} (f : α → AV) (z : AV) (p : List α) (i : Nat) (h : i < p.length) : ((p.take i).map f ++ List.replicate (p.length - i) z).set i (f p[i]) = (p.take (i + 1)).map f ++ List.replicate (p.length - (i + 1)) z := by
  rw [List.set_append_right _ _ (by simp; omega)]
  have h1 : i - ((p.take i).map f).length = 0 := by simp; omega
  rw [h1, show p.length - i = (p.length - (i + 1)) + 1 by omega, List.replicate_succ, List.set_cons_zero, List.take_succ_eq_append_getElem h, List.map_append, List.append_assoc]
  rfl
theorem build_len {α : Type} (f : α → AV) (z : AV) (p : List α) (i : Nat) (h : i ≤ p.length) : ((p.take i).map f ++ List.replicate (p.length - i) z).length = p.length := by simp; omega
/-! A list that is turned from the front. -/
theorem turn_get {α : Type} (A : List AV) (f : α → AV) (p : List α) (i : Nat) (hA : A.length = i) (h : i < p.length) : (A ++ (p.drop i).map f)[i]? = some (f p[i]) := by
  rw [List.getElem?_append_right (by omega), hA, Nat.sub_self]; simp [h]
theorem turn_set {α : Type} (A : List AV) (f : α → AV) (p : List α) (i : Nat) (y : AV) (hA : A.length = i) (h : i < p.length) : (A ++ (p.drop i).map f).set i y = A ++ [y] ++ (p.drop (i + 1)).map f := by
  rw [List.set_append_right _ _ (by omega), hA, Nat.sub_self, List.drop_eq_getElem_cons h, List.map_cons, List.set_cons_zero, List.append_assoc]
  rfl
/-- laws.toSpan -/
theorem fits_toSpan (x : Span) : Fits prog 147 [eSpan x] (eSpan x) [] := by
  refine fits_of_cell 2 115 [] [0, 1, 2, 3] func147 rfl rfl rfl (by show 2 < 11; decide) (by show 1 ≤ 11; decide) (by rfl) (by rfl) (by show 0 ≤ 1; decide) (by rfl) (run_of ?_)
  simp -implicitDefEqProofs only [am0, am1, am2, am3, am4, am5, am6, am7, am8, am9, Nat.reduceSub, ↓reduceIte, reduceCtorEq, Nat.reduceEqDiff, Nat.reduceBEq, Nat.reduceAdd, Nat.reduceLT, Nat.reduceBNe, Nat.reduceMul, ↓reduceIte, tis, eSpan]
/-- laws.eqSpan -/
theorem fits_eqSpan (x y : Span) : Fits prog 148 [eSpan x, eSpan y] (.bool (decide (x = y))) [] := by
  refine fits_of_code [4] [] [0, 1, 2, 3, 4, 9, 14] func148 rfl rfl rfl (by rfl) (by show 2 ≤ 15; decide) (by rfl) (by rfl) (by show 0 ≤ 2; decide) (by rfl) (run_of ?_)
  obtain ⟨a0, a1⟩ := x
  obtain ⟨b0, b1⟩ := y
  by_cases h0 : a0 = b0
  case neg =>
    simp -implicitDefEqProofs (maxSteps := 100000) (disch := first | (intros; contradiction) | omega) only [am0, am1, am2, am3, am4, am5, am6, am7, am8, am9, Nat.reduceSub, ↓reduceIte, reduceCtorEq, Nat.reduceEqDiff, Nat.reduceBEq, Nat.reduceAdd, Nat.reduceLT, Nat.reduceBNe, Nat.reduceMul, ↓reduceIte, tis, eSpan, h0]
    simp [h0]
  by_cases h1 : a1 = b1
  case neg =>
    simp -implicitDefEqProofs (maxSteps := 100000) (disch := first | (intros; contradiction) | omega) only [am0, am1, am2, am3, am4, am5, am6, am7, am8, am9, Nat.reduceSub, ↓reduceIte, reduceCtorEq, Nat.reduceEqDiff, Nat.reduceBEq, Nat.reduceAdd, Nat.reduceLT, Nat.reduceBNe, Nat.reduceMul, ↓reduceIte, tis, eSpan, h0, h1]
    simp [h1]
  simp -implicitDefEqProofs (maxSteps := 100000) (disch := first | (intros; contradiction) | omega) only [am0, am1, am2, am3, am4, am5, am6, am7, am8, am9, Nat.reduceSub, ↓reduceIte, reduceCtorEq, Nat.reduceEqDiff, Nat.reduceBEq, Nat.reduceAdd, Nat.reduceLT, Nat.reduceBNe, Nat.reduceMul, ↓reduceIte, tis, eSpan, h0, h1]
/-- laws.szSpanS -/
theorem fits_szSpanS (p : List Span) (n : Int) (hp : p.length ≤ 9223372036854775807) (hn : n ≤ 1048576) (hn0 : 0 ≤ n) : Fits prog 89 [.sl false 2 (p.map eSpan), .int .i64 n] (.int .i64 (if n - p.length < 0 then -1 else n - p.length)) [] := by
  refine fits_of_code [4] [] [0, 1, 4, 10] func89 rfl rfl rfl (by rfl) (by show 2 ≤ 12; decide) (by rfl) (by rfl) (by show 0 ≤ 2; decide) (by rfl) (run_of ?_)
  by_cases hl : n - p.length < 0
  · simp -implicitDefEqProofs (maxSteps := 100000) (disch := first | (intros; contradiction) | omega) only [am0, am1, am2, am3, am4, am5, am6, am7, am8, am9, Nat.reduceSub, ↓reduceIte, reduceCtorEq, Nat.reduceEqDiff, Nat.reduceBEq, Nat.reduceAdd, Nat.reduceLT, Nat.reduceBNe, Nat.reduceMul, ↓reduceIte, tis, hl]
  · simp -implicitDefEqProofs (maxSteps := 100000) (disch := first | (intros; contradiction) | omega) only [am0, am1, am2, am3, am4, am5, am6, am7, am8, am9, Nat.reduceSub, ↓reduceIte, reduceCtorEq, Nat.reduceEqDiff, Nat.reduceBEq, Nat.reduceAdd, Nat.reduceLT, Nat.reduceBNe, Nat.reduceMul, ↓reduceIte, tis, hl]
/-- laws.toSpanS -/
theorem fits_toSpanS (p : List Span) (hp : p.length ≤ 1048576) : Fits prog 91 [.sl false 2 (p.map eSpan)] (.sl true 2 (p.map eSpan)) [] := by
  refine fits_of_code [2] [] [0, 2, 3, 4, 11] func91 rfl rfl rfl (by rfl) (by show 1 ≤ 23; decide) (by rfl) (by rfl) (by show 0 ≤ 1; decide) (by rfl) (run_of ?_)
  simp -implicitDefEqProofs (maxSteps := 100000) (disch := first | (intros; contradiction) | omega) only [am0, am1, am2, am3, am4, am5, am6, am7, am8, am9, Nat.reduceSub, ↓reduceIte, reduceCtorEq, Nat.reduceEqDiff, Nat.reduceBEq, Nat.reduceAdd, Nat.reduceLT, Nat.reduceBNe, Nat.reduceMul, ↓reduceIte, tis]
  refine run_loop (α := Nat) (fun i => i ≤ p.length) (fun i => [(0, .sl false 2 (p.map eSpan)), (3, .sl true 2 ((p.take i).map eSpan ++ List.replicate (p.length - i) (eSpan ⟨0, 0⟩))), (4, .int .i64 i)]) (fun i => p.length - i) 0 (Nat.zero_le _) ?_ ?_
  · simp -implicitDefEqProofs (maxSteps := 100000) (disch := first | (intros; contradiction) | omega) only [am0, am1, am2, am3, am4, am5, am6, am7, am8, am9, Nat.reduceSub, ↓reduceIte, reduceCtorEq, Nat.reduceEqDiff, Nat.reduceBEq, Nat.reduceAdd, Nat.reduceLT, Nat.reduceBNe, Nat.reduceMul, ↓reduceIte, eSpan]
  · intro i hi'
    by_cases hi : i < p.length
    · have g2 := build_get eSpan (eSpan ⟨0, 0⟩) p i hi
      have g3 := build_set eSpan (eSpan ⟨0, 0⟩) p i hi
      have g4 := build_len eSpan (eSpan ⟨0, 0⟩) p i hi'
      simp only [eSpan] at g2 g3 g4
      simp -implicitDefEqProofs (maxSteps := 100000) (disch := first | (intros; contradiction) | omega) only [am0, am1, am2, am3, am4, am5, am6, am7, am8, am9, Nat.reduceSub, ↓reduceIte, reduceCtorEq, Nat.reduceEqDiff, Nat.reduceBEq, Nat.reduceAdd, Nat.reduceLT, Nat.reduceBNe, Nat.reduceMul, ↓reduceIte, tis, eSpan]
      refine callb_of (fits_toSpan p[i]) (by simp -implicitDefEqProofs (maxSteps := 100000) (disch := first | (intros; contradiction) | omega) only [am0, am1, am2, am3, am4, am5, am6, am7, am8, am9, Nat.reduceSub, ↓reduceIte, reduceCtorEq, Nat.reduceEqDiff, Nat.reduceBEq, Nat.reduceAdd, Nat.reduceLT, Nat.reduceBNe, Nat.reduceMul, ↓reduceIte, tis, eSpan]) (.inl rfl) rfl ?_
      simp -implicitDefEqProofs (maxSteps := 100000) (disch := first | (intros; contradiction) | omega) only [am0, am1, am2, am3, am4, am5, am6, am7, am8, am9, Nat.reduceSub, ↓reduceIte, reduceCtorEq, Nat.reduceEqDiff, Nat.reduceBEq, Nat.reduceAdd, Nat.reduceLT, Nat.reduceBNe, Nat.reduceMul, ↓reduceIte, tis, eSpan, g2, g3, g4]
      refine round_normal (i + 1) (by omega) ?_ (by show p.length - (i + 1) < p.length - i; omega)
      simp -implicitDefEqProofs (maxSteps := 100000) (disch := first | (intros; contradiction) | omega) only [am0, am1, am2, am3, am4, am5, am6, am7, am8, am9, Nat.reduceSub, ↓reduceIte, reduceCtorEq, Nat.reduceEqDiff, Nat.reduceBEq, Nat.reduceAdd, Nat.reduceLT, Nat.reduceBNe, Nat.reduceMul, ↓reduceIte, eSpan]
    · obtain rfl : i = p.length := by omega
      simp -implicitDefEqProofs (maxSteps := 100000) (disch := first | (intros; contradiction) | omega) only [am0, am1, am2, am3, am4, am5, am6, am7, am8, am9, Nat.reduceSub, ↓reduceIte, reduceCtorEq, Nat.reduceEqDiff, Nat.reduceBEq, Nat.reduceAdd, Nat.reduceLT, Nat.reduceBNe, Nat.reduceMul, ↓reduceIte, tis]
/-- laws.eqSpanS -/
theorem fits_eqSpanS (p q : List Span) (hp : p.length ≤ 1048576) (hq : q.length ≤ 1048576) : Fits prog 93 [.sl false 2 (p.map eSpan), .sl false 2 (q.map eSpan)] (.bool (decide (p = q))) [] := by
  refine fits_of_code [4] [] [0, 1, 4, 5, 10, 14, 26] func93 rfl rfl rfl (by rfl) (by show 2 ≤ 27; decide) (by rfl) (by rfl) (by show 0 ≤ 2; decide) (by rfl) (run_of ?_)
  by_cases hl : p.length = q.length
  · simp -implicitDefEqProofs (maxSteps := 100000) (disch := first | (intros; contradiction) | omega) only [am0, am1, am2, am3, am4, am5, am6, am7, am8, am9, Nat.reduceSub, ↓reduceIte, reduceCtorEq, Nat.reduceEqDiff, Nat.reduceBEq, Nat.reduceAdd, Nat.reduceLT, Nat.reduceBNe, Nat.reduceMul, ↓reduceIte, tis]
    refine run_loop (α := Nat) (fun i => i ≤ p.length ∧ p.take i = q.take i) (fun i => [(0, .sl false 2 (p.map eSpan)), (1, .sl false 2 (q.map eSpan)), (5, .int .i64 i)]) (fun i => p.length - i) 0 ⟨Nat.zero_le _, by simp⟩ ?_ ?_
    · simp -implicitDefEqProofs (maxSteps := 100000) (disch := first | (intros; contradiction) | omega) only [am0, am1, am2, am3, am4, am5, am6, am7, am8, am9, Nat.reduceSub, ↓reduceIte, reduceCtorEq, Nat.reduceEqDiff, Nat.reduceBEq, Nat.reduceAdd, Nat.reduceLT, Nat.reduceBNe, Nat.reduceMul, ↓reduceIte, tis]
    · rintro i ⟨h1, h2⟩
      by_cases hi : i < p.length
      · simp -implicitDefEqProofs (maxSteps := 100000) (disch := first | (intros; contradiction) | omega) only [am0, am1, am2, am3, am4, am5, am6, am7, am8, am9, Nat.reduceSub, ↓reduceIte, reduceCtorEq, Nat.reduceEqDiff, Nat.reduceBEq, Nat.reduceAdd, Nat.reduceLT, Nat.reduceBNe, Nat.reduceMul, ↓reduceIte, tis, eSpan]
        refine .inl ⟨by kernel_rfl, ?_⟩
        refine call_of (fits_eqSpan p[i] q[i]) (by simp -implicitDefEqProofs (maxSteps := 100000) (disch := first | (intros; contradiction) | omega) only [am0, am1, am2, am3, am4, am5, am6, am7, am8, am9, Nat.reduceSub, ↓reduceIte, reduceCtorEq, Nat.reduceEqDiff, Nat.reduceBEq, Nat.reduceAdd, Nat.reduceLT, Nat.reduceBNe, Nat.reduceMul, ↓reduceIte, tis, eSpan]) (.inl rfl) rfl ?_
        by_cases h : p[i] = q[i]
        · simp -implicitDefEqProofs (maxSteps := 100000) (disch := first | (intros; contradiction) | omega) only [am0, am1, am2, am3, am4, am5, am6, am7, am8, am9, Nat.reduceSub, ↓reduceIte, reduceCtorEq, Nat.reduceEqDiff, Nat.reduceBEq, Nat.reduceAdd, Nat.reduceLT, Nat.reduceBNe, Nat.reduceMul, ↓reduceIte, tis, h]
          refine round_normal (i + 1) ⟨by omega, ?_⟩ ?_ (by show p.length - (i + 1) < p.length - i; omega)
          · rw [List.take_succ_eq_append_getElem hi, List.take_succ_eq_append_getElem (by omega : i < q.length), h2, h]
          · simp -implicitDefEqProofs (maxSteps := 100000) (disch := first | (intros; contradiction) | omega) only [am0, am1, am2, am3, am4, am5, am6, am7, am8, am9, Nat.reduceSub, ↓reduceIte, reduceCtorEq, Nat.reduceEqDiff, Nat.reduceBEq, Nat.reduceAdd, Nat.reduceLT, Nat.reduceBNe, Nat.reduceMul, ↓reduceIte, tis]
        · have hne : p ≠ q := by rintro rfl; exact h rfl
          simp -implicitDefEqProofs (maxSteps := 100000) (disch := first | (intros; contradiction) | omega) only [am0, am1, am2, am3, am4, am5, am6, am7, am8, am9, Nat.reduceSub, ↓reduceIte, reduceCtorEq, Nat.reduceEqDiff, Nat.reduceBEq, Nat.reduceAdd, Nat.reduceLT, Nat.reduceBNe, Nat.reduceMul, ↓reduceIte, tis, h, hne]
      · obtain rfl : i = p.length := by omega
        have hpq : p = q := by rwa [List.take_of_length_le (Nat.le_refl _), List.take_of_length_le (by omega)] at h2
        simp -implicitDefEqProofs (maxSteps := 100000) (disch := first | (intros; contradiction) | omega) only [am0, am1, am2, am3, am4, am5, am6, am7, am8, am9, Nat.reduceSub, ↓reduceIte, reduceCtorEq, Nat.reduceEqDiff, Nat.reduceBEq, Nat.reduceAdd, Nat.reduceLT, Nat.reduceBNe, Nat.reduceMul, ↓reduceIte, tis, hpq]
  · have hne : p ≠ q := fun h => hl (by rw [h])
    simp -implicitDefEqProofs (maxSteps := 100000) (disch := first | (intros; contradiction) | omega) only [am0, am1, am2, am3, am4, am5, am6, am7, am8, am9, Nat.reduceSub, ↓reduceIte, reduceCtorEq, Nat.reduceEqDiff, Nat.reduceBEq, Nat.reduceAdd, Nat.reduceLT, Nat.reduceBNe, Nat.reduceMul, ↓reduceIte, tis, hne]
/-- The marks that are put into n such from k on. -/
def mkSpan (k : Int) : Span := ⟨k, k + 1⟩
def mkSpans (n : Nat) (k : Int) : List Span := (List.range n).map fun (i : Nat) => mkSpan (k + 2 * (i : Int))
theorem mkSpans_succ (n : Nat) (k : Int) : mkSpans (n + 1) k = mkSpans n k ++ [mkSpan (k + 2 * n)] := by simp [mkSpans, List.range_succ]
theorem mkSpans_len (n : Nat) (k : Int) : (mkSpans n k).length = n := by simp [mkSpans]
/-- laws.markSpanS -/
theorem fits_markSpanS (p : List Span) (k : Int) (hp : p.length ≤ 1048576) (h0 : 0 ≤ k) (hk : k ≤ 1152921504606846976) : Fits prog 95 [.sl true 2 (p.map eSpan), .int .i64 k] (.int .i64 (k + 2 * p.length)) [.sl true 2 ((mkSpans p.length k).map eSpan)] := by
  refine fits_of_code [4] [0] [0, 1, 4, 5, 9] func95 rfl rfl rfl (by rfl) (by show 2 ≤ 27; decide) (by rfl) (by rfl) (by show 1 ≤ 2; decide) (by rfl) (run_of ?_)
  simp -implicitDefEqProofs (maxSteps := 100000) (disch := first | (intros; contradiction) | omega) only [am0, am1, am2, am3, am4, am5, am6, am7, am8, am9, Nat.reduceSub, ↓reduceIte, reduceCtorEq, Nat.reduceEqDiff, Nat.reduceBEq, Nat.reduceAdd, Nat.reduceLT, Nat.reduceBNe, Nat.reduceMul, ↓reduceIte, tis]
  refine run_loop (α := Nat) (fun i => i ≤ p.length) (fun i => [(0, .sl true 2 ((mkSpans i k).map eSpan ++ (p.drop i).map eSpan)), (1, .int .i64 (k + 2 * i)), (5, .int .i64 i)]) (fun i => p.length - i) 0 (Nat.zero_le _) ?_ ?_
  · simp -implicitDefEqProofs (maxSteps := 100000) (disch := first | (intros; contradiction) | omega) only [am0, am1, am2, am3, am4, am5, am6, am7, am8, am9, Nat.reduceSub, ↓reduceIte, reduceCtorEq, Nat.reduceEqDiff, Nat.reduceBEq, Nat.reduceAdd, Nat.reduceLT, Nat.reduceBNe, Nat.reduceMul, ↓reduceIte, tis, mkSpans]
    try simp
  · intro i hi'
    have hA : ((mkSpans i k).map eSpan).length = i := by simp [mkSpans_len]
    have hL : ((mkSpans i k).map eSpan ++ (p.drop i).map eSpan).length = p.length := by simp [mkSpans_len]; omega
    by_cases hi : i < p.length
    · have g1 := turn_get _ eSpan p i hA hi
      have g2 := fun y => turn_set _ eSpan p i y hA hi
      have g3 : ∀ y, ((mkSpans i k).map eSpan ++ [y] ++ (p.drop (i + 1)).map eSpan)[i]? = some y := fun y => by
        rw [List.append_assoc, List.getElem?_append_right (by omega), hA, Nat.sub_self]; rfl
      have g4 : ∀ y z, ((mkSpans i k).map eSpan ++ [y] ++ (p.drop (i + 1)).map eSpan).set i z = (mkSpans i k).map eSpan ++ [z] ++ (p.drop (i + 1)).map eSpan := fun y z => by
        rw [List.append_assoc, List.set_append_right _ _ (by omega), hA, Nat.sub_self]; simp
      have g5 : ∀ y, ((mkSpans i k).map eSpan ++ [y] ++ (p.drop (i + 1)).map eSpan).length = p.length := fun y => by simp [mkSpans_len]; omega
      simp only [eSpan] at g1
      simp -implicitDefEqProofs (maxSteps := 100000) (disch := first | (intros; contradiction) | omega) only [am0, am1, am2, am3, am4, am5, am6, am7, am8, am9, Nat.reduceSub, ↓reduceIte, reduceCtorEq, Nat.reduceEqDiff, Nat.reduceBEq, Nat.reduceAdd, Nat.reduceLT, Nat.reduceBNe, Nat.reduceMul, ↓reduceIte, tis, hL, g1, g2, g3, g4, g5]
      refine round_normal (i + 1) (by omega) ?_ (by show p.length - (i + 1) < p.length - i; omega)
      simp -implicitDefEqProofs (maxSteps := 100000) (disch := first | (intros; contradiction) | omega) only [am0, am1, am2, am3, am4, am5, am6, am7, am8, am9, Nat.reduceSub, ↓reduceIte, reduceCtorEq, Nat.reduceEqDiff, Nat.reduceBEq, Nat.reduceAdd, Nat.reduceLT, Nat.reduceBNe, Nat.reduceMul, ↓reduceIte, tis, mkSpans_succ]
      simp [mkSpan, eSpan]
      omega
    · obtain rfl : i = p.length := by omega
      simp -implicitDefEqProofs (maxSteps := 100000) (disch := first | (intros; contradiction) | omega) only [am0, am1, am2, am3, am4, am5, am6, am7, am8, am9, Nat.reduceSub, ↓reduceIte, reduceCtorEq, Nat.reduceEqDiff, Nat.reduceBEq, Nat.reduceAdd, Nat.reduceLT, Nat.reduceBNe, Nat.reduceMul, ↓reduceIte, tis, mkSpans_len]
theorem mkSpans_get (n : Nat) (k : Int) (i : Nat) (h : i < n) : ((mkSpans n k).map eSpan).getD i .undef = eSpan (mkSpan (k + 2 * i)) := by
  simp [mkSpans, List.getD, h]
inductive Rex where
  | mk (kind : Int) (set : List Span) (kids : List Rex)
def Rex.kind : Rex → Int | .mk k _ _ => k
def Rex.set : Rex → List Span | .mk _ s _ => s
def Rex.kids : Rex → List Rex | .mk _ _ ks => ks
instance : Inhabited Rex := ⟨.mk 0 [] []⟩
theorem Rex.eta (r : Rex) : .mk r.kind r.set r.kids = r := by cases r; rfl
theorem Rex.ind {p : Rex → Prop} (h : ∀ k s ks, (∀ x ∈ ks, p x) → p (.mk k s ks)) : ∀ r, p r
  | .mk k s ks => h k s ks (fun x _ => Rex.ind h x)
termination_by r => SizeOf.sizeOf r
decreasing_by simp_wf; have := List.sizeOf_lt_of_mem ‹_›; omega
theorem Rex.ind' {p : Rex → Prop} (h : ∀ r : Rex, (∀ x ∈ r.kids, p x) → p r) (r : Rex) : p r := Rex.ind (fun k s ks ih => h (.mk k s ks) ih) r
def eRex (o : Bool) : Rex → AV
  | .mk k s ks => .agg [.int .i64 k, .sl o 2 (s.map eSpan), .sl o 3 (ks.map (eRex o))]
theorem eRex_eq (o : Bool) (r : Rex) : eRex o r = .agg [.int .i64 r.kind, .sl o 2 (r.set.map eSpan), .sl o 3 (r.kids.map (eRex o))] := by
  cases r; rw [eRex]; rfl
theorem er_rex (o : Bool) (r : Rex) : erase (eRex o r) = eRex false r := by
  induction r using Rex.ind' with
  | h r ih =>
    rw [eRex_eq, eRex_eq]
    simp only [erase, eraseL, flSpan.eraseL, eraseL_map, List.map_map]
    congr 3
    simpa using ih
theorem erL_rex (o : Bool) (l : List Rex) : eraseL (l.map (eRex o)) = l.map (eRex false) := by
  rw [eraseL_map, List.map_map]; exact List.map_congr_left fun x _ => er_rex o x
theorem pl_rex (r : Rex) : plain (eRex false r) = true := by rw [eRex_eq]; simp [plain, plainL]
theorem plL_rex (l : List Rex) : plainL (l.map (eRex false)) = true := by rw [plainL_all]; simp [pl_rex]
theorem cl_rex (r : Rex) : closed (eRex true r) = true := by
  induction r using Rex.ind' with
  | h r ih =>
    rw [eRex_eq]
    simp only [closed, closedL, flSpan.closedL, closedL_all, Bool.true_and, Bool.and_true]
    simpa using ih
theorem clL_rex (l : List Rex) : closedL (l.map (eRex true)) = true := by rw [closedL_all]; simp [cl_rex]
theorem nc_rex (o : Bool) (r : Rex) : ncells (eRex o r) = 3 := by rw [eRex_eq]; simp [ncells, ncellsL]
theorem ag_rex (o : Bool) (r : Rex) : AV.isAgg (eRex o r) = true := by rw [eRex_eq]; rfl
theorem st_rex (o : Bool) (r : Rex) : AV.stor (eRex o r) = true := by rw [eRex_eq]; rfl
theorem tg_rex (o : Bool) (r : Rex) : AV.target (eRex o r) = none := by rw [eRex_eq]; rfl
theorem de_rex (o : Bool) (r : Rex) : plain (dead (eRex o r)) = true := by rw [eRex_eq]; cases o <;> simp [dead, deadL, plain, plainL]
/-- All that is known of the parts as a whole. -/
theorem rx : (∀ o r, erase (eRex o r) = eRex false r) ∧ (∀ o (l : List Rex), eraseL (l.map (eRex o)) = l.map (eRex false)) ∧ (∀ r, plain (eRex false r) = true) ∧ (∀ l : List Rex, plainL (l.map (eRex false)) = true) ∧
    (∀ r, closed (eRex true r) = true) ∧ (∀ l : List Rex, closedL (l.map (eRex true)) = true) ∧ (∀ o r, ncells (eRex o r) = 3) ∧ (∀ o r, AV.isAgg (eRex o r) = true) ∧ (∀ o r, AV.stor (eRex o r) = true) ∧ (∀ o r, AV.target (eRex o r) = none) :=
  ⟨er_rex, erL_rex, pl_rex, plL_rex, cl_rex, clL_rex, nc_rex, ag_rex, st_rex, tg_rex⟩
/-- How many spans and parts there are. -/
def bd : Rex → Nat
  | .mk _ s ks => s.length + (ks.length + (ks.map bd).sum)
theorem bd_eq (r : Rex) : bd r = r.set.length + (r.kids.length + (r.kids.map bd).sum) := by cases r; rw [bd]; rfl
theorem le_sum : ∀ {l : List Nat} {n : Nat}, n ∈ l → n ≤ l.sum
  | x :: l, n, h => by
    rcases List.mem_cons.1 h with rfl | h
    · simp
    · have := le_sum h
      simp; omega
theorem bd_kid {r x : Rex} (h : x ∈ r.kids) : bd x ≤ bd r := by
  rw [bd_eq r]
  have := le_sum (List.mem_map_of_mem (f := bd) h)
  omega
/-- No list of it is longer than Go's lists can be. -/
inductive Lens : Rex → Prop
  | mk (r : Rex) (h1 : r.set.length ≤ 9223372036854775807) (h2 : r.kids.length ≤ 9223372036854775807) (h3 : ∀ x ∈ r.kids, Lens x) : Lens r
/-- A place where one can go on. -/
def doorB (p : List Ins) (i : Nat) : Bool := match p[i]? with
  | some x => x.op == 2 || (x.op == 1 && (match p[i + 1]? with | some y => y.op == 2 | none => false))
  | none => false
def doorI (p : List Ins) (i : Int) : Bool := decide (0 ≤ i) && doorB p i.toNat
def insB (p : List Ins) (i : Nat) : Bool := match p[i]? with
  | some x => (x.op == 1 && (decide (0 ≤ x.a ∧ x.a ≤ 4 ∧ x.b = 0 ∧ x.to = 0) && doorB p i)) || ((x.op == 2 || x.op == 4) && decide (x.a = 0 ∧ x.b = 0 ∧ x.to = 0)) ||
      (x.op == 3 && (decide (0 ≤ x.a ∧ x.a ≤ x.b ∧ x.b ≤ 255) && doorI p x.to))
  | none => false
def lastB (p : List Ins) : Bool := match p.getLast? with | some x => x.op == 4 | none => false
def progB (p : List Ins) : Bool := decide (1 ≤ p.length ∧ p.length ≤ 1500) && (doorB p 0 && (lastB p && (List.range p.length).all (insB p)))
theorem doorB_lt {p : List Ins} {i : Nat} (h : doorB p i = true) : i < p.length := by
  unfold doorB at h
  split at h
  · rename_i x e; exact (List.getElem?_eq_some_iff.1 e).1
  · cases h
theorem doorB_at {p : List Ins} {i : Nat} (h : i < p.length) : doorB p i = (p[i].op == 2 || (p[i].op == 1 && (match p[i + 1]? with | some y => y.op == 2 | none => false))) := by
  simp [doorB, h]
theorem insB_at {p : List Ins} {i : Nat} (h : i < p.length) : insB p i = ((p[i].op == 1 && (decide (0 ≤ p[i].a ∧ p[i].a ≤ 4 ∧ p[i].b = 0 ∧ p[i].to = 0) && doorB p i)) || ((p[i].op == 2 || p[i].op == 4) && decide (p[i].a = 0 ∧ p[i].b = 0 ∧ p[i].to = 0)) ||
      (p[i].op == 3 && (decide (0 ≤ p[i].a ∧ p[i].a ≤ p[i].b ∧ p[i].b ≤ 255) && doorI p p[i].to))) := by
  simp [insB, h]
theorem doorI_out {p : List Ins} {i : Int} (h : ¬ (0 ≤ i ∧ i < p.length)) : doorI p i = false := by
  unfold doorI
  by_cases h0 : 0 ≤ i
  · have : p.length ≤ i.toNat := by omega
    simp [doorB, List.getElem?_eq_none this]
  · simp [h0]
theorem lastB_at {p : List Ins} (h : 0 < p.length) : lastB p = (p[p.length - 1].op == 4) := by
  have h1 : p.length - 1 < p.length := by omega
  simp [lastB, List.getLast?_eq_getElem?, h1]

theorem progB_false1 {p : List Ins} (h : ¬ (1 ≤ (p.length : Int) ∧ (p.length : Int) ≤ 1500)) : progB p = false := by
  have : ¬ (1 ≤ p.length ∧ p.length ≤ 1500) := by omega
  simp only [progB, this, decide_false, Bool.false_and]
theorem progB_false2 {p : List Ins} (h : doorB p 0 = false) : progB p = false := by simp [progB, h]
theorem progB_false3 {p : List Ins} (h : lastB p = false) : progB p = false := by simp [progB, h]
theorem progB_false4 {p : List Ins} {i : Nat} (hi : i < p.length) (h : insB p i = false) : progB p = false := by
  have : (List.range p.length).all (insB p) = false := by
    rw [List.all_eq_false]; exact ⟨i, by simpa using hi, by simp [h]⟩
  simp [progB, this]
theorem progB_true {p : List Ins} (h1 : 1 ≤ (p.length : Int) ∧ (p.length : Int) ≤ 1500) (h2 : doorB p 0 = true) (h3 : lastB p = true) (h4 : ∀ i, i < p.length → insB p i = true) : progB p = true := by
  have : (1 ≤ p.length ∧ p.length ≤ 1500) := by omega
  simp only [progB, this, h2, h3, Bool.and_eq_true, decide_true, Bool.true_and]
  simpa using h4
theorem doorI_zero (p : List Ins) : doorI p 0 = doorB p 0 := by simp [doorI]
theorem doorI_nat (p : List Ins) (i : Nat) : doorI p (i : Int) = doorB p i := by simp [doorI]
theorem progB_len {p : List Ins} (h : progB p = true) : 1 ≤ p.length ∧ p.length ≤ 1500 := by
  simp only [progB, Bool.and_eq_true, decide_eq_true_eq] at h; exact h.1
/-- impl.in -/
theorem fits_in (n l h : Int) : Fits prog 72 [.int .i64 n, .int .i64 l, .int .i64 h] (.bool (decide (l ≤ n ∧ n ≤ h))) [] := by
  refine fits_of_code [6] [] [0, 1, 2, 6] func72 rfl rfl rfl (by rfl) (by show 3 ≤ 15; decide) (by rfl) (by rfl) (by show 0 ≤ 3; decide) (by rfl) (run_of ?_)
  (simp -implicitDefEqProofs (maxSteps := 100000) (disch := first | (intros; contradiction) | omega) only [am0, am1, am2, am3, am4, am5, am6, am7, am8, am9, Nat.reduceSub, ↓reduceIte, reduceCtorEq, Nat.reduceEqDiff, Nat.reduceBEq, Nat.reduceAdd, Nat.reduceLT, Nat.reduceBNe, Nat.reduceMul, ↓reduceIte, tis]; (repeat' ((first | (refine Or.inl (And.intro (a := drawOk _ _ = true) (by kernel_rfl) ?_)) | (refine Or.inl (show drawOk _ _ = true from (by kernel_rfl))) | (refine cond_beq (fun _ => ?_) (fun _ => ?_)) | (refine cond_bne (fun _ => ?_) (fun _ => ?_)) | (refine cond_dec (fun _ => ?_) (fun _ => ?_)) | (refine cond_of (fun _ => ?_) (fun _ => ?_)) | (refine guard_beq (fun _ => ?_) (fun _ => ?_)) | (refine guard_bne (fun _ => ?_) (fun _ => ?_)) | (refine guard_dec (fun _ => ?_) (fun _ => ?_)) | (refine guard_of (fun _ => ?_) (fun _ => ?_)) | (refine guardD_beq (fun _ => ?_) (fun _ => ?_)) | (refine guardD_bne (fun _ => ?_) (fun _ => ?_)) | (refine guardD_dec (fun _ => ?_) (fun _ => ?_)) | (refine guardD_of (fun _ => ?_) (fun _ => ?_))) <;> (try simp -implicitDefEqProofs (maxSteps := 100000) (disch := first | (intros; contradiction) | omega) only [am0, am1, am2, am3, am4, am5, am6, am7, am8, am9, Nat.reduceSub, ↓reduceIte, reduceCtorEq, Nat.reduceEqDiff, Nat.reduceBEq, Nat.reduceAdd, Nat.reduceLT, Nat.reduceBNe, Nat.reduceMul, ↓reduceIte, tis]))))
  all_goals (simp_all)
/-- impl.door -/
theorem fits_door (p : List Ins) (i : Int) (hp : p.length ≤ 1099511627776) : Fits prog 154 [.sl false 4 (p.map eIns), .int .i64 i] (.bool (doorI p i)) [] := by
  refine fits_of_code [4] [] [0, 1, 4, 10] func154 rfl rfl rfl (by rfl) (by show 2 ≤ 41; decide) (by rfl) (by rfl) (by show 0 ≤ 2; decide) (by rfl) (run_of ?_)
  simp -implicitDefEqProofs (maxSteps := 100000) (disch := first | (intros; contradiction) | omega) only [am0, am1, am2, am3, am4, am5, am6, am7, am8, am9, Nat.reduceSub, ↓reduceIte, reduceCtorEq, Nat.reduceEqDiff, Nat.reduceBEq, Nat.reduceAdd, Nat.reduceLT, Nat.reduceBNe, Nat.reduceMul, ↓reduceIte, tis]
  refine callb_of (fits_in i 0 (p.length - 1)) (by simp -implicitDefEqProofs (maxSteps := 100000) (disch := first | (intros; contradiction) | omega) only [am0, am1, am2, am3, am4, am5, am6, am7, am8, am9, Nat.reduceSub, ↓reduceIte, reduceCtorEq, Nat.reduceEqDiff, Nat.reduceBEq, Nat.reduceAdd, Nat.reduceLT, Nat.reduceBNe, Nat.reduceMul, ↓reduceIte, tis]) (.inl rfl) rfl ?_
  by_cases hi : 0 ≤ i ∧ i < p.length
  case neg =>
    have h2 : ¬ (0 ≤ i ∧ i ≤ (p.length : Int) - 1) := by omega
    simp -implicitDefEqProofs (maxSteps := 100000) (disch := first | (intros; contradiction) | omega) only [am0, am1, am2, am3, am4, am5, am6, am7, am8, am9, Nat.reduceSub, ↓reduceIte, reduceCtorEq, Nat.reduceEqDiff, Nat.reduceBEq, Nat.reduceAdd, Nat.reduceLT, Nat.reduceBNe, Nat.reduceMul, ↓reduceIte, tis, h2, doorI_out hi]
  obtain ⟨j, rfl⟩ : ∃ j : Nat, i = j := ⟨i.toNat, by omega⟩
  have hj : j < p.length := by omega
  have h2 : (0 ≤ (j : Int) ∧ (j : Int) ≤ (p.length : Int) - 1) := by omega
  (simp -implicitDefEqProofs (maxSteps := 100000) (disch := first | (intros; contradiction) | omega) only [am0, am1, am2, am3, am4, am5, am6, am7, am8, am9, Nat.reduceSub, ↓reduceIte, reduceCtorEq, Nat.reduceEqDiff, Nat.reduceBEq, Nat.reduceAdd, Nat.reduceLT, Nat.reduceBNe, Nat.reduceMul, ↓reduceIte, tis, h2, eIns]; (repeat' ((first | (refine Or.inl (And.intro (a := drawOk _ _ = true) (by kernel_rfl) ?_)) | (refine Or.inl (show drawOk _ _ = true from (by kernel_rfl))) | (refine cond_beq (fun _ => ?_) (fun _ => ?_)) | (refine cond_bne (fun _ => ?_) (fun _ => ?_)) | (refine cond_dec (fun _ => ?_) (fun _ => ?_)) | (refine cond_of (fun _ => ?_) (fun _ => ?_)) | (refine guard_beq (fun _ => ?_) (fun _ => ?_)) | (refine guard_bne (fun _ => ?_) (fun _ => ?_)) | (refine guard_dec (fun _ => ?_) (fun _ => ?_)) | (refine guard_of (fun _ => ?_) (fun _ => ?_)) | (refine guardD_beq (fun _ => ?_) (fun _ => ?_)) | (refine guardD_bne (fun _ => ?_) (fun _ => ?_)) | (refine guardD_dec (fun _ => ?_) (fun _ => ?_)) | (refine guardD_of (fun _ => ?_) (fun _ => ?_))) <;> (try simp -implicitDefEqProofs (maxSteps := 100000) (disch := first | (intros; contradiction) | omega) only [am0, am1, am2, am3, am4, am5, am6, am7, am8, am9, Nat.reduceSub, ↓reduceIte, reduceCtorEq, Nat.reduceEqDiff, Nat.reduceBEq, Nat.reduceAdd, Nat.reduceLT, Nat.reduceBNe, Nat.reduceMul, ↓reduceIte, tis, h2, eIns]))))
  all_goals (have hq : j + 1 < p.length ∨ ¬ j + 1 < p.length := by omega)
  all_goals (rcases hq with hq | hq <;> first | omega | (simp_all [doorI, doorB_at hj]))

/-- impl.insOk -/
theorem fits_insOk (p : List Ins) (i : Nat) (hp : p.length ≤ 1099511627776) (hi : i < p.length) : Fits prog 155 [.sl false 4 (p.map eIns), .int .i64 i] (.bool (insB p i)) [] := by
  refine fits_of_code [4] [] [0, 1, 4, 5, 11, 12, 32, 48] func155 rfl rfl rfl (by rfl) (by show 2 ≤ 71; decide) (by rfl) (by rfl) (by show 0 ≤ 2; decide) (by rfl) (run_of ?_)
  (simp -implicitDefEqProofs (maxSteps := 100000) (disch := first | (intros; contradiction) | omega) only [am0, am1, am2, am3, am4, am5, am6, am7, am8, am9, Nat.reduceSub, ↓reduceIte, reduceCtorEq, Nat.reduceEqDiff, Nat.reduceBEq, Nat.reduceAdd, Nat.reduceLT, Nat.reduceBNe, Nat.reduceMul, ↓reduceIte, tis, eIns]; (repeat' ((first | (refine callb_of (fits_in _ _ _) (by simp -implicitDefEqProofs (maxSteps := 100000) (disch := first | (intros; contradiction) | omega) only [am0, am1, am2, am3, am4, am5, am6, am7, am8, am9, Nat.reduceSub, ↓reduceIte, reduceCtorEq, Nat.reduceEqDiff, Nat.reduceBEq, Nat.reduceAdd, Nat.reduceLT, Nat.reduceBNe, Nat.reduceMul, ↓reduceIte, tis, eIns]; (repeat' (first | rfl | constructor))) (by first | exact .inl rfl | (right; simp -implicitDefEqProofs (maxSteps := 100000) (disch := first | (intros; contradiction) | omega) only [am0, am1, am2, am3, am4, am5, am6, am7, am8, am9, Nat.reduceSub, ↓reduceIte, reduceCtorEq, Nat.reduceEqDiff, Nat.reduceBEq, Nat.reduceAdd, Nat.reduceLT, Nat.reduceBNe, Nat.reduceMul, ↓reduceIte, tis, eIns])) rfl ?_) | (refine call_of (fits_in _ _ _) (by simp -implicitDefEqProofs (maxSteps := 100000) (disch := first | (intros; contradiction) | omega) only [am0, am1, am2, am3, am4, am5, am6, am7, am8, am9, Nat.reduceSub, ↓reduceIte, reduceCtorEq, Nat.reduceEqDiff, Nat.reduceBEq, Nat.reduceAdd, Nat.reduceLT, Nat.reduceBNe, Nat.reduceMul, ↓reduceIte, tis, eIns]; (repeat' (first | rfl | constructor))) (by first | exact .inl rfl | (right; simp -implicitDefEqProofs (maxSteps := 100000) (disch := first | (intros; contradiction) | omega) only [am0, am1, am2, am3, am4, am5, am6, am7, am8, am9, Nat.reduceSub, ↓reduceIte, reduceCtorEq, Nat.reduceEqDiff, Nat.reduceBEq, Nat.reduceAdd, Nat.reduceLT, Nat.reduceBNe, Nat.reduceMul, ↓reduceIte, tis, eIns])) rfl ?_) | (refine callb_of (fits_door p _ hp) (by simp -implicitDefEqProofs (maxSteps := 100000) (disch := first | (intros; contradiction) | omega) only [am0, am1, am2, am3, am4, am5, am6, am7, am8, am9, Nat.reduceSub, ↓reduceIte, reduceCtorEq, Nat.reduceEqDiff, Nat.reduceBEq, Nat.reduceAdd, Nat.reduceLT, Nat.reduceBNe, Nat.reduceMul, ↓reduceIte, tis, eIns]; (repeat' (first | rfl | constructor))) (by first | exact .inl rfl | (right; simp -implicitDefEqProofs (maxSteps := 100000) (disch := first | (intros; contradiction) | omega) only [am0, am1, am2, am3, am4, am5, am6, am7, am8, am9, Nat.reduceSub, ↓reduceIte, reduceCtorEq, Nat.reduceEqDiff, Nat.reduceBEq, Nat.reduceAdd, Nat.reduceLT, Nat.reduceBNe, Nat.reduceMul, ↓reduceIte, tis, eIns])) rfl ?_) | (refine call_of (fits_door p _ hp) (by simp -implicitDefEqProofs (maxSteps := 100000) (disch := first | (intros; contradiction) | omega) only [am0, am1, am2, am3, am4, am5, am6, am7, am8, am9, Nat.reduceSub, ↓reduceIte, reduceCtorEq, Nat.reduceEqDiff, Nat.reduceBEq, Nat.reduceAdd, Nat.reduceLT, Nat.reduceBNe, Nat.reduceMul, ↓reduceIte, tis, eIns]; (repeat' (first | rfl | constructor))) (by first | exact .inl rfl | (right; simp -implicitDefEqProofs (maxSteps := 100000) (disch := first | (intros; contradiction) | omega) only [am0, am1, am2, am3, am4, am5, am6, am7, am8, am9, Nat.reduceSub, ↓reduceIte, reduceCtorEq, Nat.reduceEqDiff, Nat.reduceBEq, Nat.reduceAdd, Nat.reduceLT, Nat.reduceBNe, Nat.reduceMul, ↓reduceIte, tis, eIns])) rfl ?_) | (refine Or.inl (And.intro (a := drawOk _ _ = true) (by kernel_rfl) ?_)) | (refine Or.inl (show drawOk _ _ = true from (by kernel_rfl))) | (refine cond_beq (fun _ => ?_) (fun _ => ?_)) | (refine cond_bne (fun _ => ?_) (fun _ => ?_)) | (refine cond_dec (fun _ => ?_) (fun _ => ?_)) | (refine cond_of (fun _ => ?_) (fun _ => ?_)) | (refine guard_beq (fun _ => ?_) (fun _ => ?_)) | (refine guard_bne (fun _ => ?_) (fun _ => ?_)) | (refine guard_dec (fun _ => ?_) (fun _ => ?_)) | (refine guard_of (fun _ => ?_) (fun _ => ?_)) | (refine guardD_beq (fun _ => ?_) (fun _ => ?_)) | (refine guardD_bne (fun _ => ?_) (fun _ => ?_)) | (refine guardD_dec (fun _ => ?_) (fun _ => ?_)) | (refine guardD_of (fun _ => ?_) (fun _ => ?_))) <;> (try simp -implicitDefEqProofs (maxSteps := 100000) (disch := first | (intros; contradiction) | omega) only [am0, am1, am2, am3, am4, am5, am6, am7, am8, am9, Nat.reduceSub, ↓reduceIte, reduceCtorEq, Nat.reduceEqDiff, Nat.reduceBEq, Nat.reduceAdd, Nat.reduceLT, Nat.reduceBNe, Nat.reduceMul, ↓reduceIte, tis, eIns]))))
  all_goals (simp_all [insB_at hi])
  all_goals first | (intros; omega) | grind [doorI]
/-- A span by its place. -/
def setN (s : List Span) (i : Nat) : Bool := match s[i]? with
  | some x => decide (0 ≤ x.lo ∧ x.lo ≤ x.hi ∧ x.hi ≤ 255) && (decide (i = 0) || (match s[i - 1]? with | some y => decide (y.hi + 1 < x.lo) | none => false))
  | none => false
def setB (s : List Span) : Bool := (List.range s.length).all (setN s)
theorem setN_at {s : List Span} {i : Nat} (h : i < s.length) : setN s i = (decide (0 ≤ s[i].lo ∧ s[i].lo ≤ s[i].hi ∧ s[i].hi ≤ 255) && (decide (i = 0) || (match s[i - 1]? with | some y => decide (y.hi + 1 < s[i].lo) | none => false))) := by
  simp [setN, h]
theorem setN_0 {s : List Span} {i : Nat} (h : i < s.length) (h0 : i = 0) : setN s i = decide (0 ≤ s[i].lo ∧ s[i].lo ≤ s[i].hi ∧ s[i].hi ≤ 255) := by
  rw [setN_at h]; simp [h0]
theorem setN_1 {s : List Span} {i : Nat} (h : i < s.length) (h0 : i ≠ 0) : setN s i = (decide (0 ≤ s[i].lo ∧ s[i].lo ≤ s[i].hi ∧ s[i].hi ≤ 255) && decide (s[i - 1].hi + 1 < s[i].lo)) := by
  have : i - 1 < s.length := by omega
  rw [setN_at h]; simp [h0, this]
theorem setN_b {s : List Span} {i : Nat} (h : i < s.length) (h0 : setN s i = true) : 0 ≤ s[i].lo ∧ s[i].lo ≤ s[i].hi ∧ s[i].hi ≤ 255 := by
  rw [setN_at h] at h0
  simp only [Bool.and_eq_true, decide_eq_true_eq] at h0
  exact h0.1
theorem setB_false {s : List Span} {i : Nat} (hi : i < s.length) (h : setN s i = false) : setB s = false := by
  unfold setB; rw [List.all_eq_false]; exact ⟨i, by simpa using hi, by simp [h]⟩
theorem setB_true {s : List Span} (h : ∀ i, i < s.length → setN s i = true) : setB s = true := by
  unfold setB; simpa using h
/-- impl.SetOk -/
theorem fits_setOk (s : List Span) (hp : s.length ≤ 1099511627776) : Fits prog 146 [.sl false 2 (s.map eSpan)] (.bool (setB s)) [] := by
  refine fits_of_code [2] [] [0, 2, 3, 4, 5, 6, 7, 8, 42] func146 rfl rfl rfl (by rfl) (by show 1 ≤ 44; decide) (by rfl) (by rfl) (by show 0 ≤ 1; decide) (by rfl) (run_of ?_)
  simp -implicitDefEqProofs (maxSteps := 100000) (disch := first | (intros; contradiction) | omega) only [am0, am1, am2, am3, am4, am5, am6, am7, am8, am9, Nat.reduceSub, ↓reduceIte, reduceCtorEq, Nat.reduceEqDiff, Nat.reduceBEq, Nat.reduceAdd, Nat.reduceLT, Nat.reduceBNe, Nat.reduceMul, ↓reduceIte, tis]
  refine run_loop (α := Nat) (fun i => i ≤ s.length ∧ ∀ j, j < i → setN s j = true) (fun i => [(0, .sl false 2 (s.map eSpan)), (5, .sl false 2 (s.map eSpan)), (6, .int .i64 s.length), (7, .int .i64 i)]) (fun i => s.length - i) 0 ⟨Nat.zero_le _, by simp⟩ ?_ ?_
  · simp -implicitDefEqProofs (maxSteps := 100000) (disch := first | (intros; contradiction) | omega) only [am0, am1, am2, am3, am4, am5, am6, am7, am8, am9, Nat.reduceSub, ↓reduceIte, reduceCtorEq, Nat.reduceEqDiff, Nat.reduceBEq, Nat.reduceAdd, Nat.reduceLT, Nat.reduceBNe, Nat.reduceMul, ↓reduceIte, tis]
  · rintro i ⟨hi', hb⟩
    by_cases hi : i < s.length
    · have next : setN s i = true → ∀ j, j < i + 1 → setN s j = true := by
        intro h5 j hj
        by_cases hji : j < i
        · exact hb j hji
        · obtain rfl : j = i := by omega
          exact h5
      by_cases h0 : i = 0
      · have e := setN_0 hi h0
        by_cases h1 : 0 ≤ s[i].lo ∧ s[i].lo ≤ s[i].hi ∧ s[i].hi ≤ 255
        · rw [decide_eq_true h1] at e
          simp -implicitDefEqProofs (maxSteps := 100000) (disch := first | (intros; contradiction) | omega) only [am0, am1, am2, am3, am4, am5, am6, am7, am8, am9, Nat.reduceSub, ↓reduceIte, reduceCtorEq, Nat.reduceEqDiff, Nat.reduceBEq, Nat.reduceAdd, Nat.reduceLT, Nat.reduceBNe, Nat.reduceMul, ↓reduceIte, tis, eSpan, fls]
          refine .inl ⟨by kernel_rfl, ?_⟩
          exact round_normal (i + 1) ⟨by omega, next e⟩ (by simp -implicitDefEqProofs (maxSteps := 100000) (disch := first | (intros; contradiction) | omega) only [am0, am1, am2, am3, am4, am5, am6, am7, am8, am9, Nat.reduceSub, ↓reduceIte, reduceCtorEq, Nat.reduceEqDiff, Nat.reduceBEq, Nat.reduceAdd, Nat.reduceLT, Nat.reduceBNe, Nat.reduceMul, ↓reduceIte, tis]) (by show s.length - (i + 1) < s.length - i; omega)
        · rw [decide_eq_false h1] at e
          have e2 := setB_false hi e
          (simp -implicitDefEqProofs (maxSteps := 100000) (disch := first | (intros; contradiction) | omega) only [am0, am1, am2, am3, am4, am5, am6, am7, am8, am9, Nat.reduceSub, ↓reduceIte, reduceCtorEq, Nat.reduceEqDiff, Nat.reduceBEq, Nat.reduceAdd, Nat.reduceLT, Nat.reduceBNe, Nat.reduceMul, ↓reduceIte, tis, eSpan, fls, e2]; (repeat' ((first | (refine Or.inl (And.intro (a := drawOk _ _ = true) (by kernel_rfl) ?_)) | (refine Or.inl (show drawOk _ _ = true from (by kernel_rfl))) | (refine cond_beq (fun _ => ?_) (fun _ => ?_)) | (refine cond_bne (fun _ => ?_) (fun _ => ?_)) | (refine cond_dec (fun _ => ?_) (fun _ => ?_)) | (refine cond_of (fun _ => ?_) (fun _ => ?_)) | (refine guard_beq (fun _ => ?_) (fun _ => ?_)) | (refine guard_bne (fun _ => ?_) (fun _ => ?_)) | (refine guard_dec (fun _ => ?_) (fun _ => ?_)) | (refine guard_of (fun _ => ?_) (fun _ => ?_)) | (refine guardD_beq (fun _ => ?_) (fun _ => ?_)) | (refine guardD_bne (fun _ => ?_) (fun _ => ?_)) | (refine guardD_dec (fun _ => ?_) (fun _ => ?_)) | (refine guardD_of (fun _ => ?_) (fun _ => ?_))) <;> (try simp -implicitDefEqProofs (maxSteps := 100000) (disch := first | (intros; contradiction) | omega) only [am0, am1, am2, am3, am4, am5, am6, am7, am8, am9, Nat.reduceSub, ↓reduceIte, reduceCtorEq, Nat.reduceEqDiff, Nat.reduceBEq, Nat.reduceAdd, Nat.reduceLT, Nat.reduceBNe, Nat.reduceMul, ↓reduceIte, tis, eSpan, fls, e2]))))
          all_goals omega
      · have e := setN_1 hi h0
        have hi1 : i - 1 < s.length := by omega
        have b := setN_b hi1 (hb (i - 1) (by omega))
        have ei : ((i : Int) - 1).toNat = i - 1 := by omega
        by_cases h1 : 0 ≤ s[i].lo ∧ s[i].lo ≤ s[i].hi ∧ s[i].hi ≤ 255
        · by_cases h2 : s[i - 1].hi + 1 < s[i].lo
          · rw [decide_eq_true h1, decide_eq_true h2] at e
            simp -implicitDefEqProofs (maxSteps := 100000) (disch := first | (intros; contradiction) | omega) only [am0, am1, am2, am3, am4, am5, am6, am7, am8, am9, Nat.reduceSub, ↓reduceIte, reduceCtorEq, Nat.reduceEqDiff, Nat.reduceBEq, Nat.reduceAdd, Nat.reduceLT, Nat.reduceBNe, Nat.reduceMul, ↓reduceIte, tis, eSpan, fls, ei]
            refine .inl ⟨by kernel_rfl, ?_⟩
            exact round_normal (i + 1) ⟨by omega, next e⟩ (by simp -implicitDefEqProofs (maxSteps := 100000) (disch := first | (intros; contradiction) | omega) only [am0, am1, am2, am3, am4, am5, am6, am7, am8, am9, Nat.reduceSub, ↓reduceIte, reduceCtorEq, Nat.reduceEqDiff, Nat.reduceBEq, Nat.reduceAdd, Nat.reduceLT, Nat.reduceBNe, Nat.reduceMul, ↓reduceIte, tis]) (by show s.length - (i + 1) < s.length - i; omega)
          · rw [decide_eq_true h1, decide_eq_false h2] at e
            have e2 := setB_false hi e
            simp -implicitDefEqProofs (maxSteps := 100000) (disch := first | (intros; contradiction) | omega) only [am0, am1, am2, am3, am4, am5, am6, am7, am8, am9, Nat.reduceSub, ↓reduceIte, reduceCtorEq, Nat.reduceEqDiff, Nat.reduceBEq, Nat.reduceAdd, Nat.reduceLT, Nat.reduceBNe, Nat.reduceMul, ↓reduceIte, tis, eSpan, fls, e2, ei]
            refine .inl ?_
            show _ = _
            kernel_rfl
        · rw [decide_eq_false h1] at e
          have e2 := setB_false hi e
          (simp -implicitDefEqProofs (maxSteps := 100000) (disch := first | (intros; contradiction) | omega) only [am0, am1, am2, am3, am4, am5, am6, am7, am8, am9, Nat.reduceSub, ↓reduceIte, reduceCtorEq, Nat.reduceEqDiff, Nat.reduceBEq, Nat.reduceAdd, Nat.reduceLT, Nat.reduceBNe, Nat.reduceMul, ↓reduceIte, tis, eSpan, fls, e2, ei]; (repeat' ((first | (refine Or.inl (And.intro (a := drawOk _ _ = true) (by kernel_rfl) ?_)) | (refine Or.inl (show drawOk _ _ = true from (by kernel_rfl))) | (refine cond_beq (fun _ => ?_) (fun _ => ?_)) | (refine cond_bne (fun _ => ?_) (fun _ => ?_)) | (refine cond_dec (fun _ => ?_) (fun _ => ?_)) | (refine cond_of (fun _ => ?_) (fun _ => ?_)) | (refine guard_beq (fun _ => ?_) (fun _ => ?_)) | (refine guard_bne (fun _ => ?_) (fun _ => ?_)) | (refine guard_dec (fun _ => ?_) (fun _ => ?_)) | (refine guard_of (fun _ => ?_) (fun _ => ?_)) | (refine guardD_beq (fun _ => ?_) (fun _ => ?_)) | (refine guardD_bne (fun _ => ?_) (fun _ => ?_)) | (refine guardD_dec (fun _ => ?_) (fun _ => ?_)) | (refine guardD_of (fun _ => ?_) (fun _ => ?_))) <;> (try simp -implicitDefEqProofs (maxSteps := 100000) (disch := first | (intros; contradiction) | omega) only [am0, am1, am2, am3, am4, am5, am6, am7, am8, am9, Nat.reduceSub, ↓reduceIte, reduceCtorEq, Nat.reduceEqDiff, Nat.reduceBEq, Nat.reduceAdd, Nat.reduceLT, Nat.reduceBNe, Nat.reduceMul, ↓reduceIte, tis, eSpan, fls, e2, ei]))))
          all_goals omega
    · obtain rfl : i = s.length := by omega
      simp -implicitDefEqProofs (maxSteps := 100000) (disch := first | (intros; contradiction) | omega) only [am0, am1, am2, am3, am4, am5, am6, am7, am8, am9, Nat.reduceSub, ↓reduceIte, reduceCtorEq, Nat.reduceEqDiff, Nat.reduceBEq, Nat.reduceAdd, Nat.reduceLT, Nat.reduceBNe, Nat.reduceMul, ↓reduceIte, tis, setB_true hb]
def hasB (s : List Span) (b : Int) : Bool := s.any fun x => decide (x.lo ≤ b ∧ b ≤ x.hi)
theorem hasB_t {s : List Span} {b : Int} {i : Nat} (hi : i < s.length) (h : s[i].lo ≤ b ∧ b ≤ s[i].hi) : hasB s b = true := by
  unfold hasB; rw [List.any_eq_true]; exact ⟨_, List.getElem_mem hi, by simpa using h⟩
theorem hasB_f {s : List Span} {b : Int} (h : ∀ i (hi : i < s.length), ¬ (s[i].lo ≤ b ∧ b ≤ s[i].hi)) : hasB s b = false := by
  unfold hasB; rw [List.any_eq_false]; intro x hx; obtain ⟨i, hi, rfl⟩ := List.getElem_of_mem hx; simpa using h i hi
def bitsL (s : List Span) : List Bool := (List.range 256).map fun b => hasB s (b : Nat)
theorem bitsL_len (s : List Span) : (bitsL s).length = 256 := by simp [bitsL]
theorem bitsL_get (s : List Span) (i : Nat) (h : i < (bitsL s).length) : (bitsL s)[i] = hasB s i := by simp [bitsL]
/-- impl.SetHas -/
theorem fits_setHas (s : List Span) (b : Int) (hp : s.length ≤ 1099511627776) : Fits prog 140 [.sl false 2 (s.map eSpan), .int .i64 b] (.bool (hasB s b)) [] := by
  refine fits_of_code [4] [] [0, 1, 4, 6, 7, 8, 9, 10, 18] func140 rfl rfl rfl (by rfl) (by show 2 ≤ 20; decide) (by rfl) (by rfl) (by show 0 ≤ 2; decide) (by rfl) (run_of ?_)
  simp -implicitDefEqProofs (maxSteps := 100000) (disch := first | (intros; contradiction) | omega) only [am0, am1, am2, am3, am4, am5, am6, am7, am8, am9, Nat.reduceSub, ↓reduceIte, reduceCtorEq, Nat.reduceEqDiff, Nat.reduceBEq, Nat.reduceAdd, Nat.reduceLT, Nat.reduceBNe, Nat.reduceMul, ↓reduceIte, tis]
  refine run_loop (α := Nat) (fun i => i ≤ s.length ∧ ∀ j (hj : j < s.length), j < i → ¬ (s[j].lo ≤ b ∧ b ≤ s[j].hi)) (fun i => [(1, .int .i64 b), (7, .sl false 2 (s.map eSpan)), (8, .int .i64 s.length), (9, .int .i64 i)]) (fun i => s.length - i) 0 ⟨Nat.zero_le _, by intros; omega⟩ ?_ ?_
  · simp -implicitDefEqProofs (maxSteps := 100000) (disch := first | (intros; contradiction) | omega) only [am0, am1, am2, am3, am4, am5, am6, am7, am8, am9, Nat.reduceSub, ↓reduceIte, reduceCtorEq, Nat.reduceEqDiff, Nat.reduceBEq, Nat.reduceAdd, Nat.reduceLT, Nat.reduceBNe, Nat.reduceMul, ↓reduceIte, tis]
  · rintro i ⟨hi', hb⟩
    by_cases hi : i < s.length
    · simp -implicitDefEqProofs (maxSteps := 100000) (disch := first | (intros; contradiction) | omega) only [am0, am1, am2, am3, am4, am5, am6, am7, am8, am9, Nat.reduceSub, ↓reduceIte, reduceCtorEq, Nat.reduceEqDiff, Nat.reduceBEq, Nat.reduceAdd, Nat.reduceLT, Nat.reduceBNe, Nat.reduceMul, ↓reduceIte, tis, eSpan, fls]
      refine callB (fits_in b s[i].lo s[i].hi) ?_
      by_cases h1 : s[i].lo ≤ b ∧ b ≤ s[i].hi
      · simp -implicitDefEqProofs (maxSteps := 100000) (disch := first | (intros; contradiction) | omega) only [am0, am1, am2, am3, am4, am5, am6, am7, am8, am9, Nat.reduceSub, ↓reduceIte, reduceCtorEq, Nat.reduceEqDiff, Nat.reduceBEq, Nat.reduceAdd, Nat.reduceLT, Nat.reduceBNe, Nat.reduceMul, ↓reduceIte, tis, eSpan, fls, h1, hasB_t hi h1]
      · simp -implicitDefEqProofs (maxSteps := 100000) (disch := first | (intros; contradiction) | omega) only [am0, am1, am2, am3, am4, am5, am6, am7, am8, am9, Nat.reduceSub, ↓reduceIte, reduceCtorEq, Nat.reduceEqDiff, Nat.reduceBEq, Nat.reduceAdd, Nat.reduceLT, Nat.reduceBNe, Nat.reduceMul, ↓reduceIte, tis, eSpan, fls, h1]
        refine round_normal (i + 1) ⟨by omega, ?_⟩ (by simp -implicitDefEqProofs (maxSteps := 100000) (disch := first | (intros; contradiction) | omega) only [am0, am1, am2, am3, am4, am5, am6, am7, am8, am9, Nat.reduceSub, ↓reduceIte, reduceCtorEq, Nat.reduceEqDiff, Nat.reduceBEq, Nat.reduceAdd, Nat.reduceLT, Nat.reduceBNe, Nat.reduceMul, ↓reduceIte, tis]) (by show s.length - (i + 1) < s.length - i; omega)
        intro j hj hj2
        by_cases hji : j < i
        · exact hb j hj hji
        · obtain rfl : j = i := by omega
          exact h1
    · obtain rfl : i = s.length := by omega
      simp -implicitDefEqProofs (maxSteps := 100000) (disch := first | (intros; contradiction) | omega) only [am0, am1, am2, am3, am4, am5, am6, am7, am8, am9, Nat.reduceSub, ↓reduceIte, reduceCtorEq, Nat.reduceEqDiff, Nat.reduceBEq, Nat.reduceAdd, Nat.reduceLT, Nat.reduceBNe, Nat.reduceMul, ↓reduceIte, tis, hasB_f fun i hi => hb i hi hi]
/-- spec.SetHas -/
theorem fits_sSetHas (s : List Span) (b : Int) (hp : s.length ≤ 1099511627776) : Fits prog 137 [.sl false 2 (s.map eSpan), .int .i64 b] (.bool (hasB s b)) [] := by
  refine fits_of_code [4] [] [0, 1, 4, 5, 9, 27] func137 rfl rfl rfl (by rfl) (by show 2 ≤ 28; decide) (by rfl) (by rfl) (by show 0 ≤ 2; decide) (by rfl) (run_of ?_)
  simp -implicitDefEqProofs (maxSteps := 100000) (disch := first | (intros; contradiction) | omega) only [am0, am1, am2, am3, am4, am5, am6, am7, am8, am9, Nat.reduceSub, ↓reduceIte, reduceCtorEq, Nat.reduceEqDiff, Nat.reduceBEq, Nat.reduceAdd, Nat.reduceLT, Nat.reduceBNe, Nat.reduceMul, ↓reduceIte, tis]
  refine run_loop (α := Nat) (fun i => i ≤ s.length ∧ ∀ j (hj : j < s.length), j < i → ¬ (s[j].lo ≤ b ∧ b ≤ s[j].hi)) (fun i => [(0, .sl false 2 (s.map eSpan)), (1, .int .i64 b), (5, .int .i64 i)]) (fun i => s.length - i) 0 ⟨Nat.zero_le _, by intros; omega⟩ ?_ ?_
  · simp -implicitDefEqProofs (maxSteps := 100000) (disch := first | (intros; contradiction) | omega) only [am0, am1, am2, am3, am4, am5, am6, am7, am8, am9, Nat.reduceSub, ↓reduceIte, reduceCtorEq, Nat.reduceEqDiff, Nat.reduceBEq, Nat.reduceAdd, Nat.reduceLT, Nat.reduceBNe, Nat.reduceMul, ↓reduceIte, tis]
  · rintro i ⟨hi', hb⟩
    by_cases hi : i < s.length
    · have nx : ¬ (s[i].lo ≤ b ∧ b ≤ s[i].hi) → ∀ j (hj : j < s.length), j < i + 1 → ¬ (s[j].lo ≤ b ∧ b ≤ s[j].hi) := by
        intro h1 j hj hj2
        by_cases hji : j < i
        · exact hb j hj hji
        · obtain rfl : j = i := by omega
          exact h1
      by_cases h1 : s[i].lo ≤ b
      · by_cases h2 : b ≤ s[i].hi
        · simp -implicitDefEqProofs (maxSteps := 100000) (disch := first | (intros; contradiction) | omega) only [am0, am1, am2, am3, am4, am5, am6, am7, am8, am9, Nat.reduceSub, ↓reduceIte, reduceCtorEq, Nat.reduceEqDiff, Nat.reduceBEq, Nat.reduceAdd, Nat.reduceLT, Nat.reduceBNe, Nat.reduceMul, ↓reduceIte, tis, eSpan, fls, h1, h2, hasB_t hi ⟨h1, h2⟩]
        · simp -implicitDefEqProofs (maxSteps := 100000) (disch := first | (intros; contradiction) | omega) only [am0, am1, am2, am3, am4, am5, am6, am7, am8, am9, Nat.reduceSub, ↓reduceIte, reduceCtorEq, Nat.reduceEqDiff, Nat.reduceBEq, Nat.reduceAdd, Nat.reduceLT, Nat.reduceBNe, Nat.reduceMul, ↓reduceIte, tis, eSpan, fls, h1, h2]
          refine round_normal (i + 1) ⟨by omega, nx (by omega)⟩ (by simp -implicitDefEqProofs (maxSteps := 100000) (disch := first | (intros; contradiction) | omega) only [am0, am1, am2, am3, am4, am5, am6, am7, am8, am9, Nat.reduceSub, ↓reduceIte, reduceCtorEq, Nat.reduceEqDiff, Nat.reduceBEq, Nat.reduceAdd, Nat.reduceLT, Nat.reduceBNe, Nat.reduceMul, ↓reduceIte, tis]) (by show s.length - (i + 1) < s.length - i; omega)
      · simp -implicitDefEqProofs (maxSteps := 100000) (disch := first | (intros; contradiction) | omega) only [am0, am1, am2, am3, am4, am5, am6, am7, am8, am9, Nat.reduceSub, ↓reduceIte, reduceCtorEq, Nat.reduceEqDiff, Nat.reduceBEq, Nat.reduceAdd, Nat.reduceLT, Nat.reduceBNe, Nat.reduceMul, ↓reduceIte, tis, eSpan, fls, h1]
        refine round_normal (i + 1) ⟨by omega, nx (by omega)⟩ (by simp -implicitDefEqProofs (maxSteps := 100000) (disch := first | (intros; contradiction) | omega) only [am0, am1, am2, am3, am4, am5, am6, am7, am8, am9, Nat.reduceSub, ↓reduceIte, reduceCtorEq, Nat.reduceEqDiff, Nat.reduceBEq, Nat.reduceAdd, Nat.reduceLT, Nat.reduceBNe, Nat.reduceMul, ↓reduceIte, tis]) (by show s.length - (i + 1) < s.length - i; omega)
    · obtain rfl : i = s.length := by omega
      simp -implicitDefEqProofs (maxSteps := 100000) (disch := first | (intros; contradiction) | omega) only [am0, am1, am2, am3, am4, am5, am6, am7, am8, am9, Nat.reduceSub, ↓reduceIte, reduceCtorEq, Nat.reduceEqDiff, Nat.reduceBEq, Nat.reduceAdd, Nat.reduceLT, Nat.reduceBNe, Nat.reduceMul, ↓reduceIte, tis, hasB_f fun i hi => hb i hi hi]
/-- impl.bitsOf -/
theorem fits_bitsOf (s : List Span) (hp : s.length ≤ 1099511627776) : Fits prog 149 [.sl false 2 (s.map eSpan)] (.arr 1 ((bitsL s).map eBool)) [] := by
  have hl := bitsL_len s
  refine fits_of_cell 2 165 [] [0, 2, 3, 4, 5, 6] func149 rfl rfl rfl (by show 2 < 15; decide) (by show 1 ≤ 15; decide) (by rfl) (by rfl) (by show 0 ≤ 1; decide) (by rfl) (run_of ?_)
  simp -implicitDefEqProofs (maxSteps := 100000) (disch := first | (intros; contradiction) | omega) only [am0, am1, am2, am3, am4, am5, am6, am7, am8, am9, Nat.reduceSub, ↓reduceIte, reduceCtorEq, Nat.reduceEqDiff, Nat.reduceBEq, Nat.reduceAdd, Nat.reduceLT, Nat.reduceBNe, Nat.reduceMul, ↓reduceIte, tis]
  refine run_loop (α := Nat) (fun i => i ≤ 256) (fun i => [(0, .sl false 2 (s.map eSpan)), (2, .box (.arr 1 (List.replicate 256 (.bool false)))), (3, .box (.arr 1 (((bitsL s).take i).map eBool ++ List.replicate (256 - i) (.bool false)))), (5, .int .i64 i)]) (fun i => 256 - i) 0 (Nat.zero_le _) ?_ ?_
  · simp -implicitDefEqProofs (maxSteps := 100000) (disch := first | (intros; contradiction) | omega) only [am0, am1, am2, am3, am4, am5, am6, am7, am8, am9, Nat.reduceSub, ↓reduceIte, reduceCtorEq, Nat.reduceEqDiff, Nat.reduceBEq, Nat.reduceAdd, Nat.reduceLT, Nat.reduceBNe, Nat.reduceMul, ↓reduceIte, tis]
  · intro i hi'
    have g1 := build_len eBool (.bool false) (bitsL s) i (by omega)
    rw [hl] at g1
    by_cases hi : i < 256
    · have g2 := build_get eBool (.bool false) (bitsL s) i (by omega)
      have g3 := build_set eBool (.bool false) (bitsL s) i (by omega)
      rw [bitsL_get s i (by omega)] at g3
      rw [hl] at g2 g3
      simp -implicitDefEqProofs (maxSteps := 100000) (disch := first | (intros; contradiction) | omega) only [am0, am1, am2, am3, am4, am5, am6, am7, am8, am9, Nat.reduceSub, ↓reduceIte, reduceCtorEq, Nat.reduceEqDiff, Nat.reduceBEq, Nat.reduceAdd, Nat.reduceLT, Nat.reduceBNe, Nat.reduceMul, ↓reduceIte, tis, fls, g1, g2]
      refine callB (fits_setHas s i hp) ?_
      simp -implicitDefEqProofs (maxSteps := 100000) (disch := first | (intros; contradiction) | omega) only [am0, am1, am2, am3, am4, am5, am6, am7, am8, am9, Nat.reduceSub, ↓reduceIte, reduceCtorEq, Nat.reduceEqDiff, Nat.reduceBEq, Nat.reduceAdd, Nat.reduceLT, Nat.reduceBNe, Nat.reduceMul, ↓reduceIte, tis, fls, g1, g2]
      refine round_normal (i + 1) (by omega) ?_ (by show 256 - (i + 1) < 256 - i; omega)
      rw [show AV.bool (hasB s i) = eBool (hasB s i) from rfl, g3]
      simp -implicitDefEqProofs (maxSteps := 100000) (disch := first | (intros; contradiction) | omega) only [am0, am1, am2, am3, am4, am5, am6, am7, am8, am9, Nat.reduceSub, ↓reduceIte, reduceCtorEq, Nat.reduceEqDiff, Nat.reduceBEq, Nat.reduceAdd, Nat.reduceLT, Nat.reduceBNe, Nat.reduceMul, ↓reduceIte, tis]
    · obtain rfl : i = 256 := by omega
      have e : (bitsL s).take 256 = bitsL s := List.take_of_length_le (by omega)
      simp -implicitDefEqProofs (maxSteps := 100000) (disch := first | (intros; contradiction) | omega) only [am0, am1, am2, am3, am4, am5, am6, am7, am8, am9, Nat.reduceSub, ↓reduceIte, reduceCtorEq, Nat.reduceEqDiff, Nat.reduceBEq, Nat.reduceAdd, Nat.reduceLT, Nat.reduceBNe, Nat.reduceMul, ↓reduceIte, tis, g1, e, fls]
      omega
def kidsN (k : Int) : Int := if k = 1 ∨ k = 2 then 0 else if k = 5 ∨ k = 7 then 1 else if k = 3 ∨ k = 4 ∨ k = 6 then 2 else -1
/-- impl.kidsOf -/
theorem fits_kidsOf (k : Int) : Fits prog 145 [.int .i64 k] (.int .i64 (kidsN k)) [] := by
  refine fits_of_code [2] [] [0, 2, 3, 4, 7, 10] func145 rfl rfl rfl (by rfl) (by show 1 ≤ 14; decide) (by rfl) (by rfl) (by show 0 ≤ 1; decide) (by rfl) (run_of ?_)
  (simp -implicitDefEqProofs (maxSteps := 100000) (disch := first | (intros; contradiction) | omega) only [am0, am1, am2, am3, am4, am5, am6, am7, am8, am9, Nat.reduceSub, ↓reduceIte, reduceCtorEq, Nat.reduceEqDiff, Nat.reduceBEq, Nat.reduceAdd, Nat.reduceLT, Nat.reduceBNe, Nat.reduceMul, ↓reduceIte, tis]; (repeat' ((first | (refine Or.inl (And.intro (a := drawOk _ _ = true) (by kernel_rfl) ?_)) | (refine Or.inl (show drawOk _ _ = true from (by kernel_rfl))) | (refine cond_beq (fun _ => ?_) (fun _ => ?_)) | (refine cond_bne (fun _ => ?_) (fun _ => ?_)) | (refine cond_dec (fun _ => ?_) (fun _ => ?_)) | (refine cond_of (fun _ => ?_) (fun _ => ?_)) | (refine guard_beq (fun _ => ?_) (fun _ => ?_)) | (refine guard_bne (fun _ => ?_) (fun _ => ?_)) | (refine guard_dec (fun _ => ?_) (fun _ => ?_)) | (refine guard_of (fun _ => ?_) (fun _ => ?_)) | (refine guardD_beq (fun _ => ?_) (fun _ => ?_)) | (refine guardD_bne (fun _ => ?_) (fun _ => ?_)) | (refine guardD_dec (fun _ => ?_) (fun _ => ?_)) | (refine guardD_of (fun _ => ?_) (fun _ => ?_))) <;> (try simp -implicitDefEqProofs (maxSteps := 100000) (disch := first | (intros; contradiction) | omega) only [am0, am1, am2, am3, am4, am5, am6, am7, am8, am9, Nat.reduceSub, ↓reduceIte, reduceCtorEq, Nat.reduceEqDiff, Nat.reduceBEq, Nat.reduceAdd, Nat.reduceLT, Nat.reduceBNe, Nat.reduceMul, ↓reduceIte, tis]))))
  all_goals (simp_all [kidsN])
/-- spec.l2Kids -/
theorem fits_sKids (k : Int) : Fits prog 143 [.int .i64 k] (.int .i64 (kidsN k)) [] := by
  refine fits_of_code [2] [] [0, 2, 3, 4, 7, 10] func143 rfl rfl rfl (by rfl) (by show 1 ≤ 14; decide) (by rfl) (by rfl) (by show 0 ≤ 1; decide) (by rfl) (run_of ?_)
  (simp -implicitDefEqProofs (maxSteps := 100000) (disch := first | (intros; contradiction) | omega) only [am0, am1, am2, am3, am4, am5, am6, am7, am8, am9, Nat.reduceSub, ↓reduceIte, reduceCtorEq, Nat.reduceEqDiff, Nat.reduceBEq, Nat.reduceAdd, Nat.reduceLT, Nat.reduceBNe, Nat.reduceMul, ↓reduceIte, tis]; (repeat' ((first | (refine Or.inl (And.intro (a := drawOk _ _ = true) (by kernel_rfl) ?_)) | (refine Or.inl (show drawOk _ _ = true from (by kernel_rfl))) | (refine cond_beq (fun _ => ?_) (fun _ => ?_)) | (refine cond_bne (fun _ => ?_) (fun _ => ?_)) | (refine cond_dec (fun _ => ?_) (fun _ => ?_)) | (refine cond_of (fun _ => ?_) (fun _ => ?_)) | (refine guard_beq (fun _ => ?_) (fun _ => ?_)) | (refine guard_bne (fun _ => ?_) (fun _ => ?_)) | (refine guard_dec (fun _ => ?_) (fun _ => ?_)) | (refine guard_of (fun _ => ?_) (fun _ => ?_)) | (refine guardD_beq (fun _ => ?_) (fun _ => ?_)) | (refine guardD_bne (fun _ => ?_) (fun _ => ?_)) | (refine guardD_dec (fun _ => ?_) (fun _ => ?_)) | (refine guardD_of (fun _ => ?_) (fun _ => ?_))) <;> (try simp -implicitDefEqProofs (maxSteps := 100000) (disch := first | (intros; contradiction) | omega) only [am0, am1, am2, am3, am4, am5, am6, am7, am8, am9, Nat.reduceSub, ↓reduceIte, reduceCtorEq, Nat.reduceEqDiff, Nat.reduceBEq, Nat.reduceAdd, Nat.reduceLT, Nat.reduceBNe, Nat.reduceMul, ↓reduceIte, tis]))))
  all_goals (simp_all [kidsN])
/-- impl.copied of spans -/
theorem fits_copiedSpan (p : List Span) (hp : p.length ≤ 1099511627776) : Fits prog 141 [.sl false 2 (p.map eSpan)] (.sl true 2 (p.map eSpan)) [] := by
  refine fits_of_code [2] [] [0, 2, 3, 6] func141 rfl rfl rfl (by rfl) (by show 1 ≤ 14; decide) (by rfl) (by rfl) (by show 0 ≤ 1; decide) (by rfl) (run_of ?_)
  cases p with
  | nil => simp -implicitDefEqProofs (maxSteps := 100000) (disch := first | (intros; contradiction) | omega) only [am0, am1, am2, am3, am4, am5, am6, am7, am8, am9, Nat.reduceSub, ↓reduceIte, reduceCtorEq, Nat.reduceEqDiff, Nat.reduceBEq, Nat.reduceAdd, Nat.reduceLT, Nat.reduceBNe, Nat.reduceMul, ↓reduceIte, tis]
  | cons x r =>
    have hl : ((x :: r).length : Int) ≠ 0 := by simp; omega
    generalize (x :: r) = p at *
    simp -implicitDefEqProofs (maxSteps := 100000) (disch := first | (intros; contradiction) | omega) only [am0, am1, am2, am3, am4, am5, am6, am7, am8, am9, Nat.reduceSub, ↓reduceIte, reduceCtorEq, Nat.reduceEqDiff, Nat.reduceBEq, Nat.reduceAdd, Nat.reduceLT, Nat.reduceBNe, Nat.reduceMul, ↓reduceIte, tis]
    simp -implicitDefEqProofs (maxSteps := 100000) (disch := first | (intros; contradiction) | omega) only [am0, am1, am2, am3, am4, am5, am6, am7, am8, am9, Nat.reduceSub, ↓reduceIte, reduceCtorEq, Nat.reduceEqDiff, Nat.reduceBEq, Nat.reduceAdd, Nat.reduceLT, Nat.reduceBNe, Nat.reduceMul, ↓reduceIte, tis, List.length_replicate, fls]
    simp [List.take_of_length_le]
/-- One byte more. -/
def spStep (bs : List Bool) (o : List Span) (b : Nat) : List Span :=
  if bs.getD b false = true then (if 0 < b ∧ bs.getD (b - 1) false = true then o.set (o.length - 1) ⟨(o.getD (o.length - 1) default).lo, b⟩ else o ++ [⟨b, b⟩]) else o
def spN (bs : List Bool) : Nat → List Span
  | 0 => []
  | b + 1 => spStep bs (spN bs b) b
def spansL (bs : List Bool) : List Span := spN bs 256
theorem spN_len (bs : List Bool) : ∀ b, (spN bs b).length ≤ b
  | 0 => by simp [spN]
  | b + 1 => by
    have := spN_len bs b
    simp only [spN, spStep]
    split
    · split
      · simp; omega
      · simp; omega
    · omega
/-- The last of the spans. -/
theorem spN_last (bs : List Bool) : ∀ b, (∀ x, (spN bs b)[(spN bs b).length - 1]? = some x → x.hi < b) ∧ ((0 < b ∧ bs.getD (b - 1) false = true) ↔ ∃ x, (spN bs b)[(spN bs b).length - 1]? = some x ∧ x.hi = (b : Int) - 1)
  | 0 => by simp [spN]
  | b + 1 => by
    obtain ⟨h1, h2⟩ := spN_last bs b
    simp only [spN, spStep]
    generalize spN bs b = o at *
    by_cases hb : bs.getD b false = true
    · rw [if_pos hb]
      have fin : ∀ x : Span, x.hi = b → ∀ q : List Span, q[q.length - 1]? = some x → (∀ y, q[q.length - 1]? = some y → y.hi < ((b + 1 : Nat) : Int)) ∧ ((0 < b + 1 ∧ bs.getD (b + 1 - 1) false = true) ↔ ∃ y, q[q.length - 1]? = some y ∧ y.hi = ((b + 1 : Nat) : Int) - 1) := by
        intro x hx q hq
        rw [hq]
        refine ⟨?_, fun _ => ⟨x, rfl, by omega⟩, fun _ => ⟨by omega, by simpa using hb⟩⟩
        rintro y ⟨⟩
        omega
      by_cases hp : 0 < b ∧ bs.getD (b - 1) false = true
      · rw [if_pos hp]
        obtain ⟨x, hx, _⟩ := h2.1 hp
        have := (List.getElem?_eq_some_iff.1 hx).1
        exact fin ⟨(o.getD (o.length - 1) default).lo, b⟩ rfl _ (by simp [this])
      · rw [if_neg hp]
        exact fin ⟨b, b⟩ rfl _ (by simp)
    · rw [if_neg hb]
      refine ⟨fun x h => by have := h1 x h; omega, fun h => ?_, fun ⟨x, h, e⟩ => ?_⟩
      · exact absurd (by simpa using h.2) hb
      · have := h1 x h; omega
theorem spN_hi {bs : List Bool} {b : Nat} (ho : 0 < (spN bs b).length) : ((spN bs b)[(spN bs b).length - 1]'(by omega)).hi = (b : Int) - 1 ↔ (0 < b ∧ bs.getD (b - 1) false = true) := by
  rw [(spN_last bs b).2]
  have : (spN bs b).length - 1 < (spN bs b).length := by omega
  rw [List.getElem?_eq_getElem this]
  constructor
  · intro h; exact ⟨_, rfl, h⟩
  · rintro ⟨x, ⟨⟩, h⟩; exact h
theorem spN_pos {bs : List Bool} {b : Nat} (h : 0 < b ∧ bs.getD (b - 1) false = true) : 0 < (spN bs b).length := by
  obtain ⟨x, h, _⟩ := (spN_last bs b).2.1 h
  have := (List.getElem?_eq_some_iff.1 h).1
  omega
theorem spStep_0 {bs : List Bool} {o : List Span} {b : Nat} (h : b < bs.length) (hb : bs[b] = false) : spStep bs o b = o := by
  unfold spStep; rw [if_neg (by simp [h, hb])]
theorem spStep_1 {bs : List Bool} {o : List Span} {b : Nat} (h : b < bs.length) (hb : bs[b] = true) (h0 : 0 < b) (h1 : bs[b - 1]'(by omega) = true) (ho : 0 < o.length) : spStep bs o b = o.set (o.length - 1) ⟨o[o.length - 1].lo, b⟩ := by
  have : b - 1 < bs.length := by omega
  unfold spStep; rw [if_pos (by simp [h, hb]), if_pos ⟨h0, by simp [this, h1]⟩]
  have h2 : o.length - 1 < o.length := by omega
  simp [h2]
theorem spStep_2 {bs : List Bool} {o : List Span} {b : Nat} (h : b < bs.length) (hb : bs[b] = true) (h1 : b = 0 ∨ ∃ h0 : 0 < b, bs[b - 1]'(by omega) = false) : spStep bs o b = o ++ [⟨b, b⟩] := by
  unfold spStep; rw [if_pos (by simp [h, hb]), if_neg]
  rintro ⟨h2, h3⟩
  rcases h1 with rfl | ⟨_, h1⟩
  · omega
  · have : b - 1 < bs.length := by omega
    simp [this, h1] at h3
theorem setSpan (o : List Span) (i : Nat) (x : Span) : (o.map eSpan).set i (eSpan x) = (o.set i x).map eSpan := by rw [List.map_set]
/-- impl.spans -/
theorem fits_spans (bs : List Bool) (hl : bs.length = 256) : Fits prog 150 [.arr 1 (bs.map eBool)] (.sl true 2 ((spansL bs).map eSpan)) [] := by
  have hL := spN_len bs
  have cC := fits_copiedSpan (spansL bs) (Nat.le_trans (hL 256) (by omega))
  have bl : ∀ x, x ∈ List.map eBool bs → false = x.isAgg ∧ x.stor = true := by
    intro x hx; obtain ⟨y, _, rfl⟩ := List.mem_map.1 hx; exact ⟨rfl, rfl⟩
  refine fits_of_code [2] [] [0, 1, 2, 3, 4, 5, 6, 7, 8, 17, 20] func150 rfl rfl rfl (by rfl) (by show 1 ≤ 39; decide) (by rfl) (by rfl) (by show 0 ≤ 1; decide) (by rfl) (run_of ?_)
  simp -implicitDefEqProofs (maxSteps := 100000) (disch := first | (intros; contradiction) | omega) only [am0, am1, am2, am3, am4, am5, am6, am7, am8, am9, Nat.reduceSub, ↓reduceIte, reduceCtorEq, Nat.reduceEqDiff, Nat.reduceBEq, Nat.reduceAdd, Nat.reduceLT, Nat.reduceBNe, Nat.reduceMul, ↓reduceIte, tis, fls, hl]
  refine run_loop (α := Nat) (fun i => i ≤ 256) (fun i => [(1, .box (.arr 1 (bs.map eBool))), (3, .sl true 2 ((spN bs i).map eSpan)), (6, .arr 1 (bs.map eBool)), (7, .int .i64 i)]) (fun i => 256 - i) 0 (Nat.zero_le _) ?_ ?_
  · simp -implicitDefEqProofs (maxSteps := 100000) (disch := first | (intros; contradiction) | omega) only [am0, am1, am2, am3, am4, am5, am6, am7, am8, am9, Nat.reduceSub, ↓reduceIte, reduceCtorEq, Nat.reduceEqDiff, Nat.reduceBEq, Nat.reduceAdd, Nat.reduceLT, Nat.reduceBNe, Nat.reduceMul, ↓reduceIte, tis, spN]
  · intro i hi'
    by_cases hi : i < 256
    · have hL := hL i
      have hib : i < bs.length := by omega
      cases hb : bs[i] with
      | false =>
        simp -implicitDefEqProofs (maxSteps := 100000) (disch := first | (intros; contradiction) | omega) only [am0, am1, am2, am3, am4, am5, am6, am7, am8, am9, Nat.reduceSub, ↓reduceIte, reduceCtorEq, Nat.reduceEqDiff, Nat.reduceBEq, Nat.reduceAdd, Nat.reduceLT, Nat.reduceBNe, Nat.reduceMul, ↓reduceIte, tis, fls, hl, eBool, hb]
        refine ⟨bl, ?_⟩
        refine round_normal (i + 1) (by omega) (by simp -implicitDefEqProofs (maxSteps := 100000) (disch := first | (intros; contradiction) | omega) only [am0, am1, am2, am3, am4, am5, am6, am7, am8, am9, Nat.reduceSub, ↓reduceIte, reduceCtorEq, Nat.reduceEqDiff, Nat.reduceBEq, Nat.reduceAdd, Nat.reduceLT, Nat.reduceBNe, Nat.reduceMul, ↓reduceIte, tis, spN, spStep_0 hib hb]) (by show 256 - (i + 1) < 256 - i; omega)
      | true =>
        by_cases h0 : 0 < i
        · have hib1 : i - 1 < bs.length := by omega
          have ei : ((i : Int) - 1).toNat = i - 1 := by omega
          cases h1 : bs[i - 1] with
          | true =>
            have ho := spN_pos (bs := bs) ⟨h0, by simp [hib1, h1]⟩
            have eo : (((spN bs i).length : Int) - 1).toNat = (spN bs i).length - 1 := by omega
            have es := setSpan (spN bs i) ((spN bs i).length - 1) ⟨(spN bs i)[(spN bs i).length - 1].lo, i⟩
            have e := spStep_1 (o := spN bs i) hib hb h0 h1 ho
            simp only [eSpan] at es
            simp -implicitDefEqProofs (maxSteps := 100000) (disch := first | (intros; contradiction) | omega) only [am0, am1, am2, am3, am4, am5, am6, am7, am8, am9, Nat.reduceSub, ↓reduceIte, reduceCtorEq, Nat.reduceEqDiff, Nat.reduceBEq, Nat.reduceAdd, Nat.reduceLT, Nat.reduceBNe, Nat.reduceMul, ↓reduceIte, tis, fls, hl, eBool, hb, ei, h1, eo, eSpan, es]
            refine ⟨bl, ?_⟩
            refine round_normal (i + 1) (by omega) (by simp -implicitDefEqProofs (maxSteps := 100000) (disch := first | (intros; contradiction) | omega) only [am0, am1, am2, am3, am4, am5, am6, am7, am8, am9, Nat.reduceSub, ↓reduceIte, reduceCtorEq, Nat.reduceEqDiff, Nat.reduceBEq, Nat.reduceAdd, Nat.reduceLT, Nat.reduceBNe, Nat.reduceMul, ↓reduceIte, tis, spN, e]) (by show 256 - (i + 1) < 256 - i; omega)
          | false =>
            have e := spStep_2 (o := spN bs i) hib hb (.inr ⟨h0, h1⟩)
            simp -implicitDefEqProofs (maxSteps := 100000) (disch := first | (intros; contradiction) | omega) only [am0, am1, am2, am3, am4, am5, am6, am7, am8, am9, Nat.reduceSub, ↓reduceIte, reduceCtorEq, Nat.reduceEqDiff, Nat.reduceBEq, Nat.reduceAdd, Nat.reduceLT, Nat.reduceBNe, Nat.reduceMul, ↓reduceIte, tis, fls, hl, eBool, hb, ei, h1]
            refine ⟨bl, ?_⟩
            refine round_normal (i + 1) (by omega) (by simp -implicitDefEqProofs (maxSteps := 100000) (disch := first | (intros; contradiction) | omega) only [am0, am1, am2, am3, am4, am5, am6, am7, am8, am9, Nat.reduceSub, ↓reduceIte, reduceCtorEq, Nat.reduceEqDiff, Nat.reduceBEq, Nat.reduceAdd, Nat.reduceLT, Nat.reduceBNe, Nat.reduceMul, ↓reduceIte, tis, spN, e, eSpan, List.map_append, List.map_cons, List.map_nil]) (by show 256 - (i + 1) < 256 - i; omega)
        · have e := spStep_2 (o := spN bs i) hib hb (.inl (by omega))
          simp -implicitDefEqProofs (maxSteps := 100000) (disch := first | (intros; contradiction) | omega) only [am0, am1, am2, am3, am4, am5, am6, am7, am8, am9, Nat.reduceSub, ↓reduceIte, reduceCtorEq, Nat.reduceEqDiff, Nat.reduceBEq, Nat.reduceAdd, Nat.reduceLT, Nat.reduceBNe, Nat.reduceMul, ↓reduceIte, tis, fls, hl, eBool, hb]
          refine ⟨bl, ?_⟩
          refine round_normal (i + 1) (by omega) (by simp -implicitDefEqProofs (maxSteps := 100000) (disch := first | (intros; contradiction) | omega) only [am0, am1, am2, am3, am4, am5, am6, am7, am8, am9, Nat.reduceSub, ↓reduceIte, reduceCtorEq, Nat.reduceEqDiff, Nat.reduceBEq, Nat.reduceAdd, Nat.reduceLT, Nat.reduceBNe, Nat.reduceMul, ↓reduceIte, tis, spN, e, eSpan, List.map_append, List.map_cons, List.map_nil]) (by show 256 - (i + 1) < 256 - i; omega)
    · obtain rfl : i = 256 := by omega
      simp -implicitDefEqProofs (maxSteps := 100000) (disch := first | (intros; contradiction) | omega) only [am0, am1, am2, am3, am4, am5, am6, am7, am8, am9, Nat.reduceSub, ↓reduceIte, reduceCtorEq, Nat.reduceEqDiff, Nat.reduceBEq, Nat.reduceAdd, Nat.reduceLT, Nat.reduceBNe, Nat.reduceMul, ↓reduceIte, tis, fls]
      refine callB cC ?_
      simp -implicitDefEqProofs (maxSteps := 100000) (disch := first | (intros; contradiction) | omega) only [am0, am1, am2, am3, am4, am5, am6, am7, am8, am9, Nat.reduceSub, ↓reduceIte, reduceCtorEq, Nat.reduceEqDiff, Nat.reduceBEq, Nat.reduceAdd, Nat.reduceLT, Nat.reduceBNe, Nat.reduceMul, ↓reduceIte, tis, fls, spansL]
/-- spec.l1Of -/
theorem fits_l1Of (bs : List Bool) (hl : bs.length = 256) : Fits prog 164 [.sl false 1 (bs.map eBool)] (.sl true 2 ((spansL bs).map eSpan)) [] := by
  refine fits_of_code [2] [] [0, 2, 3, 4, 7, 14, 29] func164 rfl rfl rfl (by rfl) (by show 1 ≤ 44; decide) (by rfl) (by rfl) (by show 0 ≤ 1; decide) (by rfl) (run_of ?_)
  simp -implicitDefEqProofs (maxSteps := 100000) (disch := first | (intros; contradiction) | omega) only [am0, am1, am2, am3, am4, am5, am6, am7, am8, am9, Nat.reduceSub, ↓reduceIte, reduceCtorEq, Nat.reduceEqDiff, Nat.reduceBEq, Nat.reduceAdd, Nat.reduceLT, Nat.reduceBNe, Nat.reduceMul, ↓reduceIte, tis, fls]
  refine run_loop (α := Nat) (fun i => i ≤ 256) (fun i => [(0, .sl false 1 (bs.map eBool)), (3, .sl true 2 ((spN bs i).map eSpan)), (4, .int .i64 i)]) (fun i => 256 - i) 0 (Nat.zero_le _) ?_ ?_
  · simp -implicitDefEqProofs (maxSteps := 100000) (disch := first | (intros; contradiction) | omega) only [am0, am1, am2, am3, am4, am5, am6, am7, am8, am9, Nat.reduceSub, ↓reduceIte, reduceCtorEq, Nat.reduceEqDiff, Nat.reduceBEq, Nat.reduceAdd, Nat.reduceLT, Nat.reduceBNe, Nat.reduceMul, ↓reduceIte, tis, spN]
  · intro i hi'
    by_cases hi : i < 256
    · have hL := spN_len bs i
      have hib : i < bs.length := by omega
      cases hb : bs[i] with
      | false =>
        simp -implicitDefEqProofs (maxSteps := 100000) (disch := first | (intros; contradiction) | omega) only [am0, am1, am2, am3, am4, am5, am6, am7, am8, am9, Nat.reduceSub, ↓reduceIte, reduceCtorEq, Nat.reduceEqDiff, Nat.reduceBEq, Nat.reduceAdd, Nat.reduceLT, Nat.reduceBNe, Nat.reduceMul, ↓reduceIte, tis, fls, hl, eBool, hb]
        refine round_normal (i + 1) (by omega) (by simp -implicitDefEqProofs (maxSteps := 100000) (disch := first | (intros; contradiction) | omega) only [am0, am1, am2, am3, am4, am5, am6, am7, am8, am9, Nat.reduceSub, ↓reduceIte, reduceCtorEq, Nat.reduceEqDiff, Nat.reduceBEq, Nat.reduceAdd, Nat.reduceLT, Nat.reduceBNe, Nat.reduceMul, ↓reduceIte, tis, spN, spStep_0 hib hb]) (by show 256 - (i + 1) < 256 - i; omega)
      | true =>
        by_cases h1 : 0 < i ∧ bs.getD (i - 1) false = true
        · have ho := spN_pos h1
          have h2 := (spN_hi ho).2 h1
          have hib1 : i - 1 < bs.length := by omega
          have eo : (((spN bs i).length : Int) - 1).toNat = (spN bs i).length - 1 := by omega
          have es := setSpan (spN bs i) ((spN bs i).length - 1) ⟨(spN bs i)[(spN bs i).length - 1].lo, i⟩
          have e := spStep_1 (o := spN bs i) hib hb h1.1 (by simpa [hib1] using h1.2) ho
          simp only [eSpan] at es
          simp -implicitDefEqProofs (maxSteps := 100000) (disch := first | (intros; contradiction) | omega) only [am0, am1, am2, am3, am4, am5, am6, am7, am8, am9, Nat.reduceSub, ↓reduceIte, reduceCtorEq, Nat.reduceEqDiff, Nat.reduceBEq, Nat.reduceAdd, Nat.reduceLT, Nat.reduceBNe, Nat.reduceMul, ↓reduceIte, tis, fls, hl, eBool, hb, eo, eSpan, es, h2]
          refine round_normal (i + 1) (by omega) (by simp -implicitDefEqProofs (maxSteps := 100000) (disch := first | (intros; contradiction) | omega) only [am0, am1, am2, am3, am4, am5, am6, am7, am8, am9, Nat.reduceSub, ↓reduceIte, reduceCtorEq, Nat.reduceEqDiff, Nat.reduceBEq, Nat.reduceAdd, Nat.reduceLT, Nat.reduceBNe, Nat.reduceMul, ↓reduceIte, tis, spN, e]) (by show 256 - (i + 1) < 256 - i; omega)
        · have e : spStep bs (spN bs i) i = spN bs i ++ [⟨i, i⟩] := by
            unfold spStep; rw [if_pos (by simp [hib, hb]), if_neg h1]
          by_cases ho : 0 < (spN bs i).length
          · have eo : (((spN bs i).length : Int) - 1).toNat = (spN bs i).length - 1 := by omega
            have h2 : ¬ ((spN bs i)[(spN bs i).length - 1]'(by omega)).hi = (i : Int) - 1 := fun h => h1 ((spN_hi ho).1 h)
            simp -implicitDefEqProofs (maxSteps := 100000) (disch := first | (intros; contradiction) | omega) only [am0, am1, am2, am3, am4, am5, am6, am7, am8, am9, Nat.reduceSub, ↓reduceIte, reduceCtorEq, Nat.reduceEqDiff, Nat.reduceBEq, Nat.reduceAdd, Nat.reduceLT, Nat.reduceBNe, Nat.reduceMul, ↓reduceIte, tis, fls, hl, eBool, hb, eo, eSpan, h2]
            refine round_normal (i + 1) (by omega) (by simp -implicitDefEqProofs (maxSteps := 100000) (disch := first | (intros; contradiction) | omega) only [am0, am1, am2, am3, am4, am5, am6, am7, am8, am9, Nat.reduceSub, ↓reduceIte, reduceCtorEq, Nat.reduceEqDiff, Nat.reduceBEq, Nat.reduceAdd, Nat.reduceLT, Nat.reduceBNe, Nat.reduceMul, ↓reduceIte, tis, spN, e, eSpan, List.map_append, List.map_cons, List.map_nil]) (by show 256 - (i + 1) < 256 - i; omega)
          · simp -implicitDefEqProofs (maxSteps := 100000) (disch := first | (intros; contradiction) | omega) only [am0, am1, am2, am3, am4, am5, am6, am7, am8, am9, Nat.reduceSub, ↓reduceIte, reduceCtorEq, Nat.reduceEqDiff, Nat.reduceBEq, Nat.reduceAdd, Nat.reduceLT, Nat.reduceBNe, Nat.reduceMul, ↓reduceIte, tis, fls, hl, eBool, hb]
            refine round_normal (i + 1) (by omega) (by simp -implicitDefEqProofs (maxSteps := 100000) (disch := first | (intros; contradiction) | omega) only [am0, am1, am2, am3, am4, am5, am6, am7, am8, am9, Nat.reduceSub, ↓reduceIte, reduceCtorEq, Nat.reduceEqDiff, Nat.reduceBEq, Nat.reduceAdd, Nat.reduceLT, Nat.reduceBNe, Nat.reduceMul, ↓reduceIte, tis, spN, e, eSpan, List.map_append, List.map_cons, List.map_nil]) (by show 256 - (i + 1) < 256 - i; omega)
    · obtain rfl : i = 256 := by omega
      simp -implicitDefEqProofs (maxSteps := 100000) (disch := first | (intros; contradiction) | omega) only [am0, am1, am2, am3, am4, am5, am6, am7, am8, am9, Nat.reduceSub, ↓reduceIte, reduceCtorEq, Nat.reduceEqDiff, Nat.reduceBEq, Nat.reduceAdd, Nat.reduceLT, Nat.reduceBNe, Nat.reduceMul, ↓reduceIte, tis, fls, spansL]
/-- Two bytes in each other's place. -/
def swapB (bs : List Bool) (a b : Nat) : List Bool := (bs.set a (bs.getD b false)).set b (bs.getD a false)
theorem swapB_len (bs : List Bool) (a b : Nat) : (swapB bs a b).length = bs.length := by simp [swapB]
theorem setBool (l : List Bool) (i : Nat) (x : Bool) : (l.map eBool).set i (.bool x) = (l.set i x).map eBool := by rw [List.map_set]; rfl
theorem getBool (l : List Bool) (i : Nat) (h : i < l.length) : (l.map eBool)[i]? = some (.bool (l.getD i false)) := by simp [eBool, h, List.getD]
/-- spec.l13Set -/
theorem fits_l13Set (s : List Span) (a b : Nat) (ha : a < 256) (hb : b < 256) (hp : s.length ≤ 1099511627776) : Fits prog 151 [.sl false 2 (s.map eSpan), .int .i64 a, .int .i64 b] (.sl true 2 ((spansL (swapB (bitsL s) a b)).map eSpan)) [] := by
  have hl := bitsL_len s
  have cO := fits_l1Of (swapB (bitsL s) a b) (by rw [swapB_len]; exact hl)
  refine fits_of_code [6] [] [0, 1, 2, 6, 7, 8, 9, 12] func151 rfl rfl rfl (by rfl) (by show 3 ≤ 38; decide) (by rfl) (by rfl) (by show 0 ≤ 3; decide) (by rfl) (run_of ?_)
  simp -implicitDefEqProofs (maxSteps := 100000) (disch := first | (intros; contradiction) | omega) only [am0, am1, am2, am3, am4, am5, am6, am7, am8, am9, Nat.reduceSub, ↓reduceIte, reduceCtorEq, Nat.reduceEqDiff, Nat.reduceBEq, Nat.reduceAdd, Nat.reduceLT, Nat.reduceBNe, Nat.reduceMul, ↓reduceIte, tis]
  refine run_loop (α := Nat) (fun i => i ≤ 256) (fun i => [(0, .sl false 2 (s.map eSpan)), (1, .int .i64 a), (2, .int .i64 b), (7, .sl true 1 (((bitsL s).take i).map eBool ++ List.replicate (256 - i) (.bool false))), (8, .int .i64 i)]) (fun i => 256 - i) 0 (Nat.zero_le _) ?_ ?_
  · simp -implicitDefEqProofs (maxSteps := 100000) (disch := first | (intros; contradiction) | omega) only [am0, am1, am2, am3, am4, am5, am6, am7, am8, am9, Nat.reduceSub, ↓reduceIte, reduceCtorEq, Nat.reduceEqDiff, Nat.reduceBEq, Nat.reduceAdd, Nat.reduceLT, Nat.reduceBNe, Nat.reduceMul, ↓reduceIte, tis, show Int.toNat 256 = 256 from rfl]
  · intro i hi'
    have g1 := build_len eBool (.bool false) (bitsL s) i (by omega)
    rw [hl] at g1
    by_cases hi : i < 256
    · have g2 := build_get eBool (.bool false) (bitsL s) i (by omega)
      have g3 := build_set eBool (.bool false) (bitsL s) i (by omega)
      rw [bitsL_get s i (by omega)] at g3
      rw [hl] at g2 g3
      simp -implicitDefEqProofs (maxSteps := 100000) (disch := first | (intros; contradiction) | omega) only [am0, am1, am2, am3, am4, am5, am6, am7, am8, am9, Nat.reduceSub, ↓reduceIte, reduceCtorEq, Nat.reduceEqDiff, Nat.reduceBEq, Nat.reduceAdd, Nat.reduceLT, Nat.reduceBNe, Nat.reduceMul, ↓reduceIte, tis, fls, g1, g2]
      refine callB (fits_sSetHas s i hp) ?_
      simp -implicitDefEqProofs (maxSteps := 100000) (disch := first | (intros; contradiction) | omega) only [am0, am1, am2, am3, am4, am5, am6, am7, am8, am9, Nat.reduceSub, ↓reduceIte, reduceCtorEq, Nat.reduceEqDiff, Nat.reduceBEq, Nat.reduceAdd, Nat.reduceLT, Nat.reduceBNe, Nat.reduceMul, ↓reduceIte, tis, fls, g1, g2]
      refine round_normal (i + 1) (by omega) ?_ (by show 256 - (i + 1) < 256 - i; omega)
      rw [show AV.bool (hasB s i) = eBool (hasB s i) from rfl, g3]
      simp -implicitDefEqProofs (maxSteps := 100000) (disch := first | (intros; contradiction) | omega) only [am0, am1, am2, am3, am4, am5, am6, am7, am8, am9, Nat.reduceSub, ↓reduceIte, reduceCtorEq, Nat.reduceEqDiff, Nat.reduceBEq, Nat.reduceAdd, Nat.reduceLT, Nat.reduceBNe, Nat.reduceMul, ↓reduceIte, tis]
    · obtain rfl : i = 256 := by omega
      have e : (bitsL s).take 256 = bitsL s := List.take_of_length_le (by omega)
      have e2 : List.replicate (256 - 256) (AV.bool false) = [] := rfl
      have g4 : ∀ x, (((bitsL s).map eBool).set a x).length = 256 := fun x => by simp [hl]
      have g5 : ((bitsL s).map eBool).length = 256 := by simp [hl]
      have ga := getBool (bitsL s) a (by omega)
      have gb := getBool (bitsL s) b (by omega)
      have gc := getBool ((bitsL s).set a ((bitsL s).getD b false)) b (by simp [hl]; omega)
      simp -implicitDefEqProofs (maxSteps := 100000) (disch := first | (intros; contradiction) | omega) only [am0, am1, am2, am3, am4, am5, am6, am7, am8, am9, Nat.reduceSub, ↓reduceIte, reduceCtorEq, Nat.reduceEqDiff, Nat.reduceBEq, Nat.reduceAdd, Nat.reduceLT, Nat.reduceBNe, Nat.reduceMul, ↓reduceIte, tis, e, e2, fls, List.append_nil, g5, ga, gb, setBool, gc, List.length_map, List.length_set, hl]
      unfold swapB at cO
      refine callB cO ?_
      simp -implicitDefEqProofs (maxSteps := 100000) (disch := first | (intros; contradiction) | omega) only [am0, am1, am2, am3, am4, am5, am6, am7, am8, am9, Nat.reduceSub, ↓reduceIte, reduceCtorEq, Nat.reduceEqDiff, Nat.reduceBEq, Nat.reduceAdd, Nat.reduceLT, Nat.reduceBNe, Nat.reduceMul, ↓reduceIte, tis, fls, swapB]
/-! Spans in order are what their bytes make. -/
/-- Spans in order, all from lo on. -/
def Can (lo : Int) : List Span → Prop
  | [] => True
  | x :: l => lo ≤ x.lo ∧ x.lo ≤ x.hi ∧ Can (x.hi + 2) l
def nxt (lo : Int) : List Span → Int
  | [] => lo
  | x :: l => nxt (x.hi + 2) l
theorem can_app : ∀ (l : List Span) (lo : Int) (m : List Span), Can lo (l ++ m) ↔ Can lo l ∧ Can (nxt lo l) m
  | [], lo, m => by simp [Can, nxt]
  | x :: l, lo, m => by simp only [List.cons_append, Can, nxt, can_app l (x.hi + 2) m, and_assoc]
theorem nxt_app : ∀ (l : List Span) (lo : Int) (x : Span), nxt lo (l ++ [x]) = x.hi + 2
  | [], lo, x => rfl
  | y :: l, lo, x => nxt_app l _ x
theorem can_lo {lo lo' : Int} (h : lo' ≤ lo) : ∀ {l : List Span}, Can lo l → Can lo' l
  | [], _ => trivial
  | x :: l, ⟨h1, h2, h3⟩ => ⟨by omega, h2, h3⟩
theorem can_mem : ∀ {l : List Span} {lo : Int}, Can lo l → ∀ x ∈ l, lo ≤ x.lo ∧ x.lo ≤ x.hi
  | x :: l, lo, ⟨h1, h2, h3⟩, y, hy => by
    rcases List.mem_cons.1 hy with rfl | hy
    · exact ⟨h1, h2⟩
    · have := can_mem h3 y hy
      exact ⟨by omega, this.2⟩
theorem hasB_cons (x : Span) (l : List Span) (b : Int) : hasB (x :: l) b = (decide (x.lo ≤ b ∧ b ≤ x.hi) || hasB l b) := by simp [hasB]
theorem hasB_app (l m : List Span) (b : Int) : hasB (l ++ m) b = (hasB l b || hasB m b) := by simp [hasB]
theorem can_has {l : List Span} {lo b : Int} (h : Can lo l) (hb : hasB l b = true) : lo ≤ b := by
  unfold hasB at hb
  rw [List.any_eq_true] at hb
  obtain ⟨x, hx, hh⟩ := hb
  have := can_mem h x hx
  simp only [decide_eq_true_eq] at hh
  omega
theorem can_same : ∀ {l m : List Span} {lo : Int}, Can lo l → Can lo m → (∀ b, lo ≤ b → hasB l b = hasB m b) → l = m
  | [], [], _, _, _, _ => rfl
  | [], y :: m, lo, _, ⟨h1, h2, h3⟩, h => by
    have := h y.lo h1
    rw [hasB_cons, decide_eq_true (by omega)] at this
    simp [hasB] at this
  | x :: l, [], lo, ⟨h1, h2, h3⟩, _, h => by
    have := h x.lo h1
    rw [hasB_cons, decide_eq_true (by omega)] at this
    simp [hasB] at this
  | x :: l, y :: m, lo, ⟨h1, h2, h3⟩, ⟨g1, g2, g3⟩, h => by
    have ge : ∀ {z : Span} {n : List Span}, Can (z.hi + 2) n → ∀ b, b < z.hi + 2 → hasB n b = false := by
      intro z n hn b hb
      cases hh : hasB n b with
      | false => rfl
      | true => have := can_has hn hh; omega
    have e1 : x.lo = y.lo := by
      rcases Int.lt_trichotomy x.lo y.lo with hl | hl | hl
      · have := h x.lo h1
        rw [hasB_cons, hasB_cons, decide_eq_true (by omega), decide_eq_false (by omega), ge g3 x.lo (by omega)] at this
        simp at this
      · exact hl
      · have := h y.lo g1
        rw [hasB_cons, hasB_cons, decide_eq_false (by omega), decide_eq_true (by omega), ge h3 y.lo (by omega)] at this
        simp at this
    have e2 : x.hi = y.hi := by
      rcases Int.lt_trichotomy x.hi y.hi with hl | hl | hl
      · have := h (x.hi + 1) (by omega)
        rw [hasB_cons, hasB_cons, decide_eq_false (by omega), decide_eq_true (by omega), ge h3 (x.hi + 1) (by omega)] at this
        simp at this
      · exact hl
      · have := h (y.hi + 1) (by omega)
        rw [hasB_cons, hasB_cons, decide_eq_true (by omega), decide_eq_false (by omega), ge g3 (y.hi + 1) (by omega)] at this
        simp at this
    have e : x = y := by cases x; cases y; simp only at e1 e2; rw [e1, e2]
    subst e
    rw [can_same h3 g3 fun b hb => ?_]
    have := h b (by omega)
    rwa [hasB_cons, hasB_cons, decide_eq_false (by omega), Bool.false_or, Bool.false_or] at this
/-- Right sets are spans in order. -/
theorem setB_at {s : List Span} (h : setB s = true) (i : Nat) (hi : i < s.length) : (0 ≤ s[i].lo ∧ s[i].lo ≤ s[i].hi ∧ s[i].hi ≤ 255) ∧ (∀ h0 : i ≠ 0, (s[i - 1]'(by omega)).hi + 1 < s[i].lo) := by
  unfold setB at h
  rw [List.all_eq_true] at h
  have := h i (by simpa using hi)
  refine ⟨setN_b hi this, fun h0 => ?_⟩
  rw [setN_1 hi h0] at this
  simp only [Bool.and_eq_true, decide_eq_true_eq] at this
  exact this.2
theorem can_of_at : ∀ (s : List Span) (lo : Int), (∀ i (hi : i < s.length), s[i].lo ≤ s[i].hi) → (∀ h : 0 < s.length, lo ≤ s[0].lo) → (∀ i (hi : i + 1 < s.length), s[i].hi + 1 < s[i + 1].lo) → Can lo s
  | [], _, _, _, _ => trivial
  | x :: l, lo, h1, h2, h3 => ⟨h2 (by simp), h1 0 (by simp), can_of_at l _ (fun i hi => h1 (i + 1) (by simpa using hi)) (fun h => by have := h3 0 (by simpa using h); simp only [List.getElem_cons_zero, List.getElem_cons_succ] at this; omega) (fun i hi => h3 (i + 1) (by simpa using hi))⟩
theorem can_at : ∀ {s : List Span} {lo : Int}, Can lo s → (∀ i (hi : i + 1 < s.length), s[i].hi + 1 < s[i + 1].lo)
  | x :: y :: l, lo, ⟨_, _, h3⟩, 0, _ => by have := h3.1; simp only [List.getElem_cons_zero, List.getElem_cons_succ]; omega
  | x :: l, lo, ⟨_, _, h3⟩, i + 1, hi => by
    have := can_at h3 i (by simpa using hi)
    simpa using this
theorem setB_can {s : List Span} (h : setB s = true) : Can 0 s :=
  can_of_at s 0 (fun i hi => (setB_at h i hi).1.2.1) (fun hl => (setB_at h 0 hl).1.1) (fun i hi => (setB_at h (i + 1) hi).2 (by omega))
theorem can_setB {s : List Span} (h : Can 0 s) (hh : ∀ x ∈ s, x.hi ≤ 255) : setB s = true := by
  apply setB_true
  intro i hi
  have hm := can_mem h s[i] (List.getElem_mem hi)
  have h2 := hh s[i] (List.getElem_mem hi)
  by_cases h0 : i = 0
  · rw [setN_0 hi h0, decide_eq_true (by omega)]
  · have := can_at h (i - 1) (by omega)
    simp only [show i - 1 + 1 = i by omega] at this
    rw [setN_1 hi h0, decide_eq_true (by omega), decide_eq_true this]; rfl
theorem snoc_of {l : List Span} (h : 0 < l.length) : ∃ m x, l = m ++ [x] := ⟨l.dropLast, l.getLast (by intro e; simp [e] at h), (List.dropLast_concat_getLast _).symm⟩
/-- What the spans of marked bytes are. -/
theorem spN_is (bs : List Bool) : ∀ b : Nat, Can 0 (spN bs b) ∧ nxt 0 (spN bs b) ≤ b + 1 ∧ ∀ i : Nat, hasB (spN bs b) i = (decide (i < b) && bs.getD i false)
  | 0 => ⟨trivial, by simp [spN, nxt], fun i => by simp [spN, hasB]⟩
  | b + 1 => by
    obtain ⟨h1, h2, h3⟩ := spN_is bs b
    obtain ⟨l1, l2⟩ := spN_last bs b
    simp only [spN, spStep]
    by_cases hb : bs.getD b false = true
    · rw [if_pos hb]
      have dec : ∀ i : Nat, (decide (i < b + 1) && bs.getD i false) = (decide (i = b) || (decide (i < b) && bs.getD i false)) := by
        intro i
        rcases Nat.lt_trichotomy i b with h | h | h
        · simp [h, show i < b + 1 by omega, show i ≠ b by omega]
        · subst h; simpa using hb
        · simp [show ¬ i < b by omega, show ¬ i < b + 1 by omega, show i ≠ b by omega]
      by_cases hp : 0 < b ∧ bs.getD (b - 1) false = true
      · rw [if_pos hp]
        obtain ⟨x, hx, hxh⟩ := l2.1 hp
        obtain ⟨m, y, hm⟩ := snoc_of (spN_pos hp)
        rw [hm] at h1 h2 h3 hx
        have hxy : y = x := by simpa using hx
        subst hxy
        rw [hm]
        have e : (m ++ [y]).set ((m ++ [y]).length - 1) ⟨((m ++ [y]).getD ((m ++ [y]).length - 1) default).lo, b⟩ = m ++ [⟨y.lo, b⟩] := by
          simp
        rw [e]
        have hc := (can_app m 0 [y]).1 h1
        refine ⟨(can_app m 0 _).2 ⟨hc.1, hc.2.1, ?_, trivial⟩, ?_, fun i => ?_⟩
        · have := hc.2.2.1; show y.lo ≤ (b : Int); omega
        · rw [nxt_app]; show (b : Int) + 2 ≤ _; omega
        · have h3i := h3 i
          rw [hasB_app, hasB_cons] at h3i ⊢
          have hn : hasB [] (i : Int) = false := rfl
          rw [hn, Bool.or_false] at h3i ⊢
          rw [dec, ← h3i]
          have := hc.2.2.1
          by_cases hi : i = b
          · subst hi
            rw [decide_eq_true (show y.lo ≤ ((i : Nat) : Int) ∧ ((i : Nat) : Int) ≤ ((i : Nat) : Int) by omega)]; simp
          · rw [decide_eq_false hi, Bool.false_or]
            congr 1
            rw [decide_eq_decide]
            show (y.lo ≤ (i : Int) ∧ (i : Int) ≤ (b : Int)) ↔ (y.lo ≤ (i : Int) ∧ (i : Int) ≤ y.hi)
            omega
      · rw [if_neg hp]
        refine ⟨(can_app _ 0 _).2 ⟨h1, ?_, Int.le_refl _, trivial⟩, ?_, fun i => ?_⟩
        · show nxt 0 (spN bs b) ≤ (b : Int)
          rcases Nat.eq_zero_or_pos (spN bs b).length with h0 | h0
          · rw [List.eq_nil_of_length_eq_zero h0]; show (0 : Int) ≤ b; omega
          · obtain ⟨m, y, hm⟩ := snoc_of h0
            have hy : y.hi ≠ (b : Int) - 1 := fun hy => hp (l2.2 ⟨y, by rw [hm]; simp, hy⟩)
            rw [hm, nxt_app] at h2 ⊢
            omega
        · rw [nxt_app]; show (b : Int) + 2 ≤ _; omega
        · rw [hasB_app, h3 i, dec, hasB_cons]
          have hn : hasB [] (i : Int) = false := rfl
          rw [hn, Bool.or_false, Bool.or_comm]
          congr 1
          rw [decide_eq_decide]
          show ((b : Int) ≤ (i : Int) ∧ (i : Int) ≤ (b : Int)) ↔ i = b
          omega
    · rw [if_neg hb]
      refine ⟨h1, by omega, fun i => ?_⟩
      rw [h3 i]
      by_cases hi : i = b
      · subst hi
        have : bs.getD i false = false := by simpa using hb
        rw [this, Bool.and_false, Bool.and_false]
      · congr 1
        rw [decide_eq_decide]; omega
theorem spansL_has {bs : List Bool} (hl : bs.length = 256) (i : Nat) : hasB (spansL bs) i = bs.getD i false := by
  unfold spansL
  rw [(spN_is bs 256).2.2 i]
  by_cases h : i < 256
  · rw [decide_eq_true h, Bool.true_and]
  · rw [decide_eq_false h, Bool.false_and]
    simp [List.getD, List.getElem?_eq_none (show bs.length ≤ i by omega)]
theorem spN_hi255 (bs : List Bool) : ∀ b : Nat, ∀ x ∈ spN bs b, x.hi < b
  | 0, x, h => by simp [spN] at h
  | b + 1, x, h => by
    have ih := spN_hi255 bs b
    simp only [spN, spStep] at h
    split at h
    · split at h
      · rcases List.mem_or_eq_of_mem_set h with h | h
        · have := ih x h; omega
        · subst h; show (b : Int) < _; omega
      · rcases List.mem_append.1 h with h | h
        · have := ih x h; omega
        · rw [List.mem_singleton] at h; subst h; show (b : Int) < _; omega
    · have := ih x h; omega
theorem setB_spansL (bs : List Bool) : setB (spansL bs) = true := can_setB (spN_is bs 256).1 (fun x hx => by have := spN_hi255 bs 256 x hx; omega)
theorem bits_spans {bs : List Bool} (hl : bs.length = 256) : bitsL (spansL bs) = bs := by
  apply List.ext_getElem
  · rw [bitsL_len, hl]
  · intro i h1 h2
    rw [bitsL_get, spansL_has hl]
    simp [h2]
theorem bitsL_getD (s : List Span) (i : Nat) (h : i < 256) : (bitsL s).getD i false = hasB s i := by
  have h2 : i < (bitsL s).length := by rw [bitsL_len]; exact h
  have := bitsL_get s i h2
  simp [List.getD, h2, this]
theorem spans_bits {s : List Span} (h : setB s = true) : spansL (bitsL s) = s := by
  have hc := setB_can h
  have hd : Can 0 (spansL (bitsL s)) := (spN_is (bitsL s) 256).1
  refine can_same hd hc fun b hb => ?_
  obtain ⟨n, rfl⟩ : ∃ n : Nat, b = n := ⟨b.toNat, by omega⟩
  rw [spansL_has (bitsL_len s)]
  by_cases hn : n < 256
  · exact bitsL_getD s n hn
  · have e1 : (bitsL s).getD n false = false := by
      have := bitsL_len s
      simp [List.getD, List.getElem?_eq_none (show (bitsL s).length ≤ n by omega)]
    rw [e1]
    symm
    refine hasB_f fun i hi => ?_
    have := (setB_at h i hi).1
    omega
/-- spec.SetOk -/
theorem fits_sSetOk (s : List Span) (hp : s.length ≤ 1099511627776) : Fits prog 144 [.sl false 2 (s.map eSpan)] (.bool (setB s)) [] := by
  refine fits_of_code [2] [] [0, 2, 3, 7, 55] func144 rfl rfl rfl (by rfl) (by show 1 ≤ 56; decide) (by rfl) (by rfl) (by show 0 ≤ 1; decide) (by rfl) (run_of ?_)
  simp -implicitDefEqProofs (maxSteps := 100000) (disch := first | (intros; contradiction) | omega) only [am0, am1, am2, am3, am4, am5, am6, am7, am8, am9, Nat.reduceSub, ↓reduceIte, reduceCtorEq, Nat.reduceEqDiff, Nat.reduceBEq, Nat.reduceAdd, Nat.reduceLT, Nat.reduceBNe, Nat.reduceMul, ↓reduceIte, tis]
  refine run_loop (α := Nat) (fun i => i ≤ s.length ∧ ∀ j, j < i → setN s j = true) (fun i => [(0, .sl false 2 (s.map eSpan)), (3, .int .i64 i)]) (fun i => s.length - i) 0 ⟨Nat.zero_le _, by simp⟩ ?_ ?_
  · simp -implicitDefEqProofs (maxSteps := 100000) (disch := first | (intros; contradiction) | omega) only [am0, am1, am2, am3, am4, am5, am6, am7, am8, am9, Nat.reduceSub, ↓reduceIte, reduceCtorEq, Nat.reduceEqDiff, Nat.reduceBEq, Nat.reduceAdd, Nat.reduceLT, Nat.reduceBNe, Nat.reduceMul, ↓reduceIte, tis]
  · rintro i ⟨hi', hb⟩
    by_cases hi : i < s.length
    · have next : setN s i = true → ∀ j, j < i + 1 → setN s j = true := by
        intro h5 j hj
        by_cases hji : j < i
        · exact hb j hji
        · obtain rfl : j = i := by omega
          exact h5
      by_cases h0 : i = 0
      · have e := setN_0 hi h0
        by_cases h1 : 0 ≤ s[i].lo ∧ s[i].lo ≤ s[i].hi ∧ s[i].hi ≤ 255
        · rw [decide_eq_true h1] at e
          simp -implicitDefEqProofs (maxSteps := 100000) (disch := first | (intros; contradiction) | omega) only [am0, am1, am2, am3, am4, am5, am6, am7, am8, am9, Nat.reduceSub, ↓reduceIte, reduceCtorEq, Nat.reduceEqDiff, Nat.reduceBEq, Nat.reduceAdd, Nat.reduceLT, Nat.reduceBNe, Nat.reduceMul, ↓reduceIte, tis, eSpan, fls]
          refine .inl ⟨by kernel_rfl, ?_⟩
          exact round_normal (i + 1) ⟨by omega, next e⟩ (by simp -implicitDefEqProofs (maxSteps := 100000) (disch := first | (intros; contradiction) | omega) only [am0, am1, am2, am3, am4, am5, am6, am7, am8, am9, Nat.reduceSub, ↓reduceIte, reduceCtorEq, Nat.reduceEqDiff, Nat.reduceBEq, Nat.reduceAdd, Nat.reduceLT, Nat.reduceBNe, Nat.reduceMul, ↓reduceIte, tis]) (by show s.length - (i + 1) < s.length - i; omega)
        · rw [decide_eq_false h1] at e
          have e2 := setB_false hi e
          by_cases a1 : s[i].lo < 0
          · simp -implicitDefEqProofs (maxSteps := 100000) (disch := first | (intros; contradiction) | omega) only [am0, am1, am2, am3, am4, am5, am6, am7, am8, am9, Nat.reduceSub, ↓reduceIte, reduceCtorEq, Nat.reduceEqDiff, Nat.reduceBEq, Nat.reduceAdd, Nat.reduceLT, Nat.reduceBNe, Nat.reduceMul, ↓reduceIte, tis, eSpan, fls, e2]
            refine .inl ?_
            show _ = _
            kernel_rfl
          by_cases a2 : 255 < s[i].hi
          · simp -implicitDefEqProofs (maxSteps := 100000) (disch := first | (intros; contradiction) | omega) only [am0, am1, am2, am3, am4, am5, am6, am7, am8, am9, Nat.reduceSub, ↓reduceIte, reduceCtorEq, Nat.reduceEqDiff, Nat.reduceBEq, Nat.reduceAdd, Nat.reduceLT, Nat.reduceBNe, Nat.reduceMul, ↓reduceIte, tis, eSpan, fls, e2]
            refine .inl ?_
            show _ = _
            kernel_rfl
          have a3 : s[i].hi < s[i].lo := by omega
          simp -implicitDefEqProofs (maxSteps := 100000) (disch := first | (intros; contradiction) | omega) only [am0, am1, am2, am3, am4, am5, am6, am7, am8, am9, Nat.reduceSub, ↓reduceIte, reduceCtorEq, Nat.reduceEqDiff, Nat.reduceBEq, Nat.reduceAdd, Nat.reduceLT, Nat.reduceBNe, Nat.reduceMul, ↓reduceIte, tis, eSpan, fls, e2]
          refine .inl ?_
          show _ = _
          kernel_rfl
      · have e := setN_1 hi h0
        have hi1 : i - 1 < s.length := by omega
        have b := setN_b hi1 (hb (i - 1) (by omega))
        have ei : ((i : Int) - 1).toNat = i - 1 := by omega
        by_cases h1 : 0 ≤ s[i].lo ∧ s[i].lo ≤ s[i].hi ∧ s[i].hi ≤ 255
        · by_cases h2 : s[i - 1].hi + 1 < s[i].lo
          · rw [decide_eq_true h1, decide_eq_true h2] at e
            simp -implicitDefEqProofs (maxSteps := 100000) (disch := first | (intros; contradiction) | omega) only [am0, am1, am2, am3, am4, am5, am6, am7, am8, am9, Nat.reduceSub, ↓reduceIte, reduceCtorEq, Nat.reduceEqDiff, Nat.reduceBEq, Nat.reduceAdd, Nat.reduceLT, Nat.reduceBNe, Nat.reduceMul, ↓reduceIte, tis, eSpan, fls, ei]
            refine .inl ⟨by kernel_rfl, ?_⟩
            exact round_normal (i + 1) ⟨by omega, next e⟩ (by simp -implicitDefEqProofs (maxSteps := 100000) (disch := first | (intros; contradiction) | omega) only [am0, am1, am2, am3, am4, am5, am6, am7, am8, am9, Nat.reduceSub, ↓reduceIte, reduceCtorEq, Nat.reduceEqDiff, Nat.reduceBEq, Nat.reduceAdd, Nat.reduceLT, Nat.reduceBNe, Nat.reduceMul, ↓reduceIte, tis]) (by show s.length - (i + 1) < s.length - i; omega)
          · rw [decide_eq_true h1, decide_eq_false h2] at e
            have e2 := setB_false hi e
            simp -implicitDefEqProofs (maxSteps := 100000) (disch := first | (intros; contradiction) | omega) only [am0, am1, am2, am3, am4, am5, am6, am7, am8, am9, Nat.reduceSub, ↓reduceIte, reduceCtorEq, Nat.reduceEqDiff, Nat.reduceBEq, Nat.reduceAdd, Nat.reduceLT, Nat.reduceBNe, Nat.reduceMul, ↓reduceIte, tis, eSpan, fls, e2, ei]
            refine .inl ?_
            show _ = _
            kernel_rfl
        · rw [decide_eq_false h1] at e
          have e2 := setB_false hi e
          by_cases a1 : s[i].lo < 0
          · simp -implicitDefEqProofs (maxSteps := 100000) (disch := first | (intros; contradiction) | omega) only [am0, am1, am2, am3, am4, am5, am6, am7, am8, am9, Nat.reduceSub, ↓reduceIte, reduceCtorEq, Nat.reduceEqDiff, Nat.reduceBEq, Nat.reduceAdd, Nat.reduceLT, Nat.reduceBNe, Nat.reduceMul, ↓reduceIte, tis, eSpan, fls, e2, ei]
            refine .inl ?_
            show _ = _
            kernel_rfl
          by_cases a2 : 255 < s[i].hi
          · simp -implicitDefEqProofs (maxSteps := 100000) (disch := first | (intros; contradiction) | omega) only [am0, am1, am2, am3, am4, am5, am6, am7, am8, am9, Nat.reduceSub, ↓reduceIte, reduceCtorEq, Nat.reduceEqDiff, Nat.reduceBEq, Nat.reduceAdd, Nat.reduceLT, Nat.reduceBNe, Nat.reduceMul, ↓reduceIte, tis, eSpan, fls, e2, ei]
            refine .inl ?_
            show _ = _
            kernel_rfl
          have a3 : s[i].hi < s[i].lo := by omega
          simp -implicitDefEqProofs (maxSteps := 100000) (disch := first | (intros; contradiction) | omega) only [am0, am1, am2, am3, am4, am5, am6, am7, am8, am9, Nat.reduceSub, ↓reduceIte, reduceCtorEq, Nat.reduceEqDiff, Nat.reduceBEq, Nat.reduceAdd, Nat.reduceLT, Nat.reduceBNe, Nat.reduceMul, ↓reduceIte, tis, eSpan, fls, e2, ei]
          refine .inl ?_
          show _ = _
          kernel_rfl
    · obtain rfl : i = s.length := by omega
      simp -implicitDefEqProofs (maxSteps := 100000) (disch := first | (intros; contradiction) | omega) only [am0, am1, am2, am3, am4, am5, am6, am7, am8, am9, Nat.reduceSub, ↓reduceIte, reduceCtorEq, Nat.reduceEqDiff, Nat.reduceBEq, Nat.reduceAdd, Nat.reduceLT, Nat.reduceBNe, Nat.reduceMul, ↓reduceIte, tis, setB_true hb]
/-! A table of truth values, made from the front. -/
def tabS (M : List Bool) (i : Nat) : List AV := (M.take i).map eBool ++ List.replicate (256 - i) (.bool false)
theorem tabS_0 (M : List Bool) : List.replicate (Int.toNat 256) (.bool false) = tabS M 0 := by unfold tabS; simp
theorem tabS_len {M : List Bool} (h : M.length = 256) {i : Nat} (hi : i ≤ 256) : (tabS M i).length = 256 := by unfold tabS; simp; omega
theorem tabS_get {M : List Bool} (h : M.length = 256) {i : Nat} (hi : i < 256) : (tabS M i)[i]? = some (.bool false) := by
  have := build_get eBool (.bool false) M i (by omega)
  rw [h] at this; exact this
theorem tabS_set {M : List Bool} (h : M.length = 256) {i : Nat} (hi : i < 256) : (tabS M i).set i (.bool (M[i]'(by omega))) = tabS M (i + 1) := by
  unfold tabS
  rw [show 256 - i = M.length - i by omega, show 256 - (i + 1) = M.length - (i + 1) by omega]
  exact build_set eBool (.bool false) M i (by omega)
theorem tabS_end {M : List Bool} (h : M.length = 256) : tabS M 256 = M.map eBool := by unfold tabS; rw [List.take_of_length_le (by omega)]; simp
def meetB (s t : List Span) : List Bool := (List.range 256).map fun b => hasB s (b : Nat) && hasB t (b : Nat)
theorem meetB_len (s t : List Span) : (meetB s t).length = 256 := by simp [meetB]
theorem meetB_get (s t : List Span) (i : Nat) (h : i < (meetB s t).length) : (meetB s t)[i] = (hasB s i && hasB t i) := by simp [meetB]
def meetL (s t : List Span) : List Span := if setB s = true ∧ setB t = true then spansL (meetB s t) else []
/-- spec.SetMeet -/
theorem fits_sSetMeet (s t : List Span) (hs : s.length ≤ 1048576) (ht : t.length ≤ 1048576) : Fits prog 171 [.sl false 2 (s.map eSpan), .sl false 2 (t.map eSpan)] (.sl true 2 ((meetL s t).map eSpan)) [] := by
  have hM := meetB_len s t
  have e0 := tabS_0 (meetB s t)
  have c1 := fits_sSetOk s (by omega)
  have c2 := fits_sSetOk t (by omega)
  have cO := fits_l1Of (meetB s t) hM
  refine fits_of_code [4] [] [0, 1, 4, 5, 6, 9, 30] func171 rfl rfl rfl (by rfl) (by show 2 ≤ 34; decide) (by rfl) (by rfl) (by show 0 ≤ 2; decide) (by rfl) (run_of ?_)
  simp -implicitDefEqProofs (maxSteps := 100000) (disch := first | (intros; contradiction) | omega) only [am0, am1, am2, am3, am4, am5, am6, am7, am8, am9, Nat.reduceSub, ↓reduceIte, reduceCtorEq, Nat.reduceEqDiff, Nat.reduceBEq, Nat.reduceAdd, Nat.reduceLT, Nat.reduceBNe, Nat.reduceMul, ↓reduceIte, tis, fls, e0]
  refine run_loop (α := Nat) (fun i => i ≤ 256) (fun i => [(0, .sl false 2 (s.map eSpan)), (1, .sl false 2 (t.map eSpan)), (5, .sl true 1 (tabS (meetB s t) i)), (6, .int .i64 i)]) (fun i => 256 - i) 0 (Nat.zero_le _) ?_ ?_
  · simp -implicitDefEqProofs (maxSteps := 100000) (disch := first | (intros; contradiction) | omega) only [am0, am1, am2, am3, am4, am5, am6, am7, am8, am9, Nat.reduceSub, ↓reduceIte, reduceCtorEq, Nat.reduceEqDiff, Nat.reduceBEq, Nat.reduceAdd, Nat.reduceLT, Nat.reduceBNe, Nat.reduceMul, ↓reduceIte, tis]
  · intro i hi'
    have hl := tabS_len hM hi'
    by_cases hi : i < 256
    · have g1 := tabS_get hM hi
      have g2 := tabS_set hM hi
      rw [meetB_get s t i (by omega)] at g2
      have h1 := fits_sSetHas s i (by omega)
      have h2 := fits_sSetHas t i (by omega)
      generalize tabS (meetB s t) i = A at *
      cases a : hasB s i with
      | true =>
        rw [a] at h1 g2
        simp -implicitDefEqProofs (maxSteps := 100000) (disch := first | (intros; contradiction) | omega) only [am0, am1, am2, am3, am4, am5, am6, am7, am8, am9, Nat.reduceSub, ↓reduceIte, reduceCtorEq, Nat.reduceEqDiff, Nat.reduceBEq, Nat.reduceAdd, Nat.reduceLT, Nat.reduceBNe, Nat.reduceMul, ↓reduceIte, tis, fls]
        refine callB h1 ?_
        simp -implicitDefEqProofs (maxSteps := 100000) (disch := first | (intros; contradiction) | omega) only [am0, am1, am2, am3, am4, am5, am6, am7, am8, am9, Nat.reduceSub, ↓reduceIte, reduceCtorEq, Nat.reduceEqDiff, Nat.reduceBEq, Nat.reduceAdd, Nat.reduceLT, Nat.reduceBNe, Nat.reduceMul, ↓reduceIte, tis, fls]
        refine callB h2 ?_
        rw [Bool.true_and] at g2
        simp -implicitDefEqProofs (maxSteps := 100000) (disch := first | (intros; contradiction) | omega) only [am0, am1, am2, am3, am4, am5, am6, am7, am8, am9, Nat.reduceSub, ↓reduceIte, reduceCtorEq, Nat.reduceEqDiff, Nat.reduceBEq, Nat.reduceAdd, Nat.reduceLT, Nat.reduceBNe, Nat.reduceMul, ↓reduceIte, tis, fls, g1, g2, hl]
        refine round_normal (i + 1) (by omega) (by simp -implicitDefEqProofs (maxSteps := 100000) (disch := first | (intros; contradiction) | omega) only [am0, am1, am2, am3, am4, am5, am6, am7, am8, am9, Nat.reduceSub, ↓reduceIte, reduceCtorEq, Nat.reduceEqDiff, Nat.reduceBEq, Nat.reduceAdd, Nat.reduceLT, Nat.reduceBNe, Nat.reduceMul, ↓reduceIte, tis]) (by show 256 - (i + 1) < 256 - i; omega)
      | false =>
        rw [a] at h1 g2
        rw [Bool.false_and] at g2
        simp -implicitDefEqProofs (maxSteps := 100000) (disch := first | (intros; contradiction) | omega) only [am0, am1, am2, am3, am4, am5, am6, am7, am8, am9, Nat.reduceSub, ↓reduceIte, reduceCtorEq, Nat.reduceEqDiff, Nat.reduceBEq, Nat.reduceAdd, Nat.reduceLT, Nat.reduceBNe, Nat.reduceMul, ↓reduceIte, tis, fls]
        refine callB h1 ?_
        simp -implicitDefEqProofs (maxSteps := 100000) (disch := first | (intros; contradiction) | omega) only [am0, am1, am2, am3, am4, am5, am6, am7, am8, am9, Nat.reduceSub, ↓reduceIte, reduceCtorEq, Nat.reduceEqDiff, Nat.reduceBEq, Nat.reduceAdd, Nat.reduceLT, Nat.reduceBNe, Nat.reduceMul, ↓reduceIte, tis, fls, g1, g2, hl]
        refine round_normal (i + 1) (by omega) (by simp -implicitDefEqProofs (maxSteps := 100000) (disch := first | (intros; contradiction) | omega) only [am0, am1, am2, am3, am4, am5, am6, am7, am8, am9, Nat.reduceSub, ↓reduceIte, reduceCtorEq, Nat.reduceEqDiff, Nat.reduceBEq, Nat.reduceAdd, Nat.reduceLT, Nat.reduceBNe, Nat.reduceMul, ↓reduceIte, tis]) (by show 256 - (i + 1) < 256 - i; omega)
    · obtain rfl : i = 256 := by omega
      rw [tabS_end hM]
      unfold meetL
      cases a : setB s with
      | false =>
        rw [a] at c1
        simp -implicitDefEqProofs (maxSteps := 100000) (disch := first | (intros; contradiction) | omega) only [am0, am1, am2, am3, am4, am5, am6, am7, am8, am9, Nat.reduceSub, ↓reduceIte, reduceCtorEq, Nat.reduceEqDiff, Nat.reduceBEq, Nat.reduceAdd, Nat.reduceLT, Nat.reduceBNe, Nat.reduceMul, ↓reduceIte, tis, fls]
        refine callB c1 ?_
        simp -implicitDefEqProofs (maxSteps := 100000) (disch := first | (intros; contradiction) | omega) only [am0, am1, am2, am3, am4, am5, am6, am7, am8, am9, Nat.reduceSub, ↓reduceIte, reduceCtorEq, Nat.reduceEqDiff, Nat.reduceBEq, Nat.reduceAdd, Nat.reduceLT, Nat.reduceBNe, Nat.reduceMul, ↓reduceIte, tis, fls, List.map_nil]
      | true =>
        rw [a] at c1
        cases b : setB t with
        | false =>
          rw [b] at c2
          simp -implicitDefEqProofs (maxSteps := 100000) (disch := first | (intros; contradiction) | omega) only [am0, am1, am2, am3, am4, am5, am6, am7, am8, am9, Nat.reduceSub, ↓reduceIte, reduceCtorEq, Nat.reduceEqDiff, Nat.reduceBEq, Nat.reduceAdd, Nat.reduceLT, Nat.reduceBNe, Nat.reduceMul, ↓reduceIte, tis, fls]
          refine callB c1 ?_
          simp -implicitDefEqProofs (maxSteps := 100000) (disch := first | (intros; contradiction) | omega) only [am0, am1, am2, am3, am4, am5, am6, am7, am8, am9, Nat.reduceSub, ↓reduceIte, reduceCtorEq, Nat.reduceEqDiff, Nat.reduceBEq, Nat.reduceAdd, Nat.reduceLT, Nat.reduceBNe, Nat.reduceMul, ↓reduceIte, tis, fls, List.map_nil]
          refine callB c2 ?_
          simp -implicitDefEqProofs (maxSteps := 100000) (disch := first | (intros; contradiction) | omega) only [am0, am1, am2, am3, am4, am5, am6, am7, am8, am9, Nat.reduceSub, ↓reduceIte, reduceCtorEq, Nat.reduceEqDiff, Nat.reduceBEq, Nat.reduceAdd, Nat.reduceLT, Nat.reduceBNe, Nat.reduceMul, ↓reduceIte, tis, fls, List.map_nil]
        | true =>
          rw [b] at c2
          rw [if_pos ⟨rfl, rfl⟩]
          simp -implicitDefEqProofs (maxSteps := 100000) (disch := first | (intros; contradiction) | omega) only [am0, am1, am2, am3, am4, am5, am6, am7, am8, am9, Nat.reduceSub, ↓reduceIte, reduceCtorEq, Nat.reduceEqDiff, Nat.reduceBEq, Nat.reduceAdd, Nat.reduceLT, Nat.reduceBNe, Nat.reduceMul, ↓reduceIte, tis, fls]
          refine callB c1 ?_
          simp -implicitDefEqProofs (maxSteps := 100000) (disch := first | (intros; contradiction) | omega) only [am0, am1, am2, am3, am4, am5, am6, am7, am8, am9, Nat.reduceSub, ↓reduceIte, reduceCtorEq, Nat.reduceEqDiff, Nat.reduceBEq, Nat.reduceAdd, Nat.reduceLT, Nat.reduceBNe, Nat.reduceMul, ↓reduceIte, tis, fls]
          refine callB c2 ?_
          simp -implicitDefEqProofs (maxSteps := 100000) (disch := first | (intros; contradiction) | omega) only [am0, am1, am2, am3, am4, am5, am6, am7, am8, am9, Nat.reduceSub, ↓reduceIte, reduceCtorEq, Nat.reduceEqDiff, Nat.reduceBEq, Nat.reduceAdd, Nat.reduceLT, Nat.reduceBNe, Nat.reduceMul, ↓reduceIte, tis, fls]
          refine callB cO ?_
          simp -implicitDefEqProofs (maxSteps := 100000) (disch := first | (intros; contradiction) | omega) only [am0, am1, am2, am3, am4, am5, am6, am7, am8, am9, Nat.reduceSub, ↓reduceIte, reduceCtorEq, Nat.reduceEqDiff, Nat.reduceBEq, Nat.reduceAdd, Nat.reduceLT, Nat.reduceBNe, Nat.reduceMul, ↓reduceIte, tis, fls]
def cntN (s : List Span) (n : Nat) : Nat := ((List.range n).filter fun b => hasB s (b : Nat)).length
theorem cntN_le (s : List Span) (n : Nat) : cntN s n ≤ n := by
  unfold cntN
  have := List.length_filter_le (fun b : Nat => hasB s (b : Nat)) (List.range n)
  simpa using this
theorem cntN_s (s : List Span) (n : Nat) : cntN s (n + 1) = cntN s n + (if hasB s (n : Nat) = true then 1 else 0) := by
  unfold cntN
  rw [List.range_succ, List.filter_append, List.length_append]
  congr 1
  by_cases h : hasB s (n : Nat) = true
  · simp [h]
  · simp [h]
def cntB (s : List Span) : Nat := cntN s 256
/-- spec.SetSize -/
theorem fits_sSetSize (s : List Span) (hs : s.length ≤ 1048576) : Fits prog 172 [.sl false 2 (s.map eSpan)] (.int .i64 (cntB s)) [] := by
  unfold cntB
  refine fits_of_code [2] [] [0, 2, 3, 4, 6, 11] func172 rfl rfl rfl (by rfl) (by show 1 ≤ 15; decide) (by rfl) (by rfl) (by show 0 ≤ 1; decide) (by rfl) (run_of ?_)
  simp -implicitDefEqProofs (maxSteps := 100000) (disch := first | (intros; contradiction) | omega) only [am0, am1, am2, am3, am4, am5, am6, am7, am8, am9, Nat.reduceSub, ↓reduceIte, reduceCtorEq, Nat.reduceEqDiff, Nat.reduceBEq, Nat.reduceAdd, Nat.reduceLT, Nat.reduceBNe, Nat.reduceMul, ↓reduceIte, tis, fls]
  refine run_loop (α := Nat) (fun i => i ≤ 256) (fun i => [(0, .sl false 2 (s.map eSpan)), (3, .int .i64 (cntN s i)), (4, .int .i64 i)]) (fun i => 256 - i) 0 (Nat.zero_le _) ?_ ?_
  · simp -implicitDefEqProofs (maxSteps := 100000) (disch := first | (intros; contradiction) | omega) only [am0, am1, am2, am3, am4, am5, am6, am7, am8, am9, Nat.reduceSub, ↓reduceIte, reduceCtorEq, Nat.reduceEqDiff, Nat.reduceBEq, Nat.reduceAdd, Nat.reduceLT, Nat.reduceBNe, Nat.reduceMul, ↓reduceIte, tis, cntN, List.range_zero, List.filter_nil]
  · intro i hi'
    have hl := cntN_le s i
    by_cases hi : i < 256
    · have h1 := fits_sSetHas s i (by omega)
      have e := cntN_s s i
      cases a : hasB s i with
      | true =>
        rw [a] at h1 e
        rw [if_pos rfl] at e
        simp -implicitDefEqProofs (maxSteps := 100000) (disch := first | (intros; contradiction) | omega) only [am0, am1, am2, am3, am4, am5, am6, am7, am8, am9, Nat.reduceSub, ↓reduceIte, reduceCtorEq, Nat.reduceEqDiff, Nat.reduceBEq, Nat.reduceAdd, Nat.reduceLT, Nat.reduceBNe, Nat.reduceMul, ↓reduceIte, tis, fls]
        refine callB h1 ?_
        simp -implicitDefEqProofs (maxSteps := 100000) (disch := first | (intros; contradiction) | omega) only [am0, am1, am2, am3, am4, am5, am6, am7, am8, am9, Nat.reduceSub, ↓reduceIte, reduceCtorEq, Nat.reduceEqDiff, Nat.reduceBEq, Nat.reduceAdd, Nat.reduceLT, Nat.reduceBNe, Nat.reduceMul, ↓reduceIte, tis, fls]
        refine round_normal (i + 1) (by omega) (by simp -implicitDefEqProofs (maxSteps := 100000) (disch := first | (intros; contradiction) | omega) only [am0, am1, am2, am3, am4, am5, am6, am7, am8, am9, Nat.reduceSub, ↓reduceIte, reduceCtorEq, Nat.reduceEqDiff, Nat.reduceBEq, Nat.reduceAdd, Nat.reduceLT, Nat.reduceBNe, Nat.reduceMul, ↓reduceIte, tis, e]) (by show 256 - (i + 1) < 256 - i; omega)
      | false =>
        rw [a] at h1 e
        rw [if_neg (by simp), Nat.add_zero] at e
        simp -implicitDefEqProofs (maxSteps := 100000) (disch := first | (intros; contradiction) | omega) only [am0, am1, am2, am3, am4, am5, am6, am7, am8, am9, Nat.reduceSub, ↓reduceIte, reduceCtorEq, Nat.reduceEqDiff, Nat.reduceBEq, Nat.reduceAdd, Nat.reduceLT, Nat.reduceBNe, Nat.reduceMul, ↓reduceIte, tis, fls]
        refine callB h1 ?_
        simp -implicitDefEqProofs (maxSteps := 100000) (disch := first | (intros; contradiction) | omega) only [am0, am1, am2, am3, am4, am5, am6, am7, am8, am9, Nat.reduceSub, ↓reduceIte, reduceCtorEq, Nat.reduceEqDiff, Nat.reduceBEq, Nat.reduceAdd, Nat.reduceLT, Nat.reduceBNe, Nat.reduceMul, ↓reduceIte, tis, fls]
        refine round_normal (i + 1) (by omega) (by simp -implicitDefEqProofs (maxSteps := 100000) (disch := first | (intros; contradiction) | omega) only [am0, am1, am2, am3, am4, am5, am6, am7, am8, am9, Nat.reduceSub, ↓reduceIte, reduceCtorEq, Nat.reduceEqDiff, Nat.reduceBEq, Nat.reduceAdd, Nat.reduceLT, Nat.reduceBNe, Nat.reduceMul, ↓reduceIte, tis, e]) (by show 256 - (i + 1) < 256 - i; omega)
    · obtain rfl : i = 256 := by omega
      simp -implicitDefEqProofs (maxSteps := 100000) (disch := first | (intros; contradiction) | omega) only [am0, am1, am2, am3, am4, am5, am6, am7, am8, am9, Nat.reduceSub, ↓reduceIte, reduceCtorEq, Nat.reduceEqDiff, Nat.reduceBEq, Nat.reduceAdd, Nat.reduceLT, Nat.reduceBNe, Nat.reduceMul, ↓reduceIte, tis, fls]
def firstN (s : List Span) : Nat → Int
  | 0 => -1
  | n + 1 => if firstN s n = -1 then (if hasB s (n : Nat) = true then (n : Int) else -1) else firstN s n
theorem firstN_no (s : List Span) : ∀ n, (∀ j, j < n → hasB s (j : Nat) = false) → firstN s n = -1
  | 0, _ => rfl
  | n + 1, h => by simp [firstN, firstN_no s n (fun j hj => h j (by omega)), h n (by omega)]
theorem firstN_yes (s : List Span) (i : Nat) (h1 : ∀ j, j < i → hasB s (j : Nat) = false) (h2 : hasB s (i : Nat) = true) : ∀ n, i < n → firstN s n = i
  | 0, h => by omega
  | n + 1, h => by
    by_cases hi : i = n
    · subst hi; simp [firstN, firstN_no s i h1, h2]
    · have := firstN_yes s i h1 h2 n (by omega)
      simp only [firstN, this]
      rw [if_neg (by omega)]
def firstB (s : List Span) : Int := firstN s 256
/-- spec.SetFirst -/
theorem fits_sSetFirst (s : List Span) (hs : s.length ≤ 1048576) : Fits prog 170 [.sl false 2 (s.map eSpan)] (.int .i64 (firstB s)) [] := by
  refine fits_of_code [2] [] [0, 2, 3, 5, 10] func170 rfl rfl rfl (by rfl) (by show 1 ≤ 12; decide) (by rfl) (by rfl) (by show 0 ≤ 1; decide) (by rfl) (run_of ?_)
  simp -implicitDefEqProofs (maxSteps := 100000) (disch := first | (intros; contradiction) | omega) only [am0, am1, am2, am3, am4, am5, am6, am7, am8, am9, Nat.reduceSub, ↓reduceIte, reduceCtorEq, Nat.reduceEqDiff, Nat.reduceBEq, Nat.reduceAdd, Nat.reduceLT, Nat.reduceBNe, Nat.reduceMul, ↓reduceIte, tis, fls]
  refine run_loop (α := Nat) (fun i => i ≤ 256 ∧ ∀ j, j < i → hasB s (j : Nat) = false) (fun i => [(0, .sl false 2 (s.map eSpan)), (3, .int .i64 i)]) (fun i => 256 - i) 0 ⟨Nat.zero_le _, by intros; omega⟩ ?_ ?_
  · simp -implicitDefEqProofs (maxSteps := 100000) (disch := first | (intros; contradiction) | omega) only [am0, am1, am2, am3, am4, am5, am6, am7, am8, am9, Nat.reduceSub, ↓reduceIte, reduceCtorEq, Nat.reduceEqDiff, Nat.reduceBEq, Nat.reduceAdd, Nat.reduceLT, Nat.reduceBNe, Nat.reduceMul, ↓reduceIte, tis]
  · rintro i ⟨hi', hb⟩
    by_cases hi : i < 256
    · have h1 := fits_sSetHas s i (by omega)
      cases a : hasB s i with
      | true =>
        rw [a] at h1
        have e : firstB s = i := firstN_yes s i hb a 256 hi
        simp -implicitDefEqProofs (maxSteps := 100000) (disch := first | (intros; contradiction) | omega) only [am0, am1, am2, am3, am4, am5, am6, am7, am8, am9, Nat.reduceSub, ↓reduceIte, reduceCtorEq, Nat.reduceEqDiff, Nat.reduceBEq, Nat.reduceAdd, Nat.reduceLT, Nat.reduceBNe, Nat.reduceMul, ↓reduceIte, tis, fls]
        refine callB h1 ?_
        simp -implicitDefEqProofs (maxSteps := 100000) (disch := first | (intros; contradiction) | omega) only [am0, am1, am2, am3, am4, am5, am6, am7, am8, am9, Nat.reduceSub, ↓reduceIte, reduceCtorEq, Nat.reduceEqDiff, Nat.reduceBEq, Nat.reduceAdd, Nat.reduceLT, Nat.reduceBNe, Nat.reduceMul, ↓reduceIte, tis, fls, e]
      | false =>
        rw [a] at h1
        simp -implicitDefEqProofs (maxSteps := 100000) (disch := first | (intros; contradiction) | omega) only [am0, am1, am2, am3, am4, am5, am6, am7, am8, am9, Nat.reduceSub, ↓reduceIte, reduceCtorEq, Nat.reduceEqDiff, Nat.reduceBEq, Nat.reduceAdd, Nat.reduceLT, Nat.reduceBNe, Nat.reduceMul, ↓reduceIte, tis, fls]
        refine callB h1 ?_
        simp -implicitDefEqProofs (maxSteps := 100000) (disch := first | (intros; contradiction) | omega) only [am0, am1, am2, am3, am4, am5, am6, am7, am8, am9, Nat.reduceSub, ↓reduceIte, reduceCtorEq, Nat.reduceEqDiff, Nat.reduceBEq, Nat.reduceAdd, Nat.reduceLT, Nat.reduceBNe, Nat.reduceMul, ↓reduceIte, tis, fls]
        refine round_normal (i + 1) ⟨by omega, fun j hj => ?_⟩ (by simp -implicitDefEqProofs (maxSteps := 100000) (disch := first | (intros; contradiction) | omega) only [am0, am1, am2, am3, am4, am5, am6, am7, am8, am9, Nat.reduceSub, ↓reduceIte, reduceCtorEq, Nat.reduceEqDiff, Nat.reduceBEq, Nat.reduceAdd, Nat.reduceLT, Nat.reduceBNe, Nat.reduceMul, ↓reduceIte, tis]) (by show 256 - (i + 1) < 256 - i; omega)
        by_cases hj2 : j = i
        · subst hj2; exact a
        · exact hb j (by omega)
    · obtain rfl : i = 256 := by omega
      have e : firstB s = -1 := firstN_no s 256 hb
      simp -implicitDefEqProofs (maxSteps := 100000) (disch := first | (intros; contradiction) | omega) only [am0, am1, am2, am3, am4, am5, am6, am7, am8, am9, Nat.reduceSub, ↓reduceIte, reduceCtorEq, Nat.reduceEqDiff, Nat.reduceBEq, Nat.reduceAdd, Nat.reduceLT, Nat.reduceBNe, Nat.reduceMul, ↓reduceIte, tis, fls, e]
/-- The first byte of a right set. -/
theorem firstB_set {s : List Span} (h : setB s = true) (hl : 0 < s.length) : firstB s = s[0].lo := by
  have h0 := (setB_at h 0 hl).1
  obtain ⟨n, hn⟩ := Int.eq_ofNat_of_zero_le h0.1
  have hc := setB_can h
  rw [hn]
  refine firstN_yes s n (fun j hj => ?_) ?_ 256 (by omega)
  · cases hb : hasB s (j : Nat) with
    | false => rfl
    | true =>
      have : Can s[0].lo s := by
        cases s with
        | nil => simp at hl
        | cons x l => exact ⟨Int.le_refl _, hc.2.1, hc.2.2⟩
      have := can_has this hb
      omega
  · exact hasB_t hl (by omega)
theorem spansL_pos {bs : List Bool} (hl : bs.length = 256) : 0 < (spansL bs).length ↔ ∃ i, i < 256 ∧ bs.getD i false = true := by
  constructor
  · intro h
    have hc : Can 0 (spansL bs) := (spN_is bs 256).1
    have h0 : hasB (spansL bs) ((spansL bs)[0]'h).lo = true := by
      have := can_mem hc _ (List.getElem_mem h)
      exact hasB_t h ⟨Int.le_refl _, this.2⟩
    have hm := can_mem hc _ (List.getElem_mem h)
    obtain ⟨n, hn⟩ := Int.eq_ofNat_of_zero_le hm.1
    rw [hn, spansL_has hl] at h0
    refine ⟨n, ?_, h0⟩
    apply Classical.byContradiction
    intro hn2
    rw [List.getD, List.getElem?_eq_none (by omega)] at h0
    simp at h0
  · rintro ⟨i, hi, h⟩
    rw [← spansL_has hl] at h
    unfold hasB at h
    rw [List.any_eq_true] at h
    obtain ⟨x, hx, _⟩ := h
    exact List.length_pos_of_mem hx
structure Dfa where
  parts : List (List Span)
  rows : List (List Int)
  acc : List Int
def eSpans (o : Bool) (p : List Span) : AV := .sl o 2 (p.map eSpan)
def eInts (o : Bool) (p : List Int) : AV := .sl o 1 (p.map eInt)
def eDfa (o : Bool) (d : Dfa) : AV := .agg [.sl o 1 (d.parts.map (eSpans o)), .sl o 1 (d.rows.map (eInts o)), .sl o 1 (d.acc.map eInt)]
theorem er_spans (o : Bool) (p : List Span) : erase (eSpans o p) = eSpans false p := by simp [eSpans, erase, fls]
theorem er_ints (o : Bool) (p : List Int) : erase (eInts o p) = eInts false p := by simp [eInts, erase, fls]
theorem erL_spans (o : Bool) (l : List (List Span)) : eraseL (l.map (eSpans o)) = l.map (eSpans false) := by
  rw [eraseL_map, List.map_map]; exact List.map_congr_left fun x _ => er_spans o x
theorem erL_ints (o : Bool) (l : List (List Int)) : eraseL (l.map (eInts o)) = l.map (eInts false) := by
  rw [eraseL_map, List.map_map]; exact List.map_congr_left fun x _ => er_ints o x
theorem pl_spans (p : List Span) : plain (eSpans false p) = true := by simp [eSpans, plain, fls]
theorem pl_ints (p : List Int) : plain (eInts false p) = true := by simp [eInts, plain, fls]
theorem plL_spans (l : List (List Span)) : plainL (l.map (eSpans false)) = true := by rw [plainL_all]; simp [pl_spans]
theorem plL_ints (l : List (List Int)) : plainL (l.map (eInts false)) = true := by rw [plainL_all]; simp [pl_ints]
theorem cl_spans (p : List Span) : closed (eSpans true p) = true := by simp [eSpans, closed, fls]
theorem cl_ints (p : List Int) : closed (eInts true p) = true := by simp [eInts, closed, fls]
theorem clL_spans (l : List (List Span)) : closedL (l.map (eSpans true)) = true := by rw [closedL_all]; simp [cl_spans]
theorem clL_ints (l : List (List Int)) : closedL (l.map (eInts true)) = true := by rw [closedL_all]; simp [cl_ints]
theorem nc_spans (o : Bool) (p : List Span) : ncells (eSpans o p) = 1 := rfl
theorem nc_ints (o : Bool) (p : List Int) : ncells (eInts o p) = 1 := rfl
theorem ag_spans (o : Bool) (p : List Span) : AV.isAgg (eSpans o p) = false := rfl
theorem ag_ints (o : Bool) (p : List Int) : AV.isAgg (eInts o p) = false := rfl
theorem st_spans (o : Bool) (p : List Span) : AV.stor (eSpans o p) = true := rfl
theorem st_ints (o : Bool) (p : List Int) : AV.stor (eInts o p) = true := rfl
theorem tg_spans (o : Bool) (p : List Span) : AV.target (eSpans o p) = none := rfl
theorem tg_ints (o : Bool) (p : List Int) : AV.target (eInts o p) = none := rfl
/-- All that is known of the lists as a whole. -/
theorem dx : (∀ o (l : List (List Span)), eraseL (l.map (eSpans o)) = l.map (eSpans false)) ∧ (∀ o (l : List (List Int)), eraseL (l.map (eInts o)) = l.map (eInts false)) ∧ (∀ l : List (List Span), plainL (l.map (eSpans false)) = true) ∧ (∀ l : List (List Int), plainL (l.map (eInts false)) = true) ∧
    (∀ l : List (List Span), closedL (l.map (eSpans true)) = true) ∧ (∀ l : List (List Int), closedL (l.map (eInts true)) = true) :=
  ⟨erL_spans, erL_ints, plL_spans, plL_ints, clL_spans, clL_ints⟩
/-- How long they are, one and all. -/
def totS {α : Type} (p : List (List α)) : Nat := p.length + (p.map List.length).sum
def sumS {α : Type} (p : List (List α)) : Nat := (p.map List.length).sum
theorem sumS_take {α : Type} (p : List (List α)) (i : Nat) (h : i < p.length) : sumS (p.take (i + 1)) = sumS (p.take i) + p[i].length := by
  unfold sumS; rw [List.take_succ_eq_append_getElem h, List.map_append, List.sum_append]; rfl
theorem sumS_mono {α : Type} (p : List (List α)) (i : Nat) : sumS (p.take i) ≤ sumS p := by
  unfold sumS
  conv => rhs; rw [← List.take_append_drop i p, List.map_append, List.sum_append]
  exact Nat.le_add_right _ _
theorem sumS_mem {α : Type} {p : List (List α)} {c : List α} (h : c ∈ p) : c.length ≤ sumS p := by
  unfold sumS
  induction p with
  | nil => simp at h
  | cons x p ih =>
    rcases List.mem_cons.1 h with rfl | h
    · simp
    · have := ih h; simp; omega
def bdD (d : Dfa) : Nat := totS d.parts + totS d.rows + d.acc.length
/-- laws.szIntS -/
theorem fits_szIntS (p : List Int) (n : Int) (hp : p.length ≤ 9223372036854775807) (hn : n ≤ 1048576) (hn0 : 0 ≤ n) : Fits prog 121 [.sl false 1 (p.map eInt), .int .i64 n] (.int .i64 (if n - p.length < 0 then -1 else n - p.length)) [] := by
  refine fits_of_code [4] [] [0, 1, 4, 10] func121 rfl rfl rfl (by rfl) (by show 2 ≤ 12; decide) (by rfl) (by rfl) (by show 0 ≤ 2; decide) (by rfl) (run_of ?_)
  by_cases hl : n - p.length < 0
  · simp -implicitDefEqProofs (maxSteps := 100000) (disch := first | (intros; contradiction) | omega) only [am0, am1, am2, am3, am4, am5, am6, am7, am8, am9, Nat.reduceSub, ↓reduceIte, reduceCtorEq, Nat.reduceEqDiff, Nat.reduceBEq, Nat.reduceAdd, Nat.reduceLT, Nat.reduceBNe, Nat.reduceMul, ↓reduceIte, tis, hl]
  · simp -implicitDefEqProofs (maxSteps := 100000) (disch := first | (intros; contradiction) | omega) only [am0, am1, am2, am3, am4, am5, am6, am7, am8, am9, Nat.reduceSub, ↓reduceIte, reduceCtorEq, Nat.reduceEqDiff, Nat.reduceBEq, Nat.reduceAdd, Nat.reduceLT, Nat.reduceBNe, Nat.reduceMul, ↓reduceIte, tis, hl]
/-- laws.toIntS -/
theorem fits_toIntS (p : List Int) (hp : p.length ≤ 1048576) : Fits prog 126 [.sl false 1 (p.map eInt)] (.sl true 1 (p.map eInt)) [] := by
  refine fits_of_code [2] [] [0, 2, 3, 4, 11] func126 rfl rfl rfl (by rfl) (by show 1 ≤ 22; decide) (by rfl) (by rfl) (by show 0 ≤ 1; decide) (by rfl) (run_of ?_)
  simp -implicitDefEqProofs (maxSteps := 100000) (disch := first | (intros; contradiction) | omega) only [am0, am1, am2, am3, am4, am5, am6, am7, am8, am9, Nat.reduceSub, ↓reduceIte, reduceCtorEq, Nat.reduceEqDiff, Nat.reduceBEq, Nat.reduceAdd, Nat.reduceLT, Nat.reduceBNe, Nat.reduceMul, ↓reduceIte, tis]
  refine run_loop (α := Nat) (fun i => i ≤ p.length) (fun i => [(0, .sl false 1 (p.map eInt)), (3, .sl true 1 ((p.take i).map eInt ++ List.replicate (p.length - i) (eInt 0))), (4, .int .i64 i)]) (fun i => p.length - i) 0 (Nat.zero_le _) ?_ ?_
  · simp -implicitDefEqProofs (maxSteps := 100000) (disch := first | (intros; contradiction) | omega) only [am0, am1, am2, am3, am4, am5, am6, am7, am8, am9, Nat.reduceSub, ↓reduceIte, reduceCtorEq, Nat.reduceEqDiff, Nat.reduceBEq, Nat.reduceAdd, Nat.reduceLT, Nat.reduceBNe, Nat.reduceMul, ↓reduceIte, eInt]
  · intro i hi'
    by_cases hi : i < p.length
    · have g2 := build_get eInt (eInt 0) p i hi
      have g3 := build_set eInt (eInt 0) p i hi
      have g4 := build_len eInt (eInt 0) p i hi'
      simp only [eInt] at g2 g3 g4
      simp -implicitDefEqProofs (maxSteps := 100000) (disch := first | (intros; contradiction) | omega) only [am0, am1, am2, am3, am4, am5, am6, am7, am8, am9, Nat.reduceSub, ↓reduceIte, reduceCtorEq, Nat.reduceEqDiff, Nat.reduceBEq, Nat.reduceAdd, Nat.reduceLT, Nat.reduceBNe, Nat.reduceMul, ↓reduceIte, tis, eInt, g2, g3, g4]
      refine round_normal (i + 1) (by omega) ?_ (by show p.length - (i + 1) < p.length - i; omega)
      simp -implicitDefEqProofs (maxSteps := 100000) (disch := first | (intros; contradiction) | omega) only [am0, am1, am2, am3, am4, am5, am6, am7, am8, am9, Nat.reduceSub, ↓reduceIte, reduceCtorEq, Nat.reduceEqDiff, Nat.reduceBEq, Nat.reduceAdd, Nat.reduceLT, Nat.reduceBNe, Nat.reduceMul, ↓reduceIte, eInt]
    · obtain rfl : i = p.length := by omega
      simp -implicitDefEqProofs (maxSteps := 100000) (disch := first | (intros; contradiction) | omega) only [am0, am1, am2, am3, am4, am5, am6, am7, am8, am9, Nat.reduceSub, ↓reduceIte, reduceCtorEq, Nat.reduceEqDiff, Nat.reduceBEq, Nat.reduceAdd, Nat.reduceLT, Nat.reduceBNe, Nat.reduceMul, ↓reduceIte, tis]
/-- laws.eqIntS -/
theorem fits_eqIntS (p q : List Int) (hp : p.length ≤ 1048576) (hq : q.length ≤ 1048576) : Fits prog 131 [.sl false 1 (p.map eInt), .sl false 1 (q.map eInt)] (.bool (decide (p = q))) [] := by
  refine fits_of_code [4] [] [0, 1, 4, 5, 10, 14, 25] func131 rfl rfl rfl (by rfl) (by show 2 ≤ 26; decide) (by rfl) (by rfl) (by show 0 ≤ 2; decide) (by rfl) (run_of ?_)
  by_cases hl : p.length = q.length
  · simp -implicitDefEqProofs (maxSteps := 100000) (disch := first | (intros; contradiction) | omega) only [am0, am1, am2, am3, am4, am5, am6, am7, am8, am9, Nat.reduceSub, ↓reduceIte, reduceCtorEq, Nat.reduceEqDiff, Nat.reduceBEq, Nat.reduceAdd, Nat.reduceLT, Nat.reduceBNe, Nat.reduceMul, ↓reduceIte, tis]
    refine run_loop (α := Nat) (fun i => i ≤ p.length ∧ p.take i = q.take i) (fun i => [(0, .sl false 1 (p.map eInt)), (1, .sl false 1 (q.map eInt)), (5, .int .i64 i)]) (fun i => p.length - i) 0 ⟨Nat.zero_le _, rfl⟩ ?_ ?_
    · simp -implicitDefEqProofs (maxSteps := 100000) (disch := first | (intros; contradiction) | omega) only [am0, am1, am2, am3, am4, am5, am6, am7, am8, am9, Nat.reduceSub, ↓reduceIte, reduceCtorEq, Nat.reduceEqDiff, Nat.reduceBEq, Nat.reduceAdd, Nat.reduceLT, Nat.reduceBNe, Nat.reduceMul, ↓reduceIte, tis]
    · rintro i ⟨hi', he⟩
      by_cases hi : i < p.length
      · have hi2 : i < q.length := by omega
        by_cases hx : p[i] = q[i]
        · simp -implicitDefEqProofs (maxSteps := 100000) (disch := first | (intros; contradiction) | omega) only [am0, am1, am2, am3, am4, am5, am6, am7, am8, am9, Nat.reduceSub, ↓reduceIte, reduceCtorEq, Nat.reduceEqDiff, Nat.reduceBEq, Nat.reduceAdd, Nat.reduceLT, Nat.reduceBNe, Nat.reduceMul, ↓reduceIte, tis, eInt, fls, hx]
          refine .inl ⟨by kernel_rfl, ?_⟩
          refine round_normal (i + 1) ⟨by omega, ?_⟩ ?_ (by show p.length - (i + 1) < p.length - i; omega)
          · rw [List.take_succ_eq_append_getElem hi, List.take_succ_eq_append_getElem hi2, he, hx]
          · simp -implicitDefEqProofs (maxSteps := 100000) (disch := first | (intros; contradiction) | omega) only [am0, am1, am2, am3, am4, am5, am6, am7, am8, am9, Nat.reduceSub, ↓reduceIte, reduceCtorEq, Nat.reduceEqDiff, Nat.reduceBEq, Nat.reduceAdd, Nat.reduceLT, Nat.reduceBNe, Nat.reduceMul, ↓reduceIte, tis]
        · have hne : ¬ p = q := by rintro rfl; exact hx rfl
          simp -implicitDefEqProofs (maxSteps := 100000) (disch := first | (intros; contradiction) | omega) only [am0, am1, am2, am3, am4, am5, am6, am7, am8, am9, Nat.reduceSub, ↓reduceIte, reduceCtorEq, Nat.reduceEqDiff, Nat.reduceBEq, Nat.reduceAdd, Nat.reduceLT, Nat.reduceBNe, Nat.reduceMul, ↓reduceIte, tis, eInt, fls, hx, hne]
          refine .inl ?_
          show _ = _
          kernel_rfl
      · obtain rfl : i = p.length := by omega
        have hpq : p = q := by
          rw [List.take_length, hl, List.take_length] at he; exact he
        simp -implicitDefEqProofs (maxSteps := 100000) (disch := first | (intros; contradiction) | omega) only [am0, am1, am2, am3, am4, am5, am6, am7, am8, am9, Nat.reduceSub, ↓reduceIte, reduceCtorEq, Nat.reduceEqDiff, Nat.reduceBEq, Nat.reduceAdd, Nat.reduceLT, Nat.reduceBNe, Nat.reduceMul, ↓reduceIte, tis, hpq]
  · have hne : ¬ p = q := by rintro rfl; exact hl rfl
    simp -implicitDefEqProofs (maxSteps := 100000) (disch := first | (intros; contradiction) | omega) only [am0, am1, am2, am3, am4, am5, am6, am7, am8, am9, Nat.reduceSub, ↓reduceIte, reduceCtorEq, Nat.reduceEqDiff, Nat.reduceBEq, Nat.reduceAdd, Nat.reduceLT, Nat.reduceBNe, Nat.reduceMul, ↓reduceIte, tis, hne]
def mkInts (n : Nat) (k : Int) : List Int := (List.range n).map (fun j => k + (j : Nat))
theorem mkInts_len (n : Nat) (k : Int) : (mkInts n k).length = n := by simp [mkInts]
theorem mkInts_succ (n : Nat) (k : Int) : mkInts (n + 1) k = mkInts n k ++ [k + (n : Nat)] := by simp [mkInts, List.range_succ]
/-- laws.markIntS -/
theorem fits_markIntS (p : List Int) (k : Int) (hp : p.length ≤ 1048576) (h0 : 0 ≤ k) (hk : k ≤ 1152921504606846976) : Fits prog 134 [.sl true 1 (p.map eInt), .int .i64 k] (.int .i64 (k + 1 * p.length)) [.sl true 1 ((mkInts p.length k).map eInt)] := by
  refine fits_of_code [4] [0] [0, 1, 4, 5, 9] func134 rfl rfl rfl (by rfl) (by show 2 ≤ 19; decide) (by rfl) (by rfl) (by show 1 ≤ 2; decide) (by rfl) (run_of ?_)
  simp -implicitDefEqProofs (maxSteps := 100000) (disch := first | (intros; contradiction) | omega) only [am0, am1, am2, am3, am4, am5, am6, am7, am8, am9, Nat.reduceSub, ↓reduceIte, reduceCtorEq, Nat.reduceEqDiff, Nat.reduceBEq, Nat.reduceAdd, Nat.reduceLT, Nat.reduceBNe, Nat.reduceMul, ↓reduceIte, tis]
  refine run_loop (α := Nat) (fun i => i ≤ p.length) (fun i => [(0, .sl true 1 ((mkInts i k).map eInt ++ (p.drop i).map eInt)), (1, .int .i64 (k + i)), (5, .int .i64 i)]) (fun i => p.length - i) 0 (Nat.zero_le _) ?_ ?_
  · simp -implicitDefEqProofs (maxSteps := 100000) (disch := first | (intros; contradiction) | omega) only [am0, am1, am2, am3, am4, am5, am6, am7, am8, am9, Nat.reduceSub, ↓reduceIte, reduceCtorEq, Nat.reduceEqDiff, Nat.reduceBEq, Nat.reduceAdd, Nat.reduceLT, Nat.reduceBNe, Nat.reduceMul, ↓reduceIte, tis, mkInts]
    try simp
  · intro i hi'
    have hA : ((mkInts i k).map eInt).length = i := by simp [mkInts_len]
    have hL : ((mkInts i k).map eInt ++ (p.drop i).map eInt).length = p.length := by simp [mkInts_len]; omega
    by_cases hi : i < p.length
    · have g1 := turn_get _ eInt p i hA hi
      have g2 := fun y => turn_set _ eInt p i y hA hi
      simp only [eInt] at g1
      simp -implicitDefEqProofs (maxSteps := 100000) (disch := first | (intros; contradiction) | omega) only [am0, am1, am2, am3, am4, am5, am6, am7, am8, am9, Nat.reduceSub, ↓reduceIte, reduceCtorEq, Nat.reduceEqDiff, Nat.reduceBEq, Nat.reduceAdd, Nat.reduceLT, Nat.reduceBNe, Nat.reduceMul, ↓reduceIte, tis, hL, g1, g2]
      refine round_normal (i + 1) (by omega) ?_ (by show p.length - (i + 1) < p.length - i; omega)
      simp -implicitDefEqProofs (maxSteps := 100000) (disch := first | (intros; contradiction) | omega) only [am0, am1, am2, am3, am4, am5, am6, am7, am8, am9, Nat.reduceSub, ↓reduceIte, reduceCtorEq, Nat.reduceEqDiff, Nat.reduceBEq, Nat.reduceAdd, Nat.reduceLT, Nat.reduceBNe, Nat.reduceMul, ↓reduceIte, tis, mkInts_succ]
      simp [eInt]
      try omega
    · obtain rfl : i = p.length := by omega
      simp -implicitDefEqProofs (maxSteps := 100000) (disch := first | (intros; contradiction) | omega) only [am0, am1, am2, am3, am4, am5, am6, am7, am8, am9, Nat.reduceSub, ↓reduceIte, reduceCtorEq, Nat.reduceEqDiff, Nat.reduceBEq, Nat.reduceAdd, Nat.reduceLT, Nat.reduceBNe, Nat.reduceMul, ↓reduceIte, tis, mkInts_len]
      omega

/-- laws.szSpanSS -/
theorem fits_szSpanSS (p : List (List Span)) (n : Int) (hp : p.length ≤ 9223372036854775807) (hc : ∀ c ∈ p, c.length ≤ 9223372036854775807) (hn : n ≤ 1048576) (hn0 : 0 ≤ n) : Fits prog 119 [.sl false 1 (p.map (eSpans false)), .int .i64 n] (.int .i64 (if n - p.length - sumS p < 0 then -1 else n - p.length - sumS p)) [] := by
  refine fits_of_code [4] [] [0, 1, 4, 5, 11, 15, 25] func119 rfl rfl rfl (by rfl) (by show 2 ≤ 27; decide) (by rfl) (by rfl) (by show 0 ≤ 2; decide) (by rfl) (run_of ?_)
  by_cases hl : n - p.length < 0
  · have hr : n - p.length - sumS p < 0 := by omega
    simp -implicitDefEqProofs (maxSteps := 100000) (disch := first | (intros; contradiction) | omega) only [am0, am1, am2, am3, am4, am5, am6, am7, am8, am9, Nat.reduceSub, ↓reduceIte, reduceCtorEq, Nat.reduceEqDiff, Nat.reduceBEq, Nat.reduceAdd, Nat.reduceLT, Nat.reduceBNe, Nat.reduceMul, ↓reduceIte, tis, hl, hr]
  · simp -implicitDefEqProofs (maxSteps := 100000) (disch := first | (intros; contradiction) | omega) only [am0, am1, am2, am3, am4, am5, am6, am7, am8, am9, Nat.reduceSub, ↓reduceIte, reduceCtorEq, Nat.reduceEqDiff, Nat.reduceBEq, Nat.reduceAdd, Nat.reduceLT, Nat.reduceBNe, Nat.reduceMul, ↓reduceIte, tis, hl]
    refine run_loop (α := Nat) (fun i => i ≤ p.length ∧ 0 ≤ n - p.length - sumS (p.take i)) (fun i => [(0, .sl false 1 (p.map (eSpans false))), (1, .int .i64 (n - p.length - sumS (p.take i))), (5, .int .i64 i)]) (fun i => p.length - i) 0 ⟨Nat.zero_le _, by simp [sumS]; omega⟩ ?_ ?_
    · simp -implicitDefEqProofs (maxSteps := 100000) (disch := first | (intros; contradiction) | omega) only [am0, am1, am2, am3, am4, am5, am6, am7, am8, am9, Nat.reduceSub, ↓reduceIte, reduceCtorEq, Nat.reduceEqDiff, Nat.reduceBEq, Nat.reduceAdd, Nat.reduceLT, Nat.reduceBNe, Nat.reduceMul, ↓reduceIte, tis, sumS, List.sum_nil]
    · rintro i ⟨hi', hb⟩
      by_cases hi : i < p.length
      · have e := sumS_take p i hi
        have hci := hc _ (List.getElem_mem hi)
        have hm := sumS_mono p (i + 1)
        have cZ := fits_szSpanS p[i] (n - p.length - sumS (p.take i)) hci (by omega) hb
        have e2 : n - p.length - (sumS (p.take i) : Int) - (p[i].length : Int) = n - p.length - (sumS (p.take (i + 1)) : Int) := by omega
        rw [e2] at cZ
        simp -implicitDefEqProofs (maxSteps := 100000) (disch := first | (intros; contradiction) | omega) only [am0, am1, am2, am3, am4, am5, am6, am7, am8, am9, Nat.reduceSub, ↓reduceIte, reduceCtorEq, Nat.reduceEqDiff, Nat.reduceBEq, Nat.reduceAdd, Nat.reduceLT, Nat.reduceBNe, Nat.reduceMul, ↓reduceIte, tis, fls, eSpans]
        refine callB cZ ?_
        by_cases h2 : n - p.length - (sumS (p.take (i + 1)) : Int) < 0
        · have hr : n - p.length - sumS p < 0 := by omega
          simp -implicitDefEqProofs (maxSteps := 100000) (disch := first | (intros; contradiction) | omega) only [am0, am1, am2, am3, am4, am5, am6, am7, am8, am9, Nat.reduceSub, ↓reduceIte, reduceCtorEq, Nat.reduceEqDiff, Nat.reduceBEq, Nat.reduceAdd, Nat.reduceLT, Nat.reduceBNe, Nat.reduceMul, ↓reduceIte, tis, fls, h2, hr]
        · simp -implicitDefEqProofs (maxSteps := 100000) (disch := first | (intros; contradiction) | omega) only [am0, am1, am2, am3, am4, am5, am6, am7, am8, am9, Nat.reduceSub, ↓reduceIte, reduceCtorEq, Nat.reduceEqDiff, Nat.reduceBEq, Nat.reduceAdd, Nat.reduceLT, Nat.reduceBNe, Nat.reduceMul, ↓reduceIte, tis, fls, h2]
          refine round_normal (i + 1) ⟨by omega, by omega⟩ ?_ (by show p.length - (i + 1) < p.length - i; omega)
          simp -implicitDefEqProofs (maxSteps := 100000) (disch := first | (intros; contradiction) | omega) only [am0, am1, am2, am3, am4, am5, am6, am7, am8, am9, Nat.reduceSub, ↓reduceIte, reduceCtorEq, Nat.reduceEqDiff, Nat.reduceBEq, Nat.reduceAdd, Nat.reduceLT, Nat.reduceBNe, Nat.reduceMul, ↓reduceIte, tis]
      · obtain rfl : i = p.length := by omega
        rw [List.take_length] at *
        have hr : ¬ n - p.length - sumS p < 0 := by omega
        simp -implicitDefEqProofs (maxSteps := 100000) (disch := first | (intros; contradiction) | omega) only [am0, am1, am2, am3, am4, am5, am6, am7, am8, am9, Nat.reduceSub, ↓reduceIte, reduceCtorEq, Nat.reduceEqDiff, Nat.reduceBEq, Nat.reduceAdd, Nat.reduceLT, Nat.reduceBNe, Nat.reduceMul, ↓reduceIte, tis, fls, hr]
/-- laws.toSpanSS -/
theorem fits_toSpanSS (p : List (List Span)) (hp : p.length ≤ 1048576) (hc : ∀ c ∈ p, c.length ≤ 1048576) : Fits prog 124 [.sl false 1 (p.map (eSpans false))] (.sl true 1 (p.map (eSpans true))) [] := by
  refine fits_of_code [2] [] [0, 2, 3, 4, 11] func124 rfl rfl rfl (by rfl) (by show 1 ≤ 23; decide) (by rfl) (by rfl) (by show 0 ≤ 1; decide) (by rfl) (run_of ?_)
  simp -implicitDefEqProofs (maxSteps := 100000) (disch := first | (intros; contradiction) | omega) only [am0, am1, am2, am3, am4, am5, am6, am7, am8, am9, Nat.reduceSub, ↓reduceIte, reduceCtorEq, Nat.reduceEqDiff, Nat.reduceBEq, Nat.reduceAdd, Nat.reduceLT, Nat.reduceBNe, Nat.reduceMul, ↓reduceIte, tis]
  refine run_loop (α := Nat) (fun i => i ≤ p.length) (fun i => [(0, .sl false 1 (p.map (eSpans false))), (3, .sl true 1 ((p.take i).map (eSpans true) ++ List.replicate (p.length - i) (.sl true 0 []))), (4, .int .i64 i)]) (fun i => p.length - i) 0 (Nat.zero_le _) ?_ ?_
  · simp -implicitDefEqProofs (maxSteps := 100000) (disch := first | (intros; contradiction) | omega) only [am0, am1, am2, am3, am4, am5, am6, am7, am8, am9, Nat.reduceSub, ↓reduceIte, reduceCtorEq, Nat.reduceEqDiff, Nat.reduceBEq, Nat.reduceAdd, Nat.reduceLT, Nat.reduceBNe, Nat.reduceMul, ↓reduceIte, tis]
  · intro i hi'
    by_cases hi : i < p.length
    · have g2 := build_get (eSpans true) (.sl true 0 []) p i hi
      have g3 := build_set (eSpans true) (.sl true 0 []) p i hi
      have g4 := build_len (eSpans true) (.sl true 0 []) p i hi'
      have cT := fits_toSpanS p[i] (hc _ (List.getElem_mem hi))
      simp -implicitDefEqProofs (maxSteps := 100000) (disch := first | (intros; contradiction) | omega) only [am0, am1, am2, am3, am4, am5, am6, am7, am8, am9, Nat.reduceSub, ↓reduceIte, reduceCtorEq, Nat.reduceEqDiff, Nat.reduceBEq, Nat.reduceAdd, Nat.reduceLT, Nat.reduceBNe, Nat.reduceMul, ↓reduceIte, tis, dx, fls, eSpans]
      refine callB cT ?_
      have e : eSpans true p[i] = .sl true 2 (p[i].map eSpan) := rfl
      rw [e] at g3
      simp -implicitDefEqProofs (maxSteps := 100000) (disch := first | (intros; contradiction) | omega) only [am0, am1, am2, am3, am4, am5, am6, am7, am8, am9, Nat.reduceSub, ↓reduceIte, reduceCtorEq, Nat.reduceEqDiff, Nat.reduceBEq, Nat.reduceAdd, Nat.reduceLT, Nat.reduceBNe, Nat.reduceMul, ↓reduceIte, tis, dx, fls, g2, g3, g4]
      refine round_normal (i + 1) (by omega) ?_ (by show p.length - (i + 1) < p.length - i; omega)
      simp -implicitDefEqProofs (maxSteps := 100000) (disch := first | (intros; contradiction) | omega) only [am0, am1, am2, am3, am4, am5, am6, am7, am8, am9, Nat.reduceSub, ↓reduceIte, reduceCtorEq, Nat.reduceEqDiff, Nat.reduceBEq, Nat.reduceAdd, Nat.reduceLT, Nat.reduceBNe, Nat.reduceMul, ↓reduceIte, tis]
    · obtain rfl : i = p.length := by omega
      simp -implicitDefEqProofs (maxSteps := 100000) (disch := first | (intros; contradiction) | omega) only [am0, am1, am2, am3, am4, am5, am6, am7, am8, am9, Nat.reduceSub, ↓reduceIte, reduceCtorEq, Nat.reduceEqDiff, Nat.reduceBEq, Nat.reduceAdd, Nat.reduceLT, Nat.reduceBNe, Nat.reduceMul, ↓reduceIte, tis]
/-- laws.eqSpanSS, of equals -/
theorem fits_eqSpanSS (p : List (List Span)) (hp : p.length ≤ 1048576) (hc : ∀ c ∈ p, c.length ≤ 1048576) : Fits prog 129 [.sl false 1 (p.map (eSpans false)), .sl false 1 (p.map (eSpans false))] (.bool true) [] := by
  refine fits_of_code [4] [] [0, 1, 4, 5, 10, 14, 26] func129 rfl rfl rfl (by rfl) (by show 2 ≤ 27; decide) (by rfl) (by rfl) (by show 0 ≤ 2; decide) (by rfl) (run_of ?_)
  simp -implicitDefEqProofs (maxSteps := 100000) (disch := first | (intros; contradiction) | omega) only [am0, am1, am2, am3, am4, am5, am6, am7, am8, am9, Nat.reduceSub, ↓reduceIte, reduceCtorEq, Nat.reduceEqDiff, Nat.reduceBEq, Nat.reduceAdd, Nat.reduceLT, Nat.reduceBNe, Nat.reduceMul, ↓reduceIte, tis]
  refine run_loop (α := Nat) (fun i => i ≤ p.length) (fun i => [(0, .sl false 1 (p.map (eSpans false))), (1, .sl false 1 (p.map (eSpans false))), (5, .int .i64 i)]) (fun i => p.length - i) 0 (Nat.zero_le _) ?_ ?_
  · simp -implicitDefEqProofs (maxSteps := 100000) (disch := first | (intros; contradiction) | omega) only [am0, am1, am2, am3, am4, am5, am6, am7, am8, am9, Nat.reduceSub, ↓reduceIte, reduceCtorEq, Nat.reduceEqDiff, Nat.reduceBEq, Nat.reduceAdd, Nat.reduceLT, Nat.reduceBNe, Nat.reduceMul, ↓reduceIte, tis]
  · intro i hi'
    by_cases hi : i < p.length
    · have cE := fits_eqSpanS p[i] p[i] (hc _ (List.getElem_mem hi)) (hc _ (List.getElem_mem hi))
      rw [decide_eq_true rfl] at cE
      simp -implicitDefEqProofs (maxSteps := 100000) (disch := first | (intros; contradiction) | omega) only [am0, am1, am2, am3, am4, am5, am6, am7, am8, am9, Nat.reduceSub, ↓reduceIte, reduceCtorEq, Nat.reduceEqDiff, Nat.reduceBEq, Nat.reduceAdd, Nat.reduceLT, Nat.reduceBNe, Nat.reduceMul, ↓reduceIte, tis, dx, eSpans]
      refine .inl ⟨by kernel_rfl, ?_⟩
      refine callL cE ?_
      simp -implicitDefEqProofs (maxSteps := 100000) (disch := first | (intros; contradiction) | omega) only [am0, am1, am2, am3, am4, am5, am6, am7, am8, am9, Nat.reduceSub, ↓reduceIte, reduceCtorEq, Nat.reduceEqDiff, Nat.reduceBEq, Nat.reduceAdd, Nat.reduceLT, Nat.reduceBNe, Nat.reduceMul, ↓reduceIte, tis, dx, fls]
      refine round_normal (i + 1) (by omega) ?_ (by show p.length - (i + 1) < p.length - i; omega)
      simp -implicitDefEqProofs (maxSteps := 100000) (disch := first | (intros; contradiction) | omega) only [am0, am1, am2, am3, am4, am5, am6, am7, am8, am9, Nat.reduceSub, ↓reduceIte, reduceCtorEq, Nat.reduceEqDiff, Nat.reduceBEq, Nat.reduceAdd, Nat.reduceLT, Nat.reduceBNe, Nat.reduceMul, ↓reduceIte, tis]
    · obtain rfl : i = p.length := by omega
      simp -implicitDefEqProofs (maxSteps := 100000) (disch := first | (intros; contradiction) | omega) only [am0, am1, am2, am3, am4, am5, am6, am7, am8, am9, Nat.reduceSub, ↓reduceIte, reduceCtorEq, Nat.reduceEqDiff, Nat.reduceBEq, Nat.reduceAdd, Nat.reduceLT, Nat.reduceBNe, Nat.reduceMul, ↓reduceIte, tis]
def mkSSSpan : List (List Span) → Int → List (List Span)
  | [], _ => []
  | x :: xs, k => mkSpans x.length k :: mkSSSpan xs (k + 2 * x.length)
theorem mkSSSpan_len : ∀ (l : List (List Span)) (k : Int), (mkSSSpan l k).length = l.length
  | [], k => by simp [mkSSSpan]
  | x :: l, k => by simp [mkSSSpan, mkSSSpan_len l]
theorem mkSSSpan_app : ∀ (l : List (List Span)) (x : List Span) (k : Int), mkSSSpan (l ++ [x]) k = mkSSSpan l k ++ [mkSpans x.length (k + 2 * (sumS l : Nat))]
  | [], x, k => by simp [mkSSSpan, sumS]
  | y :: l, x, k => by
    simp only [List.cons_append, mkSSSpan, mkSSSpan_app l x, sumS, List.map_cons, List.sum_cons]
    congr 3
    congr 1
    omega
/-- laws.markSpanSS -/
theorem fits_markSpanSS (p : List (List Span)) (k : Int) (hp : p.length ≤ 1048576) (hs : sumS p ≤ 1048576) (h0 : 0 ≤ k) (hk : k ≤ 1099511627776) : Fits prog 132 [.sl true 1 (p.map (eSpans true)), .int .i64 k] (.int .i64 (k + 2 * sumS p)) [.sl true 1 ((mkSSSpan p k).map (eSpans true))] := by
  refine fits_of_code [4] [0] [0, 1, 4, 5, 9] func132 rfl rfl rfl (by rfl) (by show 2 ≤ 19; decide) (by rfl) (by rfl) (by show 1 ≤ 2; decide) (by rfl) (run_of ?_)
  simp -implicitDefEqProofs (maxSteps := 100000) (disch := first | (intros; contradiction) | omega) only [am0, am1, am2, am3, am4, am5, am6, am7, am8, am9, Nat.reduceSub, ↓reduceIte, reduceCtorEq, Nat.reduceEqDiff, Nat.reduceBEq, Nat.reduceAdd, Nat.reduceLT, Nat.reduceBNe, Nat.reduceMul, ↓reduceIte, tis]
  refine run_loop (α := Nat) (fun i => i ≤ p.length) (fun i => [(0, .sl true 1 ((mkSSSpan (p.take i) k).map (eSpans true) ++ (p.drop i).map (eSpans true))), (1, .int .i64 (k + 2 * sumS (p.take i))), (5, .int .i64 i)]) (fun i => p.length - i) 0 (Nat.zero_le _) ?_ ?_
  · simp -implicitDefEqProofs (maxSteps := 100000) (disch := first | (intros; contradiction) | omega) only [am0, am1, am2, am3, am4, am5, am6, am7, am8, am9, Nat.reduceSub, ↓reduceIte, reduceCtorEq, Nat.reduceEqDiff, Nat.reduceBEq, Nat.reduceAdd, Nat.reduceLT, Nat.reduceBNe, Nat.reduceMul, ↓reduceIte, tis, mkSSSpan, sumS, List.sum_nil]
    try simp
  · intro i hi'
    have hA : ((mkSSSpan (p.take i) k).map (eSpans true)).length = i := by simp [mkSSSpan_len]; omega
    have hL : ((mkSSSpan (p.take i) k).map (eSpans true) ++ (p.drop i).map (eSpans true)).length = p.length := by simp [mkSSSpan_len]; omega
    by_cases hi : i < p.length
    · have g1 := turn_get _ (eSpans true) p i hA hi
      have g2 := fun y => turn_set _ (eSpans true) p i y hA hi
      have e1 : mkSSSpan (p.take (i + 1)) k = mkSSSpan (p.take i) k ++ [mkSpans p[i].length (k + 2 * (sumS (p.take i) : Nat))] := by
        rw [List.take_succ_eq_append_getElem hi, mkSSSpan_app]
      generalize hAA : (mkSSSpan (p.take i) k).map (eSpans true) = A at *
      have e := sumS_take p i hi
      have hm := sumS_mono p (i + 1)
      have hl := sumS_mem (List.getElem_mem hi)
      have eg : eSpans true p[i] = .sl true 2 (p[i].map eSpan) := rfl
      rw [eg] at g1
      have cM := fits_markSpanS p[i] (k + 2 * (sumS (p.take i) : Nat)) (by omega) (by omega) (by omega)
      simp -implicitDefEqProofs (maxSteps := 100000) (disch := first | (intros; contradiction) | omega) only [am0, am1, am2, am3, am4, am5, am6, am7, am8, am9, Nat.reduceSub, ↓reduceIte, reduceCtorEq, Nat.reduceEqDiff, Nat.reduceBEq, Nat.reduceAdd, Nat.reduceLT, Nat.reduceBNe, Nat.reduceMul, ↓reduceIte, tis, hL, g1, g2, fls]
      refine callM 0 cM ?_
      simp -implicitDefEqProofs (maxSteps := 100000) (disch := first | (intros; contradiction) | omega) only [am0, am1, am2, am3, am4, am5, am6, am7, am8, am9, Nat.reduceSub, ↓reduceIte, reduceCtorEq, Nat.reduceEqDiff, Nat.reduceBEq, Nat.reduceAdd, Nat.reduceLT, Nat.reduceBNe, Nat.reduceMul, ↓reduceIte, tis, hL, g1, g2, fls]
      refine round_normal (i + 1) (by omega) ?_ (by show p.length - (i + 1) < p.length - i; omega)
      simp -implicitDefEqProofs (maxSteps := 100000) (disch := first | (intros; contradiction) | omega) only [am0, am1, am2, am3, am4, am5, am6, am7, am8, am9, Nat.reduceSub, ↓reduceIte, reduceCtorEq, Nat.reduceEqDiff, Nat.reduceBEq, Nat.reduceAdd, Nat.reduceLT, Nat.reduceBNe, Nat.reduceMul, ↓reduceIte, tis, e1, List.map_append, hAA, eSpans, List.map_cons, List.map_nil]
      omega
    · obtain rfl : i = p.length := by omega
      rw [List.take_length]
      simp -implicitDefEqProofs (maxSteps := 100000) (disch := first | (intros; contradiction) | omega) only [am0, am1, am2, am3, am4, am5, am6, am7, am8, am9, Nat.reduceSub, ↓reduceIte, reduceCtorEq, Nat.reduceEqDiff, Nat.reduceBEq, Nat.reduceAdd, Nat.reduceLT, Nat.reduceBNe, Nat.reduceMul, ↓reduceIte, tis, mkSSSpan_len]

/-- laws.szIntSS -/
theorem fits_szIntSS (p : List (List Int)) (n : Int) (hp : p.length ≤ 9223372036854775807) (hc : ∀ c ∈ p, c.length ≤ 9223372036854775807) (hn : n ≤ 1048576) (hn0 : 0 ≤ n) : Fits prog 120 [.sl false 1 (p.map (eInts false)), .int .i64 n] (.int .i64 (if n - p.length - sumS p < 0 then -1 else n - p.length - sumS p)) [] := by
  refine fits_of_code [4] [] [0, 1, 4, 5, 11, 15, 25] func120 rfl rfl rfl (by rfl) (by show 2 ≤ 27; decide) (by rfl) (by rfl) (by show 0 ≤ 2; decide) (by rfl) (run_of ?_)
  by_cases hl : n - p.length < 0
  · have hr : n - p.length - sumS p < 0 := by omega
    simp -implicitDefEqProofs (maxSteps := 100000) (disch := first | (intros; contradiction) | omega) only [am0, am1, am2, am3, am4, am5, am6, am7, am8, am9, Nat.reduceSub, ↓reduceIte, reduceCtorEq, Nat.reduceEqDiff, Nat.reduceBEq, Nat.reduceAdd, Nat.reduceLT, Nat.reduceBNe, Nat.reduceMul, ↓reduceIte, tis, hl, hr]
  · simp -implicitDefEqProofs (maxSteps := 100000) (disch := first | (intros; contradiction) | omega) only [am0, am1, am2, am3, am4, am5, am6, am7, am8, am9, Nat.reduceSub, ↓reduceIte, reduceCtorEq, Nat.reduceEqDiff, Nat.reduceBEq, Nat.reduceAdd, Nat.reduceLT, Nat.reduceBNe, Nat.reduceMul, ↓reduceIte, tis, hl]
    refine run_loop (α := Nat) (fun i => i ≤ p.length ∧ 0 ≤ n - p.length - sumS (p.take i)) (fun i => [(0, .sl false 1 (p.map (eInts false))), (1, .int .i64 (n - p.length - sumS (p.take i))), (5, .int .i64 i)]) (fun i => p.length - i) 0 ⟨Nat.zero_le _, by simp [sumS]; omega⟩ ?_ ?_
    · simp -implicitDefEqProofs (maxSteps := 100000) (disch := first | (intros; contradiction) | omega) only [am0, am1, am2, am3, am4, am5, am6, am7, am8, am9, Nat.reduceSub, ↓reduceIte, reduceCtorEq, Nat.reduceEqDiff, Nat.reduceBEq, Nat.reduceAdd, Nat.reduceLT, Nat.reduceBNe, Nat.reduceMul, ↓reduceIte, tis, sumS, List.sum_nil]
    · rintro i ⟨hi', hb⟩
      by_cases hi : i < p.length
      · have e := sumS_take p i hi
        have hci := hc _ (List.getElem_mem hi)
        have hm := sumS_mono p (i + 1)
        have cZ := fits_szIntS p[i] (n - p.length - sumS (p.take i)) hci (by omega) hb
        have e2 : n - p.length - (sumS (p.take i) : Int) - (p[i].length : Int) = n - p.length - (sumS (p.take (i + 1)) : Int) := by omega
        rw [e2] at cZ
        simp -implicitDefEqProofs (maxSteps := 100000) (disch := first | (intros; contradiction) | omega) only [am0, am1, am2, am3, am4, am5, am6, am7, am8, am9, Nat.reduceSub, ↓reduceIte, reduceCtorEq, Nat.reduceEqDiff, Nat.reduceBEq, Nat.reduceAdd, Nat.reduceLT, Nat.reduceBNe, Nat.reduceMul, ↓reduceIte, tis, fls, eInts]
        refine callB cZ ?_
        by_cases h2 : n - p.length - (sumS (p.take (i + 1)) : Int) < 0
        · have hr : n - p.length - sumS p < 0 := by omega
          simp -implicitDefEqProofs (maxSteps := 100000) (disch := first | (intros; contradiction) | omega) only [am0, am1, am2, am3, am4, am5, am6, am7, am8, am9, Nat.reduceSub, ↓reduceIte, reduceCtorEq, Nat.reduceEqDiff, Nat.reduceBEq, Nat.reduceAdd, Nat.reduceLT, Nat.reduceBNe, Nat.reduceMul, ↓reduceIte, tis, fls, h2, hr]
        · simp -implicitDefEqProofs (maxSteps := 100000) (disch := first | (intros; contradiction) | omega) only [am0, am1, am2, am3, am4, am5, am6, am7, am8, am9, Nat.reduceSub, ↓reduceIte, reduceCtorEq, Nat.reduceEqDiff, Nat.reduceBEq, Nat.reduceAdd, Nat.reduceLT, Nat.reduceBNe, Nat.reduceMul, ↓reduceIte, tis, fls, h2]
          refine round_normal (i + 1) ⟨by omega, by omega⟩ ?_ (by show p.length - (i + 1) < p.length - i; omega)
          simp -implicitDefEqProofs (maxSteps := 100000) (disch := first | (intros; contradiction) | omega) only [am0, am1, am2, am3, am4, am5, am6, am7, am8, am9, Nat.reduceSub, ↓reduceIte, reduceCtorEq, Nat.reduceEqDiff, Nat.reduceBEq, Nat.reduceAdd, Nat.reduceLT, Nat.reduceBNe, Nat.reduceMul, ↓reduceIte, tis]
      · obtain rfl : i = p.length := by omega
        rw [List.take_length] at *
        have hr : ¬ n - p.length - sumS p < 0 := by omega
        simp -implicitDefEqProofs (maxSteps := 100000) (disch := first | (intros; contradiction) | omega) only [am0, am1, am2, am3, am4, am5, am6, am7, am8, am9, Nat.reduceSub, ↓reduceIte, reduceCtorEq, Nat.reduceEqDiff, Nat.reduceBEq, Nat.reduceAdd, Nat.reduceLT, Nat.reduceBNe, Nat.reduceMul, ↓reduceIte, tis, fls, hr]
/-- laws.toIntSS -/
theorem fits_toIntSS (p : List (List Int)) (hp : p.length ≤ 1048576) (hc : ∀ c ∈ p, c.length ≤ 1048576) : Fits prog 125 [.sl false 1 (p.map (eInts false))] (.sl true 1 (p.map (eInts true))) [] := by
  refine fits_of_code [2] [] [0, 2, 3, 4, 11] func125 rfl rfl rfl (by rfl) (by show 1 ≤ 23; decide) (by rfl) (by rfl) (by show 0 ≤ 1; decide) (by rfl) (run_of ?_)
  simp -implicitDefEqProofs (maxSteps := 100000) (disch := first | (intros; contradiction) | omega) only [am0, am1, am2, am3, am4, am5, am6, am7, am8, am9, Nat.reduceSub, ↓reduceIte, reduceCtorEq, Nat.reduceEqDiff, Nat.reduceBEq, Nat.reduceAdd, Nat.reduceLT, Nat.reduceBNe, Nat.reduceMul, ↓reduceIte, tis]
  refine run_loop (α := Nat) (fun i => i ≤ p.length) (fun i => [(0, .sl false 1 (p.map (eInts false))), (3, .sl true 1 ((p.take i).map (eInts true) ++ List.replicate (p.length - i) (.sl true 0 []))), (4, .int .i64 i)]) (fun i => p.length - i) 0 (Nat.zero_le _) ?_ ?_
  · simp -implicitDefEqProofs (maxSteps := 100000) (disch := first | (intros; contradiction) | omega) only [am0, am1, am2, am3, am4, am5, am6, am7, am8, am9, Nat.reduceSub, ↓reduceIte, reduceCtorEq, Nat.reduceEqDiff, Nat.reduceBEq, Nat.reduceAdd, Nat.reduceLT, Nat.reduceBNe, Nat.reduceMul, ↓reduceIte, tis]
  · intro i hi'
    by_cases hi : i < p.length
    · have g2 := build_get (eInts true) (.sl true 0 []) p i hi
      have g3 := build_set (eInts true) (.sl true 0 []) p i hi
      have g4 := build_len (eInts true) (.sl true 0 []) p i hi'
      have cT := fits_toIntS p[i] (hc _ (List.getElem_mem hi))
      simp -implicitDefEqProofs (maxSteps := 100000) (disch := first | (intros; contradiction) | omega) only [am0, am1, am2, am3, am4, am5, am6, am7, am8, am9, Nat.reduceSub, ↓reduceIte, reduceCtorEq, Nat.reduceEqDiff, Nat.reduceBEq, Nat.reduceAdd, Nat.reduceLT, Nat.reduceBNe, Nat.reduceMul, ↓reduceIte, tis, dx, fls, eInts]
      refine callB cT ?_
      have e : eInts true p[i] = .sl true 1 (p[i].map eInt) := rfl
      rw [e] at g3
      simp -implicitDefEqProofs (maxSteps := 100000) (disch := first | (intros; contradiction) | omega) only [am0, am1, am2, am3, am4, am5, am6, am7, am8, am9, Nat.reduceSub, ↓reduceIte, reduceCtorEq, Nat.reduceEqDiff, Nat.reduceBEq, Nat.reduceAdd, Nat.reduceLT, Nat.reduceBNe, Nat.reduceMul, ↓reduceIte, tis, dx, fls, g2, g3, g4]
      refine round_normal (i + 1) (by omega) ?_ (by show p.length - (i + 1) < p.length - i; omega)
      simp -implicitDefEqProofs (maxSteps := 100000) (disch := first | (intros; contradiction) | omega) only [am0, am1, am2, am3, am4, am5, am6, am7, am8, am9, Nat.reduceSub, ↓reduceIte, reduceCtorEq, Nat.reduceEqDiff, Nat.reduceBEq, Nat.reduceAdd, Nat.reduceLT, Nat.reduceBNe, Nat.reduceMul, ↓reduceIte, tis]
    · obtain rfl : i = p.length := by omega
      simp -implicitDefEqProofs (maxSteps := 100000) (disch := first | (intros; contradiction) | omega) only [am0, am1, am2, am3, am4, am5, am6, am7, am8, am9, Nat.reduceSub, ↓reduceIte, reduceCtorEq, Nat.reduceEqDiff, Nat.reduceBEq, Nat.reduceAdd, Nat.reduceLT, Nat.reduceBNe, Nat.reduceMul, ↓reduceIte, tis]
/-- laws.eqIntSS, of equals -/
theorem fits_eqIntSS (p : List (List Int)) (hp : p.length ≤ 1048576) (hc : ∀ c ∈ p, c.length ≤ 1048576) : Fits prog 130 [.sl false 1 (p.map (eInts false)), .sl false 1 (p.map (eInts false))] (.bool true) [] := by
  refine fits_of_code [4] [] [0, 1, 4, 5, 10, 14, 26] func130 rfl rfl rfl (by rfl) (by show 2 ≤ 27; decide) (by rfl) (by rfl) (by show 0 ≤ 2; decide) (by rfl) (run_of ?_)
  simp -implicitDefEqProofs (maxSteps := 100000) (disch := first | (intros; contradiction) | omega) only [am0, am1, am2, am3, am4, am5, am6, am7, am8, am9, Nat.reduceSub, ↓reduceIte, reduceCtorEq, Nat.reduceEqDiff, Nat.reduceBEq, Nat.reduceAdd, Nat.reduceLT, Nat.reduceBNe, Nat.reduceMul, ↓reduceIte, tis]
  refine run_loop (α := Nat) (fun i => i ≤ p.length) (fun i => [(0, .sl false 1 (p.map (eInts false))), (1, .sl false 1 (p.map (eInts false))), (5, .int .i64 i)]) (fun i => p.length - i) 0 (Nat.zero_le _) ?_ ?_
  · simp -implicitDefEqProofs (maxSteps := 100000) (disch := first | (intros; contradiction) | omega) only [am0, am1, am2, am3, am4, am5, am6, am7, am8, am9, Nat.reduceSub, ↓reduceIte, reduceCtorEq, Nat.reduceEqDiff, Nat.reduceBEq, Nat.reduceAdd, Nat.reduceLT, Nat.reduceBNe, Nat.reduceMul, ↓reduceIte, tis]
  · intro i hi'
    by_cases hi : i < p.length
    · have cE := fits_eqIntS p[i] p[i] (hc _ (List.getElem_mem hi)) (hc _ (List.getElem_mem hi))
      rw [decide_eq_true rfl] at cE
      simp -implicitDefEqProofs (maxSteps := 100000) (disch := first | (intros; contradiction) | omega) only [am0, am1, am2, am3, am4, am5, am6, am7, am8, am9, Nat.reduceSub, ↓reduceIte, reduceCtorEq, Nat.reduceEqDiff, Nat.reduceBEq, Nat.reduceAdd, Nat.reduceLT, Nat.reduceBNe, Nat.reduceMul, ↓reduceIte, tis, dx, eInts]
      refine .inl ⟨by kernel_rfl, ?_⟩
      refine callL cE ?_
      simp -implicitDefEqProofs (maxSteps := 100000) (disch := first | (intros; contradiction) | omega) only [am0, am1, am2, am3, am4, am5, am6, am7, am8, am9, Nat.reduceSub, ↓reduceIte, reduceCtorEq, Nat.reduceEqDiff, Nat.reduceBEq, Nat.reduceAdd, Nat.reduceLT, Nat.reduceBNe, Nat.reduceMul, ↓reduceIte, tis, dx, fls]
      refine round_normal (i + 1) (by omega) ?_ (by show p.length - (i + 1) < p.length - i; omega)
      simp -implicitDefEqProofs (maxSteps := 100000) (disch := first | (intros; contradiction) | omega) only [am0, am1, am2, am3, am4, am5, am6, am7, am8, am9, Nat.reduceSub, ↓reduceIte, reduceCtorEq, Nat.reduceEqDiff, Nat.reduceBEq, Nat.reduceAdd, Nat.reduceLT, Nat.reduceBNe, Nat.reduceMul, ↓reduceIte, tis]
    · obtain rfl : i = p.length := by omega
      simp -implicitDefEqProofs (maxSteps := 100000) (disch := first | (intros; contradiction) | omega) only [am0, am1, am2, am3, am4, am5, am6, am7, am8, am9, Nat.reduceSub, ↓reduceIte, reduceCtorEq, Nat.reduceEqDiff, Nat.reduceBEq, Nat.reduceAdd, Nat.reduceLT, Nat.reduceBNe, Nat.reduceMul, ↓reduceIte, tis]
def mkSSInt : List (List Int) → Int → List (List Int)
  | [], _ => []
  | x :: xs, k => mkInts x.length k :: mkSSInt xs (k + 1 * x.length)
theorem mkSSInt_len : ∀ (l : List (List Int)) (k : Int), (mkSSInt l k).length = l.length
  | [], k => by simp [mkSSInt]
  | x :: l, k => by simp [mkSSInt, mkSSInt_len l]
theorem mkSSInt_app : ∀ (l : List (List Int)) (x : List Int) (k : Int), mkSSInt (l ++ [x]) k = mkSSInt l k ++ [mkInts x.length (k + 1 * (sumS l : Nat))]
  | [], x, k => by simp [mkSSInt, sumS]
  | y :: l, x, k => by
    simp only [List.cons_append, mkSSInt, mkSSInt_app l x, sumS, List.map_cons, List.sum_cons]
    congr 3
    congr 1
    omega
/-- laws.markIntSS -/
theorem fits_markIntSS (p : List (List Int)) (k : Int) (hp : p.length ≤ 1048576) (hs : sumS p ≤ 1048576) (h0 : 0 ≤ k) (hk : k ≤ 1099511627776) : Fits prog 133 [.sl true 1 (p.map (eInts true)), .int .i64 k] (.int .i64 (k + 1 * sumS p)) [.sl true 1 ((mkSSInt p k).map (eInts true))] := by
  refine fits_of_code [4] [0] [0, 1, 4, 5, 9] func133 rfl rfl rfl (by rfl) (by show 2 ≤ 19; decide) (by rfl) (by rfl) (by show 1 ≤ 2; decide) (by rfl) (run_of ?_)
  simp -implicitDefEqProofs (maxSteps := 100000) (disch := first | (intros; contradiction) | omega) only [am0, am1, am2, am3, am4, am5, am6, am7, am8, am9, Nat.reduceSub, ↓reduceIte, reduceCtorEq, Nat.reduceEqDiff, Nat.reduceBEq, Nat.reduceAdd, Nat.reduceLT, Nat.reduceBNe, Nat.reduceMul, ↓reduceIte, tis]
  refine run_loop (α := Nat) (fun i => i ≤ p.length) (fun i => [(0, .sl true 1 ((mkSSInt (p.take i) k).map (eInts true) ++ (p.drop i).map (eInts true))), (1, .int .i64 (k + 1 * sumS (p.take i))), (5, .int .i64 i)]) (fun i => p.length - i) 0 (Nat.zero_le _) ?_ ?_
  · simp -implicitDefEqProofs (maxSteps := 100000) (disch := first | (intros; contradiction) | omega) only [am0, am1, am2, am3, am4, am5, am6, am7, am8, am9, Nat.reduceSub, ↓reduceIte, reduceCtorEq, Nat.reduceEqDiff, Nat.reduceBEq, Nat.reduceAdd, Nat.reduceLT, Nat.reduceBNe, Nat.reduceMul, ↓reduceIte, tis, mkSSInt, sumS, List.sum_nil]
    try simp
  · intro i hi'
    have hA : ((mkSSInt (p.take i) k).map (eInts true)).length = i := by simp [mkSSInt_len]; omega
    have hL : ((mkSSInt (p.take i) k).map (eInts true) ++ (p.drop i).map (eInts true)).length = p.length := by simp [mkSSInt_len]; omega
    by_cases hi : i < p.length
    · have g1 := turn_get _ (eInts true) p i hA hi
      have g2 := fun y => turn_set _ (eInts true) p i y hA hi
      have e1 : mkSSInt (p.take (i + 1)) k = mkSSInt (p.take i) k ++ [mkInts p[i].length (k + 1 * (sumS (p.take i) : Nat))] := by
        rw [List.take_succ_eq_append_getElem hi, mkSSInt_app]
      generalize hAA : (mkSSInt (p.take i) k).map (eInts true) = A at *
      have e := sumS_take p i hi
      have hm := sumS_mono p (i + 1)
      have hl := sumS_mem (List.getElem_mem hi)
      have eg : eInts true p[i] = .sl true 1 (p[i].map eInt) := rfl
      rw [eg] at g1
      have cM := fits_markIntS p[i] (k + 1 * (sumS (p.take i) : Nat)) (by omega) (by omega) (by omega)
      simp -implicitDefEqProofs (maxSteps := 100000) (disch := first | (intros; contradiction) | omega) only [am0, am1, am2, am3, am4, am5, am6, am7, am8, am9, Nat.reduceSub, ↓reduceIte, reduceCtorEq, Nat.reduceEqDiff, Nat.reduceBEq, Nat.reduceAdd, Nat.reduceLT, Nat.reduceBNe, Nat.reduceMul, ↓reduceIte, tis, hL, g1, g2, fls]
      refine callM 0 cM ?_
      simp -implicitDefEqProofs (maxSteps := 100000) (disch := first | (intros; contradiction) | omega) only [am0, am1, am2, am3, am4, am5, am6, am7, am8, am9, Nat.reduceSub, ↓reduceIte, reduceCtorEq, Nat.reduceEqDiff, Nat.reduceBEq, Nat.reduceAdd, Nat.reduceLT, Nat.reduceBNe, Nat.reduceMul, ↓reduceIte, tis, hL, g1, g2, fls]
      refine round_normal (i + 1) (by omega) ?_ (by show p.length - (i + 1) < p.length - i; omega)
      simp -implicitDefEqProofs (maxSteps := 100000) (disch := first | (intros; contradiction) | omega) only [am0, am1, am2, am3, am4, am5, am6, am7, am8, am9, Nat.reduceSub, ↓reduceIte, reduceCtorEq, Nat.reduceEqDiff, Nat.reduceBEq, Nat.reduceAdd, Nat.reduceLT, Nat.reduceBNe, Nat.reduceMul, ↓reduceIte, tis, e1, List.map_append, hAA, eInts, List.map_cons, List.map_nil]
      omega
    · obtain rfl : i = p.length := by omega
      rw [List.take_length]
      simp -implicitDefEqProofs (maxSteps := 100000) (disch := first | (intros; contradiction) | omega) only [am0, am1, am2, am3, am4, am5, am6, am7, am8, am9, Nat.reduceSub, ↓reduceIte, reduceCtorEq, Nat.reduceEqDiff, Nat.reduceBEq, Nat.reduceAdd, Nat.reduceLT, Nat.reduceBNe, Nat.reduceMul, ↓reduceIte, tis, mkSSInt_len]
/-- No list of it is longer than Go's lists can be. -/
structure LensD (d : Dfa) : Prop where
  p : d.parts.length ≤ 9223372036854775807
  pc : ∀ c ∈ d.parts, c.length ≤ 9223372036854775807
  r : d.rows.length ≤ 9223372036854775807
  rc : ∀ c ∈ d.rows, c.length ≤ 9223372036854775807
  a : d.acc.length ≤ 9223372036854775807
/-- laws.szDfa -/
theorem fits_szDfa (d : Dfa) (n : Int) (h : LensD d) (hn : n ≤ 1048576) (hn0 : 0 ≤ n) : Fits prog 61 [eDfa false d, .int .i64 n] (.int .i64 (if n - bdD d < 0 then -1 else n - bdD d)) [] := by
  have hb : (bdD d : Int) = d.parts.length + sumS d.parts + (d.rows.length + sumS d.rows) + d.acc.length := by unfold bdD totS sumS; omega
  have c1 := fits_szSpanSS d.parts n h.p h.pc hn hn0
  unfold eDfa
  refine fits_of_code [4] [] [0, 1, 2, 4, 10, 16, 22] func61 rfl rfl rfl (by rfl) (by show 2 ≤ 24; decide) (by rfl) (by rfl) (by show 0 ≤ 2; decide) (by rfl) (run_of ?_)
  simp -implicitDefEqProofs (maxSteps := 100000) (disch := first | (intros; contradiction) | omega) only [am0, am1, am2, am3, am4, am5, am6, am7, am8, am9, Nat.reduceSub, ↓reduceIte, reduceCtorEq, Nat.reduceEqDiff, Nat.reduceBEq, Nat.reduceAdd, Nat.reduceLT, Nat.reduceBNe, Nat.reduceMul, ↓reduceIte, tis]
  refine callB c1 ?_
  by_cases h1 : n - d.parts.length - sumS d.parts < 0
  · have h5 : n - bdD d < 0 := by omega
    simp -implicitDefEqProofs (maxSteps := 100000) (disch := first | (intros; contradiction) | omega) only [am0, am1, am2, am3, am4, am5, am6, am7, am8, am9, Nat.reduceSub, ↓reduceIte, reduceCtorEq, Nat.reduceEqDiff, Nat.reduceBEq, Nat.reduceAdd, Nat.reduceLT, Nat.reduceBNe, Nat.reduceMul, ↓reduceIte, tis, fls, dx, h1, h5]
  have c2 := fits_szIntSS d.rows (n - d.parts.length - sumS d.parts) h.r h.rc (by omega) (by omega)
  simp -implicitDefEqProofs (maxSteps := 100000) (disch := first | (intros; contradiction) | omega) only [am0, am1, am2, am3, am4, am5, am6, am7, am8, am9, Nat.reduceSub, ↓reduceIte, reduceCtorEq, Nat.reduceEqDiff, Nat.reduceBEq, Nat.reduceAdd, Nat.reduceLT, Nat.reduceBNe, Nat.reduceMul, ↓reduceIte, tis, fls, dx, h1]
  refine callB c2 ?_
  by_cases h2 : n - d.parts.length - sumS d.parts - d.rows.length - sumS d.rows < 0
  · have h5 : n - bdD d < 0 := by omega
    simp -implicitDefEqProofs (maxSteps := 100000) (disch := first | (intros; contradiction) | omega) only [am0, am1, am2, am3, am4, am5, am6, am7, am8, am9, Nat.reduceSub, ↓reduceIte, reduceCtorEq, Nat.reduceEqDiff, Nat.reduceBEq, Nat.reduceAdd, Nat.reduceLT, Nat.reduceBNe, Nat.reduceMul, ↓reduceIte, tis, fls, dx, h2, h5]
  have c3 := fits_szIntS d.acc (n - d.parts.length - sumS d.parts - d.rows.length - sumS d.rows) h.a (by omega) (by omega)
  simp -implicitDefEqProofs (maxSteps := 100000) (disch := first | (intros; contradiction) | omega) only [am0, am1, am2, am3, am4, am5, am6, am7, am8, am9, Nat.reduceSub, ↓reduceIte, reduceCtorEq, Nat.reduceEqDiff, Nat.reduceBEq, Nat.reduceAdd, Nat.reduceLT, Nat.reduceBNe, Nat.reduceMul, ↓reduceIte, tis, fls, dx, h2]
  refine callB c3 ?_
  by_cases h3 : n - d.parts.length - sumS d.parts - d.rows.length - sumS d.rows - d.acc.length < 0
  · have h5 : n - bdD d < 0 := by omega
    simp -implicitDefEqProofs (maxSteps := 100000) (disch := first | (intros; contradiction) | omega) only [am0, am1, am2, am3, am4, am5, am6, am7, am8, am9, Nat.reduceSub, ↓reduceIte, reduceCtorEq, Nat.reduceEqDiff, Nat.reduceBEq, Nat.reduceAdd, Nat.reduceLT, Nat.reduceBNe, Nat.reduceMul, ↓reduceIte, tis, fls, dx, h3, h5]
  · have h5 : ¬ n - bdD d < 0 := by omega
    simp -implicitDefEqProofs (maxSteps := 100000) (disch := first | (intros; contradiction) | omega) only [am0, am1, am2, am3, am4, am5, am6, am7, am8, am9, Nat.reduceSub, ↓reduceIte, reduceCtorEq, Nat.reduceEqDiff, Nat.reduceBEq, Nat.reduceAdd, Nat.reduceLT, Nat.reduceBNe, Nat.reduceMul, ↓reduceIte, tis, fls, dx, h3, h5]
    omega
/-- None of its lists is long. -/
structure Small (d : Dfa) : Prop where
  p : d.parts.length ≤ 1048576
  ps : sumS d.parts ≤ 1048576
  r : d.rows.length ≤ 1048576
  rs : sumS d.rows ≤ 1048576
  a : d.acc.length ≤ 1048576
theorem small_of {d : Dfa} (h : bdD d ≤ 1048576) : Small d := by
  unfold bdD totS at h
  exact ⟨by omega, by unfold sumS; omega, by omega, by unfold sumS; omega, by omega⟩
theorem Small.pc {d : Dfa} (h : Small d) : ∀ c ∈ d.parts, c.length ≤ 1048576 := fun c hc => Nat.le_trans (sumS_mem hc) h.ps
theorem Small.rc {d : Dfa} (h : Small d) : ∀ c ∈ d.rows, c.length ≤ 1048576 := fun c hc => Nat.le_trans (sumS_mem hc) h.rs
/-- laws.toDfa -/
theorem fits_toDfa (d : Dfa) (h : Small d) : Fits prog 63 [eDfa false d] (eDfa true d) [] := by
  have c1 := fits_toSpanSS d.parts h.p h.pc
  have c2 := fits_toIntSS d.rows h.r h.rc
  have c3 := fits_toIntS d.acc h.a
  unfold eDfa
  refine fits_of_cell 2 94 [] [0, 1, 2, 3] func63 rfl rfl rfl (by show 2 < 17; decide) (by show 1 ≤ 17; decide) (by rfl) (by rfl) (by show 0 ≤ 1; decide) (by rfl) (run_of ?_)
  simp -implicitDefEqProofs (maxSteps := 100000) (disch := first | (intros; contradiction) | omega) only [am0, am1, am2, am3, am4, am5, am6, am7, am8, am9, Nat.reduceSub, ↓reduceIte, reduceCtorEq, Nat.reduceEqDiff, Nat.reduceBEq, Nat.reduceAdd, Nat.reduceLT, Nat.reduceBNe, Nat.reduceMul, ↓reduceIte, tis]
  refine callB c1 ?_
  simp -implicitDefEqProofs (maxSteps := 100000) (disch := first | (intros; contradiction) | omega) only [am0, am1, am2, am3, am4, am5, am6, am7, am8, am9, Nat.reduceSub, ↓reduceIte, reduceCtorEq, Nat.reduceEqDiff, Nat.reduceBEq, Nat.reduceAdd, Nat.reduceLT, Nat.reduceBNe, Nat.reduceMul, ↓reduceIte, tis, fls, dx]
  refine callB c2 ?_
  simp -implicitDefEqProofs (maxSteps := 100000) (disch := first | (intros; contradiction) | omega) only [am0, am1, am2, am3, am4, am5, am6, am7, am8, am9, Nat.reduceSub, ↓reduceIte, reduceCtorEq, Nat.reduceEqDiff, Nat.reduceBEq, Nat.reduceAdd, Nat.reduceLT, Nat.reduceBNe, Nat.reduceMul, ↓reduceIte, tis, fls, dx]
  refine callB c3 ?_
  simp -implicitDefEqProofs (maxSteps := 100000) (disch := first | (intros; contradiction) | omega) only [am0, am1, am2, am3, am4, am5, am6, am7, am8, am9, Nat.reduceSub, ↓reduceIte, reduceCtorEq, Nat.reduceEqDiff, Nat.reduceBEq, Nat.reduceAdd, Nat.reduceLT, Nat.reduceBNe, Nat.reduceMul, ↓reduceIte, tis, fls, dx]
/-- laws.eqDfa, of equals -/
theorem fits_eqDfa (d : Dfa) (h : Small d) : Fits prog 65 [eDfa false d, eDfa false d] (.bool true) [] := by
  have c1 := fits_eqSpanSS d.parts h.p h.pc
  have c2 := fits_eqIntSS d.rows h.r h.rc
  have c3 := fits_eqIntS d.acc d.acc h.a h.a
  rw [decide_eq_true rfl] at c3
  unfold eDfa
  refine fits_of_code [4] [] [0, 1, 2, 3, 4, 10, 16, 22] func65 rfl rfl rfl (by rfl) (by show 2 ≤ 23; decide) (by rfl) (by rfl) (by show 0 ≤ 2; decide) (by rfl) (run_of ?_)
  simp -implicitDefEqProofs (maxSteps := 100000) (disch := first | (intros; contradiction) | omega) only [am0, am1, am2, am3, am4, am5, am6, am7, am8, am9, Nat.reduceSub, ↓reduceIte, reduceCtorEq, Nat.reduceEqDiff, Nat.reduceBEq, Nat.reduceAdd, Nat.reduceLT, Nat.reduceBNe, Nat.reduceMul, ↓reduceIte, tis]
  refine callB c1 ?_
  simp -implicitDefEqProofs (maxSteps := 100000) (disch := first | (intros; contradiction) | omega) only [am0, am1, am2, am3, am4, am5, am6, am7, am8, am9, Nat.reduceSub, ↓reduceIte, reduceCtorEq, Nat.reduceEqDiff, Nat.reduceBEq, Nat.reduceAdd, Nat.reduceLT, Nat.reduceBNe, Nat.reduceMul, ↓reduceIte, tis, fls, dx]
  refine callB c2 ?_
  simp -implicitDefEqProofs (maxSteps := 100000) (disch := first | (intros; contradiction) | omega) only [am0, am1, am2, am3, am4, am5, am6, am7, am8, am9, Nat.reduceSub, ↓reduceIte, reduceCtorEq, Nat.reduceEqDiff, Nat.reduceBEq, Nat.reduceAdd, Nat.reduceLT, Nat.reduceBNe, Nat.reduceMul, ↓reduceIte, tis, fls, dx]
  refine callB c3 ?_
  simp -implicitDefEqProofs (maxSteps := 100000) (disch := first | (intros; contradiction) | omega) only [am0, am1, am2, am3, am4, am5, am6, am7, am8, am9, Nat.reduceSub, ↓reduceIte, reduceCtorEq, Nat.reduceEqDiff, Nat.reduceBEq, Nat.reduceAdd, Nat.reduceLT, Nat.reduceBNe, Nat.reduceMul, ↓reduceIte, tis, fls, dx]
/-- laws.markDfa, that takes its argument for good -/
theorem fits_markDfa (d : Dfa) (h : Small d) (k : Int) (h0 : 0 ≤ k) (hk : k ≤ 1048576) : Fits prog 66 [eDfa true d, .int .i64 k] (.int .i64 (k + 2 * sumS d.parts + 1 * sumS d.rows + 1 * d.acc.length)) [] := by
  have h1 := h.ps
  have h2 := h.rs
  have c1 := fits_markSpanSS d.parts k h.p h.ps h0 (by omega)
  have c2 := fits_markIntSS d.rows (k + 2 * sumS d.parts) h.r h.rs (by omega) (by omega)
  have c3 := fits_markIntS d.acc (k + 2 * sumS d.parts + 1 * sumS d.rows) h.a (by omega) (by omega)
  unfold eDfa
  refine fits_of_code [4] [] [0, 1, 2, 4] func66 rfl rfl rfl (by rfl) (by show 2 ≤ 18; decide) (by rfl) (by rfl) (by show 0 ≤ 2; decide) (by rfl) (run_of ?_)
  simp -implicitDefEqProofs (maxSteps := 100000) (disch := first | (intros; contradiction) | omega) only [am0, am1, am2, am3, am4, am5, am6, am7, am8, am9, Nat.reduceSub, ↓reduceIte, reduceCtorEq, Nat.reduceEqDiff, Nat.reduceBEq, Nat.reduceAdd, Nat.reduceLT, Nat.reduceBNe, Nat.reduceMul, ↓reduceIte, tis]
  refine callM 0 c1 ?_
  simp -implicitDefEqProofs (maxSteps := 100000) (disch := first | (intros; contradiction) | omega) only [am0, am1, am2, am3, am4, am5, am6, am7, am8, am9, Nat.reduceSub, ↓reduceIte, reduceCtorEq, Nat.reduceEqDiff, Nat.reduceBEq, Nat.reduceAdd, Nat.reduceLT, Nat.reduceBNe, Nat.reduceMul, ↓reduceIte, tis, fls, dx]
  refine callM 0 c2 ?_
  simp -implicitDefEqProofs (maxSteps := 100000) (disch := first | (intros; contradiction) | omega) only [am0, am1, am2, am3, am4, am5, am6, am7, am8, am9, Nat.reduceSub, ↓reduceIte, reduceCtorEq, Nat.reduceEqDiff, Nat.reduceBEq, Nat.reduceAdd, Nat.reduceLT, Nat.reduceBNe, Nat.reduceMul, ↓reduceIte, tis, fls, dx]
  refine callM 0 c3 ?_
  simp -implicitDefEqProofs (maxSteps := 100000) (disch := first | (intros; contradiction) | omega) only [am0, am1, am2, am3, am4, am5, am6, am7, am8, am9, Nat.reduceSub, ↓reduceIte, reduceCtorEq, Nat.reduceEqDiff, Nat.reduceBEq, Nat.reduceAdd, Nat.reduceLT, Nat.reduceBNe, Nat.reduceMul, ↓reduceIte, tis, fls, dx]
/-! What a right machine is. -/
def disjB (s t : List Span) : Bool := decide ((meetL s t).length = 0)
theorem disjB_iff {s t : List Span} (hs : setB s = true) (ht : setB t = true) : disjB s t = true ↔ ∀ i : Nat, i < 256 → hasB s i = true → hasB t i = false := by
  unfold disjB meetL
  rw [if_pos ⟨hs, ht⟩, decide_eq_true_eq]
  have hp := spansL_pos (meetB_len s t)
  constructor
  · intro h i hi h1
    cases h2 : hasB t i with
    | false => rfl
    | true =>
      have : 0 < (spansL (meetB s t)).length := hp.2 ⟨i, hi, by
        have hl := meetB_len s t
        have hil : i < (meetB s t).length := by omega
        have := meetB_get s t i hil
        rw [h1, h2] at this
        simp [List.getD, hil, this]⟩
      omega
  · intro h
    apply Classical.byContradiction
    intro hne
    obtain ⟨i, hi, h2⟩ := hp.1 (by omega)
    have hl := meetB_len s t
    have hil : i < (meetB s t).length := by omega
    have h3 := meetB_get s t i hil
    simp only [List.getD, List.getElem?_eq_getElem hil, Option.getD_some] at h2
    rw [h3, Bool.and_eq_true] at h2
    rw [h i hi h2.1] at h2
    simp at h2
def partN (L : List (List Span)) (i : Nat) : Bool := match L[i]? with
  | some p => setB p && (decide (0 < p.length) && ((decide (i = 0) || decide (firstB (L.getD (i - 1) []) < firstB p)) && (List.range i).all (fun k => disjB p (L.getD k []))))
  | none => false
theorem partN_at {L : List (List Span)} {i : Nat} (h : i < L.length) : partN L i = (setB L[i] && (decide (0 < L[i].length) && ((decide (i = 0) || decide (firstB (L.getD (i - 1) []) < firstB L[i])) && (List.range i).all (fun k => disjB L[i] (L.getD k []))))) := by
  simp [partN, h]
def partsB (L : List (List Span)) : Bool := (List.range L.length).all (partN L) && decide ((L.map cntB).sum = 256)
theorem partsB_f {L : List (List Span)} {i : Nat} (hi : i < L.length) (h : partN L i = false) : partsB L = false := by
  unfold partsB
  have : (List.range L.length).all (partN L) = false := by rw [List.all_eq_false]; exact ⟨i, by simpa using hi, by simp [h]⟩
  rw [this]; rfl
theorem partsB_t {L : List (List Span)} (h : ∀ i, i < L.length → partN L i = true) : partsB L = decide ((L.map cntB).sum = 256) := by
  unfold partsB
  have : (List.range L.length).all (partN L) = true := by simpa using h
  rw [this]; rfl
theorem partN_set {L : List (List Span)} {i : Nat} (hi : i < L.length) (h : partN L i = true) : setB L[i] = true ∧ 0 < L[i].length := by
  rw [partN_at hi] at h
  simp only [Bool.and_eq_true, decide_eq_true_eq] at h
  exact ⟨h.1, h.2.1⟩
theorem sum_take {L : List (List Span)} {i : Nat} (h : i < L.length) : ((L.take (i + 1)).map cntB).sum = ((L.take i).map cntB).sum + cntB L[i] := by
  rw [List.take_succ_eq_append_getElem h, List.map_append, List.sum_append]; rfl
theorem sum_le (L : List (List Span)) : (L.map cntB).sum ≤ 256 * L.length := by
  induction L with
  | nil => simp
  | cons x L ih =>
    have := cntN_le x 256
    simp only [List.map_cons, List.sum_cons, List.length_cons, cntB] at *
    omega
def rowN (d : Dfa) (i : Nat) : Bool := match d.rows[i]?, d.acc[i]? with
  | some row, some a => decide (row.length = d.parts.length) && (decide (-1 ≤ a ∧ a ≤ 4) && row.all (fun s => decide (-1 ≤ s ∧ s ≤ (d.rows.length : Int) - 1)))
  | _, _ => false
theorem rowN_at {d : Dfa} {i : Nat} (h : i < d.rows.length) (h2 : i < d.acc.length) : rowN d i = (decide (d.rows[i].length = d.parts.length) && (decide (-1 ≤ d.acc[i] ∧ d.acc[i] ≤ 4) && d.rows[i].all (fun s => decide (-1 ≤ s ∧ s ≤ (d.rows.length : Int) - 1)))) := by
  simp [rowN, h, h2]
def dfaB (d : Dfa) : Bool := partsB d.parts && (decide (1 ≤ d.rows.length ∧ d.rows.length ≤ 40) && (decide (d.acc.length = d.rows.length) && (List.range d.rows.length).all (rowN d)))
theorem rows_f {d : Dfa} {i : Nat} (hi : i < d.rows.length) (h : rowN d i = false) : dfaB d = false := by
  unfold dfaB
  have : (List.range d.rows.length).all (rowN d) = false := by rw [List.all_eq_false]; exact ⟨i, by simpa using hi, by simp [h]⟩
  rw [this]; simp
theorem rows_t {d : Dfa} (h1 : partsB d.parts = true) (h2 : 1 ≤ d.rows.length ∧ d.rows.length ≤ 40) (h3 : d.acc.length = d.rows.length) (h : ∀ i, i < d.rows.length → rowN d i = true) : dfaB d = true := by
  unfold dfaB
  have : (List.range d.rows.length).all (rowN d) = true := by simpa using h
  rw [h1, decide_eq_true h2, decide_eq_true h3, this]; rfl
/-- spec.l7Parts -/
theorem fits_l7Parts (L : List (List Span)) (hL : L.length ≤ 1048576) (hc : ∀ c ∈ L, c.length ≤ 1048576) : Fits prog 160 [.sl false 1 (L.map (eSpans false))] (.bool (partsB L)) [] := by
  refine fits_of_code [2] [] [0, 2, 3, 4, 5, 9, 43, 46, 59] func160 rfl rfl rfl (by rfl) (by show 1 ≤ 69; decide) (by rfl) (by rfl) (by show 0 ≤ 1; decide) (by rfl) (run_of ?_)
  simp -implicitDefEqProofs (maxSteps := 100000) (disch := first | (intros; contradiction) | omega) only [am0, am1, am2, am3, am4, am5, am6, am7, am8, am9, Nat.reduceSub, ↓reduceIte, reduceCtorEq, Nat.reduceEqDiff, Nat.reduceBEq, Nat.reduceAdd, Nat.reduceLT, Nat.reduceBNe, Nat.reduceMul, ↓reduceIte, tis, fls]
  refine run_loop (α := Nat) (fun i => i ≤ L.length ∧ ∀ j, j < i → partN L j = true) (fun i => [(0, .sl false 1 (L.map (eSpans false))), (3, .int .i64 (((L.take i).map cntB).sum : Nat)), (4, .int .i64 i)]) (fun i => L.length - i) 0 ⟨Nat.zero_le _, by intros; omega⟩ ?_ ?_
  · simp -implicitDefEqProofs (maxSteps := 100000) (disch := first | (intros; contradiction) | omega) only [am0, am1, am2, am3, am4, am5, am6, am7, am8, am9, Nat.reduceSub, ↓reduceIte, reduceCtorEq, Nat.reduceEqDiff, Nat.reduceBEq, Nat.reduceAdd, Nat.reduceLT, Nat.reduceBNe, Nat.reduceMul, ↓reduceIte, tis, List.map_nil, List.sum_nil]
  · rintro i ⟨hi', hb⟩
    by_cases hi : i < L.length
    · have hci := hc _ (List.getElem_mem hi)
      have hP := partN_at hi
      have hS := sum_take hi
      have hsl := sum_le (L.take i)
      have hcl : cntB L[i] ≤ 256 := cntN_le L[i] 256
      have htl : (L.take i).length = i := by simp; omega
      have c1 := fits_sSetOk L[i] (by omega)
      have cF := fits_sSetFirst L[i] hci
      have cZ := fits_sSetSize L[i] hci
      have gi : (L.map (eSpans false)).getD i .undef = .sl false 2 (L[i].map eSpan) := by simp [List.getD, hi, eSpans]
      have gi2 : (L.map (eSpans false))[i]? = some (.sl false 2 (L[i].map eSpan)) := by simp [hi, eSpans]
      by_cases g1 : setB L[i] = true
      · rw [g1] at c1
        by_cases g2 : L[i].length = 0
        · have hf : partN L i = false := by rw [hP, g1, decide_eq_false (by omega)]; rfl
          have hf := partsB_f hi hf
          have g2' : (L[i].length : Int) = 0 := by omega
          simp -implicitDefEqProofs (maxSteps := 100000) (disch := first | (intros; contradiction) | omega) only [am0, am1, am2, am3, am4, am5, am6, am7, am8, am9, Nat.reduceSub, ↓reduceIte, reduceCtorEq, Nat.reduceEqDiff, Nat.reduceBEq, Nat.reduceAdd, Nat.reduceLT, Nat.reduceBNe, Nat.reduceMul, ↓reduceIte, tis, fls, gi, gi2]
          refine .inl ⟨by kernel_rfl, ?_⟩
          refine callL c1 ?_
          simp -implicitDefEqProofs (maxSteps := 100000) (disch := first | (intros; contradiction) | omega) only [am0, am1, am2, am3, am4, am5, am6, am7, am8, am9, Nat.reduceSub, ↓reduceIte, reduceCtorEq, Nat.reduceEqDiff, Nat.reduceBEq, Nat.reduceAdd, Nat.reduceLT, Nat.reduceBNe, Nat.reduceMul, ↓reduceIte, tis, fls, gi, gi2, g2', hf]
        · have g2' : ¬ (L[i].length : Int) = 0 := by omega
          by_cases g3 : i = 0 ∨ firstB (L.getD (i - 1) []) < firstB L[i]
          · -- the pairs
            have hP2 : partN L i = (List.range i).all (fun k => disjB L[i] (L.getD k [])) := by
              rw [hP, g1, decide_eq_true (show 0 < L[i].length by omega)]
              have : (decide (i = 0) || decide (firstB (L.getD (i - 1) []) < firstB L[i])) = true := by simpa using g3
              rw [this]; simp
            by_cases hi0 : (0 : Int) < i
            · have hj : i - 1 < L.length := by omega
              have hcj := hc _ (List.getElem_mem hj)
              have ej : ((i : Int) - 1).toNat = i - 1 := by omega
              have cF2 := fits_sSetFirst L[i - 1] hcj
              have gj : (L.map (eSpans false)).getD (i - 1) .undef = .sl false 2 (L[i - 1].map eSpan) := by simp [List.getD, hj, eSpans]
              have gj2 : (L.map (eSpans false))[i - 1]? = some (.sl false 2 (L[i - 1].map eSpan)) := by simp [hj, eSpans]
              have g4 : ¬ firstB L[i] ≤ firstB L[i - 1] := by
                rcases g3 with h | h
                · omega
                · simp only [List.getD, List.getElem?_eq_getElem hj, Option.getD_some] at h; omega
              simp -implicitDefEqProofs (maxSteps := 100000) (disch := first | (intros; contradiction) | omega) only [am0, am1, am2, am3, am4, am5, am6, am7, am8, am9, Nat.reduceSub, ↓reduceIte, reduceCtorEq, Nat.reduceEqDiff, Nat.reduceBEq, Nat.reduceAdd, Nat.reduceLT, Nat.reduceBNe, Nat.reduceMul, ↓reduceIte, tis, fls, gi, gi2]
              refine .inl ⟨by kernel_rfl, ?_⟩
              refine callL c1 ?_
              simp -implicitDefEqProofs (maxSteps := 100000) (disch := first | (intros; contradiction) | omega) only [am0, am1, am2, am3, am4, am5, am6, am7, am8, am9, Nat.reduceSub, ↓reduceIte, reduceCtorEq, Nat.reduceEqDiff, Nat.reduceBEq, Nat.reduceAdd, Nat.reduceLT, Nat.reduceBNe, Nat.reduceMul, ↓reduceIte, tis, fls, gi, gi2, g2', hi0]
              refine callL cF ?_
              simp -implicitDefEqProofs (maxSteps := 100000) (disch := first | (intros; contradiction) | omega) only [am0, am1, am2, am3, am4, am5, am6, am7, am8, am9, Nat.reduceSub, ↓reduceIte, reduceCtorEq, Nat.reduceEqDiff, Nat.reduceBEq, Nat.reduceAdd, Nat.reduceLT, Nat.reduceBNe, Nat.reduceMul, ↓reduceIte, tis, fls, ej, gj, gj2]
              refine callL cF2 ?_
              simp -implicitDefEqProofs (maxSteps := 100000) (disch := first | (intros; contradiction) | omega) only [am0, am1, am2, am3, am4, am5, am6, am7, am8, am9, Nat.reduceSub, ↓reduceIte, reduceCtorEq, Nat.reduceEqDiff, Nat.reduceBEq, Nat.reduceAdd, Nat.reduceLT, Nat.reduceBNe, Nat.reduceMul, ↓reduceIte, tis, fls, g4]
              refine run_loop (α := Nat) (fun k => k ≤ i ∧ ∀ k', k' < k → disjB L[i] (L.getD k' []) = true) (fun k => [(0, .sl false 1 (L.map (eSpans false))), (3, .int .i64 (((L.take i).map cntB).sum : Nat)), (4, .int .i64 i), (5, .int .i64 k)]) (fun k => i - k) 0 ⟨Nat.zero_le _, by intros; omega⟩ ?_ ?_
              · simp -implicitDefEqProofs (maxSteps := 100000) (disch := first | (intros; contradiction) | omega) only [am0, am1, am2, am3, am4, am5, am6, am7, am8, am9, Nat.reduceSub, ↓reduceIte, reduceCtorEq, Nat.reduceEqDiff, Nat.reduceBEq, Nat.reduceAdd, Nat.reduceLT, Nat.reduceBNe, Nat.reduceMul, ↓reduceIte, tis]
              · rintro k ⟨hk', hkb⟩
                by_cases hk : k < i
                · have hkl : k < L.length := by omega
                  have cM := fits_sSetMeet L[i] L[k] hci (hc _ (List.getElem_mem hkl))
                  have gk : (L.map (eSpans false)).getD k .undef = .sl false 2 (L[k].map eSpan) := by simp [List.getD, hkl, eSpans]
                  have gk2 : (L.map (eSpans false))[k]? = some (.sl false 2 (L[k].map eSpan)) := by simp [hkl, eSpans]
                  have gkd : L.getD k [] = L[k] := by simp [List.getD, hkl]
                  by_cases g5 : (0 : Int) < (meetL L[i] L[k]).length
                  · have hd : disjB L[i] (L.getD k []) = false := by rw [gkd]; unfold disjB; rw [decide_eq_false]; omega
                    have hf : partN L i = false := by rw [hP2, List.all_eq_false]; exact ⟨k, by simpa using hk, by rw [hd]; simp⟩
                    have hf := partsB_f hi hf
                    simp -implicitDefEqProofs (maxSteps := 100000) (disch := first | (intros; contradiction) | omega) only [am0, am1, am2, am3, am4, am5, am6, am7, am8, am9, Nat.reduceSub, ↓reduceIte, reduceCtorEq, Nat.reduceEqDiff, Nat.reduceBEq, Nat.reduceAdd, Nat.reduceLT, Nat.reduceBNe, Nat.reduceMul, ↓reduceIte, tis, fls, gi, gi2, gk, gk2]
                    refine .inl ⟨by kernel_rfl, ?_⟩
                    refine callL cM ?_
                    simp -implicitDefEqProofs (maxSteps := 100000) (disch := first | (intros; contradiction) | omega) only [am0, am1, am2, am3, am4, am5, am6, am7, am8, am9, Nat.reduceSub, ↓reduceIte, reduceCtorEq, Nat.reduceEqDiff, Nat.reduceBEq, Nat.reduceAdd, Nat.reduceLT, Nat.reduceBNe, Nat.reduceMul, ↓reduceIte, tis, fls, g5, hf]
                  · have hd : disjB L[i] (L.getD k []) = true := by rw [gkd]; unfold disjB; rw [decide_eq_true]; omega
                    simp -implicitDefEqProofs (maxSteps := 100000) (disch := first | (intros; contradiction) | omega) only [am0, am1, am2, am3, am4, am5, am6, am7, am8, am9, Nat.reduceSub, ↓reduceIte, reduceCtorEq, Nat.reduceEqDiff, Nat.reduceBEq, Nat.reduceAdd, Nat.reduceLT, Nat.reduceBNe, Nat.reduceMul, ↓reduceIte, tis, fls, gi, gi2, gk, gk2]
                    refine .inl ⟨by kernel_rfl, ?_⟩
                    refine callL cM ?_
                    simp -implicitDefEqProofs (maxSteps := 100000) (disch := first | (intros; contradiction) | omega) only [am0, am1, am2, am3, am4, am5, am6, am7, am8, am9, Nat.reduceSub, ↓reduceIte, reduceCtorEq, Nat.reduceEqDiff, Nat.reduceBEq, Nat.reduceAdd, Nat.reduceLT, Nat.reduceBNe, Nat.reduceMul, ↓reduceIte, tis, fls, g5]
                    refine round_normal (k + 1) ⟨by omega, fun k' hk2 => ?_⟩ ?_ (by show i - (k + 1) < i - k; omega)
                    · by_cases e : k' = k
                      · subst e; exact hd
                      · exact hkb k' (by omega)
                    · simp -implicitDefEqProofs (maxSteps := 100000) (disch := first | (intros; contradiction) | omega) only [am0, am1, am2, am3, am4, am5, am6, am7, am8, am9, Nat.reduceSub, ↓reduceIte, reduceCtorEq, Nat.reduceEqDiff, Nat.reduceBEq, Nat.reduceAdd, Nat.reduceLT, Nat.reduceBNe, Nat.reduceMul, ↓reduceIte, tis]
                · obtain rfl : k = i := by omega
                  simp -implicitDefEqProofs (maxSteps := 100000) (disch := first | (intros; contradiction) | omega) only [am0, am1, am2, am3, am4, am5, am6, am7, am8, am9, Nat.reduceSub, ↓reduceIte, reduceCtorEq, Nat.reduceEqDiff, Nat.reduceBEq, Nat.reduceAdd, Nat.reduceLT, Nat.reduceBNe, Nat.reduceMul, ↓reduceIte, tis, fls, gi, gi2]
                  refine callB cZ ?_
                  simp -implicitDefEqProofs (maxSteps := 100000) (disch := first | (intros; contradiction) | omega) only [am0, am1, am2, am3, am4, am5, am6, am7, am8, am9, Nat.reduceSub, ↓reduceIte, reduceCtorEq, Nat.reduceEqDiff, Nat.reduceBEq, Nat.reduceAdd, Nat.reduceLT, Nat.reduceBNe, Nat.reduceMul, ↓reduceIte, tis, fls]
                  refine round_normal (k + 1) ⟨by omega, fun j hj3 => ?_⟩ ?_ (by show L.length - (k + 1) < L.length - k; omega)
                  · by_cases e : j = k
                    · subst e; rw [hP2]; simpa using hkb
                    · exact hb j (by omega)
                  · simp -implicitDefEqProofs (maxSteps := 100000) (disch := first | (intros; contradiction) | omega) only [am0, am1, am2, am3, am4, am5, am6, am7, am8, am9, Nat.reduceSub, ↓reduceIte, reduceCtorEq, Nat.reduceEqDiff, Nat.reduceBEq, Nat.reduceAdd, Nat.reduceLT, Nat.reduceBNe, Nat.reduceMul, ↓reduceIte, tis, hS]
            · obtain rfl : i = 0 := by omega
              simp -implicitDefEqProofs (maxSteps := 100000) (disch := first | (intros; contradiction) | omega) only [am0, am1, am2, am3, am4, am5, am6, am7, am8, am9, Nat.reduceSub, ↓reduceIte, reduceCtorEq, Nat.reduceEqDiff, Nat.reduceBEq, Nat.reduceAdd, Nat.reduceLT, Nat.reduceBNe, Nat.reduceMul, ↓reduceIte, tis, fls, gi, gi2]
              refine .inl ⟨by kernel_rfl, ?_⟩
              refine callL c1 ?_
              simp -implicitDefEqProofs (maxSteps := 100000) (disch := first | (intros; contradiction) | omega) only [am0, am1, am2, am3, am4, am5, am6, am7, am8, am9, Nat.reduceSub, ↓reduceIte, reduceCtorEq, Nat.reduceEqDiff, Nat.reduceBEq, Nat.reduceAdd, Nat.reduceLT, Nat.reduceBNe, Nat.reduceMul, ↓reduceIte, tis, fls, gi, gi2, g2']
              refine run_loop (α := Nat) (fun k => k = 0) (fun k => [(0, .sl false 1 (L.map (eSpans false))), (3, .int .i64 (((L.take 0).map cntB).sum : Nat)), (4, .int .i64 0), (5, .int .i64 k)]) (fun k => k) 0 rfl ?_ ?_
              · simp -implicitDefEqProofs (maxSteps := 100000) (disch := first | (intros; contradiction) | omega) only [am0, am1, am2, am3, am4, am5, am6, am7, am8, am9, Nat.reduceSub, ↓reduceIte, reduceCtorEq, Nat.reduceEqDiff, Nat.reduceBEq, Nat.reduceAdd, Nat.reduceLT, Nat.reduceBNe, Nat.reduceMul, ↓reduceIte, tis]
              · intro k hk
                subst hk
                simp -implicitDefEqProofs (maxSteps := 100000) (disch := first | (intros; contradiction) | omega) only [am0, am1, am2, am3, am4, am5, am6, am7, am8, am9, Nat.reduceSub, ↓reduceIte, reduceCtorEq, Nat.reduceEqDiff, Nat.reduceBEq, Nat.reduceAdd, Nat.reduceLT, Nat.reduceBNe, Nat.reduceMul, ↓reduceIte, tis, fls, gi, gi2]
                refine callB cZ ?_
                simp -implicitDefEqProofs (maxSteps := 100000) (disch := first | (intros; contradiction) | omega) only [am0, am1, am2, am3, am4, am5, am6, am7, am8, am9, Nat.reduceSub, ↓reduceIte, reduceCtorEq, Nat.reduceEqDiff, Nat.reduceBEq, Nat.reduceAdd, Nat.reduceLT, Nat.reduceBNe, Nat.reduceMul, ↓reduceIte, tis, fls]
                refine round_normal 1 ⟨by omega, fun j hj3 => ?_⟩ ?_ (by show L.length - 1 < L.length - 0; omega)
                · obtain rfl : j = 0 := by omega
                  rw [hP2]; rfl
                · rw [Nat.zero_add] at hS
                  simp -implicitDefEqProofs (maxSteps := 100000) (disch := first | (intros; contradiction) | omega) only [am0, am1, am2, am3, am4, am5, am6, am7, am8, am9, Nat.reduceSub, ↓reduceIte, reduceCtorEq, Nat.reduceEqDiff, Nat.reduceBEq, Nat.reduceAdd, Nat.reduceLT, Nat.reduceBNe, Nat.reduceMul, ↓reduceIte, tis, hS, List.sum_nil]
          · have hi0 : (0 : Int) < i := by omega
            have hj : i - 1 < L.length := by omega
            have hcj := hc _ (List.getElem_mem hj)
            have ej : ((i : Int) - 1).toNat = i - 1 := by omega
            have cF2 := fits_sSetFirst L[i - 1] hcj
            have gj : (L.map (eSpans false)).getD (i - 1) .undef = .sl false 2 (L[i - 1].map eSpan) := by simp [List.getD, hj, eSpans]
            have gj2 : (L.map (eSpans false))[i - 1]? = some (.sl false 2 (L[i - 1].map eSpan)) := by simp [hj, eSpans]
            have g4 : firstB L[i] ≤ firstB L[i - 1] := by
              have h : ¬ firstB (L.getD (i - 1) []) < firstB L[i] := fun h => g3 (.inr h)
              simp only [List.getD, List.getElem?_eq_getElem hj, Option.getD_some] at h; omega
            have hf : partN L i = false := by
              rw [hP, decide_eq_false (show ¬ i = 0 by omega), decide_eq_false (fun h => g3 (.inr h))]; simp
            have hf := partsB_f hi hf
            simp -implicitDefEqProofs (maxSteps := 100000) (disch := first | (intros; contradiction) | omega) only [am0, am1, am2, am3, am4, am5, am6, am7, am8, am9, Nat.reduceSub, ↓reduceIte, reduceCtorEq, Nat.reduceEqDiff, Nat.reduceBEq, Nat.reduceAdd, Nat.reduceLT, Nat.reduceBNe, Nat.reduceMul, ↓reduceIte, tis, fls, gi, gi2]
            refine .inl ⟨by kernel_rfl, ?_⟩
            refine callL c1 ?_
            simp -implicitDefEqProofs (maxSteps := 100000) (disch := first | (intros; contradiction) | omega) only [am0, am1, am2, am3, am4, am5, am6, am7, am8, am9, Nat.reduceSub, ↓reduceIte, reduceCtorEq, Nat.reduceEqDiff, Nat.reduceBEq, Nat.reduceAdd, Nat.reduceLT, Nat.reduceBNe, Nat.reduceMul, ↓reduceIte, tis, fls, gi, gi2, g2', hi0]
            refine callL cF ?_
            simp -implicitDefEqProofs (maxSteps := 100000) (disch := first | (intros; contradiction) | omega) only [am0, am1, am2, am3, am4, am5, am6, am7, am8, am9, Nat.reduceSub, ↓reduceIte, reduceCtorEq, Nat.reduceEqDiff, Nat.reduceBEq, Nat.reduceAdd, Nat.reduceLT, Nat.reduceBNe, Nat.reduceMul, ↓reduceIte, tis, fls, ej, gj, gj2]
            refine callL cF2 ?_
            simp -implicitDefEqProofs (maxSteps := 100000) (disch := first | (intros; contradiction) | omega) only [am0, am1, am2, am3, am4, am5, am6, am7, am8, am9, Nat.reduceSub, ↓reduceIte, reduceCtorEq, Nat.reduceEqDiff, Nat.reduceBEq, Nat.reduceAdd, Nat.reduceLT, Nat.reduceBNe, Nat.reduceMul, ↓reduceIte, tis, fls, g4, hf]
      · have g1 : setB L[i] = false := by simpa using g1
        have hf : partN L i = false := by rw [hP, g1]; rfl
        have hf := partsB_f hi hf
        rw [g1] at c1
        simp -implicitDefEqProofs (maxSteps := 100000) (disch := first | (intros; contradiction) | omega) only [am0, am1, am2, am3, am4, am5, am6, am7, am8, am9, Nat.reduceSub, ↓reduceIte, reduceCtorEq, Nat.reduceEqDiff, Nat.reduceBEq, Nat.reduceAdd, Nat.reduceLT, Nat.reduceBNe, Nat.reduceMul, ↓reduceIte, tis, fls, gi, gi2]
        refine .inl ⟨by kernel_rfl, ?_⟩
        refine callL c1 ?_
        simp -implicitDefEqProofs (maxSteps := 100000) (disch := first | (intros; contradiction) | omega) only [am0, am1, am2, am3, am4, am5, am6, am7, am8, am9, Nat.reduceSub, ↓reduceIte, reduceCtorEq, Nat.reduceEqDiff, Nat.reduceBEq, Nat.reduceAdd, Nat.reduceLT, Nat.reduceBNe, Nat.reduceMul, ↓reduceIte, tis, fls, hf]
    · obtain rfl : i = L.length := by omega
      rw [List.take_length]
      have ht := partsB_t hb
      have e : (((L.map cntB).sum : Nat) : Int) = 256 ↔ (L.map cntB).sum = 256 := by omega
      simp -implicitDefEqProofs (maxSteps := 100000) (disch := first | (intros; contradiction) | omega) only [am0, am1, am2, am3, am4, am5, am6, am7, am8, am9, Nat.reduceSub, ↓reduceIte, reduceCtorEq, Nat.reduceEqDiff, Nat.reduceBEq, Nat.reduceAdd, Nat.reduceLT, Nat.reduceBNe, Nat.reduceMul, ↓reduceIte, tis, fls, ht]
      rw [Bool.eq_iff_iff]
      simp [e]
/-- laws.toIns -/
theorem fits_toIns (x : Ins) : Fits prog 102 [eIns x] (eIns x) [] := by
  refine fits_of_cell 2 129 [] [0, 1, 2, 3] func102 rfl rfl rfl (by show 2 < 17; decide) (by show 1 ≤ 17; decide) (by rfl) (by rfl) (by show 0 ≤ 1; decide) (by rfl) (run_of ?_)
  simp -implicitDefEqProofs only [am0, am1, am2, am3, am4, am5, am6, am7, am8, am9, Nat.reduceSub, ↓reduceIte, reduceCtorEq, Nat.reduceEqDiff, Nat.reduceBEq, Nat.reduceAdd, Nat.reduceLT, Nat.reduceBNe, Nat.reduceMul, ↓reduceIte, tis, eIns]
/-- laws.eqIns -/
theorem fits_eqIns (x y : Ins) : Fits prog 107 [eIns x, eIns y] (.bool (decide (x = y))) [] := by
  refine fits_of_code [4] [] [0, 1, 2, 3, 4, 9, 14, 19, 24] func107 rfl rfl rfl (by rfl) (by show 2 ≤ 25; decide) (by rfl) (by rfl) (by show 0 ≤ 2; decide) (by rfl) (run_of ?_)
  obtain ⟨a0, a1, a2, a3⟩ := x
  obtain ⟨b0, b1, b2, b3⟩ := y
  by_cases h0 : a0 = b0
  case neg =>
    simp -implicitDefEqProofs (maxSteps := 100000) (disch := first | (intros; contradiction) | omega) only [am0, am1, am2, am3, am4, am5, am6, am7, am8, am9, Nat.reduceSub, ↓reduceIte, reduceCtorEq, Nat.reduceEqDiff, Nat.reduceBEq, Nat.reduceAdd, Nat.reduceLT, Nat.reduceBNe, Nat.reduceMul, ↓reduceIte, tis, eIns, h0]
    simp [h0]
  by_cases h1 : a1 = b1
  case neg =>
    simp -implicitDefEqProofs (maxSteps := 100000) (disch := first | (intros; contradiction) | omega) only [am0, am1, am2, am3, am4, am5, am6, am7, am8, am9, Nat.reduceSub, ↓reduceIte, reduceCtorEq, Nat.reduceEqDiff, Nat.reduceBEq, Nat.reduceAdd, Nat.reduceLT, Nat.reduceBNe, Nat.reduceMul, ↓reduceIte, tis, eIns, h0, h1]
    simp [h1]
  by_cases h2 : a2 = b2
  case neg =>
    simp -implicitDefEqProofs (maxSteps := 100000) (disch := first | (intros; contradiction) | omega) only [am0, am1, am2, am3, am4, am5, am6, am7, am8, am9, Nat.reduceSub, ↓reduceIte, reduceCtorEq, Nat.reduceEqDiff, Nat.reduceBEq, Nat.reduceAdd, Nat.reduceLT, Nat.reduceBNe, Nat.reduceMul, ↓reduceIte, tis, eIns, h0, h1, h2]
    simp [h2]
  by_cases h3 : a3 = b3
  case neg =>
    simp -implicitDefEqProofs (maxSteps := 100000) (disch := first | (intros; contradiction) | omega) only [am0, am1, am2, am3, am4, am5, am6, am7, am8, am9, Nat.reduceSub, ↓reduceIte, reduceCtorEq, Nat.reduceEqDiff, Nat.reduceBEq, Nat.reduceAdd, Nat.reduceLT, Nat.reduceBNe, Nat.reduceMul, ↓reduceIte, tis, eIns, h0, h1, h2, h3]
    simp [h3]
  simp -implicitDefEqProofs (maxSteps := 100000) (disch := first | (intros; contradiction) | omega) only [am0, am1, am2, am3, am4, am5, am6, am7, am8, am9, Nat.reduceSub, ↓reduceIte, reduceCtorEq, Nat.reduceEqDiff, Nat.reduceBEq, Nat.reduceAdd, Nat.reduceLT, Nat.reduceBNe, Nat.reduceMul, ↓reduceIte, tis, eIns, h0, h1, h2, h3]
/-- laws.szInsS -/
theorem fits_szInsS (p : List Ins) (n : Int) (hp : p.length ≤ 9223372036854775807) (hn : n ≤ 1048576) (hn0 : 0 ≤ n) : Fits prog 37 [.sl false 4 (p.map eIns), .int .i64 n] (.int .i64 (if n - p.length < 0 then -1 else n - p.length)) [] := by
  refine fits_of_code [4] [] [0, 1, 4, 10] func37 rfl rfl rfl (by rfl) (by show 2 ≤ 12; decide) (by rfl) (by rfl) (by show 0 ≤ 2; decide) (by rfl) (run_of ?_)
  by_cases hl : n - p.length < 0
  · simp -implicitDefEqProofs (maxSteps := 100000) (disch := first | (intros; contradiction) | omega) only [am0, am1, am2, am3, am4, am5, am6, am7, am8, am9, Nat.reduceSub, ↓reduceIte, reduceCtorEq, Nat.reduceEqDiff, Nat.reduceBEq, Nat.reduceAdd, Nat.reduceLT, Nat.reduceBNe, Nat.reduceMul, ↓reduceIte, tis, hl]
  · simp -implicitDefEqProofs (maxSteps := 100000) (disch := first | (intros; contradiction) | omega) only [am0, am1, am2, am3, am4, am5, am6, am7, am8, am9, Nat.reduceSub, ↓reduceIte, reduceCtorEq, Nat.reduceEqDiff, Nat.reduceBEq, Nat.reduceAdd, Nat.reduceLT, Nat.reduceBNe, Nat.reduceMul, ↓reduceIte, tis, hl]
/-- laws.toInsS -/
theorem fits_toInsS (p : List Ins) (hp : p.length ≤ 1048576) : Fits prog 40 [.sl false 4 (p.map eIns)] (.sl true 4 (p.map eIns)) [] := by
  refine fits_of_code [2] [] [0, 2, 3, 4, 11] func40 rfl rfl rfl (by rfl) (by show 1 ≤ 23; decide) (by rfl) (by rfl) (by show 0 ≤ 1; decide) (by rfl) (run_of ?_)
  simp -implicitDefEqProofs (maxSteps := 100000) (disch := first | (intros; contradiction) | omega) only [am0, am1, am2, am3, am4, am5, am6, am7, am8, am9, Nat.reduceSub, ↓reduceIte, reduceCtorEq, Nat.reduceEqDiff, Nat.reduceBEq, Nat.reduceAdd, Nat.reduceLT, Nat.reduceBNe, Nat.reduceMul, ↓reduceIte, tis]
  refine run_loop (α := Nat) (fun i => i ≤ p.length) (fun i => [(0, .sl false 4 (p.map eIns)), (3, .sl true 4 ((p.take i).map eIns ++ List.replicate (p.length - i) (eIns ⟨0, 0, 0, 0⟩))), (4, .int .i64 i)]) (fun i => p.length - i) 0 (Nat.zero_le _) ?_ ?_
  · simp -implicitDefEqProofs (maxSteps := 100000) (disch := first | (intros; contradiction) | omega) only [am0, am1, am2, am3, am4, am5, am6, am7, am8, am9, Nat.reduceSub, ↓reduceIte, reduceCtorEq, Nat.reduceEqDiff, Nat.reduceBEq, Nat.reduceAdd, Nat.reduceLT, Nat.reduceBNe, Nat.reduceMul, ↓reduceIte, eIns]
  · intro i hi'
    by_cases hi : i < p.length
    · have g2 := build_get eIns (eIns ⟨0, 0, 0, 0⟩) p i hi
      have g3 := build_set eIns (eIns ⟨0, 0, 0, 0⟩) p i hi
      have g4 := build_len eIns (eIns ⟨0, 0, 0, 0⟩) p i hi'
      simp only [eIns] at g2 g3 g4
      simp -implicitDefEqProofs (maxSteps := 100000) (disch := first | (intros; contradiction) | omega) only [am0, am1, am2, am3, am4, am5, am6, am7, am8, am9, Nat.reduceSub, ↓reduceIte, reduceCtorEq, Nat.reduceEqDiff, Nat.reduceBEq, Nat.reduceAdd, Nat.reduceLT, Nat.reduceBNe, Nat.reduceMul, ↓reduceIte, tis, eIns]
      refine callb_of (fits_toIns p[i]) (by simp -implicitDefEqProofs (maxSteps := 100000) (disch := first | (intros; contradiction) | omega) only [am0, am1, am2, am3, am4, am5, am6, am7, am8, am9, Nat.reduceSub, ↓reduceIte, reduceCtorEq, Nat.reduceEqDiff, Nat.reduceBEq, Nat.reduceAdd, Nat.reduceLT, Nat.reduceBNe, Nat.reduceMul, ↓reduceIte, tis, eIns]) (.inl rfl) rfl ?_
      simp -implicitDefEqProofs (maxSteps := 100000) (disch := first | (intros; contradiction) | omega) only [am0, am1, am2, am3, am4, am5, am6, am7, am8, am9, Nat.reduceSub, ↓reduceIte, reduceCtorEq, Nat.reduceEqDiff, Nat.reduceBEq, Nat.reduceAdd, Nat.reduceLT, Nat.reduceBNe, Nat.reduceMul, ↓reduceIte, tis, eIns, g2, g3, g4]
      refine round_normal (i + 1) (by omega) ?_ (by show p.length - (i + 1) < p.length - i; omega)
      simp -implicitDefEqProofs (maxSteps := 100000) (disch := first | (intros; contradiction) | omega) only [am0, am1, am2, am3, am4, am5, am6, am7, am8, am9, Nat.reduceSub, ↓reduceIte, reduceCtorEq, Nat.reduceEqDiff, Nat.reduceBEq, Nat.reduceAdd, Nat.reduceLT, Nat.reduceBNe, Nat.reduceMul, ↓reduceIte, eIns]
    · obtain rfl : i = p.length := by omega
      simp -implicitDefEqProofs (maxSteps := 100000) (disch := first | (intros; contradiction) | omega) only [am0, am1, am2, am3, am4, am5, am6, am7, am8, am9, Nat.reduceSub, ↓reduceIte, reduceCtorEq, Nat.reduceEqDiff, Nat.reduceBEq, Nat.reduceAdd, Nat.reduceLT, Nat.reduceBNe, Nat.reduceMul, ↓reduceIte, tis]
/-- laws.eqInsS -/
theorem fits_eqInsS (p q : List Ins) (hp : p.length ≤ 1048576) (hq : q.length ≤ 1048576) : Fits prog 44 [.sl false 4 (p.map eIns), .sl false 4 (q.map eIns)] (.bool (decide (p = q))) [] := by
  refine fits_of_code [4] [] [0, 1, 4, 5, 10, 14, 26] func44 rfl rfl rfl (by rfl) (by show 2 ≤ 27; decide) (by rfl) (by rfl) (by show 0 ≤ 2; decide) (by rfl) (run_of ?_)
  by_cases hl : p.length = q.length
  · simp -implicitDefEqProofs (maxSteps := 100000) (disch := first | (intros; contradiction) | omega) only [am0, am1, am2, am3, am4, am5, am6, am7, am8, am9, Nat.reduceSub, ↓reduceIte, reduceCtorEq, Nat.reduceEqDiff, Nat.reduceBEq, Nat.reduceAdd, Nat.reduceLT, Nat.reduceBNe, Nat.reduceMul, ↓reduceIte, tis]
    refine run_loop (α := Nat) (fun i => i ≤ p.length ∧ p.take i = q.take i) (fun i => [(0, .sl false 4 (p.map eIns)), (1, .sl false 4 (q.map eIns)), (5, .int .i64 i)]) (fun i => p.length - i) 0 ⟨Nat.zero_le _, by simp⟩ ?_ ?_
    · simp -implicitDefEqProofs (maxSteps := 100000) (disch := first | (intros; contradiction) | omega) only [am0, am1, am2, am3, am4, am5, am6, am7, am8, am9, Nat.reduceSub, ↓reduceIte, reduceCtorEq, Nat.reduceEqDiff, Nat.reduceBEq, Nat.reduceAdd, Nat.reduceLT, Nat.reduceBNe, Nat.reduceMul, ↓reduceIte, tis]
    · rintro i ⟨h1, h2⟩
      by_cases hi : i < p.length
      · simp -implicitDefEqProofs (maxSteps := 100000) (disch := first | (intros; contradiction) | omega) only [am0, am1, am2, am3, am4, am5, am6, am7, am8, am9, Nat.reduceSub, ↓reduceIte, reduceCtorEq, Nat.reduceEqDiff, Nat.reduceBEq, Nat.reduceAdd, Nat.reduceLT, Nat.reduceBNe, Nat.reduceMul, ↓reduceIte, tis, eIns]
        refine .inl ⟨by kernel_rfl, ?_⟩
        refine call_of (fits_eqIns p[i] q[i]) (by simp -implicitDefEqProofs (maxSteps := 100000) (disch := first | (intros; contradiction) | omega) only [am0, am1, am2, am3, am4, am5, am6, am7, am8, am9, Nat.reduceSub, ↓reduceIte, reduceCtorEq, Nat.reduceEqDiff, Nat.reduceBEq, Nat.reduceAdd, Nat.reduceLT, Nat.reduceBNe, Nat.reduceMul, ↓reduceIte, tis, eIns]) (.inl rfl) rfl ?_
        by_cases h : p[i] = q[i]
        · simp -implicitDefEqProofs (maxSteps := 100000) (disch := first | (intros; contradiction) | omega) only [am0, am1, am2, am3, am4, am5, am6, am7, am8, am9, Nat.reduceSub, ↓reduceIte, reduceCtorEq, Nat.reduceEqDiff, Nat.reduceBEq, Nat.reduceAdd, Nat.reduceLT, Nat.reduceBNe, Nat.reduceMul, ↓reduceIte, tis, h]
          refine round_normal (i + 1) ⟨by omega, ?_⟩ ?_ (by show p.length - (i + 1) < p.length - i; omega)
          · rw [List.take_succ_eq_append_getElem hi, List.take_succ_eq_append_getElem (by omega : i < q.length), h2, h]
          · simp -implicitDefEqProofs (maxSteps := 100000) (disch := first | (intros; contradiction) | omega) only [am0, am1, am2, am3, am4, am5, am6, am7, am8, am9, Nat.reduceSub, ↓reduceIte, reduceCtorEq, Nat.reduceEqDiff, Nat.reduceBEq, Nat.reduceAdd, Nat.reduceLT, Nat.reduceBNe, Nat.reduceMul, ↓reduceIte, tis]
        · have hne : p ≠ q := by rintro rfl; exact h rfl
          simp -implicitDefEqProofs (maxSteps := 100000) (disch := first | (intros; contradiction) | omega) only [am0, am1, am2, am3, am4, am5, am6, am7, am8, am9, Nat.reduceSub, ↓reduceIte, reduceCtorEq, Nat.reduceEqDiff, Nat.reduceBEq, Nat.reduceAdd, Nat.reduceLT, Nat.reduceBNe, Nat.reduceMul, ↓reduceIte, tis, h, hne]
      · obtain rfl : i = p.length := by omega
        have hpq : p = q := by rwa [List.take_of_length_le (Nat.le_refl _), List.take_of_length_le (by omega)] at h2
        simp -implicitDefEqProofs (maxSteps := 100000) (disch := first | (intros; contradiction) | omega) only [am0, am1, am2, am3, am4, am5, am6, am7, am8, am9, Nat.reduceSub, ↓reduceIte, reduceCtorEq, Nat.reduceEqDiff, Nat.reduceBEq, Nat.reduceAdd, Nat.reduceLT, Nat.reduceBNe, Nat.reduceMul, ↓reduceIte, tis, hpq]
  · have hne : p ≠ q := fun h => hl (by rw [h])
    simp -implicitDefEqProofs (maxSteps := 100000) (disch := first | (intros; contradiction) | omega) only [am0, am1, am2, am3, am4, am5, am6, am7, am8, am9, Nat.reduceSub, ↓reduceIte, reduceCtorEq, Nat.reduceEqDiff, Nat.reduceBEq, Nat.reduceAdd, Nat.reduceLT, Nat.reduceBNe, Nat.reduceMul, ↓reduceIte, tis, hne]
/-- The marks that are put into n such from k on. -/
def mkIns (k : Int) : Ins := ⟨k, k + 1, k + 2, k + 3⟩
def mkInss (n : Nat) (k : Int) : List Ins := (List.range n).map fun (i : Nat) => mkIns (k + 4 * (i : Int))
theorem mkInss_succ (n : Nat) (k : Int) : mkInss (n + 1) k = mkInss n k ++ [mkIns (k + 4 * n)] := by simp [mkInss, List.range_succ]
theorem mkInss_len (n : Nat) (k : Int) : (mkInss n k).length = n := by simp [mkInss]
/-- laws.markInsS -/
theorem fits_markInsS (p : List Ins) (k : Int) (hp : p.length ≤ 1048576) (h0 : 0 ≤ k) (hk : k ≤ 1152921504606846976) : Fits prog 45 [.sl true 4 (p.map eIns), .int .i64 k] (.int .i64 (k + 4 * p.length)) [.sl true 4 ((mkInss p.length k).map eIns)] := by
  refine fits_of_code [4] [0] [0, 1, 4, 5, 9] func45 rfl rfl rfl (by rfl) (by show 2 ≤ 41; decide) (by rfl) (by rfl) (by show 1 ≤ 2; decide) (by rfl) (run_of ?_)
  simp -implicitDefEqProofs (maxSteps := 100000) (disch := first | (intros; contradiction) | omega) only [am0, am1, am2, am3, am4, am5, am6, am7, am8, am9, Nat.reduceSub, ↓reduceIte, reduceCtorEq, Nat.reduceEqDiff, Nat.reduceBEq, Nat.reduceAdd, Nat.reduceLT, Nat.reduceBNe, Nat.reduceMul, ↓reduceIte, tis]
  refine run_loop (α := Nat) (fun i => i ≤ p.length) (fun i => [(0, .sl true 4 ((mkInss i k).map eIns ++ (p.drop i).map eIns)), (1, .int .i64 (k + 4 * i)), (5, .int .i64 i)]) (fun i => p.length - i) 0 (Nat.zero_le _) ?_ ?_
  · simp -implicitDefEqProofs (maxSteps := 100000) (disch := first | (intros; contradiction) | omega) only [am0, am1, am2, am3, am4, am5, am6, am7, am8, am9, Nat.reduceSub, ↓reduceIte, reduceCtorEq, Nat.reduceEqDiff, Nat.reduceBEq, Nat.reduceAdd, Nat.reduceLT, Nat.reduceBNe, Nat.reduceMul, ↓reduceIte, tis, mkInss]
    try simp
  · intro i hi'
    have hA : ((mkInss i k).map eIns).length = i := by simp [mkInss_len]
    have hL : ((mkInss i k).map eIns ++ (p.drop i).map eIns).length = p.length := by simp [mkInss_len]; omega
    by_cases hi : i < p.length
    · have g1 := turn_get _ eIns p i hA hi
      have g2 := fun y => turn_set _ eIns p i y hA hi
      have g3 : ∀ y, ((mkInss i k).map eIns ++ [y] ++ (p.drop (i + 1)).map eIns)[i]? = some y := fun y => by
        rw [List.append_assoc, List.getElem?_append_right (by omega), hA, Nat.sub_self]; rfl
      have g4 : ∀ y z, ((mkInss i k).map eIns ++ [y] ++ (p.drop (i + 1)).map eIns).set i z = (mkInss i k).map eIns ++ [z] ++ (p.drop (i + 1)).map eIns := fun y z => by
        rw [List.append_assoc, List.set_append_right _ _ (by omega), hA, Nat.sub_self]; simp
      have g5 : ∀ y, ((mkInss i k).map eIns ++ [y] ++ (p.drop (i + 1)).map eIns).length = p.length := fun y => by simp [mkInss_len]; omega
      simp only [eIns] at g1
      simp -implicitDefEqProofs (maxSteps := 100000) (disch := first | (intros; contradiction) | omega) only [am0, am1, am2, am3, am4, am5, am6, am7, am8, am9, Nat.reduceSub, ↓reduceIte, reduceCtorEq, Nat.reduceEqDiff, Nat.reduceBEq, Nat.reduceAdd, Nat.reduceLT, Nat.reduceBNe, Nat.reduceMul, ↓reduceIte, tis, hL, g1, g2, g3, g4, g5]
      refine round_normal (i + 1) (by omega) ?_ (by show p.length - (i + 1) < p.length - i; omega)
      simp -implicitDefEqProofs (maxSteps := 100000) (disch := first | (intros; contradiction) | omega) only [am0, am1, am2, am3, am4, am5, am6, am7, am8, am9, Nat.reduceSub, ↓reduceIte, reduceCtorEq, Nat.reduceEqDiff, Nat.reduceBEq, Nat.reduceAdd, Nat.reduceLT, Nat.reduceBNe, Nat.reduceMul, ↓reduceIte, tis, mkInss_succ]
      simp [mkIns, eIns]
      omega
    · obtain rfl : i = p.length := by omega
      simp -implicitDefEqProofs (maxSteps := 100000) (disch := first | (intros; contradiction) | omega) only [am0, am1, am2, am3, am4, am5, am6, am7, am8, am9, Nat.reduceSub, ↓reduceIte, reduceCtorEq, Nat.reduceEqDiff, Nat.reduceBEq, Nat.reduceAdd, Nat.reduceLT, Nat.reduceBNe, Nat.reduceMul, ↓reduceIte, tis, mkInss_len]
theorem mkInss_get (n : Nat) (k : Int) (i : Nat) (h : i < n) : ((mkInss n k).map eIns).getD i .undef = eIns (mkIns (k + 4 * i)) := by
  simp [mkInss, List.getD, h]
/-- laws.heldInsS -/
theorem fits_heldInsS (m : Nat) (k : Int) (hp : m ≤ 1048576) (h0 : 0 ≤ k) (hk : k ≤ 1152921504606846976) : Fits prog 67 [.sl false 4 ((mkInss m k).map eIns), .int .i64 k] (.int .i64 (k + 4 * m)) [] := by
  refine fits_of_code [4] [] [0, 1, 4, 5, 9, 18, 27, 36, 45] func67 rfl rfl rfl (by rfl) (by show 2 ≤ 49; decide) (by rfl) (by rfl) (by show 0 ≤ 2; decide) (by rfl) (run_of ?_)
  simp -implicitDefEqProofs (maxSteps := 100000) (disch := first | (intros; contradiction) | omega) only [am0, am1, am2, am3, am4, am5, am6, am7, am8, am9, Nat.reduceSub, ↓reduceIte, reduceCtorEq, Nat.reduceEqDiff, Nat.reduceBEq, Nat.reduceAdd, Nat.reduceLT, Nat.reduceBNe, Nat.reduceMul, ↓reduceIte, tis]
  refine run_loop (α := Nat) (fun i => i ≤ m) (fun i => [(0, .sl false 4 ((mkInss m k).map eIns)), (1, .int .i64 (k + 4 * i)), (5, .int .i64 i)]) (fun i => m - i) 0 (Nat.zero_le _) ?_ ?_
  · simp -implicitDefEqProofs (maxSteps := 100000) (disch := first | (intros; contradiction) | omega) only [am0, am1, am2, am3, am4, am5, am6, am7, am8, am9, Nat.reduceSub, ↓reduceIte, reduceCtorEq, Nat.reduceEqDiff, Nat.reduceBEq, Nat.reduceAdd, Nat.reduceLT, Nat.reduceBNe, Nat.reduceMul, ↓reduceIte, tis]
  · intro i hi'
    by_cases hi : i < m
    · have g := mkInss_get m k i hi
      simp only [eIns, mkIns] at g
      simp -implicitDefEqProofs (maxSteps := 100000) (disch := first | (intros; contradiction) | omega) only [am0, am1, am2, am3, am4, am5, am6, am7, am8, am9, Nat.reduceSub, ↓reduceIte, reduceCtorEq, Nat.reduceEqDiff, Nat.reduceBEq, Nat.reduceAdd, Nat.reduceLT, Nat.reduceBNe, Nat.reduceMul, ↓reduceIte, tis, g, mkInss_len]
      refine round_normal (i + 1) (by omega) ?_ (by show m - (i + 1) < m - i; omega)
      simp -implicitDefEqProofs (maxSteps := 100000) (disch := first | (intros; contradiction) | omega) only [am0, am1, am2, am3, am4, am5, am6, am7, am8, am9, Nat.reduceSub, ↓reduceIte, reduceCtorEq, Nat.reduceEqDiff, Nat.reduceBEq, Nat.reduceAdd, Nat.reduceLT, Nat.reduceBNe, Nat.reduceMul, ↓reduceIte, tis, mkInss_len]
      omega
    · obtain rfl : i = m := by omega
      simp -implicitDefEqProofs (maxSteps := 100000) (disch := first | (intros; contradiction) | omega) only [am0, am1, am2, am3, am4, am5, am6, am7, am8, am9, Nat.reduceSub, ↓reduceIte, reduceCtorEq, Nat.reduceEqDiff, Nat.reduceBEq, Nat.reduceAdd, Nat.reduceLT, Nat.reduceBNe, Nat.reduceMul, ↓reduceIte, tis, mkInss_len]
def glV (d : Dfa) (s k : Nat) : Int := (d.rows.getD s []).getD k 0
def acV (d : Dfa) (s : Nat) : Int := d.acc.getD s 0
def ifI (to : Int) (x : Span) : Ins := ⟨3, x.lo, x.hi, to⟩
/-- The ifs of a state, of the first parts. -/
def ifsN (d : Dfa) (s : Nat) (f : Int → Int) : Nat → List Ins
  | 0 => []
  | k + 1 => ifsN d s f k ++ (if 0 ≤ glV d s k then (d.parts.getD k []).map (ifI (f (glV d s k))) else [])
def headL (d : Dfa) (s : Nat) : List Ins := (if 0 ≤ acV d s then [⟨1, acV d s, 0, 0⟩] else []) ++ [⟨2, 0, 0, 0⟩]
def stL (d : Dfa) (f : Int → Int) (s : Nat) : List Ins := headL d s ++ ifsN d s f d.parts.length ++ [⟨4, 0, 0, 0⟩]
def outN (d : Dfa) (f : Int → Int) : Nat → List Ins
  | 0 => []
  | n + 1 => outN d f n ++ stL d f n
def labI (d : Dfa) (x : Int) : Int := (outN d id x.toNat).length
theorem ifsN_le (d : Dfa) (s : Nat) (f : Int → Int) : ∀ k, k ≤ d.parts.length → (ifsN d s f k).length ≤ sumS (d.parts.take k)
  | 0, _ => by simp [ifsN]
  | k + 1, h => by
    have ih := ifsN_le d s f k (by omega)
    have e := sumS_take d.parts k (by omega)
    have g : d.parts.getD k [] = d.parts[k] := by simp [List.getD, show k < d.parts.length by omega]
    simp only [ifsN, List.length_append, g]
    split
    · simp only [List.length_map]; omega
    · simp; omega
theorem ifsN_len (d : Dfa) (s : Nat) (f g : Int → Int) : ∀ k, (ifsN d s f k).length = (ifsN d s g k).length
  | 0 => rfl
  | k + 1 => by
    simp only [ifsN, List.length_append, ifsN_len d s f g k]
    split <;> simp
theorem stL_le (d : Dfa) (f : Int → Int) (s : Nat) : (stL d f s).length ≤ 3 + sumS d.parts := by
  have h := ifsN_le d s f d.parts.length (Nat.le_refl _)
  rw [List.take_length] at h
  unfold stL headL
  simp only [List.length_append, List.length_singleton]
  split <;> simp <;> omega
theorem outN_le (d : Dfa) (f : Int → Int) : ∀ n, (outN d f n).length ≤ n * (3 + sumS d.parts)
  | 0 => by simp [outN]
  | n + 1 => by
    have h1 := outN_le d f n
    have h2 := stL_le d f n
    have e : (n + 1) * (3 + sumS d.parts) = n * (3 + sumS d.parts) + (3 + sumS d.parts) := Nat.succ_mul ..
    simp only [outN, List.length_append]
    omega
theorem outN_len (d : Dfa) (f g : Int → Int) : ∀ n, (outN d f n).length = (outN d g n).length
  | 0 => rfl
  | n + 1 => by simp only [outN, stL, List.length_append, outN_len d f g n, ifsN_len d n f g]
/-- What is known of a right machine. -/
structure DOk (d : Dfa) : Prop where
  sm : Small d
  n : d.rows.length ≤ 40
  a : d.acc.length = d.rows.length
  l : ∀ s (h : s < d.rows.length), d.rows[s].length = d.parts.length
  b : ∀ s (h : s < d.rows.length), ∀ k (h2 : k < d.rows[s].length), d.rows[s][k] ≤ (d.rows.length : Int) - 1
  ac : ∀ s (h : s < d.acc.length), -1 ≤ d.acc[s] ∧ d.acc[s] ≤ 4
theorem dok_of {d : Dfa} (h : Small d) (hb : dfaB d = true) : DOk d := by
  unfold dfaB at hb
  simp only [Bool.and_eq_true, decide_eq_true_eq, List.all_eq_true, List.mem_range] at hb
  obtain ⟨_, h2, h3, h4⟩ := hb
  have key : ∀ s (h5 : s < d.rows.length), d.rows[s].length = d.parts.length ∧ (-1 ≤ d.acc[s]'(by omega) ∧ d.acc[s]'(by omega) ≤ 4) ∧ ∀ x ∈ d.rows[s], -1 ≤ x ∧ x ≤ (d.rows.length : Int) - 1 := by
    intro s h5
    have := h4 s h5
    rw [rowN_at h5 (by omega)] at this
    simp only [Bool.and_eq_true, decide_eq_true_eq, List.all_eq_true] at this
    exact ⟨this.1, this.2.1, fun x hx => this.2.2 x hx⟩
  exact ⟨h, h2.2, h3, fun s h5 => (key s h5).1, fun s h5 k h6 => ((key s h5).2.2 _ (List.getElem_mem h6)).2, fun s h5 => (key s (by omega)).2.1⟩
theorem DOk.bnd {d : Dfa} (h : DOk d) (f : Int → Int) (n : Nat) (hn : n ≤ 40) : (outN d f n).length ≤ 41943160 := by
  have h1 := outN_le d f n
  have h2 := h.sm.ps
  have : n * (3 + sumS d.parts) ≤ 40 * (3 + 1048576) := Nat.mul_le_mul hn (by omega)
  omega
/-- spec.l10Head -/
theorem fits_l10Head (d : Dfa) (h : DOk d) (s : Nat) (hs : s < d.rows.length) : Fits prog 185 [eDfa false d, .int .i64 s] (.int .i64 (headL d s).length) [] := by
  have ha := h.a
  have hal := h.sm.a
  have hsa : s < d.acc.length := by omega
  have e : acV d s = d.acc[s] := by simp [acV, List.getD, hsa]
  unfold headL
  rw [e]
  have ga2 : (d.acc.map eInt)[s]? = some (.int .i64 d.acc[s]) := by simp [hsa, eInt]
  generalize hae : d.acc[s] = a at *
  have ea : eInt d.acc[s] = .int .i64 a := by rw [hae]; rfl
  unfold eDfa
  by_cases h0 : 0 ≤ a
  · rw [if_pos h0]
    refine fits_of_code [4] [] [0, 1, 2, 4, 10] func185 rfl rfl rfl (by rfl) (by show 2 ≤ 11; decide) (by rfl) (by rfl) (by show 0 ≤ 2; decide) (by rfl) (run_of ?_)
    simp -implicitDefEqProofs (maxSteps := 100000) (disch := first | (intros; contradiction) | omega) only [am0, am1, am2, am3, am4, am5, am6, am7, am8, am9, Nat.reduceSub, ↓reduceIte, reduceCtorEq, Nat.reduceEqDiff, Nat.reduceBEq, Nat.reduceAdd, Nat.reduceLT, Nat.reduceBNe, Nat.reduceMul, ↓reduceIte, tis, fls, dx, ea, ga2, h0]
    rfl
  · rw [if_neg h0]
    refine fits_of_code [4] [] [0, 1, 2, 4, 10] func185 rfl rfl rfl (by rfl) (by show 2 ≤ 11; decide) (by rfl) (by rfl) (by show 0 ≤ 2; decide) (by rfl) (run_of ?_)
    simp -implicitDefEqProofs (maxSteps := 100000) (disch := first | (intros; contradiction) | omega) only [am0, am1, am2, am3, am4, am5, am6, am7, am8, am9, Nat.reduceSub, ↓reduceIte, reduceCtorEq, Nat.reduceEqDiff, Nat.reduceBEq, Nat.reduceAdd, Nat.reduceLT, Nat.reduceBNe, Nat.reduceMul, ↓reduceIte, tis, fls, dx, ea, ga2, h0]
theorem headL_len (d : Dfa) (s : Nat) : (headL d s).length ≤ 2 := by unfold headL; split <;> simp
theorem stL_len (d : Dfa) (f : Int → Int) (s : Nat) : (stL d f s).length = (headL d s).length + 1 + (ifsN d s f d.parts.length).length := by
  unfold stL; simp; omega
/-- spec.l10Many -/
theorem fits_l10Many (d : Dfa) (h : DOk d) (s : Nat) (hs : s < d.rows.length) : Fits prog 180 [eDfa false d, .int .i64 s] (.int .i64 (stL d id s).length) [] := by
  have cH := fits_l10Head d h s hs
  have hh := headL_len d s
  rw [stL_len]
  generalize (headL d s).length = H at *
  have hp := h.sm.p
  have hr := h.sm.r
  have hrl := h.sm.rc _ (List.getElem_mem hs)
  have hl := h.l s hs
  have hps := h.sm.ps
  have gr2 : (d.rows.map (eInts false))[s]? = some (.sl false 1 (d.rows[s].map eInt)) := by simp [hs, eInts]
  have gr : (d.rows.map (eInts false)).getD s .undef = .sl false 1 (d.rows[s].map eInt) := by simp [List.getD, hs, eInts]
  have eg : ∀ k, glV d s k = d.rows[s].getD k 0 := fun k => by simp [glV, List.getD, hs]
  generalize d.rows[s] = row at *
  unfold eDfa at *
  refine fits_of_code [4] [] [0, 1, 2, 4, 5, 6, 15, 26] func180 rfl rfl rfl (by rfl) (by show 2 ≤ 36; decide) (by rfl) (by rfl) (by show 0 ≤ 2; decide) (by rfl) (run_of ?_)
  simp -implicitDefEqProofs (maxSteps := 100000) (disch := first | (intros; contradiction) | omega) only [am0, am1, am2, am3, am4, am5, am6, am7, am8, am9, Nat.reduceSub, ↓reduceIte, reduceCtorEq, Nat.reduceEqDiff, Nat.reduceBEq, Nat.reduceAdd, Nat.reduceLT, Nat.reduceBNe, Nat.reduceMul, ↓reduceIte, tis, fls, dx, plain, plainL]
  refine callB cH ?_
  simp -implicitDefEqProofs (maxSteps := 100000) (disch := first | (intros; contradiction) | omega) only [am0, am1, am2, am3, am4, am5, am6, am7, am8, am9, Nat.reduceSub, ↓reduceIte, reduceCtorEq, Nat.reduceEqDiff, Nat.reduceBEq, Nat.reduceAdd, Nat.reduceLT, Nat.reduceBNe, Nat.reduceMul, ↓reduceIte, tis, fls, dx]
  refine run_loop (α := Nat) (fun k => k ≤ d.parts.length) (fun k => [(1, .int .i64 s), (2, .box (.agg [.sl false 1 (d.parts.map (eSpans false)), .sl false 1 (d.rows.map (eInts false)), .sl false 1 (d.acc.map eInt)])), (5, .int .i64 ((H + 1 + (ifsN d s id k).length : Nat))), (6, .int .i64 k)]) (fun k => d.parts.length - k) 0 (Nat.zero_le _) ?_ ?_
  · simp -implicitDefEqProofs (maxSteps := 100000) (disch := first | (intros; contradiction) | omega) only [am0, am1, am2, am3, am4, am5, am6, am7, am8, am9, Nat.reduceSub, ↓reduceIte, reduceCtorEq, Nat.reduceEqDiff, Nat.reduceBEq, Nat.reduceAdd, Nat.reduceLT, Nat.reduceBNe, Nat.reduceMul, ↓reduceIte, tis, ifsN, List.length_nil]
  · intro k hk'
    have hle := ifsN_le d s id k hk'
    have hle2 := sumS_mono d.parts k
    by_cases hk : k < d.parts.length
    · have hkr : k < row.length := by omega
      have hS : ifsN d s id (k + 1) = ifsN d s id k ++ (if 0 ≤ glV d s k then (d.parts.getD k []).map (ifI (id (glV d s k))) else []) := rfl
      have e1 : glV d s k = row[k] := by rw [eg]; simp [List.getD, hkr]
      have e2 : d.parts.getD k [] = d.parts[k] := by simp [List.getD, hk]
      have hpl := h.sm.pc _ (List.getElem_mem hk)
      have gp2 : (d.parts.map (eSpans false))[k]? = some (.sl false 2 (d.parts[k].map eSpan)) := by simp [hk, eSpans]
      have gp : (d.parts.map (eSpans false)).getD k .undef = .sl false 2 (d.parts[k].map eSpan) := by simp [List.getD, hk, eSpans]
      have gk2 : (row.map eInt)[k]? = some (.int .i64 row[k]) := by simp [hkr, eInt]
      rw [e1, e2] at hS
      generalize hse : row[k] = x at *
      have ek : eInt row[k] = .int .i64 x := by rw [hse]; rfl
      generalize d.parts[k] = p at *
      by_cases h0 : 0 ≤ x
      · rw [if_pos h0] at hS
        have hS2 := congrArg List.length hS
        rw [List.length_append, List.length_map] at hS2
        simp -implicitDefEqProofs (maxSteps := 100000) (disch := first | (intros; contradiction) | omega) only [am0, am1, am2, am3, am4, am5, am6, am7, am8, am9, Nat.reduceSub, ↓reduceIte, reduceCtorEq, Nat.reduceEqDiff, Nat.reduceBEq, Nat.reduceAdd, Nat.reduceLT, Nat.reduceBNe, Nat.reduceMul, ↓reduceIte, tis, fls, dx, gr, gr2, ek, gk2, h0, gp, gp2]
        refine round_normal (k + 1) (by omega) ?_ (by show d.parts.length - (k + 1) < d.parts.length - k; omega)
        simp -implicitDefEqProofs (maxSteps := 100000) (disch := first | (intros; contradiction) | omega) only [am0, am1, am2, am3, am4, am5, am6, am7, am8, am9, Nat.reduceSub, ↓reduceIte, reduceCtorEq, Nat.reduceEqDiff, Nat.reduceBEq, Nat.reduceAdd, Nat.reduceLT, Nat.reduceBNe, Nat.reduceMul, ↓reduceIte, tis, hS2]
        omega
      · rw [if_neg h0, List.append_nil] at hS
        simp -implicitDefEqProofs (maxSteps := 100000) (disch := first | (intros; contradiction) | omega) only [am0, am1, am2, am3, am4, am5, am6, am7, am8, am9, Nat.reduceSub, ↓reduceIte, reduceCtorEq, Nat.reduceEqDiff, Nat.reduceBEq, Nat.reduceAdd, Nat.reduceLT, Nat.reduceBNe, Nat.reduceMul, ↓reduceIte, tis, fls, dx, gr, gr2, ek, gk2, h0]
        refine round_normal (k + 1) (by omega) ?_ (by show d.parts.length - (k + 1) < d.parts.length - k; omega)
        simp -implicitDefEqProofs (maxSteps := 100000) (disch := first | (intros; contradiction) | omega) only [am0, am1, am2, am3, am4, am5, am6, am7, am8, am9, Nat.reduceSub, ↓reduceIte, reduceCtorEq, Nat.reduceEqDiff, Nat.reduceBEq, Nat.reduceAdd, Nat.reduceLT, Nat.reduceBNe, Nat.reduceMul, ↓reduceIte, tis, hS]
    · obtain rfl : k = d.parts.length := by omega
      simp -implicitDefEqProofs (maxSteps := 100000) (disch := first | (intros; contradiction) | omega) only [am0, am1, am2, am3, am4, am5, am6, am7, am8, am9, Nat.reduceSub, ↓reduceIte, reduceCtorEq, Nat.reduceEqDiff, Nat.reduceBEq, Nat.reduceAdd, Nat.reduceLT, Nat.reduceBNe, Nat.reduceMul, ↓reduceIte, tis, fls, dx]
/-- spec.l10Label -/
theorem fits_l10Label (d : Dfa) (h : DOk d) (s : Nat) (hs : s ≤ d.rows.length) : Fits prog 173 [eDfa false d, .int .i64 s] (.int .i64 (outN d id s).length) [] := by
  have hn := h.n
  have cM := fun i (hi : i < s) => fits_l10Many d h i (by omega)
  unfold eDfa at *
  refine fits_of_code [4] [] [0, 1, 2, 4, 5, 6, 9] func173 rfl rfl rfl (by rfl) (by show 2 ≤ 18; decide) (by rfl) (by rfl) (by show 0 ≤ 2; decide) (by rfl) (run_of ?_)
  simp -implicitDefEqProofs (maxSteps := 100000) (disch := first | (intros; contradiction) | omega) only [am0, am1, am2, am3, am4, am5, am6, am7, am8, am9, Nat.reduceSub, ↓reduceIte, reduceCtorEq, Nat.reduceEqDiff, Nat.reduceBEq, Nat.reduceAdd, Nat.reduceLT, Nat.reduceBNe, Nat.reduceMul, ↓reduceIte, tis, fls, dx]
  refine run_loop (α := Nat) (fun i => i ≤ s) (fun i => [(1, .int .i64 s), (2, .box (.agg [.sl false 1 (d.parts.map (eSpans false)), .sl false 1 (d.rows.map (eInts false)), .sl false 1 (d.acc.map eInt)])), (5, .int .i64 (outN d id i).length), (6, .int .i64 i)]) (fun i => s - i) 0 (Nat.zero_le _) ?_ ?_
  · simp -implicitDefEqProofs (maxSteps := 100000) (disch := first | (intros; contradiction) | omega) only [am0, am1, am2, am3, am4, am5, am6, am7, am8, am9, Nat.reduceSub, ↓reduceIte, reduceCtorEq, Nat.reduceEqDiff, Nat.reduceBEq, Nat.reduceAdd, Nat.reduceLT, Nat.reduceBNe, Nat.reduceMul, ↓reduceIte, tis, outN, List.length_nil]
  · intro i hi'
    have hbd := h.bnd id i (by omega)
    by_cases hi : i < s
    · have cM := cM i hi
      have hb2 := h.bnd id (i + 1) (by omega)
      have hS : (outN d id (i + 1)).length = (outN d id i).length + (stL d id i).length := by simp [outN]
      simp -implicitDefEqProofs (maxSteps := 100000) (disch := first | (intros; contradiction) | omega) only [am0, am1, am2, am3, am4, am5, am6, am7, am8, am9, Nat.reduceSub, ↓reduceIte, reduceCtorEq, Nat.reduceEqDiff, Nat.reduceBEq, Nat.reduceAdd, Nat.reduceLT, Nat.reduceBNe, Nat.reduceMul, ↓reduceIte, tis, fls, dx, plain, plainL]
      refine callB cM ?_
      simp -implicitDefEqProofs (maxSteps := 100000) (disch := first | (intros; contradiction) | omega) only [am0, am1, am2, am3, am4, am5, am6, am7, am8, am9, Nat.reduceSub, ↓reduceIte, reduceCtorEq, Nat.reduceEqDiff, Nat.reduceBEq, Nat.reduceAdd, Nat.reduceLT, Nat.reduceBNe, Nat.reduceMul, ↓reduceIte, tis, fls, dx]
      refine round_normal (i + 1) (by omega) ?_ (by show s - (i + 1) < s - i; omega)
      simp -implicitDefEqProofs (maxSteps := 100000) (disch := first | (intros; contradiction) | omega) only [am0, am1, am2, am3, am4, am5, am6, am7, am8, am9, Nat.reduceSub, ↓reduceIte, reduceCtorEq, Nat.reduceEqDiff, Nat.reduceBEq, Nat.reduceAdd, Nat.reduceLT, Nat.reduceBNe, Nat.reduceMul, ↓reduceIte, tis, hS]
    · obtain rfl : i = s := by omega
      simp -implicitDefEqProofs (maxSteps := 100000) (disch := first | (intros; contradiction) | omega) only [am0, am1, am2, am3, am4, am5, am6, am7, am8, am9, Nat.reduceSub, ↓reduceIte, reduceCtorEq, Nat.reduceEqDiff, Nat.reduceBEq, Nat.reduceAdd, Nat.reduceLT, Nat.reduceBNe, Nat.reduceMul, ↓reduceIte, tis, fls, dx]
/-- spec.DfaOk -/
theorem fits_sDfaOk (d : Dfa) (h : Small d) : Fits prog 122 [eDfa false d] (.bool (dfaB d)) [] := by
  have cP := fits_l7Parts d.parts h.p h.pc
  have hr := h.r
  have ha := h.a
  have hp := h.p
  unfold eDfa
  by_cases p1 : partsB d.parts = true
  case neg =>
    have p1 : partsB d.parts = false := by simpa using p1
    have e : dfaB d = false := by unfold dfaB; rw [p1]; rfl
    rw [p1] at cP
    refine fits_of_code [2] [] [0, 1, 2, 3, 4, 29, 34, 62, 70, 95] func122 rfl rfl rfl (by rfl) (by show 1 ≤ 96; decide) (by rfl) (by rfl) (by show 0 ≤ 1; decide) (by rfl) (run_of ?_)
    simp -implicitDefEqProofs (maxSteps := 100000) (disch := first | (intros; contradiction) | omega) only [am0, am1, am2, am3, am4, am5, am6, am7, am8, am9, Nat.reduceSub, ↓reduceIte, reduceCtorEq, Nat.reduceEqDiff, Nat.reduceBEq, Nat.reduceAdd, Nat.reduceLT, Nat.reduceBNe, Nat.reduceMul, ↓reduceIte, tis, fls, dx]
    refine callB cP ?_
    simp -implicitDefEqProofs (maxSteps := 100000) (disch := first | (intros; contradiction) | omega) only [am0, am1, am2, am3, am4, am5, am6, am7, am8, am9, Nat.reduceSub, ↓reduceIte, reduceCtorEq, Nat.reduceEqDiff, Nat.reduceBEq, Nat.reduceAdd, Nat.reduceLT, Nat.reduceBNe, Nat.reduceMul, ↓reduceIte, tis, fls, e]
  rw [p1] at cP
  by_cases r1 : (d.rows.length : Int) < 1
  · have e : dfaB d = false := by unfold dfaB; rw [decide_eq_false (show ¬ (1 ≤ d.rows.length ∧ d.rows.length ≤ 40) by omega)]; simp
    refine fits_of_code [2] [] [0, 1, 2, 3, 4, 29, 34, 62, 70, 95] func122 rfl rfl rfl (by rfl) (by show 1 ≤ 96; decide) (by rfl) (by rfl) (by show 0 ≤ 1; decide) (by rfl) (run_of ?_)
    simp -implicitDefEqProofs (maxSteps := 100000) (disch := first | (intros; contradiction) | omega) only [am0, am1, am2, am3, am4, am5, am6, am7, am8, am9, Nat.reduceSub, ↓reduceIte, reduceCtorEq, Nat.reduceEqDiff, Nat.reduceBEq, Nat.reduceAdd, Nat.reduceLT, Nat.reduceBNe, Nat.reduceMul, ↓reduceIte, tis, fls, dx]
    refine callB cP ?_
    simp -implicitDefEqProofs (maxSteps := 100000) (disch := first | (intros; contradiction) | omega) only [am0, am1, am2, am3, am4, am5, am6, am7, am8, am9, Nat.reduceSub, ↓reduceIte, reduceCtorEq, Nat.reduceEqDiff, Nat.reduceBEq, Nat.reduceAdd, Nat.reduceLT, Nat.reduceBNe, Nat.reduceMul, ↓reduceIte, tis, fls, r1, e]
  by_cases r2 : (40 : Int) < d.rows.length
  · have e : dfaB d = false := by unfold dfaB; rw [decide_eq_false (show ¬ (1 ≤ d.rows.length ∧ d.rows.length ≤ 40) by omega)]; simp
    refine fits_of_code [2] [] [0, 1, 2, 3, 4, 29, 34, 62, 70, 95] func122 rfl rfl rfl (by rfl) (by show 1 ≤ 96; decide) (by rfl) (by rfl) (by show 0 ≤ 1; decide) (by rfl) (run_of ?_)
    simp -implicitDefEqProofs (maxSteps := 100000) (disch := first | (intros; contradiction) | omega) only [am0, am1, am2, am3, am4, am5, am6, am7, am8, am9, Nat.reduceSub, ↓reduceIte, reduceCtorEq, Nat.reduceEqDiff, Nat.reduceBEq, Nat.reduceAdd, Nat.reduceLT, Nat.reduceBNe, Nat.reduceMul, ↓reduceIte, tis, fls, dx]
    refine callB cP ?_
    simp -implicitDefEqProofs (maxSteps := 100000) (disch := first | (intros; contradiction) | omega) only [am0, am1, am2, am3, am4, am5, am6, am7, am8, am9, Nat.reduceSub, ↓reduceIte, reduceCtorEq, Nat.reduceEqDiff, Nat.reduceBEq, Nat.reduceAdd, Nat.reduceLT, Nat.reduceBNe, Nat.reduceMul, ↓reduceIte, tis, fls, r1, r2, e]
  by_cases r3 : d.acc.length = d.rows.length
  case neg =>
    have e : dfaB d = false := by unfold dfaB; rw [decide_eq_false r3]; simp
    have r3' : ¬ (d.acc.length : Int) = d.rows.length := by omega
    refine fits_of_code [2] [] [0, 1, 2, 3, 4, 29, 34, 62, 70, 95] func122 rfl rfl rfl (by rfl) (by show 1 ≤ 96; decide) (by rfl) (by rfl) (by show 0 ≤ 1; decide) (by rfl) (run_of ?_)
    simp -implicitDefEqProofs (maxSteps := 100000) (disch := first | (intros; contradiction) | omega) only [am0, am1, am2, am3, am4, am5, am6, am7, am8, am9, Nat.reduceSub, ↓reduceIte, reduceCtorEq, Nat.reduceEqDiff, Nat.reduceBEq, Nat.reduceAdd, Nat.reduceLT, Nat.reduceBNe, Nat.reduceMul, ↓reduceIte, tis, fls, dx]
    refine callB cP ?_
    simp -implicitDefEqProofs (maxSteps := 100000) (disch := first | (intros; contradiction) | omega) only [am0, am1, am2, am3, am4, am5, am6, am7, am8, am9, Nat.reduceSub, ↓reduceIte, reduceCtorEq, Nat.reduceEqDiff, Nat.reduceBEq, Nat.reduceAdd, Nat.reduceLT, Nat.reduceBNe, Nat.reduceMul, ↓reduceIte, tis, fls, r1, r2, r3', e]
  have r3' : (d.acc.length : Int) = d.rows.length := by omega
  refine fits_of_code [2] [] [0, 1, 2, 3, 4, 29, 34, 62, 70, 95] func122 rfl rfl rfl (by rfl) (by show 1 ≤ 96; decide) (by rfl) (by rfl) (by show 0 ≤ 1; decide) (by rfl) (run_of ?_)
  simp -implicitDefEqProofs (maxSteps := 100000) (disch := first | (intros; contradiction) | omega) only [am0, am1, am2, am3, am4, am5, am6, am7, am8, am9, Nat.reduceSub, ↓reduceIte, reduceCtorEq, Nat.reduceEqDiff, Nat.reduceBEq, Nat.reduceAdd, Nat.reduceLT, Nat.reduceBNe, Nat.reduceMul, ↓reduceIte, tis, fls, dx]
  refine callB cP ?_
  simp -implicitDefEqProofs (maxSteps := 100000) (disch := first | (intros; contradiction) | omega) only [am0, am1, am2, am3, am4, am5, am6, am7, am8, am9, Nat.reduceSub, ↓reduceIte, reduceCtorEq, Nat.reduceEqDiff, Nat.reduceBEq, Nat.reduceAdd, Nat.reduceLT, Nat.reduceBNe, Nat.reduceMul, ↓reduceIte, tis, fls, r1, r2, r3']
  refine run_loop (α := Nat) (fun i => i ≤ d.rows.length ∧ ∀ j, j < i → rowN d j = true) (fun i => [(1, .box (.agg [.sl false 1 (d.parts.map (eSpans false)), .sl false 1 (d.rows.map (eInts false)), .sl false 1 (d.acc.map eInt)])), (3, .int .i64 i)]) (fun i => d.rows.length - i) 0 ⟨Nat.zero_le _, by intros; omega⟩ ?_ ?_
  · simp -implicitDefEqProofs (maxSteps := 100000) (disch := first | (intros; contradiction) | omega) only [am0, am1, am2, am3, am4, am5, am6, am7, am8, am9, Nat.reduceSub, ↓reduceIte, reduceCtorEq, Nat.reduceEqDiff, Nat.reduceBEq, Nat.reduceAdd, Nat.reduceLT, Nat.reduceBNe, Nat.reduceMul, ↓reduceIte, tis]
  · rintro i ⟨hi', hb⟩
    by_cases hi : i < d.rows.length
    · have hi2 : i < d.acc.length := by omega
      have hN := rowN_at hi hi2
      have hrl := h.rc _ (List.getElem_mem hi)
      have gr : (d.rows.map (eInts false)).getD i .undef = .sl false 1 (d.rows[i].map eInt) := by simp [List.getD, hi, eInts]
      have gr2 : (d.rows.map (eInts false))[i]? = some (.sl false 1 (d.rows[i].map eInt)) := by simp [hi, eInts]
      have ga : (d.acc.map eInt).getD i .undef = .int .i64 d.acc[i] := by simp [List.getD, hi2, eInt]
      have ga2 : (d.acc.map eInt)[i]? = some (.int .i64 d.acc[i]) := by simp [hi2, eInt]
      generalize d.rows[i] = row at *
      generalize hae : d.acc[i] = a at *
      have ea : eInt d.acc[i] = .int .i64 a := by rw [hae]; rfl
      by_cases b1 : row.length = d.parts.length
      case neg =>
        have hf : rowN d i = false := by rw [hN, decide_eq_false b1]; rfl
        have hf := rows_f hi hf
        have b1' : ¬ (row.length : Int) = d.parts.length := by omega
        simp -implicitDefEqProofs (maxSteps := 100000) (disch := first | (intros; contradiction) | omega) only [am0, am1, am2, am3, am4, am5, am6, am7, am8, am9, Nat.reduceSub, ↓reduceIte, reduceCtorEq, Nat.reduceEqDiff, Nat.reduceBEq, Nat.reduceAdd, Nat.reduceLT, Nat.reduceBNe, Nat.reduceMul, ↓reduceIte, tis, fls, gr, gr2, dx]
        refine .inl ⟨by kernel_rfl, ?_⟩
        simp -implicitDefEqProofs (maxSteps := 100000) (disch := first | (intros; contradiction) | omega) only [am0, am1, am2, am3, am4, am5, am6, am7, am8, am9, Nat.reduceSub, ↓reduceIte, reduceCtorEq, Nat.reduceEqDiff, Nat.reduceBEq, Nat.reduceAdd, Nat.reduceLT, Nat.reduceBNe, Nat.reduceMul, ↓reduceIte, tis, fls, b1', hf]
      have b1' : (row.length : Int) = d.parts.length := by omega
      by_cases b2 : a < -1
      · have hf : rowN d i = false := by rw [hN, decide_eq_false (show ¬ (-1 ≤ a ∧ a ≤ 4) by omega)]; simp
        have hf := rows_f hi hf
        simp -implicitDefEqProofs (maxSteps := 100000) (disch := first | (intros; contradiction) | omega) only [am0, am1, am2, am3, am4, am5, am6, am7, am8, am9, Nat.reduceSub, ↓reduceIte, reduceCtorEq, Nat.reduceEqDiff, Nat.reduceBEq, Nat.reduceAdd, Nat.reduceLT, Nat.reduceBNe, Nat.reduceMul, ↓reduceIte, tis, fls, gr, gr2, dx]
        refine .inl ⟨by kernel_rfl, ?_⟩
        simp -implicitDefEqProofs (maxSteps := 100000) (disch := first | (intros; contradiction) | omega) only [am0, am1, am2, am3, am4, am5, am6, am7, am8, am9, Nat.reduceSub, ↓reduceIte, reduceCtorEq, Nat.reduceEqDiff, Nat.reduceBEq, Nat.reduceAdd, Nat.reduceLT, Nat.reduceBNe, Nat.reduceMul, ↓reduceIte, tis, fls, b1', ea, ga2, b2, hf]
      by_cases b3 : 5 ≤ a
      · have hf : rowN d i = false := by rw [hN, decide_eq_false (show ¬ (-1 ≤ a ∧ a ≤ 4) by omega)]; simp
        have hf := rows_f hi hf
        simp -implicitDefEqProofs (maxSteps := 100000) (disch := first | (intros; contradiction) | omega) only [am0, am1, am2, am3, am4, am5, am6, am7, am8, am9, Nat.reduceSub, ↓reduceIte, reduceCtorEq, Nat.reduceEqDiff, Nat.reduceBEq, Nat.reduceAdd, Nat.reduceLT, Nat.reduceBNe, Nat.reduceMul, ↓reduceIte, tis, fls, gr, gr2, dx]
        refine .inl ⟨by kernel_rfl, ?_⟩
        simp -implicitDefEqProofs (maxSteps := 100000) (disch := first | (intros; contradiction) | omega) only [am0, am1, am2, am3, am4, am5, am6, am7, am8, am9, Nat.reduceSub, ↓reduceIte, reduceCtorEq, Nat.reduceEqDiff, Nat.reduceBEq, Nat.reduceAdd, Nat.reduceLT, Nat.reduceBNe, Nat.reduceMul, ↓reduceIte, tis, fls, b1', ea, ga2, b2, b3, hf]
      have hN2 : rowN d i = row.all (fun s => decide (-1 ≤ s ∧ s ≤ (d.rows.length : Int) - 1)) := by
        rw [hN, decide_eq_true b1, decide_eq_true (show -1 ≤ a ∧ a ≤ 4 by omega)]; rfl
      simp -implicitDefEqProofs (maxSteps := 100000) (disch := first | (intros; contradiction) | omega) only [am0, am1, am2, am3, am4, am5, am6, am7, am8, am9, Nat.reduceSub, ↓reduceIte, reduceCtorEq, Nat.reduceEqDiff, Nat.reduceBEq, Nat.reduceAdd, Nat.reduceLT, Nat.reduceBNe, Nat.reduceMul, ↓reduceIte, tis, fls, gr, gr2, dx]
      refine .inl ⟨by kernel_rfl, ?_⟩
      simp -implicitDefEqProofs (maxSteps := 100000) (disch := first | (intros; contradiction) | omega) only [am0, am1, am2, am3, am4, am5, am6, am7, am8, am9, Nat.reduceSub, ↓reduceIte, reduceCtorEq, Nat.reduceEqDiff, Nat.reduceBEq, Nat.reduceAdd, Nat.reduceLT, Nat.reduceBNe, Nat.reduceMul, ↓reduceIte, tis, fls, b1', ea, ga2, b2, b3]
      refine run_loop (α := Nat) (fun k => k ≤ row.length ∧ ∀ k' (hk : k' < row.length), k' < k → (-1 ≤ row[k'] ∧ row[k'] ≤ (d.rows.length : Int) - 1)) (fun k => [(1, .box (.agg [.sl false 1 (d.parts.map (eSpans false)), .sl false 1 (d.rows.map (eInts false)), .sl false 1 (d.acc.map eInt)])), (3, .int .i64 i), (4, .int .i64 k)]) (fun k => row.length - k) 0 ⟨Nat.zero_le _, by intros; omega⟩ ?_ ?_
      · simp -implicitDefEqProofs (maxSteps := 100000) (disch := first | (intros; contradiction) | omega) only [am0, am1, am2, am3, am4, am5, am6, am7, am8, am9, Nat.reduceSub, ↓reduceIte, reduceCtorEq, Nat.reduceEqDiff, Nat.reduceBEq, Nat.reduceAdd, Nat.reduceLT, Nat.reduceBNe, Nat.reduceMul, ↓reduceIte, tis]
      · rintro k ⟨hk', hkb⟩
        by_cases hk : k < row.length
        · have gk : (row.map eInt).getD k .undef = .int .i64 row[k] := by simp [List.getD, hk, eInt]
          have gk2 : (row.map eInt)[k]? = some (.int .i64 row[k]) := by simp [hk, eInt]
          have bad : ¬ (-1 ≤ row[k] ∧ row[k] ≤ (d.rows.length : Int) - 1) → dfaB d = false := fun hx => rows_f hi (by
            rw [hN2, List.all_eq_false]; exact ⟨row[k], List.getElem_mem hk, by simpa using hx⟩)
          have good : (-1 ≤ row[k] ∧ row[k] ≤ (d.rows.length : Int) - 1) → ∀ k' (hk3 : k' < row.length), k' < k + 1 → (-1 ≤ row[k'] ∧ row[k'] ≤ (d.rows.length : Int) - 1) := fun hx k' hk3 hk4 => by
            by_cases e : k' = k
            · subst e; exact hx
            · exact hkb k' hk3 (by omega)
          generalize hse : row[k] = s at *
          have ek : eInt row[k] = .int .i64 s := by rw [hse]; rfl
          by_cases s1 : s < -1
          · have hf := bad (by omega)
            simp -implicitDefEqProofs (maxSteps := 100000) (disch := first | (intros; contradiction) | omega) only [am0, am1, am2, am3, am4, am5, am6, am7, am8, am9, Nat.reduceSub, ↓reduceIte, reduceCtorEq, Nat.reduceEqDiff, Nat.reduceBEq, Nat.reduceAdd, Nat.reduceLT, Nat.reduceBNe, Nat.reduceMul, ↓reduceIte, tis, fls, gr, gr2, dx]
            refine .inl ⟨by kernel_rfl, ?_⟩
            simp -implicitDefEqProofs (maxSteps := 100000) (disch := first | (intros; contradiction) | omega) only [am0, am1, am2, am3, am4, am5, am6, am7, am8, am9, Nat.reduceSub, ↓reduceIte, reduceCtorEq, Nat.reduceEqDiff, Nat.reduceBEq, Nat.reduceAdd, Nat.reduceLT, Nat.reduceBNe, Nat.reduceMul, ↓reduceIte, tis, fls, gr, gr2, ek, gk2, s1, hf]
          by_cases s2 : (d.rows.length : Int) ≤ s
          · have hf := bad (by omega)
            simp -implicitDefEqProofs (maxSteps := 100000) (disch := first | (intros; contradiction) | omega) only [am0, am1, am2, am3, am4, am5, am6, am7, am8, am9, Nat.reduceSub, ↓reduceIte, reduceCtorEq, Nat.reduceEqDiff, Nat.reduceBEq, Nat.reduceAdd, Nat.reduceLT, Nat.reduceBNe, Nat.reduceMul, ↓reduceIte, tis, fls, gr, gr2, dx]
            refine .inl ⟨by kernel_rfl, ?_⟩
            simp -implicitDefEqProofs (maxSteps := 100000) (disch := first | (intros; contradiction) | omega) only [am0, am1, am2, am3, am4, am5, am6, am7, am8, am9, Nat.reduceSub, ↓reduceIte, reduceCtorEq, Nat.reduceEqDiff, Nat.reduceBEq, Nat.reduceAdd, Nat.reduceLT, Nat.reduceBNe, Nat.reduceMul, ↓reduceIte, tis, fls, gr, gr2, ek, gk2, s1, s2, hf]
          simp -implicitDefEqProofs (maxSteps := 100000) (disch := first | (intros; contradiction) | omega) only [am0, am1, am2, am3, am4, am5, am6, am7, am8, am9, Nat.reduceSub, ↓reduceIte, reduceCtorEq, Nat.reduceEqDiff, Nat.reduceBEq, Nat.reduceAdd, Nat.reduceLT, Nat.reduceBNe, Nat.reduceMul, ↓reduceIte, tis, fls, gr, gr2, dx]
          refine .inl ⟨by kernel_rfl, ?_⟩
          simp -implicitDefEqProofs (maxSteps := 100000) (disch := first | (intros; contradiction) | omega) only [am0, am1, am2, am3, am4, am5, am6, am7, am8, am9, Nat.reduceSub, ↓reduceIte, reduceCtorEq, Nat.reduceEqDiff, Nat.reduceBEq, Nat.reduceAdd, Nat.reduceLT, Nat.reduceBNe, Nat.reduceMul, ↓reduceIte, tis, fls, gr, gr2, ek, gk2, s1, s2]
          refine round_normal (k + 1) ⟨by omega, good (by omega)⟩ ?_ (by show row.length - (k + 1) < row.length - k; omega)
          simp -implicitDefEqProofs (maxSteps := 100000) (disch := first | (intros; contradiction) | omega) only [am0, am1, am2, am3, am4, am5, am6, am7, am8, am9, Nat.reduceSub, ↓reduceIte, reduceCtorEq, Nat.reduceEqDiff, Nat.reduceBEq, Nat.reduceAdd, Nat.reduceLT, Nat.reduceBNe, Nat.reduceMul, ↓reduceIte, tis]
        · obtain rfl : k = row.length := by omega
          simp -implicitDefEqProofs (maxSteps := 100000) (disch := first | (intros; contradiction) | omega) only [am0, am1, am2, am3, am4, am5, am6, am7, am8, am9, Nat.reduceSub, ↓reduceIte, reduceCtorEq, Nat.reduceEqDiff, Nat.reduceBEq, Nat.reduceAdd, Nat.reduceLT, Nat.reduceBNe, Nat.reduceMul, ↓reduceIte, tis, fls, gr, gr2, dx]
          refine round_normal (i + 1) ⟨by omega, fun j hj => ?_⟩ ?_ (by show d.rows.length - (i + 1) < d.rows.length - i; omega)
          · by_cases e : j = i
            · subst e
              rw [hN2, List.all_eq_true]
              intro x hx
              obtain ⟨k', hk3, rfl⟩ := List.getElem_of_mem hx
              simpa using hkb k' hk3 hk3
            · exact hb j (by omega)
          · simp -implicitDefEqProofs (maxSteps := 100000) (disch := first | (intros; contradiction) | omega) only [am0, am1, am2, am3, am4, am5, am6, am7, am8, am9, Nat.reduceSub, ↓reduceIte, reduceCtorEq, Nat.reduceEqDiff, Nat.reduceBEq, Nat.reduceAdd, Nat.reduceLT, Nat.reduceBNe, Nat.reduceMul, ↓reduceIte, tis]
    · obtain rfl : i = d.rows.length := by omega
      have e : dfaB d = true := rows_t p1 (by omega) r3 hb
      simp -implicitDefEqProofs (maxSteps := 100000) (disch := first | (intros; contradiction) | omega) only [am0, am1, am2, am3, am4, am5, am6, am7, am8, am9, Nat.reduceSub, ↓reduceIte, reduceCtorEq, Nat.reduceEqDiff, Nat.reduceBEq, Nat.reduceAdd, Nat.reduceLT, Nat.reduceBNe, Nat.reduceMul, ↓reduceIte, tis, fls, dx, e]
end Go.Proofs.Ytonljcfflamccaa.U
