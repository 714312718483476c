/- What functions of the program answer, on values without memory (part 1): conditions stand at each theorem. -/
import Derived.Test.YtklmfpikhejemaaRows
import Derived.Test.YtklmfpikhejemaaAm3
set_option linter.unusedVariables false
set_option linter.unusedSimpArgs false
set_option maxRecDepth 100000
set_option maxHeartbeats 4000000
namespace Go.Proofs.Ytklmfpikhejemaa.U
open Go Go.RowKit Go.Proofs Go.Proofs.Ytklmfpikhejemaa.Am AV Go.Proofs.Try
theorem ti_3 : tinfo prog 3 = { size := 1, bytes := 8, agg := some false, kind := 5, esz := 0, ebytes := 0, eagg := none, alen := 0, fields := [], zero := .int .i64 0, ezero := .undef, zok := true, ezok := false } := by rfl
theorem ti_4 : tinfo prog 4 = { size := 1, bytes := 1, agg := some false, kind := 6, esz := 0, ebytes := 0, eagg := none, alen := 0, fields := [], zero := .bool false, ezero := .undef, zok := true, ezok := false } := by rfl
theorem ti_9 : tinfo prog 9 = { size := 1, bytes := 16, agg := some false, kind := 4, esz := 0, ebytes := 0, eagg := none, alen := 0, fields := [], zero := .str [], ezero := .undef, zok := true, ezok := false } := by rfl
theorem ti_5 : tinfo prog 5 = { size := 1, bytes := 1, agg := some false, kind := 5, esz := 0, ebytes := 0, eagg := none, alen := 0, fields := [], zero := .int .u8 0, ezero := .undef, zok := true, ezok := false } := by rfl
theorem ti_21 : tinfo prog 21 = { size := 1, bytes := 4, agg := some false, kind := 5, esz := 0, ebytes := 0, eagg := none, alen := 0, fields := [], zero := .int .i32 0, ezero := .undef, zok := true, ezok := false } := by rfl
theorem ti_61 : tinfo prog 61 = { size := 1, bytes := 24, agg := some false, kind := 1, esz := 1, ebytes := 1, eagg := some false, alen := 0, fields := [], zero := .sl true 0 [], ezero := .int .u8 0, zok := true, ezok := true } := by rfl
theorem ti_106 : tinfo prog 106 = { size := 1, bytes := 24, agg := some false, kind := 1, esz := 1, ebytes := 1, eagg := some false, alen := 0, fields := [], zero := .sl true 0 [], ezero := .bool false, zok := true, ezok := true } := by rfl
theorem ti_100 : tinfo prog 100 = { size := 256, bytes := 256, agg := some true, kind := 2, esz := 1, ebytes := 1, eagg := some false, alen := 256, fields := [], zero := .arr 1 (List.replicate 256 (.bool false)), ezero := .bool false, zok := true, ezok := true } := by rfl
theorem ti_92 : tinfo prog 92 = { size := 2, bytes := 16, agg := some true, kind := 3, esz := 0, ebytes := 0, eagg := none, alen := 0, fields := [(0, 1, some false), (1, 1, some false)], zero := .agg [.int .i64 0, .int .i64 0], ezero := .undef, zok := true, ezok := false } := by rfl
theorem ti_50 : tinfo prog 50 = { size := 1, bytes := 24, agg := some false, kind := 1, esz := 2, ebytes := 16, eagg := some true, alen := 0, fields := [], zero := .sl true 0 [], ezero := .agg [.int .i64 0, .int .i64 0], zok := true, ezok := true } := by rfl
theorem ti_53 : tinfo prog 53 = { size := 3, bytes := 56, agg := some true, kind := 3, esz := 0, ebytes := 0, eagg := none, alen := 0, fields := [(0, 1, some false), (1, 1, some false), (2, 1, some false)], zero := .agg [.int .i64 0, .sl true 0 [], .sl true 0 []], ezero := .undef, zok := true, ezok := false } := by rfl
theorem ti_51 : tinfo prog 51 = { size := 1, bytes := 24, agg := some false, kind := 1, esz := 3, ebytes := 56, eagg := some true, alen := 0, fields := [], zero := .sl true 0 [], ezero := .agg [.int .i64 0, .sl true 0 [], .sl true 0 []], zok := true, ezok := true } := by rfl
theorem ti_71 : tinfo prog 71 = { size := 4, bytes := 32, agg := some true, kind := 3, esz := 0, ebytes := 0, eagg := none, alen := 0, fields := [(0, 1, some false), (1, 1, some false), (2, 1, some false), (3, 1, some false)], zero := .agg [.int .i64 0, .int .i64 0, .int .i64 0, .int .i64 0], ezero := .undef, zok := true, ezok := false } := by rfl
theorem ti_30 : tinfo prog 30 = { size := 1, bytes := 24, agg := some false, kind := 1, esz := 4, ebytes := 32, eagg := some true, alen := 0, fields := [], zero := .sl true 0 [], ezero := .agg [.int .i64 0, .int .i64 0, .int .i64 0, .int .i64 0], zok := true, ezok := true } := by rfl
theorem ti_68 : tinfo prog 68 = { size := 3, bytes := 24, agg := some true, kind := 3, esz := 0, ebytes := 0, eagg := none, alen := 0, fields := [(0, 1, some false), (1, 1, some false), (2, 1, some false)], zero := .agg [.int .i64 0, .int .i64 0, .int .i64 0], ezero := .undef, zok := true, ezok := false } := by rfl
theorem ti_31 : tinfo prog 31 = { size := 1, bytes := 24, agg := some false, kind := 1, esz := 3, ebytes := 24, eagg := some true, alen := 0, fields := [], zero := .sl true 0 [], ezero := .agg [.int .i64 0, .int .i64 0, .int .i64 0], zok := true, ezok := true } := by rfl
theorem ti_33 : tinfo prog 33 = { size := 9, bytes := 112, agg := some true, kind := 3, esz := 0, ebytes := 0, eagg := none, alen := 0, fields := [(0, 1, some false), (1, 1, some false), (2, 1, some false), (3, 1, some false), (4, 1, some false), (5, 1, some false), (6, 1, some false), (7, 1, some false), (8, 1, some false)], zero := .agg [.sl true 0 [], .str [], .int .i64 0, .int .i64 0, .int .i64 0, .int .i64 0, .int .i64 0, .sl true 0 [], .bool false], ezero := .undef, zok := true, ezok := false } := by rfl
theorem ti_101 : tinfo prog 101 = { size := 256, bytes := 256, agg := some true, kind := 2, esz := 1, ebytes := 1, eagg := some false, alen := 256, fields := [], zero := .arr 1 (List.replicate 256 (.bool false)), ezero := .bool false, zok := true, ezok := true } := by rfl
theorem ti_94 : tinfo prog 94 = { size := 2, bytes := 16, agg := some true, kind := 3, esz := 0, ebytes := 0, eagg := none, alen := 0, fields := [(0, 1, some false), (1, 1, some false)], zero := .agg [.int .i64 0, .int .i64 0], ezero := .undef, zok := true, ezok := false } := by rfl
theorem ti_45 : tinfo prog 45 = { size := 1, bytes := 24, agg := some false, kind := 1, esz := 2, ebytes := 16, eagg := some true, alen := 0, fields := [], zero := .sl true 0 [], ezero := .agg [.int .i64 0, .int .i64 0], zok := true, ezok := true } := by rfl
theorem ti_48 : tinfo prog 48 = { size := 3, bytes := 56, agg := some true, kind := 3, esz := 0, ebytes := 0, eagg := none, alen := 0, fields := [(0, 1, some false), (1, 1, some false), (2, 1, some false)], zero := .agg [.int .i64 0, .sl true 0 [], .sl true 0 []], ezero := .undef, zok := true, ezok := false } := by rfl
theorem ti_46 : tinfo prog 46 = { size := 1, bytes := 24, agg := some false, kind := 1, esz := 3, ebytes := 56, eagg := some true, alen := 0, fields := [], zero := .sl true 0 [], ezero := .agg [.int .i64 0, .sl true 0 [], .sl true 0 []], zok := true, ezok := true } := by rfl
theorem ti_73 : tinfo prog 73 = { size := 4, bytes := 32, agg := some true, kind := 3, esz := 0, ebytes := 0, eagg := none, alen := 0, fields := [(0, 1, some false), (1, 1, some false), (2, 1, some false), (3, 1, some false)], zero := .agg [.int .i64 0, .int .i64 0, .int .i64 0, .int .i64 0], ezero := .undef, zok := true, ezok := false } := by rfl
theorem ti_24 : tinfo prog 24 = { size := 1, bytes := 24, agg := some false, kind := 1, esz := 4, ebytes := 32, eagg := some true, alen := 0, fields := [], zero := .sl true 0 [], ezero := .agg [.int .i64 0, .int .i64 0, .int .i64 0, .int .i64 0], zok := true, ezok := true } := by rfl
theorem ti_87 : tinfo prog 87 = { size := 3, bytes := 24, agg := some true, kind := 3, esz := 0, ebytes := 0, eagg := none, alen := 0, fields := [(0, 1, some false), (1, 1, some false), (2, 1, some false)], zero := .agg [.int .i64 0, .int .i64 0, .int .i64 0], ezero := .undef, zok := true, ezok := false } := by rfl
theorem ti_25 : tinfo prog 25 = { size := 1, bytes := 24, agg := some false, kind := 1, esz := 3, ebytes := 24, eagg := some true, alen := 0, fields := [], zero := .sl true 0 [], ezero := .agg [.int .i64 0, .int .i64 0, .int .i64 0], zok := true, ezok := true } := by rfl
theorem ti_27 : tinfo prog 27 = { size := 9, bytes := 112, agg := some true, kind := 3, esz := 0, ebytes := 0, eagg := none, alen := 0, fields := [(0, 1, some false), (1, 1, some false), (2, 1, some false), (3, 1, some false), (4, 1, some false), (5, 1, some false), (6, 1, some false), (7, 1, some false), (8, 1, some false)], zero := .agg [.sl true 0 [], .str [], .int .i64 0, .int .i64 0, .int .i64 0, .int .i64 0, .int .i64 0, .sl true 0 [], .bool false], ezero := .undef, zok := true, ezok := false } := by rfl
theorem ub_3 : prog.underlying 3 = some (.int .i64) := by kernel_rfl
theorem ub_4 : prog.underlying 4 = some .bool := by kernel_rfl
theorem ub_5 : prog.underlying 5 = some (.int .u8) := by kernel_rfl
theorem ub_21 : prog.underlying 21 = some (.int .i32) := by kernel_rfl
theorem fk_92 : flatK prog 92 = some [5, 5] := by kernel_rfl
theorem fk_71 : flatK prog 71 = some [5, 5, 5, 5] := by kernel_rfl
theorem fk_68 : flatK prog 68 = some [5, 5, 5] := by kernel_rfl
theorem fk_94 : flatK prog 94 = some [5, 5] := by kernel_rfl
theorem fk_73 : flatK prog 73 = some [5, 5, 5, 5] := by kernel_rfl
theorem fk_87 : flatK prog 87 = some [5, 5, 5] := by kernel_rfl
theorem tis : type_of% @ti_3 ∧ type_of% @ti_4 ∧ type_of% @ti_9 ∧ type_of% @ti_5 ∧ type_of% @ti_21 ∧ type_of% @ti_61 ∧ type_of% @ti_106 ∧ type_of% @ti_100 ∧ type_of% @ti_92 ∧ type_of% @ti_50 ∧ type_of% @ti_53 ∧ type_of% @ti_51 ∧ type_of% @ti_71 ∧ type_of% @ti_30 ∧ type_of% @ti_68 ∧ type_of% @ti_31 ∧ type_of% @ti_33 ∧ type_of% @ti_101 ∧ type_of% @ti_94 ∧ type_of% @ti_45 ∧ type_of% @ti_48 ∧ type_of% @ti_46 ∧ type_of% @ti_73 ∧ type_of% @ti_24 ∧ type_of% @ti_87 ∧ type_of% @ti_25 ∧ type_of% @ti_27 ∧ type_of% @ub_3 ∧ type_of% @ub_4 ∧ type_of% @ub_5 ∧ type_of% @ub_21 ∧ type_of% @fk_92 ∧ type_of% @fk_71 ∧ type_of% @fk_68 ∧ type_of% @fk_94 ∧ type_of% @fk_73 ∧ type_of% @fk_87 := ⟨ti_3, ti_4, ti_9, ti_5, ti_21, ti_61, ti_106, ti_100, ti_92, ti_50, ti_53, ti_51, ti_71, ti_30, ti_68, ti_31, ti_33, ti_101, ti_94, ti_45, ti_48, ti_46, ti_73, ti_24, ti_87, ti_25, ti_27, ub_3, ub_4, ub_5, ub_21, fk_92, fk_71, fk_68, fk_94, fk_73, fk_87⟩
structure Span where
  lo : Int
  hi : Int
  deriving DecidableEq
structure Ins where
  op : Int
  a : Int
  b : Int
  to : Int
  deriving DecidableEq
structure Token where
  rule : Int
  frm : Int
  to : Int
  deriving DecidableEq
instance : Inhabited Span := ⟨⟨0, 0⟩⟩
instance : Inhabited Ins := ⟨⟨0, 0, 0, 0⟩⟩
instance : Inhabited Token := ⟨⟨0, 0, 0⟩⟩
def eSpan (x : Span) : AV := .agg [.int .i64 x.lo, .int .i64 x.hi]
def eIns (x : Ins) : AV := .agg [.int .i64 x.op, .int .i64 x.a, .int .i64 x.b, .int .i64 x.to]
def eToken (x : Token) : AV := .agg [.int .i64 x.rule, .int .i64 x.frm, .int .i64 x.to]
/-- In a list of such nothing is own. -/
structure Flat {α : Type} (f : α → AV) (n : Nat) : Prop where
  er : ∀ x, erase (f x) = f x
  de : ∀ x, dead (f x) = f x
  pl : ∀ x, plain (f x) = true
  cl : ∀ x, closed (f x) = true
  nc : ∀ x, ncells (f x) = n
section
variable {α : Type} {f : α → AV} {n : Nat}
theorem Flat.eraseL (h : Flat f n) (l : List α) : eraseL (l.map f) = l.map f := by rw [eraseL_map, List.map_map]; exact List.map_congr_left fun x _ => h.er x
theorem Flat.deadL (h : Flat f n) (l : List α) : deadL (l.map f) = l.map f := by rw [deadL_map, List.map_map]; exact List.map_congr_left fun x _ => h.de x
theorem Flat.plainL (h : Flat f n) (l : List α) : plainL (l.map f) = true := by rw [plainL_all]; simp [h.pl]
theorem Flat.closedL (h : Flat f n) (l : List α) : closedL (l.map f) = true := by rw [closedL_all]; simp [h.cl]
theorem plainL_app (a b : List AV) : plainL (a ++ b) = (plainL a && plainL b) := by simp [plainL_all]
theorem closedL_app (a b : List AV) : closedL (a ++ b) = (closedL a && closedL b) := by simp [closedL_all]
theorem eraseL_app (a b : List AV) : eraseL (a ++ b) = eraseL a ++ eraseL b := by simp [eraseL_map]
theorem closedL_rep (k : Nat) (x : AV) (h : closed x = true) : closedL (List.replicate k x) = true := by rw [closedL_all]; simp [h]
theorem plainL_rep (k : Nat) (x : AV) (h : plain x = true) : plainL (List.replicate k x) = true := by rw [plainL_all]; simp [h]
end
theorem flSpan : Flat eSpan 2 := ⟨fun _ => rfl, fun _ => rfl, fun _ => rfl, fun _ => rfl, fun _ => rfl⟩
theorem flIns : Flat eIns 4 := ⟨fun _ => rfl, fun _ => rfl, fun _ => rfl, fun _ => rfl, fun _ => rfl⟩
theorem flToken : Flat eToken 3 := ⟨fun _ => rfl, fun _ => rfl, fun _ => rfl, fun _ => rfl, fun _ => rfl⟩
def eInt (x : Int) : AV := .int .i64 x
def eBool (x : Bool) : AV := .bool x
def eStr (x : List UInt8) : AV := .str x
theorem flInt : Flat eInt 1 := ⟨fun _ => rfl, fun _ => rfl, fun _ => rfl, fun _ => rfl, fun _ => rfl⟩
theorem flBool : Flat eBool 1 := ⟨fun _ => rfl, fun _ => rfl, fun _ => rfl, fun _ => rfl, fun _ => rfl⟩
theorem flStr : Flat eStr 1 := ⟨fun _ => rfl, fun _ => rfl, fun _ => rfl, fun _ => rfl, fun _ => rfl⟩
theorem fls : (∀ l : List Span, eraseL (l.map eSpan) = l.map eSpan) ∧ (∀ l : List Span, deadL (l.map eSpan) = l.map eSpan) ∧ (∀ l : List Span, plainL (l.map eSpan) = true) ∧ (∀ l : List Span, closedL (l.map eSpan) = true) ∧
    (∀ l : List Ins, eraseL (l.map eIns) = l.map eIns) ∧ (∀ l : List Ins, deadL (l.map eIns) = l.map eIns) ∧ (∀ l : List Ins, plainL (l.map eIns) = true) ∧ (∀ l : List Ins, closedL (l.map eIns) = true) ∧
    (∀ l : List Token, eraseL (l.map eToken) = l.map eToken) ∧ (∀ l : List Token, deadL (l.map eToken) = l.map eToken) ∧ (∀ l : List Token, plainL (l.map eToken) = true) ∧ (∀ l : List Token, closedL (l.map eToken) = true) ∧
    (∀ l : List Int, eraseL (l.map eInt) = l.map eInt) ∧ (∀ l : List Int, deadL (l.map eInt) = l.map eInt) ∧ (∀ l : List Int, plainL (l.map eInt) = true) ∧ (∀ l : List Int, closedL (l.map eInt) = true) ∧
    (∀ l : List Bool, eraseL (l.map eBool) = l.map eBool) ∧ (∀ l : List Bool, deadL (l.map eBool) = l.map eBool) ∧ (∀ l : List Bool, plainL (l.map eBool) = true) ∧ (∀ l : List Bool, closedL (l.map eBool) = true) ∧
    (∀ l : List (List UInt8), eraseL (l.map eStr) = l.map eStr) ∧ (∀ l : List (List UInt8), deadL (l.map eStr) = l.map eStr) ∧ (∀ l : List (List UInt8), plainL (l.map eStr) = true) ∧ (∀ l : List (List UInt8), closedL (l.map eStr) = true) :=
  ⟨flSpan.eraseL, flSpan.deadL, flSpan.plainL, flSpan.closedL, flIns.eraseL, flIns.deadL, flIns.plainL, flIns.closedL, flToken.eraseL, flToken.deadL, flToken.plainL, flToken.closedL,
    flInt.eraseL, flInt.deadL, flInt.plainL, flInt.closedL, flBool.eraseL, flBool.deadL, flBool.plainL, flBool.closedL, flStr.eraseL, flStr.deadL, flStr.plainL, flStr.closedL⟩

/-! A list that is built from the front. -/
theorem build_get {α : Type} (f : α → AV) (z : AV) (p : List α) (i : Nat) (h : i < p.length) : ((p.take i).map f ++ List.replicate (p.length - i) z)[i]? = some z := by
  rw [List.getElem?_append_right (by simp; omega)]
  have h1 : i - ((p.take i).map f).length = 0 := by simp; omega
  rw [h1, show p.length - i = (p.length - (i + 1)) + 1 by omega, List.replicate_succ]
  rfl
theorem build_set {α : Type} (f : α → AV) (z : AV) (p : List α) (i : Nat) (h : i < p.length) : ((p.take i).map f ++ List.replicate (p.length - i) z).set i (f p[i]) = (p.take (i + 1)).map f ++ List.replicate (p.length - (i + 1)) z := by
  rw [List.set_append_right _ _ (by simp; omega)]
  have h1 : i - ((p.take i).map f).length = 0 := by simp; omega
  rw [h1, show p.length - i = (p.length - (i + 1)) + 1 by omega, List.replicate_succ, List.set_cons_zero, List.take_succ_eq_append_getElem h, List.map_append, List.append_assoc]
  rfl
theorem build_len {α : Type} (f : α → AV) (z : AV) (p : List α) (i : Nat) (h : i ≤ p.length) : ((p.take i).map f ++ List.replicate (p.length - i) z).length = p.length := by simp; omega
/-! A list that is turned from the front. -/
theorem turn_get {α : Type} (A : List AV) (f : α → AV) (p : List α) (i : Nat) (hA : A.length = i) (h : i < p.length) : (A ++ (p.drop i).map f)[i]? = some (f p[i]) := by
  rw [List.getElem?_append_right (by omega), hA, Nat.sub_self]; simp [h]
theorem turn_set {α : Type} (A : List AV) (f : α → AV) (p : List α) (i : Nat) (y : AV) (hA : A.length = i) (h : i < p.length) : (A ++ (p.drop i).map f).set i y = A ++ [y] ++ (p.drop (i + 1)).map f := by
  rw [List.set_append_right _ _ (by omega), hA, Nat.sub_self, List.drop_eq_getElem_cons h, List.map_cons, List.set_cons_zero, List.append_assoc]
  rfl
/-- laws.toSpan -/
theorem fits_toSpan (x : Span) : Fits prog 78 [eSpan x] (eSpan x) [] := by
  refine fits_of_cell 2 92 [] [0, 1, 2, 3] func78 rfl rfl rfl (by show 2 < 11; decide) (by show 1 ≤ 11; decide) (by rfl) (by rfl) (by show 0 ≤ 1; decide) (by rfl) (run_of ?_)
  simp -implicitDefEqProofs only [am0, am1, am2, am3, am4, am5, am6, am7, am8, Nat.reduceSub, ↓reduceIte, reduceCtorEq, Nat.reduceEqDiff, Nat.reduceBEq, Nat.reduceAdd, Nat.reduceLT, ↓reduceIte, tis, eSpan]
/-- laws.eqSpan -/
theorem fits_eqSpan (x y : Span) : Fits prog 83 [eSpan x, eSpan y] (.bool (decide (x = y))) [] := by
  refine fits_of_code [4] [] [0, 1, 2, 3, 4, 9, 14] func83 rfl rfl rfl (by rfl) (by show 2 ≤ 15; decide) (by rfl) (by rfl) (by show 0 ≤ 2; decide) (by rfl) (run_of ?_)
  obtain ⟨a0, a1⟩ := x
  obtain ⟨b0, b1⟩ := y
  by_cases h0 : a0 = b0
  case neg =>
    simp -implicitDefEqProofs (maxSteps := 100000) (disch := first | (intros; contradiction) | omega) only [am0, am1, am2, am3, am4, am5, am6, am7, am8, Nat.reduceSub, ↓reduceIte, reduceCtorEq, Nat.reduceEqDiff, Nat.reduceBEq, Nat.reduceAdd, Nat.reduceLT, ↓reduceIte, tis, eSpan, h0]
    simp [h0]
  by_cases h1 : a1 = b1
  case neg =>
    simp -implicitDefEqProofs (maxSteps := 100000) (disch := first | (intros; contradiction) | omega) only [am0, am1, am2, am3, am4, am5, am6, am7, am8, Nat.reduceSub, ↓reduceIte, reduceCtorEq, Nat.reduceEqDiff, Nat.reduceBEq, Nat.reduceAdd, Nat.reduceLT, ↓reduceIte, tis, eSpan, h0, h1]
    simp [h1]
  simp -implicitDefEqProofs (maxSteps := 100000) (disch := first | (intros; contradiction) | omega) only [am0, am1, am2, am3, am4, am5, am6, am7, am8, Nat.reduceSub, ↓reduceIte, reduceCtorEq, Nat.reduceEqDiff, Nat.reduceBEq, Nat.reduceAdd, Nat.reduceLT, ↓reduceIte, tis, eSpan, h0, h1]
/-- laws.szSpanS -/
theorem fits_szSpanS (p : List Span) (n : Int) (hp : p.length ≤ 9223372036854775807) (hn : n ≤ 1048576) (hn0 : 0 ≤ n) : Fits prog 53 [.sl false 2 (p.map eSpan), .int .i64 n] (.int .i64 (if n - p.length < 0 then -1 else n - p.length)) [] := by
  refine fits_of_code [4] [] [0, 1, 4, 10] func53 rfl rfl rfl (by rfl) (by show 2 ≤ 12; decide) (by rfl) (by rfl) (by show 0 ≤ 2; decide) (by rfl) (run_of ?_)
  by_cases hl : n - p.length < 0
  · simp -implicitDefEqProofs (maxSteps := 100000) (disch := first | (intros; contradiction) | omega) only [am0, am1, am2, am3, am4, am5, am6, am7, am8, Nat.reduceSub, ↓reduceIte, reduceCtorEq, Nat.reduceEqDiff, Nat.reduceBEq, Nat.reduceAdd, Nat.reduceLT, ↓reduceIte, tis, hl]
  · simp -implicitDefEqProofs (maxSteps := 100000) (disch := first | (intros; contradiction) | omega) only [am0, am1, am2, am3, am4, am5, am6, am7, am8, Nat.reduceSub, ↓reduceIte, reduceCtorEq, Nat.reduceEqDiff, Nat.reduceBEq, Nat.reduceAdd, Nat.reduceLT, ↓reduceIte, tis, hl]
/-- laws.toSpanS -/
theorem fits_toSpanS (p : List Span) (hp : p.length ≤ 1048576) : Fits prog 57 [.sl false 2 (p.map eSpan)] (.sl true 2 (p.map eSpan)) [] := by
  refine fits_of_code [2] [] [0, 2, 3, 4, 11] func57 rfl rfl rfl (by rfl) (by show 1 ≤ 23; decide) (by rfl) (by rfl) (by show 0 ≤ 1; decide) (by rfl) (run_of ?_)
  simp -implicitDefEqProofs (maxSteps := 100000) (disch := first | (intros; contradiction) | omega) only [am0, am1, am2, am3, am4, am5, am6, am7, am8, Nat.reduceSub, ↓reduceIte, reduceCtorEq, Nat.reduceEqDiff, Nat.reduceBEq, Nat.reduceAdd, Nat.reduceLT, ↓reduceIte, tis]
  refine run_loop (α := Nat) (fun i => i ≤ p.length) (fun i => [(0, .sl false 2 (p.map eSpan)), (3, .sl true 2 ((p.take i).map eSpan ++ List.replicate (p.length - i) (eSpan ⟨0, 0⟩))), (4, .int .i64 i)]) (fun i => p.length - i) 0 (Nat.zero_le _) ?_ ?_
  · simp -implicitDefEqProofs (maxSteps := 100000) (disch := first | (intros; contradiction) | omega) only [am0, am1, am2, am3, am4, am5, am6, am7, am8, Nat.reduceSub, ↓reduceIte, reduceCtorEq, Nat.reduceEqDiff, Nat.reduceBEq, Nat.reduceAdd, Nat.reduceLT, ↓reduceIte, eSpan]
  · intro i hi'
    by_cases hi : i < p.length
    · have g2 := build_get eSpan (eSpan ⟨0, 0⟩) p i hi
      have g3 := build_set eSpan (eSpan ⟨0, 0⟩) p i hi
      have g4 := build_len eSpan (eSpan ⟨0, 0⟩) p i hi'
      simp only [eSpan] at g2 g3 g4
      simp -implicitDefEqProofs (maxSteps := 100000) (disch := first | (intros; contradiction) | omega) only [am0, am1, am2, am3, am4, am5, am6, am7, am8, Nat.reduceSub, ↓reduceIte, reduceCtorEq, Nat.reduceEqDiff, Nat.reduceBEq, Nat.reduceAdd, Nat.reduceLT, ↓reduceIte, tis, eSpan]
      refine callb_of (fits_toSpan p[i]) (by simp -implicitDefEqProofs (maxSteps := 100000) (disch := first | (intros; contradiction) | omega) only [am0, am1, am2, am3, am4, am5, am6, am7, am8, Nat.reduceSub, ↓reduceIte, reduceCtorEq, Nat.reduceEqDiff, Nat.reduceBEq, Nat.reduceAdd, Nat.reduceLT, ↓reduceIte, tis, eSpan]) (.inl rfl) rfl ?_
      simp -implicitDefEqProofs (maxSteps := 100000) (disch := first | (intros; contradiction) | omega) only [am0, am1, am2, am3, am4, am5, am6, am7, am8, Nat.reduceSub, ↓reduceIte, reduceCtorEq, Nat.reduceEqDiff, Nat.reduceBEq, Nat.reduceAdd, Nat.reduceLT, ↓reduceIte, tis, eSpan, g2, g3, g4]
      refine round_normal (i + 1) (by omega) ?_ (by show p.length - (i + 1) < p.length - i; omega)
      simp -implicitDefEqProofs (maxSteps := 100000) (disch := first | (intros; contradiction) | omega) only [am0, am1, am2, am3, am4, am5, am6, am7, am8, Nat.reduceSub, ↓reduceIte, reduceCtorEq, Nat.reduceEqDiff, Nat.reduceBEq, Nat.reduceAdd, Nat.reduceLT, ↓reduceIte, eSpan]
    · obtain rfl : i = p.length := by omega
      simp -implicitDefEqProofs (maxSteps := 100000) (disch := first | (intros; contradiction) | omega) only [am0, am1, am2, am3, am4, am5, am6, am7, am8, Nat.reduceSub, ↓reduceIte, reduceCtorEq, Nat.reduceEqDiff, Nat.reduceBEq, Nat.reduceAdd, Nat.reduceLT, ↓reduceIte, tis]
/-- laws.eqSpanS -/
theorem fits_eqSpanS (p q : List Span) (hp : p.length ≤ 1048576) (hq : q.length ≤ 1048576) : Fits prog 62 [.sl false 2 (p.map eSpan), .sl false 2 (q.map eSpan)] (.bool (decide (p = q))) [] := by
  refine fits_of_code [4] [] [0, 1, 4, 5, 10, 14, 26] func62 rfl rfl rfl (by rfl) (by show 2 ≤ 27; decide) (by rfl) (by rfl) (by show 0 ≤ 2; decide) (by rfl) (run_of ?_)
  by_cases hl : p.length = q.length
  · simp -implicitDefEqProofs (maxSteps := 100000) (disch := first | (intros; contradiction) | omega) only [am0, am1, am2, am3, am4, am5, am6, am7, am8, Nat.reduceSub, ↓reduceIte, reduceCtorEq, Nat.reduceEqDiff, Nat.reduceBEq, Nat.reduceAdd, Nat.reduceLT, ↓reduceIte, tis]
    refine run_loop (α := Nat) (fun i => i ≤ p.length ∧ p.take i = q.take i) (fun i => [(0, .sl false 2 (p.map eSpan)), (1, .sl false 2 (q.map eSpan)), (5, .int .i64 i)]) (fun i => p.length - i) 0 ⟨Nat.zero_le _, by simp⟩ ?_ ?_
    · simp -implicitDefEqProofs (maxSteps := 100000) (disch := first | (intros; contradiction) | omega) only [am0, am1, am2, am3, am4, am5, am6, am7, am8, Nat.reduceSub, ↓reduceIte, reduceCtorEq, Nat.reduceEqDiff, Nat.reduceBEq, Nat.reduceAdd, Nat.reduceLT, ↓reduceIte, tis]
    · rintro i ⟨h1, h2⟩
      by_cases hi : i < p.length
      · simp -implicitDefEqProofs (maxSteps := 100000) (disch := first | (intros; contradiction) | omega) only [am0, am1, am2, am3, am4, am5, am6, am7, am8, Nat.reduceSub, ↓reduceIte, reduceCtorEq, Nat.reduceEqDiff, Nat.reduceBEq, Nat.reduceAdd, Nat.reduceLT, ↓reduceIte, tis, eSpan]
        refine .inl ⟨by kernel_rfl, ?_⟩
        refine call_of (fits_eqSpan p[i] q[i]) (by simp -implicitDefEqProofs (maxSteps := 100000) (disch := first | (intros; contradiction) | omega) only [am0, am1, am2, am3, am4, am5, am6, am7, am8, Nat.reduceSub, ↓reduceIte, reduceCtorEq, Nat.reduceEqDiff, Nat.reduceBEq, Nat.reduceAdd, Nat.reduceLT, ↓reduceIte, tis, eSpan]) (.inl rfl) rfl ?_
        by_cases h : p[i] = q[i]
        · simp -implicitDefEqProofs (maxSteps := 100000) (disch := first | (intros; contradiction) | omega) only [am0, am1, am2, am3, am4, am5, am6, am7, am8, Nat.reduceSub, ↓reduceIte, reduceCtorEq, Nat.reduceEqDiff, Nat.reduceBEq, Nat.reduceAdd, Nat.reduceLT, ↓reduceIte, tis, h]
          refine round_normal (i + 1) ⟨by omega, ?_⟩ ?_ (by show p.length - (i + 1) < p.length - i; omega)
          · rw [List.take_succ_eq_append_getElem hi, List.take_succ_eq_append_getElem (by omega : i < q.length), h2, h]
          · simp -implicitDefEqProofs (maxSteps := 100000) (disch := first | (intros; contradiction) | omega) only [am0, am1, am2, am3, am4, am5, am6, am7, am8, Nat.reduceSub, ↓reduceIte, reduceCtorEq, Nat.reduceEqDiff, Nat.reduceBEq, Nat.reduceAdd, Nat.reduceLT, ↓reduceIte, tis]
        · have hne : p ≠ q := by rintro rfl; exact h rfl
          simp -implicitDefEqProofs (maxSteps := 100000) (disch := first | (intros; contradiction) | omega) only [am0, am1, am2, am3, am4, am5, am6, am7, am8, Nat.reduceSub, ↓reduceIte, reduceCtorEq, Nat.reduceEqDiff, Nat.reduceBEq, Nat.reduceAdd, Nat.reduceLT, ↓reduceIte, tis, h, hne]
      · obtain rfl : i = p.length := by omega
        have hpq : p = q := by rwa [List.take_of_length_le (Nat.le_refl _), List.take_of_length_le (by omega)] at h2
        simp -implicitDefEqProofs (maxSteps := 100000) (disch := first | (intros; contradiction) | omega) only [am0, am1, am2, am3, am4, am5, am6, am7, am8, Nat.reduceSub, ↓reduceIte, reduceCtorEq, Nat.reduceEqDiff, Nat.reduceBEq, Nat.reduceAdd, Nat.reduceLT, ↓reduceIte, tis, hpq]
  · have hne : p ≠ q := fun h => hl (by rw [h])
    simp -implicitDefEqProofs (maxSteps := 100000) (disch := first | (intros; contradiction) | omega) only [am0, am1, am2, am3, am4, am5, am6, am7, am8, Nat.reduceSub, ↓reduceIte, reduceCtorEq, Nat.reduceEqDiff, Nat.reduceBEq, Nat.reduceAdd, Nat.reduceLT, ↓reduceIte, tis, hne]
/-- The marks that are put into n such from k on. -/
def mkSpan (k : Int) : Span := ⟨k, k + 1⟩
def mkSpans (n : Nat) (k : Int) : List Span := (List.range n).map fun (i : Nat) => mkSpan (k + 2 * (i : Int))
theorem mkSpans_succ (n : Nat) (k : Int) : mkSpans (n + 1) k = mkSpans n k ++ [mkSpan (k + 2 * n)] := by simp [mkSpans, List.range_succ]
theorem mkSpans_len (n : Nat) (k : Int) : (mkSpans n k).length = n := by simp [mkSpans]
/-- laws.markSpanS -/
theorem fits_markSpanS (p : List Span) (k : Int) (hp : p.length ≤ 1048576) (h0 : 0 ≤ k) (hk : k ≤ 1152921504606846976) : Fits prog 64 [.sl true 2 (p.map eSpan), .int .i64 k] (.int .i64 (k + 2 * p.length)) [.sl true 2 ((mkSpans p.length k).map eSpan)] := by
  refine fits_of_code [4] [0] [0, 1, 4, 5, 9] func64 rfl rfl rfl (by rfl) (by show 2 ≤ 27; decide) (by rfl) (by rfl) (by show 1 ≤ 2; decide) (by rfl) (run_of ?_)
  simp -implicitDefEqProofs (maxSteps := 100000) (disch := first | (intros; contradiction) | omega) only [am0, am1, am2, am3, am4, am5, am6, am7, am8, Nat.reduceSub, ↓reduceIte, reduceCtorEq, Nat.reduceEqDiff, Nat.reduceBEq, Nat.reduceAdd, Nat.reduceLT, ↓reduceIte, tis]
  refine run_loop (α := Nat) (fun i => i ≤ p.length) (fun i => [(0, .sl true 2 ((mkSpans i k).map eSpan ++ (p.drop i).map eSpan)), (1, .int .i64 (k + 2 * i)), (5, .int .i64 i)]) (fun i => p.length - i) 0 (Nat.zero_le _) ?_ ?_
  · simp -implicitDefEqProofs (maxSteps := 100000) (disch := first | (intros; contradiction) | omega) only [am0, am1, am2, am3, am4, am5, am6, am7, am8, Nat.reduceSub, ↓reduceIte, reduceCtorEq, Nat.reduceEqDiff, Nat.reduceBEq, Nat.reduceAdd, Nat.reduceLT, ↓reduceIte, tis, mkSpans]
    try simp
  · intro i hi'
    have hA : ((mkSpans i k).map eSpan).length = i := by simp [mkSpans_len]
    have hL : ((mkSpans i k).map eSpan ++ (p.drop i).map eSpan).length = p.length := by simp [mkSpans_len]; omega
    by_cases hi : i < p.length
    · have g1 := turn_get _ eSpan p i hA hi
      have g2 := fun y => turn_set _ eSpan p i y hA hi
      have g3 : ∀ y, ((mkSpans i k).map eSpan ++ [y] ++ (p.drop (i + 1)).map eSpan)[i]? = some y := fun y => by
        rw [List.append_assoc, List.getElem?_append_right (by omega), hA, Nat.sub_self]; rfl
      have g4 : ∀ y z, ((mkSpans i k).map eSpan ++ [y] ++ (p.drop (i + 1)).map eSpan).set i z = (mkSpans i k).map eSpan ++ [z] ++ (p.drop (i + 1)).map eSpan := fun y z => by
        rw [List.append_assoc, List.set_append_right _ _ (by omega), hA, Nat.sub_self]; simp
      have g5 : ∀ y, ((mkSpans i k).map eSpan ++ [y] ++ (p.drop (i + 1)).map eSpan).length = p.length := fun y => by simp [mkSpans_len]; omega
      simp only [eSpan] at g1
      simp -implicitDefEqProofs (maxSteps := 100000) (disch := first | (intros; contradiction) | omega) only [am0, am1, am2, am3, am4, am5, am6, am7, am8, Nat.reduceSub, ↓reduceIte, reduceCtorEq, Nat.reduceEqDiff, Nat.reduceBEq, Nat.reduceAdd, Nat.reduceLT, ↓reduceIte, tis, hL, g1, g2, g3, g4, g5]
      refine round_normal (i + 1) (by omega) ?_ (by show p.length - (i + 1) < p.length - i; omega)
      simp -implicitDefEqProofs (maxSteps := 100000) (disch := first | (intros; contradiction) | omega) only [am0, am1, am2, am3, am4, am5, am6, am7, am8, Nat.reduceSub, ↓reduceIte, reduceCtorEq, Nat.reduceEqDiff, Nat.reduceBEq, Nat.reduceAdd, Nat.reduceLT, ↓reduceIte, tis, mkSpans_succ]
      simp [mkSpan, eSpan]
      omega
    · obtain rfl : i = p.length := by omega
      simp -implicitDefEqProofs (maxSteps := 100000) (disch := first | (intros; contradiction) | omega) only [am0, am1, am2, am3, am4, am5, am6, am7, am8, Nat.reduceSub, ↓reduceIte, reduceCtorEq, Nat.reduceEqDiff, Nat.reduceBEq, Nat.reduceAdd, Nat.reduceLT, ↓reduceIte, tis, mkSpans_len]
theorem mkSpans_get (n : Nat) (k : Int) (i : Nat) (h : i < n) : ((mkSpans n k).map eSpan).getD i .undef = eSpan (mkSpan (k + 2 * i)) := by
  simp [mkSpans, List.getD, h]
/-- laws.heldSpanS -/
theorem fits_heldSpanS (m : Nat) (k : Int) (hp : m ≤ 1048576) (h0 : 0 ≤ k) (hk : k ≤ 1152921504606846976) : Fits prog 66 [.sl false 2 ((mkSpans m k).map eSpan), .int .i64 k] (.int .i64 (k + 2 * m)) [] := by
  refine fits_of_code [4] [] [0, 1, 4, 5, 9, 18, 27] func66 rfl rfl rfl (by rfl) (by show 2 ≤ 31; decide) (by rfl) (by rfl) (by show 0 ≤ 2; decide) (by rfl) (run_of ?_)
  simp -implicitDefEqProofs (maxSteps := 100000) (disch := first | (intros; contradiction) | omega) only [am0, am1, am2, am3, am4, am5, am6, am7, am8, Nat.reduceSub, ↓reduceIte, reduceCtorEq, Nat.reduceEqDiff, Nat.reduceBEq, Nat.reduceAdd, Nat.reduceLT, ↓reduceIte, tis]
  refine run_loop (α := Nat) (fun i => i ≤ m) (fun i => [(0, .sl false 2 ((mkSpans m k).map eSpan)), (1, .int .i64 (k + 2 * i)), (5, .int .i64 i)]) (fun i => m - i) 0 (Nat.zero_le _) ?_ ?_
  · simp -implicitDefEqProofs (maxSteps := 100000) (disch := first | (intros; contradiction) | omega) only [am0, am1, am2, am3, am4, am5, am6, am7, am8, Nat.reduceSub, ↓reduceIte, reduceCtorEq, Nat.reduceEqDiff, Nat.reduceBEq, Nat.reduceAdd, Nat.reduceLT, ↓reduceIte, tis]
  · intro i hi'
    by_cases hi : i < m
    · have g := mkSpans_get m k i hi
      simp only [eSpan, mkSpan] at g
      simp -implicitDefEqProofs (maxSteps := 100000) (disch := first | (intros; contradiction) | omega) only [am0, am1, am2, am3, am4, am5, am6, am7, am8, Nat.reduceSub, ↓reduceIte, reduceCtorEq, Nat.reduceEqDiff, Nat.reduceBEq, Nat.reduceAdd, Nat.reduceLT, ↓reduceIte, tis, g, mkSpans_len]
      refine round_normal (i + 1) (by omega) ?_ (by show m - (i + 1) < m - i; omega)
      simp -implicitDefEqProofs (maxSteps := 100000) (disch := first | (intros; contradiction) | omega) only [am0, am1, am2, am3, am4, am5, am6, am7, am8, Nat.reduceSub, ↓reduceIte, reduceCtorEq, Nat.reduceEqDiff, Nat.reduceBEq, Nat.reduceAdd, Nat.reduceLT, ↓reduceIte, tis, mkSpans_len]
      omega
    · obtain rfl : i = m := by omega
      simp -implicitDefEqProofs (maxSteps := 100000) (disch := first | (intros; contradiction) | omega) only [am0, am1, am2, am3, am4, am5, am6, am7, am8, Nat.reduceSub, ↓reduceIte, reduceCtorEq, Nat.reduceEqDiff, Nat.reduceBEq, Nat.reduceAdd, Nat.reduceLT, ↓reduceIte, tis, mkSpans_len]
inductive Rex where
  | mk (kind : Int) (set : List Span) (kids : List Rex)
def Rex.kind : Rex → Int | .mk k _ _ => k
def Rex.set : Rex → List Span | .mk _ s _ => s
def Rex.kids : Rex → List Rex | .mk _ _ ks => ks
instance : Inhabited Rex := ⟨.mk 0 [] []⟩
theorem Rex.eta (r : Rex) : .mk r.kind r.set r.kids = r := by cases r; rfl
theorem Rex.ind {p : Rex → Prop} (h : ∀ k s ks, (∀ x ∈ ks, p x) → p (.mk k s ks)) : ∀ r, p r
  | .mk k s ks => h k s ks (fun x _ => Rex.ind h x)
termination_by r => SizeOf.sizeOf r
decreasing_by simp_wf; have := List.sizeOf_lt_of_mem ‹_›; omega
theorem Rex.ind' {p : Rex → Prop} (h : ∀ r : Rex, (∀ x ∈ r.kids, p x) → p r) (r : Rex) : p r := Rex.ind (fun k s ks ih => h (.mk k s ks) ih) r
def eRex (o : Bool) : Rex → AV
  | .mk k s ks => .agg [.int .i64 k, .sl o 2 (s.map eSpan), .sl o 3 (ks.map (eRex o))]
theorem eRex_eq (o : Bool) (r : Rex) : eRex o r = .agg [.int .i64 r.kind, .sl o 2 (r.set.map eSpan), .sl o 3 (r.kids.map (eRex o))] := by
  cases r; rw [eRex]; rfl
theorem er_rex (o : Bool) (r : Rex) : erase (eRex o r) = eRex false r := by
  induction r using Rex.ind' with
  | h r ih =>
    rw [eRex_eq, eRex_eq]
    simp only [erase, eraseL, flSpan.eraseL, eraseL_map, List.map_map]
    congr 3
    simpa using ih
theorem erL_rex (o : Bool) (l : List Rex) : eraseL (l.map (eRex o)) = l.map (eRex false) := by
  rw [eraseL_map, List.map_map]; exact List.map_congr_left fun x _ => er_rex o x
theorem pl_rex (r : Rex) : plain (eRex false r) = true := by rw [eRex_eq]; simp [plain, plainL]
theorem plL_rex (l : List Rex) : plainL (l.map (eRex false)) = true := by rw [plainL_all]; simp [pl_rex]
theorem cl_rex (r : Rex) : closed (eRex true r) = true := by
  induction r using Rex.ind' with
  | h r ih =>
    rw [eRex_eq]
    simp only [closed, closedL, flSpan.closedL, closedL_all, Bool.true_and, Bool.and_true]
    simpa using ih
theorem clL_rex (l : List Rex) : closedL (l.map (eRex true)) = true := by rw [closedL_all]; simp [cl_rex]
theorem nc_rex (o : Bool) (r : Rex) : ncells (eRex o r) = 3 := by rw [eRex_eq]; simp [ncells, ncellsL]
theorem ag_rex (o : Bool) (r : Rex) : AV.isAgg (eRex o r) = true := by rw [eRex_eq]; rfl
theorem st_rex (o : Bool) (r : Rex) : AV.stor (eRex o r) = true := by rw [eRex_eq]; rfl
theorem tg_rex (o : Bool) (r : Rex) : AV.target (eRex o r) = none := by rw [eRex_eq]; rfl
theorem de_rex (o : Bool) (r : Rex) : plain (dead (eRex o r)) = true := by rw [eRex_eq]; cases o <;> simp [dead, deadL, plain, plainL]
/-- All that is known of the parts as a whole. -/
theorem rx : (∀ o r, erase (eRex o r) = eRex false r) ∧ (∀ o (l : List Rex), eraseL (l.map (eRex o)) = l.map (eRex false)) ∧ (∀ r, plain (eRex false r) = true) ∧ (∀ l : List Rex, plainL (l.map (eRex false)) = true) ∧
    (∀ r, closed (eRex true r) = true) ∧ (∀ l : List Rex, closedL (l.map (eRex true)) = true) ∧ (∀ o r, ncells (eRex o r) = 3) ∧ (∀ o r, AV.isAgg (eRex o r) = true) ∧ (∀ o r, AV.stor (eRex o r) = true) ∧ (∀ o r, AV.target (eRex o r) = none) :=
  ⟨er_rex, erL_rex, pl_rex, plL_rex, cl_rex, clL_rex, nc_rex, ag_rex, st_rex, tg_rex⟩
/-- How many spans and parts there are. -/
def bd : Rex → Nat
  | .mk _ s ks => s.length + (ks.length + (ks.map bd).sum)
theorem bd_eq (r : Rex) : bd r = r.set.length + (r.kids.length + (r.kids.map bd).sum) := by cases r; rw [bd]; rfl
theorem le_sum : ∀ {l : List Nat} {n : Nat}, n ∈ l → n ≤ l.sum
  | x :: l, n, h => by
    rcases List.mem_cons.1 h with rfl | h
    · simp
    · have := le_sum h
      simp; omega
theorem bd_kid {r x : Rex} (h : x ∈ r.kids) : bd x ≤ bd r := by
  rw [bd_eq r]
  have := le_sum (List.mem_map_of_mem (f := bd) h)
  omega
/-- No list of it is longer than Go's lists can be. -/
inductive Lens : Rex → Prop
  | mk (r : Rex) (h1 : r.set.length ≤ 9223372036854775807) (h2 : r.kids.length ≤ 9223372036854775807) (h3 : ∀ x ∈ r.kids, Lens x) : Lens r
/-- A place where one can go on. -/
def doorB (p : List Ins) (i : Nat) : Bool := match p[i]? with
  | some x => x.op == 2 || (x.op == 1 && (match p[i + 1]? with | some y => y.op == 2 | none => false))
  | none => false
def doorI (p : List Ins) (i : Int) : Bool := decide (0 ≤ i) && doorB p i.toNat
def insB (p : List Ins) (i : Nat) : Bool := match p[i]? with
  | some x => (x.op == 1 && (decide (0 ≤ x.a ∧ x.a ≤ 4 ∧ x.b = 0 ∧ x.to = 0) && doorB p i)) || ((x.op == 2 || x.op == 4) && decide (x.a = 0 ∧ x.b = 0 ∧ x.to = 0)) ||
      (x.op == 3 && (decide (0 ≤ x.a ∧ x.a ≤ x.b ∧ x.b ≤ 255) && doorI p x.to))
  | none => false
def lastB (p : List Ins) : Bool := match p.getLast? with | some x => x.op == 4 | none => false
def progB (p : List Ins) : Bool := decide (1 ≤ p.length ∧ p.length ≤ 1500) && (doorB p 0 && (lastB p && (List.range p.length).all (insB p)))
theorem doorB_lt {p : List Ins} {i : Nat} (h : doorB p i = true) : i < p.length := by
  unfold doorB at h
  split at h
  · rename_i x e; exact (List.getElem?_eq_some_iff.1 e).1
  · cases h
theorem doorB_at {p : List Ins} {i : Nat} (h : i < p.length) : doorB p i = (p[i].op == 2 || (p[i].op == 1 && (match p[i + 1]? with | some y => y.op == 2 | none => false))) := by
  simp [doorB, h]
theorem insB_at {p : List Ins} {i : Nat} (h : i < p.length) : insB p i = ((p[i].op == 1 && (decide (0 ≤ p[i].a ∧ p[i].a ≤ 4 ∧ p[i].b = 0 ∧ p[i].to = 0) && doorB p i)) || ((p[i].op == 2 || p[i].op == 4) && decide (p[i].a = 0 ∧ p[i].b = 0 ∧ p[i].to = 0)) ||
      (p[i].op == 3 && (decide (0 ≤ p[i].a ∧ p[i].a ≤ p[i].b ∧ p[i].b ≤ 255) && doorI p p[i].to))) := by
  simp [insB, h]
theorem doorI_out {p : List Ins} {i : Int} (h : ¬ (0 ≤ i ∧ i < p.length)) : doorI p i = false := by
  unfold doorI
  by_cases h0 : 0 ≤ i
  · have : p.length ≤ i.toNat := by omega
    simp [doorB, List.getElem?_eq_none this]
  · simp [h0]
theorem lastB_at {p : List Ins} (h : 0 < p.length) : lastB p = (p[p.length - 1].op == 4) := by
  have h1 : p.length - 1 < p.length := by omega
  simp [lastB, List.getLast?_eq_getElem?, h1]

theorem progB_false1 {p : List Ins} (h : ¬ (1 ≤ (p.length : Int) ∧ (p.length : Int) ≤ 1500)) : progB p = false := by
  have : ¬ (1 ≤ p.length ∧ p.length ≤ 1500) := by omega
  simp only [progB, this, decide_false, Bool.false_and]
theorem progB_false2 {p : List Ins} (h : doorB p 0 = false) : progB p = false := by simp [progB, h]
theorem progB_false3 {p : List Ins} (h : lastB p = false) : progB p = false := by simp [progB, h]
theorem progB_false4 {p : List Ins} {i : Nat} (hi : i < p.length) (h : insB p i = false) : progB p = false := by
  have : (List.range p.length).all (insB p) = false := by
    rw [List.all_eq_false]; exact ⟨i, by simpa using hi, by simp [h]⟩
  simp [progB, this]
theorem progB_true {p : List Ins} (h1 : 1 ≤ (p.length : Int) ∧ (p.length : Int) ≤ 1500) (h2 : doorB p 0 = true) (h3 : lastB p = true) (h4 : ∀ i, i < p.length → insB p i = true) : progB p = true := by
  have : (1 ≤ p.length ∧ p.length ≤ 1500) := by omega
  simp only [progB, this, h2, h3, Bool.and_eq_true, decide_true, Bool.true_and]
  simpa using h4
theorem doorI_zero (p : List Ins) : doorI p 0 = doorB p 0 := by simp [doorI]
theorem doorI_nat (p : List Ins) (i : Nat) : doorI p (i : Int) = doorB p i := by simp [doorI]
theorem progB_len {p : List Ins} (h : progB p = true) : 1 ≤ p.length ∧ p.length ≤ 1500 := by
  simp only [progB, Bool.and_eq_true, decide_eq_true_eq] at h; exact h.1
/-- impl.in -/
theorem fits_in (n l h : Int) : Fits prog 45 [.int .i64 n, .int .i64 l, .int .i64 h] (.bool (decide (l ≤ n ∧ n ≤ h))) [] := by
  refine fits_of_code [6] [] [0, 1, 2, 6] func45 rfl rfl rfl (by rfl) (by show 3 ≤ 15; decide) (by rfl) (by rfl) (by show 0 ≤ 3; decide) (by rfl) (run_of ?_)
  (simp -implicitDefEqProofs (maxSteps := 100000) (disch := first | (intros; contradiction) | omega) only [am0, am1, am2, am3, am4, am5, am6, am7, am8, Nat.reduceSub, ↓reduceIte, reduceCtorEq, Nat.reduceEqDiff, Nat.reduceBEq, Nat.reduceAdd, Nat.reduceLT, ↓reduceIte, tis]; (repeat' ((first | (refine Or.inl (And.intro (a := drawOk _ _ = true) (by kernel_rfl) ?_)) | (refine Or.inl (show drawOk _ _ = true from (by kernel_rfl))) | (refine cond_beq (fun _ => ?_) (fun _ => ?_)) | (refine cond_bne (fun _ => ?_) (fun _ => ?_)) | (refine cond_dec (fun _ => ?_) (fun _ => ?_)) | (refine cond_of (fun _ => ?_) (fun _ => ?_)) | (refine guard_beq (fun _ => ?_) (fun _ => ?_)) | (refine guard_bne (fun _ => ?_) (fun _ => ?_)) | (refine guard_dec (fun _ => ?_) (fun _ => ?_)) | (refine guard_of (fun _ => ?_) (fun _ => ?_)) | (refine guardD_beq (fun _ => ?_) (fun _ => ?_)) | (refine guardD_bne (fun _ => ?_) (fun _ => ?_)) | (refine guardD_dec (fun _ => ?_) (fun _ => ?_)) | (refine guardD_of (fun _ => ?_) (fun _ => ?_))) <;> (try simp -implicitDefEqProofs (maxSteps := 100000) (disch := first | (intros; contradiction) | omega) only [am0, am1, am2, am3, am4, am5, am6, am7, am8, Nat.reduceSub, ↓reduceIte, reduceCtorEq, Nat.reduceEqDiff, Nat.reduceBEq, Nat.reduceAdd, Nat.reduceLT, ↓reduceIte, tis]))))
  all_goals (simp_all)
/-- impl.door -/
theorem fits_door (p : List Ins) (i : Int) (hp : p.length ≤ 1099511627776) : Fits prog 46 [.sl false 4 (p.map eIns), .int .i64 i] (.bool (doorI p i)) [] := by
  refine fits_of_code [4] [] [0, 1, 4, 10] func46 rfl rfl rfl (by rfl) (by show 2 ≤ 41; decide) (by rfl) (by rfl) (by show 0 ≤ 2; decide) (by rfl) (run_of ?_)
  simp -implicitDefEqProofs (maxSteps := 100000) (disch := first | (intros; contradiction) | omega) only [am0, am1, am2, am3, am4, am5, am6, am7, am8, Nat.reduceSub, ↓reduceIte, reduceCtorEq, Nat.reduceEqDiff, Nat.reduceBEq, Nat.reduceAdd, Nat.reduceLT, ↓reduceIte, tis]
  refine callb_of (fits_in i 0 (p.length - 1)) (by simp -implicitDefEqProofs (maxSteps := 100000) (disch := first | (intros; contradiction) | omega) only [am0, am1, am2, am3, am4, am5, am6, am7, am8, Nat.reduceSub, ↓reduceIte, reduceCtorEq, Nat.reduceEqDiff, Nat.reduceBEq, Nat.reduceAdd, Nat.reduceLT, ↓reduceIte, tis]) (.inl rfl) rfl ?_
  by_cases hi : 0 ≤ i ∧ i < p.length
  case neg =>
    have h2 : ¬ (0 ≤ i ∧ i ≤ (p.length : Int) - 1) := by omega
    simp -implicitDefEqProofs (maxSteps := 100000) (disch := first | (intros; contradiction) | omega) only [am0, am1, am2, am3, am4, am5, am6, am7, am8, Nat.reduceSub, ↓reduceIte, reduceCtorEq, Nat.reduceEqDiff, Nat.reduceBEq, Nat.reduceAdd, Nat.reduceLT, ↓reduceIte, tis, h2, doorI_out hi]
  obtain ⟨j, rfl⟩ : ∃ j : Nat, i = j := ⟨i.toNat, by omega⟩
  have hj : j < p.length := by omega
  have h2 : (0 ≤ (j : Int) ∧ (j : Int) ≤ (p.length : Int) - 1) := by omega
  (simp -implicitDefEqProofs (maxSteps := 100000) (disch := first | (intros; contradiction) | omega) only [am0, am1, am2, am3, am4, am5, am6, am7, am8, Nat.reduceSub, ↓reduceIte, reduceCtorEq, Nat.reduceEqDiff, Nat.reduceBEq, Nat.reduceAdd, Nat.reduceLT, ↓reduceIte, tis, h2, eIns]; (repeat' ((first | (refine Or.inl (And.intro (a := drawOk _ _ = true) (by kernel_rfl) ?_)) | (refine Or.inl (show drawOk _ _ = true from (by kernel_rfl))) | (refine cond_beq (fun _ => ?_) (fun _ => ?_)) | (refine cond_bne (fun _ => ?_) (fun _ => ?_)) | (refine cond_dec (fun _ => ?_) (fun _ => ?_)) | (refine cond_of (fun _ => ?_) (fun _ => ?_)) | (refine guard_beq (fun _ => ?_) (fun _ => ?_)) | (refine guard_bne (fun _ => ?_) (fun _ => ?_)) | (refine guard_dec (fun _ => ?_) (fun _ => ?_)) | (refine guard_of (fun _ => ?_) (fun _ => ?_)) | (refine guardD_beq (fun _ => ?_) (fun _ => ?_)) | (refine guardD_bne (fun _ => ?_) (fun _ => ?_)) | (refine guardD_dec (fun _ => ?_) (fun _ => ?_)) | (refine guardD_of (fun _ => ?_) (fun _ => ?_))) <;> (try simp -implicitDefEqProofs (maxSteps := 100000) (disch := first | (intros; contradiction) | omega) only [am0, am1, am2, am3, am4, am5, am6, am7, am8, Nat.reduceSub, ↓reduceIte, reduceCtorEq, Nat.reduceEqDiff, Nat.reduceBEq, Nat.reduceAdd, Nat.reduceLT, ↓reduceIte, tis, h2, eIns]))))
  all_goals (have hq : j + 1 < p.length ∨ ¬ j + 1 < p.length := by omega)
  all_goals (rcases hq with hq | hq <;> first | omega | (simp_all [doorI, doorB_at hj]))

/-- impl.insOk -/
theorem fits_insOk (p : List Ins) (i : Nat) (hp : p.length ≤ 1099511627776) (hi : i < p.length) : Fits prog 75 [.sl false 4 (p.map eIns), .int .i64 i] (.bool (insB p i)) [] := by
  refine fits_of_code [4] [] [0, 1, 4, 5, 11, 12, 32, 48] func75 rfl rfl rfl (by rfl) (by show 2 ≤ 71; decide) (by rfl) (by rfl) (by show 0 ≤ 2; decide) (by rfl) (run_of ?_)
  (simp -implicitDefEqProofs (maxSteps := 100000) (disch := first | (intros; contradiction) | omega) only [am0, am1, am2, am3, am4, am5, am6, am7, am8, Nat.reduceSub, ↓reduceIte, reduceCtorEq, Nat.reduceEqDiff, Nat.reduceBEq, Nat.reduceAdd, Nat.reduceLT, ↓reduceIte, tis, eIns]; (repeat' ((first | (refine callb_of (fits_in _ _ _) (by simp -implicitDefEqProofs (maxSteps := 100000) (disch := first | (intros; contradiction) | omega) only [am0, am1, am2, am3, am4, am5, am6, am7, am8, Nat.reduceSub, ↓reduceIte, reduceCtorEq, Nat.reduceEqDiff, Nat.reduceBEq, Nat.reduceAdd, Nat.reduceLT, ↓reduceIte, tis, eIns]; (repeat' (first | rfl | constructor))) (by first | exact .inl rfl | (right; simp -implicitDefEqProofs (maxSteps := 100000) (disch := first | (intros; contradiction) | omega) only [am0, am1, am2, am3, am4, am5, am6, am7, am8, Nat.reduceSub, ↓reduceIte, reduceCtorEq, Nat.reduceEqDiff, Nat.reduceBEq, Nat.reduceAdd, Nat.reduceLT, ↓reduceIte, tis, eIns])) rfl ?_) | (refine call_of (fits_in _ _ _) (by simp -implicitDefEqProofs (maxSteps := 100000) (disch := first | (intros; contradiction) | omega) only [am0, am1, am2, am3, am4, am5, am6, am7, am8, Nat.reduceSub, ↓reduceIte, reduceCtorEq, Nat.reduceEqDiff, Nat.reduceBEq, Nat.reduceAdd, Nat.reduceLT, ↓reduceIte, tis, eIns]; (repeat' (first | rfl | constructor))) (by first | exact .inl rfl | (right; simp -implicitDefEqProofs (maxSteps := 100000) (disch := first | (intros; contradiction) | omega) only [am0, am1, am2, am3, am4, am5, am6, am7, am8, Nat.reduceSub, ↓reduceIte, reduceCtorEq, Nat.reduceEqDiff, Nat.reduceBEq, Nat.reduceAdd, Nat.reduceLT, ↓reduceIte, tis, eIns])) rfl ?_) | (refine callb_of (fits_door p _ hp) (by simp -implicitDefEqProofs (maxSteps := 100000) (disch := first | (intros; contradiction) | omega) only [am0, am1, am2, am3, am4, am5, am6, am7, am8, Nat.reduceSub, ↓reduceIte, reduceCtorEq, Nat.reduceEqDiff, Nat.reduceBEq, Nat.reduceAdd, Nat.reduceLT, ↓reduceIte, tis, eIns]; (repeat' (first | rfl | constructor))) (by first | exact .inl rfl | (right; simp -implicitDefEqProofs (maxSteps := 100000) (disch := first | (intros; contradiction) | omega) only [am0, am1, am2, am3, am4, am5, am6, am7, am8, Nat.reduceSub, ↓reduceIte, reduceCtorEq, Nat.reduceEqDiff, Nat.reduceBEq, Nat.reduceAdd, Nat.reduceLT, ↓reduceIte, tis, eIns])) rfl ?_) | (refine call_of (fits_door p _ hp) (by simp -implicitDefEqProofs (maxSteps := 100000) (disch := first | (intros; contradiction) | omega) only [am0, am1, am2, am3, am4, am5, am6, am7, am8, Nat.reduceSub, ↓reduceIte, reduceCtorEq, Nat.reduceEqDiff, Nat.reduceBEq, Nat.reduceAdd, Nat.reduceLT, ↓reduceIte, tis, eIns]; (repeat' (first | rfl | constructor))) (by first | exact .inl rfl | (right; simp -implicitDefEqProofs (maxSteps := 100000) (disch := first | (intros; contradiction) | omega) only [am0, am1, am2, am3, am4, am5, am6, am7, am8, Nat.reduceSub, ↓reduceIte, reduceCtorEq, Nat.reduceEqDiff, Nat.reduceBEq, Nat.reduceAdd, Nat.reduceLT, ↓reduceIte, tis, eIns])) rfl ?_) | (refine Or.inl (And.intro (a := drawOk _ _ = true) (by kernel_rfl) ?_)) | (refine Or.inl (show drawOk _ _ = true from (by kernel_rfl))) | (refine cond_beq (fun _ => ?_) (fun _ => ?_)) | (refine cond_bne (fun _ => ?_) (fun _ => ?_)) | (refine cond_dec (fun _ => ?_) (fun _ => ?_)) | (refine cond_of (fun _ => ?_) (fun _ => ?_)) | (refine guard_beq (fun _ => ?_) (fun _ => ?_)) | (refine guard_bne (fun _ => ?_) (fun _ => ?_)) | (refine guard_dec (fun _ => ?_) (fun _ => ?_)) | (refine guard_of (fun _ => ?_) (fun _ => ?_)) | (refine guardD_beq (fun _ => ?_) (fun _ => ?_)) | (refine guardD_bne (fun _ => ?_) (fun _ => ?_)) | (refine guardD_dec (fun _ => ?_) (fun _ => ?_)) | (refine guardD_of (fun _ => ?_) (fun _ => ?_))) <;> (try simp -implicitDefEqProofs (maxSteps := 100000) (disch := first | (intros; contradiction) | omega) only [am0, am1, am2, am3, am4, am5, am6, am7, am8, Nat.reduceSub, ↓reduceIte, reduceCtorEq, Nat.reduceEqDiff, Nat.reduceBEq, Nat.reduceAdd, Nat.reduceLT, ↓reduceIte, tis, eIns]))))
  all_goals (simp_all [insB_at hi])
  all_goals first | (intros; omega) | grind [doorI]
/-- A span by its place. -/
def setN (s : List Span) (i : Nat) : Bool := match s[i]? with
  | some x => decide (0 ≤ x.lo ∧ x.lo ≤ x.hi ∧ x.hi ≤ 255) && (decide (i = 0) || (match s[i - 1]? with | some y => decide (y.hi + 1 < x.lo) | none => false))
  | none => false
def setB (s : List Span) : Bool := (List.range s.length).all (setN s)
theorem setN_at {s : List Span} {i : Nat} (h : i < s.length) : setN s i = (decide (0 ≤ s[i].lo ∧ s[i].lo ≤ s[i].hi ∧ s[i].hi ≤ 255) && (decide (i = 0) || (match s[i - 1]? with | some y => decide (y.hi + 1 < s[i].lo) | none => false))) := by
  simp [setN, h]
theorem setN_0 {s : List Span} {i : Nat} (h : i < s.length) (h0 : i = 0) : setN s i = decide (0 ≤ s[i].lo ∧ s[i].lo ≤ s[i].hi ∧ s[i].hi ≤ 255) := by
  rw [setN_at h]; simp [h0]
theorem setN_1 {s : List Span} {i : Nat} (h : i < s.length) (h0 : i ≠ 0) : setN s i = (decide (0 ≤ s[i].lo ∧ s[i].lo ≤ s[i].hi ∧ s[i].hi ≤ 255) && decide (s[i - 1].hi + 1 < s[i].lo)) := by
  have : i - 1 < s.length := by omega
  rw [setN_at h]; simp [h0, this]
theorem setN_b {s : List Span} {i : Nat} (h : i < s.length) (h0 : setN s i = true) : 0 ≤ s[i].lo ∧ s[i].lo ≤ s[i].hi ∧ s[i].hi ≤ 255 := by
  rw [setN_at h] at h0
  simp only [Bool.and_eq_true, decide_eq_true_eq] at h0
  exact h0.1
theorem setB_false {s : List Span} {i : Nat} (hi : i < s.length) (h : setN s i = false) : setB s = false := by
  unfold setB; rw [List.all_eq_false]; exact ⟨i, by simpa using hi, by simp [h]⟩
theorem setB_true {s : List Span} (h : ∀ i, i < s.length → setN s i = true) : setB s = true := by
  unfold setB; simpa using h
/-- impl.SetOk -/
theorem fits_setOk (s : List Span) (hp : s.length ≤ 1099511627776) : Fits prog 90 [.sl false 2 (s.map eSpan)] (.bool (setB s)) [] := by
  refine fits_of_code [2] [] [0, 2, 3, 4, 5, 6, 7, 8, 42] func90 rfl rfl rfl (by rfl) (by show 1 ≤ 44; decide) (by rfl) (by rfl) (by show 0 ≤ 1; decide) (by rfl) (run_of ?_)
  simp -implicitDefEqProofs (maxSteps := 100000) (disch := first | (intros; contradiction) | omega) only [am0, am1, am2, am3, am4, am5, am6, am7, am8, Nat.reduceSub, ↓reduceIte, reduceCtorEq, Nat.reduceEqDiff, Nat.reduceBEq, Nat.reduceAdd, Nat.reduceLT, ↓reduceIte, tis]
  refine run_loop (α := Nat) (fun i => i ≤ s.length ∧ ∀ j, j < i → setN s j = true) (fun i => [(0, .sl false 2 (s.map eSpan)), (5, .sl false 2 (s.map eSpan)), (6, .int .i64 s.length), (7, .int .i64 i)]) (fun i => s.length - i) 0 ⟨Nat.zero_le _, by simp⟩ ?_ ?_
  · simp -implicitDefEqProofs (maxSteps := 100000) (disch := first | (intros; contradiction) | omega) only [am0, am1, am2, am3, am4, am5, am6, am7, am8, Nat.reduceSub, ↓reduceIte, reduceCtorEq, Nat.reduceEqDiff, Nat.reduceBEq, Nat.reduceAdd, Nat.reduceLT, ↓reduceIte, tis]
  · rintro i ⟨hi', hb⟩
    by_cases hi : i < s.length
    · have next : setN s i = true → ∀ j, j < i + 1 → setN s j = true := by
        intro h5 j hj
        by_cases hji : j < i
        · exact hb j hji
        · obtain rfl : j = i := by omega
          exact h5
      by_cases h0 : i = 0
      · have e := setN_0 hi h0
        by_cases h1 : 0 ≤ s[i].lo ∧ s[i].lo ≤ s[i].hi ∧ s[i].hi ≤ 255
        · rw [decide_eq_true h1] at e
          simp -implicitDefEqProofs (maxSteps := 100000) (disch := first | (intros; contradiction) | omega) only [am0, am1, am2, am3, am4, am5, am6, am7, am8, Nat.reduceSub, ↓reduceIte, reduceCtorEq, Nat.reduceEqDiff, Nat.reduceBEq, Nat.reduceAdd, Nat.reduceLT, ↓reduceIte, tis, eSpan, fls]
          refine .inl ⟨by kernel_rfl, ?_⟩
          exact round_normal (i + 1) ⟨by omega, next e⟩ (by simp -implicitDefEqProofs (maxSteps := 100000) (disch := first | (intros; contradiction) | omega) only [am0, am1, am2, am3, am4, am5, am6, am7, am8, Nat.reduceSub, ↓reduceIte, reduceCtorEq, Nat.reduceEqDiff, Nat.reduceBEq, Nat.reduceAdd, Nat.reduceLT, ↓reduceIte, tis]) (by show s.length - (i + 1) < s.length - i; omega)
        · rw [decide_eq_false h1] at e
          have e2 := setB_false hi e
          (simp -implicitDefEqProofs (maxSteps := 100000) (disch := first | (intros; contradiction) | omega) only [am0, am1, am2, am3, am4, am5, am6, am7, am8, Nat.reduceSub, ↓reduceIte, reduceCtorEq, Nat.reduceEqDiff, Nat.reduceBEq, Nat.reduceAdd, Nat.reduceLT, ↓reduceIte, tis, eSpan, fls, e2]; (repeat' ((first | (refine Or.inl (And.intro (a := drawOk _ _ = true) (by kernel_rfl) ?_)) | (refine Or.inl (show drawOk _ _ = true from (by kernel_rfl))) | (refine cond_beq (fun _ => ?_) (fun _ => ?_)) | (refine cond_bne (fun _ => ?_) (fun _ => ?_)) | (refine cond_dec (fun _ => ?_) (fun _ => ?_)) | (refine cond_of (fun _ => ?_) (fun _ => ?_)) | (refine guard_beq (fun _ => ?_) (fun _ => ?_)) | (refine guard_bne (fun _ => ?_) (fun _ => ?_)) | (refine guard_dec (fun _ => ?_) (fun _ => ?_)) | (refine guard_of (fun _ => ?_) (fun _ => ?_)) | (refine guardD_beq (fun _ => ?_) (fun _ => ?_)) | (refine guardD_bne (fun _ => ?_) (fun _ => ?_)) | (refine guardD_dec (fun _ => ?_) (fun _ => ?_)) | (refine guardD_of (fun _ => ?_) (fun _ => ?_))) <;> (try simp -implicitDefEqProofs (maxSteps := 100000) (disch := first | (intros; contradiction) | omega) only [am0, am1, am2, am3, am4, am5, am6, am7, am8, Nat.reduceSub, ↓reduceIte, reduceCtorEq, Nat.reduceEqDiff, Nat.reduceBEq, Nat.reduceAdd, Nat.reduceLT, ↓reduceIte, tis, eSpan, fls, e2]))))
          all_goals omega
      · have e := setN_1 hi h0
        have hi1 : i - 1 < s.length := by omega
        have b := setN_b hi1 (hb (i - 1) (by omega))
        have ei : ((i : Int) - 1).toNat = i - 1 := by omega
        by_cases h1 : 0 ≤ s[i].lo ∧ s[i].lo ≤ s[i].hi ∧ s[i].hi ≤ 255
        · by_cases h2 : s[i - 1].hi + 1 < s[i].lo
          · rw [decide_eq_true h1, decide_eq_true h2] at e
            simp -implicitDefEqProofs (maxSteps := 100000) (disch := first | (intros; contradiction) | omega) only [am0, am1, am2, am3, am4, am5, am6, am7, am8, Nat.reduceSub, ↓reduceIte, reduceCtorEq, Nat.reduceEqDiff, Nat.reduceBEq, Nat.reduceAdd, Nat.reduceLT, ↓reduceIte, tis, eSpan, fls, ei]
            refine .inl ⟨by kernel_rfl, ?_⟩
            exact round_normal (i + 1) ⟨by omega, next e⟩ (by simp -implicitDefEqProofs (maxSteps := 100000) (disch := first | (intros; contradiction) | omega) only [am0, am1, am2, am3, am4, am5, am6, am7, am8, Nat.reduceSub, ↓reduceIte, reduceCtorEq, Nat.reduceEqDiff, Nat.reduceBEq, Nat.reduceAdd, Nat.reduceLT, ↓reduceIte, tis]) (by show s.length - (i + 1) < s.length - i; omega)
          · rw [decide_eq_true h1, decide_eq_false h2] at e
            have e2 := setB_false hi e
            simp -implicitDefEqProofs (maxSteps := 100000) (disch := first | (intros; contradiction) | omega) only [am0, am1, am2, am3, am4, am5, am6, am7, am8, Nat.reduceSub, ↓reduceIte, reduceCtorEq, Nat.reduceEqDiff, Nat.reduceBEq, Nat.reduceAdd, Nat.reduceLT, ↓reduceIte, tis, eSpan, fls, e2, ei]
            refine .inl ?_
            show _ = _
            kernel_rfl
        · rw [decide_eq_false h1] at e
          have e2 := setB_false hi e
          (simp -implicitDefEqProofs (maxSteps := 100000) (disch := first | (intros; contradiction) | omega) only [am0, am1, am2, am3, am4, am5, am6, am7, am8, Nat.reduceSub, ↓reduceIte, reduceCtorEq, Nat.reduceEqDiff, Nat.reduceBEq, Nat.reduceAdd, Nat.reduceLT, ↓reduceIte, tis, eSpan, fls, e2, ei]; (repeat' ((first | (refine Or.inl (And.intro (a := drawOk _ _ = true) (by kernel_rfl) ?_)) | (refine Or.inl (show drawOk _ _ = true from (by kernel_rfl))) | (refine cond_beq (fun _ => ?_) (fun _ => ?_)) | (refine cond_bne (fun _ => ?_) (fun _ => ?_)) | (refine cond_dec (fun _ => ?_) (fun _ => ?_)) | (refine cond_of (fun _ => ?_) (fun _ => ?_)) | (refine guard_beq (fun _ => ?_) (fun _ => ?_)) | (refine guard_bne (fun _ => ?_) (fun _ => ?_)) | (refine guard_dec (fun _ => ?_) (fun _ => ?_)) | (refine guard_of (fun _ => ?_) (fun _ => ?_)) | (refine guardD_beq (fun _ => ?_) (fun _ => ?_)) | (refine guardD_bne (fun _ => ?_) (fun _ => ?_)) | (refine guardD_dec (fun _ => ?_) (fun _ => ?_)) | (refine guardD_of (fun _ => ?_) (fun _ => ?_))) <;> (try simp -implicitDefEqProofs (maxSteps := 100000) (disch := first | (intros; contradiction) | omega) only [am0, am1, am2, am3, am4, am5, am6, am7, am8, Nat.reduceSub, ↓reduceIte, reduceCtorEq, Nat.reduceEqDiff, Nat.reduceBEq, Nat.reduceAdd, Nat.reduceLT, ↓reduceIte, tis, eSpan, fls, e2, ei]))))
          all_goals omega
    · obtain rfl : i = s.length := by omega
      simp -implicitDefEqProofs (maxSteps := 100000) (disch := first | (intros; contradiction) | omega) only [am0, am1, am2, am3, am4, am5, am6, am7, am8, Nat.reduceSub, ↓reduceIte, reduceCtorEq, Nat.reduceEqDiff, Nat.reduceBEq, Nat.reduceAdd, Nat.reduceLT, ↓reduceIte, tis, setB_true hb]
def hasB (s : List Span) (b : Int) : Bool := s.any fun x => decide (x.lo ≤ b ∧ b ≤ x.hi)
theorem hasB_t {s : List Span} {b : Int} {i : Nat} (hi : i < s.length) (h : s[i].lo ≤ b ∧ b ≤ s[i].hi) : hasB s b = true := by
  unfold hasB; rw [List.any_eq_true]; exact ⟨_, List.getElem_mem hi, by simpa using h⟩
theorem hasB_f {s : List Span} {b : Int} (h : ∀ i (hi : i < s.length), ¬ (s[i].lo ≤ b ∧ b ≤ s[i].hi)) : hasB s b = false := by
  unfold hasB; rw [List.any_eq_false]; intro x hx; obtain ⟨i, hi, rfl⟩ := List.getElem_of_mem hx; simpa using h i hi
def bitsL (s : List Span) : List Bool := (List.range 256).map fun b => hasB s (b : Nat)
theorem bitsL_len (s : List Span) : (bitsL s).length = 256 := by simp [bitsL]
theorem bitsL_get (s : List Span) (i : Nat) (h : i < (bitsL s).length) : (bitsL s)[i] = hasB s i := by simp [bitsL]
/-- impl.SetHas -/
theorem fits_setHas (s : List Span) (b : Int) (hp : s.length ≤ 1099511627776) : Fits prog 93 [.sl false 2 (s.map eSpan), .int .i64 b] (.bool (hasB s b)) [] := by
  refine fits_of_code [4] [] [0, 1, 4, 6, 7, 8, 9, 10, 18] func93 rfl rfl rfl (by rfl) (by show 2 ≤ 20; decide) (by rfl) (by rfl) (by show 0 ≤ 2; decide) (by rfl) (run_of ?_)
  simp -implicitDefEqProofs (maxSteps := 100000) (disch := first | (intros; contradiction) | omega) only [am0, am1, am2, am3, am4, am5, am6, am7, am8, Nat.reduceSub, ↓reduceIte, reduceCtorEq, Nat.reduceEqDiff, Nat.reduceBEq, Nat.reduceAdd, Nat.reduceLT, ↓reduceIte, tis]
  refine run_loop (α := Nat) (fun i => i ≤ s.length ∧ ∀ j (hj : j < s.length), j < i → ¬ (s[j].lo ≤ b ∧ b ≤ s[j].hi)) (fun i => [(1, .int .i64 b), (7, .sl false 2 (s.map eSpan)), (8, .int .i64 s.length), (9, .int .i64 i)]) (fun i => s.length - i) 0 ⟨Nat.zero_le _, by intros; omega⟩ ?_ ?_
  · simp -implicitDefEqProofs (maxSteps := 100000) (disch := first | (intros; contradiction) | omega) only [am0, am1, am2, am3, am4, am5, am6, am7, am8, Nat.reduceSub, ↓reduceIte, reduceCtorEq, Nat.reduceEqDiff, Nat.reduceBEq, Nat.reduceAdd, Nat.reduceLT, ↓reduceIte, tis]
  · rintro i ⟨hi', hb⟩
    by_cases hi : i < s.length
    · simp -implicitDefEqProofs (maxSteps := 100000) (disch := first | (intros; contradiction) | omega) only [am0, am1, am2, am3, am4, am5, am6, am7, am8, Nat.reduceSub, ↓reduceIte, reduceCtorEq, Nat.reduceEqDiff, Nat.reduceBEq, Nat.reduceAdd, Nat.reduceLT, ↓reduceIte, tis, eSpan, fls]
      refine callB (fits_in b s[i].lo s[i].hi) ?_
      by_cases h1 : s[i].lo ≤ b ∧ b ≤ s[i].hi
      · simp -implicitDefEqProofs (maxSteps := 100000) (disch := first | (intros; contradiction) | omega) only [am0, am1, am2, am3, am4, am5, am6, am7, am8, Nat.reduceSub, ↓reduceIte, reduceCtorEq, Nat.reduceEqDiff, Nat.reduceBEq, Nat.reduceAdd, Nat.reduceLT, ↓reduceIte, tis, eSpan, fls, h1, hasB_t hi h1]
      · simp -implicitDefEqProofs (maxSteps := 100000) (disch := first | (intros; contradiction) | omega) only [am0, am1, am2, am3, am4, am5, am6, am7, am8, Nat.reduceSub, ↓reduceIte, reduceCtorEq, Nat.reduceEqDiff, Nat.reduceBEq, Nat.reduceAdd, Nat.reduceLT, ↓reduceIte, tis, eSpan, fls, h1]
        refine round_normal (i + 1) ⟨by omega, ?_⟩ (by simp -implicitDefEqProofs (maxSteps := 100000) (disch := first | (intros; contradiction) | omega) only [am0, am1, am2, am3, am4, am5, am6, am7, am8, Nat.reduceSub, ↓reduceIte, reduceCtorEq, Nat.reduceEqDiff, Nat.reduceBEq, Nat.reduceAdd, Nat.reduceLT, ↓reduceIte, tis]) (by show s.length - (i + 1) < s.length - i; omega)
        intro j hj hj2
        by_cases hji : j < i
        · exact hb j hj hji
        · obtain rfl : j = i := by omega
          exact h1
    · obtain rfl : i = s.length := by omega
      simp -implicitDefEqProofs (maxSteps := 100000) (disch := first | (intros; contradiction) | omega) only [am0, am1, am2, am3, am4, am5, am6, am7, am8, Nat.reduceSub, ↓reduceIte, reduceCtorEq, Nat.reduceEqDiff, Nat.reduceBEq, Nat.reduceAdd, Nat.reduceLT, ↓reduceIte, tis, hasB_f fun i hi => hb i hi hi]
/-- spec.SetHas -/
theorem fits_sSetHas (s : List Span) (b : Int) (hp : s.length ≤ 1099511627776) : Fits prog 91 [.sl false 2 (s.map eSpan), .int .i64 b] (.bool (hasB s b)) [] := by
  refine fits_of_code [4] [] [0, 1, 4, 5, 9, 27] func91 rfl rfl rfl (by rfl) (by show 2 ≤ 28; decide) (by rfl) (by rfl) (by show 0 ≤ 2; decide) (by rfl) (run_of ?_)
  simp -implicitDefEqProofs (maxSteps := 100000) (disch := first | (intros; contradiction) | omega) only [am0, am1, am2, am3, am4, am5, am6, am7, am8, Nat.reduceSub, ↓reduceIte, reduceCtorEq, Nat.reduceEqDiff, Nat.reduceBEq, Nat.reduceAdd, Nat.reduceLT, ↓reduceIte, tis]
  refine run_loop (α := Nat) (fun i => i ≤ s.length ∧ ∀ j (hj : j < s.length), j < i → ¬ (s[j].lo ≤ b ∧ b ≤ s[j].hi)) (fun i => [(0, .sl false 2 (s.map eSpan)), (1, .int .i64 b), (5, .int .i64 i)]) (fun i => s.length - i) 0 ⟨Nat.zero_le _, by intros; omega⟩ ?_ ?_
  · simp -implicitDefEqProofs (maxSteps := 100000) (disch := first | (intros; contradiction) | omega) only [am0, am1, am2, am3, am4, am5, am6, am7, am8, Nat.reduceSub, ↓reduceIte, reduceCtorEq, Nat.reduceEqDiff, Nat.reduceBEq, Nat.reduceAdd, Nat.reduceLT, ↓reduceIte, tis]
  · rintro i ⟨hi', hb⟩
    by_cases hi : i < s.length
    · have nx : ¬ (s[i].lo ≤ b ∧ b ≤ s[i].hi) → ∀ j (hj : j < s.length), j < i + 1 → ¬ (s[j].lo ≤ b ∧ b ≤ s[j].hi) := by
        intro h1 j hj hj2
        by_cases hji : j < i
        · exact hb j hj hji
        · obtain rfl : j = i := by omega
          exact h1
      by_cases h1 : s[i].lo ≤ b
      · by_cases h2 : b ≤ s[i].hi
        · simp -implicitDefEqProofs (maxSteps := 100000) (disch := first | (intros; contradiction) | omega) only [am0, am1, am2, am3, am4, am5, am6, am7, am8, Nat.reduceSub, ↓reduceIte, reduceCtorEq, Nat.reduceEqDiff, Nat.reduceBEq, Nat.reduceAdd, Nat.reduceLT, ↓reduceIte, tis, eSpan, fls, h1, h2, hasB_t hi ⟨h1, h2⟩]
        · simp -implicitDefEqProofs (maxSteps := 100000) (disch := first | (intros; contradiction) | omega) only [am0, am1, am2, am3, am4, am5, am6, am7, am8, Nat.reduceSub, ↓reduceIte, reduceCtorEq, Nat.reduceEqDiff, Nat.reduceBEq, Nat.reduceAdd, Nat.reduceLT, ↓reduceIte, tis, eSpan, fls, h1, h2]
          refine round_normal (i + 1) ⟨by omega, nx (by omega)⟩ (by simp -implicitDefEqProofs (maxSteps := 100000) (disch := first | (intros; contradiction) | omega) only [am0, am1, am2, am3, am4, am5, am6, am7, am8, Nat.reduceSub, ↓reduceIte, reduceCtorEq, Nat.reduceEqDiff, Nat.reduceBEq, Nat.reduceAdd, Nat.reduceLT, ↓reduceIte, tis]) (by show s.length - (i + 1) < s.length - i; omega)
      · simp -implicitDefEqProofs (maxSteps := 100000) (disch := first | (intros; contradiction) | omega) only [am0, am1, am2, am3, am4, am5, am6, am7, am8, Nat.reduceSub, ↓reduceIte, reduceCtorEq, Nat.reduceEqDiff, Nat.reduceBEq, Nat.reduceAdd, Nat.reduceLT, ↓reduceIte, tis, eSpan, fls, h1]
        refine round_normal (i + 1) ⟨by omega, nx (by omega)⟩ (by simp -implicitDefEqProofs (maxSteps := 100000) (disch := first | (intros; contradiction) | omega) only [am0, am1, am2, am3, am4, am5, am6, am7, am8, Nat.reduceSub, ↓reduceIte, reduceCtorEq, Nat.reduceEqDiff, Nat.reduceBEq, Nat.reduceAdd, Nat.reduceLT, ↓reduceIte, tis]) (by show s.length - (i + 1) < s.length - i; omega)
    · obtain rfl : i = s.length := by omega
      simp -implicitDefEqProofs (maxSteps := 100000) (disch := first | (intros; contradiction) | omega) only [am0, am1, am2, am3, am4, am5, am6, am7, am8, Nat.reduceSub, ↓reduceIte, reduceCtorEq, Nat.reduceEqDiff, Nat.reduceBEq, Nat.reduceAdd, Nat.reduceLT, ↓reduceIte, tis, hasB_f fun i hi => hb i hi hi]
/-- impl.bitsOf -/
theorem fits_bitsOf (s : List Span) (hp : s.length ≤ 1099511627776) : Fits prog 85 [.sl false 2 (s.map eSpan)] (.arr 1 ((bitsL s).map eBool)) [] := by
  have hl := bitsL_len s
  refine fits_of_cell 2 101 [] [0, 2, 3, 4, 5, 6] func85 rfl rfl rfl (by show 2 < 15; decide) (by show 1 ≤ 15; decide) (by rfl) (by rfl) (by show 0 ≤ 1; decide) (by rfl) (run_of ?_)
  simp -implicitDefEqProofs (maxSteps := 100000) (disch := first | (intros; contradiction) | omega) only [am0, am1, am2, am3, am4, am5, am6, am7, am8, Nat.reduceSub, ↓reduceIte, reduceCtorEq, Nat.reduceEqDiff, Nat.reduceBEq, Nat.reduceAdd, Nat.reduceLT, ↓reduceIte, tis]
  refine run_loop (α := Nat) (fun i => i ≤ 256) (fun i => [(0, .sl false 2 (s.map eSpan)), (2, .box (.arr 1 (List.replicate 256 (.bool false)))), (3, .box (.arr 1 (((bitsL s).take i).map eBool ++ List.replicate (256 - i) (.bool false)))), (5, .int .i64 i)]) (fun i => 256 - i) 0 (Nat.zero_le _) ?_ ?_
  · simp -implicitDefEqProofs (maxSteps := 100000) (disch := first | (intros; contradiction) | omega) only [am0, am1, am2, am3, am4, am5, am6, am7, am8, Nat.reduceSub, ↓reduceIte, reduceCtorEq, Nat.reduceEqDiff, Nat.reduceBEq, Nat.reduceAdd, Nat.reduceLT, ↓reduceIte, tis]
  · intro i hi'
    have g1 := build_len eBool (.bool false) (bitsL s) i (by omega)
    rw [hl] at g1
    by_cases hi : i < 256
    · have g2 := build_get eBool (.bool false) (bitsL s) i (by omega)
      have g3 := build_set eBool (.bool false) (bitsL s) i (by omega)
      rw [bitsL_get s i (by omega)] at g3
      rw [hl] at g2 g3
      simp -implicitDefEqProofs (maxSteps := 100000) (disch := first | (intros; contradiction) | omega) only [am0, am1, am2, am3, am4, am5, am6, am7, am8, Nat.reduceSub, ↓reduceIte, reduceCtorEq, Nat.reduceEqDiff, Nat.reduceBEq, Nat.reduceAdd, Nat.reduceLT, ↓reduceIte, tis, fls, g1, g2]
      refine callB (fits_setHas s i hp) ?_
      simp -implicitDefEqProofs (maxSteps := 100000) (disch := first | (intros; contradiction) | omega) only [am0, am1, am2, am3, am4, am5, am6, am7, am8, Nat.reduceSub, ↓reduceIte, reduceCtorEq, Nat.reduceEqDiff, Nat.reduceBEq, Nat.reduceAdd, Nat.reduceLT, ↓reduceIte, tis, fls, g1, g2]
      refine round_normal (i + 1) (by omega) ?_ (by show 256 - (i + 1) < 256 - i; omega)
      rw [show AV.bool (hasB s i) = eBool (hasB s i) from rfl, g3]
      simp -implicitDefEqProofs (maxSteps := 100000) (disch := first | (intros; contradiction) | omega) only [am0, am1, am2, am3, am4, am5, am6, am7, am8, Nat.reduceSub, ↓reduceIte, reduceCtorEq, Nat.reduceEqDiff, Nat.reduceBEq, Nat.reduceAdd, Nat.reduceLT, ↓reduceIte, tis]
    · obtain rfl : i = 256 := by omega
      have e : (bitsL s).take 256 = bitsL s := List.take_of_length_le (by omega)
      simp -implicitDefEqProofs (maxSteps := 100000) (disch := first | (intros; contradiction) | omega) only [am0, am1, am2, am3, am4, am5, am6, am7, am8, Nat.reduceSub, ↓reduceIte, reduceCtorEq, Nat.reduceEqDiff, Nat.reduceBEq, Nat.reduceAdd, Nat.reduceLT, ↓reduceIte, tis, g1, e, fls]
      omega
def kidsN (k : Int) : Int := if k = 1 ∨ k = 2 then 0 else if k = 5 ∨ k = 7 then 1 else if k = 3 ∨ k = 4 ∨ k = 6 then 2 else -1
/-- impl.kidsOf -/
theorem fits_kidsOf (k : Int) : Fits prog 89 [.int .i64 k] (.int .i64 (kidsN k)) [] := by
  refine fits_of_code [2] [] [0, 2, 3, 4, 7, 10] func89 rfl rfl rfl (by rfl) (by show 1 ≤ 14; decide) (by rfl) (by rfl) (by show 0 ≤ 1; decide) (by rfl) (run_of ?_)
  (simp -implicitDefEqProofs (maxSteps := 100000) (disch := first | (intros; contradiction) | omega) only [am0, am1, am2, am3, am4, am5, am6, am7, am8, Nat.reduceSub, ↓reduceIte, reduceCtorEq, Nat.reduceEqDiff, Nat.reduceBEq, Nat.reduceAdd, Nat.reduceLT, ↓reduceIte, tis]; (repeat' ((first | (refine Or.inl (And.intro (a := drawOk _ _ = true) (by kernel_rfl) ?_)) | (refine Or.inl (show drawOk _ _ = true from (by kernel_rfl))) | (refine cond_beq (fun _ => ?_) (fun _ => ?_)) | (refine cond_bne (fun _ => ?_) (fun _ => ?_)) | (refine cond_dec (fun _ => ?_) (fun _ => ?_)) | (refine cond_of (fun _ => ?_) (fun _ => ?_)) | (refine guard_beq (fun _ => ?_) (fun _ => ?_)) | (refine guard_bne (fun _ => ?_) (fun _ => ?_)) | (refine guard_dec (fun _ => ?_) (fun _ => ?_)) | (refine guard_of (fun _ => ?_) (fun _ => ?_)) | (refine guardD_beq (fun _ => ?_) (fun _ => ?_)) | (refine guardD_bne (fun _ => ?_) (fun _ => ?_)) | (refine guardD_dec (fun _ => ?_) (fun _ => ?_)) | (refine guardD_of (fun _ => ?_) (fun _ => ?_))) <;> (try simp -implicitDefEqProofs (maxSteps := 100000) (disch := first | (intros; contradiction) | omega) only [am0, am1, am2, am3, am4, am5, am6, am7, am8, Nat.reduceSub, ↓reduceIte, reduceCtorEq, Nat.reduceEqDiff, Nat.reduceBEq, Nat.reduceAdd, Nat.reduceLT, ↓reduceIte, tis]))))
  all_goals (simp_all [kidsN])
/-- spec.l2Kids -/
theorem fits_sKids (k : Int) : Fits prog 87 [.int .i64 k] (.int .i64 (kidsN k)) [] := by
  refine fits_of_code [2] [] [0, 2, 3, 4, 7, 10] func87 rfl rfl rfl (by rfl) (by show 1 ≤ 14; decide) (by rfl) (by rfl) (by show 0 ≤ 1; decide) (by rfl) (run_of ?_)
  (simp -implicitDefEqProofs (maxSteps := 100000) (disch := first | (intros; contradiction) | omega) only [am0, am1, am2, am3, am4, am5, am6, am7, am8, Nat.reduceSub, ↓reduceIte, reduceCtorEq, Nat.reduceEqDiff, Nat.reduceBEq, Nat.reduceAdd, Nat.reduceLT, ↓reduceIte, tis]; (repeat' ((first | (refine Or.inl (And.intro (a := drawOk _ _ = true) (by kernel_rfl) ?_)) | (refine Or.inl (show drawOk _ _ = true from (by kernel_rfl))) | (refine cond_beq (fun _ => ?_) (fun _ => ?_)) | (refine cond_bne (fun _ => ?_) (fun _ => ?_)) | (refine cond_dec (fun _ => ?_) (fun _ => ?_)) | (refine cond_of (fun _ => ?_) (fun _ => ?_)) | (refine guard_beq (fun _ => ?_) (fun _ => ?_)) | (refine guard_bne (fun _ => ?_) (fun _ => ?_)) | (refine guard_dec (fun _ => ?_) (fun _ => ?_)) | (refine guard_of (fun _ => ?_) (fun _ => ?_)) | (refine guardD_beq (fun _ => ?_) (fun _ => ?_)) | (refine guardD_bne (fun _ => ?_) (fun _ => ?_)) | (refine guardD_dec (fun _ => ?_) (fun _ => ?_)) | (refine guardD_of (fun _ => ?_) (fun _ => ?_))) <;> (try simp -implicitDefEqProofs (maxSteps := 100000) (disch := first | (intros; contradiction) | omega) only [am0, am1, am2, am3, am4, am5, am6, am7, am8, Nat.reduceSub, ↓reduceIte, reduceCtorEq, Nat.reduceEqDiff, Nat.reduceBEq, Nat.reduceAdd, Nat.reduceLT, ↓reduceIte, tis]))))
  all_goals (simp_all [kidsN])
/-- impl.copied of spans -/
theorem fits_copiedSpan (p : List Span) (hp : p.length ≤ 1099511627776) : Fits prog 81 [.sl false 2 (p.map eSpan)] (.sl true 2 (p.map eSpan)) [] := by
  refine fits_of_code [2] [] [0, 2, 3, 6] func81 rfl rfl rfl (by rfl) (by show 1 ≤ 14; decide) (by rfl) (by rfl) (by show 0 ≤ 1; decide) (by rfl) (run_of ?_)
  cases p with
  | nil => simp -implicitDefEqProofs (maxSteps := 100000) (disch := first | (intros; contradiction) | omega) only [am0, am1, am2, am3, am4, am5, am6, am7, am8, Nat.reduceSub, ↓reduceIte, reduceCtorEq, Nat.reduceEqDiff, Nat.reduceBEq, Nat.reduceAdd, Nat.reduceLT, ↓reduceIte, tis]
  | cons x r =>
    have hl : ((x :: r).length : Int) ≠ 0 := by simp; omega
    generalize (x :: r) = p at *
    simp -implicitDefEqProofs (maxSteps := 100000) (disch := first | (intros; contradiction) | omega) only [am0, am1, am2, am3, am4, am5, am6, am7, am8, Nat.reduceSub, ↓reduceIte, reduceCtorEq, Nat.reduceEqDiff, Nat.reduceBEq, Nat.reduceAdd, Nat.reduceLT, ↓reduceIte, tis]
    simp -implicitDefEqProofs (maxSteps := 100000) (disch := first | (intros; contradiction) | omega) only [am0, am1, am2, am3, am4, am5, am6, am7, am8, Nat.reduceSub, ↓reduceIte, reduceCtorEq, Nat.reduceEqDiff, Nat.reduceBEq, Nat.reduceAdd, Nat.reduceLT, ↓reduceIte, tis, List.length_replicate, fls]
    simp [List.take_of_length_le]
/-- One byte more. -/
def spStep (bs : List Bool) (o : List Span) (b : Nat) : List Span :=
  if bs.getD b false = true then (if 0 < b ∧ bs.getD (b - 1) false = true then o.set (o.length - 1) ⟨(o.getD (o.length - 1) default).lo, b⟩ else o ++ [⟨b, b⟩]) else o
def spN (bs : List Bool) : Nat → List Span
  | 0 => []
  | b + 1 => spStep bs (spN bs b) b
def spansL (bs : List Bool) : List Span := spN bs 256
theorem spN_len (bs : List Bool) : ∀ b, (spN bs b).length ≤ b
  | 0 => by simp [spN]
  | b + 1 => by
    have := spN_len bs b
    simp only [spN, spStep]
    split
    · split
      · simp; omega
      · simp; omega
    · omega
/-- The last of the spans. -/
theorem spN_last (bs : List Bool) : ∀ b, (∀ x, (spN bs b)[(spN bs b).length - 1]? = some x → x.hi < b) ∧ ((0 < b ∧ bs.getD (b - 1) false = true) ↔ ∃ x, (spN bs b)[(spN bs b).length - 1]? = some x ∧ x.hi = (b : Int) - 1)
  | 0 => by simp [spN]
  | b + 1 => by
    obtain ⟨h1, h2⟩ := spN_last bs b
    simp only [spN, spStep]
    generalize spN bs b = o at *
    by_cases hb : bs.getD b false = true
    · rw [if_pos hb]
      have fin : ∀ x : Span, x.hi = b → ∀ q : List Span, q[q.length - 1]? = some x → (∀ y, q[q.length - 1]? = some y → y.hi < ((b + 1 : Nat) : Int)) ∧ ((0 < b + 1 ∧ bs.getD (b + 1 - 1) false = true) ↔ ∃ y, q[q.length - 1]? = some y ∧ y.hi = ((b + 1 : Nat) : Int) - 1) := by
        intro x hx q hq
        rw [hq]
        refine ⟨?_, fun _ => ⟨x, rfl, by omega⟩, fun _ => ⟨by omega, by simpa using hb⟩⟩
        rintro y ⟨⟩
        omega
      by_cases hp : 0 < b ∧ bs.getD (b - 1) false = true
      · rw [if_pos hp]
        obtain ⟨x, hx, _⟩ := h2.1 hp
        have := (List.getElem?_eq_some_iff.1 hx).1
        exact fin ⟨(o.getD (o.length - 1) default).lo, b⟩ rfl _ (by simp [this])
      · rw [if_neg hp]
        exact fin ⟨b, b⟩ rfl _ (by simp)
    · rw [if_neg hb]
      refine ⟨fun x h => by have := h1 x h; omega, fun h => ?_, fun ⟨x, h, e⟩ => ?_⟩
      · exact absurd (by simpa using h.2) hb
      · have := h1 x h; omega
theorem spN_hi {bs : List Bool} {b : Nat} (ho : 0 < (spN bs b).length) : ((spN bs b)[(spN bs b).length - 1]'(by omega)).hi = (b : Int) - 1 ↔ (0 < b ∧ bs.getD (b - 1) false = true) := by
  rw [(spN_last bs b).2]
  have : (spN bs b).length - 1 < (spN bs b).length := by omega
  rw [List.getElem?_eq_getElem this]
  constructor
  · intro h; exact ⟨_, rfl, h⟩
  · rintro ⟨x, ⟨⟩, h⟩; exact h
theorem spN_pos {bs : List Bool} {b : Nat} (h : 0 < b ∧ bs.getD (b - 1) false = true) : 0 < (spN bs b).length := by
  obtain ⟨x, h, _⟩ := (spN_last bs b).2.1 h
  have := (List.getElem?_eq_some_iff.1 h).1
  omega
theorem spStep_0 {bs : List Bool} {o : List Span} {b : Nat} (h : b < bs.length) (hb : bs[b] = false) : spStep bs o b = o := by
  unfold spStep; rw [if_neg (by simp [h, hb])]
theorem spStep_1 {bs : List Bool} {o : List Span} {b : Nat} (h : b < bs.length) (hb : bs[b] = true) (h0 : 0 < b) (h1 : bs[b - 1]'(by omega) = true) (ho : 0 < o.length) : spStep bs o b = o.set (o.length - 1) ⟨o[o.length - 1].lo, b⟩ := by
  have : b - 1 < bs.length := by omega
  unfold spStep; rw [if_pos (by simp [h, hb]), if_pos ⟨h0, by simp [this, h1]⟩]
  have h2 : o.length - 1 < o.length := by omega
  simp [h2]
theorem spStep_2 {bs : List Bool} {o : List Span} {b : Nat} (h : b < bs.length) (hb : bs[b] = true) (h1 : b = 0 ∨ ∃ h0 : 0 < b, bs[b - 1]'(by omega) = false) : spStep bs o b = o ++ [⟨b, b⟩] := by
  unfold spStep; rw [if_pos (by simp [h, hb]), if_neg]
  rintro ⟨h2, h3⟩
  rcases h1 with rfl | ⟨_, h1⟩
  · omega
  · have : b - 1 < bs.length := by omega
    simp [this, h1] at h3
theorem setSpan (o : List Span) (i : Nat) (x : Span) : (o.map eSpan).set i (eSpan x) = (o.set i x).map eSpan := by rw [List.map_set]
/-- impl.spans -/
theorem fits_spans (bs : List Bool) (hl : bs.length = 256) : Fits prog 86 [.arr 1 (bs.map eBool)] (.sl true 2 ((spansL bs).map eSpan)) [] := by
  have hL := spN_len bs
  have cC := fits_copiedSpan (spansL bs) (Nat.le_trans (hL 256) (by omega))
  have bl : ∀ x, x ∈ List.map eBool bs → false = x.isAgg ∧ x.stor = true := by
    intro x hx; obtain ⟨y, _, rfl⟩ := List.mem_map.1 hx; exact ⟨rfl, rfl⟩
  refine fits_of_code [2] [] [0, 1, 2, 3, 4, 5, 6, 7, 8, 17, 20] func86 rfl rfl rfl (by rfl) (by show 1 ≤ 39; decide) (by rfl) (by rfl) (by show 0 ≤ 1; decide) (by rfl) (run_of ?_)
  simp -implicitDefEqProofs (maxSteps := 100000) (disch := first | (intros; contradiction) | omega) only [am0, am1, am2, am3, am4, am5, am6, am7, am8, Nat.reduceSub, ↓reduceIte, reduceCtorEq, Nat.reduceEqDiff, Nat.reduceBEq, Nat.reduceAdd, Nat.reduceLT, ↓reduceIte, tis, fls, hl]
  refine run_loop (α := Nat) (fun i => i ≤ 256) (fun i => [(1, .box (.arr 1 (bs.map eBool))), (3, .sl true 2 ((spN bs i).map eSpan)), (6, .arr 1 (bs.map eBool)), (7, .int .i64 i)]) (fun i => 256 - i) 0 (Nat.zero_le _) ?_ ?_
  · simp -implicitDefEqProofs (maxSteps := 100000) (disch := first | (intros; contradiction) | omega) only [am0, am1, am2, am3, am4, am5, am6, am7, am8, Nat.reduceSub, ↓reduceIte, reduceCtorEq, Nat.reduceEqDiff, Nat.reduceBEq, Nat.reduceAdd, Nat.reduceLT, ↓reduceIte, tis, spN]
  · intro i hi'
    by_cases hi : i < 256
    · have hL := hL i
      have hib : i < bs.length := by omega
      cases hb : bs[i] with
      | false =>
        simp -implicitDefEqProofs (maxSteps := 100000) (disch := first | (intros; contradiction) | omega) only [am0, am1, am2, am3, am4, am5, am6, am7, am8, Nat.reduceSub, ↓reduceIte, reduceCtorEq, Nat.reduceEqDiff, Nat.reduceBEq, Nat.reduceAdd, Nat.reduceLT, ↓reduceIte, tis, fls, hl, eBool, hb]
        refine ⟨bl, ?_⟩
        refine round_normal (i + 1) (by omega) (by simp -implicitDefEqProofs (maxSteps := 100000) (disch := first | (intros; contradiction) | omega) only [am0, am1, am2, am3, am4, am5, am6, am7, am8, Nat.reduceSub, ↓reduceIte, reduceCtorEq, Nat.reduceEqDiff, Nat.reduceBEq, Nat.reduceAdd, Nat.reduceLT, ↓reduceIte, tis, spN, spStep_0 hib hb]) (by show 256 - (i + 1) < 256 - i; omega)
      | true =>
        by_cases h0 : 0 < i
        · have hib1 : i - 1 < bs.length := by omega
          have ei : ((i : Int) - 1).toNat = i - 1 := by omega
          cases h1 : bs[i - 1] with
          | true =>
            have ho := spN_pos (bs := bs) ⟨h0, by simp [hib1, h1]⟩
            have eo : (((spN bs i).length : Int) - 1).toNat = (spN bs i).length - 1 := by omega
            have es := setSpan (spN bs i) ((spN bs i).length - 1) ⟨(spN bs i)[(spN bs i).length - 1].lo, i⟩
            have e := spStep_1 (o := spN bs i) hib hb h0 h1 ho
            simp only [eSpan] at es
            simp -implicitDefEqProofs (maxSteps := 100000) (disch := first | (intros; contradiction) | omega) only [am0, am1, am2, am3, am4, am5, am6, am7, am8, Nat.reduceSub, ↓reduceIte, reduceCtorEq, Nat.reduceEqDiff, Nat.reduceBEq, Nat.reduceAdd, Nat.reduceLT, ↓reduceIte, tis, fls, hl, eBool, hb, ei, h1, eo, eSpan, es]
            refine ⟨bl, ?_⟩
            refine round_normal (i + 1) (by omega) (by simp -implicitDefEqProofs (maxSteps := 100000) (disch := first | (intros; contradiction) | omega) only [am0, am1, am2, am3, am4, am5, am6, am7, am8, Nat.reduceSub, ↓reduceIte, reduceCtorEq, Nat.reduceEqDiff, Nat.reduceBEq, Nat.reduceAdd, Nat.reduceLT, ↓reduceIte, tis, spN, e]) (by show 256 - (i + 1) < 256 - i; omega)
          | false =>
            have e := spStep_2 (o := spN bs i) hib hb (.inr ⟨h0, h1⟩)
            simp -implicitDefEqProofs (maxSteps := 100000) (disch := first | (intros; contradiction) | omega) only [am0, am1, am2, am3, am4, am5, am6, am7, am8, Nat.reduceSub, ↓reduceIte, reduceCtorEq, Nat.reduceEqDiff, Nat.reduceBEq, Nat.reduceAdd, Nat.reduceLT, ↓reduceIte, tis, fls, hl, eBool, hb, ei, h1]
            refine ⟨bl, ?_⟩
            refine round_normal (i + 1) (by omega) (by simp -implicitDefEqProofs (maxSteps := 100000) (disch := first | (intros; contradiction) | omega) only [am0, am1, am2, am3, am4, am5, am6, am7, am8, Nat.reduceSub, ↓reduceIte, reduceCtorEq, Nat.reduceEqDiff, Nat.reduceBEq, Nat.reduceAdd, Nat.reduceLT, ↓reduceIte, tis, spN, e, eSpan, List.map_append, List.map_cons, List.map_nil]) (by show 256 - (i + 1) < 256 - i; omega)
        · have e := spStep_2 (o := spN bs i) hib hb (.inl (by omega))
          simp -implicitDefEqProofs (maxSteps := 100000) (disch := first | (intros; contradiction) | omega) only [am0, am1, am2, am3, am4, am5, am6, am7, am8, Nat.reduceSub, ↓reduceIte, reduceCtorEq, Nat.reduceEqDiff, Nat.reduceBEq, Nat.reduceAdd, Nat.reduceLT, ↓reduceIte, tis, fls, hl, eBool, hb]
          refine ⟨bl, ?_⟩
          refine round_normal (i + 1) (by omega) (by simp -implicitDefEqProofs (maxSteps := 100000) (disch := first | (intros; contradiction) | omega) only [am0, am1, am2, am3, am4, am5, am6, am7, am8, Nat.reduceSub, ↓reduceIte, reduceCtorEq, Nat.reduceEqDiff, Nat.reduceBEq, Nat.reduceAdd, Nat.reduceLT, ↓reduceIte, tis, spN, e, eSpan, List.map_append, List.map_cons, List.map_nil]) (by show 256 - (i + 1) < 256 - i; omega)
    · obtain rfl : i = 256 := by omega
      simp -implicitDefEqProofs (maxSteps := 100000) (disch := first | (intros; contradiction) | omega) only [am0, am1, am2, am3, am4, am5, am6, am7, am8, Nat.reduceSub, ↓reduceIte, reduceCtorEq, Nat.reduceEqDiff, Nat.reduceBEq, Nat.reduceAdd, Nat.reduceLT, ↓reduceIte, tis, fls]
      refine callB cC ?_
      simp -implicitDefEqProofs (maxSteps := 100000) (disch := first | (intros; contradiction) | omega) only [am0, am1, am2, am3, am4, am5, am6, am7, am8, Nat.reduceSub, ↓reduceIte, reduceCtorEq, Nat.reduceEqDiff, Nat.reduceBEq, Nat.reduceAdd, Nat.reduceLT, ↓reduceIte, tis, fls, spansL]
/-- spec.l1Of -/
theorem fits_l1Of (bs : List Bool) (hl : bs.length = 256) : Fits prog 92 [.sl false 1 (bs.map eBool)] (.sl true 2 ((spansL bs).map eSpan)) [] := by
  refine fits_of_code [2] [] [0, 2, 3, 4, 7, 14, 29] func92 rfl rfl rfl (by rfl) (by show 1 ≤ 44; decide) (by rfl) (by rfl) (by show 0 ≤ 1; decide) (by rfl) (run_of ?_)
  simp -implicitDefEqProofs (maxSteps := 100000) (disch := first | (intros; contradiction) | omega) only [am0, am1, am2, am3, am4, am5, am6, am7, am8, Nat.reduceSub, ↓reduceIte, reduceCtorEq, Nat.reduceEqDiff, Nat.reduceBEq, Nat.reduceAdd, Nat.reduceLT, ↓reduceIte, tis, fls]
  refine run_loop (α := Nat) (fun i => i ≤ 256) (fun i => [(0, .sl false 1 (bs.map eBool)), (3, .sl true 2 ((spN bs i).map eSpan)), (4, .int .i64 i)]) (fun i => 256 - i) 0 (Nat.zero_le _) ?_ ?_
  · simp -implicitDefEqProofs (maxSteps := 100000) (disch := first | (intros; contradiction) | omega) only [am0, am1, am2, am3, am4, am5, am6, am7, am8, Nat.reduceSub, ↓reduceIte, reduceCtorEq, Nat.reduceEqDiff, Nat.reduceBEq, Nat.reduceAdd, Nat.reduceLT, ↓reduceIte, tis, spN]
  · intro i hi'
    by_cases hi : i < 256
    · have hL := spN_len bs i
      have hib : i < bs.length := by omega
      cases hb : bs[i] with
      | false =>
        simp -implicitDefEqProofs (maxSteps := 100000) (disch := first | (intros; contradiction) | omega) only [am0, am1, am2, am3, am4, am5, am6, am7, am8, Nat.reduceSub, ↓reduceIte, reduceCtorEq, Nat.reduceEqDiff, Nat.reduceBEq, Nat.reduceAdd, Nat.reduceLT, ↓reduceIte, tis, fls, hl, eBool, hb]
        refine round_normal (i + 1) (by omega) (by simp -implicitDefEqProofs (maxSteps := 100000) (disch := first | (intros; contradiction) | omega) only [am0, am1, am2, am3, am4, am5, am6, am7, am8, Nat.reduceSub, ↓reduceIte, reduceCtorEq, Nat.reduceEqDiff, Nat.reduceBEq, Nat.reduceAdd, Nat.reduceLT, ↓reduceIte, tis, spN, spStep_0 hib hb]) (by show 256 - (i + 1) < 256 - i; omega)
      | true =>
        by_cases h1 : 0 < i ∧ bs.getD (i - 1) false = true
        · have ho := spN_pos h1
          have h2 := (spN_hi ho).2 h1
          have hib1 : i - 1 < bs.length := by omega
          have eo : (((spN bs i).length : Int) - 1).toNat = (spN bs i).length - 1 := by omega
          have es := setSpan (spN bs i) ((spN bs i).length - 1) ⟨(spN bs i)[(spN bs i).length - 1].lo, i⟩
          have e := spStep_1 (o := spN bs i) hib hb h1.1 (by simpa [hib1] using h1.2) ho
          simp only [eSpan] at es
          simp -implicitDefEqProofs (maxSteps := 100000) (disch := first | (intros; contradiction) | omega) only [am0, am1, am2, am3, am4, am5, am6, am7, am8, Nat.reduceSub, ↓reduceIte, reduceCtorEq, Nat.reduceEqDiff, Nat.reduceBEq, Nat.reduceAdd, Nat.reduceLT, ↓reduceIte, tis, fls, hl, eBool, hb, eo, eSpan, es, h2]
          refine round_normal (i + 1) (by omega) (by simp -implicitDefEqProofs (maxSteps := 100000) (disch := first | (intros; contradiction) | omega) only [am0, am1, am2, am3, am4, am5, am6, am7, am8, Nat.reduceSub, ↓reduceIte, reduceCtorEq, Nat.reduceEqDiff, Nat.reduceBEq, Nat.reduceAdd, Nat.reduceLT, ↓reduceIte, tis, spN, e]) (by show 256 - (i + 1) < 256 - i; omega)
        · have e : spStep bs (spN bs i) i = spN bs i ++ [⟨i, i⟩] := by
            unfold spStep; rw [if_pos (by simp [hib, hb]), if_neg h1]
          by_cases ho : 0 < (spN bs i).length
          · have eo : (((spN bs i).length : Int) - 1).toNat = (spN bs i).length - 1 := by omega
            have h2 : ¬ ((spN bs i)[(spN bs i).length - 1]'(by omega)).hi = (i : Int) - 1 := fun h => h1 ((spN_hi ho).1 h)
            simp -implicitDefEqProofs (maxSteps := 100000) (disch := first | (intros; contradiction) | omega) only [am0, am1, am2, am3, am4, am5, am6, am7, am8, Nat.reduceSub, ↓reduceIte, reduceCtorEq, Nat.reduceEqDiff, Nat.reduceBEq, Nat.reduceAdd, Nat.reduceLT, ↓reduceIte, tis, fls, hl, eBool, hb, eo, eSpan, h2]
            refine round_normal (i + 1) (by omega) (by simp -implicitDefEqProofs (maxSteps := 100000) (disch := first | (intros; contradiction) | omega) only [am0, am1, am2, am3, am4, am5, am6, am7, am8, Nat.reduceSub, ↓reduceIte, reduceCtorEq, Nat.reduceEqDiff, Nat.reduceBEq, Nat.reduceAdd, Nat.reduceLT, ↓reduceIte, tis, spN, e, eSpan, List.map_append, List.map_cons, List.map_nil]) (by show 256 - (i + 1) < 256 - i; omega)
          · simp -implicitDefEqProofs (maxSteps := 100000) (disch := first | (intros; contradiction) | omega) only [am0, am1, am2, am3, am4, am5, am6, am7, am8, Nat.reduceSub, ↓reduceIte, reduceCtorEq, Nat.reduceEqDiff, Nat.reduceBEq, Nat.reduceAdd, Nat.reduceLT, ↓reduceIte, tis, fls, hl, eBool, hb]
            refine round_normal (i + 1) (by omega) (by simp -implicitDefEqProofs (maxSteps := 100000) (disch := first | (intros; contradiction) | omega) only [am0, am1, am2, am3, am4, am5, am6, am7, am8, Nat.reduceSub, ↓reduceIte, reduceCtorEq, Nat.reduceEqDiff, Nat.reduceBEq, Nat.reduceAdd, Nat.reduceLT, ↓reduceIte, tis, spN, e, eSpan, List.map_append, List.map_cons, List.map_nil]) (by show 256 - (i + 1) < 256 - i; omega)
    · obtain rfl : i = 256 := by omega
      simp -implicitDefEqProofs (maxSteps := 100000) (disch := first | (intros; contradiction) | omega) only [am0, am1, am2, am3, am4, am5, am6, am7, am8, Nat.reduceSub, ↓reduceIte, reduceCtorEq, Nat.reduceEqDiff, Nat.reduceBEq, Nat.reduceAdd, Nat.reduceLT, ↓reduceIte, tis, fls, spansL]
/-- Two bytes in each other's place. -/
def swapB (bs : List Bool) (a b : Nat) : List Bool := (bs.set a (bs.getD b false)).set b (bs.getD a false)
theorem swapB_len (bs : List Bool) (a b : Nat) : (swapB bs a b).length = bs.length := by simp [swapB]
theorem setBool (l : List Bool) (i : Nat) (x : Bool) : (l.map eBool).set i (.bool x) = (l.set i x).map eBool := by rw [List.map_set]; rfl
theorem getBool (l : List Bool) (i : Nat) (h : i < l.length) : (l.map eBool)[i]? = some (.bool (l.getD i false)) := by simp [eBool, h, List.getD]
/-- spec.l13Set -/
theorem fits_l13Set (s : List Span) (a b : Nat) (ha : a < 256) (hb : b < 256) (hp : s.length ≤ 1099511627776) : Fits prog 84 [.sl false 2 (s.map eSpan), .int .i64 a, .int .i64 b] (.sl true 2 ((spansL (swapB (bitsL s) a b)).map eSpan)) [] := by
  have hl := bitsL_len s
  have cO := fits_l1Of (swapB (bitsL s) a b) (by rw [swapB_len]; exact hl)
  refine fits_of_code [6] [] [0, 1, 2, 6, 7, 8, 9, 12] func84 rfl rfl rfl (by rfl) (by show 3 ≤ 38; decide) (by rfl) (by rfl) (by show 0 ≤ 3; decide) (by rfl) (run_of ?_)
  simp -implicitDefEqProofs (maxSteps := 100000) (disch := first | (intros; contradiction) | omega) only [am0, am1, am2, am3, am4, am5, am6, am7, am8, Nat.reduceSub, ↓reduceIte, reduceCtorEq, Nat.reduceEqDiff, Nat.reduceBEq, Nat.reduceAdd, Nat.reduceLT, ↓reduceIte, tis]
  refine run_loop (α := Nat) (fun i => i ≤ 256) (fun i => [(0, .sl false 2 (s.map eSpan)), (1, .int .i64 a), (2, .int .i64 b), (7, .sl true 1 (((bitsL s).take i).map eBool ++ List.replicate (256 - i) (.bool false))), (8, .int .i64 i)]) (fun i => 256 - i) 0 (Nat.zero_le _) ?_ ?_
  · simp -implicitDefEqProofs (maxSteps := 100000) (disch := first | (intros; contradiction) | omega) only [am0, am1, am2, am3, am4, am5, am6, am7, am8, Nat.reduceSub, ↓reduceIte, reduceCtorEq, Nat.reduceEqDiff, Nat.reduceBEq, Nat.reduceAdd, Nat.reduceLT, ↓reduceIte, tis, show Int.toNat 256 = 256 from rfl]
  · intro i hi'
    have g1 := build_len eBool (.bool false) (bitsL s) i (by omega)
    rw [hl] at g1
    by_cases hi : i < 256
    · have g2 := build_get eBool (.bool false) (bitsL s) i (by omega)
      have g3 := build_set eBool (.bool false) (bitsL s) i (by omega)
      rw [bitsL_get s i (by omega)] at g3
      rw [hl] at g2 g3
      simp -implicitDefEqProofs (maxSteps := 100000) (disch := first | (intros; contradiction) | omega) only [am0, am1, am2, am3, am4, am5, am6, am7, am8, Nat.reduceSub, ↓reduceIte, reduceCtorEq, Nat.reduceEqDiff, Nat.reduceBEq, Nat.reduceAdd, Nat.reduceLT, ↓reduceIte, tis, fls, g1, g2]
      refine callB (fits_sSetHas s i hp) ?_
      simp -implicitDefEqProofs (maxSteps := 100000) (disch := first | (intros; contradiction) | omega) only [am0, am1, am2, am3, am4, am5, am6, am7, am8, Nat.reduceSub, ↓reduceIte, reduceCtorEq, Nat.reduceEqDiff, Nat.reduceBEq, Nat.reduceAdd, Nat.reduceLT, ↓reduceIte, tis, fls, g1, g2]
      refine round_normal (i + 1) (by omega) ?_ (by show 256 - (i + 1) < 256 - i; omega)
      rw [show AV.bool (hasB s i) = eBool (hasB s i) from rfl, g3]
      simp -implicitDefEqProofs (maxSteps := 100000) (disch := first | (intros; contradiction) | omega) only [am0, am1, am2, am3, am4, am5, am6, am7, am8, Nat.reduceSub, ↓reduceIte, reduceCtorEq, Nat.reduceEqDiff, Nat.reduceBEq, Nat.reduceAdd, Nat.reduceLT, ↓reduceIte, tis]
    · obtain rfl : i = 256 := by omega
      have e : (bitsL s).take 256 = bitsL s := List.take_of_length_le (by omega)
      have e2 : List.replicate (256 - 256) (AV.bool false) = [] := rfl
      have g4 : ∀ x, (((bitsL s).map eBool).set a x).length = 256 := fun x => by simp [hl]
      have g5 : ((bitsL s).map eBool).length = 256 := by simp [hl]
      have ga := getBool (bitsL s) a (by omega)
      have gb := getBool (bitsL s) b (by omega)
      have gc := getBool ((bitsL s).set a ((bitsL s).getD b false)) b (by simp [hl]; omega)
      simp -implicitDefEqProofs (maxSteps := 100000) (disch := first | (intros; contradiction) | omega) only [am0, am1, am2, am3, am4, am5, am6, am7, am8, Nat.reduceSub, ↓reduceIte, reduceCtorEq, Nat.reduceEqDiff, Nat.reduceBEq, Nat.reduceAdd, Nat.reduceLT, ↓reduceIte, tis, e, e2, fls, List.append_nil, g5, ga, gb, setBool, gc, List.length_map, List.length_set, hl]
      unfold swapB at cO
      refine callB cO ?_
      simp -implicitDefEqProofs (maxSteps := 100000) (disch := first | (intros; contradiction) | omega) only [am0, am1, am2, am3, am4, am5, am6, am7, am8, Nat.reduceSub, ↓reduceIte, reduceCtorEq, Nat.reduceEqDiff, Nat.reduceBEq, Nat.reduceAdd, Nat.reduceLT, ↓reduceIte, tis, fls, swapB]
theorem build_getR (p : List Rex) (i : Nat) (h : i < p.length) : ((p.take i).map (eRex true) ++ List.replicate (p.length - i) (.agg [.int .i64 0, .sl true 0 [], .sl true 0 []]))[i]? = some (.agg [.int .i64 0, .sl true 0 [], .sl true 0 []]) := build_get (eRex true) _ p i h
/-- laws.toRexS, of toRex -/
theorem fits_toRexS_of (p : List Rex) (hp : p.length ≤ 1048576) (H : ∀ x ∈ p, Fits prog 28 [eRex false x] (eRex true x) []) : Fits prog 58 [.sl false 3 (p.map (eRex false))] (.sl true 3 (p.map (eRex true))) [] := by
  refine fits_of_code [2] [] [0, 2, 3, 4, 11] func58 rfl rfl rfl (by rfl) (by show 1 ≤ 23; decide) (by rfl) (by rfl) (by show 0 ≤ 1; decide) (by rfl) (run_of ?_)
  simp -implicitDefEqProofs (maxSteps := 100000) (disch := first | (intros; contradiction) | omega) only [am0, am1, am2, am3, am4, am5, am6, am7, am8, Nat.reduceSub, ↓reduceIte, reduceCtorEq, Nat.reduceEqDiff, Nat.reduceBEq, Nat.reduceAdd, Nat.reduceLT, ↓reduceIte, tis]
  refine run_loop (α := Nat) (fun i => i ≤ p.length) (fun i => [(0, .sl false 3 (p.map (eRex false))), (3, .sl true 3 ((p.take i).map (eRex true) ++ List.replicate (p.length - i) (.agg [.int .i64 0, .sl true 0 [], .sl true 0 []]))), (4, .int .i64 i)]) (fun i => p.length - i) 0 (Nat.zero_le _) ?_ ?_
  · simp -implicitDefEqProofs (maxSteps := 100000) (disch := first | (intros; contradiction) | omega) only [am0, am1, am2, am3, am4, am5, am6, am7, am8, Nat.reduceSub, ↓reduceIte, reduceCtorEq, Nat.reduceEqDiff, Nat.reduceBEq, Nat.reduceAdd, Nat.reduceLT, ↓reduceIte, tis]
  · intro i hi'
    by_cases hi : i < p.length
    · have g2 := build_getR p i hi
      have g3 := build_set (eRex true) (.agg [.int .i64 0, .sl true 0 [], .sl true 0 []]) p i hi
      have g4 := build_len (eRex true) (.agg [.int .i64 0, .sl true 0 [], .sl true 0 []]) p i hi'
      simp -implicitDefEqProofs (maxSteps := 100000) (disch := first | (intros; contradiction) | omega) only [am0, am1, am2, am3, am4, am5, am6, am7, am8, Nat.reduceSub, ↓reduceIte, reduceCtorEq, Nat.reduceEqDiff, Nat.reduceBEq, Nat.reduceAdd, Nat.reduceLT, ↓reduceIte, tis, rx, eRex_eq]
      refine callB (H p[i] (List.getElem_mem hi)) ?_
      rw [eRex_eq true] at g3
      simp -implicitDefEqProofs (maxSteps := 100000) (disch := first | (intros; contradiction) | omega) only [am0, am1, am2, am3, am4, am5, am6, am7, am8, Nat.reduceSub, ↓reduceIte, reduceCtorEq, Nat.reduceEqDiff, Nat.reduceBEq, Nat.reduceAdd, Nat.reduceLT, ↓reduceIte, tis, rx, eRex_eq, fls, g2, g3, g4]
      refine round_normal (i + 1) (by omega) ?_ (by show p.length - (i + 1) < p.length - i; omega)
      simp -implicitDefEqProofs (maxSteps := 100000) (disch := first | (intros; contradiction) | omega) only [am0, am1, am2, am3, am4, am5, am6, am7, am8, Nat.reduceSub, ↓reduceIte, reduceCtorEq, Nat.reduceEqDiff, Nat.reduceBEq, Nat.reduceAdd, Nat.reduceLT, ↓reduceIte, tis]
    · obtain rfl : i = p.length := by omega
      simp -implicitDefEqProofs (maxSteps := 100000) (disch := first | (intros; contradiction) | omega) only [am0, am1, am2, am3, am4, am5, am6, am7, am8, Nat.reduceSub, ↓reduceIte, reduceCtorEq, Nat.reduceEqDiff, Nat.reduceBEq, Nat.reduceAdd, Nat.reduceLT, ↓reduceIte, tis]
/-- laws.toRex -/
theorem fits_toRex (r : Rex) (hb : bd r ≤ 1048576) : Fits prog 28 [eRex false r] (eRex true r) [] := by
  induction r using Rex.ind' with
  | h r ih =>
    have hb' := bd_eq r
    have HS := fits_toRexS_of r.kids (by omega) (fun x hx => ih x hx (Nat.le_trans (bd_kid hx) hb))
    have HT := fits_toSpanS r.set (by omega)
    rw [eRex_eq, eRex_eq]
    refine fits_of_cell 2 53 [] [0, 1, 2, 3] func28 rfl rfl rfl (by show 2 < 16; decide) (by show 1 ≤ 16; decide) (by rfl) (by rfl) (by show 0 ≤ 1; decide) (by rfl) (run_of ?_)
    simp -implicitDefEqProofs (maxSteps := 100000) (disch := first | (intros; contradiction) | omega) only [am0, am1, am2, am3, am4, am5, am6, am7, am8, Nat.reduceSub, ↓reduceIte, reduceCtorEq, Nat.reduceEqDiff, Nat.reduceBEq, Nat.reduceAdd, Nat.reduceLT, ↓reduceIte, tis]
    refine callB HT ?_
    simp -implicitDefEqProofs (maxSteps := 100000) (disch := first | (intros; contradiction) | omega) only [am0, am1, am2, am3, am4, am5, am6, am7, am8, Nat.reduceSub, ↓reduceIte, reduceCtorEq, Nat.reduceEqDiff, Nat.reduceBEq, Nat.reduceAdd, Nat.reduceLT, ↓reduceIte, tis, fls, rx]
    refine callB HS ?_
    simp -implicitDefEqProofs (maxSteps := 100000) (disch := first | (intros; contradiction) | omega) only [am0, am1, am2, am3, am4, am5, am6, am7, am8, Nat.reduceSub, ↓reduceIte, reduceCtorEq, Nat.reduceEqDiff, Nat.reduceBEq, Nat.reduceAdd, Nat.reduceLT, ↓reduceIte, tis, fls, rx]
theorem take_sum {l : List Nat} {i : Nat} (h : i < l.length) : (l.take (i + 1)).sum = (l.take i).sum + l[i] := by
  rw [List.take_succ_eq_append_getElem h, List.sum_append, List.sum_cons, List.sum_nil]; rfl
theorem take_sum_le (l : List Nat) (i : Nat) : (l.take i).sum ≤ l.sum := by
  have := congrArg List.sum (List.take_append_drop i l)
  rw [List.sum_append] at this
  omega
/-- laws.szRexS, of szRex -/
theorem fits_szRexS_of (p : List Rex) (n : Int) (hp : p.length ≤ 9223372036854775807) (hn : n ≤ 1048576) (hn0 : 0 ≤ n)
    (H : ∀ x ∈ p, ∀ m : Int, m ≤ 1048576 → 0 ≤ m → Fits prog 26 [eRex false x, .int .i64 m] (.int .i64 (if m - bd x < 0 then -1 else m - bd x)) []) :
    Fits prog 54 [.sl false 3 (p.map (eRex false)), .int .i64 n] (.int .i64 (if n - p.length - (p.map bd).sum < 0 then -1 else n - p.length - (p.map bd).sum)) [] := by
  refine fits_of_code [4] [] [0, 1, 4, 5, 11, 15, 25] func54 rfl rfl rfl (by rfl) (by show 2 ≤ 27; decide) (by rfl) (by rfl) (by show 0 ≤ 2; decide) (by rfl) (run_of ?_)
  by_cases hl : n - p.length < 0
  · have h2 : n - p.length - (p.map bd).sum < 0 := by omega
    simp -implicitDefEqProofs (maxSteps := 100000) (disch := first | (intros; contradiction) | omega) only [am0, am1, am2, am3, am4, am5, am6, am7, am8, Nat.reduceSub, ↓reduceIte, reduceCtorEq, Nat.reduceEqDiff, Nat.reduceBEq, Nat.reduceAdd, Nat.reduceLT, ↓reduceIte, tis, h2, if_true]
  simp -implicitDefEqProofs (maxSteps := 100000) (disch := first | (intros; contradiction) | omega) only [am0, am1, am2, am3, am4, am5, am6, am7, am8, Nat.reduceSub, ↓reduceIte, reduceCtorEq, Nat.reduceEqDiff, Nat.reduceBEq, Nat.reduceAdd, Nat.reduceLT, ↓reduceIte, tis]
  refine run_loop (α := Nat) (fun i => i ≤ p.length ∧ 0 ≤ n - p.length - ((p.map bd).take i).sum) (fun i => [(0, .sl false 3 (p.map (eRex false))), (1, .int .i64 (n - p.length - ((p.map bd).take i).sum)), (5, .int .i64 i)]) (fun i => p.length - i) 0 ⟨Nat.zero_le _, by simp; omega⟩ ?_ ?_
  · simp -implicitDefEqProofs (maxSteps := 100000) (disch := first | (intros; contradiction) | omega) only [am0, am1, am2, am3, am4, am5, am6, am7, am8, Nat.reduceSub, ↓reduceIte, reduceCtorEq, Nat.reduceEqDiff, Nat.reduceBEq, Nat.reduceAdd, Nat.reduceLT, ↓reduceIte, tis, List.sum_nil]
  · rintro i ⟨hi', hs⟩
    by_cases hi : i < p.length
    · have e := take_sum (l := p.map bd) (i := i) (by simpa using hi)
      rw [List.getElem_map] at e
      simp -implicitDefEqProofs (maxSteps := 100000) (disch := first | (intros; contradiction) | omega) only [am0, am1, am2, am3, am4, am5, am6, am7, am8, Nat.reduceSub, ↓reduceIte, reduceCtorEq, Nat.reduceEqDiff, Nat.reduceBEq, Nat.reduceAdd, Nat.reduceLT, ↓reduceIte, tis, rx, eRex_eq]
      refine callB (H p[i] (List.getElem_mem hi) (n - p.length - ((p.map bd).take i).sum) (by omega) hs) ?_
      by_cases h3 : n - p.length - ((p.map bd).take i).sum - bd p[i] < 0
      · have h4 := take_sum_le (p.map bd) (i + 1)
        have h5 : n - p.length - (p.map bd).sum < 0 := by omega
        simp -implicitDefEqProofs (maxSteps := 100000) (disch := first | (intros; contradiction) | omega) only [am0, am1, am2, am3, am4, am5, am6, am7, am8, Nat.reduceSub, ↓reduceIte, reduceCtorEq, Nat.reduceEqDiff, Nat.reduceBEq, Nat.reduceAdd, Nat.reduceLT, ↓reduceIte, tis, rx, eRex_eq, h3, h5]
      · simp -implicitDefEqProofs (maxSteps := 100000) (disch := first | (intros; contradiction) | omega) only [am0, am1, am2, am3, am4, am5, am6, am7, am8, Nat.reduceSub, ↓reduceIte, reduceCtorEq, Nat.reduceEqDiff, Nat.reduceBEq, Nat.reduceAdd, Nat.reduceLT, ↓reduceIte, tis, rx, eRex_eq, h3]
        refine round_normal (i + 1) ⟨by omega, by rw [e]; omega⟩ ?_ (by show p.length - (i + 1) < p.length - i; omega)
        simp -implicitDefEqProofs (maxSteps := 100000) (disch := first | (intros; contradiction) | omega) only [am0, am1, am2, am3, am4, am5, am6, am7, am8, Nat.reduceSub, ↓reduceIte, reduceCtorEq, Nat.reduceEqDiff, Nat.reduceBEq, Nat.reduceAdd, Nat.reduceLT, ↓reduceIte, tis, e]
        omega
    · obtain rfl : i = p.length := by omega
      have e : (p.map bd).take p.length = p.map bd := List.take_of_length_le (by simp)
      rw [e] at hs
      have h5 : ¬ n - p.length - (p.map bd).sum < 0 := by omega
      simp -implicitDefEqProofs (maxSteps := 100000) (disch := first | (intros; contradiction) | omega) only [am0, am1, am2, am3, am4, am5, am6, am7, am8, Nat.reduceSub, ↓reduceIte, reduceCtorEq, Nat.reduceEqDiff, Nat.reduceBEq, Nat.reduceAdd, Nat.reduceLT, ↓reduceIte, tis, e, h5]
/-- laws.szRex -/
theorem fits_szRex (r : Rex) (n : Int) (hl : Lens r) (hn : n ≤ 1048576) (hn0 : 0 ≤ n) : Fits prog 26 [eRex false r, .int .i64 n] (.int .i64 (if n - bd r < 0 then -1 else n - bd r)) [] := by
  induction hl generalizing n with
  | mk r h1 h2 h3 ih =>
    have hb' := bd_eq r
    have HT := fits_szSpanS r.set n h1 hn hn0
    rw [eRex_eq]
    refine fits_of_code [4] [] [0, 1, 2, 4, 10, 16] func26 rfl rfl rfl (by rfl) (by show 2 ≤ 18; decide) (by rfl) (by rfl) (by show 0 ≤ 2; decide) (by rfl) (run_of ?_)
    simp -implicitDefEqProofs (maxSteps := 100000) (disch := first | (intros; contradiction) | omega) only [am0, am1, am2, am3, am4, am5, am6, am7, am8, Nat.reduceSub, ↓reduceIte, reduceCtorEq, Nat.reduceEqDiff, Nat.reduceBEq, Nat.reduceAdd, Nat.reduceLT, ↓reduceIte, tis]
    refine callB HT ?_
    by_cases g1 : n - r.set.length < 0
    · have g2 : n - bd r < 0 := by omega
      simp -implicitDefEqProofs (maxSteps := 100000) (disch := first | (intros; contradiction) | omega) only [am0, am1, am2, am3, am4, am5, am6, am7, am8, Nat.reduceSub, ↓reduceIte, reduceCtorEq, Nat.reduceEqDiff, Nat.reduceBEq, Nat.reduceAdd, Nat.reduceLT, ↓reduceIte, tis, g1, g2]
    have HS := fits_szRexS_of r.kids (n - r.set.length) h2 (by omega) (by omega) (fun x hx m => ih x hx m)
    simp -implicitDefEqProofs (maxSteps := 100000) (disch := first | (intros; contradiction) | omega) only [am0, am1, am2, am3, am4, am5, am6, am7, am8, Nat.reduceSub, ↓reduceIte, reduceCtorEq, Nat.reduceEqDiff, Nat.reduceBEq, Nat.reduceAdd, Nat.reduceLT, ↓reduceIte, tis, g1]
    refine callB HS ?_
    by_cases g3 : n - r.set.length - r.kids.length - (r.kids.map bd).sum < 0
    · have g2 : n - bd r < 0 := by omega
      simp -implicitDefEqProofs (maxSteps := 100000) (disch := first | (intros; contradiction) | omega) only [am0, am1, am2, am3, am4, am5, am6, am7, am8, Nat.reduceSub, ↓reduceIte, reduceCtorEq, Nat.reduceEqDiff, Nat.reduceBEq, Nat.reduceAdd, Nat.reduceLT, ↓reduceIte, tis, g3, g2]
    · have g2 : ¬ n - bd r < 0 := by omega
      simp -implicitDefEqProofs (maxSteps := 100000) (disch := first | (intros; contradiction) | omega) only [am0, am1, am2, am3, am4, am5, am6, am7, am8, Nat.reduceSub, ↓reduceIte, reduceCtorEq, Nat.reduceEqDiff, Nat.reduceBEq, Nat.reduceAdd, Nat.reduceLT, ↓reduceIte, tis, g3, g2]
      omega
/-- impl.copied of Rex -/
theorem fits_copiedRex (p : List Rex) (hp : p.length ≤ 1099511627776) : Fits prog 82 [.sl false 3 (p.map (eRex false))] (.sl true 3 (p.map (eRex false))) [] := by
  refine fits_of_code [2] [] [0, 2, 3, 6] func82 rfl rfl rfl (by rfl) (by show 1 ≤ 14; decide) (by rfl) (by rfl) (by show 0 ≤ 1; decide) (by rfl) (run_of ?_)
  cases p with
  | nil => simp -implicitDefEqProofs (maxSteps := 100000) (disch := first | (intros; contradiction) | omega) only [am0, am1, am2, am3, am4, am5, am6, am7, am8, Nat.reduceSub, ↓reduceIte, reduceCtorEq, Nat.reduceEqDiff, Nat.reduceBEq, Nat.reduceAdd, Nat.reduceLT, ↓reduceIte, tis]
  | cons x r =>
    have hl : ((x :: r).length : Int) ≠ 0 := by simp; omega
    generalize (x :: r) = p at *
    simp -implicitDefEqProofs (maxSteps := 100000) (disch := first | (intros; contradiction) | omega) only [am0, am1, am2, am3, am4, am5, am6, am7, am8, Nat.reduceSub, ↓reduceIte, reduceCtorEq, Nat.reduceEqDiff, Nat.reduceBEq, Nat.reduceAdd, Nat.reduceLT, ↓reduceIte, tis]
    simp -implicitDefEqProofs (maxSteps := 100000) (disch := first | (intros; contradiction) | omega) only [am0, am1, am2, am3, am4, am5, am6, am7, am8, Nat.reduceSub, ↓reduceIte, reduceCtorEq, Nat.reduceEqDiff, Nat.reduceBEq, Nat.reduceAdd, Nat.reduceLT, ↓reduceIte, tis, List.length_replicate, rx]
    simp [List.take_of_length_le]
/-- impl.rexCopy -/
theorem fits_rexCopy (r : Rex) (hb : bd r ≤ 1048576) : Fits prog 60 [eRex false r] (eRex true r) [] := by
  induction r using Rex.ind' with
  | h r ih =>
    have hb' := bd_eq r
    have cS := fits_copiedSpan r.set (by omega)
    have cK := fits_copiedRex r.kids (by omega)
    rw [eRex_eq, eRex_eq]
    refine fits_of_cell 2 53 [] [0, 1, 2, 3, 4, 16, 17, 18] func60 rfl rfl rfl (by show 2 < 32; decide) (by show 1 ≤ 32; decide) (by rfl) (by rfl) (by show 0 ≤ 1; decide) (by rfl) (run_of ?_)
    simp -implicitDefEqProofs (maxSteps := 100000) (disch := first | (intros; contradiction) | omega) only [am0, am1, am2, am3, am4, am5, am6, am7, am8, Nat.reduceSub, ↓reduceIte, reduceCtorEq, Nat.reduceEqDiff, Nat.reduceBEq, Nat.reduceAdd, Nat.reduceLT, ↓reduceIte, tis]
    refine .inl ⟨by kernel_rfl, ?_⟩
    refine callL cS ?_
    simp -implicitDefEqProofs (maxSteps := 100000) (disch := first | (intros; contradiction) | omega) only [am0, am1, am2, am3, am4, am5, am6, am7, am8, Nat.reduceSub, ↓reduceIte, reduceCtorEq, Nat.reduceEqDiff, Nat.reduceBEq, Nat.reduceAdd, Nat.reduceLT, ↓reduceIte, tis, fls, rx]
    refine callL cK ?_
    simp -implicitDefEqProofs (maxSteps := 100000) (disch := first | (intros; contradiction) | omega) only [am0, am1, am2, am3, am4, am5, am6, am7, am8, Nat.reduceSub, ↓reduceIte, reduceCtorEq, Nat.reduceEqDiff, Nat.reduceBEq, Nat.reduceAdd, Nat.reduceLT, ↓reduceIte, tis, fls, rx, ite_self]
    refine run_loop (α := Nat) (fun i => i ≤ r.kids.length) (fun i => [(2, .box (.agg [.int .i64 0, .sl true 0 [], .sl true 0 []])), (3, .box (.agg [.int .i64 r.kind, .sl true 2 (r.set.map eSpan), .sl true 3 ((r.kids.take i).map (eRex true) ++ (r.kids.drop i).map (eRex false))])), (16, .int .i64 r.kids.length), (17, .int .i64 i)]) (fun i => r.kids.length - i) 0 (Nat.zero_le _) ?_ ?_
    · simp -implicitDefEqProofs (maxSteps := 100000) (disch := first | (intros; contradiction) | omega) only [am0, am1, am2, am3, am4, am5, am6, am7, am8, Nat.reduceSub, ↓reduceIte, reduceCtorEq, Nat.reduceEqDiff, Nat.reduceBEq, Nat.reduceAdd, Nat.reduceLT, ↓reduceIte, tis]
    · intro i hi'
      by_cases hi : i < r.kids.length
      · have hA : ((r.kids.take i).map (eRex true)).length = i := by simp; omega
        have hL : ((r.kids.take i).map (eRex true) ++ (r.kids.drop i).map (eRex false)).length = r.kids.length := by simp; omega
        have g1 := turn_get _ (eRex false) r.kids i hA hi
        have g2 := fun y => turn_set _ (eRex false) r.kids i y hA hi
        have hm := List.getElem_mem hi
        have cF := ih r.kids[i] hm (Nat.le_trans (bd_kid hm) hb)
        simp -implicitDefEqProofs (maxSteps := 100000) (disch := first | (intros; contradiction) | omega) only [am0, am1, am2, am3, am4, am5, am6, am7, am8, Nat.reduceSub, ↓reduceIte, reduceCtorEq, Nat.reduceEqDiff, Nat.reduceBEq, Nat.reduceAdd, Nat.reduceLT, ↓reduceIte, tis, rx, fls, g1, g2, hL, eRex_eq false r.kids[i]]
        refine .inl ⟨by kernel_rfl, ?_⟩
        rw [eRex_eq false r.kids[i], eRex_eq true r.kids[i]] at cF
        refine callL cF ?_
        simp -implicitDefEqProofs (maxSteps := 100000) (disch := first | (intros; contradiction) | omega) only [am0, am1, am2, am3, am4, am5, am6, am7, am8, Nat.reduceSub, ↓reduceIte, reduceCtorEq, Nat.reduceEqDiff, Nat.reduceBEq, Nat.reduceAdd, Nat.reduceLT, ↓reduceIte, tis, rx, fls, g1, g2, hL, eRex_eq false r.kids[i]]
        refine round_normal (i + 1) (by omega) ?_ (by show r.kids.length - (i + 1) < r.kids.length - i; omega)
        rw [List.take_succ_eq_append_getElem hi, List.map_append, List.map_cons, List.map_nil, eRex_eq true r.kids[i]]
        simp -implicitDefEqProofs (maxSteps := 100000) (disch := first | (intros; contradiction) | omega) only [am0, am1, am2, am3, am4, am5, am6, am7, am8, Nat.reduceSub, ↓reduceIte, reduceCtorEq, Nat.reduceEqDiff, Nat.reduceBEq, Nat.reduceAdd, Nat.reduceLT, ↓reduceIte, tis]
      · obtain rfl : i = r.kids.length := by omega
        simp -implicitDefEqProofs (maxSteps := 100000) (disch := first | (intros; contradiction) | omega) only [am0, am1, am2, am3, am4, am5, am6, am7, am8, Nat.reduceSub, ↓reduceIte, reduceCtorEq, Nat.reduceEqDiff, Nat.reduceBEq, Nat.reduceAdd, Nat.reduceLT, ↓reduceIte, tis, List.drop_length, List.take_length]
/-- How many parts there are. -/
def ps : Rex → Nat
  | .mk _ _ ks => 1 + (ks.map ps).sum
theorem ps_eq (r : Rex) : ps r = 1 + (r.kids.map ps).sum := by cases r; rw [ps]; rfl
def fm : Nat → Rex → Bool
  | 0, _ => false
  | d + 1, r => decide (kidsN r.kind = r.kids.length) && (decide (r.kind = 1 ∨ r.set.length = 0) && (setB r.set && r.kids.all (fm d)))
theorem fm_ok {d : Nat} {r : Rex} (h : fm (d + 1) r = true) : kidsN r.kind = r.kids.length ∧ (r.kind = 1 ∨ r.set.length = 0) ∧ setB r.set = true ∧ ∀ x ∈ r.kids, fm d x = true := by
  simpa [fm] using h
theorem kidsN_le (k : Int) : kidsN k ≤ 2 := by unfold kidsN; split <;> (try split) <;> (try split) <;> omega
theorem fm_pos {d : Nat} {r : Rex} (h : fm d r = true) : 0 < d := by cases d with | zero => simp [fm] at h | succ d => omega
theorem fm_kids {d : Nat} {r : Rex} (h : fm d r = true) : r.kids.length ≤ 2 := by
  cases d with
  | zero => simp [fm] at h
  | succ d => have := (fm_ok h).1; have := kidsN_le r.kind; omega
theorem sum2 {l : List Nat} {b : Nat} (h : ∀ x ∈ l, x ≤ b) (h2 : l.length ≤ 2) : l.sum ≤ 2 * b := by
  match l, h2 with
  | [], _ => simp
  | [x], _ => have := h x (by simp); simp; omega
  | [x, y], _ => have := h x (by simp); have := h y (by simp); simp; omega
theorem ps_le : ∀ (d : Nat) (r : Rex), fm d r = true → ps r + 1 ≤ 2 ^ d
  | 0, r, h => by simp [fm] at h
  | d + 1, r, h => by
    have h4 := (fm_ok h).2.2.2
    have hk := fm_kids h
    have : (r.kids.map ps).sum ≤ 2 * (2 ^ d - 1) := by
      refine sum2 (fun x hx => ?_) (by simpa using hk)
      obtain ⟨y, hy, rfl⟩ := List.mem_map.1 hx
      have := ps_le d y (h4 y hy)
      omega
    rw [ps_eq, Nat.pow_succ]
    have := Nat.one_le_two_pow (n := d)
    omega
theorem fm_f {d : Nat} {r : Rex} {i : Nat} (hi : i < r.kids.length) (h : fm d r.kids[i] = false) : fm (d + 1) r = false := by
  have : r.kids.all (fm d) = false := by rw [List.all_eq_false]; exact ⟨_, List.getElem_mem hi, by simp [h]⟩
  simp [fm, this]
theorem fm_t {d : Nat} {r : Rex} (h1 : kidsN r.kind = r.kids.length) (h2 : r.kind = 1 ∨ r.set.length = 0) (h3 : setB r.set = true) (h : ∀ i (hi : i < r.kids.length), fm d r.kids[i] = true) : fm (d + 1) r = true := by
  have : r.kids.all (fm d) = true := by rw [List.all_eq_true]; intro x hx; obtain ⟨i, hi, rfl⟩ := List.getElem_of_mem hx; exact h i hi
  simp only [fm, this, h1, h2, h3, decide_true, Bool.and_self, Bool.true_and]
theorem fm_f1 {d : Nat} {r : Rex} (h : ¬ kidsN r.kind = r.kids.length) : fm (d + 1) r = false := by simp [fm, h]
theorem fm_f2 {d : Nat} {r : Rex} (h : ¬ (r.kind = 1 ∨ r.set.length = 0)) : fm (d + 1) r = false := by simp only [fm, h, decide_false, Bool.false_and, Bool.and_false]
theorem fm_f3 {d : Nat} {r : Rex} (h : setB r.set = false) : fm (d + 1) r = false := by simp [fm, h]
theorem fm_0 {r : Rex} : fm 0 r = false := rfl
/-- impl.formed -/
theorem fits_formed (r : Rex) (d : Nat) (hd : d ≤ 8) (hb : bd r ≤ 1048576) : Fits prog 79 [eRex false r, .int .i64 d] (.bool (fm d r)) [] := by
  induction d generalizing r with
  | zero =>
    rw [eRex_eq]
    refine fits_of_code [4] [] [0, 1, 2, 4, 6, 34, 36, 37, 38, 39, 46] func79 rfl rfl rfl (by rfl) (by show 2 ≤ 48; decide) (by rfl) (by rfl) (by show 0 ≤ 2; decide) (by rfl) (run_of ?_)
    simp -implicitDefEqProofs (maxSteps := 100000) (disch := first | (intros; contradiction) | omega) only [am0, am1, am2, am3, am4, am5, am6, am7, am8, Nat.reduceSub, ↓reduceIte, reduceCtorEq, Nat.reduceEqDiff, Nat.reduceBEq, Nat.reduceAdd, Nat.reduceLT, ↓reduceIte, tis, fm_0]
    refine .inl ?_
    show _ = _
    kernel_rfl
  | succ d ih =>
    have hb' := bd_eq r
    have cK := fits_kidsOf r.kind
    have cS := fits_setOk r.set (by omega)
    rw [eRex_eq]
    refine fits_of_code [4] [] [0, 1, 2, 4, 6, 34, 36, 37, 38, 39, 46] func79 rfl rfl rfl (by rfl) (by show 2 ≤ 48; decide) (by rfl) (by rfl) (by show 0 ≤ 2; decide) (by rfl) (run_of ?_)
    simp -implicitDefEqProofs (maxSteps := 100000) (disch := first | (intros; contradiction) | omega) only [am0, am1, am2, am3, am4, am5, am6, am7, am8, Nat.reduceSub, ↓reduceIte, reduceCtorEq, Nat.reduceEqDiff, Nat.reduceBEq, Nat.reduceAdd, Nat.reduceLT, ↓reduceIte, tis]
    refine .inl ⟨by kernel_rfl, ?_⟩
    refine callL cK ?_
    by_cases h1 : kidsN r.kind = r.kids.length
    case neg => simp -implicitDefEqProofs (maxSteps := 100000) (disch := first | (intros; contradiction) | omega) only [am0, am1, am2, am3, am4, am5, am6, am7, am8, Nat.reduceSub, ↓reduceIte, reduceCtorEq, Nat.reduceEqDiff, Nat.reduceBEq, Nat.reduceAdd, Nat.reduceLT, ↓reduceIte, tis, fm_f1 h1]
    by_cases h2 : r.kind = 1 ∨ r.set.length = 0
    case neg =>
      have h2a : r.kind ≠ 1 := fun h => h2 (.inl h)
      have h2b : 0 < (r.set.length : Int) := by omega
      simp -implicitDefEqProofs (maxSteps := 100000) (disch := first | (intros; contradiction) | omega) only [am0, am1, am2, am3, am4, am5, am6, am7, am8, Nat.reduceSub, ↓reduceIte, reduceCtorEq, Nat.reduceEqDiff, Nat.reduceBEq, Nat.reduceAdd, Nat.reduceLT, ↓reduceIte, tis, fm_f2 h2]
    have h2c : r.kind = 1 ∨ (r.kind ≠ 1 ∧ (r.set.length : Int) = 0) := by omega
    cases h3 : setB r.set with
    | false =>
      rcases h2c with h2c | ⟨h2c, h2d⟩
      all_goals
        simp -implicitDefEqProofs (maxSteps := 100000) (disch := first | (intros; contradiction) | omega) only [am0, am1, am2, am3, am4, am5, am6, am7, am8, Nat.reduceSub, ↓reduceIte, reduceCtorEq, Nat.reduceEqDiff, Nat.reduceBEq, Nat.reduceAdd, Nat.reduceLT, ↓reduceIte, tis]
        refine callL cS ?_
        simp -implicitDefEqProofs (maxSteps := 100000) (disch := first | (intros; contradiction) | omega) only [am0, am1, am2, am3, am4, am5, am6, am7, am8, Nat.reduceSub, ↓reduceIte, reduceCtorEq, Nat.reduceEqDiff, Nat.reduceBEq, Nat.reduceAdd, Nat.reduceLT, ↓reduceIte, tis, h3, fm_f3 h3]
    | true =>
      rcases h2c with h2c | ⟨h2c, h2d⟩
      all_goals
        simp -implicitDefEqProofs (maxSteps := 100000) (disch := first | (intros; contradiction) | omega) only [am0, am1, am2, am3, am4, am5, am6, am7, am8, Nat.reduceSub, ↓reduceIte, reduceCtorEq, Nat.reduceEqDiff, Nat.reduceBEq, Nat.reduceAdd, Nat.reduceLT, ↓reduceIte, tis]
        refine callL cS ?_
        simp -implicitDefEqProofs (maxSteps := 100000) (disch := first | (intros; contradiction) | omega) only [am0, am1, am2, am3, am4, am5, am6, am7, am8, Nat.reduceSub, ↓reduceIte, reduceCtorEq, Nat.reduceEqDiff, Nat.reduceBEq, Nat.reduceAdd, Nat.reduceLT, ↓reduceIte, tis, h3]
        refine run_loop (α := Nat) (fun i => i ≤ r.kids.length ∧ ∀ j (hj : j < r.kids.length), j < i → fm d r.kids[j] = true) (fun i => [(1, .int .i64 ((d : Int) + 1)), (36, .sl false 3 (r.kids.map (eRex false))), (37, .int .i64 r.kids.length), (38, .int .i64 i)]) (fun i => r.kids.length - i) 0 ⟨Nat.zero_le _, by intros; omega⟩ ?_ ?_
        · simp -implicitDefEqProofs (maxSteps := 100000) (disch := first | (intros; contradiction) | omega) only [am0, am1, am2, am3, am4, am5, am6, am7, am8, Nat.reduceSub, ↓reduceIte, reduceCtorEq, Nat.reduceEqDiff, Nat.reduceBEq, Nat.reduceAdd, Nat.reduceLT, ↓reduceIte, tis]
        · rintro i ⟨hi', hb2⟩
          by_cases hi : i < r.kids.length
          · have e1 : ((d : Int) + 1 - 1) = d := by omega
            have cF := ih r.kids[i] (by omega) (Nat.le_trans (bd_kid (List.getElem_mem hi)) hb)
            simp -implicitDefEqProofs (maxSteps := 100000) (disch := first | (intros; contradiction) | omega) only [am0, am1, am2, am3, am4, am5, am6, am7, am8, Nat.reduceSub, ↓reduceIte, reduceCtorEq, Nat.reduceEqDiff, Nat.reduceBEq, Nat.reduceAdd, Nat.reduceLT, ↓reduceIte, tis, rx, eRex_eq]
            refine callB cF ?_
            cases h5 : fm d r.kids[i] with
            | false => simp -implicitDefEqProofs (maxSteps := 100000) (disch := first | (intros; contradiction) | omega) only [am0, am1, am2, am3, am4, am5, am6, am7, am8, Nat.reduceSub, ↓reduceIte, reduceCtorEq, Nat.reduceEqDiff, Nat.reduceBEq, Nat.reduceAdd, Nat.reduceLT, ↓reduceIte, tis, rx, eRex_eq, e1, fm_f hi h5]
            | true =>
              simp -implicitDefEqProofs (maxSteps := 100000) (disch := first | (intros; contradiction) | omega) only [am0, am1, am2, am3, am4, am5, am6, am7, am8, Nat.reduceSub, ↓reduceIte, reduceCtorEq, Nat.reduceEqDiff, Nat.reduceBEq, Nat.reduceAdd, Nat.reduceLT, ↓reduceIte, tis, rx, eRex_eq, e1]
              refine round_normal (i + 1) ⟨by omega, ?_⟩ ?_ (by show r.kids.length - (i + 1) < r.kids.length - i; omega)
              · intro j hj hj2
                by_cases hji : j < i
                · exact hb2 j hj hji
                · obtain rfl : j = i := by omega
                  exact h5
              · simp -implicitDefEqProofs (maxSteps := 100000) (disch := first | (intros; contradiction) | omega) only [am0, am1, am2, am3, am4, am5, am6, am7, am8, Nat.reduceSub, ↓reduceIte, reduceCtorEq, Nat.reduceEqDiff, Nat.reduceBEq, Nat.reduceAdd, Nat.reduceLT, ↓reduceIte, tis]
          · obtain rfl : i = r.kids.length := by omega
            simp -implicitDefEqProofs (maxSteps := 100000) (disch := first | (intros; contradiction) | omega) only [am0, am1, am2, am3, am4, am5, am6, am7, am8, Nat.reduceSub, ↓reduceIte, reduceCtorEq, Nat.reduceEqDiff, Nat.reduceBEq, Nat.reduceAdd, Nat.reduceLT, ↓reduceIte, tis, fm_t h1 h2 h3 (fun i hi => hb2 i hi hi)]
/-- spec.SetOk -/
theorem fits_sSetOk (s : List Span) (hp : s.length ≤ 1099511627776) : Fits prog 88 [.sl false 2 (s.map eSpan)] (.bool (setB s)) [] := by
  refine fits_of_code [2] [] [0, 2, 3, 7, 55] func88 rfl rfl rfl (by rfl) (by show 1 ≤ 56; decide) (by rfl) (by rfl) (by show 0 ≤ 1; decide) (by rfl) (run_of ?_)
  simp -implicitDefEqProofs (maxSteps := 100000) (disch := first | (intros; contradiction) | omega) only [am0, am1, am2, am3, am4, am5, am6, am7, am8, Nat.reduceSub, ↓reduceIte, reduceCtorEq, Nat.reduceEqDiff, Nat.reduceBEq, Nat.reduceAdd, Nat.reduceLT, ↓reduceIte, tis]
  refine run_loop (α := Nat) (fun i => i ≤ s.length ∧ ∀ j, j < i → setN s j = true) (fun i => [(0, .sl false 2 (s.map eSpan)), (3, .int .i64 i)]) (fun i => s.length - i) 0 ⟨Nat.zero_le _, by simp⟩ ?_ ?_
  · simp -implicitDefEqProofs (maxSteps := 100000) (disch := first | (intros; contradiction) | omega) only [am0, am1, am2, am3, am4, am5, am6, am7, am8, Nat.reduceSub, ↓reduceIte, reduceCtorEq, Nat.reduceEqDiff, Nat.reduceBEq, Nat.reduceAdd, Nat.reduceLT, ↓reduceIte, tis]
  · rintro i ⟨hi', hb⟩
    by_cases hi : i < s.length
    · have next : setN s i = true → ∀ j, j < i + 1 → setN s j = true := by
        intro h5 j hj
        by_cases hji : j < i
        · exact hb j hji
        · obtain rfl : j = i := by omega
          exact h5
      by_cases h0 : i = 0
      · have e := setN_0 hi h0
        by_cases h1 : 0 ≤ s[i].lo ∧ s[i].lo ≤ s[i].hi ∧ s[i].hi ≤ 255
        · rw [decide_eq_true h1] at e
          simp -implicitDefEqProofs (maxSteps := 100000) (disch := first | (intros; contradiction) | omega) only [am0, am1, am2, am3, am4, am5, am6, am7, am8, Nat.reduceSub, ↓reduceIte, reduceCtorEq, Nat.reduceEqDiff, Nat.reduceBEq, Nat.reduceAdd, Nat.reduceLT, ↓reduceIte, tis, eSpan, fls]
          refine .inl ⟨by kernel_rfl, ?_⟩
          exact round_normal (i + 1) ⟨by omega, next e⟩ (by simp -implicitDefEqProofs (maxSteps := 100000) (disch := first | (intros; contradiction) | omega) only [am0, am1, am2, am3, am4, am5, am6, am7, am8, Nat.reduceSub, ↓reduceIte, reduceCtorEq, Nat.reduceEqDiff, Nat.reduceBEq, Nat.reduceAdd, Nat.reduceLT, ↓reduceIte, tis]) (by show s.length - (i + 1) < s.length - i; omega)
        · rw [decide_eq_false h1] at e
          have e2 := setB_false hi e
          by_cases a1 : s[i].lo < 0
          · simp -implicitDefEqProofs (maxSteps := 100000) (disch := first | (intros; contradiction) | omega) only [am0, am1, am2, am3, am4, am5, am6, am7, am8, Nat.reduceSub, ↓reduceIte, reduceCtorEq, Nat.reduceEqDiff, Nat.reduceBEq, Nat.reduceAdd, Nat.reduceLT, ↓reduceIte, tis, eSpan, fls, e2]
            refine .inl ?_
            show _ = _
            kernel_rfl
          by_cases a2 : 255 < s[i].hi
          · simp -implicitDefEqProofs (maxSteps := 100000) (disch := first | (intros; contradiction) | omega) only [am0, am1, am2, am3, am4, am5, am6, am7, am8, Nat.reduceSub, ↓reduceIte, reduceCtorEq, Nat.reduceEqDiff, Nat.reduceBEq, Nat.reduceAdd, Nat.reduceLT, ↓reduceIte, tis, eSpan, fls, e2]
            refine .inl ?_
            show _ = _
            kernel_rfl
          have a3 : s[i].hi < s[i].lo := by omega
          simp -implicitDefEqProofs (maxSteps := 100000) (disch := first | (intros; contradiction) | omega) only [am0, am1, am2, am3, am4, am5, am6, am7, am8, Nat.reduceSub, ↓reduceIte, reduceCtorEq, Nat.reduceEqDiff, Nat.reduceBEq, Nat.reduceAdd, Nat.reduceLT, ↓reduceIte, tis, eSpan, fls, e2]
          refine .inl ?_
          show _ = _
          kernel_rfl
      · have e := setN_1 hi h0
        have hi1 : i - 1 < s.length := by omega
        have b := setN_b hi1 (hb (i - 1) (by omega))
        have ei : ((i : Int) - 1).toNat = i - 1 := by omega
        by_cases h1 : 0 ≤ s[i].lo ∧ s[i].lo ≤ s[i].hi ∧ s[i].hi ≤ 255
        · by_cases h2 : s[i - 1].hi + 1 < s[i].lo
          · rw [decide_eq_true h1, decide_eq_true h2] at e
            simp -implicitDefEqProofs (maxSteps := 100000) (disch := first | (intros; contradiction) | omega) only [am0, am1, am2, am3, am4, am5, am6, am7, am8, Nat.reduceSub, ↓reduceIte, reduceCtorEq, Nat.reduceEqDiff, Nat.reduceBEq, Nat.reduceAdd, Nat.reduceLT, ↓reduceIte, tis, eSpan, fls, ei]
            refine .inl ⟨by kernel_rfl, ?_⟩
            exact round_normal (i + 1) ⟨by omega, next e⟩ (by simp -implicitDefEqProofs (maxSteps := 100000) (disch := first | (intros; contradiction) | omega) only [am0, am1, am2, am3, am4, am5, am6, am7, am8, Nat.reduceSub, ↓reduceIte, reduceCtorEq, Nat.reduceEqDiff, Nat.reduceBEq, Nat.reduceAdd, Nat.reduceLT, ↓reduceIte, tis]) (by show s.length - (i + 1) < s.length - i; omega)
          · rw [decide_eq_true h1, decide_eq_false h2] at e
            have e2 := setB_false hi e
            simp -implicitDefEqProofs (maxSteps := 100000) (disch := first | (intros; contradiction) | omega) only [am0, am1, am2, am3, am4, am5, am6, am7, am8, Nat.reduceSub, ↓reduceIte, reduceCtorEq, Nat.reduceEqDiff, Nat.reduceBEq, Nat.reduceAdd, Nat.reduceLT, ↓reduceIte, tis, eSpan, fls, e2, ei]
            refine .inl ?_
            show _ = _
            kernel_rfl
        · rw [decide_eq_false h1] at e
          have e2 := setB_false hi e
          by_cases a1 : s[i].lo < 0
          · simp -implicitDefEqProofs (maxSteps := 100000) (disch := first | (intros; contradiction) | omega) only [am0, am1, am2, am3, am4, am5, am6, am7, am8, Nat.reduceSub, ↓reduceIte, reduceCtorEq, Nat.reduceEqDiff, Nat.reduceBEq, Nat.reduceAdd, Nat.reduceLT, ↓reduceIte, tis, eSpan, fls, e2, ei]
            refine .inl ?_
            show _ = _
            kernel_rfl
          by_cases a2 : 255 < s[i].hi
          · simp -implicitDefEqProofs (maxSteps := 100000) (disch := first | (intros; contradiction) | omega) only [am0, am1, am2, am3, am4, am5, am6, am7, am8, Nat.reduceSub, ↓reduceIte, reduceCtorEq, Nat.reduceEqDiff, Nat.reduceBEq, Nat.reduceAdd, Nat.reduceLT, ↓reduceIte, tis, eSpan, fls, e2, ei]
            refine .inl ?_
            show _ = _
            kernel_rfl
          have a3 : s[i].hi < s[i].lo := by omega
          simp -implicitDefEqProofs (maxSteps := 100000) (disch := first | (intros; contradiction) | omega) only [am0, am1, am2, am3, am4, am5, am6, am7, am8, Nat.reduceSub, ↓reduceIte, reduceCtorEq, Nat.reduceEqDiff, Nat.reduceBEq, Nat.reduceAdd, Nat.reduceLT, ↓reduceIte, tis, eSpan, fls, e2, ei]
          refine .inl ?_
          show _ = _
          kernel_rfl
    · obtain rfl : i = s.length := by omega
      simp -implicitDefEqProofs (maxSteps := 100000) (disch := first | (intros; contradiction) | omega) only [am0, am1, am2, am3, am4, am5, am6, am7, am8, Nat.reduceSub, ↓reduceIte, reduceCtorEq, Nat.reduceEqDiff, Nat.reduceBEq, Nat.reduceAdd, Nat.reduceLT, ↓reduceIte, tis, setB_true hb]
/-- spec.l2Form -/
theorem fits_sForm (r : Rex) (d : Nat) (hd : d ≤ 8) (hb : bd r ≤ 1048576) : Fits prog 76 [eRex false r, .int .i64 d] (.bool (fm d r)) [] := by
  induction d generalizing r with
  | zero =>
    rw [eRex_eq]
    refine fits_of_code [4] [] [0, 1, 2, 4, 5, 33, 38, 49] func76 rfl rfl rfl (by rfl) (by show 2 ≤ 50; decide) (by rfl) (by rfl) (by show 0 ≤ 2; decide) (by rfl) (run_of ?_)
    simp -implicitDefEqProofs (maxSteps := 100000) (disch := first | (intros; contradiction) | omega) only [am0, am1, am2, am3, am4, am5, am6, am7, am8, Nat.reduceSub, ↓reduceIte, reduceCtorEq, Nat.reduceEqDiff, Nat.reduceBEq, Nat.reduceAdd, Nat.reduceLT, ↓reduceIte, tis, fm_0]
    refine .inl ?_
    show _ = _
    kernel_rfl
  | succ d ih =>
    have hb' := bd_eq r
    have cK := fits_sKids r.kind
    have cS := fits_sSetOk r.set (by omega)
    rw [eRex_eq]
    refine fits_of_code [4] [] [0, 1, 2, 4, 5, 33, 38, 49] func76 rfl rfl rfl (by rfl) (by show 2 ≤ 50; decide) (by rfl) (by rfl) (by show 0 ≤ 2; decide) (by rfl) (run_of ?_)
    simp -implicitDefEqProofs (maxSteps := 100000) (disch := first | (intros; contradiction) | omega) only [am0, am1, am2, am3, am4, am5, am6, am7, am8, Nat.reduceSub, ↓reduceIte, reduceCtorEq, Nat.reduceEqDiff, Nat.reduceBEq, Nat.reduceAdd, Nat.reduceLT, ↓reduceIte, tis]
    refine .inl ⟨by kernel_rfl, ?_⟩
    refine callL cK ?_
    by_cases h1 : kidsN r.kind = r.kids.length
    case neg => simp -implicitDefEqProofs (maxSteps := 100000) (disch := first | (intros; contradiction) | omega) only [am0, am1, am2, am3, am4, am5, am6, am7, am8, Nat.reduceSub, ↓reduceIte, reduceCtorEq, Nat.reduceEqDiff, Nat.reduceBEq, Nat.reduceAdd, Nat.reduceLT, ↓reduceIte, tis, fm_f1 h1]
    by_cases h2 : r.kind = 1 ∨ r.set.length = 0
    case neg =>
      have h2a : r.kind ≠ 1 := fun h => h2 (.inl h)
      have h2b : 0 < (r.set.length : Int) := by omega
      simp -implicitDefEqProofs (maxSteps := 100000) (disch := first | (intros; contradiction) | omega) only [am0, am1, am2, am3, am4, am5, am6, am7, am8, Nat.reduceSub, ↓reduceIte, reduceCtorEq, Nat.reduceEqDiff, Nat.reduceBEq, Nat.reduceAdd, Nat.reduceLT, ↓reduceIte, tis, fm_f2 h2]
    have h2c : r.kind = 1 ∨ (r.kind ≠ 1 ∧ (r.set.length : Int) = 0) := by omega
    cases h3 : setB r.set with
    | false =>
      rcases h2c with h2c | ⟨h2c, h2d⟩
      all_goals
        simp -implicitDefEqProofs (maxSteps := 100000) (disch := first | (intros; contradiction) | omega) only [am0, am1, am2, am3, am4, am5, am6, am7, am8, Nat.reduceSub, ↓reduceIte, reduceCtorEq, Nat.reduceEqDiff, Nat.reduceBEq, Nat.reduceAdd, Nat.reduceLT, ↓reduceIte, tis]
        refine callL cS ?_
        simp -implicitDefEqProofs (maxSteps := 100000) (disch := first | (intros; contradiction) | omega) only [am0, am1, am2, am3, am4, am5, am6, am7, am8, Nat.reduceSub, ↓reduceIte, reduceCtorEq, Nat.reduceEqDiff, Nat.reduceBEq, Nat.reduceAdd, Nat.reduceLT, ↓reduceIte, tis, h3, fm_f3 h3]
    | true =>
      rcases h2c with h2c | ⟨h2c, h2d⟩
      all_goals
        simp -implicitDefEqProofs (maxSteps := 100000) (disch := first | (intros; contradiction) | omega) only [am0, am1, am2, am3, am4, am5, am6, am7, am8, Nat.reduceSub, ↓reduceIte, reduceCtorEq, Nat.reduceEqDiff, Nat.reduceBEq, Nat.reduceAdd, Nat.reduceLT, ↓reduceIte, tis]
        refine callL cS ?_
        simp -implicitDefEqProofs (maxSteps := 100000) (disch := first | (intros; contradiction) | omega) only [am0, am1, am2, am3, am4, am5, am6, am7, am8, Nat.reduceSub, ↓reduceIte, reduceCtorEq, Nat.reduceEqDiff, Nat.reduceBEq, Nat.reduceAdd, Nat.reduceLT, ↓reduceIte, tis, h3]
        refine run_loop (α := Nat) (fun i => i ≤ r.kids.length ∧ ∀ j (hj : j < r.kids.length), j < i → fm d r.kids[j] = true) (fun i => [(1, .int .i64 ((d : Int) + 1)), (2, .box (.agg [.int .i64 r.kind, .sl false 2 (r.set.map eSpan), .sl false 3 (r.kids.map (eRex false))])), (5, .int .i64 i)]) (fun i => r.kids.length - i) 0 ⟨Nat.zero_le _, by intros; omega⟩ ?_ ?_
        · simp -implicitDefEqProofs (maxSteps := 100000) (disch := first | (intros; contradiction) | omega) only [am0, am1, am2, am3, am4, am5, am6, am7, am8, Nat.reduceSub, ↓reduceIte, reduceCtorEq, Nat.reduceEqDiff, Nat.reduceBEq, Nat.reduceAdd, Nat.reduceLT, ↓reduceIte, tis]
        · rintro i ⟨hi', hb2⟩
          by_cases hi : i < r.kids.length
          · have e1 : ((d : Int) + 1 - 1) = d := by omega
            have cF := ih r.kids[i] (by omega) (Nat.le_trans (bd_kid (List.getElem_mem hi)) hb)
            simp -implicitDefEqProofs (maxSteps := 100000) (disch := first | (intros; contradiction) | omega) only [am0, am1, am2, am3, am4, am5, am6, am7, am8, Nat.reduceSub, ↓reduceIte, reduceCtorEq, Nat.reduceEqDiff, Nat.reduceBEq, Nat.reduceAdd, Nat.reduceLT, ↓reduceIte, tis, rx, eRex_eq]
            refine callB cF ?_
            cases h5 : fm d r.kids[i] with
            | false => simp -implicitDefEqProofs (maxSteps := 100000) (disch := first | (intros; contradiction) | omega) only [am0, am1, am2, am3, am4, am5, am6, am7, am8, Nat.reduceSub, ↓reduceIte, reduceCtorEq, Nat.reduceEqDiff, Nat.reduceBEq, Nat.reduceAdd, Nat.reduceLT, ↓reduceIte, tis, rx, eRex_eq, e1, fm_f hi h5]
            | true =>
              simp -implicitDefEqProofs (maxSteps := 100000) (disch := first | (intros; contradiction) | omega) only [am0, am1, am2, am3, am4, am5, am6, am7, am8, Nat.reduceSub, ↓reduceIte, reduceCtorEq, Nat.reduceEqDiff, Nat.reduceBEq, Nat.reduceAdd, Nat.reduceLT, ↓reduceIte, tis, rx, eRex_eq, e1]
              refine round_normal (i + 1) ⟨by omega, ?_⟩ ?_ (by show r.kids.length - (i + 1) < r.kids.length - i; omega)
              · intro j hj hj2
                by_cases hji : j < i
                · exact hb2 j hj hji
                · obtain rfl : j = i := by omega
                  exact h5
              · simp -implicitDefEqProofs (maxSteps := 100000) (disch := first | (intros; contradiction) | omega) only [am0, am1, am2, am3, am4, am5, am6, am7, am8, Nat.reduceSub, ↓reduceIte, reduceCtorEq, Nat.reduceEqDiff, Nat.reduceBEq, Nat.reduceAdd, Nat.reduceLT, ↓reduceIte, tis]
          · obtain rfl : i = r.kids.length := by omega
            simp -implicitDefEqProofs (maxSteps := 100000) (disch := first | (intros; contradiction) | omega) only [am0, am1, am2, am3, am4, am5, am6, am7, am8, Nat.reduceSub, ↓reduceIte, reduceCtorEq, Nat.reduceEqDiff, Nat.reduceBEq, Nat.reduceAdd, Nat.reduceLT, ↓reduceIte, tis, fm_t h1 h2 h3 (fun i hi => hb2 i hi hi)]
/-- impl.manyParts -/
theorem fits_manyParts (r : Rex) (hb : bd r ≤ 1048576) (h2 : ps r ≤ 1048576) : Fits prog 80 [eRex false r] (.int .i64 (ps r)) [] := by
  induction r using Rex.ind' with
  | h r ih =>
    have hb' := bd_eq r
    have hp := ps_eq r
    rw [eRex_eq]
    refine fits_of_code [2] [] [0, 1, 2, 3, 5, 7, 8, 9, 10] func80 rfl rfl rfl (by rfl) (by show 1 ≤ 19; decide) (by rfl) (by rfl) (by show 0 ≤ 1; decide) (by rfl) (run_of ?_)
    simp -implicitDefEqProofs (maxSteps := 100000) (disch := first | (intros; contradiction) | omega) only [am0, am1, am2, am3, am4, am5, am6, am7, am8, Nat.reduceSub, ↓reduceIte, reduceCtorEq, Nat.reduceEqDiff, Nat.reduceBEq, Nat.reduceAdd, Nat.reduceLT, ↓reduceIte, tis]
    refine run_loop (α := Nat) (fun i => i ≤ r.kids.length) (fun i => [(3, .int .i64 ((1 + ((r.kids.map ps).take i).sum : Nat) : Int)), (7, .sl false 3 (r.kids.map (eRex false))), (8, .int .i64 r.kids.length), (9, .int .i64 i)]) (fun i => r.kids.length - i) 0 (Nat.zero_le _) ?_ ?_
    · simp -implicitDefEqProofs (maxSteps := 100000) (disch := first | (intros; contradiction) | omega) only [am0, am1, am2, am3, am4, am5, am6, am7, am8, Nat.reduceSub, ↓reduceIte, reduceCtorEq, Nat.reduceEqDiff, Nat.reduceBEq, Nat.reduceAdd, Nat.reduceLT, ↓reduceIte, tis, List.sum_nil]
    · intro i hi'
      by_cases hi : i < r.kids.length
      · have e := take_sum (l := r.kids.map ps) (i := i) (by simpa using hi)
        have e' := take_sum_le (r.kids.map ps) (i + 1)
        rw [List.getElem_map] at e
        have hm := List.getElem_mem hi
        have hk : ps r.kids[i] ≤ (r.kids.map ps).sum := le_sum (List.mem_map_of_mem hm)
        have cF := ih r.kids[i] hm (Nat.le_trans (bd_kid hm) hb) (by omega)
        simp -implicitDefEqProofs (maxSteps := 100000) (disch := first | (intros; contradiction) | omega) only [am0, am1, am2, am3, am4, am5, am6, am7, am8, Nat.reduceSub, ↓reduceIte, reduceCtorEq, Nat.reduceEqDiff, Nat.reduceBEq, Nat.reduceAdd, Nat.reduceLT, ↓reduceIte, tis, rx, eRex_eq]
        refine callB cF ?_
        simp -implicitDefEqProofs (maxSteps := 100000) (disch := first | (intros; contradiction) | omega) only [am0, am1, am2, am3, am4, am5, am6, am7, am8, Nat.reduceSub, ↓reduceIte, reduceCtorEq, Nat.reduceEqDiff, Nat.reduceBEq, Nat.reduceAdd, Nat.reduceLT, ↓reduceIte, tis, rx, eRex_eq]
        refine round_normal (i + 1) (by omega) ?_ (by show r.kids.length - (i + 1) < r.kids.length - i; omega)
        simp -implicitDefEqProofs (maxSteps := 100000) (disch := first | (intros; contradiction) | omega) only [am0, am1, am2, am3, am4, am5, am6, am7, am8, Nat.reduceSub, ↓reduceIte, reduceCtorEq, Nat.reduceEqDiff, Nat.reduceBEq, Nat.reduceAdd, Nat.reduceLT, ↓reduceIte, tis, e]
        omega
      · obtain rfl : i = r.kids.length := by omega
        have e : (r.kids.map ps).take r.kids.length = r.kids.map ps := List.take_of_length_le (by simp)
        simp -implicitDefEqProofs (maxSteps := 100000) (disch := first | (intros; contradiction) | omega) only [am0, am1, am2, am3, am4, am5, am6, am7, am8, Nat.reduceSub, ↓reduceIte, reduceCtorEq, Nat.reduceEqDiff, Nat.reduceBEq, Nat.reduceAdd, Nat.reduceLT, ↓reduceIte, tis, e, hp]
/-- spec.l2Many -/
theorem fits_sMany (r : Rex) (d : Nat) (hd : d ≤ 8) (hf : fm d r = true) (hb : bd r ≤ 1048576) : Fits prog 77 [eRex false r, .int .i64 d] (.int .i64 (ps r)) [] := by
  induction d generalizing r with
  | zero => simp [fm] at hf
  | succ d ih =>
    have hb' := bd_eq r
    have hp := ps_eq r
    have h4 := (fm_ok hf).2.2.2
    have hps := ps_le (d + 1) r hf
    have h2p : 2 ^ (d + 1) ≤ 2 ^ 8 := Nat.pow_le_pow_right (by omega) hd
    have e1 : ((d : Int) + 1 - 1) = d := by omega
    rw [eRex_eq]
    refine fits_of_code [4] [] [0, 1, 2, 4, 5, 6, 15] func77 rfl rfl rfl (by rfl) (by show 2 ≤ 29; decide) (by rfl) (by rfl) (by show 0 ≤ 2; decide) (by rfl) (run_of ?_)
    simp -implicitDefEqProofs (maxSteps := 100000) (disch := first | (intros; contradiction) | omega) only [am0, am1, am2, am3, am4, am5, am6, am7, am8, Nat.reduceSub, ↓reduceIte, reduceCtorEq, Nat.reduceEqDiff, Nat.reduceBEq, Nat.reduceAdd, Nat.reduceLT, ↓reduceIte, tis]
    refine run_loop (α := Nat) (fun i => i ≤ r.kids.length) (fun i => [(1, .int .i64 ((d : Int) + 1)), (2, .box (.agg [.int .i64 r.kind, .sl false 2 (r.set.map eSpan), .sl false 3 (r.kids.map (eRex false))])), (5, .int .i64 ((1 + ((r.kids.map ps).take i).sum : Nat) : Int)), (6, .int .i64 i)]) (fun i => r.kids.length - i) 0 (Nat.zero_le _) ?_ ?_
    · simp -implicitDefEqProofs (maxSteps := 100000) (disch := first | (intros; contradiction) | omega) only [am0, am1, am2, am3, am4, am5, am6, am7, am8, Nat.reduceSub, ↓reduceIte, reduceCtorEq, Nat.reduceEqDiff, Nat.reduceBEq, Nat.reduceAdd, Nat.reduceLT, ↓reduceIte, tis, List.sum_nil]
    · intro i hi'
      by_cases hi : i < r.kids.length
      · have e := take_sum (l := r.kids.map ps) (i := i) (by simpa using hi)
        have e' := take_sum_le (r.kids.map ps) (i + 1)
        rw [List.getElem_map] at e
        have hm := List.getElem_mem hi
        have hk : ps r.kids[i] ≤ (r.kids.map ps).sum := le_sum (List.mem_map_of_mem hm)
        have cF := ih r.kids[i] (by omega) (h4 _ hm) (Nat.le_trans (bd_kid hm) hb)
        simp -implicitDefEqProofs (maxSteps := 100000) (disch := first | (intros; contradiction) | omega) only [am0, am1, am2, am3, am4, am5, am6, am7, am8, Nat.reduceSub, ↓reduceIte, reduceCtorEq, Nat.reduceEqDiff, Nat.reduceBEq, Nat.reduceAdd, Nat.reduceLT, ↓reduceIte, tis, rx, eRex_eq]
        refine callB cF ?_
        simp -implicitDefEqProofs (maxSteps := 100000) (disch := first | (intros; contradiction) | omega) only [am0, am1, am2, am3, am4, am5, am6, am7, am8, Nat.reduceSub, ↓reduceIte, reduceCtorEq, Nat.reduceEqDiff, Nat.reduceBEq, Nat.reduceAdd, Nat.reduceLT, ↓reduceIte, tis, rx, eRex_eq, e1]
        refine round_normal (i + 1) (by omega) ?_ (by show r.kids.length - (i + 1) < r.kids.length - i; omega)
        simp -implicitDefEqProofs (maxSteps := 100000) (disch := first | (intros; contradiction) | omega) only [am0, am1, am2, am3, am4, am5, am6, am7, am8, Nat.reduceSub, ↓reduceIte, reduceCtorEq, Nat.reduceEqDiff, Nat.reduceBEq, Nat.reduceAdd, Nat.reduceLT, ↓reduceIte, tis, e]
        omega
      · obtain rfl : i = r.kids.length := by omega
        have e : (r.kids.map ps).take r.kids.length = r.kids.map ps := List.take_of_length_le (by simp)
        simp -implicitDefEqProofs (maxSteps := 100000) (disch := first | (intros; contradiction) | omega) only [am0, am1, am2, am3, am4, am5, am6, am7, am8, Nat.reduceSub, ↓reduceIte, reduceCtorEq, Nat.reduceEqDiff, Nat.reduceBEq, Nat.reduceAdd, Nat.reduceLT, ↓reduceIte, tis, e, hp]
def rexB (r : Rex) : Bool := fm 8 r && decide (ps r ≤ 24)
/-- impl.RexOk -/
theorem fits_rexOk (r : Rex) (hb : bd r ≤ 1048576) : Fits prog 59 [eRex false r] (.bool (rexB r)) [] := by
  have cF : Fits prog 79 [eRex false r, .int .i64 8] (.bool (fm 8 r)) [] := fits_formed r 8 (by omega) hb
  cases h : fm 8 r with
  | false =>
    have hx : rexB r = false := by simp [rexB, h]
    rw [h] at cF
    rw [eRex_eq] at *
    refine fits_of_code [2] [] [0, 1, 2] func59 rfl rfl rfl (by rfl) (by show 1 ≤ 10; decide) (by rfl) (by rfl) (by show 0 ≤ 1; decide) (by rfl) (run_of ?_)
    simp -implicitDefEqProofs (maxSteps := 100000) (disch := first | (intros; contradiction) | omega) only [am0, am1, am2, am3, am4, am5, am6, am7, am8, Nat.reduceSub, ↓reduceIte, reduceCtorEq, Nat.reduceEqDiff, Nat.reduceBEq, Nat.reduceAdd, Nat.reduceLT, ↓reduceIte, tis]
    refine callB cF ?_
    simp -implicitDefEqProofs (maxSteps := 100000) (disch := first | (intros; contradiction) | omega) only [am0, am1, am2, am3, am4, am5, am6, am7, am8, Nat.reduceSub, ↓reduceIte, reduceCtorEq, Nat.reduceEqDiff, Nat.reduceBEq, Nat.reduceAdd, Nat.reduceLT, ↓reduceIte, tis, hx]
  | true =>
    have hp := ps_le 8 r h
    have cM := fits_manyParts r hb (by omega)
    rw [h] at cF
    rw [eRex_eq] at *
    by_cases h2 : (ps r : Int) ≤ 24
    · have hx : rexB r = true := by simp only [rexB, h, Bool.true_and, decide_eq_true_eq]; omega
      refine fits_of_code [2] [] [0, 1, 2] func59 rfl rfl rfl (by rfl) (by show 1 ≤ 10; decide) (by rfl) (by rfl) (by show 0 ≤ 1; decide) (by rfl) (run_of ?_)
      simp -implicitDefEqProofs (maxSteps := 100000) (disch := first | (intros; contradiction) | omega) only [am0, am1, am2, am3, am4, am5, am6, am7, am8, Nat.reduceSub, ↓reduceIte, reduceCtorEq, Nat.reduceEqDiff, Nat.reduceBEq, Nat.reduceAdd, Nat.reduceLT, ↓reduceIte, tis]
      refine callB cF ?_
      simp -implicitDefEqProofs (maxSteps := 100000) (disch := first | (intros; contradiction) | omega) only [am0, am1, am2, am3, am4, am5, am6, am7, am8, Nat.reduceSub, ↓reduceIte, reduceCtorEq, Nat.reduceEqDiff, Nat.reduceBEq, Nat.reduceAdd, Nat.reduceLT, ↓reduceIte, tis]
      refine callB cM ?_
      simp -implicitDefEqProofs (maxSteps := 100000) (disch := first | (intros; contradiction) | omega) only [am0, am1, am2, am3, am4, am5, am6, am7, am8, Nat.reduceSub, ↓reduceIte, reduceCtorEq, Nat.reduceEqDiff, Nat.reduceBEq, Nat.reduceAdd, Nat.reduceLT, ↓reduceIte, tis, hx]
    · have hx : rexB r = false := by simp only [rexB, h, Bool.true_and, decide_eq_false_iff_not]; omega
      refine fits_of_code [2] [] [0, 1, 2] func59 rfl rfl rfl (by rfl) (by show 1 ≤ 10; decide) (by rfl) (by rfl) (by show 0 ≤ 1; decide) (by rfl) (run_of ?_)
      simp -implicitDefEqProofs (maxSteps := 100000) (disch := first | (intros; contradiction) | omega) only [am0, am1, am2, am3, am4, am5, am6, am7, am8, Nat.reduceSub, ↓reduceIte, reduceCtorEq, Nat.reduceEqDiff, Nat.reduceBEq, Nat.reduceAdd, Nat.reduceLT, ↓reduceIte, tis]
      refine callB cF ?_
      simp -implicitDefEqProofs (maxSteps := 100000) (disch := first | (intros; contradiction) | omega) only [am0, am1, am2, am3, am4, am5, am6, am7, am8, Nat.reduceSub, ↓reduceIte, reduceCtorEq, Nat.reduceEqDiff, Nat.reduceBEq, Nat.reduceAdd, Nat.reduceLT, ↓reduceIte, tis]
      refine callB cM ?_
      simp -implicitDefEqProofs (maxSteps := 100000) (disch := first | (intros; contradiction) | omega) only [am0, am1, am2, am3, am4, am5, am6, am7, am8, Nat.reduceSub, ↓reduceIte, reduceCtorEq, Nat.reduceEqDiff, Nat.reduceBEq, Nat.reduceAdd, Nat.reduceLT, ↓reduceIte, tis, hx]
/-- spec.RexOk -/
theorem fits_sRexOk (r : Rex) (hb : bd r ≤ 1048576) : Fits prog 55 [eRex false r] (.bool (rexB r)) [] := by
  have cF : Fits prog 76 [eRex false r, .int .i64 8] (.bool (fm 8 r)) [] := fits_sForm r 8 (by omega) hb
  cases h : fm 8 r with
  | false =>
    have hx : rexB r = false := by simp [rexB, h]
    rw [h] at cF
    rw [eRex_eq] at *
    refine fits_of_code [2] [] [0, 1, 2] func55 rfl rfl rfl (by rfl) (by show 1 ≤ 10; decide) (by rfl) (by rfl) (by show 0 ≤ 1; decide) (by rfl) (run_of ?_)
    simp -implicitDefEqProofs (maxSteps := 100000) (disch := first | (intros; contradiction) | omega) only [am0, am1, am2, am3, am4, am5, am6, am7, am8, Nat.reduceSub, ↓reduceIte, reduceCtorEq, Nat.reduceEqDiff, Nat.reduceBEq, Nat.reduceAdd, Nat.reduceLT, ↓reduceIte, tis]
    refine callB cF ?_
    simp -implicitDefEqProofs (maxSteps := 100000) (disch := first | (intros; contradiction) | omega) only [am0, am1, am2, am3, am4, am5, am6, am7, am8, Nat.reduceSub, ↓reduceIte, reduceCtorEq, Nat.reduceEqDiff, Nat.reduceBEq, Nat.reduceAdd, Nat.reduceLT, ↓reduceIte, tis, hx]
  | true =>
    have hp := ps_le 8 r h
    have cM : Fits prog 77 [eRex false r, .int .i64 8] (.int .i64 (ps r)) [] := fits_sMany r 8 (by omega) h hb
    rw [h] at cF
    rw [eRex_eq] at *
    by_cases h2 : (ps r : Int) ≤ 24
    · have hx : rexB r = true := by simp only [rexB, h, Bool.true_and, decide_eq_true_eq]; omega
      refine fits_of_code [2] [] [0, 1, 2] func55 rfl rfl rfl (by rfl) (by show 1 ≤ 10; decide) (by rfl) (by rfl) (by show 0 ≤ 1; decide) (by rfl) (run_of ?_)
      simp -implicitDefEqProofs (maxSteps := 100000) (disch := first | (intros; contradiction) | omega) only [am0, am1, am2, am3, am4, am5, am6, am7, am8, Nat.reduceSub, ↓reduceIte, reduceCtorEq, Nat.reduceEqDiff, Nat.reduceBEq, Nat.reduceAdd, Nat.reduceLT, ↓reduceIte, tis]
      refine callB cF ?_
      simp -implicitDefEqProofs (maxSteps := 100000) (disch := first | (intros; contradiction) | omega) only [am0, am1, am2, am3, am4, am5, am6, am7, am8, Nat.reduceSub, ↓reduceIte, reduceCtorEq, Nat.reduceEqDiff, Nat.reduceBEq, Nat.reduceAdd, Nat.reduceLT, ↓reduceIte, tis]
      refine callB cM ?_
      simp -implicitDefEqProofs (maxSteps := 100000) (disch := first | (intros; contradiction) | omega) only [am0, am1, am2, am3, am4, am5, am6, am7, am8, Nat.reduceSub, ↓reduceIte, reduceCtorEq, Nat.reduceEqDiff, Nat.reduceBEq, Nat.reduceAdd, Nat.reduceLT, ↓reduceIte, tis, hx]
    · have hx : rexB r = false := by simp only [rexB, h, Bool.true_and, decide_eq_false_iff_not]; omega
      refine fits_of_code [2] [] [0, 1, 2] func55 rfl rfl rfl (by rfl) (by show 1 ≤ 10; decide) (by rfl) (by rfl) (by show 0 ≤ 1; decide) (by rfl) (run_of ?_)
      simp -implicitDefEqProofs (maxSteps := 100000) (disch := first | (intros; contradiction) | omega) only [am0, am1, am2, am3, am4, am5, am6, am7, am8, Nat.reduceSub, ↓reduceIte, reduceCtorEq, Nat.reduceEqDiff, Nat.reduceBEq, Nat.reduceAdd, Nat.reduceLT, ↓reduceIte, tis]
      refine callB cF ?_
      simp -implicitDefEqProofs (maxSteps := 100000) (disch := first | (intros; contradiction) | omega) only [am0, am1, am2, am3, am4, am5, am6, am7, am8, Nat.reduceSub, ↓reduceIte, reduceCtorEq, Nat.reduceEqDiff, Nat.reduceBEq, Nat.reduceAdd, Nat.reduceLT, ↓reduceIte, tis]
      refine callB cM ?_
      simp -implicitDefEqProofs (maxSteps := 100000) (disch := first | (intros; contradiction) | omega) only [am0, am1, am2, am3, am4, am5, am6, am7, am8, Nat.reduceSub, ↓reduceIte, reduceCtorEq, Nat.reduceEqDiff, Nat.reduceBEq, Nat.reduceAdd, Nat.reduceLT, ↓reduceIte, tis, hx]
/-- What is read backwards. -/
def turnR : Rex → Rex
  | .mk k s ks => .mk k s (if k = 3 then (ks.map turnR).reverse else ks.map turnR)
theorem turnR_eq (r : Rex) : turnR r = .mk r.kind r.set (if r.kind = 3 then (r.kids.map turnR).reverse else r.kids.map turnR) := by cases r; rw [turnR]; rfl
theorem bd_turn (r : Rex) : bd (turnR r) = bd r := by
  induction r using Rex.ind' with
  | h r ih =>
    rw [turnR_eq, bd_eq, bd_eq r]
    have e : (r.kids.map turnR).map bd = r.kids.map bd := by rw [List.map_map]; exact List.map_congr_left ih
    show r.set.length + ((if r.kind = 3 then (r.kids.map turnR).reverse else r.kids.map turnR).length + ((if r.kind = 3 then (r.kids.map turnR).reverse else r.kids.map turnR).map bd).sum) = _
    by_cases h : r.kind = 3
    · rw [if_pos h, List.map_reverse, e, List.sum_reverse]; simp
    · rw [if_neg h, e]; simp
theorem fm_cat {d : Nat} {r : Rex} (h : fm d r = true) (h3 : r.kind = 3) : r.kids.length = 2 := by
  cases d with
  | zero => simp [fm] at h
  | succ d => have := (fm_ok h).1; rw [h3] at this; simp [kidsN] at this; omega
/-- impl.turned, its result as shared -/
theorem fits_turned (r : Rex) (d : Nat) (hf : fm d r = true) (hb : bd r ≤ 1048576) : Fits prog 61 [eRex false r] (eRex false (turnR r)) [] := by
  induction d generalizing r with
  | zero => simp [fm] at hf
  | succ d ih =>
    have hb' := bd_eq r
    have h4 := (fm_ok hf).2.2.2
    have cS := fits_copiedSpan r.set (by omega)
    have key : Fits prog 61 [eRex false r] (.agg [.int .i64 r.kind, .sl true 2 (r.set.map eSpan), .sl true 3 ((turnR r).kids.map (eRex false))]) [] := by
      rw [eRex_eq]
      refine fits_of_cell 2 53 [] [0, 1, 2, 3, 5, 13, 14, 15, 16, 29] func61 rfl rfl rfl (by show 2 < 45; decide) (by show 1 ≤ 45; decide) (by rfl) (by rfl) (by show 0 ≤ 1; decide) (by rfl) (run_of ?_)
      simp -implicitDefEqProofs (maxSteps := 100000) (disch := first | (intros; contradiction) | omega) only [am0, am1, am2, am3, am4, am5, am6, am7, am8, Nat.reduceSub, ↓reduceIte, reduceCtorEq, Nat.reduceEqDiff, Nat.reduceBEq, Nat.reduceAdd, Nat.reduceLT, ↓reduceIte, tis]
      refine .inl ⟨by kernel_rfl, ?_⟩
      refine callL cS ?_
      simp -implicitDefEqProofs (maxSteps := 100000) (disch := first | (intros; contradiction) | omega) only [am0, am1, am2, am3, am4, am5, am6, am7, am8, Nat.reduceSub, ↓reduceIte, reduceCtorEq, Nat.reduceEqDiff, Nat.reduceBEq, Nat.reduceAdd, Nat.reduceLT, ↓reduceIte, tis, fls, rx, ite_self]
      refine run_loop (α := Nat) (fun i => i ≤ r.kids.length) (fun i => [(1, .box (.agg [.int .i64 r.kind, .sl false 2 (r.set.map eSpan), .sl false 3 (r.kids.map (eRex false))])), (2, .box (.agg [.int .i64 0, .sl true 0 [], .sl true 0 []])), (3, .box (.agg [.int .i64 r.kind, .sl true 2 (r.set.map eSpan), .sl true 3 ((r.kids.take i).map (fun x => eRex false (turnR x)))])), (13, .sl false 3 (r.kids.map (eRex false))), (14, .int .i64 r.kids.length), (15, .int .i64 i)]) (fun i => r.kids.length - i) 0 (Nat.zero_le _) ?_ ?_
      · simp -implicitDefEqProofs (maxSteps := 100000) (disch := first | (intros; contradiction) | omega) only [am0, am1, am2, am3, am4, am5, am6, am7, am8, Nat.reduceSub, ↓reduceIte, reduceCtorEq, Nat.reduceEqDiff, Nat.reduceBEq, Nat.reduceAdd, Nat.reduceLT, ↓reduceIte, tis]
      · intro i hi'
        by_cases hi : i < r.kids.length
        · have hm := List.getElem_mem hi
          have cF := ih r.kids[i] (h4 _ hm) (Nat.le_trans (bd_kid hm) hb)
          rw [eRex_eq false r.kids[i]] at cF
          simp -implicitDefEqProofs (maxSteps := 100000) (disch := first | (intros; contradiction) | omega) only [am0, am1, am2, am3, am4, am5, am6, am7, am8, Nat.reduceSub, ↓reduceIte, reduceCtorEq, Nat.reduceEqDiff, Nat.reduceBEq, Nat.reduceAdd, Nat.reduceLT, ↓reduceIte, tis, rx, fls, eRex_eq false r.kids[i]]
          refine .inl ⟨by kernel_rfl, ?_⟩
          refine callL cF ?_
          rw [eRex_eq false (turnR r.kids[i])]
          have hlt : (r.kids.take i).length = i := by simp; omega
          simp -implicitDefEqProofs (maxSteps := 100000) (disch := first | (intros; contradiction) | omega) only [am0, am1, am2, am3, am4, am5, am6, am7, am8, Nat.reduceSub, ↓reduceIte, reduceCtorEq, Nat.reduceEqDiff, Nat.reduceBEq, Nat.reduceAdd, Nat.reduceLT, ↓reduceIte, tis, rx, fls, hlt]
          refine round_normal (i + 1) (by omega) ?_ (by show r.kids.length - (i + 1) < r.kids.length - i; omega)
          rw [List.take_succ_eq_append_getElem hi, List.map_append, List.map_cons, List.map_nil, eRex_eq false (turnR r.kids[i])]
          simp -implicitDefEqProofs (maxSteps := 100000) (disch := first | (intros; contradiction) | omega) only [am0, am1, am2, am3, am4, am5, am6, am7, am8, Nat.reduceSub, ↓reduceIte, reduceCtorEq, Nat.reduceEqDiff, Nat.reduceBEq, Nat.reduceAdd, Nat.reduceLT, ↓reduceIte, tis]
        · obtain rfl : i = r.kids.length := by omega
          by_cases h3 : r.kind = 3
          · have h2 := fm_cat hf h3
            obtain ⟨a, b, hab⟩ : ∃ a b, r.kids = [a, b] := by
              match hk : r.kids, h2 with
              | [a, b], _ => exact ⟨a, b, rfl⟩
            have ht : (turnR r).kids.map (eRex false) = [eRex false (turnR b), eRex false (turnR a)] := by
              rw [turnR_eq, if_pos h3, hab]; rfl
            rw [ht]
            simp only [hab, List.map_cons, List.map_nil, List.take_succ_cons, List.take_zero, List.length_cons, List.length_nil, eRex_eq false (turnR a), eRex_eq false (turnR b)]
            have t1 : Int.toNat 1 = 1 := rfl
            have t0 : Int.toNat 0 = 0 := rfl
            simp -implicitDefEqProofs (maxSteps := 100000) (disch := first | (intros; contradiction) | omega) only [am0, am1, am2, am3, am4, am5, am6, am7, am8, Nat.reduceSub, ↓reduceIte, reduceCtorEq, Nat.reduceEqDiff, Nat.reduceBEq, Nat.reduceAdd, Nat.reduceLT, ↓reduceIte, tis, h3, hab, t1, t0]
            refine .inr (run_late [[2, 3], []] (by kernel_rfl) ?_)
            simp -implicitDefEqProofs (maxSteps := 100000) (disch := first | (intros; contradiction) | omega) only [am0, am1, am2, am3, am4, am5, am6, am7, am8, Nat.reduceSub, ↓reduceIte, reduceCtorEq, Nat.reduceEqDiff, Nat.reduceBEq, Nat.reduceAdd, Nat.reduceLT, ↓reduceIte, tis, h3, hab, t1, t0, rx]
          · have ht : (turnR r).kids.map (eRex false) = r.kids.map (fun x => eRex false (turnR x)) := by
              rw [turnR_eq, if_neg h3]; simp [Rex.kids]
            rw [ht]
            simp -implicitDefEqProofs (maxSteps := 100000) (disch := first | (intros; contradiction) | omega) only [am0, am1, am2, am3, am4, am5, am6, am7, am8, Nat.reduceSub, ↓reduceIte, reduceCtorEq, Nat.reduceEqDiff, Nat.reduceBEq, Nat.reduceAdd, Nat.reduceLT, ↓reduceIte, tis, h3]
    have := fits_shared key
    rw [eRex_eq false (turnR r)]
    simp only [erase, eraseL, fls, rx] at this
    rw [turnR_eq] at this ⊢
    exact this
/-- spec.l13Rex -/
theorem fits_l13Rex (r : Rex) (d : Nat) (hf : fm d r = true) (hb : bd r ≤ 1048576) : Fits prog 56 [eRex false r] (eRex true (turnR r)) [] := by
  induction d generalizing r with
  | zero => simp [fm] at hf
  | succ d ih =>
    have hb' := bd_eq r
    have h4 := (fm_ok hf).2.2.2
    have hlen : (turnR r).kids.length = r.kids.length := by rw [turnR_eq]; show (if r.kind = 3 then (r.kids.map turnR).reverse else r.kids.map turnR).length = _; split <;> simp
    have hset : (turnR r).set = r.set := by rw [turnR_eq]; rfl
    have hkind : (turnR r).kind = r.kind := by rw [turnR_eq]; rfl
    have step : ∀ i (hi : i < r.kids.length), ∃ k : Nat, ∃ hk : k < r.kids.length, (turnR r).kids[i]? = some (turnR r.kids[k]) ∧ (k : Int) = if r.kind = 3 then 1 - (i : Int) else i := by
      intro i hi
      by_cases h3 : r.kind = 3
      · have h2 := fm_cat hf h3
        refine ⟨1 - i, by omega, ?_, by rw [if_pos h3]; omega⟩
        rw [turnR_eq, if_pos h3]
        show (r.kids.map turnR).reverse[i]? = _
        rw [List.getElem?_reverse (by simpa using hi)]
        have e : (r.kids.map turnR).length - 1 - i = 1 - i := by simp [h2]
        rw [e, List.getElem?_map, List.getElem?_eq_getElem (by omega : 1 - i < r.kids.length)]; rfl
      · refine ⟨i, hi, ?_, by rw [if_neg h3]⟩
        rw [turnR_eq, if_neg h3]
        show (r.kids.map turnR)[i]? = _
        rw [List.getElem?_map, List.getElem?_eq_getElem hi]; rfl
    rw [eRex_eq, eRex_eq, hset, hkind]
    refine fits_of_cell 2 53 [] [0, 1, 2, 3, 4, 5, 17, 23] func56 rfl rfl rfl (by show 2 < 38; decide) (by show 1 ≤ 38; decide) (by rfl) (by rfl) (by show 0 ≤ 1; decide) (by rfl) (run_of ?_)
    simp -implicitDefEqProofs (maxSteps := 100000) (disch := first | (intros; contradiction) | omega) only [am0, am1, am2, am3, am4, am5, am6, am7, am8, Nat.reduceSub, ↓reduceIte, reduceCtorEq, Nat.reduceEqDiff, Nat.reduceBEq, Nat.reduceAdd, Nat.reduceLT, ↓reduceIte, tis]
    refine .inl ⟨by kernel_rfl, ?_⟩
    refine run_loop (α := Nat) (fun i => i ≤ r.kids.length) (fun i => [(1, .box (.agg [.int .i64 r.kind, .sl false 2 (r.set.map eSpan), .sl false 3 (r.kids.map (eRex false))])), (2, .box (.agg [.int .i64 0, .sl true 0 [], .sl true 0 []])), (3, .box (.agg [.int .i64 r.kind, .sl true 2 (r.set.map eSpan), .sl true 3 (((turnR r).kids.take i).map (eRex true))])), (4, .int .i64 i)]) (fun i => r.kids.length - i) 0 (Nat.zero_le _) ?_ ?_
    · simp -implicitDefEqProofs (maxSteps := 100000) (disch := first | (intros; contradiction) | omega) only [am0, am1, am2, am3, am4, am5, am6, am7, am8, Nat.reduceSub, ↓reduceIte, reduceCtorEq, Nat.reduceEqDiff, Nat.reduceBEq, Nat.reduceAdd, Nat.reduceLT, ↓reduceIte, tis]
    · intro i hi'
      by_cases hi : i < r.kids.length
      · obtain ⟨k, hk, hg, hkk⟩ := step i hi
        have hm := List.getElem_mem hk
        have cF := ih r.kids[k] (h4 _ hm) (Nat.le_trans (bd_kid hm) hb)
        rw [eRex_eq false r.kids[k], eRex_eq true (turnR r.kids[k])] at cF
        have hlt : ((turnR r).kids.take i).length = i := by simp; omega
        have hnext : (turnR r).kids.take (i + 1) = (turnR r).kids.take i ++ [turnR r.kids[k]] := by
          rw [List.take_add_one, hg]; rfl
        by_cases h3 : r.kind = 3
        · rw [if_pos h3] at hkk
          have e1 : (1 : Int) - i = k := hkk.symm
          simp -implicitDefEqProofs (maxSteps := 100000) (disch := first | (intros; contradiction) | omega) only [am0, am1, am2, am3, am4, am5, am6, am7, am8, Nat.reduceSub, ↓reduceIte, reduceCtorEq, Nat.reduceEqDiff, Nat.reduceBEq, Nat.reduceAdd, Nat.reduceLT, ↓reduceIte, tis, rx, fls, e1, eRex_eq false r.kids[k]]
          refine .inl ⟨by kernel_rfl, ?_⟩
          refine callL cF ?_
          simp -implicitDefEqProofs (maxSteps := 100000) (disch := first | (intros; contradiction) | omega) only [am0, am1, am2, am3, am4, am5, am6, am7, am8, Nat.reduceSub, ↓reduceIte, reduceCtorEq, Nat.reduceEqDiff, Nat.reduceBEq, Nat.reduceAdd, Nat.reduceLT, ↓reduceIte, tis, rx, fls, hlt]
          refine round_normal (i + 1) (by omega) ?_ (by show r.kids.length - (i + 1) < r.kids.length - i; omega)
          rw [hnext, List.map_append, List.map_cons, List.map_nil, eRex_eq true (turnR r.kids[k])]
          simp -implicitDefEqProofs (maxSteps := 100000) (disch := first | (intros; contradiction) | omega) only [am0, am1, am2, am3, am4, am5, am6, am7, am8, Nat.reduceSub, ↓reduceIte, reduceCtorEq, Nat.reduceEqDiff, Nat.reduceBEq, Nat.reduceAdd, Nat.reduceLT, ↓reduceIte, tis]
        · rw [if_neg h3] at hkk
          obtain rfl : k = i := by omega
          simp -implicitDefEqProofs (maxSteps := 100000) (disch := first | (intros; contradiction) | omega) only [am0, am1, am2, am3, am4, am5, am6, am7, am8, Nat.reduceSub, ↓reduceIte, reduceCtorEq, Nat.reduceEqDiff, Nat.reduceBEq, Nat.reduceAdd, Nat.reduceLT, ↓reduceIte, tis, rx, fls, eRex_eq false r.kids[k]]
          refine .inl ⟨by kernel_rfl, ?_⟩
          refine callL cF ?_
          simp -implicitDefEqProofs (maxSteps := 100000) (disch := first | (intros; contradiction) | omega) only [am0, am1, am2, am3, am4, am5, am6, am7, am8, Nat.reduceSub, ↓reduceIte, reduceCtorEq, Nat.reduceEqDiff, Nat.reduceBEq, Nat.reduceAdd, Nat.reduceLT, ↓reduceIte, tis, rx, fls, hlt]
          refine round_normal (k + 1) (by omega) ?_ (by show r.kids.length - (k + 1) < r.kids.length - k; omega)
          rw [hnext, List.map_append, List.map_cons, List.map_nil, eRex_eq true (turnR r.kids[k])]
          simp -implicitDefEqProofs (maxSteps := 100000) (disch := first | (intros; contradiction) | omega) only [am0, am1, am2, am3, am4, am5, am6, am7, am8, Nat.reduceSub, ↓reduceIte, reduceCtorEq, Nat.reduceEqDiff, Nat.reduceBEq, Nat.reduceAdd, Nat.reduceLT, ↓reduceIte, tis]
      · obtain rfl : i = r.kids.length := by omega
        have e : (turnR r).kids.take r.kids.length = (turnR r).kids := List.take_of_length_le (by omega)
        simp -implicitDefEqProofs (maxSteps := 100000) (disch := first | (intros; contradiction) | omega) only [am0, am1, am2, am3, am4, am5, am6, am7, am8, Nat.reduceSub, ↓reduceIte, reduceCtorEq, Nat.reduceEqDiff, Nat.reduceBEq, Nat.reduceAdd, Nat.reduceLT, ↓reduceIte, tis, e]
def zRex : Rex := .mk 0 [] []
def turnP (r : Rex) : Rex := if rexB r then turnR r else zRex
theorem rexB_fm {r : Rex} (h : rexB r = true) : fm 8 r = true := by simp only [rexB, Bool.and_eq_true] at h; exact h.1
/-- impl.TurnRex -/
theorem fits_turnRex (r : Rex) (hb : bd r ≤ 1048576) : Fits prog 29 [eRex false r] (eRex true (turnP r)) [] := by
  have cO := fits_rexOk r hb
  cases h : rexB r with
  | false =>
    have e : turnP r = zRex := by simp [turnP, h]
    rw [h] at cO
    rw [e, eRex_eq, eRex_eq] at *
    refine fits_of_cell 2 53 [] [0, 1, 2, 5] func29 rfl rfl rfl (by show 2 < 10; decide) (by show 1 ≤ 10; decide) (by rfl) (by rfl) (by show 0 ≤ 1; decide) (by rfl) (run_of ?_)
    simp -implicitDefEqProofs (maxSteps := 100000) (disch := first | (intros; contradiction) | omega) only [am0, am1, am2, am3, am4, am5, am6, am7, am8, Nat.reduceSub, ↓reduceIte, reduceCtorEq, Nat.reduceEqDiff, Nat.reduceBEq, Nat.reduceAdd, Nat.reduceLT, ↓reduceIte, tis, fls, rx]
    refine callB cO ?_
    simp -implicitDefEqProofs (maxSteps := 100000) (disch := first | (intros; contradiction) | omega) only [am0, am1, am2, am3, am4, am5, am6, am7, am8, Nat.reduceSub, ↓reduceIte, reduceCtorEq, Nat.reduceEqDiff, Nat.reduceBEq, Nat.reduceAdd, Nat.reduceLT, ↓reduceIte, tis, zRex, Rex.kind, Rex.set, Rex.kids, List.map_nil]
  | true =>
    have e : turnP r = turnR r := by simp [turnP, h]
    have cT := fits_turned r 8 (rexB_fm h) hb
    have cC := fits_rexCopy (turnR r) (by rw [bd_turn]; exact hb)
    rw [h] at cO
    rw [e]
    rw [eRex_eq false r] at *
    rw [eRex_eq] at cT
    rw [eRex_eq, eRex_eq] at cC
    rw [eRex_eq]
    refine fits_of_cell 2 53 [] [0, 1, 2, 5] func29 rfl rfl rfl (by show 2 < 10; decide) (by show 1 ≤ 10; decide) (by rfl) (by rfl) (by show 0 ≤ 1; decide) (by rfl) (run_of ?_)
    simp -implicitDefEqProofs (maxSteps := 100000) (disch := first | (intros; contradiction) | omega) only [am0, am1, am2, am3, am4, am5, am6, am7, am8, Nat.reduceSub, ↓reduceIte, reduceCtorEq, Nat.reduceEqDiff, Nat.reduceBEq, Nat.reduceAdd, Nat.reduceLT, ↓reduceIte, tis, fls, rx]
    refine callB cO ?_
    simp -implicitDefEqProofs (maxSteps := 100000) (disch := first | (intros; contradiction) | omega) only [am0, am1, am2, am3, am4, am5, am6, am7, am8, Nat.reduceSub, ↓reduceIte, reduceCtorEq, Nat.reduceEqDiff, Nat.reduceBEq, Nat.reduceAdd, Nat.reduceLT, ↓reduceIte, tis, fls, rx]
    refine callB cT ?_
    simp -implicitDefEqProofs (maxSteps := 100000) (disch := first | (intros; contradiction) | omega) only [am0, am1, am2, am3, am4, am5, am6, am7, am8, Nat.reduceSub, ↓reduceIte, reduceCtorEq, Nat.reduceEqDiff, Nat.reduceBEq, Nat.reduceAdd, Nat.reduceLT, ↓reduceIte, tis, fls, rx]
    refine callB cC ?_
    simp -implicitDefEqProofs (maxSteps := 100000) (disch := first | (intros; contradiction) | omega) only [am0, am1, am2, am3, am4, am5, am6, am7, am8, Nat.reduceSub, ↓reduceIte, reduceCtorEq, Nat.reduceEqDiff, Nat.reduceBEq, Nat.reduceAdd, Nat.reduceLT, ↓reduceIte, tis, fls, rx]
/-- spec.TurnRex -/
theorem fits_sTurnRex (r : Rex) (hb : bd r ≤ 1048576) : Fits prog 27 [eRex false r] (eRex true (turnP r)) [] := by
  have cO := fits_sRexOk r hb
  cases h : rexB r with
  | false =>
    have e : turnP r = zRex := by simp [turnP, h]
    rw [h] at cO
    rw [e, eRex_eq, eRex_eq] at *
    refine fits_of_cell 2 53 [] [0, 1, 2, 5] func27 rfl rfl rfl (by show 2 < 9; decide) (by show 1 ≤ 9; decide) (by rfl) (by rfl) (by show 0 ≤ 1; decide) (by rfl) (run_of ?_)
    simp -implicitDefEqProofs (maxSteps := 100000) (disch := first | (intros; contradiction) | omega) only [am0, am1, am2, am3, am4, am5, am6, am7, am8, Nat.reduceSub, ↓reduceIte, reduceCtorEq, Nat.reduceEqDiff, Nat.reduceBEq, Nat.reduceAdd, Nat.reduceLT, ↓reduceIte, tis, fls, rx]
    refine callB cO ?_
    simp -implicitDefEqProofs (maxSteps := 100000) (disch := first | (intros; contradiction) | omega) only [am0, am1, am2, am3, am4, am5, am6, am7, am8, Nat.reduceSub, ↓reduceIte, reduceCtorEq, Nat.reduceEqDiff, Nat.reduceBEq, Nat.reduceAdd, Nat.reduceLT, ↓reduceIte, tis, zRex, Rex.kind, Rex.set, Rex.kids, List.map_nil]
  | true =>
    have e : turnP r = turnR r := by simp [turnP, h]
    have cT := fits_l13Rex r 8 (rexB_fm h) hb
    rw [h] at cO
    rw [e]
    rw [eRex_eq false r] at *
    rw [eRex_eq] at cT
    rw [eRex_eq]
    refine fits_of_cell 2 53 [] [0, 1, 2, 5] func27 rfl rfl rfl (by show 2 < 9; decide) (by show 1 ≤ 9; decide) (by rfl) (by rfl) (by show 0 ≤ 1; decide) (by rfl) (run_of ?_)
    simp -implicitDefEqProofs (maxSteps := 100000) (disch := first | (intros; contradiction) | omega) only [am0, am1, am2, am3, am4, am5, am6, am7, am8, Nat.reduceSub, ↓reduceIte, reduceCtorEq, Nat.reduceEqDiff, Nat.reduceBEq, Nat.reduceAdd, Nat.reduceLT, ↓reduceIte, tis, fls, rx]
    refine callB cO ?_
    simp -implicitDefEqProofs (maxSteps := 100000) (disch := first | (intros; contradiction) | omega) only [am0, am1, am2, am3, am4, am5, am6, am7, am8, Nat.reduceSub, ↓reduceIte, reduceCtorEq, Nat.reduceEqDiff, Nat.reduceBEq, Nat.reduceAdd, Nat.reduceLT, ↓reduceIte, tis, fls, rx]
    refine callB cT ?_
    simp -implicitDefEqProofs (maxSteps := 100000) (disch := first | (intros; contradiction) | omega) only [am0, am1, am2, am3, am4, am5, am6, am7, am8, Nat.reduceSub, ↓reduceIte, reduceCtorEq, Nat.reduceEqDiff, Nat.reduceBEq, Nat.reduceAdd, Nat.reduceLT, ↓reduceIte, tis, fls, rx]
/-- Two bytes in each other's place. -/
def swapR (a b : Nat) : Rex → Rex
  | .mk k s ks => .mk k (if k = 1 then spansL (swapB (bitsL s) a b) else []) (ks.map (swapR a b))
theorem swapR_eq (a b : Nat) (r : Rex) : swapR a b r = .mk r.kind (if r.kind = 1 then spansL (swapB (bitsL r.set) a b) else []) (r.kids.map (swapR a b)) := by cases r; rw [swapR]; rfl
theorem bd_swap (a b : Nat) (r : Rex) : bd (swapR a b r) + 1 ≤ 257 * ps r := by
  induction r using Rex.ind' with
  | h r ih =>
    rw [swapR_eq, bd_eq, ps_eq r]
    show (if r.kind = 1 then spansL (swapB (bitsL r.set) a b) else []).length + ((r.kids.map (swapR a b)).length + ((r.kids.map (swapR a b)).map bd).sum) + 1 ≤ _
    have h1 : (if r.kind = 1 then spansL (swapB (bitsL r.set) a b) else []).length ≤ 256 := by
      split
      · exact spN_len _ 256
      · simp
    have h2 : (r.kids.map (swapR a b)).length + ((r.kids.map (swapR a b)).map bd).sum ≤ 257 * (r.kids.map ps).sum := by
      generalize r.kids = l at ih
      induction l with
      | nil => simp
      | cons x l ihl =>
        have h1 := ih x (List.mem_cons_self ..)
        have h2 := ihl (fun y hy => ih y (List.mem_cons_of_mem _ hy))
        simp only [List.map_cons, List.sum_cons, List.length_cons]
        omega
    omega
def swap1 (r : Rex) (a b : Nat) : List Span := if r.kind = 1 then spansL (swapB (bitsL r.set) a b) else []
/-- impl.swapped -/
theorem fits_swapped (r : Rex) (d : Nat) (hf : fm d r = true) (hb : bd r ≤ 1048576) (a b : Nat) (ha : a < 256) (hbb : b < 256) : Fits prog 69 [eRex false r, .int .i64 a, .int .i64 b] (eRex true (swapR a b r)) [] := by
  induction d generalizing r with
  | zero => simp [fm] at hf
  | succ d ih =>
    have hb' := bd_eq r
    have h4 := (fm_ok hf).2.2.2
    have cB := fits_bitsOf r.set (by omega)
    have hl := bitsL_len r.set
    have cS := fits_spans (swapB (bitsL r.set) a b) (by rw [swapB_len]; exact hl)
    have g5 : ((bitsL r.set).map eBool).length = 256 := by simp [hl]
    have ga := getBool (bitsL r.set) a (by omega)
    have gb := getBool (bitsL r.set) b (by omega)
    have gc := getBool ((bitsL r.set).set a ((bitsL r.set).getD b false)) b (by simp [hl]; omega)
    have hSl : (swap1 r a b).length ≤ 256 := by
      unfold swap1; split
      · exact spN_len _ 256
      · simp
    have hS : (r.kind = 1 → swap1 r a b = spansL (swapB (bitsL r.set) a b)) ∧ (r.kind ≠ 1 → swap1 r a b = []) := ⟨fun h => by simp [swap1, h], fun h => by simp [swap1, h]⟩
    rw [eRex_eq, swapR_eq, eRex]
    rw [show (if r.kind = 1 then spansL (swapB (bitsL r.set) a b) else []) = swap1 r a b from rfl]
    generalize swap1 r a b = S1 at *
    refine fits_of_cell 6 53 [] [0, 1, 2, 3, 6, 7, 8, 10, 16, 34, 35, 36, 37] func69 rfl rfl rfl (by show 6 < 51; decide) (by show 3 ≤ 51; decide) (by rfl) (by rfl) (by show 0 ≤ 3; decide) (by rfl) (run_of ?_)
    by_cases h1 : r.kind = 1
    · have hS := hS.1 h1
      rw [← hS] at cS
      unfold swapB at cS
      simp -implicitDefEqProofs (maxSteps := 100000) (disch := first | (intros; contradiction) | omega) only [am0, am1, am2, am3, am4, am5, am6, am7, am8, Nat.reduceSub, ↓reduceIte, reduceCtorEq, Nat.reduceEqDiff, Nat.reduceBEq, Nat.reduceAdd, Nat.reduceLT, ↓reduceIte, tis, h1]
      refine callB cB ?_
      simp -implicitDefEqProofs (maxSteps := 100000) (disch := first | (intros; contradiction) | omega) only [am0, am1, am2, am3, am4, am5, am6, am7, am8, Nat.reduceSub, ↓reduceIte, reduceCtorEq, Nat.reduceEqDiff, Nat.reduceBEq, Nat.reduceAdd, Nat.reduceLT, ↓reduceIte, tis, h1, fls, hl]
      refine .inr (run_late [[1], []] (by kernel_rfl) ?_)
      simp -implicitDefEqProofs (maxSteps := 100000) (disch := first | (intros; contradiction) | omega) only [am0, am1, am2, am3, am4, am5, am6, am7, am8, Nat.reduceSub, ↓reduceIte, reduceCtorEq, Nat.reduceEqDiff, Nat.reduceBEq, Nat.reduceAdd, Nat.reduceLT, ↓reduceIte, tis, h1, fls, g5, ga, gb, setBool, gc, List.length_map, List.length_set, hl]
      refine callB cS ?_
      simp -implicitDefEqProofs (maxSteps := 100000) (disch := first | (intros; contradiction) | omega) only [am0, am1, am2, am3, am4, am5, am6, am7, am8, Nat.reduceSub, ↓reduceIte, reduceCtorEq, Nat.reduceEqDiff, Nat.reduceBEq, Nat.reduceAdd, Nat.reduceLT, ↓reduceIte, tis, h1, fls]
      refine run_loop (α := Nat) (fun i => i ≤ r.kids.length) (fun i => [(1, .int .i64 a), (2, .int .i64 b), (6, .box (.agg [.int .i64 0, .sl true 0 [], .sl true 0 []])), (7, .box (.agg [.int .i64 r.kind, .sl true 2 (S1.map eSpan), .sl true 3 ((r.kids.take i).map (fun x => eRex true (swapR a b x)))])), (34, .sl false 3 (r.kids.map (eRex false))), (35, .int .i64 r.kids.length), (36, .int .i64 i)]) (fun i => r.kids.length - i) 0 (Nat.zero_le _) ?_ ?_
      · simp -implicitDefEqProofs (maxSteps := 100000) (disch := first | (intros; contradiction) | omega) only [am0, am1, am2, am3, am4, am5, am6, am7, am8, Nat.reduceSub, ↓reduceIte, reduceCtorEq, Nat.reduceEqDiff, Nat.reduceBEq, Nat.reduceAdd, Nat.reduceLT, ↓reduceIte, tis, h1, List.map_nil]
      · intro i hi'
        by_cases hi : i < r.kids.length
        · have hm := List.getElem_mem hi
          have cF := ih r.kids[i] (h4 _ hm) (Nat.le_trans (bd_kid hm) hb)
          rw [eRex_eq false r.kids[i], eRex_eq true (swapR a b r.kids[i])] at cF
          simp -implicitDefEqProofs (maxSteps := 100000) (disch := first | (intros; contradiction) | omega) only [am0, am1, am2, am3, am4, am5, am6, am7, am8, Nat.reduceSub, ↓reduceIte, reduceCtorEq, Nat.reduceEqDiff, Nat.reduceBEq, Nat.reduceAdd, Nat.reduceLT, ↓reduceIte, tis, rx, fls, eRex_eq false r.kids[i]]
          refine .inl ⟨by kernel_rfl, ?_⟩
          refine callL cF ?_
          have hlt : (r.kids.take i).length = i := by simp; omega
          simp -implicitDefEqProofs (maxSteps := 100000) (disch := first | (intros; contradiction) | omega) only [am0, am1, am2, am3, am4, am5, am6, am7, am8, Nat.reduceSub, ↓reduceIte, reduceCtorEq, Nat.reduceEqDiff, Nat.reduceBEq, Nat.reduceAdd, Nat.reduceLT, ↓reduceIte, tis, rx, fls, hlt]
          refine round_normal (i + 1) (by omega) ?_ (by show r.kids.length - (i + 1) < r.kids.length - i; omega)
          rw [List.take_succ_eq_append_getElem hi, List.map_append, List.map_cons, List.map_nil, eRex_eq true (swapR a b r.kids[i])]
          simp -implicitDefEqProofs (maxSteps := 100000) (disch := first | (intros; contradiction) | omega) only [am0, am1, am2, am3, am4, am5, am6, am7, am8, Nat.reduceSub, ↓reduceIte, reduceCtorEq, Nat.reduceEqDiff, Nat.reduceBEq, Nat.reduceAdd, Nat.reduceLT, ↓reduceIte, tis]
        · obtain rfl : i = r.kids.length := by omega
          have e : (r.kids.map (swapR a b)).map (eRex true) = r.kids.map (fun x => eRex true (swapR a b x)) := by rw [List.map_map]; rfl
          simp -implicitDefEqProofs (maxSteps := 100000) (disch := first | (intros; contradiction) | omega) only [am0, am1, am2, am3, am4, am5, am6, am7, am8, Nat.reduceSub, ↓reduceIte, reduceCtorEq, Nat.reduceEqDiff, Nat.reduceBEq, Nat.reduceAdd, Nat.reduceLT, ↓reduceIte, tis, h1, e, rx, fls]
    · have hS := hS.2 h1
      simp -implicitDefEqProofs (maxSteps := 100000) (disch := first | (intros; contradiction) | omega) only [am0, am1, am2, am3, am4, am5, am6, am7, am8, Nat.reduceSub, ↓reduceIte, reduceCtorEq, Nat.reduceEqDiff, Nat.reduceBEq, Nat.reduceAdd, Nat.reduceLT, ↓reduceIte, tis, h1]
      refine run_loop (α := Nat) (fun i => i ≤ r.kids.length) (fun i => [(1, .int .i64 a), (2, .int .i64 b), (6, .box (.agg [.int .i64 0, .sl true 0 [], .sl true 0 []])), (7, .box (.agg [.int .i64 r.kind, .sl true 2 (S1.map eSpan), .sl true 3 ((r.kids.take i).map (fun x => eRex true (swapR a b x)))])), (34, .sl false 3 (r.kids.map (eRex false))), (35, .int .i64 r.kids.length), (36, .int .i64 i)]) (fun i => r.kids.length - i) 0 (Nat.zero_le _) ?_ ?_
      · simp -implicitDefEqProofs (maxSteps := 100000) (disch := first | (intros; contradiction) | omega) only [am0, am1, am2, am3, am4, am5, am6, am7, am8, Nat.reduceSub, ↓reduceIte, reduceCtorEq, Nat.reduceEqDiff, Nat.reduceBEq, Nat.reduceAdd, Nat.reduceLT, ↓reduceIte, tis, h1, hS, List.map_nil]
      · intro i hi'
        by_cases hi : i < r.kids.length
        · have hm := List.getElem_mem hi
          have cF := ih r.kids[i] (h4 _ hm) (Nat.le_trans (bd_kid hm) hb)
          rw [eRex_eq false r.kids[i], eRex_eq true (swapR a b r.kids[i])] at cF
          simp -implicitDefEqProofs (maxSteps := 100000) (disch := first | (intros; contradiction) | omega) only [am0, am1, am2, am3, am4, am5, am6, am7, am8, Nat.reduceSub, ↓reduceIte, reduceCtorEq, Nat.reduceEqDiff, Nat.reduceBEq, Nat.reduceAdd, Nat.reduceLT, ↓reduceIte, tis, rx, fls, eRex_eq false r.kids[i]]
          refine .inl ⟨by kernel_rfl, ?_⟩
          refine callL cF ?_
          have hlt : (r.kids.take i).length = i := by simp; omega
          simp -implicitDefEqProofs (maxSteps := 100000) (disch := first | (intros; contradiction) | omega) only [am0, am1, am2, am3, am4, am5, am6, am7, am8, Nat.reduceSub, ↓reduceIte, reduceCtorEq, Nat.reduceEqDiff, Nat.reduceBEq, Nat.reduceAdd, Nat.reduceLT, ↓reduceIte, tis, rx, fls, hlt]
          refine round_normal (i + 1) (by omega) ?_ (by show r.kids.length - (i + 1) < r.kids.length - i; omega)
          rw [List.take_succ_eq_append_getElem hi, List.map_append, List.map_cons, List.map_nil, eRex_eq true (swapR a b r.kids[i])]
          simp -implicitDefEqProofs (maxSteps := 100000) (disch := first | (intros; contradiction) | omega) only [am0, am1, am2, am3, am4, am5, am6, am7, am8, Nat.reduceSub, ↓reduceIte, reduceCtorEq, Nat.reduceEqDiff, Nat.reduceBEq, Nat.reduceAdd, Nat.reduceLT, ↓reduceIte, tis]
        · obtain rfl : i = r.kids.length := by omega
          have e : (r.kids.map (swapR a b)).map (eRex true) = r.kids.map (fun x => eRex true (swapR a b x)) := by rw [List.map_map]; rfl
          simp -implicitDefEqProofs (maxSteps := 100000) (disch := first | (intros; contradiction) | omega) only [am0, am1, am2, am3, am4, am5, am6, am7, am8, Nat.reduceSub, ↓reduceIte, reduceCtorEq, Nat.reduceEqDiff, Nat.reduceBEq, Nat.reduceAdd, Nat.reduceLT, ↓reduceIte, tis, h1, e, rx, fls]
/-- spec.l13Swap -/
theorem fits_l13Swap (r : Rex) (d : Nat) (hf : fm d r = true) (hb : bd r ≤ 1048576) (a b : Nat) (ha : a < 256) (hbb : b < 256) : Fits prog 68 [eRex false r, .int .i64 a, .int .i64 b] (eRex true (swapR a b r)) [] := by
  induction d generalizing r with
  | zero => simp [fm] at hf
  | succ d ih =>
    have hb' := bd_eq r
    have h4 := (fm_ok hf).2.2.2
    have cS := fits_l13Set r.set a b ha hbb (by omega)
    have hSl : (swap1 r a b).length ≤ 256 := by
      unfold swap1; split
      · exact spN_len _ 256
      · simp
    have hS : (r.kind = 1 → swap1 r a b = spansL (swapB (bitsL r.set) a b)) ∧ (r.kind ≠ 1 → swap1 r a b = []) := ⟨fun h => by simp [swap1, h], fun h => by simp [swap1, h]⟩
    rw [eRex_eq, swapR_eq, eRex]
    rw [show (if r.kind = 1 then spansL (swapB (bitsL r.set) a b) else []) = swap1 r a b from rfl]
    generalize swap1 r a b = S1 at *
    refine fits_of_cell 6 53 [] [0, 1, 2, 3, 6, 7, 8, 14, 25] func68 rfl rfl rfl (by show 6 < 42; decide) (by show 3 ≤ 42; decide) (by rfl) (by rfl) (by show 0 ≤ 3; decide) (by rfl) (run_of ?_)
    by_cases h1 : r.kind = 1
    · have hS := hS.1 h1
      rw [← hS] at cS
      simp -implicitDefEqProofs (maxSteps := 100000) (disch := first | (intros; contradiction) | omega) only [am0, am1, am2, am3, am4, am5, am6, am7, am8, Nat.reduceSub, ↓reduceIte, reduceCtorEq, Nat.reduceEqDiff, Nat.reduceBEq, Nat.reduceAdd, Nat.reduceLT, ↓reduceIte, tis, h1]
      refine callB cS ?_
      simp -implicitDefEqProofs (maxSteps := 100000) (disch := first | (intros; contradiction) | omega) only [am0, am1, am2, am3, am4, am5, am6, am7, am8, Nat.reduceSub, ↓reduceIte, reduceCtorEq, Nat.reduceEqDiff, Nat.reduceBEq, Nat.reduceAdd, Nat.reduceLT, ↓reduceIte, tis, h1, fls]
      refine run_loop (α := Nat) (fun i => i ≤ r.kids.length) (fun i => [(1, .int .i64 a), (2, .int .i64 b), (3, .box (.agg [.int .i64 r.kind, .sl false 2 (r.set.map eSpan), .sl false 3 (r.kids.map (eRex false))])), (6, .box (.agg [.int .i64 0, .sl true 0 [], .sl true 0 []])), (7, .box (.agg [.int .i64 r.kind, .sl true 2 (S1.map eSpan), .sl true 3 ((r.kids.take i).map (fun x => eRex true (swapR a b x)))])), (8, .int .i64 i)]) (fun i => r.kids.length - i) 0 (Nat.zero_le _) ?_ ?_
      · simp -implicitDefEqProofs (maxSteps := 100000) (disch := first | (intros; contradiction) | omega) only [am0, am1, am2, am3, am4, am5, am6, am7, am8, Nat.reduceSub, ↓reduceIte, reduceCtorEq, Nat.reduceEqDiff, Nat.reduceBEq, Nat.reduceAdd, Nat.reduceLT, ↓reduceIte, tis, h1, List.map_nil]
      · intro i hi'
        by_cases hi : i < r.kids.length
        · have hm := List.getElem_mem hi
          have cF := ih r.kids[i] (h4 _ hm) (Nat.le_trans (bd_kid hm) hb)
          rw [eRex_eq false r.kids[i], eRex_eq true (swapR a b r.kids[i])] at cF
          simp -implicitDefEqProofs (maxSteps := 100000) (disch := first | (intros; contradiction) | omega) only [am0, am1, am2, am3, am4, am5, am6, am7, am8, Nat.reduceSub, ↓reduceIte, reduceCtorEq, Nat.reduceEqDiff, Nat.reduceBEq, Nat.reduceAdd, Nat.reduceLT, ↓reduceIte, tis, rx, fls, eRex_eq false r.kids[i]]
          refine .inl ⟨by kernel_rfl, ?_⟩
          refine callL cF ?_
          have hlt : (r.kids.take i).length = i := by simp; omega
          simp -implicitDefEqProofs (maxSteps := 100000) (disch := first | (intros; contradiction) | omega) only [am0, am1, am2, am3, am4, am5, am6, am7, am8, Nat.reduceSub, ↓reduceIte, reduceCtorEq, Nat.reduceEqDiff, Nat.reduceBEq, Nat.reduceAdd, Nat.reduceLT, ↓reduceIte, tis, rx, fls, hlt]
          refine round_normal (i + 1) (by omega) ?_ (by show r.kids.length - (i + 1) < r.kids.length - i; omega)
          rw [List.take_succ_eq_append_getElem hi, List.map_append, List.map_cons, List.map_nil, eRex_eq true (swapR a b r.kids[i])]
          simp -implicitDefEqProofs (maxSteps := 100000) (disch := first | (intros; contradiction) | omega) only [am0, am1, am2, am3, am4, am5, am6, am7, am8, Nat.reduceSub, ↓reduceIte, reduceCtorEq, Nat.reduceEqDiff, Nat.reduceBEq, Nat.reduceAdd, Nat.reduceLT, ↓reduceIte, tis]
        · obtain rfl : i = r.kids.length := by omega
          have e : (r.kids.map (swapR a b)).map (eRex true) = r.kids.map (fun x => eRex true (swapR a b x)) := by rw [List.map_map]; rfl
          simp -implicitDefEqProofs (maxSteps := 100000) (disch := first | (intros; contradiction) | omega) only [am0, am1, am2, am3, am4, am5, am6, am7, am8, Nat.reduceSub, ↓reduceIte, reduceCtorEq, Nat.reduceEqDiff, Nat.reduceBEq, Nat.reduceAdd, Nat.reduceLT, ↓reduceIte, tis, h1, e, rx, fls]
    · have hS := hS.2 h1
      simp -implicitDefEqProofs (maxSteps := 100000) (disch := first | (intros; contradiction) | omega) only [am0, am1, am2, am3, am4, am5, am6, am7, am8, Nat.reduceSub, ↓reduceIte, reduceCtorEq, Nat.reduceEqDiff, Nat.reduceBEq, Nat.reduceAdd, Nat.reduceLT, ↓reduceIte, tis, h1]
      refine run_loop (α := Nat) (fun i => i ≤ r.kids.length) (fun i => [(1, .int .i64 a), (2, .int .i64 b), (3, .box (.agg [.int .i64 r.kind, .sl false 2 (r.set.map eSpan), .sl false 3 (r.kids.map (eRex false))])), (6, .box (.agg [.int .i64 0, .sl true 0 [], .sl true 0 []])), (7, .box (.agg [.int .i64 r.kind, .sl true 2 (S1.map eSpan), .sl true 3 ((r.kids.take i).map (fun x => eRex true (swapR a b x)))])), (8, .int .i64 i)]) (fun i => r.kids.length - i) 0 (Nat.zero_le _) ?_ ?_
      · simp -implicitDefEqProofs (maxSteps := 100000) (disch := first | (intros; contradiction) | omega) only [am0, am1, am2, am3, am4, am5, am6, am7, am8, Nat.reduceSub, ↓reduceIte, reduceCtorEq, Nat.reduceEqDiff, Nat.reduceBEq, Nat.reduceAdd, Nat.reduceLT, ↓reduceIte, tis, h1, hS, List.map_nil]
      · intro i hi'
        by_cases hi : i < r.kids.length
        · have hm := List.getElem_mem hi
          have cF := ih r.kids[i] (h4 _ hm) (Nat.le_trans (bd_kid hm) hb)
          rw [eRex_eq false r.kids[i], eRex_eq true (swapR a b r.kids[i])] at cF
          simp -implicitDefEqProofs (maxSteps := 100000) (disch := first | (intros; contradiction) | omega) only [am0, am1, am2, am3, am4, am5, am6, am7, am8, Nat.reduceSub, ↓reduceIte, reduceCtorEq, Nat.reduceEqDiff, Nat.reduceBEq, Nat.reduceAdd, Nat.reduceLT, ↓reduceIte, tis, rx, fls, eRex_eq false r.kids[i]]
          refine .inl ⟨by kernel_rfl, ?_⟩
          refine callL cF ?_
          have hlt : (r.kids.take i).length = i := by simp; omega
          simp -implicitDefEqProofs (maxSteps := 100000) (disch := first | (intros; contradiction) | omega) only [am0, am1, am2, am3, am4, am5, am6, am7, am8, Nat.reduceSub, ↓reduceIte, reduceCtorEq, Nat.reduceEqDiff, Nat.reduceBEq, Nat.reduceAdd, Nat.reduceLT, ↓reduceIte, tis, rx, fls, hlt]
          refine round_normal (i + 1) (by omega) ?_ (by show r.kids.length - (i + 1) < r.kids.length - i; omega)
          rw [List.take_succ_eq_append_getElem hi, List.map_append, List.map_cons, List.map_nil, eRex_eq true (swapR a b r.kids[i])]
          simp -implicitDefEqProofs (maxSteps := 100000) (disch := first | (intros; contradiction) | omega) only [am0, am1, am2, am3, am4, am5, am6, am7, am8, Nat.reduceSub, ↓reduceIte, reduceCtorEq, Nat.reduceEqDiff, Nat.reduceBEq, Nat.reduceAdd, Nat.reduceLT, ↓reduceIte, tis]
        · obtain rfl : i = r.kids.length := by omega
          have e : (r.kids.map (swapR a b)).map (eRex true) = r.kids.map (fun x => eRex true (swapR a b x)) := by rw [List.map_map]; rfl
          simp -implicitDefEqProofs (maxSteps := 100000) (disch := first | (intros; contradiction) | omega) only [am0, am1, am2, am3, am4, am5, am6, am7, am8, Nat.reduceSub, ↓reduceIte, reduceCtorEq, Nat.reduceEqDiff, Nat.reduceBEq, Nat.reduceAdd, Nat.reduceLT, ↓reduceIte, tis, h1, e, rx, fls]
def swapP (r : Rex) (a b : Int) : Rex := if rexB r = true ∧ (0 ≤ a ∧ a ≤ 255) ∧ (0 ≤ b ∧ b ≤ 255) then swapR a.toNat b.toNat r else zRex
/-- impl.TurnSwap -/
theorem fits_turnSwap (r : Rex) (hb : bd r ≤ 1048576) (a b : Int) : Fits prog 34 [eRex false r, .int .i64 a, .int .i64 b] (eRex true (swapP r a b)) [] := by
  have cO := fits_rexOk r hb
  have cA := fits_in a 0 255
  have cB := fits_in b 0 255
  by_cases hg : rexB r = true ∧ (0 ≤ a ∧ a ≤ 255) ∧ (0 ≤ b ∧ b ≤ 255)
  · obtain ⟨h, ha, hbb⟩ := id hg
    have e : swapP r a b = swapR a.toNat b.toNat r := by simp only [swapP, if_pos hg]
    obtain ⟨a, rfl⟩ : ∃ n : Nat, a = n := ⟨a.toNat, by omega⟩
    obtain ⟨b, rfl⟩ : ∃ n : Nat, b = n := ⟨b.toNat, by omega⟩
    rw [h] at cO
    rw [decide_eq_true ha] at cA
    rw [decide_eq_true hbb] at cB
    rw [e, show Int.toNat (a : Int) = a from rfl, show Int.toNat (b : Int) = b from rfl]
    have hps : ps r ≤ 24 := by simp only [rexB, Bool.and_eq_true, decide_eq_true_eq] at h; exact h.2
    have hbs := bd_swap a b r
    have cT := fits_swapped r 8 (rexB_fm h) hb a b (by omega) (by omega)
    have cC := fits_rexCopy (swapR a b r) (by omega)
    simp only [eRex_eq] at *
    refine fits_of_cell 6 53 [] [0, 1, 2, 3, 6, 19] func34 rfl rfl rfl (by show 6 < 26; decide) (by show 3 ≤ 26; decide) (by rfl) (by rfl) (by show 0 ≤ 3; decide) (by rfl) (run_of ?_)
    simp -implicitDefEqProofs (maxSteps := 100000) (disch := first | (intros; contradiction) | omega) only [am0, am1, am2, am3, am4, am5, am6, am7, am8, Nat.reduceSub, ↓reduceIte, reduceCtorEq, Nat.reduceEqDiff, Nat.reduceBEq, Nat.reduceAdd, Nat.reduceLT, ↓reduceIte, tis, fls, rx]
    refine callB cO ?_
    simp -implicitDefEqProofs (maxSteps := 100000) (disch := first | (intros; contradiction) | omega) only [am0, am1, am2, am3, am4, am5, am6, am7, am8, Nat.reduceSub, ↓reduceIte, reduceCtorEq, Nat.reduceEqDiff, Nat.reduceBEq, Nat.reduceAdd, Nat.reduceLT, ↓reduceIte, tis, fls, rx]
    refine callB cA ?_
    simp -implicitDefEqProofs (maxSteps := 100000) (disch := first | (intros; contradiction) | omega) only [am0, am1, am2, am3, am4, am5, am6, am7, am8, Nat.reduceSub, ↓reduceIte, reduceCtorEq, Nat.reduceEqDiff, Nat.reduceBEq, Nat.reduceAdd, Nat.reduceLT, ↓reduceIte, tis, fls, rx]
    refine callB cB ?_
    simp -implicitDefEqProofs (maxSteps := 100000) (disch := first | (intros; contradiction) | omega) only [am0, am1, am2, am3, am4, am5, am6, am7, am8, Nat.reduceSub, ↓reduceIte, reduceCtorEq, Nat.reduceEqDiff, Nat.reduceBEq, Nat.reduceAdd, Nat.reduceLT, ↓reduceIte, tis, fls, rx]
    refine callB cT ?_
    simp -implicitDefEqProofs (maxSteps := 100000) (disch := first | (intros; contradiction) | omega) only [am0, am1, am2, am3, am4, am5, am6, am7, am8, Nat.reduceSub, ↓reduceIte, reduceCtorEq, Nat.reduceEqDiff, Nat.reduceBEq, Nat.reduceAdd, Nat.reduceLT, ↓reduceIte, tis, fls, rx]
    refine callB cC ?_
    simp -implicitDefEqProofs (maxSteps := 100000) (disch := first | (intros; contradiction) | omega) only [am0, am1, am2, am3, am4, am5, am6, am7, am8, Nat.reduceSub, ↓reduceIte, reduceCtorEq, Nat.reduceEqDiff, Nat.reduceBEq, Nat.reduceAdd, Nat.reduceLT, ↓reduceIte, tis, fls, rx]
  · have e : swapP r a b = zRex := by simp only [swapP, if_neg hg]
    rw [e, eRex_eq, eRex_eq] at *
    cases h : rexB r with
    | false =>
      rw [h] at cO
      refine fits_of_cell 6 53 [] [0, 1, 2, 3, 6, 19] func34 rfl rfl rfl (by show 6 < 26; decide) (by show 3 ≤ 26; decide) (by rfl) (by rfl) (by show 0 ≤ 3; decide) (by rfl) (run_of ?_)
      simp -implicitDefEqProofs (maxSteps := 100000) (disch := first | (intros; contradiction) | omega) only [am0, am1, am2, am3, am4, am5, am6, am7, am8, Nat.reduceSub, ↓reduceIte, reduceCtorEq, Nat.reduceEqDiff, Nat.reduceBEq, Nat.reduceAdd, Nat.reduceLT, ↓reduceIte, tis]
      refine callB cO ?_
      simp -implicitDefEqProofs (maxSteps := 100000) (disch := first | (intros; contradiction) | omega) only [am0, am1, am2, am3, am4, am5, am6, am7, am8, Nat.reduceSub, ↓reduceIte, reduceCtorEq, Nat.reduceEqDiff, Nat.reduceBEq, Nat.reduceAdd, Nat.reduceLT, ↓reduceIte, tis, zRex, Rex.kind, Rex.set, Rex.kids, List.map_nil]
    | true =>
      rw [h] at cO
      by_cases ha : 0 ≤ a ∧ a ≤ 255
      · by_cases hbb : 0 ≤ b ∧ b ≤ 255
        · exact absurd ⟨h, ha, hbb⟩ hg
        · rw [decide_eq_true ha] at cA
          rw [decide_eq_false hbb] at cB
          refine fits_of_cell 6 53 [] [0, 1, 2, 3, 6, 19] func34 rfl rfl rfl (by show 6 < 26; decide) (by show 3 ≤ 26; decide) (by rfl) (by rfl) (by show 0 ≤ 3; decide) (by rfl) (run_of ?_)
          simp -implicitDefEqProofs (maxSteps := 100000) (disch := first | (intros; contradiction) | omega) only [am0, am1, am2, am3, am4, am5, am6, am7, am8, Nat.reduceSub, ↓reduceIte, reduceCtorEq, Nat.reduceEqDiff, Nat.reduceBEq, Nat.reduceAdd, Nat.reduceLT, ↓reduceIte, tis]
          refine callB cO ?_
          simp -implicitDefEqProofs (maxSteps := 100000) (disch := first | (intros; contradiction) | omega) only [am0, am1, am2, am3, am4, am5, am6, am7, am8, Nat.reduceSub, ↓reduceIte, reduceCtorEq, Nat.reduceEqDiff, Nat.reduceBEq, Nat.reduceAdd, Nat.reduceLT, ↓reduceIte, tis]
          refine callB cA ?_
          simp -implicitDefEqProofs (maxSteps := 100000) (disch := first | (intros; contradiction) | omega) only [am0, am1, am2, am3, am4, am5, am6, am7, am8, Nat.reduceSub, ↓reduceIte, reduceCtorEq, Nat.reduceEqDiff, Nat.reduceBEq, Nat.reduceAdd, Nat.reduceLT, ↓reduceIte, tis]
          refine callB cB ?_
          simp -implicitDefEqProofs (maxSteps := 100000) (disch := first | (intros; contradiction) | omega) only [am0, am1, am2, am3, am4, am5, am6, am7, am8, Nat.reduceSub, ↓reduceIte, reduceCtorEq, Nat.reduceEqDiff, Nat.reduceBEq, Nat.reduceAdd, Nat.reduceLT, ↓reduceIte, tis, zRex, Rex.kind, Rex.set, Rex.kids, List.map_nil]
      · rw [decide_eq_false ha] at cA
        refine fits_of_cell 6 53 [] [0, 1, 2, 3, 6, 19] func34 rfl rfl rfl (by show 6 < 26; decide) (by show 3 ≤ 26; decide) (by rfl) (by rfl) (by show 0 ≤ 3; decide) (by rfl) (run_of ?_)
        simp -implicitDefEqProofs (maxSteps := 100000) (disch := first | (intros; contradiction) | omega) only [am0, am1, am2, am3, am4, am5, am6, am7, am8, Nat.reduceSub, ↓reduceIte, reduceCtorEq, Nat.reduceEqDiff, Nat.reduceBEq, Nat.reduceAdd, Nat.reduceLT, ↓reduceIte, tis]
        refine callB cO ?_
        simp -implicitDefEqProofs (maxSteps := 100000) (disch := first | (intros; contradiction) | omega) only [am0, am1, am2, am3, am4, am5, am6, am7, am8, Nat.reduceSub, ↓reduceIte, reduceCtorEq, Nat.reduceEqDiff, Nat.reduceBEq, Nat.reduceAdd, Nat.reduceLT, ↓reduceIte, tis]
        refine callB cA ?_
        simp -implicitDefEqProofs (maxSteps := 100000) (disch := first | (intros; contradiction) | omega) only [am0, am1, am2, am3, am4, am5, am6, am7, am8, Nat.reduceSub, ↓reduceIte, reduceCtorEq, Nat.reduceEqDiff, Nat.reduceBEq, Nat.reduceAdd, Nat.reduceLT, ↓reduceIte, tis, zRex, Rex.kind, Rex.set, Rex.kids, List.map_nil]
/-- spec.TurnSwap -/
theorem fits_sTurnSwap (r : Rex) (hb : bd r ≤ 1048576) (a b : Int) : Fits prog 33 [eRex false r, .int .i64 a, .int .i64 b] (eRex true (swapP r a b)) [] := by
  have cO := fits_sRexOk r hb
  by_cases hg : rexB r = true ∧ (0 ≤ a ∧ a ≤ 255) ∧ (0 ≤ b ∧ b ≤ 255)
  · obtain ⟨h, ha, hbb⟩ := id hg
    have e : swapP r a b = swapR a.toNat b.toNat r := by simp only [swapP, if_pos hg]
    obtain ⟨a, rfl⟩ : ∃ n : Nat, a = n := ⟨a.toNat, by omega⟩
    obtain ⟨b, rfl⟩ : ∃ n : Nat, b = n := ⟨b.toNat, by omega⟩
    rw [h] at cO
    rw [e, show Int.toNat (a : Int) = a from rfl, show Int.toNat (b : Int) = b from rfl]
    have cT := fits_l13Swap r 8 (rexB_fm h) hb a b (by omega) (by omega)
    simp only [eRex_eq] at *
    refine fits_of_cell 6 53 [] [0, 1, 2, 3, 6, 25] func33 rfl rfl rfl (by show 6 < 31; decide) (by show 3 ≤ 31; decide) (by rfl) (by rfl) (by show 0 ≤ 3; decide) (by rfl) (run_of ?_)
    simp -implicitDefEqProofs (maxSteps := 100000) (disch := first | (intros; contradiction) | omega) only [am0, am1, am2, am3, am4, am5, am6, am7, am8, Nat.reduceSub, ↓reduceIte, reduceCtorEq, Nat.reduceEqDiff, Nat.reduceBEq, Nat.reduceAdd, Nat.reduceLT, ↓reduceIte, tis, fls, rx]
    refine callB cO ?_
    simp -implicitDefEqProofs (maxSteps := 100000) (disch := first | (intros; contradiction) | omega) only [am0, am1, am2, am3, am4, am5, am6, am7, am8, Nat.reduceSub, ↓reduceIte, reduceCtorEq, Nat.reduceEqDiff, Nat.reduceBEq, Nat.reduceAdd, Nat.reduceLT, ↓reduceIte, tis, fls, rx]
    refine callB cT ?_
    simp -implicitDefEqProofs (maxSteps := 100000) (disch := first | (intros; contradiction) | omega) only [am0, am1, am2, am3, am4, am5, am6, am7, am8, Nat.reduceSub, ↓reduceIte, reduceCtorEq, Nat.reduceEqDiff, Nat.reduceBEq, Nat.reduceAdd, Nat.reduceLT, ↓reduceIte, tis, fls, rx]
  · have e : swapP r a b = zRex := by simp only [swapP, if_neg hg]
    rw [e, eRex_eq, eRex_eq] at *
    cases h : rexB r with
    | false =>
      rw [h] at cO
      refine fits_of_cell 6 53 [] [0, 1, 2, 3, 6, 25] func33 rfl rfl rfl (by show 6 < 31; decide) (by show 3 ≤ 31; decide) (by rfl) (by rfl) (by show 0 ≤ 3; decide) (by rfl) (run_of ?_)
      simp -implicitDefEqProofs (maxSteps := 100000) (disch := first | (intros; contradiction) | omega) only [am0, am1, am2, am3, am4, am5, am6, am7, am8, Nat.reduceSub, ↓reduceIte, reduceCtorEq, Nat.reduceEqDiff, Nat.reduceBEq, Nat.reduceAdd, Nat.reduceLT, ↓reduceIte, tis]
      refine callB cO ?_
      simp -implicitDefEqProofs (maxSteps := 100000) (disch := first | (intros; contradiction) | omega) only [am0, am1, am2, am3, am4, am5, am6, am7, am8, Nat.reduceSub, ↓reduceIte, reduceCtorEq, Nat.reduceEqDiff, Nat.reduceBEq, Nat.reduceAdd, Nat.reduceLT, ↓reduceIte, tis, zRex, Rex.kind, Rex.set, Rex.kids, List.map_nil]
    | true =>
      rw [h] at cO
      have hg : ¬ ((0 ≤ a ∧ a ≤ 255) ∧ (0 ≤ b ∧ b ≤ 255)) := fun hh => hg ⟨h, hh⟩
      by_cases a1 : a < 0
      · refine fits_of_cell 6 53 [] [0, 1, 2, 3, 6, 25] func33 rfl rfl rfl (by show 6 < 31; decide) (by show 3 ≤ 31; decide) (by rfl) (by rfl) (by show 0 ≤ 3; decide) (by rfl) (run_of ?_)
        simp -implicitDefEqProofs (maxSteps := 100000) (disch := first | (intros; contradiction) | omega) only [am0, am1, am2, am3, am4, am5, am6, am7, am8, Nat.reduceSub, ↓reduceIte, reduceCtorEq, Nat.reduceEqDiff, Nat.reduceBEq, Nat.reduceAdd, Nat.reduceLT, ↓reduceIte, tis]
        refine callB cO ?_
        simp -implicitDefEqProofs (maxSteps := 100000) (disch := first | (intros; contradiction) | omega) only [am0, am1, am2, am3, am4, am5, am6, am7, am8, Nat.reduceSub, ↓reduceIte, reduceCtorEq, Nat.reduceEqDiff, Nat.reduceBEq, Nat.reduceAdd, Nat.reduceLT, ↓reduceIte, tis, zRex, Rex.kind, Rex.set, Rex.kids, List.map_nil]
      by_cases a2 : 255 < a
      · refine fits_of_cell 6 53 [] [0, 1, 2, 3, 6, 25] func33 rfl rfl rfl (by show 6 < 31; decide) (by show 3 ≤ 31; decide) (by rfl) (by rfl) (by show 0 ≤ 3; decide) (by rfl) (run_of ?_)
        simp -implicitDefEqProofs (maxSteps := 100000) (disch := first | (intros; contradiction) | omega) only [am0, am1, am2, am3, am4, am5, am6, am7, am8, Nat.reduceSub, ↓reduceIte, reduceCtorEq, Nat.reduceEqDiff, Nat.reduceBEq, Nat.reduceAdd, Nat.reduceLT, ↓reduceIte, tis]
        refine callB cO ?_
        simp -implicitDefEqProofs (maxSteps := 100000) (disch := first | (intros; contradiction) | omega) only [am0, am1, am2, am3, am4, am5, am6, am7, am8, Nat.reduceSub, ↓reduceIte, reduceCtorEq, Nat.reduceEqDiff, Nat.reduceBEq, Nat.reduceAdd, Nat.reduceLT, ↓reduceIte, tis, zRex, Rex.kind, Rex.set, Rex.kids, List.map_nil]
      by_cases a3 : b < 0
      · refine fits_of_cell 6 53 [] [0, 1, 2, 3, 6, 25] func33 rfl rfl rfl (by show 6 < 31; decide) (by show 3 ≤ 31; decide) (by rfl) (by rfl) (by show 0 ≤ 3; decide) (by rfl) (run_of ?_)
        simp -implicitDefEqProofs (maxSteps := 100000) (disch := first | (intros; contradiction) | omega) only [am0, am1, am2, am3, am4, am5, am6, am7, am8, Nat.reduceSub, ↓reduceIte, reduceCtorEq, Nat.reduceEqDiff, Nat.reduceBEq, Nat.reduceAdd, Nat.reduceLT, ↓reduceIte, tis]
        refine callB cO ?_
        simp -implicitDefEqProofs (maxSteps := 100000) (disch := first | (intros; contradiction) | omega) only [am0, am1, am2, am3, am4, am5, am6, am7, am8, Nat.reduceSub, ↓reduceIte, reduceCtorEq, Nat.reduceEqDiff, Nat.reduceBEq, Nat.reduceAdd, Nat.reduceLT, ↓reduceIte, tis, zRex, Rex.kind, Rex.set, Rex.kids, List.map_nil]
      have a4 : 255 < b := by omega
      refine fits_of_cell 6 53 [] [0, 1, 2, 3, 6, 25] func33 rfl rfl rfl (by show 6 < 31; decide) (by show 3 ≤ 31; decide) (by rfl) (by rfl) (by show 0 ≤ 3; decide) (by rfl) (run_of ?_)
      simp -implicitDefEqProofs (maxSteps := 100000) (disch := first | (intros; contradiction) | omega) only [am0, am1, am2, am3, am4, am5, am6, am7, am8, Nat.reduceSub, ↓reduceIte, reduceCtorEq, Nat.reduceEqDiff, Nat.reduceBEq, Nat.reduceAdd, Nat.reduceLT, ↓reduceIte, tis]
      refine callB cO ?_
      simp -implicitDefEqProofs (maxSteps := 100000) (disch := first | (intros; contradiction) | omega) only [am0, am1, am2, am3, am4, am5, am6, am7, am8, Nat.reduceSub, ↓reduceIte, reduceCtorEq, Nat.reduceEqDiff, Nat.reduceBEq, Nat.reduceAdd, Nat.reduceLT, ↓reduceIte, tis, zRex, Rex.kind, Rex.set, Rex.kids, List.map_nil]
section
variable {h h' : Array Obj} {S : Nat → Prop}
theorem rl_int {k : IntKind} {n : Int} {xs : List AV} {cs : List Value} {O : Nat → Prop} : RepL h S (.int k n :: xs) cs O ↔ ∃ c2, cs = .int k n :: c2 ∧ RepL h S xs c2 O := by
  simp only [RepL, RepC]
  constructor
  · rintro ⟨c1, c2, O1, O2, rfl, h2, h3, ⟨rfl, h4⟩, h5⟩
    exact ⟨c2, rfl, repL_cong _ h5 (fun k => by rw [h2 k]; exact ⟨fun h => h.resolve_left (h4 k), .inr⟩)⟩
  · rintro ⟨c2, rfl, h5⟩
    exact ⟨[_], c2, fun _ => False, O, rfl, by simp, by simp, ⟨rfl, emp_false⟩, h5⟩
theorem rl_bool {b : Bool} {xs : List AV} {cs : List Value} {O : Nat → Prop} : RepL h S (.bool b :: xs) cs O ↔ ∃ c2, cs = .bool b :: c2 ∧ RepL h S xs c2 O := by
  simp only [RepL, RepC]
  constructor
  · rintro ⟨c1, c2, O1, O2, rfl, h2, h3, ⟨rfl, h4⟩, h5⟩
    exact ⟨c2, rfl, repL_cong _ h5 (fun k => by rw [h2 k]; exact ⟨fun h => h.resolve_left (h4 k), .inr⟩)⟩
  · rintro ⟨c2, rfl, h5⟩
    exact ⟨[_], c2, fun _ => False, O, rfl, by simp, by simp, ⟨rfl, emp_false⟩, h5⟩
theorem rl_str {s : List UInt8} {xs : List AV} {cs : List Value} {O : Nat → Prop} : RepL h S (.str s :: xs) cs O ↔ ∃ c2, cs = .string ⟨s.toArray⟩ :: c2 ∧ RepL h S xs c2 O := by
  simp only [RepL, RepC]
  constructor
  · rintro ⟨c1, c2, O1, O2, rfl, h2, h3, ⟨rfl, h4⟩, h5⟩
    exact ⟨c2, rfl, repL_cong _ h5 (fun k => by rw [h2 k]; exact ⟨fun h => h.resolve_left (h4 k), .inr⟩)⟩
  · rintro ⟨c2, rfl, h5⟩
    exact ⟨[_], c2, fun _ => False, O, rfl, by simp, by simp, ⟨rfl, emp_false⟩, h5⟩
theorem rl_sl {o : Bool} {z : Nat} {l xs : List AV} {cs : List Value} {O : Nat → Prop} : RepL h S (.sl o z l :: xs) cs O ↔ ∃ v c2 O1 O2, cs = v :: c2 ∧ (∀ k, O k ↔ O1 k ∨ O2 k) ∧ (∀ k, O1 k → ¬ O2 k) ∧ RepC h S (.sl o z l) [v] O1 ∧ RepL h S xs c2 O2 := by
  constructor
  · intro r
    simp only [RepL] at r
    obtain ⟨c1, c2, O1, O2, rfl, h2, h3, h4, h5⟩ := r
    have hl := repC_len _ h4
    obtain ⟨v, rfl⟩ := List.length_eq_one_iff.1 (by simpa [ncells] using hl)
    exact ⟨v, c2, O1, O2, rfl, h2, h3, h4, h5⟩
  · rintro ⟨v, c2, O1, O2, rfl, h2, h3, h4, h5⟩
    simp only [RepL]
    exact ⟨[v], c2, O1, O2, rfl, h2, h3, h4, h5⟩
theorem rl_nil {cs : List Value} {O : Nat → Prop} : RepL h S [] cs O ↔ cs = [] ∧ Emp O := by simp only [RepL]
end
/-- laws.eqRexS, of equals -/
theorem fits_eqRexS_of (p : List Rex) (hp : p.length ≤ 1048576) (H : ∀ x ∈ p, Fits prog 30 [eRex false x, eRex false x] (.bool true) []) : Fits prog 63 [.sl false 3 (p.map (eRex false)), .sl false 3 (p.map (eRex false))] (.bool true) [] := by
  refine fits_of_code [4] [] [0, 1, 4, 5, 10, 14, 26] func63 rfl rfl rfl (by rfl) (by show 2 ≤ 27; decide) (by rfl) (by rfl) (by show 0 ≤ 2; decide) (by rfl) (run_of ?_)
  simp -implicitDefEqProofs (maxSteps := 100000) (disch := first | (intros; contradiction) | omega) only [am0, am1, am2, am3, am4, am5, am6, am7, am8, Nat.reduceSub, ↓reduceIte, reduceCtorEq, Nat.reduceEqDiff, Nat.reduceBEq, Nat.reduceAdd, Nat.reduceLT, ↓reduceIte, tis]
  refine run_loop (α := Nat) (fun i => i ≤ p.length) (fun i => [(0, .sl false 3 (p.map (eRex false))), (1, .sl false 3 (p.map (eRex false))), (5, .int .i64 i)]) (fun i => p.length - i) 0 (Nat.zero_le _) ?_ ?_
  · simp -implicitDefEqProofs (maxSteps := 100000) (disch := first | (intros; contradiction) | omega) only [am0, am1, am2, am3, am4, am5, am6, am7, am8, Nat.reduceSub, ↓reduceIte, reduceCtorEq, Nat.reduceEqDiff, Nat.reduceBEq, Nat.reduceAdd, Nat.reduceLT, ↓reduceIte, tis]
  · intro i hi'
    by_cases hi : i < p.length
    · simp -implicitDefEqProofs (maxSteps := 100000) (disch := first | (intros; contradiction) | omega) only [am0, am1, am2, am3, am4, am5, am6, am7, am8, Nat.reduceSub, ↓reduceIte, reduceCtorEq, Nat.reduceEqDiff, Nat.reduceBEq, Nat.reduceAdd, Nat.reduceLT, ↓reduceIte, tis, rx, eRex_eq]
      refine .inl ⟨by kernel_rfl, ?_⟩
      refine callL (H p[i] (List.getElem_mem hi)) ?_
      simp -implicitDefEqProofs (maxSteps := 100000) (disch := first | (intros; contradiction) | omega) only [am0, am1, am2, am3, am4, am5, am6, am7, am8, Nat.reduceSub, ↓reduceIte, reduceCtorEq, Nat.reduceEqDiff, Nat.reduceBEq, Nat.reduceAdd, Nat.reduceLT, ↓reduceIte, tis, rx, eRex_eq]
      refine round_normal (i + 1) (by omega) ?_ (by show p.length - (i + 1) < p.length - i; omega)
      simp -implicitDefEqProofs (maxSteps := 100000) (disch := first | (intros; contradiction) | omega) only [am0, am1, am2, am3, am4, am5, am6, am7, am8, Nat.reduceSub, ↓reduceIte, reduceCtorEq, Nat.reduceEqDiff, Nat.reduceBEq, Nat.reduceAdd, Nat.reduceLT, ↓reduceIte, tis]
    · obtain rfl : i = p.length := by omega
      simp -implicitDefEqProofs (maxSteps := 100000) (disch := first | (intros; contradiction) | omega) only [am0, am1, am2, am3, am4, am5, am6, am7, am8, Nat.reduceSub, ↓reduceIte, reduceCtorEq, Nat.reduceEqDiff, Nat.reduceBEq, Nat.reduceAdd, Nat.reduceLT, ↓reduceIte, tis]
/-- laws.eqRex, of equals -/
theorem fits_eqRex (r : Rex) (hb : bd r ≤ 1048576) : Fits prog 30 [eRex false r, eRex false r] (.bool true) [] := by
  induction r using Rex.ind' with
  | h r ih =>
    have hb' := bd_eq r
    have HS := fits_eqRexS_of r.kids (by omega) (fun x hx => ih x hx (Nat.le_trans (bd_kid hx) hb))
    have HT := fits_eqSpanS r.set r.set (by omega) (by omega)
    rw [eRex_eq]
    refine fits_of_code [4] [] [0, 1, 2, 3, 4, 9, 15, 21] func30 rfl rfl rfl (by rfl) (by show 2 ≤ 22; decide) (by rfl) (by rfl) (by show 0 ≤ 2; decide) (by rfl) (run_of ?_)
    simp -implicitDefEqProofs (maxSteps := 100000) (disch := first | (intros; contradiction) | omega) only [am0, am1, am2, am3, am4, am5, am6, am7, am8, Nat.reduceSub, ↓reduceIte, reduceCtorEq, Nat.reduceEqDiff, Nat.reduceBEq, Nat.reduceAdd, Nat.reduceLT, ↓reduceIte, tis]
    refine callB HT ?_
    simp -implicitDefEqProofs (maxSteps := 100000) (disch := first | (intros; contradiction) | omega) only [am0, am1, am2, am3, am4, am5, am6, am7, am8, Nat.reduceSub, ↓reduceIte, reduceCtorEq, Nat.reduceEqDiff, Nat.reduceBEq, Nat.reduceAdd, Nat.reduceLT, ↓reduceIte, tis, fls, rx]
    refine callB HS ?_
    simp -implicitDefEqProofs (maxSteps := 100000) (disch := first | (intros; contradiction) | omega) only [am0, am1, am2, am3, am4, am5, am6, am7, am8, Nat.reduceSub, ↓reduceIte, reduceCtorEq, Nat.reduceEqDiff, Nat.reduceBEq, Nat.reduceAdd, Nat.reduceLT, ↓reduceIte, tis, fls, rx]
/-- How many marks there are. -/
def ct : Rex → Nat
  | .mk _ s ks => 1 + (2 * s.length + (ks.map ct).sum)
theorem ct_eq (r : Rex) : ct r = 1 + (2 * r.set.length + (r.kids.map ct).sum) := by cases r; rw [ct]; rfl
mutual
def mkR : Rex → Int → Rex
  | .mk _ s ks, k => .mk k (mkSpans s.length (k + 1)) (mkL ks (k + 1 + 2 * s.length))
def mkL : List Rex → Int → List Rex
  | [], _ => []
  | x :: xs, k => mkR x k :: mkL xs (k + ct x)
end
theorem mkR_eq (r : Rex) (k : Int) : mkR r k = .mk k (mkSpans r.set.length (k + 1)) (mkL r.kids (k + 1 + 2 * r.set.length)) := by cases r; rw [mkR]; rfl
theorem mkL_len : ∀ (l : List Rex) (k : Int), (mkL l k).length = l.length
  | [], k => by simp [mkL]
  | x :: l, k => by simp [mkL, mkL_len l]
theorem mkL_app : ∀ (l : List Rex) (x : Rex) (k : Int), mkL (l ++ [x]) k = mkL l k ++ [mkR x (k + ((l.map ct).sum : Nat))]
  | [], x, k => by simp [mkL]
  | y :: l, x, k => by
    simp only [List.cons_append, mkL, mkL_app l x, List.map_cons, List.sum_cons]
    congr 3
    congr 1
    omega
theorem ct_le (r : Rex) : ct r ≤ 1 + 2 * bd r := by
  induction r using Rex.ind' with
  | h r ih =>
    rw [ct_eq, bd_eq]
    have : (r.kids.map ct).sum ≤ r.kids.length + 2 * (r.kids.map bd).sum := by
      generalize r.kids = l at ih
      induction l with
      | nil => simp
      | cons x l ihl =>
        have h1 := ih x (List.mem_cons_self ..)
        have h2 := ihl (fun y hy => ih y (List.mem_cons_of_mem _ hy))
        simp only [List.map_cons, List.sum_cons, List.length_cons]
        omega
    omega
theorem ctL_le (l : List Rex) : (l.map ct).sum ≤ l.length + 2 * (l.map bd).sum := by
  induction l with
  | nil => simp
  | cons x l ih =>
    have := ct_le x
    simp only [List.map_cons, List.sum_cons, List.length_cons]
    omega
/-- laws.markRexS -/
theorem fits_markRexS_of (p : List Rex) (k : Int) (hp : p.length ≤ 1048576) (hb : (p.map bd).sum ≤ 1048576) (h0 : 0 ≤ k) (hk : k + (p.map ct).sum ≤ 1152921504606846976)
    (hs : ∀ x ∈ p, x.set.length ≤ 1048576)
    (H : ∀ x ∈ p, ∀ m : Int, 0 ≤ m → m + (x.kids.map ct).sum ≤ 1152921504606846976 → Fits prog 65 [.sl true 3 (x.kids.map (eRex true)), .int .i64 m] (.int .i64 (m + (x.kids.map ct).sum)) [.sl true 3 ((mkL x.kids m).map (eRex true))]) :
    Fits prog 65 [.sl true 3 (p.map (eRex true)), .int .i64 k] (.int .i64 (k + (p.map ct).sum)) [.sl true 3 ((mkL p k).map (eRex true))] := by
  refine fits_of_code [4] [0] [0, 1, 4, 5, 9] func65 rfl rfl rfl (by rfl) (by show 2 ≤ 34; decide) (by rfl) (by rfl) (by show 1 ≤ 2; decide) (by rfl) (run_of ?_)
  simp -implicitDefEqProofs (maxSteps := 100000) (disch := first | (intros; contradiction) | omega) only [am0, am1, am2, am3, am4, am5, am6, am7, am8, Nat.reduceSub, ↓reduceIte, reduceCtorEq, Nat.reduceEqDiff, Nat.reduceBEq, Nat.reduceAdd, Nat.reduceLT, ↓reduceIte, tis]
  refine run_loop (α := Nat) (fun i => i ≤ p.length) (fun i => [(0, .sl true 3 ((mkL (p.take i) k).map (eRex true) ++ (p.drop i).map (eRex true))), (1, .int .i64 (k + ((p.take i).map ct).sum)), (5, .int .i64 i)]) (fun i => p.length - i) 0 (Nat.zero_le _) ?_ ?_
  · simp -implicitDefEqProofs (maxSteps := 100000) (disch := first | (intros; contradiction) | omega) only [am0, am1, am2, am3, am4, am5, am6, am7, am8, Nat.reduceSub, ↓reduceIte, reduceCtorEq, Nat.reduceEqDiff, Nat.reduceBEq, Nat.reduceAdd, Nat.reduceLT, ↓reduceIte, tis, mkL, List.sum_nil]
  · intro i hi'
    have hA : ((mkL (p.take i) k).map (eRex true)).length = i := by simp [mkL_len]; omega
    have hL : ((mkL (p.take i) k).map (eRex true) ++ (p.drop i).map (eRex true)).length = p.length := by simp [mkL_len]; omega
    by_cases hi : i < p.length
    · have g1 := turn_get _ (eRex true) p i hA hi
      have g2 := fun y => turn_set _ (eRex true) p i y hA hi
      generalize hAA : (mkL (p.take i) k).map (eRex true) = A at *
      have g3 : ∀ y, (A ++ [y] ++ (p.drop (i + 1)).map (eRex true))[i]? = some y := fun y => by
        rw [List.append_assoc, List.getElem?_append_right (by omega), hA, Nat.sub_self]; rfl
      have g4 : ∀ y z, (A ++ [y] ++ (p.drop (i + 1)).map (eRex true)).set i z = A ++ [z] ++ (p.drop (i + 1)).map (eRex true) := fun y z => by
        rw [List.append_assoc, List.set_append_right _ _ (by omega), hA, Nat.sub_self]; simp
      have g5 : ∀ y, (A ++ [y] ++ (p.drop (i + 1)).map (eRex true)).length = p.length := fun y => by simp; omega
      rw [eRex_eq] at g1
      have es := take_sum (l := p.map ct) (i := i) (by simpa using hi)
      rw [List.getElem_map, ct_eq] at es
      have ele := take_sum_le (p.map ct) (i + 1)
      rw [← List.map_take, ← List.map_take] at es
      rw [← List.map_take] at ele
      generalize hK : k + (((p.take i).map ct).sum : Nat) = K at *
      have hK0 : 0 ≤ K := by omega
      have hx := List.getElem_mem hi
      have HT := fits_markSpanS p[i].set (K + 1) (hs _ hx) (by omega) (by have := hs _ hx; omega)
      have HR := H p[i] hx (K + 1 + 2 * p[i].set.length) (by omega) (by omega)
      simp -implicitDefEqProofs (maxSteps := 100000) (disch := first | (intros; contradiction) | omega) only [am0, am1, am2, am3, am4, am5, am6, am7, am8, Nat.reduceSub, ↓reduceIte, reduceCtorEq, Nat.reduceEqDiff, Nat.reduceBEq, Nat.reduceAdd, Nat.reduceLT, ↓reduceIte, tis, hL, g1, g2, g3, g4, g5]
      refine callM 0 HT ?_
      simp -implicitDefEqProofs (maxSteps := 100000) (disch := first | (intros; contradiction) | omega) only [am0, am1, am2, am3, am4, am5, am6, am7, am8, Nat.reduceSub, ↓reduceIte, reduceCtorEq, Nat.reduceEqDiff, Nat.reduceBEq, Nat.reduceAdd, Nat.reduceLT, ↓reduceIte, tis, hL, g1, g2, g3, g4, g5, fls]
      refine callM 0 HR ?_
      simp -implicitDefEqProofs (maxSteps := 100000) (disch := first | (intros; contradiction) | omega) only [am0, am1, am2, am3, am4, am5, am6, am7, am8, Nat.reduceSub, ↓reduceIte, reduceCtorEq, Nat.reduceEqDiff, Nat.reduceBEq, Nat.reduceAdd, Nat.reduceLT, ↓reduceIte, tis, hL, g1, g2, g3, g4, g5, fls, rx]
      refine round_normal (i + 1) (by omega) ?_ (by show p.length - (i + 1) < p.length - i; omega)
      have e1 : mkL (p.take (i + 1)) k = mkL (p.take i) k ++ [mkR p[i] K] := by
        rw [List.take_succ_eq_append_getElem hi, mkL_app, hK]
      simp -implicitDefEqProofs (maxSteps := 100000) (disch := first | (intros; contradiction) | omega) only [am0, am1, am2, am3, am4, am5, am6, am7, am8, Nat.reduceSub, ↓reduceIte, reduceCtorEq, Nat.reduceEqDiff, Nat.reduceBEq, Nat.reduceAdd, Nat.reduceLT, ↓reduceIte, tis, e1, List.map_append, hAA, mkR_eq, eRex]
      omega
    · obtain rfl : i = p.length := by omega
      simp -implicitDefEqProofs (maxSteps := 100000) (disch := first | (intros; contradiction) | omega) only [am0, am1, am2, am3, am4, am5, am6, am7, am8, Nat.reduceSub, ↓reduceIte, reduceCtorEq, Nat.reduceEqDiff, Nat.reduceBEq, Nat.reduceAdd, Nat.reduceLT, ↓reduceIte, tis, mkL_len]
/-- laws.markRexS -/
theorem fits_markKids (r : Rex) (hb : bd r ≤ 1048576) : ∀ m : Int, 0 ≤ m → m + (r.kids.map ct).sum ≤ 1152921504606846976 → Fits prog 65 [.sl true 3 (r.kids.map (eRex true)), .int .i64 m] (.int .i64 (m + (r.kids.map ct).sum)) [.sl true 3 ((mkL r.kids m).map (eRex true))] := by
  induction r using Rex.ind' with
  | h r ih =>
    intro m h0 h1
    have hb' := bd_eq r
    exact fits_markRexS_of r.kids m (by omega) (by omega) h0 h1 (fun x hx => by have := bd_kid hx; have := bd_eq x; omega) (fun x hx => ih x hx (Nat.le_trans (bd_kid hx) hb))
theorem mkL_get (l : List Rex) (k : Int) (i : Nat) (h : i < l.length) : ((mkL l k).map (eRex false)).getD i .undef = eRex false (mkR l[i] (k + ((l.take i).map ct).sum)) := by
  induction l generalizing k i with
  | nil => simp at h
  | cons x l ih =>
    cases i with
    | zero => simp [mkL]
    | succ i =>
      have := ih (k + ct x) i (by simpa using h)
      simp only [mkL, List.map_cons, List.getD_cons_succ, this, List.getElem_cons_succ, List.take_succ_cons, List.sum_cons]
      congr 2
      omega
/-- laws.heldRexS -/
theorem fits_heldRexS_of (p : List Rex) (k : Int) (hp : p.length ≤ 1048576) (h0 : 0 ≤ k) (hk : k + (p.map ct).sum ≤ 1152921504606846976)
    (hs : ∀ x ∈ p, x.set.length ≤ 1048576)
    (H : ∀ x ∈ p, ∀ m : Int, 0 ≤ m → m + (x.kids.map ct).sum ≤ 1152921504606846976 → Fits prog 67 [.sl false 3 ((mkL x.kids m).map (eRex false)), .int .i64 m] (.int .i64 (m + (x.kids.map ct).sum)) []) :
    Fits prog 67 [.sl false 3 ((mkL p k).map (eRex false)), .int .i64 k] (.int .i64 (k + (p.map ct).sum)) [] := by
  refine fits_of_code [4] [] [0, 1, 4, 5, 9, 18, 29, 38] func67 rfl rfl rfl (by rfl) (by show 2 ≤ 40; decide) (by rfl) (by rfl) (by show 0 ≤ 2; decide) (by rfl) (run_of ?_)
  simp -implicitDefEqProofs (maxSteps := 100000) (disch := first | (intros; contradiction) | omega) only [am0, am1, am2, am3, am4, am5, am6, am7, am8, Nat.reduceSub, ↓reduceIte, reduceCtorEq, Nat.reduceEqDiff, Nat.reduceBEq, Nat.reduceAdd, Nat.reduceLT, ↓reduceIte, tis]
  refine run_loop (α := Nat) (fun i => i ≤ p.length) (fun i => [(0, .sl false 3 ((mkL p k).map (eRex false))), (1, .int .i64 (k + ((p.take i).map ct).sum)), (5, .int .i64 i)]) (fun i => p.length - i) 0 (Nat.zero_le _) ?_ ?_
  · simp -implicitDefEqProofs (maxSteps := 100000) (disch := first | (intros; contradiction) | omega) only [am0, am1, am2, am3, am4, am5, am6, am7, am8, Nat.reduceSub, ↓reduceIte, reduceCtorEq, Nat.reduceEqDiff, Nat.reduceBEq, Nat.reduceAdd, Nat.reduceLT, ↓reduceIte, tis, List.sum_nil]
  · intro i hi'
    by_cases hi : i < p.length
    · have g := mkL_get p k i hi
      rw [mkR_eq, eRex] at g
      have es := take_sum (l := p.map ct) (i := i) (by simpa using hi)
      rw [List.getElem_map, ct_eq] at es
      have ele := take_sum_le (p.map ct) (i + 1)
      rw [← List.map_take, ← List.map_take] at es
      rw [← List.map_take] at ele
      generalize hK : k + (((p.take i).map ct).sum : Nat) = K at *
      have hK0 : 0 ≤ K := by omega
      have hx := List.getElem_mem hi
      have HT := fits_heldSpanS p[i].set.length (K + 1) (hs _ hx) (by omega) (by have := hs _ hx; omega)
      have HR := H p[i] hx (K + 1 + 2 * p[i].set.length) (by omega) (by omega)
      simp -implicitDefEqProofs (maxSteps := 100000) (disch := first | (intros; contradiction) | omega) only [am0, am1, am2, am3, am4, am5, am6, am7, am8, Nat.reduceSub, ↓reduceIte, reduceCtorEq, Nat.reduceEqDiff, Nat.reduceBEq, Nat.reduceAdd, Nat.reduceLT, ↓reduceIte, tis, mkL_len, g]
      refine callB HT ?_
      simp -implicitDefEqProofs (maxSteps := 100000) (disch := first | (intros; contradiction) | omega) only [am0, am1, am2, am3, am4, am5, am6, am7, am8, Nat.reduceSub, ↓reduceIte, reduceCtorEq, Nat.reduceEqDiff, Nat.reduceBEq, Nat.reduceAdd, Nat.reduceLT, ↓reduceIte, tis, mkL_len, g]
      refine callB HR ?_
      simp -implicitDefEqProofs (maxSteps := 100000) (disch := first | (intros; contradiction) | omega) only [am0, am1, am2, am3, am4, am5, am6, am7, am8, Nat.reduceSub, ↓reduceIte, reduceCtorEq, Nat.reduceEqDiff, Nat.reduceBEq, Nat.reduceAdd, Nat.reduceLT, ↓reduceIte, tis, mkL_len, g]
      refine round_normal (i + 1) (by omega) ?_ (by show p.length - (i + 1) < p.length - i; omega)
      simp -implicitDefEqProofs (maxSteps := 100000) (disch := first | (intros; contradiction) | omega) only [am0, am1, am2, am3, am4, am5, am6, am7, am8, Nat.reduceSub, ↓reduceIte, reduceCtorEq, Nat.reduceEqDiff, Nat.reduceBEq, Nat.reduceAdd, Nat.reduceLT, ↓reduceIte, tis]
      omega
    · obtain rfl : i = p.length := by omega
      simp -implicitDefEqProofs (maxSteps := 100000) (disch := first | (intros; contradiction) | omega) only [am0, am1, am2, am3, am4, am5, am6, am7, am8, Nat.reduceSub, ↓reduceIte, reduceCtorEq, Nat.reduceEqDiff, Nat.reduceBEq, Nat.reduceAdd, Nat.reduceLT, ↓reduceIte, tis, mkL_len]
theorem fits_heldKids (r : Rex) (hb : bd r ≤ 1048576) : ∀ m : Int, 0 ≤ m → m + (r.kids.map ct).sum ≤ 1152921504606846976 → Fits prog 67 [.sl false 3 ((mkL r.kids m).map (eRex false)), .int .i64 m] (.int .i64 (m + (r.kids.map ct).sum)) [] := by
  induction r using Rex.ind' with
  | h r ih =>
    intro m h0 h1
    have hb' := bd_eq r
    exact fits_heldRexS_of r.kids m (by omega) h0 h1 (fun x hx => by have := bd_kid hx; have := bd_eq x; omega) (fun x hx => ih x hx (Nat.le_trans (bd_kid hx) hb))
/-- What is marked of one as a whole. -/
def mkTop (r : Rex) (k : Int) : Rex := .mk r.kind (mkSpans r.set.length k) (mkL r.kids (k + 2 * r.set.length))
/-- laws.heldRex -/
theorem fits_heldRex (r : Rex) (k : Int) (hb : bd r ≤ 1048576) (h0 : 0 ≤ k) (hk : k ≤ 1048576) : Fits prog 32 [eRex false (mkTop r k), .int .i64 k] (.int .i64 (k + 2 * r.set.length + (r.kids.map ct).sum)) [] := by
  have hb' := bd_eq r
  have hc := ctL_le r.kids
  have HT := fits_heldSpanS r.set.length k (by omega) h0 (by omega)
  have HR := fits_heldKids r hb (k + 2 * r.set.length) (by omega) (by omega)
  rw [mkTop, eRex]
  refine fits_of_code [4] [] [0, 1, 2, 4, 10, 16] func32 rfl rfl rfl (by rfl) (by show 2 ≤ 18; decide) (by rfl) (by rfl) (by show 0 ≤ 2; decide) (by rfl) (run_of ?_)
  simp -implicitDefEqProofs (maxSteps := 100000) (disch := first | (intros; contradiction) | omega) only [am0, am1, am2, am3, am4, am5, am6, am7, am8, Nat.reduceSub, ↓reduceIte, reduceCtorEq, Nat.reduceEqDiff, Nat.reduceBEq, Nat.reduceAdd, Nat.reduceLT, ↓reduceIte, tis]
  refine callB HT ?_
  simp -implicitDefEqProofs (maxSteps := 100000) (disch := first | (intros; contradiction) | omega) only [am0, am1, am2, am3, am4, am5, am6, am7, am8, Nat.reduceSub, ↓reduceIte, reduceCtorEq, Nat.reduceEqDiff, Nat.reduceBEq, Nat.reduceAdd, Nat.reduceLT, ↓reduceIte, tis]
  refine callB HR ?_
  simp -implicitDefEqProofs (maxSteps := 100000) (disch := first | (intros; contradiction) | omega) only [am0, am1, am2, am3, am4, am5, am6, am7, am8, Nat.reduceSub, ↓reduceIte, reduceCtorEq, Nat.reduceEqDiff, Nat.reduceBEq, Nat.reduceAdd, Nat.reduceLT, ↓reduceIte, tis]
/-- laws.markRex -/
theorem fits_markRex (r : Rex) (k : Int) (hb : bd r ≤ 1048576) (h0 : 0 ≤ k) (hk : k ≤ 1048576) :
    Fits prog 31 [eRex true r, .int .i64 k] (.int .i64 (k + 2 * r.set.length + (r.kids.map ct).sum)) [eRex true (mkTop r k)] := by
  have hb' := bd_eq r
  have hct := ctL_le r.kids
  refine ⟨⟨_, func31, by rfl, by rfl⟩, ?_⟩
  intro w vs ok O hall hrep
  simp only [RepWs, eRex_eq] at hrep
  obtain ⟨v0, vs1, Oa, Ob, rfl, e1, e2, r0, v1, vs2, Oc, Od, rfl, e3, e4, r1, rfl, e5⟩ := hrep
  simp only [RepW] at r0 r1
  obtain ⟨cs, rfl, r0⟩ := r0
  simp only [RepC] at r0
  obtain ⟨c1, d1', q1⟩ := rl_int.1 r0
  obtain ⟨s1, c2, O1, O1', d2', a1, a2, rs1, q2⟩ := rl_sl.1 q1
  obtain ⟨s8, c3, O8, O8', d3', a3, a4, rs8, q3⟩ := rl_sl.1 q2
  obtain ⟨d4', q10⟩ := rl_nil.1 q3
  subst d4' d3' d2'
  have hc1 := d1'
  simp only [RepC] at r1
  obtain ⟨r1, r1'⟩ := r1
  have r1 : v1 = .int .i64 k := by simpa using r1
  subst r1
  have hcs : cs = #[.int .i64 r.kind, s1, s8] := by
    apply Array.ext'; rw [hc1]
  subst hcs
  show Calls prog 31 #[.agg #[.int .i64 r.kind, s1, s8], .int .i64 k] w _
  clear q1 q2 q3 r0
  have hO : ∀ k, O k ↔ O1 k ∨ O8 k := by
    intro k
    rw [e1, a1, a3, e3]
    constructor
    · rintro ((h | h | h) | h | h)
      · exact .inl h
      · exact .inr h
      · exact (q10 k h).elim
      · exact (r1' k h).elim
      · exact (e5 k h).elim
    · rintro (h | h)
      · exact .inl (.inl h)
      · exact .inl (.inr (.inl h))
  have hd18 : ∀ k, O1 k → ¬ O8 k := fun k h1 h8 => a2 k h1 ((a3 k).2 (.inl h8))
  have lt1 := repC_lt _ rs1
  have lt8 := repC_lt _ rs8
  clear a1 a2 a3 a4 e1 e2 e3 e4 e5 r1' q10
  generalize hcells : #[.int .i64 r.kind, s1, s8] = cells
  have hc0 : cells[1]? = some s1 := by rw [← hcells]; rfl
  have hc7 : cells[2]? = some s8 := by rw [← hcells]; rfl
  have hag : ∀ {h' : Array Obj} {S' Oz : Nat → Prop}, (∀ k, (ok k ∧ ¬ O k) → k < w.heap.size → S' k ∧ h'[k]? = w.heap[k]?) → (∀ k, Oz k → h'[k]? = w.heap[k]?) → Agree w.heap h' (fun k => ok k ∧ ¬ O k) S' Oz := fun h1 h2 => ⟨h1, h2⟩
  have push : ∀ k, k < w.heap.size → (w.alloc (.cells cells 53)).heap[k]? = w.heap[k]? := fun k hk => push_old _ _ hk
  have hsz : w.heap.size < (w.alloc (.cells cells 53)).heap.size := by show _ < (w.heap.push _).size; rw [Array.size_push]; omega
  have hA := (fits_markSpanS r.set k (by omega) h0 (by omega)).2 (w.alloc (.cells cells 53)) [s1, .int .i64 k] ok O1
    (fun k hk => hk.elim (fun h => hall k (.inl ((hO k).2 (.inl h)))) (fun h => hall k (.inr (Nat.le_trans (Nat.le_of_lt hsz) h))))
    (by
      simp only [RepWs, RepW]
      refine ⟨s1, _, O1, fun _ => False, rfl, by simp, by simp, repC_mono _ rs1 (hag (fun k hk hlt => ⟨⟨hk.1, fun h => hk.2 ((hO k).2 (.inl h))⟩, push k hlt⟩) (fun k hk => push k (lt1 k hk))), .int .i64 k, [], fun _ => False, fun _ => False, rfl, by simp, by simp, ?_, rfl, emp_false⟩
      simp only [RepC]; exact ⟨trivial, emp_false⟩)
  generalize hQ : (fun e w' => _) = Q
  go_enter func31, ntmps31
  go_wp2_with fail
  refine Calls.mono hA ?_
  rintro e w1 ⟨v1, Or1, Oo1, rfl, b1, b2, b3, b4, b5, b6, b7, b8, b9⟩
  have hB : (w.alloc (.cells cells 53)).heap[w.heap.size]? = some (.cells cells 53 (0, 0)) := push_new _ _
  have hB1 : w1.heap[w.heap.size]? = some (.cells cells 53 (0, 0)) := by rw [b5 _ hsz (fun h => absurd (lt1 _ h) (Nat.lt_irrefl _)), hB]
  have hcell : w1.cell? ⟨w.heap.size, 2, none⟩ = some s8 := by rw [cell_eq]; simp [cellH, hB1, hc7]
  have hv1 : v1 = .int .i64 (k + 2 * r.set.length) := by simp only [RepW, RepC] at b6; simpa using b6.1
  subst hv1
  have hOr1 : Emp Or1 := by simp only [RepW, RepC] at b6; exact b6.2
  go_wp2_with fail
  have hw1 : ∀ k, k < w.heap.size → ¬ O1 k → w1.heap[k]? = w.heap[k]? := fun k hk h1 => (b5 k (by omega) h1).trans (push k hk)
  have hA2 := (fits_markKids r hb (k + 2 * r.set.length) (by omega) (by omega)).2 w1 [s8, .int .i64 (k + 2 * r.set.length)] ok O8
    (fun k hk => hk.elim (fun h => hall k (.inl ((hO k).2 (.inr h)))) (fun h => hall k (.inr (by omega))))
    (by
      simp only [RepWs, RepW]
      refine ⟨s8, _, O8, fun _ => False, rfl, by simp, by simp, repC_mono _ rs8 (hag (fun k hk hlt => ⟨⟨hk.1, fun h => hk.2 ((hO k).2 (.inr h))⟩, hw1 k hlt (fun h => hk.2 ((hO k).2 (.inl h)))⟩) (fun k hk => hw1 k (lt8 k hk) (fun h => hd18 k h hk))), .int .i64 (k + 2 * r.set.length), [], fun _ => False, fun _ => False, rfl, by simp, by simp, ?_, rfl, emp_false⟩
      simp only [RepC]; exact ⟨trivial, emp_false⟩)
  refine Calls.mono hA2 ?_
  rintro e w2 ⟨v2, Or2, Oo2, rfl, d1, d2, d3, d4, d5, d6, d7, d8, d9⟩
  have hv2 : v2 = .int .i64 (k + 2 * r.set.length + (r.kids.map ct).sum) := by simp only [RepW, RepC] at d6; simpa using d6.1
  subst hv2
  have hOr2 : Emp Or2 := by simp only [RepW, RepC] at d6; exact d6.2
  go_wp2_with fail
  rw [← hQ]
  simp only [List.take_succ_cons, List.take_zero, List.length_cons, List.length_nil] at b7 d7
  simp only [RepWs, RepW] at b7 d7
  obtain ⟨x1, y1, P1, P1', g1, g2, g3, g4, g5, g6⟩ := b7
  obtain ⟨x2, y2, P2, P2', k1, k2, k3, k4, k5, k6⟩ := d7
  obtain ⟨rfl, rfl⟩ : s1 = x1 ∧ [] = y1 := by simpa using g1
  obtain ⟨rfl, rfl⟩ : s8 = x2 ∧ [] = y2 := by simpa using k1
  have p1 : ∀ k, P1 k → O1 k ∨ (w.alloc (.cells cells 53)).heap.size ≤ k := fun k hk => b9 k (.inr ((g2 k).2 (.inl hk)))
  have p2 : ∀ k, P2 k → O8 k ∨ w1.heap.size ≤ k := fun k hk => d9 k (.inr ((k2 k).2 (.inl hk)))
  have l1 := repC_lt _ g4
  have q1 : ∀ k, P1 k → ¬ O8 k := fun k hk h8 => by
    rcases p1 k hk with h | h
    · exact hd18 k h h8
    · have := lt8 k h8; omega
  have q2 : ∀ k, P1 k → ¬ P2 k := fun k hk hk2 => by
    rcases p2 k hk2 with h | h
    · exact q1 k hk h
    · have := l1 k hk; omega
  refine ⟨.int .i64 (k + 2 * r.set.length + (r.kids.map ct).sum), fun _ => False, fun k => P1 k ∨ P2 k, rfl, d1.trans b1, d2.trans b2, d3.trans b3, by omega, ?_, ?_, ?_, fun _ h => h.elim, ?_⟩
  · intro k hk hn
    rw [d5 k (by omega) (fun h => hn ((hO k).2 (.inr h))), hw1 k hk (fun h => hn ((hO k).2 (.inl h)))]
  · simp only [RepW, RepC]; exact ⟨trivial, emp_false⟩
  · simp only [List.length_cons, List.length_nil, List.take_succ_cons, List.take_zero, RepWs]
    refine ⟨.agg cells, [], fun k => P1 k ∨ P2 k, fun _ => False, rfl, by simp, by simp, ?_, rfl, emp_false⟩
    simp only [mkTop, eRex, RepW]
    refine ⟨cells, rfl, ?_⟩
    simp only [RepC]
    rw [← hcells]
    refine rl_int.2 ⟨_, rfl, rl_sl.2 ⟨s1, _, P1, P2, rfl, fun k => Iff.rfl, q2, ?_, rl_sl.2 ⟨s8, _, P2, fun _ => False, rfl, by simp, by simp, ?_, rl_nil.2 ⟨rfl, emp_false⟩⟩⟩⟩
    · exact repC_closed _ (repC_mono (S' := fun _ => False) _ (repC_closed (S' := fun _ => False) _ g4 (by simp [closed, fls])) ⟨fun k hk => hk.elim, fun k hk => d5 k (l1 k hk) (q1 k hk)⟩) (by simp [closed, fls])
    · exact repC_closed _ k4 (by simp [closed, rx])
  · rintro k (h | h | h)
    · exact h.elim
    · exact (p1 k h).imp (fun h => (hO k).2 (.inl h)) (fun h => by omega)
    · exact (p2 k h).imp (fun h => (hO k).2 (.inr h)) (fun h => by omega)
theorem szS_ok {n : Int} {b : Nat} (h : ¬ (if n - b < 0 then (-1 : Int) else n - b) < 0) : (b : Int) ≤ n := by
  split at h <;> omega
/-- laws.FnExactTurnSwap -/
theorem law_TurnSwap (r : Rex) (hl : Lens r) (a : Int) (_ : -9223372036854775808 ≤ a) (_ : a ≤ 9223372036854775807) (b : Int) (_ : -9223372036854775808 ≤ b) (_ : b ≤ 9223372036854775807) : Fits prog 8 [eRex false r, .int .i64 a, .int .i64 b] (.bool true) [] := by
  have cZ := fits_szRex r 1048576 hl (by omega) (by omega)
  by_cases h : (if (1048576 : Int) - bd r < 0 then (-1 : Int) else 1048576 - bd r) < 0
  · rw [eRex_eq] at *
    refine fits_of_code [6] [] [0, 1, 2, 3, 6, 7, 8, 9, 10, 11, 12, 13, 14, 19, 34, 39, 50, 58, 61, 70, 75, 78] func8 rfl rfl rfl (by rfl) (by show 3 ≤ 79; decide) (by rfl) (by rfl) (by show 0 ≤ 3; decide) (by rfl) (run_of ?_)
    simp -implicitDefEqProofs (maxSteps := 100000) (disch := first | (intros; contradiction) | omega) only [am0, am1, am2, am3, am4, am5, am6, am7, am8, Nat.reduceSub, ↓reduceIte, reduceCtorEq, Nat.reduceEqDiff, Nat.reduceBEq, Nat.reduceAdd, Nat.reduceLT, ↓reduceIte, tis]
    refine callB cZ ?_
    simp -implicitDefEqProofs (maxSteps := 100000) (disch := first | (intros; contradiction) | omega) only [am0, am1, am2, am3, am4, am5, am6, am7, am8, Nat.reduceSub, ↓reduceIte, reduceCtorEq, Nat.reduceEqDiff, Nat.reduceBEq, Nat.reduceAdd, Nat.reduceLT, ↓reduceIte, tis, h]
  have hb := szS_ok h
  have hb : bd r ≤ 1048576 := by omega
  have hg : bd (swapP r a b) ≤ 1048576 := by
    unfold swapP; split
    · rename_i h
      have hps : ps r ≤ 24 := by have := h.1; simp only [rexB, Bool.and_eq_true, decide_eq_true_eq] at this; exact this.2
      have := bd_swap a.toNat b.toNat r
      omega
    · simp [zRex, bd]
  have hgb := bd_eq (swapP r a b)
  have hbb := bd_eq r
  have hc1 := ctL_le r.kids
  have hc2 := ctL_le (swapP r a b).kids
  have cI := fits_toRex r hb
  have cO := fits_sTurnSwap r hb a b
  have cP := fits_turnSwap r hb a b
  have cE := fits_eqRex (swapP r a b) hg
  have cL := fits_eqRex r hb
  have cM := fits_markRex r 1 hb (by omega) (by omega)
  have cF := fits_markRex (swapP r a b) 1 hg (by omega) (by omega)
  have cH := fits_heldRex (swapP r a b) 1 hg (by omega) (by omega)
  generalize swapP r a b = g at *
  simp only [eRex_eq] at *
  refine fits_of_code [6] [] [0, 1, 2, 3, 6, 7, 8, 9, 10, 11, 12, 13, 14, 19, 34, 39, 50, 58, 61, 70, 75, 78] func8 rfl rfl rfl (by rfl) (by show 3 ≤ 79; decide) (by rfl) (by rfl) (by show 0 ≤ 3; decide) (by rfl) (run_of ?_)
  simp -implicitDefEqProofs (maxSteps := 100000) (disch := first | (intros; contradiction) | omega) only [am0, am1, am2, am3, am4, am5, am6, am7, am8, Nat.reduceSub, ↓reduceIte, reduceCtorEq, Nat.reduceEqDiff, Nat.reduceBEq, Nat.reduceAdd, Nat.reduceLT, ↓reduceIte, tis]
  refine callB cZ ?_
  simp -implicitDefEqProofs (maxSteps := 100000) (disch := first | (intros; contradiction) | omega) only [am0, am1, am2, am3, am4, am5, am6, am7, am8, Nat.reduceSub, ↓reduceIte, reduceCtorEq, Nat.reduceEqDiff, Nat.reduceBEq, Nat.reduceAdd, Nat.reduceLT, ↓reduceIte, tis, h]
  refine callB cI ?_
  simp -implicitDefEqProofs (maxSteps := 100000) (disch := first | (intros; contradiction) | omega) only [am0, am1, am2, am3, am4, am5, am6, am7, am8, Nat.reduceSub, ↓reduceIte, reduceCtorEq, Nat.reduceEqDiff, Nat.reduceBEq, Nat.reduceAdd, Nat.reduceLT, ↓reduceIte, tis, fls, rx]
  refine callB cO ?_
  simp -implicitDefEqProofs (maxSteps := 100000) (disch := first | (intros; contradiction) | omega) only [am0, am1, am2, am3, am4, am5, am6, am7, am8, Nat.reduceSub, ↓reduceIte, reduceCtorEq, Nat.reduceEqDiff, Nat.reduceBEq, Nat.reduceAdd, Nat.reduceLT, ↓reduceIte, tis, fls, rx]
  refine callB cI ?_
  simp -implicitDefEqProofs (maxSteps := 100000) (disch := first | (intros; contradiction) | omega) only [am0, am1, am2, am3, am4, am5, am6, am7, am8, Nat.reduceSub, ↓reduceIte, reduceCtorEq, Nat.reduceEqDiff, Nat.reduceBEq, Nat.reduceAdd, Nat.reduceLT, ↓reduceIte, tis, fls, rx]
  refine callB cP ?_
  simp -implicitDefEqProofs (maxSteps := 100000) (disch := first | (intros; contradiction) | omega) only [am0, am1, am2, am3, am4, am5, am6, am7, am8, Nat.reduceSub, ↓reduceIte, reduceCtorEq, Nat.reduceEqDiff, Nat.reduceBEq, Nat.reduceAdd, Nat.reduceLT, ↓reduceIte, tis, fls, rx]
  refine callB cE ?_
  simp -implicitDefEqProofs (maxSteps := 100000) (disch := first | (intros; contradiction) | omega) only [am0, am1, am2, am3, am4, am5, am6, am7, am8, Nat.reduceSub, ↓reduceIte, reduceCtorEq, Nat.reduceEqDiff, Nat.reduceBEq, Nat.reduceAdd, Nat.reduceLT, ↓reduceIte, tis, fls, rx]
  refine .inl ⟨by kernel_rfl, ?_⟩
  refine callL cI ?_
  simp -implicitDefEqProofs (maxSteps := 100000) (disch := first | (intros; contradiction) | omega) only [am0, am1, am2, am3, am4, am5, am6, am7, am8, Nat.reduceSub, ↓reduceIte, reduceCtorEq, Nat.reduceEqDiff, Nat.reduceBEq, Nat.reduceAdd, Nat.reduceLT, ↓reduceIte, tis, fls, rx]
  refine callL cL ?_
  simp -implicitDefEqProofs (maxSteps := 100000) (disch := first | (intros; contradiction) | omega) only [am0, am1, am2, am3, am4, am5, am6, am7, am8, Nat.reduceSub, ↓reduceIte, reduceCtorEq, Nat.reduceEqDiff, Nat.reduceBEq, Nat.reduceAdd, Nat.reduceLT, ↓reduceIte, tis, fls, rx]
  refine callM 0 cM ?_
  simp -implicitDefEqProofs (maxSteps := 100000) (disch := first | (intros; contradiction) | omega) only [am0, am1, am2, am3, am4, am5, am6, am7, am8, Nat.reduceSub, ↓reduceIte, reduceCtorEq, Nat.reduceEqDiff, Nat.reduceBEq, Nat.reduceAdd, Nat.reduceLT, ↓reduceIte, tis, fls, rx]
  refine callB cE ?_
  simp -implicitDefEqProofs (maxSteps := 100000) (disch := first | (intros; contradiction) | omega) only [am0, am1, am2, am3, am4, am5, am6, am7, am8, Nat.reduceSub, ↓reduceIte, reduceCtorEq, Nat.reduceEqDiff, Nat.reduceBEq, Nat.reduceAdd, Nat.reduceLT, ↓reduceIte, tis, fls, rx]
  refine callM 0 cF ?_
  simp -implicitDefEqProofs (maxSteps := 100000) (disch := first | (intros; contradiction) | omega) only [am0, am1, am2, am3, am4, am5, am6, am7, am8, Nat.reduceSub, ↓reduceIte, reduceCtorEq, Nat.reduceEqDiff, Nat.reduceBEq, Nat.reduceAdd, Nat.reduceLT, ↓reduceIte, tis, fls, rx]
  refine callB cH ?_
  simp -implicitDefEqProofs (maxSteps := 100000) (disch := first | (intros; contradiction) | omega) only [am0, am1, am2, am3, am4, am5, am6, am7, am8, Nat.reduceSub, ↓reduceIte, reduceCtorEq, Nat.reduceEqDiff, Nat.reduceBEq, Nat.reduceAdd, Nat.reduceLT, ↓reduceIte, tis, fls, rx]
  refine callB cI ?_
  simp -implicitDefEqProofs (maxSteps := 100000) (disch := first | (intros; contradiction) | omega) only [am0, am1, am2, am3, am4, am5, am6, am7, am8, Nat.reduceSub, ↓reduceIte, reduceCtorEq, Nat.reduceEqDiff, Nat.reduceBEq, Nat.reduceAdd, Nat.reduceLT, ↓reduceIte, tis, fls, rx]
  refine callB cP ?_
  simp -implicitDefEqProofs (maxSteps := 100000) (disch := first | (intros; contradiction) | omega) only [am0, am1, am2, am3, am4, am5, am6, am7, am8, Nat.reduceSub, ↓reduceIte, reduceCtorEq, Nat.reduceEqDiff, Nat.reduceBEq, Nat.reduceAdd, Nat.reduceLT, ↓reduceIte, tis, fls, rx]
  refine callB cE ?_
  simp -implicitDefEqProofs (maxSteps := 100000) (disch := first | (intros; contradiction) | omega) only [am0, am1, am2, am3, am4, am5, am6, am7, am8, Nat.reduceSub, ↓reduceIte, reduceCtorEq, Nat.reduceEqDiff, Nat.reduceBEq, Nat.reduceAdd, Nat.reduceLT, ↓reduceIte, tis, fls, rx]
  refine callB cH ?_
  simp -implicitDefEqProofs (maxSteps := 100000) (disch := first | (intros; contradiction) | omega) only [am0, am1, am2, am3, am4, am5, am6, am7, am8, Nat.reduceSub, ↓reduceIte, reduceCtorEq, Nat.reduceEqDiff, Nat.reduceBEq, Nat.reduceAdd, Nat.reduceLT, ↓reduceIte, tis, fls, rx]
theorem own : ownKnob prog.godebug = none := by kernel_rfl
theorem laidOut : laidOutB prog = true := by kernel_rfl
theorem typ_int {n : Nat} {x : AV} (h : Typed prog n 3 x) : ∃ v, x = .int .i64 v ∧ -9223372036854775808 ≤ v ∧ v ≤ 9223372036854775807 := by
  cases n with
  | zero => exact h.elim
  | succ n =>
    simp only [Typed, underlying3] at h
    obtain ⟨v, rfl, hw⟩ := h
    refine ⟨v, rfl, ?_⟩
    simp [Lit.wf, IntKind.min, IntKind.max, IntKind.bits, IntKind.signed] at hw
    omega
theorem typ_str {n : Nat} {x : AV} (h : Typed prog n 9 x) : ∃ s, x = .str s ∧ s.length ≤ 9223372036854775807 := by
  cases n with
  | zero => exact h.elim
  | succ n => simp only [Typed, underlying9] at h; exact h
theorem typ_bool {n : Nat} {x : AV} (h : Typed prog n 4 x) : ∃ b, x = .bool b := by
  cases n with
  | zero => exact h.elim
  | succ n => simp only [Typed, underlying4] at h; exact h
theorem all_map {α : Type} (f : α → AV) : ∀ xs : List AV, (∀ y ∈ xs, ∃ i, y = f i) → ∃ is : List α, xs = is.map f
  | [], _ => ⟨[], rfl⟩
  | y :: r, h => by
    obtain ⟨i, rfl⟩ := h y (List.mem_cons_self ..)
    obtain ⟨is, rfl⟩ := all_map f r (fun z hz => h z (List.mem_cons_of_mem _ hz))
    exact ⟨i :: is, rfl⟩
theorem co_span : prog.cellsOf 94 = 2 := by kernel_rfl
theorem co_rex : prog.cellsOf 48 = 3 := by kernel_rfl
theorem typ_span {n : Nat} {x : AV} (h : Typed prog n 94 x) : ∃ i, x = eSpan i := by
  cases n with
  | zero => exact h.elim
  | succ n =>
    simp only [Typed, underlying94] at h
    obtain ⟨ys, rfl, hl, hf⟩ := h
    match ys, hl, hf with
    | [a, b], _, hf =>
      obtain ⟨a', rfl, _⟩ := typ_int (hf 0 _ a rfl rfl)
      obtain ⟨b', rfl, _⟩ := typ_int (hf 1 _ b rfl rfl)
      exact ⟨⟨a', b'⟩, rfl⟩
theorem typ_spans {n : Nat} {x : AV} (h : Typed prog n 45 x) : ∃ p : List Span, x = .sl false 2 (p.map eSpan) ∧ p.length ≤ 9223372036854775807 := by
  cases n with
  | zero => exact h.elim
  | succ n =>
    simp only [Typed, underlying45, co_span] at h
    obtain ⟨xs, rfl, hl, hf⟩ := h
    obtain ⟨p, rfl⟩ := all_map eSpan xs (fun y hy => typ_span (hf y hy))
    exact ⟨p, rfl, by simpa [maxLen] using hl⟩
theorem all_mapP {α : Type} (f : α → AV) (Q : α → Prop) : ∀ xs : List AV, (∀ y ∈ xs, ∃ i, y = f i ∧ Q i) → ∃ is : List α, xs = is.map f ∧ ∀ i ∈ is, Q i
  | [], _ => ⟨[], rfl, by simp⟩
  | y :: r, h => by
    obtain ⟨i, rfl, hi⟩ := h y (List.mem_cons_self ..)
    obtain ⟨is, rfl, hr⟩ := all_mapP f Q r (fun z hz => h z (List.mem_cons_of_mem _ hz))
    exact ⟨i :: is, rfl, fun j hj => (List.mem_cons.1 hj).elim (fun e => e ▸ hi) (hr j)⟩
theorem typ_rex : ∀ {n : Nat} {x : AV}, Typed prog n 48 x → ∃ r, x = eRex false r ∧ Lens r
  | 0, x, h => h.elim
  | n + 1, x, h => by
    simp only [Typed, underlying48] at h
    obtain ⟨ys, rfl, hl, hf⟩ := h
    match ys, hl, hf with
    | [a, b, c], _, hf =>
      obtain ⟨k, rfl, _⟩ := typ_int (hf 0 _ a rfl rfl)
      obtain ⟨s, rfl, hs⟩ := typ_spans (hf 1 _ b rfl rfl)
      have hc := hf 2 _ c rfl rfl
      cases n with
      | zero => exact hc.elim
      | succ n =>
        simp only [Typed, underlying46, co_rex] at hc
        obtain ⟨xs, rfl, hl2, hf2⟩ := hc
        obtain ⟨p, rfl, hp⟩ := all_mapP (eRex false) Lens xs (fun y hy => typ_rex (hf2 y hy))
        have hl3 : p.length ≤ 9223372036854775807 := by simpa [maxLen] using hl2
        refine ⟨.mk k s p, by rw [eRex, show prog.cellsOf 48 = 3 from co_rex], .mk _ hs hl3 hp⟩
end Go.Proofs.Ytklmfpikhejemaa.U
