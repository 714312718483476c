/- What functions of the program answer, on values without memory (part 1): conditions stand at each theorem. -/
import Derived.Test.YtklmfpikhejemaaRows
import Derived.Test.YtklmfpikhejemaaAm3
set_option linter.unusedVariables false
set_option linter.unusedSimpArgs false
set_option maxRecDepth 100000
set_option maxHeartbeats 4000000
namespace Go.Proofs.Ytklmfpikhejemaa.U
open Go Go.RowKit Go.Proofs Go.Proofs.Ytklmfpikhejemaa.Am AV Go.Proofs.Try
theorem ti_3 : tinfo prog 3 = { size := 1, bytes := 8, agg := some false, kind := 5, esz := 0, ebytes := 0, eagg := none, alen := 0, fields := [], zero := .int .i64 0, ezero := .undef, zok := true, ezok := false } := by rfl
theorem ti_4 : tinfo prog 4 = { size := 1, bytes := 1, agg := some false, kind := 6, esz := 0, ebytes := 0, eagg := none, alen := 0, fields := [], zero := .bool false, ezero := .undef, zok := true, ezok := false } := by rfl
theorem ti_9 : tinfo prog 9 = { size := 1, bytes := 16, agg := some false, kind := 4, esz := 0, ebytes := 0, eagg := none, alen := 0, fields := [], zero := .str [], ezero := .undef, zok := true, ezok := false } := by rfl
theorem ti_5 : tinfo prog 5 = { size := 1, bytes := 1, agg := some false, kind := 5, esz := 0, ebytes := 0, eagg := none, alen := 0, fields := [], zero := .int .u8 0, ezero := .undef, zok := true, ezok := false } := by rfl
theorem ti_21 : tinfo prog 21 = { size := 1, bytes := 4, agg := some false, kind := 5, esz := 0, ebytes := 0, eagg := none, alen := 0, fields := [], zero := .int .i32 0, ezero := .undef, zok := true, ezok := false } := by rfl
theorem ti_61 : tinfo prog 61 = { size := 1, bytes := 24, agg := some false, kind := 1, esz := 1, ebytes := 1, eagg := some false, alen := 0, fields := [], zero := .sl true 0 [], ezero := .int .u8 0, zok := true, ezok := true } := by rfl
theorem ti_106 : tinfo prog 106 = { size := 1, bytes := 24, agg := some false, kind := 1, esz := 1, ebytes := 1, eagg := some false, alen := 0, fields := [], zero := .sl true 0 [], ezero := .bool false, zok := true, ezok := true } := by rfl
theorem ti_100 : tinfo prog 100 = { size := 256, bytes := 256, agg := some true, kind := 2, esz := 1, ebytes := 1, eagg := some false, alen := 256, fields := [], zero := .arr 1 (List.replicate 256 (.bool false)), ezero := .bool false, zok := true, ezok := true } := by rfl
theorem ti_92 : tinfo prog 92 = { size := 2, bytes := 16, agg := some true, kind := 3, esz := 0, ebytes := 0, eagg := none, alen := 0, fields := [(0, 1, some false), (1, 1, some false)], zero := .agg [.int .i64 0, .int .i64 0], ezero := .undef, zok := true, ezok := false } := by rfl
theorem ti_50 : tinfo prog 50 = { size := 1, bytes := 24, agg := some false, kind := 1, esz := 2, ebytes := 16, eagg := some true, alen := 0, fields := [], zero := .sl true 0 [], ezero := .agg [.int .i64 0, .int .i64 0], zok := true, ezok := true } := by rfl
theorem ti_53 : tinfo prog 53 = { size := 3, bytes := 56, agg := some true, kind := 3, esz := 0, ebytes := 0, eagg := none, alen := 0, fields := [(0, 1, some false), (1, 1, some false), (2, 1, some false)], zero := .agg [.int .i64 0, .sl true 0 [], .sl true 0 []], ezero := .undef, zok := true, ezok := false } := by rfl
theorem ti_51 : tinfo prog 51 = { size := 1, bytes := 24, agg := some false, kind := 1, esz := 3, ebytes := 56, eagg := some true, alen := 0, fields := [], zero := .sl true 0 [], ezero := .agg [.int .i64 0, .sl true 0 [], .sl true 0 []], zok := true, ezok := true } := by rfl
theorem ti_71 : tinfo prog 71 = { size := 4, bytes := 32, agg := some true, kind := 3, esz := 0, ebytes := 0, eagg := none, alen := 0, fields := [(0, 1, some false), (1, 1, some false), (2, 1, some false), (3, 1, some false)], zero := .agg [.int .i64 0, .int .i64 0, .int .i64 0, .int .i64 0], ezero := .undef, zok := true, ezok := false } := by rfl
theorem ti_30 : tinfo prog 30 = { size := 1, bytes := 24, agg := some false, kind := 1, esz := 4, ebytes := 32, eagg := some true, alen := 0, fields := [], zero := .sl true 0 [], ezero := .agg [.int .i64 0, .int .i64 0, .int .i64 0, .int .i64 0], zok := true, ezok := true } := by rfl
theorem ti_68 : tinfo prog 68 = { size := 3, bytes := 24, agg := some true, kind := 3, esz := 0, ebytes := 0, eagg := none, alen := 0, fields := [(0, 1, some false), (1, 1, some false), (2, 1, some false)], zero := .agg [.int .i64 0, .int .i64 0, .int .i64 0], ezero := .undef, zok := true, ezok := false } := by rfl
theorem ti_31 : tinfo prog 31 = { size := 1, bytes := 24, agg := some false, kind := 1, esz := 3, ebytes := 24, eagg := some true, alen := 0, fields := [], zero := .sl true 0 [], ezero := .agg [.int .i64 0, .int .i64 0, .int .i64 0], zok := true, ezok := true } := by rfl
theorem ti_33 : tinfo prog 33 = { size := 9, bytes := 112, agg := some true, kind := 3, esz := 0, ebytes := 0, eagg := none, alen := 0, fields := [(0, 1, some false), (1, 1, some false), (2, 1, some false), (3, 1, some false), (4, 1, some false), (5, 1, some false), (6, 1, some false), (7, 1, some false), (8, 1, some false)], zero := .agg [.sl true 0 [], .str [], .int .i64 0, .int .i64 0, .int .i64 0, .int .i64 0, .int .i64 0, .sl true 0 [], .bool false], ezero := .undef, zok := true, ezok := false } := by rfl
theorem ti_101 : tinfo prog 101 = { size := 256, bytes := 256, agg := some true, kind := 2, esz := 1, ebytes := 1, eagg := some false, alen := 256, fields := [], zero := .arr 1 (List.replicate 256 (.bool false)), ezero := .bool false, zok := true, ezok := true } := by rfl
theorem ti_94 : tinfo prog 94 = { size := 2, bytes := 16, agg := some true, kind := 3, esz := 0, ebytes := 0, eagg := none, alen := 0, fields := [(0, 1, some false), (1, 1, some false)], zero := .agg [.int .i64 0, .int .i64 0], ezero := .undef, zok := true, ezok := false } := by rfl
theorem ti_45 : tinfo prog 45 = { size := 1, bytes := 24, agg := some false, kind := 1, esz := 2, ebytes := 16, eagg := some true, alen := 0, fields := [], zero := .sl true 0 [], ezero := .agg [.int .i64 0, .int .i64 0], zok := true, ezok := true } := by rfl
theorem ti_48 : tinfo prog 48 = { size := 3, bytes := 56, agg := some true, kind := 3, esz := 0, ebytes := 0, eagg := none, alen := 0, fields := [(0, 1, some false), (1, 1, some false), (2, 1, some false)], zero := .agg [.int .i64 0, .sl true 0 [], .sl true 0 []], ezero := .undef, zok := true, ezok := false } := by rfl
theorem ti_46 : tinfo prog 46 = { size := 1, bytes := 24, agg := some false, kind := 1, esz := 3, ebytes := 56, eagg := some true, alen := 0, fields := [], zero := .sl true 0 [], ezero := .agg [.int .i64 0, .sl true 0 [], .sl true 0 []], zok := true, ezok := true } := by rfl
theorem ti_73 : tinfo prog 73 = { size := 4, bytes := 32, agg := some true, kind := 3, esz := 0, ebytes := 0, eagg := none, alen := 0, fields := [(0, 1, some false), (1, 1, some false), (2, 1, some false), (3, 1, some false)], zero := .agg [.int .i64 0, .int .i64 0, .int .i64 0, .int .i64 0], ezero := .undef, zok := true, ezok := false } := by rfl
theorem ti_24 : tinfo prog 24 = { size := 1, bytes := 24, agg := some false, kind := 1, esz := 4, ebytes := 32, eagg := some true, alen := 0, fields := [], zero := .sl true 0 [], ezero := .agg [.int .i64 0, .int .i64 0, .int .i64 0, .int .i64 0], zok := true, ezok := true } := by rfl
theorem ti_87 : tinfo prog 87 = { size := 3, bytes := 24, agg := some true, kind := 3, esz := 0, ebytes := 0, eagg := none, alen := 0, fields := [(0, 1, some false), (1, 1, some false), (2, 1, some false)], zero := .agg [.int .i64 0, .int .i64 0, .int .i64 0], ezero := .undef, zok := true, ezok := false } := by rfl
theorem ti_25 : tinfo prog 25 = { size := 1, bytes := 24, agg := some false, kind := 1, esz := 3, ebytes := 24, eagg := some true, alen := 0, fields := [], zero := .sl true 0 [], ezero := .agg [.int .i64 0, .int .i64 0, .int .i64 0], zok := true, ezok := true } := by rfl
theorem ti_27 : tinfo prog 27 = { size := 9, bytes := 112, agg := some true, kind := 3, esz := 0, ebytes := 0, eagg := none, alen := 0, fields := [(0, 1, some false), (1, 1, some false), (2, 1, some false), (3, 1, some false), (4, 1, some false), (5, 1, some false), (6, 1, some false), (7, 1, some false), (8, 1, some false)], zero := .agg [.sl true 0 [], .str [], .int .i64 0, .int .i64 0, .int .i64 0, .int .i64 0, .int .i64 0, .sl true 0 [], .bool false], ezero := .undef, zok := true, ezok := false } := by rfl
theorem ub_3 : prog.underlying 3 = some (.int .i64) := by kernel_rfl
theorem ub_4 : prog.underlying 4 = some .bool := by kernel_rfl
theorem ub_5 : prog.underlying 5 = some (.int .u8) := by kernel_rfl
theorem ub_21 : prog.underlying 21 = some (.int .i32) := by kernel_rfl
theorem fk_92 : flatK prog 92 = some [5, 5] := by kernel_rfl
theorem fk_71 : flatK prog 71 = some [5, 5, 5, 5] := by kernel_rfl
theorem fk_68 : flatK prog 68 = some [5, 5, 5] := by kernel_rfl
theorem fk_94 : flatK prog 94 = some [5, 5] := by kernel_rfl
theorem fk_73 : flatK prog 73 = some [5, 5, 5, 5] := by kernel_rfl
theorem fk_87 : flatK prog 87 = some [5, 5, 5] := by kernel_rfl
theorem tis : type_of% @ti_3 ∧ type_of% @ti_4 ∧ type_of% @ti_9 ∧ type_of% @ti_5 ∧ type_of% @ti_21 ∧ type_of% @ti_61 ∧ type_of% @ti_106 ∧ type_of% @ti_100 ∧ type_of% @ti_92 ∧ type_of% @ti_50 ∧ type_of% @ti_53 ∧ type_of% @ti_51 ∧ type_of% @ti_71 ∧ type_of% @ti_30 ∧ type_of% @ti_68 ∧ type_of% @ti_31 ∧ type_of% @ti_33 ∧ type_of% @ti_101 ∧ type_of% @ti_94 ∧ type_of% @ti_45 ∧ type_of% @ti_48 ∧ type_of% @ti_46 ∧ type_of% @ti_73 ∧ type_of% @ti_24 ∧ type_of% @ti_87 ∧ type_of% @ti_25 ∧ type_of% @ti_27 ∧ type_of% @ub_3 ∧ type_of% @ub_4 ∧ type_of% @ub_5 ∧ type_of% @ub_21 ∧ type_of% @fk_92 ∧ type_of% @fk_71 ∧ type_of% @fk_68 ∧ type_of% @fk_94 ∧ type_of% @fk_73 ∧ type_of% @fk_87 := ⟨ti_3, ti_4, ti_9, ti_5, ti_21, ti_61, ti_106, ti_100, ti_92, ti_50, ti_53, ti_51, ti_71, ti_30, ti_68, ti_31, ti_33, ti_101, ti_94, ti_45, ti_48, ti_46, ti_73, ti_24, ti_87, ti_25, ti_27, ub_3, ub_4, ub_5, ub_21, fk_92, fk_71, fk_68, fk_94, fk_73, fk_87⟩
structure Span where
  lo : Int
  hi : Int
  deriving DecidableEq
structure Ins where
  op : Int
  a : Int
  b : Int
  to : Int
  deriving DecidableEq
structure Token where
  rule : Int
  frm : Int
  to : Int
  deriving DecidableEq
instance : Inhabited Span := ⟨⟨0, 0⟩⟩
instance : Inhabited Ins := ⟨⟨0, 0, 0, 0⟩⟩
instance : Inhabited Token := ⟨⟨0, 0, 0⟩⟩
def eSpan (x : Span) : AV := .agg [.int .i64 x.lo, .int .i64 x.hi]
def eIns (x : Ins) : AV := .agg [.int .i64 x.op, .int .i64 x.a, .int .i64 x.b, .int .i64 x.to]
def eToken (x : Token) : AV := .agg [.int .i64 x.rule, .int .i64 x.frm, .int .i64 x.to]
/-- In a list of such nothing is own. -/
structure Flat {α : Type} (f : α → AV) (n : Nat) : Prop where
  er : ∀ x, erase (f x) = f x
  de : ∀ x, dead (f x) = f x
  pl : ∀ x, plain (f x) = true
  cl : ∀ x, closed (f x) = true
  nc : ∀ x, ncells (f x) = n
section
variable {α : Type} {f : α → AV} {n : Nat}
theorem Flat.eraseL (h : Flat f n) (l : List α) : eraseL (l.map f) = l.map f := by rw [eraseL_map, List.map_map]; exact List.map_congr_left fun x _ => h.er x
theorem Flat.deadL (h : Flat f n) (l : List α) : deadL (l.map f) = l.map f := by rw [deadL_map, List.map_map]; exact List.map_congr_left fun x _ => h.de x
theorem Flat.plainL (h : Flat f n) (l : List α) : plainL (l.map f) = true := by rw [plainL_all]; simp [h.pl]
theorem Flat.closedL (h : Flat f n) (l : List α) : closedL (l.map f) = true := by rw [closedL_all]; simp [h.cl]
theorem plainL_app (a b : List AV) : plainL (a ++ b) = (plainL a && plainL b) := by simp [plainL_all]
theorem closedL_app (a b : List AV) : closedL (a ++ b) = (closedL a && closedL b) := by simp [closedL_all]
theorem eraseL_app (a b : List AV) : eraseL (a ++ b) = eraseL a ++ eraseL b := by simp [eraseL_map]
theorem closedL_rep (k : Nat) (x : AV) (h : closed x = true) : closedL (List.replicate k x) = true := by rw [closedL_all]; simp [h]
theorem plainL_rep (k : Nat) (x : AV) (h : plain x = true) : plainL (List.replicate k x) = true := by rw [plainL_all]; simp [h]
end
theorem flSpan : Flat eSpan 2 := ⟨fun _ => rfl, fun _ => rfl, fun _ => rfl, fun _ => rfl, fun _ => rfl⟩
theorem flIns : Flat eIns 4 := ⟨fun _ => rfl, fun _ => rfl, fun _ => rfl, fun _ => rfl, fun _ => rfl⟩
theorem flToken : Flat eToken 3 := ⟨fun _ => rfl, fun _ => rfl, fun _ => rfl, fun _ => rfl, fun _ => rfl⟩
def eInt (x : Int) : AV := .int .i64 x
def eBool (x : Bool) : AV := .bool x
def eStr (x : List UInt8) : AV := .str x
theorem flInt : Flat eInt 1 := ⟨fun _ => rfl, fun _ => rfl, fun _ => rfl, fun _ => rfl, fun _ => rfl⟩
theorem flBool : Flat eBool 1 := ⟨fun _ => rfl, fun _ => rfl, fun _ => rfl, fun _ => rfl, fun _ => rfl⟩
theorem flStr : Flat eStr 1 := ⟨fun _ => rfl, fun _ => rfl, fun _ => rfl, fun _ => rfl, fun _ => rfl⟩
theorem fls : (∀ l : List Span, eraseL (l.map eSpan) = l.map eSpan) ∧ (∀ l : List Span, deadL (l.map eSpan) = l.map eSpan) ∧ (∀ l : List Span, plainL (l.map eSpan) = true) ∧ (∀ l : List Span, closedL (l.map eSpan) = true) ∧
    (∀ l : List Ins, eraseL (l.map eIns) = l.map eIns) ∧ (∀ l : List Ins, deadL (l.map eIns) = l.map eIns) ∧ (∀ l : List Ins, plainL (l.map eIns) = true) ∧ (∀ l : List Ins, closedL (l.map eIns) = true) ∧
    (∀ l : List Token, eraseL (l.map eToken) = l.map eToken) ∧ (∀ l : List Token, deadL (l.map eToken) = l.map eToken) ∧ (∀ l : List Token, plainL (l.map eToken) = true) ∧ (∀ l : List Token, closedL (l.map eToken) = true) ∧
    (∀ l : List Int, eraseL (l.map eInt) = l.map eInt) ∧ (∀ l : List Int, deadL (l.map eInt) = l.map eInt) ∧ (∀ l : List Int, plainL (l.map eInt) = true) ∧ (∀ l : List Int, closedL (l.map eInt) = true) ∧
    (∀ l : List Bool, eraseL (l.map eBool) = l.map eBool) ∧ (∀ l : List Bool, deadL (l.map eBool) = l.map eBool) ∧ (∀ l : List Bool, plainL (l.map eBool) = true) ∧ (∀ l : List Bool, closedL (l.map eBool) = true) ∧
    (∀ l : List (List UInt8), eraseL (l.map eStr) = l.map eStr) ∧ (∀ l : List (List UInt8), deadL (l.map eStr) = l.map eStr) ∧ (∀ l : List (List UInt8), plainL (l.map eStr) = true) ∧ (∀ l : List (List UInt8), closedL (l.map eStr) = true) :=
  ⟨flSpan.eraseL, flSpan.deadL, flSpan.plainL, flSpan.closedL, flIns.eraseL, flIns.deadL, flIns.plainL, flIns.closedL, flToken.eraseL, flToken.deadL, flToken.plainL, flToken.closedL,
    flInt.eraseL, flInt.deadL, flInt.plainL, flInt.closedL, flBool.eraseL, flBool.deadL, flBool.plainL, flBool.closedL, flStr.eraseL, flStr.deadL, flStr.plainL, flStr.closedL⟩

/-! A list that is built from the front. -/
theorem build_get {α : Type} (f : α → AV) (z : AV) (p : List α) (i : Nat) (h : i < p.length) : ((p.take i).map f ++ List.replicate (p.length - i) z)[i]? = some z := by
  rw [List.getElem?_append_right (by simp; omega)]
  have h1 : i - ((p.take i).map f).length = 0 := by simp; omega
  rw [h1, show p.length - i = (p.length - (i + 1)) + 1 by omega, List.replicate_succ]
  rfl
theorem build_set {α : Type} (f : α → AV) (z : AV) (p : List α) (i : Nat) (h : i < p.length) : ((p.take i).map f ++ List.replicate (p.length - i) z).set i (f p[i]) = (p.take (i + 1)).map f ++ List.replicate (p.length - (i + 1)) z := by
  rw [List.set_append_right _ _ (by simp; omega)]
  have h1 : i - ((p.take i).map f).length = 0 := by simp; omega
  rw [h1, show p.length - i = (p.length - (i + 1)) + 1 by omega, List.replicate_succ, List.set_cons_zero, List.take_succ_eq_append_getElem h, List.map_append, List.append_assoc]
  rfl
theorem build_len {α : Type} (f : α → AV) (z : AV) (p : List α) (i : Nat) (h : i ≤ p.length) : ((p.take i).map f ++ List.replicate (p.length - i) z).length = p.length := by simp; omega
/-! A list that is turned from the front. -/
theorem turn_get {α : Type} (A : List AV) (f : α → AV) (p : List α) (i : Nat) (hA : A.length = i) (h : i < p.length) : (A ++ (p.drop i).map f)[i]? = some (f p[i]) := by
  rw [List.getElem?_append_right (by omega), hA, Nat.sub_self]; simp [h]
theorem turn_set {α : Type} (A : List AV) (f : α → AV) (p : List α) (i : Nat) (y : AV) (hA : A.length = i) (h : i < p.length) : (A ++ (p.drop i).map f).set i y = A ++ [y] ++ (p.drop (i + 1)).map f := by
  rw [List.set_append_right _ _ (by omega), hA, Nat.sub_self, List.drop_eq_getElem_cons h, List.map_cons, List.set_cons_zero, List.append_assoc]
  rfl
/-- A place where one can go on. -/
def doorB (p : List Ins) (i : Nat) : Bool := match p[i]? with
  | some x => x.op == 2 || (x.op == 1 && (match p[i + 1]? with | some y => y.op == 2 | none => false))
  | none => false
def doorI (p : List Ins) (i : Int) : Bool := decide (0 ≤ i) && doorB p i.toNat
def insB (p : List Ins) (i : Nat) : Bool := match p[i]? with
  | some x => (x.op == 1 && (decide (0 ≤ x.a ∧ x.a ≤ 4 ∧ x.b = 0 ∧ x.to = 0) && doorB p i)) || ((x.op == 2 || x.op == 4) && decide (x.a = 0 ∧ x.b = 0 ∧ x.to = 0)) ||
      (x.op == 3 && (decide (0 ≤ x.a ∧ x.a ≤ x.b ∧ x.b ≤ 255) && doorI p x.to))
  | none => false
def lastB (p : List Ins) : Bool := match p.getLast? with | some x => x.op == 4 | none => false
def progB (p : List Ins) : Bool := decide (1 ≤ p.length ∧ p.length ≤ 1500) && (doorB p 0 && (lastB p && (List.range p.length).all (insB p)))
theorem doorB_lt {p : List Ins} {i : Nat} (h : doorB p i = true) : i < p.length := by
  unfold doorB at h
  split at h
  · rename_i x e; exact (List.getElem?_eq_some_iff.1 e).1
  · cases h
theorem doorB_at {p : List Ins} {i : Nat} (h : i < p.length) : doorB p i = (p[i].op == 2 || (p[i].op == 1 && (match p[i + 1]? with | some y => y.op == 2 | none => false))) := by
  simp [doorB, h]
theorem insB_at {p : List Ins} {i : Nat} (h : i < p.length) : insB p i = ((p[i].op == 1 && (decide (0 ≤ p[i].a ∧ p[i].a ≤ 4 ∧ p[i].b = 0 ∧ p[i].to = 0) && doorB p i)) || ((p[i].op == 2 || p[i].op == 4) && decide (p[i].a = 0 ∧ p[i].b = 0 ∧ p[i].to = 0)) ||
      (p[i].op == 3 && (decide (0 ≤ p[i].a ∧ p[i].a ≤ p[i].b ∧ p[i].b ≤ 255) && doorI p p[i].to))) := by
  simp [insB, h]
theorem doorI_out {p : List Ins} {i : Int} (h : ¬ (0 ≤ i ∧ i < p.length)) : doorI p i = false := by
  unfold doorI
  by_cases h0 : 0 ≤ i
  · have : p.length ≤ i.toNat := by omega
    simp [doorB, List.getElem?_eq_none this]
  · simp [h0]
theorem lastB_at {p : List Ins} (h : 0 < p.length) : lastB p = (p[p.length - 1].op == 4) := by
  have h1 : p.length - 1 < p.length := by omega
  simp [lastB, List.getLast?_eq_getElem?, h1]

theorem progB_false1 {p : List Ins} (h : ¬ (1 ≤ (p.length : Int) ∧ (p.length : Int) ≤ 1500)) : progB p = false := by
  have : ¬ (1 ≤ p.length ∧ p.length ≤ 1500) := by omega
  simp only [progB, this, decide_false, Bool.false_and]
theorem progB_false2 {p : List Ins} (h : doorB p 0 = false) : progB p = false := by simp [progB, h]
theorem progB_false3 {p : List Ins} (h : lastB p = false) : progB p = false := by simp [progB, h]
theorem progB_false4 {p : List Ins} {i : Nat} (hi : i < p.length) (h : insB p i = false) : progB p = false := by
  have : (List.range p.length).all (insB p) = false := by
    rw [List.all_eq_false]; exact ⟨i, by simpa using hi, by simp [h]⟩
  simp [progB, this]
theorem progB_true {p : List Ins} (h1 : 1 ≤ (p.length : Int) ∧ (p.length : Int) ≤ 1500) (h2 : doorB p 0 = true) (h3 : lastB p = true) (h4 : ∀ i, i < p.length → insB p i = true) : progB p = true := by
  have : (1 ≤ p.length ∧ p.length ≤ 1500) := by omega
  simp only [progB, this, h2, h3, Bool.and_eq_true, decide_true, Bool.true_and]
  simpa using h4
theorem doorI_zero (p : List Ins) : doorI p 0 = doorB p 0 := by simp [doorI]
theorem doorI_nat (p : List Ins) (i : Nat) : doorI p (i : Int) = doorB p i := by simp [doorI]
theorem progB_len {p : List Ins} (h : progB p = true) : 1 ≤ p.length ∧ p.length ≤ 1500 := by
  simp only [progB, Bool.and_eq_true, decide_eq_true_eq] at h; exact h.1
structure Feed where
  prog : List Ins
  buf : List UInt8
  base : Int
  pc : Int
  at_ : Int
  rule : Int
  to : Int
  out : List Token
  stuck : Bool
  deriving DecidableEq
def eFeed (o : Bool) (f : Feed) : AV := .agg [.sl o 4 (f.prog.map eIns), .str f.buf, .int .i64 f.base, .int .i64 f.pc, .int .i64 f.at_, .int .i64 f.rule, .int .i64 f.to, .sl o 3 (f.out.map eToken), .bool f.stuck]
/-- The tokens follow one another: where they end. -/
def outEnd : List Token → Int → Option Int
  | [], e => some e
  | t :: r, e => if t.frm = e ∧ e < t.to ∧ 0 ≤ t.rule ∧ t.rule ≤ 4 then outEnd r t.to else none
def feedB (f : Feed) : Bool := progB f.prog && (decide (0 ≤ f.base ∧ f.base + f.buf.length ≤ 200) && (doorI f.prog f.pc && (decide (0 ≤ f.at_ ∧ f.at_ ≤ f.buf.length ∧ (f.at_ = 0 → f.pc = 0) ∧ 0 ≤ f.to ∧ f.to ≤ f.at_ ∧ -1 ≤ f.rule ∧ f.rule ≤ 4 ∧ (f.rule = -1 ↔ f.to = 0)) && outEnd f.out 0 == some f.base)))
theorem outEnd_app (a : List Token) (t : Token) (e : Int) : outEnd (a ++ [t]) e = (match outEnd a e with | some e' => outEnd [t] e' | none => none) := by
  induction a generalizing e with
  | nil => rfl
  | cons x a ih =>
    simp only [List.cons_append, outEnd]
    split
    · exact ih _
    · rfl
theorem outEnd_take {l : List Token} {i : Nat} {e e' : Int} (h : i < l.length) (h1 : outEnd (l.take i) e = some e') (h2 : l[i].frm = e' ∧ e' < l[i].to ∧ 0 ≤ l[i].rule ∧ l[i].rule ≤ 4) : outEnd (l.take (i + 1)) e = some l[i].to := by
  rw [List.take_succ_eq_append_getElem h, outEnd_app, h1]
  simp [outEnd, h2]
theorem outEnd_fail {l : List Token} {i : Nat} {e e' : Int} (h : i < l.length) (h1 : outEnd (l.take i) e = some e') (h2 : ¬ (l[i].frm = e' ∧ e' < l[i].to ∧ 0 ≤ l[i].rule ∧ l[i].rule ≤ 4)) : outEnd l e = none := by
  have : l = l.take i ++ l[i] :: l.drop (i + 1) := by rw [← List.drop_eq_getElem_cons h, List.take_append_drop]
  rw [this]
  generalize l.take i = a at h1
  generalize l[i] = x at h2
  induction a generalizing e with
  | nil =>
    simp only [outEnd, Option.some.injEq] at h1; subst h1
    simp only [List.nil_append, outEnd]
    rw [if_neg h2]
  | cons y a ih =>
    simp only [List.cons_append, outEnd] at h1 ⊢
    split
    · rename_i hy; rw [if_pos hy] at h1; exact ih h1
    · rfl
/-- laws.toIns -/
theorem fits_toIns (x : Ins) : Fits prog 47 [eIns x] (eIns x) [] := by
  refine fits_of_cell 2 71 [] [0, 1, 2, 3] func47 rfl rfl rfl (by show 2 < 17; decide) (by show 1 ≤ 17; decide) (by rfl) (by rfl) (by show 0 ≤ 1; decide) (by rfl) (run_of ?_)
  simp -implicitDefEqProofs only [am0, am1, am2, am3, am4, am5, am6, am7, am8, Nat.reduceSub, ↓reduceIte, reduceCtorEq, Nat.reduceEqDiff, Nat.reduceBEq, Nat.reduceAdd, Nat.reduceLT, ↓reduceIte, tis, eIns]
/-- laws.eqIns -/
theorem fits_eqIns (x y : Ins) : Fits prog 49 [eIns x, eIns y] (.bool (decide (x = y))) [] := by
  refine fits_of_code [4] [] [0, 1, 2, 3, 4, 9, 14, 19, 24] func49 rfl rfl rfl (by rfl) (by show 2 ≤ 25; decide) (by rfl) (by rfl) (by show 0 ≤ 2; decide) (by rfl) (run_of ?_)
  obtain ⟨a0, a1, a2, a3⟩ := x
  obtain ⟨b0, b1, b2, b3⟩ := y
  by_cases h0 : a0 = b0
  case neg =>
    simp -implicitDefEqProofs (disch := first | (intros; contradiction) | omega) only [am0, am1, am2, am3, am4, am5, am6, am7, am8, Nat.reduceSub, ↓reduceIte, reduceCtorEq, Nat.reduceEqDiff, Nat.reduceBEq, Nat.reduceAdd, Nat.reduceLT, ↓reduceIte, tis, eIns, h0]
    simp [h0]
  by_cases h1 : a1 = b1
  case neg =>
    simp -implicitDefEqProofs (disch := first | (intros; contradiction) | omega) only [am0, am1, am2, am3, am4, am5, am6, am7, am8, Nat.reduceSub, ↓reduceIte, reduceCtorEq, Nat.reduceEqDiff, Nat.reduceBEq, Nat.reduceAdd, Nat.reduceLT, ↓reduceIte, tis, eIns, h0, h1]
    simp [h1]
  by_cases h2 : a2 = b2
  case neg =>
    simp -implicitDefEqProofs (disch := first | (intros; contradiction) | omega) only [am0, am1, am2, am3, am4, am5, am6, am7, am8, Nat.reduceSub, ↓reduceIte, reduceCtorEq, Nat.reduceEqDiff, Nat.reduceBEq, Nat.reduceAdd, Nat.reduceLT, ↓reduceIte, tis, eIns, h0, h1, h2]
    simp [h2]
  by_cases h3 : a3 = b3
  case neg =>
    simp -implicitDefEqProofs (disch := first | (intros; contradiction) | omega) only [am0, am1, am2, am3, am4, am5, am6, am7, am8, Nat.reduceSub, ↓reduceIte, reduceCtorEq, Nat.reduceEqDiff, Nat.reduceBEq, Nat.reduceAdd, Nat.reduceLT, ↓reduceIte, tis, eIns, h0, h1, h2, h3]
    simp [h3]
  simp -implicitDefEqProofs (disch := first | (intros; contradiction) | omega) only [am0, am1, am2, am3, am4, am5, am6, am7, am8, Nat.reduceSub, ↓reduceIte, reduceCtorEq, Nat.reduceEqDiff, Nat.reduceBEq, Nat.reduceAdd, Nat.reduceLT, ↓reduceIte, tis, eIns, h0, h1, h2, h3]
/-- laws.szInsS -/
theorem fits_szInsS (p : List Ins) (n : Int) (hp : p.length ≤ 9223372036854775807) (hn : n ≤ 1048576) (hn0 : 0 ≤ n) : Fits prog 18 [.sl false 4 (p.map eIns), .int .i64 n] (.int .i64 (if n - p.length < 0 then -1 else n - p.length)) [] := by
  refine fits_of_code [4] [] [0, 1, 4, 10] func18 rfl rfl rfl (by rfl) (by show 2 ≤ 12; decide) (by rfl) (by rfl) (by show 0 ≤ 2; decide) (by rfl) (run_of ?_)
  by_cases hl : n - p.length < 0
  · simp -implicitDefEqProofs (disch := first | (intros; contradiction) | omega) only [am0, am1, am2, am3, am4, am5, am6, am7, am8, Nat.reduceSub, ↓reduceIte, reduceCtorEq, Nat.reduceEqDiff, Nat.reduceBEq, Nat.reduceAdd, Nat.reduceLT, ↓reduceIte, tis, hl]
  · simp -implicitDefEqProofs (disch := first | (intros; contradiction) | omega) only [am0, am1, am2, am3, am4, am5, am6, am7, am8, Nat.reduceSub, ↓reduceIte, reduceCtorEq, Nat.reduceEqDiff, Nat.reduceBEq, Nat.reduceAdd, Nat.reduceLT, ↓reduceIte, tis, hl]
/-- laws.toInsS -/
theorem fits_toInsS (p : List Ins) (hp : p.length ≤ 1048576) : Fits prog 20 [.sl false 4 (p.map eIns)] (.sl true 4 (p.map eIns)) [] := by
  refine fits_of_code [2] [] [0, 2, 3, 4, 11] func20 rfl rfl rfl (by rfl) (by show 1 ≤ 23; decide) (by rfl) (by rfl) (by show 0 ≤ 1; decide) (by rfl) (run_of ?_)
  simp -implicitDefEqProofs (disch := first | (intros; contradiction) | omega) only [am0, am1, am2, am3, am4, am5, am6, am7, am8, Nat.reduceSub, ↓reduceIte, reduceCtorEq, Nat.reduceEqDiff, Nat.reduceBEq, Nat.reduceAdd, Nat.reduceLT, ↓reduceIte, tis]
  refine run_loop (α := Nat) (fun i => i ≤ p.length) (fun i => [(0, .sl false 4 (p.map eIns)), (3, .sl true 4 ((p.take i).map eIns ++ List.replicate (p.length - i) (eIns ⟨0, 0, 0, 0⟩))), (4, .int .i64 i)]) (fun i => p.length - i) 0 (Nat.zero_le _) ?_ ?_
  · simp -implicitDefEqProofs (disch := first | (intros; contradiction) | omega) only [am0, am1, am2, am3, am4, am5, am6, am7, am8, Nat.reduceSub, ↓reduceIte, reduceCtorEq, Nat.reduceEqDiff, Nat.reduceBEq, Nat.reduceAdd, Nat.reduceLT, ↓reduceIte, eIns]
  · intro i hi'
    by_cases hi : i < p.length
    · have g2 := build_get eIns (eIns ⟨0, 0, 0, 0⟩) p i hi
      have g3 := build_set eIns (eIns ⟨0, 0, 0, 0⟩) p i hi
      have g4 := build_len eIns (eIns ⟨0, 0, 0, 0⟩) p i hi'
      simp only [eIns] at g2 g3 g4
      simp -implicitDefEqProofs (disch := first | (intros; contradiction) | omega) only [am0, am1, am2, am3, am4, am5, am6, am7, am8, Nat.reduceSub, ↓reduceIte, reduceCtorEq, Nat.reduceEqDiff, Nat.reduceBEq, Nat.reduceAdd, Nat.reduceLT, ↓reduceIte, tis, eIns]
      refine callb_of (fits_toIns p[i]) (by simp -implicitDefEqProofs (disch := first | (intros; contradiction) | omega) only [am0, am1, am2, am3, am4, am5, am6, am7, am8, Nat.reduceSub, ↓reduceIte, reduceCtorEq, Nat.reduceEqDiff, Nat.reduceBEq, Nat.reduceAdd, Nat.reduceLT, ↓reduceIte, tis, eIns]) (.inl rfl) rfl ?_
      simp -implicitDefEqProofs (disch := first | (intros; contradiction) | omega) only [am0, am1, am2, am3, am4, am5, am6, am7, am8, Nat.reduceSub, ↓reduceIte, reduceCtorEq, Nat.reduceEqDiff, Nat.reduceBEq, Nat.reduceAdd, Nat.reduceLT, ↓reduceIte, tis, eIns, g2, g3, g4]
      refine round_normal (i + 1) (by omega) ?_ (by show p.length - (i + 1) < p.length - i; omega)
      simp -implicitDefEqProofs (disch := first | (intros; contradiction) | omega) only [am0, am1, am2, am3, am4, am5, am6, am7, am8, Nat.reduceSub, ↓reduceIte, reduceCtorEq, Nat.reduceEqDiff, Nat.reduceBEq, Nat.reduceAdd, Nat.reduceLT, ↓reduceIte, eIns]
    · obtain rfl : i = p.length := by omega
      simp -implicitDefEqProofs (disch := first | (intros; contradiction) | omega) only [am0, am1, am2, am3, am4, am5, am6, am7, am8, Nat.reduceSub, ↓reduceIte, reduceCtorEq, Nat.reduceEqDiff, Nat.reduceBEq, Nat.reduceAdd, Nat.reduceLT, ↓reduceIte, tis]
/-- laws.eqInsS -/
theorem fits_eqInsS (p q : List Ins) (hp : p.length ≤ 1048576) (hq : q.length ≤ 1048576) : Fits prog 22 [.sl false 4 (p.map eIns), .sl false 4 (q.map eIns)] (.bool (decide (p = q))) [] := by
  refine fits_of_code [4] [] [0, 1, 4, 5, 10, 14, 26] func22 rfl rfl rfl (by rfl) (by show 2 ≤ 27; decide) (by rfl) (by rfl) (by show 0 ≤ 2; decide) (by rfl) (run_of ?_)
  by_cases hl : p.length = q.length
  · simp -implicitDefEqProofs (disch := first | (intros; contradiction) | omega) only [am0, am1, am2, am3, am4, am5, am6, am7, am8, Nat.reduceSub, ↓reduceIte, reduceCtorEq, Nat.reduceEqDiff, Nat.reduceBEq, Nat.reduceAdd, Nat.reduceLT, ↓reduceIte, tis]
    refine run_loop (α := Nat) (fun i => i ≤ p.length ∧ p.take i = q.take i) (fun i => [(0, .sl false 4 (p.map eIns)), (1, .sl false 4 (q.map eIns)), (5, .int .i64 i)]) (fun i => p.length - i) 0 ⟨Nat.zero_le _, by simp⟩ ?_ ?_
    · simp -implicitDefEqProofs (disch := first | (intros; contradiction) | omega) only [am0, am1, am2, am3, am4, am5, am6, am7, am8, Nat.reduceSub, ↓reduceIte, reduceCtorEq, Nat.reduceEqDiff, Nat.reduceBEq, Nat.reduceAdd, Nat.reduceLT, ↓reduceIte, tis]
    · rintro i ⟨h1, h2⟩
      by_cases hi : i < p.length
      · simp -implicitDefEqProofs (disch := first | (intros; contradiction) | omega) only [am0, am1, am2, am3, am4, am5, am6, am7, am8, Nat.reduceSub, ↓reduceIte, reduceCtorEq, Nat.reduceEqDiff, Nat.reduceBEq, Nat.reduceAdd, Nat.reduceLT, ↓reduceIte, tis, eIns]
        refine ⟨by kernel_rfl, ?_⟩
        refine call_of (fits_eqIns p[i] q[i]) (by simp -implicitDefEqProofs (disch := first | (intros; contradiction) | omega) only [am0, am1, am2, am3, am4, am5, am6, am7, am8, Nat.reduceSub, ↓reduceIte, reduceCtorEq, Nat.reduceEqDiff, Nat.reduceBEq, Nat.reduceAdd, Nat.reduceLT, ↓reduceIte, tis, eIns]) (.inl rfl) rfl ?_
        by_cases h : p[i] = q[i]
        · simp -implicitDefEqProofs (disch := first | (intros; contradiction) | omega) only [am0, am1, am2, am3, am4, am5, am6, am7, am8, Nat.reduceSub, ↓reduceIte, reduceCtorEq, Nat.reduceEqDiff, Nat.reduceBEq, Nat.reduceAdd, Nat.reduceLT, ↓reduceIte, tis, h]
          refine round_normal (i + 1) ⟨by omega, ?_⟩ ?_ (by show p.length - (i + 1) < p.length - i; omega)
          · rw [List.take_succ_eq_append_getElem hi, List.take_succ_eq_append_getElem (by omega : i < q.length), h2, h]
          · simp -implicitDefEqProofs (disch := first | (intros; contradiction) | omega) only [am0, am1, am2, am3, am4, am5, am6, am7, am8, Nat.reduceSub, ↓reduceIte, reduceCtorEq, Nat.reduceEqDiff, Nat.reduceBEq, Nat.reduceAdd, Nat.reduceLT, ↓reduceIte, tis]
        · have hne : p ≠ q := by rintro rfl; exact h rfl
          simp -implicitDefEqProofs (disch := first | (intros; contradiction) | omega) only [am0, am1, am2, am3, am4, am5, am6, am7, am8, Nat.reduceSub, ↓reduceIte, reduceCtorEq, Nat.reduceEqDiff, Nat.reduceBEq, Nat.reduceAdd, Nat.reduceLT, ↓reduceIte, tis, h, hne]
      · obtain rfl : i = p.length := by omega
        have hpq : p = q := by rwa [List.take_of_length_le (Nat.le_refl _), List.take_of_length_le (by omega)] at h2
        simp -implicitDefEqProofs (disch := first | (intros; contradiction) | omega) only [am0, am1, am2, am3, am4, am5, am6, am7, am8, Nat.reduceSub, ↓reduceIte, reduceCtorEq, Nat.reduceEqDiff, Nat.reduceBEq, Nat.reduceAdd, Nat.reduceLT, ↓reduceIte, tis, hpq]
  · have hne : p ≠ q := fun h => hl (by rw [h])
    simp -implicitDefEqProofs (disch := first | (intros; contradiction) | omega) only [am0, am1, am2, am3, am4, am5, am6, am7, am8, Nat.reduceSub, ↓reduceIte, reduceCtorEq, Nat.reduceEqDiff, Nat.reduceBEq, Nat.reduceAdd, Nat.reduceLT, ↓reduceIte, tis, hne]
/-- The marks that are put into n such from k on. -/
def mkIns (k : Int) : Ins := ⟨k, k + 1, k + 2, k + 3⟩
def mkInss (n : Nat) (k : Int) : List Ins := (List.range n).map fun (i : Nat) => mkIns (k + 4 * (i : Int))
theorem mkInss_succ (n : Nat) (k : Int) : mkInss (n + 1) k = mkInss n k ++ [mkIns (k + 4 * n)] := by simp [mkInss, List.range_succ]
theorem mkInss_len (n : Nat) (k : Int) : (mkInss n k).length = n := by simp [mkInss]
/-- laws.markInsS -/
theorem fits_markInsS (p : List Ins) (k : Int) (hp : p.length ≤ 1048576) (h0 : 0 ≤ k) (hk : k ≤ 1152921504606846976) : Fits prog 23 [.sl true 4 (p.map eIns), .int .i64 k] (.int .i64 (k + 4 * p.length)) [.sl true 4 ((mkInss p.length k).map eIns)] := by
  refine fits_of_code [4] [0] [0, 1, 4, 5, 9] func23 rfl rfl rfl (by rfl) (by show 2 ≤ 41; decide) (by rfl) (by rfl) (by show 1 ≤ 2; decide) (by rfl) (run_of ?_)
  simp -implicitDefEqProofs (disch := first | (intros; contradiction) | omega) only [am0, am1, am2, am3, am4, am5, am6, am7, am8, Nat.reduceSub, ↓reduceIte, reduceCtorEq, Nat.reduceEqDiff, Nat.reduceBEq, Nat.reduceAdd, Nat.reduceLT, ↓reduceIte, tis]
  refine run_loop (α := Nat) (fun i => i ≤ p.length) (fun i => [(0, .sl true 4 ((mkInss i k).map eIns ++ (p.drop i).map eIns)), (1, .int .i64 (k + 4 * i)), (5, .int .i64 i)]) (fun i => p.length - i) 0 (Nat.zero_le _) ?_ ?_
  · simp -implicitDefEqProofs (disch := first | (intros; contradiction) | omega) only [am0, am1, am2, am3, am4, am5, am6, am7, am8, Nat.reduceSub, ↓reduceIte, reduceCtorEq, Nat.reduceEqDiff, Nat.reduceBEq, Nat.reduceAdd, Nat.reduceLT, ↓reduceIte, tis, mkInss]
    try simp
  · intro i hi'
    have hA : ((mkInss i k).map eIns).length = i := by simp [mkInss_len]
    have hL : ((mkInss i k).map eIns ++ (p.drop i).map eIns).length = p.length := by simp [mkInss_len]; omega
    by_cases hi : i < p.length
    · have g1 := turn_get _ eIns p i hA hi
      have g2 := fun y => turn_set _ eIns p i y hA hi
      have g3 : ∀ y, ((mkInss i k).map eIns ++ [y] ++ (p.drop (i + 1)).map eIns)[i]? = some y := fun y => by
        rw [List.append_assoc, List.getElem?_append_right (by omega), hA, Nat.sub_self]; rfl
      have g4 : ∀ y z, ((mkInss i k).map eIns ++ [y] ++ (p.drop (i + 1)).map eIns).set i z = (mkInss i k).map eIns ++ [z] ++ (p.drop (i + 1)).map eIns := fun y z => by
        rw [List.append_assoc, List.set_append_right _ _ (by omega), hA, Nat.sub_self]; simp
      have g5 : ∀ y, ((mkInss i k).map eIns ++ [y] ++ (p.drop (i + 1)).map eIns).length = p.length := fun y => by simp [mkInss_len]; omega
      simp only [eIns] at g1
      simp -implicitDefEqProofs (disch := first | (intros; contradiction) | omega) only [am0, am1, am2, am3, am4, am5, am6, am7, am8, Nat.reduceSub, ↓reduceIte, reduceCtorEq, Nat.reduceEqDiff, Nat.reduceBEq, Nat.reduceAdd, Nat.reduceLT, ↓reduceIte, tis, hL, g1, g2, g3, g4, g5]
      refine round_normal (i + 1) (by omega) ?_ (by show p.length - (i + 1) < p.length - i; omega)
      simp -implicitDefEqProofs (disch := first | (intros; contradiction) | omega) only [am0, am1, am2, am3, am4, am5, am6, am7, am8, Nat.reduceSub, ↓reduceIte, reduceCtorEq, Nat.reduceEqDiff, Nat.reduceBEq, Nat.reduceAdd, Nat.reduceLT, ↓reduceIte, tis, mkInss_succ]
      simp [mkIns, eIns]
      omega
    · obtain rfl : i = p.length := by omega
      simp -implicitDefEqProofs (disch := first | (intros; contradiction) | omega) only [am0, am1, am2, am3, am4, am5, am6, am7, am8, Nat.reduceSub, ↓reduceIte, reduceCtorEq, Nat.reduceEqDiff, Nat.reduceBEq, Nat.reduceAdd, Nat.reduceLT, ↓reduceIte, tis, mkInss_len]
theorem mkInss_get (n : Nat) (k : Int) (i : Nat) (h : i < n) : ((mkInss n k).map eIns).getD i .undef = eIns (mkIns (k + 4 * i)) := by
  simp [mkInss, List.getD, h]
/-- laws.heldInsS -/
theorem fits_heldInsS (m : Nat) (k : Int) (hp : m ≤ 1048576) (h0 : 0 ≤ k) (hk : k ≤ 1152921504606846976) : Fits prog 51 [.sl false 4 ((mkInss m k).map eIns), .int .i64 k] (.int .i64 (k + 4 * m)) [] := by
  refine fits_of_code [4] [] [0, 1, 4, 5, 9, 18, 27, 36, 45] func51 rfl rfl rfl (by rfl) (by show 2 ≤ 49; decide) (by rfl) (by rfl) (by show 0 ≤ 2; decide) (by rfl) (run_of ?_)
  simp -implicitDefEqProofs (disch := first | (intros; contradiction) | omega) only [am0, am1, am2, am3, am4, am5, am6, am7, am8, Nat.reduceSub, ↓reduceIte, reduceCtorEq, Nat.reduceEqDiff, Nat.reduceBEq, Nat.reduceAdd, Nat.reduceLT, ↓reduceIte, tis]
  refine run_loop (α := Nat) (fun i => i ≤ m) (fun i => [(0, .sl false 4 ((mkInss m k).map eIns)), (1, .int .i64 (k + 4 * i)), (5, .int .i64 i)]) (fun i => m - i) 0 (Nat.zero_le _) ?_ ?_
  · simp -implicitDefEqProofs (disch := first | (intros; contradiction) | omega) only [am0, am1, am2, am3, am4, am5, am6, am7, am8, Nat.reduceSub, ↓reduceIte, reduceCtorEq, Nat.reduceEqDiff, Nat.reduceBEq, Nat.reduceAdd, Nat.reduceLT, ↓reduceIte, tis]
  · intro i hi'
    by_cases hi : i < m
    · have g := mkInss_get m k i hi
      simp only [eIns, mkIns] at g
      simp -implicitDefEqProofs (disch := first | (intros; contradiction) | omega) only [am0, am1, am2, am3, am4, am5, am6, am7, am8, Nat.reduceSub, ↓reduceIte, reduceCtorEq, Nat.reduceEqDiff, Nat.reduceBEq, Nat.reduceAdd, Nat.reduceLT, ↓reduceIte, tis, g, mkInss_len]
      refine round_normal (i + 1) (by omega) ?_ (by show m - (i + 1) < m - i; omega)
      simp -implicitDefEqProofs (disch := first | (intros; contradiction) | omega) only [am0, am1, am2, am3, am4, am5, am6, am7, am8, Nat.reduceSub, ↓reduceIte, reduceCtorEq, Nat.reduceEqDiff, Nat.reduceBEq, Nat.reduceAdd, Nat.reduceLT, ↓reduceIte, tis, mkInss_len]
      omega
    · obtain rfl : i = m := by omega
      simp -implicitDefEqProofs (disch := first | (intros; contradiction) | omega) only [am0, am1, am2, am3, am4, am5, am6, am7, am8, Nat.reduceSub, ↓reduceIte, reduceCtorEq, Nat.reduceEqDiff, Nat.reduceBEq, Nat.reduceAdd, Nat.reduceLT, ↓reduceIte, tis, mkInss_len]
/-- laws.toToken -/
theorem fits_toToken (x : Token) : Fits prog 70 [eToken x] (eToken x) [] := by
  refine fits_of_cell 2 68 [] [0, 1, 2, 3] func70 rfl rfl rfl (by show 2 < 14; decide) (by show 1 ≤ 14; decide) (by rfl) (by rfl) (by show 0 ≤ 1; decide) (by rfl) (run_of ?_)
  simp -implicitDefEqProofs only [am0, am1, am2, am3, am4, am5, am6, am7, am8, Nat.reduceSub, ↓reduceIte, reduceCtorEq, Nat.reduceEqDiff, Nat.reduceBEq, Nat.reduceAdd, Nat.reduceLT, ↓reduceIte, tis, eToken]
/-- laws.eqToken -/
theorem fits_eqToken (x y : Token) : Fits prog 73 [eToken x, eToken y] (.bool (decide (x = y))) [] := by
  refine fits_of_code [4] [] [0, 1, 2, 3, 4, 9, 14, 19] func73 rfl rfl rfl (by rfl) (by show 2 ≤ 20; decide) (by rfl) (by rfl) (by show 0 ≤ 2; decide) (by rfl) (run_of ?_)
  obtain ⟨a0, a1, a2⟩ := x
  obtain ⟨b0, b1, b2⟩ := y
  by_cases h0 : a0 = b0
  case neg =>
    simp -implicitDefEqProofs (disch := first | (intros; contradiction) | omega) only [am0, am1, am2, am3, am4, am5, am6, am7, am8, Nat.reduceSub, ↓reduceIte, reduceCtorEq, Nat.reduceEqDiff, Nat.reduceBEq, Nat.reduceAdd, Nat.reduceLT, ↓reduceIte, tis, eToken, h0]
    simp [h0]
  by_cases h1 : a1 = b1
  case neg =>
    simp -implicitDefEqProofs (disch := first | (intros; contradiction) | omega) only [am0, am1, am2, am3, am4, am5, am6, am7, am8, Nat.reduceSub, ↓reduceIte, reduceCtorEq, Nat.reduceEqDiff, Nat.reduceBEq, Nat.reduceAdd, Nat.reduceLT, ↓reduceIte, tis, eToken, h0, h1]
    simp [h1]
  by_cases h2 : a2 = b2
  case neg =>
    simp -implicitDefEqProofs (disch := first | (intros; contradiction) | omega) only [am0, am1, am2, am3, am4, am5, am6, am7, am8, Nat.reduceSub, ↓reduceIte, reduceCtorEq, Nat.reduceEqDiff, Nat.reduceBEq, Nat.reduceAdd, Nat.reduceLT, ↓reduceIte, tis, eToken, h0, h1, h2]
    simp [h2]
  simp -implicitDefEqProofs (disch := first | (intros; contradiction) | omega) only [am0, am1, am2, am3, am4, am5, am6, am7, am8, Nat.reduceSub, ↓reduceIte, reduceCtorEq, Nat.reduceEqDiff, Nat.reduceBEq, Nat.reduceAdd, Nat.reduceLT, ↓reduceIte, tis, eToken, h0, h1, h2]
/-- laws.szTokenS -/
theorem fits_szTokenS (p : List Token) (n : Int) (hp : p.length ≤ 9223372036854775807) (hn : n ≤ 1048576) (hn0 : 0 ≤ n) : Fits prog 35 [.sl false 3 (p.map eToken), .int .i64 n] (.int .i64 (if n - p.length < 0 then -1 else n - p.length)) [] := by
  refine fits_of_code [4] [] [0, 1, 4, 10] func35 rfl rfl rfl (by rfl) (by show 2 ≤ 12; decide) (by rfl) (by rfl) (by show 0 ≤ 2; decide) (by rfl) (run_of ?_)
  by_cases hl : n - p.length < 0
  · simp -implicitDefEqProofs (disch := first | (intros; contradiction) | omega) only [am0, am1, am2, am3, am4, am5, am6, am7, am8, Nat.reduceSub, ↓reduceIte, reduceCtorEq, Nat.reduceEqDiff, Nat.reduceBEq, Nat.reduceAdd, Nat.reduceLT, ↓reduceIte, tis, hl]
  · simp -implicitDefEqProofs (disch := first | (intros; contradiction) | omega) only [am0, am1, am2, am3, am4, am5, am6, am7, am8, Nat.reduceSub, ↓reduceIte, reduceCtorEq, Nat.reduceEqDiff, Nat.reduceBEq, Nat.reduceAdd, Nat.reduceLT, ↓reduceIte, tis, hl]
/-- laws.toTokenS -/
theorem fits_toTokenS (p : List Token) (hp : p.length ≤ 1048576) : Fits prog 38 [.sl false 3 (p.map eToken)] (.sl true 3 (p.map eToken)) [] := by
  refine fits_of_code [2] [] [0, 2, 3, 4, 11] func38 rfl rfl rfl (by rfl) (by show 1 ≤ 23; decide) (by rfl) (by rfl) (by show 0 ≤ 1; decide) (by rfl) (run_of ?_)
  simp -implicitDefEqProofs (disch := first | (intros; contradiction) | omega) only [am0, am1, am2, am3, am4, am5, am6, am7, am8, Nat.reduceSub, ↓reduceIte, reduceCtorEq, Nat.reduceEqDiff, Nat.reduceBEq, Nat.reduceAdd, Nat.reduceLT, ↓reduceIte, tis]
  refine run_loop (α := Nat) (fun i => i ≤ p.length) (fun i => [(0, .sl false 3 (p.map eToken)), (3, .sl true 3 ((p.take i).map eToken ++ List.replicate (p.length - i) (eToken ⟨0, 0, 0⟩))), (4, .int .i64 i)]) (fun i => p.length - i) 0 (Nat.zero_le _) ?_ ?_
  · simp -implicitDefEqProofs (disch := first | (intros; contradiction) | omega) only [am0, am1, am2, am3, am4, am5, am6, am7, am8, Nat.reduceSub, ↓reduceIte, reduceCtorEq, Nat.reduceEqDiff, Nat.reduceBEq, Nat.reduceAdd, Nat.reduceLT, ↓reduceIte, eToken]
  · intro i hi'
    by_cases hi : i < p.length
    · have g2 := build_get eToken (eToken ⟨0, 0, 0⟩) p i hi
      have g3 := build_set eToken (eToken ⟨0, 0, 0⟩) p i hi
      have g4 := build_len eToken (eToken ⟨0, 0, 0⟩) p i hi'
      simp only [eToken] at g2 g3 g4
      simp -implicitDefEqProofs (disch := first | (intros; contradiction) | omega) only [am0, am1, am2, am3, am4, am5, am6, am7, am8, Nat.reduceSub, ↓reduceIte, reduceCtorEq, Nat.reduceEqDiff, Nat.reduceBEq, Nat.reduceAdd, Nat.reduceLT, ↓reduceIte, tis, eToken]
      refine callb_of (fits_toToken p[i]) (by simp -implicitDefEqProofs (disch := first | (intros; contradiction) | omega) only [am0, am1, am2, am3, am4, am5, am6, am7, am8, Nat.reduceSub, ↓reduceIte, reduceCtorEq, Nat.reduceEqDiff, Nat.reduceBEq, Nat.reduceAdd, Nat.reduceLT, ↓reduceIte, tis, eToken]) (.inl rfl) rfl ?_
      simp -implicitDefEqProofs (disch := first | (intros; contradiction) | omega) only [am0, am1, am2, am3, am4, am5, am6, am7, am8, Nat.reduceSub, ↓reduceIte, reduceCtorEq, Nat.reduceEqDiff, Nat.reduceBEq, Nat.reduceAdd, Nat.reduceLT, ↓reduceIte, tis, eToken, g2, g3, g4]
      refine round_normal (i + 1) (by omega) ?_ (by show p.length - (i + 1) < p.length - i; omega)
      simp -implicitDefEqProofs (disch := first | (intros; contradiction) | omega) only [am0, am1, am2, am3, am4, am5, am6, am7, am8, Nat.reduceSub, ↓reduceIte, reduceCtorEq, Nat.reduceEqDiff, Nat.reduceBEq, Nat.reduceAdd, Nat.reduceLT, ↓reduceIte, eToken]
    · obtain rfl : i = p.length := by omega
      simp -implicitDefEqProofs (disch := first | (intros; contradiction) | omega) only [am0, am1, am2, am3, am4, am5, am6, am7, am8, Nat.reduceSub, ↓reduceIte, reduceCtorEq, Nat.reduceEqDiff, Nat.reduceBEq, Nat.reduceAdd, Nat.reduceLT, ↓reduceIte, tis]
/-- laws.eqTokenS -/
theorem fits_eqTokenS (p q : List Token) (hp : p.length ≤ 1048576) (hq : q.length ≤ 1048576) : Fits prog 41 [.sl false 3 (p.map eToken), .sl false 3 (q.map eToken)] (.bool (decide (p = q))) [] := by
  refine fits_of_code [4] [] [0, 1, 4, 5, 10, 14, 26] func41 rfl rfl rfl (by rfl) (by show 2 ≤ 27; decide) (by rfl) (by rfl) (by show 0 ≤ 2; decide) (by rfl) (run_of ?_)
  by_cases hl : p.length = q.length
  · simp -implicitDefEqProofs (disch := first | (intros; contradiction) | omega) only [am0, am1, am2, am3, am4, am5, am6, am7, am8, Nat.reduceSub, ↓reduceIte, reduceCtorEq, Nat.reduceEqDiff, Nat.reduceBEq, Nat.reduceAdd, Nat.reduceLT, ↓reduceIte, tis]
    refine run_loop (α := Nat) (fun i => i ≤ p.length ∧ p.take i = q.take i) (fun i => [(0, .sl false 3 (p.map eToken)), (1, .sl false 3 (q.map eToken)), (5, .int .i64 i)]) (fun i => p.length - i) 0 ⟨Nat.zero_le _, by simp⟩ ?_ ?_
    · simp -implicitDefEqProofs (disch := first | (intros; contradiction) | omega) only [am0, am1, am2, am3, am4, am5, am6, am7, am8, Nat.reduceSub, ↓reduceIte, reduceCtorEq, Nat.reduceEqDiff, Nat.reduceBEq, Nat.reduceAdd, Nat.reduceLT, ↓reduceIte, tis]
    · rintro i ⟨h1, h2⟩
      by_cases hi : i < p.length
      · simp -implicitDefEqProofs (disch := first | (intros; contradiction) | omega) only [am0, am1, am2, am3, am4, am5, am6, am7, am8, Nat.reduceSub, ↓reduceIte, reduceCtorEq, Nat.reduceEqDiff, Nat.reduceBEq, Nat.reduceAdd, Nat.reduceLT, ↓reduceIte, tis, eToken]
        refine ⟨by kernel_rfl, ?_⟩
        refine call_of (fits_eqToken p[i] q[i]) (by simp -implicitDefEqProofs (disch := first | (intros; contradiction) | omega) only [am0, am1, am2, am3, am4, am5, am6, am7, am8, Nat.reduceSub, ↓reduceIte, reduceCtorEq, Nat.reduceEqDiff, Nat.reduceBEq, Nat.reduceAdd, Nat.reduceLT, ↓reduceIte, tis, eToken]) (.inl rfl) rfl ?_
        by_cases h : p[i] = q[i]
        · simp -implicitDefEqProofs (disch := first | (intros; contradiction) | omega) only [am0, am1, am2, am3, am4, am5, am6, am7, am8, Nat.reduceSub, ↓reduceIte, reduceCtorEq, Nat.reduceEqDiff, Nat.reduceBEq, Nat.reduceAdd, Nat.reduceLT, ↓reduceIte, tis, h]
          refine round_normal (i + 1) ⟨by omega, ?_⟩ ?_ (by show p.length - (i + 1) < p.length - i; omega)
          · rw [List.take_succ_eq_append_getElem hi, List.take_succ_eq_append_getElem (by omega : i < q.length), h2, h]
          · simp -implicitDefEqProofs (disch := first | (intros; contradiction) | omega) only [am0, am1, am2, am3, am4, am5, am6, am7, am8, Nat.reduceSub, ↓reduceIte, reduceCtorEq, Nat.reduceEqDiff, Nat.reduceBEq, Nat.reduceAdd, Nat.reduceLT, ↓reduceIte, tis]
        · have hne : p ≠ q := by rintro rfl; exact h rfl
          simp -implicitDefEqProofs (disch := first | (intros; contradiction) | omega) only [am0, am1, am2, am3, am4, am5, am6, am7, am8, Nat.reduceSub, ↓reduceIte, reduceCtorEq, Nat.reduceEqDiff, Nat.reduceBEq, Nat.reduceAdd, Nat.reduceLT, ↓reduceIte, tis, h, hne]
      · obtain rfl : i = p.length := by omega
        have hpq : p = q := by rwa [List.take_of_length_le (Nat.le_refl _), List.take_of_length_le (by omega)] at h2
        simp -implicitDefEqProofs (disch := first | (intros; contradiction) | omega) only [am0, am1, am2, am3, am4, am5, am6, am7, am8, Nat.reduceSub, ↓reduceIte, reduceCtorEq, Nat.reduceEqDiff, Nat.reduceBEq, Nat.reduceAdd, Nat.reduceLT, ↓reduceIte, tis, hpq]
  · have hne : p ≠ q := fun h => hl (by rw [h])
    simp -implicitDefEqProofs (disch := first | (intros; contradiction) | omega) only [am0, am1, am2, am3, am4, am5, am6, am7, am8, Nat.reduceSub, ↓reduceIte, reduceCtorEq, Nat.reduceEqDiff, Nat.reduceBEq, Nat.reduceAdd, Nat.reduceLT, ↓reduceIte, tis, hne]
/-- The marks that are put into n such from k on. -/
def mkToken (k : Int) : Token := ⟨k, k + 1, k + 2⟩
def mkTokens (n : Nat) (k : Int) : List Token := (List.range n).map fun (i : Nat) => mkToken (k + 3 * (i : Int))
theorem mkTokens_succ (n : Nat) (k : Int) : mkTokens (n + 1) k = mkTokens n k ++ [mkToken (k + 3 * n)] := by simp [mkTokens, List.range_succ]
theorem mkTokens_len (n : Nat) (k : Int) : (mkTokens n k).length = n := by simp [mkTokens]
/-- laws.markTokenS -/
theorem fits_markTokenS (p : List Token) (k : Int) (hp : p.length ≤ 1048576) (h0 : 0 ≤ k) (hk : k ≤ 1152921504606846976) : Fits prog 50 [.sl true 3 (p.map eToken), .int .i64 k] (.int .i64 (k + 3 * p.length)) [.sl true 3 ((mkTokens p.length k).map eToken)] := by
  refine fits_of_code [4] [0] [0, 1, 4, 5, 9] func50 rfl rfl rfl (by rfl) (by show 2 ≤ 34; decide) (by rfl) (by rfl) (by show 1 ≤ 2; decide) (by rfl) (run_of ?_)
  simp -implicitDefEqProofs (disch := first | (intros; contradiction) | omega) only [am0, am1, am2, am3, am4, am5, am6, am7, am8, Nat.reduceSub, ↓reduceIte, reduceCtorEq, Nat.reduceEqDiff, Nat.reduceBEq, Nat.reduceAdd, Nat.reduceLT, ↓reduceIte, tis]
  refine run_loop (α := Nat) (fun i => i ≤ p.length) (fun i => [(0, .sl true 3 ((mkTokens i k).map eToken ++ (p.drop i).map eToken)), (1, .int .i64 (k + 3 * i)), (5, .int .i64 i)]) (fun i => p.length - i) 0 (Nat.zero_le _) ?_ ?_
  · simp -implicitDefEqProofs (disch := first | (intros; contradiction) | omega) only [am0, am1, am2, am3, am4, am5, am6, am7, am8, Nat.reduceSub, ↓reduceIte, reduceCtorEq, Nat.reduceEqDiff, Nat.reduceBEq, Nat.reduceAdd, Nat.reduceLT, ↓reduceIte, tis, mkTokens]
    try simp
  · intro i hi'
    have hA : ((mkTokens i k).map eToken).length = i := by simp [mkTokens_len]
    have hL : ((mkTokens i k).map eToken ++ (p.drop i).map eToken).length = p.length := by simp [mkTokens_len]; omega
    by_cases hi : i < p.length
    · have g1 := turn_get _ eToken p i hA hi
      have g2 := fun y => turn_set _ eToken p i y hA hi
      have g3 : ∀ y, ((mkTokens i k).map eToken ++ [y] ++ (p.drop (i + 1)).map eToken)[i]? = some y := fun y => by
        rw [List.append_assoc, List.getElem?_append_right (by omega), hA, Nat.sub_self]; rfl
      have g4 : ∀ y z, ((mkTokens i k).map eToken ++ [y] ++ (p.drop (i + 1)).map eToken).set i z = (mkTokens i k).map eToken ++ [z] ++ (p.drop (i + 1)).map eToken := fun y z => by
        rw [List.append_assoc, List.set_append_right _ _ (by omega), hA, Nat.sub_self]; simp
      have g5 : ∀ y, ((mkTokens i k).map eToken ++ [y] ++ (p.drop (i + 1)).map eToken).length = p.length := fun y => by simp [mkTokens_len]; omega
      simp only [eToken] at g1
      simp -implicitDefEqProofs (disch := first | (intros; contradiction) | omega) only [am0, am1, am2, am3, am4, am5, am6, am7, am8, Nat.reduceSub, ↓reduceIte, reduceCtorEq, Nat.reduceEqDiff, Nat.reduceBEq, Nat.reduceAdd, Nat.reduceLT, ↓reduceIte, tis, hL, g1, g2, g3, g4, g5]
      refine round_normal (i + 1) (by omega) ?_ (by show p.length - (i + 1) < p.length - i; omega)
      simp -implicitDefEqProofs (disch := first | (intros; contradiction) | omega) only [am0, am1, am2, am3, am4, am5, am6, am7, am8, Nat.reduceSub, ↓reduceIte, reduceCtorEq, Nat.reduceEqDiff, Nat.reduceBEq, Nat.reduceAdd, Nat.reduceLT, ↓reduceIte, tis, mkTokens_succ]
      simp [mkToken, eToken]
      omega
    · obtain rfl : i = p.length := by omega
      simp -implicitDefEqProofs (disch := first | (intros; contradiction) | omega) only [am0, am1, am2, am3, am4, am5, am6, am7, am8, Nat.reduceSub, ↓reduceIte, reduceCtorEq, Nat.reduceEqDiff, Nat.reduceBEq, Nat.reduceAdd, Nat.reduceLT, ↓reduceIte, tis, mkTokens_len]
theorem mkTokens_get (n : Nat) (k : Int) (i : Nat) (h : i < n) : ((mkTokens n k).map eToken).getD i .undef = eToken (mkToken (k + 3 * i)) := by
  simp [mkTokens, List.getD, h]
/-- laws.heldTokenS -/
theorem fits_heldTokenS (m : Nat) (k : Int) (hp : m ≤ 1048576) (h0 : 0 ≤ k) (hk : k ≤ 1152921504606846976) : Fits prog 52 [.sl false 3 ((mkTokens m k).map eToken), .int .i64 k] (.int .i64 (k + 3 * m)) [] := by
  refine fits_of_code [4] [] [0, 1, 4, 5, 9, 18, 27, 36] func52 rfl rfl rfl (by rfl) (by show 2 ≤ 40; decide) (by rfl) (by rfl) (by show 0 ≤ 2; decide) (by rfl) (run_of ?_)
  simp -implicitDefEqProofs (disch := first | (intros; contradiction) | omega) only [am0, am1, am2, am3, am4, am5, am6, am7, am8, Nat.reduceSub, ↓reduceIte, reduceCtorEq, Nat.reduceEqDiff, Nat.reduceBEq, Nat.reduceAdd, Nat.reduceLT, ↓reduceIte, tis]
  refine run_loop (α := Nat) (fun i => i ≤ m) (fun i => [(0, .sl false 3 ((mkTokens m k).map eToken)), (1, .int .i64 (k + 3 * i)), (5, .int .i64 i)]) (fun i => m - i) 0 (Nat.zero_le _) ?_ ?_
  · simp -implicitDefEqProofs (disch := first | (intros; contradiction) | omega) only [am0, am1, am2, am3, am4, am5, am6, am7, am8, Nat.reduceSub, ↓reduceIte, reduceCtorEq, Nat.reduceEqDiff, Nat.reduceBEq, Nat.reduceAdd, Nat.reduceLT, ↓reduceIte, tis]
  · intro i hi'
    by_cases hi : i < m
    · have g := mkTokens_get m k i hi
      simp only [eToken, mkToken] at g
      simp -implicitDefEqProofs (disch := first | (intros; contradiction) | omega) only [am0, am1, am2, am3, am4, am5, am6, am7, am8, Nat.reduceSub, ↓reduceIte, reduceCtorEq, Nat.reduceEqDiff, Nat.reduceBEq, Nat.reduceAdd, Nat.reduceLT, ↓reduceIte, tis, g, mkTokens_len]
      refine round_normal (i + 1) (by omega) ?_ (by show m - (i + 1) < m - i; omega)
      simp -implicitDefEqProofs (disch := first | (intros; contradiction) | omega) only [am0, am1, am2, am3, am4, am5, am6, am7, am8, Nat.reduceSub, ↓reduceIte, reduceCtorEq, Nat.reduceEqDiff, Nat.reduceBEq, Nat.reduceAdd, Nat.reduceLT, ↓reduceIte, tis, mkTokens_len]
      omega
    · obtain rfl : i = m := by omega
      simp -implicitDefEqProofs (disch := first | (intros; contradiction) | omega) only [am0, am1, am2, am3, am4, am5, am6, am7, am8, Nat.reduceSub, ↓reduceIte, reduceCtorEq, Nat.reduceEqDiff, Nat.reduceBEq, Nat.reduceAdd, Nat.reduceLT, ↓reduceIte, tis, mkTokens_len]
/-- What is left of a measure behind a list. -/
def szl (n : Int) (k : Nat) : Int := if n - k < 0 then -1 else n - k
def szFeed (f : Feed) (n : Int) : Int := if n - f.prog.length < 0 then -1 else if n - f.prog.length - f.buf.length < 0 then -1 else szl (n - f.prog.length - f.buf.length) f.out.length
/-- laws.szFeed -/
theorem fits_szFeed (f : Feed) (n : Int) (hp : f.prog.length ≤ 9223372036854775807) (hb : f.buf.length ≤ 9223372036854775807) (ho : f.out.length ≤ 9223372036854775807) (hn : n ≤ 1048576) (hn0 : 0 ≤ n) : Fits prog 11 [eFeed false f, .int .i64 n] (.int .i64 (szFeed f n)) [] := by
  refine fits_of_code [4] [] [0, 1, 2, 4, 10, 17, 23] func11 rfl rfl rfl (by rfl) (by show 2 ≤ 25; decide) (by rfl) (by rfl) (by show 0 ≤ 2; decide) (by rfl) (run_of ?_)
  simp -implicitDefEqProofs (disch := first | (intros; contradiction) | omega) only [am0, am1, am2, am3, am4, am5, am6, am7, am8, Nat.reduceSub, ↓reduceIte, reduceCtorEq, Nat.reduceEqDiff, Nat.reduceBEq, Nat.reduceAdd, Nat.reduceLT, ↓reduceIte, tis, eFeed]
  refine callb_of (fits_szInsS f.prog n hp hn hn0) (by simp -implicitDefEqProofs (disch := first | (intros; contradiction) | omega) only [am0, am1, am2, am3, am4, am5, am6, am7, am8, Nat.reduceSub, ↓reduceIte, reduceCtorEq, Nat.reduceEqDiff, Nat.reduceBEq, Nat.reduceAdd, Nat.reduceLT, ↓reduceIte, tis]) (.inl rfl) rfl ?_
  by_cases h1 : n - f.prog.length < 0
  · simp -implicitDefEqProofs (disch := first | (intros; contradiction) | omega) only [am0, am1, am2, am3, am4, am5, am6, am7, am8, Nat.reduceSub, ↓reduceIte, reduceCtorEq, Nat.reduceEqDiff, Nat.reduceBEq, Nat.reduceAdd, Nat.reduceLT, ↓reduceIte, tis, h1, szFeed]
  by_cases h2 : n - f.prog.length - f.buf.length < 0
  · simp -implicitDefEqProofs (disch := first | (intros; contradiction) | omega) only [am0, am1, am2, am3, am4, am5, am6, am7, am8, Nat.reduceSub, ↓reduceIte, reduceCtorEq, Nat.reduceEqDiff, Nat.reduceBEq, Nat.reduceAdd, Nat.reduceLT, ↓reduceIte, tis, h1, szFeed]
  simp -implicitDefEqProofs (disch := first | (intros; contradiction) | omega) only [am0, am1, am2, am3, am4, am5, am6, am7, am8, Nat.reduceSub, ↓reduceIte, reduceCtorEq, Nat.reduceEqDiff, Nat.reduceBEq, Nat.reduceAdd, Nat.reduceLT, ↓reduceIte, tis, eFeed]
  refine callb_of (fits_szTokenS f.out (n - f.prog.length - f.buf.length) ho (by omega) (by omega)) (by simp -implicitDefEqProofs (disch := first | (intros; contradiction) | omega) only [am0, am1, am2, am3, am4, am5, am6, am7, am8, Nat.reduceSub, ↓reduceIte, reduceCtorEq, Nat.reduceEqDiff, Nat.reduceBEq, Nat.reduceAdd, Nat.reduceLT, ↓reduceIte, tis]) (.inl rfl) rfl ?_
  by_cases h3 : n - f.prog.length - f.buf.length - f.out.length < 0
  · simp -implicitDefEqProofs (disch := first | (intros; contradiction) | omega) only [am0, am1, am2, am3, am4, am5, am6, am7, am8, Nat.reduceSub, ↓reduceIte, reduceCtorEq, Nat.reduceEqDiff, Nat.reduceBEq, Nat.reduceAdd, Nat.reduceLT, ↓reduceIte, tis, h3, szFeed, szl]
  · simp -implicitDefEqProofs (disch := first | (intros; contradiction) | omega) only [am0, am1, am2, am3, am4, am5, am6, am7, am8, Nat.reduceSub, ↓reduceIte, reduceCtorEq, Nat.reduceEqDiff, Nat.reduceBEq, Nat.reduceAdd, Nat.reduceLT, ↓reduceIte, tis, h3, szFeed, szl]
/-- laws.toFeed -/
theorem fits_toFeed (f : Feed) (hp : f.prog.length ≤ 1048576) (ho : f.out.length ≤ 1048576) : Fits prog 13 [eFeed false f] (eFeed true f) [] := by
  refine fits_of_cell 2 33 [] [0, 1, 2, 3] func13 rfl rfl rfl (by show 2 < 34; decide) (by show 1 ≤ 34; decide) (by rfl) (by rfl) (by show 0 ≤ 1; decide) (by rfl) (run_of ?_)
  simp -implicitDefEqProofs (disch := first | (intros; contradiction) | omega) only [am0, am1, am2, am3, am4, am5, am6, am7, am8, Nat.reduceSub, ↓reduceIte, reduceCtorEq, Nat.reduceEqDiff, Nat.reduceBEq, Nat.reduceAdd, Nat.reduceLT, ↓reduceIte, tis, eFeed]
  refine callb_of (fits_toInsS f.prog hp) (by simp -implicitDefEqProofs (disch := first | (intros; contradiction) | omega) only [am0, am1, am2, am3, am4, am5, am6, am7, am8, Nat.reduceSub, ↓reduceIte, reduceCtorEq, Nat.reduceEqDiff, Nat.reduceBEq, Nat.reduceAdd, Nat.reduceLT, ↓reduceIte, tis]) (.inl (by simp -implicitDefEqProofs (disch := first | (intros; contradiction) | omega) only [am0, am1, am2, am3, am4, am5, am6, am7, am8, Nat.reduceSub, ↓reduceIte, reduceCtorEq, Nat.reduceEqDiff, Nat.reduceBEq, Nat.reduceAdd, Nat.reduceLT, ↓reduceIte, fls])) rfl ?_
  simp -implicitDefEqProofs (disch := first | (intros; contradiction) | omega) only [am0, am1, am2, am3, am4, am5, am6, am7, am8, Nat.reduceSub, ↓reduceIte, reduceCtorEq, Nat.reduceEqDiff, Nat.reduceBEq, Nat.reduceAdd, Nat.reduceLT, ↓reduceIte, tis, eFeed, fls]
  refine callb_of (fits_toTokenS f.out ho) (by simp -implicitDefEqProofs (disch := first | (intros; contradiction) | omega) only [am0, am1, am2, am3, am4, am5, am6, am7, am8, Nat.reduceSub, ↓reduceIte, reduceCtorEq, Nat.reduceEqDiff, Nat.reduceBEq, Nat.reduceAdd, Nat.reduceLT, ↓reduceIte, tis]) (.inl (by simp -implicitDefEqProofs (disch := first | (intros; contradiction) | omega) only [am0, am1, am2, am3, am4, am5, am6, am7, am8, Nat.reduceSub, ↓reduceIte, reduceCtorEq, Nat.reduceEqDiff, Nat.reduceBEq, Nat.reduceAdd, Nat.reduceLT, ↓reduceIte, fls])) rfl ?_
  simp -implicitDefEqProofs (disch := first | (intros; contradiction) | omega) only [am0, am1, am2, am3, am4, am5, am6, am7, am8, Nat.reduceSub, ↓reduceIte, reduceCtorEq, Nat.reduceEqDiff, Nat.reduceBEq, Nat.reduceAdd, Nat.reduceLT, ↓reduceIte, tis, eFeed, fls]
/-- laws.eqFeed -/
theorem fits_eqFeed (f g : Feed) (hp : f.prog.length ≤ 1048576) (ho : f.out.length ≤ 1048576) (hp2 : g.prog.length ≤ 1048576) (ho2 : g.out.length ≤ 1048576) : Fits prog 15 [eFeed false f, eFeed false g] (.bool (decide (f = g))) [] := by
  refine fits_of_code [4] [] [0, 1, 2, 3, 4, 10, 15, 20, 25, 30, 35, 40, 46, 51] func15 rfl rfl rfl (by rfl) (by show 2 ≤ 52; decide) (by rfl) (by rfl) (by show 0 ≤ 2; decide) (by rfl) (run_of ?_)
  obtain ⟨a1, a2, a3, a4, a5, a6, a7, a8, a9⟩ := f
  obtain ⟨b1, b2, b3, b4, b5, b6, b7, b8, b9⟩ := g
  simp only at hp ho hp2 ho2
  by_cases h1 : a1 = b1
  case neg =>
    (simp -implicitDefEqProofs (disch := first | (intros; contradiction) | omega) only [am0, am1, am2, am3, am4, am5, am6, am7, am8, Nat.reduceSub, ↓reduceIte, reduceCtorEq, Nat.reduceEqDiff, Nat.reduceBEq, Nat.reduceAdd, Nat.reduceLT, ↓reduceIte, tis, eFeed]; (repeat' ((first | (refine callb_of (fits_eqInsS a1 b1 hp hp2) (by simp -implicitDefEqProofs (disch := first | (intros; contradiction) | omega) only [am0, am1, am2, am3, am4, am5, am6, am7, am8, Nat.reduceSub, ↓reduceIte, reduceCtorEq, Nat.reduceEqDiff, Nat.reduceBEq, Nat.reduceAdd, Nat.reduceLT, ↓reduceIte, tis, eFeed]; (repeat' (first | rfl | constructor))) (by first | exact .inl rfl | (right; simp -implicitDefEqProofs (disch := first | (intros; contradiction) | omega) only [am0, am1, am2, am3, am4, am5, am6, am7, am8, Nat.reduceSub, ↓reduceIte, reduceCtorEq, Nat.reduceEqDiff, Nat.reduceBEq, Nat.reduceAdd, Nat.reduceLT, ↓reduceIte, tis, eFeed])) rfl ?_) | (refine call_of (fits_eqInsS a1 b1 hp hp2) (by simp -implicitDefEqProofs (disch := first | (intros; contradiction) | omega) only [am0, am1, am2, am3, am4, am5, am6, am7, am8, Nat.reduceSub, ↓reduceIte, reduceCtorEq, Nat.reduceEqDiff, Nat.reduceBEq, Nat.reduceAdd, Nat.reduceLT, ↓reduceIte, tis, eFeed]; (repeat' (first | rfl | constructor))) (by first | exact .inl rfl | (right; simp -implicitDefEqProofs (disch := first | (intros; contradiction) | omega) only [am0, am1, am2, am3, am4, am5, am6, am7, am8, Nat.reduceSub, ↓reduceIte, reduceCtorEq, Nat.reduceEqDiff, Nat.reduceBEq, Nat.reduceAdd, Nat.reduceLT, ↓reduceIte, tis, eFeed])) rfl ?_) | (refine cond_beq (fun _ => ?_) (fun _ => ?_)) | (refine cond_bne (fun _ => ?_) (fun _ => ?_)) | (refine cond_dec (fun _ => ?_) (fun _ => ?_)) | (refine cond_of (fun _ => ?_) (fun _ => ?_)) | (refine guard_beq (fun _ => ?_) (fun _ => ?_)) | (refine guard_bne (fun _ => ?_) (fun _ => ?_)) | (refine guard_dec (fun _ => ?_) (fun _ => ?_)) | (refine guard_of (fun _ => ?_) (fun _ => ?_)) | (refine guardD_beq (fun _ => ?_) (fun _ => ?_)) | (refine guardD_bne (fun _ => ?_) (fun _ => ?_)) | (refine guardD_dec (fun _ => ?_) (fun _ => ?_)) | (refine guardD_of (fun _ => ?_) (fun _ => ?_))) <;> (try simp -implicitDefEqProofs (disch := first | (intros; contradiction) | omega) only [am0, am1, am2, am3, am4, am5, am6, am7, am8, Nat.reduceSub, ↓reduceIte, reduceCtorEq, Nat.reduceEqDiff, Nat.reduceBEq, Nat.reduceAdd, Nat.reduceLT, ↓reduceIte, tis, eFeed]))))
    all_goals simp_all
  by_cases h2 : a2 = b2
  case neg =>
    have e2 : (a2 == b2) = false := by simpa using h2
    (simp -implicitDefEqProofs (disch := first | (intros; contradiction) | omega) only [am0, am1, am2, am3, am4, am5, am6, am7, am8, Nat.reduceSub, ↓reduceIte, reduceCtorEq, Nat.reduceEqDiff, Nat.reduceBEq, Nat.reduceAdd, Nat.reduceLT, ↓reduceIte, tis, eFeed, h1, e2]; (repeat' ((first | (refine callb_of (fits_eqInsS a1 b1 hp hp2) (by simp -implicitDefEqProofs (disch := first | (intros; contradiction) | omega) only [am0, am1, am2, am3, am4, am5, am6, am7, am8, Nat.reduceSub, ↓reduceIte, reduceCtorEq, Nat.reduceEqDiff, Nat.reduceBEq, Nat.reduceAdd, Nat.reduceLT, ↓reduceIte, tis, eFeed, h1, e2]; (repeat' (first | rfl | constructor))) (by first | exact .inl rfl | (right; simp -implicitDefEqProofs (disch := first | (intros; contradiction) | omega) only [am0, am1, am2, am3, am4, am5, am6, am7, am8, Nat.reduceSub, ↓reduceIte, reduceCtorEq, Nat.reduceEqDiff, Nat.reduceBEq, Nat.reduceAdd, Nat.reduceLT, ↓reduceIte, tis, eFeed, h1, e2])) rfl ?_) | (refine call_of (fits_eqInsS a1 b1 hp hp2) (by simp -implicitDefEqProofs (disch := first | (intros; contradiction) | omega) only [am0, am1, am2, am3, am4, am5, am6, am7, am8, Nat.reduceSub, ↓reduceIte, reduceCtorEq, Nat.reduceEqDiff, Nat.reduceBEq, Nat.reduceAdd, Nat.reduceLT, ↓reduceIte, tis, eFeed, h1, e2]; (repeat' (first | rfl | constructor))) (by first | exact .inl rfl | (right; simp -implicitDefEqProofs (disch := first | (intros; contradiction) | omega) only [am0, am1, am2, am3, am4, am5, am6, am7, am8, Nat.reduceSub, ↓reduceIte, reduceCtorEq, Nat.reduceEqDiff, Nat.reduceBEq, Nat.reduceAdd, Nat.reduceLT, ↓reduceIte, tis, eFeed, h1, e2])) rfl ?_) | (refine cond_beq (fun _ => ?_) (fun _ => ?_)) | (refine cond_bne (fun _ => ?_) (fun _ => ?_)) | (refine cond_dec (fun _ => ?_) (fun _ => ?_)) | (refine cond_of (fun _ => ?_) (fun _ => ?_)) | (refine guard_beq (fun _ => ?_) (fun _ => ?_)) | (refine guard_bne (fun _ => ?_) (fun _ => ?_)) | (refine guard_dec (fun _ => ?_) (fun _ => ?_)) | (refine guard_of (fun _ => ?_) (fun _ => ?_)) | (refine guardD_beq (fun _ => ?_) (fun _ => ?_)) | (refine guardD_bne (fun _ => ?_) (fun _ => ?_)) | (refine guardD_dec (fun _ => ?_) (fun _ => ?_)) | (refine guardD_of (fun _ => ?_) (fun _ => ?_))) <;> (try simp -implicitDefEqProofs (disch := first | (intros; contradiction) | omega) only [am0, am1, am2, am3, am4, am5, am6, am7, am8, Nat.reduceSub, ↓reduceIte, reduceCtorEq, Nat.reduceEqDiff, Nat.reduceBEq, Nat.reduceAdd, Nat.reduceLT, ↓reduceIte, tis, eFeed, h1, e2]))))
    all_goals simp_all
  by_cases h8 : a8 = b8
  case neg =>
    subst h1; subst h2
    (simp -implicitDefEqProofs (disch := first | (intros; contradiction) | omega) only [am0, am1, am2, am3, am4, am5, am6, am7, am8, Nat.reduceSub, ↓reduceIte, reduceCtorEq, Nat.reduceEqDiff, Nat.reduceBEq, Nat.reduceAdd, Nat.reduceLT, ↓reduceIte, tis, eFeed, bne]; (repeat' ((first | (refine callb_of (fits_eqInsS a1 a1 hp hp2) (by simp -implicitDefEqProofs (disch := first | (intros; contradiction) | omega) only [am0, am1, am2, am3, am4, am5, am6, am7, am8, Nat.reduceSub, ↓reduceIte, reduceCtorEq, Nat.reduceEqDiff, Nat.reduceBEq, Nat.reduceAdd, Nat.reduceLT, ↓reduceIte, tis, eFeed, bne]; (repeat' (first | rfl | constructor))) (by first | exact .inl rfl | (right; simp -implicitDefEqProofs (disch := first | (intros; contradiction) | omega) only [am0, am1, am2, am3, am4, am5, am6, am7, am8, Nat.reduceSub, ↓reduceIte, reduceCtorEq, Nat.reduceEqDiff, Nat.reduceBEq, Nat.reduceAdd, Nat.reduceLT, ↓reduceIte, tis, eFeed, bne])) rfl ?_) | (refine call_of (fits_eqInsS a1 a1 hp hp2) (by simp -implicitDefEqProofs (disch := first | (intros; contradiction) | omega) only [am0, am1, am2, am3, am4, am5, am6, am7, am8, Nat.reduceSub, ↓reduceIte, reduceCtorEq, Nat.reduceEqDiff, Nat.reduceBEq, Nat.reduceAdd, Nat.reduceLT, ↓reduceIte, tis, eFeed, bne]; (repeat' (first | rfl | constructor))) (by first | exact .inl rfl | (right; simp -implicitDefEqProofs (disch := first | (intros; contradiction) | omega) only [am0, am1, am2, am3, am4, am5, am6, am7, am8, Nat.reduceSub, ↓reduceIte, reduceCtorEq, Nat.reduceEqDiff, Nat.reduceBEq, Nat.reduceAdd, Nat.reduceLT, ↓reduceIte, tis, eFeed, bne])) rfl ?_) | (refine callb_of (fits_eqTokenS a8 b8 ho ho2) (by simp -implicitDefEqProofs (disch := first | (intros; contradiction) | omega) only [am0, am1, am2, am3, am4, am5, am6, am7, am8, Nat.reduceSub, ↓reduceIte, reduceCtorEq, Nat.reduceEqDiff, Nat.reduceBEq, Nat.reduceAdd, Nat.reduceLT, ↓reduceIte, tis, eFeed, bne]; (repeat' (first | rfl | constructor))) (by first | exact .inl rfl | (right; simp -implicitDefEqProofs (disch := first | (intros; contradiction) | omega) only [am0, am1, am2, am3, am4, am5, am6, am7, am8, Nat.reduceSub, ↓reduceIte, reduceCtorEq, Nat.reduceEqDiff, Nat.reduceBEq, Nat.reduceAdd, Nat.reduceLT, ↓reduceIte, tis, eFeed, bne])) rfl ?_) | (refine call_of (fits_eqTokenS a8 b8 ho ho2) (by simp -implicitDefEqProofs (disch := first | (intros; contradiction) | omega) only [am0, am1, am2, am3, am4, am5, am6, am7, am8, Nat.reduceSub, ↓reduceIte, reduceCtorEq, Nat.reduceEqDiff, Nat.reduceBEq, Nat.reduceAdd, Nat.reduceLT, ↓reduceIte, tis, eFeed, bne]; (repeat' (first | rfl | constructor))) (by first | exact .inl rfl | (right; simp -implicitDefEqProofs (disch := first | (intros; contradiction) | omega) only [am0, am1, am2, am3, am4, am5, am6, am7, am8, Nat.reduceSub, ↓reduceIte, reduceCtorEq, Nat.reduceEqDiff, Nat.reduceBEq, Nat.reduceAdd, Nat.reduceLT, ↓reduceIte, tis, eFeed, bne])) rfl ?_) | (refine cond_beq (fun _ => ?_) (fun _ => ?_)) | (refine cond_bne (fun _ => ?_) (fun _ => ?_)) | (refine cond_dec (fun _ => ?_) (fun _ => ?_)) | (refine cond_of (fun _ => ?_) (fun _ => ?_)) | (refine guard_beq (fun _ => ?_) (fun _ => ?_)) | (refine guard_bne (fun _ => ?_) (fun _ => ?_)) | (refine guard_dec (fun _ => ?_) (fun _ => ?_)) | (refine guard_of (fun _ => ?_) (fun _ => ?_)) | (refine guardD_beq (fun _ => ?_) (fun _ => ?_)) | (refine guardD_bne (fun _ => ?_) (fun _ => ?_)) | (refine guardD_dec (fun _ => ?_) (fun _ => ?_)) | (refine guardD_of (fun _ => ?_) (fun _ => ?_))) <;> (try simp -implicitDefEqProofs (disch := first | (intros; contradiction) | omega) only [am0, am1, am2, am3, am4, am5, am6, am7, am8, Nat.reduceSub, ↓reduceIte, reduceCtorEq, Nat.reduceEqDiff, Nat.reduceBEq, Nat.reduceAdd, Nat.reduceLT, ↓reduceIte, tis, eFeed, bne]))))
    all_goals simp_all
  by_cases h9 : a9 = b9
  case neg =>
    have e9 : (a9 == b9) = false := by simpa using h9
    subst h1; subst h2; subst h8
    (simp -implicitDefEqProofs (disch := first | (intros; contradiction) | omega) only [am0, am1, am2, am3, am4, am5, am6, am7, am8, Nat.reduceSub, ↓reduceIte, reduceCtorEq, Nat.reduceEqDiff, Nat.reduceBEq, Nat.reduceAdd, Nat.reduceLT, ↓reduceIte, tis, eFeed, bne, e9]; (repeat' ((first | (refine callb_of (fits_eqInsS a1 a1 hp hp2) (by simp -implicitDefEqProofs (disch := first | (intros; contradiction) | omega) only [am0, am1, am2, am3, am4, am5, am6, am7, am8, Nat.reduceSub, ↓reduceIte, reduceCtorEq, Nat.reduceEqDiff, Nat.reduceBEq, Nat.reduceAdd, Nat.reduceLT, ↓reduceIte, tis, eFeed, bne, e9]; (repeat' (first | rfl | constructor))) (by first | exact .inl rfl | (right; simp -implicitDefEqProofs (disch := first | (intros; contradiction) | omega) only [am0, am1, am2, am3, am4, am5, am6, am7, am8, Nat.reduceSub, ↓reduceIte, reduceCtorEq, Nat.reduceEqDiff, Nat.reduceBEq, Nat.reduceAdd, Nat.reduceLT, ↓reduceIte, tis, eFeed, bne, e9])) rfl ?_) | (refine call_of (fits_eqInsS a1 a1 hp hp2) (by simp -implicitDefEqProofs (disch := first | (intros; contradiction) | omega) only [am0, am1, am2, am3, am4, am5, am6, am7, am8, Nat.reduceSub, ↓reduceIte, reduceCtorEq, Nat.reduceEqDiff, Nat.reduceBEq, Nat.reduceAdd, Nat.reduceLT, ↓reduceIte, tis, eFeed, bne, e9]; (repeat' (first | rfl | constructor))) (by first | exact .inl rfl | (right; simp -implicitDefEqProofs (disch := first | (intros; contradiction) | omega) only [am0, am1, am2, am3, am4, am5, am6, am7, am8, Nat.reduceSub, ↓reduceIte, reduceCtorEq, Nat.reduceEqDiff, Nat.reduceBEq, Nat.reduceAdd, Nat.reduceLT, ↓reduceIte, tis, eFeed, bne, e9])) rfl ?_) | (refine callb_of (fits_eqTokenS a8 a8 ho ho2) (by simp -implicitDefEqProofs (disch := first | (intros; contradiction) | omega) only [am0, am1, am2, am3, am4, am5, am6, am7, am8, Nat.reduceSub, ↓reduceIte, reduceCtorEq, Nat.reduceEqDiff, Nat.reduceBEq, Nat.reduceAdd, Nat.reduceLT, ↓reduceIte, tis, eFeed, bne, e9]; (repeat' (first | rfl | constructor))) (by first | exact .inl rfl | (right; simp -implicitDefEqProofs (disch := first | (intros; contradiction) | omega) only [am0, am1, am2, am3, am4, am5, am6, am7, am8, Nat.reduceSub, ↓reduceIte, reduceCtorEq, Nat.reduceEqDiff, Nat.reduceBEq, Nat.reduceAdd, Nat.reduceLT, ↓reduceIte, tis, eFeed, bne, e9])) rfl ?_) | (refine call_of (fits_eqTokenS a8 a8 ho ho2) (by simp -implicitDefEqProofs (disch := first | (intros; contradiction) | omega) only [am0, am1, am2, am3, am4, am5, am6, am7, am8, Nat.reduceSub, ↓reduceIte, reduceCtorEq, Nat.reduceEqDiff, Nat.reduceBEq, Nat.reduceAdd, Nat.reduceLT, ↓reduceIte, tis, eFeed, bne, e9]; (repeat' (first | rfl | constructor))) (by first | exact .inl rfl | (right; simp -implicitDefEqProofs (disch := first | (intros; contradiction) | omega) only [am0, am1, am2, am3, am4, am5, am6, am7, am8, Nat.reduceSub, ↓reduceIte, reduceCtorEq, Nat.reduceEqDiff, Nat.reduceBEq, Nat.reduceAdd, Nat.reduceLT, ↓reduceIte, tis, eFeed, bne, e9])) rfl ?_) | (refine cond_beq (fun _ => ?_) (fun _ => ?_)) | (refine cond_bne (fun _ => ?_) (fun _ => ?_)) | (refine cond_dec (fun _ => ?_) (fun _ => ?_)) | (refine cond_of (fun _ => ?_) (fun _ => ?_)) | (refine guard_beq (fun _ => ?_) (fun _ => ?_)) | (refine guard_bne (fun _ => ?_) (fun _ => ?_)) | (refine guard_dec (fun _ => ?_) (fun _ => ?_)) | (refine guard_of (fun _ => ?_) (fun _ => ?_)) | (refine guardD_beq (fun _ => ?_) (fun _ => ?_)) | (refine guardD_bne (fun _ => ?_) (fun _ => ?_)) | (refine guardD_dec (fun _ => ?_) (fun _ => ?_)) | (refine guardD_of (fun _ => ?_) (fun _ => ?_))) <;> (try simp -implicitDefEqProofs (disch := first | (intros; contradiction) | omega) only [am0, am1, am2, am3, am4, am5, am6, am7, am8, Nat.reduceSub, ↓reduceIte, reduceCtorEq, Nat.reduceEqDiff, Nat.reduceBEq, Nat.reduceAdd, Nat.reduceLT, ↓reduceIte, tis, eFeed, bne, e9]))))
    all_goals simp_all
  subst h1; subst h2; subst h8; subst h9
  (simp -implicitDefEqProofs (disch := first | (intros; contradiction) | omega) only [am0, am1, am2, am3, am4, am5, am6, am7, am8, Nat.reduceSub, ↓reduceIte, reduceCtorEq, Nat.reduceEqDiff, Nat.reduceBEq, Nat.reduceAdd, Nat.reduceLT, ↓reduceIte, tis, eFeed, bne]; (repeat' ((first | (refine callb_of (fits_eqInsS a1 a1 hp hp2) (by simp -implicitDefEqProofs (disch := first | (intros; contradiction) | omega) only [am0, am1, am2, am3, am4, am5, am6, am7, am8, Nat.reduceSub, ↓reduceIte, reduceCtorEq, Nat.reduceEqDiff, Nat.reduceBEq, Nat.reduceAdd, Nat.reduceLT, ↓reduceIte, tis, eFeed, bne]; (repeat' (first | rfl | constructor))) (by first | exact .inl rfl | (right; simp -implicitDefEqProofs (disch := first | (intros; contradiction) | omega) only [am0, am1, am2, am3, am4, am5, am6, am7, am8, Nat.reduceSub, ↓reduceIte, reduceCtorEq, Nat.reduceEqDiff, Nat.reduceBEq, Nat.reduceAdd, Nat.reduceLT, ↓reduceIte, tis, eFeed, bne])) rfl ?_) | (refine call_of (fits_eqInsS a1 a1 hp hp2) (by simp -implicitDefEqProofs (disch := first | (intros; contradiction) | omega) only [am0, am1, am2, am3, am4, am5, am6, am7, am8, Nat.reduceSub, ↓reduceIte, reduceCtorEq, Nat.reduceEqDiff, Nat.reduceBEq, Nat.reduceAdd, Nat.reduceLT, ↓reduceIte, tis, eFeed, bne]; (repeat' (first | rfl | constructor))) (by first | exact .inl rfl | (right; simp -implicitDefEqProofs (disch := first | (intros; contradiction) | omega) only [am0, am1, am2, am3, am4, am5, am6, am7, am8, Nat.reduceSub, ↓reduceIte, reduceCtorEq, Nat.reduceEqDiff, Nat.reduceBEq, Nat.reduceAdd, Nat.reduceLT, ↓reduceIte, tis, eFeed, bne])) rfl ?_) | (refine callb_of (fits_eqTokenS a8 a8 ho ho2) (by simp -implicitDefEqProofs (disch := first | (intros; contradiction) | omega) only [am0, am1, am2, am3, am4, am5, am6, am7, am8, Nat.reduceSub, ↓reduceIte, reduceCtorEq, Nat.reduceEqDiff, Nat.reduceBEq, Nat.reduceAdd, Nat.reduceLT, ↓reduceIte, tis, eFeed, bne]; (repeat' (first | rfl | constructor))) (by first | exact .inl rfl | (right; simp -implicitDefEqProofs (disch := first | (intros; contradiction) | omega) only [am0, am1, am2, am3, am4, am5, am6, am7, am8, Nat.reduceSub, ↓reduceIte, reduceCtorEq, Nat.reduceEqDiff, Nat.reduceBEq, Nat.reduceAdd, Nat.reduceLT, ↓reduceIte, tis, eFeed, bne])) rfl ?_) | (refine call_of (fits_eqTokenS a8 a8 ho ho2) (by simp -implicitDefEqProofs (disch := first | (intros; contradiction) | omega) only [am0, am1, am2, am3, am4, am5, am6, am7, am8, Nat.reduceSub, ↓reduceIte, reduceCtorEq, Nat.reduceEqDiff, Nat.reduceBEq, Nat.reduceAdd, Nat.reduceLT, ↓reduceIte, tis, eFeed, bne]; (repeat' (first | rfl | constructor))) (by first | exact .inl rfl | (right; simp -implicitDefEqProofs (disch := first | (intros; contradiction) | omega) only [am0, am1, am2, am3, am4, am5, am6, am7, am8, Nat.reduceSub, ↓reduceIte, reduceCtorEq, Nat.reduceEqDiff, Nat.reduceBEq, Nat.reduceAdd, Nat.reduceLT, ↓reduceIte, tis, eFeed, bne])) rfl ?_) | (refine cond_beq (fun _ => ?_) (fun _ => ?_)) | (refine cond_bne (fun _ => ?_) (fun _ => ?_)) | (refine cond_dec (fun _ => ?_) (fun _ => ?_)) | (refine cond_of (fun _ => ?_) (fun _ => ?_)) | (refine guard_beq (fun _ => ?_) (fun _ => ?_)) | (refine guard_bne (fun _ => ?_) (fun _ => ?_)) | (refine guard_dec (fun _ => ?_) (fun _ => ?_)) | (refine guard_of (fun _ => ?_) (fun _ => ?_)) | (refine guardD_beq (fun _ => ?_) (fun _ => ?_)) | (refine guardD_bne (fun _ => ?_) (fun _ => ?_)) | (refine guardD_dec (fun _ => ?_) (fun _ => ?_)) | (refine guardD_of (fun _ => ?_) (fun _ => ?_))) <;> (try simp -implicitDefEqProofs (disch := first | (intros; contradiction) | omega) only [am0, am1, am2, am3, am4, am5, am6, am7, am8, Nat.reduceSub, ↓reduceIte, reduceCtorEq, Nat.reduceEqDiff, Nat.reduceBEq, Nat.reduceAdd, Nat.reduceLT, ↓reduceIte, tis, eFeed, bne]))))
  all_goals simp_all
/-- impl.in -/
theorem fits_in (n l h : Int) : Fits prog 45 [.int .i64 n, .int .i64 l, .int .i64 h] (.bool (decide (l ≤ n ∧ n ≤ h))) [] := by
  refine fits_of_code [6] [] [0, 1, 2, 6] func45 rfl rfl rfl (by rfl) (by show 3 ≤ 15; decide) (by rfl) (by rfl) (by show 0 ≤ 3; decide) (by rfl) (run_of ?_)
  (simp -implicitDefEqProofs (disch := first | (intros; contradiction) | omega) only [am0, am1, am2, am3, am4, am5, am6, am7, am8, Nat.reduceSub, ↓reduceIte, reduceCtorEq, Nat.reduceEqDiff, Nat.reduceBEq, Nat.reduceAdd, Nat.reduceLT, ↓reduceIte, tis]; (repeat' ((first | (refine cond_beq (fun _ => ?_) (fun _ => ?_)) | (refine cond_bne (fun _ => ?_) (fun _ => ?_)) | (refine cond_dec (fun _ => ?_) (fun _ => ?_)) | (refine cond_of (fun _ => ?_) (fun _ => ?_)) | (refine guard_beq (fun _ => ?_) (fun _ => ?_)) | (refine guard_bne (fun _ => ?_) (fun _ => ?_)) | (refine guard_dec (fun _ => ?_) (fun _ => ?_)) | (refine guard_of (fun _ => ?_) (fun _ => ?_)) | (refine guardD_beq (fun _ => ?_) (fun _ => ?_)) | (refine guardD_bne (fun _ => ?_) (fun _ => ?_)) | (refine guardD_dec (fun _ => ?_) (fun _ => ?_)) | (refine guardD_of (fun _ => ?_) (fun _ => ?_))) <;> (try simp -implicitDefEqProofs (disch := first | (intros; contradiction) | omega) only [am0, am1, am2, am3, am4, am5, am6, am7, am8, Nat.reduceSub, ↓reduceIte, reduceCtorEq, Nat.reduceEqDiff, Nat.reduceBEq, Nat.reduceAdd, Nat.reduceLT, ↓reduceIte, tis]))))
  all_goals (simp_all)
/-- impl.door -/
theorem fits_door (p : List Ins) (i : Int) (hp : p.length ≤ 1099511627776) : Fits prog 46 [.sl false 4 (p.map eIns), .int .i64 i] (.bool (doorI p i)) [] := by
  refine fits_of_code [4] [] [0, 1, 4, 10] func46 rfl rfl rfl (by rfl) (by show 2 ≤ 41; decide) (by rfl) (by rfl) (by show 0 ≤ 2; decide) (by rfl) (run_of ?_)
  simp -implicitDefEqProofs (disch := first | (intros; contradiction) | omega) only [am0, am1, am2, am3, am4, am5, am6, am7, am8, Nat.reduceSub, ↓reduceIte, reduceCtorEq, Nat.reduceEqDiff, Nat.reduceBEq, Nat.reduceAdd, Nat.reduceLT, ↓reduceIte, tis]
  refine callb_of (fits_in i 0 (p.length - 1)) (by simp -implicitDefEqProofs (disch := first | (intros; contradiction) | omega) only [am0, am1, am2, am3, am4, am5, am6, am7, am8, Nat.reduceSub, ↓reduceIte, reduceCtorEq, Nat.reduceEqDiff, Nat.reduceBEq, Nat.reduceAdd, Nat.reduceLT, ↓reduceIte, tis]) (.inl rfl) rfl ?_
  by_cases hi : 0 ≤ i ∧ i < p.length
  case neg =>
    have h2 : ¬ (0 ≤ i ∧ i ≤ (p.length : Int) - 1) := by omega
    simp -implicitDefEqProofs (disch := first | (intros; contradiction) | omega) only [am0, am1, am2, am3, am4, am5, am6, am7, am8, Nat.reduceSub, ↓reduceIte, reduceCtorEq, Nat.reduceEqDiff, Nat.reduceBEq, Nat.reduceAdd, Nat.reduceLT, ↓reduceIte, tis, h2, doorI_out hi]
  obtain ⟨j, rfl⟩ : ∃ j : Nat, i = j := ⟨i.toNat, by omega⟩
  have hj : j < p.length := by omega
  have h2 : (0 ≤ (j : Int) ∧ (j : Int) ≤ (p.length : Int) - 1) := by omega
  (simp -implicitDefEqProofs (disch := first | (intros; contradiction) | omega) only [am0, am1, am2, am3, am4, am5, am6, am7, am8, Nat.reduceSub, ↓reduceIte, reduceCtorEq, Nat.reduceEqDiff, Nat.reduceBEq, Nat.reduceAdd, Nat.reduceLT, ↓reduceIte, tis, h2, eIns]; (repeat' ((first | (refine cond_beq (fun _ => ?_) (fun _ => ?_)) | (refine cond_bne (fun _ => ?_) (fun _ => ?_)) | (refine cond_dec (fun _ => ?_) (fun _ => ?_)) | (refine cond_of (fun _ => ?_) (fun _ => ?_)) | (refine guard_beq (fun _ => ?_) (fun _ => ?_)) | (refine guard_bne (fun _ => ?_) (fun _ => ?_)) | (refine guard_dec (fun _ => ?_) (fun _ => ?_)) | (refine guard_of (fun _ => ?_) (fun _ => ?_)) | (refine guardD_beq (fun _ => ?_) (fun _ => ?_)) | (refine guardD_bne (fun _ => ?_) (fun _ => ?_)) | (refine guardD_dec (fun _ => ?_) (fun _ => ?_)) | (refine guardD_of (fun _ => ?_) (fun _ => ?_))) <;> (try simp -implicitDefEqProofs (disch := first | (intros; contradiction) | omega) only [am0, am1, am2, am3, am4, am5, am6, am7, am8, Nat.reduceSub, ↓reduceIte, reduceCtorEq, Nat.reduceEqDiff, Nat.reduceBEq, Nat.reduceAdd, Nat.reduceLT, ↓reduceIte, tis, h2, eIns]))))
  all_goals (have hq : j + 1 < p.length ∨ ¬ j + 1 < p.length := by omega)
  all_goals (rcases hq with hq | hq <;> first | omega | (simp_all [doorI, doorB_at hj]))

/-- impl.insOk -/
theorem fits_insOk (p : List Ins) (i : Nat) (hp : p.length ≤ 1099511627776) (hi : i < p.length) : Fits prog 75 [.sl false 4 (p.map eIns), .int .i64 i] (.bool (insB p i)) [] := by
  refine fits_of_code [4] [] [0, 1, 4, 5, 11, 12, 32, 48] func75 rfl rfl rfl (by rfl) (by show 2 ≤ 71; decide) (by rfl) (by rfl) (by show 0 ≤ 2; decide) (by rfl) (run_of ?_)
  (simp -implicitDefEqProofs (disch := first | (intros; contradiction) | omega) only [am0, am1, am2, am3, am4, am5, am6, am7, am8, Nat.reduceSub, ↓reduceIte, reduceCtorEq, Nat.reduceEqDiff, Nat.reduceBEq, Nat.reduceAdd, Nat.reduceLT, ↓reduceIte, tis, eIns]; (repeat' ((first | (refine callb_of (fits_in _ _ _) (by simp -implicitDefEqProofs (disch := first | (intros; contradiction) | omega) only [am0, am1, am2, am3, am4, am5, am6, am7, am8, Nat.reduceSub, ↓reduceIte, reduceCtorEq, Nat.reduceEqDiff, Nat.reduceBEq, Nat.reduceAdd, Nat.reduceLT, ↓reduceIte, tis, eIns]; (repeat' (first | rfl | constructor))) (by first | exact .inl rfl | (right; simp -implicitDefEqProofs (disch := first | (intros; contradiction) | omega) only [am0, am1, am2, am3, am4, am5, am6, am7, am8, Nat.reduceSub, ↓reduceIte, reduceCtorEq, Nat.reduceEqDiff, Nat.reduceBEq, Nat.reduceAdd, Nat.reduceLT, ↓reduceIte, tis, eIns])) rfl ?_) | (refine call_of (fits_in _ _ _) (by simp -implicitDefEqProofs (disch := first | (intros; contradiction) | omega) only [am0, am1, am2, am3, am4, am5, am6, am7, am8, Nat.reduceSub, ↓reduceIte, reduceCtorEq, Nat.reduceEqDiff, Nat.reduceBEq, Nat.reduceAdd, Nat.reduceLT, ↓reduceIte, tis, eIns]; (repeat' (first | rfl | constructor))) (by first | exact .inl rfl | (right; simp -implicitDefEqProofs (disch := first | (intros; contradiction) | omega) only [am0, am1, am2, am3, am4, am5, am6, am7, am8, Nat.reduceSub, ↓reduceIte, reduceCtorEq, Nat.reduceEqDiff, Nat.reduceBEq, Nat.reduceAdd, Nat.reduceLT, ↓reduceIte, tis, eIns])) rfl ?_) | (refine callb_of (fits_door p _ hp) (by simp -implicitDefEqProofs (disch := first | (intros; contradiction) | omega) only [am0, am1, am2, am3, am4, am5, am6, am7, am8, Nat.reduceSub, ↓reduceIte, reduceCtorEq, Nat.reduceEqDiff, Nat.reduceBEq, Nat.reduceAdd, Nat.reduceLT, ↓reduceIte, tis, eIns]; (repeat' (first | rfl | constructor))) (by first | exact .inl rfl | (right; simp -implicitDefEqProofs (disch := first | (intros; contradiction) | omega) only [am0, am1, am2, am3, am4, am5, am6, am7, am8, Nat.reduceSub, ↓reduceIte, reduceCtorEq, Nat.reduceEqDiff, Nat.reduceBEq, Nat.reduceAdd, Nat.reduceLT, ↓reduceIte, tis, eIns])) rfl ?_) | (refine call_of (fits_door p _ hp) (by simp -implicitDefEqProofs (disch := first | (intros; contradiction) | omega) only [am0, am1, am2, am3, am4, am5, am6, am7, am8, Nat.reduceSub, ↓reduceIte, reduceCtorEq, Nat.reduceEqDiff, Nat.reduceBEq, Nat.reduceAdd, Nat.reduceLT, ↓reduceIte, tis, eIns]; (repeat' (first | rfl | constructor))) (by first | exact .inl rfl | (right; simp -implicitDefEqProofs (disch := first | (intros; contradiction) | omega) only [am0, am1, am2, am3, am4, am5, am6, am7, am8, Nat.reduceSub, ↓reduceIte, reduceCtorEq, Nat.reduceEqDiff, Nat.reduceBEq, Nat.reduceAdd, Nat.reduceLT, ↓reduceIte, tis, eIns])) rfl ?_) | (refine cond_beq (fun _ => ?_) (fun _ => ?_)) | (refine cond_bne (fun _ => ?_) (fun _ => ?_)) | (refine cond_dec (fun _ => ?_) (fun _ => ?_)) | (refine cond_of (fun _ => ?_) (fun _ => ?_)) | (refine guard_beq (fun _ => ?_) (fun _ => ?_)) | (refine guard_bne (fun _ => ?_) (fun _ => ?_)) | (refine guard_dec (fun _ => ?_) (fun _ => ?_)) | (refine guard_of (fun _ => ?_) (fun _ => ?_)) | (refine guardD_beq (fun _ => ?_) (fun _ => ?_)) | (refine guardD_bne (fun _ => ?_) (fun _ => ?_)) | (refine guardD_dec (fun _ => ?_) (fun _ => ?_)) | (refine guardD_of (fun _ => ?_) (fun _ => ?_))) <;> (try simp -implicitDefEqProofs (disch := first | (intros; contradiction) | omega) only [am0, am1, am2, am3, am4, am5, am6, am7, am8, Nat.reduceSub, ↓reduceIte, reduceCtorEq, Nat.reduceEqDiff, Nat.reduceBEq, Nat.reduceAdd, Nat.reduceLT, ↓reduceIte, tis, eIns]))))
  all_goals (simp_all [insB_at hi])
  all_goals first | (intros; omega) | grind [doorI]
/-- impl.ProgOk -/
theorem fits_progOk (p : List Ins) (hp : p.length ≤ 1099511627776) : Fits prog 44 [.sl false 4 (p.map eIns)] (.bool (progB p)) [] := by
  refine fits_of_code [2] [] [0, 2, 3, 22, 24, 25, 26, 31] func44 rfl rfl rfl (by rfl) (by show 1 ≤ 33; decide) (by rfl) (by rfl) (by show 0 ≤ 1; decide) (by rfl) (run_of ?_)
  simp -implicitDefEqProofs (disch := first | (intros; contradiction) | omega) only [am0, am1, am2, am3, am4, am5, am6, am7, am8, Nat.reduceSub, ↓reduceIte, reduceCtorEq, Nat.reduceEqDiff, Nat.reduceBEq, Nat.reduceAdd, Nat.reduceLT, ↓reduceIte, tis]
  refine callb_of (fits_in p.length 1 1500) (by simp -implicitDefEqProofs (disch := first | (intros; contradiction) | omega) only [am0, am1, am2, am3, am4, am5, am6, am7, am8, Nat.reduceSub, ↓reduceIte, reduceCtorEq, Nat.reduceEqDiff, Nat.reduceBEq, Nat.reduceAdd, Nat.reduceLT, ↓reduceIte, tis]) (.inl rfl) rfl ?_
  by_cases h1 : 1 ≤ (p.length : Int) ∧ (p.length : Int) ≤ 1500
  case neg => simp -implicitDefEqProofs (disch := first | (intros; contradiction) | omega) only [am0, am1, am2, am3, am4, am5, am6, am7, am8, Nat.reduceSub, ↓reduceIte, reduceCtorEq, Nat.reduceEqDiff, Nat.reduceBEq, Nat.reduceAdd, Nat.reduceLT, ↓reduceIte, tis, h1, progB_false1 h1]
  obtain ⟨h1a, h1b⟩ := h1
  simp -implicitDefEqProofs (disch := first | (intros; contradiction) | omega) only [am0, am1, am2, am3, am4, am5, am6, am7, am8, Nat.reduceSub, ↓reduceIte, reduceCtorEq, Nat.reduceEqDiff, Nat.reduceBEq, Nat.reduceAdd, Nat.reduceLT, ↓reduceIte, tis]
  refine callb_of (fits_door p 0 hp) (by simp -implicitDefEqProofs (disch := first | (intros; contradiction) | omega) only [am0, am1, am2, am3, am4, am5, am6, am7, am8, Nat.reduceSub, ↓reduceIte, reduceCtorEq, Nat.reduceEqDiff, Nat.reduceBEq, Nat.reduceAdd, Nat.reduceLT, ↓reduceIte, tis]) (.inl rfl) rfl ?_
  have hl : 0 < p.length := by omega
  cases h2 : doorB p 0 with
  | false => simp -implicitDefEqProofs (disch := first | (intros; contradiction) | omega) only [am0, am1, am2, am3, am4, am5, am6, am7, am8, Nat.reduceSub, ↓reduceIte, reduceCtorEq, Nat.reduceEqDiff, Nat.reduceBEq, Nat.reduceAdd, Nat.reduceLT, ↓reduceIte, tis, doorI_zero, h2, progB_false2 h2]
  | true =>
    cases h3 : lastB p with
    | false =>
      have h3' := h3
      rw [lastB_at hl] at h3'
      have h3' : p[p.length - 1].op ≠ 4 := by simpa using h3'
      have e : ((p.length : Int) - 1).toNat = p.length - 1 := by omega
      simp -implicitDefEqProofs (disch := first | (intros; contradiction) | omega) only [am0, am1, am2, am3, am4, am5, am6, am7, am8, Nat.reduceSub, ↓reduceIte, reduceCtorEq, Nat.reduceEqDiff, Nat.reduceBEq, Nat.reduceAdd, Nat.reduceLT, ↓reduceIte, tis, doorI_zero, h2, e, eIns, progB_false3 h3]
    | true =>
      have h3' := h3
      rw [lastB_at hl] at h3'
      have h3' : p[p.length - 1].op = 4 := by simpa using h3'
      have e : ((p.length : Int) - 1).toNat = p.length - 1 := by omega
      simp -implicitDefEqProofs (disch := first | (intros; contradiction) | omega) only [am0, am1, am2, am3, am4, am5, am6, am7, am8, Nat.reduceSub, ↓reduceIte, reduceCtorEq, Nat.reduceEqDiff, Nat.reduceBEq, Nat.reduceAdd, Nat.reduceLT, ↓reduceIte, tis, doorI_zero, h2, e, eIns]
      refine run_loop (α := Nat) (fun i => i ≤ p.length ∧ ∀ j, j < i → insB p j = true) (fun i => [(0, .sl false 4 (p.map eIns)), (24, .int .i64 p.length), (25, .int .i64 i)]) (fun i => p.length - i) 0 ⟨Nat.zero_le _, by simp⟩ ?_ ?_
      · simp -implicitDefEqProofs (disch := first | (intros; contradiction) | omega) only [am0, am1, am2, am3, am4, am5, am6, am7, am8, Nat.reduceSub, ↓reduceIte, reduceCtorEq, Nat.reduceEqDiff, Nat.reduceBEq, Nat.reduceAdd, Nat.reduceLT, ↓reduceIte, tis]
      · rintro i ⟨hi', hb⟩
        by_cases hi : i < p.length
        · simp -implicitDefEqProofs (disch := first | (intros; contradiction) | omega) only [am0, am1, am2, am3, am4, am5, am6, am7, am8, Nat.reduceSub, ↓reduceIte, reduceCtorEq, Nat.reduceEqDiff, Nat.reduceBEq, Nat.reduceAdd, Nat.reduceLT, ↓reduceIte, tis]
          refine callb_of (fits_insOk p i hp hi) (by simp -implicitDefEqProofs (disch := first | (intros; contradiction) | omega) only [am0, am1, am2, am3, am4, am5, am6, am7, am8, Nat.reduceSub, ↓reduceIte, reduceCtorEq, Nat.reduceEqDiff, Nat.reduceBEq, Nat.reduceAdd, Nat.reduceLT, ↓reduceIte, tis]) (.inl rfl) rfl ?_
          cases h5 : insB p i with
          | false => simp -implicitDefEqProofs (disch := first | (intros; contradiction) | omega) only [am0, am1, am2, am3, am4, am5, am6, am7, am8, Nat.reduceSub, ↓reduceIte, reduceCtorEq, Nat.reduceEqDiff, Nat.reduceBEq, Nat.reduceAdd, Nat.reduceLT, ↓reduceIte, tis, h5, progB_false4 hi h5]
          | true =>
            simp -implicitDefEqProofs (disch := first | (intros; contradiction) | omega) only [am0, am1, am2, am3, am4, am5, am6, am7, am8, Nat.reduceSub, ↓reduceIte, reduceCtorEq, Nat.reduceEqDiff, Nat.reduceBEq, Nat.reduceAdd, Nat.reduceLT, ↓reduceIte, tis, h5]
            refine round_normal (i + 1) ⟨by omega, ?_⟩ ?_ (by show p.length - (i + 1) < p.length - i; omega)
            · intro j hj
              by_cases hji : j < i
              · exact hb j hji
              · obtain rfl : j = i := by omega
                exact h5
            · simp -implicitDefEqProofs (disch := first | (intros; contradiction) | omega) only [am0, am1, am2, am3, am4, am5, am6, am7, am8, Nat.reduceSub, ↓reduceIte, reduceCtorEq, Nat.reduceEqDiff, Nat.reduceBEq, Nat.reduceAdd, Nat.reduceLT, ↓reduceIte, tis]
        · obtain rfl : i = p.length := by omega
          simp -implicitDefEqProofs (disch := first | (intros; contradiction) | omega) only [am0, am1, am2, am3, am4, am5, am6, am7, am8, Nat.reduceSub, ↓reduceIte, reduceCtorEq, Nat.reduceEqDiff, Nat.reduceBEq, Nat.reduceAdd, Nat.reduceLT, ↓reduceIte, tis, progB_true ⟨h1a, h1b⟩ h2 h3 hb]
/-- spec.l10Door -/
theorem fits_sDoor (p : List Ins) (j : Nat) (hp : p.length ≤ 1099511627776) (hj : j < p.length) : Fits prog 43 [.sl false 4 (p.map eIns), .int .i64 j] (.bool (doorB p j)) [] := by
  refine fits_of_code [4] [] [0, 1, 4, 10] func43 rfl rfl rfl (by rfl) (by show 2 ≤ 31; decide) (by rfl) (by rfl) (by show 0 ≤ 2; decide) (by rfl) (run_of ?_)
  (simp -implicitDefEqProofs (disch := first | (intros; contradiction) | omega) only [am0, am1, am2, am3, am4, am5, am6, am7, am8, Nat.reduceSub, ↓reduceIte, reduceCtorEq, Nat.reduceEqDiff, Nat.reduceBEq, Nat.reduceAdd, Nat.reduceLT, ↓reduceIte, tis, eIns]; (repeat' ((first | (refine cond_beq (fun _ => ?_) (fun _ => ?_)) | (refine cond_bne (fun _ => ?_) (fun _ => ?_)) | (refine cond_dec (fun _ => ?_) (fun _ => ?_)) | (refine cond_of (fun _ => ?_) (fun _ => ?_)) | (refine guard_beq (fun _ => ?_) (fun _ => ?_)) | (refine guard_bne (fun _ => ?_) (fun _ => ?_)) | (refine guard_dec (fun _ => ?_) (fun _ => ?_)) | (refine guard_of (fun _ => ?_) (fun _ => ?_)) | (refine guardD_beq (fun _ => ?_) (fun _ => ?_)) | (refine guardD_bne (fun _ => ?_) (fun _ => ?_)) | (refine guardD_dec (fun _ => ?_) (fun _ => ?_)) | (refine guardD_of (fun _ => ?_) (fun _ => ?_))) <;> (try simp -implicitDefEqProofs (disch := first | (intros; contradiction) | omega) only [am0, am1, am2, am3, am4, am5, am6, am7, am8, Nat.reduceSub, ↓reduceIte, reduceCtorEq, Nat.reduceEqDiff, Nat.reduceBEq, Nat.reduceAdd, Nat.reduceLT, ↓reduceIte, tis, eIns]))))
  all_goals (have hq : j + 1 < p.length ∨ ¬ j + 1 < p.length := by omega)
  all_goals (rcases hq with hq | hq <;> first | omega | (simp_all [doorB_at hj]))
/-- An instruction by itself. -/
def insS (x : Ins) (n : Int) : Bool := (x.op == 1 && decide (0 ≤ x.a ∧ x.a ≤ 4 ∧ x.b = 0 ∧ x.to = 0)) || ((x.op == 2 || x.op == 4) && decide (x.a = 0 ∧ x.b = 0 ∧ x.to = 0)) ||
      (x.op == 3 && decide (0 ≤ x.a ∧ x.a ≤ x.b ∧ x.b ≤ 255 ∧ 0 ≤ x.to ∧ x.to < n))
/-- spec.l10Ins -/
theorem fits_sIns (x : Ins) (n : Int) : Fits prog 74 [eIns x, .int .i64 n] (.bool (insS x n)) [] := by
  refine fits_of_code [4] [] [0, 1, 2, 4, 6, 7, 27, 43] func74 rfl rfl rfl (by rfl) (by show 2 ≤ 71; decide) (by rfl) (by rfl) (by show 0 ≤ 2; decide) (by rfl) (run_of ?_)
  (simp -implicitDefEqProofs (disch := first | (intros; contradiction) | omega) only [am0, am1, am2, am3, am4, am5, am6, am7, am8, Nat.reduceSub, ↓reduceIte, reduceCtorEq, Nat.reduceEqDiff, Nat.reduceBEq, Nat.reduceAdd, Nat.reduceLT, ↓reduceIte, tis, eIns]; (repeat' ((first | (refine cond_beq (fun _ => ?_) (fun _ => ?_)) | (refine cond_bne (fun _ => ?_) (fun _ => ?_)) | (refine cond_dec (fun _ => ?_) (fun _ => ?_)) | (refine cond_of (fun _ => ?_) (fun _ => ?_)) | (refine guard_beq (fun _ => ?_) (fun _ => ?_)) | (refine guard_bne (fun _ => ?_) (fun _ => ?_)) | (refine guard_dec (fun _ => ?_) (fun _ => ?_)) | (refine guard_of (fun _ => ?_) (fun _ => ?_)) | (refine guardD_beq (fun _ => ?_) (fun _ => ?_)) | (refine guardD_bne (fun _ => ?_) (fun _ => ?_)) | (refine guardD_dec (fun _ => ?_) (fun _ => ?_)) | (refine guardD_of (fun _ => ?_) (fun _ => ?_))) <;> (try simp -implicitDefEqProofs (disch := first | (intros; contradiction) | omega) only [am0, am1, am2, am3, am4, am5, am6, am7, am8, Nat.reduceSub, ↓reduceIte, reduceCtorEq, Nat.reduceEqDiff, Nat.reduceBEq, Nat.reduceAdd, Nat.reduceLT, ↓reduceIte, tis, eIns]))))
  all_goals (simp_all [insS])
  all_goals first | (intros; omega) | grind
theorem insB_S {p : List Ins} {i : Nat} (h : i < p.length) : insB p i = (insS p[i] p.length && ((!(p[i].op == 3) || doorI p p[i].to) && (!(p[i].op == 1) || doorB p i))) := by
  rw [insB_at h, insS]
  generalize p[i] = x
  have hd : doorI p x.to = true → 0 ≤ x.to ∧ x.to < p.length := by
    intro hh
    refine Classical.byContradiction fun hc => ?_
    rw [doorI_out hc] at hh; cases hh
  rw [Bool.eq_iff_iff]
  simp only [Bool.and_eq_true, Bool.or_eq_true, beq_iff_eq, decide_eq_true_eq, Bool.not_eq_true', beq_eq_false_iff_ne]
  constructor
  · rintro ((⟨h1, h2, h3⟩ | ⟨h1, h2⟩) | ⟨h1, h2, h3⟩)
    · exact ⟨.inl (.inl ⟨h1, h2⟩), .inl (by omega), .inr h3⟩
    · exact ⟨.inl (.inr ⟨h1, h2⟩), .inl (by omega), .inl (by omega)⟩
    · have := hd h3
      exact ⟨.inr ⟨h1, by omega⟩, .inr h3, .inl (by omega)⟩
  · rintro ⟨(⟨h1, h2⟩ | ⟨h1, h2⟩) | ⟨h1, h2⟩, h3, h4⟩
    · exact .inl (.inl ⟨h1, h2, h4.resolve_left (by omega)⟩)
    · exact .inl (.inr ⟨h1, h2⟩)
    · exact .inr ⟨h1, by omega, h3.resolve_left (by omega)⟩
/-- spec.ProgOk -/
theorem fits_sProgOk (p : List Ins) (hp : p.length ≤ 1099511627776) : Fits prog 42 [.sl false 4 (p.map eIns)] (.bool (progB p)) [] := by
  refine fits_of_code [2] [] [0, 2, 3, 26, 30, 72] func42 rfl rfl rfl (by rfl) (by show 1 ≤ 73; decide) (by rfl) (by rfl) (by show 0 ≤ 1; decide) (by rfl) (run_of ?_)
  by_cases h1 : 1 ≤ (p.length : Int) ∧ (p.length : Int) ≤ 1500
  case neg =>
    by_cases h2 : (p.length : Int) < 1
    · simp -implicitDefEqProofs (disch := first | (intros; contradiction) | omega) only [am0, am1, am2, am3, am4, am5, am6, am7, am8, Nat.reduceSub, ↓reduceIte, reduceCtorEq, Nat.reduceEqDiff, Nat.reduceBEq, Nat.reduceAdd, Nat.reduceLT, ↓reduceIte, tis, progB_false1 h1]
    · simp -implicitDefEqProofs (disch := first | (intros; contradiction) | omega) only [am0, am1, am2, am3, am4, am5, am6, am7, am8, Nat.reduceSub, ↓reduceIte, reduceCtorEq, Nat.reduceEqDiff, Nat.reduceBEq, Nat.reduceAdd, Nat.reduceLT, ↓reduceIte, tis, progB_false1 h1]
  obtain ⟨h1a, h1b⟩ := h1
  have hl : 0 < p.length := by omega
  simp -implicitDefEqProofs (disch := first | (intros; contradiction) | omega) only [am0, am1, am2, am3, am4, am5, am6, am7, am8, Nat.reduceSub, ↓reduceIte, reduceCtorEq, Nat.reduceEqDiff, Nat.reduceBEq, Nat.reduceAdd, Nat.reduceLT, ↓reduceIte, tis]
  refine callb_of (fits_sDoor p 0 hp hl) (by simp -implicitDefEqProofs (disch := first | (intros; contradiction) | omega) only [am0, am1, am2, am3, am4, am5, am6, am7, am8, Nat.reduceSub, ↓reduceIte, reduceCtorEq, Nat.reduceEqDiff, Nat.reduceBEq, Nat.reduceAdd, Nat.reduceLT, ↓reduceIte, tis]) (.inl rfl) rfl ?_
  cases h2 : doorB p 0 with
  | false => simp -implicitDefEqProofs (disch := first | (intros; contradiction) | omega) only [am0, am1, am2, am3, am4, am5, am6, am7, am8, Nat.reduceSub, ↓reduceIte, reduceCtorEq, Nat.reduceEqDiff, Nat.reduceBEq, Nat.reduceAdd, Nat.reduceLT, ↓reduceIte, tis, h2, progB_false2 h2]
  | true =>
    have e : ((p.length : Int) - 1).toNat = p.length - 1 := by omega
    cases h3 : lastB p with
    | false =>
      have h3' := h3
      rw [lastB_at hl] at h3'
      have h3' : p[p.length - 1].op ≠ 4 := by simpa using h3'
      simp -implicitDefEqProofs (disch := first | (intros; contradiction) | omega) only [am0, am1, am2, am3, am4, am5, am6, am7, am8, Nat.reduceSub, ↓reduceIte, reduceCtorEq, Nat.reduceEqDiff, Nat.reduceBEq, Nat.reduceAdd, Nat.reduceLT, ↓reduceIte, tis, h2, e, eIns, progB_false3 h3]
    | true =>
      have h3' := h3
      rw [lastB_at hl] at h3'
      have h3' : p[p.length - 1].op = 4 := by simpa using h3'
      simp -implicitDefEqProofs (disch := first | (intros; contradiction) | omega) only [am0, am1, am2, am3, am4, am5, am6, am7, am8, Nat.reduceSub, ↓reduceIte, reduceCtorEq, Nat.reduceEqDiff, Nat.reduceBEq, Nat.reduceAdd, Nat.reduceLT, ↓reduceIte, tis, h2, e, eIns]
      refine run_loop (α := Nat) (fun i => i ≤ p.length ∧ ∀ j, j < i → insB p j = true) (fun i => [(0, .sl false 4 (p.map eIns)), (3, .int .i64 i)]) (fun i => p.length - i) 0 ⟨Nat.zero_le _, by simp⟩ ?_ ?_
      · simp -implicitDefEqProofs (disch := first | (intros; contradiction) | omega) only [am0, am1, am2, am3, am4, am5, am6, am7, am8, Nat.reduceSub, ↓reduceIte, reduceCtorEq, Nat.reduceEqDiff, Nat.reduceBEq, Nat.reduceAdd, Nat.reduceLT, ↓reduceIte, tis]
      · rintro i ⟨hi', hb⟩
        by_cases hi : i < p.length
        · have good : insB p i = true → Le [(0, AV.sl false 4 (p.map eIns)), (3, AV.int .i64 ((i : Int) + 1))] [(0, AV.sl false 4 (p.map eIns)), (3, AV.int .i64 ((i + 1 : Nat) : Int))] ∧ ∀ j, j < i + 1 → insB p j = true := by
            intro h5
            refine ⟨by simp -implicitDefEqProofs (disch := first | (intros; contradiction) | omega) only [am0, am1, am2, am3, am4, am5, am6, am7, am8, Nat.reduceSub, ↓reduceIte, reduceCtorEq, Nat.reduceEqDiff, Nat.reduceBEq, Nat.reduceAdd, Nat.reduceLT, ↓reduceIte, tis], ?_⟩
            intro j hj
            by_cases hji : j < i
            · exact hb j hji
            · obtain rfl : j = i := by omega
              exact h5
          have e5 := insB_S hi
          simp -implicitDefEqProofs (disch := first | (intros; contradiction) | omega) only [am0, am1, am2, am3, am4, am5, am6, am7, am8, Nat.reduceSub, ↓reduceIte, reduceCtorEq, Nat.reduceEqDiff, Nat.reduceBEq, Nat.reduceAdd, Nat.reduceLT, ↓reduceIte, tis, eIns]
          refine callb_of (fits_sIns p[i] p.length) (by simp -implicitDefEqProofs (disch := first | (intros; contradiction) | omega) only [am0, am1, am2, am3, am4, am5, am6, am7, am8, Nat.reduceSub, ↓reduceIte, reduceCtorEq, Nat.reduceEqDiff, Nat.reduceBEq, Nat.reduceAdd, Nat.reduceLT, ↓reduceIte, tis, eIns]) (.inl rfl) rfl ?_
          cases h5 : insS p[i] p.length with
          | false =>
            rw [h5] at e5
            simp -implicitDefEqProofs (disch := first | (intros; contradiction) | omega) only [am0, am1, am2, am3, am4, am5, am6, am7, am8, Nat.reduceSub, ↓reduceIte, reduceCtorEq, Nat.reduceEqDiff, Nat.reduceBEq, Nat.reduceAdd, Nat.reduceLT, ↓reduceIte, tis, h5, eIns, progB_false4 hi (by simpa using e5)]
          | true =>
            rw [h5] at e5
            by_cases h6 : p[i].op = 3
            · have hto : 0 ≤ p[i].to ∧ p[i].to < p.length := by
                simp [insS, h6] at h5; omega
              obtain ⟨q, hq⟩ : ∃ q : Nat, p[i].to = q := ⟨p[i].to.toNat, by omega⟩
              have hq2 : q < p.length := by omega
              simp -implicitDefEqProofs (disch := first | (intros; contradiction) | omega) only [am0, am1, am2, am3, am4, am5, am6, am7, am8, Nat.reduceSub, ↓reduceIte, reduceCtorEq, Nat.reduceEqDiff, Nat.reduceBEq, Nat.reduceAdd, Nat.reduceLT, ↓reduceIte, tis, h5, h6, eIns]
              refine callb_of (fits_sDoor p q hp hq2) (by simp -implicitDefEqProofs (disch := first | (intros; contradiction) | omega) only [am0, am1, am2, am3, am4, am5, am6, am7, am8, Nat.reduceSub, ↓reduceIte, reduceCtorEq, Nat.reduceEqDiff, Nat.reduceBEq, Nat.reduceAdd, Nat.reduceLT, ↓reduceIte, tis, eIns, hq]) (.inl rfl) rfl ?_
              rw [hq, doorI_nat] at e5
              cases h7 : doorB p q with
              | false => simp -implicitDefEqProofs (disch := first | (intros; contradiction) | omega) only [am0, am1, am2, am3, am4, am5, am6, am7, am8, Nat.reduceSub, ↓reduceIte, reduceCtorEq, Nat.reduceEqDiff, Nat.reduceBEq, Nat.reduceAdd, Nat.reduceLT, ↓reduceIte, tis, h7, h6, eIns, progB_false4 hi (by simpa [h6, h7] using e5)]
              | true =>
                simp -implicitDefEqProofs (disch := first | (intros; contradiction) | omega) only [am0, am1, am2, am3, am4, am5, am6, am7, am8, Nat.reduceSub, ↓reduceIte, reduceCtorEq, Nat.reduceEqDiff, Nat.reduceBEq, Nat.reduceAdd, Nat.reduceLT, ↓reduceIte, tis, h7, h6, eIns]
                obtain ⟨g1, g2⟩ := good (by simpa [h6, h7] using e5)
                exact round_normal (i + 1) ⟨by omega, g2⟩ (by simp -implicitDefEqProofs (disch := first | (intros; contradiction) | omega) only [am0, am1, am2, am3, am4, am5, am6, am7, am8, Nat.reduceSub, ↓reduceIte, reduceCtorEq, Nat.reduceEqDiff, Nat.reduceBEq, Nat.reduceAdd, Nat.reduceLT, ↓reduceIte, tis]) (by show p.length - (i + 1) < p.length - i; omega)
            · by_cases h8 : p[i].op = 1
              · simp -implicitDefEqProofs (disch := first | (intros; contradiction) | omega) only [am0, am1, am2, am3, am4, am5, am6, am7, am8, Nat.reduceSub, ↓reduceIte, reduceCtorEq, Nat.reduceEqDiff, Nat.reduceBEq, Nat.reduceAdd, Nat.reduceLT, ↓reduceIte, tis, h5, h6, h8, eIns]
                refine callb_of (fits_sDoor p i hp hi) (by simp -implicitDefEqProofs (disch := first | (intros; contradiction) | omega) only [am0, am1, am2, am3, am4, am5, am6, am7, am8, Nat.reduceSub, ↓reduceIte, reduceCtorEq, Nat.reduceEqDiff, Nat.reduceBEq, Nat.reduceAdd, Nat.reduceLT, ↓reduceIte, tis, eIns]) (.inl rfl) rfl ?_
                cases h7 : doorB p i with
                | false => simp -implicitDefEqProofs (disch := first | (intros; contradiction) | omega) only [am0, am1, am2, am3, am4, am5, am6, am7, am8, Nat.reduceSub, ↓reduceIte, reduceCtorEq, Nat.reduceEqDiff, Nat.reduceBEq, Nat.reduceAdd, Nat.reduceLT, ↓reduceIte, tis, h7, h8, eIns, progB_false4 hi (by simpa [h8, h7] using e5)]
                | true =>
                  simp -implicitDefEqProofs (disch := first | (intros; contradiction) | omega) only [am0, am1, am2, am3, am4, am5, am6, am7, am8, Nat.reduceSub, ↓reduceIte, reduceCtorEq, Nat.reduceEqDiff, Nat.reduceBEq, Nat.reduceAdd, Nat.reduceLT, ↓reduceIte, tis, h7, h8, eIns]
                  obtain ⟨g1, g2⟩ := good (by simpa [h8, h7] using e5)
                  exact round_normal (i + 1) ⟨by omega, g2⟩ (by simp -implicitDefEqProofs (disch := first | (intros; contradiction) | omega) only [am0, am1, am2, am3, am4, am5, am6, am7, am8, Nat.reduceSub, ↓reduceIte, reduceCtorEq, Nat.reduceEqDiff, Nat.reduceBEq, Nat.reduceAdd, Nat.reduceLT, ↓reduceIte, tis]) (by show p.length - (i + 1) < p.length - i; omega)
              · simp -implicitDefEqProofs (disch := first | (intros; contradiction) | omega) only [am0, am1, am2, am3, am4, am5, am6, am7, am8, Nat.reduceSub, ↓reduceIte, reduceCtorEq, Nat.reduceEqDiff, Nat.reduceBEq, Nat.reduceAdd, Nat.reduceLT, ↓reduceIte, tis, h5, h6, h8, eIns]
                obtain ⟨g1, g2⟩ := good (by rw [e5, ibeq_f h6, ibeq_f h8]; rfl)
                exact round_normal (i + 1) ⟨by omega, g2⟩ (by simp -implicitDefEqProofs (disch := first | (intros; contradiction) | omega) only [am0, am1, am2, am3, am4, am5, am6, am7, am8, Nat.reduceSub, ↓reduceIte, reduceCtorEq, Nat.reduceEqDiff, Nat.reduceBEq, Nat.reduceAdd, Nat.reduceLT, ↓reduceIte, tis]) (by show p.length - (i + 1) < p.length - i; omega)
        · obtain rfl : i = p.length := by omega
          simp -implicitDefEqProofs (disch := first | (intros; contradiction) | omega) only [am0, am1, am2, am3, am4, am5, am6, am7, am8, Nat.reduceSub, ↓reduceIte, reduceCtorEq, Nat.reduceEqDiff, Nat.reduceBEq, Nat.reduceAdd, Nat.reduceLT, ↓reduceIte, tis, progB_true ⟨h1a, h1b⟩ h2 h3 hb]
theorem feedB_no1 {f : Feed} (h : progB f.prog = false) : feedB f = false := by simp [feedB, h]
theorem feedB_no2 {f : Feed} (h : ¬ (0 ≤ f.base ∧ f.base + f.buf.length ≤ 200)) : feedB f = false := by simp only [feedB, h, decide_false, Bool.false_and, Bool.and_false]
theorem feedB_no3 {f : Feed} (h : doorI f.prog f.pc = false) : feedB f = false := by simp [feedB, h]
theorem feedB_no4 {f : Feed} (h : ¬ (0 ≤ f.at_ ∧ f.at_ ≤ f.buf.length ∧ (f.at_ = 0 → f.pc = 0) ∧ 0 ≤ f.to ∧ f.to ≤ f.at_ ∧ -1 ≤ f.rule ∧ f.rule ≤ 4 ∧ (f.rule = -1 ↔ f.to = 0))) : feedB f = false := by simp only [feedB, h, decide_false, Bool.false_and, Bool.and_false]
theorem feedB_no5 {f : Feed} (h : outEnd f.out 0 = none) : feedB f = false := by simp [feedB, h]
theorem feedB_eq {f : Feed} {e : Int} (h1 : progB f.prog = true) (h2 : 0 ≤ f.base ∧ f.base + f.buf.length ≤ 200) (h3 : doorI f.prog f.pc = true) (h4 : 0 ≤ f.at_ ∧ f.at_ ≤ f.buf.length ∧ (f.at_ = 0 → f.pc = 0) ∧ 0 ≤ f.to ∧ f.to ≤ f.at_ ∧ -1 ≤ f.rule ∧ f.rule ≤ 4 ∧ (f.rule = -1 ↔ f.to = 0)) (h5 : outEnd f.out 0 = some e) : feedB f = (e == f.base) := by
  have h2' := decide_eq_true h2
  have h4' := decide_eq_true h4
  unfold feedB
  rw [h1, h2', h3, h4', h5]
  rfl
/-- impl.FeedOk -/
theorem fits_feedOk (f : Feed) (hp : f.prog.length ≤ 1099511627776) (hb : f.buf.length ≤ 1099511627776) (ho : f.out.length ≤ 1099511627776) : Fits prog 17 [eFeed false f] (.bool (feedB f)) [] := by
  refine fits_of_code [2] [] [0, 1, 2, 3, 5, 51, 72, 74, 75, 76, 77, 95] func17 rfl rfl rfl (by rfl) (by show 1 ≤ 103; decide) (by rfl) (by rfl) (by show 0 ≤ 1; decide) (by rfl) (run_of ?_)
  simp -implicitDefEqProofs (disch := first | (intros; contradiction) | omega) only [am0, am1, am2, am3, am4, am5, am6, am7, am8, Nat.reduceSub, ↓reduceIte, reduceCtorEq, Nat.reduceEqDiff, Nat.reduceBEq, Nat.reduceAdd, Nat.reduceLT, ↓reduceIte, tis, eFeed]
  refine callb_of (fits_progOk f.prog hp) (by simp -implicitDefEqProofs (disch := first | (intros; contradiction) | omega) only [am0, am1, am2, am3, am4, am5, am6, am7, am8, Nat.reduceSub, ↓reduceIte, reduceCtorEq, Nat.reduceEqDiff, Nat.reduceBEq, Nat.reduceAdd, Nat.reduceLT, ↓reduceIte, tis]) (.inl rfl) rfl ?_
  cases h1 : progB f.prog with
  | false => simp -implicitDefEqProofs (disch := first | (intros; contradiction) | omega) only [am0, am1, am2, am3, am4, am5, am6, am7, am8, Nat.reduceSub, ↓reduceIte, reduceCtorEq, Nat.reduceEqDiff, Nat.reduceBEq, Nat.reduceAdd, Nat.reduceLT, ↓reduceIte, tis, h1, feedB_no1 h1]
  | true =>
  simp -implicitDefEqProofs (disch := first | (intros; contradiction) | omega) only [am0, am1, am2, am3, am4, am5, am6, am7, am8, Nat.reduceSub, ↓reduceIte, reduceCtorEq, Nat.reduceEqDiff, Nat.reduceBEq, Nat.reduceAdd, Nat.reduceLT, ↓reduceIte, tis, h1]
  refine callb_of (fits_in f.base 0 200) (by simp -implicitDefEqProofs (disch := first | (intros; contradiction) | omega) only [am0, am1, am2, am3, am4, am5, am6, am7, am8, Nat.reduceSub, ↓reduceIte, reduceCtorEq, Nat.reduceEqDiff, Nat.reduceBEq, Nat.reduceAdd, Nat.reduceLT, ↓reduceIte, tis]) (.inl rfl) rfl ?_
  by_cases h2 : 0 ≤ f.base ∧ f.base ≤ 200
  case neg => simp -implicitDefEqProofs (disch := first | (intros; contradiction) | omega) only [am0, am1, am2, am3, am4, am5, am6, am7, am8, Nat.reduceSub, ↓reduceIte, reduceCtorEq, Nat.reduceEqDiff, Nat.reduceBEq, Nat.reduceAdd, Nat.reduceLT, ↓reduceIte, tis, h2, feedB_no2 (f := f) (by omega)]
  by_cases h2b : f.base + f.buf.length ≤ 200
  case neg => simp -implicitDefEqProofs (disch := first | (intros; contradiction) | omega) only [am0, am1, am2, am3, am4, am5, am6, am7, am8, Nat.reduceSub, ↓reduceIte, reduceCtorEq, Nat.reduceEqDiff, Nat.reduceBEq, Nat.reduceAdd, Nat.reduceLT, ↓reduceIte, tis, h2, feedB_no2 (f := f) (by omega)]
  simp -implicitDefEqProofs (disch := first | (intros; contradiction) | omega) only [am0, am1, am2, am3, am4, am5, am6, am7, am8, Nat.reduceSub, ↓reduceIte, reduceCtorEq, Nat.reduceEqDiff, Nat.reduceBEq, Nat.reduceAdd, Nat.reduceLT, ↓reduceIte, tis, h2]
  refine callb_of (fits_door f.prog f.pc hp) (by simp -implicitDefEqProofs (disch := first | (intros; contradiction) | omega) only [am0, am1, am2, am3, am4, am5, am6, am7, am8, Nat.reduceSub, ↓reduceIte, reduceCtorEq, Nat.reduceEqDiff, Nat.reduceBEq, Nat.reduceAdd, Nat.reduceLT, ↓reduceIte, tis]) (.inl rfl) rfl ?_
  cases h3 : doorI f.prog f.pc with
  | false => simp -implicitDefEqProofs (disch := first | (intros; contradiction) | omega) only [am0, am1, am2, am3, am4, am5, am6, am7, am8, Nat.reduceSub, ↓reduceIte, reduceCtorEq, Nat.reduceEqDiff, Nat.reduceBEq, Nat.reduceAdd, Nat.reduceLT, ↓reduceIte, tis, h3, feedB_no3 h3]
  | true =>
  simp -implicitDefEqProofs (disch := first | (intros; contradiction) | omega) only [am0, am1, am2, am3, am4, am5, am6, am7, am8, Nat.reduceSub, ↓reduceIte, reduceCtorEq, Nat.reduceEqDiff, Nat.reduceBEq, Nat.reduceAdd, Nat.reduceLT, ↓reduceIte, tis, h3]
  refine callb_of (fits_in f.at_ 0 f.buf.length) (by simp -implicitDefEqProofs (disch := first | (intros; contradiction) | omega) only [am0, am1, am2, am3, am4, am5, am6, am7, am8, Nat.reduceSub, ↓reduceIte, reduceCtorEq, Nat.reduceEqDiff, Nat.reduceBEq, Nat.reduceAdd, Nat.reduceLT, ↓reduceIte, tis]) (.inl rfl) rfl ?_
  by_cases h4 : 0 ≤ f.at_ ∧ f.at_ ≤ f.buf.length
  case neg => simp -implicitDefEqProofs (disch := first | (intros; contradiction) | omega) only [am0, am1, am2, am3, am4, am5, am6, am7, am8, Nat.reduceSub, ↓reduceIte, reduceCtorEq, Nat.reduceEqDiff, Nat.reduceBEq, Nat.reduceAdd, Nat.reduceLT, ↓reduceIte, tis, h4, feedB_no4 (f := f) (by omega)]
  by_cases h5 : f.at_ = 0 → f.pc = 0
  case neg =>
    have h5a : f.at_ = 0 := by omega
    have h5b : f.pc ≠ 0 := by omega
    simp -implicitDefEqProofs (disch := first | (intros; contradiction) | omega) only [am0, am1, am2, am3, am4, am5, am6, am7, am8, Nat.reduceSub, ↓reduceIte, reduceCtorEq, Nat.reduceEqDiff, Nat.reduceBEq, Nat.reduceAdd, Nat.reduceLT, ↓reduceIte, tis, h4, h5a, h5b, feedB_no4 (f := f) (by omega)]
  have key : (f.at_ = 0 ∧ f.pc = 0) ∨ f.at_ ≠ 0 := by omega
  rcases key with h0 | h0
  all_goals
    simp -implicitDefEqProofs (disch := first | (intros; contradiction) | omega) only [am0, am1, am2, am3, am4, am5, am6, am7, am8, Nat.reduceSub, ↓reduceIte, reduceCtorEq, Nat.reduceEqDiff, Nat.reduceBEq, Nat.reduceAdd, Nat.reduceLT, ↓reduceIte, tis, h4]
    refine callb_of (fits_in f.to 0 f.at_) (by simp -implicitDefEqProofs (disch := first | (intros; contradiction) | omega) only [am0, am1, am2, am3, am4, am5, am6, am7, am8, Nat.reduceSub, ↓reduceIte, reduceCtorEq, Nat.reduceEqDiff, Nat.reduceBEq, Nat.reduceAdd, Nat.reduceLT, ↓reduceIte, tis]) (.inl rfl) rfl ?_
    by_cases h6 : 0 ≤ f.to ∧ f.to ≤ f.at_
    case neg => simp -implicitDefEqProofs (disch := first | (intros; contradiction) | omega) only [am0, am1, am2, am3, am4, am5, am6, am7, am8, Nat.reduceSub, ↓reduceIte, reduceCtorEq, Nat.reduceEqDiff, Nat.reduceBEq, Nat.reduceAdd, Nat.reduceLT, ↓reduceIte, tis, h6, feedB_no4 (f := f) (by omega)]
    simp -implicitDefEqProofs (disch := first | (intros; contradiction) | omega) only [am0, am1, am2, am3, am4, am5, am6, am7, am8, Nat.reduceSub, ↓reduceIte, reduceCtorEq, Nat.reduceEqDiff, Nat.reduceBEq, Nat.reduceAdd, Nat.reduceLT, ↓reduceIte, tis, h6]
    refine callb_of (fits_in f.rule (-1) 4) (by simp -implicitDefEqProofs (disch := first | (intros; contradiction) | omega) only [am0, am1, am2, am3, am4, am5, am6, am7, am8, Nat.reduceSub, ↓reduceIte, reduceCtorEq, Nat.reduceEqDiff, Nat.reduceBEq, Nat.reduceAdd, Nat.reduceLT, ↓reduceIte, tis]) (.inl rfl) rfl ?_
    by_cases h7 : -1 ≤ f.rule ∧ f.rule ≤ 4
    case neg => simp -implicitDefEqProofs (disch := first | (intros; contradiction) | omega) only [am0, am1, am2, am3, am4, am5, am6, am7, am8, Nat.reduceSub, ↓reduceIte, reduceCtorEq, Nat.reduceEqDiff, Nat.reduceBEq, Nat.reduceAdd, Nat.reduceLT, ↓reduceIte, tis, h7, feedB_no4 (f := f) (by omega)]
    by_cases h8 : (f.rule = -1 ↔ f.to = 0)
    case neg =>
      have hq : (f.rule = -1 ∧ f.to ≠ 0) ∨ (f.rule ≠ -1 ∧ f.to = 0) := by omega
      rcases hq with ⟨hq1, hq2⟩ | ⟨hq1, hq2⟩
      · have e1 : (f.rule == -1) = true := ibeq_t hq1
        have e2 : (f.to == 0) = false := ibeq_f hq2
        first | omega | (simp -implicitDefEqProofs (disch := first | (intros; contradiction) | omega) only [am0, am1, am2, am3, am4, am5, am6, am7, am8, Nat.reduceSub, ↓reduceIte, reduceCtorEq, Nat.reduceEqDiff, Nat.reduceBEq, Nat.reduceAdd, Nat.reduceLT, ↓reduceIte, tis, h7, e1, e2, bne, feedB_no4 (f := f) (by omega)])
      · have e1 : (f.rule == -1) = false := ibeq_f hq1
        have e2 : (f.to == 0) = true := ibeq_t hq2
        simp -implicitDefEqProofs (disch := first | (intros; contradiction) | omega) only [am0, am1, am2, am3, am4, am5, am6, am7, am8, Nat.reduceSub, ↓reduceIte, reduceCtorEq, Nat.reduceEqDiff, Nat.reduceBEq, Nat.reduceAdd, Nat.reduceLT, ↓reduceIte, tis, h7, e1, e2, bne, feedB_no4 (f := f) (by omega)]
    have e12 : (f.rule == -1) = (f.to == 0) := by
      by_cases hq : f.rule = -1
      · rw [ibeq_t hq, ibeq_t (h8.1 hq)]
      · rw [ibeq_f hq, ibeq_f (fun h => hq (h8.2 h))]
    have good := fun e => feedB_eq (f := f) (e := e) h1 ⟨h2.1, h2b⟩ h3 ⟨h4.1, h4.2, h5, h6.1, h6.2, h7.1, h7.2, h8⟩
    simp -implicitDefEqProofs (disch := first | (intros; contradiction) | omega) only [am0, am1, am2, am3, am4, am5, am6, am7, am8, Nat.reduceSub, ↓reduceIte, reduceCtorEq, Nat.reduceEqDiff, Nat.reduceBEq, Nat.reduceAdd, Nat.reduceLT, ↓reduceIte, tis, h7, e12, bne]
    refine run_loop (α := Nat × Int) (fun g => g.1 ≤ f.out.length ∧ outEnd (f.out.take g.1) 0 = some g.2) (fun g => [(1, .box (eFeed false f)), (3, .int .i64 g.2), (74, .sl false 3 (f.out.map eToken)), (75, .int .i64 f.out.length), (76, .int .i64 g.1)]) (fun g => f.out.length - g.1) (0, 0) ⟨Nat.zero_le _, by simp [outEnd]⟩ ?_ ?_
    · simp -implicitDefEqProofs (disch := first | (intros; contradiction) | omega) only [am0, am1, am2, am3, am4, am5, am6, am7, am8, Nat.reduceSub, ↓reduceIte, reduceCtorEq, Nat.reduceEqDiff, Nat.reduceBEq, Nat.reduceAdd, Nat.reduceLT, ↓reduceIte, tis, eFeed]
    · rintro ⟨i, e⟩ ⟨hi', he⟩
      by_cases hi : i < f.out.length
      · simp only at he
        by_cases h9 : f.out[i].frm = e ∧ e < f.out[i].to ∧ 0 ≤ f.out[i].rule ∧ f.out[i].rule ≤ 4
        case neg =>
          have hno := outEnd_fail hi he h9
          (simp -implicitDefEqProofs (disch := first | (intros; contradiction) | omega) only [am0, am1, am2, am3, am4, am5, am6, am7, am8, Nat.reduceSub, ↓reduceIte, reduceCtorEq, Nat.reduceEqDiff, Nat.reduceBEq, Nat.reduceAdd, Nat.reduceLT, ↓reduceIte, tis, eFeed, eToken]; (repeat' ((first | (refine callb_of (fits_in _ _ _) (by simp -implicitDefEqProofs (disch := first | (intros; contradiction) | omega) only [am0, am1, am2, am3, am4, am5, am6, am7, am8, Nat.reduceSub, ↓reduceIte, reduceCtorEq, Nat.reduceEqDiff, Nat.reduceBEq, Nat.reduceAdd, Nat.reduceLT, ↓reduceIte, tis, eFeed, eToken]; (repeat' (first | rfl | constructor))) (by first | exact .inl rfl | (right; simp -implicitDefEqProofs (disch := first | (intros; contradiction) | omega) only [am0, am1, am2, am3, am4, am5, am6, am7, am8, Nat.reduceSub, ↓reduceIte, reduceCtorEq, Nat.reduceEqDiff, Nat.reduceBEq, Nat.reduceAdd, Nat.reduceLT, ↓reduceIte, tis, eFeed, eToken])) rfl ?_) | (refine call_of (fits_in _ _ _) (by simp -implicitDefEqProofs (disch := first | (intros; contradiction) | omega) only [am0, am1, am2, am3, am4, am5, am6, am7, am8, Nat.reduceSub, ↓reduceIte, reduceCtorEq, Nat.reduceEqDiff, Nat.reduceBEq, Nat.reduceAdd, Nat.reduceLT, ↓reduceIte, tis, eFeed, eToken]; (repeat' (first | rfl | constructor))) (by first | exact .inl rfl | (right; simp -implicitDefEqProofs (disch := first | (intros; contradiction) | omega) only [am0, am1, am2, am3, am4, am5, am6, am7, am8, Nat.reduceSub, ↓reduceIte, reduceCtorEq, Nat.reduceEqDiff, Nat.reduceBEq, Nat.reduceAdd, Nat.reduceLT, ↓reduceIte, tis, eFeed, eToken])) rfl ?_) | (refine cond_beq (fun _ => ?_) (fun _ => ?_)) | (refine cond_bne (fun _ => ?_) (fun _ => ?_)) | (refine cond_dec (fun _ => ?_) (fun _ => ?_)) | (refine cond_of (fun _ => ?_) (fun _ => ?_)) | (refine guard_beq (fun _ => ?_) (fun _ => ?_)) | (refine guard_bne (fun _ => ?_) (fun _ => ?_)) | (refine guard_dec (fun _ => ?_) (fun _ => ?_)) | (refine guard_of (fun _ => ?_) (fun _ => ?_)) | (refine guardD_beq (fun _ => ?_) (fun _ => ?_)) | (refine guardD_bne (fun _ => ?_) (fun _ => ?_)) | (refine guardD_dec (fun _ => ?_) (fun _ => ?_)) | (refine guardD_of (fun _ => ?_) (fun _ => ?_))) <;> (try simp -implicitDefEqProofs (disch := first | (intros; contradiction) | omega) only [am0, am1, am2, am3, am4, am5, am6, am7, am8, Nat.reduceSub, ↓reduceIte, reduceCtorEq, Nat.reduceEqDiff, Nat.reduceBEq, Nat.reduceAdd, Nat.reduceLT, ↓reduceIte, tis, eFeed, eToken]))))
          all_goals first | omega | (simp [feedB_no5 hno]; done) | skip
        · obtain ⟨h9a, h9b, h9c, h9d⟩ := h9
          simp -implicitDefEqProofs (disch := first | (intros; contradiction) | omega) only [am0, am1, am2, am3, am4, am5, am6, am7, am8, Nat.reduceSub, ↓reduceIte, reduceCtorEq, Nat.reduceEqDiff, Nat.reduceBEq, Nat.reduceAdd, Nat.reduceLT, ↓reduceIte, tis, eFeed, eToken, h9a]
          refine callb_of (fits_in f.out[i].rule 0 4) (by simp -implicitDefEqProofs (disch := first | (intros; contradiction) | omega) only [am0, am1, am2, am3, am4, am5, am6, am7, am8, Nat.reduceSub, ↓reduceIte, reduceCtorEq, Nat.reduceEqDiff, Nat.reduceBEq, Nat.reduceAdd, Nat.reduceLT, ↓reduceIte, tis]) (.inl rfl) rfl ?_
          simp -implicitDefEqProofs (disch := first | (intros; contradiction) | omega) only [am0, am1, am2, am3, am4, am5, am6, am7, am8, Nat.reduceSub, ↓reduceIte, reduceCtorEq, Nat.reduceEqDiff, Nat.reduceBEq, Nat.reduceAdd, Nat.reduceLT, ↓reduceIte, tis, h9c, h9d]
          exact round_normal (i + 1, f.out[i].to) ⟨by simp only; omega, outEnd_take hi he ⟨h9a, h9b, h9c, h9d⟩⟩ (by simp -implicitDefEqProofs (disch := first | (intros; contradiction) | omega) only [am0, am1, am2, am3, am4, am5, am6, am7, am8, Nat.reduceSub, ↓reduceIte, reduceCtorEq, Nat.reduceEqDiff, Nat.reduceBEq, Nat.reduceAdd, Nat.reduceLT, ↓reduceIte, tis, eFeed]) (by show f.out.length - (i + 1) < f.out.length - i; omega)
      · obtain rfl : i = f.out.length := by simp only at hi'; omega
        rw [List.take_of_length_le (Nat.le_refl _)] at he
        simp -implicitDefEqProofs (disch := first | (intros; contradiction) | omega) only [am0, am1, am2, am3, am4, am5, am6, am7, am8, Nat.reduceSub, ↓reduceIte, reduceCtorEq, Nat.reduceEqDiff, Nat.reduceBEq, Nat.reduceAdd, Nat.reduceLT, ↓reduceIte, tis, eFeed, good e he]
/-- spec.FeedOk -/
theorem fits_sFeedOk (f : Feed) (hp : f.prog.length ≤ 1099511627776) (hb : f.buf.length ≤ 1099511627776) (ho : f.out.length ≤ 1099511627776) : Fits prog 16 [eFeed false f] (.bool (feedB f)) [] := by
  refine fits_of_code [2] [] [0, 1, 2, 3, 4, 98, 106, 111, 149] func16 rfl rfl rfl (by rfl) (by show 1 ≤ 160; decide) (by rfl) (by rfl) (by show 0 ≤ 1; decide) (by rfl) (run_of ?_)
  simp -implicitDefEqProofs (disch := first | (intros; contradiction) | omega) only [am0, am1, am2, am3, am4, am5, am6, am7, am8, Nat.reduceSub, ↓reduceIte, reduceCtorEq, Nat.reduceEqDiff, Nat.reduceBEq, Nat.reduceAdd, Nat.reduceLT, ↓reduceIte, tis, eFeed]
  refine callb_of (fits_sProgOk f.prog hp) (by simp -implicitDefEqProofs (disch := first | (intros; contradiction) | omega) only [am0, am1, am2, am3, am4, am5, am6, am7, am8, Nat.reduceSub, ↓reduceIte, reduceCtorEq, Nat.reduceEqDiff, Nat.reduceBEq, Nat.reduceAdd, Nat.reduceLT, ↓reduceIte, tis]) (.inl rfl) rfl ?_
  cases h1 : progB f.prog with
  | false => simp -implicitDefEqProofs (disch := first | (intros; contradiction) | omega) only [am0, am1, am2, am3, am4, am5, am6, am7, am8, Nat.reduceSub, ↓reduceIte, reduceCtorEq, Nat.reduceEqDiff, Nat.reduceBEq, Nat.reduceAdd, Nat.reduceLT, ↓reduceIte, tis, h1, feedB_no1 h1]
  | true =>
  have hpl := progB_len h1
  by_cases a1 : 0 ≤ f.base
  case neg => simp -implicitDefEqProofs (disch := first | (intros; contradiction) | omega) only [am0, am1, am2, am3, am4, am5, am6, am7, am8, Nat.reduceSub, ↓reduceIte, reduceCtorEq, Nat.reduceEqDiff, Nat.reduceBEq, Nat.reduceAdd, Nat.reduceLT, ↓reduceIte, tis, h1, feedB_no2 (f := f) (by omega)]
  by_cases a2 : f.base ≤ 200
  case neg => simp -implicitDefEqProofs (disch := first | (intros; contradiction) | omega) only [am0, am1, am2, am3, am4, am5, am6, am7, am8, Nat.reduceSub, ↓reduceIte, reduceCtorEq, Nat.reduceEqDiff, Nat.reduceBEq, Nat.reduceAdd, Nat.reduceLT, ↓reduceIte, tis, h1, feedB_no2 (f := f) (by omega)]
  by_cases a3 : (f.buf.length : Int) ≤ 200
  case neg => simp -implicitDefEqProofs (disch := first | (intros; contradiction) | omega) only [am0, am1, am2, am3, am4, am5, am6, am7, am8, Nat.reduceSub, ↓reduceIte, reduceCtorEq, Nat.reduceEqDiff, Nat.reduceBEq, Nat.reduceAdd, Nat.reduceLT, ↓reduceIte, tis, h1, feedB_no2 (f := f) (by omega)]
  by_cases a4 : f.base + f.buf.length ≤ 200
  case neg => simp -implicitDefEqProofs (disch := first | (intros; contradiction) | omega) only [am0, am1, am2, am3, am4, am5, am6, am7, am8, Nat.reduceSub, ↓reduceIte, reduceCtorEq, Nat.reduceEqDiff, Nat.reduceBEq, Nat.reduceAdd, Nat.reduceLT, ↓reduceIte, tis, h1, feedB_no2 (f := f) (by omega)]
  by_cases a5 : 0 ≤ f.pc
  case neg => simp -implicitDefEqProofs (disch := first | (intros; contradiction) | omega) only [am0, am1, am2, am3, am4, am5, am6, am7, am8, Nat.reduceSub, ↓reduceIte, reduceCtorEq, Nat.reduceEqDiff, Nat.reduceBEq, Nat.reduceAdd, Nat.reduceLT, ↓reduceIte, tis, h1, feedB_no3 (f := f) (doorI_out (by omega))]
  by_cases a6 : f.pc < f.prog.length
  case neg => simp -implicitDefEqProofs (disch := first | (intros; contradiction) | omega) only [am0, am1, am2, am3, am4, am5, am6, am7, am8, Nat.reduceSub, ↓reduceIte, reduceCtorEq, Nat.reduceEqDiff, Nat.reduceBEq, Nat.reduceAdd, Nat.reduceLT, ↓reduceIte, tis, h1, feedB_no3 (f := f) (doorI_out (by omega))]
  obtain ⟨q, hq⟩ : ∃ q : Nat, f.pc = q := ⟨f.pc.toNat, by omega⟩
  have hq2 : q < f.prog.length := by omega
  simp -implicitDefEqProofs (disch := first | (intros; contradiction) | omega) only [am0, am1, am2, am3, am4, am5, am6, am7, am8, Nat.reduceSub, ↓reduceIte, reduceCtorEq, Nat.reduceEqDiff, Nat.reduceBEq, Nat.reduceAdd, Nat.reduceLT, ↓reduceIte, tis, h1]
  refine callb_of (fits_sDoor f.prog q hp hq2) (by simp -implicitDefEqProofs (disch := first | (intros; contradiction) | omega) only [am0, am1, am2, am3, am4, am5, am6, am7, am8, Nat.reduceSub, ↓reduceIte, reduceCtorEq, Nat.reduceEqDiff, Nat.reduceBEq, Nat.reduceAdd, Nat.reduceLT, ↓reduceIte, tis, hq]) (.inl rfl) rfl ?_
  have hdq : doorI f.prog f.pc = doorB f.prog q := by rw [hq, doorI_nat]
  cases h3 : doorB f.prog q with
  | false => simp -implicitDefEqProofs (disch := first | (intros; contradiction) | omega) only [am0, am1, am2, am3, am4, am5, am6, am7, am8, Nat.reduceSub, ↓reduceIte, reduceCtorEq, Nat.reduceEqDiff, Nat.reduceBEq, Nat.reduceAdd, Nat.reduceLT, ↓reduceIte, tis, h3, feedB_no3 (f := f) (hdq.trans h3)]
  | true =>
  by_cases b1 : 0 ≤ f.at_
  case neg => simp -implicitDefEqProofs (disch := first | (intros; contradiction) | omega) only [am0, am1, am2, am3, am4, am5, am6, am7, am8, Nat.reduceSub, ↓reduceIte, reduceCtorEq, Nat.reduceEqDiff, Nat.reduceBEq, Nat.reduceAdd, Nat.reduceLT, ↓reduceIte, tis, h3, feedB_no4 (f := f) (by omega)]
  by_cases b2 : f.at_ ≤ f.buf.length
  case neg => simp -implicitDefEqProofs (disch := first | (intros; contradiction) | omega) only [am0, am1, am2, am3, am4, am5, am6, am7, am8, Nat.reduceSub, ↓reduceIte, reduceCtorEq, Nat.reduceEqDiff, Nat.reduceBEq, Nat.reduceAdd, Nat.reduceLT, ↓reduceIte, tis, h3, feedB_no4 (f := f) (by omega)]
  by_cases b3 : 0 ≤ f.to
  case neg => simp -implicitDefEqProofs (disch := first | (intros; contradiction) | omega) only [am0, am1, am2, am3, am4, am5, am6, am7, am8, Nat.reduceSub, ↓reduceIte, reduceCtorEq, Nat.reduceEqDiff, Nat.reduceBEq, Nat.reduceAdd, Nat.reduceLT, ↓reduceIte, tis, h3, feedB_no4 (f := f) (by omega)]
  by_cases b4 : f.to ≤ f.at_
  case neg => simp -implicitDefEqProofs (disch := first | (intros; contradiction) | omega) only [am0, am1, am2, am3, am4, am5, am6, am7, am8, Nat.reduceSub, ↓reduceIte, reduceCtorEq, Nat.reduceEqDiff, Nat.reduceBEq, Nat.reduceAdd, Nat.reduceLT, ↓reduceIte, tis, h3, feedB_no4 (f := f) (by omega)]
  by_cases b5 : -1 ≤ f.rule
  case neg => simp -implicitDefEqProofs (disch := first | (intros; contradiction) | omega) only [am0, am1, am2, am3, am4, am5, am6, am7, am8, Nat.reduceSub, ↓reduceIte, reduceCtorEq, Nat.reduceEqDiff, Nat.reduceBEq, Nat.reduceAdd, Nat.reduceLT, ↓reduceIte, tis, h3, feedB_no4 (f := f) (by omega)]
  by_cases b6 : f.rule ≤ 4
  case neg => simp -implicitDefEqProofs (disch := first | (intros; contradiction) | omega) only [am0, am1, am2, am3, am4, am5, am6, am7, am8, Nat.reduceSub, ↓reduceIte, reduceCtorEq, Nat.reduceEqDiff, Nat.reduceBEq, Nat.reduceAdd, Nat.reduceLT, ↓reduceIte, tis, h3, feedB_no4 (f := f) (by omega)]
  by_cases h8 : (f.rule = -1 ↔ f.to = 0)
  case neg =>
    have hr : (0 ≤ f.rule ∧ ¬ 0 < f.to) ∨ (f.rule < 0 ∧ 0 < f.to) := by omega
    rcases hr with ⟨hr1, hr2⟩ | ⟨hr1, hr2⟩
    · simp -implicitDefEqProofs (disch := first | (intros; contradiction) | omega) only [am0, am1, am2, am3, am4, am5, am6, am7, am8, Nat.reduceSub, ↓reduceIte, reduceCtorEq, Nat.reduceEqDiff, Nat.reduceBEq, Nat.reduceAdd, Nat.reduceLT, ↓reduceIte, tis, h3, bne, feedB_no4 (f := f) (by omega)]
    · simp -implicitDefEqProofs (disch := first | (intros; contradiction) | omega) only [am0, am1, am2, am3, am4, am5, am6, am7, am8, Nat.reduceSub, ↓reduceIte, reduceCtorEq, Nat.reduceEqDiff, Nat.reduceBEq, Nat.reduceAdd, Nat.reduceLT, ↓reduceIte, tis, h3, bne, feedB_no4 (f := f) (by omega)]
  by_cases h5 : f.at_ = 0 → f.pc = 0
  case neg =>
    have h5a : f.at_ = 0 := by omega
    have h5b : f.pc ≠ 0 := by omega
    have hr : f.rule < 0 ∧ ¬ 0 < f.to := by omega
    obtain ⟨hr1, hr2⟩ := hr
    simp -implicitDefEqProofs (disch := first | (intros; contradiction) | omega) only [am0, am1, am2, am3, am4, am5, am6, am7, am8, Nat.reduceSub, ↓reduceIte, reduceCtorEq, Nat.reduceEqDiff, Nat.reduceBEq, Nat.reduceAdd, Nat.reduceLT, ↓reduceIte, tis, h3, bne, feedB_no4 (f := f) (by omega)]
  have good := fun e => feedB_eq (f := f) (e := e) h1 ⟨a1, a4⟩ (hdq.trans h3) ⟨b1, b2, h5, b3, b4, b5, b6, h8⟩
  have hr : ((0 ≤ f.rule ∧ 0 < f.to) ∨ (f.rule < 0 ∧ ¬ 0 < f.to)) ∧ ((f.at_ = 0 ∧ f.pc = 0) ∨ f.at_ ≠ 0) := by omega
  obtain ⟨hr1, hr2⟩ := hr
  rcases hr1 with ⟨hr1, hr3⟩ | ⟨hr1, hr3⟩ <;> rcases hr2 with hr2 | hr2
  all_goals first | omega | skip
  all_goals
    simp -implicitDefEqProofs (disch := first | (intros; contradiction) | omega) only [am0, am1, am2, am3, am4, am5, am6, am7, am8, Nat.reduceSub, ↓reduceIte, reduceCtorEq, Nat.reduceEqDiff, Nat.reduceBEq, Nat.reduceAdd, Nat.reduceLT, ↓reduceIte, tis, h3, bne]
    refine run_loop (α := Nat × Int) (fun g => g.1 ≤ f.out.length ∧ outEnd (f.out.take g.1) 0 = some g.2) (fun g => [(1, .box (eFeed false f)), (3, .int .i64 g.2), (4, .int .i64 g.1)]) (fun g => f.out.length - g.1) (0, 0) ⟨Nat.zero_le _, by simp [outEnd]⟩ ?_ ?_
    · simp -implicitDefEqProofs (disch := first | (intros; contradiction) | omega) only [am0, am1, am2, am3, am4, am5, am6, am7, am8, Nat.reduceSub, ↓reduceIte, reduceCtorEq, Nat.reduceEqDiff, Nat.reduceBEq, Nat.reduceAdd, Nat.reduceLT, ↓reduceIte, tis, eFeed]
    · rintro ⟨i, e⟩ ⟨hi', he⟩
      by_cases hi : i < f.out.length
      · simp only at he
        by_cases h9a : f.out[i].frm = e
        case neg => simp -implicitDefEqProofs (disch := first | (intros; contradiction) | omega) only [am0, am1, am2, am3, am4, am5, am6, am7, am8, Nat.reduceSub, ↓reduceIte, reduceCtorEq, Nat.reduceEqDiff, Nat.reduceBEq, Nat.reduceAdd, Nat.reduceLT, ↓reduceIte, tis, eFeed, eToken, feedB_no5 (outEnd_fail hi he (by omega))]
        by_cases h9b : e < f.out[i].to
        case neg => simp -implicitDefEqProofs (disch := first | (intros; contradiction) | omega) only [am0, am1, am2, am3, am4, am5, am6, am7, am8, Nat.reduceSub, ↓reduceIte, reduceCtorEq, Nat.reduceEqDiff, Nat.reduceBEq, Nat.reduceAdd, Nat.reduceLT, ↓reduceIte, tis, eFeed, eToken, feedB_no5 (outEnd_fail hi he (by omega))]
        by_cases h9c : 0 ≤ f.out[i].rule
        case neg => simp -implicitDefEqProofs (disch := first | (intros; contradiction) | omega) only [am0, am1, am2, am3, am4, am5, am6, am7, am8, Nat.reduceSub, ↓reduceIte, reduceCtorEq, Nat.reduceEqDiff, Nat.reduceBEq, Nat.reduceAdd, Nat.reduceLT, ↓reduceIte, tis, eFeed, eToken, feedB_no5 (outEnd_fail hi he (by omega))]
        by_cases h9d : f.out[i].rule ≤ 4
        case neg => simp -implicitDefEqProofs (disch := first | (intros; contradiction) | omega) only [am0, am1, am2, am3, am4, am5, am6, am7, am8, Nat.reduceSub, ↓reduceIte, reduceCtorEq, Nat.reduceEqDiff, Nat.reduceBEq, Nat.reduceAdd, Nat.reduceLT, ↓reduceIte, tis, eFeed, eToken, feedB_no5 (outEnd_fail hi he (by omega))]
        simp -implicitDefEqProofs (disch := first | (intros; contradiction) | omega) only [am0, am1, am2, am3, am4, am5, am6, am7, am8, Nat.reduceSub, ↓reduceIte, reduceCtorEq, Nat.reduceEqDiff, Nat.reduceBEq, Nat.reduceAdd, Nat.reduceLT, ↓reduceIte, tis, eFeed, eToken]
        exact round_normal (i + 1, f.out[i].to) ⟨by simp only; omega, outEnd_take hi he ⟨h9a, h9b, h9c, h9d⟩⟩ (by simp -implicitDefEqProofs (disch := first | (intros; contradiction) | omega) only [am0, am1, am2, am3, am4, am5, am6, am7, am8, Nat.reduceSub, ↓reduceIte, reduceCtorEq, Nat.reduceEqDiff, Nat.reduceBEq, Nat.reduceAdd, Nat.reduceLT, ↓reduceIte, tis, eFeed]) (by show f.out.length - (i + 1) < f.out.length - i; omega)
      · obtain rfl : i = f.out.length := by simp only at hi'; omega
        rw [List.take_of_length_le (Nat.le_refl _)] at he
        simp -implicitDefEqProofs (disch := first | (intros; contradiction) | omega) only [am0, am1, am2, am3, am4, am5, am6, am7, am8, Nat.reduceSub, ↓reduceIte, reduceCtorEq, Nat.reduceEqDiff, Nat.reduceBEq, Nat.reduceAdd, Nat.reduceLT, ↓reduceIte, tis, eFeed, good e he]
theorem szFeed_ok {f : Feed} (h : ¬ szFeed f 1048576 < 0) : f.prog.length + f.buf.length + f.out.length ≤ 1048576 := by
  unfold szFeed szl at h
  split at h
  · omega
  · split at h
    · omega
    · split at h <;> omega
theorem er_feed (f : Feed) : erase (eFeed true f) = eFeed false f := by simp [eFeed, erase, eraseL, flIns.eraseL, flToken.eraseL]
/-- laws.FnExactFeedOk -/
theorem law_FeedOk (f : Feed) (hp : f.prog.length ≤ 9223372036854775807) (hb : f.buf.length ≤ 9223372036854775807) (ho : f.out.length ≤ 9223372036854775807) : Fits prog 5 [eFeed false f] (.bool true) [] := by
  refine fits_of_code [2] [] [0, 1, 2, 3, 4, 5, 6, 11, 21, 26] func5 rfl rfl rfl (by rfl) (by show 1 ≤ 27; decide) (by rfl) (by rfl) (by show 0 ≤ 1; decide) (by rfl) (run_of ?_)
  simp -implicitDefEqProofs (disch := first | (intros; contradiction) | omega) only [am0, am1, am2, am3, am4, am5, am6, am7, am8, Nat.reduceSub, ↓reduceIte, reduceCtorEq, Nat.reduceEqDiff, Nat.reduceBEq, Nat.reduceAdd, Nat.reduceLT, ↓reduceIte, tis, eFeed]
  refine callb_of (fits_szFeed f 1048576 hp hb ho (by omega) (by omega)) (by simp -implicitDefEqProofs (disch := first | (intros; contradiction) | omega) only [am0, am1, am2, am3, am4, am5, am6, am7, am8, Nat.reduceSub, ↓reduceIte, reduceCtorEq, Nat.reduceEqDiff, Nat.reduceBEq, Nat.reduceAdd, Nat.reduceLT, ↓reduceIte, tis, eFeed]) (.inl rfl) rfl ?_
  by_cases h : szFeed f 1048576 < 0
  · simp -implicitDefEqProofs (disch := first | (intros; contradiction) | omega) only [am0, am1, am2, am3, am4, am5, am6, am7, am8, Nat.reduceSub, ↓reduceIte, reduceCtorEq, Nat.reduceEqDiff, Nat.reduceBEq, Nat.reduceAdd, Nat.reduceLT, ↓reduceIte, tis, h]
  have hs := szFeed_ok h
  simp -implicitDefEqProofs (disch := first | (intros; contradiction) | omega) only [am0, am1, am2, am3, am4, am5, am6, am7, am8, Nat.reduceSub, ↓reduceIte, reduceCtorEq, Nat.reduceEqDiff, Nat.reduceBEq, Nat.reduceAdd, Nat.reduceLT, ↓reduceIte, tis, h]
  refine callb_of (fits_toFeed f (by omega) (by omega)) (by simp -implicitDefEqProofs (disch := first | (intros; contradiction) | omega) only [am0, am1, am2, am3, am4, am5, am6, am7, am8, Nat.reduceSub, ↓reduceIte, reduceCtorEq, Nat.reduceEqDiff, Nat.reduceBEq, Nat.reduceAdd, Nat.reduceLT, ↓reduceIte, tis, eFeed]) (.inl (by simp -implicitDefEqProofs (disch := first | (intros; contradiction) | omega) only [am0, am1, am2, am3, am4, am5, am6, am7, am8, Nat.reduceSub, ↓reduceIte, reduceCtorEq, Nat.reduceEqDiff, Nat.reduceBEq, Nat.reduceAdd, Nat.reduceLT, ↓reduceIte, eFeed, fls])) rfl ?_
  simp -implicitDefEqProofs (disch := first | (intros; contradiction) | omega) only [am0, am1, am2, am3, am4, am5, am6, am7, am8, Nat.reduceSub, ↓reduceIte, reduceCtorEq, Nat.reduceEqDiff, Nat.reduceBEq, Nat.reduceAdd, Nat.reduceLT, ↓reduceIte, tis, eFeed, fls]
  refine callb_of (fits_sFeedOk f (by omega) (by omega) (by omega)) (by simp -implicitDefEqProofs (disch := first | (intros; contradiction) | omega) only [am0, am1, am2, am3, am4, am5, am6, am7, am8, Nat.reduceSub, ↓reduceIte, reduceCtorEq, Nat.reduceEqDiff, Nat.reduceBEq, Nat.reduceAdd, Nat.reduceLT, ↓reduceIte, tis, eFeed, fls]) (.inl rfl) rfl ?_
  simp -implicitDefEqProofs (disch := first | (intros; contradiction) | omega) only [am0, am1, am2, am3, am4, am5, am6, am7, am8, Nat.reduceSub, ↓reduceIte, reduceCtorEq, Nat.reduceEqDiff, Nat.reduceBEq, Nat.reduceAdd, Nat.reduceLT, ↓reduceIte, tis, eFeed, fls]
  refine callb_of (fits_toFeed f (by omega) (by omega)) (by simp -implicitDefEqProofs (disch := first | (intros; contradiction) | omega) only [am0, am1, am2, am3, am4, am5, am6, am7, am8, Nat.reduceSub, ↓reduceIte, reduceCtorEq, Nat.reduceEqDiff, Nat.reduceBEq, Nat.reduceAdd, Nat.reduceLT, ↓reduceIte, tis, eFeed]) (.inl (by simp -implicitDefEqProofs (disch := first | (intros; contradiction) | omega) only [am0, am1, am2, am3, am4, am5, am6, am7, am8, Nat.reduceSub, ↓reduceIte, reduceCtorEq, Nat.reduceEqDiff, Nat.reduceBEq, Nat.reduceAdd, Nat.reduceLT, ↓reduceIte, eFeed, fls])) rfl ?_
  simp -implicitDefEqProofs (disch := first | (intros; contradiction) | omega) only [am0, am1, am2, am3, am4, am5, am6, am7, am8, Nat.reduceSub, ↓reduceIte, reduceCtorEq, Nat.reduceEqDiff, Nat.reduceBEq, Nat.reduceAdd, Nat.reduceLT, ↓reduceIte, tis, eFeed, fls]
  refine callb_of (fits_feedOk f (by omega) (by omega) (by omega)) (by simp -implicitDefEqProofs (disch := first | (intros; contradiction) | omega) only [am0, am1, am2, am3, am4, am5, am6, am7, am8, Nat.reduceSub, ↓reduceIte, reduceCtorEq, Nat.reduceEqDiff, Nat.reduceBEq, Nat.reduceAdd, Nat.reduceLT, ↓reduceIte, tis, eFeed, fls]) (.inl rfl) rfl ?_
  simp -implicitDefEqProofs (disch := first | (intros; contradiction) | omega) only [am0, am1, am2, am3, am4, am5, am6, am7, am8, Nat.reduceSub, ↓reduceIte, reduceCtorEq, Nat.reduceEqDiff, Nat.reduceBEq, Nat.reduceAdd, Nat.reduceLT, ↓reduceIte, tis, eFeed, fls, bne, beq_self_eq_true]
  refine ⟨by kernel_rfl, ?_⟩
  refine call_of (fits_toFeed f (by omega) (by omega)) (by simp -implicitDefEqProofs (disch := first | (intros; contradiction) | omega) only [am0, am1, am2, am3, am4, am5, am6, am7, am8, Nat.reduceSub, ↓reduceIte, reduceCtorEq, Nat.reduceEqDiff, Nat.reduceBEq, Nat.reduceAdd, Nat.reduceLT, ↓reduceIte, tis, eFeed]) (.inl (by simp -implicitDefEqProofs (disch := first | (intros; contradiction) | omega) only [am0, am1, am2, am3, am4, am5, am6, am7, am8, Nat.reduceSub, ↓reduceIte, reduceCtorEq, Nat.reduceEqDiff, Nat.reduceBEq, Nat.reduceAdd, Nat.reduceLT, ↓reduceIte, eFeed, fls])) rfl ?_
  simp -implicitDefEqProofs (disch := first | (intros; contradiction) | omega) only [am0, am1, am2, am3, am4, am5, am6, am7, am8, Nat.reduceSub, ↓reduceIte, reduceCtorEq, Nat.reduceEqDiff, Nat.reduceBEq, Nat.reduceAdd, Nat.reduceLT, ↓reduceIte, tis, eFeed, fls]
  refine call_of (fits_eqFeed f f (by omega) (by omega) (by omega) (by omega)) (by simp -implicitDefEqProofs (disch := first | (intros; contradiction) | omega) only [am0, am1, am2, am3, am4, am5, am6, am7, am8, Nat.reduceSub, ↓reduceIte, reduceCtorEq, Nat.reduceEqDiff, Nat.reduceBEq, Nat.reduceAdd, Nat.reduceLT, ↓reduceIte, tis, eFeed, fls]) (.inl rfl) rfl ?_
  simp -implicitDefEqProofs (disch := first | (intros; contradiction) | omega) only [am0, am1, am2, am3, am4, am5, am6, am7, am8, Nat.reduceSub, ↓reduceIte, reduceCtorEq, Nat.reduceEqDiff, Nat.reduceBEq, Nat.reduceAdd, Nat.reduceLT, ↓reduceIte, tis, eFeed, fls]
theorem own : ownKnob prog.godebug = none := by kernel_rfl
theorem laidOut : laidOutB prog = true := by kernel_rfl
theorem typ_int {n : Nat} {x : AV} (h : Typed prog n 3 x) : ∃ v, x = .int .i64 v ∧ -9223372036854775808 ≤ v ∧ v ≤ 9223372036854775807 := by
  cases n with
  | zero => exact h.elim
  | succ n =>
    simp only [Typed, underlying3] at h
    obtain ⟨v, rfl, hw⟩ := h
    refine ⟨v, rfl, ?_⟩
    simp [Lit.wf, IntKind.min, IntKind.max, IntKind.bits, IntKind.signed] at hw
    omega
theorem typ_str {n : Nat} {x : AV} (h : Typed prog n 9 x) : ∃ s, x = .str s ∧ s.length ≤ 9223372036854775807 := by
  cases n with
  | zero => exact h.elim
  | succ n => simp only [Typed, underlying9] at h; exact h
theorem typ_bool {n : Nat} {x : AV} (h : Typed prog n 4 x) : ∃ b, x = .bool b := by
  cases n with
  | zero => exact h.elim
  | succ n => simp only [Typed, underlying4] at h; exact h
theorem all_map {α : Type} (f : α → AV) : ∀ xs : List AV, (∀ y ∈ xs, ∃ i, y = f i) → ∃ is : List α, xs = is.map f
  | [], _ => ⟨[], rfl⟩
  | y :: r, h => by
    obtain ⟨i, rfl⟩ := h y (List.mem_cons_self ..)
    obtain ⟨is, rfl⟩ := all_map f r (fun z hz => h z (List.mem_cons_of_mem _ hz))
    exact ⟨i :: is, rfl⟩
theorem co_ins : prog.cellsOf 73 = 4 := by kernel_rfl
theorem co_tok : prog.cellsOf 87 = 3 := by kernel_rfl
theorem typ_ins {n : Nat} {x : AV} (h : Typed prog n 73 x) : ∃ i, x = eIns i := by
  cases n with
  | zero => exact h.elim
  | succ n =>
    simp only [Typed, underlying73] at h
    obtain ⟨ys, rfl, hl, hf⟩ := h
    match ys, hl, hf with
    | [a, b, c, d], _, hf =>
      obtain ⟨a', rfl, _⟩ := typ_int (hf 0 _ a rfl rfl)
      obtain ⟨b', rfl, _⟩ := typ_int (hf 1 _ b rfl rfl)
      obtain ⟨c', rfl, _⟩ := typ_int (hf 2 _ c rfl rfl)
      obtain ⟨d', rfl, _⟩ := typ_int (hf 3 _ d rfl rfl)
      exact ⟨⟨a', b', c', d'⟩, rfl⟩
theorem typ_tok {n : Nat} {x : AV} (h : Typed prog n 87 x) : ∃ i, x = eToken i := by
  cases n with
  | zero => exact h.elim
  | succ n =>
    simp only [Typed, underlying87] at h
    obtain ⟨ys, rfl, hl, hf⟩ := h
    match ys, hl, hf with
    | [a, b, c], _, hf =>
      obtain ⟨a', rfl, _⟩ := typ_int (hf 0 _ a rfl rfl)
      obtain ⟨b', rfl, _⟩ := typ_int (hf 1 _ b rfl rfl)
      obtain ⟨c', rfl, _⟩ := typ_int (hf 2 _ c rfl rfl)
      exact ⟨⟨a', b', c'⟩, rfl⟩
theorem typ_prog {n : Nat} {x : AV} (h : Typed prog n 24 x) : ∃ p : List Ins, x = .sl false 4 (p.map eIns) ∧ p.length ≤ 9223372036854775807 := by
  cases n with
  | zero => exact h.elim
  | succ n =>
    simp only [Typed, underlying24, co_ins] at h
    obtain ⟨xs, rfl, hl, hf⟩ := h
    obtain ⟨p, rfl⟩ := all_map eIns xs (fun y hy => typ_ins (hf y hy))
    exact ⟨p, rfl, by simpa [maxLen] using hl⟩
theorem typ_toks {n : Nat} {x : AV} (h : Typed prog n 25 x) : ∃ p : List Token, x = .sl false 3 (p.map eToken) ∧ p.length ≤ 9223372036854775807 := by
  cases n with
  | zero => exact h.elim
  | succ n =>
    simp only [Typed, underlying25, co_tok] at h
    obtain ⟨xs, rfl, hl, hf⟩ := h
    obtain ⟨p, rfl⟩ := all_map eToken xs (fun y hy => typ_tok (hf y hy))
    exact ⟨p, rfl, by simpa [maxLen] using hl⟩
theorem typ_feed {n : Nat} {x : AV} (h : Typed prog n 27 x) : ∃ f : Feed, x = eFeed false f ∧ f.prog.length ≤ 9223372036854775807 ∧ f.buf.length ≤ 9223372036854775807 ∧ f.out.length ≤ 9223372036854775807 := by
  cases n with
  | zero => exact h.elim
  | succ n =>
    simp only [Typed, underlying27] at h
    obtain ⟨ys, rfl, hl, hf⟩ := h
    match ys, hl, hf with
    | [y0, y1, y2, y3, y4, y5, y6, y7, y8], _, hf =>
      obtain ⟨p, rfl, hp⟩ := typ_prog (hf 0 _ y0 rfl rfl)
      obtain ⟨b, rfl, hb⟩ := typ_str (hf 1 _ y1 rfl rfl)
      obtain ⟨c1, rfl, _⟩ := typ_int (hf 2 _ y2 rfl rfl)
      obtain ⟨c2, rfl, _⟩ := typ_int (hf 3 _ y3 rfl rfl)
      obtain ⟨c3, rfl, _⟩ := typ_int (hf 4 _ y4 rfl rfl)
      obtain ⟨c4, rfl, _⟩ := typ_int (hf 5 _ y5 rfl rfl)
      obtain ⟨c5, rfl, _⟩ := typ_int (hf 6 _ y6 rfl rfl)
      obtain ⟨q, rfl, hq⟩ := typ_toks (hf 7 _ y7 rfl rfl)
      obtain ⟨s, rfl⟩ := typ_bool (hf 8 _ y8 rfl rfl)
      exact ⟨⟨p, b, c1, c2, c3, c4, c5, q, s⟩, rfl, hp, hb, hq⟩
end Go.Proofs.Ytklmfpikhejemaa.U
