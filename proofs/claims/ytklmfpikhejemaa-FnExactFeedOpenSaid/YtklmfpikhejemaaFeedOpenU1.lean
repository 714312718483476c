/- What functions of the program answer, on values without memory (part 1): conditions stand at each theorem. -/
import Derived.Test.YtklmfpikhejemaaRows
import Derived.Test.YtklmfpikhejemaaAm3
set_option linter.unusedVariables false
set_option linter.unusedSimpArgs false
set_option maxRecDepth 100000
set_option maxHeartbeats 4000000
namespace Go.Proofs.Ytklmfpikhejemaa.U
open Go Go.RowKit Go.Proofs Go.Proofs.Ytklmfpikhejemaa.Am AV Go.Proofs.Try
theorem ti_3 : tinfo prog 3 = { size := 1, bytes := 8, agg := some false, kind := 5, esz := 0, ebytes := 0, eagg := none, alen := 0, fields := [], zero := .int .i64 0, ezero := .undef, zok := true, ezok := false } := by rfl
theorem ti_4 : tinfo prog 4 = { size := 1, bytes := 1, agg := some false, kind := 6, esz := 0, ebytes := 0, eagg := none, alen := 0, fields := [], zero := .bool false, ezero := .undef, zok := true, ezok := false } := by rfl
theorem ti_9 : tinfo prog 9 = { size := 1, bytes := 16, agg := some false, kind := 4, esz := 0, ebytes := 0, eagg := none, alen := 0, fields := [], zero := .str [], ezero := .undef, zok := true, ezok := false } := by rfl
theorem ti_5 : tinfo prog 5 = { size := 1, bytes := 1, agg := some false, kind := 5, esz := 0, ebytes := 0, eagg := none, alen := 0, fields := [], zero := .int .u8 0, ezero := .undef, zok := true, ezok := false } := by rfl
theorem ti_21 : tinfo prog 21 = { size := 1, bytes := 4, agg := some false, kind := 5, esz := 0, ebytes := 0, eagg := none, alen := 0, fields := [], zero := .int .i32 0, ezero := .undef, zok := true, ezok := false } := by rfl
theorem ti_61 : tinfo prog 61 = { size := 1, bytes := 24, agg := some false, kind := 1, esz := 1, ebytes := 1, eagg := some false, alen := 0, fields := [], zero := .sl true 0 [], ezero := .int .u8 0, zok := true, ezok := true } := by rfl
theorem ti_106 : tinfo prog 106 = { size := 1, bytes := 24, agg := some false, kind := 1, esz := 1, ebytes := 1, eagg := some false, alen := 0, fields := [], zero := .sl true 0 [], ezero := .bool false, zok := true, ezok := true } := by rfl
theorem ti_100 : tinfo prog 100 = { size := 256, bytes := 256, agg := some true, kind := 2, esz := 1, ebytes := 1, eagg := some false, alen := 256, fields := [], zero := .arr 1 (List.replicate 256 (.bool false)), ezero := .bool false, zok := true, ezok := true } := by rfl
theorem ti_92 : tinfo prog 92 = { size := 2, bytes := 16, agg := some true, kind := 3, esz := 0, ebytes := 0, eagg := none, alen := 0, fields := [(0, 1, some false), (1, 1, some false)], zero := .agg [.int .i64 0, .int .i64 0], ezero := .undef, zok := true, ezok := false } := by rfl
theorem ti_50 : tinfo prog 50 = { size := 1, bytes := 24, agg := some false, kind := 1, esz := 2, ebytes := 16, eagg := some true, alen := 0, fields := [], zero := .sl true 0 [], ezero := .agg [.int .i64 0, .int .i64 0], zok := true, ezok := true } := by rfl
theorem ti_53 : tinfo prog 53 = { size := 3, bytes := 56, agg := some true, kind := 3, esz := 0, ebytes := 0, eagg := none, alen := 0, fields := [(0, 1, some false), (1, 1, some false), (2, 1, some false)], zero := .agg [.int .i64 0, .sl true 0 [], .sl true 0 []], ezero := .undef, zok := true, ezok := false } := by rfl
theorem ti_51 : tinfo prog 51 = { size := 1, bytes := 24, agg := some false, kind := 1, esz := 3, ebytes := 56, eagg := some true, alen := 0, fields := [], zero := .sl true 0 [], ezero := .agg [.int .i64 0, .sl true 0 [], .sl true 0 []], zok := true, ezok := true } := by rfl
theorem ti_71 : tinfo prog 71 = { size := 4, bytes := 32, agg := some true, kind := 3, esz := 0, ebytes := 0, eagg := none, alen := 0, fields := [(0, 1, some false), (1, 1, some false), (2, 1, some false), (3, 1, some false)], zero := .agg [.int .i64 0, .int .i64 0, .int .i64 0, .int .i64 0], ezero := .undef, zok := true, ezok := false } := by rfl
theorem ti_30 : tinfo prog 30 = { size := 1, bytes := 24, agg := some false, kind := 1, esz := 4, ebytes := 32, eagg := some true, alen := 0, fields := [], zero := .sl true 0 [], ezero := .agg [.int .i64 0, .int .i64 0, .int .i64 0, .int .i64 0], zok := true, ezok := true } := by rfl
theorem ti_68 : tinfo prog 68 = { size := 3, bytes := 24, agg := some true, kind := 3, esz := 0, ebytes := 0, eagg := none, alen := 0, fields := [(0, 1, some false), (1, 1, some false), (2, 1, some false)], zero := .agg [.int .i64 0, .int .i64 0, .int .i64 0], ezero := .undef, zok := true, ezok := false } := by rfl
theorem ti_31 : tinfo prog 31 = { size := 1, bytes := 24, agg := some false, kind := 1, esz := 3, ebytes := 24, eagg := some true, alen := 0, fields := [], zero := .sl true 0 [], ezero := .agg [.int .i64 0, .int .i64 0, .int .i64 0], zok := true, ezok := true } := by rfl
theorem ti_33 : tinfo prog 33 = { size := 9, bytes := 112, agg := some true, kind := 3, esz := 0, ebytes := 0, eagg := none, alen := 0, fields := [(0, 1, some false), (1, 1, some false), (2, 1, some false), (3, 1, some false), (4, 1, some false), (5, 1, some false), (6, 1, some false), (7, 1, some false), (8, 1, some false)], zero := .agg [.sl true 0 [], .str [], .int .i64 0, .int .i64 0, .int .i64 0, .int .i64 0, .int .i64 0, .sl true 0 [], .bool false], ezero := .undef, zok := true, ezok := false } := by rfl
theorem ti_101 : tinfo prog 101 = { size := 256, bytes := 256, agg := some true, kind := 2, esz := 1, ebytes := 1, eagg := some false, alen := 256, fields := [], zero := .arr 1 (List.replicate 256 (.bool false)), ezero := .bool false, zok := true, ezok := true } := by rfl
theorem ti_94 : tinfo prog 94 = { size := 2, bytes := 16, agg := some true, kind := 3, esz := 0, ebytes := 0, eagg := none, alen := 0, fields := [(0, 1, some false), (1, 1, some false)], zero := .agg [.int .i64 0, .int .i64 0], ezero := .undef, zok := true, ezok := false } := by rfl
theorem ti_45 : tinfo prog 45 = { size := 1, bytes := 24, agg := some false, kind := 1, esz := 2, ebytes := 16, eagg := some true, alen := 0, fields := [], zero := .sl true 0 [], ezero := .agg [.int .i64 0, .int .i64 0], zok := true, ezok := true } := by rfl
theorem ti_48 : tinfo prog 48 = { size := 3, bytes := 56, agg := some true, kind := 3, esz := 0, ebytes := 0, eagg := none, alen := 0, fields := [(0, 1, some false), (1, 1, some false), (2, 1, some false)], zero := .agg [.int .i64 0, .sl true 0 [], .sl true 0 []], ezero := .undef, zok := true, ezok := false } := by rfl
theorem ti_46 : tinfo prog 46 = { size := 1, bytes := 24, agg := some false, kind := 1, esz := 3, ebytes := 56, eagg := some true, alen := 0, fields := [], zero := .sl true 0 [], ezero := .agg [.int .i64 0, .sl true 0 [], .sl true 0 []], zok := true, ezok := true } := by rfl
theorem ti_73 : tinfo prog 73 = { size := 4, bytes := 32, agg := some true, kind := 3, esz := 0, ebytes := 0, eagg := none, alen := 0, fields := [(0, 1, some false), (1, 1, some false), (2, 1, some false), (3, 1, some false)], zero := .agg [.int .i64 0, .int .i64 0, .int .i64 0, .int .i64 0], ezero := .undef, zok := true, ezok := false } := by rfl
theorem ti_24 : tinfo prog 24 = { size := 1, bytes := 24, agg := some false, kind := 1, esz := 4, ebytes := 32, eagg := some true, alen := 0, fields := [], zero := .sl true 0 [], ezero := .agg [.int .i64 0, .int .i64 0, .int .i64 0, .int .i64 0], zok := true, ezok := true } := by rfl
theorem ti_87 : tinfo prog 87 = { size := 3, bytes := 24, agg := some true, kind := 3, esz := 0, ebytes := 0, eagg := none, alen := 0, fields := [(0, 1, some false), (1, 1, some false), (2, 1, some false)], zero := .agg [.int .i64 0, .int .i64 0, .int .i64 0], ezero := .undef, zok := true, ezok := false } := by rfl
theorem ti_25 : tinfo prog 25 = { size := 1, bytes := 24, agg := some false, kind := 1, esz := 3, ebytes := 24, eagg := some true, alen := 0, fields := [], zero := .sl true 0 [], ezero := .agg [.int .i64 0, .int .i64 0, .int .i64 0], zok := true, ezok := true } := by rfl
theorem ti_27 : tinfo prog 27 = { size := 9, bytes := 112, agg := some true, kind := 3, esz := 0, ebytes := 0, eagg := none, alen := 0, fields := [(0, 1, some false), (1, 1, some false), (2, 1, some false), (3, 1, some false), (4, 1, some false), (5, 1, some false), (6, 1, some false), (7, 1, some false), (8, 1, some false)], zero := .agg [.sl true 0 [], .str [], .int .i64 0, .int .i64 0, .int .i64 0, .int .i64 0, .int .i64 0, .sl true 0 [], .bool false], ezero := .undef, zok := true, ezok := false } := by rfl
theorem ub_3 : prog.underlying 3 = some (.int .i64) := by kernel_rfl
theorem ub_4 : prog.underlying 4 = some .bool := by kernel_rfl
theorem ub_5 : prog.underlying 5 = some (.int .u8) := by kernel_rfl
theorem ub_21 : prog.underlying 21 = some (.int .i32) := by kernel_rfl
theorem fk_92 : flatK prog 92 = some [5, 5] := by kernel_rfl
theorem fk_71 : flatK prog 71 = some [5, 5, 5, 5] := by kernel_rfl
theorem fk_68 : flatK prog 68 = some [5, 5, 5] := by kernel_rfl
theorem fk_94 : flatK prog 94 = some [5, 5] := by kernel_rfl
theorem fk_73 : flatK prog 73 = some [5, 5, 5, 5] := by kernel_rfl
theorem fk_87 : flatK prog 87 = some [5, 5, 5] := by kernel_rfl
theorem tis : type_of% @ti_3 ∧ type_of% @ti_4 ∧ type_of% @ti_9 ∧ type_of% @ti_5 ∧ type_of% @ti_21 ∧ type_of% @ti_61 ∧ type_of% @ti_106 ∧ type_of% @ti_100 ∧ type_of% @ti_92 ∧ type_of% @ti_50 ∧ type_of% @ti_53 ∧ type_of% @ti_51 ∧ type_of% @ti_71 ∧ type_of% @ti_30 ∧ type_of% @ti_68 ∧ type_of% @ti_31 ∧ type_of% @ti_33 ∧ type_of% @ti_101 ∧ type_of% @ti_94 ∧ type_of% @ti_45 ∧ type_of% @ti_48 ∧ type_of% @ti_46 ∧ type_of% @ti_73 ∧ type_of% @ti_24 ∧ type_of% @ti_87 ∧ type_of% @ti_25 ∧ type_of% @ti_27 ∧ type_of% @ub_3 ∧ type_of% @ub_4 ∧ type_of% @ub_5 ∧ type_of% @ub_21 ∧ type_of% @fk_92 ∧ type_of% @fk_71 ∧ type_of% @fk_68 ∧ type_of% @fk_94 ∧ type_of% @fk_73 ∧ type_of% @fk_87 := ⟨ti_3, ti_4, ti_9, ti_5, ti_21, ti_61, ti_106, ti_100, ti_92, ti_50, ti_53, ti_51, ti_71, ti_30, ti_68, ti_31, ti_33, ti_101, ti_94, ti_45, ti_48, ti_46, ti_73, ti_24, ti_87, ti_25, ti_27, ub_3, ub_4, ub_5, ub_21, fk_92, fk_71, fk_68, fk_94, fk_73, fk_87⟩
structure Span where
  lo : Int
  hi : Int
  deriving DecidableEq
structure Ins where
  op : Int
  a : Int
  b : Int
  to : Int
  deriving DecidableEq
structure Token where
  rule : Int
  frm : Int
  to : Int
  deriving DecidableEq
instance : Inhabited Span := ⟨⟨0, 0⟩⟩
instance : Inhabited Ins := ⟨⟨0, 0, 0, 0⟩⟩
instance : Inhabited Token := ⟨⟨0, 0, 0⟩⟩
def eSpan (x : Span) : AV := .agg [.int .i64 x.lo, .int .i64 x.hi]
def eIns (x : Ins) : AV := .agg [.int .i64 x.op, .int .i64 x.a, .int .i64 x.b, .int .i64 x.to]
def eToken (x : Token) : AV := .agg [.int .i64 x.rule, .int .i64 x.frm, .int .i64 x.to]
/-- In a list of such nothing is own. -/
structure Flat {α : Type} (f : α → AV) (n : Nat) : Prop where
  er : ∀ x, erase (f x) = f x
  de : ∀ x, dead (f x) = f x
  pl : ∀ x, plain (f x) = true
  cl : ∀ x, closed (f x) = true
  nc : ∀ x, ncells (f x) = n
section
variable {α : Type} {f : α → AV} {n : Nat}
theorem Flat.eraseL (h : Flat f n) (l : List α) : eraseL (l.map f) = l.map f := by rw [eraseL_map, List.map_map]; exact List.map_congr_left fun x _ => h.er x
theorem Flat.deadL (h : Flat f n) (l : List α) : deadL (l.map f) = l.map f := by rw [deadL_map, List.map_map]; exact List.map_congr_left fun x _ => h.de x
theorem Flat.plainL (h : Flat f n) (l : List α) : plainL (l.map f) = true := by rw [plainL_all]; simp [h.pl]
theorem Flat.closedL (h : Flat f n) (l : List α) : closedL (l.map f) = true := by rw [closedL_all]; simp [h.cl]
theorem plainL_app (a b : List AV) : plainL (a ++ b) = (plainL a && plainL b) := by simp [plainL_all]
theorem closedL_app (a b : List AV) : closedL (a ++ b) = (closedL a && closedL b) := by simp [closedL_all]
theorem eraseL_app (a b : List AV) : eraseL (a ++ b) = eraseL a ++ eraseL b := by simp [eraseL_map]
theorem closedL_rep (k : Nat) (x : AV) (h : closed x = true) : closedL (List.replicate k x) = true := by rw [closedL_all]; simp [h]
theorem plainL_rep (k : Nat) (x : AV) (h : plain x = true) : plainL (List.replicate k x) = true := by rw [plainL_all]; simp [h]
end
theorem flSpan : Flat eSpan 2 := ⟨fun _ => rfl, fun _ => rfl, fun _ => rfl, fun _ => rfl, fun _ => rfl⟩
theorem flIns : Flat eIns 4 := ⟨fun _ => rfl, fun _ => rfl, fun _ => rfl, fun _ => rfl, fun _ => rfl⟩
theorem flToken : Flat eToken 3 := ⟨fun _ => rfl, fun _ => rfl, fun _ => rfl, fun _ => rfl, fun _ => rfl⟩
def eInt (x : Int) : AV := .int .i64 x
def eBool (x : Bool) : AV := .bool x
def eStr (x : List UInt8) : AV := .str x
theorem flInt : Flat eInt 1 := ⟨fun _ => rfl, fun _ => rfl, fun _ => rfl, fun _ => rfl, fun _ => rfl⟩
theorem flBool : Flat eBool 1 := ⟨fun _ => rfl, fun _ => rfl, fun _ => rfl, fun _ => rfl, fun _ => rfl⟩
theorem flStr : Flat eStr 1 := ⟨fun _ => rfl, fun _ => rfl, fun _ => rfl, fun _ => rfl, fun _ => rfl⟩
theorem fls : (∀ l : List Span, eraseL (l.map eSpan) = l.map eSpan) ∧ (∀ l : List Span, deadL (l.map eSpan) = l.map eSpan) ∧ (∀ l : List Span, plainL (l.map eSpan) = true) ∧ (∀ l : List Span, closedL (l.map eSpan) = true) ∧
    (∀ l : List Ins, eraseL (l.map eIns) = l.map eIns) ∧ (∀ l : List Ins, deadL (l.map eIns) = l.map eIns) ∧ (∀ l : List Ins, plainL (l.map eIns) = true) ∧ (∀ l : List Ins, closedL (l.map eIns) = true) ∧
    (∀ l : List Token, eraseL (l.map eToken) = l.map eToken) ∧ (∀ l : List Token, deadL (l.map eToken) = l.map eToken) ∧ (∀ l : List Token, plainL (l.map eToken) = true) ∧ (∀ l : List Token, closedL (l.map eToken) = true) ∧
    (∀ l : List Int, eraseL (l.map eInt) = l.map eInt) ∧ (∀ l : List Int, deadL (l.map eInt) = l.map eInt) ∧ (∀ l : List Int, plainL (l.map eInt) = true) ∧ (∀ l : List Int, closedL (l.map eInt) = true) ∧
    (∀ l : List Bool, eraseL (l.map eBool) = l.map eBool) ∧ (∀ l : List Bool, deadL (l.map eBool) = l.map eBool) ∧ (∀ l : List Bool, plainL (l.map eBool) = true) ∧ (∀ l : List Bool, closedL (l.map eBool) = true) ∧
    (∀ l : List (List UInt8), eraseL (l.map eStr) = l.map eStr) ∧ (∀ l : List (List UInt8), deadL (l.map eStr) = l.map eStr) ∧ (∀ l : List (List UInt8), plainL (l.map eStr) = true) ∧ (∀ l : List (List UInt8), closedL (l.map eStr) = true) :=
  ⟨flSpan.eraseL, flSpan.deadL, flSpan.plainL, flSpan.closedL, flIns.eraseL, flIns.deadL, flIns.plainL, flIns.closedL, flToken.eraseL, flToken.deadL, flToken.plainL, flToken.closedL,
    flInt.eraseL, flInt.deadL, flInt.plainL, flInt.closedL, flBool.eraseL, flBool.deadL, flBool.plainL, flBool.closedL, flStr.eraseL, flStr.deadL, flStr.plainL, flStr.closedL⟩

/-! A list that is built from the front. -/
theorem build_get {α : Type} (f : α → AV) (z : AV) (p : List α) (i : Nat) (h : i < p.length) : ((p.take i).map f ++ List.replicate (p.length - i) z)[i]? = some z := by
  rw [List.getElem?_append_right (by simp; omega)]
  have h1 : i - ((p.take i).map f).length = 0 := by simp; omega
  rw [h1, show p.length - i = (p.length - (i + 1)) + 1 by omega, List.replicate_succ]
  rfl
theorem build_set {α : Type} (f : α → AV) (z : AV) (p : List α) (i : Nat) (h : i < p.length) : ((p.take i).map f ++ List.replicate (p.length - i) z).set i (f p[i]) = (p.take (i + 1)).map f ++ List.replicate (p.length - (i + 1)) z := by
  rw [List.set_append_right _ _ (by simp; omega)]
  have h1 : i - ((p.take i).map f).length = 0 := by simp; omega
  rw [h1, show p.length - i = (p.length - (i + 1)) + 1 by omega, List.replicate_succ, List.set_cons_zero, List.take_succ_eq_append_getElem h, List.map_append, List.append_assoc]
  rfl
theorem build_len {α : Type} (f : α → AV) (z : AV) (p : List α) (i : Nat) (h : i ≤ p.length) : ((p.take i).map f ++ List.replicate (p.length - i) z).length = p.length := by simp; omega
/-! A list that is turned from the front. -/
theorem turn_get {α : Type} (A : List AV) (f : α → AV) (p : List α) (i : Nat) (hA : A.length = i) (h : i < p.length) : (A ++ (p.drop i).map f)[i]? = some (f p[i]) := by
  rw [List.getElem?_append_right (by omega), hA, Nat.sub_self]; simp [h]
theorem turn_set {α : Type} (A : List AV) (f : α → AV) (p : List α) (i : Nat) (y : AV) (hA : A.length = i) (h : i < p.length) : (A ++ (p.drop i).map f).set i y = A ++ [y] ++ (p.drop (i + 1)).map f := by
  rw [List.set_append_right _ _ (by omega), hA, Nat.sub_self, List.drop_eq_getElem_cons h, List.map_cons, List.set_cons_zero, List.append_assoc]
  rfl
/-- A place where one can go on. -/
def doorB (p : List Ins) (i : Nat) : Bool := match p[i]? with
  | some x => x.op == 2 || (x.op == 1 && (match p[i + 1]? with | some y => y.op == 2 | none => false))
  | none => false
def doorI (p : List Ins) (i : Int) : Bool := decide (0 ≤ i) && doorB p i.toNat
def insB (p : List Ins) (i : Nat) : Bool := match p[i]? with
  | some x => (x.op == 1 && (decide (0 ≤ x.a ∧ x.a ≤ 4 ∧ x.b = 0 ∧ x.to = 0) && doorB p i)) || ((x.op == 2 || x.op == 4) && decide (x.a = 0 ∧ x.b = 0 ∧ x.to = 0)) ||
      (x.op == 3 && (decide (0 ≤ x.a ∧ x.a ≤ x.b ∧ x.b ≤ 255) && doorI p x.to))
  | none => false
def lastB (p : List Ins) : Bool := match p.getLast? with | some x => x.op == 4 | none => false
def progB (p : List Ins) : Bool := decide (1 ≤ p.length ∧ p.length ≤ 1500) && (doorB p 0 && (lastB p && (List.range p.length).all (insB p)))
theorem doorB_lt {p : List Ins} {i : Nat} (h : doorB p i = true) : i < p.length := by
  unfold doorB at h
  split at h
  · rename_i x e; exact (List.getElem?_eq_some_iff.1 e).1
  · cases h
theorem doorB_at {p : List Ins} {i : Nat} (h : i < p.length) : doorB p i = (p[i].op == 2 || (p[i].op == 1 && (match p[i + 1]? with | some y => y.op == 2 | none => false))) := by
  simp [doorB, h]
theorem insB_at {p : List Ins} {i : Nat} (h : i < p.length) : insB p i = ((p[i].op == 1 && (decide (0 ≤ p[i].a ∧ p[i].a ≤ 4 ∧ p[i].b = 0 ∧ p[i].to = 0) && doorB p i)) || ((p[i].op == 2 || p[i].op == 4) && decide (p[i].a = 0 ∧ p[i].b = 0 ∧ p[i].to = 0)) ||
      (p[i].op == 3 && (decide (0 ≤ p[i].a ∧ p[i].a ≤ p[i].b ∧ p[i].b ≤ 255) && doorI p p[i].to))) := by
  simp [insB, h]
theorem doorI_out {p : List Ins} {i : Int} (h : ¬ (0 ≤ i ∧ i < p.length)) : doorI p i = false := by
  unfold doorI
  by_cases h0 : 0 ≤ i
  · have : p.length ≤ i.toNat := by omega
    simp [doorB, List.getElem?_eq_none this]
  · simp [h0]
theorem lastB_at {p : List Ins} (h : 0 < p.length) : lastB p = (p[p.length - 1].op == 4) := by
  have h1 : p.length - 1 < p.length := by omega
  simp [lastB, List.getLast?_eq_getElem?, h1]

theorem progB_false1 {p : List Ins} (h : ¬ (1 ≤ (p.length : Int) ∧ (p.length : Int) ≤ 1500)) : progB p = false := by
  have : ¬ (1 ≤ p.length ∧ p.length ≤ 1500) := by omega
  simp only [progB, this, decide_false, Bool.false_and]
theorem progB_false2 {p : List Ins} (h : doorB p 0 = false) : progB p = false := by simp [progB, h]
theorem progB_false3 {p : List Ins} (h : lastB p = false) : progB p = false := by simp [progB, h]
theorem progB_false4 {p : List Ins} {i : Nat} (hi : i < p.length) (h : insB p i = false) : progB p = false := by
  have : (List.range p.length).all (insB p) = false := by
    rw [List.all_eq_false]; exact ⟨i, by simpa using hi, by simp [h]⟩
  simp [progB, this]
theorem progB_true {p : List Ins} (h1 : 1 ≤ (p.length : Int) ∧ (p.length : Int) ≤ 1500) (h2 : doorB p 0 = true) (h3 : lastB p = true) (h4 : ∀ i, i < p.length → insB p i = true) : progB p = true := by
  have : (1 ≤ p.length ∧ p.length ≤ 1500) := by omega
  simp only [progB, this, h2, h3, Bool.and_eq_true, decide_true, Bool.true_and]
  simpa using h4
theorem doorI_zero (p : List Ins) : doorI p 0 = doorB p 0 := by simp [doorI]
theorem doorI_nat (p : List Ins) (i : Nat) : doorI p (i : Int) = doorB p i := by simp [doorI]
theorem progB_len {p : List Ins} (h : progB p = true) : 1 ≤ p.length ∧ p.length ≤ 1500 := by
  simp only [progB, Bool.and_eq_true, decide_eq_true_eq] at h; exact h.1
structure Feed where
  prog : List Ins
  buf : List UInt8
  base : Int
  pc : Int
  at_ : Int
  rule : Int
  to : Int
  out : List Token
  stuck : Bool
  deriving DecidableEq
def eFeed (o : Bool) (f : Feed) : AV := .agg [.sl o 4 (f.prog.map eIns), .str f.buf, .int .i64 f.base, .int .i64 f.pc, .int .i64 f.at_, .int .i64 f.rule, .int .i64 f.to, .sl o 3 (f.out.map eToken), .bool f.stuck]
/-- The tokens follow one another: where they end. -/
def outEnd : List Token → Int → Option Int
  | [], e => some e
  | t :: r, e => if t.frm = e ∧ e < t.to ∧ 0 ≤ t.rule ∧ t.rule ≤ 4 then outEnd r t.to else none
def feedB (f : Feed) : Bool := progB f.prog && (decide (0 ≤ f.base ∧ f.base + f.buf.length ≤ 200) && (doorI f.prog f.pc && (decide (0 ≤ f.at_ ∧ f.at_ ≤ f.buf.length ∧ (f.at_ = 0 → f.pc = 0) ∧ 0 ≤ f.to ∧ f.to ≤ f.at_ ∧ -1 ≤ f.rule ∧ f.rule ≤ 4 ∧ (f.rule = -1 ↔ f.to = 0)) && outEnd f.out 0 == some f.base)))
theorem outEnd_app (a : List Token) (t : Token) (e : Int) : outEnd (a ++ [t]) e = (match outEnd a e with | some e' => outEnd [t] e' | none => none) := by
  induction a generalizing e with
  | nil => rfl
  | cons x a ih =>
    simp only [List.cons_append, outEnd]
    split
    · exact ih _
    · rfl
theorem outEnd_take {l : List Token} {i : Nat} {e e' : Int} (h : i < l.length) (h1 : outEnd (l.take i) e = some e') (h2 : l[i].frm = e' ∧ e' < l[i].to ∧ 0 ≤ l[i].rule ∧ l[i].rule ≤ 4) : outEnd (l.take (i + 1)) e = some l[i].to := by
  rw [List.take_succ_eq_append_getElem h, outEnd_app, h1]
  simp [outEnd, h2]
theorem outEnd_fail {l : List Token} {i : Nat} {e e' : Int} (h : i < l.length) (h1 : outEnd (l.take i) e = some e') (h2 : ¬ (l[i].frm = e' ∧ e' < l[i].to ∧ 0 ≤ l[i].rule ∧ l[i].rule ≤ 4)) : outEnd l e = none := by
  have : l = l.take i ++ l[i] :: l.drop (i + 1) := by rw [← List.drop_eq_getElem_cons h, List.take_append_drop]
  rw [this]
  generalize l.take i = a at h1
  generalize l[i] = x at h2
  induction a generalizing e with
  | nil =>
    simp only [outEnd, Option.some.injEq] at h1; subst h1
    simp only [List.nil_append, outEnd]
    rw [if_neg h2]
  | cons y a ih =>
    simp only [List.cons_append, outEnd] at h1 ⊢
    split
    · rename_i hy; rw [if_pos hy] at h1; exact ih h1
    · rfl
/-- laws.toIns -/
theorem fits_toIns (x : Ins) : Fits prog 47 [eIns x] (eIns x) [] := by
  refine fits_of_cell 2 71 [] [0, 1, 2, 3] func47 rfl rfl rfl (by show 2 < 17; decide) (by show 1 ≤ 17; decide) (by rfl) (by rfl) (by show 0 ≤ 1; decide) (by rfl) (run_of ?_)
  simp -implicitDefEqProofs only [am0, am1, am2, am3, am4, am5, am6, am7, am8, Nat.reduceSub, ↓reduceIte, reduceCtorEq, Nat.reduceEqDiff, Nat.reduceBEq, Nat.reduceAdd, Nat.reduceLT, ↓reduceIte, tis, eIns]
/-- laws.eqIns -/
theorem fits_eqIns (x y : Ins) : Fits prog 49 [eIns x, eIns y] (.bool (decide (x = y))) [] := by
  refine fits_of_code [4] [] [0, 1, 2, 3, 4, 9, 14, 19, 24] func49 rfl rfl rfl (by rfl) (by show 2 ≤ 25; decide) (by rfl) (by rfl) (by show 0 ≤ 2; decide) (by rfl) (run_of ?_)
  obtain ⟨a0, a1, a2, a3⟩ := x
  obtain ⟨b0, b1, b2, b3⟩ := y
  by_cases h0 : a0 = b0
  case neg =>
    simp -implicitDefEqProofs (maxSteps := 100000) (disch := first | (intros; contradiction) | omega) only [am0, am1, am2, am3, am4, am5, am6, am7, am8, Nat.reduceSub, ↓reduceIte, reduceCtorEq, Nat.reduceEqDiff, Nat.reduceBEq, Nat.reduceAdd, Nat.reduceLT, ↓reduceIte, tis, eIns, h0]
    simp [h0]
  by_cases h1 : a1 = b1
  case neg =>
    simp -implicitDefEqProofs (maxSteps := 100000) (disch := first | (intros; contradiction) | omega) only [am0, am1, am2, am3, am4, am5, am6, am7, am8, Nat.reduceSub, ↓reduceIte, reduceCtorEq, Nat.reduceEqDiff, Nat.reduceBEq, Nat.reduceAdd, Nat.reduceLT, ↓reduceIte, tis, eIns, h0, h1]
    simp [h1]
  by_cases h2 : a2 = b2
  case neg =>
    simp -implicitDefEqProofs (maxSteps := 100000) (disch := first | (intros; contradiction) | omega) only [am0, am1, am2, am3, am4, am5, am6, am7, am8, Nat.reduceSub, ↓reduceIte, reduceCtorEq, Nat.reduceEqDiff, Nat.reduceBEq, Nat.reduceAdd, Nat.reduceLT, ↓reduceIte, tis, eIns, h0, h1, h2]
    simp [h2]
  by_cases h3 : a3 = b3
  case neg =>
    simp -implicitDefEqProofs (maxSteps := 100000) (disch := first | (intros; contradiction) | omega) only [am0, am1, am2, am3, am4, am5, am6, am7, am8, Nat.reduceSub, ↓reduceIte, reduceCtorEq, Nat.reduceEqDiff, Nat.reduceBEq, Nat.reduceAdd, Nat.reduceLT, ↓reduceIte, tis, eIns, h0, h1, h2, h3]
    simp [h3]
  simp -implicitDefEqProofs (maxSteps := 100000) (disch := first | (intros; contradiction) | omega) only [am0, am1, am2, am3, am4, am5, am6, am7, am8, Nat.reduceSub, ↓reduceIte, reduceCtorEq, Nat.reduceEqDiff, Nat.reduceBEq, Nat.reduceAdd, Nat.reduceLT, ↓reduceIte, tis, eIns, h0, h1, h2, h3]
/-- laws.szInsS -/
theorem fits_szInsS (p : List Ins) (n : Int) (hp : p.length ≤ 9223372036854775807) (hn : n ≤ 1048576) (hn0 : 0 ≤ n) : Fits prog 18 [.sl false 4 (p.map eIns), .int .i64 n] (.int .i64 (if n - p.length < 0 then -1 else n - p.length)) [] := by
  refine fits_of_code [4] [] [0, 1, 4, 10] func18 rfl rfl rfl (by rfl) (by show 2 ≤ 12; decide) (by rfl) (by rfl) (by show 0 ≤ 2; decide) (by rfl) (run_of ?_)
  by_cases hl : n - p.length < 0
  · simp -implicitDefEqProofs (maxSteps := 100000) (disch := first | (intros; contradiction) | omega) only [am0, am1, am2, am3, am4, am5, am6, am7, am8, Nat.reduceSub, ↓reduceIte, reduceCtorEq, Nat.reduceEqDiff, Nat.reduceBEq, Nat.reduceAdd, Nat.reduceLT, ↓reduceIte, tis, hl]
  · simp -implicitDefEqProofs (maxSteps := 100000) (disch := first | (intros; contradiction) | omega) only [am0, am1, am2, am3, am4, am5, am6, am7, am8, Nat.reduceSub, ↓reduceIte, reduceCtorEq, Nat.reduceEqDiff, Nat.reduceBEq, Nat.reduceAdd, Nat.reduceLT, ↓reduceIte, tis, hl]
/-- laws.toInsS -/
theorem fits_toInsS (p : List Ins) (hp : p.length ≤ 1048576) : Fits prog 20 [.sl false 4 (p.map eIns)] (.sl true 4 (p.map eIns)) [] := by
  refine fits_of_code [2] [] [0, 2, 3, 4, 11] func20 rfl rfl rfl (by rfl) (by show 1 ≤ 23; decide) (by rfl) (by rfl) (by show 0 ≤ 1; decide) (by rfl) (run_of ?_)
  simp -implicitDefEqProofs (maxSteps := 100000) (disch := first | (intros; contradiction) | omega) only [am0, am1, am2, am3, am4, am5, am6, am7, am8, Nat.reduceSub, ↓reduceIte, reduceCtorEq, Nat.reduceEqDiff, Nat.reduceBEq, Nat.reduceAdd, Nat.reduceLT, ↓reduceIte, tis]
  refine run_loop (α := Nat) (fun i => i ≤ p.length) (fun i => [(0, .sl false 4 (p.map eIns)), (3, .sl true 4 ((p.take i).map eIns ++ List.replicate (p.length - i) (eIns ⟨0, 0, 0, 0⟩))), (4, .int .i64 i)]) (fun i => p.length - i) 0 (Nat.zero_le _) ?_ ?_
  · simp -implicitDefEqProofs (maxSteps := 100000) (disch := first | (intros; contradiction) | omega) only [am0, am1, am2, am3, am4, am5, am6, am7, am8, Nat.reduceSub, ↓reduceIte, reduceCtorEq, Nat.reduceEqDiff, Nat.reduceBEq, Nat.reduceAdd, Nat.reduceLT, ↓reduceIte, eIns]
  · intro i hi'
    by_cases hi : i < p.length
    · have g2 := build_get eIns (eIns ⟨0, 0, 0, 0⟩) p i hi
      have g3 := build_set eIns (eIns ⟨0, 0, 0, 0⟩) p i hi
      have g4 := build_len eIns (eIns ⟨0, 0, 0, 0⟩) p i hi'
      simp only [eIns] at g2 g3 g4
      simp -implicitDefEqProofs (maxSteps := 100000) (disch := first | (intros; contradiction) | omega) only [am0, am1, am2, am3, am4, am5, am6, am7, am8, Nat.reduceSub, ↓reduceIte, reduceCtorEq, Nat.reduceEqDiff, Nat.reduceBEq, Nat.reduceAdd, Nat.reduceLT, ↓reduceIte, tis, eIns]
      refine callb_of (fits_toIns p[i]) (by simp -implicitDefEqProofs (maxSteps := 100000) (disch := first | (intros; contradiction) | omega) only [am0, am1, am2, am3, am4, am5, am6, am7, am8, Nat.reduceSub, ↓reduceIte, reduceCtorEq, Nat.reduceEqDiff, Nat.reduceBEq, Nat.reduceAdd, Nat.reduceLT, ↓reduceIte, tis, eIns]) (.inl rfl) rfl ?_
      simp -implicitDefEqProofs (maxSteps := 100000) (disch := first | (intros; contradiction) | omega) only [am0, am1, am2, am3, am4, am5, am6, am7, am8, Nat.reduceSub, ↓reduceIte, reduceCtorEq, Nat.reduceEqDiff, Nat.reduceBEq, Nat.reduceAdd, Nat.reduceLT, ↓reduceIte, tis, eIns, g2, g3, g4]
      refine round_normal (i + 1) (by omega) ?_ (by show p.length - (i + 1) < p.length - i; omega)
      simp -implicitDefEqProofs (maxSteps := 100000) (disch := first | (intros; contradiction) | omega) only [am0, am1, am2, am3, am4, am5, am6, am7, am8, Nat.reduceSub, ↓reduceIte, reduceCtorEq, Nat.reduceEqDiff, Nat.reduceBEq, Nat.reduceAdd, Nat.reduceLT, ↓reduceIte, eIns]
    · obtain rfl : i = p.length := by omega
      simp -implicitDefEqProofs (maxSteps := 100000) (disch := first | (intros; contradiction) | omega) only [am0, am1, am2, am3, am4, am5, am6, am7, am8, Nat.reduceSub, ↓reduceIte, reduceCtorEq, Nat.reduceEqDiff, Nat.reduceBEq, Nat.reduceAdd, Nat.reduceLT, ↓reduceIte, tis]
/-- laws.eqInsS -/
theorem fits_eqInsS (p q : List Ins) (hp : p.length ≤ 1048576) (hq : q.length ≤ 1048576) : Fits prog 22 [.sl false 4 (p.map eIns), .sl false 4 (q.map eIns)] (.bool (decide (p = q))) [] := by
  refine fits_of_code [4] [] [0, 1, 4, 5, 10, 14, 26] func22 rfl rfl rfl (by rfl) (by show 2 ≤ 27; decide) (by rfl) (by rfl) (by show 0 ≤ 2; decide) (by rfl) (run_of ?_)
  by_cases hl : p.length = q.length
  · simp -implicitDefEqProofs (maxSteps := 100000) (disch := first | (intros; contradiction) | omega) only [am0, am1, am2, am3, am4, am5, am6, am7, am8, Nat.reduceSub, ↓reduceIte, reduceCtorEq, Nat.reduceEqDiff, Nat.reduceBEq, Nat.reduceAdd, Nat.reduceLT, ↓reduceIte, tis]
    refine run_loop (α := Nat) (fun i => i ≤ p.length ∧ p.take i = q.take i) (fun i => [(0, .sl false 4 (p.map eIns)), (1, .sl false 4 (q.map eIns)), (5, .int .i64 i)]) (fun i => p.length - i) 0 ⟨Nat.zero_le _, by simp⟩ ?_ ?_
    · simp -implicitDefEqProofs (maxSteps := 100000) (disch := first | (intros; contradiction) | omega) only [am0, am1, am2, am3, am4, am5, am6, am7, am8, Nat.reduceSub, ↓reduceIte, reduceCtorEq, Nat.reduceEqDiff, Nat.reduceBEq, Nat.reduceAdd, Nat.reduceLT, ↓reduceIte, tis]
    · rintro i ⟨h1, h2⟩
      by_cases hi : i < p.length
      · simp -implicitDefEqProofs (maxSteps := 100000) (disch := first | (intros; contradiction) | omega) only [am0, am1, am2, am3, am4, am5, am6, am7, am8, Nat.reduceSub, ↓reduceIte, reduceCtorEq, Nat.reduceEqDiff, Nat.reduceBEq, Nat.reduceAdd, Nat.reduceLT, ↓reduceIte, tis, eIns]
        refine ⟨by kernel_rfl, ?_⟩
        refine call_of (fits_eqIns p[i] q[i]) (by simp -implicitDefEqProofs (maxSteps := 100000) (disch := first | (intros; contradiction) | omega) only [am0, am1, am2, am3, am4, am5, am6, am7, am8, Nat.reduceSub, ↓reduceIte, reduceCtorEq, Nat.reduceEqDiff, Nat.reduceBEq, Nat.reduceAdd, Nat.reduceLT, ↓reduceIte, tis, eIns]) (.inl rfl) rfl ?_
        by_cases h : p[i] = q[i]
        · simp -implicitDefEqProofs (maxSteps := 100000) (disch := first | (intros; contradiction) | omega) only [am0, am1, am2, am3, am4, am5, am6, am7, am8, Nat.reduceSub, ↓reduceIte, reduceCtorEq, Nat.reduceEqDiff, Nat.reduceBEq, Nat.reduceAdd, Nat.reduceLT, ↓reduceIte, tis, h]
          refine round_normal (i + 1) ⟨by omega, ?_⟩ ?_ (by show p.length - (i + 1) < p.length - i; omega)
          · rw [List.take_succ_eq_append_getElem hi, List.take_succ_eq_append_getElem (by omega : i < q.length), h2, h]
          · simp -implicitDefEqProofs (maxSteps := 100000) (disch := first | (intros; contradiction) | omega) only [am0, am1, am2, am3, am4, am5, am6, am7, am8, Nat.reduceSub, ↓reduceIte, reduceCtorEq, Nat.reduceEqDiff, Nat.reduceBEq, Nat.reduceAdd, Nat.reduceLT, ↓reduceIte, tis]
        · have hne : p ≠ q := by rintro rfl; exact h rfl
          simp -implicitDefEqProofs (maxSteps := 100000) (disch := first | (intros; contradiction) | omega) only [am0, am1, am2, am3, am4, am5, am6, am7, am8, Nat.reduceSub, ↓reduceIte, reduceCtorEq, Nat.reduceEqDiff, Nat.reduceBEq, Nat.reduceAdd, Nat.reduceLT, ↓reduceIte, tis, h, hne]
      · obtain rfl : i = p.length := by omega
        have hpq : p = q := by rwa [List.take_of_length_le (Nat.le_refl _), List.take_of_length_le (by omega)] at h2
        simp -implicitDefEqProofs (maxSteps := 100000) (disch := first | (intros; contradiction) | omega) only [am0, am1, am2, am3, am4, am5, am6, am7, am8, Nat.reduceSub, ↓reduceIte, reduceCtorEq, Nat.reduceEqDiff, Nat.reduceBEq, Nat.reduceAdd, Nat.reduceLT, ↓reduceIte, tis, hpq]
  · have hne : p ≠ q := fun h => hl (by rw [h])
    simp -implicitDefEqProofs (maxSteps := 100000) (disch := first | (intros; contradiction) | omega) only [am0, am1, am2, am3, am4, am5, am6, am7, am8, Nat.reduceSub, ↓reduceIte, reduceCtorEq, Nat.reduceEqDiff, Nat.reduceBEq, Nat.reduceAdd, Nat.reduceLT, ↓reduceIte, tis, hne]
/-- The marks that are put into n such from k on. -/
def mkIns (k : Int) : Ins := ⟨k, k + 1, k + 2, k + 3⟩
def mkInss (n : Nat) (k : Int) : List Ins := (List.range n).map fun (i : Nat) => mkIns (k + 4 * (i : Int))
theorem mkInss_succ (n : Nat) (k : Int) : mkInss (n + 1) k = mkInss n k ++ [mkIns (k + 4 * n)] := by simp [mkInss, List.range_succ]
theorem mkInss_len (n : Nat) (k : Int) : (mkInss n k).length = n := by simp [mkInss]
/-- laws.markInsS -/
theorem fits_markInsS (p : List Ins) (k : Int) (hp : p.length ≤ 1048576) (h0 : 0 ≤ k) (hk : k ≤ 1152921504606846976) : Fits prog 23 [.sl true 4 (p.map eIns), .int .i64 k] (.int .i64 (k + 4 * p.length)) [.sl true 4 ((mkInss p.length k).map eIns)] := by
  refine fits_of_code [4] [0] [0, 1, 4, 5, 9] func23 rfl rfl rfl (by rfl) (by show 2 ≤ 41; decide) (by rfl) (by rfl) (by show 1 ≤ 2; decide) (by rfl) (run_of ?_)
  simp -implicitDefEqProofs (maxSteps := 100000) (disch := first | (intros; contradiction) | omega) only [am0, am1, am2, am3, am4, am5, am6, am7, am8, Nat.reduceSub, ↓reduceIte, reduceCtorEq, Nat.reduceEqDiff, Nat.reduceBEq, Nat.reduceAdd, Nat.reduceLT, ↓reduceIte, tis]
  refine run_loop (α := Nat) (fun i => i ≤ p.length) (fun i => [(0, .sl true 4 ((mkInss i k).map eIns ++ (p.drop i).map eIns)), (1, .int .i64 (k + 4 * i)), (5, .int .i64 i)]) (fun i => p.length - i) 0 (Nat.zero_le _) ?_ ?_
  · simp -implicitDefEqProofs (maxSteps := 100000) (disch := first | (intros; contradiction) | omega) only [am0, am1, am2, am3, am4, am5, am6, am7, am8, Nat.reduceSub, ↓reduceIte, reduceCtorEq, Nat.reduceEqDiff, Nat.reduceBEq, Nat.reduceAdd, Nat.reduceLT, ↓reduceIte, tis, mkInss]
    try simp
  · intro i hi'
    have hA : ((mkInss i k).map eIns).length = i := by simp [mkInss_len]
    have hL : ((mkInss i k).map eIns ++ (p.drop i).map eIns).length = p.length := by simp [mkInss_len]; omega
    by_cases hi : i < p.length
    · have g1 := turn_get _ eIns p i hA hi
      have g2 := fun y => turn_set _ eIns p i y hA hi
      have g3 : ∀ y, ((mkInss i k).map eIns ++ [y] ++ (p.drop (i + 1)).map eIns)[i]? = some y := fun y => by
        rw [List.append_assoc, List.getElem?_append_right (by omega), hA, Nat.sub_self]; rfl
      have g4 : ∀ y z, ((mkInss i k).map eIns ++ [y] ++ (p.drop (i + 1)).map eIns).set i z = (mkInss i k).map eIns ++ [z] ++ (p.drop (i + 1)).map eIns := fun y z => by
        rw [List.append_assoc, List.set_append_right _ _ (by omega), hA, Nat.sub_self]; simp
      have g5 : ∀ y, ((mkInss i k).map eIns ++ [y] ++ (p.drop (i + 1)).map eIns).length = p.length := fun y => by simp [mkInss_len]; omega
      simp only [eIns] at g1
      simp -implicitDefEqProofs (maxSteps := 100000) (disch := first | (intros; contradiction) | omega) only [am0, am1, am2, am3, am4, am5, am6, am7, am8, Nat.reduceSub, ↓reduceIte, reduceCtorEq, Nat.reduceEqDiff, Nat.reduceBEq, Nat.reduceAdd, Nat.reduceLT, ↓reduceIte, tis, hL, g1, g2, g3, g4, g5]
      refine round_normal (i + 1) (by omega) ?_ (by show p.length - (i + 1) < p.length - i; omega)
      simp -implicitDefEqProofs (maxSteps := 100000) (disch := first | (intros; contradiction) | omega) only [am0, am1, am2, am3, am4, am5, am6, am7, am8, Nat.reduceSub, ↓reduceIte, reduceCtorEq, Nat.reduceEqDiff, Nat.reduceBEq, Nat.reduceAdd, Nat.reduceLT, ↓reduceIte, tis, mkInss_succ]
      simp [mkIns, eIns]
      omega
    · obtain rfl : i = p.length := by omega
      simp -implicitDefEqProofs (maxSteps := 100000) (disch := first | (intros; contradiction) | omega) only [am0, am1, am2, am3, am4, am5, am6, am7, am8, Nat.reduceSub, ↓reduceIte, reduceCtorEq, Nat.reduceEqDiff, Nat.reduceBEq, Nat.reduceAdd, Nat.reduceLT, ↓reduceIte, tis, mkInss_len]
theorem mkInss_get (n : Nat) (k : Int) (i : Nat) (h : i < n) : ((mkInss n k).map eIns).getD i .undef = eIns (mkIns (k + 4 * i)) := by
  simp [mkInss, List.getD, h]
/-- laws.heldInsS -/
theorem fits_heldInsS (m : Nat) (k : Int) (hp : m ≤ 1048576) (h0 : 0 ≤ k) (hk : k ≤ 1152921504606846976) : Fits prog 51 [.sl false 4 ((mkInss m k).map eIns), .int .i64 k] (.int .i64 (k + 4 * m)) [] := by
  refine fits_of_code [4] [] [0, 1, 4, 5, 9, 18, 27, 36, 45] func51 rfl rfl rfl (by rfl) (by show 2 ≤ 49; decide) (by rfl) (by rfl) (by show 0 ≤ 2; decide) (by rfl) (run_of ?_)
  simp -implicitDefEqProofs (maxSteps := 100000) (disch := first | (intros; contradiction) | omega) only [am0, am1, am2, am3, am4, am5, am6, am7, am8, Nat.reduceSub, ↓reduceIte, reduceCtorEq, Nat.reduceEqDiff, Nat.reduceBEq, Nat.reduceAdd, Nat.reduceLT, ↓reduceIte, tis]
  refine run_loop (α := Nat) (fun i => i ≤ m) (fun i => [(0, .sl false 4 ((mkInss m k).map eIns)), (1, .int .i64 (k + 4 * i)), (5, .int .i64 i)]) (fun i => m - i) 0 (Nat.zero_le _) ?_ ?_
  · simp -implicitDefEqProofs (maxSteps := 100000) (disch := first | (intros; contradiction) | omega) only [am0, am1, am2, am3, am4, am5, am6, am7, am8, Nat.reduceSub, ↓reduceIte, reduceCtorEq, Nat.reduceEqDiff, Nat.reduceBEq, Nat.reduceAdd, Nat.reduceLT, ↓reduceIte, tis]
  · intro i hi'
    by_cases hi : i < m
    · have g := mkInss_get m k i hi
      simp only [eIns, mkIns] at g
      simp -implicitDefEqProofs (maxSteps := 100000) (disch := first | (intros; contradiction) | omega) only [am0, am1, am2, am3, am4, am5, am6, am7, am8, Nat.reduceSub, ↓reduceIte, reduceCtorEq, Nat.reduceEqDiff, Nat.reduceBEq, Nat.reduceAdd, Nat.reduceLT, ↓reduceIte, tis, g, mkInss_len]
      refine round_normal (i + 1) (by omega) ?_ (by show m - (i + 1) < m - i; omega)
      simp -implicitDefEqProofs (maxSteps := 100000) (disch := first | (intros; contradiction) | omega) only [am0, am1, am2, am3, am4, am5, am6, am7, am8, Nat.reduceSub, ↓reduceIte, reduceCtorEq, Nat.reduceEqDiff, Nat.reduceBEq, Nat.reduceAdd, Nat.reduceLT, ↓reduceIte, tis, mkInss_len]
      omega
    · obtain rfl : i = m := by omega
      simp -implicitDefEqProofs (maxSteps := 100000) (disch := first | (intros; contradiction) | omega) only [am0, am1, am2, am3, am4, am5, am6, am7, am8, Nat.reduceSub, ↓reduceIte, reduceCtorEq, Nat.reduceEqDiff, Nat.reduceBEq, Nat.reduceAdd, Nat.reduceLT, ↓reduceIte, tis, mkInss_len]
/-- laws.toToken -/
theorem fits_toToken (x : Token) : Fits prog 70 [eToken x] (eToken x) [] := by
  refine fits_of_cell 2 68 [] [0, 1, 2, 3] func70 rfl rfl rfl (by show 2 < 14; decide) (by show 1 ≤ 14; decide) (by rfl) (by rfl) (by show 0 ≤ 1; decide) (by rfl) (run_of ?_)
  simp -implicitDefEqProofs only [am0, am1, am2, am3, am4, am5, am6, am7, am8, Nat.reduceSub, ↓reduceIte, reduceCtorEq, Nat.reduceEqDiff, Nat.reduceBEq, Nat.reduceAdd, Nat.reduceLT, ↓reduceIte, tis, eToken]
/-- laws.eqToken -/
theorem fits_eqToken (x y : Token) : Fits prog 73 [eToken x, eToken y] (.bool (decide (x = y))) [] := by
  refine fits_of_code [4] [] [0, 1, 2, 3, 4, 9, 14, 19] func73 rfl rfl rfl (by rfl) (by show 2 ≤ 20; decide) (by rfl) (by rfl) (by show 0 ≤ 2; decide) (by rfl) (run_of ?_)
  obtain ⟨a0, a1, a2⟩ := x
  obtain ⟨b0, b1, b2⟩ := y
  by_cases h0 : a0 = b0
  case neg =>
    simp -implicitDefEqProofs (maxSteps := 100000) (disch := first | (intros; contradiction) | omega) only [am0, am1, am2, am3, am4, am5, am6, am7, am8, Nat.reduceSub, ↓reduceIte, reduceCtorEq, Nat.reduceEqDiff, Nat.reduceBEq, Nat.reduceAdd, Nat.reduceLT, ↓reduceIte, tis, eToken, h0]
    simp [h0]
  by_cases h1 : a1 = b1
  case neg =>
    simp -implicitDefEqProofs (maxSteps := 100000) (disch := first | (intros; contradiction) | omega) only [am0, am1, am2, am3, am4, am5, am6, am7, am8, Nat.reduceSub, ↓reduceIte, reduceCtorEq, Nat.reduceEqDiff, Nat.reduceBEq, Nat.reduceAdd, Nat.reduceLT, ↓reduceIte, tis, eToken, h0, h1]
    simp [h1]
  by_cases h2 : a2 = b2
  case neg =>
    simp -implicitDefEqProofs (maxSteps := 100000) (disch := first | (intros; contradiction) | omega) only [am0, am1, am2, am3, am4, am5, am6, am7, am8, Nat.reduceSub, ↓reduceIte, reduceCtorEq, Nat.reduceEqDiff, Nat.reduceBEq, Nat.reduceAdd, Nat.reduceLT, ↓reduceIte, tis, eToken, h0, h1, h2]
    simp [h2]
  simp -implicitDefEqProofs (maxSteps := 100000) (disch := first | (intros; contradiction) | omega) only [am0, am1, am2, am3, am4, am5, am6, am7, am8, Nat.reduceSub, ↓reduceIte, reduceCtorEq, Nat.reduceEqDiff, Nat.reduceBEq, Nat.reduceAdd, Nat.reduceLT, ↓reduceIte, tis, eToken, h0, h1, h2]
/-- laws.szTokenS -/
theorem fits_szTokenS (p : List Token) (n : Int) (hp : p.length ≤ 9223372036854775807) (hn : n ≤ 1048576) (hn0 : 0 ≤ n) : Fits prog 35 [.sl false 3 (p.map eToken), .int .i64 n] (.int .i64 (if n - p.length < 0 then -1 else n - p.length)) [] := by
  refine fits_of_code [4] [] [0, 1, 4, 10] func35 rfl rfl rfl (by rfl) (by show 2 ≤ 12; decide) (by rfl) (by rfl) (by show 0 ≤ 2; decide) (by rfl) (run_of ?_)
  by_cases hl : n - p.length < 0
  · simp -implicitDefEqProofs (maxSteps := 100000) (disch := first | (intros; contradiction) | omega) only [am0, am1, am2, am3, am4, am5, am6, am7, am8, Nat.reduceSub, ↓reduceIte, reduceCtorEq, Nat.reduceEqDiff, Nat.reduceBEq, Nat.reduceAdd, Nat.reduceLT, ↓reduceIte, tis, hl]
  · simp -implicitDefEqProofs (maxSteps := 100000) (disch := first | (intros; contradiction) | omega) only [am0, am1, am2, am3, am4, am5, am6, am7, am8, Nat.reduceSub, ↓reduceIte, reduceCtorEq, Nat.reduceEqDiff, Nat.reduceBEq, Nat.reduceAdd, Nat.reduceLT, ↓reduceIte, tis, hl]
/-- laws.toTokenS -/
theorem fits_toTokenS (p : List Token) (hp : p.length ≤ 1048576) : Fits prog 38 [.sl false 3 (p.map eToken)] (.sl true 3 (p.map eToken)) [] := by
  refine fits_of_code [2] [] [0, 2, 3, 4, 11] func38 rfl rfl rfl (by rfl) (by show 1 ≤ 23; decide) (by rfl) (by rfl) (by show 0 ≤ 1; decide) (by rfl) (run_of ?_)
  simp -implicitDefEqProofs (maxSteps := 100000) (disch := first | (intros; contradiction) | omega) only [am0, am1, am2, am3, am4, am5, am6, am7, am8, Nat.reduceSub, ↓reduceIte, reduceCtorEq, Nat.reduceEqDiff, Nat.reduceBEq, Nat.reduceAdd, Nat.reduceLT, ↓reduceIte, tis]
  refine run_loop (α := Nat) (fun i => i ≤ p.length) (fun i => [(0, .sl false 3 (p.map eToken)), (3, .sl true 3 ((p.take i).map eToken ++ List.replicate (p.length - i) (eToken ⟨0, 0, 0⟩))), (4, .int .i64 i)]) (fun i => p.length - i) 0 (Nat.zero_le _) ?_ ?_
  · simp -implicitDefEqProofs (maxSteps := 100000) (disch := first | (intros; contradiction) | omega) only [am0, am1, am2, am3, am4, am5, am6, am7, am8, Nat.reduceSub, ↓reduceIte, reduceCtorEq, Nat.reduceEqDiff, Nat.reduceBEq, Nat.reduceAdd, Nat.reduceLT, ↓reduceIte, eToken]
  · intro i hi'
    by_cases hi : i < p.length
    · have g2 := build_get eToken (eToken ⟨0, 0, 0⟩) p i hi
      have g3 := build_set eToken (eToken ⟨0, 0, 0⟩) p i hi
      have g4 := build_len eToken (eToken ⟨0, 0, 0⟩) p i hi'
      simp only [eToken] at g2 g3 g4
      simp -implicitDefEqProofs (maxSteps := 100000) (disch := first | (intros; contradiction) | omega) only [am0, am1, am2, am3, am4, am5, am6, am7, am8, Nat.reduceSub, ↓reduceIte, reduceCtorEq, Nat.reduceEqDiff, Nat.reduceBEq, Nat.reduceAdd, Nat.reduceLT, ↓reduceIte, tis, eToken]
      refine callb_of (fits_toToken p[i]) (by simp -implicitDefEqProofs (maxSteps := 100000) (disch := first | (intros; contradiction) | omega) only [am0, am1, am2, am3, am4, am5, am6, am7, am8, Nat.reduceSub, ↓reduceIte, reduceCtorEq, Nat.reduceEqDiff, Nat.reduceBEq, Nat.reduceAdd, Nat.reduceLT, ↓reduceIte, tis, eToken]) (.inl rfl) rfl ?_
      simp -implicitDefEqProofs (maxSteps := 100000) (disch := first | (intros; contradiction) | omega) only [am0, am1, am2, am3, am4, am5, am6, am7, am8, Nat.reduceSub, ↓reduceIte, reduceCtorEq, Nat.reduceEqDiff, Nat.reduceBEq, Nat.reduceAdd, Nat.reduceLT, ↓reduceIte, tis, eToken, g2, g3, g4]
      refine round_normal (i + 1) (by omega) ?_ (by show p.length - (i + 1) < p.length - i; omega)
      simp -implicitDefEqProofs (maxSteps := 100000) (disch := first | (intros; contradiction) | omega) only [am0, am1, am2, am3, am4, am5, am6, am7, am8, Nat.reduceSub, ↓reduceIte, reduceCtorEq, Nat.reduceEqDiff, Nat.reduceBEq, Nat.reduceAdd, Nat.reduceLT, ↓reduceIte, eToken]
    · obtain rfl : i = p.length := by omega
      simp -implicitDefEqProofs (maxSteps := 100000) (disch := first | (intros; contradiction) | omega) only [am0, am1, am2, am3, am4, am5, am6, am7, am8, Nat.reduceSub, ↓reduceIte, reduceCtorEq, Nat.reduceEqDiff, Nat.reduceBEq, Nat.reduceAdd, Nat.reduceLT, ↓reduceIte, tis]
/-- laws.eqTokenS -/
theorem fits_eqTokenS (p q : List Token) (hp : p.length ≤ 1048576) (hq : q.length ≤ 1048576) : Fits prog 41 [.sl false 3 (p.map eToken), .sl false 3 (q.map eToken)] (.bool (decide (p = q))) [] := by
  refine fits_of_code [4] [] [0, 1, 4, 5, 10, 14, 26] func41 rfl rfl rfl (by rfl) (by show 2 ≤ 27; decide) (by rfl) (by rfl) (by show 0 ≤ 2; decide) (by rfl) (run_of ?_)
  by_cases hl : p.length = q.length
  · simp -implicitDefEqProofs (maxSteps := 100000) (disch := first | (intros; contradiction) | omega) only [am0, am1, am2, am3, am4, am5, am6, am7, am8, Nat.reduceSub, ↓reduceIte, reduceCtorEq, Nat.reduceEqDiff, Nat.reduceBEq, Nat.reduceAdd, Nat.reduceLT, ↓reduceIte, tis]
    refine run_loop (α := Nat) (fun i => i ≤ p.length ∧ p.take i = q.take i) (fun i => [(0, .sl false 3 (p.map eToken)), (1, .sl false 3 (q.map eToken)), (5, .int .i64 i)]) (fun i => p.length - i) 0 ⟨Nat.zero_le _, by simp⟩ ?_ ?_
    · simp -implicitDefEqProofs (maxSteps := 100000) (disch := first | (intros; contradiction) | omega) only [am0, am1, am2, am3, am4, am5, am6, am7, am8, Nat.reduceSub, ↓reduceIte, reduceCtorEq, Nat.reduceEqDiff, Nat.reduceBEq, Nat.reduceAdd, Nat.reduceLT, ↓reduceIte, tis]
    · rintro i ⟨h1, h2⟩
      by_cases hi : i < p.length
      · simp -implicitDefEqProofs (maxSteps := 100000) (disch := first | (intros; contradiction) | omega) only [am0, am1, am2, am3, am4, am5, am6, am7, am8, Nat.reduceSub, ↓reduceIte, reduceCtorEq, Nat.reduceEqDiff, Nat.reduceBEq, Nat.reduceAdd, Nat.reduceLT, ↓reduceIte, tis, eToken]
        refine ⟨by kernel_rfl, ?_⟩
        refine call_of (fits_eqToken p[i] q[i]) (by simp -implicitDefEqProofs (maxSteps := 100000) (disch := first | (intros; contradiction) | omega) only [am0, am1, am2, am3, am4, am5, am6, am7, am8, Nat.reduceSub, ↓reduceIte, reduceCtorEq, Nat.reduceEqDiff, Nat.reduceBEq, Nat.reduceAdd, Nat.reduceLT, ↓reduceIte, tis, eToken]) (.inl rfl) rfl ?_
        by_cases h : p[i] = q[i]
        · simp -implicitDefEqProofs (maxSteps := 100000) (disch := first | (intros; contradiction) | omega) only [am0, am1, am2, am3, am4, am5, am6, am7, am8, Nat.reduceSub, ↓reduceIte, reduceCtorEq, Nat.reduceEqDiff, Nat.reduceBEq, Nat.reduceAdd, Nat.reduceLT, ↓reduceIte, tis, h]
          refine round_normal (i + 1) ⟨by omega, ?_⟩ ?_ (by show p.length - (i + 1) < p.length - i; omega)
          · rw [List.take_succ_eq_append_getElem hi, List.take_succ_eq_append_getElem (by omega : i < q.length), h2, h]
          · simp -implicitDefEqProofs (maxSteps := 100000) (disch := first | (intros; contradiction) | omega) only [am0, am1, am2, am3, am4, am5, am6, am7, am8, Nat.reduceSub, ↓reduceIte, reduceCtorEq, Nat.reduceEqDiff, Nat.reduceBEq, Nat.reduceAdd, Nat.reduceLT, ↓reduceIte, tis]
        · have hne : p ≠ q := by rintro rfl; exact h rfl
          simp -implicitDefEqProofs (maxSteps := 100000) (disch := first | (intros; contradiction) | omega) only [am0, am1, am2, am3, am4, am5, am6, am7, am8, Nat.reduceSub, ↓reduceIte, reduceCtorEq, Nat.reduceEqDiff, Nat.reduceBEq, Nat.reduceAdd, Nat.reduceLT, ↓reduceIte, tis, h, hne]
      · obtain rfl : i = p.length := by omega
        have hpq : p = q := by rwa [List.take_of_length_le (Nat.le_refl _), List.take_of_length_le (by omega)] at h2
        simp -implicitDefEqProofs (maxSteps := 100000) (disch := first | (intros; contradiction) | omega) only [am0, am1, am2, am3, am4, am5, am6, am7, am8, Nat.reduceSub, ↓reduceIte, reduceCtorEq, Nat.reduceEqDiff, Nat.reduceBEq, Nat.reduceAdd, Nat.reduceLT, ↓reduceIte, tis, hpq]
  · have hne : p ≠ q := fun h => hl (by rw [h])
    simp -implicitDefEqProofs (maxSteps := 100000) (disch := first | (intros; contradiction) | omega) only [am0, am1, am2, am3, am4, am5, am6, am7, am8, Nat.reduceSub, ↓reduceIte, reduceCtorEq, Nat.reduceEqDiff, Nat.reduceBEq, Nat.reduceAdd, Nat.reduceLT, ↓reduceIte, tis, hne]
/-- The marks that are put into n such from k on. -/
def mkToken (k : Int) : Token := ⟨k, k + 1, k + 2⟩
def mkTokens (n : Nat) (k : Int) : List Token := (List.range n).map fun (i : Nat) => mkToken (k + 3 * (i : Int))
theorem mkTokens_succ (n : Nat) (k : Int) : mkTokens (n + 1) k = mkTokens n k ++ [mkToken (k + 3 * n)] := by simp [mkTokens, List.range_succ]
theorem mkTokens_len (n : Nat) (k : Int) : (mkTokens n k).length = n := by simp [mkTokens]
/-- laws.markTokenS -/
theorem fits_markTokenS (p : List Token) (k : Int) (hp : p.length ≤ 1048576) (h0 : 0 ≤ k) (hk : k ≤ 1152921504606846976) : Fits prog 50 [.sl true 3 (p.map eToken), .int .i64 k] (.int .i64 (k + 3 * p.length)) [.sl true 3 ((mkTokens p.length k).map eToken)] := by
  refine fits_of_code [4] [0] [0, 1, 4, 5, 9] func50 rfl rfl rfl (by rfl) (by show 2 ≤ 34; decide) (by rfl) (by rfl) (by show 1 ≤ 2; decide) (by rfl) (run_of ?_)
  simp -implicitDefEqProofs (maxSteps := 100000) (disch := first | (intros; contradiction) | omega) only [am0, am1, am2, am3, am4, am5, am6, am7, am8, Nat.reduceSub, ↓reduceIte, reduceCtorEq, Nat.reduceEqDiff, Nat.reduceBEq, Nat.reduceAdd, Nat.reduceLT, ↓reduceIte, tis]
  refine run_loop (α := Nat) (fun i => i ≤ p.length) (fun i => [(0, .sl true 3 ((mkTokens i k).map eToken ++ (p.drop i).map eToken)), (1, .int .i64 (k + 3 * i)), (5, .int .i64 i)]) (fun i => p.length - i) 0 (Nat.zero_le _) ?_ ?_
  · simp -implicitDefEqProofs (maxSteps := 100000) (disch := first | (intros; contradiction) | omega) only [am0, am1, am2, am3, am4, am5, am6, am7, am8, Nat.reduceSub, ↓reduceIte, reduceCtorEq, Nat.reduceEqDiff, Nat.reduceBEq, Nat.reduceAdd, Nat.reduceLT, ↓reduceIte, tis, mkTokens]
    try simp
  · intro i hi'
    have hA : ((mkTokens i k).map eToken).length = i := by simp [mkTokens_len]
    have hL : ((mkTokens i k).map eToken ++ (p.drop i).map eToken).length = p.length := by simp [mkTokens_len]; omega
    by_cases hi : i < p.length
    · have g1 := turn_get _ eToken p i hA hi
      have g2 := fun y => turn_set _ eToken p i y hA hi
      have g3 : ∀ y, ((mkTokens i k).map eToken ++ [y] ++ (p.drop (i + 1)).map eToken)[i]? = some y := fun y => by
        rw [List.append_assoc, List.getElem?_append_right (by omega), hA, Nat.sub_self]; rfl
      have g4 : ∀ y z, ((mkTokens i k).map eToken ++ [y] ++ (p.drop (i + 1)).map eToken).set i z = (mkTokens i k).map eToken ++ [z] ++ (p.drop (i + 1)).map eToken := fun y z => by
        rw [List.append_assoc, List.set_append_right _ _ (by omega), hA, Nat.sub_self]; simp
      have g5 : ∀ y, ((mkTokens i k).map eToken ++ [y] ++ (p.drop (i + 1)).map eToken).length = p.length := fun y => by simp [mkTokens_len]; omega
      simp only [eToken] at g1
      simp -implicitDefEqProofs (maxSteps := 100000) (disch := first | (intros; contradiction) | omega) only [am0, am1, am2, am3, am4, am5, am6, am7, am8, Nat.reduceSub, ↓reduceIte, reduceCtorEq, Nat.reduceEqDiff, Nat.reduceBEq, Nat.reduceAdd, Nat.reduceLT, ↓reduceIte, tis, hL, g1, g2, g3, g4, g5]
      refine round_normal (i + 1) (by omega) ?_ (by show p.length - (i + 1) < p.length - i; omega)
      simp -implicitDefEqProofs (maxSteps := 100000) (disch := first | (intros; contradiction) | omega) only [am0, am1, am2, am3, am4, am5, am6, am7, am8, Nat.reduceSub, ↓reduceIte, reduceCtorEq, Nat.reduceEqDiff, Nat.reduceBEq, Nat.reduceAdd, Nat.reduceLT, ↓reduceIte, tis, mkTokens_succ]
      simp [mkToken, eToken]
      omega
    · obtain rfl : i = p.length := by omega
      simp -implicitDefEqProofs (maxSteps := 100000) (disch := first | (intros; contradiction) | omega) only [am0, am1, am2, am3, am4, am5, am6, am7, am8, Nat.reduceSub, ↓reduceIte, reduceCtorEq, Nat.reduceEqDiff, Nat.reduceBEq, Nat.reduceAdd, Nat.reduceLT, ↓reduceIte, tis, mkTokens_len]
theorem mkTokens_get (n : Nat) (k : Int) (i : Nat) (h : i < n) : ((mkTokens n k).map eToken).getD i .undef = eToken (mkToken (k + 3 * i)) := by
  simp [mkTokens, List.getD, h]
/-- laws.heldTokenS -/
theorem fits_heldTokenS (m : Nat) (k : Int) (hp : m ≤ 1048576) (h0 : 0 ≤ k) (hk : k ≤ 1152921504606846976) : Fits prog 52 [.sl false 3 ((mkTokens m k).map eToken), .int .i64 k] (.int .i64 (k + 3 * m)) [] := by
  refine fits_of_code [4] [] [0, 1, 4, 5, 9, 18, 27, 36] func52 rfl rfl rfl (by rfl) (by show 2 ≤ 40; decide) (by rfl) (by rfl) (by show 0 ≤ 2; decide) (by rfl) (run_of ?_)
  simp -implicitDefEqProofs (maxSteps := 100000) (disch := first | (intros; contradiction) | omega) only [am0, am1, am2, am3, am4, am5, am6, am7, am8, Nat.reduceSub, ↓reduceIte, reduceCtorEq, Nat.reduceEqDiff, Nat.reduceBEq, Nat.reduceAdd, Nat.reduceLT, ↓reduceIte, tis]
  refine run_loop (α := Nat) (fun i => i ≤ m) (fun i => [(0, .sl false 3 ((mkTokens m k).map eToken)), (1, .int .i64 (k + 3 * i)), (5, .int .i64 i)]) (fun i => m - i) 0 (Nat.zero_le _) ?_ ?_
  · simp -implicitDefEqProofs (maxSteps := 100000) (disch := first | (intros; contradiction) | omega) only [am0, am1, am2, am3, am4, am5, am6, am7, am8, Nat.reduceSub, ↓reduceIte, reduceCtorEq, Nat.reduceEqDiff, Nat.reduceBEq, Nat.reduceAdd, Nat.reduceLT, ↓reduceIte, tis]
  · intro i hi'
    by_cases hi : i < m
    · have g := mkTokens_get m k i hi
      simp only [eToken, mkToken] at g
      simp -implicitDefEqProofs (maxSteps := 100000) (disch := first | (intros; contradiction) | omega) only [am0, am1, am2, am3, am4, am5, am6, am7, am8, Nat.reduceSub, ↓reduceIte, reduceCtorEq, Nat.reduceEqDiff, Nat.reduceBEq, Nat.reduceAdd, Nat.reduceLT, ↓reduceIte, tis, g, mkTokens_len]
      refine round_normal (i + 1) (by omega) ?_ (by show m - (i + 1) < m - i; omega)
      simp -implicitDefEqProofs (maxSteps := 100000) (disch := first | (intros; contradiction) | omega) only [am0, am1, am2, am3, am4, am5, am6, am7, am8, Nat.reduceSub, ↓reduceIte, reduceCtorEq, Nat.reduceEqDiff, Nat.reduceBEq, Nat.reduceAdd, Nat.reduceLT, ↓reduceIte, tis, mkTokens_len]
      omega
    · obtain rfl : i = m := by omega
      simp -implicitDefEqProofs (maxSteps := 100000) (disch := first | (intros; contradiction) | omega) only [am0, am1, am2, am3, am4, am5, am6, am7, am8, Nat.reduceSub, ↓reduceIte, reduceCtorEq, Nat.reduceEqDiff, Nat.reduceBEq, Nat.reduceAdd, Nat.reduceLT, ↓reduceIte, tis, mkTokens_len]
/-- What is left of a measure behind a list. -/
def szl (n : Int) (k : Nat) : Int := if n - k < 0 then -1 else n - k
def szFeed (f : Feed) (n : Int) : Int := if n - f.prog.length < 0 then -1 else if n - f.prog.length - f.buf.length < 0 then -1 else szl (n - f.prog.length - f.buf.length) f.out.length
/-- laws.szFeed -/
theorem fits_szFeed (f : Feed) (n : Int) (hp : f.prog.length ≤ 9223372036854775807) (hb : f.buf.length ≤ 9223372036854775807) (ho : f.out.length ≤ 9223372036854775807) (hn : n ≤ 1048576) (hn0 : 0 ≤ n) : Fits prog 11 [eFeed false f, .int .i64 n] (.int .i64 (szFeed f n)) [] := by
  refine fits_of_code [4] [] [0, 1, 2, 4, 10, 17, 23] func11 rfl rfl rfl (by rfl) (by show 2 ≤ 25; decide) (by rfl) (by rfl) (by show 0 ≤ 2; decide) (by rfl) (run_of ?_)
  simp -implicitDefEqProofs (maxSteps := 100000) (disch := first | (intros; contradiction) | omega) only [am0, am1, am2, am3, am4, am5, am6, am7, am8, Nat.reduceSub, ↓reduceIte, reduceCtorEq, Nat.reduceEqDiff, Nat.reduceBEq, Nat.reduceAdd, Nat.reduceLT, ↓reduceIte, tis, eFeed]
  refine callb_of (fits_szInsS f.prog n hp hn hn0) (by simp -implicitDefEqProofs (maxSteps := 100000) (disch := first | (intros; contradiction) | omega) only [am0, am1, am2, am3, am4, am5, am6, am7, am8, Nat.reduceSub, ↓reduceIte, reduceCtorEq, Nat.reduceEqDiff, Nat.reduceBEq, Nat.reduceAdd, Nat.reduceLT, ↓reduceIte, tis]) (.inl rfl) rfl ?_
  by_cases h1 : n - f.prog.length < 0
  · simp -implicitDefEqProofs (maxSteps := 100000) (disch := first | (intros; contradiction) | omega) only [am0, am1, am2, am3, am4, am5, am6, am7, am8, Nat.reduceSub, ↓reduceIte, reduceCtorEq, Nat.reduceEqDiff, Nat.reduceBEq, Nat.reduceAdd, Nat.reduceLT, ↓reduceIte, tis, h1, szFeed]
  by_cases h2 : n - f.prog.length - f.buf.length < 0
  · simp -implicitDefEqProofs (maxSteps := 100000) (disch := first | (intros; contradiction) | omega) only [am0, am1, am2, am3, am4, am5, am6, am7, am8, Nat.reduceSub, ↓reduceIte, reduceCtorEq, Nat.reduceEqDiff, Nat.reduceBEq, Nat.reduceAdd, Nat.reduceLT, ↓reduceIte, tis, h1, szFeed]
  simp -implicitDefEqProofs (maxSteps := 100000) (disch := first | (intros; contradiction) | omega) only [am0, am1, am2, am3, am4, am5, am6, am7, am8, Nat.reduceSub, ↓reduceIte, reduceCtorEq, Nat.reduceEqDiff, Nat.reduceBEq, Nat.reduceAdd, Nat.reduceLT, ↓reduceIte, tis, eFeed]
  refine callb_of (fits_szTokenS f.out (n - f.prog.length - f.buf.length) ho (by omega) (by omega)) (by simp -implicitDefEqProofs (maxSteps := 100000) (disch := first | (intros; contradiction) | omega) only [am0, am1, am2, am3, am4, am5, am6, am7, am8, Nat.reduceSub, ↓reduceIte, reduceCtorEq, Nat.reduceEqDiff, Nat.reduceBEq, Nat.reduceAdd, Nat.reduceLT, ↓reduceIte, tis]) (.inl rfl) rfl ?_
  by_cases h3 : n - f.prog.length - f.buf.length - f.out.length < 0
  · simp -implicitDefEqProofs (maxSteps := 100000) (disch := first | (intros; contradiction) | omega) only [am0, am1, am2, am3, am4, am5, am6, am7, am8, Nat.reduceSub, ↓reduceIte, reduceCtorEq, Nat.reduceEqDiff, Nat.reduceBEq, Nat.reduceAdd, Nat.reduceLT, ↓reduceIte, tis, h3, szFeed, szl]
  · simp -implicitDefEqProofs (maxSteps := 100000) (disch := first | (intros; contradiction) | omega) only [am0, am1, am2, am3, am4, am5, am6, am7, am8, Nat.reduceSub, ↓reduceIte, reduceCtorEq, Nat.reduceEqDiff, Nat.reduceBEq, Nat.reduceAdd, Nat.reduceLT, ↓reduceIte, tis, h3, szFeed, szl]
/-- laws.toFeed -/
theorem fits_toFeed (f : Feed) (hp : f.prog.length ≤ 1048576) (ho : f.out.length ≤ 1048576) : Fits prog 13 [eFeed false f] (eFeed true f) [] := by
  refine fits_of_cell 2 33 [] [0, 1, 2, 3] func13 rfl rfl rfl (by show 2 < 34; decide) (by show 1 ≤ 34; decide) (by rfl) (by rfl) (by show 0 ≤ 1; decide) (by rfl) (run_of ?_)
  simp -implicitDefEqProofs (maxSteps := 100000) (disch := first | (intros; contradiction) | omega) only [am0, am1, am2, am3, am4, am5, am6, am7, am8, Nat.reduceSub, ↓reduceIte, reduceCtorEq, Nat.reduceEqDiff, Nat.reduceBEq, Nat.reduceAdd, Nat.reduceLT, ↓reduceIte, tis, eFeed]
  refine callb_of (fits_toInsS f.prog hp) (by simp -implicitDefEqProofs (maxSteps := 100000) (disch := first | (intros; contradiction) | omega) only [am0, am1, am2, am3, am4, am5, am6, am7, am8, Nat.reduceSub, ↓reduceIte, reduceCtorEq, Nat.reduceEqDiff, Nat.reduceBEq, Nat.reduceAdd, Nat.reduceLT, ↓reduceIte, tis]) (.inl (by simp -implicitDefEqProofs (maxSteps := 100000) (disch := first | (intros; contradiction) | omega) only [am0, am1, am2, am3, am4, am5, am6, am7, am8, Nat.reduceSub, ↓reduceIte, reduceCtorEq, Nat.reduceEqDiff, Nat.reduceBEq, Nat.reduceAdd, Nat.reduceLT, ↓reduceIte, fls])) rfl ?_
  simp -implicitDefEqProofs (maxSteps := 100000) (disch := first | (intros; contradiction) | omega) only [am0, am1, am2, am3, am4, am5, am6, am7, am8, Nat.reduceSub, ↓reduceIte, reduceCtorEq, Nat.reduceEqDiff, Nat.reduceBEq, Nat.reduceAdd, Nat.reduceLT, ↓reduceIte, tis, eFeed, fls]
  refine callb_of (fits_toTokenS f.out ho) (by simp -implicitDefEqProofs (maxSteps := 100000) (disch := first | (intros; contradiction) | omega) only [am0, am1, am2, am3, am4, am5, am6, am7, am8, Nat.reduceSub, ↓reduceIte, reduceCtorEq, Nat.reduceEqDiff, Nat.reduceBEq, Nat.reduceAdd, Nat.reduceLT, ↓reduceIte, tis]) (.inl (by simp -implicitDefEqProofs (maxSteps := 100000) (disch := first | (intros; contradiction) | omega) only [am0, am1, am2, am3, am4, am5, am6, am7, am8, Nat.reduceSub, ↓reduceIte, reduceCtorEq, Nat.reduceEqDiff, Nat.reduceBEq, Nat.reduceAdd, Nat.reduceLT, ↓reduceIte, fls])) rfl ?_
  simp -implicitDefEqProofs (maxSteps := 100000) (disch := first | (intros; contradiction) | omega) only [am0, am1, am2, am3, am4, am5, am6, am7, am8, Nat.reduceSub, ↓reduceIte, reduceCtorEq, Nat.reduceEqDiff, Nat.reduceBEq, Nat.reduceAdd, Nat.reduceLT, ↓reduceIte, tis, eFeed, fls]
/-- laws.eqFeed -/
theorem fits_eqFeed (f g : Feed) (hp : f.prog.length ≤ 1048576) (ho : f.out.length ≤ 1048576) (hp2 : g.prog.length ≤ 1048576) (ho2 : g.out.length ≤ 1048576) : Fits prog 15 [eFeed false f, eFeed false g] (.bool (decide (f = g))) [] := by
  refine fits_of_code [4] [] [0, 1, 2, 3, 4, 10, 15, 20, 25, 30, 35, 40, 46, 51] func15 rfl rfl rfl (by rfl) (by show 2 ≤ 52; decide) (by rfl) (by rfl) (by show 0 ≤ 2; decide) (by rfl) (run_of ?_)
  obtain ⟨a1, a2, a3, a4, a5, a6, a7, a8, a9⟩ := f
  obtain ⟨b1, b2, b3, b4, b5, b6, b7, b8, b9⟩ := g
  simp only at hp ho hp2 ho2
  by_cases h1 : a1 = b1
  case neg =>
    (simp -implicitDefEqProofs (maxSteps := 100000) (disch := first | (intros; contradiction) | omega) only [am0, am1, am2, am3, am4, am5, am6, am7, am8, Nat.reduceSub, ↓reduceIte, reduceCtorEq, Nat.reduceEqDiff, Nat.reduceBEq, Nat.reduceAdd, Nat.reduceLT, ↓reduceIte, tis, eFeed]; (repeat' ((first | (refine callb_of (fits_eqInsS a1 b1 hp hp2) (by simp -implicitDefEqProofs (maxSteps := 100000) (disch := first | (intros; contradiction) | omega) only [am0, am1, am2, am3, am4, am5, am6, am7, am8, Nat.reduceSub, ↓reduceIte, reduceCtorEq, Nat.reduceEqDiff, Nat.reduceBEq, Nat.reduceAdd, Nat.reduceLT, ↓reduceIte, tis, eFeed]; (repeat' (first | rfl | constructor))) (by first | exact .inl rfl | (right; simp -implicitDefEqProofs (maxSteps := 100000) (disch := first | (intros; contradiction) | omega) only [am0, am1, am2, am3, am4, am5, am6, am7, am8, Nat.reduceSub, ↓reduceIte, reduceCtorEq, Nat.reduceEqDiff, Nat.reduceBEq, Nat.reduceAdd, Nat.reduceLT, ↓reduceIte, tis, eFeed])) rfl ?_) | (refine call_of (fits_eqInsS a1 b1 hp hp2) (by simp -implicitDefEqProofs (maxSteps := 100000) (disch := first | (intros; contradiction) | omega) only [am0, am1, am2, am3, am4, am5, am6, am7, am8, Nat.reduceSub, ↓reduceIte, reduceCtorEq, Nat.reduceEqDiff, Nat.reduceBEq, Nat.reduceAdd, Nat.reduceLT, ↓reduceIte, tis, eFeed]; (repeat' (first | rfl | constructor))) (by first | exact .inl rfl | (right; simp -implicitDefEqProofs (maxSteps := 100000) (disch := first | (intros; contradiction) | omega) only [am0, am1, am2, am3, am4, am5, am6, am7, am8, Nat.reduceSub, ↓reduceIte, reduceCtorEq, Nat.reduceEqDiff, Nat.reduceBEq, Nat.reduceAdd, Nat.reduceLT, ↓reduceIte, tis, eFeed])) rfl ?_) | (refine cond_beq (fun _ => ?_) (fun _ => ?_)) | (refine cond_bne (fun _ => ?_) (fun _ => ?_)) | (refine cond_dec (fun _ => ?_) (fun _ => ?_)) | (refine cond_of (fun _ => ?_) (fun _ => ?_)) | (refine guard_beq (fun _ => ?_) (fun _ => ?_)) | (refine guard_bne (fun _ => ?_) (fun _ => ?_)) | (refine guard_dec (fun _ => ?_) (fun _ => ?_)) | (refine guard_of (fun _ => ?_) (fun _ => ?_)) | (refine guardD_beq (fun _ => ?_) (fun _ => ?_)) | (refine guardD_bne (fun _ => ?_) (fun _ => ?_)) | (refine guardD_dec (fun _ => ?_) (fun _ => ?_)) | (refine guardD_of (fun _ => ?_) (fun _ => ?_))) <;> (try simp -implicitDefEqProofs (maxSteps := 100000) (disch := first | (intros; contradiction) | omega) only [am0, am1, am2, am3, am4, am5, am6, am7, am8, Nat.reduceSub, ↓reduceIte, reduceCtorEq, Nat.reduceEqDiff, Nat.reduceBEq, Nat.reduceAdd, Nat.reduceLT, ↓reduceIte, tis, eFeed]))))
    all_goals simp_all
  by_cases h2 : a2 = b2
  case neg =>
    have e2 : (a2 == b2) = false := by simpa using h2
    (simp -implicitDefEqProofs (maxSteps := 100000) (disch := first | (intros; contradiction) | omega) only [am0, am1, am2, am3, am4, am5, am6, am7, am8, Nat.reduceSub, ↓reduceIte, reduceCtorEq, Nat.reduceEqDiff, Nat.reduceBEq, Nat.reduceAdd, Nat.reduceLT, ↓reduceIte, tis, eFeed, h1, e2]; (repeat' ((first | (refine callb_of (fits_eqInsS a1 b1 hp hp2) (by simp -implicitDefEqProofs (maxSteps := 100000) (disch := first | (intros; contradiction) | omega) only [am0, am1, am2, am3, am4, am5, am6, am7, am8, Nat.reduceSub, ↓reduceIte, reduceCtorEq, Nat.reduceEqDiff, Nat.reduceBEq, Nat.reduceAdd, Nat.reduceLT, ↓reduceIte, tis, eFeed, h1, e2]; (repeat' (first | rfl | constructor))) (by first | exact .inl rfl | (right; simp -implicitDefEqProofs (maxSteps := 100000) (disch := first | (intros; contradiction) | omega) only [am0, am1, am2, am3, am4, am5, am6, am7, am8, Nat.reduceSub, ↓reduceIte, reduceCtorEq, Nat.reduceEqDiff, Nat.reduceBEq, Nat.reduceAdd, Nat.reduceLT, ↓reduceIte, tis, eFeed, h1, e2])) rfl ?_) | (refine call_of (fits_eqInsS a1 b1 hp hp2) (by simp -implicitDefEqProofs (maxSteps := 100000) (disch := first | (intros; contradiction) | omega) only [am0, am1, am2, am3, am4, am5, am6, am7, am8, Nat.reduceSub, ↓reduceIte, reduceCtorEq, Nat.reduceEqDiff, Nat.reduceBEq, Nat.reduceAdd, Nat.reduceLT, ↓reduceIte, tis, eFeed, h1, e2]; (repeat' (first | rfl | constructor))) (by first | exact .inl rfl | (right; simp -implicitDefEqProofs (maxSteps := 100000) (disch := first | (intros; contradiction) | omega) only [am0, am1, am2, am3, am4, am5, am6, am7, am8, Nat.reduceSub, ↓reduceIte, reduceCtorEq, Nat.reduceEqDiff, Nat.reduceBEq, Nat.reduceAdd, Nat.reduceLT, ↓reduceIte, tis, eFeed, h1, e2])) rfl ?_) | (refine cond_beq (fun _ => ?_) (fun _ => ?_)) | (refine cond_bne (fun _ => ?_) (fun _ => ?_)) | (refine cond_dec (fun _ => ?_) (fun _ => ?_)) | (refine cond_of (fun _ => ?_) (fun _ => ?_)) | (refine guard_beq (fun _ => ?_) (fun _ => ?_)) | (refine guard_bne (fun _ => ?_) (fun _ => ?_)) | (refine guard_dec (fun _ => ?_) (fun _ => ?_)) | (refine guard_of (fun _ => ?_) (fun _ => ?_)) | (refine guardD_beq (fun _ => ?_) (fun _ => ?_)) | (refine guardD_bne (fun _ => ?_) (fun _ => ?_)) | (refine guardD_dec (fun _ => ?_) (fun _ => ?_)) | (refine guardD_of (fun _ => ?_) (fun _ => ?_))) <;> (try simp -implicitDefEqProofs (maxSteps := 100000) (disch := first | (intros; contradiction) | omega) only [am0, am1, am2, am3, am4, am5, am6, am7, am8, Nat.reduceSub, ↓reduceIte, reduceCtorEq, Nat.reduceEqDiff, Nat.reduceBEq, Nat.reduceAdd, Nat.reduceLT, ↓reduceIte, tis, eFeed, h1, e2]))))
    all_goals simp_all
  by_cases h8 : a8 = b8
  case neg =>
    subst h1; subst h2
    (simp -implicitDefEqProofs (maxSteps := 100000) (disch := first | (intros; contradiction) | omega) only [am0, am1, am2, am3, am4, am5, am6, am7, am8, Nat.reduceSub, ↓reduceIte, reduceCtorEq, Nat.reduceEqDiff, Nat.reduceBEq, Nat.reduceAdd, Nat.reduceLT, ↓reduceIte, tis, eFeed, bne]; (repeat' ((first | (refine callb_of (fits_eqInsS a1 a1 hp hp2) (by simp -implicitDefEqProofs (maxSteps := 100000) (disch := first | (intros; contradiction) | omega) only [am0, am1, am2, am3, am4, am5, am6, am7, am8, Nat.reduceSub, ↓reduceIte, reduceCtorEq, Nat.reduceEqDiff, Nat.reduceBEq, Nat.reduceAdd, Nat.reduceLT, ↓reduceIte, tis, eFeed, bne]; (repeat' (first | rfl | constructor))) (by first | exact .inl rfl | (right; simp -implicitDefEqProofs (maxSteps := 100000) (disch := first | (intros; contradiction) | omega) only [am0, am1, am2, am3, am4, am5, am6, am7, am8, Nat.reduceSub, ↓reduceIte, reduceCtorEq, Nat.reduceEqDiff, Nat.reduceBEq, Nat.reduceAdd, Nat.reduceLT, ↓reduceIte, tis, eFeed, bne])) rfl ?_) | (refine call_of (fits_eqInsS a1 a1 hp hp2) (by simp -implicitDefEqProofs (maxSteps := 100000) (disch := first | (intros; contradiction) | omega) only [am0, am1, am2, am3, am4, am5, am6, am7, am8, Nat.reduceSub, ↓reduceIte, reduceCtorEq, Nat.reduceEqDiff, Nat.reduceBEq, Nat.reduceAdd, Nat.reduceLT, ↓reduceIte, tis, eFeed, bne]; (repeat' (first | rfl | constructor))) (by first | exact .inl rfl | (right; simp -implicitDefEqProofs (maxSteps := 100000) (disch := first | (intros; contradiction) | omega) only [am0, am1, am2, am3, am4, am5, am6, am7, am8, Nat.reduceSub, ↓reduceIte, reduceCtorEq, Nat.reduceEqDiff, Nat.reduceBEq, Nat.reduceAdd, Nat.reduceLT, ↓reduceIte, tis, eFeed, bne])) rfl ?_) | (refine callb_of (fits_eqTokenS a8 b8 ho ho2) (by simp -implicitDefEqProofs (maxSteps := 100000) (disch := first | (intros; contradiction) | omega) only [am0, am1, am2, am3, am4, am5, am6, am7, am8, Nat.reduceSub, ↓reduceIte, reduceCtorEq, Nat.reduceEqDiff, Nat.reduceBEq, Nat.reduceAdd, Nat.reduceLT, ↓reduceIte, tis, eFeed, bne]; (repeat' (first | rfl | constructor))) (by first | exact .inl rfl | (right; simp -implicitDefEqProofs (maxSteps := 100000) (disch := first | (intros; contradiction) | omega) only [am0, am1, am2, am3, am4, am5, am6, am7, am8, Nat.reduceSub, ↓reduceIte, reduceCtorEq, Nat.reduceEqDiff, Nat.reduceBEq, Nat.reduceAdd, Nat.reduceLT, ↓reduceIte, tis, eFeed, bne])) rfl ?_) | (refine call_of (fits_eqTokenS a8 b8 ho ho2) (by simp -implicitDefEqProofs (maxSteps := 100000) (disch := first | (intros; contradiction) | omega) only [am0, am1, am2, am3, am4, am5, am6, am7, am8, Nat.reduceSub, ↓reduceIte, reduceCtorEq, Nat.reduceEqDiff, Nat.reduceBEq, Nat.reduceAdd, Nat.reduceLT, ↓reduceIte, tis, eFeed, bne]; (repeat' (first | rfl | constructor))) (by first | exact .inl rfl | (right; simp -implicitDefEqProofs (maxSteps := 100000) (disch := first | (intros; contradiction) | omega) only [am0, am1, am2, am3, am4, am5, am6, am7, am8, Nat.reduceSub, ↓reduceIte, reduceCtorEq, Nat.reduceEqDiff, Nat.reduceBEq, Nat.reduceAdd, Nat.reduceLT, ↓reduceIte, tis, eFeed, bne])) rfl ?_) | (refine cond_beq (fun _ => ?_) (fun _ => ?_)) | (refine cond_bne (fun _ => ?_) (fun _ => ?_)) | (refine cond_dec (fun _ => ?_) (fun _ => ?_)) | (refine cond_of (fun _ => ?_) (fun _ => ?_)) | (refine guard_beq (fun _ => ?_) (fun _ => ?_)) | (refine guard_bne (fun _ => ?_) (fun _ => ?_)) | (refine guard_dec (fun _ => ?_) (fun _ => ?_)) | (refine guard_of (fun _ => ?_) (fun _ => ?_)) | (refine guardD_beq (fun _ => ?_) (fun _ => ?_)) | (refine guardD_bne (fun _ => ?_) (fun _ => ?_)) | (refine guardD_dec (fun _ => ?_) (fun _ => ?_)) | (refine guardD_of (fun _ => ?_) (fun _ => ?_))) <;> (try simp -implicitDefEqProofs (maxSteps := 100000) (disch := first | (intros; contradiction) | omega) only [am0, am1, am2, am3, am4, am5, am6, am7, am8, Nat.reduceSub, ↓reduceIte, reduceCtorEq, Nat.reduceEqDiff, Nat.reduceBEq, Nat.reduceAdd, Nat.reduceLT, ↓reduceIte, tis, eFeed, bne]))))
    all_goals simp_all
  by_cases h9 : a9 = b9
  case neg =>
    have e9 : (a9 == b9) = false := by simpa using h9
    subst h1; subst h2; subst h8
    (simp -implicitDefEqProofs (maxSteps := 100000) (disch := first | (intros; contradiction) | omega) only [am0, am1, am2, am3, am4, am5, am6, am7, am8, Nat.reduceSub, ↓reduceIte, reduceCtorEq, Nat.reduceEqDiff, Nat.reduceBEq, Nat.reduceAdd, Nat.reduceLT, ↓reduceIte, tis, eFeed, bne, e9]; (repeat' ((first | (refine callb_of (fits_eqInsS a1 a1 hp hp2) (by simp -implicitDefEqProofs (maxSteps := 100000) (disch := first | (intros; contradiction) | omega) only [am0, am1, am2, am3, am4, am5, am6, am7, am8, Nat.reduceSub, ↓reduceIte, reduceCtorEq, Nat.reduceEqDiff, Nat.reduceBEq, Nat.reduceAdd, Nat.reduceLT, ↓reduceIte, tis, eFeed, bne, e9]; (repeat' (first | rfl | constructor))) (by first | exact .inl rfl | (right; simp -implicitDefEqProofs (maxSteps := 100000) (disch := first | (intros; contradiction) | omega) only [am0, am1, am2, am3, am4, am5, am6, am7, am8, Nat.reduceSub, ↓reduceIte, reduceCtorEq, Nat.reduceEqDiff, Nat.reduceBEq, Nat.reduceAdd, Nat.reduceLT, ↓reduceIte, tis, eFeed, bne, e9])) rfl ?_) | (refine call_of (fits_eqInsS a1 a1 hp hp2) (by simp -implicitDefEqProofs (maxSteps := 100000) (disch := first | (intros; contradiction) | omega) only [am0, am1, am2, am3, am4, am5, am6, am7, am8, Nat.reduceSub, ↓reduceIte, reduceCtorEq, Nat.reduceEqDiff, Nat.reduceBEq, Nat.reduceAdd, Nat.reduceLT, ↓reduceIte, tis, eFeed, bne, e9]; (repeat' (first | rfl | constructor))) (by first | exact .inl rfl | (right; simp -implicitDefEqProofs (maxSteps := 100000) (disch := first | (intros; contradiction) | omega) only [am0, am1, am2, am3, am4, am5, am6, am7, am8, Nat.reduceSub, ↓reduceIte, reduceCtorEq, Nat.reduceEqDiff, Nat.reduceBEq, Nat.reduceAdd, Nat.reduceLT, ↓reduceIte, tis, eFeed, bne, e9])) rfl ?_) | (refine callb_of (fits_eqTokenS a8 a8 ho ho2) (by simp -implicitDefEqProofs (maxSteps := 100000) (disch := first | (intros; contradiction) | omega) only [am0, am1, am2, am3, am4, am5, am6, am7, am8, Nat.reduceSub, ↓reduceIte, reduceCtorEq, Nat.reduceEqDiff, Nat.reduceBEq, Nat.reduceAdd, Nat.reduceLT, ↓reduceIte, tis, eFeed, bne, e9]; (repeat' (first | rfl | constructor))) (by first | exact .inl rfl | (right; simp -implicitDefEqProofs (maxSteps := 100000) (disch := first | (intros; contradiction) | omega) only [am0, am1, am2, am3, am4, am5, am6, am7, am8, Nat.reduceSub, ↓reduceIte, reduceCtorEq, Nat.reduceEqDiff, Nat.reduceBEq, Nat.reduceAdd, Nat.reduceLT, ↓reduceIte, tis, eFeed, bne, e9])) rfl ?_) | (refine call_of (fits_eqTokenS a8 a8 ho ho2) (by simp -implicitDefEqProofs (maxSteps := 100000) (disch := first | (intros; contradiction) | omega) only [am0, am1, am2, am3, am4, am5, am6, am7, am8, Nat.reduceSub, ↓reduceIte, reduceCtorEq, Nat.reduceEqDiff, Nat.reduceBEq, Nat.reduceAdd, Nat.reduceLT, ↓reduceIte, tis, eFeed, bne, e9]; (repeat' (first | rfl | constructor))) (by first | exact .inl rfl | (right; simp -implicitDefEqProofs (maxSteps := 100000) (disch := first | (intros; contradiction) | omega) only [am0, am1, am2, am3, am4, am5, am6, am7, am8, Nat.reduceSub, ↓reduceIte, reduceCtorEq, Nat.reduceEqDiff, Nat.reduceBEq, Nat.reduceAdd, Nat.reduceLT, ↓reduceIte, tis, eFeed, bne, e9])) rfl ?_) | (refine cond_beq (fun _ => ?_) (fun _ => ?_)) | (refine cond_bne (fun _ => ?_) (fun _ => ?_)) | (refine cond_dec (fun _ => ?_) (fun _ => ?_)) | (refine cond_of (fun _ => ?_) (fun _ => ?_)) | (refine guard_beq (fun _ => ?_) (fun _ => ?_)) | (refine guard_bne (fun _ => ?_) (fun _ => ?_)) | (refine guard_dec (fun _ => ?_) (fun _ => ?_)) | (refine guard_of (fun _ => ?_) (fun _ => ?_)) | (refine guardD_beq (fun _ => ?_) (fun _ => ?_)) | (refine guardD_bne (fun _ => ?_) (fun _ => ?_)) | (refine guardD_dec (fun _ => ?_) (fun _ => ?_)) | (refine guardD_of (fun _ => ?_) (fun _ => ?_))) <;> (try simp -implicitDefEqProofs (maxSteps := 100000) (disch := first | (intros; contradiction) | omega) only [am0, am1, am2, am3, am4, am5, am6, am7, am8, Nat.reduceSub, ↓reduceIte, reduceCtorEq, Nat.reduceEqDiff, Nat.reduceBEq, Nat.reduceAdd, Nat.reduceLT, ↓reduceIte, tis, eFeed, bne, e9]))))
    all_goals simp_all
  subst h1; subst h2; subst h8; subst h9
  (simp -implicitDefEqProofs (maxSteps := 100000) (disch := first | (intros; contradiction) | omega) only [am0, am1, am2, am3, am4, am5, am6, am7, am8, Nat.reduceSub, ↓reduceIte, reduceCtorEq, Nat.reduceEqDiff, Nat.reduceBEq, Nat.reduceAdd, Nat.reduceLT, ↓reduceIte, tis, eFeed, bne]; (repeat' ((first | (refine callb_of (fits_eqInsS a1 a1 hp hp2) (by simp -implicitDefEqProofs (maxSteps := 100000) (disch := first | (intros; contradiction) | omega) only [am0, am1, am2, am3, am4, am5, am6, am7, am8, Nat.reduceSub, ↓reduceIte, reduceCtorEq, Nat.reduceEqDiff, Nat.reduceBEq, Nat.reduceAdd, Nat.reduceLT, ↓reduceIte, tis, eFeed, bne]; (repeat' (first | rfl | constructor))) (by first | exact .inl rfl | (right; simp -implicitDefEqProofs (maxSteps := 100000) (disch := first | (intros; contradiction) | omega) only [am0, am1, am2, am3, am4, am5, am6, am7, am8, Nat.reduceSub, ↓reduceIte, reduceCtorEq, Nat.reduceEqDiff, Nat.reduceBEq, Nat.reduceAdd, Nat.reduceLT, ↓reduceIte, tis, eFeed, bne])) rfl ?_) | (refine call_of (fits_eqInsS a1 a1 hp hp2) (by simp -implicitDefEqProofs (maxSteps := 100000) (disch := first | (intros; contradiction) | omega) only [am0, am1, am2, am3, am4, am5, am6, am7, am8, Nat.reduceSub, ↓reduceIte, reduceCtorEq, Nat.reduceEqDiff, Nat.reduceBEq, Nat.reduceAdd, Nat.reduceLT, ↓reduceIte, tis, eFeed, bne]; (repeat' (first | rfl | constructor))) (by first | exact .inl rfl | (right; simp -implicitDefEqProofs (maxSteps := 100000) (disch := first | (intros; contradiction) | omega) only [am0, am1, am2, am3, am4, am5, am6, am7, am8, Nat.reduceSub, ↓reduceIte, reduceCtorEq, Nat.reduceEqDiff, Nat.reduceBEq, Nat.reduceAdd, Nat.reduceLT, ↓reduceIte, tis, eFeed, bne])) rfl ?_) | (refine callb_of (fits_eqTokenS a8 a8 ho ho2) (by simp -implicitDefEqProofs (maxSteps := 100000) (disch := first | (intros; contradiction) | omega) only [am0, am1, am2, am3, am4, am5, am6, am7, am8, Nat.reduceSub, ↓reduceIte, reduceCtorEq, Nat.reduceEqDiff, Nat.reduceBEq, Nat.reduceAdd, Nat.reduceLT, ↓reduceIte, tis, eFeed, bne]; (repeat' (first | rfl | constructor))) (by first | exact .inl rfl | (right; simp -implicitDefEqProofs (maxSteps := 100000) (disch := first | (intros; contradiction) | omega) only [am0, am1, am2, am3, am4, am5, am6, am7, am8, Nat.reduceSub, ↓reduceIte, reduceCtorEq, Nat.reduceEqDiff, Nat.reduceBEq, Nat.reduceAdd, Nat.reduceLT, ↓reduceIte, tis, eFeed, bne])) rfl ?_) | (refine call_of (fits_eqTokenS a8 a8 ho ho2) (by simp -implicitDefEqProofs (maxSteps := 100000) (disch := first | (intros; contradiction) | omega) only [am0, am1, am2, am3, am4, am5, am6, am7, am8, Nat.reduceSub, ↓reduceIte, reduceCtorEq, Nat.reduceEqDiff, Nat.reduceBEq, Nat.reduceAdd, Nat.reduceLT, ↓reduceIte, tis, eFeed, bne]; (repeat' (first | rfl | constructor))) (by first | exact .inl rfl | (right; simp -implicitDefEqProofs (maxSteps := 100000) (disch := first | (intros; contradiction) | omega) only [am0, am1, am2, am3, am4, am5, am6, am7, am8, Nat.reduceSub, ↓reduceIte, reduceCtorEq, Nat.reduceEqDiff, Nat.reduceBEq, Nat.reduceAdd, Nat.reduceLT, ↓reduceIte, tis, eFeed, bne])) rfl ?_) | (refine cond_beq (fun _ => ?_) (fun _ => ?_)) | (refine cond_bne (fun _ => ?_) (fun _ => ?_)) | (refine cond_dec (fun _ => ?_) (fun _ => ?_)) | (refine cond_of (fun _ => ?_) (fun _ => ?_)) | (refine guard_beq (fun _ => ?_) (fun _ => ?_)) | (refine guard_bne (fun _ => ?_) (fun _ => ?_)) | (refine guard_dec (fun _ => ?_) (fun _ => ?_)) | (refine guard_of (fun _ => ?_) (fun _ => ?_)) | (refine guardD_beq (fun _ => ?_) (fun _ => ?_)) | (refine guardD_bne (fun _ => ?_) (fun _ => ?_)) | (refine guardD_dec (fun _ => ?_) (fun _ => ?_)) | (refine guardD_of (fun _ => ?_) (fun _ => ?_))) <;> (try simp -implicitDefEqProofs (maxSteps := 100000) (disch := first | (intros; contradiction) | omega) only [am0, am1, am2, am3, am4, am5, am6, am7, am8, Nat.reduceSub, ↓reduceIte, reduceCtorEq, Nat.reduceEqDiff, Nat.reduceBEq, Nat.reduceAdd, Nat.reduceLT, ↓reduceIte, tis, eFeed, bne]))))
  all_goals simp_all
/-- impl.in -/
theorem fits_in (n l h : Int) : Fits prog 45 [.int .i64 n, .int .i64 l, .int .i64 h] (.bool (decide (l ≤ n ∧ n ≤ h))) [] := by
  refine fits_of_code [6] [] [0, 1, 2, 6] func45 rfl rfl rfl (by rfl) (by show 3 ≤ 15; decide) (by rfl) (by rfl) (by show 0 ≤ 3; decide) (by rfl) (run_of ?_)
  (simp -implicitDefEqProofs (maxSteps := 100000) (disch := first | (intros; contradiction) | omega) only [am0, am1, am2, am3, am4, am5, am6, am7, am8, Nat.reduceSub, ↓reduceIte, reduceCtorEq, Nat.reduceEqDiff, Nat.reduceBEq, Nat.reduceAdd, Nat.reduceLT, ↓reduceIte, tis]; (repeat' ((first | (refine cond_beq (fun _ => ?_) (fun _ => ?_)) | (refine cond_bne (fun _ => ?_) (fun _ => ?_)) | (refine cond_dec (fun _ => ?_) (fun _ => ?_)) | (refine cond_of (fun _ => ?_) (fun _ => ?_)) | (refine guard_beq (fun _ => ?_) (fun _ => ?_)) | (refine guard_bne (fun _ => ?_) (fun _ => ?_)) | (refine guard_dec (fun _ => ?_) (fun _ => ?_)) | (refine guard_of (fun _ => ?_) (fun _ => ?_)) | (refine guardD_beq (fun _ => ?_) (fun _ => ?_)) | (refine guardD_bne (fun _ => ?_) (fun _ => ?_)) | (refine guardD_dec (fun _ => ?_) (fun _ => ?_)) | (refine guardD_of (fun _ => ?_) (fun _ => ?_))) <;> (try simp -implicitDefEqProofs (maxSteps := 100000) (disch := first | (intros; contradiction) | omega) only [am0, am1, am2, am3, am4, am5, am6, am7, am8, Nat.reduceSub, ↓reduceIte, reduceCtorEq, Nat.reduceEqDiff, Nat.reduceBEq, Nat.reduceAdd, Nat.reduceLT, ↓reduceIte, tis]))))
  all_goals (simp_all)
/-- impl.door -/
theorem fits_door (p : List Ins) (i : Int) (hp : p.length ≤ 1099511627776) : Fits prog 46 [.sl false 4 (p.map eIns), .int .i64 i] (.bool (doorI p i)) [] := by
  refine fits_of_code [4] [] [0, 1, 4, 10] func46 rfl rfl rfl (by rfl) (by show 2 ≤ 41; decide) (by rfl) (by rfl) (by show 0 ≤ 2; decide) (by rfl) (run_of ?_)
  simp -implicitDefEqProofs (maxSteps := 100000) (disch := first | (intros; contradiction) | omega) only [am0, am1, am2, am3, am4, am5, am6, am7, am8, Nat.reduceSub, ↓reduceIte, reduceCtorEq, Nat.reduceEqDiff, Nat.reduceBEq, Nat.reduceAdd, Nat.reduceLT, ↓reduceIte, tis]
  refine callb_of (fits_in i 0 (p.length - 1)) (by simp -implicitDefEqProofs (maxSteps := 100000) (disch := first | (intros; contradiction) | omega) only [am0, am1, am2, am3, am4, am5, am6, am7, am8, Nat.reduceSub, ↓reduceIte, reduceCtorEq, Nat.reduceEqDiff, Nat.reduceBEq, Nat.reduceAdd, Nat.reduceLT, ↓reduceIte, tis]) (.inl rfl) rfl ?_
  by_cases hi : 0 ≤ i ∧ i < p.length
  case neg =>
    have h2 : ¬ (0 ≤ i ∧ i ≤ (p.length : Int) - 1) := by omega
    simp -implicitDefEqProofs (maxSteps := 100000) (disch := first | (intros; contradiction) | omega) only [am0, am1, am2, am3, am4, am5, am6, am7, am8, Nat.reduceSub, ↓reduceIte, reduceCtorEq, Nat.reduceEqDiff, Nat.reduceBEq, Nat.reduceAdd, Nat.reduceLT, ↓reduceIte, tis, h2, doorI_out hi]
  obtain ⟨j, rfl⟩ : ∃ j : Nat, i = j := ⟨i.toNat, by omega⟩
  have hj : j < p.length := by omega
  have h2 : (0 ≤ (j : Int) ∧ (j : Int) ≤ (p.length : Int) - 1) := by omega
  (simp -implicitDefEqProofs (maxSteps := 100000) (disch := first | (intros; contradiction) | omega) only [am0, am1, am2, am3, am4, am5, am6, am7, am8, Nat.reduceSub, ↓reduceIte, reduceCtorEq, Nat.reduceEqDiff, Nat.reduceBEq, Nat.reduceAdd, Nat.reduceLT, ↓reduceIte, tis, h2, eIns]; (repeat' ((first | (refine cond_beq (fun _ => ?_) (fun _ => ?_)) | (refine cond_bne (fun _ => ?_) (fun _ => ?_)) | (refine cond_dec (fun _ => ?_) (fun _ => ?_)) | (refine cond_of (fun _ => ?_) (fun _ => ?_)) | (refine guard_beq (fun _ => ?_) (fun _ => ?_)) | (refine guard_bne (fun _ => ?_) (fun _ => ?_)) | (refine guard_dec (fun _ => ?_) (fun _ => ?_)) | (refine guard_of (fun _ => ?_) (fun _ => ?_)) | (refine guardD_beq (fun _ => ?_) (fun _ => ?_)) | (refine guardD_bne (fun _ => ?_) (fun _ => ?_)) | (refine guardD_dec (fun _ => ?_) (fun _ => ?_)) | (refine guardD_of (fun _ => ?_) (fun _ => ?_))) <;> (try simp -implicitDefEqProofs (maxSteps := 100000) (disch := first | (intros; contradiction) | omega) only [am0, am1, am2, am3, am4, am5, am6, am7, am8, Nat.reduceSub, ↓reduceIte, reduceCtorEq, Nat.reduceEqDiff, Nat.reduceBEq, Nat.reduceAdd, Nat.reduceLT, ↓reduceIte, tis, h2, eIns]))))
  all_goals (have hq : j + 1 < p.length ∨ ¬ j + 1 < p.length := by omega)
  all_goals (rcases hq with hq | hq <;> first | omega | (simp_all [doorI, doorB_at hj]))

/-- impl.insOk -/
theorem fits_insOk (p : List Ins) (i : Nat) (hp : p.length ≤ 1099511627776) (hi : i < p.length) : Fits prog 75 [.sl false 4 (p.map eIns), .int .i64 i] (.bool (insB p i)) [] := by
  refine fits_of_code [4] [] [0, 1, 4, 5, 11, 12, 32, 48] func75 rfl rfl rfl (by rfl) (by show 2 ≤ 71; decide) (by rfl) (by rfl) (by show 0 ≤ 2; decide) (by rfl) (run_of ?_)
  (simp -implicitDefEqProofs (maxSteps := 100000) (disch := first | (intros; contradiction) | omega) only [am0, am1, am2, am3, am4, am5, am6, am7, am8, Nat.reduceSub, ↓reduceIte, reduceCtorEq, Nat.reduceEqDiff, Nat.reduceBEq, Nat.reduceAdd, Nat.reduceLT, ↓reduceIte, tis, eIns]; (repeat' ((first | (refine callb_of (fits_in _ _ _) (by simp -implicitDefEqProofs (maxSteps := 100000) (disch := first | (intros; contradiction) | omega) only [am0, am1, am2, am3, am4, am5, am6, am7, am8, Nat.reduceSub, ↓reduceIte, reduceCtorEq, Nat.reduceEqDiff, Nat.reduceBEq, Nat.reduceAdd, Nat.reduceLT, ↓reduceIte, tis, eIns]; (repeat' (first | rfl | constructor))) (by first | exact .inl rfl | (right; simp -implicitDefEqProofs (maxSteps := 100000) (disch := first | (intros; contradiction) | omega) only [am0, am1, am2, am3, am4, am5, am6, am7, am8, Nat.reduceSub, ↓reduceIte, reduceCtorEq, Nat.reduceEqDiff, Nat.reduceBEq, Nat.reduceAdd, Nat.reduceLT, ↓reduceIte, tis, eIns])) rfl ?_) | (refine call_of (fits_in _ _ _) (by simp -implicitDefEqProofs (maxSteps := 100000) (disch := first | (intros; contradiction) | omega) only [am0, am1, am2, am3, am4, am5, am6, am7, am8, Nat.reduceSub, ↓reduceIte, reduceCtorEq, Nat.reduceEqDiff, Nat.reduceBEq, Nat.reduceAdd, Nat.reduceLT, ↓reduceIte, tis, eIns]; (repeat' (first | rfl | constructor))) (by first | exact .inl rfl | (right; simp -implicitDefEqProofs (maxSteps := 100000) (disch := first | (intros; contradiction) | omega) only [am0, am1, am2, am3, am4, am5, am6, am7, am8, Nat.reduceSub, ↓reduceIte, reduceCtorEq, Nat.reduceEqDiff, Nat.reduceBEq, Nat.reduceAdd, Nat.reduceLT, ↓reduceIte, tis, eIns])) rfl ?_) | (refine callb_of (fits_door p _ hp) (by simp -implicitDefEqProofs (maxSteps := 100000) (disch := first | (intros; contradiction) | omega) only [am0, am1, am2, am3, am4, am5, am6, am7, am8, Nat.reduceSub, ↓reduceIte, reduceCtorEq, Nat.reduceEqDiff, Nat.reduceBEq, Nat.reduceAdd, Nat.reduceLT, ↓reduceIte, tis, eIns]; (repeat' (first | rfl | constructor))) (by first | exact .inl rfl | (right; simp -implicitDefEqProofs (maxSteps := 100000) (disch := first | (intros; contradiction) | omega) only [am0, am1, am2, am3, am4, am5, am6, am7, am8, Nat.reduceSub, ↓reduceIte, reduceCtorEq, Nat.reduceEqDiff, Nat.reduceBEq, Nat.reduceAdd, Nat.reduceLT, ↓reduceIte, tis, eIns])) rfl ?_) | (refine call_of (fits_door p _ hp) (by simp -implicitDefEqProofs (maxSteps := 100000) (disch := first | (intros; contradiction) | omega) only [am0, am1, am2, am3, am4, am5, am6, am7, am8, Nat.reduceSub, ↓reduceIte, reduceCtorEq, Nat.reduceEqDiff, Nat.reduceBEq, Nat.reduceAdd, Nat.reduceLT, ↓reduceIte, tis, eIns]; (repeat' (first | rfl | constructor))) (by first | exact .inl rfl | (right; simp -implicitDefEqProofs (maxSteps := 100000) (disch := first | (intros; contradiction) | omega) only [am0, am1, am2, am3, am4, am5, am6, am7, am8, Nat.reduceSub, ↓reduceIte, reduceCtorEq, Nat.reduceEqDiff, Nat.reduceBEq, Nat.reduceAdd, Nat.reduceLT, ↓reduceIte, tis, eIns])) rfl ?_) | (refine cond_beq (fun _ => ?_) (fun _ => ?_)) | (refine cond_bne (fun _ => ?_) (fun _ => ?_)) | (refine cond_dec (fun _ => ?_) (fun _ => ?_)) | (refine cond_of (fun _ => ?_) (fun _ => ?_)) | (refine guard_beq (fun _ => ?_) (fun _ => ?_)) | (refine guard_bne (fun _ => ?_) (fun _ => ?_)) | (refine guard_dec (fun _ => ?_) (fun _ => ?_)) | (refine guard_of (fun _ => ?_) (fun _ => ?_)) | (refine guardD_beq (fun _ => ?_) (fun _ => ?_)) | (refine guardD_bne (fun _ => ?_) (fun _ => ?_)) | (refine guardD_dec (fun _ => ?_) (fun _ => ?_)) | (refine guardD_of (fun _ => ?_) (fun _ => ?_))) <;> (try simp -implicitDefEqProofs (maxSteps := 100000) (disch := first | (intros; contradiction) | omega) only [am0, am1, am2, am3, am4, am5, am6, am7, am8, Nat.reduceSub, ↓reduceIte, reduceCtorEq, Nat.reduceEqDiff, Nat.reduceBEq, Nat.reduceAdd, Nat.reduceLT, ↓reduceIte, tis, eIns]))))
  all_goals (simp_all [insB_at hi])
  all_goals first | (intros; omega) | grind [doorI]
/-- impl.ProgOk -/
theorem fits_progOk (p : List Ins) (hp : p.length ≤ 1099511627776) : Fits prog 44 [.sl false 4 (p.map eIns)] (.bool (progB p)) [] := by
  refine fits_of_code [2] [] [0, 2, 3, 22, 24, 25, 26, 31] func44 rfl rfl rfl (by rfl) (by show 1 ≤ 33; decide) (by rfl) (by rfl) (by show 0 ≤ 1; decide) (by rfl) (run_of ?_)
  simp -implicitDefEqProofs (maxSteps := 100000) (disch := first | (intros; contradiction) | omega) only [am0, am1, am2, am3, am4, am5, am6, am7, am8, Nat.reduceSub, ↓reduceIte, reduceCtorEq, Nat.reduceEqDiff, Nat.reduceBEq, Nat.reduceAdd, Nat.reduceLT, ↓reduceIte, tis]
  refine callb_of (fits_in p.length 1 1500) (by simp -implicitDefEqProofs (maxSteps := 100000) (disch := first | (intros; contradiction) | omega) only [am0, am1, am2, am3, am4, am5, am6, am7, am8, Nat.reduceSub, ↓reduceIte, reduceCtorEq, Nat.reduceEqDiff, Nat.reduceBEq, Nat.reduceAdd, Nat.reduceLT, ↓reduceIte, tis]) (.inl rfl) rfl ?_
  by_cases h1 : 1 ≤ (p.length : Int) ∧ (p.length : Int) ≤ 1500
  case neg => simp -implicitDefEqProofs (maxSteps := 100000) (disch := first | (intros; contradiction) | omega) only [am0, am1, am2, am3, am4, am5, am6, am7, am8, Nat.reduceSub, ↓reduceIte, reduceCtorEq, Nat.reduceEqDiff, Nat.reduceBEq, Nat.reduceAdd, Nat.reduceLT, ↓reduceIte, tis, h1, progB_false1 h1]
  obtain ⟨h1a, h1b⟩ := h1
  simp -implicitDefEqProofs (maxSteps := 100000) (disch := first | (intros; contradiction) | omega) only [am0, am1, am2, am3, am4, am5, am6, am7, am8, Nat.reduceSub, ↓reduceIte, reduceCtorEq, Nat.reduceEqDiff, Nat.reduceBEq, Nat.reduceAdd, Nat.reduceLT, ↓reduceIte, tis]
  refine callb_of (fits_door p 0 hp) (by simp -implicitDefEqProofs (maxSteps := 100000) (disch := first | (intros; contradiction) | omega) only [am0, am1, am2, am3, am4, am5, am6, am7, am8, Nat.reduceSub, ↓reduceIte, reduceCtorEq, Nat.reduceEqDiff, Nat.reduceBEq, Nat.reduceAdd, Nat.reduceLT, ↓reduceIte, tis]) (.inl rfl) rfl ?_
  have hl : 0 < p.length := by omega
  cases h2 : doorB p 0 with
  | false => simp -implicitDefEqProofs (maxSteps := 100000) (disch := first | (intros; contradiction) | omega) only [am0, am1, am2, am3, am4, am5, am6, am7, am8, Nat.reduceSub, ↓reduceIte, reduceCtorEq, Nat.reduceEqDiff, Nat.reduceBEq, Nat.reduceAdd, Nat.reduceLT, ↓reduceIte, tis, doorI_zero, h2, progB_false2 h2]
  | true =>
    cases h3 : lastB p with
    | false =>
      have h3' := h3
      rw [lastB_at hl] at h3'
      have h3' : p[p.length - 1].op ≠ 4 := by simpa using h3'
      have e : ((p.length : Int) - 1).toNat = p.length - 1 := by omega
      simp -implicitDefEqProofs (maxSteps := 100000) (disch := first | (intros; contradiction) | omega) only [am0, am1, am2, am3, am4, am5, am6, am7, am8, Nat.reduceSub, ↓reduceIte, reduceCtorEq, Nat.reduceEqDiff, Nat.reduceBEq, Nat.reduceAdd, Nat.reduceLT, ↓reduceIte, tis, doorI_zero, h2, e, eIns, progB_false3 h3]
    | true =>
      have h3' := h3
      rw [lastB_at hl] at h3'
      have h3' : p[p.length - 1].op = 4 := by simpa using h3'
      have e : ((p.length : Int) - 1).toNat = p.length - 1 := by omega
      simp -implicitDefEqProofs (maxSteps := 100000) (disch := first | (intros; contradiction) | omega) only [am0, am1, am2, am3, am4, am5, am6, am7, am8, Nat.reduceSub, ↓reduceIte, reduceCtorEq, Nat.reduceEqDiff, Nat.reduceBEq, Nat.reduceAdd, Nat.reduceLT, ↓reduceIte, tis, doorI_zero, h2, e, eIns]
      refine run_loop (α := Nat) (fun i => i ≤ p.length ∧ ∀ j, j < i → insB p j = true) (fun i => [(0, .sl false 4 (p.map eIns)), (24, .int .i64 p.length), (25, .int .i64 i)]) (fun i => p.length - i) 0 ⟨Nat.zero_le _, by simp⟩ ?_ ?_
      · simp -implicitDefEqProofs (maxSteps := 100000) (disch := first | (intros; contradiction) | omega) only [am0, am1, am2, am3, am4, am5, am6, am7, am8, Nat.reduceSub, ↓reduceIte, reduceCtorEq, Nat.reduceEqDiff, Nat.reduceBEq, Nat.reduceAdd, Nat.reduceLT, ↓reduceIte, tis]
      · rintro i ⟨hi', hb⟩
        by_cases hi : i < p.length
        · simp -implicitDefEqProofs (maxSteps := 100000) (disch := first | (intros; contradiction) | omega) only [am0, am1, am2, am3, am4, am5, am6, am7, am8, Nat.reduceSub, ↓reduceIte, reduceCtorEq, Nat.reduceEqDiff, Nat.reduceBEq, Nat.reduceAdd, Nat.reduceLT, ↓reduceIte, tis]
          refine callb_of (fits_insOk p i hp hi) (by simp -implicitDefEqProofs (maxSteps := 100000) (disch := first | (intros; contradiction) | omega) only [am0, am1, am2, am3, am4, am5, am6, am7, am8, Nat.reduceSub, ↓reduceIte, reduceCtorEq, Nat.reduceEqDiff, Nat.reduceBEq, Nat.reduceAdd, Nat.reduceLT, ↓reduceIte, tis]) (.inl rfl) rfl ?_
          cases h5 : insB p i with
          | false => simp -implicitDefEqProofs (maxSteps := 100000) (disch := first | (intros; contradiction) | omega) only [am0, am1, am2, am3, am4, am5, am6, am7, am8, Nat.reduceSub, ↓reduceIte, reduceCtorEq, Nat.reduceEqDiff, Nat.reduceBEq, Nat.reduceAdd, Nat.reduceLT, ↓reduceIte, tis, h5, progB_false4 hi h5]
          | true =>
            simp -implicitDefEqProofs (maxSteps := 100000) (disch := first | (intros; contradiction) | omega) only [am0, am1, am2, am3, am4, am5, am6, am7, am8, Nat.reduceSub, ↓reduceIte, reduceCtorEq, Nat.reduceEqDiff, Nat.reduceBEq, Nat.reduceAdd, Nat.reduceLT, ↓reduceIte, tis, h5]
            refine round_normal (i + 1) ⟨by omega, ?_⟩ ?_ (by show p.length - (i + 1) < p.length - i; omega)
            · intro j hj
              by_cases hji : j < i
              · exact hb j hji
              · obtain rfl : j = i := by omega
                exact h5
            · simp -implicitDefEqProofs (maxSteps := 100000) (disch := first | (intros; contradiction) | omega) only [am0, am1, am2, am3, am4, am5, am6, am7, am8, Nat.reduceSub, ↓reduceIte, reduceCtorEq, Nat.reduceEqDiff, Nat.reduceBEq, Nat.reduceAdd, Nat.reduceLT, ↓reduceIte, tis]
        · obtain rfl : i = p.length := by omega
          simp -implicitDefEqProofs (maxSteps := 100000) (disch := first | (intros; contradiction) | omega) only [am0, am1, am2, am3, am4, am5, am6, am7, am8, Nat.reduceSub, ↓reduceIte, reduceCtorEq, Nat.reduceEqDiff, Nat.reduceBEq, Nat.reduceAdd, Nat.reduceLT, ↓reduceIte, tis, progB_true ⟨h1a, h1b⟩ h2 h3 hb]
/-- spec.l10Door -/
theorem fits_sDoor (p : List Ins) (j : Nat) (hp : p.length ≤ 1099511627776) (hj : j < p.length) : Fits prog 43 [.sl false 4 (p.map eIns), .int .i64 j] (.bool (doorB p j)) [] := by
  refine fits_of_code [4] [] [0, 1, 4, 10] func43 rfl rfl rfl (by rfl) (by show 2 ≤ 31; decide) (by rfl) (by rfl) (by show 0 ≤ 2; decide) (by rfl) (run_of ?_)
  (simp -implicitDefEqProofs (maxSteps := 100000) (disch := first | (intros; contradiction) | omega) only [am0, am1, am2, am3, am4, am5, am6, am7, am8, Nat.reduceSub, ↓reduceIte, reduceCtorEq, Nat.reduceEqDiff, Nat.reduceBEq, Nat.reduceAdd, Nat.reduceLT, ↓reduceIte, tis, eIns]; (repeat' ((first | (refine cond_beq (fun _ => ?_) (fun _ => ?_)) | (refine cond_bne (fun _ => ?_) (fun _ => ?_)) | (refine cond_dec (fun _ => ?_) (fun _ => ?_)) | (refine cond_of (fun _ => ?_) (fun _ => ?_)) | (refine guard_beq (fun _ => ?_) (fun _ => ?_)) | (refine guard_bne (fun _ => ?_) (fun _ => ?_)) | (refine guard_dec (fun _ => ?_) (fun _ => ?_)) | (refine guard_of (fun _ => ?_) (fun _ => ?_)) | (refine guardD_beq (fun _ => ?_) (fun _ => ?_)) | (refine guardD_bne (fun _ => ?_) (fun _ => ?_)) | (refine guardD_dec (fun _ => ?_) (fun _ => ?_)) | (refine guardD_of (fun _ => ?_) (fun _ => ?_))) <;> (try simp -implicitDefEqProofs (maxSteps := 100000) (disch := first | (intros; contradiction) | omega) only [am0, am1, am2, am3, am4, am5, am6, am7, am8, Nat.reduceSub, ↓reduceIte, reduceCtorEq, Nat.reduceEqDiff, Nat.reduceBEq, Nat.reduceAdd, Nat.reduceLT, ↓reduceIte, tis, eIns]))))
  all_goals (have hq : j + 1 < p.length ∨ ¬ j + 1 < p.length := by omega)
  all_goals (rcases hq with hq | hq <;> first | omega | (simp_all [doorB_at hj]))
/-- An instruction by itself. -/
def insS (x : Ins) (n : Int) : Bool := (x.op == 1 && decide (0 ≤ x.a ∧ x.a ≤ 4 ∧ x.b = 0 ∧ x.to = 0)) || ((x.op == 2 || x.op == 4) && decide (x.a = 0 ∧ x.b = 0 ∧ x.to = 0)) ||
      (x.op == 3 && decide (0 ≤ x.a ∧ x.a ≤ x.b ∧ x.b ≤ 255 ∧ 0 ≤ x.to ∧ x.to < n))
/-- spec.l10Ins -/
theorem fits_sIns (x : Ins) (n : Int) : Fits prog 74 [eIns x, .int .i64 n] (.bool (insS x n)) [] := by
  refine fits_of_code [4] [] [0, 1, 2, 4, 6, 7, 27, 43] func74 rfl rfl rfl (by rfl) (by show 2 ≤ 71; decide) (by rfl) (by rfl) (by show 0 ≤ 2; decide) (by rfl) (run_of ?_)
  (simp -implicitDefEqProofs (maxSteps := 100000) (disch := first | (intros; contradiction) | omega) only [am0, am1, am2, am3, am4, am5, am6, am7, am8, Nat.reduceSub, ↓reduceIte, reduceCtorEq, Nat.reduceEqDiff, Nat.reduceBEq, Nat.reduceAdd, Nat.reduceLT, ↓reduceIte, tis, eIns]; (repeat' ((first | (refine cond_beq (fun _ => ?_) (fun _ => ?_)) | (refine cond_bne (fun _ => ?_) (fun _ => ?_)) | (refine cond_dec (fun _ => ?_) (fun _ => ?_)) | (refine cond_of (fun _ => ?_) (fun _ => ?_)) | (refine guard_beq (fun _ => ?_) (fun _ => ?_)) | (refine guard_bne (fun _ => ?_) (fun _ => ?_)) | (refine guard_dec (fun _ => ?_) (fun _ => ?_)) | (refine guard_of (fun _ => ?_) (fun _ => ?_)) | (refine guardD_beq (fun _ => ?_) (fun _ => ?_)) | (refine guardD_bne (fun _ => ?_) (fun _ => ?_)) | (refine guardD_dec (fun _ => ?_) (fun _ => ?_)) | (refine guardD_of (fun _ => ?_) (fun _ => ?_))) <;> (try simp -implicitDefEqProofs (maxSteps := 100000) (disch := first | (intros; contradiction) | omega) only [am0, am1, am2, am3, am4, am5, am6, am7, am8, Nat.reduceSub, ↓reduceIte, reduceCtorEq, Nat.reduceEqDiff, Nat.reduceBEq, Nat.reduceAdd, Nat.reduceLT, ↓reduceIte, tis, eIns]))))
  all_goals (simp_all [insS])
  all_goals first | (intros; omega) | grind
theorem insB_S {p : List Ins} {i : Nat} (h : i < p.length) : insB p i = (insS p[i] p.length && ((!(p[i].op == 3) || doorI p p[i].to) && (!(p[i].op == 1) || doorB p i))) := by
  rw [insB_at h, insS]
  generalize p[i] = x
  have hd : doorI p x.to = true → 0 ≤ x.to ∧ x.to < p.length := by
    intro hh
    refine Classical.byContradiction fun hc => ?_
    rw [doorI_out hc] at hh; cases hh
  rw [Bool.eq_iff_iff]
  simp only [Bool.and_eq_true, Bool.or_eq_true, beq_iff_eq, decide_eq_true_eq, Bool.not_eq_true', beq_eq_false_iff_ne]
  constructor
  · rintro ((⟨h1, h2, h3⟩ | ⟨h1, h2⟩) | ⟨h1, h2, h3⟩)
    · exact ⟨.inl (.inl ⟨h1, h2⟩), .inl (by omega), .inr h3⟩
    · exact ⟨.inl (.inr ⟨h1, h2⟩), .inl (by omega), .inl (by omega)⟩
    · have := hd h3
      exact ⟨.inr ⟨h1, by omega⟩, .inr h3, .inl (by omega)⟩
  · rintro ⟨(⟨h1, h2⟩ | ⟨h1, h2⟩) | ⟨h1, h2⟩, h3, h4⟩
    · exact .inl (.inl ⟨h1, h2, h4.resolve_left (by omega)⟩)
    · exact .inl (.inr ⟨h1, h2⟩)
    · exact .inr ⟨h1, by omega, h3.resolve_left (by omega)⟩
/-- spec.ProgOk -/
theorem fits_sProgOk (p : List Ins) (hp : p.length ≤ 1099511627776) : Fits prog 42 [.sl false 4 (p.map eIns)] (.bool (progB p)) [] := by
  refine fits_of_code [2] [] [0, 2, 3, 26, 30, 72] func42 rfl rfl rfl (by rfl) (by show 1 ≤ 73; decide) (by rfl) (by rfl) (by show 0 ≤ 1; decide) (by rfl) (run_of ?_)
  by_cases h1 : 1 ≤ (p.length : Int) ∧ (p.length : Int) ≤ 1500
  case neg =>
    by_cases h2 : (p.length : Int) < 1
    · simp -implicitDefEqProofs (maxSteps := 100000) (disch := first | (intros; contradiction) | omega) only [am0, am1, am2, am3, am4, am5, am6, am7, am8, Nat.reduceSub, ↓reduceIte, reduceCtorEq, Nat.reduceEqDiff, Nat.reduceBEq, Nat.reduceAdd, Nat.reduceLT, ↓reduceIte, tis, progB_false1 h1]
    · simp -implicitDefEqProofs (maxSteps := 100000) (disch := first | (intros; contradiction) | omega) only [am0, am1, am2, am3, am4, am5, am6, am7, am8, Nat.reduceSub, ↓reduceIte, reduceCtorEq, Nat.reduceEqDiff, Nat.reduceBEq, Nat.reduceAdd, Nat.reduceLT, ↓reduceIte, tis, progB_false1 h1]
  obtain ⟨h1a, h1b⟩ := h1
  have hl : 0 < p.length := by omega
  simp -implicitDefEqProofs (maxSteps := 100000) (disch := first | (intros; contradiction) | omega) only [am0, am1, am2, am3, am4, am5, am6, am7, am8, Nat.reduceSub, ↓reduceIte, reduceCtorEq, Nat.reduceEqDiff, Nat.reduceBEq, Nat.reduceAdd, Nat.reduceLT, ↓reduceIte, tis]
  refine callb_of (fits_sDoor p 0 hp hl) (by simp -implicitDefEqProofs (maxSteps := 100000) (disch := first | (intros; contradiction) | omega) only [am0, am1, am2, am3, am4, am5, am6, am7, am8, Nat.reduceSub, ↓reduceIte, reduceCtorEq, Nat.reduceEqDiff, Nat.reduceBEq, Nat.reduceAdd, Nat.reduceLT, ↓reduceIte, tis]) (.inl rfl) rfl ?_
  cases h2 : doorB p 0 with
  | false => simp -implicitDefEqProofs (maxSteps := 100000) (disch := first | (intros; contradiction) | omega) only [am0, am1, am2, am3, am4, am5, am6, am7, am8, Nat.reduceSub, ↓reduceIte, reduceCtorEq, Nat.reduceEqDiff, Nat.reduceBEq, Nat.reduceAdd, Nat.reduceLT, ↓reduceIte, tis, h2, progB_false2 h2]
  | true =>
    have e : ((p.length : Int) - 1).toNat = p.length - 1 := by omega
    cases h3 : lastB p with
    | false =>
      have h3' := h3
      rw [lastB_at hl] at h3'
      have h3' : p[p.length - 1].op ≠ 4 := by simpa using h3'
      simp -implicitDefEqProofs (maxSteps := 100000) (disch := first | (intros; contradiction) | omega) only [am0, am1, am2, am3, am4, am5, am6, am7, am8, Nat.reduceSub, ↓reduceIte, reduceCtorEq, Nat.reduceEqDiff, Nat.reduceBEq, Nat.reduceAdd, Nat.reduceLT, ↓reduceIte, tis, h2, e, eIns, progB_false3 h3]
    | true =>
      have h3' := h3
      rw [lastB_at hl] at h3'
      have h3' : p[p.length - 1].op = 4 := by simpa using h3'
      simp -implicitDefEqProofs (maxSteps := 100000) (disch := first | (intros; contradiction) | omega) only [am0, am1, am2, am3, am4, am5, am6, am7, am8, Nat.reduceSub, ↓reduceIte, reduceCtorEq, Nat.reduceEqDiff, Nat.reduceBEq, Nat.reduceAdd, Nat.reduceLT, ↓reduceIte, tis, h2, e, eIns]
      refine run_loop (α := Nat) (fun i => i ≤ p.length ∧ ∀ j, j < i → insB p j = true) (fun i => [(0, .sl false 4 (p.map eIns)), (3, .int .i64 i)]) (fun i => p.length - i) 0 ⟨Nat.zero_le _, by simp⟩ ?_ ?_
      · simp -implicitDefEqProofs (maxSteps := 100000) (disch := first | (intros; contradiction) | omega) only [am0, am1, am2, am3, am4, am5, am6, am7, am8, Nat.reduceSub, ↓reduceIte, reduceCtorEq, Nat.reduceEqDiff, Nat.reduceBEq, Nat.reduceAdd, Nat.reduceLT, ↓reduceIte, tis]
      · rintro i ⟨hi', hb⟩
        by_cases hi : i < p.length
        · have good : insB p i = true → Le [(0, AV.sl false 4 (p.map eIns)), (3, AV.int .i64 ((i : Int) + 1))] [(0, AV.sl false 4 (p.map eIns)), (3, AV.int .i64 ((i + 1 : Nat) : Int))] ∧ ∀ j, j < i + 1 → insB p j = true := by
            intro h5
            refine ⟨by simp -implicitDefEqProofs (maxSteps := 100000) (disch := first | (intros; contradiction) | omega) only [am0, am1, am2, am3, am4, am5, am6, am7, am8, Nat.reduceSub, ↓reduceIte, reduceCtorEq, Nat.reduceEqDiff, Nat.reduceBEq, Nat.reduceAdd, Nat.reduceLT, ↓reduceIte, tis], ?_⟩
            intro j hj
            by_cases hji : j < i
            · exact hb j hji
            · obtain rfl : j = i := by omega
              exact h5
          have e5 := insB_S hi
          simp -implicitDefEqProofs (maxSteps := 100000) (disch := first | (intros; contradiction) | omega) only [am0, am1, am2, am3, am4, am5, am6, am7, am8, Nat.reduceSub, ↓reduceIte, reduceCtorEq, Nat.reduceEqDiff, Nat.reduceBEq, Nat.reduceAdd, Nat.reduceLT, ↓reduceIte, tis, eIns]
          refine callb_of (fits_sIns p[i] p.length) (by simp -implicitDefEqProofs (maxSteps := 100000) (disch := first | (intros; contradiction) | omega) only [am0, am1, am2, am3, am4, am5, am6, am7, am8, Nat.reduceSub, ↓reduceIte, reduceCtorEq, Nat.reduceEqDiff, Nat.reduceBEq, Nat.reduceAdd, Nat.reduceLT, ↓reduceIte, tis, eIns]) (.inl rfl) rfl ?_
          cases h5 : insS p[i] p.length with
          | false =>
            rw [h5] at e5
            simp -implicitDefEqProofs (maxSteps := 100000) (disch := first | (intros; contradiction) | omega) only [am0, am1, am2, am3, am4, am5, am6, am7, am8, Nat.reduceSub, ↓reduceIte, reduceCtorEq, Nat.reduceEqDiff, Nat.reduceBEq, Nat.reduceAdd, Nat.reduceLT, ↓reduceIte, tis, h5, eIns, progB_false4 hi (by simpa using e5)]
          | true =>
            rw [h5] at e5
            by_cases h6 : p[i].op = 3
            · have hto : 0 ≤ p[i].to ∧ p[i].to < p.length := by
                simp [insS, h6] at h5; omega
              obtain ⟨q, hq⟩ : ∃ q : Nat, p[i].to = q := ⟨p[i].to.toNat, by omega⟩
              have hq2 : q < p.length := by omega
              simp -implicitDefEqProofs (maxSteps := 100000) (disch := first | (intros; contradiction) | omega) only [am0, am1, am2, am3, am4, am5, am6, am7, am8, Nat.reduceSub, ↓reduceIte, reduceCtorEq, Nat.reduceEqDiff, Nat.reduceBEq, Nat.reduceAdd, Nat.reduceLT, ↓reduceIte, tis, h5, h6, eIns]
              refine callb_of (fits_sDoor p q hp hq2) (by simp -implicitDefEqProofs (maxSteps := 100000) (disch := first | (intros; contradiction) | omega) only [am0, am1, am2, am3, am4, am5, am6, am7, am8, Nat.reduceSub, ↓reduceIte, reduceCtorEq, Nat.reduceEqDiff, Nat.reduceBEq, Nat.reduceAdd, Nat.reduceLT, ↓reduceIte, tis, eIns, hq]) (.inl rfl) rfl ?_
              rw [hq, doorI_nat] at e5
              cases h7 : doorB p q with
              | false => simp -implicitDefEqProofs (maxSteps := 100000) (disch := first | (intros; contradiction) | omega) only [am0, am1, am2, am3, am4, am5, am6, am7, am8, Nat.reduceSub, ↓reduceIte, reduceCtorEq, Nat.reduceEqDiff, Nat.reduceBEq, Nat.reduceAdd, Nat.reduceLT, ↓reduceIte, tis, h7, h6, eIns, progB_false4 hi (by simpa [h6, h7] using e5)]
              | true =>
                simp -implicitDefEqProofs (maxSteps := 100000) (disch := first | (intros; contradiction) | omega) only [am0, am1, am2, am3, am4, am5, am6, am7, am8, Nat.reduceSub, ↓reduceIte, reduceCtorEq, Nat.reduceEqDiff, Nat.reduceBEq, Nat.reduceAdd, Nat.reduceLT, ↓reduceIte, tis, h7, h6, eIns]
                obtain ⟨g1, g2⟩ := good (by simpa [h6, h7] using e5)
                exact round_normal (i + 1) ⟨by omega, g2⟩ (by simp -implicitDefEqProofs (maxSteps := 100000) (disch := first | (intros; contradiction) | omega) only [am0, am1, am2, am3, am4, am5, am6, am7, am8, Nat.reduceSub, ↓reduceIte, reduceCtorEq, Nat.reduceEqDiff, Nat.reduceBEq, Nat.reduceAdd, Nat.reduceLT, ↓reduceIte, tis]) (by show p.length - (i + 1) < p.length - i; omega)
            · by_cases h8 : p[i].op = 1
              · simp -implicitDefEqProofs (maxSteps := 100000) (disch := first | (intros; contradiction) | omega) only [am0, am1, am2, am3, am4, am5, am6, am7, am8, Nat.reduceSub, ↓reduceIte, reduceCtorEq, Nat.reduceEqDiff, Nat.reduceBEq, Nat.reduceAdd, Nat.reduceLT, ↓reduceIte, tis, h5, h6, h8, eIns]
                refine callb_of (fits_sDoor p i hp hi) (by simp -implicitDefEqProofs (maxSteps := 100000) (disch := first | (intros; contradiction) | omega) only [am0, am1, am2, am3, am4, am5, am6, am7, am8, Nat.reduceSub, ↓reduceIte, reduceCtorEq, Nat.reduceEqDiff, Nat.reduceBEq, Nat.reduceAdd, Nat.reduceLT, ↓reduceIte, tis, eIns]) (.inl rfl) rfl ?_
                cases h7 : doorB p i with
                | false => simp -implicitDefEqProofs (maxSteps := 100000) (disch := first | (intros; contradiction) | omega) only [am0, am1, am2, am3, am4, am5, am6, am7, am8, Nat.reduceSub, ↓reduceIte, reduceCtorEq, Nat.reduceEqDiff, Nat.reduceBEq, Nat.reduceAdd, Nat.reduceLT, ↓reduceIte, tis, h7, h8, eIns, progB_false4 hi (by simpa [h8, h7] using e5)]
                | true =>
                  simp -implicitDefEqProofs (maxSteps := 100000) (disch := first | (intros; contradiction) | omega) only [am0, am1, am2, am3, am4, am5, am6, am7, am8, Nat.reduceSub, ↓reduceIte, reduceCtorEq, Nat.reduceEqDiff, Nat.reduceBEq, Nat.reduceAdd, Nat.reduceLT, ↓reduceIte, tis, h7, h8, eIns]
                  obtain ⟨g1, g2⟩ := good (by simpa [h8, h7] using e5)
                  exact round_normal (i + 1) ⟨by omega, g2⟩ (by simp -implicitDefEqProofs (maxSteps := 100000) (disch := first | (intros; contradiction) | omega) only [am0, am1, am2, am3, am4, am5, am6, am7, am8, Nat.reduceSub, ↓reduceIte, reduceCtorEq, Nat.reduceEqDiff, Nat.reduceBEq, Nat.reduceAdd, Nat.reduceLT, ↓reduceIte, tis]) (by show p.length - (i + 1) < p.length - i; omega)
              · simp -implicitDefEqProofs (maxSteps := 100000) (disch := first | (intros; contradiction) | omega) only [am0, am1, am2, am3, am4, am5, am6, am7, am8, Nat.reduceSub, ↓reduceIte, reduceCtorEq, Nat.reduceEqDiff, Nat.reduceBEq, Nat.reduceAdd, Nat.reduceLT, ↓reduceIte, tis, h5, h6, h8, eIns]
                obtain ⟨g1, g2⟩ := good (by rw [e5, ibeq_f h6, ibeq_f h8]; rfl)
                exact round_normal (i + 1) ⟨by omega, g2⟩ (by simp -implicitDefEqProofs (maxSteps := 100000) (disch := first | (intros; contradiction) | omega) only [am0, am1, am2, am3, am4, am5, am6, am7, am8, Nat.reduceSub, ↓reduceIte, reduceCtorEq, Nat.reduceEqDiff, Nat.reduceBEq, Nat.reduceAdd, Nat.reduceLT, ↓reduceIte, tis]) (by show p.length - (i + 1) < p.length - i; omega)
        · obtain rfl : i = p.length := by omega
          simp -implicitDefEqProofs (maxSteps := 100000) (disch := first | (intros; contradiction) | omega) only [am0, am1, am2, am3, am4, am5, am6, am7, am8, Nat.reduceSub, ↓reduceIte, reduceCtorEq, Nat.reduceEqDiff, Nat.reduceBEq, Nat.reduceAdd, Nat.reduceLT, ↓reduceIte, tis, progB_true ⟨h1a, h1b⟩ h2 h3 hb]
def feedZ : Feed := ⟨[], [], 0, 0, 0, 0, 0, [], false⟩
/-- FeedOpen. -/
def feedOpenP (p : List Ins) : Feed := if progB p then ⟨p, [], 0, 0, 0, -1, 0, [], false⟩ else feedZ
/-- impl.copied of instructions -/
theorem fits_copiedIns (p : List Ins) (hp : p.length ≤ 1099511627776) : Fits prog 48 [.sl false 4 (p.map eIns)] (.sl true 4 (p.map eIns)) [] := by
  refine fits_of_code [2] [] [0, 2, 3, 6] func48 rfl rfl rfl (by rfl) (by show 1 ≤ 14; decide) (by rfl) (by rfl) (by show 0 ≤ 1; decide) (by rfl) (run_of ?_)
  cases p with
  | nil => simp -implicitDefEqProofs (maxSteps := 100000) (disch := first | (intros; contradiction) | omega) only [am0, am1, am2, am3, am4, am5, am6, am7, am8, Nat.reduceSub, ↓reduceIte, reduceCtorEq, Nat.reduceEqDiff, Nat.reduceBEq, Nat.reduceAdd, Nat.reduceLT, ↓reduceIte, tis]
  | cons x r =>
    have hl : ((x :: r).length : Int) ≠ 0 := by simp; omega
    generalize (x :: r) = p at *
    simp -implicitDefEqProofs (maxSteps := 100000) (disch := first | (intros; contradiction) | omega) only [am0, am1, am2, am3, am4, am5, am6, am7, am8, Nat.reduceSub, ↓reduceIte, reduceCtorEq, Nat.reduceEqDiff, Nat.reduceBEq, Nat.reduceAdd, Nat.reduceLT, ↓reduceIte, tis]
    simp -implicitDefEqProofs (maxSteps := 100000) (disch := first | (intros; contradiction) | omega) only [am0, am1, am2, am3, am4, am5, am6, am7, am8, Nat.reduceSub, ↓reduceIte, reduceCtorEq, Nat.reduceEqDiff, Nat.reduceBEq, Nat.reduceAdd, Nat.reduceLT, ↓reduceIte, tis, List.length_replicate, fls]
    simp [List.take_of_length_le]
/-- impl.FeedOpen -/
theorem fits_feedOpen (p : List Ins) (hp : p.length ≤ 1099511627776) : Fits prog 21 [.sl false 4 (p.map eIns)] (eFeed true (feedOpenP p)) [] := by
  refine fits_of_cell 2 33 [] [0, 2, 5] func21 rfl rfl rfl (by show 2 < 10; decide) (by show 1 ≤ 10; decide) (by rfl) (by rfl) (by show 0 ≤ 1; decide) (by rfl) (run_of ?_)
  simp -implicitDefEqProofs (maxSteps := 100000) (disch := first | (intros; contradiction) | omega) only [am0, am1, am2, am3, am4, am5, am6, am7, am8, Nat.reduceSub, ↓reduceIte, reduceCtorEq, Nat.reduceEqDiff, Nat.reduceBEq, Nat.reduceAdd, Nat.reduceLT, ↓reduceIte, tis]
  refine callb_of (fits_progOk p hp) (by simp -implicitDefEqProofs (maxSteps := 100000) (disch := first | (intros; contradiction) | omega) only [am0, am1, am2, am3, am4, am5, am6, am7, am8, Nat.reduceSub, ↓reduceIte, reduceCtorEq, Nat.reduceEqDiff, Nat.reduceBEq, Nat.reduceAdd, Nat.reduceLT, ↓reduceIte, tis]) (.inl rfl) rfl ?_
  cases h1 : progB p with
  | false => simp -implicitDefEqProofs (maxSteps := 100000) (disch := first | (intros; contradiction) | omega) only [am0, am1, am2, am3, am4, am5, am6, am7, am8, Nat.reduceSub, ↓reduceIte, reduceCtorEq, Nat.reduceEqDiff, Nat.reduceBEq, Nat.reduceAdd, Nat.reduceLT, ↓reduceIte, tis, h1, feedOpenP, feedZ, eFeed]
  | true =>
    simp -implicitDefEqProofs (maxSteps := 100000) (disch := first | (intros; contradiction) | omega) only [am0, am1, am2, am3, am4, am5, am6, am7, am8, Nat.reduceSub, ↓reduceIte, reduceCtorEq, Nat.reduceEqDiff, Nat.reduceBEq, Nat.reduceAdd, Nat.reduceLT, ↓reduceIte, tis]
    refine callb_of (fits_copiedIns p hp) (by simp -implicitDefEqProofs (maxSteps := 100000) (disch := first | (intros; contradiction) | omega) only [am0, am1, am2, am3, am4, am5, am6, am7, am8, Nat.reduceSub, ↓reduceIte, reduceCtorEq, Nat.reduceEqDiff, Nat.reduceBEq, Nat.reduceAdd, Nat.reduceLT, ↓reduceIte, tis]) (.inl (by simp -implicitDefEqProofs (maxSteps := 100000) (disch := first | (intros; contradiction) | omega) only [am0, am1, am2, am3, am4, am5, am6, am7, am8, Nat.reduceSub, ↓reduceIte, reduceCtorEq, Nat.reduceEqDiff, Nat.reduceBEq, Nat.reduceAdd, Nat.reduceLT, ↓reduceIte, fls])) rfl ?_
    simp -implicitDefEqProofs (maxSteps := 100000) (disch := first | (intros; contradiction) | omega) only [am0, am1, am2, am3, am4, am5, am6, am7, am8, Nat.reduceSub, ↓reduceIte, reduceCtorEq, Nat.reduceEqDiff, Nat.reduceBEq, Nat.reduceAdd, Nat.reduceLT, ↓reduceIte, tis, h1, feedOpenP, eFeed]
/-- spec.FeedOpen -/
theorem fits_sFeedOpen (p : List Ins) (hp : p.length ≤ 1099511627776) : Fits prog 19 [.sl false 4 (p.map eIns)] (eFeed true (feedOpenP p)) [] := by
  refine fits_of_cell 2 33 [] [0, 2, 5] func19 rfl rfl rfl (by show 2 < 11; decide) (by show 1 ≤ 11; decide) (by rfl) (by rfl) (by show 0 ≤ 1; decide) (by rfl) (run_of ?_)
  simp -implicitDefEqProofs (maxSteps := 100000) (disch := first | (intros; contradiction) | omega) only [am0, am1, am2, am3, am4, am5, am6, am7, am8, Nat.reduceSub, ↓reduceIte, reduceCtorEq, Nat.reduceEqDiff, Nat.reduceBEq, Nat.reduceAdd, Nat.reduceLT, ↓reduceIte, tis]
  refine callb_of (fits_sProgOk p hp) (by simp -implicitDefEqProofs (maxSteps := 100000) (disch := first | (intros; contradiction) | omega) only [am0, am1, am2, am3, am4, am5, am6, am7, am8, Nat.reduceSub, ↓reduceIte, reduceCtorEq, Nat.reduceEqDiff, Nat.reduceBEq, Nat.reduceAdd, Nat.reduceLT, ↓reduceIte, tis]) (.inl rfl) rfl ?_
  cases h1 : progB p with
  | false => simp -implicitDefEqProofs (maxSteps := 100000) (disch := first | (intros; contradiction) | omega) only [am0, am1, am2, am3, am4, am5, am6, am7, am8, Nat.reduceSub, ↓reduceIte, reduceCtorEq, Nat.reduceEqDiff, Nat.reduceBEq, Nat.reduceAdd, Nat.reduceLT, ↓reduceIte, tis, h1, feedOpenP, feedZ, eFeed]
  | true => simp -implicitDefEqProofs (maxSteps := 100000) (disch := first | (intros; contradiction) | omega) only [am0, am1, am2, am3, am4, am5, am6, am7, am8, Nat.reduceSub, ↓reduceIte, reduceCtorEq, Nat.reduceEqDiff, Nat.reduceBEq, Nat.reduceAdd, Nat.reduceLT, ↓reduceIte, tis, h1, feedOpenP, eFeed, fls]
section
variable {h h' : Array Obj} {S : Nat → Prop}
theorem rl_int {k : IntKind} {n : Int} {xs : List AV} {cs : List Value} {O : Nat → Prop} : RepL h S (.int k n :: xs) cs O ↔ ∃ c2, cs = .int k n :: c2 ∧ RepL h S xs c2 O := by
  simp only [RepL, RepC]
  constructor
  · rintro ⟨c1, c2, O1, O2, rfl, h2, h3, ⟨rfl, h4⟩, h5⟩
    exact ⟨c2, rfl, repL_cong _ h5 (fun k => by rw [h2 k]; exact ⟨fun h => h.resolve_left (h4 k), .inr⟩)⟩
  · rintro ⟨c2, rfl, h5⟩
    exact ⟨[_], c2, fun _ => False, O, rfl, by simp, by simp, ⟨rfl, emp_false⟩, h5⟩
theorem rl_bool {b : Bool} {xs : List AV} {cs : List Value} {O : Nat → Prop} : RepL h S (.bool b :: xs) cs O ↔ ∃ c2, cs = .bool b :: c2 ∧ RepL h S xs c2 O := by
  simp only [RepL, RepC]
  constructor
  · rintro ⟨c1, c2, O1, O2, rfl, h2, h3, ⟨rfl, h4⟩, h5⟩
    exact ⟨c2, rfl, repL_cong _ h5 (fun k => by rw [h2 k]; exact ⟨fun h => h.resolve_left (h4 k), .inr⟩)⟩
  · rintro ⟨c2, rfl, h5⟩
    exact ⟨[_], c2, fun _ => False, O, rfl, by simp, by simp, ⟨rfl, emp_false⟩, h5⟩
theorem rl_str {s : List UInt8} {xs : List AV} {cs : List Value} {O : Nat → Prop} : RepL h S (.str s :: xs) cs O ↔ ∃ c2, cs = .string ⟨s.toArray⟩ :: c2 ∧ RepL h S xs c2 O := by
  simp only [RepL, RepC]
  constructor
  · rintro ⟨c1, c2, O1, O2, rfl, h2, h3, ⟨rfl, h4⟩, h5⟩
    exact ⟨c2, rfl, repL_cong _ h5 (fun k => by rw [h2 k]; exact ⟨fun h => h.resolve_left (h4 k), .inr⟩)⟩
  · rintro ⟨c2, rfl, h5⟩
    exact ⟨[_], c2, fun _ => False, O, rfl, by simp, by simp, ⟨rfl, emp_false⟩, h5⟩
theorem rl_sl {o : Bool} {z : Nat} {l xs : List AV} {cs : List Value} {O : Nat → Prop} : RepL h S (.sl o z l :: xs) cs O ↔ ∃ v c2 O1 O2, cs = v :: c2 ∧ (∀ k, O k ↔ O1 k ∨ O2 k) ∧ (∀ k, O1 k → ¬ O2 k) ∧ RepC h S (.sl o z l) [v] O1 ∧ RepL h S xs c2 O2 := by
  constructor
  · intro r
    simp only [RepL] at r
    obtain ⟨c1, c2, O1, O2, rfl, h2, h3, h4, h5⟩ := r
    have hl := repC_len _ h4
    obtain ⟨v, rfl⟩ := List.length_eq_one_iff.1 (by simpa [ncells] using hl)
    exact ⟨v, c2, O1, O2, rfl, h2, h3, h4, h5⟩
  · rintro ⟨v, c2, O1, O2, rfl, h2, h3, h4, h5⟩
    simp only [RepL]
    exact ⟨[v], c2, O1, O2, rfl, h2, h3, h4, h5⟩
theorem rl_nil {cs : List Value} {O : Nat → Prop} : RepL h S [] cs O ↔ cs = [] ∧ Emp O := by simp only [RepL]
end
def mkFeed (f : Feed) (k : Int) : Feed := { f with prog := mkInss f.prog.length k, out := mkTokens f.out.length (k + 4 * f.prog.length) }
/-- laws.markFeed -/
theorem fits_markFeed (f : Feed) (k : Int) (hp : f.prog.length ≤ 1048576) (ho : f.out.length ≤ 1048576) (h0 : 0 ≤ k) (hk : k ≤ 1048576) :
    Fits prog 24 [eFeed true f, .int .i64 k] (.int .i64 (k + 4 * f.prog.length + 3 * f.out.length)) [eFeed true (mkFeed f k)] := by
  refine ⟨⟨_, func24, by rfl, by rfl⟩, ?_⟩
  intro w vs ok O hall hrep
  simp only [RepWs, eFeed] at hrep
  obtain ⟨v0, vs1, Oa, Ob, rfl, e1, e2, r0, v1, vs2, Oc, Od, rfl, e3, e4, r1, rfl, e5⟩ := hrep
  simp only [RepW] at r0 r1
  obtain ⟨cs, rfl, r0⟩ := r0
  simp only [RepC] at r0
  obtain ⟨s1, c1, O1, O1', hc1, a1, a2, rs1, q1⟩ := rl_sl.1 r0
  obtain ⟨c2, d2, q2⟩ := rl_str.1 q1
  obtain ⟨c3, d3, q3⟩ := rl_int.1 q2
  obtain ⟨c4, d4, q4⟩ := rl_int.1 q3
  obtain ⟨c5, d5, q5⟩ := rl_int.1 q4
  obtain ⟨c6, d6, q6⟩ := rl_int.1 q5
  obtain ⟨c7, d7, q7⟩ := rl_int.1 q6
  obtain ⟨s8, c8, O8, O8', d8, a3, a4, rs8, q8⟩ := rl_sl.1 q7
  obtain ⟨c9, d9, q9⟩ := rl_bool.1 q8
  obtain ⟨d10, q10⟩ := rl_nil.1 q9
  subst d10 d9 d8 d7 d6 d5 d4 d3 d2
  simp only [RepC] at r1
  obtain ⟨r1, r1'⟩ := r1
  have r1 : v1 = .int .i64 k := by simpa using r1
  subst r1
  have hcs : cs = #[s1, .string ⟨f.buf.toArray⟩, .int .i64 f.base, .int .i64 f.pc, .int .i64 f.at_, .int .i64 f.rule, .int .i64 f.to, s8, .bool f.stuck] := by
    apply Array.ext'; rw [hc1]
  subst hcs
  show Calls prog 24 #[.agg #[s1, .string ⟨f.buf.toArray⟩, .int .i64 f.base, .int .i64 f.pc, .int .i64 f.at_, .int .i64 f.rule, .int .i64 f.to, s8, .bool f.stuck], .int .i64 k] w _
  clear q1 q2 q3 q4 q5 q6 q7 q8 q9 r0
  have hO : ∀ k, O k ↔ O1 k ∨ O8 k := by
    intro k
    rw [e1, a1, a3, e3]
    constructor
    · rintro ((h | h | h) | h | h)
      · exact .inl h
      · exact .inr h
      · exact (q10 k h).elim
      · exact (r1' k h).elim
      · exact (e5 k h).elim
    · rintro (h | h)
      · exact .inl (.inl h)
      · exact .inl (.inr (.inl h))
  have hd18 : ∀ k, O1 k → ¬ O8 k := fun k h1 h8 => a2 k h1 ((a3 k).2 (.inl h8))
  have lt1 := repC_lt _ rs1
  have lt8 := repC_lt _ rs8
  clear a1 a2 a3 a4 e1 e2 e3 e4 e5 r1' q10
  generalize hcells : #[s1, Value.string ⟨f.buf.toArray⟩, .int .i64 f.base, .int .i64 f.pc, .int .i64 f.at_, .int .i64 f.rule, .int .i64 f.to, s8, .bool f.stuck] = cells
  have hc0 : cells[0]? = some s1 := by rw [← hcells]; rfl
  have hc7 : cells[7]? = some s8 := by rw [← hcells]; rfl
  have hag : ∀ {h' : Array Obj} {S' Oz : Nat → Prop}, (∀ k, (ok k ∧ ¬ O k) → k < w.heap.size → S' k ∧ h'[k]? = w.heap[k]?) → (∀ k, Oz k → h'[k]? = w.heap[k]?) → Agree w.heap h' (fun k => ok k ∧ ¬ O k) S' Oz := fun h1 h2 => ⟨h1, h2⟩
  have push : ∀ k, k < w.heap.size → (w.alloc (.cells cells 33)).heap[k]? = w.heap[k]? := fun k hk => push_old _ _ hk
  have hsz : w.heap.size < (w.alloc (.cells cells 33)).heap.size := by show _ < (w.heap.push _).size; rw [Array.size_push]; omega
  have hA := (fits_markInsS f.prog k hp h0 (by omega)).2 (w.alloc (.cells cells 33)) [s1, .int .i64 k] ok O1
    (fun k hk => hk.elim (fun h => hall k (.inl ((hO k).2 (.inl h)))) (fun h => hall k (.inr (Nat.le_trans (Nat.le_of_lt hsz) h))))
    (by
      simp only [RepWs, RepW]
      refine ⟨s1, _, O1, fun _ => False, rfl, by simp, by simp, repC_mono _ rs1 (hag (fun k hk hlt => ⟨⟨hk.1, fun h => hk.2 ((hO k).2 (.inl h))⟩, push k hlt⟩) (fun k hk => push k (lt1 k hk))), .int .i64 k, [], fun _ => False, fun _ => False, rfl, by simp, by simp, ?_, rfl, emp_false⟩
      simp only [RepC]; exact ⟨trivial, emp_false⟩)
  generalize hQ : (fun e w' => _) = Q
  go_enter func24, ntmps24
  go_wp2_with fail
  refine Calls.mono hA ?_
  rintro e w1 ⟨v1, Or1, Oo1, rfl, b1, b2, b3, b4, b5, b6, b7, b8, b9⟩
  have hB : (w.alloc (.cells cells 33)).heap[w.heap.size]? = some (.cells cells 33 (0, 0)) := push_new _ _
  have hB1 : w1.heap[w.heap.size]? = some (.cells cells 33 (0, 0)) := by rw [b5 _ hsz (fun h => absurd (lt1 _ h) (Nat.lt_irrefl _)), hB]
  have hcell : w1.cell? ⟨w.heap.size, 7, none⟩ = some s8 := by rw [cell_eq]; simp [cellH, hB1, hc7]
  have hv1 : v1 = .int .i64 (k + 4 * f.prog.length) := by simp only [RepW, RepC] at b6; simpa using b6.1
  subst hv1
  have hOr1 : Emp Or1 := by simp only [RepW, RepC] at b6; exact b6.2
  go_wp2_with fail
  have hw1 : ∀ k, k < w.heap.size → ¬ O1 k → w1.heap[k]? = w.heap[k]? := fun k hk h1 => (b5 k (by omega) h1).trans (push k hk)
  have hA2 := (fits_markTokenS f.out (k + 4 * f.prog.length) ho (by omega) (by omega)).2 w1 [s8, .int .i64 (k + 4 * f.prog.length)] ok O8
    (fun k hk => hk.elim (fun h => hall k (.inl ((hO k).2 (.inr h)))) (fun h => hall k (.inr (by omega))))
    (by
      simp only [RepWs, RepW]
      refine ⟨s8, _, O8, fun _ => False, rfl, by simp, by simp, repC_mono _ rs8 (hag (fun k hk hlt => ⟨⟨hk.1, fun h => hk.2 ((hO k).2 (.inr h))⟩, hw1 k hlt (fun h => hk.2 ((hO k).2 (.inl h)))⟩) (fun k hk => hw1 k (lt8 k hk) (fun h => hd18 k h hk))), .int .i64 (k + 4 * f.prog.length), [], fun _ => False, fun _ => False, rfl, by simp, by simp, ?_, rfl, emp_false⟩
      simp only [RepC]; exact ⟨trivial, emp_false⟩)
  refine Calls.mono hA2 ?_
  rintro e w2 ⟨v2, Or2, Oo2, rfl, d1, d2, d3, d4, d5, d6, d7, d8, d9⟩
  have hv2 : v2 = .int .i64 (k + 4 * f.prog.length + 3 * f.out.length) := by simp only [RepW, RepC] at d6; simpa using d6.1
  subst hv2
  have hOr2 : Emp Or2 := by simp only [RepW, RepC] at d6; exact d6.2
  go_wp2_with fail
  rw [← hQ]
  simp only [List.take_succ_cons, List.take_zero, List.length_cons, List.length_nil] at b7 d7
  simp only [RepWs, RepW] at b7 d7
  obtain ⟨x1, y1, P1, P1', g1, g2, g3, g4, g5, g6⟩ := b7
  obtain ⟨x2, y2, P2, P2', k1, k2, k3, k4, k5, k6⟩ := d7
  obtain ⟨rfl, rfl⟩ : s1 = x1 ∧ [] = y1 := by simpa using g1
  obtain ⟨rfl, rfl⟩ : s8 = x2 ∧ [] = y2 := by simpa using k1
  have p1 : ∀ k, P1 k → O1 k ∨ (w.alloc (.cells cells 33)).heap.size ≤ k := fun k hk => b9 k (.inr ((g2 k).2 (.inl hk)))
  have p2 : ∀ k, P2 k → O8 k ∨ w1.heap.size ≤ k := fun k hk => d9 k (.inr ((k2 k).2 (.inl hk)))
  have l1 := repC_lt _ g4
  have q1 : ∀ k, P1 k → ¬ O8 k := fun k hk h8 => by
    rcases p1 k hk with h | h
    · exact hd18 k h h8
    · have := lt8 k h8; omega
  have q2 : ∀ k, P1 k → ¬ P2 k := fun k hk hk2 => by
    rcases p2 k hk2 with h | h
    · exact q1 k hk h
    · have := l1 k hk; omega
  refine ⟨.int .i64 (k + 4 * f.prog.length + 3 * f.out.length), fun _ => False, fun k => P1 k ∨ P2 k, rfl, d1.trans b1, d2.trans b2, d3.trans b3, by omega, ?_, ?_, ?_, fun _ h => h.elim, ?_⟩
  · intro k hk hn
    rw [d5 k (by omega) (fun h => hn ((hO k).2 (.inr h))), hw1 k hk (fun h => hn ((hO k).2 (.inl h)))]
  · simp only [RepW, RepC]; exact ⟨trivial, emp_false⟩
  · simp only [List.length_cons, List.length_nil, List.take_succ_cons, List.take_zero, RepWs]
    refine ⟨.agg cells, [], fun k => P1 k ∨ P2 k, fun _ => False, rfl, by simp, by simp, ?_, rfl, emp_false⟩
    simp only [eFeed, RepW]
    refine ⟨cells, rfl, ?_⟩
    simp only [RepC]
    rw [← hcells]
    refine rl_sl.2 ⟨s1, _, P1, P2, rfl, fun k => Iff.rfl, q2, ?_, rl_str.2 ⟨_, rfl, rl_int.2 ⟨_, rfl, rl_int.2 ⟨_, rfl, rl_int.2 ⟨_, rfl, rl_int.2 ⟨_, rfl, rl_int.2 ⟨_, rfl, rl_sl.2 ⟨s8, _, P2, fun _ => False, rfl, by simp, by simp, ?_, rl_bool.2 ⟨_, rfl, rl_nil.2 ⟨rfl, emp_false⟩⟩⟩⟩⟩⟩⟩⟩⟩⟩
    · exact repC_closed _ (repC_mono (S' := fun _ => False) _ (repC_closed (S' := fun _ => False) _ g4 (by simp [closed, fls])) ⟨fun k hk => hk.elim, fun k hk => d5 k (l1 k hk) (q1 k hk)⟩) (by simp [closed, fls])
    · exact repC_closed _ k4 (by simp [closed, fls])
  · rintro k (h | h | h)
    · exact h.elim
    · exact (p1 k h).imp (fun h => (hO k).2 (.inl h)) (fun h => by omega)
    · exact (p2 k h).imp (fun h => (hO k).2 (.inr h)) (fun h => by omega)
/-- laws.heldFeed -/
theorem fits_heldFeed (f : Feed) (k : Int) (hp : f.prog.length ≤ 1048576) (ho : f.out.length ≤ 1048576) (h0 : 0 ≤ k) (hk : k ≤ 1048576) :
    Fits prog 25 [eFeed false (mkFeed f k), .int .i64 k] (.int .i64 (k + 4 * f.prog.length + 3 * f.out.length)) [] := by
  refine fits_of_code [4] [] [0, 1, 2, 4, 10, 16] func25 rfl rfl rfl (by rfl) (by show 2 ≤ 18; decide) (by rfl) (by rfl) (by show 0 ≤ 2; decide) (by rfl) (run_of ?_)
  simp -implicitDefEqProofs (maxSteps := 100000) (disch := first | (intros; contradiction) | omega) only [am0, am1, am2, am3, am4, am5, am6, am7, am8, Nat.reduceSub, ↓reduceIte, reduceCtorEq, Nat.reduceEqDiff, Nat.reduceBEq, Nat.reduceAdd, Nat.reduceLT, ↓reduceIte, tis, eFeed, mkFeed]
  refine callb_of (fits_heldInsS f.prog.length k hp h0 (by omega)) (by simp -implicitDefEqProofs (maxSteps := 100000) (disch := first | (intros; contradiction) | omega) only [am0, am1, am2, am3, am4, am5, am6, am7, am8, Nat.reduceSub, ↓reduceIte, reduceCtorEq, Nat.reduceEqDiff, Nat.reduceBEq, Nat.reduceAdd, Nat.reduceLT, ↓reduceIte, tis]) (.inl rfl) rfl ?_
  simp -implicitDefEqProofs (maxSteps := 100000) (disch := first | (intros; contradiction) | omega) only [am0, am1, am2, am3, am4, am5, am6, am7, am8, Nat.reduceSub, ↓reduceIte, reduceCtorEq, Nat.reduceEqDiff, Nat.reduceBEq, Nat.reduceAdd, Nat.reduceLT, ↓reduceIte, tis, eFeed, mkFeed]
  refine callb_of (fits_heldTokenS f.out.length (k + 4 * f.prog.length) ho (by omega) (by omega)) (by simp -implicitDefEqProofs (maxSteps := 100000) (disch := first | (intros; contradiction) | omega) only [am0, am1, am2, am3, am4, am5, am6, am7, am8, Nat.reduceSub, ↓reduceIte, reduceCtorEq, Nat.reduceEqDiff, Nat.reduceBEq, Nat.reduceAdd, Nat.reduceLT, ↓reduceIte, tis]) (.inl rfl) rfl ?_
  simp -implicitDefEqProofs (maxSteps := 100000) (disch := first | (intros; contradiction) | omega) only [am0, am1, am2, am3, am4, am5, am6, am7, am8, Nat.reduceSub, ↓reduceIte, reduceCtorEq, Nat.reduceEqDiff, Nat.reduceBEq, Nat.reduceAdd, Nat.reduceLT, ↓reduceIte, tis]
theorem feedOpenP_len (p : List Ins) : (feedOpenP p).prog.length ≤ p.length ∧ (feedOpenP p).out.length = 0 := by
  unfold feedOpenP; split <;> simp [feedZ]
/-- laws.FnExactFeedOpen -/
theorem law_FeedOpen (p : List Ins) (hp : p.length ≤ 9223372036854775807) : Fits prog 6 [.sl false 4 (p.map eIns)] (.bool true) [] := by
  refine fits_of_code [2] [] [0, 2, 3, 4, 5, 6, 7, 8, 9, 10, 15, 26, 31, 42, 50, 53, 60, 65, 68] func6 rfl rfl rfl (by rfl) (by show 1 ≤ 69; decide) (by rfl) (by rfl) (by show 0 ≤ 1; decide) (by rfl) (run_of ?_)
  simp -implicitDefEqProofs (maxSteps := 100000) (disch := first | (intros; contradiction) | omega) only [am0, am1, am2, am3, am4, am5, am6, am7, am8, Nat.reduceSub, ↓reduceIte, reduceCtorEq, Nat.reduceEqDiff, Nat.reduceBEq, Nat.reduceAdd, Nat.reduceLT, ↓reduceIte, tis]
  refine callb_of (fits_szInsS p 1048576 hp (by omega) (by omega)) (by simp -implicitDefEqProofs (maxSteps := 100000) (disch := first | (intros; contradiction) | omega) only [am0, am1, am2, am3, am4, am5, am6, am7, am8, Nat.reduceSub, ↓reduceIte, reduceCtorEq, Nat.reduceEqDiff, Nat.reduceBEq, Nat.reduceAdd, Nat.reduceLT, ↓reduceIte, tis]) (.inl rfl) rfl ?_
  by_cases h : (1048576 : Int) - p.length < 0
  · simp -implicitDefEqProofs (maxSteps := 100000) (disch := first | (intros; contradiction) | omega) only [am0, am1, am2, am3, am4, am5, am6, am7, am8, Nat.reduceSub, ↓reduceIte, reduceCtorEq, Nat.reduceEqDiff, Nat.reduceBEq, Nat.reduceAdd, Nat.reduceLT, ↓reduceIte, tis, h]
  simp -implicitDefEqProofs (maxSteps := 100000) (disch := first | (intros; contradiction) | omega) only [am0, am1, am2, am3, am4, am5, am6, am7, am8, Nat.reduceSub, ↓reduceIte, reduceCtorEq, Nat.reduceEqDiff, Nat.reduceBEq, Nat.reduceAdd, Nat.reduceLT, ↓reduceIte, tis, h]
  have hs : p.length ≤ 1048576 := by omega
  obtain ⟨q1, q2⟩ := feedOpenP_len p
  generalize hg : feedOpenP p = g at q1 q2
  have cI := fits_toInsS p hs
  have cO := fits_sFeedOpen p (by omega)
  have cP := fits_feedOpen p (by omega)
  rw [hg] at cO cP
  have cE := fits_eqFeed g g (by omega) (by omega) (by omega) (by omega)
  have cL := fits_eqInsS p p (by omega) (by omega)
  have cM := fits_markInsS p 1 (by omega) (by omega) (by omega)
  have cF := fits_markFeed g 1 (by omega) (by omega) (by omega) (by omega)
  have cH := fits_heldFeed g 1 (by omega) (by omega) (by omega) (by omega)
  refine callB cI ?_
  simp -implicitDefEqProofs (maxSteps := 100000) (disch := first | (intros; contradiction) | omega) only [am0, am1, am2, am3, am4, am5, am6, am7, am8, Nat.reduceSub, ↓reduceIte, reduceCtorEq, Nat.reduceEqDiff, Nat.reduceBEq, Nat.reduceAdd, Nat.reduceLT, ↓reduceIte, tis, eFeed, fls]
  refine callB cO ?_
  simp -implicitDefEqProofs (maxSteps := 100000) (disch := first | (intros; contradiction) | omega) only [am0, am1, am2, am3, am4, am5, am6, am7, am8, Nat.reduceSub, ↓reduceIte, reduceCtorEq, Nat.reduceEqDiff, Nat.reduceBEq, Nat.reduceAdd, Nat.reduceLT, ↓reduceIte, tis, eFeed, fls]
  refine callB cI ?_
  simp -implicitDefEqProofs (maxSteps := 100000) (disch := first | (intros; contradiction) | omega) only [am0, am1, am2, am3, am4, am5, am6, am7, am8, Nat.reduceSub, ↓reduceIte, reduceCtorEq, Nat.reduceEqDiff, Nat.reduceBEq, Nat.reduceAdd, Nat.reduceLT, ↓reduceIte, tis, eFeed, fls]
  refine callB cP ?_
  simp -implicitDefEqProofs (maxSteps := 100000) (disch := first | (intros; contradiction) | omega) only [am0, am1, am2, am3, am4, am5, am6, am7, am8, Nat.reduceSub, ↓reduceIte, reduceCtorEq, Nat.reduceEqDiff, Nat.reduceBEq, Nat.reduceAdd, Nat.reduceLT, ↓reduceIte, tis, eFeed, fls]
  refine callB cE ?_
  simp -implicitDefEqProofs (maxSteps := 100000) (disch := first | (intros; contradiction) | omega) only [am0, am1, am2, am3, am4, am5, am6, am7, am8, Nat.reduceSub, ↓reduceIte, reduceCtorEq, Nat.reduceEqDiff, Nat.reduceBEq, Nat.reduceAdd, Nat.reduceLT, ↓reduceIte, tis, eFeed, fls]
  refine callB cI ?_
  simp -implicitDefEqProofs (maxSteps := 100000) (disch := first | (intros; contradiction) | omega) only [am0, am1, am2, am3, am4, am5, am6, am7, am8, Nat.reduceSub, ↓reduceIte, reduceCtorEq, Nat.reduceEqDiff, Nat.reduceBEq, Nat.reduceAdd, Nat.reduceLT, ↓reduceIte, tis, eFeed, fls]
  refine callB cL ?_
  simp -implicitDefEqProofs (maxSteps := 100000) (disch := first | (intros; contradiction) | omega) only [am0, am1, am2, am3, am4, am5, am6, am7, am8, Nat.reduceSub, ↓reduceIte, reduceCtorEq, Nat.reduceEqDiff, Nat.reduceBEq, Nat.reduceAdd, Nat.reduceLT, ↓reduceIte, tis, eFeed, fls]
  refine callM 0 cM ?_
  simp -implicitDefEqProofs (maxSteps := 100000) (disch := first | (intros; contradiction) | omega) only [am0, am1, am2, am3, am4, am5, am6, am7, am8, Nat.reduceSub, ↓reduceIte, reduceCtorEq, Nat.reduceEqDiff, Nat.reduceBEq, Nat.reduceAdd, Nat.reduceLT, ↓reduceIte, tis, eFeed, fls]
  refine callB cE ?_
  simp -implicitDefEqProofs (maxSteps := 100000) (disch := first | (intros; contradiction) | omega) only [am0, am1, am2, am3, am4, am5, am6, am7, am8, Nat.reduceSub, ↓reduceIte, reduceCtorEq, Nat.reduceEqDiff, Nat.reduceBEq, Nat.reduceAdd, Nat.reduceLT, ↓reduceIte, tis, eFeed, fls]
  refine callM 0 cF ?_
  simp -implicitDefEqProofs (maxSteps := 100000) (disch := first | (intros; contradiction) | omega) only [am0, am1, am2, am3, am4, am5, am6, am7, am8, Nat.reduceSub, ↓reduceIte, reduceCtorEq, Nat.reduceEqDiff, Nat.reduceBEq, Nat.reduceAdd, Nat.reduceLT, ↓reduceIte, tis, eFeed, fls]
  refine callB cH ?_
  simp -implicitDefEqProofs (maxSteps := 100000) (disch := first | (intros; contradiction) | omega) only [am0, am1, am2, am3, am4, am5, am6, am7, am8, Nat.reduceSub, ↓reduceIte, reduceCtorEq, Nat.reduceEqDiff, Nat.reduceBEq, Nat.reduceAdd, Nat.reduceLT, ↓reduceIte, tis, eFeed, fls]
  refine callB cI ?_
  simp -implicitDefEqProofs (maxSteps := 100000) (disch := first | (intros; contradiction) | omega) only [am0, am1, am2, am3, am4, am5, am6, am7, am8, Nat.reduceSub, ↓reduceIte, reduceCtorEq, Nat.reduceEqDiff, Nat.reduceBEq, Nat.reduceAdd, Nat.reduceLT, ↓reduceIte, tis, eFeed, fls]
  refine callB cP ?_
  simp -implicitDefEqProofs (maxSteps := 100000) (disch := first | (intros; contradiction) | omega) only [am0, am1, am2, am3, am4, am5, am6, am7, am8, Nat.reduceSub, ↓reduceIte, reduceCtorEq, Nat.reduceEqDiff, Nat.reduceBEq, Nat.reduceAdd, Nat.reduceLT, ↓reduceIte, tis, eFeed, fls]
  refine callB cE ?_
  simp -implicitDefEqProofs (maxSteps := 100000) (disch := first | (intros; contradiction) | omega) only [am0, am1, am2, am3, am4, am5, am6, am7, am8, Nat.reduceSub, ↓reduceIte, reduceCtorEq, Nat.reduceEqDiff, Nat.reduceBEq, Nat.reduceAdd, Nat.reduceLT, ↓reduceIte, tis, eFeed, fls]
  refine callB cH ?_
  simp -implicitDefEqProofs (maxSteps := 100000) (disch := first | (intros; contradiction) | omega) only [am0, am1, am2, am3, am4, am5, am6, am7, am8, Nat.reduceSub, ↓reduceIte, reduceCtorEq, Nat.reduceEqDiff, Nat.reduceBEq, Nat.reduceAdd, Nat.reduceLT, ↓reduceIte, tis, eFeed, fls]
theorem own : ownKnob prog.godebug = none := by kernel_rfl
theorem laidOut : laidOutB prog = true := by kernel_rfl
theorem typ_int {n : Nat} {x : AV} (h : Typed prog n 3 x) : ∃ v, x = .int .i64 v ∧ -9223372036854775808 ≤ v ∧ v ≤ 9223372036854775807 := by
  cases n with
  | zero => exact h.elim
  | succ n =>
    simp only [Typed, underlying3] at h
    obtain ⟨v, rfl, hw⟩ := h
    refine ⟨v, rfl, ?_⟩
    simp [Lit.wf, IntKind.min, IntKind.max, IntKind.bits, IntKind.signed] at hw
    omega
theorem typ_str {n : Nat} {x : AV} (h : Typed prog n 9 x) : ∃ s, x = .str s ∧ s.length ≤ 9223372036854775807 := by
  cases n with
  | zero => exact h.elim
  | succ n => simp only [Typed, underlying9] at h; exact h
theorem typ_bool {n : Nat} {x : AV} (h : Typed prog n 4 x) : ∃ b, x = .bool b := by
  cases n with
  | zero => exact h.elim
  | succ n => simp only [Typed, underlying4] at h; exact h
theorem all_map {α : Type} (f : α → AV) : ∀ xs : List AV, (∀ y ∈ xs, ∃ i, y = f i) → ∃ is : List α, xs = is.map f
  | [], _ => ⟨[], rfl⟩
  | y :: r, h => by
    obtain ⟨i, rfl⟩ := h y (List.mem_cons_self ..)
    obtain ⟨is, rfl⟩ := all_map f r (fun z hz => h z (List.mem_cons_of_mem _ hz))
    exact ⟨i :: is, rfl⟩
theorem co_ins : prog.cellsOf 73 = 4 := by kernel_rfl
theorem co_tok : prog.cellsOf 87 = 3 := by kernel_rfl
theorem typ_ins {n : Nat} {x : AV} (h : Typed prog n 73 x) : ∃ i, x = eIns i := by
  cases n with
  | zero => exact h.elim
  | succ n =>
    simp only [Typed, underlying73] at h
    obtain ⟨ys, rfl, hl, hf⟩ := h
    match ys, hl, hf with
    | [a, b, c, d], _, hf =>
      obtain ⟨a', rfl, _⟩ := typ_int (hf 0 _ a rfl rfl)
      obtain ⟨b', rfl, _⟩ := typ_int (hf 1 _ b rfl rfl)
      obtain ⟨c', rfl, _⟩ := typ_int (hf 2 _ c rfl rfl)
      obtain ⟨d', rfl, _⟩ := typ_int (hf 3 _ d rfl rfl)
      exact ⟨⟨a', b', c', d'⟩, rfl⟩
theorem typ_tok {n : Nat} {x : AV} (h : Typed prog n 87 x) : ∃ i, x = eToken i := by
  cases n with
  | zero => exact h.elim
  | succ n =>
    simp only [Typed, underlying87] at h
    obtain ⟨ys, rfl, hl, hf⟩ := h
    match ys, hl, hf with
    | [a, b, c], _, hf =>
      obtain ⟨a', rfl, _⟩ := typ_int (hf 0 _ a rfl rfl)
      obtain ⟨b', rfl, _⟩ := typ_int (hf 1 _ b rfl rfl)
      obtain ⟨c', rfl, _⟩ := typ_int (hf 2 _ c rfl rfl)
      exact ⟨⟨a', b', c'⟩, rfl⟩
theorem typ_prog {n : Nat} {x : AV} (h : Typed prog n 24 x) : ∃ p : List Ins, x = .sl false 4 (p.map eIns) ∧ p.length ≤ 9223372036854775807 := by
  cases n with
  | zero => exact h.elim
  | succ n =>
    simp only [Typed, underlying24, co_ins] at h
    obtain ⟨xs, rfl, hl, hf⟩ := h
    obtain ⟨p, rfl⟩ := all_map eIns xs (fun y hy => typ_ins (hf y hy))
    exact ⟨p, rfl, by simpa [maxLen] using hl⟩
theorem typ_toks {n : Nat} {x : AV} (h : Typed prog n 25 x) : ∃ p : List Token, x = .sl false 3 (p.map eToken) ∧ p.length ≤ 9223372036854775807 := by
  cases n with
  | zero => exact h.elim
  | succ n =>
    simp only [Typed, underlying25, co_tok] at h
    obtain ⟨xs, rfl, hl, hf⟩ := h
    obtain ⟨p, rfl⟩ := all_map eToken xs (fun y hy => typ_tok (hf y hy))
    exact ⟨p, rfl, by simpa [maxLen] using hl⟩
theorem typ_feed {n : Nat} {x : AV} (h : Typed prog n 27 x) : ∃ f : Feed, x = eFeed false f ∧ f.prog.length ≤ 9223372036854775807 ∧ f.buf.length ≤ 9223372036854775807 ∧ f.out.length ≤ 9223372036854775807 := by
  cases n with
  | zero => exact h.elim
  | succ n =>
    simp only [Typed, underlying27] at h
    obtain ⟨ys, rfl, hl, hf⟩ := h
    match ys, hl, hf with
    | [y0, y1, y2, y3, y4, y5, y6, y7, y8], _, hf =>
      obtain ⟨p, rfl, hp⟩ := typ_prog (hf 0 _ y0 rfl rfl)
      obtain ⟨b, rfl, hb⟩ := typ_str (hf 1 _ y1 rfl rfl)
      obtain ⟨c1, rfl, _⟩ := typ_int (hf 2 _ y2 rfl rfl)
      obtain ⟨c2, rfl, _⟩ := typ_int (hf 3 _ y3 rfl rfl)
      obtain ⟨c3, rfl, _⟩ := typ_int (hf 4 _ y4 rfl rfl)
      obtain ⟨c4, rfl, _⟩ := typ_int (hf 5 _ y5 rfl rfl)
      obtain ⟨c5, rfl, _⟩ := typ_int (hf 6 _ y6 rfl rfl)
      obtain ⟨q, rfl, hq⟩ := typ_toks (hf 7 _ y7 rfl rfl)
      obtain ⟨s, rfl⟩ := typ_bool (hf 8 _ y8 rfl rfl)
      exact ⟨⟨p, b, c1, c2, c3, c4, c5, q, s⟩, rfl, hp, hb, hq⟩
end Go.Proofs.Ytklmfpikhejemaa.U
