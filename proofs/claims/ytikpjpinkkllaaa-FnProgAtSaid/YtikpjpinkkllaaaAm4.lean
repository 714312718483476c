/- What the operations of a Go program bring about on values without memory, proved once for any program: part 4. No conditions beyond those at each theorem. -/
import Derived.Test.YtikpjpinkkllaaaAm3
import Derived.OpenShut
import Derived.ProofKit
import Derived.Below
import Derived.Carry
import Derived.DataReads
import Derived.DataElems
namespace Go.Proofs.Ytikpjpinkkllaaa.Am
open Go.RowKit AV
set_option linter.unusedVariables false

/-- What is still to be done. -/
inductive It where
  | code (c : Code)
  | ops (all l : List Oper)
  | drw (all : List Oper) (ds : List Nat) (l : List Oper)
  | blk (id : Nat)

def kQ (P : Program) (cw : CW) (vars : List Nat) (Q : Post) : List It → Post
  | [] => Q
  | .code c :: k => thenQ (fun σ => codeW P cw vars c σ (kQ P cw vars Q k)) (kQ P cw vars Q k)
  | .ops all l :: k => thenQ (fun σ => opsW P (CallX P cw) all l σ (fun σ' => kQ P cw vars Q k .normal (tidy vars σ'))) (kQ P cw vars Q k)
  | .drw all ds l :: k => thenQ (fun σ => dW P cw all ds l σ (fun σ' => kQ P cw vars Q k .normal (tidy vars σ'))) (kQ P cw vars Q k)
  | .blk id :: k => blockQ id (kQ P cw vars Q k)
def Run (P : Program) (cw : CW) (vars : List Nat) (Q : Post) (k : List It) (σ : St) : Prop := kQ P cw vars Q k .normal σ
def lEnd (P : Program) (cw : CW) (vars : List Nat) (Q : Post) (k : List It) (σ : St) : Prop := Run P cw vars Q k (tidy vars σ)
def LateR (P : Program) (cw : CW) (vars : List Nat) (Q : Post) (ops : List Oper) (k : List It) (σ : St) : Prop := LateW P cw ops σ (lEnd P cw vars Q k) ∨ (MixW P cw ops σ (lEnd P cw vars Q k) ∨ (MixL P cw ops σ (lEnd P cw vars Q k) ∨ ∃ L, DrawW P cw ops (frzs σ L) (lEnd P cw vars Q k) ∨ (LateW P cw ops (frzs σ L) (lEnd P cw vars Q k) ∨ (MixW P cw ops (frzs σ L) (lEnd P cw vars Q k) ∨ MixL P cw ops (frzs σ L) (lEnd P cw vars Q k)))))
def mK (P : Program) (cw : CW) (all : List Oper) (dm : Nat) (sq : List Nat) (sl : List Nat) (ds : List Nat) (l : List Oper) (K : St → Prop) (σ : St) : Prop := dGW P cw all dm sq sl ds l σ K
def dK (P : Program) (cw : CW) (all : List Oper) (ds : List Nat) (l : List Oper) (K : St → Prop) (σ : St) : Prop := dW P cw all ds l σ K
def guardK (P : Program) (cw : CW) (v : AV) (want : Bool) (o : Oper) (all : List Oper) (ds : List Nat) (l : List Oper) (K : St → Prop) (σ : St) : Prop :=
  match v with
  | .bool b => if b = want then opW P cw σ o (dK P cw all ds l K) else skipW σ o (dK P cw all ds l K)
  | .tup [] => skipW σ o (dK P cw all ds l K)
  | _ => False
def lS (P : Program) (all : List Oper) (l : List Nat) (r : List Oper) (ls : List (List Nat)) (K : St → Prop) (σ : St) : Prop := latesOk P all σ l ∧ lW P all r ls K σ
def condR (P : Program) (cw : CW) (vars : List Nat) (Q : Post) (v : AV) (x y : Code) (k : List It) (σ : St) : Prop :=
  match v with | .bool t => (t = true → Run P cw vars Q (.code x :: k) σ) ∧ (t = false → Run P cw vars Q (.code y :: k) σ) | _ => False
def gslot (σ : St) : Option Oper → AV
  | some og => (match og.dst with | some t => look σ t | none => .tup [])
  | none => .tup []
def guardR (P : Program) (cw : CW) (vars : List Nat) (Q : Post) (v : AV) (want : Bool) (o : Oper) (all l : List Oper) (k : List It) (σ : St) : Prop :=
  match v with
  | .bool b => if b = want then opW P (CallX P cw) σ o (Run P cw vars Q (.ops all l :: k)) else skipW σ o (Run P cw vars Q (.ops all l :: k))
  | .tup [] => skipW σ o (Run P cw vars Q (.ops all l :: k))
  | _ => False
/-- The end of a round. -/
def roundQ {α : Type} (J : α → Prop) (I : α → St) (μ : α → Nat) (g : α) (Q : Post) : Post := thenQ (fun σ' => ∃ g', J g' ∧ (∃ L, Le (frzs σ' L) (I g')) ∧ μ g' < μ g) Q

section
variable {P : Program} {cw : CW} {vars : List Nat} {Q : Post} (k : List It) (σ : St)
theorem run_of {c : Code} {σ : St} (h : Run P cw vars Q [.code c] σ) : codeW P cw vars c σ Q := h
theorem run_nil : Run P cw vars Q [] σ = Q .normal σ := rfl
theorem run_skip : Run P cw vars Q (.code .skip :: k) σ = Run P cw vars Q k σ := rfl
theorem run_seq (x y : Code) : Run P cw vars Q (.code (.seq x y) :: k) σ = Run P cw vars Q (.code x :: .code y :: k) σ := rfl
theorem run_region (id : Nat) (ops : List Oper) : Run P cw vars Q (.code (.region id ⟨ops⟩ false) :: k) σ = Run P cw vars Q (.ops ops ops :: k) σ := rfl
theorem run_draw (id : Nat) (ops : List Oper) : Run P cw vars Q (.code (.region id ⟨ops⟩ true) :: k) σ = ((drawOk P ops = true ∧ Run P cw vars Q (.drw ops (ops.filterMap (·.dst)) ops :: k) σ) ∨ LateR P cw vars Q ops k σ) := rfl
/-- A region in which readings come late: up to operation s0 all is as always; ls tells, store by store, which readings may come behind it. -/
theorem run_late (s0 : Nat) (ls : List (List Nat)) {ops : List Oper} {k : List It} {σ : St} (h1 : lateOk P ops s0 ls = true) (h2 : dK P cw ops ((ops.take s0).filterMap (·.dst)) (ops.take s0) (lW P ops (ops.drop s0) ls (lEnd P cw vars Q k)) σ) : LateR P cw vars Q ops k σ := .inl ⟨s0, ls, h1, h2⟩
/-- A region in which the call whose result goes to slot dm turns what lies at slot sl. -/
theorem run_mix (dm : Nat) (sq : List Nat) (sl : List Nat) {ops : List Oper} {k : List It} {σ : St} (h1 : mixOk P ops dm sq sl = true) (h2 : mK P cw ops dm sq sl (ops.filterMap (·.dst)) ops (lEnd P cw vars Q k) σ) : LateR P cw vars Q ops k σ := .inr (.inl ⟨dm, sq, sl, h1, h2⟩)
/-- The same, where readings come late. sq: the slots of results that come in the text's order. -/
theorem run_mixl (dm : Nat) (sq : List Nat) (sl : List Nat) (s0 : Nat) (ls : List (List Nat)) {ops : List Oper} {k : List It} {σ : St} (h1 : lateG P ops dm sq sl s0 ls = true) (h2 : mK P cw ops dm sq sl ((ops.take s0).filterMap (·.dst)) (ops.take s0) (lW P ops (ops.drop s0) ls (lEnd P cw vars Q k)) σ) : LateR P cw vars Q ops k σ := .inr (.inr (.inl ⟨dm, sq, sl, s0, ls, h1, h2⟩))
/-- The same with what is listed shared from here on. -/
theorem run_frzd (L : List (Nat × List Nat)) {ops : List Oper} {k : List It} {σ : St} (h1 : drawOk P ops = true) (h2 : dK P cw ops (ops.filterMap (·.dst)) ops (lEnd P cw vars Q k) (frzs σ L)) : LateR P cw vars Q ops k σ := .inr (.inr (.inr ⟨L, .inl ⟨h1, h2⟩⟩))
theorem run_frzl (L : List (Nat × List Nat)) (s0 : Nat) (ls : List (List Nat)) {ops : List Oper} {k : List It} {σ : St} (h1 : lateOk P ops s0 ls = true) (h2 : dK P cw ops ((ops.take s0).filterMap (·.dst)) (ops.take s0) (lW P ops (ops.drop s0) ls (lEnd P cw vars Q k)) (frzs σ L)) : LateR P cw vars Q ops k σ := .inr (.inr (.inr ⟨L, .inr (.inl ⟨s0, ls, h1, h2⟩)⟩))
theorem run_frzm (L : List (Nat × List Nat)) (dm : Nat) (sq : List Nat) (sl : List Nat) (s0 : Nat) (ls : List (List Nat)) {ops : List Oper} {k : List It} {σ : St} (h1 : lateG P ops dm sq sl s0 ls = true) (h2 : mK P cw ops dm sq sl ((ops.take s0).filterMap (·.dst)) (ops.take s0) (lW P ops (ops.drop s0) ls (lEnd P cw vars Q k)) (frzs σ L)) : LateR P cw vars Q ops k σ := .inr (.inr (.inr ⟨L, .inr (.inr (.inr ⟨dm, sq, sl, s0, ls, h1, h2⟩))⟩))
theorem lEnd_eq : lEnd P cw vars Q k σ = Run P cw vars Q k (tidy vars σ) := rfl
section
variable {K : St → Prop} (all r : List Oper) (ls : List (List Nat)) (d : Tmp) (ty : TypeId) (pos : String) (af : Array Edge) (g : Option (Nat × Bool))
theorem lw_nil : lW P all [] ls (lEnd P cw vars Q k) σ = Run P cw vars Q k (tidy vars σ) := rfl
theorem lw_move (x) : lW P all (⟨some d, .move x, ty, pos, af, none⟩ :: r) ls K σ = mvX (ev σ x) σ x (some d) (lW P all r ls K) := rfl
theorem lw_nilC (x) : lW P all (⟨some d, .nilCheck x, ty, pos, af, none⟩ :: r) ls K σ = nilW σ x (pureK σ (some d) (lW P all r ls K)) := rfl
theorem lk_nilC (x) : lateK P σ (some ⟨some d, .nilCheck x, ty, pos, af, g⟩) = nilW σ x (sameAs σ d) := rfl
theorem lw_load (t x) : lW P all (⟨some d, .load t x, ty, pos, af, none⟩ :: r) ls K σ = loadW P σ t x (pureK σ (some d) (lW P all r ls K)) := rfl
theorem lw_fieldAddr (t x f) : lW P all (⟨some d, .fieldAddr t x f, ty, pos, af, none⟩ :: r) ls K σ = fieldAddrW P σ t x f (pureK σ (some d) (lW P all r ls K)) := rfl
theorem lw_indexAddr (t x i) : lW P all (⟨some d, .indexAddr t x i, ty, pos, af, none⟩ :: r) ls K σ = indexAddrW P σ t x i (pureK σ (some d) (lW P all r ls K)) := rfl
theorem lw_store (t x v l) : lW P all (⟨none, .store t x v, ty, pos, af, none⟩ :: r) (l :: ls) K σ = storeW P σ t x v (lS P all l r ls K) := rfl
theorem lw_assign (x) : lW P all (⟨some d, .assign x, ty, pos, af, none⟩ :: r) ls K σ = assignW σ x d (lW P all r ls K) := rfl
theorem lw_binOp (op t x y yt) : lW P all (⟨some d, .binOp op t x y yt, ty, pos, af, none⟩ :: r) ls K σ = needW (binA P op t (ev σ x) (ev σ y)) (pureK σ (some d) (lW P all r ls K)) := rfl
theorem lw_unOp (op t x) : lW P all (⟨some d, .unOp op t x, ty, pos, af, none⟩ :: r) ls K σ = needW (unA op (ev σ x)) (pureK σ (some d) (lW P all r ls K)) := rfl
theorem lw_pick (c x y) : lW P all (⟨some d, .pick c x y, ty, pos, af, none⟩ :: r) ls K σ = pickW σ c x y (pureK σ (some d) (lW P all r ls K)) := rfl
theorem lw_index (t x i) : lW P all (⟨some d, .index t x i, ty, pos, af, none⟩ :: r) ls K σ = indexW P σ t x i (pureK σ (some d) (lW P all r ls K)) := rfl
theorem lk_binOp (op t x y yt) : lateK P σ (some ⟨some d, .binOp op t x y yt, ty, pos, af, g⟩) = needW (binA P op t (ev σ x) (ev σ y)) (sameAs σ d) := rfl
theorem lk_unOp (op t x) : lateK P σ (some ⟨some d, .unOp op t x, ty, pos, af, g⟩) = needW (unA op (ev σ x)) (sameAs σ d) := rfl
theorem lk_pick (c x y) : lateK P σ (some ⟨some d, .pick c x y, ty, pos, af, g⟩) = pickW σ c x y (sameAs σ d) := rfl
theorem lk_index (t x i) : lateK P σ (some ⟨some d, .index t x i, ty, pos, af, g⟩) = indexW P σ t x i (sameAs σ d) := rfl
theorem rg_arr (z xs) : rig (.arr z xs) = rigL xs := by rw [rig]
theorem rg_agg (xs) : rig (.agg xs) = rigL xs := by rw [rig]
theorem rg_str (x) : rig (.str x) = true := by rw [rig]
theorem rl_nil : rigL [] = true := by rw [rigL]
theorem rl_cons (x xs) : rigL (x :: xs) = (rigC x && rigL xs) := by rw [rigL]
theorem rc_int (i n) : rigC (.int i n) = true := by rw [rigC]
theorem rc_bool (b) : rigC (.bool b) = true := by rw [rigC]
theorem rc_str (x) : rigC (.str x) = true := by rw [rigC]
theorem rc_arr (z xs) : rigC (.arr z xs) = rigL xs := by rw [rigC]
theorem rc_agg (xs) : rigC (.agg xs) = rigL xs := by rw [rigC]
theorem lw_append (x y t t' l) : lW P all (⟨some d, .call ⟨.builtin .append, ⟨[x, y]⟩, ⟨[t, t']⟩⟩, ty, pos, af, none⟩ :: r) (l :: ls) K σ = opW P noC σ ⟨some d, .call ⟨.builtin .append, ⟨[x, y]⟩, ⟨[t, t']⟩⟩, ty, pos, af, none⟩ (lS P all l r ls K) := rfl
theorem lS_eq (l) : lS P all l r ls K σ = (latesOk P all σ l ∧ lW P all r ls K σ) := rfl
theorem la_nil : latesOk P all σ [] = True := rfl
theorem la_cons (j l) : latesOk P all σ (j :: l) = (lateK P σ all[j]? ∧ latesOk P all σ l) := rfl
theorem lk_move (x) : lateK P σ (some ⟨some d, .move x, ty, pos, af, g⟩) = moveW σ x (sameAs σ d) := rfl
theorem lk_load (t x) : lateK P σ (some ⟨some d, .load t x, ty, pos, af, g⟩) = loadW P σ t x (sameAs σ d) := rfl
theorem lk_fieldAddr (t x f) : lateK P σ (some ⟨some d, .fieldAddr t x f, ty, pos, af, g⟩) = fieldAddrW P σ t x f (sameAs σ d) := rfl
theorem lk_indexAddr (t x i) : lateK P σ (some ⟨some d, .indexAddr t x i, ty, pos, af, g⟩) = indexAddrW P σ t x i (sameAs σ d) := rfl
theorem sa_eq (d y) : sameAs σ d y = (rig y = true ∧ look σ d = y) := rfl
theorem rg_int (i n) : rig (.int i n) = true := by rw [rig]
theorem rg_bool (b) : rig (.bool b) = true := by rw [rig]
theorem rg_vref (s p) : rig (.vref s p) = true := by rw [rig]
theorem rg_ptr (s p) : rig (.ptr s p) = true := by rw [rig]
end
theorem run_drw (all : List Oper) (ds : List Nat) : Run P cw vars Q (.drw all ds [] :: k) σ = Run P cw vars Q k (tidy vars σ) := rfl
theorem run_ops (all : List Oper) : Run P cw vars Q (.ops all [] :: k) σ = Run P cw vars Q k (tidy vars σ) := rfl
theorem run_cond (c : Operand) (x y : Code) : Run P cw vars Q (.code (.cond c x y) :: k) σ = condR P cw vars Q (ev σ c) x y k σ := by
  unfold condR
  show codeW P cw vars (.cond c x y) σ _ = _
  simp only [codeW]
  rfl
theorem cond_t (x y : Code) : condR P cw vars Q (.bool true) x y k σ = Run P cw vars Q (.code x :: k) σ := by simp [condR]
theorem cond_f (x y : Code) : condR P cw vars Q (.bool false) x y k σ = Run P cw vars Q (.code y :: k) σ := by simp [condR]
theorem cond_split {t : Bool} {x y : Code} {σ : St} {k : List It} (h1 : t = true → Run P cw vars Q (.code x :: k) σ) (h2 : t = false → Run P cw vars Q (.code y :: k) σ) : condR P cw vars Q (.bool t) x y k σ := ⟨h1, h2⟩
theorem run_block (id : Nat) (b : Code) : Run P cw vars Q (.code (.block id b) :: k) σ = Run P cw vars Q (.code b :: .blk id :: k) σ := rfl
theorem run_blk (id : Nat) : Run P cw vars Q (.blk id :: k) σ = Run P cw vars Q k σ := rfl
theorem run_exit (id : Nat) : Run P cw vars Q (.code (.exit id) :: k) σ = kQ P cw vars Q k (.exit id) σ := rfl
theorem kx_nil (e : Exit) : kQ P cw vars Q [] e σ = Q e σ := rfl
theorem kx_code (id : Nat) (c : Code) : kQ P cw vars Q (.code c :: k) (.exit id) σ = kQ P cw vars Q k (.exit id) σ := rfl
theorem kx_blk (id id' : Nat) : kQ P cw vars Q (.blk id' :: k) (.exit id) σ = if id = id' then Run P cw vars Q k σ else kQ P cw vars Q k (.exit id) σ := rfl
theorem run_ret : Run P cw vars Q (.code .ret :: k) σ = kQ P cw vars Q k .ret σ := rfl
theorem kr_code (c : Code) : kQ P cw vars Q (.code c :: k) .ret σ = kQ P cw vars Q k .ret σ := rfl
theorem kr_blk (id' : Nat) : kQ P cw vars Q (.blk id' :: k) .ret σ = kQ P cw vars Q k .ret σ := rfl
/-- A loop. -/
theorem run_loop {α : Type} (J : α → Prop) (I : α → St) (μ : α → Nat) (g0 : α) {b : Code} {k : List It} {σ : St} (hJ : J g0) (hI : Le σ (I g0))
    (round : ∀ g, J g → Run P cw vars (roundQ J I μ g (kQ P cw vars Q k)) [.code b] (I g)) : Run P cw vars Q (.code (.loop b) :: k) σ :=
  ⟨α, J, I, μ, ⟨g0, hJ, [], hI⟩, round⟩
/-- The same, where these places are shared from the first round on. -/
theorem run_loopF (L : List (Nat × List Nat)) {α : Type} (J : α → Prop) (I : α → St) (μ : α → Nat) (g0 : α) {b : Code} {k : List It} {σ : St} (hJ : J g0) (hI : Le (frzs σ L) (I g0))
    (round : ∀ g, J g → Run P cw vars (roundQ J I μ g (kQ P cw vars Q k)) [.code b] (I g)) : Run P cw vars Q (.code (.loop b) :: k) σ :=
  ⟨α, J, I, μ, ⟨g0, hJ, L, hI⟩, round⟩
theorem round_frz (L : List (Nat × List Nat)) {α : Type} {J : α → Prop} {I : α → St} {μ : α → Nat} {g : α} {R : Post} {σ : St} (g' : α) (h1 : J g') (h2 : Le (frzs σ L) (I g')) (h3 : μ g' < μ g) : roundQ J I μ g R .normal σ := ⟨g', h1, ⟨L, h2⟩, h3⟩
theorem round_normal {α : Type} {J : α → Prop} {I : α → St} {μ : α → Nat} {g : α} {R : Post} {σ : St} (g' : α) (h1 : J g') (h2 : Le σ (I g')) (h3 : μ g' < μ g) : roundQ J I μ g R .normal σ := ⟨g', h1, ⟨[], h2⟩, h3⟩
theorem round_exit {α : Type} (J : α → Prop) (I : α → St) (μ : α → Nat) (g : α) (id : Nat) : roundQ J I μ g (kQ P cw vars Q k) (.exit id) σ = kQ P cw vars Q k (.exit id) σ := rfl
theorem round_ret {α : Type} (J : α → Prop) (I : α → St) (μ : α → Nat) (g : α) : roundQ J I μ g (kQ P cw vars Q k) .ret σ = kQ P cw vars Q k .ret σ := rfl
theorem retQ_ret (rs ks : List Nat) (res : AV) (outs : List AV) : retQ rs ks res outs .ret σ = retW rs ks res outs σ := rfl
theorem retQ_normal (rs ks : List Nat) (res : AV) (outs : List AV) : retQ rs ks res outs .normal σ = retW rs ks res outs σ := rfl
end

section
variable {P : Program} {cw : CW} {vars : List Nat} {Q : Post} (all l : List Oper) (k : List It) (σ : St) (dst : Option Tmp) (op : Op) (ty : TypeId) (pos : String) (af : Array Edge)
theorem ops_none : Run P cw vars Q (.ops all (⟨dst, op, ty, pos, af, none⟩ :: l) :: k) σ = opW P (CallX P cw) σ ⟨dst, op, ty, pos, af, none⟩ (Run P cw vars Q (.ops all l :: k)) := rfl
theorem ops_some (i : Nat) (want : Bool) : Run P cw vars Q (.ops all (⟨dst, op, ty, pos, af, some (i, want)⟩ :: l) :: k) σ = guardR P cw vars Q (gslot σ all[i]?) want ⟨dst, op, ty, pos, af, some (i, want)⟩ all l k σ := by
  have e : ∀ o, Run P cw vars Q (.ops all (o :: l) :: k) σ = condW σ all o (opW P (CallX P cw) σ o (Run P cw vars Q (.ops all l :: k))) (skipW σ o (Run P cw vars Q (.ops all l :: k))) := fun _ => rfl
  rw [e]
  unfold condW
  simp only
  cases all[i]? with
  | none => rfl
  | some og =>
    obtain ⟨d, o1, o2, o3, o4, o5⟩ := og
    cases d with
    | none => rfl
    | some d => rfl
def guardD (P : Program) (cw : CW) (vars : List Nat) (Q : Post) (v : AV) (want : Bool) (o : Oper) (all : List Oper) (ds : List Nat) (l : List Oper) (k : List It) (σ : St) : Prop :=
  match v with
  | .bool b => if b = want then opW P cw σ o (Run P cw vars Q (.drw all ds l :: k)) else skipW σ o (Run P cw vars Q (.drw all ds l :: k))
  | .tup [] => skipW σ o (Run P cw vars Q (.drw all ds l :: k))
  | _ => False
def chk (P : Program) (all : List Oper) (o : Oper) (ss : List Nat) (ds : List Nat) (σ : St) : Prop := isP P all o = true → ss.all (chkO all o σ ds) = true
theorem drw_none (ds : List Nat) : Run P cw vars Q (.drw all ds (⟨dst, op, ty, pos, af, none⟩ :: l) :: k) σ = (chk P all ⟨dst, op, ty, pos, af, none⟩ (looks all ⟨dst, op, ty, pos, af, none⟩) ds σ ∧ opW P cw σ ⟨dst, op, ty, pos, af, none⟩ (Run P cw vars Q (.drw all ds l :: k))) := rfl
theorem drw_some (ds : List Nat) (i : Nat) (want : Bool) : Run P cw vars Q (.drw all ds (⟨dst, op, ty, pos, af, some (i, want)⟩ :: l) :: k) σ = (chk P all ⟨dst, op, ty, pos, af, some (i, want)⟩ (looks all ⟨dst, op, ty, pos, af, some (i, want)⟩) ds σ ∧ guardD P cw vars Q (gslot σ all[i]?) want ⟨dst, op, ty, pos, af, some (i, want)⟩ all ds l k σ) := by
  have e : ∀ o, Run P cw vars Q (.drw all ds (o :: l) :: k) σ = (chk P all o (looks all o) ds σ ∧ condW σ all o (opW P cw σ o (Run P cw vars Q (.drw all ds l :: k))) (skipW σ o (Run P cw vars Q (.drw all ds l :: k)))) := fun _ => rfl
  rw [e]
  unfold condW
  simp only
  cases all[i]? with
  | none => rfl
  | some og =>
    obtain ⟨d, o1, o2, o3, o4, o5⟩ := og
    cases d with
    | none => rfl
    | some d => rfl
section
variable (K : St → Prop) (ds : List Nat)
def MAppF (P : Program) (ss : List Nat) (x y : Operand) (t t' : TypeId) (d : Nat) (σ : St) (K : St → Prop) : Prop := ∃ s0, ss = [s0] ∧ MApp P s0 x y t t' d σ K
def MCutF (P : Program) (ss : List Nat) (t : TypeId) (x y : Operand) (d : Nat) (σ : St) (K : St → Prop) : Prop := ∃ s0, ss = [s0] ∧ MCut P s0 t x y d σ K
theorem mcut_1 (s0 : Nat) (t : TypeId) (x y : Operand) (d : Nat) : MCutF P [s0] t x y d σ K = MCut P s0 t x y d σ K := by
  apply propext
  constructor
  · rintro ⟨s, h1, h2⟩; cases h1; exact h2
  · exact fun h => ⟨s0, rfl, h⟩
theorem mapp_1 (s0 : Nat) (x y : Operand) (t t' : TypeId) (d : Nat) : MAppF P [s0] x y t t' d σ K = MApp P s0 x y t t' d σ K := by
  apply propext
  constructor
  · rintro ⟨s, h1, h2⟩; cases h1; exact h2
  · exact fun h => ⟨s0, rfl, h⟩
theorem mx_nil (dm : Nat) (sl sq ds : List Nat) : mK P cw all dm sq sl ds [] K σ = K σ := rfl
theorem mx_op {dm : Nat} {sl sq ds : List Nat} {o : Oper} (hm : isM dm o = false) (hg : o.guard = none) : mK P cw all dm sq sl ds (o :: l) K σ = ((inSq sq o = true ∨ chk P all o (looks all o) (sl ++ ds) σ) ∧ opW P cw σ o (mK P cw all dm sq sl ds l K)) := by
  have e : chkG all dm sl o σ ds = chkO all o σ (sl ++ ds) := by funext s; simp [chkG, hm]
  show ((isG P all dm sq o = true → (looks all o).all (chkG all dm sl o σ ds) = true) ∧ gW P cw all dm sl o σ (mK P cw all dm sq sl ds l K)) = _
  rw [e]
  unfold gW isG
  rw [hm, Bool.false_or]
  show (_ ∧ stepW P cw all o σ (mK P cw all dm sq sl ds l K)) = _
  unfold stepW condW
  rw [hg]
  cases inSq sq o with
  | true => simp
  | false => simp [chk]
theorem mx_none {dm : Nat} {sl sq ds : List Nat} (hs : dm < 2000000) : mK P cw all dm sq sl ds (⟨none, op, ty, pos, af, none⟩ :: l) K σ = (chk P all ⟨none, op, ty, pos, af, none⟩ (looks all ⟨none, op, ty, pos, af, none⟩) (sl ++ ds) σ ∧ opW P cw σ ⟨none, op, ty, pos, af, none⟩ (mK P cw all dm sq sl ds l K)) := by
  rw [mx_op (σ := σ) (hm := by simp [isM]; omega) (hg := rfl)]
  simp [inSq]
theorem mx_some {dm : Nat} {sl sq ds : List Nat} {d : Nat} (h : d ≠ dm % 2000000) : mK P cw all dm sq sl ds (⟨some d, op, ty, pos, af, none⟩ :: l) K σ = ((sq.contains d = true ∨ chk P all ⟨some d, op, ty, pos, af, none⟩ (looks all ⟨some d, op, ty, pos, af, none⟩) (sl ++ ds) σ) ∧ opW P cw σ ⟨some d, op, ty, pos, af, none⟩ (mK P cw all dm sq sl ds l K)) := by
  rw [mx_op (σ := σ) (hm := by simp [isM, h]) (hg := rfl)]
  rfl
theorem mx_m {dm : Nat} {sl sq ds : List Nat} {o : Oper} (hm : isM dm o = true) (hg : o.guard = none) : mK P cw all dm sq sl ds (o :: l) K σ = ((looks all o).all (check1 σ ds) = true ∧ mStepW P sl o σ (mK P cw all dm sq sl ds l K)) := by
  have e : chkG all dm sl o σ ds = check1 σ ds := by funext s; simp [chkG, hm]
  show ((isG P all dm sq o = true → (looks all o).all (chkG all dm sl o σ ds) = true) ∧ gW P cw all dm sl o σ (mK P cw all dm sq sl ds l K)) = _
  rw [e]
  unfold gW isG
  rw [hm, Bool.true_or]
  simp only [true_implies, hg, true_and]
theorem mx_call {dm : Nat} {sl sq ds : List Nat} {d : Nat} (h : d = dm % 2000000) (f : FuncId) (xs : List Operand) (ats : Array TypeId) : mK P cw all dm sq sl ds (⟨some d, .call ⟨.value (.func f), ⟨xs⟩, ats⟩, ty, pos, af, none⟩ :: l) K σ = ((looks all ⟨some d, .call ⟨.value (.func f), ⟨xs⟩, ats⟩, ty, pos, af, none⟩).all (check1 σ ds) = true ∧ MStepG P sl f xs (some d) σ (mK P cw all dm sq sl ds l K)) := mx_m (σ := σ) (hm := by simp [isM, h, isCall]) (hg := rfl) ..
theorem mx_app {dm : Nat} {sl sq ds : List Nat} {d : Nat} (h : d = dm % 2000000) (x y : Operand) (t t' : TypeId) : mK P cw all dm sq sl ds (⟨some d, .call ⟨.builtin .append, ⟨[x, y]⟩, ⟨[t, t']⟩⟩, ty, pos, af, none⟩ :: l) K σ = ((looks all ⟨some d, .call ⟨.builtin .append, ⟨[x, y]⟩, ⟨[t, t']⟩⟩, ty, pos, af, none⟩).all (check1 σ ds) = true ∧ MAppF P sl x y t t' d σ (mK P cw all dm sq sl ds l K)) := mx_m (σ := σ) (hm := by simp [isM, h, isCall]) (hg := rfl) ..
theorem mx_cut {dm : Nat} {sl sq ds : List Nat} {d : Nat} (h : d = dm % 2000000) (t : TypeId) (x y : Operand) : mK P cw all dm sq sl ds (⟨some d, .slice t x none (some y) none, ty, pos, af, none⟩ :: l) K σ = ((looks all ⟨some d, .slice t x none (some y) none, ty, pos, af, none⟩).all (check1 σ ds) = true ∧ MCutF P sl t x y d σ (mK P cw all dm sq sl ds l K)) := mx_m (σ := σ) (hm := by simp [isM, h, isCall]) (hg := rfl) ..
theorem mx_stn {dm : Nat} {sl sq ds : List Nat} (t : TypeId) (s q : Nat) (h : s + 1 ≠ dm / 2000000) : mK P cw all dm sq sl ds (⟨none, .store t (.tmp s) (.tmp q), ty, pos, af, none⟩ :: l) K σ = (chk P all ⟨none, .store t (.tmp s) (.tmp q), ty, pos, af, none⟩ (looks all ⟨none, .store t (.tmp s) (.tmp q), ty, pos, af, none⟩) (sl ++ ds) σ ∧ opW P cw σ ⟨none, .store t (.tmp s) (.tmp q), ty, pos, af, none⟩ (mK P cw all dm sq sl ds l K)) := by
  rw [mx_op (σ := σ) (hm := by simp [isM, stoN, h]) (hg := rfl)]
  simp [inSq]
theorem mx_sto {dm : Nat} {sl sq ds : List Nat} (t : TypeId) (s q : Nat) (h : s + 1 = dm / 2000000) (h2 : 2000000 ≤ dm) : mK P cw all dm sq sl ds (⟨none, .store t (.tmp s) (.tmp q), ty, pos, af, none⟩ :: l) K σ = ((looks all ⟨none, .store t (.tmp s) (.tmp q), ty, pos, af, none⟩).all (check1 σ ds) = true ∧ MSto P sl t s q σ (mK P cw all dm sq sl ds l K)) := mx_m (σ := σ) (hm := by simp [isM, stoN, h, h2]) (hg := rfl) ..
theorem dk_nil : dK P cw all ds [] K σ = K σ := rfl
theorem dk_none : dK P cw all ds (⟨dst, op, ty, pos, af, none⟩ :: l) K σ = (chk P all ⟨dst, op, ty, pos, af, none⟩ (looks all ⟨dst, op, ty, pos, af, none⟩) ds σ ∧ opW P cw σ ⟨dst, op, ty, pos, af, none⟩ (dK P cw all ds l K)) := rfl
theorem dk_some (i : Nat) (want : Bool) : dK P cw all ds (⟨dst, op, ty, pos, af, some (i, want)⟩ :: l) K σ = (chk P all ⟨dst, op, ty, pos, af, some (i, want)⟩ (looks all ⟨dst, op, ty, pos, af, some (i, want)⟩) ds σ ∧ guardK P cw (gslot σ all[i]?) want ⟨dst, op, ty, pos, af, some (i, want)⟩ all ds l K σ) := by
  have e : ∀ o, dK P cw all ds (o :: l) K σ = (chk P all o (looks all o) ds σ ∧ condW σ all o (opW P cw σ o (dK P cw all ds l K)) (skipW σ o (dK P cw all ds l K))) := fun _ => rfl
  rw [e]
  unfold condW
  simp only
  cases all[i]? with
  | none => rfl
  | some og =>
    obtain ⟨d, o1, o2, o3, o4, o5⟩ := og
    cases d with
    | none => rfl
    | some d => rfl
theorem gk_tt (o : Oper) : guardK P cw (.bool true) true o all ds l K σ = opW P cw σ o (dK P cw all ds l K) := rfl
theorem gk_ff (o : Oper) : guardK P cw (.bool false) false o all ds l K σ = opW P cw σ o (dK P cw all ds l K) := rfl
theorem gk_tf (o : Oper) : guardK P cw (.bool true) false o all ds l K σ = skipW σ o (dK P cw all ds l K) := rfl
theorem gk_ft (o : Oper) : guardK P cw (.bool false) true o all ds l K σ = skipW σ o (dK P cw all ds l K) := rfl
theorem gk_skip (want : Bool) (o : Oper) : guardK P cw (.tup []) want o all ds l K σ = skipW σ o (dK P cw all ds l K) := rfl
end
theorem gd_tt (ds) (o : Oper) : guardD P cw vars Q (.bool true) true o all ds l k σ = opW P cw σ o (Run P cw vars Q (.drw all ds l :: k)) := rfl
theorem gd_ff (ds) (o : Oper) : guardD P cw vars Q (.bool false) false o all ds l k σ = opW P cw σ o (Run P cw vars Q (.drw all ds l :: k)) := rfl
theorem gd_tf (ds) (o : Oper) : guardD P cw vars Q (.bool true) false o all ds l k σ = skipW σ o (Run P cw vars Q (.drw all ds l :: k)) := rfl
theorem gd_ft (ds) (o : Oper) : guardD P cw vars Q (.bool false) true o all ds l k σ = skipW σ o (Run P cw vars Q (.drw all ds l :: k)) := rfl
theorem gd_skip (ds) (want : Bool) (o : Oper) : guardD P cw vars Q (.tup []) want o all ds l k σ = skipW σ o (Run P cw vars Q (.drw all ds l :: k)) := rfl
theorem guard_tt (o : Oper) : guardR P cw vars Q (.bool true) true o all l k σ = opW P (CallX P cw) σ o (Run P cw vars Q (.ops all l :: k)) := rfl
theorem guard_ff (o : Oper) : guardR P cw vars Q (.bool false) false o all l k σ = opW P (CallX P cw) σ o (Run P cw vars Q (.ops all l :: k)) := rfl
theorem guard_tf (o : Oper) : guardR P cw vars Q (.bool true) false o all l k σ = skipW σ o (Run P cw vars Q (.ops all l :: k)) := rfl
theorem guard_ft (o : Oper) : guardR P cw vars Q (.bool false) true o all l k σ = skipW σ o (Run P cw vars Q (.ops all l :: k)) := rfl
theorem guard_skip (want : Bool) (o : Oper) : guardR P cw vars Q (.tup []) want o all l k σ = skipW σ o (Run P cw vars Q (.ops all l :: k)) := rfl
theorem gslot_some (t : Tmp) (g : Option (Nat × Bool)) : gslot σ (some ⟨some t, op, ty, pos, af, g⟩) = look σ t := rfl
end

section
variable {P : Program} {cw : CW} {σ : St} {K : St → Prop} (dst : Option Tmp) (ty : TypeId) (pos : String) (af : Array Edge) (g : Option (Nat × Bool))
theorem op_move (x) : opW P cw σ ⟨dst, .move x, ty, pos, af, g⟩ K = mvX (ev σ x) σ x dst K := rfl
section
variable (x : Operand)
theorem mv_int (a0 a1) : mvX (.int a0 a1) σ x dst K = moveW σ x (pureK σ dst K) := by cases dst <;> rfl
theorem mv_bool (a0) : mvX (.bool a0) σ x dst K = moveW σ x (pureK σ dst K) := by cases dst <;> rfl
theorem mv_str (a0) : mvX (.str a0) σ x dst K = moveW σ x (pureK σ dst K) := by cases dst <;> rfl
theorem mv_oth (a0) : mvX (.oth a0) σ x dst K = moveW σ x (pureK σ dst K) := by cases dst <;> rfl
theorem mv_sl (a0 a1 a2) : mvX (.sl a0 a1 a2) σ x dst K = moveW σ x (pureK σ dst K) := by cases dst <;> rfl
theorem mv_agg (a0) : mvX (.agg a0) σ x dst K = moveW σ x (pureK σ dst K) := by cases dst <;> rfl
theorem mv_arr (a0 a1) : mvX (.arr a0 a1) σ x dst K = moveW σ x (pureK σ dst K) := by cases dst <;> rfl
theorem mv_box (a0) : mvX (.box a0) σ x dst K = moveW σ x (pureK σ dst K) := by cases dst <;> rfl
theorem mv_dptr (a0) : mvX (.dptr a0) σ x dst K = moveW σ x (pureK σ dst K) := by cases dst <;> rfl
theorem mv_vref (a0 a1) : mvX (.vref a0 a1) σ x dst K = moveW σ x (pureK σ dst K) := by cases dst <;> rfl
theorem mv_vagg (a0 a1) : mvX (.vagg a0 a1) σ x dst K = moveW σ x (pureK σ dst K) := by cases dst <;> rfl
theorem mv_vsub (a0 a1 a2 a3) : mvX (.vsub a0 a1 a2 a3) σ x dst K = moveW σ x (pureK σ dst K) := by cases dst <;> rfl
theorem mv_ptr (a0 a1) : mvX (.ptr a0 a1) σ x dst K = moveW σ x (pureK σ dst K) := by cases dst <;> rfl
theorem mv_tup (vs : List AV) (d : Tmp) : mvX (.tup vs) σ x (some d) K = (if plainL vs = true then moveW σ x (pureK σ (some d) K) else assignW σ x d K) := rfl
end
theorem op_nil (x) : opW P cw σ ⟨dst, .nilCheck x, ty, pos, af, g⟩ K = nilW σ x (pureK σ dst K) := rfl
theorem op_assign (x d) : opW P cw σ ⟨some d, .assign x, ty, pos, af, g⟩ K = assignW σ x d K := rfl
theorem op_pick (c x y) : opW P cw σ ⟨dst, .pick c x y, ty, pos, af, g⟩ K = pickW σ c x y (pureK σ dst K) := rfl
theorem op_alloc (t d) : opW P cw σ ⟨some d, .alloc t, ty, pos, af, g⟩ K = allocW P σ t d K := rfl
theorem op_box (t x d) : opW P cw σ ⟨some d, .box t x, ty, pos, af, g⟩ K = boxW σ x d K := rfl
theorem op_build (t ps d) : opW P cw σ ⟨some d, .build t ⟨ps⟩, ty, pos, af, g⟩ K = buildW P σ t ps d K := rfl
theorem op_buildSlice (t n ps d) : opW P cw σ ⟨some d, .buildSlice t n ⟨ps⟩, ty, pos, af, g⟩ K = buildSliceW P σ t n ps d K := rfl
theorem op_load (t x) : opW P cw σ ⟨dst, .load t x, ty, pos, af, g⟩ K = loadW P σ t x (pureK σ dst K) := rfl
theorem op_store (t x v) : opW P cw σ ⟨none, .store t x v, ty, pos, af, g⟩ K = storeW P σ t x v K := rfl
theorem op_binOp (op t x y yt) : opW P cw σ ⟨dst, .binOp op t x y yt, ty, pos, af, g⟩ K = needW (binA P op t (ev σ x) (ev σ y)) (pureK σ dst K) := rfl
theorem op_unOp (op t x) : opW P cw σ ⟨dst, .unOp op t x, ty, pos, af, g⟩ K = needW (unA op (ev σ x)) (pureK σ dst K) := rfl
theorem op_convert (s t x) : opW P cw σ ⟨dst, .convert s t x, ty, pos, af, g⟩ K = convertW P σ s t x dst K := rfl
theorem op_makeSlice (t l c d) : opW P cw σ ⟨some d, .makeSlice t l c, ty, pos, af, g⟩ K = makeW P σ t l c d K := rfl
theorem op_slice (t x lo hi) : opW P cw σ ⟨dst, .slice t x lo hi none, ty, pos, af, g⟩ K = sliceStrW P σ t x lo hi (pureK σ dst K) := rfl
theorem op_fieldAddr (t x f) : opW P cw σ ⟨dst, .fieldAddr t x f, ty, pos, af, g⟩ K = fieldAddrW P σ t x f (pureK σ dst K) := rfl
theorem op_indexAddr (t x i) : opW P cw σ ⟨dst, .indexAddr t x i, ty, pos, af, g⟩ K = indexAddrW P σ t x i (pureK σ dst K) := rfl
theorem op_index (t x i) : opW P cw σ ⟨dst, .index t x i, ty, pos, af, g⟩ K = indexW P σ t x i (pureK σ dst K) := rfl
theorem op_extract (x i d) : opW P cw σ ⟨some d, .extract x i, ty, pos, af, g⟩ K = extractW σ x i d K := rfl
theorem op_len (x t) : opW P cw σ ⟨dst, .call ⟨.builtin .len, ⟨[x]⟩, ⟨[t]⟩⟩, ty, pos, af, g⟩ K = lenW σ P t x (pureK σ dst K) := rfl
def appW (P : Program) (σ : St) (t t' : TypeId) (x y : Operand) (d : Tmp) (K : St → Prop) : Prop := t = t' ∧ (match srcOf (pull σ x) y with
      | .slo _ _ _ ys => if plainL ys then appendW P σ t x y d K else appendMW P σ t x y d K
      | _ => appendW P σ t x y d K)
theorem op_append (x y t t' d) : opW P cw σ ⟨some d, .call ⟨.builtin .append, ⟨[x, y]⟩, ⟨[t, t']⟩⟩, ty, pos, af, g⟩ K = appW P σ t t' x y d K := rfl
theorem op_call (f xs ats) : opW P (CallW P) σ ⟨dst, .call ⟨.value (.func f), ⟨xs⟩, ats⟩, ty, pos, af, g⟩ K = CallL P f xs dst σ K := by
  show (match (Callee.value (.func f)), xs, ats.toList, dst with
    | .builtin .len, [x], [t], dst => lenW σ P t x (pureK σ dst K)
    | .builtin .append, [x, y], [t, t'], some d => t = t' ∧ (match srcOf (pull σ x) y with
      | .slo _ _ _ ys => if plainL ys then appendW P σ t x y d K else appendMW P σ t x y d K
      | _ => appendW P σ t x y d K)
    | _, _, _, dst => CallW P ⟨.value (.func f), ⟨xs⟩, ats⟩ dst σ K) = _
  rfl
/-- A call in the text's order: it looks, or it turns one thing; some things may be shared ahead of it. -/
def CallB (P : Program) (f : FuncId) (xs : List Operand) (dst : Option Tmp) (σ : St) (K : St → Prop) : Prop := (∃ L, CallL P f xs dst (frzs σ L) K ∨ CallM P f xs dst (frzs σ L) K) ∨ (CallVW P f xs dst σ K ∨ CallMk P f xs dst σ K)
theorem op_callX (f xs ats) : opW P (CallX P (CallW P)) σ ⟨dst, .call ⟨.value (.func f), ⟨xs⟩, ats⟩, ty, pos, af, g⟩ K = CallB P f xs dst σ K := by
  have h : opW P (CallX P (CallW P)) σ ⟨dst, .call ⟨.value (.func f), ⟨xs⟩, ats⟩, ty, pos, af, g⟩ K = CallX P (CallW P) ⟨.value (.func f), ⟨xs⟩, ats⟩ dst σ K := by
    show (match (Callee.value (.func f)), xs, ats.toList, dst with
      | .builtin .len, [x], [t], dst => lenW σ P t x (pureK σ dst K)
      | .builtin .append, [x, y], [t, t'], some d => t = t' ∧ (match srcOf (pull σ x) y with
        | .slo _ _ _ ys => if plainL ys then appendW P σ t x y d K else appendMW P σ t x y d K
        | _ => appendW P σ t x y d K)
      | _, _, _, dst => CallX P (CallW P) ⟨.value (.func f), ⟨xs⟩, ats⟩ dst σ K) = _
    rfl
  rw [h]
  apply propext
  unfold CallX CallB
  constructor
  · rintro (⟨L, h⟩ | ⟨f', e, L, h⟩ | ⟨x, y, t, t', e, _⟩ | ⟨f', e, h⟩)
    · exact .inl ⟨L, .inl h⟩
    · simp only [Callee.value.injEq, Operand.func.injEq] at e; subst e; exact .inl ⟨L, .inr h⟩
    · simp at e
    · simp only [Callee.value.injEq, Operand.func.injEq] at e; subst e; exact .inr h
  · rintro (⟨L, h | h⟩ | h)
    · exact .inl ⟨L, h⟩
    · exact .inr (.inl ⟨f, rfl, L, h⟩)
    · exact .inr (.inr (.inr ⟨f, rfl, h⟩))
theorem op_copyX (x y t t') : opW P (CallX P (CallW P)) σ ⟨dst, .call ⟨.builtin .copy, ⟨[x, y]⟩, ⟨[t, t']⟩⟩, ty, pos, af, g⟩ K = copyW P σ t x y dst K := by
  have h : opW P (CallX P (CallW P)) σ ⟨dst, .call ⟨.builtin .copy, ⟨[x, y]⟩, ⟨[t, t']⟩⟩, ty, pos, af, g⟩ K = CallX P (CallW P) ⟨.builtin .copy, ⟨[x, y]⟩, ⟨[t, t']⟩⟩ dst σ K := rfl
  rw [h]
  apply propext
  unfold CallX CallW
  constructor
  · rintro (⟨L, h⟩ | ⟨f', e, L, h⟩ | ⟨x', y', t1, t1', e, h⟩ | ⟨f', e, h⟩)
    · exact h.elim
    · simp at e
    · simp only [Call.mk.injEq, true_and] at e
      obtain ⟨e1, e2⟩ := e
      injection e1 with e1
      injection e2 with e2
      simp only [List.cons.injEq, and_true] at e1 e2
      obtain ⟨rfl, rfl⟩ := e1
      obtain ⟨rfl, rfl⟩ := e2
      exact h
    · simp at e
  · intro h
    exact .inr (.inr (.inl ⟨x, y, t, t', rfl, h⟩))
theorem newsOf_some (d : Nat) (res : AV) (s : Nat) (z : AV) : newsOf (some d) res s z = [(d, res), (s, z)] := rfl
theorem newsOf_none (res : AV) (s : Nat) (z : AV) : newsOf none res s z = [(s, z)] := rfl
theorem skip_some (op : Op) (d : Tmp) : skipW σ ⟨some d, op, ty, pos, af, g⟩ K = K (put σ d (.tup []) []) := rfl
theorem skip_none (op : Op) : skipW σ ⟨none, op, ty, pos, af, g⟩ K = K σ := rfl
/-- What is handed on is what the callee wants. -/
def argsOk (a : Option (List AV)) (args : List AV) : Prop := match a with | some a0 => leL a0 args | none => False
theorem argsOk_iff {a : Option (List AV)} {args : List AV} : argsOk a args ↔ ∃ a0, a = some a0 ∧ leL a0 args := by
  cases a with
  | none => simp [argsOk]
  | some a0 => simp [argsOk]
theorem argsOk_some (a0 args : List AV) : argsOk (some a0) args = leL a0 args := rfl
/-- A call. -/
theorem call_of {f : FuncId} {xs : List Operand} {d : Tmp} {σ : St} {args : List AV} {res : AV} {outs : List AV} (F : Fits P f args res outs) (h1 : argsOk (argsOf σ xs) args) (h2 : closed res = true ∨ valOnly σ xs = true) (h3 : res.target = none) (h4 : K (put σ d res [])) : CallL P f xs (some d) σ K := by
  obtain ⟨a0, h1, h1'⟩ := argsOk_iff.1 h1
  exact ⟨a0, args, res, outs, F, h1, h1', h2, h3, h4⟩
theorem callb_of {f : FuncId} {xs : List Operand} {d : Tmp} {σ : St} {args : List AV} {res : AV} {outs : List AV} (F : Fits P f args res outs) (h1 : argsOk (argsOf σ xs) args) (h2 : closed res = true ∨ valOnly σ xs = true) (h3 : res.target = none) (h4 : K (put σ d res [])) : CallB P f xs (some d) σ K := by
  obtain ⟨a0, h1, h1'⟩ := argsOk_iff.1 h1
  exact .inl ⟨[], .inl ⟨a0, args, res, outs, F, h1, h1', h2, h3, h4⟩⟩
theorem callf_of (L : List (Nat × List Nat)) {f : FuncId} {xs : List Operand} {d : Tmp} {σ : St} {args : List AV} {res : AV} {outs : List AV} (F : Fits P f args res outs) (h1 : argsOk (argsOf (frzs σ L) xs) args) (h2 : closed res = true ∨ valOnly (frzs σ L) xs = true) (h3 : res.target = none) (h4 : K (put (frzs σ L) d res [])) : CallB P f xs (some d) σ K := by
  obtain ⟨a0, h1, h1'⟩ := argsOk_iff.1 h1
  exact .inl ⟨L, .inl ⟨a0, args, res, outs, F, h1, h1', h2, h3, h4⟩⟩
def vOk (σ : St) (xs : List Operand) (d : Tmp) (args : List AV) (res : AV) (K : St → Prop) : Prop := (usedOf (pulls σ xs) xs).Nodup ∧ leL (xs.map (ev (pulls σ xs))) args ∧ res.target = none ∧ K (put (pulls σ xs) d res (usedOf (pulls σ xs) xs))
theorem callV {f : FuncId} {xs : List Operand} {d : Tmp} {σ : St} {args : List AV} {res : AV} (F : Fits P f args res []) (h : vOk σ xs d args res K) : CallB P f xs (some d) σ K :=
  .inr (.inl ⟨args, res, d, rfl, F, h.1, h.2.1, h.2.2.1, h.2.2.2⟩)
/-- A call that turns the thing that its operand number i leads to. -/
theorem callm_of (i : Nat) {f : FuncId} {xs : List Operand} {dst : Option Tmp} {σ : St} {x : Operand} {s : Nat} {p : List Nat} {y y' : AV} {args : List AV} {res : AV} {outs : List AV} (F : Fits P f args res outs) (h1 : xs[i]? = some x) (h2 : homeOf σ x = some (s, p, y)) (h3 : argsOk (argsM σ s i y 0 xs) args) (h4 : outs[i]? = some y')
    (h5 : y'.isAgg = y.isAgg ∧ ncells y' = ncells y ∧ y'.target = none ∧ ∀ l, y' ≠ .tup l) (h6 : (closed res = true ∧ closed y' = true) ∨ othersVal σ i 0 xs = true) (h7 : res.target = none) (h8 : dst ≠ some s) (h9 : K (upd σ (newsOf dst res s (setAt (look σ s) p y')))) : CallB P f xs dst σ K := by
  obtain ⟨a0, h3, h3'⟩ := argsOk_iff.1 h3
  exact .inl ⟨[], .inr ⟨i, x, s, p, y, y', a0, args, res, outs, F, h1, h2, h3, h3', h4, h5, h6, h7, h8, h9⟩⟩
theorem callmf_of (L : List (Nat × List Nat)) (i : Nat) {f : FuncId} {xs : List Operand} {dst : Option Tmp} {σ : St} {x : Operand} {s : Nat} {p : List Nat} {y y' : AV} {args : List AV} {res : AV} {outs : List AV} (F : Fits P f args res outs) (h1 : xs[i]? = some x) (h2 : homeOf (frzs σ L) x = some (s, p, y)) (h3 : argsOk (argsM (frzs σ L) s i y 0 xs) args) (h4 : outs[i]? = some y')
    (h5 : y'.isAgg = y.isAgg ∧ ncells y' = ncells y ∧ y'.target = none ∧ ∀ l, y' ≠ .tup l) (h6 : (closed res = true ∧ closed y' = true) ∨ othersVal (frzs σ L) i 0 xs = true) (h7 : res.target = none) (h8 : dst ≠ some s) (h9 : K (upd (frzs σ L) (newsOf dst res s (setAt (look (frzs σ L) s) p y')))) : CallB P f xs dst σ K := by
  obtain ⟨a0, h3, h3'⟩ := argsOk_iff.1 h3
  exact .inl ⟨L, .inr ⟨i, x, s, p, y, y', a0, args, res, outs, F, h1, h2, h3, h3', h4, h5, h6, h7, h8, h9⟩⟩
end

section
variable (P : Program) (dst : Option Tmp) (ty : TypeId) (pos : String) (af : Array Edge) (g : Option (Nat × Bool)) (ss ds : List Nat) (σ : St)
def chkA (b : Bool) (ss ds : List Nat) (σ : St) : Prop := b = true → ss.all (check0 σ ds) = true
theorem chkA_t (ss ds : List Nat) (σ : St) : chkA true ss ds σ = (ss.all (check0 σ ds) = true) := by simp [chkA]
theorem chkA_f (ss ds : List Nat) (σ : St) : chkA false ss ds σ = True := by simp [chkA]
def dq : Option Tmp → Nat → Bool
  | some d, t => d == t
  | none, _ => false
def madeL : List Oper → Nat → Bool
  | [], _ => false
  | ⟨d, op, _, _, _, _⟩ :: r, t => (dq d t && isMk op) || madeL r t
theorem madeIn_tmp (all : List Oper) (t : Nat) : madeIn all (.tmp t) = madeL all t := by
  unfold madeIn
  induction all with
  | nil => rfl
  | cons o r ih =>
    obtain ⟨d, op, a, b, c, e⟩ := o
    simp only [List.any_cons, madeL]
    rw [← ih]
    congr 2
    cases d with
    | none => rfl
    | some d => simp [dq]
theorem madeIn_const (all : List Oper) (v : Value) : madeIn all (.const v) = false := rfl
variable {all : List Oper}
theorem chk_move (x : Operand) : chk P all ⟨dst, .move x, ty, pos, af, g⟩ ss ds σ = (ss.all (check1 σ ds) = true) := by simp [chk, isP, chkO, isB]
theorem chk_nil (x : Operand) : chk P all ⟨dst, .nilCheck x, ty, pos, af, g⟩ ss ds σ = (ss.all (check1 σ ds) = true) := by simp [chk, isP, chkO, isB]
theorem chk_pick (c x y : Operand) : chk P all ⟨dst, .pick c x y, ty, pos, af, g⟩ ss ds σ = (ss.all (check1 σ ds) = true) := by simp [chk, isP, chkO, isB]
theorem chk_load (t : TypeId) (x : Operand) : chk P all ⟨dst, .load t x, ty, pos, af, g⟩ ss ds σ = (ss.all (check1 σ ds) = true) := by simp [chk, isP, chkO, isB]
theorem chk_binOp (op : BinOp) (t : TypeId) (x y : Operand) (yt : TypeId) : chk P all ⟨dst, .binOp op t x y yt, ty, pos, af, g⟩ ss ds σ = (ss.all (check1 σ ds) = true) := by simp [chk, isP, chkO, isB]
theorem chk_unOp (op : UnOp) (t : TypeId) (x : Operand) : chk P all ⟨dst, .unOp op t x, ty, pos, af, g⟩ ss ds σ = (ss.all (check1 σ ds) = true) := by simp [chk, isP, chkO, isB]
theorem chk_fieldAddr (t : TypeId) (x : Operand) (f : Nat) : chk P all ⟨dst, .fieldAddr t x f, ty, pos, af, g⟩ ss ds σ = (ss.all (check1 σ ds) = true) := by simp [chk, isP, chkO, isB]
theorem chk_indexAddr (t : TypeId) (x i : Operand) : chk P all ⟨dst, .indexAddr t x i, ty, pos, af, g⟩ ss ds σ = (ss.all (check1 σ ds) = true) := by simp [chk, isP, chkO, isB]
theorem chk_index (t : TypeId) (x i : Operand) : chk P all ⟨dst, .index t x i, ty, pos, af, g⟩ ss ds σ = (ss.all (check1 σ ds) = true) := by simp [chk, isP, chkO, isB]
theorem chk_slice (t : TypeId) (x : Operand) (lo hi : Option Operand) : chk P all ⟨dst, .slice t x lo hi none, ty, pos, af, g⟩ ss ds σ = (ss.all (check1 σ ds) = true) := by simp [chk, isP, chkO, isB]
def kk (a b : Nat) : Bool := match a, b with | 1, 4 => true | 5, 5 => true | _, _ => false
def chkA1 (b : Bool) (ss ds : List Nat) (σ : St) : Prop := b = true → ss.all (check1 σ ds) = true
theorem chkA1_t (ss ds : List Nat) (σ : St) : chkA1 true ss ds σ = (ss.all (check1 σ ds) = true) := by simp [chkA1]
theorem chkA1_f (ss ds : List Nat) (σ : St) : chkA1 false ss ds σ = True := by simp [chkA1]
theorem kk_14 : kk 1 4 = true := rfl
theorem kk_55 : kk 5 5 = true := rfl
theorem kk_41 : kk 4 1 = false := rfl
theorem chk_convert (s t : TypeId) (x : Operand) : chk P all ⟨dst, .convert s t x, ty, pos, af, g⟩ ss ds σ = chkA1 (kk (tinfo P s).kind (tinfo P t).kind) ss ds σ := by
  unfold chk chkA1
  have h : isP P all ⟨dst, .convert s t x, ty, pos, af, g⟩ = kk (tinfo P s).kind (tinfo P t).kind := rfl
  rw [h, chkO_n rfl]
theorem chk_len (x : Operand) (t : TypeId) : chk P all ⟨dst, .call ⟨.builtin .len, ⟨[x]⟩, ⟨[t]⟩⟩, ty, pos, af, g⟩ ss ds σ = (ss.all (check1 σ ds) = true) := by simp [chk, isP, chkO, isB]
theorem chk_fn (f : FuncId) (xs : List Operand) (ats : Array TypeId) : chk P all ⟨dst, .call ⟨.value (.func f), ⟨xs⟩, ats⟩, ty, pos, af, g⟩ ss ds σ = (ss.all (check1 σ ds) = true) := by simp [chk, isP, chkO, isB]
theorem chk_alloc (t : TypeId) : chk P all ⟨dst, .alloc t, ty, pos, af, g⟩ ss ds σ = (ss.all (check1 σ ds) = true) := by simp [chk, isP, chkO, isB]
theorem chk_assign (x : Operand) : chk P all ⟨dst, .assign x, ty, pos, af, g⟩ ss ds σ = True := by simp [chk, isP, chkO, isB]
theorem chk_box (t : TypeId) (x : Operand) : chk P all ⟨dst, .box t x, ty, pos, af, g⟩ ss ds σ = True := by simp [chk, isP, chkO, isB]
theorem chk_build (t : TypeId) (ps : Array (Nat × Operand)) : chk P all ⟨dst, .build t ps, ty, pos, af, g⟩ ss ds σ = (ss.all (check0 σ ds) = true) := by simp [chk, isP, chkO, isB]
theorem chk_buildSlice (t : TypeId) (n : Nat) (ps : Array (Nat × Operand)) : chk P all ⟨dst, .buildSlice t n ps, ty, pos, af, g⟩ ss ds σ = (ss.all (check0 σ ds) = true) := by simp [chk, isP, chkO, isB]
theorem chk_store (t : TypeId) (x v : Operand) : chk P all ⟨dst, .store t x v, ty, pos, af, g⟩ ss ds σ = True := by simp [chk, isP, chkO, isB]
theorem chk_makeSlice (t : TypeId) (l c : Operand) : chk P all ⟨dst, .makeSlice t l c, ty, pos, af, g⟩ ss ds σ = True := by simp [chk, isP, chkO, isB]
theorem chk_extract (x : Operand) (i : Nat) : chk P all ⟨dst, .extract x i, ty, pos, af, g⟩ ss ds σ = True := by simp [chk, isP, chkO, isB]
theorem chk_append (x y : Operand) (d : Tmp) (t t' : TypeId) : chk P all ⟨some d, .call ⟨.builtin .append, ⟨[x, y]⟩, ⟨[t, t']⟩⟩, ty, pos, af, g⟩ ss ds σ = chkA (madeIn all x) ss ds σ := by
  cases h : madeIn all x <;> simp [chk, isP, chkO, isB, h, chkA]
def gtmp : Option Oper → List Nat
  | some ⟨some t, _, _, _, _, _⟩ => [t]
  | _ => []
theorem looks_none (all : List Oper) (op : Op) : looks all ⟨dst, op, ty, pos, af, none⟩ = tmpsOf op.operands.toList := by
  unfold looks
  simp
theorem looks_some (all : List Oper) (op : Op) (i : Nat) (want : Bool) : looks all ⟨dst, op, ty, pos, af, some (i, want)⟩ = tmpsOf op.operands.toList ++ gtmp all[i]? := by
  unfold looks
  simp only
  congr 1
  cases all[i]? with
  | none => rfl
  | some og =>
    obtain ⟨d, o1, o2, o3, o4, o5⟩ := og
    cases d <;> rfl
theorem gtmp_some (t : Tmp) (op : Op) : gtmp (some ⟨some t, op, ty, pos, af, g⟩) = [t] := rfl
theorem gtmp_none (op : Op) : gtmp (some ⟨none, op, ty, pos, af, g⟩) = [] := rfl
def chkT : AV → Bool
  | .undef => false
  | y => y.target.isNone
def chkV (σ : St) (ds : List Nat) (x : AV) : Bool := live x && (match x.target with | none => true | some t => !ds.contains t && chkT (look σ t))
theorem check1_eq (s : Nat) : check1 σ ds s = chkV σ ds (look σ s) := by
  have h : ∀ y : AV, (match y with | .undef => false | y => y.target.isNone) = chkT y := by intro y; cases y <;> rfl
  unfold check1 chkV
  cases (look σ s).target with
  | none => rfl
  | some t =>
    simp only
    congr 1
def chk0 (x : AV) : Bool := live x && x.target.isNone
theorem check0_eq (s : Nat) : check0 σ ds s = (ds.contains s && chk0 (look σ s)) := by
  unfold check0 chk0
  rfl
theorem c0_oth (v) : chk0 (.oth v) = true := rfl
theorem c0_int (k n) : chk0 (.int k n) = true := rfl
theorem c0_bool (b) : chk0 (.bool b) = true := rfl
theorem c0_str (s) : chk0 (.str s) = true := rfl
theorem c0_sl (o z xs) : chk0 (.sl o z xs) = true := rfl
theorem c0_agg (fs) : chk0 (.agg fs) = true := rfl
theorem c0_arr (z xs) : chk0 (.arr z xs) = true := rfl
theorem c0_tup (vs) : chk0 (.tup vs) = plainL vs := by simp [chk0, live, AV.target]
theorem c0_box (x) : chk0 (.box x) = true := rfl
theorem c0_dptr (x) : chk0 (.dptr x) = true := rfl
theorem ck_undef : chkV σ ds .undef = false := rfl
theorem ck_oth (v) : chkV σ ds (.oth v) = true := rfl
theorem ck_int (k n) : chkV σ ds (.int k n) = true := rfl
theorem ck_bool (b) : chkV σ ds (.bool b) = true := rfl
theorem ck_str (s) : chkV σ ds (.str s) = true := rfl
theorem ck_sl (o z xs) : chkV σ ds (.sl o z xs) = true := rfl
theorem ck_agg (fs) : chkV σ ds (.agg fs) = true := rfl
theorem ck_arr (z xs) : chkV σ ds (.arr z xs) = true := rfl
theorem ck_tup (vs) : chkV σ ds (.tup vs) = plainL vs := by simp [chkV, live, AV.target]
theorem ck_box (x) : chkV σ ds (.box x) = true := rfl
theorem ck_dptr (x) : chkV σ ds (.dptr x) = true := rfl
theorem ck_vref (s p) : chkV σ ds (.vref s p) = (!ds.contains s && chkT (look σ s)) := rfl
theorem ck_vagg (s p) : chkV σ ds (.vagg s p) = (!ds.contains s && chkT (look σ s)) := rfl
theorem ck_vsub (s p l h) : chkV σ ds (.vsub s p l h) = (!ds.contains s && chkT (look σ s)) := rfl
theorem ck_ptr (s p) : chkV σ ds (.ptr s p) = (!ds.contains s && chkT (look σ s)) := rfl
theorem ct_sl (o z xs) : chkT (.sl o z xs) = true := rfl
theorem ct_agg (fs) : chkT (.agg fs) = true := rfl
theorem ct_arr (z xs) : chkT (.arr z xs) = true := rfl
theorem ct_box (x) : chkT (.box x) = true := rfl
end
theorem look_put (σ : St) (d : Nat) (y : AV) (used : List Nat) (k : Nat) : look (put σ d y used) k = if k = d then y else if k ∈ used then .undef else purgeV (d :: used) (look σ k) := by
  unfold put
  rw [look_upd]
  simp only [keys, keys_wipe, List.mem_cons, look, look_wipe]
  by_cases h : k = d
  · subst h; simp
  · simp [h, Ne.symm h]
theorem needW_some (y : AV) (K : AV → Prop) : needW (some y) K = K y := rfl
theorem needW_none (K : AV → Prop) : needW none K = False := rfl
theorem needW_if (c : Prop) [Decidable c] (y : AV) (K : AV → Prop) : needW (if c then some y else none) K = (c ∧ K y) := by by_cases h : c <;> simp [needW, h]
theorem needW_ifn (c : Prop) [Decidable c] (y : AV) (K : AV → Prop) : needW (if c then none else some y) K = (¬ c ∧ K y) := by by_cases h : c <;> simp [needW, h]
theorem szOf_ti (P : Program) (t : TypeId) : szOf P t = (tinfo P t).size := (tinfo_base t).1.symm
theorem len_bytesA (s : List UInt8) : (bytesA s).length = s.length := by simp [bytesA]
theorem get_bytesA (s : List UInt8) (i : Nat) (h : i < s.length) : (bytesA s)[i]? = some (.int .u8 s[i].toNat) := by simp [bytesA, h]
theorem set_bytesA (s : List UInt8) (i : Nat) (b : UInt8) : (bytesA s).set i (.int .u8 b.toNat) = bytesA (s.set i b) := by simp [bytesA, List.map_set]
theorem pureK_some (σ : St) (d : Nat) (K : St → Prop) (y : AV) : pureK σ (some d) K y = (y.target ≠ some d ∧ K (put σ d y [])) := rfl
theorem pureK_none (σ : St) (K : St → Prop) (y : AV) : pureK σ none K y = K σ := rfl
section
variable (s : Nat) (p : List Nat)
theorem kP_undef : keepP s p .undef = .undef := rfl
theorem kP_oth (v) : keepP s p (.oth v) = .oth v := rfl
theorem kP_int (k n) : keepP s p (.int k n) = .int k n := rfl
theorem kP_bool (b) : keepP s p (.bool b) = .bool b := rfl
theorem kP_str (x) : keepP s p (.str x) = .str x := rfl
theorem kP_sl (o z xs) : keepP s p (.sl o z xs) = .sl o z xs := rfl
theorem kP_agg (fs) : keepP s p (.agg fs) = .agg fs := rfl
theorem kP_arr (z xs) : keepP s p (.arr z xs) = .arr z xs := rfl
theorem kP_tup (vs) : keepP s p (.tup vs) = .tup vs := rfl
theorem kP_box (x) : keepP s p (.box x) = .box x := rfl
theorem kP_dptr (x) : keepP s p (.dptr x) = .dptr x := rfl
theorem kP_vref (t q) : keepP s p (.vref t q) = if t = s ∧ preB p q = true then .undef else .vref t q := rfl
theorem kP_vagg (t q) : keepP s p (.vagg t q) = if t = s ∧ (preB p q = true ∨ preB q p = true) then .undef else .vagg t q := rfl
theorem kP_vsub (t q lo hi) : keepP s p (.vsub t q lo hi) = if t = s ∧ preB p q = true then .undef else .vsub t q lo hi := rfl
theorem kP_ptr (t q) : keepP s p (.ptr t q) = if t = s ∧ sPre p q = true then .undef else .ptr t q := rfl
theorem preB_nil (q : List Nat) : preB [] q = true := rfl
theorem preB_cn (i : Nat) (p : List Nat) : preB (i :: p) [] = false := rfl
theorem preB_cc (i j : Nat) (p q : List Nat) : preB (i :: p) (j :: q) = ((i == j) && preB p q) := rfl
theorem sPre_eq (p q : List Nat) : sPre p q = (decide (p.length < q.length) && preB p q) := rfl
end
section
variable (ms : List Nat)
theorem pu_undef : purgeV ms .undef = .undef := rfl
theorem pu_oth (v) : purgeV ms (.oth v) = .oth v := rfl
theorem pu_int (k n) : purgeV ms (.int k n) = .int k n := rfl
theorem pu_bool (b) : purgeV ms (.bool b) = .bool b := rfl
theorem pu_str (s) : purgeV ms (.str s) = .str s := rfl
theorem pu_sl (o z xs) : purgeV ms (.sl o z xs) = .sl o z xs := rfl
theorem pu_agg (fs) : purgeV ms (.agg fs) = .agg fs := rfl
theorem pu_arr (z xs) : purgeV ms (.arr z xs) = .arr z xs := rfl
theorem pu_tup (vs) : purgeV ms (.tup vs) = .tup vs := rfl
theorem pu_box (x) : purgeV ms (.box x) = .box x := rfl
theorem pu_dptr (x) : purgeV ms (.dptr x) = .dptr x := rfl
theorem pu_vref (s p) : purgeV ms (.vref s p) = if s ∈ ms then .undef else .vref s p := rfl
theorem pu_vagg (s p) : purgeV ms (.vagg s p) = if s ∈ ms then .undef else .vagg s p := rfl
theorem pu_vsub (s p l h) : purgeV ms (.vsub s p l h) = if s ∈ ms then .undef else .vsub s p l h := rfl
theorem pu_ptr (s p) : purgeV ms (.ptr s p) = if s ∈ ms then .undef else .ptr s p := rfl
theorem kp_undef : keepV ms .undef = .undef := rfl
theorem kp_oth (v) : keepV ms (.oth v) = .oth v := rfl
theorem kp_int (k n) : keepV ms (.int k n) = .int k n := rfl
theorem kp_bool (b) : keepV ms (.bool b) = .bool b := rfl
theorem kp_str (s) : keepV ms (.str s) = .str s := rfl
theorem kp_sl (o z xs) : keepV ms (.sl o z xs) = .sl o z xs := rfl
theorem kp_agg (fs) : keepV ms (.agg fs) = .agg fs := rfl
theorem kp_arr (z xs) : keepV ms (.arr z xs) = .arr z xs := rfl
theorem kp_tup (vs) : keepV ms (.tup vs) = .tup vs := rfl
theorem kp_box (x) : keepV ms (.box x) = .box x := rfl
theorem kp_dptr (x) : keepV ms (.dptr x) = .dptr x := rfl
theorem kp_vref (s p) : keepV ms (.vref s p) = if ms.contains s then .vref s p else .undef := rfl
theorem kp_vagg (s p) : keepV ms (.vagg s p) = if ms.contains s then .vagg s p else .undef := rfl
theorem kp_vsub (s p l h) : keepV ms (.vsub s p l h) = if ms.contains s then .vsub s p l h else .undef := rfl
theorem kp_ptr (s p) : keepV ms (.ptr s p) = if ms.contains s then .ptr s p else .undef := rfl
end
end Go.Proofs.Ytikpjpinkkllaaa.Am
namespace Go.Proofs.Ytikpjpinkkllaaa.Am
open Go.RowKit AV
set_option linter.unusedVariables false

def endQ (Q : St → Prop) : Post
  | .ret, σ | .normal, σ => Q σ
  | _, _ => False
theorem endQ_ret (Q : St → Prop) (σ : St) : endQ Q .ret σ = Q σ := rfl
theorem endQ_normal (Q : St → Prop) (σ : St) : endQ Q .normal σ = Q σ := rfl
theorem fits_gen {P : Program} {f : FuncId} {fn : Func} {c : Code} {args : List AV} {res : AV} {outs : List AV} (Qe : St → Prop) (ks vars : List Nat) (hf : P.funcs[f]? = some fn) (hb : fn.body = some c) (hname : (fn.name == "runtime.NumGoroutine") = false)
    (hn : args.length ≤ fn.ntmps) (hok : codeOk fn.ntmps ks c = true) (hks : ks.all (· < args.length) = true) (ho : outs.length ≤ args.length) (hal : args.all (fun x => x.target.isNone) = true)
    (h : codeW P (CallW P) vars c (initGo 0 args) (endQ Qe))
    (main : ∀ (C : Ctx) (a' : Act) (w' : World) (σ' : St) (vs : List Value), C.n = fn.ntmps → C.ks = ks → (∀ j v, vs[j]? = some v → C.kv j = v) → outs.length ≤ vs.length → Sim C σ' a' w' → Qe σ' →
      ∃ v Or Oo, (results fn a'.tmps).run P w' = .ok v w' ∧ RepW w'.heap (fun k => C.ok k ∧ ¬ Or k ∧ ¬ Oo k) res v Or ∧ RepWs w'.heap (fun k => C.ok k ∧ ¬ Or k ∧ ¬ Oo k) outs (vs.take outs.length) Oo ∧
        (∀ k, Or k → ¬ Oo k) ∧ ∀ k, (Or k ∨ Oo k) → C.O0 k ∨ C.h0.size ≤ k) : Fits P f args res outs := by
  refine ⟨⟨fn, hf, by simp [hb], hname⟩, ?_⟩
  intro w vs ok O hall hrep
  obtain ⟨Os, g1, g2, g3, g4, g5⟩ := args_split _ hrep
  let C : Ctx := { h0 := w.heap, ok, O0 := O, os := w.os, tape := w.tape, out := w.output, n := fn.ntmps, ks, kv := fun i => vs.getD i undef, all := hall }
  have hsz : (vs.toArray ++ Array.replicate (fn.ntmps - vs.toArray.size) undef).size = fn.ntmps := by simp; omega
  have hget : ∀ t v, (vs.toArray ++ Array.replicate (fn.ntmps - vs.toArray.size) undef)[t]? = some v → t < vs.length → vs[t]? = some v := by
    intro t v hv ht
    rw [Array.getElem?_append_left (by simpa using ht)] at hv
    simpa using hv
  have hsh : ∀ k, (ok k ∧ ¬ O k) → Sh ok Os k := fun k hk => ⟨hk.1, fun t ht => hk.2 ((g5 k).2 ⟨t, ht⟩)⟩
  have S0 : Sim C (initGo 0 args) { tmps := vs.toArray ++ Array.replicate (fn.ntmps - vs.toArray.size) undef, defers := [] } w := by
    refine ⟨⟨Os, ?_, ?_, g4, fun t k hk => .inl ((g5 k).2 ⟨t, hk⟩), ?_, Nat.le_refl _, fun _ _ _ => rfl⟩, ?_, hsz, rfl, rfl, rfl, rfl⟩
    · intro t v hv
      rw [look_init, if_pos (Nat.zero_le _), Nat.sub_zero]
      by_cases ht : t < vs.length
      · exact repW_mono _ (g2 t v (hget t v hv ht)) ⟨fun k hk _ => ⟨hsh k hk, rfl⟩, fun _ _ => rfl⟩
      · have : args.getD t .undef = .undef := by
          rw [List.getD, List.getElem?_eq_none (by omega)]; rfl
        rw [this]
        simp only [RepW]; exact g3 t (by omega)
    · intro t ht
      exact g3 t (by simp only [] at ht; rw [hsz] at ht; omega)
    · intro t v hv
      rw [look_init, if_pos (Nat.zero_le _), Nat.sub_zero]
      refine aliasOk_none ?_
      by_cases ht : t < args.length
      · have hm : args.getD t .undef ∈ args := by rw [List.getD, List.getElem?_eq_getElem ht]; exact List.getElem_mem ht
        simpa using (List.all_eq_true.1 hal) _ hm
      · rw [List.getD, List.getElem?_eq_none (by omega)]; rfl
    · intro t ht
      have hlt : t < args.length := by simpa using (List.all_eq_true.1 hks) t ht
      have hlt' : t < vs.length := by omega
      show (vs.toArray ++ _)[t]? = some (vs.getD t undef)
      rw [Array.getElem?_append_left (by simpa using hlt')]
      simp [List.getD, List.getElem?_eq_getElem hlt']
  refine calls_of_wp hf hb (wp_mono (code_sound (C := C) callsOk callsLoc c _ _ _ w hok h S0) ?_)
  have fin : ∀ a' w' σ', Sim C σ' a' w' → Qe σ' → a'.defers = [] ∧ ∃ v, (results fn a'.tmps).run P w' = .ok v w' ∧ ∃ v_1 Or Oo, Ending.returned v = Ending.returned v_1 ∧ w'.os = w.os ∧ w'.tape = w.tape ∧ w'.output = w.output ∧ w.heap.size ≤ w'.heap.size ∧
      (∀ k, k < w.heap.size → ¬ O k → w'.heap[k]? = w.heap[k]?) ∧
      RepW w'.heap (fun k => ok k ∧ ¬ Or k ∧ ¬ Oo k) res v_1 Or ∧ RepWs w'.heap (fun k => ok k ∧ ¬ Or k ∧ ¬ Oo k) outs (vs.take outs.length) Oo ∧
      (∀ k, Or k → ¬ Oo k) ∧ ∀ k, (Or k ∨ Oo k) → O k ∨ w.heap.size ≤ k := by
    intro a' w' σ' S hq
    obtain ⟨v, Or, Oo, m1, m2, m3, m4, m5⟩ := main C a' w' σ' vs rfl rfl (fun j v hv => by show vs.getD j undef = v; rw [List.getD, hv]; rfl) (by omega) S hq
    obtain ⟨⟨Os1, R⟩, _, _, hdf, hos, htp, hout⟩ := S
    exact ⟨hdf, v, m1, v, Or, Oo, rfl, hos, htp, hout, R.size, fun k hk hn => R.keep k hk hn, m2, m3, m4, m5⟩
  rintro e a' w' ⟨σ', h', S'⟩
  cases e with
  | normal => exact fin a' w' σ' S' h'
  | ret => exact fin a' w' σ' S' h'
  | _ => exact h'.elim

/-- A result that lies in a variable of its own. -/
def retC (P : Program) (a t : Nat) (ks : List Nat) (res : AV) (outs : List AV) (σ : St) : Prop :=
  leV (look σ a) (.box res) ∧ res.stor = true ∧ (tinfo P t).agg = some res.isAgg ∧ (tinfo P t).size = ncells res ∧ outsW σ [a] ks 0 outs

theorem fits_of_cell {P : Program} {f : FuncId} {fn : Func} {c : Code} {args : List AV} {res : AV} {outs : List AV} (a t : Nat) (ks vars : List Nat) (hf : P.funcs[f]? = some fn) (hb : fn.body = some c) (hname : (fn.name == "runtime.NumGoroutine") = false)
    (hrs : fn.results = #[.cell a t]) (hrn : a < fn.ntmps) (hn : args.length ≤ fn.ntmps) (hok : codeOk fn.ntmps ks c = true) (hks : ks.all (· < args.length) = true) (ho : outs.length ≤ args.length) (hal : args.all (fun x => x.target.isNone) = true)
    (h : codeW P (CallW P) vars c (initGo 0 args) (endQ (retC P a t ks res outs))) : Fits P f args res outs := by
  refine fits_gen (retC P a t ks res outs) ks vars hf hb hname hn hok hks ho hal h ?_
  rintro C a' w' σ' vs hCn hCk hkv hov ⟨⟨Os1, R⟩, hkk, hn', hdf, hos, htp, hout⟩ ⟨r1, r2, r3, r4, r5⟩
  rw [(tinfo_base t).2.1] at r3
  rw [(tinfo_base t).1] at r4
  have hlt : a < a'.tmps.size := by rw [hn', hCn]; exact hrn
  have hv : a'.tmps[a]? = some a'.tmps[a] := Array.getElem?_eq_getElem hlt
  have hr := repW_le _ _ r1 (R.rep a _ hv)
  simp only [RepW, RepC] at hr
  obtain ⟨b, cc, te, m, O', e1, hrow, hm, hrep, hnb, hO⟩ := hr
  have e1' : a'.tmps[a] = .pointer (some ⟨b, 0, none⟩) := by simpa using e1
  obtain ⟨v, l1, l2, _, _⟩ := run_loadVar (P := P) (w := w') hrep (.inl r2) (ad := ⟨b, 0, none⟩) r3 r4 (fun j u hj => by
    have := row_cells (n := m.length) hrow (j := j) (u := u) (by rw [hm, List.take_length]; exact hj)
    simpa using this)
  obtain ⟨Oo, q3, q4⟩ := outs_rep (used := [a]) R hkk outs 0 vs (by rw [hCk]; exact r5) (fun j v hv => by rw [Nat.zero_add]; exact hkv j v hv) hov
  have hsub : ∀ k, O' k → Os1 a k := fun k hk => (hO k).2 (.inr hk)
  have hdis : ∀ k, O' k → ¬ Oo k := by
    intro k h1 h2
    obtain ⟨t', _, ht', hot'⟩ := q4 k h2
    have := R.dis _ _ k (hsub k h1) hot'
    subst this; simp at ht'
  have hag : ∀ Oz, Agree w'.heap w'.heap (Sh C.ok Os1) (fun k => C.ok k ∧ ¬ O' k ∧ ¬ Oo k) Oz := fun Oz => ⟨fun k hk _ => ⟨⟨hk.1, fun h => hk.2 a (hsub k h), fun h => by obtain ⟨t', _, _, ht'⟩ := q4 k h; exact hk.2 t' ht'⟩, rfl⟩, fun _ _ => rfl⟩
  refine ⟨v, O', Oo, ?_, repW_mono _ l2 (hag _), repWs_mono _ q3 (hag _), hdis, ?_⟩
  · rw [e1'] at hv
    have hm1 : (fn.results.mapM fun (x : ResultVar) => (match x with
        | .tmp t => pure (a'.tmps.getD t undef)
        | .cell a t => do loadVar t (← asAddr (a'.tmps.getD a undef)) : Sem Value)).run P w' = .ok #[v] w' := by
      rw [hrs]
      simp [hv, asAddr, l1]
    unfold results
    rw [Sem.run_bind]
    erw [hm1]
    simp
  · rintro k (hk | hk)
    · exact R.own a k (hsub k hk)
    · obtain ⟨t', _, _, ht'⟩ := q4 k hk
      exact R.own t' k ht'
end Go.Proofs.Ytikpjpinkkllaaa.Am
namespace Go.Proofs.Ytikpjpinkkllaaa.Am
open Go.RowKit AV
set_option linter.unusedVariables false
/-- Two results: one lies in a variable of its own, the other is a truth value. -/
def retCB (P : Program) (a t r : Nat) (ks : List Nat) (res : AV) (b : Bool) (outs : List AV) (σ : St) : Prop :=
  leV (look σ a) (.box res) ∧ res.stor = true ∧ (tinfo P t).agg = some res.isAgg ∧ (tinfo P t).size = ncells res ∧ look σ r = .bool b ∧ outsW σ [a] ks 0 outs

theorem fits_of_pair {P : Program} {f : FuncId} {fn : Func} {c : Code} {args : List AV} {res : AV} {b0 : Bool} {outs : List AV} (a t r : Nat) (ks vars : List Nat) (hf : P.funcs[f]? = some fn) (hb : fn.body = some c) (hname : (fn.name == "runtime.NumGoroutine") = false)
    (hrs : fn.results = #[.cell a t, .tmp r]) (hrn : a < fn.ntmps) (hrn2 : r < fn.ntmps) (hn : args.length ≤ fn.ntmps) (hok : codeOk fn.ntmps ks c = true) (hks : ks.all (· < args.length) = true) (ho : outs.length ≤ args.length) (hal : args.all (fun x => x.target.isNone) = true)
    (h : codeW P (CallW P) vars c (initGo 0 args) (endQ (retCB P a t r ks res b0 outs))) : Fits P f args (.tup [res, .bool b0]) outs := by
  refine fits_gen (retCB P a t r ks res b0 outs) ks vars hf hb hname hn hok hks ho hal h ?_
  rintro C a' w' σ' vs hCn hCk hkv hov ⟨⟨Os1, R⟩, hkk, hn', hdf, hos, htp, hout⟩ ⟨r1, r2, r3, r4, r6, r5⟩
  rw [(tinfo_base t).2.1] at r3
  rw [(tinfo_base t).1] at r4
  have hlt : a < a'.tmps.size := by rw [hn', hCn]; exact hrn
  have hv : a'.tmps[a]? = some a'.tmps[a] := Array.getElem?_eq_getElem hlt
  have hr := repW_le _ _ r1 (R.rep a _ hv)
  simp only [RepW, RepC] at hr
  obtain ⟨b, cc, te, m, O', e1, hrow, hm, hrep, hnb, hO⟩ := hr
  have e1' : a'.tmps[a] = .pointer (some ⟨b, 0, none⟩) := by simpa using e1
  obtain ⟨v, l1, l2, _, _⟩ := run_loadVar (P := P) (w := w') hrep (.inl r2) (ad := ⟨b, 0, none⟩) r3 r4 (fun j u hj => by
    have := row_cells (n := m.length) hrow (j := j) (u := u) (by rw [hm, List.take_length]; exact hj)
    simpa using this)
  have hlt2 : r < a'.tmps.size := by rw [hn', hCn]; exact hrn2
  have hv2 : a'.tmps[r]? = some a'.tmps[r] := Array.getElem?_eq_getElem hlt2
  have hr2 := R.rep r _ hv2
  rw [r6] at hr2
  simp only [RepW, RepC] at hr2
  obtain ⟨e2, hne⟩ := hr2
  obtain ⟨Oo, q3, q4⟩ := outs_rep (used := [a]) R hkk outs 0 vs (by rw [hCk]; exact r5) (fun j v hv => by rw [Nat.zero_add]; exact hkv j v hv) hov
  have hsub : ∀ k, O' k → Os1 a k := fun k hk => (hO k).2 (.inr hk)
  have hdis : ∀ k, O' k → ¬ Oo k := by
    intro k h1 h2
    obtain ⟨t', _, ht', hot'⟩ := q4 k h2
    have := R.dis _ _ k (hsub k h1) hot'
    subst this; simp at ht'
  have hag : ∀ Oz, Agree w'.heap w'.heap (Sh C.ok Os1) (fun k => C.ok k ∧ ¬ O' k ∧ ¬ Oo k) Oz := fun Oz => ⟨fun k hk _ => ⟨⟨hk.1, fun h => hk.2 a (hsub k h), fun h => by obtain ⟨t', _, _, ht'⟩ := q4 k h; exact hk.2 t' ht'⟩, rfl⟩, fun _ _ => rfl⟩
  refine ⟨.tuple #[v, .bool b0], O', Oo, ?_, ?_, repWs_mono _ q3 (hag _), hdis, ?_⟩
  · rw [e1'] at hv
    have hm1 : (fn.results.mapM fun (x : ResultVar) => (match x with
        | .tmp t => pure (a'.tmps.getD t undef)
        | .cell a t => do loadVar t (← asAddr (a'.tmps.getD a undef)) : Sem Value)).run P w' = .ok #[v, .bool b0] w' := by
      rw [hrs]
      simp [hv, hv2, asAddr, l1]
      simpa using e2
    unfold results
    rw [Sem.run_bind]
    erw [hm1]
    simp
  · simp only [RepW]
    refine ⟨_, rfl, ?_⟩
    simp only [RepWs]
    refine ⟨v, [.bool b0], O', fun _ => False, rfl, fun k => by simp, fun k _ h => h, repW_mono _ l2 (hag _), .bool b0, [], fun _ => False, fun _ => False, rfl, fun k => by simp, fun _ h _ => h, ?_, rfl, fun _ h => h⟩
    simp only [RepW, RepC]
    exact ⟨trivial, fun _ h => h⟩
  · rintro k (hk | hk)
    · exact R.own a k (hsub k hk)
    · obtain ⟨t', _, _, ht'⟩ := q4 k hk
      exact R.own t' k ht'
end Go.Proofs.Ytikpjpinkkllaaa.Am
namespace Go.Proofs.Ytikpjpinkkllaaa.Am
open Go.RowKit AV
set_option linter.unusedVariables false
/-! Two or three results: the first lies in a variable of its own, the others are plain. -/
def scalA : AV → Bool
  | .int _ _ | .bool _ | .str _ => true
  | _ => false
theorem scal_rep {h h' : Array Obj} {S S' O : Nat → Prop} {y : AV} {v : Value} (hs : scalA y = true) (r : RepW h S y v O) : RepW h' S' y v (fun _ => False) := by
  cases y <;> simp only [scalA, Bool.false_eq_true] at hs
  case int => simp only [RepW, RepC] at r ⊢; exact ⟨r.1, fun _ h => h⟩
  case bool => simp only [RepW, RepC] at r ⊢; exact ⟨r.1, fun _ h => h⟩
  case str => simp only [RepW, RepC] at r ⊢; exact ⟨r.1, fun _ h => h⟩
def retCTwo (P : Program) (a t : Nat) (r1_ : Nat) (ks : List Nat) (res : AV) (y1 : AV) (outs : List AV) (σ : St) : Prop :=
  leV (look σ a) (.box res) ∧ res.stor = true ∧ (tinfo P t).agg = some res.isAgg ∧ (tinfo P t).size = ncells res ∧ look σ r1_ = y1 ∧ scalA y1 = true ∧ outsW σ [a] ks 0 outs
theorem fits_of_two {P : Program} {f : FuncId} {fn : Func} {c : Code} {args : List AV} {res : AV} {y1 : AV} {outs : List AV} (a t : Nat) (r1_ : Nat) (ks vars : List Nat) (hf : P.funcs[f]? = some fn) (hb : fn.body = some c) (hname : (fn.name == "runtime.NumGoroutine") = false)
    (hrs : fn.results = #[.cell a t, .tmp r1_]) (hrn : a < fn.ntmps) (hrn2 : r1_ < fn.ntmps) (hn : args.length ≤ fn.ntmps) (hok : codeOk fn.ntmps ks c = true) (hks : ks.all (· < args.length) = true) (ho : outs.length ≤ args.length) (hal : args.all (fun x => x.target.isNone) = true)
    (h : codeW P (CallW P) vars c (initGo 0 args) (endQ (retCTwo P a t r1_ ks res y1 outs))) : Fits P f args (.tup [res, y1]) outs := by
  refine fits_gen (retCTwo P a t r1_ ks res y1 outs) ks vars hf hb hname hn hok hks ho hal h ?_
  rintro C a' w' σ' vs hCn hCk hkv hov ⟨⟨Os1, R⟩, hkk, hn', hdf, hos, htp, hout⟩ ⟨r1, r2, r3, r4, z1, s1, r5⟩
  rw [(tinfo_base t).2.1] at r3
  rw [(tinfo_base t).1] at r4
  have hlt : a < a'.tmps.size := by rw [hn', hCn]; exact hrn
  have hv : a'.tmps[a]? = some a'.tmps[a] := Array.getElem?_eq_getElem hlt
  have hr := repW_le _ _ r1 (R.rep a _ hv)
  simp only [RepW, RepC] at hr
  obtain ⟨b, cc, te, m, O', e1, hrow, hm, hrep, hnb, hO⟩ := hr
  have e1' : a'.tmps[a] = .pointer (some ⟨b, 0, none⟩) := by simpa using e1
  obtain ⟨v, l1, l2, _, _⟩ := run_loadVar (P := P) (w := w') hrep (.inl r2) (ad := ⟨b, 0, none⟩) r3 r4 (fun j u hj => by
    have := row_cells (n := m.length) hrow (j := j) (u := u) (by rw [hm, List.take_length]; exact hj)
    simpa using this)
  have hl2 : r1_ < a'.tmps.size := by rw [hn', hCn]; exact hrn2
  have hv2 : a'.tmps[r1_]? = some a'.tmps[r1_] := Array.getElem?_eq_getElem hl2
  have hr2 := R.rep r1_ _ hv2
  rw [z1] at hr2
  generalize a'.tmps[r1_] = v2 at *
  obtain ⟨Oo, q3, q4⟩ := outs_rep (used := [a]) R hkk outs 0 vs (by rw [hCk]; exact r5) (fun j v hv => by rw [Nat.zero_add]; exact hkv j v hv) hov
  have hsub : ∀ k, O' k → Os1 a k := fun k hk => (hO k).2 (.inr hk)
  have hdis : ∀ k, O' k → ¬ Oo k := by
    intro k h1 h2
    obtain ⟨t', _, ht', hot'⟩ := q4 k h2
    have := R.dis _ _ k (hsub k h1) hot'
    subst this; simp at ht'
  have hag : ∀ Oz, Agree w'.heap w'.heap (Sh C.ok Os1) (fun k => C.ok k ∧ ¬ O' k ∧ ¬ Oo k) Oz := fun Oz => ⟨fun k hk _ => ⟨⟨hk.1, fun h => hk.2 a (hsub k h), fun h => by obtain ⟨t', _, _, ht'⟩ := q4 k h; exact hk.2 t' ht'⟩, rfl⟩, fun _ _ => rfl⟩
  refine ⟨.tuple #[v, v2], O', Oo, ?_, ?_, repWs_mono _ q3 (hag _), hdis, ?_⟩
  · rw [e1'] at hv
    have hm1 : (fn.results.mapM fun (x : ResultVar) => (match x with
        | .tmp t => pure (a'.tmps.getD t undef)
        | .cell a t => do loadVar t (← asAddr (a'.tmps.getD a undef)) : Sem Value)).run P w' = .ok #[v, v2] w' := by
      rw [hrs]
      simp [hv, hv2, asAddr, l1]
    unfold results
    rw [Sem.run_bind]
    erw [hm1]
    simp
  · simp only [RepW]
    refine ⟨_, rfl, ?_⟩
    simp only [RepWs]
    exact ⟨v, [v2], O', fun _ => False, rfl, fun k => by simp, fun k _ h => h, repW_mono _ l2 (hag _), ⟨v2, [], fun _ => False, fun _ => False, rfl, fun k => by simp, fun _ h _ => h, scal_rep s1 hr2, ⟨rfl, fun _ h => h⟩⟩⟩
  · rintro k (hk | hk)
    · exact R.own a k (hsub k hk)
    · obtain ⟨t', _, _, ht'⟩ := q4 k hk
      exact R.own t' k ht'
def retCC (P : Program) (a t b u : Nat) (ks : List Nat) (res : AV) (y1 : AV) (outs : List AV) (σ : St) : Prop :=
  leV (look σ a) (.box res) ∧ res.stor = true ∧ (tinfo P t).agg = some res.isAgg ∧ (tinfo P t).size = ncells res ∧ leV (look σ b) (.box y1) ∧ y1.stor = true ∧ (tinfo P u).agg = some y1.isAgg ∧ (tinfo P u).size = ncells y1 ∧ outsW σ [a, b] ks 0 outs
/-- Two results, each in a variable of its own. -/
theorem fits_of_cc {P : Program} {f : FuncId} {fn : Func} {c : Code} {args : List AV} {res : AV} {y1 : AV} {outs : List AV} (a t b u : Nat) (hab : a ≠ b) (ks vars : List Nat) (hf : P.funcs[f]? = some fn) (hb : fn.body = some c) (hname : (fn.name == "runtime.NumGoroutine") = false)
    (hrs : fn.results = #[.cell a t, .cell b u]) (hrn : a < fn.ntmps) (hrn2 : b < fn.ntmps) (hn : args.length ≤ fn.ntmps) (hok : codeOk fn.ntmps ks c = true) (hks : ks.all (· < args.length) = true) (ho : outs.length ≤ args.length) (hal : args.all (fun x => x.target.isNone) = true)
    (h : codeW P (CallW P) vars c (initGo 0 args) (endQ (retCC P a t b u ks res y1 outs))) : Fits P f args (.tup [res, y1]) outs := by
  refine fits_gen (retCC P a t b u ks res y1 outs) ks vars hf hb hname hn hok hks ho hal h ?_
  rintro C a' w' σ' vs hCn hCk hkv hov ⟨⟨Os1, R⟩, hkk, hn', hdf, hos, htp, hout⟩ ⟨r1, r2, r3, r4, s1, s2, s3, s4, r5⟩
  rw [(tinfo_base t).2.1] at r3
  rw [(tinfo_base t).1] at r4
  rw [(tinfo_base u).2.1] at s3
  rw [(tinfo_base u).1] at s4
  have hlt : a < a'.tmps.size := by rw [hn', hCn]; exact hrn
  have hv : a'.tmps[a]? = some a'.tmps[a] := Array.getElem?_eq_getElem hlt
  have hr := repW_le _ _ r1 (R.rep a _ hv)
  simp only [RepW, RepC] at hr
  obtain ⟨b1, cc, te, m, O', e1, hrow, hm, hrep, hnb, hO⟩ := hr
  have e1' : a'.tmps[a] = .pointer (some ⟨b1, 0, none⟩) := by simpa using e1
  obtain ⟨v, l1, l2, _, _⟩ := run_loadVar (P := P) (w := w') hrep (.inl r2) (ad := ⟨b1, 0, none⟩) r3 r4 (fun j u hj => by
    have := row_cells (n := m.length) hrow (j := j) (u := u) (by rw [hm, List.take_length]; exact hj)
    simpa using this)
  have hlt2 : b < a'.tmps.size := by rw [hn', hCn]; exact hrn2
  have hv2 : a'.tmps[b]? = some a'.tmps[b] := Array.getElem?_eq_getElem hlt2
  have hr2 := repW_le _ _ s1 (R.rep b _ hv2)
  simp only [RepW, RepC] at hr2
  obtain ⟨b2, cc2, te2, m2, O2, f1, hrow2, hm2, hrep2, hnb2, hO2⟩ := hr2
  have f1' : a'.tmps[b] = .pointer (some ⟨b2, 0, none⟩) := by simpa using f1
  obtain ⟨v2, k1, k2, _, _⟩ := run_loadVar (P := P) (w := w') hrep2 (.inl s2) (ad := ⟨b2, 0, none⟩) s3 s4 (fun j u hj => by
    have := row_cells (n := m2.length) hrow2 (j := j) (u := u) (by rw [hm2, List.take_length]; exact hj)
    simpa using this)
  obtain ⟨Oo, q3, q4⟩ := outs_rep (used := [a, b]) R hkk outs 0 vs (by rw [hCk]; exact r5) (fun j v hv => by rw [Nat.zero_add]; exact hkv j v hv) hov
  have hsub : ∀ k, O' k → Os1 a k := fun k hk => (hO k).2 (.inr hk)
  have hsub2 : ∀ k, O2 k → Os1 b k := fun k hk => (hO2 k).2 (.inr hk)
  have hd12 : ∀ k, O' k → ¬ O2 k := fun k h1 h2 => hab (R.dis _ _ k (hsub k h1) (hsub2 k h2))
  have hdis : ∀ k, (O' k ∨ O2 k) → ¬ Oo k := by
    intro k h1 h2
    obtain ⟨t', _, ht', hot'⟩ := q4 k h2
    rcases h1 with h1 | h1
    · have := R.dis _ _ k (hsub k h1) hot'
      subst this; simp at ht'
    · have := R.dis _ _ k (hsub2 k h1) hot'
      subst this; simp at ht'
  have hag : ∀ Oz, Agree w'.heap w'.heap (Sh C.ok Os1) (fun k => C.ok k ∧ ¬ (O' k ∨ O2 k) ∧ ¬ Oo k) Oz := fun Oz => ⟨fun k hk _ => ⟨⟨hk.1, fun h => by rcases h with h | h; exact hk.2 a (hsub k h); exact hk.2 b (hsub2 k h), fun h => by obtain ⟨t', _, _, ht'⟩ := q4 k h; exact hk.2 t' ht'⟩, rfl⟩, fun _ _ => rfl⟩
  refine ⟨.tuple #[v, v2], fun k => O' k ∨ O2 k, Oo, ?_, ?_, repWs_mono _ q3 (hag _), hdis, ?_⟩
  · rw [e1'] at hv
    rw [f1'] at hv2
    have hm1 : (fn.results.mapM fun (x : ResultVar) => (match x with
        | .tmp t => pure (a'.tmps.getD t undef)
        | .cell a t => do loadVar t (← asAddr (a'.tmps.getD a undef)) : Sem Value)).run P w' = .ok #[v, v2] w' := by
      rw [hrs]
      simp [hv, hv2, asAddr, l1, k1]
    unfold results
    rw [Sem.run_bind]
    erw [hm1]
    simp
  · simp only [RepW]
    refine ⟨_, rfl, ?_⟩
    simp only [RepWs]
    exact ⟨v, [v2], O', O2, rfl, fun k => Iff.rfl, hd12, repW_mono _ l2 (hag _), ⟨v2, [], O2, fun _ => False, rfl, fun k => by simp, fun _ _ h => h, repW_mono _ k2 (hag _), ⟨rfl, fun _ h => h⟩⟩⟩
  · rintro k ((hk | hk) | hk)
    · exact R.own a k (hsub k hk)
    · exact R.own b k (hsub2 k hk)
    · obtain ⟨t', _, _, ht'⟩ := q4 k hk
      exact R.own t' k ht'
def retCThree (P : Program) (a t : Nat) (r1_ : Nat) (r2_ : Nat) (ks : List Nat) (res : AV) (y1 : AV) (y2 : AV) (outs : List AV) (σ : St) : Prop :=
  leV (look σ a) (.box res) ∧ res.stor = true ∧ (tinfo P t).agg = some res.isAgg ∧ (tinfo P t).size = ncells res ∧ look σ r1_ = y1 ∧ scalA y1 = true ∧ look σ r2_ = y2 ∧ scalA y2 = true ∧ outsW σ [a] ks 0 outs
theorem fits_of_three {P : Program} {f : FuncId} {fn : Func} {c : Code} {args : List AV} {res : AV} {y1 : AV} {y2 : AV} {outs : List AV} (a t : Nat) (r1_ r2_ : Nat) (ks vars : List Nat) (hf : P.funcs[f]? = some fn) (hb : fn.body = some c) (hname : (fn.name == "runtime.NumGoroutine") = false)
    (hrs : fn.results = #[.cell a t, .tmp r1_, .tmp r2_]) (hrn : a < fn.ntmps) (hrn2 : r1_ < fn.ntmps) (hrn3 : r2_ < fn.ntmps) (hn : args.length ≤ fn.ntmps) (hok : codeOk fn.ntmps ks c = true) (hks : ks.all (· < args.length) = true) (ho : outs.length ≤ args.length) (hal : args.all (fun x => x.target.isNone) = true)
    (h : codeW P (CallW P) vars c (initGo 0 args) (endQ (retCThree P a t r1_ r2_ ks res y1 y2 outs))) : Fits P f args (.tup [res, y1, y2]) outs := by
  refine fits_gen (retCThree P a t r1_ r2_ ks res y1 y2 outs) ks vars hf hb hname hn hok hks ho hal h ?_
  rintro C a' w' σ' vs hCn hCk hkv hov ⟨⟨Os1, R⟩, hkk, hn', hdf, hos, htp, hout⟩ ⟨r1, r2, r3, r4, z1, s1, z2, s2, r5⟩
  rw [(tinfo_base t).2.1] at r3
  rw [(tinfo_base t).1] at r4
  have hlt : a < a'.tmps.size := by rw [hn', hCn]; exact hrn
  have hv : a'.tmps[a]? = some a'.tmps[a] := Array.getElem?_eq_getElem hlt
  have hr := repW_le _ _ r1 (R.rep a _ hv)
  simp only [RepW, RepC] at hr
  obtain ⟨b, cc, te, m, O', e1, hrow, hm, hrep, hnb, hO⟩ := hr
  have e1' : a'.tmps[a] = .pointer (some ⟨b, 0, none⟩) := by simpa using e1
  obtain ⟨v, l1, l2, _, _⟩ := run_loadVar (P := P) (w := w') hrep (.inl r2) (ad := ⟨b, 0, none⟩) r3 r4 (fun j u hj => by
    have := row_cells (n := m.length) hrow (j := j) (u := u) (by rw [hm, List.take_length]; exact hj)
    simpa using this)
  have hl2 : r1_ < a'.tmps.size := by rw [hn', hCn]; exact hrn2
  have hv2 : a'.tmps[r1_]? = some a'.tmps[r1_] := Array.getElem?_eq_getElem hl2
  have hr2 := R.rep r1_ _ hv2
  rw [z1] at hr2
  generalize a'.tmps[r1_] = v2 at *
  have hl3 : r2_ < a'.tmps.size := by rw [hn', hCn]; exact hrn3
  have hv3 : a'.tmps[r2_]? = some a'.tmps[r2_] := Array.getElem?_eq_getElem hl3
  have hr3 := R.rep r2_ _ hv3
  rw [z2] at hr3
  generalize a'.tmps[r2_] = v3 at *
  obtain ⟨Oo, q3, q4⟩ := outs_rep (used := [a]) R hkk outs 0 vs (by rw [hCk]; exact r5) (fun j v hv => by rw [Nat.zero_add]; exact hkv j v hv) hov
  have hsub : ∀ k, O' k → Os1 a k := fun k hk => (hO k).2 (.inr hk)
  have hdis : ∀ k, O' k → ¬ Oo k := by
    intro k h1 h2
    obtain ⟨t', _, ht', hot'⟩ := q4 k h2
    have := R.dis _ _ k (hsub k h1) hot'
    subst this; simp at ht'
  have hag : ∀ Oz, Agree w'.heap w'.heap (Sh C.ok Os1) (fun k => C.ok k ∧ ¬ O' k ∧ ¬ Oo k) Oz := fun Oz => ⟨fun k hk _ => ⟨⟨hk.1, fun h => hk.2 a (hsub k h), fun h => by obtain ⟨t', _, _, ht'⟩ := q4 k h; exact hk.2 t' ht'⟩, rfl⟩, fun _ _ => rfl⟩
  refine ⟨.tuple #[v, v2, v3], O', Oo, ?_, ?_, repWs_mono _ q3 (hag _), hdis, ?_⟩
  · rw [e1'] at hv
    have hm1 : (fn.results.mapM fun (x : ResultVar) => (match x with
        | .tmp t => pure (a'.tmps.getD t undef)
        | .cell a t => do loadVar t (← asAddr (a'.tmps.getD a undef)) : Sem Value)).run P w' = .ok #[v, v2, v3] w' := by
      rw [hrs]
      simp [hv, hv2, hv3, asAddr, l1]
    unfold results
    rw [Sem.run_bind]
    erw [hm1]
    simp
  · simp only [RepW]
    refine ⟨_, rfl, ?_⟩
    simp only [RepWs]
    exact ⟨v, [v2, v3], O', fun _ => False, rfl, fun k => by simp, fun k _ h => h, repW_mono _ l2 (hag _), ⟨v2, [v3], fun _ => False, fun _ => False, rfl, fun k => by simp, fun _ h _ => h, scal_rep s1 hr2, ⟨v3, [], fun _ => False, fun _ => False, rfl, fun k => by simp, fun _ h _ => h, scal_rep s2 hr3, ⟨rfl, fun _ h => h⟩⟩⟩⟩
  · rintro k (hk | hk)
    · exact R.own a k (hsub k hk)
    · obtain ⟨t', _, _, ht'⟩ := q4 k hk
      exact R.own t' k ht'
end Go.Proofs.Ytikpjpinkkllaaa.Am
namespace Go.Proofs.Ytikpjpinkkllaaa.Am
open Go.RowKit AV
set_option linter.unusedVariables false

/-- A value of a type, as it comes in. -/
def Typed (P : Program) : Nat → TypeId → AV → Prop
  | 0, _, _ => False
  | n + 1, t, x => match P.underlying t with
    | some .bool => ∃ b, x = .bool b
    | some (.int k) => ∃ v, x = .int k v ∧ (Lit.int k v).wf = true
    | some .string => ∃ s, x = .str s ∧ s.length ≤ maxLen
    | some (.slice e) => ∃ xs, x = .sl false (P.cellsOf e) xs ∧ xs.length ≤ maxLen ∧ ∀ y ∈ xs, Typed P n e y
    | some (.struct fs) => ∃ ys, x = .agg ys ∧ ys.length = fs.size ∧ ∀ (i : Nat) (f : Field) (y : AV), fs[i]? = some f → ys[i]? = some y → Typed P n f.type y
    | some (.array l e) => ∃ ys, x = .arr (P.cellsOf e) ys ∧ ys.length = l ∧ ∀ y ∈ ys, Typed P n e y
    | _ => False

def fieldsGo (P : Program) (ts : List TypeId) : Nat → List Field → Option Nat
  | off, [] => some off
  | off, f :: r => if f.offset == off && ts.contains f.type then fieldsGo P ts (off + P.cellsOf f.type) r else none
/-- One level of a type whose parts are on the list. -/
def tyOk (P : Program) (ts : List TypeId) (t : TypeId) : Bool := match P.underlying t with
  | some .bool | some (.int _) | some .string => P.cellsOf t == 1
  | some (.slice e) => P.cellsOf t == 1 && ts.contains e && decide (0 < P.cellsOf e)
  | some (.struct fs) => fieldsGo P ts 0 fs.toList == some (P.cellsOf t)
  | some (.array l e) => ts.contains e && P.cellsOf e * l == P.cellsOf t
  | _ => false

theorem mapM_opt {α β : Type} {f : α → Option β} : ∀ {l : List α} {r : List β}, l.mapM f = some r → r.length = l.length ∧ ∀ (i : Nat) x, l[i]? = some x → ∃ y, r[i]? = some y ∧ f x = some y
  | [], r, h => by
    have : r = [] := by simpa using h.symm
    subst this
    exact ⟨rfl, by simp⟩
  | a :: l, r, h => by
    rw [List.mapM_cons] at h
    cases hf : f a with
    | none => simp [hf] at h
    | some y =>
      cases hm : l.mapM f with
      | none => simp [hf, hm] at h
      | some ys =>
        have : r = y :: ys := by simpa [hf, hm] using h.symm
        subst this
        obtain ⟨h1, h2⟩ := mapM_opt hm
        refine ⟨by simp [h1], ?_⟩
        intro i x hx
        cases i with
        | zero => simp only [List.getElem?_cons_zero, Option.some.injEq] at hx; subst hx; exact ⟨y, rfl, hf⟩
        | succ i => simpa using h2 i x (by simpa using hx)

section
variable {H : Type} {enc : TypeId × Value → H} {P : Program} {w : World} {ts : List TypeId}

/-- Many equal parts, one behind the other. -/
theorem many_rep {sz : Nat} : ∀ (cs : List (List Value)) (xs : List AV), cs.length = xs.length → (∀ (i : Nat) c x, cs[i]? = some c → xs[i]? = some x → RepC w.heap (fun _ => True) x c (fun _ => False) ∧ ncells x = sz) →
    RepL w.heap (fun _ => True) xs cs.flatten (fun _ => False) ∧ (∀ x ∈ xs, x.ncells = sz)
  | [], [], _, _ => by simp only [List.flatten_nil, RepL]; exact ⟨⟨trivial, emp_false⟩, by simp⟩
  | c :: cs, x :: xs, hl, h => by
    obtain ⟨h1, h2⟩ := many_rep cs xs (by simpa using hl) (fun i c' x' hc hx => h (i + 1) c' x' (by simpa using hc) (by simpa using hx))
    obtain ⟨h3, h4⟩ := h 0 c x rfl rfl
    simp only [List.flatten_cons, RepL]
    refine ⟨⟨c, _, fun _ => False, fun _ => False, rfl, by simp, by simp, h3, h1⟩, ?_⟩
    intro y hy
    rcases List.mem_cons.1 hy with rfl | hy
    · exact h4
    · exact h2 y hy
  | [], x :: xs, hl, _ => by simp at hl
  | c :: cs, [], hl, _ => by simp at hl

theorem flatten_get {sz : Nat} (hsz : 0 < sz) : ∀ (cs : List (List Value)), (∀ c ∈ cs, c.length = sz) → ∀ (j : Nat) u, cs.flatten[j]? = some u → ∃ c, cs[j / sz]? = some c ∧ c[j % sz]? = some u
  | [], _, j, u, h => by simp at h
  | c :: cs, hc, j, u, h => by
    have hcl := hc c (List.mem_cons_self ..)
    rw [List.flatten_cons] at h
    by_cases hj : j < sz
    · rw [List.getElem?_append_left (by omega)] at h
      rw [Nat.div_eq_of_lt hj, Nat.mod_eq_of_lt hj]
      exact ⟨c, rfl, h⟩
    · rw [List.getElem?_append_right (by omega), hcl] at h
      obtain ⟨c', h1, h2⟩ := flatten_get hsz cs (fun c' hm => hc c' (List.mem_cons_of_mem _ hm)) (j - sz) u h
      refine ⟨c', ?_, ?_⟩
      · rw [Nat.div_eq_sub_div hsz (by omega)]; simpa using h1
      · rw [Nat.mod_eq_sub_mod (by omega)]; exact h2

theorem list_choose {α β : Type} [Inhabited β] {p : Nat → β → Prop} : ∀ (n : Nat), (∀ i, i < n → ∃ y, p i y) → ∃ ys : List β, ys.length = n ∧ ∀ (i : Nat) y, ys[i]? = some y → p i y
  | 0, _ => ⟨[], rfl, by simp⟩
  | n + 1, h => by
    obtain ⟨ys, h1, h2⟩ := list_choose (α := α) n (fun i hi => h i (by omega))
    obtain ⟨y, hy⟩ := h n (by omega)
    refine ⟨ys ++ [y], by simp [h1], ?_⟩
    intro i z hz
    by_cases hi : i < n
    · rw [List.getElem?_append_left (by omega)] at hz
      exact h2 i z hz
    · have : i = n := by
        have := (List.getElem?_eq_some_iff.1 hz).1
        simp at this; omega
      subst this
      rw [List.getElem?_append_right (by omega), h1] at hz
      simp at hz
      subst hz; exact hy

theorem fieldsGo_le : ∀ (fs : List Field) (off tot : Nat), fieldsGo P ts off fs = some tot → off ≤ tot
  | [], off, tot, h => by simp [fieldsGo] at h; omega
  | f :: r, off, tot, h => by
    simp only [fieldsGo] at h
    split at h
    · have := fieldsGo_le r _ _ h; omega
    · cases h
theorem fields_rep {n : Nat} {cs : List Value} {tot : Nat} (hcs : cs.length = tot) : ∀ (fs : List Field) (off : Nat), fieldsGo P ts off fs = some tot →
    (∀ (i : Nat) (f : Field), fs[i]? = some f → f.type ∈ ts → ∃ y, Typed P n f.type y ∧ RepC w.heap (fun _ => True) y ((cs.drop f.offset).take (P.cellsOf f.type)) (fun _ => False) ∧ ncells y = P.cellsOf f.type) →
    ∃ ys : List AV, ys.length = fs.length ∧ (∀ (i : Nat) (f : Field) (y : AV), fs[i]? = some f → ys[i]? = some y → Typed P n f.type y) ∧ RepL w.heap (fun _ => True) ys (cs.drop off) (fun _ => False) ∧ ncellsL ys = tot - off
  | [], off, h, _ => by
    simp only [fieldsGo, Option.some.injEq] at h
    refine ⟨[], rfl, by simp, ?_, by simp [ncellsL]; omega⟩
    simp only [RepL]
    exact ⟨by apply List.drop_eq_nil_of_le; omega, emp_false⟩
  | f :: r, off, h, hf => by
    simp only [fieldsGo] at h
    split at h
    · rename_i hc
      simp only [Bool.and_eq_true, beq_iff_eq] at hc
      have hle := fieldsGo_le r _ _ h
      obtain ⟨y, h1, h2, h3⟩ := hf 0 f rfl (by simpa using hc.2)
      obtain ⟨ys, g1, g2, g3, g4⟩ := fields_rep hcs r _ h (fun i f' hi hm => hf (i + 1) f' (by simpa using hi) hm)
      refine ⟨y :: ys, by simp [g1], ?_, ?_, by simp only [ncellsL, g4, h3]; omega⟩
      · intro i f' y' hi hy
        cases i with
        | zero => simp at hi hy; subst hi; subst hy; exact h1
        | succ i => exact g2 i f' y' (by simpa using hi) (by simpa using hy)
      · simp only [RepL]
        rw [hc.1] at h2
        refine ⟨_, _, fun _ => False, fun _ => False, ?_, by simp, by simp, h2, g3⟩
        rw [← List.drop_drop, List.take_append_drop]
    · cases h

theorem trod_rep (hts : ts.all (tyOk P ts) = true) : ∀ (fuel : Nat) (t : TypeId) (cs : List Value) (x : DataW H × List MemPlace), t ∈ ts → DataW.trod enc P w 0 (fun _ => true) true fuel t cs = some x →
    ∃ y, Typed P fuel t y ∧ RepC w.heap (fun _ => True) y cs (fun _ => False) ∧ ncells y = P.cellsOf t
  | 0, t, cs, x, _, h => by simp [DataW.trod] at h
  | fuel + 1, t, cs, x, ht, h => by
    have hok := (List.all_eq_true.1 hts) t ht
    unfold tyOk at hok
    unfold Typed
    cases hu : P.underlying t with
    | none => simp [hu] at hok
    | some desc =>
      rw [hu] at hok
      cases desc <;> simp only [Bool.false_eq_true] at hok
      case bool =>
        obtain ⟨b, rfl, _⟩ := DataW.trod_bool hu h
        exact ⟨.bool b, ⟨b, rfl⟩, by simp only [RepC]; exact ⟨trivial, emp_false⟩, by simpa [ncells] using (beq_iff_eq.1 hok).symm⟩
      case int k =>
        obtain ⟨n, rfl, _, hw⟩ := DataW.trod_int hu h
        exact ⟨.int k n, ⟨n, rfl, hw⟩, by simp only [RepC]; exact ⟨trivial, emp_false⟩, by simpa [ncells] using (beq_iff_eq.1 hok).symm⟩
      case string =>
        obtain ⟨s, rfl, _, hs⟩ := DataW.trod_string hu h
        exact ⟨.str s.data.toList, ⟨_, rfl, by rw [Array.length_toList]; exact hs⟩, by simp only [RepC]; exact ⟨by simp, emp_false⟩, by simpa [ncells] using (beq_iff_eq.1 hok).symm⟩
      case slice e =>
        simp only [Bool.and_eq_true, beq_iff_eq, decide_eq_true_eq] at hok
        obtain ⟨⟨hok1, hok2⟩, hok3⟩ := hok
        have he : e ∈ ts := by simpa using hok2
        rcases DataW.trod_slice hu h with ⟨rfl, _⟩ | ⟨a, len, cap, elems, rest, n, hn, rfl, _, hb, hl, hcm, hel, hget, _⟩
        · refine ⟨.sl false (P.cellsOf e) [], ⟨[], rfl, Nat.zero_le _, by simp⟩, ?_, by simpa [ncells] using hok1.symm⟩
          simp only [RepC]
          exact ⟨⟨none, 0, [], rfl, by simp, by simp only [RepL]; exact ⟨trivial, emp_false⟩, by simp, by simp⟩, emp_false⟩
        · have hn' : n = fuel := by omega
          subst hn'
          have hall : ∀ i, i < len → ∃ cy : List Value × AV, w.cells? 0 (a.add (i * P.cellsOf e)) (P.cellsOf e) = some cy.1 ∧ Typed P n e cy.2 ∧ RepC w.heap (fun _ => True) cy.2 cy.1 (fun _ => False) ∧ ncells cy.2 = P.cellsOf e := by
            intro i hi
            have hg := hget i hi
            rw [List.getElem?_eq_getElem (by omega)] at hg
            cases hc : w.cells? 0 (a.add (i * P.cellsOf e)) (P.cellsOf e) with
            | none => simp [hc] at hg
            | some c =>
              simp only [hc, Option.bind_some] at hg
              obtain ⟨y, h1, h2, h3⟩ := trod_rep hts n e c _ he hg
              exact ⟨(c, y), rfl, h1, h2, h3⟩
          obtain ⟨cys, k1, k2⟩ := list_choose (α := Nat) len hall
          have hcs : ∀ c ∈ cys.map (·.1), c.length = P.cellsOf e := by
            intro c hc
            obtain ⟨cy, hm, rfl⟩ := List.mem_map.1 hc
            obtain ⟨i, hi⟩ := List.getElem?_of_mem hm
            exact (World.cells?_some (k2 i cy hi).1).2.1
          obtain ⟨g1, g2⟩ := many_rep (w := w) (sz := P.cellsOf e) (cys.map (·.1)) (cys.map (·.2)) (by simp) (fun i c x hc hx => by
            simp only [List.getElem?_map] at hc hx
            cases hcy : cys[i]? with
            | none => simp [hcy] at hc
            | some cy =>
              simp only [hcy, Option.map_some, Option.some.injEq] at hc hx
              subst hc; subst hx
              exact ⟨(k2 i cy hcy).2.2.1, (k2 i cy hcy).2.2.2⟩)
          refine ⟨.sl false (P.cellsOf e) (cys.map (·.2)), ⟨_, rfl, by rw [List.length_map, k1]; exact Nat.le_trans hl hcm, ?_⟩, ?_, by simpa [ncells] using hok1.symm⟩
          · intro y hy
            obtain ⟨cy, hm, rfl⟩ := List.mem_map.1 hy
            obtain ⟨i, hi⟩ := List.getElem?_of_mem hm
            exact (k2 i cy hi).2.1
          · simp only [RepC]
            refine ⟨⟨some a, cap, (cys.map (·.1)).flatten, by simp [k1], by rw [List.length_map, k1]; exact hl, g1, g2, fun _ => ⟨a, rfl, fun _ => trivial, ?_⟩⟩, emp_false⟩
            intro j u hj
            obtain ⟨c, h1, h2⟩ := flatten_get hok3 _ hcs j u hj
            simp only [List.getElem?_map] at h1
            cases hcy : cys[j / P.cellsOf e]? with
            | none => simp [hcy] at h1
            | some cy =>
              simp only [hcy, Option.map_some, Option.some.injEq] at h1
              subst h1
              have hcell := (World.cells?_some (k2 _ cy hcy).1).2.2 (j % P.cellsOf e) (Nat.mod_lt _ hok3)
              rw [h2, Addr.add_add] at hcell
              rw [show j / P.cellsOf e * P.cellsOf e + j % P.cellsOf e = j by rw [Nat.mul_comm]; exact Nat.div_add_mod j (P.cellsOf e)] at hcell
              rw [← cell_eq]; exact hcell
      case struct fs =>
        obtain ⟨xs, n, hn, _, hl, hxl, hg⟩ := DataW.trod_struct hu h
        have hn' : n = fuel := by omega
        subst hn'
        obtain ⟨ys, g1, g2, g3, g4⟩ := fields_rep (w := w) (n := n) hl fs.toList 0 (beq_iff_eq.1 hok) (fun i f hi hm => by
          have hf := hg i f (by rw [← hi]; simp)
          have hlt : i < fs.size := by simpa using (List.getElem?_eq_some_iff.1 hi).1
          rw [List.getElem?_eq_getElem (by omega)] at hf
          exact trod_rep hts n f.type _ _ hm hf)
        refine ⟨.agg ys, ⟨ys, rfl, by simpa using g1, fun i f y hi hy => g2 i f y (by rw [← hi]; simp) hy⟩, by simp only [RepC]; simpa using g3, by simp only [ncells]; simpa using g4⟩
      case array l e =>
        simp only [Bool.and_eq_true, beq_iff_eq] at hok
        have he : e ∈ ts := by simpa using hok.1
        obtain ⟨xs, n, hn, _, hl, hxl, hg⟩ := DataW.trod_array hu h
        have hn' : n = fuel := by omega
        subst hn'
        have hall : ∀ i, i < l → ∃ cy : List Value × AV, cy.1 = (cs.drop (i * P.cellsOf e)).take (P.cellsOf e) ∧ Typed P n e cy.2 ∧ RepC w.heap (fun _ => True) cy.2 cy.1 (fun _ => False) ∧ ncells cy.2 = P.cellsOf e := by
          intro i hi
          have hf := hg i hi
          rw [List.getElem?_eq_getElem (by omega)] at hf
          obtain ⟨y, h1, h2, h3⟩ := trod_rep hts n e _ _ he hf
          exact ⟨(_, y), rfl, h1, h2, h3⟩
        obtain ⟨cys, k1, k2⟩ := list_choose (α := Nat) l hall
        obtain ⟨g1, g2⟩ := many_rep (w := w) (sz := P.cellsOf e) (cys.map (·.1)) (cys.map (·.2)) (by simp) (fun i c x hc hx => by
          simp only [List.getElem?_map] at hc hx
          cases hcy : cys[i]? with
          | none => simp [hcy] at hc
          | some cy =>
            simp only [hcy, Option.map_some, Option.some.injEq] at hc hx
            subst hc; subst hx
            exact ⟨(k2 i cy hcy).2.2.1, (k2 i cy hcy).2.2.2⟩)
        have hfl : ∀ (k : Nat) (cys' : List (List Value × AV)), (∀ (i : Nat) cy, cys'[i]? = some cy → cy.1 = (cs.drop ((k + i) * P.cellsOf e)).take (P.cellsOf e)) → (k + cys'.length) * P.cellsOf e = cs.length → (cys'.map (·.1)).flatten = cs.drop (k * P.cellsOf e) := by
          intro k cys'
          induction cys' generalizing k with
          | nil =>
            intro _ hlen
            simp only [List.map_nil, List.flatten_nil]
            exact (List.drop_eq_nil_of_le (by simp at hlen; omega)).symm
          | cons cy r ih =>
            intro hi hlen
            have h0 := hi 0 cy rfl
            rw [Nat.add_zero] at h0
            simp only [List.map_cons, List.flatten_cons]
            rw [ih (k + 1) (fun i c hc => by rw [hi (i + 1) c (by simpa using hc)]; congr 2; rw [show k + (i + 1) = k + 1 + i by omega]) (by rw [← hlen]; simp; congr 1; omega), h0, Nat.add_mul, Nat.one_mul, ← List.drop_drop, List.take_append_drop]
        have hfl0 := hfl 0 cys (fun i cy hi => by rw [Nat.zero_add]; exact (k2 i cy hi).1) (by rw [Nat.zero_add, k1, hl, ← hok.2, Nat.mul_comm])
        rw [Nat.zero_mul, List.drop_zero] at hfl0
        rw [hfl0] at g1
        refine ⟨.arr (P.cellsOf e) (cys.map (·.2)), ⟨_, rfl, by rw [List.length_map, k1], ?_⟩, by simp only [RepC]; exact ⟨g1, g2⟩, ?_⟩
        · intro y hy
          obtain ⟨cy, hm, rfl⟩ := List.mem_map.1 hy
          obtain ⟨i, hi⟩ := List.getElem?_of_mem hm
          exact (k2 i cy hi).2.1
        · simp only [ncells, List.length_map, k1]; exact hok.2
end
end Go.Proofs.Ytikpjpinkkllaaa.Am
namespace Go.Proofs.Ytikpjpinkkllaaa.Am
open Go.RowKit AV Go.ChangeShapes Go.WideShapes Go.ChangeAt
set_option linter.unusedVariables false

def TypedL (P : Program) : List TypeId → List AV → Prop
  | [], [] => True
  | t :: ts, x :: xs => (∃ n, Typed P n t x) ∧ TypedL P ts xs
  | _, _ => False

section
variable {H : Type} {enc : TypeId × Value → H} {P : Program} {w : World} {ts : List TypeId}

theorem typed_rep {n : Nat} {t : TypeId} {v : Value} {y : AV} {base : Nat} (T : Typed P n t y) (hv : Value.okWide P w .any base t v) (r : RepC w.heap (fun _ => True) y v.cells.toList (fun _ => False)) : RepW w.heap (fun _ => True) y v (fun _ => False) := by
  cases n with
  | zero => exact T.elim
  | succ n =>
    unfold Typed at T
    split at T
    · rename_i hu
      obtain ⟨b, rfl⟩ := T
      obtain ⟨b', rfl⟩ := okWide_bool hu hv
      simpa only [RepW, Value.cells] using r
    · rename_i k hu
      obtain ⟨m, rfl, _⟩ := T
      obtain ⟨m', rfl⟩ := okWide_int hu hv
      simpa only [RepW, Value.cells] using r
    · rename_i hu
      obtain ⟨s, rfl, _⟩ := T
      obtain ⟨s', rfl⟩ := okWide_string hu hv
      simpa only [RepW, Value.cells] using r
    · rename_i e hu
      obtain ⟨xs, rfl, _⟩ := T
      obtain ⟨a, l, c, rfl⟩ := okWide_slice hu hv
      simpa only [RepW, Value.cells] using r
    · rename_i fs hu
      obtain ⟨ys, rfl, _⟩ := T
      obtain ⟨cs, rfl, _⟩ := okWide_struct hu hv
      simp only [RepW]
      exact ⟨cs, rfl, by simpa only [Value.cells] using r⟩
    · rename_i l e hu
      obtain ⟨ys, rfl, _⟩ := T
      simp only [Value.okWide, hu] at hv
      obtain ⟨cs, rfl, _⟩ := hv
      simp only [RepW]
      exact ⟨cs, rfl, by simpa only [Value.cells] using r⟩
    · exact T.elim

theorem args_in (hl : laidOutB P = true) (hts : ts.all (tyOk P ts) = true) : ∀ (ps : List TypeId) (vs : List Value) (ds : List (DataW H)) (q : List MemPlace), ps.all (fun t => ts.contains t && P.readableRec t && decide (t < P.types.size)) = true →
    (∀ (j : Nat) t v, ps[j]? = some t → vs[j]? = some v → ∃ base, Value.okWide P w .any base t v) → DataW.TrodAll enc P w 0 (fun _ => true) true ps vs ds q →
    ds.length = ps.length ∧ (∃ xs, TypedL P ps xs ∧ RepWs w.heap (fun _ => True) xs vs (fun _ => False)) ∧
    ∀ W', Below w.heap.size w W' → DataW.TrodAll enc P W' 0 (fun b => decide (b < w.heap.size)) true ps vs ds q
  | [], vs, ds, q, _, _, h => by
    obtain ⟨rfl, rfl, rfl⟩ := trodAll_nil h
    exact ⟨rfl, ⟨[], trivial, by simp only [RepWs]; exact ⟨trivial, emp_false⟩⟩, fun _ _ => rfl⟩
  | t :: ps, vs, ds, q, hp, hv, h => by
    obtain ⟨v, vs', d, ds', p, q', rfl, rfl, rfl, h0, h1⟩ := trodAll_cons h
    simp only [List.all_cons, Bool.and_eq_true, decide_eq_true_eq] at hp
    obtain ⟨⟨⟨hp1, hp2⟩, hp3⟩, hp4⟩ := hp
    obtain ⟨g1, ⟨xs, g2, g3⟩, g4⟩ := args_in hl hts ps vs' ds' q' hp4 (fun j t' v' ht hv' => hv (j + 1) t' v' (by simpa using ht) (by simpa using hv')) h1
    obtain ⟨base, hv0⟩ := hv 0 t v rfl rfl
    have h0' := h0
    obtain ⟨fuel, hf⟩ := h0
    obtain ⟨y, T, r, _⟩ := trod_rep hts fuel t v.cells.toList _ (by simpa using hp1) hf
    refine ⟨by simp [g1], ⟨y :: xs, ⟨⟨fuel, T⟩, g2⟩, ?_⟩, ?_⟩
    · simp only [RepWs]
      exact ⟨v, vs', fun _ => False, fun _ => False, rfl, by simp, by simp, typed_rep T hv0 r, g3⟩
    · intro W' hb
      exact ⟨p, q', Below.trod hl hp2 hp3 h0' hb (fun x hx => DataW.trod_lt fuel _ _ _ hf x hx), g4 W' hb, rfl⟩

/-- A row: 'whatever the input: true; the input reads as it did', from what the law does without memory. -/
theorem contract_of_fits {f : FuncId} {fn : Func} {s : ChangeSpec} (tb : TypeId) (ts : List TypeId) (hl : laidOutB P = true) (hts : ts.all (tyOk P ts) = true)
    (hpar : fn.params.toList.all (fun t => ts.contains t && P.readableRec t && decide (t < P.types.size)) = true) (hres : fn.resultTypes = #[tb]) (htb : P.underlying tb = some .bool) (hvars : s.vars = [])
    (hs : ∀ ds : List (DataW H), ds.length = fn.params.toList.length → s.fn H (ds ++ []) = { results := [.lit (.bool true)], args := ds })
    (hf : ∀ xs, TypedL P fn.params.toList xs → Fits P f xs (.bool true) [])
    (W : World) (base : Nat) (args : Array Value) (ds gs : List (DataW H)) (before : List MemPlace)
    (hval : ∀ (j : Nat) t v, fn.params[j]? = some t → args[j]? = some v → Value.okWide P W .any base t v)
    (hW : DataW.Whole enc P fn.params.toList s.vars false W args.toList ds gs before) :
    Calls P f args W fun e W' => ∃ v, e = .returned v ∧ s.post enc P fn false true false false W args v W' := by
  have hW' := hW
  obtain ⟨p, q, hA, hV, rfl, hfz, hnd⟩ := hW
  rw [hvars] at hV
  obtain ⟨rfl, rfl⟩ := trodVars_none hV
  obtain ⟨g1, ⟨xs, g2, g3⟩, g4⟩ := args_in hl hts fn.params.toList args.toList ds p hpar (fun j t v ht hv => ⟨base, hval j t v (by simpa using ht) (by simpa using hv)⟩) hA
  have hF := (hf xs g2).2 W args.toList (fun _ => True) (fun _ => False) (fun _ _ => trivial) (repWs_mono _ g3 ⟨fun k _ _ => ⟨⟨trivial, id⟩, rfl⟩, fun _ _ => rfl⟩)
  rw [Array.toArray_toList] at hF
  refine hF.mono ?_
  rintro e W' ⟨v, Or, Oo, rfl, k1, k2, k3, k4, k5, k6, _, _, _⟩
  have hv : v = .bool true := by
    simp only [RepW, RepC] at k6
    simpa using k6.1
  subst hv
  have hb : Below W.heap.size W W' := ⟨k1, k2, k3, k4, fun k hk => k5 k hk id⟩
  refine ⟨_, rfl, ds, [], p ++ [], [], p, [], hW', ?_, ?_, ?_, hb.frame _, fun h => by cases h⟩
  · rw [hs ds g1, hres]
    exact trodAll_mk1 (shut_bool htb _)
  · rw [hs ds g1]
    exact g4 W' hb
  · rw [hs ds g1, hvars]
    rfl
end
end Go.Proofs.Ytikpjpinkkllaaa.Am
namespace Go.Proofs.Ytikpjpinkkllaaa.Am
open Go.RowKit AV
set_option linter.unusedVariables false

/-! Calls, as one condition that is reckoned. -/
def valL (σ : St) : List Operand → Bool
  | [] => true
  | x :: r => isVal σ x && valL σ r
theorem valL_eq (σ : St) : ∀ xs : List Operand, valL σ xs = valOnly σ xs
  | [] => rfl
  | x :: r => by
    have := valL_eq σ r
    simp only [valL, this]
    rfl
def bOk (σ : St) (xs : List Operand) (d : Tmp) (args : List AV) (res : AV) (K : St → Prop) : Prop := argsOk (argsOf σ xs) args ∧ (if closed res = true then True else valL σ xs = true) ∧ res.target = none ∧ K (put σ d res [])
theorem bOk_or {σ : St} {xs : List Operand} {res : AV} (h : if closed res = true then True else valL σ xs = true) : closed res = true ∨ valOnly σ xs = true := by
  rw [valL_eq] at h
  by_cases hc : closed res = true
  · exact .inl hc
  · rw [if_neg hc] at h; exact .inr h
def notTup : AV → Bool
  | .tup _ => false
  | _ => true
def mOk (σ : St) (xs : List Operand) (i : Nat) (dst : Option Tmp) (args : List AV) (res : AV) (outs : List AV) (K : St → Prop) : Prop :=
  match xs[i]? with
  | some x => (match homeOf σ x with
    | some (s, p, y) => (match outs[i]? with
      | some y' => argsOk (argsM σ s i y 0 xs) args ∧ y'.isAgg = y.isAgg ∧ ncells y' = ncells y ∧ y'.target = none ∧ notTup y' = true ∧ (if (closed res && closed y') = true then True else othersVal σ i 0 xs = true) ∧ res.target = none ∧ dst ≠ some s ∧ K (upd σ (newsOf dst res s (setAt (look σ s) p y')))
      | none => False)
    | none => False)
  | none => False
def gOk (σ : St) (sl : Nat) (xs : List Operand) (i : Nat) (dst : Option Tmp) (args : List AV) (res : AV) (outs : List AV) (K : St → Prop) : Prop :=
  match xs[i]? with
  | some x => (match homeOf σ x with
    | some (s, p, y) => (match outs[i]? with
      | some y' => s = sl ∧ (setAt (look σ s) p y').target = none ∧ dst.isSome = true ∧ argsOk (argsM σ s i y 0 xs) args ∧ y'.isAgg = y.isAgg ∧ ncells y' = ncells y ∧ y'.target = none ∧ notTup y' = true ∧ (if (closed res && closed y') = true then True else othersVal σ i 0 xs = true) ∧ res.target = none ∧ dst ≠ some s ∧ K (upd σ (newsOf dst res s (setAt (look σ s) p y')))
      | none => False)
    | none => False)
  | none => False
def isBox : AV → Bool
  | .box _ => true
  | _ => false
theorem isBox_ex {x : AV} (h : isBox x = true) : ∃ y, x = .box y := by cases x <;> simp [isBox] at h; exact ⟨_, rfl⟩
def kEnd (t s : Nat) (K : St → Prop) (σ : St) : Prop := look σ t = .undef ∧ isBox (look σ s) = true ∧ K ((t, .ptr s [0]) :: σ)
section
variable {P : Program} {K : St → Prop} {f : FuncId} {xs : List Operand} {d : Tmp} {dst : Option Tmp} {σ : St} {args : List AV} {res : AV} {outs : List AV}
theorem callL (F : Fits P f args res outs) (h : bOk σ xs d args res K) : CallL P f xs (some d) σ K := call_of F h.1 (bOk_or h.2.1) h.2.2.1 h.2.2.2
theorem callB (F : Fits P f args res outs) (h : bOk σ xs d args res K) : CallB P f xs (some d) σ K := callb_of F h.1 (bOk_or h.2.1) h.2.2.1 h.2.2.2
theorem callF (L : List (Nat × List Nat)) (F : Fits P f args res outs) (h : bOk (frzs σ L) xs d args res K) : CallB P f xs (some d) σ K := callf_of L F h.1 (bOk_or h.2.1) h.2.2.1 h.2.2.2
theorem callMF (L : List (Nat × List Nat)) (i : Nat) (F : Fits P f args res outs) (h : mOk (frzs σ L) xs i dst args res outs K) : CallB P f xs dst σ K := by
  unfold mOk at h
  split at h
  · rename_i x hx
    split at h
    · rename_i s p y hh
      split at h
      · rename_i y' ho
        obtain ⟨h1, h2, h3, h4, h5, h6, h7, h8, h9⟩ := h
        exact callmf_of L i F hx hh h1 ho ⟨h2, h3, h4, fun l e => by subst e; simp [notTup] at h5⟩ (by
          by_cases hc : (closed res && closed y') = true
          · exact .inl (by simpa using hc)
          · rw [if_neg hc] at h6; exact .inr h6) h7 h8 h9
      · exact h.elim
    · exact h.elim
  · exact h.elim
/-- A call that turns something, in a region whose order is drawn. -/
theorem mstep_of (i : Nat) {sl : Nat} (F : Fits P f args res outs) (h : gOk σ sl xs i dst args res outs K) : MStep P sl f xs dst σ K := by
  unfold gOk at h
  split at h
  · rename_i x hx
    split at h
    · rename_i s p y hh
      split at h
      · rename_i y' ho
        obtain ⟨rfl, h10, h11, h1, h2, h3, h4, h5, h6, h7, h8, h9⟩ := h
        obtain ⟨args0, e1, e2⟩ := argsOk_iff.1 h1
        refine ⟨i, x, p, y, y', args0, args, res, outs, F, hx, hh, e1, e2, ho, ⟨h2, h3, h4, fun l e => by subst e; simp [notTup] at h5⟩, ?_, h7, h8, h10, h11, h9⟩
        by_cases hc : (closed res && closed y') = true
        · exact .inl (by simpa using hc)
        · rw [if_neg hc] at h6; exact .inr h6
      · exact h.elim
    · exact h.elim
  · exact h.elim
theorem callG (i : Nat) {sl : Nat} (F : Fits P f args res outs) (h : gOk σ sl xs i dst args res outs K) : MStepG P [sl] f xs dst σ K := ⟨[sl], fun _ h => h, .inl ⟨sl, rfl, mstep_of i F h⟩⟩
/-- The same, where a store turns something, too. -/
theorem callG2 (i : Nat) {sl : Nat} {ss : List Nat} (F : Fits P f args res outs) (h : gOk σ sl xs i dst args res outs K) : MStepG P (sl :: ss) f xs dst σ K := ⟨[sl], fun t h => by rw [List.mem_singleton] at h; simp [h], .inl ⟨sl, rfl, mstep_of i F h⟩⟩
/-- The same; the list at slot t is shared from here on. -/
theorem callGF (i : Nat) {sl t : Nat} (F : Fits P f args res outs) (h : Operand.tmp t ∈ xs ∧ t ≠ sl ∧ dst ≠ some t ∧ (look σ t).target = none ∧ gOk (upd σ [(t, erase (look σ t))]) sl xs i dst args res outs K) : MStepG P [sl, t] f xs dst σ K := ⟨_, fun _ h => h, .inr ⟨sl, t, rfl, h.1, h.2.1, h.2.2.1, h.2.2.2.1, mstep_of i F h.2.2.2.2⟩⟩
theorem callM (i : Nat) (F : Fits P f args res outs) (h : mOk σ xs i dst args res outs K) : CallB P f xs dst σ K := callMF [] i F h
/-- The same; the pointer in slot t leads there, too, and is as good as before. -/
theorem callK (t s i : Nat) (F : Fits P f args res outs) (h : look σ t = .ptr s [0] ∧ isBox (look σ s) = true ∧ t ≠ s ∧ dst ≠ some t ∧ dst ≠ some s ∧ mOk σ xs i dst args res outs (fun σ' => kEnd t s K σ')) : CallB P f xs dst σ K := by
  obtain ⟨h1, h2, h3, h4, h5, h6⟩ := h
  obtain ⟨y, hy⟩ := isBox_ex h2
  refine .inr (.inr ⟨t, s, y, h1, hy, h3, h4, h5, ?_⟩)
  unfold mOk at h6
  split at h6
  · rename_i x hx
    split at h6
    · rename_i s1 p y1 hh
      split at h6
      · rename_i y' ho
        obtain ⟨q1, q2, q3, q4, q5, q6, q7, q8, q9, q10, q11⟩ := h6
        obtain ⟨a0, e1, e2⟩ := argsOk_iff.1 q1
        refine ⟨i, x, s1, p, y1, y', a0, args, res, outs, F, hx, hh, e1, e2, ho, ⟨q2, q3, q4, fun l e => by subst e; simp [notTup] at q5⟩, ?_, q7, q8, q9, isBox_ex q10, q11⟩
        by_cases hc : (closed res && closed y') = true
        · exact .inl (by simpa using hc)
        · rw [if_neg hc] at q6; exact .inr q6
      · exact h6.elim
    · exact h6.elim
  · exact h6.elim
end
/-! Great regions are written as lists that are joined. -/
theorem run_regionT {P : Program} {cw : CW} {vars : List Nat} {Q : Post} (k : List It) (σ : St) (id : Nat) (ops : List Oper) : Run P cw vars Q (.code (.region id (List.toArray ops) false) :: k) σ = Run P cw vars Q (.ops ops ops :: k) σ := rfl
theorem run_drawT {P : Program} {cw : CW} {vars : List Nat} {Q : Post} (k : List It) (σ : St) (id : Nat) (ops : List Oper) : Run P cw vars Q (.code (.region id (List.toArray ops) true) :: k) σ = ((drawOk P ops = true ∧ Run P cw vars Q (.drw ops (ops.filterMap (·.dst)) ops :: k) σ) ∨ LateR P cw vars Q ops k σ) := rfl
theorem lapp_nil {α : Type} (b : List α) : List.append [] b = b := rfl
theorem lapp_cons {α : Type} (x : α) (a b : List α) : List.append (x :: a) b = x :: List.append a b := rfl
def cvt (a b : Nat) (P : Program) (σ : St) (s t : TypeId) (x : Operand) (d : Option Tmp) (K : St → Prop) : Prop := match a, b, d with
  | 4, 1, some d => strBytesW P σ s t x d K
  | 1, 4, d => bytesStrW P σ s t x (pureK σ d K)
  | 5, 5, d => convW P σ s t x (pureK σ d K)
  | _, _, _ => False
section
variable (P : Program) (σ : St) (s t : TypeId) (x : Operand) (K : St → Prop)
theorem convertW_cvt (d : Option Tmp) : convertW P σ s t x d K = cvt (tinfo P s).kind (tinfo P t).kind P σ s t x d K := rfl
theorem cvt_41 (d : Tmp) : cvt 4 1 P σ s t x (some d) K = strBytesW P σ s t x d K := rfl
theorem cvt_14 (d : Option Tmp) : cvt 1 4 P σ s t x d K = bytesStrW P σ s t x (pureK σ d K) := rfl
theorem cvt_55 (d : Option Tmp) : cvt 5 5 P σ s t x d K = convW P σ s t x (pureK σ d K) := rfl
end
theorem oa_some (x : Operand) : (some x).toArray.toList = [x] := rfl
theorem oa_none : (none : Option Operand).toArray.toList = [] := rfl
theorem toNat_0 : Int.toNat 0 = 0 := rfl
theorem toNat_1 : Int.toNat 1 = 1 := rfl
/-! Rules whose conditions 'omega' shows. -/
theorem wrap_i64 {x : Int} (h1 : -9223372036854775808 ≤ x) (h2 : x ≤ 9223372036854775807) : IntKind.wrap .i64 x = x := by
  simp [IntKind.wrap, IntKind.bits, IntKind.signed]; omega
theorem wrap_u8 {x : Int} (h1 : 0 ≤ x) (h2 : x ≤ 255) : IntKind.wrap .u8 x = x := by
  simp [IntKind.wrap, IntKind.bits, IntKind.signed]; omega
theorem ilt_t {a b : Int} (h : a < b) : (a < b) = True := eq_true h
theorem ilt_f {a b : Int} (h : b ≤ a) : (a < b) = False := eq_false (by omega)
theorem ile_t {a b : Int} (h : a ≤ b) : (a ≤ b) = True := eq_true h
theorem ile_f {a b : Int} (h : b < a) : (a ≤ b) = False := eq_false (by omega)
theorem nlt_t {a b : Nat} (h : a < b) : (a < b) = True := eq_true h
theorem nlt_f {a b : Nat} (h : b ≤ a) : (a < b) = False := eq_false (by omega)
theorem nle_t {a b : Nat} (h : a ≤ b) : (a ≤ b) = True := eq_true h
theorem nle_f {a b : Nat} (h : b < a) : (a ≤ b) = False := eq_false (by omega)
theorem ibeq_t {a b : Int} (h : a = b) : (a == b) = true := by simp [h]
theorem ibeq_f {a b : Int} (h : a ≠ b) : (a == b) = false := by simp [h]
theorem ibne_t {a b : Int} (h : a ≠ b) : (a != b) = true := by simp [h]
theorem ibne_f {a b : Int} (h : a = b) : (a != b) = false := by simp [h]
theorem getD_map' {α : Type} (f : α → AV) (xs : List α) (i : Nat) (h : i < xs.length) : (xs.map f).getD i .undef = f xs[i] := by simp [List.getD, h]
theorem get_map' {α : Type} (f : α → AV) (xs : List α) (i : Nat) (h : i < xs.length) : (xs.map f)[i]? = some (f xs[i]) := by simp [h]
theorem toNat_cast_sub {a b : Nat} (h : b ≤ a) : ((a : Int) - (b : Int)).toNat = a - b := by omega
section
variable {P : Program} {cw : CW} {vars : List Nat} {Q : Post} {p : Prop} [Decidable p] {x y : Code} {σ : St} {k : List It} {t : Bool} {a b : Int} {o : Oper} {all l : List Oper} {ds : List Nat} {want : Bool}
theorem cond_not (t : Bool) (x y : Code) (k : List It) (σ : St) : condR P cw vars Q (.bool (!t)) x y k σ = condR P cw vars Q (.bool t) y x k σ := by cases t <;> simp [condR]
theorem guard_not (t want : Bool) (o : Oper) (all l : List Oper) (k : List It) (σ : St) : guardR P cw vars Q (.bool (!t)) want o all l k σ = guardR P cw vars Q (.bool t) (!want) o all l k σ := by cases t <;> cases want <;> rfl
theorem guardD_not (t want : Bool) (o : Oper) (all : List Oper) (ds : List Nat) (l : List Oper) (k : List It) (σ : St) : guardD P cw vars Q (.bool (!t)) want o all ds l k σ = guardD P cw vars Q (.bool t) (!want) o all ds l k σ := by cases t <;> cases want <;> rfl
/-! The tests, split. -/
theorem cond_dec (h1 : p → condR P cw vars Q (.bool true) x y k σ) (h2 : ¬ p → condR P cw vars Q (.bool false) x y k σ) : condR P cw vars Q (.bool (decide p)) x y k σ := by
  by_cases h : p
  · simpa [h] using h1 h
  · simpa [h] using h2 h
theorem cond_beq (h1 : a = b → condR P cw vars Q (.bool true) x y k σ) (h2 : a ≠ b → condR P cw vars Q (.bool false) x y k σ) : condR P cw vars Q (.bool (a == b)) x y k σ := by
  by_cases h : a = b
  · simpa [h] using h1 h
  · rw [show (a == b) = false by simp [h]]; exact h2 h
theorem cond_bne (h1 : a ≠ b → condR P cw vars Q (.bool true) x y k σ) (h2 : a = b → condR P cw vars Q (.bool false) x y k σ) : condR P cw vars Q (.bool (a != b)) x y k σ := by
  by_cases h : a = b
  · simpa [h] using h2 h
  · rw [show (a != b) = true by simp [h]]; exact h1 h
theorem cond_of (h1 : t = true → condR P cw vars Q (.bool true) x y k σ) (h2 : t = false → condR P cw vars Q (.bool false) x y k σ) : condR P cw vars Q (.bool t) x y k σ := by
  cases t
  · exact h2 rfl
  · exact h1 rfl
theorem guard_dec (h1 : p → guardR P cw vars Q (.bool true) want o all l k σ) (h2 : ¬ p → guardR P cw vars Q (.bool false) want o all l k σ) : guardR P cw vars Q (.bool (decide p)) want o all l k σ := by
  by_cases h : p
  · simpa [h] using h1 h
  · simpa [h] using h2 h
theorem guard_beq (h1 : a = b → guardR P cw vars Q (.bool true) want o all l k σ) (h2 : a ≠ b → guardR P cw vars Q (.bool false) want o all l k σ) : guardR P cw vars Q (.bool (a == b)) want o all l k σ := by
  by_cases h : a = b
  · simpa [h] using h1 h
  · rw [show (a == b) = false by simp [h]]; exact h2 h
theorem guard_bne (h1 : a ≠ b → guardR P cw vars Q (.bool true) want o all l k σ) (h2 : a = b → guardR P cw vars Q (.bool false) want o all l k σ) : guardR P cw vars Q (.bool (a != b)) want o all l k σ := by
  by_cases h : a = b
  · simpa [h] using h2 h
  · rw [show (a != b) = true by simp [h]]; exact h1 h
theorem guard_of (h1 : t = true → guardR P cw vars Q (.bool true) want o all l k σ) (h2 : t = false → guardR P cw vars Q (.bool false) want o all l k σ) : guardR P cw vars Q (.bool t) want o all l k σ := by
  cases t
  · exact h2 rfl
  · exact h1 rfl
theorem guardD_dec (h1 : p → guardD P cw vars Q (.bool true) want o all ds l k σ) (h2 : ¬ p → guardD P cw vars Q (.bool false) want o all ds l k σ) : guardD P cw vars Q (.bool (decide p)) want o all ds l k σ := by
  by_cases h : p
  · simpa [h] using h1 h
  · simpa [h] using h2 h
theorem guardD_beq (h1 : a = b → guardD P cw vars Q (.bool true) want o all ds l k σ) (h2 : a ≠ b → guardD P cw vars Q (.bool false) want o all ds l k σ) : guardD P cw vars Q (.bool (a == b)) want o all ds l k σ := by
  by_cases h : a = b
  · simpa [h] using h1 h
  · rw [show (a == b) = false by simp [h]]; exact h2 h
theorem guardD_bne (h1 : a ≠ b → guardD P cw vars Q (.bool true) want o all ds l k σ) (h2 : a = b → guardD P cw vars Q (.bool false) want o all ds l k σ) : guardD P cw vars Q (.bool (a != b)) want o all ds l k σ := by
  by_cases h : a = b
  · simpa [h] using h2 h
  · rw [show (a != b) = true by simp [h]]; exact h1 h
theorem guardD_of (h1 : t = true → guardD P cw vars Q (.bool true) want o all ds l k σ) (h2 : t = false → guardD P cw vars Q (.bool false) want o all ds l k σ) : guardD P cw vars Q (.bool t) want o all ds l k σ := by
  cases t
  · exact h2 rfl
  · exact h1 rfl
end
/-- What is one's own may be looked upon as shared. -/
theorem fits_shared {P : Program} {f : FuncId} {args : List AV} {res : AV} (h : Fits P f args res []) : Fits P f args (erase res) [] := by
  obtain ⟨h1, h2⟩ := h
  refine ⟨h1, fun w vs ok O hall hrep => Calls.mono (h2 w vs ok O hall hrep) ?_⟩
  rintro e w' ⟨v, Or, Oo, e1, e2, e3, e4, e5, e6, e7, e8, e9, e10⟩
  have hi := e5
  refine ⟨v, fun _ => False, Oo, e1, e2, e3, e4, e5, e6, ?_, ?_, fun _ hk => hk.elim, fun k hk => e10 k (hk.elim (fun x => x.elim) .inr)⟩
  · refine repW_erase _ e7 (fun k hk => ⟨hk.1, fun x => x, hk.2.2⟩) (fun k hk => ⟨?_, fun x => x, e9 k hk⟩)
    rcases e10 k (.inl hk) with h3 | h3
    · exact hall k (.inl h3)
    · exact hall k (.inr h3)
  · simp only [RepWs] at e8 ⊢
    exact e8
end Go.Proofs.Ytikpjpinkkllaaa.Am
namespace Go.Proofs.Ytikpjpinkkllaaa.Am
open Go.RowKit AV
set_option linter.unusedVariables false
theorem am0 : type_of% @run_draw ∧ type_of% @run_drw ∧ type_of% @drw_none ∧ type_of% @drw_some ∧ type_of% @gd_tt ∧ type_of% @gd_ff ∧ type_of% @gd_tf ∧ type_of% @gd_ft ∧ type_of% @gd_skip ∧ type_of% @chk_move ∧ type_of% @chk_pick ∧ type_of% @chk_load ∧ type_of% @chk_binOp ∧ type_of% @chk_unOp ∧ type_of% @chk_fieldAddr ∧ type_of% @chk_indexAddr ∧ type_of% @chk_index ∧ type_of% @chk_slice ∧ type_of% @chk_len ∧ type_of% @chk_fn ∧ type_of% @chk_alloc ∧ type_of% @chk_assign ∧ type_of% @chk_box ∧ type_of% @chk_build ∧ type_of% @chk_buildSlice ∧ type_of% @chk_store ∧ type_of% @chk_makeSlice ∧ type_of% @chk_extract ∧ type_of% @chk_append ∧ type_of% @chkA_t ∧ type_of% @chkA_f ∧ type_of% @madeIn_tmp ∧ type_of% @madeIn_const ∧ type_of% @madeL.eq_1 ∧ type_of% @madeL.eq_2 ∧ type_of% @dq.eq_1 ∧ type_of% @dq.eq_2 ∧ type_of% @isMk.eq_1 ∧ type_of% @isMk.eq_2 ∧ type_of% @isMk.eq_3 ∧ type_of% @isMk.eq_4 ∧ type_of% @isMk.eq_5 ∧ type_of% @tmpsOf.eq_1 ∧ type_of% @tmpsOf.eq_2 ∧ type_of% @tmpsOf.eq_3 ∧ type_of% @looks_none ∧ type_of% @looks_some ∧ type_of% @gtmp_some ∧ type_of% @gtmp_none ∧ type_of% @check1_eq ∧ type_of% @check0_eq ∧ type_of% @c0_oth ∧ type_of% @c0_int ∧ type_of% @c0_bool ∧ type_of% @c0_str ∧ type_of% @c0_sl ∧ type_of% @c0_agg ∧ type_of% @c0_arr ∧ type_of% @c0_tup ∧ type_of% @c0_box ∧ type_of% @c0_dptr ∧ type_of% @ck_undef ∧ type_of% @ck_oth ∧ type_of% @ck_int ∧ type_of% @ck_bool ∧ type_of% @ck_str ∧ type_of% @ck_sl ∧ type_of% @ck_agg ∧ type_of% @ck_arr ∧ type_of% @ck_tup ∧ type_of% @ck_box ∧ type_of% @ck_dptr ∧ type_of% @ck_vref ∧ type_of% @ck_vagg ∧ type_of% @ck_vsub ∧ type_of% @ck_ptr ∧ type_of% @ct_sl ∧ type_of% @ct_agg ∧ type_of% @ct_arr ∧ type_of% @ct_box := ⟨@run_draw, @run_drw, @drw_none, @drw_some, @gd_tt, @gd_ff, @gd_tf, @gd_ft, @gd_skip, @chk_move, @chk_pick, @chk_load, @chk_binOp, @chk_unOp, @chk_fieldAddr, @chk_indexAddr, @chk_index, @chk_slice, @chk_len, @chk_fn, @chk_alloc, @chk_assign, @chk_box, @chk_build, @chk_buildSlice, @chk_store, @chk_makeSlice, @chk_extract, @chk_append, @chkA_t, @chkA_f, @madeIn_tmp, @madeIn_const, @madeL.eq_1, @madeL.eq_2, @dq.eq_1, @dq.eq_2, @isMk.eq_1, @isMk.eq_2, @isMk.eq_3, @isMk.eq_4, @isMk.eq_5, @tmpsOf.eq_1, @tmpsOf.eq_2, @tmpsOf.eq_3, @looks_none, @looks_some, @gtmp_some, @gtmp_none, @check1_eq, @check0_eq, @c0_oth, @c0_int, @c0_bool, @c0_str, @c0_sl, @c0_agg, @c0_arr, @c0_tup, @c0_box, @c0_dptr, @ck_undef, @ck_oth, @ck_int, @ck_bool, @ck_str, @ck_sl, @ck_agg, @ck_arr, @ck_tup, @ck_box, @ck_dptr, @ck_vref, @ck_vagg, @ck_vsub, @ck_ptr, @ct_sl, @ct_agg, @ct_arr, @ct_box⟩
theorem am1 : type_of% @Op.operands.eq_1 ∧ type_of% @Op.operands.eq_2 ∧ type_of% @Op.operands.eq_3 ∧ type_of% @Op.operands.eq_4 ∧ type_of% @Op.operands.eq_5 ∧ type_of% @Op.operands.eq_6 ∧ type_of% @Op.operands.eq_7 ∧ type_of% @Op.operands.eq_8 ∧ type_of% @Op.operands.eq_9 ∧ type_of% @Op.operands.eq_10 ∧ type_of% @Op.operands.eq_11 ∧ type_of% @Op.operands.eq_12 ∧ type_of% @Op.operands.eq_13 ∧ type_of% @Op.operands.eq_14 ∧ type_of% @Op.operands.eq_15 ∧ type_of% @Op.operands.eq_16 ∧ type_of% @Op.operands.eq_17 ∧ type_of% @Op.operands.eq_18 ∧ type_of% @Op.operands.eq_19 ∧ type_of% @Op.operands.eq_20 ∧ type_of% @Op.operands.eq_21 ∧ type_of% @Op.operands.eq_22 ∧ type_of% @Op.operands.eq_23 ∧ type_of% @Op.operands.eq_24 ∧ type_of% @Op.operands.eq_25 ∧ type_of% @Op.operands.eq_26 ∧ type_of% @Op.operands.eq_27 ∧ type_of% @Op.operands.eq_28 ∧ type_of% @Op.operands.eq_29 ∧ type_of% @Op.operands.eq_30 ∧ type_of% @Op.operands.eq_31 ∧ type_of% @Op.operands.eq_32 ∧ type_of% @Op.operands.eq_33 ∧ type_of% @Op.operands.eq_34 ∧ type_of% @Op.operands.eq_35 ∧ type_of% @Op.operands.eq_36 ∧ type_of% @Op.operands.eq_37 ∧ type_of% @Op.operands.eq_38 ∧ type_of% @Op.operands.eq_39 ∧ type_of% @Op.operands.eq_40 ∧ type_of% @Op.operands.eq_41 ∧ type_of% @Op.operands.eq_42 ∧ type_of% @Op.operands.eq_43 ∧ type_of% @Call.operands.eq_1 ∧ type_of% @List.all_cons.{0} ∧ type_of% @List.all_nil.{0} ∧ type_of% @Bool.and_true ∧ type_of% @Bool.true_and ∧ type_of% @List.filterMap_cons.{0,0} ∧ type_of% @List.filterMap_nil.{0,0} ∧ type_of% @Array.toList_append.{0} ∧ type_of% @run_nil ∧ type_of% @run_skip ∧ type_of% @run_seq ∧ type_of% @run_region ∧ type_of% @run_ops ∧ type_of% @run_cond ∧ type_of% @cond_t ∧ type_of% @cond_f ∧ type_of% @run_block ∧ type_of% @run_blk ∧ type_of% @run_exit ∧ type_of% @kx_nil ∧ type_of% @kx_code ∧ type_of% @kx_blk ∧ type_of% @run_ret ∧ type_of% @kr_code ∧ type_of% @kr_blk ∧ type_of% @ops_none ∧ type_of% @ops_some ∧ type_of% @guard_tt ∧ type_of% @guard_ff ∧ type_of% @guard_tf ∧ type_of% @guard_ft ∧ type_of% @guard_skip ∧ type_of% @gslot_some ∧ type_of% @retQ_ret ∧ type_of% @retQ_normal ∧ type_of% @endQ_ret ∧ type_of% @endQ_normal := ⟨@Op.operands.eq_1, @Op.operands.eq_2, @Op.operands.eq_3, @Op.operands.eq_4, @Op.operands.eq_5, @Op.operands.eq_6, @Op.operands.eq_7, @Op.operands.eq_8, @Op.operands.eq_9, @Op.operands.eq_10, @Op.operands.eq_11, @Op.operands.eq_12, @Op.operands.eq_13, @Op.operands.eq_14, @Op.operands.eq_15, @Op.operands.eq_16, @Op.operands.eq_17, @Op.operands.eq_18, @Op.operands.eq_19, @Op.operands.eq_20, @Op.operands.eq_21, @Op.operands.eq_22, @Op.operands.eq_23, @Op.operands.eq_24, @Op.operands.eq_25, @Op.operands.eq_26, @Op.operands.eq_27, @Op.operands.eq_28, @Op.operands.eq_29, @Op.operands.eq_30, @Op.operands.eq_31, @Op.operands.eq_32, @Op.operands.eq_33, @Op.operands.eq_34, @Op.operands.eq_35, @Op.operands.eq_36, @Op.operands.eq_37, @Op.operands.eq_38, @Op.operands.eq_39, @Op.operands.eq_40, @Op.operands.eq_41, @Op.operands.eq_42, @Op.operands.eq_43, @Call.operands.eq_1, @List.all_cons.{0}, @List.all_nil.{0}, @Bool.and_true, @Bool.true_and, @List.filterMap_cons.{0,0}, @List.filterMap_nil.{0,0}, @Array.toList_append.{0}, @run_nil, @run_skip, @run_seq, @run_region, @run_ops, @run_cond, @cond_t, @cond_f, @run_block, @run_blk, @run_exit, @kx_nil, @kx_code, @kx_blk, @run_ret, @kr_code, @kr_blk, @ops_none, @ops_some, @guard_tt, @guard_ff, @guard_tf, @guard_ft, @guard_skip, @gslot_some, @retQ_ret, @retQ_normal, @endQ_ret, @endQ_normal⟩
theorem am2 : type_of% @plainL.eq_1 ∧ type_of% @plainL.eq_2 ∧ type_of% @ncellsL.eq_1 ∧ type_of% @ncellsL.eq_2 ∧ type_of% @allocW.eq_1 ∧ type_of% @boxW.eq_1 ∧ type_of% @makeW.eq_1 ∧ type_of% @extractW.eq_1 ∧ type_of% @extractW.eq_2 ∧ type_of% @List.getElem?_nil.{0} ∧ type_of% @List.length_cons.{0} ∧ type_of% @List.take_zero.{0} ∧ type_of% @List.take_succ_cons.{0} ∧ type_of% @List.set_cons_zero.{0} ∧ type_of% @List.set_cons_succ.{0} ∧ type_of% @Nat.lt_add_one ∧ type_of% @List.getD_cons_zero.{0} ∧ type_of% @List.getD_cons_succ.{0} ∧ type_of% @initGo.eq_1 ∧ type_of% @initGo.eq_2 ∧ type_of% @op_move ∧ type_of% @op_assign ∧ type_of% @op_pick ∧ type_of% @op_alloc ∧ type_of% @op_box ∧ type_of% @op_build ∧ type_of% @op_buildSlice ∧ type_of% @op_load ∧ type_of% @op_store ∧ type_of% @op_binOp ∧ type_of% @op_unOp ∧ type_of% @op_convert ∧ type_of% @op_makeSlice ∧ type_of% @op_slice ∧ type_of% @op_fieldAddr ∧ type_of% @op_indexAddr ∧ type_of% @op_index ∧ type_of% @op_extract ∧ type_of% @op_len ∧ type_of% @op_append ∧ type_of% @op_call ∧ type_of% @skip_some ∧ type_of% @skip_none ∧ type_of% @moveW.eq_1 ∧ type_of% @srcOf.eq_1 ∧ type_of% @assignW.eq_1 ∧ type_of% @ev.eq_1 ∧ type_of% @ev.eq_2 ∧ type_of% @ev.eq_3 ∧ type_of% @ev.eq_4 ∧ type_of% @constV.eq_1 ∧ type_of% @constV.eq_2 ∧ type_of% @constV.eq_3 ∧ type_of% @constV.eq_4 ∧ type_of% @constV.eq_5 ∧ type_of% @constV.eq_6 ∧ type_of% @constV.eq_7 ∧ type_of% @constV.eq_8 ∧ type_of% @constV.eq_9 ∧ type_of% @pull.eq_1 ∧ type_of% @pull.eq_2 ∧ type_of% @pulls.eq_1 ∧ type_of% @usedOf.eq_1 ∧ type_of% @usedOf.eq_2 ∧ type_of% @usedOf.eq_3 ∧ type_of% @look_put ∧ type_of% @look_upd ∧ type_of% @keys.eq_1 ∧ type_of% @keys.eq_2 ∧ type_of% @Am.look.eq_1 ∧ type_of% @Am.look.eq_2 ∧ type_of% @pu_undef ∧ type_of% @pu_oth ∧ type_of% @pu_int ∧ type_of% @pu_bool ∧ type_of% @pu_str ∧ type_of% @pu_sl ∧ type_of% @pu_agg ∧ type_of% @pu_arr ∧ type_of% @pu_tup := ⟨@plainL.eq_1, @plainL.eq_2, @ncellsL.eq_1, @ncellsL.eq_2, @allocW.eq_1, @boxW.eq_1, @makeW.eq_1, @extractW.eq_1, @extractW.eq_2, @List.getElem?_nil.{0}, @List.length_cons.{0}, @List.take_zero.{0}, @List.take_succ_cons.{0}, @List.set_cons_zero.{0}, @List.set_cons_succ.{0}, @Nat.lt_add_one, @List.getD_cons_zero.{0}, @List.getD_cons_succ.{0}, @initGo.eq_1, @initGo.eq_2, @op_move, @op_assign, @op_pick, @op_alloc, @op_box, @op_build, @op_buildSlice, @op_load, @op_store, @op_binOp, @op_unOp, @op_convert, @op_makeSlice, @op_slice, @op_fieldAddr, @op_indexAddr, @op_index, @op_extract, @op_len, @op_append, @op_call, @skip_some, @skip_none, @moveW.eq_1, @srcOf.eq_1, @assignW.eq_1, @ev.eq_1, @ev.eq_2, @ev.eq_3, @ev.eq_4, @constV.eq_1, @constV.eq_2, @constV.eq_3, @constV.eq_4, @constV.eq_5, @constV.eq_6, @constV.eq_7, @constV.eq_8, @constV.eq_9, @pull.eq_1, @pull.eq_2, @pulls.eq_1, @usedOf.eq_1, @usedOf.eq_2, @usedOf.eq_3, @look_put, @look_upd, @keys.eq_1, @keys.eq_2, @Am.look.eq_1, @Am.look.eq_2, @pu_undef, @pu_oth, @pu_int, @pu_bool, @pu_str, @pu_sl, @pu_agg, @pu_arr, @pu_tup⟩
theorem am3 : type_of% @pu_box ∧ type_of% @pu_dptr ∧ type_of% @pu_vref ∧ type_of% @pu_vagg ∧ type_of% @pu_vsub ∧ type_of% @pu_ptr ∧ type_of% @kp_undef ∧ type_of% @kp_oth ∧ type_of% @kp_int ∧ type_of% @kp_bool ∧ type_of% @kp_str ∧ type_of% @kp_sl ∧ type_of% @kp_agg ∧ type_of% @kp_arr ∧ type_of% @kp_tup ∧ type_of% @kp_box ∧ type_of% @kp_dptr ∧ type_of% @kp_vref ∧ type_of% @kp_vagg ∧ type_of% @kp_vsub ∧ type_of% @kp_ptr ∧ type_of% @tidy.eq_1 ∧ type_of% @tidyGo.eq_1 ∧ type_of% @tidyGo.eq_2 ∧ type_of% @pureK_some ∧ type_of% @pureK_none ∧ type_of% @AV.target.eq_1 ∧ type_of% @AV.target.eq_2 ∧ type_of% @AV.target.eq_3 ∧ type_of% @AV.target.eq_4 ∧ type_of% @AV.target.eq_5 ∧ type_of% @plain.eq_1 ∧ type_of% @plain.eq_2 ∧ type_of% @plain.eq_3 ∧ type_of% @plain.eq_4 ∧ type_of% @plain.eq_5 ∧ type_of% @plain.eq_6 ∧ type_of% @plain.eq_7 ∧ type_of% @plain.eq_8 ∧ type_of% @plain.eq_9 ∧ type_of% @plain.eq_10 ∧ type_of% @plain.eq_11 ∧ type_of% @plain.eq_12 ∧ type_of% @plain.eq_13 ∧ type_of% @plain.eq_14 ∧ type_of% @plain.eq_15 ∧ type_of% @needW_some ∧ type_of% @needW_none ∧ type_of% @needW_if ∧ type_of% @needW_ifn ∧ type_of% @binA.eq_1 ∧ type_of% @binA.eq_2 ∧ type_of% @binA.eq_3 ∧ type_of% @binA.eq_4 ∧ type_of% @binA.eq_5 ∧ type_of% @binA.eq_6 ∧ type_of% @binA.eq_7 ∧ type_of% @eqAgg.eq_1 ∧ type_of% @eqAgg.eq_2 ∧ type_of% @eqSL.eq_1 ∧ type_of% @eqSL.eq_2 ∧ type_of% @eqSL.eq_3 ∧ type_of% @eqS.eq_1 ∧ type_of% @eqS.eq_2 ∧ type_of% @eqS.eq_3 ∧ type_of% @eqS.eq_4 ∧ type_of% @avK.eq_1 ∧ type_of% @avK.eq_2 ∧ type_of% @avK.eq_3 ∧ type_of% @avK.eq_4 ∧ type_of% @and_self ∧ type_of% @intOp.eq_1 ∧ type_of% @intOp.eq_2 ∧ type_of% @intOp.eq_3 ∧ type_of% @intOp.eq_4 ∧ type_of% @intOp.eq_5 ∧ type_of% @intOp.eq_6 ∧ type_of% @intOp.eq_7 ∧ type_of% @intOp.eq_8 ∧ type_of% @intOp.eq_9 := ⟨@pu_box, @pu_dptr, @pu_vref, @pu_vagg, @pu_vsub, @pu_ptr, @kp_undef, @kp_oth, @kp_int, @kp_bool, @kp_str, @kp_sl, @kp_agg, @kp_arr, @kp_tup, @kp_box, @kp_dptr, @kp_vref, @kp_vagg, @kp_vsub, @kp_ptr, @tidy.eq_1, @tidyGo.eq_1, @tidyGo.eq_2, @pureK_some, @pureK_none, @AV.target.eq_1, @AV.target.eq_2, @AV.target.eq_3, @AV.target.eq_4, @AV.target.eq_5, @plain.eq_1, @plain.eq_2, @plain.eq_3, @plain.eq_4, @plain.eq_5, @plain.eq_6, @plain.eq_7, @plain.eq_8, @plain.eq_9, @plain.eq_10, @plain.eq_11, @plain.eq_12, @plain.eq_13, @plain.eq_14, @plain.eq_15, @needW_some, @needW_none, @needW_if, @needW_ifn, @binA.eq_1, @binA.eq_2, @binA.eq_3, @binA.eq_4, @binA.eq_5, @binA.eq_6, @binA.eq_7, @eqAgg.eq_1, @eqAgg.eq_2, @eqSL.eq_1, @eqSL.eq_2, @eqSL.eq_3, @eqS.eq_1, @eqS.eq_2, @eqS.eq_3, @eqS.eq_4, @avK.eq_1, @avK.eq_2, @avK.eq_3, @avK.eq_4, @and_self, @intOp.eq_1, @intOp.eq_2, @intOp.eq_3, @intOp.eq_4, @intOp.eq_5, @intOp.eq_6, @intOp.eq_7, @intOp.eq_8, @intOp.eq_9⟩
theorem am4 : type_of% @intOp.eq_10 ∧ type_of% @intOp.eq_11 ∧ type_of% @intOp.eq_12 ∧ type_of% @intOp.eq_13 ∧ type_of% @strOp.eq_1 ∧ type_of% @strOp.eq_2 ∧ type_of% @strOp.eq_3 ∧ type_of% @strOp.eq_4 ∧ type_of% @strOp.eq_5 ∧ type_of% @strOp.eq_6 ∧ type_of% @strOp.eq_7 ∧ type_of% @strOp.eq_8 ∧ type_of% @unA.eq_1 ∧ type_of% @unA.eq_2 ∧ type_of% @unA.eq_3 ∧ type_of% @lenW.eq_1 ∧ type_of% @loadW.eq_1 ∧ type_of% @indexW.eq_1 ∧ type_of% @indexAddrW.eq_1 ∧ type_of% @fieldAddrW.eq_1 ∧ type_of% @sliceStrW.eq_1 ∧ type_of% @sliceStrW.eq_2 ∧ type_of% @pickW.eq_1 ∧ type_of% @storeW.eq_1 ∧ type_of% @convertW_cvt ∧ type_of% @cvt_41 ∧ type_of% @cvt_14 ∧ type_of% @cvt_55 ∧ type_of% @convW.eq_1 ∧ type_of% @strBytesW.eq_1 ∧ type_of% @bytesStrW.eq_1 ∧ type_of% @getAt.eq_1 ∧ type_of% @getAt.eq_2 ∧ type_of% @getAt.eq_3 ∧ type_of% @getAt.eq_4 ∧ type_of% @getAt.eq_5 ∧ type_of% @getAt.eq_6 ∧ type_of% @setAt.eq_1 ∧ type_of% @setAt.eq_2 ∧ type_of% @setAt.eq_3 ∧ type_of% @setAt.eq_4 ∧ type_of% @setAt.eq_5 ∧ type_of% @setAt.eq_6 ∧ type_of% @loaded.eq_1 ∧ type_of% @loaded.eq_2 ∧ type_of% @loaded.eq_3 ∧ type_of% @AV.hdr.eq_1 ∧ type_of% @AV.hdr.eq_2 ∧ type_of% @AV.hdr.eq_3 ∧ type_of% @AV.isAgg.eq_1 ∧ type_of% @AV.isAgg.eq_2 ∧ type_of% @AV.isAgg.eq_3 ∧ type_of% @AV.stor.eq_1 ∧ type_of% @AV.stor.eq_2 ∧ type_of% @AV.stor.eq_3 ∧ type_of% @AV.stor.eq_4 ∧ type_of% @AV.stor.eq_5 ∧ type_of% @AV.stor.eq_6 ∧ type_of% @AV.stor.eq_7 ∧ type_of% @ncells.eq_1 ∧ type_of% @ncells.eq_2 ∧ type_of% @ncells.eq_3 ∧ type_of% @List.foldl_cons.{0,0} ∧ type_of% @List.foldl_nil.{0,0} ∧ type_of% @List.mem_cons.{0} ∧ type_of% @List.not_mem_nil.{0} ∧ type_of% @List.contains_cons.{0} ∧ type_of% @List.contains_nil.{0} ∧ type_of% @or_false ∧ type_of% @false_or ∧ type_of% @or_true ∧ type_of% @true_or ∧ type_of% @or_self ∧ type_of% @and_true ∧ type_of% @true_and ∧ type_of% @and_false ∧ type_of% @false_and ∧ type_of% @ne_eq.{1} ∧ type_of% @not_false_eq_true ∧ type_of% @not_true_eq_false := ⟨@intOp.eq_10, @intOp.eq_11, @intOp.eq_12, @intOp.eq_13, @strOp.eq_1, @strOp.eq_2, @strOp.eq_3, @strOp.eq_4, @strOp.eq_5, @strOp.eq_6, @strOp.eq_7, @strOp.eq_8, @unA.eq_1, @unA.eq_2, @unA.eq_3, @lenW.eq_1, @loadW.eq_1, @indexW.eq_1, @indexAddrW.eq_1, @fieldAddrW.eq_1, @sliceStrW.eq_1, @sliceStrW.eq_2, @pickW.eq_1, @storeW.eq_1, @convertW_cvt, @cvt_41, @cvt_14, @cvt_55, @convW.eq_1, @strBytesW.eq_1, @bytesStrW.eq_1, @getAt.eq_1, @getAt.eq_2, @getAt.eq_3, @getAt.eq_4, @getAt.eq_5, @getAt.eq_6, @setAt.eq_1, @setAt.eq_2, @setAt.eq_3, @setAt.eq_4, @setAt.eq_5, @setAt.eq_6, @loaded.eq_1, @loaded.eq_2, @loaded.eq_3, @AV.hdr.eq_1, @AV.hdr.eq_2, @AV.hdr.eq_3, @AV.isAgg.eq_1, @AV.isAgg.eq_2, @AV.isAgg.eq_3, @AV.stor.eq_1, @AV.stor.eq_2, @AV.stor.eq_3, @AV.stor.eq_4, @AV.stor.eq_5, @AV.stor.eq_6, @AV.stor.eq_7, @ncells.eq_1, @ncells.eq_2, @ncells.eq_3, @List.foldl_cons.{0,0}, @List.foldl_nil.{0,0}, @List.mem_cons.{0}, @List.not_mem_nil.{0}, @List.contains_cons.{0}, @List.contains_nil.{0}, @or_false, @false_or, @or_true, @true_or, @or_self, @and_true, @true_and, @and_false, @false_and, @ne_eq.{1}, @not_false_eq_true, @not_true_eq_false⟩
theorem am5 : type_of% @Option.some.injEq.{0} ∧ type_of% @if_true.{1} ∧ type_of% @if_true.{0} ∧ type_of% @if_false.{1} ∧ type_of% @if_false.{0} ∧ type_of% @Bool.or_true ∧ type_of% @Bool.false_and ∧ type_of% @Bool.and_false ∧ type_of% @Bool.and_self ∧ type_of% @Bool.or_false ∧ type_of% @Bool.true_or ∧ type_of% @Bool.false_or ∧ type_of% @Bool.not_true ∧ type_of% @Bool.not_false ∧ type_of% @beq_self_eq_true.{0} ∧ type_of% @List.getElem?_cons_zero.{0} ∧ type_of% @List.getElem?_cons_succ.{0} ∧ type_of% @List.toList_toArray.{0} ∧ type_of% @decide_true ∧ type_of% @decide_false ∧ type_of% @Bool.false_eq_true ∧ type_of% @Nat.zero_ne_one ∧ type_of% @Nat.one_ne_zero ∧ type_of% @List.length_nil.{0} ∧ type_of% @List.map_cons.{0,0} ∧ type_of% @List.map_nil.{0,0} ∧ type_of% @isU8.eq_1 ∧ type_of% @isU8.eq_2 ∧ type_of% @szOf_ti ∧ type_of% @List.nil_append.{0} ∧ type_of% @List.cons_append.{0} ∧ type_of% @Operand.tmp.injEq ∧ type_of% @len_bytesA ∧ type_of% @set_bytesA ∧ type_of% @Int.toNat_natCast ∧ type_of% @bytesBack_bytesA ∧ type_of% @Option.map_some.{0,0} ∧ type_of% @Option.map_none.{0,0} ∧ type_of% @round_exit ∧ type_of% @round_ret ∧ type_of% @look_setP ∧ type_of% @keys_wipe ∧ type_of% @look_wipe ∧ type_of% @kP_undef ∧ type_of% @kP_oth ∧ type_of% @kP_int ∧ type_of% @kP_bool ∧ type_of% @kP_str ∧ type_of% @kP_sl ∧ type_of% @kP_agg ∧ type_of% @kP_arr ∧ type_of% @kP_tup ∧ type_of% @kP_box ∧ type_of% @kP_dptr ∧ type_of% @kP_vref ∧ type_of% @kP_vagg ∧ type_of% @kP_vsub ∧ type_of% @kP_ptr ∧ type_of% @preB_nil ∧ type_of% @preB_cn ∧ type_of% @preB_cc ∧ type_of% @sPre_eq ∧ type_of% @op_callX ∧ type_of% @op_copyX ∧ type_of% @newsOf_some ∧ type_of% @newsOf_none ∧ type_of% @homeOf.eq_1 ∧ type_of% @homeOf.eq_2 ∧ type_of% @argsM.eq_1 ∧ type_of% @argsM.eq_2 ∧ type_of% @isVal.eq_1 ∧ type_of% @lends.eq_1 ∧ type_of% @othersVal.eq_1 ∧ type_of% @othersVal.eq_2 ∧ type_of% @copyW.eq_1 ∧ type_of% @lentOf.eq_1 ∧ type_of% @closed.eq_1 ∧ type_of% @closed.eq_2 ∧ type_of% @closed.eq_3 ∧ type_of% @closed.eq_4 := ⟨@Option.some.injEq.{0}, @if_true.{1}, @if_true.{0}, @if_false.{1}, @if_false.{0}, @Bool.or_true, @Bool.false_and, @Bool.and_false, @Bool.and_self, @Bool.or_false, @Bool.true_or, @Bool.false_or, @Bool.not_true, @Bool.not_false, @beq_self_eq_true.{0}, @List.getElem?_cons_zero.{0}, @List.getElem?_cons_succ.{0}, @List.toList_toArray.{0}, @decide_true, @decide_false, @Bool.false_eq_true, @Nat.zero_ne_one, @Nat.one_ne_zero, @List.length_nil.{0}, @List.map_cons.{0,0}, @List.map_nil.{0,0}, @isU8.eq_1, @isU8.eq_2, @szOf_ti, @List.nil_append.{0}, @List.cons_append.{0}, @Operand.tmp.injEq, @len_bytesA, @set_bytesA, @Int.toNat_natCast, @bytesBack_bytesA, @Option.map_some.{0,0}, @Option.map_none.{0,0}, @round_exit, @round_ret, @look_setP, @keys_wipe, @look_wipe, @kP_undef, @kP_oth, @kP_int, @kP_bool, @kP_str, @kP_sl, @kP_agg, @kP_arr, @kP_tup, @kP_box, @kP_dptr, @kP_vref, @kP_vagg, @kP_vsub, @kP_ptr, @preB_nil, @preB_cn, @preB_cc, @sPre_eq, @op_callX, @op_copyX, @newsOf_some, @newsOf_none, @homeOf.eq_1, @homeOf.eq_2, @argsM.eq_1, @argsM.eq_2, @isVal.eq_1, @lends.eq_1, @othersVal.eq_1, @othersVal.eq_2, @copyW.eq_1, @lentOf.eq_1, @closed.eq_1, @closed.eq_2, @closed.eq_3, @closed.eq_4⟩
theorem am6 : type_of% @closed.eq_5 ∧ type_of% @closed.eq_6 ∧ type_of% @closed.eq_7 ∧ type_of% @closed.eq_8 ∧ type_of% @closed.eq_9 ∧ type_of% @closed.eq_10 ∧ type_of% @closed.eq_11 ∧ type_of% @closed.eq_12 ∧ type_of% @closed.eq_13 ∧ type_of% @closed.eq_14 ∧ type_of% @closed.eq_15 ∧ type_of% @closedL.eq_1 ∧ type_of% @closedL.eq_2 ∧ type_of% @argsOf.eq_1 ∧ type_of% @argsOf.eq_2 ∧ type_of% @argOf.eq_1 ∧ type_of% @frzs.eq_1 ∧ type_of% @frzs.eq_2 ∧ type_of% @frz.eq_1 ∧ type_of% @frz.eq_2 ∧ type_of% @ownP.eq_1 ∧ type_of% @ownP.eq_2 ∧ type_of% @ownP.eq_3 ∧ type_of% @ownP.eq_4 ∧ type_of% @ownP.eq_5 ∧ type_of% @ownP.eq_6 ∧ type_of% @erase.eq_1 ∧ type_of% @erase.eq_2 ∧ type_of% @erase.eq_3 ∧ type_of% @erase.eq_4 ∧ type_of% @erase.eq_5 ∧ type_of% @erase.eq_6 ∧ type_of% @eraseL.eq_1 ∧ type_of% @eraseL.eq_2 ∧ type_of% @dead.eq_1 ∧ type_of% @dead.eq_2 ∧ type_of% @dead.eq_3 ∧ type_of% @dead.eq_4 ∧ type_of% @dead.eq_5 ∧ type_of% @dead.eq_6 ∧ type_of% @deadL.eq_1 ∧ type_of% @deadL.eq_2 ∧ type_of% @retW.eq_1 ∧ type_of% @retW.eq_2 ∧ type_of% @outsW.eq_1 ∧ type_of% @outsW.eq_2 ∧ type_of% @Le.eq_1 ∧ type_of% @leGo.eq_1 ∧ type_of% @leGo.eq_2 ∧ type_of% @aimIn.eq_1 ∧ type_of% @aimIn.eq_2 ∧ type_of% @aimIn.eq_3 ∧ type_of% @aimIn.eq_4 ∧ type_of% @aimIn.eq_5 ∧ type_of% @List.dropLast_cons_cons.{0} ∧ type_of% @List.take_nil.{0} ∧ type_of% @List.drop_nil.{0} ∧ type_of% @List.drop_zero.{0} ∧ type_of% @List.drop_succ_cons.{0} ∧ type_of% @List.append_nil.{0} ∧ type_of% @List.length_append.{0} ∧ type_of% @List.nodup_nil.{0} ∧ type_of% @List.nodup_cons.{0} ∧ type_of% @appW.eq_1 ∧ type_of% @buildW.eq_1 ∧ type_of% @buildSliceW.eq_1 ∧ type_of% @partsFit.eq_1 ∧ type_of% @partsFit.eq_2 ∧ type_of% @elemsFit.eq_1 ∧ type_of% @elemsFit.eq_2 ∧ type_of% @setParts.eq_1 ∧ type_of% @setParts.eq_2 ∧ type_of% @appendW.eq_1 ∧ type_of% @appendMW.eq_1 ∧ type_of% @appFits.eq_1 ∧ type_of% @List.replicate_succ.{0} ∧ type_of% @List.replicate_zero.{0} ∧ type_of% @List.cons.injEq.{0} ∧ type_of% @retC.eq_1 ∧ type_of% @AV.int.injEq := ⟨@closed.eq_5, @closed.eq_6, @closed.eq_7, @closed.eq_8, @closed.eq_9, @closed.eq_10, @closed.eq_11, @closed.eq_12, @closed.eq_13, @closed.eq_14, @closed.eq_15, @closedL.eq_1, @closedL.eq_2, @argsOf.eq_1, @argsOf.eq_2, @argOf.eq_1, @frzs.eq_1, @frzs.eq_2, @frz.eq_1, @frz.eq_2, @ownP.eq_1, @ownP.eq_2, @ownP.eq_3, @ownP.eq_4, @ownP.eq_5, @ownP.eq_6, @erase.eq_1, @erase.eq_2, @erase.eq_3, @erase.eq_4, @erase.eq_5, @erase.eq_6, @eraseL.eq_1, @eraseL.eq_2, @dead.eq_1, @dead.eq_2, @dead.eq_3, @dead.eq_4, @dead.eq_5, @dead.eq_6, @deadL.eq_1, @deadL.eq_2, @retW.eq_1, @retW.eq_2, @outsW.eq_1, @outsW.eq_2, @Le.eq_1, @leGo.eq_1, @leGo.eq_2, @aimIn.eq_1, @aimIn.eq_2, @aimIn.eq_3, @aimIn.eq_4, @aimIn.eq_5, @List.dropLast_cons_cons.{0}, @List.take_nil.{0}, @List.drop_nil.{0}, @List.drop_zero.{0}, @List.drop_succ_cons.{0}, @List.append_nil.{0}, @List.length_append.{0}, @List.nodup_nil.{0}, @List.nodup_cons.{0}, @appW.eq_1, @buildW.eq_1, @buildSliceW.eq_1, @partsFit.eq_1, @partsFit.eq_2, @elemsFit.eq_1, @elemsFit.eq_2, @setParts.eq_1, @setParts.eq_2, @appendW.eq_1, @appendMW.eq_1, @appFits.eq_1, @List.replicate_succ.{0}, @List.replicate_zero.{0}, @List.cons.injEq.{0}, @retC.eq_1, @AV.int.injEq⟩
theorem am7 : type_of% @AV.bool.injEq ∧ type_of% @AV.str.injEq ∧ type_of% @AV.sl.injEq ∧ type_of% @AV.agg.injEq ∧ type_of% @AV.arr.injEq ∧ type_of% @AV.tup.injEq ∧ type_of% @AV.box.injEq ∧ type_of% @AV.vref.injEq ∧ type_of% @AV.ptr.injEq ∧ type_of% @AV.vagg.injEq ∧ type_of% @AV.dptr.injEq ∧ type_of% @wrap_i64 ∧ type_of% @wrap_u8 ∧ type_of% @ilt_t ∧ type_of% @ilt_f ∧ type_of% @ile_t ∧ type_of% @ile_f ∧ type_of% @nlt_t ∧ type_of% @nlt_f ∧ type_of% @nle_t ∧ type_of% @nle_f ∧ type_of% @ibeq_t ∧ type_of% @ibeq_f ∧ type_of% @ibne_t ∧ type_of% @ibne_f ∧ type_of% @getD_map' ∧ type_of% @get_map' ∧ type_of% @gt_iff_lt.{0} ∧ type_of% @ge_iff_le.{0} ∧ type_of% @List.length_map.{0,0} ∧ type_of% @Int.natCast_add ∧ type_of% @Int.natCast_one ∧ type_of% @Int.natCast_zero ∧ type_of% @Int.toNat_natCast_add_one ∧ type_of% @Nat.sub_self ∧ type_of% @List.take_length.{0} ∧ type_of% @List.drop_length.{0} ∧ type_of% @Nat.sub_zero ∧ type_of% @Nat.add_zero ∧ type_of% @Nat.zero_add ∧ type_of% @Int.add_zero ∧ type_of% @Int.zero_add ∧ type_of% @Int.mul_zero ∧ type_of% @Int.sub_zero ∧ type_of% @cond_not ∧ type_of% @guard_not ∧ type_of% @guardD_not ∧ type_of% @Bool.true_beq ∧ type_of% @Bool.false_beq ∧ type_of% @run_regionT ∧ type_of% @run_drawT ∧ type_of% @lapp_nil ∧ type_of% @lapp_cons ∧ type_of% @noAim.eq_1 ∧ type_of% @noAim.eq_2 ∧ type_of% @leW_t ∧ type_of% @leW_f ∧ type_of% @leV_rfl ∧ type_of% @leL_rfl ∧ type_of% @leV_int ∧ type_of% @leV_bool ∧ type_of% @leV_str ∧ type_of% @leV_oth ∧ type_of% @leV_sl ∧ type_of% @leV_agg ∧ type_of% @leV_box ∧ type_of% @leV_tup ∧ type_of% @leV_arr ∧ type_of% @leV_dptr ∧ type_of% @leV_vref ∧ type_of% @leV_vagg ∧ type_of% @leV_ptr ∧ type_of% @leL_nil ∧ type_of% @leL_cons ∧ type_of% @argsOk_some ∧ type_of% @bne_self_eq_false.{0} ∧ type_of% @Bool.not_eq_true ∧ type_of% @Bool.not_eq_false ∧ type_of% @bOk.eq_1 ∧ type_of% @mOk.eq_1 := ⟨@AV.bool.injEq, @AV.str.injEq, @AV.sl.injEq, @AV.agg.injEq, @AV.arr.injEq, @AV.tup.injEq, @AV.box.injEq, @AV.vref.injEq, @AV.ptr.injEq, @AV.vagg.injEq, @AV.dptr.injEq, @wrap_i64, @wrap_u8, @ilt_t, @ilt_f, @ile_t, @ile_f, @nlt_t, @nlt_f, @nle_t, @nle_f, @ibeq_t, @ibeq_f, @ibne_t, @ibne_f, @getD_map', @get_map', @gt_iff_lt.{0}, @ge_iff_le.{0}, @List.length_map.{0,0}, @Int.natCast_add, @Int.natCast_one, @Int.natCast_zero, @Int.toNat_natCast_add_one, @Nat.sub_self, @List.take_length.{0}, @List.drop_length.{0}, @Nat.sub_zero, @Nat.add_zero, @Nat.zero_add, @Int.add_zero, @Int.zero_add, @Int.mul_zero, @Int.sub_zero, @cond_not, @guard_not, @guardD_not, @Bool.true_beq, @Bool.false_beq, @run_regionT, @run_drawT, @lapp_nil, @lapp_cons, @noAim.eq_1, @noAim.eq_2, @leW_t, @leW_f, @leV_rfl, @leL_rfl, @leV_int, @leV_bool, @leV_str, @leV_oth, @leV_sl, @leV_agg, @leV_box, @leV_tup, @leV_arr, @leV_dptr, @leV_vref, @leV_vagg, @leV_ptr, @leL_nil, @leL_cons, @argsOk_some, @bne_self_eq_false.{0}, @Bool.not_eq_true, @Bool.not_eq_false, @bOk.eq_1, @mOk.eq_1⟩
theorem am8 : type_of% @notTup.eq_1 ∧ type_of% @notTup.eq_2 ∧ type_of% @valL.eq_1 ∧ type_of% @valL.eq_2 ∧ type_of% @lw_nil ∧ type_of% @lw_move ∧ type_of% @lw_load ∧ type_of% @lw_fieldAddr ∧ type_of% @lw_indexAddr ∧ type_of% @lw_store ∧ type_of% @lS_eq ∧ type_of% @la_nil ∧ type_of% @la_cons ∧ type_of% @lk_move ∧ type_of% @lk_load ∧ type_of% @lk_fieldAddr ∧ type_of% @lk_indexAddr ∧ type_of% @sa_eq ∧ type_of% @rg_int ∧ type_of% @rg_bool ∧ type_of% @rg_vref ∧ type_of% @rg_ptr ∧ type_of% @Nat.one_mul ∧ type_of% @Nat.mul_one ∧ type_of% @lw_assign ∧ type_of% @lw_binOp ∧ type_of% @lw_unOp ∧ type_of% @lw_pick ∧ type_of% @lw_index ∧ type_of% @lk_binOp ∧ type_of% @lk_unOp ∧ type_of% @lk_pick ∧ type_of% @lk_index ∧ type_of% @rg_arr ∧ type_of% @rg_agg ∧ type_of% @rg_str ∧ type_of% @rl_nil ∧ type_of% @rl_cons ∧ type_of% @rc_int ∧ type_of% @rc_bool ∧ type_of% @rc_str ∧ type_of% @rc_arr ∧ type_of% @rc_agg ∧ type_of% @dk_nil ∧ type_of% @dk_none ∧ type_of% @dk_some ∧ type_of% @gk_tt ∧ type_of% @gk_ff ∧ type_of% @gk_tf ∧ type_of% @gk_ft ∧ type_of% @gk_skip ∧ type_of% @oa_some ∧ type_of% @oa_none ∧ type_of% @toNat_0 ∧ type_of% @toNat_1 ∧ type_of% @chk_convert ∧ type_of% @chkA1_t ∧ type_of% @chkA1_f ∧ type_of% @kk_14 ∧ type_of% @kk_55 ∧ type_of% @kk_41 ∧ type_of% @nilW.eq_1 ∧ type_of% @op_nil ∧ type_of% @chk_nil ∧ type_of% @lw_nilC ∧ type_of% @lk_nilC ∧ type_of% @mv_int ∧ type_of% @mv_bool ∧ type_of% @mv_str ∧ type_of% @mv_oth ∧ type_of% @mv_sl ∧ type_of% @mv_agg ∧ type_of% @mv_arr ∧ type_of% @mv_box ∧ type_of% @mv_dptr ∧ type_of% @mv_vref ∧ type_of% @mv_vagg ∧ type_of% @mv_vsub ∧ type_of% @mv_ptr ∧ type_of% @mv_tup := ⟨@notTup.eq_1, @notTup.eq_2, @valL.eq_1, @valL.eq_2, @lw_nil, @lw_move, @lw_load, @lw_fieldAddr, @lw_indexAddr, @lw_store, @lS_eq, @la_nil, @la_cons, @lk_move, @lk_load, @lk_fieldAddr, @lk_indexAddr, @sa_eq, @rg_int, @rg_bool, @rg_vref, @rg_ptr, @Nat.one_mul, @Nat.mul_one, @lw_assign, @lw_binOp, @lw_unOp, @lw_pick, @lw_index, @lk_binOp, @lk_unOp, @lk_pick, @lk_index, @rg_arr, @rg_agg, @rg_str, @rl_nil, @rl_cons, @rc_int, @rc_bool, @rc_str, @rc_arr, @rc_agg, @dk_nil, @dk_none, @dk_some, @gk_tt, @gk_ff, @gk_tf, @gk_ft, @gk_skip, @oa_some, @oa_none, @toNat_0, @toNat_1, @chk_convert, @chkA1_t, @chkA1_f, @kk_14, @kk_55, @kk_41, @nilW.eq_1, @op_nil, @chk_nil, @lw_nilC, @lk_nilC, @mv_int, @mv_bool, @mv_str, @mv_oth, @mv_sl, @mv_agg, @mv_arr, @mv_box, @mv_dptr, @mv_vref, @mv_vagg, @mv_vsub, @mv_ptr, @mv_tup⟩
theorem am9 : type_of% @vOk.eq_1 ∧ type_of% @lw_append ∧ type_of% @lEnd_eq ∧ type_of% @mx_nil ∧ type_of% @mx_none ∧ type_of% @mx_some ∧ type_of% @mx_call ∧ type_of% @mx_app ∧ type_of% @gOk.eq_1 ∧ type_of% @MApp.eq_1 ∧ type_of% @mapp_1 ∧ type_of% @Option.isSome_some.{0} ∧ type_of% @isBox.eq_1 ∧ type_of% @isBox.eq_2 ∧ type_of% @kEnd.eq_1 ∧ type_of% @subOf.eq_1 ∧ type_of% @MCut.eq_1 ∧ type_of% @mcut_1 ∧ type_of% @mx_cut ∧ type_of% @MSto.eq_1 ∧ type_of% @mx_sto ∧ type_of% @mx_stn := ⟨@vOk.eq_1, @lw_append, @lEnd_eq, @mx_nil, @mx_none, @mx_some, @mx_call, @mx_app, @gOk.eq_1, @MApp.eq_1, @mapp_1, @Option.isSome_some.{0}, @isBox.eq_1, @isBox.eq_2, @kEnd.eq_1, @subOf.eq_1, @MCut.eq_1, @mcut_1, @mx_cut, @MSto.eq_1, @mx_sto, @mx_stn⟩
end Go.Proofs.Ytikpjpinkkllaaa.Am
namespace Go.Proofs.Ytikpjpinkkllaaa.Am
open Go.RowKit AV
theorem Zo {F P Q : Prop} (f : F) (q : Q) (e : F → Q → P := by intro f q; simp -implicitDefEqProofs (maxSteps := 1000000) (disch := first | (intros; contradiction) | omega) only [am0, am1, am2, am3, am4, am5, am6, am7, am8, am9, Nat.reduceSub, ↓reduceIte, reduceCtorEq, Nat.reduceEqDiff, Nat.reduceBEq, Nat.reduceAdd, Nat.reduceLT, Nat.reduceBNe, Nat.reduceMul, ↓reduceIte, f]; exact q) : P := e f q
theorem Zc {F P : Prop} (f : F) (e : F → P := by intro f; simp -implicitDefEqProofs (maxSteps := 1000000) (disch := first | (intros; contradiction) | omega) only [am0, am1, am2, am3, am4, am5, am6, am7, am8, am9, Nat.reduceSub, ↓reduceIte, reduceCtorEq, Nat.reduceEqDiff, Nat.reduceBEq, Nat.reduceAdd, Nat.reduceLT, Nat.reduceBNe, Nat.reduceMul, ↓reduceIte, f]) : P := e f
theorem Z2 {A B : Prop} (a : A) (b : B) : A ∧ B := ⟨a, b⟩
theorem Z3 {A B C : Prop} (a : A) (b : B) (c : C) : A ∧ B ∧ C := ⟨a, b, c⟩
theorem Z4 {A B C D : Prop} (a : A) (b : B) (c : C) (d : D) : A ∧ B ∧ C ∧ D := ⟨a, b, c, d⟩
theorem Z5 {A B C D E : Prop} (a : A) (b : B) (c : C) (d : D) (e : E) : A ∧ B ∧ C ∧ D ∧ E := ⟨a, b, c, d, e⟩
theorem Z6 {A B C D E G : Prop} (a : A) (b : B) (c : C) (d : D) (e : E) (g : G) : A ∧ B ∧ C ∧ D ∧ E ∧ G := ⟨a, b, c, d, e, g⟩
theorem Z7 {A B C D E G H : Prop} (a : A) (b : B) (c : C) (d : D) (e : E) (g : G) (h : H) : A ∧ B ∧ C ∧ D ∧ E ∧ G ∧ H := ⟨a, b, c, d, e, g, h⟩
theorem Z8 {A B C D E G H I : Prop} (a : A) (b : B) (c : C) (d : D) (e : E) (g : G) (h : H) (i : I) : A ∧ B ∧ C ∧ D ∧ E ∧ G ∧ H ∧ I := ⟨a, b, c, d, e, g, h, i⟩
theorem Z9 {A B C D E G H I J : Prop} (a : A) (b : B) (c : C) (d : D) (e : E) (g : G) (h : H) (i : I) (j : J) : A ∧ B ∧ C ∧ D ∧ E ∧ G ∧ H ∧ I ∧ J := ⟨a, b, c, d, e, g, h, i, j⟩
theorem Z10 {A B C D E G H I J K : Prop} (a : A) (b : B) (c : C) (d : D) (e : E) (g : G) (h : H) (i : I) (j : J) (k : K) : A ∧ B ∧ C ∧ D ∧ E ∧ G ∧ H ∧ I ∧ J ∧ K := ⟨a, b, c, d, e, g, h, i, j, k⟩
theorem Z11 {A B C D E G H I J K L : Prop} (a : A) (b : B) (c : C) (d : D) (e : E) (g : G) (h : H) (i : I) (j : J) (k : K) (l : L) : A ∧ B ∧ C ∧ D ∧ E ∧ G ∧ H ∧ I ∧ J ∧ K ∧ L := ⟨a, b, c, d, e, g, h, i, j, k, l⟩
theorem Z12 {A B C D E G H I J K L M : Prop} (a : A) (b : B) (c : C) (d : D) (e : E) (g : G) (h : H) (i : I) (j : J) (k : K) (l : L) (m : M) : A ∧ B ∧ C ∧ D ∧ E ∧ G ∧ H ∧ I ∧ J ∧ K ∧ L ∧ M := ⟨a, b, c, d, e, g, h, i, j, k, l, m⟩
theorem Z13 {A B C D E G H I J K L M N : Prop} (a : A) (b : B) (c : C) (d : D) (e : E) (g : G) (h : H) (i : I) (j : J) (k : K) (l : L) (m : M) (n : N) : A ∧ B ∧ C ∧ D ∧ E ∧ G ∧ H ∧ I ∧ J ∧ K ∧ L ∧ M ∧ N := ⟨a, b, c, d, e, g, h, i, j, k, l, m, n⟩
theorem Z14 {A B C D E G H I J K L M N O : Prop} (a : A) (b : B) (c : C) (d : D) (e : E) (g : G) (h : H) (i : I) (j : J) (k : K) (l : L) (m : M) (n : N) (o : O) : A ∧ B ∧ C ∧ D ∧ E ∧ G ∧ H ∧ I ∧ J ∧ K ∧ L ∧ M ∧ N ∧ O := ⟨a, b, c, d, e, g, h, i, j, k, l, m, n, o⟩
theorem Z15 {A B C D E G H I J K L M N O Q : Prop} (a : A) (b : B) (c : C) (d : D) (e : E) (g : G) (h : H) (i : I) (j : J) (k : K) (l : L) (m : M) (n : N) (o : O) (q : Q) : A ∧ B ∧ C ∧ D ∧ E ∧ G ∧ H ∧ I ∧ J ∧ K ∧ L ∧ M ∧ N ∧ O ∧ Q := ⟨a, b, c, d, e, g, h, i, j, k, l, m, n, o, q⟩
theorem Z16 {A B C D E G H I J K L M N O Q R : Prop} (a : A) (b : B) (c : C) (d : D) (e : E) (g : G) (h : H) (i : I) (j : J) (k : K) (l : L) (m : M) (n : N) (o : O) (q : Q) (r : R) : A ∧ B ∧ C ∧ D ∧ E ∧ G ∧ H ∧ I ∧ J ∧ K ∧ L ∧ M ∧ N ∧ O ∧ Q ∧ R := ⟨a, b, c, d, e, g, h, i, j, k, l, m, n, o, q, r⟩
theorem fits_take {P : Program} {f : FuncId} {args : List AV} {res : AV} (h : Fits P f (eraseL args) res []) : Fits P f args res [] := by
  refine ⟨h.1, fun w vs ok O hok r => ?_⟩
  have := h.2 w vs ok (fun _ => False) (fun k hk => hok k (.inr (hk.resolve_left id))) (repWs_erase args r (fun k hk => ⟨hk.1, id⟩) (fun k hk => ⟨hok k (.inl hk), id⟩))
  refine Calls.mono this ?_
  rintro e w' ⟨v, Or, Oo, h1, h2, h3, h4, h5, h6, h7, h8, h9, h10⟩
  exact ⟨v, Or, Oo, h1, h2, h3, h4, h5, fun k hk _ => h6 k hk id, h7, h8, h9, fun k hk => (h10 k hk).elim (fun x => x.elim) .inr⟩
theorem fits_as2 {P : Program} {f : FuncId} {args outs : List AV} {res res' : AV} (h : Fits P f args res outs) (e : erase res = res') : Fits P f args res' outs := by
  subst e
  refine ⟨h.1, fun w vs ok O hok r => ?_⟩
  refine Calls.mono (h.2 w vs ok O hok r) ?_
  rintro e w' ⟨v, Or, Oo, h1, h2, h3, h4, h5, h6, h7, h8, h9, h10⟩
  have hor : ∀ k, Or k → ok k := fun k hk => hok k ((h10 k (.inl hk)).imp id fun x => x)
  refine ⟨v, fun _ => False, Oo, h1, h2, h3, h4, h5, h6, ?_, ?_, fun _ x => x.elim, fun k hk => h10 k (hk.imp (fun x => x.elim) id)⟩
  · exact repW_erase res h7 (fun k hk => ⟨hk.1, id, hk.2.2⟩) (fun k hk => ⟨hor k hk, id, h9 k hk⟩)
  · exact repWs_mono outs h8 ⟨fun k hk _ => ⟨⟨hk.1, id, hk.2.2⟩, rfl⟩, fun _ _ => rfl⟩
theorem fits_take2 {P : Program} {f : FuncId} {a b b' : AV} {res : AV} (h : Fits P f [a, b'] res []) (e : erase b = b') : Fits P f [a, b] res [] := by
  subst e
  refine ⟨h.1, fun w vs ok O hok r => ?_⟩
  simp only [RepWs] at r
  obtain ⟨v1, vs1, O1, O2, rfl, hO, hd, ra, v2, vs2, O3, O4, rfl, hO2, hd2, rb, rfl, he⟩ := r
  have h3 : ∀ k, O3 k → O k ∧ ¬ O1 k := fun k hk => ⟨(hO k).2 (.inr ((hO2 k).2 (.inl hk))), fun h1 => hd k h1 ((hO2 k).2 (.inl hk))⟩
  have := h.2 w (v1 :: [v2]) ok O1 (fun k hk => hok k (hk.imp (fun x => (hO k).2 (.inl x)) id)) (by
    simp only [RepWs]
    refine ⟨v1, [v2], O1, fun _ => False, rfl, by simp, by simp, repW_mono a ra ⟨fun k hk _ => ⟨⟨hk.1, fun x => hk.2 ((hO k).2 (.inl x))⟩, rfl⟩, fun _ _ => rfl⟩, v2, [], fun _ => False, fun _ => False, rfl, by simp, by simp, ?_, rfl, emp_false⟩
    exact repW_erase b rb (fun k hk => ⟨hk.1, fun x => hk.2 ((hO k).2 (.inl x))⟩) (fun k hk => ⟨hok k (.inl (h3 k hk).1), (h3 k hk).2⟩))
  refine Calls.mono this ?_
  rintro e w' ⟨v, Or, Oo, k1, k2, k3, k4, k5, k6, k7, k8, k9, k10⟩
  exact ⟨v, Or, Oo, k1, k2, k3, k4, k5, fun k hk hn => k6 k hk (fun x => hn ((hO k).2 (.inl x))), k7, k8, k9, fun k hk => (k10 k hk).imp (fun x => (hO k).2 (.inl x)) id⟩
theorem Zi : ∀ (c : Prop) (i : Decidable c), (@ite Prop c i True True) = True := fun c i => by split <;> rfl
theorem LLmapnil : type_of% @List.map_nil.{0,0} := @List.map_nil.{0,0}
theorem LLdrosin : type_of% @List.dropLast_singleton.{0} := @List.dropLast_singleton.{0}
theorem LLmapcon : type_of% @List.map_cons.{0,0} := @List.map_cons.{0,0}
theorem LLmapapp : type_of% @List.map_append.{0,0} := @List.map_append.{0,0}
theorem LLappnil : type_of% @List.append_nil.{0} := @List.append_nil.{0}
theorem LLtaklen : type_of% @List.take_length.{0} := @List.take_length.{0}
theorem LLfilnil : type_of% @List.filter_nil.{0} := @List.filter_nil.{0}
theorem LLlenrep : type_of% @List.length_replicate.{0} := @List.length_replicate.{0}
theorem LLlennil : type_of% @List.length_nil.{0} := @List.length_nil.{0}
theorem LLlenmap : type_of% @List.length_map.{0,0} := @List.length_map.{0,0}
theorem LLlenset : type_of% @List.length_set.{0} := @List.length_set.{0}
theorem LLfolnil : type_of% @List.foldl_nil.{0,0} := @List.foldl_nil.{0,0}
theorem LLflanil : type_of% @List.flatMap_nil.{0,0} := @List.flatMap_nil.{0,0}
theorem LLlendro : type_of% @List.length_drop.{0} := @List.length_drop.{0}
theorem LLlentak : type_of% @List.length_take.{0} := @List.length_take.{0}
theorem LLtakzer : type_of% @List.take_zero.{0} := @List.take_zero.{0}
theorem LLanynil : type_of% @List.any_nil.{0} := @List.any_nil.{0}
theorem LOmapsom : type_of% @Option.map_some.{0,0} := @Option.map_some.{0,0}
theorem LLappass : type_of% @List.append_assoc.{0} := @List.append_assoc.{0}
theorem LLdrolen : type_of% @List.drop_length.{0} := @List.drop_length.{0}
theorem LLallnil : type_of% @List.all_nil.{0} := @List.all_nil.{0}
end Go.Proofs.Ytikpjpinkkllaaa.Am
