/- What the operations of a Go program bring about on values without memory, proved once for any program: part 4. No conditions beyond those at each theorem. -/
import Derived.Test.YtonljcfflamccaaAm3
namespace Go.Proofs.Ytonljcfflamccaa.Am
open Go.RowKit AV
set_option linter.unusedVariables false

/-! Calls, as one condition that is reckoned. -/
def valL (σ : St) : List Operand → Bool
  | [] => true
  | x :: r => isVal σ x && valL σ r
theorem valL_eq (σ : St) : ∀ xs : List Operand, valL σ xs = valOnly σ xs
  | [] => rfl
  | x :: r => by
    have := valL_eq σ r
    simp only [valL, this]
    rfl
def bOk (σ : St) (xs : List Operand) (d : Tmp) (args : List AV) (res : AV) (K : St → Prop) : Prop := argsOk (argsOf σ xs) args ∧ (if closed res = true then True else valL σ xs = true) ∧ res.target = none ∧ K (put σ d res [])
theorem bOk_or {σ : St} {xs : List Operand} {res : AV} (h : if closed res = true then True else valL σ xs = true) : closed res = true ∨ valOnly σ xs = true := by
  rw [valL_eq] at h
  by_cases hc : closed res = true
  · exact .inl hc
  · rw [if_neg hc] at h; exact .inr h
def notTup : AV → Bool
  | .tup _ => false
  | _ => true
def mOk (σ : St) (xs : List Operand) (i : Nat) (dst : Option Tmp) (args : List AV) (res : AV) (outs : List AV) (K : St → Prop) : Prop :=
  match xs[i]? with
  | some x => (match homeOf σ x with
    | some (s, p, y) => (match outs[i]? with
      | some y' => argsOk (argsM σ s i y 0 xs) args ∧ y'.isAgg = y.isAgg ∧ ncells y' = ncells y ∧ y'.target = none ∧ notTup y' = true ∧ (if (closed res && closed y') = true then True else othersVal σ i 0 xs = true) ∧ res.target = none ∧ dst ≠ some s ∧ K (upd σ (newsOf dst res s (setAt (look σ s) p y')))
      | none => False)
    | none => False)
  | none => False
def gOk (σ : St) (sl : Nat) (xs : List Operand) (i : Nat) (dst : Option Tmp) (args : List AV) (res : AV) (outs : List AV) (K : St → Prop) : Prop :=
  match xs[i]? with
  | some x => (match homeOf σ x with
    | some (s, p, y) => (match outs[i]? with
      | some y' => s = sl ∧ (setAt (look σ s) p y').target = none ∧ dst.isSome = true ∧ argsOk (argsM σ s i y 0 xs) args ∧ y'.isAgg = y.isAgg ∧ ncells y' = ncells y ∧ y'.target = none ∧ notTup y' = true ∧ (if (closed res && closed y') = true then True else othersVal σ i 0 xs = true) ∧ res.target = none ∧ dst ≠ some s ∧ K (upd σ (newsOf dst res s (setAt (look σ s) p y')))
      | none => False)
    | none => False)
  | none => False
def isBox : AV → Bool
  | .box _ => true
  | _ => false
theorem isBox_ex {x : AV} (h : isBox x = true) : ∃ y, x = .box y := by cases x <;> simp [isBox] at h; exact ⟨_, rfl⟩
def kEnd (t s : Nat) (K : St → Prop) (σ : St) : Prop := look σ t = .undef ∧ isBox (look σ s) = true ∧ K ((t, .ptr s [0]) :: σ)
section
variable {P : Program} {K : St → Prop} {f : FuncId} {xs : List Operand} {d : Tmp} {dst : Option Tmp} {σ : St} {args : List AV} {res : AV} {outs : List AV}
theorem callL (F : Fits P f args res outs) (h : bOk σ xs d args res K) : CallL P f xs (some d) σ K := call_of F h.1 (bOk_or h.2.1) h.2.2.1 h.2.2.2
theorem callB (F : Fits P f args res outs) (h : bOk σ xs d args res K) : CallB P f xs (some d) σ K := callb_of F h.1 (bOk_or h.2.1) h.2.2.1 h.2.2.2
theorem callF (L : List (Nat × List Nat)) (F : Fits P f args res outs) (h : bOk (frzs σ L) xs d args res K) : CallB P f xs (some d) σ K := callf_of L F h.1 (bOk_or h.2.1) h.2.2.1 h.2.2.2
theorem callMF (L : List (Nat × List Nat)) (i : Nat) (F : Fits P f args res outs) (h : mOk (frzs σ L) xs i dst args res outs K) : CallB P f xs dst σ K := by
  unfold mOk at h
  split at h
  · rename_i x hx
    split at h
    · rename_i s p y hh
      split at h
      · rename_i y' ho
        obtain ⟨h1, h2, h3, h4, h5, h6, h7, h8, h9⟩ := h
        exact callmf_of L i F hx hh h1 ho ⟨h2, h3, h4, fun l e => by subst e; simp [notTup] at h5⟩ (by
          by_cases hc : (closed res && closed y') = true
          · exact .inl (by simpa using hc)
          · rw [if_neg hc] at h6; exact .inr h6) h7 h8 h9
      · exact h.elim
    · exact h.elim
  · exact h.elim
/-- A call that turns something, in a region whose order is drawn. -/
theorem mstep_of (i : Nat) {sl : Nat} (F : Fits P f args res outs) (h : gOk σ sl xs i dst args res outs K) : MStep P sl f xs dst σ K := by
  unfold gOk at h
  split at h
  · rename_i x hx
    split at h
    · rename_i s p y hh
      split at h
      · rename_i y' ho
        obtain ⟨rfl, h10, h11, h1, h2, h3, h4, h5, h6, h7, h8, h9⟩ := h
        obtain ⟨args0, e1, e2⟩ := argsOk_iff.1 h1
        refine ⟨i, x, p, y, y', args0, args, res, outs, F, hx, hh, e1, e2, ho, ⟨h2, h3, h4, fun l e => by subst e; simp [notTup] at h5⟩, ?_, h7, h8, h10, h11, h9⟩
        by_cases hc : (closed res && closed y') = true
        · exact .inl (by simpa using hc)
        · rw [if_neg hc] at h6; exact .inr h6
      · exact h.elim
    · exact h.elim
  · exact h.elim
theorem callG (i : Nat) {sl : Nat} (F : Fits P f args res outs) (h : gOk σ sl xs i dst args res outs K) : MStepF P [sl] f xs dst σ K := .inl ⟨sl, rfl, mstep_of i F h⟩
/-- The same; the list at slot t is shared from here on. -/
theorem callGF (i : Nat) {sl t : Nat} (F : Fits P f args res outs) (h : Operand.tmp t ∈ xs ∧ t ≠ sl ∧ dst ≠ some t ∧ (look σ t).target = none ∧ gOk (upd σ [(t, erase (look σ t))]) sl xs i dst args res outs K) : MStepF P [sl, t] f xs dst σ K := .inr ⟨sl, t, rfl, h.1, h.2.1, h.2.2.1, h.2.2.2.1, mstep_of i F h.2.2.2.2⟩
theorem callM (i : Nat) (F : Fits P f args res outs) (h : mOk σ xs i dst args res outs K) : CallB P f xs dst σ K := callMF [] i F h
/-- The same; the pointer in slot t leads there, too, and is as good as before. -/
theorem callK (t s i : Nat) (F : Fits P f args res outs) (h : look σ t = .ptr s [0] ∧ isBox (look σ s) = true ∧ t ≠ s ∧ dst ≠ some t ∧ dst ≠ some s ∧ mOk σ xs i dst args res outs (fun σ' => kEnd t s K σ')) : CallB P f xs dst σ K := by
  obtain ⟨h1, h2, h3, h4, h5, h6⟩ := h
  obtain ⟨y, hy⟩ := isBox_ex h2
  refine .inr (.inr ⟨t, s, y, h1, hy, h3, h4, h5, ?_⟩)
  unfold mOk at h6
  split at h6
  · rename_i x hx
    split at h6
    · rename_i s1 p y1 hh
      split at h6
      · rename_i y' ho
        obtain ⟨q1, q2, q3, q4, q5, q6, q7, q8, q9, q10, q11⟩ := h6
        obtain ⟨a0, e1, e2⟩ := argsOk_iff.1 q1
        refine ⟨i, x, s1, p, y1, y', a0, args, res, outs, F, hx, hh, e1, e2, ho, ⟨q2, q3, q4, fun l e => by subst e; simp [notTup] at q5⟩, ?_, q7, q8, q9, isBox_ex q10, q11⟩
        by_cases hc : (closed res && closed y') = true
        · exact .inl (by simpa using hc)
        · rw [if_neg hc] at q6; exact .inr q6
      · exact h6.elim
    · exact h6.elim
  · exact h6.elim
end
/-! Great regions are written as lists that are joined. -/
theorem run_regionT {P : Program} {cw : CW} {vars : List Nat} {Q : Post} (k : List It) (σ : St) (id : Nat) (ops : List Oper) : Run P cw vars Q (.code (.region id (List.toArray ops) false) :: k) σ = Run P cw vars Q (.ops ops ops :: k) σ := rfl
theorem run_drawT {P : Program} {cw : CW} {vars : List Nat} {Q : Post} (k : List It) (σ : St) (id : Nat) (ops : List Oper) : Run P cw vars Q (.code (.region id (List.toArray ops) true) :: k) σ = ((drawOk P ops = true ∧ Run P cw vars Q (.drw ops (ops.filterMap (·.dst)) ops :: k) σ) ∨ LateR P cw vars Q ops k σ) := rfl
theorem lapp_nil {α : Type} (b : List α) : List.append [] b = b := rfl
theorem lapp_cons {α : Type} (x : α) (a b : List α) : List.append (x :: a) b = x :: List.append a b := rfl
def cvt (a b : Nat) (P : Program) (σ : St) (s t : TypeId) (x : Operand) (d : Option Tmp) (K : St → Prop) : Prop := match a, b, d with
  | 4, 1, some d => strBytesW P σ s t x d K
  | 1, 4, d => bytesStrW P σ s t x (pureK σ d K)
  | 5, 5, d => convW P σ s t x (pureK σ d K)
  | _, _, _ => False
section
variable (P : Program) (σ : St) (s t : TypeId) (x : Operand) (K : St → Prop)
theorem convertW_cvt (d : Option Tmp) : convertW P σ s t x d K = cvt (tinfo P s).kind (tinfo P t).kind P σ s t x d K := rfl
theorem cvt_41 (d : Tmp) : cvt 4 1 P σ s t x (some d) K = strBytesW P σ s t x d K := rfl
theorem cvt_14 (d : Option Tmp) : cvt 1 4 P σ s t x d K = bytesStrW P σ s t x (pureK σ d K) := rfl
theorem cvt_55 (d : Option Tmp) : cvt 5 5 P σ s t x d K = convW P σ s t x (pureK σ d K) := rfl
end
theorem oa_some (x : Operand) : (some x).toArray.toList = [x] := rfl
theorem oa_none : (none : Option Operand).toArray.toList = [] := rfl
theorem toNat_0 : Int.toNat 0 = 0 := rfl
theorem toNat_1 : Int.toNat 1 = 1 := rfl
/-! Rules whose conditions 'omega' shows. -/
theorem wrap_i64 {x : Int} (h1 : -9223372036854775808 ≤ x) (h2 : x ≤ 9223372036854775807) : IntKind.wrap .i64 x = x := by
  simp [IntKind.wrap, IntKind.bits, IntKind.signed]; omega
theorem wrap_u8 {x : Int} (h1 : 0 ≤ x) (h2 : x ≤ 255) : IntKind.wrap .u8 x = x := by
  simp [IntKind.wrap, IntKind.bits, IntKind.signed]; omega
theorem ilt_t {a b : Int} (h : a < b) : (a < b) = True := eq_true h
theorem ilt_f {a b : Int} (h : b ≤ a) : (a < b) = False := eq_false (by omega)
theorem ile_t {a b : Int} (h : a ≤ b) : (a ≤ b) = True := eq_true h
theorem ile_f {a b : Int} (h : b < a) : (a ≤ b) = False := eq_false (by omega)
theorem nlt_t {a b : Nat} (h : a < b) : (a < b) = True := eq_true h
theorem nlt_f {a b : Nat} (h : b ≤ a) : (a < b) = False := eq_false (by omega)
theorem nle_t {a b : Nat} (h : a ≤ b) : (a ≤ b) = True := eq_true h
theorem nle_f {a b : Nat} (h : b < a) : (a ≤ b) = False := eq_false (by omega)
theorem ibeq_t {a b : Int} (h : a = b) : (a == b) = true := by simp [h]
theorem ibeq_f {a b : Int} (h : a ≠ b) : (a == b) = false := by simp [h]
theorem ibne_t {a b : Int} (h : a ≠ b) : (a != b) = true := by simp [h]
theorem ibne_f {a b : Int} (h : a = b) : (a != b) = false := by simp [h]
theorem getD_map' {α : Type} (f : α → AV) (xs : List α) (i : Nat) (h : i < xs.length) : (xs.map f).getD i .undef = f xs[i] := by simp [List.getD, h]
theorem get_map' {α : Type} (f : α → AV) (xs : List α) (i : Nat) (h : i < xs.length) : (xs.map f)[i]? = some (f xs[i]) := by simp [h]
theorem toNat_cast_sub {a b : Nat} (h : b ≤ a) : ((a : Int) - (b : Int)).toNat = a - b := by omega
section
variable {P : Program} {cw : CW} {vars : List Nat} {Q : Post} {p : Prop} [Decidable p] {x y : Code} {σ : St} {k : List It} {t : Bool} {a b : Int} {o : Oper} {all l : List Oper} {ds : List Nat} {want : Bool}
theorem cond_not (t : Bool) (x y : Code) (k : List It) (σ : St) : condR P cw vars Q (.bool (!t)) x y k σ = condR P cw vars Q (.bool t) y x k σ := by cases t <;> simp [condR]
theorem guard_not (t want : Bool) (o : Oper) (all l : List Oper) (k : List It) (σ : St) : guardR P cw vars Q (.bool (!t)) want o all l k σ = guardR P cw vars Q (.bool t) (!want) o all l k σ := by cases t <;> cases want <;> rfl
theorem guardD_not (t want : Bool) (o : Oper) (all : List Oper) (ds : List Nat) (l : List Oper) (k : List It) (σ : St) : guardD P cw vars Q (.bool (!t)) want o all ds l k σ = guardD P cw vars Q (.bool t) (!want) o all ds l k σ := by cases t <;> cases want <;> rfl
/-! The tests, split. -/
theorem cond_dec (h1 : p → condR P cw vars Q (.bool true) x y k σ) (h2 : ¬ p → condR P cw vars Q (.bool false) x y k σ) : condR P cw vars Q (.bool (decide p)) x y k σ := by
  by_cases h : p
  · simpa [h] using h1 h
  · simpa [h] using h2 h
theorem cond_beq (h1 : a = b → condR P cw vars Q (.bool true) x y k σ) (h2 : a ≠ b → condR P cw vars Q (.bool false) x y k σ) : condR P cw vars Q (.bool (a == b)) x y k σ := by
  by_cases h : a = b
  · simpa [h] using h1 h
  · rw [show (a == b) = false by simp [h]]; exact h2 h
theorem cond_bne (h1 : a ≠ b → condR P cw vars Q (.bool true) x y k σ) (h2 : a = b → condR P cw vars Q (.bool false) x y k σ) : condR P cw vars Q (.bool (a != b)) x y k σ := by
  by_cases h : a = b
  · simpa [h] using h2 h
  · rw [show (a != b) = true by simp [h]]; exact h1 h
theorem cond_of (h1 : t = true → condR P cw vars Q (.bool true) x y k σ) (h2 : t = false → condR P cw vars Q (.bool false) x y k σ) : condR P cw vars Q (.bool t) x y k σ := by
  cases t
  · exact h2 rfl
  · exact h1 rfl
theorem guard_dec (h1 : p → guardR P cw vars Q (.bool true) want o all l k σ) (h2 : ¬ p → guardR P cw vars Q (.bool false) want o all l k σ) : guardR P cw vars Q (.bool (decide p)) want o all l k σ := by
  by_cases h : p
  · simpa [h] using h1 h
  · simpa [h] using h2 h
theorem guard_beq (h1 : a = b → guardR P cw vars Q (.bool true) want o all l k σ) (h2 : a ≠ b → guardR P cw vars Q (.bool false) want o all l k σ) : guardR P cw vars Q (.bool (a == b)) want o all l k σ := by
  by_cases h : a = b
  · simpa [h] using h1 h
  · rw [show (a == b) = false by simp [h]]; exact h2 h
theorem guard_bne (h1 : a ≠ b → guardR P cw vars Q (.bool true) want o all l k σ) (h2 : a = b → guardR P cw vars Q (.bool false) want o all l k σ) : guardR P cw vars Q (.bool (a != b)) want o all l k σ := by
  by_cases h : a = b
  · simpa [h] using h2 h
  · rw [show (a != b) = true by simp [h]]; exact h1 h
theorem guard_of (h1 : t = true → guardR P cw vars Q (.bool true) want o all l k σ) (h2 : t = false → guardR P cw vars Q (.bool false) want o all l k σ) : guardR P cw vars Q (.bool t) want o all l k σ := by
  cases t
  · exact h2 rfl
  · exact h1 rfl
theorem guardD_dec (h1 : p → guardD P cw vars Q (.bool true) want o all ds l k σ) (h2 : ¬ p → guardD P cw vars Q (.bool false) want o all ds l k σ) : guardD P cw vars Q (.bool (decide p)) want o all ds l k σ := by
  by_cases h : p
  · simpa [h] using h1 h
  · simpa [h] using h2 h
theorem guardD_beq (h1 : a = b → guardD P cw vars Q (.bool true) want o all ds l k σ) (h2 : a ≠ b → guardD P cw vars Q (.bool false) want o all ds l k σ) : guardD P cw vars Q (.bool (a == b)) want o all ds l k σ := by
  by_cases h : a = b
  · simpa [h] using h1 h
  · rw [show (a == b) = false by simp [h]]; exact h2 h
theorem guardD_bne (h1 : a ≠ b → guardD P cw vars Q (.bool true) want o all ds l k σ) (h2 : a = b → guardD P cw vars Q (.bool false) want o all ds l k σ) : guardD P cw vars Q (.bool (a != b)) want o all ds l k σ := by
  by_cases h : a = b
  · simpa [h] using h2 h
  · rw [show (a != b) = true by simp [h]]; exact h1 h
theorem guardD_of (h1 : t = true → guardD P cw vars Q (.bool true) want o all ds l k σ) (h2 : t = false → guardD P cw vars Q (.bool false) want o all ds l k σ) : guardD P cw vars Q (.bool t) want o all ds l k σ := by
  cases t
  · exact h2 rfl
  · exact h1 rfl
end
/-- What is one's own may be looked upon as shared. -/
theorem fits_shared {P : Program} {f : FuncId} {args : List AV} {res : AV} (h : Fits P f args res []) : Fits P f args (erase res) [] := by
  obtain ⟨h1, h2⟩ := h
  refine ⟨h1, fun w vs ok O hall hrep => Calls.mono (h2 w vs ok O hall hrep) ?_⟩
  rintro e w' ⟨v, Or, Oo, e1, e2, e3, e4, e5, e6, e7, e8, e9, e10⟩
  have hi := e5
  refine ⟨v, fun _ => False, Oo, e1, e2, e3, e4, e5, e6, ?_, ?_, fun _ hk => hk.elim, fun k hk => e10 k (hk.elim (fun x => x.elim) .inr)⟩
  · refine repW_erase _ e7 (fun k hk => ⟨hk.1, fun x => x, hk.2.2⟩) (fun k hk => ⟨?_, fun x => x, e9 k hk⟩)
    rcases e10 k (.inl hk) with h3 | h3
    · exact hall k (.inl h3)
    · exact hall k (.inr h3)
  · simp only [RepWs] at e8 ⊢
    exact e8
end Go.Proofs.Ytonljcfflamccaa.Am
namespace Go.Proofs.Ytonljcfflamccaa.Am
open Go.RowKit AV
set_option linter.unusedVariables false
theorem am0 : type_of% @run_draw ∧ type_of% @run_drw ∧ type_of% @drw_none ∧ type_of% @drw_some ∧ type_of% @gd_tt ∧ type_of% @gd_ff ∧ type_of% @gd_tf ∧ type_of% @gd_ft ∧ type_of% @gd_skip ∧ type_of% @chk_move ∧ type_of% @chk_pick ∧ type_of% @chk_load ∧ type_of% @chk_binOp ∧ type_of% @chk_unOp ∧ type_of% @chk_fieldAddr ∧ type_of% @chk_indexAddr ∧ type_of% @chk_index ∧ type_of% @chk_slice ∧ type_of% @chk_len ∧ type_of% @chk_fn ∧ type_of% @chk_alloc ∧ type_of% @chk_assign ∧ type_of% @chk_box ∧ type_of% @chk_build ∧ type_of% @chk_buildSlice ∧ type_of% @chk_store ∧ type_of% @chk_makeSlice ∧ type_of% @chk_extract ∧ type_of% @chk_append ∧ type_of% @chkA_t ∧ type_of% @chkA_f ∧ type_of% @madeIn_tmp ∧ type_of% @madeIn_const ∧ type_of% @madeL.eq_1 ∧ type_of% @madeL.eq_2 ∧ type_of% @dq.eq_1 ∧ type_of% @dq.eq_2 ∧ type_of% @isMk.eq_1 ∧ type_of% @isMk.eq_2 ∧ type_of% @isMk.eq_3 ∧ type_of% @isMk.eq_4 ∧ type_of% @tmpsOf.eq_1 ∧ type_of% @tmpsOf.eq_2 ∧ type_of% @tmpsOf.eq_3 ∧ type_of% @looks_none ∧ type_of% @looks_some ∧ type_of% @gtmp_some ∧ type_of% @gtmp_none ∧ type_of% @check1_eq ∧ type_of% @check0_eq ∧ type_of% @c0_oth ∧ type_of% @c0_int ∧ type_of% @c0_bool ∧ type_of% @c0_str ∧ type_of% @c0_sl ∧ type_of% @c0_agg ∧ type_of% @c0_arr ∧ type_of% @c0_tup ∧ type_of% @c0_box ∧ type_of% @c0_dptr ∧ type_of% @ck_undef ∧ type_of% @ck_oth ∧ type_of% @ck_int ∧ type_of% @ck_bool ∧ type_of% @ck_str ∧ type_of% @ck_sl ∧ type_of% @ck_agg ∧ type_of% @ck_arr ∧ type_of% @ck_tup ∧ type_of% @ck_box ∧ type_of% @ck_dptr ∧ type_of% @ck_vref ∧ type_of% @ck_vagg ∧ type_of% @ck_vsub ∧ type_of% @ck_ptr ∧ type_of% @ct_sl ∧ type_of% @ct_agg ∧ type_of% @ct_arr ∧ type_of% @ct_box ∧ type_of% @Op.operands.eq_1 := ⟨@run_draw, @run_drw, @drw_none, @drw_some, @gd_tt, @gd_ff, @gd_tf, @gd_ft, @gd_skip, @chk_move, @chk_pick, @chk_load, @chk_binOp, @chk_unOp, @chk_fieldAddr, @chk_indexAddr, @chk_index, @chk_slice, @chk_len, @chk_fn, @chk_alloc, @chk_assign, @chk_box, @chk_build, @chk_buildSlice, @chk_store, @chk_makeSlice, @chk_extract, @chk_append, @chkA_t, @chkA_f, @madeIn_tmp, @madeIn_const, @madeL.eq_1, @madeL.eq_2, @dq.eq_1, @dq.eq_2, @isMk.eq_1, @isMk.eq_2, @isMk.eq_3, @isMk.eq_4, @tmpsOf.eq_1, @tmpsOf.eq_2, @tmpsOf.eq_3, @looks_none, @looks_some, @gtmp_some, @gtmp_none, @check1_eq, @check0_eq, @c0_oth, @c0_int, @c0_bool, @c0_str, @c0_sl, @c0_agg, @c0_arr, @c0_tup, @c0_box, @c0_dptr, @ck_undef, @ck_oth, @ck_int, @ck_bool, @ck_str, @ck_sl, @ck_agg, @ck_arr, @ck_tup, @ck_box, @ck_dptr, @ck_vref, @ck_vagg, @ck_vsub, @ck_ptr, @ct_sl, @ct_agg, @ct_arr, @ct_box, @Op.operands.eq_1⟩
theorem am1 : type_of% @Op.operands.eq_2 ∧ type_of% @Op.operands.eq_3 ∧ type_of% @Op.operands.eq_4 ∧ type_of% @Op.operands.eq_5 ∧ type_of% @Op.operands.eq_6 ∧ type_of% @Op.operands.eq_7 ∧ type_of% @Op.operands.eq_8 ∧ type_of% @Op.operands.eq_9 ∧ type_of% @Op.operands.eq_10 ∧ type_of% @Op.operands.eq_11 ∧ type_of% @Op.operands.eq_12 ∧ type_of% @Op.operands.eq_13 ∧ type_of% @Op.operands.eq_14 ∧ type_of% @Op.operands.eq_15 ∧ type_of% @Op.operands.eq_16 ∧ type_of% @Op.operands.eq_17 ∧ type_of% @Op.operands.eq_18 ∧ type_of% @Op.operands.eq_19 ∧ type_of% @Op.operands.eq_20 ∧ type_of% @Op.operands.eq_21 ∧ type_of% @Op.operands.eq_22 ∧ type_of% @Op.operands.eq_23 ∧ type_of% @Op.operands.eq_24 ∧ type_of% @Op.operands.eq_25 ∧ type_of% @Op.operands.eq_26 ∧ type_of% @Op.operands.eq_27 ∧ type_of% @Op.operands.eq_28 ∧ type_of% @Op.operands.eq_29 ∧ type_of% @Op.operands.eq_30 ∧ type_of% @Op.operands.eq_31 ∧ type_of% @Op.operands.eq_32 ∧ type_of% @Op.operands.eq_33 ∧ type_of% @Op.operands.eq_34 ∧ type_of% @Op.operands.eq_35 ∧ type_of% @Op.operands.eq_36 ∧ type_of% @Op.operands.eq_37 ∧ type_of% @Op.operands.eq_38 ∧ type_of% @Op.operands.eq_39 ∧ type_of% @Op.operands.eq_40 ∧ type_of% @Op.operands.eq_41 ∧ type_of% @Op.operands.eq_42 ∧ type_of% @Op.operands.eq_43 ∧ type_of% @Call.operands.eq_1 ∧ type_of% @List.all_cons.{0} ∧ type_of% @List.all_nil.{0} ∧ type_of% @Bool.and_true ∧ type_of% @Bool.true_and ∧ type_of% @List.filterMap_cons.{0,0} ∧ type_of% @List.filterMap_nil.{0,0} ∧ type_of% @Array.toList_append.{0} ∧ type_of% @run_nil ∧ type_of% @run_skip ∧ type_of% @run_seq ∧ type_of% @run_region ∧ type_of% @run_ops ∧ type_of% @run_cond ∧ type_of% @cond_t ∧ type_of% @cond_f ∧ type_of% @run_block ∧ type_of% @run_blk ∧ type_of% @run_exit ∧ type_of% @kx_nil ∧ type_of% @kx_code ∧ type_of% @kx_blk ∧ type_of% @run_ret ∧ type_of% @kr_code ∧ type_of% @kr_blk ∧ type_of% @ops_none ∧ type_of% @ops_some ∧ type_of% @guard_tt ∧ type_of% @guard_ff ∧ type_of% @guard_tf ∧ type_of% @guard_ft ∧ type_of% @guard_skip ∧ type_of% @gslot_some ∧ type_of% @retQ_ret ∧ type_of% @retQ_normal ∧ type_of% @endQ_ret ∧ type_of% @endQ_normal ∧ type_of% @plainL.eq_1 := ⟨@Op.operands.eq_2, @Op.operands.eq_3, @Op.operands.eq_4, @Op.operands.eq_5, @Op.operands.eq_6, @Op.operands.eq_7, @Op.operands.eq_8, @Op.operands.eq_9, @Op.operands.eq_10, @Op.operands.eq_11, @Op.operands.eq_12, @Op.operands.eq_13, @Op.operands.eq_14, @Op.operands.eq_15, @Op.operands.eq_16, @Op.operands.eq_17, @Op.operands.eq_18, @Op.operands.eq_19, @Op.operands.eq_20, @Op.operands.eq_21, @Op.operands.eq_22, @Op.operands.eq_23, @Op.operands.eq_24, @Op.operands.eq_25, @Op.operands.eq_26, @Op.operands.eq_27, @Op.operands.eq_28, @Op.operands.eq_29, @Op.operands.eq_30, @Op.operands.eq_31, @Op.operands.eq_32, @Op.operands.eq_33, @Op.operands.eq_34, @Op.operands.eq_35, @Op.operands.eq_36, @Op.operands.eq_37, @Op.operands.eq_38, @Op.operands.eq_39, @Op.operands.eq_40, @Op.operands.eq_41, @Op.operands.eq_42, @Op.operands.eq_43, @Call.operands.eq_1, @List.all_cons.{0}, @List.all_nil.{0}, @Bool.and_true, @Bool.true_and, @List.filterMap_cons.{0,0}, @List.filterMap_nil.{0,0}, @Array.toList_append.{0}, @run_nil, @run_skip, @run_seq, @run_region, @run_ops, @run_cond, @cond_t, @cond_f, @run_block, @run_blk, @run_exit, @kx_nil, @kx_code, @kx_blk, @run_ret, @kr_code, @kr_blk, @ops_none, @ops_some, @guard_tt, @guard_ff, @guard_tf, @guard_ft, @guard_skip, @gslot_some, @retQ_ret, @retQ_normal, @endQ_ret, @endQ_normal, @plainL.eq_1⟩
theorem am2 : type_of% @plainL.eq_2 ∧ type_of% @ncellsL.eq_1 ∧ type_of% @ncellsL.eq_2 ∧ type_of% @allocW.eq_1 ∧ type_of% @boxW.eq_1 ∧ type_of% @makeW.eq_1 ∧ type_of% @extractW.eq_1 ∧ type_of% @extractW.eq_2 ∧ type_of% @List.getElem?_nil.{0} ∧ type_of% @List.length_cons.{0} ∧ type_of% @List.take_zero.{0} ∧ type_of% @List.take_succ_cons.{0} ∧ type_of% @List.set_cons_zero.{0} ∧ type_of% @List.set_cons_succ.{0} ∧ type_of% @Nat.lt_add_one ∧ type_of% @List.getD_cons_zero.{0} ∧ type_of% @List.getD_cons_succ.{0} ∧ type_of% @initGo.eq_1 ∧ type_of% @initGo.eq_2 ∧ type_of% @op_move ∧ type_of% @op_assign ∧ type_of% @op_pick ∧ type_of% @op_alloc ∧ type_of% @op_box ∧ type_of% @op_build ∧ type_of% @op_buildSlice ∧ type_of% @op_load ∧ type_of% @op_store ∧ type_of% @op_binOp ∧ type_of% @op_unOp ∧ type_of% @op_convert ∧ type_of% @op_makeSlice ∧ type_of% @op_slice ∧ type_of% @op_fieldAddr ∧ type_of% @op_indexAddr ∧ type_of% @op_index ∧ type_of% @op_extract ∧ type_of% @op_len ∧ type_of% @op_append ∧ type_of% @op_call ∧ type_of% @skip_some ∧ type_of% @skip_none ∧ type_of% @moveW.eq_1 ∧ type_of% @srcOf.eq_1 ∧ type_of% @assignW.eq_1 ∧ type_of% @ev.eq_1 ∧ type_of% @ev.eq_2 ∧ type_of% @ev.eq_3 ∧ type_of% @ev.eq_4 ∧ type_of% @constV.eq_1 ∧ type_of% @constV.eq_2 ∧ type_of% @constV.eq_3 ∧ type_of% @constV.eq_4 ∧ type_of% @constV.eq_5 ∧ type_of% @constV.eq_6 ∧ type_of% @constV.eq_7 ∧ type_of% @constV.eq_8 ∧ type_of% @constV.eq_9 ∧ type_of% @pull.eq_1 ∧ type_of% @pull.eq_2 ∧ type_of% @pulls.eq_1 ∧ type_of% @usedOf.eq_1 ∧ type_of% @usedOf.eq_2 ∧ type_of% @usedOf.eq_3 ∧ type_of% @look_put ∧ type_of% @look_upd ∧ type_of% @keys.eq_1 ∧ type_of% @keys.eq_2 ∧ type_of% @Am.look.eq_1 ∧ type_of% @Am.look.eq_2 ∧ type_of% @pu_undef ∧ type_of% @pu_oth ∧ type_of% @pu_int ∧ type_of% @pu_bool ∧ type_of% @pu_str ∧ type_of% @pu_sl ∧ type_of% @pu_agg ∧ type_of% @pu_arr ∧ type_of% @pu_tup ∧ type_of% @pu_box := ⟨@plainL.eq_2, @ncellsL.eq_1, @ncellsL.eq_2, @allocW.eq_1, @boxW.eq_1, @makeW.eq_1, @extractW.eq_1, @extractW.eq_2, @List.getElem?_nil.{0}, @List.length_cons.{0}, @List.take_zero.{0}, @List.take_succ_cons.{0}, @List.set_cons_zero.{0}, @List.set_cons_succ.{0}, @Nat.lt_add_one, @List.getD_cons_zero.{0}, @List.getD_cons_succ.{0}, @initGo.eq_1, @initGo.eq_2, @op_move, @op_assign, @op_pick, @op_alloc, @op_box, @op_build, @op_buildSlice, @op_load, @op_store, @op_binOp, @op_unOp, @op_convert, @op_makeSlice, @op_slice, @op_fieldAddr, @op_indexAddr, @op_index, @op_extract, @op_len, @op_append, @op_call, @skip_some, @skip_none, @moveW.eq_1, @srcOf.eq_1, @assignW.eq_1, @ev.eq_1, @ev.eq_2, @ev.eq_3, @ev.eq_4, @constV.eq_1, @constV.eq_2, @constV.eq_3, @constV.eq_4, @constV.eq_5, @constV.eq_6, @constV.eq_7, @constV.eq_8, @constV.eq_9, @pull.eq_1, @pull.eq_2, @pulls.eq_1, @usedOf.eq_1, @usedOf.eq_2, @usedOf.eq_3, @look_put, @look_upd, @keys.eq_1, @keys.eq_2, @Am.look.eq_1, @Am.look.eq_2, @pu_undef, @pu_oth, @pu_int, @pu_bool, @pu_str, @pu_sl, @pu_agg, @pu_arr, @pu_tup, @pu_box⟩
theorem am3 : type_of% @pu_dptr ∧ type_of% @pu_vref ∧ type_of% @pu_vagg ∧ type_of% @pu_vsub ∧ type_of% @pu_ptr ∧ type_of% @kp_undef ∧ type_of% @kp_oth ∧ type_of% @kp_int ∧ type_of% @kp_bool ∧ type_of% @kp_str ∧ type_of% @kp_sl ∧ type_of% @kp_agg ∧ type_of% @kp_arr ∧ type_of% @kp_tup ∧ type_of% @kp_box ∧ type_of% @kp_dptr ∧ type_of% @kp_vref ∧ type_of% @kp_vagg ∧ type_of% @kp_vsub ∧ type_of% @kp_ptr ∧ type_of% @tidy.eq_1 ∧ type_of% @tidyGo.eq_1 ∧ type_of% @tidyGo.eq_2 ∧ type_of% @pureK_some ∧ type_of% @pureK_none ∧ type_of% @AV.target.eq_1 ∧ type_of% @AV.target.eq_2 ∧ type_of% @AV.target.eq_3 ∧ type_of% @AV.target.eq_4 ∧ type_of% @AV.target.eq_5 ∧ type_of% @plain.eq_1 ∧ type_of% @plain.eq_2 ∧ type_of% @plain.eq_3 ∧ type_of% @plain.eq_4 ∧ type_of% @plain.eq_5 ∧ type_of% @plain.eq_6 ∧ type_of% @plain.eq_7 ∧ type_of% @plain.eq_8 ∧ type_of% @plain.eq_9 ∧ type_of% @plain.eq_10 ∧ type_of% @plain.eq_11 ∧ type_of% @plain.eq_12 ∧ type_of% @plain.eq_13 ∧ type_of% @plain.eq_14 ∧ type_of% @plain.eq_15 ∧ type_of% @needW_some ∧ type_of% @needW_none ∧ type_of% @needW_if ∧ type_of% @needW_ifn ∧ type_of% @binA.eq_1 ∧ type_of% @binA.eq_2 ∧ type_of% @binA.eq_3 ∧ type_of% @binA.eq_4 ∧ type_of% @binA.eq_5 ∧ type_of% @binA.eq_6 ∧ type_of% @binA.eq_7 ∧ type_of% @eqAgg.eq_1 ∧ type_of% @eqAgg.eq_2 ∧ type_of% @eqSL.eq_1 ∧ type_of% @eqSL.eq_2 ∧ type_of% @eqSL.eq_3 ∧ type_of% @eqS.eq_1 ∧ type_of% @eqS.eq_2 ∧ type_of% @eqS.eq_3 ∧ type_of% @eqS.eq_4 ∧ type_of% @avK.eq_1 ∧ type_of% @avK.eq_2 ∧ type_of% @avK.eq_3 ∧ type_of% @avK.eq_4 ∧ type_of% @and_self ∧ type_of% @intOp.eq_1 ∧ type_of% @intOp.eq_2 ∧ type_of% @intOp.eq_3 ∧ type_of% @intOp.eq_4 ∧ type_of% @intOp.eq_5 ∧ type_of% @intOp.eq_6 ∧ type_of% @intOp.eq_7 ∧ type_of% @intOp.eq_8 ∧ type_of% @intOp.eq_9 ∧ type_of% @intOp.eq_10 := ⟨@pu_dptr, @pu_vref, @pu_vagg, @pu_vsub, @pu_ptr, @kp_undef, @kp_oth, @kp_int, @kp_bool, @kp_str, @kp_sl, @kp_agg, @kp_arr, @kp_tup, @kp_box, @kp_dptr, @kp_vref, @kp_vagg, @kp_vsub, @kp_ptr, @tidy.eq_1, @tidyGo.eq_1, @tidyGo.eq_2, @pureK_some, @pureK_none, @AV.target.eq_1, @AV.target.eq_2, @AV.target.eq_3, @AV.target.eq_4, @AV.target.eq_5, @plain.eq_1, @plain.eq_2, @plain.eq_3, @plain.eq_4, @plain.eq_5, @plain.eq_6, @plain.eq_7, @plain.eq_8, @plain.eq_9, @plain.eq_10, @plain.eq_11, @plain.eq_12, @plain.eq_13, @plain.eq_14, @plain.eq_15, @needW_some, @needW_none, @needW_if, @needW_ifn, @binA.eq_1, @binA.eq_2, @binA.eq_3, @binA.eq_4, @binA.eq_5, @binA.eq_6, @binA.eq_7, @eqAgg.eq_1, @eqAgg.eq_2, @eqSL.eq_1, @eqSL.eq_2, @eqSL.eq_3, @eqS.eq_1, @eqS.eq_2, @eqS.eq_3, @eqS.eq_4, @avK.eq_1, @avK.eq_2, @avK.eq_3, @avK.eq_4, @and_self, @intOp.eq_1, @intOp.eq_2, @intOp.eq_3, @intOp.eq_4, @intOp.eq_5, @intOp.eq_6, @intOp.eq_7, @intOp.eq_8, @intOp.eq_9, @intOp.eq_10⟩
theorem am4 : type_of% @intOp.eq_11 ∧ type_of% @intOp.eq_12 ∧ type_of% @intOp.eq_13 ∧ type_of% @strOp.eq_1 ∧ type_of% @strOp.eq_2 ∧ type_of% @strOp.eq_3 ∧ type_of% @strOp.eq_4 ∧ type_of% @strOp.eq_5 ∧ type_of% @strOp.eq_6 ∧ type_of% @strOp.eq_7 ∧ type_of% @strOp.eq_8 ∧ type_of% @unA.eq_1 ∧ type_of% @unA.eq_2 ∧ type_of% @unA.eq_3 ∧ type_of% @lenW.eq_1 ∧ type_of% @loadW.eq_1 ∧ type_of% @indexW.eq_1 ∧ type_of% @indexAddrW.eq_1 ∧ type_of% @fieldAddrW.eq_1 ∧ type_of% @sliceStrW.eq_1 ∧ type_of% @sliceStrW.eq_2 ∧ type_of% @pickW.eq_1 ∧ type_of% @storeW.eq_1 ∧ type_of% @convertW_cvt ∧ type_of% @cvt_41 ∧ type_of% @cvt_14 ∧ type_of% @cvt_55 ∧ type_of% @convW.eq_1 ∧ type_of% @strBytesW.eq_1 ∧ type_of% @bytesStrW.eq_1 ∧ type_of% @getAt.eq_1 ∧ type_of% @getAt.eq_2 ∧ type_of% @getAt.eq_3 ∧ type_of% @getAt.eq_4 ∧ type_of% @getAt.eq_5 ∧ type_of% @getAt.eq_6 ∧ type_of% @setAt.eq_1 ∧ type_of% @setAt.eq_2 ∧ type_of% @setAt.eq_3 ∧ type_of% @setAt.eq_4 ∧ type_of% @setAt.eq_5 ∧ type_of% @setAt.eq_6 ∧ type_of% @loaded.eq_1 ∧ type_of% @loaded.eq_2 ∧ type_of% @loaded.eq_3 ∧ type_of% @AV.hdr.eq_1 ∧ type_of% @AV.hdr.eq_2 ∧ type_of% @AV.hdr.eq_3 ∧ type_of% @AV.isAgg.eq_1 ∧ type_of% @AV.isAgg.eq_2 ∧ type_of% @AV.isAgg.eq_3 ∧ type_of% @AV.stor.eq_1 ∧ type_of% @AV.stor.eq_2 ∧ type_of% @AV.stor.eq_3 ∧ type_of% @AV.stor.eq_4 ∧ type_of% @AV.stor.eq_5 ∧ type_of% @AV.stor.eq_6 ∧ type_of% @AV.stor.eq_7 ∧ type_of% @ncells.eq_1 ∧ type_of% @ncells.eq_2 ∧ type_of% @ncells.eq_3 ∧ type_of% @List.foldl_cons.{0,0} ∧ type_of% @List.foldl_nil.{0,0} ∧ type_of% @List.mem_cons.{0} ∧ type_of% @List.not_mem_nil.{0} ∧ type_of% @List.contains_cons.{0} ∧ type_of% @List.contains_nil.{0} ∧ type_of% @or_false ∧ type_of% @false_or ∧ type_of% @or_true ∧ type_of% @true_or ∧ type_of% @or_self ∧ type_of% @and_true ∧ type_of% @true_and ∧ type_of% @and_false ∧ type_of% @false_and ∧ type_of% @ne_eq.{1} ∧ type_of% @not_false_eq_true ∧ type_of% @not_true_eq_false ∧ type_of% @Option.some.injEq.{0} := ⟨@intOp.eq_11, @intOp.eq_12, @intOp.eq_13, @strOp.eq_1, @strOp.eq_2, @strOp.eq_3, @strOp.eq_4, @strOp.eq_5, @strOp.eq_6, @strOp.eq_7, @strOp.eq_8, @unA.eq_1, @unA.eq_2, @unA.eq_3, @lenW.eq_1, @loadW.eq_1, @indexW.eq_1, @indexAddrW.eq_1, @fieldAddrW.eq_1, @sliceStrW.eq_1, @sliceStrW.eq_2, @pickW.eq_1, @storeW.eq_1, @convertW_cvt, @cvt_41, @cvt_14, @cvt_55, @convW.eq_1, @strBytesW.eq_1, @bytesStrW.eq_1, @getAt.eq_1, @getAt.eq_2, @getAt.eq_3, @getAt.eq_4, @getAt.eq_5, @getAt.eq_6, @setAt.eq_1, @setAt.eq_2, @setAt.eq_3, @setAt.eq_4, @setAt.eq_5, @setAt.eq_6, @loaded.eq_1, @loaded.eq_2, @loaded.eq_3, @AV.hdr.eq_1, @AV.hdr.eq_2, @AV.hdr.eq_3, @AV.isAgg.eq_1, @AV.isAgg.eq_2, @AV.isAgg.eq_3, @AV.stor.eq_1, @AV.stor.eq_2, @AV.stor.eq_3, @AV.stor.eq_4, @AV.stor.eq_5, @AV.stor.eq_6, @AV.stor.eq_7, @ncells.eq_1, @ncells.eq_2, @ncells.eq_3, @List.foldl_cons.{0,0}, @List.foldl_nil.{0,0}, @List.mem_cons.{0}, @List.not_mem_nil.{0}, @List.contains_cons.{0}, @List.contains_nil.{0}, @or_false, @false_or, @or_true, @true_or, @or_self, @and_true, @true_and, @and_false, @false_and, @ne_eq.{1}, @not_false_eq_true, @not_true_eq_false, @Option.some.injEq.{0}⟩
theorem am5 : type_of% @if_true.{1} ∧ type_of% @if_true.{0} ∧ type_of% @if_false.{1} ∧ type_of% @if_false.{0} ∧ type_of% @Bool.or_true ∧ type_of% @Bool.false_and ∧ type_of% @Bool.and_false ∧ type_of% @Bool.and_self ∧ type_of% @Bool.or_false ∧ type_of% @Bool.true_or ∧ type_of% @Bool.false_or ∧ type_of% @Bool.not_true ∧ type_of% @Bool.not_false ∧ type_of% @beq_self_eq_true.{0} ∧ type_of% @List.getElem?_cons_zero.{0} ∧ type_of% @List.getElem?_cons_succ.{0} ∧ type_of% @List.toList_toArray.{0} ∧ type_of% @decide_true ∧ type_of% @decide_false ∧ type_of% @Bool.false_eq_true ∧ type_of% @Nat.zero_ne_one ∧ type_of% @Nat.one_ne_zero ∧ type_of% @List.length_nil.{0} ∧ type_of% @List.map_cons.{0,0} ∧ type_of% @List.map_nil.{0,0} ∧ type_of% @isU8.eq_1 ∧ type_of% @isU8.eq_2 ∧ type_of% @szOf_ti ∧ type_of% @List.nil_append.{0} ∧ type_of% @List.cons_append.{0} ∧ type_of% @Operand.tmp.injEq ∧ type_of% @len_bytesA ∧ type_of% @set_bytesA ∧ type_of% @Int.toNat_natCast ∧ type_of% @bytesBack_bytesA ∧ type_of% @Option.map_some.{0,0} ∧ type_of% @Option.map_none.{0,0} ∧ type_of% @round_exit ∧ type_of% @round_ret ∧ type_of% @look_setP ∧ type_of% @keys_wipe ∧ type_of% @look_wipe ∧ type_of% @kP_undef ∧ type_of% @kP_oth ∧ type_of% @kP_int ∧ type_of% @kP_bool ∧ type_of% @kP_str ∧ type_of% @kP_sl ∧ type_of% @kP_agg ∧ type_of% @kP_arr ∧ type_of% @kP_tup ∧ type_of% @kP_box ∧ type_of% @kP_dptr ∧ type_of% @kP_vref ∧ type_of% @kP_vagg ∧ type_of% @kP_vsub ∧ type_of% @kP_ptr ∧ type_of% @preB_nil ∧ type_of% @preB_cn ∧ type_of% @preB_cc ∧ type_of% @sPre_eq ∧ type_of% @op_callX ∧ type_of% @op_copyX ∧ type_of% @newsOf_some ∧ type_of% @newsOf_none ∧ type_of% @homeOf.eq_1 ∧ type_of% @homeOf.eq_2 ∧ type_of% @argsM.eq_1 ∧ type_of% @argsM.eq_2 ∧ type_of% @isVal.eq_1 ∧ type_of% @lends.eq_1 ∧ type_of% @othersVal.eq_1 ∧ type_of% @othersVal.eq_2 ∧ type_of% @copyW.eq_1 ∧ type_of% @lentOf.eq_1 ∧ type_of% @closed.eq_1 ∧ type_of% @closed.eq_2 ∧ type_of% @closed.eq_3 ∧ type_of% @closed.eq_4 ∧ type_of% @closed.eq_5 := ⟨@if_true.{1}, @if_true.{0}, @if_false.{1}, @if_false.{0}, @Bool.or_true, @Bool.false_and, @Bool.and_false, @Bool.and_self, @Bool.or_false, @Bool.true_or, @Bool.false_or, @Bool.not_true, @Bool.not_false, @beq_self_eq_true.{0}, @List.getElem?_cons_zero.{0}, @List.getElem?_cons_succ.{0}, @List.toList_toArray.{0}, @decide_true, @decide_false, @Bool.false_eq_true, @Nat.zero_ne_one, @Nat.one_ne_zero, @List.length_nil.{0}, @List.map_cons.{0,0}, @List.map_nil.{0,0}, @isU8.eq_1, @isU8.eq_2, @szOf_ti, @List.nil_append.{0}, @List.cons_append.{0}, @Operand.tmp.injEq, @len_bytesA, @set_bytesA, @Int.toNat_natCast, @bytesBack_bytesA, @Option.map_some.{0,0}, @Option.map_none.{0,0}, @round_exit, @round_ret, @look_setP, @keys_wipe, @look_wipe, @kP_undef, @kP_oth, @kP_int, @kP_bool, @kP_str, @kP_sl, @kP_agg, @kP_arr, @kP_tup, @kP_box, @kP_dptr, @kP_vref, @kP_vagg, @kP_vsub, @kP_ptr, @preB_nil, @preB_cn, @preB_cc, @sPre_eq, @op_callX, @op_copyX, @newsOf_some, @newsOf_none, @homeOf.eq_1, @homeOf.eq_2, @argsM.eq_1, @argsM.eq_2, @isVal.eq_1, @lends.eq_1, @othersVal.eq_1, @othersVal.eq_2, @copyW.eq_1, @lentOf.eq_1, @closed.eq_1, @closed.eq_2, @closed.eq_3, @closed.eq_4, @closed.eq_5⟩
theorem am6 : type_of% @closed.eq_6 ∧ type_of% @closed.eq_7 ∧ type_of% @closed.eq_8 ∧ type_of% @closed.eq_9 ∧ type_of% @closed.eq_10 ∧ type_of% @closed.eq_11 ∧ type_of% @closed.eq_12 ∧ type_of% @closed.eq_13 ∧ type_of% @closed.eq_14 ∧ type_of% @closed.eq_15 ∧ type_of% @closedL.eq_1 ∧ type_of% @closedL.eq_2 ∧ type_of% @argsOf.eq_1 ∧ type_of% @argsOf.eq_2 ∧ type_of% @argOf.eq_1 ∧ type_of% @frzs.eq_1 ∧ type_of% @frzs.eq_2 ∧ type_of% @frz.eq_1 ∧ type_of% @frz.eq_2 ∧ type_of% @ownP.eq_1 ∧ type_of% @ownP.eq_2 ∧ type_of% @ownP.eq_3 ∧ type_of% @ownP.eq_4 ∧ type_of% @ownP.eq_5 ∧ type_of% @ownP.eq_6 ∧ type_of% @erase.eq_1 ∧ type_of% @erase.eq_2 ∧ type_of% @erase.eq_3 ∧ type_of% @erase.eq_4 ∧ type_of% @erase.eq_5 ∧ type_of% @erase.eq_6 ∧ type_of% @eraseL.eq_1 ∧ type_of% @eraseL.eq_2 ∧ type_of% @dead.eq_1 ∧ type_of% @dead.eq_2 ∧ type_of% @dead.eq_3 ∧ type_of% @dead.eq_4 ∧ type_of% @dead.eq_5 ∧ type_of% @dead.eq_6 ∧ type_of% @deadL.eq_1 ∧ type_of% @deadL.eq_2 ∧ type_of% @retW.eq_1 ∧ type_of% @retW.eq_2 ∧ type_of% @outsW.eq_1 ∧ type_of% @outsW.eq_2 ∧ type_of% @Le.eq_1 ∧ type_of% @leGo.eq_1 ∧ type_of% @leGo.eq_2 ∧ type_of% @aimIn.eq_1 ∧ type_of% @aimIn.eq_2 ∧ type_of% @aimIn.eq_3 ∧ type_of% @aimIn.eq_4 ∧ type_of% @aimIn.eq_5 ∧ type_of% @List.dropLast_cons_cons.{0} ∧ type_of% @List.take_nil.{0} ∧ type_of% @List.drop_nil.{0} ∧ type_of% @List.drop_zero.{0} ∧ type_of% @List.drop_succ_cons.{0} ∧ type_of% @List.append_nil.{0} ∧ type_of% @List.length_append.{0} ∧ type_of% @List.nodup_nil.{0} ∧ type_of% @List.nodup_cons.{0} ∧ type_of% @appW.eq_1 ∧ type_of% @buildW.eq_1 ∧ type_of% @buildSliceW.eq_1 ∧ type_of% @partsFit.eq_1 ∧ type_of% @partsFit.eq_2 ∧ type_of% @elemsFit.eq_1 ∧ type_of% @elemsFit.eq_2 ∧ type_of% @setParts.eq_1 ∧ type_of% @setParts.eq_2 ∧ type_of% @appendW.eq_1 ∧ type_of% @appendMW.eq_1 ∧ type_of% @appFits.eq_1 ∧ type_of% @List.replicate_succ.{0} ∧ type_of% @List.replicate_zero.{0} ∧ type_of% @List.cons.injEq.{0} ∧ type_of% @retC.eq_1 ∧ type_of% @AV.int.injEq ∧ type_of% @AV.bool.injEq := ⟨@closed.eq_6, @closed.eq_7, @closed.eq_8, @closed.eq_9, @closed.eq_10, @closed.eq_11, @closed.eq_12, @closed.eq_13, @closed.eq_14, @closed.eq_15, @closedL.eq_1, @closedL.eq_2, @argsOf.eq_1, @argsOf.eq_2, @argOf.eq_1, @frzs.eq_1, @frzs.eq_2, @frz.eq_1, @frz.eq_2, @ownP.eq_1, @ownP.eq_2, @ownP.eq_3, @ownP.eq_4, @ownP.eq_5, @ownP.eq_6, @erase.eq_1, @erase.eq_2, @erase.eq_3, @erase.eq_4, @erase.eq_5, @erase.eq_6, @eraseL.eq_1, @eraseL.eq_2, @dead.eq_1, @dead.eq_2, @dead.eq_3, @dead.eq_4, @dead.eq_5, @dead.eq_6, @deadL.eq_1, @deadL.eq_2, @retW.eq_1, @retW.eq_2, @outsW.eq_1, @outsW.eq_2, @Le.eq_1, @leGo.eq_1, @leGo.eq_2, @aimIn.eq_1, @aimIn.eq_2, @aimIn.eq_3, @aimIn.eq_4, @aimIn.eq_5, @List.dropLast_cons_cons.{0}, @List.take_nil.{0}, @List.drop_nil.{0}, @List.drop_zero.{0}, @List.drop_succ_cons.{0}, @List.append_nil.{0}, @List.length_append.{0}, @List.nodup_nil.{0}, @List.nodup_cons.{0}, @appW.eq_1, @buildW.eq_1, @buildSliceW.eq_1, @partsFit.eq_1, @partsFit.eq_2, @elemsFit.eq_1, @elemsFit.eq_2, @setParts.eq_1, @setParts.eq_2, @appendW.eq_1, @appendMW.eq_1, @appFits.eq_1, @List.replicate_succ.{0}, @List.replicate_zero.{0}, @List.cons.injEq.{0}, @retC.eq_1, @AV.int.injEq, @AV.bool.injEq⟩
theorem am7 : type_of% @AV.str.injEq ∧ type_of% @AV.sl.injEq ∧ type_of% @AV.agg.injEq ∧ type_of% @AV.arr.injEq ∧ type_of% @AV.tup.injEq ∧ type_of% @AV.box.injEq ∧ type_of% @AV.vref.injEq ∧ type_of% @AV.ptr.injEq ∧ type_of% @AV.vagg.injEq ∧ type_of% @AV.dptr.injEq ∧ type_of% @wrap_i64 ∧ type_of% @wrap_u8 ∧ type_of% @ilt_t ∧ type_of% @ilt_f ∧ type_of% @ile_t ∧ type_of% @ile_f ∧ type_of% @nlt_t ∧ type_of% @nlt_f ∧ type_of% @nle_t ∧ type_of% @nle_f ∧ type_of% @ibeq_t ∧ type_of% @ibeq_f ∧ type_of% @ibne_t ∧ type_of% @ibne_f ∧ type_of% @getD_map' ∧ type_of% @get_map' ∧ type_of% @gt_iff_lt.{0} ∧ type_of% @ge_iff_le.{0} ∧ type_of% @List.length_map.{0,0} ∧ type_of% @Int.natCast_add ∧ type_of% @Int.natCast_one ∧ type_of% @Int.natCast_zero ∧ type_of% @Int.toNat_natCast_add_one ∧ type_of% @Nat.sub_self ∧ type_of% @List.take_length.{0} ∧ type_of% @List.drop_length.{0} ∧ type_of% @Nat.sub_zero ∧ type_of% @Nat.add_zero ∧ type_of% @Nat.zero_add ∧ type_of% @Int.add_zero ∧ type_of% @Int.zero_add ∧ type_of% @Int.mul_zero ∧ type_of% @Int.sub_zero ∧ type_of% @cond_not ∧ type_of% @guard_not ∧ type_of% @guardD_not ∧ type_of% @Bool.true_beq ∧ type_of% @Bool.false_beq ∧ type_of% @run_regionT ∧ type_of% @run_drawT ∧ type_of% @lapp_nil ∧ type_of% @lapp_cons ∧ type_of% @noAim.eq_1 ∧ type_of% @noAim.eq_2 ∧ type_of% @leW_t ∧ type_of% @leW_f ∧ type_of% @leV_rfl ∧ type_of% @leL_rfl ∧ type_of% @leV_int ∧ type_of% @leV_bool ∧ type_of% @leV_str ∧ type_of% @leV_oth ∧ type_of% @leV_sl ∧ type_of% @leV_agg ∧ type_of% @leV_box ∧ type_of% @leV_tup ∧ type_of% @leV_arr ∧ type_of% @leV_dptr ∧ type_of% @leV_vref ∧ type_of% @leV_vagg ∧ type_of% @leV_ptr ∧ type_of% @leL_nil ∧ type_of% @leL_cons ∧ type_of% @argsOk_some ∧ type_of% @bne_self_eq_false.{0} ∧ type_of% @Bool.not_eq_true ∧ type_of% @Bool.not_eq_false ∧ type_of% @bOk.eq_1 ∧ type_of% @mOk.eq_1 ∧ type_of% @notTup.eq_1 := ⟨@AV.str.injEq, @AV.sl.injEq, @AV.agg.injEq, @AV.arr.injEq, @AV.tup.injEq, @AV.box.injEq, @AV.vref.injEq, @AV.ptr.injEq, @AV.vagg.injEq, @AV.dptr.injEq, @wrap_i64, @wrap_u8, @ilt_t, @ilt_f, @ile_t, @ile_f, @nlt_t, @nlt_f, @nle_t, @nle_f, @ibeq_t, @ibeq_f, @ibne_t, @ibne_f, @getD_map', @get_map', @gt_iff_lt.{0}, @ge_iff_le.{0}, @List.length_map.{0,0}, @Int.natCast_add, @Int.natCast_one, @Int.natCast_zero, @Int.toNat_natCast_add_one, @Nat.sub_self, @List.take_length.{0}, @List.drop_length.{0}, @Nat.sub_zero, @Nat.add_zero, @Nat.zero_add, @Int.add_zero, @Int.zero_add, @Int.mul_zero, @Int.sub_zero, @cond_not, @guard_not, @guardD_not, @Bool.true_beq, @Bool.false_beq, @run_regionT, @run_drawT, @lapp_nil, @lapp_cons, @noAim.eq_1, @noAim.eq_2, @leW_t, @leW_f, @leV_rfl, @leL_rfl, @leV_int, @leV_bool, @leV_str, @leV_oth, @leV_sl, @leV_agg, @leV_box, @leV_tup, @leV_arr, @leV_dptr, @leV_vref, @leV_vagg, @leV_ptr, @leL_nil, @leL_cons, @argsOk_some, @bne_self_eq_false.{0}, @Bool.not_eq_true, @Bool.not_eq_false, @bOk.eq_1, @mOk.eq_1, @notTup.eq_1⟩
theorem am8 : type_of% @notTup.eq_2 ∧ type_of% @valL.eq_1 ∧ type_of% @valL.eq_2 ∧ type_of% @lw_nil ∧ type_of% @lw_move ∧ type_of% @lw_load ∧ type_of% @lw_fieldAddr ∧ type_of% @lw_indexAddr ∧ type_of% @lw_store ∧ type_of% @lS_eq ∧ type_of% @la_nil ∧ type_of% @la_cons ∧ type_of% @lk_move ∧ type_of% @lk_load ∧ type_of% @lk_fieldAddr ∧ type_of% @lk_indexAddr ∧ type_of% @sa_eq ∧ type_of% @rg_int ∧ type_of% @rg_bool ∧ type_of% @rg_vref ∧ type_of% @rg_ptr ∧ type_of% @Nat.one_mul ∧ type_of% @Nat.mul_one ∧ type_of% @lw_assign ∧ type_of% @lw_binOp ∧ type_of% @lw_unOp ∧ type_of% @lw_pick ∧ type_of% @lw_index ∧ type_of% @lk_binOp ∧ type_of% @lk_unOp ∧ type_of% @lk_pick ∧ type_of% @lk_index ∧ type_of% @rg_arr ∧ type_of% @rg_agg ∧ type_of% @rg_str ∧ type_of% @rl_nil ∧ type_of% @rl_cons ∧ type_of% @rc_int ∧ type_of% @rc_bool ∧ type_of% @rc_str ∧ type_of% @rc_arr ∧ type_of% @rc_agg ∧ type_of% @dk_nil ∧ type_of% @dk_none ∧ type_of% @dk_some ∧ type_of% @gk_tt ∧ type_of% @gk_ff ∧ type_of% @gk_tf ∧ type_of% @gk_ft ∧ type_of% @gk_skip ∧ type_of% @oa_some ∧ type_of% @oa_none ∧ type_of% @toNat_0 ∧ type_of% @toNat_1 ∧ type_of% @chk_convert ∧ type_of% @chkA1_t ∧ type_of% @chkA1_f ∧ type_of% @kk_14 ∧ type_of% @kk_55 ∧ type_of% @kk_41 ∧ type_of% @nilW.eq_1 ∧ type_of% @op_nil ∧ type_of% @chk_nil ∧ type_of% @lw_nilC ∧ type_of% @lk_nilC ∧ type_of% @mv_int ∧ type_of% @mv_bool ∧ type_of% @mv_str ∧ type_of% @mv_oth ∧ type_of% @mv_sl ∧ type_of% @mv_agg ∧ type_of% @mv_arr ∧ type_of% @mv_box ∧ type_of% @mv_dptr ∧ type_of% @mv_vref ∧ type_of% @mv_vagg ∧ type_of% @mv_vsub ∧ type_of% @mv_ptr ∧ type_of% @mv_tup ∧ type_of% @vOk.eq_1 := ⟨@notTup.eq_2, @valL.eq_1, @valL.eq_2, @lw_nil, @lw_move, @lw_load, @lw_fieldAddr, @lw_indexAddr, @lw_store, @lS_eq, @la_nil, @la_cons, @lk_move, @lk_load, @lk_fieldAddr, @lk_indexAddr, @sa_eq, @rg_int, @rg_bool, @rg_vref, @rg_ptr, @Nat.one_mul, @Nat.mul_one, @lw_assign, @lw_binOp, @lw_unOp, @lw_pick, @lw_index, @lk_binOp, @lk_unOp, @lk_pick, @lk_index, @rg_arr, @rg_agg, @rg_str, @rl_nil, @rl_cons, @rc_int, @rc_bool, @rc_str, @rc_arr, @rc_agg, @dk_nil, @dk_none, @dk_some, @gk_tt, @gk_ff, @gk_tf, @gk_ft, @gk_skip, @oa_some, @oa_none, @toNat_0, @toNat_1, @chk_convert, @chkA1_t, @chkA1_f, @kk_14, @kk_55, @kk_41, @nilW.eq_1, @op_nil, @chk_nil, @lw_nilC, @lk_nilC, @mv_int, @mv_bool, @mv_str, @mv_oth, @mv_sl, @mv_agg, @mv_arr, @mv_box, @mv_dptr, @mv_vref, @mv_vagg, @mv_vsub, @mv_ptr, @mv_tup, @vOk.eq_1⟩
theorem am9 : type_of% @lw_append ∧ type_of% @lEnd_eq ∧ type_of% @mx_nil ∧ type_of% @mx_none ∧ type_of% @mx_some ∧ type_of% @mx_call ∧ type_of% @mx_app ∧ type_of% @gOk.eq_1 ∧ type_of% @MApp.eq_1 ∧ type_of% @mapp_1 ∧ type_of% @Option.isSome_some.{0} ∧ type_of% @isBox.eq_1 ∧ type_of% @isBox.eq_2 ∧ type_of% @kEnd.eq_1 := ⟨@lw_append, @lEnd_eq, @mx_nil, @mx_none, @mx_some, @mx_call, @mx_app, @gOk.eq_1, @MApp.eq_1, @mapp_1, @Option.isSome_some.{0}, @isBox.eq_1, @isBox.eq_2, @kEnd.eq_1⟩
end Go.Proofs.Ytonljcfflamccaa.Am
