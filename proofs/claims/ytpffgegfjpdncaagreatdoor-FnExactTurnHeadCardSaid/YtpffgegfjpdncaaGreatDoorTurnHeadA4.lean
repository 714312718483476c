/- What the operations of a Go program bring about on values without memory, proved once for any program: part 4. No conditions beyond those at each theorem. -/
import Derived.Test.YtpffgegfjpdncaaGreatDoorTurnHeadA3
namespace Go.Proofs.YtpffgegfjpdncaaGreatDoor.Am
open Go.RowKit AV
set_option linter.unusedVariables false
def valL (σ : St) : List Operand → Bool
 | [] => true
 | x :: r => isVal σ x && valL σ r
theorem valL_eq (σ : St) : ∀ xs : List Operand, valL σ xs = valOnly σ xs
 | [] => rfl
 | x :: r => by
  have := valL_eq σ r
  simp only [valL, this]
  rfl
def bOk (σ : St) (xs : List Operand) (d : Tmp) (args : List AV) (res : AV) (K : St → Prop) : Prop := argsOk (argsOf σ xs) args ∧ (if closed res = true then True else valL σ xs = true) ∧ res.target = none ∧ K (put σ d res [])
theorem bOk_or {σ : St} {xs : List Operand} {res : AV} (h : if closed res = true then True else valL σ xs = true) : closed res = true ∨ valOnly σ xs = true := by
 rw [valL_eq] at h
 by_cases hc : closed res = true
 ·exact .inl hc
 ·rw [if_neg hc] at h; exact .inr h
def notTup : AV → Bool
 | .tup _ => false
 | _ => true
def mOk (σ : St) (xs : List Operand) (i : Nat) (dst : Option Tmp) (args : List AV) (res : AV) (outs : List AV) (K : St → Prop) : Prop :=
 match xs[i]? with
 | some x => (match homeOf σ x with
  | some (s, p, y) => (match outs[i]? with
   | some y' => argsOk (argsM σ s i y 0 xs) args ∧ y'.isAgg = y.isAgg ∧ ncells y' = ncells y ∧ y'.target = none ∧ notTup y' = true ∧ (if (closed res && closed y') = true then True else othersVal σ i 0 xs = true) ∧ res.target = none ∧ dst ≠ some s ∧ K (upd σ (newsOf dst res s (setAt (look σ s) p y')))
   | none => False)
  | none => False)
 | none => False
def gOk (σ : St) (sl : Nat) (xs : List Operand) (i : Nat) (dst : Option Tmp) (args : List AV) (res : AV) (outs : List AV) (K : St → Prop) : Prop :=
 match xs[i]? with
 | some x => (match homeOf σ x with
  | some (s, p, y) => (match outs[i]? with
   | some y' => s = sl ∧ (setAt (look σ s) p y').target = none ∧ dst.isSome = true ∧ argsOk (argsM σ s i y 0 xs) args ∧ y'.isAgg = y.isAgg ∧ ncells y' = ncells y ∧ y'.target = none ∧ notTup y' = true ∧ (if (closed res && closed y') = true then True else othersVal σ i 0 xs = true) ∧ res.target = none ∧ dst ≠ some s ∧ K (upd σ (newsOf dst res s (setAt (look σ s) p y')))
   | none => False)
  | none => False)
 | none => False
section
variable {P : Program} {K : St → Prop} {f : FuncId} {xs : List Operand} {d : Tmp} {dst : Option Tmp} {σ : St} {args : List AV} {res : AV} {outs : List AV}
theorem callL (F : Fits P f args res outs) (h : bOk σ xs d args res K) : CallL P f xs (some d) σ K := call_of F h.1 (bOk_or h.2.1) h.2.2.1 h.2.2.2
theorem callB (F : Fits P f args res outs) (h : bOk σ xs d args res K) : CallB P f xs (some d) σ K := callb_of F h.1 (bOk_or h.2.1) h.2.2.1 h.2.2.2
theorem callF (L : List (Nat × List Nat)) (F : Fits P f args res outs) (h : bOk (frzs σ L) xs d args res K) : CallB P f xs (some d) σ K := callf_of L F h.1 (bOk_or h.2.1) h.2.2.1 h.2.2.2
theorem callMF (L : List (Nat × List Nat)) (i : Nat) (F : Fits P f args res outs) (h : mOk (frzs σ L) xs i dst args res outs K) : CallB P f xs dst σ K := by
 unfold mOk at h
 split at h
 ·rename_i x hx
  split at h
  ·rename_i s p y hh
   split at h
   ·rename_i y' ho
    obtain ⟨h1, h2, h3, h4, h5, h6, h7, h8, h9⟩ := h
    exact callmf_of L i F hx hh h1 ho ⟨h2, h3, h4, fun l e => by subst e; simp [notTup] at h5⟩ (by
     by_cases hc : (closed res && closed y') = true
     ·exact .inl (by simpa using hc)
     ·rw [if_neg hc] at h6; exact .inr h6) h7 h8 h9
   ·exact h.elim
  ·exact h.elim
 ·exact h.elim
theorem mstep_of (i : Nat) {sl : Nat} (F : Fits P f args res outs) (h : gOk σ sl xs i dst args res outs K) : MStep P sl f xs dst σ K := by
 unfold gOk at h
 split at h
 ·rename_i x hx
  split at h
  ·rename_i s p y hh
   split at h
   ·rename_i y' ho
    obtain ⟨rfl, h10, h11, h1, h2, h3, h4, h5, h6, h7, h8, h9⟩ := h
    obtain ⟨args0, e1, e2⟩ := argsOk_iff.1 h1
    refine ⟨i, x, p, y, y', args0, args, res, outs, F, hx, hh, e1, e2, ho, ⟨h2, h3, h4, fun l e => by subst e; simp [notTup] at h5⟩, ?_, h7, h8, h10, h11, h9⟩
    by_cases hc : (closed res && closed y') = true
    ·exact .inl (by simpa using hc)
    ·rw [if_neg hc] at h6; exact .inr h6
   ·exact h.elim
  ·exact h.elim
 ·exact h.elim
theorem callG (i : Nat) {sl : Nat} (F : Fits P f args res outs) (h : gOk σ sl xs i dst args res outs K) : MStepG P [sl] f xs dst σ K := ⟨[sl], fun _ h => h, .inl ⟨sl, rfl, mstep_of i F h⟩⟩
theorem callM (i : Nat) (F : Fits P f args res outs) (h : mOk σ xs i dst args res outs K) : CallB P f xs dst σ K := callMF [] i F h
end
def cvt (a b : Nat) (P : Program) (σ : St) (s t : TypeId) (x : Operand) (d : Option Tmp) (K : St → Prop) : Prop := match a, b, d with
 | 4, 1, some d => strBytesW P σ s t x d K
 | 1, 4, d => bytesStrW P σ s t x (pureK σ d K)
 | 5, 5, d => convW P σ s t x (pureK σ d K)
 | _, _, _ => False
section
variable (P : Program) (σ : St) (s t : TypeId) (x : Operand) (K : St → Prop)
theorem convertW_cvt (d : Option Tmp) : convertW P σ s t x d K = cvt (tinfo P s).kind (tinfo P t).kind P σ s t x d K := rfl
theorem cvt_14 (d : Option Tmp) : cvt 1 4 P σ s t x d K = bytesStrW P σ s t x (pureK σ d K) := rfl
theorem cvt_55 (d : Option Tmp) : cvt 5 5 P σ s t x d K = convW P σ s t x (pureK σ d K) := rfl
end
theorem oa_some (x : Operand) : (some x).toArray.toList = [x] := rfl
theorem oa_none : (none : Option Operand).toArray.toList = [] := rfl
theorem toNat_0 : Int.toNat 0 = 0 := rfl
theorem toNat_1 : Int.toNat 1 = 1 := rfl
theorem wrap_i64 {x : Int} (h1 : -9223372036854775808 ≤ x) (h2 : x ≤ 9223372036854775807) : IntKind.wrap .i64 x = x := by
 simp [IntKind.wrap, IntKind.bits, IntKind.signed]; omega
theorem ilt_t {a b : Int} (h : a < b) : (a < b) = True := eq_true h
theorem ilt_f {a b : Int} (h : b ≤ a) : (a < b) = False := eq_false (by omega)
theorem ile_t {a b : Int} (h : a ≤ b) : (a ≤ b) = True := eq_true h
theorem ile_f {a b : Int} (h : b < a) : (a ≤ b) = False := eq_false (by omega)
theorem nlt_t {a b : Nat} (h : a < b) : (a < b) = True := eq_true h
theorem nle_t {a b : Nat} (h : a ≤ b) : (a ≤ b) = True := eq_true h
theorem ibeq_t {a b : Int} (h : a = b) : (a == b) = true := by simp [h]
theorem ibeq_f {a b : Int} (h : a ≠ b) : (a == b) = false := by simp [h]
theorem ibne_t {a b : Int} (h : a ≠ b) : (a != b) = true := by simp [h]
theorem ibne_f {a b : Int} (h : a = b) : (a != b) = false := by simp [h]
theorem getD_map' {α : Type} (f : α → AV) (xs : List α) (i : Nat) (h : i < xs.length) : (xs.map f).getD i .undef = f xs[i] := by simp [List.getD, h]
theorem get_map' {α : Type} (f : α → AV) (xs : List α) (i : Nat) (h : i < xs.length) : (xs.map f)[i]? = some (f xs[i]) := by simp [h]
section
variable {P : Program} {cw : CW} {vars : List Nat} {Q : Post} {p : Prop} [Decidable p] {x y : Code} {σ : St} {k : List It} {t : Bool} {a b : Int} {o : Oper} {all l : List Oper} {ds : List Nat} {want : Bool}
theorem cond_dec (h1 : p → condR P cw vars Q (.bool true) x y k σ) (h2 : ¬ p → condR P cw vars Q (.bool false) x y k σ) : condR P cw vars Q (.bool (decide p)) x y k σ := by
 by_cases h : p
 ·simpa [h] using h1 h
 ·simpa [h] using h2 h
theorem cond_beq (h1 : a = b → condR P cw vars Q (.bool true) x y k σ) (h2 : a ≠ b → condR P cw vars Q (.bool false) x y k σ) : condR P cw vars Q (.bool (a == b)) x y k σ := by
 by_cases h : a = b
 ·simpa [h] using h1 h
 ·rw [show (a == b) = false by simp [h]]; exact h2 h
theorem cond_bne (h1 : a ≠ b → condR P cw vars Q (.bool true) x y k σ) (h2 : a = b → condR P cw vars Q (.bool false) x y k σ) : condR P cw vars Q (.bool (a != b)) x y k σ := by
 by_cases h : a = b
 ·simpa [h] using h2 h
 ·rw [show (a != b) = true by simp [h]]; exact h1 h
theorem cond_of (h1 : t = true → condR P cw vars Q (.bool true) x y k σ) (h2 : t = false → condR P cw vars Q (.bool false) x y k σ) : condR P cw vars Q (.bool t) x y k σ := by
 cases t
 ·exact h2 rfl
 ·exact h1 rfl
theorem guard_dec (h1 : p → guardR P cw vars Q (.bool true) want o all l k σ) (h2 : ¬ p → guardR P cw vars Q (.bool false) want o all l k σ) : guardR P cw vars Q (.bool (decide p)) want o all l k σ := by
 by_cases h : p
 ·simpa [h] using h1 h
 ·simpa [h] using h2 h
theorem guard_beq (h1 : a = b → guardR P cw vars Q (.bool true) want o all l k σ) (h2 : a ≠ b → guardR P cw vars Q (.bool false) want o all l k σ) : guardR P cw vars Q (.bool (a == b)) want o all l k σ := by
 by_cases h : a = b
 ·simpa [h] using h1 h
 ·rw [show (a == b) = false by simp [h]]; exact h2 h
theorem guard_bne (h1 : a ≠ b → guardR P cw vars Q (.bool true) want o all l k σ) (h2 : a = b → guardR P cw vars Q (.bool false) want o all l k σ) : guardR P cw vars Q (.bool (a != b)) want o all l k σ := by
 by_cases h : a = b
 ·simpa [h] using h2 h
 ·rw [show (a != b) = true by simp [h]]; exact h1 h
theorem guard_of (h1 : t = true → guardR P cw vars Q (.bool true) want o all l k σ) (h2 : t = false → guardR P cw vars Q (.bool false) want o all l k σ) : guardR P cw vars Q (.bool t) want o all l k σ := by
 cases t
 ·exact h2 rfl
 ·exact h1 rfl
theorem guardD_dec (h1 : p → guardD P cw vars Q (.bool true) want o all ds l k σ) (h2 : ¬ p → guardD P cw vars Q (.bool false) want o all ds l k σ) : guardD P cw vars Q (.bool (decide p)) want o all ds l k σ := by
 by_cases h : p
 ·simpa [h] using h1 h
 ·simpa [h] using h2 h
theorem guardD_beq (h1 : a = b → guardD P cw vars Q (.bool true) want o all ds l k σ) (h2 : a ≠ b → guardD P cw vars Q (.bool false) want o all ds l k σ) : guardD P cw vars Q (.bool (a == b)) want o all ds l k σ := by
 by_cases h : a = b
 ·simpa [h] using h1 h
 ·rw [show (a == b) = false by simp [h]]; exact h2 h
theorem guardD_bne (h1 : a ≠ b → guardD P cw vars Q (.bool true) want o all ds l k σ) (h2 : a = b → guardD P cw vars Q (.bool false) want o all ds l k σ) : guardD P cw vars Q (.bool (a != b)) want o all ds l k σ := by
 by_cases h : a = b
 ·simpa [h] using h2 h
 ·rw [show (a != b) = true by simp [h]]; exact h1 h
theorem guardD_of (h1 : t = true → guardD P cw vars Q (.bool true) want o all ds l k σ) (h2 : t = false → guardD P cw vars Q (.bool false) want o all ds l k σ) : guardD P cw vars Q (.bool t) want o all ds l k σ := by
 cases t
 ·exact h2 rfl
 ·exact h1 rfl
end
theorem fits_shared {P : Program} {f : FuncId} {args : List AV} {res : AV} (h : Fits P f args res []) : Fits P f args (erase res) [] := by
 obtain ⟨h1, h2⟩ := h
 refine ⟨h1, fun w vs ok O hall hrep hly => Calls.mono (h2 w vs ok O hall hrep hly) ?_⟩
 rintro e w' ⟨v, Or, Oo, e1, e2, e3, e4, e5, e6, e7, e8, e9, e10⟩
 have hi := e5
 refine ⟨v, fun _ => False, Oo, e1, e2, e3, e4, e5, e6, ?_, ?_, fun _ hk => hk.elim, fun k hk => e10 k (hk.elim (fun x => x.elim) .inr)⟩
 ·refine repW_erase _ e7 (fun k hk => ⟨hk.1, fun x => x, hk.2.2⟩) (fun k hk => ⟨?_, fun x => x, e9 k hk⟩)
  rcases e10 k (.inl hk) with h3 | h3
  ·exact hall k (.inl h3)
  ·exact hall k (.inr h3)
 ·simp only [RepWs] at e8 ⊢
  exact e8
section
variable {P : Program} {σ : St} {t : TypeId} {m k v : Operand} {okB : Bool}
theorem lk_yes {K : AV → Prop} (s : Nat) (kvs : List AV) (ka : AV) (kt et : TypeId) (kd : TypeDesc) (j : Nat) (va : AV) (h1 : P.underlying t = some (.map kt et)) (h2 : P.underlying kt = some kd) (hk : kvKeys ka kvs) (ha : kvAt ka va kvs j)
  (h : mapOf σ m = some (s, kvs) ∧ ev σ k = ka ∧ mapKey kd ka = true ∧ va.target = none ∧ K (if okB = true then .tup [va, .bool true] else va)) : lookupW P σ t m k okB K := by
 obtain ⟨a, rfl, b, c, d⟩ := h
 exact ⟨s, kvs, et, kd, a, ⟨kt, h1, h2, b, hk⟩, .inl ⟨j, va, ha, c, d⟩⟩
theorem lk_no {K : AV → Prop} (s : Nat) (kvs : List AV) (ka : AV) (kt et : TypeId) (kd : TypeDesc) (h1 : P.underlying t = some (.map kt et)) (h2 : P.underlying kt = some kd) (hz : zvOk P et = true) (hk : kvKeys ka kvs) (ha : kvNo ka kvs)
  (h : mapOf σ m = some (s, kvs) ∧ ev σ k = ka ∧ mapKey kd ka = true ∧ (tinfo P et).zok = true ∧ (tinfo P et).zero.target = none ∧ K (if okB = true then .tup [(tinfo P et).zero, .bool false] else (tinfo P et).zero)) : lookupW P σ t m k okB K := by
 obtain ⟨a, rfl, b, c, e, d⟩ := h
 exact ⟨s, kvs, et, kd, a, ⟨kt, h1, h2, b, hk⟩, .inr ⟨ha, c, hz, e, d⟩⟩
theorem mu_new {K : St → Prop} (s : Nat) (kvs : List AV) (ka va : AV) (kt et : TypeId) (kd : TypeDesc) (h1 : P.underlying t = some (.map kt et)) (h2 : P.underlying kt = some kd) (hk : kvKeys ka kvs) (ha : kvNo ka kvs)
  (h : mapOf σ m = some (s, kvs) ∧ ev σ k = ka ∧ ev σ v = va ∧ mapKey kd ka = true ∧ plain va = true ∧ va.stor = true ∧ K (put σ s (.mp (kvs ++ [.agg [ka, va]])) [s])) : mapUpdateW P σ t m k v K := by
 obtain ⟨a, rfl, rfl, b, c, e, d⟩ := h
 exact ⟨s, kvs, et, kd, a, ⟨kt, h1, h2, b, hk⟩, c, e, .inr ⟨ha, d⟩⟩
theorem mu_old {K : St → Prop} (s : Nat) (kvs : List AV) (ka va : AV) (kt et : TypeId) (kd : TypeDesc) (j : Nat) (v0 : AV) (h1 : P.underlying t = some (.map kt et)) (h2 : P.underlying kt = some kd) (hk : kvKeys ka kvs) (ha : kvAt ka v0 kvs j)
  (h : mapOf σ m = some (s, kvs) ∧ ev σ k = ka ∧ ev σ v = va ∧ mapKey kd ka = true ∧ plain va = true ∧ va.stor = true ∧ K (put σ s (.mp (kvs.set j (.agg [ka, va]))) [s])) : mapUpdateW P σ t m k v K := by
 obtain ⟨a, rfl, rfl, b, c, e, d⟩ := h
 exact ⟨s, kvs, et, kd, a, ⟨kt, h1, h2, b, hk⟩, c, e, .inl ⟨j, v0, ha, d⟩⟩
end
end Go.Proofs.YtpffgegfjpdncaaGreatDoor.Am
namespace Go.Proofs.YtpffgegfjpdncaaGreatDoor.Am
open Go.RowKit AV
set_option linter.unusedVariables false
theorem am0 : type_of% @run_draw ∧ type_of% @run_drw ∧ type_of% @drw_none ∧ type_of% @drw_some ∧ type_of% @gd_tt ∧ type_of% @gd_ff ∧ type_of% @gd_tf ∧ type_of% @gd_ft ∧ type_of% @gd_skip ∧ type_of% @chk_move ∧ type_of% @chk_pick ∧ type_of% @chk_load ∧ type_of% @chk_binOp ∧ type_of% @chk_unOp ∧ type_of% @chk_fieldAddr ∧ type_of% @chk_indexAddr ∧ type_of% @chk_slice ∧ type_of% @chk_len ∧ type_of% @chk_fn ∧ type_of% @chk_alloc ∧ type_of% @chk_assign ∧ type_of% @chk_build ∧ type_of% @chk_buildSlice ∧ type_of% @chk_store ∧ type_of% @chk_append ∧ type_of% @chkA_t ∧ type_of% @chkA_f ∧ type_of% @madeIn_tmp ∧ type_of% @madeL.eq_1 ∧ type_of% @madeL.eq_2 ∧ type_of% @dq.eq_1 ∧ type_of% @dq.eq_2 ∧ type_of% @isMk.eq_1 ∧ type_of% @isMk.eq_3 ∧ type_of% @isMk.eq_4 ∧ type_of% @isMk.eq_5 ∧ type_of% @tmpsOf.eq_1 ∧ type_of% @tmpsOf.eq_2 ∧ type_of% @tmpsOf.eq_3 ∧ type_of% @looks_none ∧ type_of% @looks_some ∧ type_of% @gtmp_some ∧ type_of% @check1_eq ∧ type_of% @check0_eq ∧ type_of% @c0_int ∧ type_of% @c0_sl ∧ type_of% @c0_agg ∧ type_of% @ck_int ∧ type_of% @ck_bool ∧ type_of% @ck_sl ∧ type_of% @ck_agg ∧ type_of% @ck_tup ∧ type_of% @ck_box ∧ type_of% @ck_dptr ∧ type_of% @ck_vref ∧ type_of% @ck_vagg ∧ type_of% @ck_ptr ∧ type_of% @ct_sl ∧ type_of% @ct_box ∧ type_of% @Op.operands.eq_1 ∧ type_of% @Op.operands.eq_4 ∧ type_of% @Op.operands.eq_5 ∧ type_of% @Op.operands.eq_7 ∧ type_of% @Op.operands.eq_9 ∧ type_of% @Op.operands.eq_14 ∧ type_of% @Op.operands.eq_23 ∧ type_of% @Op.operands.eq_24 ∧ type_of% @Op.operands.eq_25 ∧ type_of% @Op.operands.eq_26 ∧ type_of% @Op.operands.eq_27 ∧ type_of% @Op.operands.eq_29 ∧ type_of% @Op.operands.eq_36 ∧ type_of% @Op.operands.eq_40 ∧ type_of% @Call.operands.eq_1 ∧ type_of% @List.all_cons.{0} ∧ type_of% @List.all_nil.{0} ∧ type_of% @Bool.and_true ∧ type_of% @Bool.true_and ∧ type_of% @List.filterMap_cons.{0,0} ∧ type_of% @List.filterMap_nil.{0,0} := ⟨@run_draw, @run_drw, @drw_none, @drw_some, @gd_tt, @gd_ff, @gd_tf, @gd_ft, @gd_skip, @chk_move, @chk_pick, @chk_load, @chk_binOp, @chk_unOp, @chk_fieldAddr, @chk_indexAddr, @chk_slice, @chk_len, @chk_fn, @chk_alloc, @chk_assign, @chk_build, @chk_buildSlice, @chk_store, @chk_append, @chkA_t, @chkA_f, @madeIn_tmp, @madeL.eq_1, @madeL.eq_2, @dq.eq_1, @dq.eq_2, @isMk.eq_1, @isMk.eq_3, @isMk.eq_4, @isMk.eq_5, @tmpsOf.eq_1, @tmpsOf.eq_2, @tmpsOf.eq_3, @looks_none, @looks_some, @gtmp_some, @check1_eq, @check0_eq, @c0_int, @c0_sl, @c0_agg, @ck_int, @ck_bool, @ck_sl, @ck_agg, @ck_tup, @ck_box, @ck_dptr, @ck_vref, @ck_vagg, @ck_ptr, @ct_sl, @ct_box, @Op.operands.eq_1, @Op.operands.eq_4, @Op.operands.eq_5, @Op.operands.eq_7, @Op.operands.eq_9, @Op.operands.eq_14, @Op.operands.eq_23, @Op.operands.eq_24, @Op.operands.eq_25, @Op.operands.eq_26, @Op.operands.eq_27, @Op.operands.eq_29, @Op.operands.eq_36, @Op.operands.eq_40, @Call.operands.eq_1, @List.all_cons.{0}, @List.all_nil.{0}, @Bool.and_true, @Bool.true_and, @List.filterMap_cons.{0,0}, @List.filterMap_nil.{0,0}⟩
theorem am1 : type_of% @Array.toList_append.{0} ∧ type_of% @run_nil ∧ type_of% @run_skip ∧ type_of% @run_seq ∧ type_of% @run_region ∧ type_of% @run_ops ∧ type_of% @run_cond ∧ type_of% @cond_t ∧ type_of% @cond_f ∧ type_of% @run_block ∧ type_of% @run_blk ∧ type_of% @run_exit ∧ type_of% @kx_nil ∧ type_of% @kx_code ∧ type_of% @kx_blk ∧ type_of% @run_ret ∧ type_of% @kr_code ∧ type_of% @kr_blk ∧ type_of% @ops_none ∧ type_of% @ops_some ∧ type_of% @guard_tt ∧ type_of% @guard_ff ∧ type_of% @guard_tf ∧ type_of% @guard_ft ∧ type_of% @guard_skip ∧ type_of% @gslot_some ∧ type_of% @retQ_ret ∧ type_of% @endQ_ret ∧ type_of% @plainL.eq_1 ∧ type_of% @plainL.eq_2 ∧ type_of% @ncellsL.eq_1 ∧ type_of% @ncellsL.eq_2 ∧ type_of% @allocW.eq_1 ∧ type_of% @boxW.eq_1 ∧ type_of% @makeW.eq_1 ∧ type_of% @List.length_cons.{0} ∧ type_of% @List.take_zero.{0} ∧ type_of% @List.take_succ_cons.{0} ∧ type_of% @List.set_cons_zero.{0} ∧ type_of% @List.set_cons_succ.{0} ∧ type_of% @Nat.lt_add_one ∧ type_of% @List.getD_cons_zero.{0} ∧ type_of% @List.getD_cons_succ.{0} ∧ type_of% @initGo.eq_1 ∧ type_of% @initGo.eq_2 ∧ type_of% @op_move ∧ type_of% @op_assign ∧ type_of% @op_pick ∧ type_of% @op_alloc ∧ type_of% @op_box ∧ type_of% @op_build ∧ type_of% @op_buildSlice ∧ type_of% @op_load ∧ type_of% @op_store ∧ type_of% @op_binOp ∧ type_of% @op_unOp ∧ type_of% @op_convert ∧ type_of% @op_makeSlice ∧ type_of% @op_slice ∧ type_of% @op_fieldAddr ∧ type_of% @op_indexAddr ∧ type_of% @op_index ∧ type_of% @op_extract ∧ type_of% @op_len ∧ type_of% @op_append ∧ type_of% @op_call ∧ type_of% @skip_some ∧ type_of% @moveW.eq_1 ∧ type_of% @srcOf.eq_1 ∧ type_of% @assignW.eq_1 ∧ type_of% @ev.eq_1 ∧ type_of% @ev.eq_2 ∧ type_of% @constV.eq_1 ∧ type_of% @constV.eq_2 ∧ type_of% @constV.eq_3 ∧ type_of% @constV.eq_4 ∧ type_of% @pull.eq_1 ∧ type_of% @pull.eq_2 ∧ type_of% @pulls.eq_1 ∧ type_of% @usedOf.eq_1 := ⟨@Array.toList_append.{0}, @run_nil, @run_skip, @run_seq, @run_region, @run_ops, @run_cond, @cond_t, @cond_f, @run_block, @run_blk, @run_exit, @kx_nil, @kx_code, @kx_blk, @run_ret, @kr_code, @kr_blk, @ops_none, @ops_some, @guard_tt, @guard_ff, @guard_tf, @guard_ft, @guard_skip, @gslot_some, @retQ_ret, @endQ_ret, @plainL.eq_1, @plainL.eq_2, @ncellsL.eq_1, @ncellsL.eq_2, @allocW.eq_1, @boxW.eq_1, @makeW.eq_1, @List.length_cons.{0}, @List.take_zero.{0}, @List.take_succ_cons.{0}, @List.set_cons_zero.{0}, @List.set_cons_succ.{0}, @Nat.lt_add_one, @List.getD_cons_zero.{0}, @List.getD_cons_succ.{0}, @initGo.eq_1, @initGo.eq_2, @op_move, @op_assign, @op_pick, @op_alloc, @op_box, @op_build, @op_buildSlice, @op_load, @op_store, @op_binOp, @op_unOp, @op_convert, @op_makeSlice, @op_slice, @op_fieldAddr, @op_indexAddr, @op_index, @op_extract, @op_len, @op_append, @op_call, @skip_some, @moveW.eq_1, @srcOf.eq_1, @assignW.eq_1, @ev.eq_1, @ev.eq_2, @constV.eq_1, @constV.eq_2, @constV.eq_3, @constV.eq_4, @pull.eq_1, @pull.eq_2, @pulls.eq_1, @usedOf.eq_1⟩
theorem am2 : type_of% @usedOf.eq_2 ∧ type_of% @usedOf.eq_3 ∧ type_of% @look_put ∧ type_of% @look_upd ∧ type_of% @keys.eq_1 ∧ type_of% @keys.eq_2 ∧ type_of% @Am.look.eq_1 ∧ type_of% @Am.look.eq_2 ∧ type_of% @pu_undef ∧ type_of% @pu_int ∧ type_of% @pu_bool ∧ type_of% @pu_str ∧ type_of% @pu_sl ∧ type_of% @pu_agg ∧ type_of% @pu_arr ∧ type_of% @pu_tup ∧ type_of% @pu_box ∧ type_of% @pu_vref ∧ type_of% @pu_vagg ∧ type_of% @pu_vsub ∧ type_of% @kp_undef ∧ type_of% @kp_int ∧ type_of% @kp_bool ∧ type_of% @kp_str ∧ type_of% @kp_sl ∧ type_of% @kp_agg ∧ type_of% @kp_arr ∧ type_of% @kp_box ∧ type_of% @kp_vref ∧ type_of% @tidy.eq_1 ∧ type_of% @tidyGo.eq_1 ∧ type_of% @tidyGo.eq_2 ∧ type_of% @pureK_some ∧ type_of% @AV.target.eq_1 ∧ type_of% @AV.target.eq_2 ∧ type_of% @AV.target.eq_3 ∧ type_of% @AV.target.eq_4 ∧ type_of% @AV.target.eq_5 ∧ type_of% @plain.eq_3 ∧ type_of% @plain.eq_4 ∧ type_of% @plain.eq_5 ∧ type_of% @plain.eq_7 ∧ type_of% @plain.eq_8 ∧ type_of% @plain.eq_9 ∧ type_of% @plain.eq_10 ∧ type_of% @plain.eq_13 ∧ type_of% @plain.eq_14 ∧ type_of% @plain.eq_16 ∧ type_of% @needW_some ∧ type_of% @binA.eq_1 ∧ type_of% @binA.eq_2 ∧ type_of% @binA.eq_4 ∧ type_of% @and_self ∧ type_of% @intOp.eq_1 ∧ type_of% @intOp.eq_2 ∧ type_of% @intOp.eq_4 ∧ type_of% @intOp.eq_5 ∧ type_of% @intOp.eq_6 ∧ type_of% @intOp.eq_7 ∧ type_of% @intOp.eq_8 ∧ type_of% @intOp.eq_9 ∧ type_of% @intOp.eq_10 ∧ type_of% @intOp.eq_11 ∧ type_of% @strOp.eq_1 ∧ type_of% @strOp.eq_2 ∧ type_of% @strOp.eq_4 ∧ type_of% @unA.eq_1 ∧ type_of% @lenW.eq_1 ∧ type_of% @loadW.eq_1 ∧ type_of% @indexW.eq_1 ∧ type_of% @indexAddrW.eq_1 ∧ type_of% @fieldAddrW.eq_1 ∧ type_of% @sliceStrW.eq_1 ∧ type_of% @sliceStrW.eq_2 ∧ type_of% @pickW.eq_1 ∧ type_of% @storeW.eq_1 ∧ type_of% @convertW_cvt ∧ type_of% @cvt_14 ∧ type_of% @cvt_55 ∧ type_of% @convW.eq_1 := ⟨@usedOf.eq_2, @usedOf.eq_3, @look_put, @look_upd, @keys.eq_1, @keys.eq_2, @Am.look.eq_1, @Am.look.eq_2, @pu_undef, @pu_int, @pu_bool, @pu_str, @pu_sl, @pu_agg, @pu_arr, @pu_tup, @pu_box, @pu_vref, @pu_vagg, @pu_vsub, @kp_undef, @kp_int, @kp_bool, @kp_str, @kp_sl, @kp_agg, @kp_arr, @kp_box, @kp_vref, @tidy.eq_1, @tidyGo.eq_1, @tidyGo.eq_2, @pureK_some, @AV.target.eq_1, @AV.target.eq_2, @AV.target.eq_3, @AV.target.eq_4, @AV.target.eq_5, @plain.eq_3, @plain.eq_4, @plain.eq_5, @plain.eq_7, @plain.eq_8, @plain.eq_9, @plain.eq_10, @plain.eq_13, @plain.eq_14, @plain.eq_16, @needW_some, @binA.eq_1, @binA.eq_2, @binA.eq_4, @and_self, @intOp.eq_1, @intOp.eq_2, @intOp.eq_4, @intOp.eq_5, @intOp.eq_6, @intOp.eq_7, @intOp.eq_8, @intOp.eq_9, @intOp.eq_10, @intOp.eq_11, @strOp.eq_1, @strOp.eq_2, @strOp.eq_4, @unA.eq_1, @lenW.eq_1, @loadW.eq_1, @indexW.eq_1, @indexAddrW.eq_1, @fieldAddrW.eq_1, @sliceStrW.eq_1, @sliceStrW.eq_2, @pickW.eq_1, @storeW.eq_1, @convertW_cvt, @cvt_14, @cvt_55, @convW.eq_1⟩
theorem am3 : type_of% @bytesStrW.eq_1 ∧ type_of% @getAt.eq_1 ∧ type_of% @getAt.eq_2 ∧ type_of% @getAt.eq_3 ∧ type_of% @getAt.eq_4 ∧ type_of% @getAt.eq_5 ∧ type_of% @setAt.eq_1 ∧ type_of% @setAt.eq_2 ∧ type_of% @setAt.eq_3 ∧ type_of% @setAt.eq_4 ∧ type_of% @setAt.eq_5 ∧ type_of% @loaded.eq_3 ∧ type_of% @AV.hdr.eq_1 ∧ type_of% @AV.hdr.eq_2 ∧ type_of% @AV.hdr.eq_4 ∧ type_of% @AV.isAgg.eq_1 ∧ type_of% @AV.isAgg.eq_2 ∧ type_of% @AV.isAgg.eq_3 ∧ type_of% @AV.stor.eq_7 ∧ type_of% @ncells.eq_1 ∧ type_of% @ncells.eq_2 ∧ type_of% @ncells.eq_3 ∧ type_of% @List.foldl_cons.{0,0} ∧ type_of% @List.foldl_nil.{0,0} ∧ type_of% @List.mem_cons.{0} ∧ type_of% @List.not_mem_nil.{0} ∧ type_of% @List.contains_cons.{0} ∧ type_of% @List.contains_nil.{0} ∧ type_of% @or_false ∧ type_of% @false_or ∧ type_of% @or_true ∧ type_of% @true_or ∧ type_of% @or_self ∧ type_of% @and_true ∧ type_of% @true_and ∧ type_of% @and_false ∧ type_of% @false_and ∧ type_of% @ne_eq.{1} ∧ type_of% @not_false_eq_true ∧ type_of% @Option.some.injEq.{0} ∧ type_of% @Bool.or_true ∧ type_of% @Bool.false_and ∧ type_of% @Bool.and_false ∧ type_of% @Bool.and_self ∧ type_of% @Bool.or_false ∧ type_of% @Bool.not_true ∧ type_of% @Bool.not_false ∧ type_of% @beq_self_eq_true.{0} ∧ type_of% @List.getElem?_cons_zero.{0} ∧ type_of% @List.getElem?_cons_succ.{0} ∧ type_of% @List.toList_toArray.{0} ∧ type_of% @decide_true ∧ type_of% @decide_false ∧ type_of% @Bool.false_eq_true ∧ type_of% @Nat.zero_ne_one ∧ type_of% @Nat.one_ne_zero ∧ type_of% @List.length_nil.{0} ∧ type_of% @List.map_cons.{0,0} ∧ type_of% @List.map_nil.{0,0} ∧ type_of% @isU8.eq_1 ∧ type_of% @szOf_ti ∧ type_of% @List.nil_append.{0} ∧ type_of% @List.cons_append.{0} ∧ type_of% @Operand.tmp.injEq ∧ type_of% @Int.toNat_natCast ∧ type_of% @round_exit ∧ type_of% @round_ret ∧ type_of% @look_setP ∧ type_of% @keys_wipe ∧ type_of% @kP_undef ∧ type_of% @kP_int ∧ type_of% @kP_bool ∧ type_of% @kP_str ∧ type_of% @kP_sl ∧ type_of% @kP_agg ∧ type_of% @kP_arr ∧ type_of% @kP_box ∧ type_of% @kP_vref ∧ type_of% @preB_cn ∧ type_of% @op_callX := ⟨@bytesStrW.eq_1, @getAt.eq_1, @getAt.eq_2, @getAt.eq_3, @getAt.eq_4, @getAt.eq_5, @setAt.eq_1, @setAt.eq_2, @setAt.eq_3, @setAt.eq_4, @setAt.eq_5, @loaded.eq_3, @AV.hdr.eq_1, @AV.hdr.eq_2, @AV.hdr.eq_4, @AV.isAgg.eq_1, @AV.isAgg.eq_2, @AV.isAgg.eq_3, @AV.stor.eq_7, @ncells.eq_1, @ncells.eq_2, @ncells.eq_3, @List.foldl_cons.{0,0}, @List.foldl_nil.{0,0}, @List.mem_cons.{0}, @List.not_mem_nil.{0}, @List.contains_cons.{0}, @List.contains_nil.{0}, @or_false, @false_or, @or_true, @true_or, @or_self, @and_true, @true_and, @and_false, @false_and, @ne_eq.{1}, @not_false_eq_true, @Option.some.injEq.{0}, @Bool.or_true, @Bool.false_and, @Bool.and_false, @Bool.and_self, @Bool.or_false, @Bool.not_true, @Bool.not_false, @beq_self_eq_true.{0}, @List.getElem?_cons_zero.{0}, @List.getElem?_cons_succ.{0}, @List.toList_toArray.{0}, @decide_true, @decide_false, @Bool.false_eq_true, @Nat.zero_ne_one, @Nat.one_ne_zero, @List.length_nil.{0}, @List.map_cons.{0,0}, @List.map_nil.{0,0}, @isU8.eq_1, @szOf_ti, @List.nil_append.{0}, @List.cons_append.{0}, @Operand.tmp.injEq, @Int.toNat_natCast, @round_exit, @round_ret, @look_setP, @keys_wipe, @kP_undef, @kP_int, @kP_bool, @kP_str, @kP_sl, @kP_agg, @kP_arr, @kP_box, @kP_vref, @preB_cn, @op_callX⟩
theorem am4 : type_of% @op_copyX ∧ type_of% @newsOf_some ∧ type_of% @homeOf.eq_1 ∧ type_of% @argsM.eq_1 ∧ type_of% @argsM.eq_2 ∧ type_of% @isVal.eq_1 ∧ type_of% @lends.eq_1 ∧ type_of% @othersVal.eq_1 ∧ type_of% @othersVal.eq_2 ∧ type_of% @copyW.eq_1 ∧ type_of% @lentOf.eq_1 ∧ type_of% @closed.eq_1 ∧ type_of% @closed.eq_3 ∧ type_of% @closed.eq_4 ∧ type_of% @closed.eq_5 ∧ type_of% @closed.eq_6 ∧ type_of% @closed.eq_7 ∧ type_of% @closed.eq_8 ∧ type_of% @closed.eq_9 ∧ type_of% @closedL.eq_1 ∧ type_of% @closedL.eq_2 ∧ type_of% @argsOf.eq_1 ∧ type_of% @argsOf.eq_2 ∧ type_of% @argOf.eq_1 ∧ type_of% @frzs.eq_1 ∧ type_of% @frzs.eq_2 ∧ type_of% @frz.eq_1 ∧ type_of% @frz.eq_2 ∧ type_of% @ownP.eq_1 ∧ type_of% @ownP.eq_2 ∧ type_of% @ownP.eq_5 ∧ type_of% @erase.eq_1 ∧ type_of% @erase.eq_2 ∧ type_of% @erase.eq_7 ∧ type_of% @eraseL.eq_1 ∧ type_of% @eraseL.eq_2 ∧ type_of% @dead.eq_1 ∧ type_of% @dead.eq_2 ∧ type_of% @dead.eq_7 ∧ type_of% @deadL.eq_1 ∧ type_of% @deadL.eq_2 ∧ type_of% @retW.eq_1 ∧ type_of% @outsW.eq_1 ∧ type_of% @outsW.eq_2 ∧ type_of% @Le.eq_1 ∧ type_of% @leGo.eq_1 ∧ type_of% @leGo.eq_2 ∧ type_of% @aimIn.eq_1 ∧ type_of% @aimIn.eq_5 ∧ type_of% @List.drop_zero.{0} ∧ type_of% @List.drop_succ_cons.{0} ∧ type_of% @List.append_nil.{0} ∧ type_of% @List.length_append.{0} ∧ type_of% @List.nodup_nil.{0} ∧ type_of% @List.nodup_cons.{0} ∧ type_of% @appW.eq_1 ∧ type_of% @buildW.eq_1 ∧ type_of% @buildSliceW.eq_1 ∧ type_of% @partsFit.eq_1 ∧ type_of% @partsFit.eq_2 ∧ type_of% @elemsFit.eq_1 ∧ type_of% @elemsFit.eq_2 ∧ type_of% @setParts.eq_1 ∧ type_of% @setParts.eq_2 ∧ type_of% @appendW.eq_1 ∧ type_of% @appendMW.eq_1 ∧ type_of% @appFits.eq_1 ∧ type_of% @List.replicate_succ.{0} ∧ type_of% @List.replicate_zero.{0} ∧ type_of% @retC.eq_1 ∧ type_of% @wrap_i64 ∧ type_of% @ilt_t ∧ type_of% @ilt_f ∧ type_of% @ile_t ∧ type_of% @ile_f ∧ type_of% @nlt_t ∧ type_of% @nle_t ∧ type_of% @ibeq_t ∧ type_of% @ibeq_f ∧ type_of% @ibne_t := ⟨@op_copyX, @newsOf_some, @homeOf.eq_1, @argsM.eq_1, @argsM.eq_2, @isVal.eq_1, @lends.eq_1, @othersVal.eq_1, @othersVal.eq_2, @copyW.eq_1, @lentOf.eq_1, @closed.eq_1, @closed.eq_3, @closed.eq_4, @closed.eq_5, @closed.eq_6, @closed.eq_7, @closed.eq_8, @closed.eq_9, @closedL.eq_1, @closedL.eq_2, @argsOf.eq_1, @argsOf.eq_2, @argOf.eq_1, @frzs.eq_1, @frzs.eq_2, @frz.eq_1, @frz.eq_2, @ownP.eq_1, @ownP.eq_2, @ownP.eq_5, @erase.eq_1, @erase.eq_2, @erase.eq_7, @eraseL.eq_1, @eraseL.eq_2, @dead.eq_1, @dead.eq_2, @dead.eq_7, @deadL.eq_1, @deadL.eq_2, @retW.eq_1, @outsW.eq_1, @outsW.eq_2, @Le.eq_1, @leGo.eq_1, @leGo.eq_2, @aimIn.eq_1, @aimIn.eq_5, @List.drop_zero.{0}, @List.drop_succ_cons.{0}, @List.append_nil.{0}, @List.length_append.{0}, @List.nodup_nil.{0}, @List.nodup_cons.{0}, @appW.eq_1, @buildW.eq_1, @buildSliceW.eq_1, @partsFit.eq_1, @partsFit.eq_2, @elemsFit.eq_1, @elemsFit.eq_2, @setParts.eq_1, @setParts.eq_2, @appendW.eq_1, @appendMW.eq_1, @appFits.eq_1, @List.replicate_succ.{0}, @List.replicate_zero.{0}, @retC.eq_1, @wrap_i64, @ilt_t, @ilt_f, @ile_t, @ile_f, @nlt_t, @nle_t, @ibeq_t, @ibeq_f, @ibne_t⟩
theorem am5 : type_of% @ibne_f ∧ type_of% @getD_map' ∧ type_of% @get_map' ∧ type_of% @gt_iff_lt.{0} ∧ type_of% @ge_iff_le.{0} ∧ type_of% @List.length_map.{0,0} ∧ type_of% @Int.natCast_add ∧ type_of% @Int.natCast_one ∧ type_of% @Int.natCast_zero ∧ type_of% @Nat.sub_self ∧ type_of% @List.take_length.{0} ∧ type_of% @List.drop_length.{0} ∧ type_of% @Nat.sub_zero ∧ type_of% @Nat.add_zero ∧ type_of% @Nat.zero_add ∧ type_of% @Int.add_zero ∧ type_of% @Int.zero_add ∧ type_of% @Int.mul_zero ∧ type_of% @Int.sub_zero ∧ type_of% @noAim.eq_1 ∧ type_of% @noAim.eq_2 ∧ type_of% @leW_t ∧ type_of% @leW_f ∧ type_of% @leV_rfl ∧ type_of% @leL_rfl ∧ type_of% @leV_int ∧ type_of% @leV_bool ∧ type_of% @leV_str ∧ type_of% @leV_sl ∧ type_of% @leL_cons ∧ type_of% @argsOk_some ∧ type_of% @bne_self_eq_false.{0} ∧ type_of% @bOk.eq_1 ∧ type_of% @mOk.eq_1 ∧ type_of% @notTup.eq_2 ∧ type_of% @valL.eq_1 ∧ type_of% @valL.eq_2 ∧ type_of% @lw_nil ∧ type_of% @lS_eq ∧ type_of% @la_nil ∧ type_of% @Nat.one_mul ∧ type_of% @Nat.mul_one ∧ type_of% @lw_assign ∧ type_of% @dk_nil ∧ type_of% @dk_none ∧ type_of% @oa_some ∧ type_of% @oa_none ∧ type_of% @toNat_0 ∧ type_of% @toNat_1 ∧ type_of% @mv_int ∧ type_of% @mv_bool ∧ type_of% @mv_str ∧ type_of% @mv_sl ∧ type_of% @mv_tup ∧ type_of% @vOk.eq_1 ∧ type_of% @lw_append ∧ type_of% @lEnd_eq ∧ type_of% @mx_nil ∧ type_of% @mx_some ∧ type_of% @mx_call ∧ type_of% @gOk.eq_1 ∧ type_of% @Option.isSome_some.{0} ∧ type_of% @subOf.eq_1 ∧ type_of% @MCut.eq_1 ∧ type_of% @mcut_1 ∧ type_of% @mx_cut ∧ type_of% @kP_mp ∧ type_of% @pu_mp ∧ type_of% @kp_mp ∧ type_of% @mv_mp ∧ type_of% @op_makeMap ∧ type_of% @op_lookup ∧ type_of% @op_mapUpdate ∧ type_of% @makeMapW.eq_1 ∧ type_of% @moveM.eq_1 ∧ type_of% @mapOf.eq_1 ∧ type_of% @mapKey.eq_1 := ⟨@ibne_f, @getD_map', @get_map', @gt_iff_lt.{0}, @ge_iff_le.{0}, @List.length_map.{0,0}, @Int.natCast_add, @Int.natCast_one, @Int.natCast_zero, @Nat.sub_self, @List.take_length.{0}, @List.drop_length.{0}, @Nat.sub_zero, @Nat.add_zero, @Nat.zero_add, @Int.add_zero, @Int.zero_add, @Int.mul_zero, @Int.sub_zero, @noAim.eq_1, @noAim.eq_2, @leW_t, @leW_f, @leV_rfl, @leL_rfl, @leV_int, @leV_bool, @leV_str, @leV_sl, @leL_cons, @argsOk_some, @bne_self_eq_false.{0}, @bOk.eq_1, @mOk.eq_1, @notTup.eq_2, @valL.eq_1, @valL.eq_2, @lw_nil, @lS_eq, @la_nil, @Nat.one_mul, @Nat.mul_one, @lw_assign, @dk_nil, @dk_none, @oa_some, @oa_none, @toNat_0, @toNat_1, @mv_int, @mv_bool, @mv_str, @mv_sl, @mv_tup, @vOk.eq_1, @lw_append, @lEnd_eq, @mx_nil, @mx_some, @mx_call, @gOk.eq_1, @Option.isSome_some.{0}, @subOf.eq_1, @MCut.eq_1, @mcut_1, @mx_cut, @kP_mp, @pu_mp, @kp_mp, @mv_mp, @op_makeMap, @op_lookup, @op_mapUpdate, @makeMapW.eq_1, @moveM.eq_1, @mapOf.eq_1, @mapKey.eq_1⟩
end Go.Proofs.YtpffgegfjpdncaaGreatDoor.Am
namespace Go.Proofs.YtpffgegfjpdncaaGreatDoor.Am
open Go.RowKit AV
theorem Zo {F P Q : Prop} (f : F) (q : Q) (e : F → Q → P := by intro f q; simp -implicitDefEqProofs (maxSteps := 1000000) (disch := first | (intros; contradiction) | omega) only [am0, am1, am2, am3, am4, am5, Nat.reduceSub, ↓reduceIte, reduceCtorEq, Nat.reduceEqDiff, Nat.reduceBEq, Nat.reduceAdd, Nat.reduceLT, Nat.reduceBNe, Nat.reduceMul, ↓reduceIte, f]; exact q) : P := e f q
theorem Zc {F P : Prop} (f : F) (e : F → P := by intro f; simp -implicitDefEqProofs (maxSteps := 1000000) (disch := first | (intros; contradiction) | omega) only [am0, am1, am2, am3, am4, am5, Nat.reduceSub, ↓reduceIte, reduceCtorEq, Nat.reduceEqDiff, Nat.reduceBEq, Nat.reduceAdd, Nat.reduceLT, Nat.reduceBNe, Nat.reduceMul, ↓reduceIte, f]) : P := e f
theorem Z2 {A B : Prop} (a : A) (b : B) : A ∧ B := ⟨a, b⟩
theorem Z3 {A B C : Prop} (a : A) (b : B) (c : C) : A ∧ B ∧ C := ⟨a, b, c⟩
theorem Z4 {A B C D : Prop} (a : A) (b : B) (c : C) (d : D) : A ∧ B ∧ C ∧ D := ⟨a, b, c, d⟩
theorem Z5 {A B C D E : Prop} (a : A) (b : B) (c : C) (d : D) (e : E) : A ∧ B ∧ C ∧ D ∧ E := ⟨a, b, c, d, e⟩
theorem Z6 {A B C D E G : Prop} (a : A) (b : B) (c : C) (d : D) (e : E) (g : G) : A ∧ B ∧ C ∧ D ∧ E ∧ G := ⟨a, b, c, d, e, g⟩
theorem Z7 {A B C D E G H : Prop} (a : A) (b : B) (c : C) (d : D) (e : E) (g : G) (h : H) : A ∧ B ∧ C ∧ D ∧ E ∧ G ∧ H := ⟨a, b, c, d, e, g, h⟩
theorem Z8 {A B C D E G H I : Prop} (a : A) (b : B) (c : C) (d : D) (e : E) (g : G) (h : H) (i : I) : A ∧ B ∧ C ∧ D ∧ E ∧ G ∧ H ∧ I := ⟨a, b, c, d, e, g, h, i⟩
theorem Z9 {A B C D E G H I J : Prop} (a : A) (b : B) (c : C) (d : D) (e : E) (g : G) (h : H) (i : I) (j : J) : A ∧ B ∧ C ∧ D ∧ E ∧ G ∧ H ∧ I ∧ J := ⟨a, b, c, d, e, g, h, i, j⟩
theorem Z10 {A B C D E G H I J K : Prop} (a : A) (b : B) (c : C) (d : D) (e : E) (g : G) (h : H) (i : I) (j : J) (k : K) : A ∧ B ∧ C ∧ D ∧ E ∧ G ∧ H ∧ I ∧ J ∧ K := ⟨a, b, c, d, e, g, h, i, j, k⟩
theorem fits_take2 {P : Program} {f : FuncId} {a b b' : AV} {res : AV} (h : Fits P f [a, b'] res []) (e : erase b = b') : Fits P f [a, b] res [] := by
 subst e
 refine ⟨h.1, fun w vs ok O hok r hly => ?_⟩
 simp only [RepWs] at r
 obtain ⟨v1, vs1, O1, O2, rfl, hO, hd, ra, v2, vs2, O3, O4, rfl, hO2, hd2, rb, rfl, he⟩ := r
 have h3 : ∀ k, O3 k → O k ∧ ¬ O1 k := fun k hk => ⟨(hO k).2 (.inr ((hO2 k).2 (.inl hk))), fun h1 => hd k h1 ((hO2 k).2 (.inl hk))⟩
 have := h.2 w (v1 :: [v2]) ok O1 (fun k hk => hok k (hk.imp (fun x => (hO k).2 (.inl x)) id)) (by
  simp only [RepWs]
  refine ⟨v1, [v2], O1, fun _ => False, rfl, by simp, by simp, repW_mono a ra ⟨fun k hk _ => ⟨⟨hk.1, fun x => hk.2 ((hO k).2 (.inl x))⟩, rfl⟩, fun _ _ => rfl⟩, v2, [], fun _ => False, fun _ => False, rfl, by simp, by simp, ?_, rfl, emp_false⟩
  exact repW_erase b rb (fun k hk => ⟨hk.1, fun x => hk.2 ((hO k).2 (.inl x))⟩) (fun k hk => ⟨hok k (.inl (h3 k hk).1), (h3 k hk).2⟩)) (hly.sub fun k x => (hO k).2 (.inl x))
 refine Calls.mono this ?_
 rintro e w' ⟨v, Or, Oo, k1, k2, k3, k4, k5, k6, k7, k8, k9, k10⟩
 exact ⟨v, Or, Oo, k1, k2, k3, k4, k5, fun k hk hn => k6 k hk (fun x => hn ((hO k).2 (.inl x))), k7, k8, k9, fun k hk => (k10 k hk).imp (fun x => (hO k).2 (.inl x)) id⟩
theorem Zi : ∀ (c : Prop) (i : Decidable c), (@ite Prop c i True True) = True := fun c i => by split <;> rfl
theorem LLmapnil : type_of% @List.map_nil.{0,0} := @List.map_nil.{0,0}
theorem LLmapcon : type_of% @List.map_cons.{0,0} := @List.map_cons.{0,0}
theorem LLmapapp : type_of% @List.map_append.{0,0} := @List.map_append.{0,0}
theorem LLtaklen : type_of% @List.take_length.{0} := @List.take_length.{0}
theorem LLfilnil : type_of% @List.filter_nil.{0} := @List.filter_nil.{0}
theorem LLlenrep : type_of% @List.length_replicate.{0} := @List.length_replicate.{0}
theorem LLlendro : type_of% @List.length_drop.{0} := @List.length_drop.{0}
theorem LLlentak : type_of% @List.length_take.{0} := @List.length_take.{0}
theorem LLtakzer : type_of% @List.take_zero.{0} := @List.take_zero.{0}
theorem LOmapsom : type_of% @Option.map_some.{0,0} := @Option.map_some.{0,0}
theorem LLdrolen : type_of% @List.drop_length.{0} := @List.drop_length.{0}
end Go.Proofs.YtpffgegfjpdncaaGreatDoor.Am
