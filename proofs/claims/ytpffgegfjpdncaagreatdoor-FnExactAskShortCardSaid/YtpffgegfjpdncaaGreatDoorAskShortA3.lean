/- What the operations of a Go program bring about on values without memory, proved once for any program: part 3. No conditions beyond those at each theorem. -/
import Derived.Test.YtpffgegfjpdncaaGreatDoorAskShortA2
import Derived.Orders
import Derived.Deep.LoopGhost
namespace Go.Proofs.YtpffgegfjpdncaaGreatDoor.Am
open Go.RowKit AV
set_option linter.unusedVariables false
set_option maxHeartbeats 1000000
section
variable {P : Program} {σ : St}
theorem like_refl (σ : St) (x : Operand) : LikeX σ σ x:=fun s _ => ⟨rfl,fun _ _ => rfl⟩
theorem pure1_mono {xs : List Operand} {W : St → (AV → Prop) → Prop} (hW : Pure1 xs W) {K K' : AV → Prop} (hk : ∀ y,K y → K' y) (h : W σ K) : W σ K':=by
 obtain ⟨y,_,h2,h3⟩:=hW σ K h
 exact h3 σ (fun x _ => like_refl σ x) K' (hk y h2)
theorem valW_mono {o : Oper} {K K' : AV → Prop} (hk : ∀ y,K y → K' y) (h : valW P σ o K) : valW P σ o K':=by
 unfold valW at h ⊢
 split at h
 ·exact pure1_mono pure_move hk h
 ·exact pure1_mono pure_nil hk h
 ·exact pure1_mono pure_load hk h
 ·exact pure1_mono pure_fieldAddr hk h
 ·exact pure1_mono pure_indexAddr hk h
 ·obtain ⟨y,h1,h2⟩:=needW_ex h
  rw [h1]; exact hk _ h2
 ·obtain ⟨y,h1,h2⟩:=needW_ex h
  rw [h1]; exact hk _ h2
 ·exact pure1_mono pure_pick hk h
 ·exact pure1_mono pure_index hk h
 ·exact h
theorem assignW_mono {x : Operand} {d : Tmp} {K K' : St → Prop} (hk : ∀ y,K y → K' y) (h : assignW σ x d K) : assignW σ x d K':=by
 unfold assignW at h ⊢
 generalize ev σ x = y at h ⊢
 cases y
 case vref s p => cases p <;> exact ⟨h.1,hk _ h.2⟩
 all_goals first | exact h.elim | exact ⟨h.1,hk _ h.2⟩
theorem storeW_mono {t : TypeId} {x v : Operand} {K K' : St → Prop} (hk : ∀ y,K y → K' y) (h : storeW P σ t x v K) : storeW P σ t x v K':=by
 unfold storeW at h ⊢
 simp only at h ⊢
 split at h
 ·rename_i e
  obtain ⟨h1,h2,h3,h4,h5,h6⟩:=h
  exact ⟨h1,h2,h3,h4,h5,hk _ h6⟩
 ·exact h.elim
theorem appendW_mono {t : TypeId} {x y : Operand} {d : Tmp} {K K' : St → Prop} (hk : ∀ y,K y → K' y) (h : appendW P σ t x y d K) : appendW P σ t x y d K':=by
 unfold appendW at h ⊢
 simp only at h ⊢
 obtain ⟨h1,h2,h3,h4⟩:=h
 refine ⟨h1,h2,h3,?_⟩
 split at h4
 ·obtain ⟨h5,h6⟩:=h4
  refine ⟨h5,?_⟩
  split at h6
  ·obtain ⟨h7,h8,h9⟩:=h6; exact ⟨h7,h8,hk _ h9⟩
  ·obtain ⟨h7,h8,h9,h10,h11⟩:=h6; exact ⟨h7,h8,h9,h10,hk _ h11⟩
  ·split at h6
   ·obtain ⟨h7,h8,h9,h10,h11⟩:=h6; exact ⟨h7,h8,h9,h10,hk _ h11⟩
   ·exact h6.elim
  ·exact h6.elim
 ·exact h4.elim
theorem appendMW_mono {t : TypeId} {x y : Operand} {d : Tmp} {K K' : St → Prop} (hk : ∀ y,K y → K' y) (h : appendMW P σ t x y d K) : appendMW P σ t x y d K':=by
 unfold appendMW at h ⊢
 simp only at h ⊢
 obtain ⟨h1,h2,h3,h4⟩:=h
 refine ⟨h1,h2,h3,?_⟩
 split at h4
 ·obtain ⟨h5,h6,h7,h8,h9⟩:=h4; exact ⟨h5,h6,h7,h8,hk _ h9⟩
 ·exact h4.elim
theorem barW_mono {o : Oper} (hst : isSt o = true) {K K' : St → Prop} (hk : ∀ y,K y → K' y) (h : barW P σ o K) : barW P σ o K':=by
 rcases isSt_op hst with ⟨t,x,v,e,hd⟩ | ⟨e,d,hd⟩
 ·obtain ⟨dst,op,ty,pos,after,guard⟩:=o
  simp only at e hd
  subst e hd
  exact storeW_mono hk h
 ·obtain ⟨dst,op,ty,pos,after,guard⟩:=o
  simp only at e hd
  subst hd
  cases op <;> simp only [isApp,Bool.false_eq_true] at e
  rename_i c
  split at e
  ·rename_i hc
   obtain ⟨callee,args,argTypes⟩:=c
   simp only at hc
   subst hc
   unfold barW opW at h ⊢
   simp only at h ⊢
   split at h
   ·rename_i e1 e2 e3; cases e1
   ·rename_i e1 e2 e3; cases e1
   ·rename_i x y t t' d' e1 e2 e3 e4
    obtain ⟨rfl,h⟩:=h
    refine ⟨rfl,?_⟩
    split at h
    ·split at h
     ·rename_i hc; rw [if_pos hc]; exact appendW_mono hk h
     ·rename_i hc; rw [if_neg hc]; exact appendMW_mono hk h
    ·exact appendW_mono hk h
   ·exact h.elim
  ·cases e
theorem pureK_mono {dst : Option Tmp} {K K' : St → Prop} (hk : ∀ y,K y → K' y) (y : AV) (h : pureK σ dst K y) : pureK σ dst K' y:=by
 unfold pureK at h ⊢
 cases dst with
 | none => exact hk _ h
 | some d => exact ⟨h.1,hk _ h.2⟩
theorem vStep_mono {o : Oper} {K K' : St → Prop} (hk : ∀ y,K y → K' y) (h : vStep P σ o K) : vStep P σ o K':=by
 unfold vStep at h ⊢
 split at h
 ·exact assignW_mono hk h
 ·unfold mvX at h ⊢
  split at h
  ·split at h
   ·rename_i hc; rw [if_pos hc]; exact pure1_mono pure_move (pureK_mono hk) h
   ·rename_i hc; rw [if_neg hc]; exact assignW_mono hk h
  ·exact pure1_mono pure_move (pureK_mono hk) h
 ·unfold extractW at h ⊢
  split at h
  ·obtain ⟨h1,h2,h3,h4⟩:=h
   refine ⟨h1,h2,h3,?_⟩
   split at h4
   ·rename_i hp; rw [if_pos hp]; exact hk _ h4
   ·rename_i hp; rw [if_neg hp]; exact hk _ h4
  ·exact h.elim
 ·exact valW_mono (pureK_mono hk) h
end
section
variable {P : Program} {C : Ctx P} {callW : Call → Option Tmp → St → (St → Prop) → Prop}
theorem walk_eqv {all : List Oper} {base : Array Bool} {K : St → Prop} : ∀ (l : List Oper) (i : Nat) (ls : List (List Nat)) {σ τ : St},Eqv σ τ → WalkOk P all base i l ls K τ → WalkOk P all base i l ls K σ
 | [],i,ls,σ,τ,he,h => by
  obtain ⟨σ',h1,h2⟩:=h
  exact ⟨σ',he.trans h1,h2⟩
 | o :: r,i,ls,σ,τ,he,h => by
  unfold WalkOk at h ⊢
  by_cases hb : base.getD i false = true
  ·rw [if_pos hb] at h ⊢
   exact walk_eqv r (i + 1) ls he h
  ·rw [if_neg hb] at h ⊢
   obtain ⟨σ',h1,h2⟩:=h
   exact ⟨σ',he.trans h1,h2⟩
theorem walk_of_lW {all : List Oper} {base : Array Bool} {K : St → Prop} : ∀ (l : List Oper) (i : Nat) (ls : List (List Nat)) {σ : St},(∀ k,i ≤ k → base.getD k false = false) → lW P all l ls K σ → WalkOk P all base i l ls K σ
 | [],i,ls,σ,hb,h => ⟨σ,.refl σ,h⟩
 | o :: r,i,ls,σ,hb,h => by
  unfold lW at h
  unfold WalkOk
  rw [if_neg (by rw [hb i (Nat.le_refl _)]; simp)]
  refine ⟨σ,.refl σ,?_⟩
  cases hs : isSt o with
  | true =>
   rw [hs] at h
   simp only at h ⊢
   split at h
   ·rename_i l ls'
    exact barW_mono hs (fun σ1 h1 => ⟨h1.1,walk_of_lW r (i + 1) _ (fun k hk => hb k (by omega)) h1.2⟩) h
   ·exact h.elim
  | false =>
   rw [hs] at h
   simp only at h ⊢
   exact vStep_mono (fun σ1 h1 => walk_of_lW r (i + 1) ls (fun k hk => hb k (by omega)) h1) h
def remP (ops : Array Oper) (listed : Array Bool) (s0 i : Nat) : List Oper:=((List.range' i (s0 - i)).filter fun k => !listed.getD k true).filterMap fun k => ops[k]?
theorem isV_guard {o : Oper} (h : isV o = true) : o.guard = none:=by
 unfold isV at h
 split at h <;> simp_all
theorem cover_tail {ms : List Nat} {base : Array Bool} {all : List Oper} : ∀ (l : List Oper) (i : Nat) (ls : List (List Nat)),(∀ k,i ≤ k → base.getD k false = false) → coverL ms all i l ls = true → coverB ms base i l ls = true
 | [],i,ls,hb,h => rfl
 | o :: r,i,ls,hb,h => by
  unfold coverL at h
  unfold coverB
  rw [if_neg (by rw [hb i (Nat.le_refl _)]; simp)]
  split
  ·rename_i hs
   rw [if_pos hs] at h
   cases ls with
   | nil => exact h
   | cons l ls' =>
    simp only [Bool.and_eq_true] at h ⊢
    exact ⟨h.1,cover_tail r (i + 1) ls' (fun k hk => hb k (by omega)) h.2⟩
  ·rename_i hs
   rw [if_neg hs] at h
   exact cover_tail r (i + 1) ls (fun k hk => hb k (by omega)) h
theorem walk_pre {ops : Array Oper} {listed : Array Bool} {ds : List Nat} {K : St → Prop} {s0 : Nat} {ls : List (List Nat)} (hsz : listed.size = ops.size) (h0 : s0 ≤ ops.size) (hP : ∀ k o,k < s0 → ops[k]? = some o → isP P ops.toList o = true) (hV : ∀ k o,k < s0 → ops[k]? = some o → listed.getD k false = false → isV o = true) (htail : ∀ k,s0 ≤ k → listed.getD k false = false) :
  ∀ (m i : Nat) {σ : St},i + m = s0 → dE P callW ops.toList ds (remP ops listed s0 i) σ (lW P ops.toList (ops.toList.drop s0) ls K) → WalkOk P ops.toList listed i (ops.toList.drop i) ls K σ
 | 0,i,σ,hi,h => by
  obtain rfl : i = s0:=by omega
  have e : remP ops listed i i = []:=by simp [remP]
  rw [e] at h
  obtain ⟨σ',h1,h2⟩:=h
  exact walk_eqv _ _ _ h1 (walk_of_lW _ _ _ htail h2)
 | m + 1,i,σ,hi,h => by
  have hil : i < ops.size:=by omega
  have ho : ops[i]? = some ops[i]:=Array.getElem?_eq_getElem hil
  have hdrop : ops.toList.drop i = ops[i] :: ops.toList.drop (i + 1):=by
   rw [List.drop_eq_getElem_cons (by simpa using hil)]; simp
  have hp:=hP i _ (by omega) ho
  have hrange : List.range' i (s0 - i) = i :: List.range' (i + 1) (s0 - (i + 1)):=by
   rw [show s0 - i = (s0 - (i + 1)) + 1 by omega,List.range'_succ]
  rw [hdrop]
  unfold WalkOk
  cases hb : listed.getD i false with
  | true =>
   rw [if_pos rfl]
   refine walk_pre (ds:=ds) hsz h0 hP hV htail m (i + 1) (by omega) ?_
   unfold remP at h ⊢
   rw [hrange,List.filter_cons,if_neg (by rw [getD_tf (by omega),hb]; simp)] at h
   exact h
  | false =>
   rw [if_neg (by simp)]
   refine ⟨σ,.refl σ,?_⟩
   rw [not_both (hV i _ (by omega) ho hb)]
   simp only
   have e : remP ops listed s0 i = ops[i] :: remP ops listed s0 (i + 1):=by
    unfold remP
    rw [hrange,List.filter_cons,if_pos (by rw [getD_tf (by omega),hb]; simp),List.filterMap_cons,ho]
   rw [e] at h
   have hv:=hV i _ (by omega) ho hb
   rcases h with ⟨_,h1,y,us,h2,h3⟩ | ⟨hp',_⟩
   ·have hst:=h2.2.2.2 σ (fun s _ => ⟨rfl,fun _ _ => rfl⟩) (fun σ1 => WalkOk P ops.toList listed (i + 1) (ops.toList.drop (i + 1)) ls K σ1) (walk_pre hsz h0 hP hV htail m (i + 1) (by omega) h3)
    unfold stepW condW at hst
    rw [isV_guard hv] at hst
    exact vStep_of_opW hv hst
   ·rw [hp] at hp'; cases hp'
theorem unl_split' {n : Nat} {listed : Array Bool} {i : Nat} (hi : i < n) (hl : listed.getD i true = false) (hsz : n ≤ listed.size) :
  ∃ pre post,unl n listed = pre ++ i :: post ∧ (∀ k ∈ pre,k < i ∧ listed.getD k true = false) ∧ unl n (listed.setIfInBounds i true) = pre ++ post:=by
 have hr : List.range n = List.range i ++ i :: List.range' (i + 1) (n - i - 1):=by
  rw [List.range_eq_range',List.range_eq_range']
  have : n = i + (1 + (n - i - 1)):=by omega
  conv => lhs; rw [this]
  rw [← List.range'_append_1,← List.range'_append_1]
  simp
 have hset : ∀ k,k ≠ i → (listed.setIfInBounds i true).getD k true = listed.getD k true:=fun k hk => getD_set_ne true (Ne.symm hk)
 refine ⟨(List.range i).filter fun k => !listed.getD k true,(List.range' (i + 1) (n - i - 1)).filter fun k => !listed.getD k true,?_,?_,?_⟩
 ·unfold unl
  rw [hr,List.filter_append,List.filter_cons,if_pos (by rw [hl]; rfl)]
 ·intro k hk
  obtain ⟨h1,h2⟩:=List.mem_filter.1 hk
  exact ⟨by simpa using h1,by simpa using h2⟩
 ·unfold unl
  rw [hr,List.filter_append,List.filter_cons]
  have hs : (listed.setIfInBounds i true).getD i true = true:=by simp [show i < listed.size by omega]
  rw [if_neg (by rw [hs]; simp)]
  congr 1
  ·refine List.filter_congr fun k hk => ?_
   rw [hset k (by have:=List.mem_range.1 hk; omega)]
  ·refine List.filter_congr fun k hk => ?_
   rw [hset k (by have:=List.mem_range'_1.1 hk; omega)]
theorem draw_late (hc : CallsOk P callW) (hcl : CallsLoc callW) {ops : Array Oper} {Q : Exit → Act → World → Prop} {K : St → Prop} {s0 : Nat} {ls : List (List Nat)} (hok : ops.toList.all (operOk C.n C.ks) = true) (hlo : lateOk P ops.toList s0 ls = true) (hQ : ∀ a w,lift C K a w → Q .normal a w) :
  ∀ (fuel : Nat) (listed : Array Bool) (σ : St) (a : Act) (w : World),listed.size = ops.size → Down ops listed → (∀ k,s0 ≤ k → listed.getD k false = false) → (unl ops.size listed).length = fuel →
   dE P callW ops.toList ((ops.toList.take s0).filterMap (·.dst)) (remP ops listed s0 0) σ (lW P ops.toList (ops.toList.drop s0) ls K) → Sim C σ a w → wpAny P .any ops Q fuel listed a w:=by
 simp only [lateOk,Bool.and_eq_true,decide_eq_true_eq] at hlo
 obtain ⟨⟨⟨⟨⟨⟨_,hs0⟩,hm0⟩,hp0⟩,hr0⟩,hcov⟩,hw0⟩:=hlo
 have hs0 : s0 ≤ ops.size:=by simpa using hs0
 have hrm : ∀ i,i < ops.size → rowM ops.toList (maskGo [] ops.toList) i = true:=fun i hi => (List.all_eq_true.1 hm0) i (by simpa using hi)
 have hpre : ∀ i,i < s0 → preOk P ops.toList (maskGo [] ops.toList) s0 i = true:=fun i hi => (List.all_eq_true.1 hp0) i (by simpa using hi)
 have hrow : ∀ i,i < ops.size → s0 ≤ i → rowL ops.toList (maskGo [] ops.toList) i = true:=fun i hi h => by
  have:=(List.all_eq_true.1 hr0) i (by simpa using hi)
  simp only [Bool.or_eq_true,decide_eq_true_eq] at this
  exact this.resolve_left (by omega)
 have hnw : ∀ (s : Nat) os (j : Nat),ops[s]? = some os → isSt os = true → j < s → ((maskGo [] ops.toList).getD s 0).testBit j = false → noWr ops.toList j s = true:=by
  intro s os j hs hst hjs hb
  have hl:=(Array.getElem?_eq_some_iff.1 hs).1
  have:=(List.all_eq_true.1 hw0) s (by simpa using hl)
  rw [Array.getElem?_toList,hs] at this
  simp only [hst,Bool.not_true,Bool.false_or] at this
  have:=(List.all_eq_true.1 this) j (by simpa using hjs)
  rw [hb] at this
  simpa using this
 generalize maskGo [] ops.toList = ms at hrm hpre hrow hcov hnw
 have hPre : ∀ (k : Nat) o,k < s0 → ops[k]? = some o → isP P ops.toList o = true ∧ (List.range k).all (pairOk P ops.toList (ms.getD k 0) o) = true ∧ ((isV o = true ∧ rowL ops.toList ms k = true) ∨ ∀ i,i < ops.size → s0 ≤ i → (ms.getD i 0).testBit k = true):=by
  intro k o hk ho
  have:=hpre k hk
  unfold preOk at this
  rw [Array.getElem?_toList,ho] at this
  simp only [Bool.and_eq_true,Bool.or_eq_true] at this
  refine ⟨this.1.1,this.1.2,this.2.imp id fun h i hi hsi => ?_⟩
  have:=(List.all_eq_true.1 h) i (by simpa using hi)
  simp only [Bool.or_eq_true,decide_eq_true_eq] at this
  exact this.resolve_left (by omega)
 have hready : ∀ (listed : Array Bool),listed.size = ops.size → ∀ (i : Nat) (l : List Nat),unl ops.size listed = i :: l → i ∈ Region.ready .any ops listed:=by
  intro listed hsz i l hu
  have hi : i ∈ unl ops.size listed:=by rw [hu]; exact List.mem_cons_self ..
  obtain ⟨h1,h2⟩:=List.mem_filter.1 hi
  have hlt : i < ops.size:=by simpa using h1
  refine mem_ready.2 ⟨by simpa using h2,ops[i],Array.getElem?_eq_getElem hlt,fun e he hb => ?_⟩
  have hp : e.on ∈ predsOf ops[i]:=List.mem_map.2 ⟨e,List.mem_filter.2 ⟨by simpa using he,hb⟩,rfl⟩
  have hlt' : e.on < i:=(rowM_spec (hrm i hlt) (by rw [Array.getElem?_toList,Array.getElem?_eq_getElem hlt])).1 _ hp
  cases hh : listed.getD e.on false with
  | true => rfl
  | false =>
   have hm : e.on ∈ unl ops.size listed:=List.mem_filter.2 ⟨by simp; omega,by rw [getD_tf (by omega),hh]; rfl⟩
   have hsorted : (unl ops.size listed).Pairwise (· < ·):=(List.pairwise_lt_range).filter _
   rw [hu] at hm hsorted
   rcases List.mem_cons.1 hm with h | h
   ·omega
   ·have:=(List.pairwise_cons.1 hsorted).1 _ h
    omega
 intro fuel
 induction fuel with
 | zero =>
  intro listed σ a w hsz hd htl hu hE S
  have hu0 : unl ops.size listed = []:=List.eq_nil_of_length_eq_zero hu
  have hs0e : s0 = ops.size:=by
   rcases Nat.lt_or_ge s0 ops.size with h | h
   ·have : s0 ∈ unl ops.size listed:=List.mem_filter.2 ⟨by simpa using h,by rw [getD_tf (by omega),htl s0 (Nat.le_refl _)]; rfl⟩
    rw [hu0] at this; cases this
   ·omega
  refine ⟨?_,?_⟩
  ·apply List.eq_nil_iff_forall_not_mem.2
   intro j hj
   obtain ⟨h1,o,ho,_⟩:=mem_ready.1 hj
   have : j ∈ unl ops.size listed:=List.mem_filter.2 ⟨by simpa using (Array.getElem?_eq_some_iff.1 ho).1,by rw [h1]; rfl⟩
   rw [hu0] at this; cases this
  ·have e : remP ops listed s0 0 = []:=by
    have : (List.range' 0 (s0 - 0)).filter (fun k => !listed.getD k true) = []:=by
     have h:=hu0
     unfold unl at h
     rw [List.range_eq_range'] at h
     rw [hs0e,Nat.sub_zero]; exact h
    unfold remP
    rw [this]; rfl
   rw [e] at hE
   obtain ⟨σ',h1,h2⟩:=hE
   have hdrop : ops.toList.drop s0 = []:=by rw [List.drop_eq_nil_iff]; simp; omega
   rw [hdrop] at h2
   exact hQ a w ⟨σ',h2,S.eqv h1⟩
 | succ fuel ih =>
  intro listed σ a w hsz hd htl hu hE S
  refine ⟨fun hnil => ?_,fun i hi => ?_⟩
  ·cases hul : unl ops.size listed with
   | nil => rw [hul] at hu; cases hu
   | cons j l =>
    have:=hready listed hsz j l hul
    rw [hnil] at this; cases this
  ·obtain ⟨h1,o,ho,haft⟩:=mem_ready.1 hi
   have hlt : i < ops.size:=(Array.getElem?_eq_some_iff.1 ho).1
   have hoi : ops.toList[i]? = some o:=by rw [Array.getElem?_toList]; exact ho
   have hop : operOk C.n C.ks o = true:=(List.all_eq_true.1 hok) o (List.mem_of_getElem? hoi)
   have hmask : ∀ k,(ms.getD i 0).testBit k = true → listed.getD k false = true:=by
    intro k hk
    obtain ⟨r1,r2⟩:=rowM_spec (hrm i hlt) hoi
    rw [r2] at hk
    obtain ⟨p,hp,hh⟩:=maskOf_spec hk
    have hpi : p < i:=r1 p hp
    have hpl : listed.getD p false = true:=by
     obtain ⟨e,he,rfl⟩:=List.mem_map.1 hp
     obtain ⟨he1,he2⟩:=List.mem_filter.1 he
     exact haft e (by simpa using he1) he2
    rcases hh with rfl | hh
    ·exact hpl
    ·exact down_maskL hrm hsz hd p p (Nat.le_refl _) (by omega) (by rw [getD_tf (by omega)]; exact hpl) k hh
   rcases Nat.lt_or_ge i s0 with his | his
   ·-- as always
    obtain ⟨pre,post,u1,u2,u3⟩:=unl_split hlt h1 hsz
    obtain ⟨pre',post',v1,v2,v3⟩:=unl_split' (n:=s0) his h1 (by omega)
    have hds : ∀ (o' : Oper),o' ∈ ops.toList.take s0 → ∀ d,o'.dst = some d → d ∈ (ops.toList.take s0).filterMap (·.dst):=fun o' hm d hd' => List.mem_filterMap.2 ⟨o',hm,hd'⟩
    have htk : ∀ (k : Nat) (o' : Oper),k < s0 → ops.toList[k]? = some o' → o' ∈ ops.toList.take s0:=fun k o' hk h => List.mem_of_getElem? (i:=k) (by rw [List.getElem?_take_of_lt hk]; exact h)
    have hsz' : (listed.setIfInBounds i true).size = ops.size:=by simpa using hsz
    have hd' : Down ops (listed.setIfInBounds i true):=by
     intro j oj hj hl p hp
     have hpl : listed.getD p false = true:=by
      by_cases hji : j = i
      ·subst hji
       rw [ho] at hj; cases hj
       obtain ⟨e,he,rfl⟩:=List.mem_map.1 hp
       obtain ⟨he1,he2⟩:=List.mem_filter.1 he
       exact haft e (by simpa using he1) he2
      ·rw [getD_set_ne true (Ne.symm hji)] at hl
       exact hd j oj hj hl p hp
     exact getD_set_true hpl
    have htl' : ∀ k,s0 ≤ k → (listed.setIfInBounds i true).getD k false = false:=fun k hk => by
     rw [getD_set_ne false (by omega)]; exact htl k hk
    have hu' : (unl ops.size (listed.setIfInBounds i true)).length = fuel:=by
     rw [u3,List.length_append]
     rw [u1,List.length_append,List.length_cons] at hu
     omega
    have hru : ∀ l : Array Bool,remP ops l s0 0 = (unl s0 l).filterMap fun k => ops[k]?:=fun l => by
     unfold remP unl; rw [List.range_eq_range',Nat.sub_zero]
    have hrem : remP ops listed s0 0 = (pre'.filterMap fun k => ops[k]?) ++ o :: (post'.filterMap fun k => ops[k]?):=by
     rw [hru,v1,List.filterMap_append,List.filterMap_cons,ho]
    have hrem' : remP ops (listed.setIfInBounds i true) s0 0 = (pre'.filterMap fun k => ops[k]?) ++ (post'.filterMap fun k => ops[k]?):=by
     rw [hru,v3,List.filterMap_append]
    obtain ⟨hpo,hpair,_⟩:=hPre i o his ho
    have hprem : ∀ k ∈ pre'.filterMap (fun k => ops[k]?),isP P ops.toList k = true ∧ apartS ops.toList k o = true ∧ k ∈ ops.toList.take s0:=by
     intro ok hok'
     obtain ⟨k,hk,hkk⟩:=List.mem_filterMap.1 hok'
     obtain ⟨hki,hkl⟩:=v2 k hk
     have hp:=(List.all_eq_true.1 hpair) k (by simpa using hki)
     unfold pairOk at hp
     rw [Bool.or_eq_true] at hp
     rcases hp with hp | hp
     ·have:=hmask k hp
      rw [← getD_tf (by omega),hkl] at this; cases this
     ·have hkk' : ops.toList[k]? = some ok:=by rw [Array.getElem?_toList]; exact hkk
      rw [hkk'] at hp
      simp only [Bool.and_eq_true] at hp
      exact ⟨hp.1.1,hp.2,htk k ok (by omega) hkk'⟩
    rw [hrem] at hE
    obtain ⟨_,y,us,g1,g2⟩:=front (o:=o) hpo (hds o (htk i o his hoi)) _ σ (fun k hk => by
     obtain ⟨q1,q2,q3⟩:=hprem k hk
     exact ⟨q1,q2,hds k q3⟩) hE
    have hst:=g1.2.2.2 σ (fun s _ => ⟨rfl,fun _ _ => rfl⟩) (fun σ' => σ' = putU σ o.dst y us) rfl
    have step : wpOp P ops Q i (lift C (fun σ' => σ' = putU σ o.dst y us)) a w:=by
     unfold wpOp
     simp only [ho]
     rcases cond_sound hok S hst with ⟨hw,h⟩ | ⟨hw,h⟩
     ·rw [if_pos hw]
      exact .inl (sim_op hc (by rw [S.2.2.1]; exact hop) S h)
     ·rw [if_neg (by simp [hw])]
      exact skip_sound hop S h
    refine wpOp_mono ?_ step
    rintro a' w' ⟨σ',rfl,S'⟩
    exact ih _ _ a' w' hsz' hd' htl' hu' (by rw [hrem']; exact g2) S'
   ·-- from here on in any order
    have hV : ∀ (k : Nat) o,k < s0 → ops[k]? = some o → listed.getD k false = false → isV o = true ∧ rowL ops.toList ms k = true:=by
     intro k ok hk hok' hkl
     rcases (hPre k ok hk hok').2.2 with h | h
     ·exact h
     ·have:=hmask k (h i hlt his)
      rw [hkl] at this; cases this
    have hwalk:=walk_pre (P:=P) (callW:=callW) hsz hs0 (fun k o hk ho => (hPre k o hk ho).1) (fun k o hk ho hl => (hV k o hk ho hl).1) htl s0 0 (by omega) hE
    have hrowA : ∀ i,i < ops.size → listed.getD i false = false → rowLp ops.toList ms (fun k => listed.getD k false) i = true:=by
     intro k hk hkl
     refine rowL_mono (pl:=fun _ => false) ?_ (by simp)
     rcases Nat.lt_or_ge k s0 with h | h
     ·exact (hV k _ h (Array.getElem?_eq_getElem hk) hkl).2
     ·exact hrow k hk h
    have hcov0 : coverB ms listed 0 (ops.toList.drop 0) ls = true:=by
     have key : ∀ m i,i + m = s0 → coverB ms listed i (ops.toList.drop i) ls = true:=by
      intro m
      induction m with
      | zero =>
       intro i hi
       have hi2 : i = s0:=by omega
       rw [hi2]; exact cover_tail _ _ _ htl hcov
      | succ m ihm =>
       intro i hi
       have hil : i < ops.size:=by omega
       have hdrop : ops.toList.drop i = ops[i] :: ops.toList.drop (i + 1):=by
        rw [List.drop_eq_getElem_cons (by simpa using hil)]; simp
       rw [hdrop]
       unfold coverB
       cases hb : listed.getD i false with
       | true => rw [if_pos rfl]; exact ihm (i + 1) (by omega)
       | false =>
        rw [if_neg (by simp),if_neg (by rw [not_both (hV i _ (by omega) (Array.getElem?_eq_getElem hil) hb).1]; simp)]
        exact ihm (i + 1) (by omega)
     exact key s0 0 (by omega)
    obtain ⟨A,E,W,q1,⟨tm,q2,q3,q4⟩,q4',q5,q5',q6,q7⟩:=lW_run (K:=K) hnw hrm hrowA hok (ops.toList.drop 0) 0 ls σ a w rfl (by simp) hcov0 hwalk S
    have RR : RefRun P ops ms listed a A E W:=by
     refine ⟨hrm,hrowA,fun j hj hb => q5' j (Nat.zero_le _) hj hb,fun j o hj hb t => ?_,fun j o hj hb hp => ?_,fun s o hs hb hss => (q7 s o (Nat.zero_le _) hs hb hss).1⟩
     ·obtain ⟨e1,e2⟩:=q4' j o (Nat.zero_le _) hj hb t
      exact ⟨fun k ok => e1 k ok (Nat.zero_le _),fun hno => e2 fun k ok _ => hno k ok⟩
     ·obtain ⟨v,d,g1,g2,g3,g4⟩:=q6 j o (Nat.zero_le _) hj hb hp
      refine ⟨v,d,g1,g2,g3,g4,fun s os hs hsb hss hjs hbit => ?_⟩
      obtain ⟨v',d',f1,f2,f3⟩:=(q7 s os (Nat.zero_le _) hs hsb hss).2 j o hj hb hp hjs hbit
      rw [g1] at f1; cases f1
      rw [g2] at f2; cases f2
      exact f3 _ (fun h => absurd h (Nat.not_lt_zero _)) (fun _ => rfl)
    have hfin:=late_any RR (fun _ _ => hQ _ _ q5) ⟨tm,q2,q3,fun t ht => q4 t fun k ok _ => ht k ok⟩ (fun k ok d hk hd' => by
     have hok2 : operOk C.n C.ks ok = true:=(List.all_eq_true.1 hok) ok (List.mem_of_getElem? (by rw [Array.getElem?_toList]; exact hk : ops.toList[k]? = some ok))
     simp only [operOk,hd',Bool.and_eq_true,decide_eq_true_eq] at hok2
     rw [S.2.2.1]; exact hok2.2.1) (fuel + 1) listed a w hsz hd hu ⟨⟨a.tmps,rfl,rfl,fun t => ⟨fun k ok hk hb hd' hl => absurd hl (by rw [hb]; simp),fun _ => rfl⟩⟩,⟨0,Nat.zero_le _,q1.symm,fun s o hs hb hst => ⟨fun hl => absurd hl (by rw [hb]; simp),fun h => absurd h (Nat.not_lt_zero _)⟩⟩,fun k hk => hk⟩
    exact hfin.2 i hi
theorem late_sound (hc : CallsOk P callW) (hcl : CallsLoc callW) {ops : Array Oper} {id : Nat} {Q : Exit → Act → World → Prop} {K : St → Prop} {σ : St} {a : Act} {w : World} (hok : ops.toList.all (operOk C.n C.ks) = true) (hQ : ∀ a w, lift C K a w → Q .normal a w)
    (h : LateW P callW ops.toList σ K) (S : Sim C σ a w) : (Code.region id ops true).wp P Q a w:=by
  obtain ⟨s0,ls,h1,h2⟩:=h
  have hm : P.follows .mixedOrders = true:=by
    have:=h1
    simp only [lateOk,Bool.and_eq_true] at this
    exact this.1.1.1.1.1.1
  have hs0 : s0 ≤ ops.size:=by
    have:=h1
    simp only [lateOk,Bool.and_eq_true,decide_eq_true_eq] at this
    simpa using this.1.1.1.1.1.2
  have hgetF : ∀ k,(Array.replicate ops.size false).getD k false = false:=by
    intro k
    by_cases h : k < ops.size <;> simp [h]
  have hget : ∀ k,(Array.replicate ops.size false).getD k true = true → ops.size ≤ k:=by
    intro k hk
    by_cases h : k < ops.size
    · simp [h] at hk
    · omega
  have hul : ∀ n,n ≤ ops.size → unl n (Array.replicate ops.size false) = List.range n:=by
    intro n hn
    unfold unl
    refine List.filter_eq_self.2 fun k hk => ?_
    have : k < ops.size := by have : k < n := by simpa using hk
                              omega
    simp [this]
  refine wp_region_any hm (draw_late (C:=C) hc hcl hok h1 hQ ops.size _ σ a _ (by simp) ?_ (fun k _ => hgetF k) (by rw [hul _ (Nat.le_refl _)]; simp) ?_ S.drawn)
  · intro j o hj hl
    have:=hget j hl
    have:=(Array.getElem?_eq_some_iff.1 hj).1
    omega
  · have hrm : remP ops (Array.replicate ops.size false) s0 0 = ops.toList.take s0 := by
      have e : remP ops (Array.replicate ops.size false) s0 0 = (unl s0 (Array.replicate ops.size false)).filterMap fun k => ops[k]?:=by
        unfold remP unl; rw [List.range_eq_range',Nat.sub_zero]
      rw [e,hul _ hs0]
      have : ∀ n,n ≤ ops.size → (List.range n).filterMap (fun i => ops[i]?) = ops.toList.take n:=by
        intro n
        induction n with
        | zero => simp
        | succ n ih =>
          intro hn
          rw [List.range_succ,List.filterMap_append,ih (by omega)]
          have hlt : n < ops.size:=by omega
          simp [Array.getElem?_eq_getElem hlt,List.take_add_one]
      exact this s0 hs0
    rw [hrm]
    exact dE_of_dW hcl _ _ h2
end
end Go.Proofs.YtpffgegfjpdncaaGreatDoor.Am
namespace Go.Proofs.YtpffgegfjpdncaaGreatDoor.Am
open Go.RowKit AV
set_option linter.unusedVariables false
def Fits (P : Program) (f : FuncId) (args : List AV) (res : AV) (outs : List AV) : Prop :=
 (∃ fn,P.funcs[f]? = some fn ∧ fn.body.isNone = false ∧ (fn.name == "runtime.NumGoroutine") = false) ∧
 ∀ (w : World) (vs : List Value) (ok O : Nat → Prop),(∀ k,O k ∨ w.heap.size ≤ k → ok k) → RepWs w.heap (fun k => ok k ∧ ¬ O k) args vs O → Laid P w.heap O →
  Calls P f vs.toArray w (fun e w' => ∃ v Or Oo,e = .returned v ∧ w'.os = w.os ∧ w'.tape = w.tape ∧ w'.output = w.output ∧ w.heap.size ≤ w'.heap.size ∧
   (∀ k,k < w.heap.size → ¬ O k → w'.heap[k]? = w.heap[k]?) ∧
   RepW w'.heap (fun k => ok k ∧ ¬ Or k ∧ ¬ Oo k) res v Or ∧ RepWs w'.heap (fun k => ok k ∧ ¬ Or k ∧ ¬ Oo k) outs (vs.take outs.length) Oo ∧
   (∀ k,Or k → ¬ Oo k) ∧ ∀ k,(Or k ∨ Oo k) → O k ∨ w.heap.size ≤ k)
def argOf (σ : St) (x : Operand) : Option AV :=
 match srcOf σ x with
 | .slo _ _ sz xs => some (.sl false sz (eraseL xs))
 | .sls sz xs => some (ev σ x)
 | .pto s p y => some (.dptr (erase y))
 | .pts y => some (.dptr y)
 | .va y => some y
 | .bad => (match ev σ x with
  | .vagg s p => (match getAt (look σ s) p with | some y => some (erase y) | none => none)
  | .agg fs => some (.agg (eraseL fs))
  | .arr sz xs => some (.arr sz (eraseL xs))
  | _ => none)
def argsOf (σ : St) : List Operand → Option (List AV)
 | [] => some []
 | x :: r => match argOf σ x,argsOf σ r with | some y,some ys => some (y :: ys) | _,_ => none
def valOnly (σ : St) (xs : List Operand) : Bool:=xs.all fun x => match srcOf σ x with | .sls _ _ | .pts _ | .va _ => true | _ => false
section
variable {P : Program} {h0 : Array Obj} {ok O0 : Nat → Prop} {σ : St} {a : Act} {w : World} {Os : Nat → Nat → Prop}
theorem argVal_rep (R : Rel h0 ok O0 σ a.tmps w.heap Os) {x : Operand} (hx : opndOk a.tmps.size x = true) {y : AV} (e : argOf σ x = some y) (hv : (match srcOf σ x with | .sls _ _ | .pts _ | .va _ => true | _ => false) = true) :
  RepW w.heap (Sh ok Os) y (a.eval x) (fun _ => False):=by
 unfold argOf at e
 split at e <;> rename_i es <;> rw [es] at hv <;> simp only [Bool.false_eq_true] at hv
 ·simp only [Option.some.injEq] at e; subst e
  exact (src_sls R hx es).2.1
 ·simp only [Option.some.injEq] at e; subst e
  simp only [RepW]; exact src_pts R hx es
 ·simp only [Option.some.injEq] at e; subst e
  exact (src_va R hx es).1
theorem argOf_rep (R : Rel h0 ok O0 σ a.tmps w.heap Os) (hall : ∀ k,O0 k ∨ h0.size ≤ k → ok k) {x : Operand} (hx : opndOk a.tmps.size x = true) {y : AV} (e : argOf σ x = some y) :
  RepW w.heap ok y (a.eval x) (fun _ => False):=by
 have s1 : ∀ k,Sh ok Os k → ok k:=fun k hk => hk.1
 have s2 : ∀ t k,Os t k → ok k:=fun t k hk => hall k (R.own t k hk)
 have hm : ∀ {y : AV},RepW w.heap (Sh ok Os) y (a.eval x) (fun _ => False) → RepW w.heap ok y (a.eval x) (fun _ => False):=fun r => repW_mono _ r ⟨fun k hk _ => ⟨s1 k hk,rfl⟩,fun _ _ => rfl⟩
 have e0:=e
 unfold argOf at e
 split at e <;> rename_i es
 ·simp only [Option.some.injEq] at e; subst e
  obtain ⟨u,k1,k2,k3,k4⟩:=src_slo R hx es
  obtain ⟨⟨Oy,r,hOy⟩,_⟩:=slo_rep k2 k3 k4
  have:=repC_erase _ r s1 (fun k hk => s2 _ k (hOy k hk))
  simp only [erase] at this
  simpa only [RepW] using this
 ·simp only [Option.some.injEq] at e; subst e
  exact hm (src_sls R hx es).2.1
 ·simp only [Option.some.injEq] at e; subst e
  obtain ⟨u,B,o,k1,k2,k3,k4,k5⟩:=src_pto R hx es
  rename_i s p y
  have r':=repC_of_get (y:=y) k2 k4
  obtain ⟨cy,Oy,Ob,q1,q2,q3,q4,q5,q6,_⟩:=placeV p _ r' k3 k4
  have hr:=repC_erase _ q1 s1 (fun k hk => s2 _ k ((q3 k).2 (.inl hk)))
  simp only [RepW,RepC]
  exact ⟨⟨⟨B,o,none⟩,cy,by rw [k5],hr,fun _ => s2 _ B ((q3 B).2 (.inr q6)),At_add q2⟩,emp_false⟩
 ·simp only [Option.some.injEq] at e; subst e
  exact hm (by simp only [RepW]; exact src_pts R hx es)
 ·simp only [Option.some.injEq] at e; subst e
  exact hm (src_va R hx es).1
 ·split at e
  ·rename_i s p ex
   split at e
   ·rename_i y' eg
    simp only [Option.some.injEq] at e; subst e
    have hr:=(ev_rep R hx).2
    rw [ex] at hr
    obtain ⟨u,y,B,o,cs,h1,h2,h3,h4,h5,h6,h7⟩:=hr
    rw [eg] at h2
    cases h2
    have r':=repC_of_get (y:=y') (R.rep s u h1) h4
    obtain ⟨cy,Oy,Ob,q1,q2,q3,q4,q5,q6,q7⟩:=placeV _ _ r' eg h4
    have hl:=repC_len _ q1
    have hcl : cs.toList.length = cy.length:=by simpa using h7.trans hl.symm
    have hcs : cs.toList = cy:=by
     apply List.ext_getElem?
     intro j
     by_cases hj : j < cy.length
     ·have a1:=q2 j _ (List.getElem?_eq_getElem hj)
      have hj2 : j < cs.toList.length:=by omega
      have a2:=h6 j _ (List.getElem?_eq_getElem hj2)
      rw [a2] at a1
      rw [List.getElem?_eq_getElem hj,List.getElem?_eq_getElem hj2,a1]
     ·rw [List.getElem?_eq_none (by omega),List.getElem?_eq_none (by omega)]
    have hr:=repC_erase _ q1 s1 (fun k hk => s2 _ k ((q3 k).2 (.inl hk)))
    rw [h5]
    have hcs' : cs = cy.toArray:=by rw [← hcs]
    rw [hcs']
    exact repW_of_C hr (by cases y' <;> simp_all [AV.isAgg,erase])
   ·cases e
  ·rename_i fs ex
   simp only [Option.some.injEq] at e; subst e
   obtain ⟨O,g1,g2⟩:=gather1 R hx
   rw [ex] at g1
   have:=repW_erase _ g1 s1 (fun k hk => by obtain ⟨t,_,ht⟩:=(g2 k).1 hk; exact s2 t k ht)
   simpa only [erase] using this
  ·rename_i sz fs ex
   simp only [Option.some.injEq] at e; subst e
   obtain ⟨O,g1,g2⟩:=gather1 R hx
   rw [ex] at g1
   have:=repW_erase _ g1 s1 (fun k hk => by obtain ⟨t,_,ht⟩:=(g2 k).1 hk; exact s2 t k ht)
   simpa only [erase] using this
  ·cases e
theorem args_rep {S : Nat → Prop} : ∀ {xs : List Operand} {ys : List AV},(∀ x y,x ∈ xs → argOf σ x = some y → RepW w.heap S y (a.eval x) (fun _ => False)) → argsOf σ xs = some ys → RepWs w.heap S ys (xs.map a.eval) (fun _ => False)
 | [],ys,_,e => by
  simp only [argsOf,Option.some.injEq] at e; subst e
  simp only [List.map_nil,RepWs]; exact ⟨trivial,emp_false⟩
 | x :: r,ys,h,e => by
  simp only [argsOf] at e
  split at e
  ·rename_i y ys' e1 e2
   simp only [Option.some.injEq] at e; subst e
   simp only [List.map_cons,RepWs]
   exact ⟨_,_,fun _ => False,fun _ => False,rfl,by simp,by simp,h x y (List.mem_cons_self ..) e1,args_rep (fun x' y' hm => h x' y' (List.mem_cons_of_mem _ hm)) e2⟩
  ·cases e
end
def CallL (P : Program) (f : FuncId) (xs : List Operand) (dst : Option Tmp) (σ : St) (K : St → Prop) : Prop :=
 ∃ args0 args res outs,Fits P f args res outs ∧ argsOf σ xs = some args0 ∧ leL args0 args ∧ (closed res = true ∨ valOnly σ xs = true) ∧ res.target = none ∧
  (match dst with | some d => K (put σ d res []) | none => K σ)
def CallW (P : Program) (c : Call) (dst : Option Tmp) (σ : St) (K : St → Prop) : Prop :=
 match c.callee with
 | .value (.func f) => CallL P f c.args.toList dst σ K
 | _ => False
section
variable {P : Program} {C : Ctx P} {σ : St} {a : Act} {w : World} {K : St → Prop}
theorem run_call {o : Oper} {c : Call} {f : FuncId} (ho : o.op = .call c) (hc : c.callee = .value (.func f)) {fn : Func} (h1 : P.funcs[f]? = some fn) (h2 : fn.body.isNone = false) (h3 : (fn.name == "runtime.NumGoroutine") = false) :
  (execOp a.eval o).run P w = .ok (.enter f (c.args.map a.eval)) w:=by
 have h3' : fn.name ≠ "runtime.NumGoroutine" := by simpa using h3
 have h2' : fn.body ≠ none:=by intro e; rw [e] at h2; simp at h2
 simp [execOp,ho,resolve,hc,Act.eval,Deferred.ofValue,invoke,callFunc,h1,h2',h3']
theorem Rel.grow {h0 h : Array Obj} {ok O0 : Nat → Prop} {tm : Array Value} {Os : Nat → Nat → Prop} (R : Rel h0 ok O0 σ tm h Os) (h' : Array Obj) (hs : h.size ≤ h'.size) (hk : ∀ k,k < h.size → h'[k]? = h[k]?) : Rel h0 ok O0 σ tm h' Os:=by
 refine ⟨fun t v hv => repW_mono _ (R.rep t v hv) ⟨fun k hk' hlt => ⟨hk',hk k hlt⟩,fun k hk' => hk k (R.lt hk')⟩,R.out,R.dis,R.own,?_,Nat.le_trans R.size hs,fun k hlt hn => (hk k (Nat.lt_of_lt_of_le hlt R.size)).trans (R.keep k hlt hn)⟩
 intro t v hv
 have al:=R.ali t v hv
 cases htg : (look σ t).target with
 | none => exact aliasOk_none htg
 | some s =>
  refine aliasOk_same (S:=Sh ok Os) (O:=Os s) al ?_ (fun _ _ => rfl) (fun _ _ _ => rfl) (fun k hk' => hk k (R.lt hk'))
  intro s' u hs' hu
  rw [htg] at hs'; cases hs'
  exact R.rep s u hu
theorem callL_sound {o : Oper} {c : Call} {f : FuncId} {Q : Exit → Act → World → Prop} (ho : o.op = .call c) (hcal : c.callee = .value (.func f)) (hok : operOk a.tmps.size C.ks o = true) (S : Sim C σ a w) (h : CallL P f c.args.toList o.dst σ K) :
  o.wp P a w (fun a' w' => ∃ σ',K σ' ∧ Sim C σ' a' w') Q:=by
 obtain ⟨args0,args,res,outs,⟨⟨fn,f1,f2,f3⟩,F⟩,e1,ele,e2,e3,e4⟩:=h
 obtain ⟨⟨Os,R⟩,hkk,hn,hdf,hos,htp,hout⟩:=S
 simp only [operOk,Bool.and_eq_true] at hok
 have hx : ∀ x ∈ c.args.toList,opndOk a.tmps.size x = true:=by
  intro x hm
  refine opsOk_mem hok.1 x ?_
  rw [ho]
  simp only [Op.operands,Call.operands,hcal]
  simpa using .inr (by simpa using hm)
 unfold Oper.wp
 rw [run_call ho hcal f1 f2 f3]
 simp only [Oper.upon]
 -- what is shared with the callee
 have hnew : ∀ k,w.heap.size ≤ k → C.ok k ∧ ∀ t,¬ Os t k:=fun k hk => ⟨C.all k (.inr (Nat.le_trans R.size hk)),fun t ht => absurd (R.lt ht) (Nat.not_lt.2 hk)⟩
 have key : ∃ okc : Nat → Prop,(∀ k,w.heap.size ≤ k → okc k) ∧ RepWs w.heap okc args (c.args.toList.map a.eval) (fun _ => False) ∧ (closed res = true ∨ ∀ k,okc k → Sh C.ok Os k):=by
  rcases e2 with e2 | e2
  ·exact ⟨C.ok,fun k hk => (hnew k hk).1,repWs_le _ _ ele (args_rep (fun x y hm e => argOf_rep R C.all (hx x hm) e) e1),.inl e2⟩
  ·refine ⟨Sh C.ok Os,fun k hk => hnew k hk,repWs_le _ _ ele (args_rep (fun x y hm e => argVal_rep R (hx x hm) e ?_) e1),.inr fun k hk => hk⟩
   exact (List.all_eq_true.1 e2) x hm
 obtain ⟨okc,c1,c2,c3⟩:=key
 have hF:=F w (c.args.toList.map a.eval) okc (fun _ => False) (fun k hk => c1 k (hk.resolve_left id)) (repWs_mono _ c2 ⟨fun k hk _ => ⟨⟨hk,id⟩,rfl⟩,fun _ _ => rfl⟩) (R.laid C.lay (fun _ x => x.elim))
 have hargs : (c.args.toList.map a.eval).toArray = c.args.map a.eval:=by rw [← Array.toList_map,Array.toArray_toList]
 rw [hargs] at hF
 refine Calls.mono hF ?_
 rintro e w' ⟨v,Or,Oo,rfl,g1,g2,g3,g4,g5,g6,_,_,g9⟩
 simp only
 have hO : ∀ k,Or k → (∃ t ∈ ([] : List Nat),Os t k) ∨ w.heap.size ≤ k:=fun k hk => .inr ((g9 k (.inl hk)).resolve_left id)
 cases hd : o.dst with
 | none =>
  rw [hd] at e4
  refine ⟨σ,e4,⟨Os,?_⟩,hkk,hn,hdf,g1.trans hos,g2.trans htp,g3.trans hout⟩
  exact R.grow w'.heap g4 (fun k hk => g5 k hk id)
 | some d =>
  rw [hd] at e4 hok
  simp only [Bool.and_eq_true,decide_eq_true_eq] at hok
  have hdt : d < a.tmps.size:=hok.2.1
  have hsh : ∀ k,Sh C.ok Os k → k < w.heap.size → Sh C.ok (ownR Os d Or []) k:=fun k hk hlt => sh_result R hO hlt hk
  have hrep : RepW w'.heap (Sh C.ok (ownR Os d Or [])) res v Or:=by
   rcases c3 with c3 | c3
   ·exact repW_closed _ g6 c3
   ·refine repW_mono _ g6 ⟨fun k hk _ => ⟨⟨(c3 k hk.1).1,fun t ht => ?_⟩,rfl⟩,fun _ _ => rfl⟩
    unfold ownR at ht
    split at ht
    ·exact hk.2.1 ht
    ·exact (c3 k hk.1).2 t (by simpa using ht)
  have R':=R.result d res v [] w'.heap Or hdt g4 (fun k hk _ => g5 k hk id) hO hrep (aliasOk_none e3)
  refine ⟨_,e4,⟨_,R'⟩,?_,by simp [Act.put,hn],hdf,g1.trans hos,g2.trans htp,g3.trans hout⟩
  intro t ht
  have hne : d ≠ t:=by rintro rfl; simpa [ht] using hok.2.2
  show (a.tmps.setIfInBounds d v)[t]? = _
  rw [Array.getElem?_setIfInBounds_ne hne]
  exact hkk t ht
end
end Go.Proofs.YtpffgegfjpdncaaGreatDoor.Am
namespace Go.Proofs.YtpffgegfjpdncaaGreatDoor.Am
open Go.RowKit AV
set_option linter.unusedVariables false
def homeOf (σ : St) : Operand → Option (Nat × List Nat × AV)
 | .tmp t => (match look σ t with
  | .vref s p => (match getAt (look σ s) p with | some y => some (s,p,y) | none => none)
  | .vagg s p => (match getAt (look σ s) p with | some y => if 0 < ncells y then some (s,p,y) else none | none => none)
  | .ptr s q => (match getAt (look σ s) q.dropLast with | some (.box z) => if q = q.dropLast ++ [0] then some (s,q.dropLast,.box z) else none | _ => none)
  | .sl true sz xs => some (t,[],.sl true sz xs)
  | .box z => some (t,[],.box z)
  | .agg fs => some (t,[],.agg fs)
  | .arr sz fs => some (t,[],.arr sz fs)
  | _ => none)
 | _ => none
def lends (σ : St) (x : Operand) : List Nat :=
 match srcOf σ x with
 | .slo s _ _ _ => [s]
 | .pto s _ _ => [s]
 | .bad => (match ev σ x with | .vagg s _ => [s] | _ => usedOf σ [x])
 | _ => []
def HomeC (ok : Nat → Prop) (σ : St) (tm : Array Value) (h : Array Obj) (Os : Nat → Nat → Prop) (s : Nat) (p : List Nat) (y : AV) (v : Value) : Prop :=
 ∃ (u : Value) (Oy Ob : Nat → Prop),tm[s]? = some u ∧ RepW h (Sh ok Os) y v Oy ∧ (∀ k,Os s k ↔ Oy k ∨ Ob k) ∧ (∀ k,Oy k → ¬ Ob k) ∧ y.target = none ∧ (look σ s).target = none ∧
   ∀ (h' : Array Obj) (S' : Nat → Prop) (y' : AV) (Oy' : Nat → Prop),(∀ k,Ob k → h'[k]? = h[k]?) → (∀ k,Sh ok Os k → k < h.size → S' k ∧ h'[k]? = h[k]?) → RepW h' S' y' v Oy' →
    y'.isAgg = y.isAgg → ncells y' = ncells y → y'.target = none → (∀ l,y' ≠ .tup l) → (∀ k,Oy' k → ¬ Ob k) → RepW h' S' (setAt (look σ s) p y') u (fun k => Oy' k ∨ Ob k) ∧ (setAt (look σ s) p y').target = none
theorem adr_none {h : Array Obj} : ∀ (p q : List Nat) (x : AV) (B o : Nat),adr h p x B o = none → adr h (p ++ q) x B o = none
 | [],q,x,B,o,e => by simp [adr] at e
 | i :: p,q,.agg fs,B,o,e => by
  simp only [List.cons_append,adr] at e ⊢
  cases hf : fs[i]? with
  | none => rfl
  | some z => simp only [hf] at e; exact adr_none p q z _ _ e
 | i :: p,q,.arr sz fs,B,o,e => by
  simp only [List.cons_append,adr] at e ⊢
  cases hf : fs[i]? with
  | none => rfl
  | some z => simp only [hf] at e; exact adr_none p q z _ _ e
 | i :: p,q,.sl true sz fs,B,o,e => by
  simp only [List.cons_append,adr] at e ⊢
  split at e
  ·cases hf : fs[i]? with
   | none => rfl
   | some z => simp only [hf] at e; exact adr_none p q z _ _ e
  ·rfl
 | i :: p,q,.box x,B,o,e => by
  simp only [List.cons_append,adr] at e ⊢
  split at e
  ·split at e
   ·rename_i hi; rw [if_pos hi]; exact adr_none p q x _ _ e
   ·rename_i hi; rw [if_neg hi]
  ·rfl
 | i :: p,q,.undef,B,o,e => rfl
 | i :: p,q,.mp _,B,o,e => rfl
 | i :: p,q,.oth v,B,o,e => rfl
 | i :: p,q,.int k n,B,o,e => rfl
 | i :: p,q,.bool b,B,o,e => rfl
 | i :: p,q,.str s,B,o,e => rfl
 | i :: p,q,.sl false sz xs,B,o,e => rfl
 | i :: p,q,.dptr x,B,o,e => rfl
 | i :: p,q,.tup _,B,o,e => rfl
 | i :: p,q,.vref ..,B,o,e => rfl
 | i :: p,q,.vagg ..,B,o,e => rfl
 | i :: p,q,.vsub ..,B,o,e => rfl
 | i :: p,q,.ptr ..,B,o,e => rfl
theorem adrV_none {h : Array Obj} (i : Nat) (p q : List Nat) (x : AV) (v : Value) (e : adrV h (i :: p) x v = none) : adrV h (i :: p ++ q) x v = none:=by
 cases x with
 | sl own sz fs =>
  cases own with
  | false => rfl
  | true =>
   cases v with
   | slice b l c =>
    cases b with
    | none => rfl
    | some b =>
     simp only [List.cons_append,adrV] at e ⊢
     cases hf : fs[i]? with
     | none => rfl
     | some z => simp only [hf] at e; exact adr_none p q z _ _ e
   | _ => rfl
 | box x =>
  cases v with
  | pointer b =>
   cases b with
   | none => rfl
   | some b =>
    simp only [List.cons_append,adrV] at e ⊢
    split at e
    ·rename_i hi; rw [if_pos hi]; exact adr_none p q x _ _ e
    ·rename_i hi; rw [if_neg hi]
  | _ => rfl
 | _ => rfl
section
variable {P : Program} {h0 : Array Obj} {ok O0 : Nat → Prop} {σ : St} {a : Act} {w : World} {Os : Nat → Nat → Prop}
theorem argOf_repS (R : Rel h0 ok O0 σ a.tmps w.heap Os) {S' : Nat → Prop} (s1 : ∀ k,Sh ok Os k → S' k) {x : Operand} (hx : opndOk a.tmps.size x = true) {y : AV} (e : argOf σ x = some y)
  (s2 : ∀ t ∈ lends σ x,∀ k,Os t k → S' k) : RepW w.heap S' y (a.eval x) (fun _ => False):=by
 have hm : ∀ {y : AV},RepW w.heap (Sh ok Os) y (a.eval x) (fun _ => False) → RepW w.heap S' y (a.eval x) (fun _ => False):=fun r => repW_mono _ r ⟨fun k hk _ => ⟨s1 k hk,rfl⟩,fun _ _ => rfl⟩
 unfold argOf at e
 unfold lends at s2
 split at e <;> rename_i es
 ·simp only [Option.some.injEq] at e; subst e
  simp only [es,List.mem_singleton,forall_eq] at s2
  obtain ⟨u,k1,k2,k3,k4⟩:=src_slo R hx es
  obtain ⟨⟨Oy,r,hOy⟩,_⟩:=slo_rep k2 k3 k4
  have:=repC_erase _ r s1 (fun k hk => s2 k (hOy k hk))
  simp only [erase] at this
  simpa only [RepW] using this
 ·simp only [Option.some.injEq] at e; subst e
  exact hm (src_sls R hx es).2.1
 ·simp only [Option.some.injEq] at e; subst e
  simp only [es,List.mem_singleton,forall_eq] at s2
  obtain ⟨u,B,o,k1,k2,k3,k4,k5⟩:=src_pto R hx es
  rename_i s p y
  have r':=repC_of_get (y:=y) k2 k4
  obtain ⟨cy,Oy,Ob,q1,q2,q3,q4,q5,q6,_⟩:=placeV p _ r' k3 k4
  have hr:=repC_erase _ q1 s1 (fun k hk => s2 k ((q3 k).2 (.inl hk)))
  simp only [RepW,RepC]
  exact ⟨⟨⟨B,o,none⟩,cy,by rw [k5],hr,fun _ => s2 B ((q3 B).2 (.inr q6)),At_add q2⟩,emp_false⟩
 ·simp only [Option.some.injEq] at e; subst e
  exact hm (by simp only [RepW]; exact src_pts R hx es)
 ·simp only [Option.some.injEq] at e; subst e
  exact hm (src_va R hx es).1
 ·simp only [es] at s2
  split at e
  ·rename_i s p ex
   simp only [ex,List.mem_singleton,forall_eq] at s2
   split at e
   ·rename_i y' eg
    simp only [Option.some.injEq] at e; subst e
    have hr:=(ev_rep R hx).2
    rw [ex] at hr
    obtain ⟨u,y,B,o,cs,h1,h2,h3,h4,h5,h6,h7⟩:=hr
    rw [eg] at h2
    cases h2
    have r':=repC_of_get (y:=y') (R.rep s u h1) h4
    obtain ⟨cy,Oy,Ob,q1,q2,q3,q4,q5,q6,q7⟩:=placeV _ _ r' eg h4
    have hl:=repC_len _ q1
    have hcl : cs.toList.length = cy.length:=by simpa using h7.trans hl.symm
    have hcs : cs.toList = cy:=by
     apply List.ext_getElem?
     intro j
     by_cases hj : j < cy.length
     ·have a1:=q2 j _ (List.getElem?_eq_getElem hj)
      have hj2 : j < cs.toList.length:=by omega
      have a2:=h6 j _ (List.getElem?_eq_getElem hj2)
      rw [a2] at a1
      rw [List.getElem?_eq_getElem hj,List.getElem?_eq_getElem hj2,a1]
     ·rw [List.getElem?_eq_none (by omega),List.getElem?_eq_none (by omega)]
    have hr:=repC_erase _ q1 s1 (fun k hk => s2 k ((q3 k).2 (.inl hk)))
    rw [h5]
    have hcs' : cs = cy.toArray:=by rw [← hcs]
    rw [hcs']
    exact repW_of_C hr (by cases y' <;> simp_all [AV.isAgg,erase])
   ·cases e
  ·rename_i fs ex
   simp only [Option.some.injEq] at e; subst e
   simp only [ex] at s2
   obtain ⟨O,g1,g2⟩:=gather1 R hx
   rw [ex] at g1
   have:=repW_erase _ g1 s1 (fun k hk => by obtain ⟨t,hm',ht⟩:=(g2 k).1 hk; exact s2 t hm' k ht)
   simpa only [erase] using this
  ·rename_i sz fs ex
   simp only [Option.some.injEq] at e; subst e
   simp only [ex] at s2
   obtain ⟨O,g1,g2⟩:=gather1 R hx
   rw [ex] at g1
   have:=repW_erase _ g1 s1 (fun k hk => by obtain ⟨t,hm',ht⟩:=(g2 k).1 hk; exact s2 t hm' k ht)
   simpa only [erase] using this
  ·cases e
theorem repC_of_W' {h : Array Obj} {S : Nat → Prop} {x : AV} {v : Value} {O : Nat → Prop} (r : RepW h S x v O) (ha : x.isAgg = false) (ht : x.target = none) (hv : v.oneCell' = true) (hn : ncells x = 1) (htup : ∀ l,x ≠ .tup l) : RepC h S x [v] O:=by
 cases x <;> simp only [AV.isAgg,AV.target,reduceCtorEq] at ha ht <;> first | (simpa only [RepW] using r) | skip
 ·simp only [RepW] at r
  simp only [RepC]
  exact ⟨⟨v,rfl,hv⟩,r⟩
 ·exact absurd rfl (htup _)
theorem home_rep (R : Rel h0 ok O0 σ a.tmps w.heap Os) {x : Operand} (hx : opndOk a.tmps.size x = true) {s : Nat} {p : List Nat} {y : AV} (e : homeOf σ x = some (s,p,y)) :
  HomeC ok σ a.tmps w.heap Os s p y (a.eval x):=by
 cases x with
 | tmp t =>
  have htl : t < a.tmps.size:=by simpa [opndOk] using hx
  have hv : a.tmps[t]? = some (a.eval (.tmp t)):=by simp [Act.eval,htl]
  generalize a.eval (.tmp t) = v at hv
  have own : ∀ y,look σ t = y → y.target = none → s = t → p = [] → HomeC ok σ a.tmps w.heap Os s p y v:=by
   rintro y el etn rfl rfl
   have hr:=R.rep s v hv
   rw [el] at hr
   refine ⟨v,Os s,fun _ => False,hv,hr,by simp,by simp,etn,by rw [el]; exact etn,?_⟩
   intro h' S' y' Oy' _ _ r' _ _ ht' _ _
   have hs : ∀ z,setAt z [] y' = y':=by intro z; cases z <;> rfl
   rw [hs]
   exact ⟨repW_cong _ r' (by simp),ht'⟩
  -- a word for a header
  have hdrC : ∀ (s' : Nat) (p' : List Nat) (u : Value) (y : AV),a.tmps[s']? = some u → getAt (look σ s') p' = some y → y.hdr = true → ValAt w.heap (look σ s') u p' v → s = s' → p = p' →
   HomeC ok σ a.tmps w.heap Os s p y v:=by
   rintro s' p' u y h1 h2 h3 h4 rfl rfl
   have hyn : y.target = none:=by cases y <;> simp_all [AV.hdr,AV.target]
   have hxn:=tgt_get h2 hyn
   have hya : y.isAgg = false:=by cases y <;> simp_all [AV.hdr,AV.isAgg]
   have hy1 : ncells y = 1:=by cases y <;> simp_all [AV.hdr,ncells]
   rcases h4 with ⟨rfl,rfl⟩ | ⟨B,o,h5,h6⟩
   ·have hl : y = look σ s:=by
     have : ∀ z : AV,getAt z [] = some z:=by intro z; cases z <;> rfl
     rw [this] at h2; exact (Option.some.inj h2).symm
    subst hl
    refine ⟨v,Os s,fun _ => False,h1,R.rep s v h1,by simp,by simp,hyn,hxn,?_⟩
    intro h' S' y' Oy' _ _ r' _ _ ht' _ _
    have hs : ∀ z,setAt z [] y' = y':=by intro z; cases z <;> rfl
    rw [hs]
    exact ⟨repW_cong _ r' (by simp),ht'⟩
   ·have r':=repC_of_get (y:=y) (R.rep s u h1) h5
    obtain ⟨cy,Oy,Ob,q1,q2,q3,q4,q5,q6,q7⟩:=placeV _ _ r' h2 h5
    have hl:=repC_len _ q1
    obtain ⟨v',rfl⟩:=List.length_eq_one_iff.1 (hl.trans hy1)
    have hc:=q2 0 _ rfl
    rw [Nat.add_zero,h6] at hc
    injection hc with hc
    subst hc
    refine ⟨u,Oy,Ob,h1,repW_of_C1 q1 hya,q3,q4,hyn,hxn,?_⟩
    intro h' S' y' Oy' hOb hSh ry ea en et etup hd
    have hp : ∃ i p',p = i :: p':=by
     cases p with
     | nil => simp [adrV] at h5
     | cons i p' => exact ⟨i,p',rfl⟩
    obtain ⟨i,p',rfl⟩:=hp
    have hrc:=repC_of_W' ry (ea.trans hya) et (repC_one _ q1 v (by simp)) (en.trans hy1) etup
    have hw : Wrote Ob w.heap h' B o [v]:=by
     obtain ⟨c,c',te,fr,w1,w2,w3,w4,w5⟩:=(wrote_same (W:=fun _ => True) q2 (by simp)).row
     rw [w1] at w2
     simp only [Option.some.injEq,Obj.cells.injEq] at w2
     obtain ⟨rfl,-,-⟩:=w2
     exact ⟨fun k hk _ => hOb k hk,c,c,te,fr,w1,(hOb B q6).trans w1,rfl,w4,w5⟩
    have hb:=q7 Ob h' S' y' [v] Oy' hw (fun _ hk => hk) rfl hrc hSh hd
    exact ⟨repW_of_C1 hb (setAt_noagg h5 _),setAt_target hxn⟩
  simp only [homeOf] at e
  split at e
  ·rename_i s' p' el
   split at e
   ·rename_i y' eg
    simp only [Option.some.injEq,Prod.mk.injEq] at e
    obtain ⟨rfl,rfl,rfl⟩:=e
    have ha:=R.ali t _ hv
    rw [el] at ha
    obtain ⟨u,y2,h1,h2,h3,h4⟩:=ha
    rw [eg] at h2; cases h2
    exact hdrC _ _ u _ h1 eg h3 h4 rfl rfl
   ·cases e
  ·rename_i s' p' el
   split at e
   ·rename_i y' eg
    split at e
    case isFalse => cases e
    rename_i hpos0
    simp only [Option.some.injEq,Prod.mk.injEq] at e
    obtain ⟨rfl,rfl,rfl⟩:=e
    have ha:=R.ali t _ hv
    rw [el] at ha
    obtain ⟨u,y2,B,o,cs,h1,h2,h3,h4,h5,h6,h7⟩:=ha
    obtain rfl : y' = y2:=by rw [eg] at h2; exact Option.some.inj h2
    have hyn : y'.target = none:=by cases y' <;> simp_all [AV.isAgg,AV.target]
    have hxn:=tgt_get eg hyn
    have r':=repC_of_get (y:=y') (R.rep s' u h1) h4
    obtain ⟨cy,Oy,Ob,q1,q2,q3,q4,q5,q6,q7⟩:=placeV _ _ r' eg h4
    have hl:=repC_len _ q1
    have hcl : cs.toList.length = cy.length:=by simpa using h7.trans hl.symm
    have hcs : cs.toList = cy:=by
     apply List.ext_getElem?
     intro j
     by_cases hj : j < cy.length
     ·have a1:=q2 j _ (List.getElem?_eq_getElem hj)
      have hj2 : j < cs.toList.length:=by omega
      have a2:=h6 j _ (List.getElem?_eq_getElem hj2)
      rw [a2] at a1
      rw [List.getElem?_eq_getElem hj,List.getElem?_eq_getElem hj2,a1]
     ·rw [List.getElem?_eq_none (by omega),List.getElem?_eq_none (by omega)]
    have hv' : v = .agg cy.toArray:=by rw [h5,← hcs]
    refine ⟨u,Oy,Ob,h1,by rw [hv']; exact repW_of_C q1 h3,q3,q4,hyn,hxn,?_⟩
    intro h' S' y' Oy' hOb hSh ry ea en et etup hd
    have hp : ∃ i p'',p' = i :: p'':=by
     cases p' with
     | nil => simp [adrV] at h4
     | cons i p'' => exact ⟨i,p'',rfl⟩
    obtain ⟨i,p'',rfl⟩:=hp
    have hrc : RepC h' S' y' cy Oy':=by
     rw [hv'] at ry
     rw [h3] at ea
     cases y' <;> simp only [AV.isAgg,Bool.false_eq_true] at ea
     ·simp only [RepW] at ry
      obtain ⟨cs',e1,e2⟩:=ry
      have : cs' = cy.toArray:=by injection e1 with e1; exact e1.symm
      subst this; simpa using e2
     ·simp only [RepW] at ry
      obtain ⟨cs',e1,e2⟩:=ry
      have : cs' = cy.toArray:=by injection e1 with e1; exact e1.symm
      subst this; simpa using e2
    have hpos : 0 < cy.length:=by omega
    have hw : Wrote Ob w.heap h' B o cy:=by
     obtain ⟨c,c',te,fr,w1,w2,w3,w4,w5⟩:=(wrote_same (W:=fun _ => True) q2 hpos).row
     rw [w1] at w2
     simp only [Option.some.injEq,Obj.cells.injEq] at w2
     obtain ⟨rfl,-,-⟩:=w2
     exact ⟨fun k hk _ => hOb k hk,c,c,te,fr,w1,(hOb B q6).trans w1,rfl,w4,w5⟩
    have hb:=q7 Ob h' S' y' cy Oy' hw (fun _ hk => hk) rfl hrc hSh hd
    exact ⟨repW_of_C1 hb (setAt_noagg h4 _),setAt_target hxn⟩
   ·cases e
  ·rename_i s' q el
   split at e
   ·rename_i z eg
    split at e
    ·rename_i hq
     simp only [Option.some.injEq,Prod.mk.injEq] at e
     obtain ⟨rfl,rfl,rfl⟩:=e
     have ha:=R.ali t _ hv
     rw [el] at ha
     obtain ⟨u,y2,B,o,h1,h2,h3,h4⟩:=ha
     refine hdrC _ _ u _ h1 eg rfl ?_ rfl rfl
     subst h4
     generalize q.dropLast = p0 at hq eg
     subst hq
     cases p0 with
     | nil =>
      have hl : look σ s' = .box z:=by
       have : ∀ z : AV,getAt z [] = some z:=by intro z; cases z <;> rfl
       rw [this] at eg; exact Option.some.inj eg
      have hr:=R.rep s' u h1
      rw [hl] at hr
      simp only [RepW,RepC] at hr
      obtain ⟨b,c,te,m,O1,g1,_⟩:=hr
      have g1' : u = .pointer (some ⟨b,0,none⟩):=by simpa using g1
      subst g1'
      rw [hl] at h3
      simp [adrV,adr] at h3
      obtain ⟨rfl,rfl⟩:=h3
      exact .inl ⟨rfl,rfl⟩
     | cons i p1 =>
      have hne : ∃ B1 o1,adrV w.heap (i :: p1) (look σ s') u = some (B1,o1):=by
       cases hh : adrV w.heap (i :: p1) (look σ s') u with
       | some q => exact ⟨q.1,q.2,rfl⟩
       | none =>
        exfalso
        have : adrV w.heap (i :: p1 ++ [0]) (look σ s') u = none:=adrV_none i p1 [0] _ _ hh
        rw [this] at h3; cases h3
      obtain ⟨B1,o1,hne⟩:=hne
      rw [adrV_app _ _ _ eg hne] at h3
      have r':=repC_of_get (y:=.box z) (R.rep s' u h1) hne
      obtain ⟨cy,Oy,Ob,q1,q2,q3,q4,q5,q6,q7⟩:=placeV _ _ r' eg hne
      simp only [RepC] at q1
      obtain ⟨b,c,te,m,O1,g1,_⟩:=q1
      subst g1
      have hc:=q2 0 _ rfl
      rw [Nat.add_zero] at hc
      simp [adr,hc] at h3
      obtain ⟨rfl,rfl⟩:=h3
      exact .inr ⟨B1,o1,hne,hc⟩
    ·cases e
   ·cases e
  all_goals (first | (simp only [Option.some.injEq,Prod.mk.injEq] at e; obtain ⟨rfl,rfl,rfl⟩:=e; rename_i el; exact own _ el rfl rfl rfl) | cases e)
 | _ => simp [homeOf] at e
end
end Go.Proofs.YtpffgegfjpdncaaGreatDoor.Am
namespace Go.Proofs.YtpffgegfjpdncaaGreatDoor.Am
open Go.RowKit AV
set_option linter.unusedVariables false
def argsM (σ : St) (s i : Nat) (y : AV) : Nat → List Operand → Option (List AV)
 | _,[] => some []
 | j,x :: r => if j = i then (match argsM σ s i y (j + 1) r with | some ys => some (y :: ys) | none => none)
  else (match argOf σ x,argsM σ s i y (j + 1) r with | some z,some ys => if (lends σ x).contains s then none else some (z :: ys) | _,_ => none)
def isVal (σ : St) (x : Operand) : Bool:=match srcOf σ x with | .sls _ _ | .pts _ | .va _ => true | _ => false
def othersVal (σ : St) (i : Nat) : Nat → List Operand → Bool
 | _,[] => true
 | j,x :: r => (j == i || isVal σ x) && othersVal σ i (j + 1) r
def newsOf (dst : Option Tmp) (res : AV) (s : Nat) (z : AV) : St:=match dst with | some d => [(d,res),(s,z)] | none => [(s,z)]
def CallMi (P : Program) (i : Nat) (f : FuncId) (xs : List Operand) (dst : Option Tmp) (σ : St) (K : St → Prop) : Prop :=
 ∃ (x : Operand) (s : Nat) (p : List Nat) (y y' : AV) (args0 args : List AV) (res : AV) (outs : List AV),Fits P f args res outs ∧ xs[i]? = some x ∧ homeOf σ x = some (s,p,y) ∧ argsM σ s i y 0 xs = some args0 ∧ leL args0 args ∧ outs[i]? = some y' ∧
  (y'.isAgg = y.isAgg ∧ ncells y' = ncells y ∧ y'.target = none ∧ ∀ l,y' ≠ .tup l) ∧ ((closed res = true ∧ closed y' = true) ∨ othersVal σ i 0 xs = true) ∧ res.target = none ∧ dst ≠ some s ∧
  K (upd σ (newsOf dst res s (setAt (look σ s) p y')))
def CallM (P : Program) (f : FuncId) (xs : List Operand) (dst : Option Tmp) (σ : St) (K : St → Prop) : Prop:=∃ i,CallMi P i f xs dst σ K
section
variable {P : Program} {C : Ctx P} {σ : St} {a : Act} {w : World} {K : St → Prop}
theorem argsM_rep {S Oy : Nat → Prop} {s i : Nat} {y : AV} : ∀ {xs : List Operand} {j : Nat} {args : List AV},(∀ k x z,xs[k]? = some x → j + k ≠ i → argOf σ x = some z → s ∉ lends σ x → RepW w.heap S z (a.eval x) (fun _ => False)) →
  (∀ x,j ≤ i → xs[i - j]? = some x → RepW w.heap S y (a.eval x) Oy) → argsM σ s i y j xs = some args → (j ≤ i → i - j < xs.length) → RepWs w.heap S args (xs.map a.eval) (fun k => j ≤ i ∧ Oy k)
 | [],j,args,h1,h2,e,hl => by
  simp only [argsM,Option.some.injEq] at e; subst e
  simp only [List.map_nil,RepWs]
  refine ⟨trivial,fun k hk => ?_⟩
  have:=hl hk.1
  simp at this
 | x :: r,j,args,h1,h2,e,hl => by
  simp only [argsM] at e
  split at e
  ·rename_i hj
   subst hj
   split at e
   ·rename_i ys e2
    simp only [Option.some.injEq] at e; subst e
    have ih:=argsM_rep (S:=S) (Oy:=Oy) (xs:=r) (j:=j + 1) (fun k x' z hk hne => h1 (k + 1) x' z (by simpa using hk) (by omega)) (fun x' hle => by omega) e2 (fun hle => by omega)
    simp only [List.map_cons,RepWs]
    refine ⟨_,_,Oy,fun _ => False,rfl,fun k => by simp,by simp,h2 x (Nat.le_refl _) (by simp),repWs_cong _ ih (fun k => ?_)⟩
    constructor
    ·exact False.elim
    ·rintro ⟨h,_⟩; omega
   ·cases e
  ·rename_i hj
   split at e
   ·rename_i z ys e1 e2
    split at e
    ·cases e
    ·rename_i hc
     simp only [Option.some.injEq] at e; subst e
     have ih:=argsM_rep (S:=S) (Oy:=Oy) (xs:=r) (j:=j + 1) (fun k x' z hk hne => h1 (k + 1) x' z (by simpa using hk) (by omega)) (fun x' hle hx' => h2 x' (by omega) (by
      rw [show i - j = (i - (j + 1)) + 1 by omega]; simpa using hx')) e2 (fun hle => by have:=hl (by omega); simp at this; omega)
     simp only [List.map_cons,RepWs]
     refine ⟨_,_,fun _ => False,fun k => j + 1 ≤ i ∧ Oy k,rfl,fun k => ?_,by simp,h1 0 x z (by simp) (by omega) e1 (by simpa using hc),ih⟩
     constructor
     ·rintro ⟨h,h'⟩; exact .inr ⟨by omega,h'⟩
     ·rintro (h | ⟨h,h'⟩)
      ·exact h.elim
      ·exact ⟨by omega,h'⟩
   ·cases e
theorem othersVal_get {i : Nat} : ∀ {xs : List Operand} {j k : Nat} {x : Operand},othersVal σ i j xs = true → xs[k]? = some x → j + k ≠ i → isVal σ x = true
 | [],j,k,x,h,e,hne => by simp at e
 | z :: r,j,0,x,h,e,hne => by
  simp only [List.getElem?_cons_zero,Option.some.injEq] at e; subst e
  simp only [othersVal,Bool.and_eq_true,Bool.or_eq_true,beq_iff_eq] at h
  exact h.1.resolve_left (by omega)
 | z :: r,j,k + 1,x,h,e,hne => by
  simp only [othersVal,Bool.and_eq_true] at h
  exact othersVal_get h.2 (by simpa using e) (by omega)
theorem repWs_get {h : Array Obj} {S : Nat → Prop} : ∀ (xs : List AV) (i : Nat) {y : AV} {vs : List Value} {O : Nat → Prop},RepWs h S xs vs O → xs[i]? = some y →
  ∃ v Oi,vs[i]? = some v ∧ RepW h S y v Oi ∧ ∀ k,Oi k → O k
 | [],i,y,vs,O,r,e => by simp at e
 | x :: xs,0,y,vs,O,r,e => by
  simp only [RepWs] at r
  obtain ⟨v,vs',O1,O2,rfl,h2,h3,h4,h5⟩:=r
  obtain rfl : x = y:=by simpa using e
  exact ⟨v,O1,rfl,h4,fun k hk => (h2 k).2 (.inl hk)⟩
 | x :: xs,i + 1,y,vs,O,r,e => by
  simp only [RepWs] at r
  obtain ⟨v,vs',O1,O2,rfl,h2,h3,h4,h5⟩:=r
  obtain ⟨v',Oi,g1,g2,g3⟩:=repWs_get xs i h5 (by simpa using e)
  exact ⟨v',Oi,by simpa using g1,g2,fun k hk => (h2 k).2 (.inr (g3 k hk))⟩
theorem callM_sound {o : Oper} {c : Call} {f : FuncId} {Q : Exit → Act → World → Prop} (ho : o.op = .call c) (hcal : c.callee = .value (.func f)) (hok : operOk a.tmps.size C.ks o = true) (S : Sim C σ a w) (h : CallM P f c.args.toList o.dst σ K) :
  o.wp P a w (fun a' w' => ∃ σ',K σ' ∧ Sim C σ' a' w') Q:=by
 obtain ⟨i,x,s,p,y,y',args0,args,res,outs,⟨⟨fn,f1,f2,f3⟩,F⟩,hxi,hhome,e1,ele,hout',⟨ya,yn,yt,ytup⟩,e2,e3,hds,hK⟩:=h
 obtain ⟨⟨Os,R⟩,hkk,hn,hdf,hos,htp,hout⟩:=S
 simp only [operOk,Bool.and_eq_true] at hok
 have hx : ∀ x ∈ c.args.toList,opndOk a.tmps.size x = true:=by
  intro x hm
  refine opsOk_mem hok.1 x ?_
  rw [ho]
  simp only [Op.operands,Call.operands,hcal]
  simpa using .inr (by simpa using hm)
 have hxm:=List.mem_of_getElem? hxi
 obtain ⟨u,Oy,Ob,hu,ry,q3,q4,hyt,hst,hupd⟩:=home_rep R (hx x hxm) hhome
 unfold Oper.wp
 rw [run_call ho hcal f1 f2 f3]
 simp only [Oper.upon]
 have hnew : ∀ k,w.heap.size ≤ k → C.ok k ∧ ∀ t,¬ Os t k:=fun k hk => ⟨C.all k (.inr (Nat.le_trans R.size hk)),fun t ht => absurd (R.lt ht) (Nat.not_lt.2 hk)⟩
 have hyok : ∀ k,Oy k → C.ok k:=fun k hk => C.all k (R.own s k ((q3 k).2 (.inl hk)))
 have hshy : ∀ k,Sh C.ok Os k → ¬ Oy k:=fun k hk hy => hk.2 s ((q3 k).2 (.inl hy))
 have hil : i < c.args.toList.length:=(List.getElem?_eq_some_iff.1 hxi).1
 have key : ∃ okc : Nat → Prop,(∀ k,Oy k ∨ w.heap.size ≤ k → okc k) ∧ RepWs w.heap (fun k => okc k ∧ ¬ Oy k) args (c.args.toList.map a.eval) Oy ∧ ((closed res = true ∧ closed y' = true) ∨ ∀ k,okc k → Sh C.ok Os k ∨ Oy k):=by
  have fin : ∀ okc : Nat → Prop,(∀ k,Sh C.ok Os k → okc k) → (∀ k x z,c.args.toList[k]? = some x → 0 + k ≠ i → argOf σ x = some z → s ∉ lends σ x → RepW w.heap (fun k => okc k ∧ ¬ Oy k) z (a.eval x) (fun _ => False)) →
    RepWs w.heap (fun k => okc k ∧ ¬ Oy k) args (c.args.toList.map a.eval) Oy:=by
   intro okc h1 h2
   have:=argsM_rep (Oy:=Oy) h2 (fun x' _ hx' => by
    rw [Nat.sub_zero,hxi] at hx'; cases hx'
    exact repW_mono _ ry ⟨fun k hk _ => ⟨⟨h1 k hk,hshy k hk⟩,rfl⟩,fun _ _ => rfl⟩) e1 (fun _ => by simpa using hil)
   exact repWs_le _ _ ele (repWs_cong _ this (fun k => by simp))
  rcases e2 with e2 | e2
  ·refine ⟨C.ok,fun k hk => hk.elim (hyok k) (fun hk => (hnew k hk).1),fin _ (fun k hk => hk.1) ?_,.inl e2⟩
   intro k x' z hk _ ez hl
   refine argOf_repS R (fun k hk => ⟨hk.1,hshy k hk⟩) (hx x' (List.mem_of_getElem? hk)) ez ?_
   intro t ht k' hk'
   refine ⟨C.all k' (R.own t k' hk'),fun hy => ?_⟩
   have:=R.dis _ _ k' hk' ((q3 k').2 (.inl hy))
   subst this
   exact hl ht
  ·refine ⟨fun k => Sh C.ok Os k ∨ Oy k,fun k hk => hk.elim .inr (fun hk => .inl (hnew k hk)),fin _ (fun k hk => .inl hk) ?_,.inr fun k hk => hk⟩
   intro k x' z hk hne ez hl
   have hv:=othersVal_get e2 hk hne
   exact repW_mono _ (argVal_rep R (hx x' (List.mem_of_getElem? hk)) ez (by unfold isVal at hv; split at hv <;> simp_all)) ⟨fun k hk _ => ⟨⟨.inl hk,hshy k hk⟩,rfl⟩,fun _ _ => rfl⟩
 obtain ⟨okc,c1,c2,c3⟩:=key
 have hF:=F w (c.args.toList.map a.eval) okc Oy c1 c2 (R.laid C.lay fun k hk => R.own _ k ((q3 k).2 (.inl hk)))
 have hargs : (c.args.toList.map a.eval).toArray = c.args.map a.eval:=by rw [← Array.toList_map,Array.toArray_toList]
 rw [hargs] at hF
 refine Calls.mono hF ?_
 rintro e w' ⟨v,Or,Oo,rfl,g1,g2,g3,g4,g5,g6,g7,g8,g9⟩
 simp only
 obtain ⟨vi,Oi,k1,k2,k3⟩:=repWs_get outs i g7 hout'
 have hvi : vi = a.eval x:=by
  rw [List.getElem?_take] at k1
  split at k1
  ·rw [List.getElem?_map,hxi] at k1
   simpa using k1.symm
  ·cases k1
 subst hvi
 have hOr : ∀ k,Or k → Oy k ∨ w.heap.size ≤ k:=fun k hk => g9 k (.inl hk)
 have hOi : ∀ k,Oi k → Oy k ∨ w.heap.size ≤ k:=fun k hk => g9 k (.inr (k3 k hk))
 have hOri : ∀ k,Or k → ¬ Oi k:=fun k hk hi => g8 k hk (k3 k hi)
 have hObl : ∀ k,Ob k → Os s k:=fun k hk => (q3 k).2 (.inr hk)
 have hOyl : ∀ k,Oy k → Os s k:=fun k hk => (q3 k).2 (.inl hk)
 have hsame : ∀ k,k < w.heap.size → ¬ Oy k → w'.heap[k]? = w.heap[k]?:=g5
 have hslt : s < a.tmps.size:=(Array.getElem?_eq_some_iff.1 hu).1
 -- the owners behind the call
 let Os' : Nat → Nat → Prop:=fun t k => if t = s then Oi k ∨ Ob k else if o.dst = some t then Or k else Os t k
 have hs' : ∀ k,Os' s k ↔ Oi k ∨ Ob k:=fun k => by simp [Os']
 have hd' : ∀ d,o.dst = some d → ∀ k,Os' d k ↔ Or k:=by
  intro d hd k
  have hne : d ≠ s:=fun e => hds (e ▸ hd)
  simp [Os',hne,hd]
 have ho' : ∀ t,t ≠ s → o.dst ≠ some t → ∀ k,Os' t k ↔ Os t k:=by
  intro t h1 h2 k
  simp [Os',h1,h2]
 have hcase : ∀ t k,Os' t k → (t = s ∧ (Oi k ∨ Ob k)) ∨ (t ≠ s ∧ o.dst = some t ∧ Or k) ∨ (t ≠ s ∧ o.dst ≠ some t ∧ Os t k):=by
  intro t k hk
  by_cases h1 : t = s
  ·subst h1; exact .inl ⟨rfl,(hs' k).1 hk⟩
  ·by_cases h2 : o.dst = some t
   ·exact .inr (.inl ⟨h1,h2,(hd' t h2 k).1 hk⟩)
   ·exact .inr (.inr ⟨h1,h2,(ho' t h1 h2 k).1 hk⟩)
 have hfrom : ∀ t k,Os' t k → (∃ t',Os t' k) ∨ w.heap.size ≤ k:=by
  intro t k hk
  rcases hcase t k hk with ⟨_,hk | hk⟩ | ⟨_,_,hk⟩ | ⟨_,_,hk⟩
  ·exact (hOi k hk).imp (fun h => ⟨s,hOyl k h⟩) id
  ·exact .inl ⟨s,hObl k hk⟩
  ·exact (hOr k hk).imp (fun h => ⟨s,hOyl k h⟩) id
  ·exact .inl ⟨t,hk⟩
 have hSh : ∀ k,k < w.heap.size → Sh C.ok Os k → Sh C.ok Os' k:=by
  intro k hlt hk
  refine ⟨hk.1,fun t ht => ?_⟩
  rcases hfrom t k ht with ⟨t',ht'⟩ | hge
  ·exact hk.2 t' ht'
  ·omega
 have hS2 : ¬ (closed res = true ∧ closed y' = true) → ∀ k,okc k ∧ ¬ Or k ∧ ¬ Oo k → Sh C.ok Os' k:=by
  intro hnc k ⟨h1,h2,h3⟩
  have c3':=c3.resolve_left hnc k h1
  refine ⟨c3'.elim (fun h => h.1) (hyok k),fun t ht => ?_⟩
  rcases hcase t k ht with ⟨_,hk | hk⟩ | ⟨_,_,hk⟩ | ⟨hts,_,hk⟩
  ·exact h3 (k3 k hk)
  ·rcases c3' with h | h
   ·exact h.2 s (hObl k hk)
   ·exact q4 k h hk
  ·exact h2 hk
  ·rcases c3' with h | h
   ·exact h.2 t hk
   ·exact hts (R.dis _ _ k hk (hOyl k h))
 have rres : RepW w'.heap (Sh C.ok Os') res v Or:=by
  by_cases hc : closed res = true ∧ closed y' = true
  ·exact repW_closed _ g6 hc.1
  ·exact repW_mono _ g6 ⟨fun k hk _ => ⟨hS2 hc k hk,rfl⟩,fun _ _ => rfl⟩
 have rout : RepW w'.heap (Sh C.ok Os') y' (a.eval x) Oi:=by
  by_cases hc : closed res = true ∧ closed y' = true
  ·exact repW_closed _ k2 hc.2
  ·exact repW_mono _ k2 ⟨fun k hk _ => ⟨hS2 hc k hk,rfl⟩,fun _ _ => rfl⟩
 have hObs : ∀ k,Ob k → w'.heap[k]? = w.heap[k]?:=fun k hk => hsame k (R.lt (hObl k hk)) (fun hy => q4 k hy hk)
 obtain ⟨rs,rst⟩:=hupd w'.heap (Sh C.ok Os') y' Oi hObs (fun k hk hlt => ⟨hSh k hlt hk,hsame k hlt (hshy k hk)⟩) rout ya yn yt ytup (fun k hk hb => by
  rcases hOi k hk with h | h
  ·exact q4 k h hb
  ·exact absurd (R.lt (hObl k hb)) (Nat.not_lt.2 h))
 have hkeys : ∀ t,t ∈ keys (newsOf o.dst res s (setAt (look σ s) p y')) ↔ t = s ∨ o.dst = some t:=by
  intro t
  cases o.dst with
  | none => simp [newsOf,keys]
  | some d => simp [newsOf,keys,eq_comm]; exact or_comm
 have hlookS : look (newsOf o.dst res s (setAt (look σ s) p y')) s = setAt (look σ s) p y':=by
  cases hd : o.dst with
  | none => simp [newsOf,look]
  | some d =>
   have hne : d ≠ s:=fun e => hds (e ▸ hd)
   simp [newsOf,look,hne]
 have hlookD : ∀ d,o.dst = some d → look (newsOf o.dst res s (setAt (look σ s) p y')) d = res:=by
  intro d hd; rw [hd]; simp [newsOf,look]
 have hdlt : ∀ d,o.dst = some d → d < a.tmps.size ∧ d ∉ C.ks:=by
  intro d hd
  have:=hok.2
  rw [hd] at this
  simpa using this
 have hputS : ∀ t,o.dst ≠ some t → (a.put o.dst v).tmps[t]? = a.tmps[t]?:=by
  intro t ht
  cases hd : o.dst with
  | none => rfl
  | some d =>
   show (a.tmps.setIfInBounds d v)[t]? = _
   rw [Array.getElem?_setIfInBounds_ne (by rintro rfl; exact ht hd)]
 have hputD : ∀ d,o.dst = some d → (a.put o.dst v).tmps[d]? = some v:=by
  intro d hd
  rw [hd]
  show (a.tmps.setIfInBounds d v)[d]? = _
  rw [Array.getElem?_setIfInBounds_self_of_lt (hdlt d hd).1]
 have hputZ : (a.put o.dst v).tmps.size = a.tmps.size:=by cases o.dst <;> simp [Act.put]
 have R':=R.step (newsOf o.dst res s (setAt (look σ s) p y')) (a.put o.dst v).tmps w'.heap Os' hputZ
  (fun t ht => by
   rw [hkeys] at ht
   exact hputS t (fun e => ht (.inr e)))
  (fun t ht k => by
   rw [hkeys] at ht
   exact ho' t (fun e => ht (.inl e)) (fun e => ht (.inr e)) k)
  (fun t ht k hk => by
   rw [hkeys] at ht
   refine hsame k (R.lt hk) fun hy => ht (.inl (R.dis _ _ k hk (hOyl k hy))))
  (fun k hlt hk => ⟨(hSh k hlt hk).2,hsame k hlt (hshy k hk)⟩)
  (fun t ht v' hv' => by
   rw [hkeys] at ht
   by_cases hts : t = s
   ·subst hts
    rw [hputS t hds,hu] at hv'
    cases hv'
    rw [hlookS]
    exact repW_cong _ rs (fun k => hs' k)
   ·have hd:=ht.resolve_left hts
    rw [hputD t hd] at hv'
    cases hv'
    rw [hlookD t hd]
    exact repW_cong _ rres (fun k => hd' t hd k))
  (fun t ht hge => by
   rw [hkeys] at ht
   exfalso
   rcases ht with rfl | hd
   ·omega
   ·exact absurd (hdlt t hd).1 (Nat.not_lt.2 hge))
  (fun s1 t1 k hk1 hk2 => by
   rcases hcase s1 k hk1 with ⟨rfl,a1⟩ | ⟨b1,b2,a1⟩ | ⟨b1,b2,a1⟩ <;> rcases hcase t1 k hk2 with ⟨rfl,a2⟩ | ⟨d1,d2,a2⟩ | ⟨d1,d2,a2⟩
   ·rfl
   ·exfalso
    rcases a1 with a1 | a1
    ·exact hOri k a2 a1
    ·rcases hOr k a2 with h | h
     ·exact q4 k h a1
     ·exact absurd (R.lt (hObl k a1)) (Nat.not_lt.2 h)
   ·exfalso
    rcases a1 with a1 | a1
    ·rcases hOi k a1 with h | h
     ·exact d1 (R.dis _ _ k a2 (hOyl k h))
     ·exact absurd (R.lt a2) (Nat.not_lt.2 h)
    ·exact d1 (R.dis _ _ k a2 (hObl k a1))
   ·exfalso
    rcases a2 with a2 | a2
    ·exact hOri k a1 a2
    ·rcases hOr k a1 with h | h
     ·exact q4 k h a2
     ·exact absurd (R.lt (hObl k a2)) (Nat.not_lt.2 h)
   ·rw [b2] at d2; exact Option.some.inj d2
   ·exfalso
    rcases hOr k a1 with h | h
    ·exact d1 (R.dis _ _ k a2 (hOyl k h))
    ·exact absurd (R.lt a2) (Nat.not_lt.2 h)
   ·exfalso
    rcases a2 with a2 | a2
    ·rcases hOi k a2 with h | h
     ·exact b1 (R.dis _ _ k a1 (hOyl k h))
     ·exact absurd (R.lt a1) (Nat.not_lt.2 h)
    ·exact b1 (R.dis _ _ k a1 (hObl k a2))
   ·exfalso
    rcases hOr k a2 with h | h
    ·exact b1 (R.dis _ _ k a1 (hOyl k h))
    ·exact absurd (R.lt a1) (Nat.not_lt.2 h)
   ·exact R.dis _ _ k a1 a2)
  (fun t _ k hk => by
   rcases hfrom t k hk with ⟨t',ht'⟩ | hge
   ·exact R.own t' k ht'
   ·right; have:=R.size; omega)
  (fun t ht v' hv' => by
   rw [hkeys] at ht
   by_cases hts : t = s
   ·subst hts; rw [hlookS]; exact aliasOk_none rst
   ·rw [hlookD t (ht.resolve_left hts)]; exact aliasOk_none e3)
  g4
  (fun k hlt hk => by
   have:=R.size
   refine hsame k (by omega) fun hy => ?_
   rcases R.own s k (hOyl k hy) with h | h
   ·exact hk h
   ·omega)
 refine ⟨_,hK,⟨_,R'⟩,?_,hputZ.trans hn,?_,g1.trans hos,g2.trans htp,g3.trans hout⟩
 ·intro t ht
  rw [hputS t (fun e => (hdlt t e).2 ht)]
  exact hkk t ht
 ·cases o.dst <;> exact hdf
end
end Go.Proofs.YtpffgegfjpdncaaGreatDoor.Am
namespace Go.Proofs.YtpffgegfjpdncaaGreatDoor.Am
open Go.RowKit AV
set_option linter.unusedVariables false
def ownP : AV → List Nat → Bool
 | _,[] => true
 | .agg fs,i :: p => (match fs[i]? with | some x => ownP x p | none => false)
 | .arr _ fs,i :: p => (match fs[i]? with | some x => ownP x p | none => false)
 | .sl true _ fs,i :: p => (match fs[i]? with | some x => ownP x p | none => false)
 | .box x,i :: p => (i == 0) && ownP x p
 | _,_ :: _ => false
theorem adr_some {h : Array Obj} {S : Nat → Prop} : ∀ (p : List Nat) (x : AV) (B o : Nat) {cs : List Value} {O : Nat → Prop},RepC h S x cs O → At h B o cs → ownP x p = true → ∃ q,adr h p x B o = some q
 | [],x,B,o,cs,O,r,hat,ho => ⟨_,rfl⟩
 | i :: p,.agg fs,B,o,cs,O,r,hat,ho => by
  simp only [RepC] at r
  simp only [ownP] at ho
  simp only [adr]
  cases hf : fs[i]? with
  | none => simp [hf] at ho
  | some z =>
   simp only [hf] at ho
   obtain ⟨m1,cz,m2,Oz,Ob1,g1,g2,g3,g4,g5,g6⟩:=repL_at fs i z r hf
   subst g1
   have hat':=(At.app.1 (At.app.1 hat).1).2
   rw [g2] at hat'
   exact adr_some p z B _ g3 hat' ho
 | i :: p,.arr sz fs,B,o,cs,O,r,hat,ho => by
  simp only [RepC] at r
  simp only [ownP] at ho
  simp only [adr]
  cases hf : fs[i]? with
  | none => simp [hf] at ho
  | some z =>
   simp only [hf] at ho
   have hil : i < fs.length:=(List.getElem?_eq_some_iff.1 hf).1
   obtain ⟨m1,cz,m2,Oz,Ob1,g1,g2,g3,g4,g5,g6⟩:=repL_at fs i z r.1 hf
   subst g1
   have hat':=(At.app.1 (At.app.1 hat).1).2
   rw [g2,uni_take r.2 (by omega)] at hat'
   exact adr_some p z B _ g3 hat' ho
 | i :: p,.sl true sz xs,B,o,cs,O,r,hat,ho => by
  simp only [RepC] at r
  simp only [ownP] at ho
  cases hf : xs[i]? with
  | none => simp [hf] at ho
  | some z =>
   simp only [hf] at ho
   rcases r with ⟨rfl,_,_⟩ | ⟨hsz,b,c,te,cap,O1,h1,h2,h3,h4,h5,h6,h7,h8,h9,h10⟩
   ·simp at hf
   ·subst h1
    have hc0 : cellH h ⟨B,o,none⟩ = some (.slice (some ⟨b,0,none⟩) xs.length cap):=by simpa using hat 0 _ rfl
    simp only [adr,hc0,hf]
    have hil : i < xs.length:=(List.getElem?_eq_some_iff.1 hf).1
    have hrow:=rep_slice (n:=xs.length * sz) h2
    obtain ⟨m1,cz,m2,Oz,Ob1,g1,g2,g3,g4,g5,g6⟩:=repL_at xs i z h6 hf
    rw [g1] at hrow
    have hat':=(At.app.1 (At.app.1 hrow).1).2
    rw [g2,uni_take h7 (by omega)] at hat'
    exact adr_some p z b _ g3 hat' ho
 | i :: p,.box x,B,o,cs,O,r,hat,ho => by
  simp only [RepC] at r
  simp only [ownP,Bool.and_eq_true,beq_iff_eq] at ho
  obtain ⟨b,c,te,m,O1,h1,h2,h3,h4,h5,h6⟩:=r
  subst h1
  have hc0 : cellH h ⟨B,o,none⟩ = some (.pointer (some ⟨b,0,none⟩)):=by simpa using hat 0 _ rfl
  simp only [adr,hc0,ho.1,if_true]
  have hat' : At h b 0 m:=by
   have:=rep_slice (n:=c.toList.length) h2
   rwa [List.take_length,h3] at this
  exact adr_some p x b _ h4 hat' ho.2
 | i :: p,.undef,B,o,cs,O,r,hat,ho => by simp [ownP] at ho
 | i :: p,.oth v,B,o,cs,O,r,hat,ho => by simp [ownP] at ho
 | i :: p,.int k n,B,o,cs,O,r,hat,ho => by simp [ownP] at ho
 | i :: p,.bool b,B,o,cs,O,r,hat,ho => by simp [ownP] at ho
 | i :: p,.str s,B,o,cs,O,r,hat,ho => by simp [ownP] at ho
 | i :: p,.sl false sz xs,B,o,cs,O,r,hat,ho => by simp [ownP] at ho
 | i :: p,.dptr x,B,o,cs,O,r,hat,ho => by simp [ownP] at ho
 | i :: p,.tup _,B,o,cs,O,r,hat,ho => by simp [ownP] at ho
 | i :: p,.vref ..,B,o,cs,O,r,hat,ho => by simp [ownP] at ho
 | i :: p,.vagg ..,B,o,cs,O,r,hat,ho => by simp [ownP] at ho
 | i :: p,.vsub ..,B,o,cs,O,r,hat,ho => by simp [ownP] at ho
 | i :: p,.ptr ..,B,o,cs,O,r,hat,ho => by simp [ownP] at ho
theorem adrV_some {h : Array Obj} {S : Nat → Prop} {i : Nat} {p : List Nat} {x : AV} {v : Value} {O : Nat → Prop} (r : RepW h S x v O) (ha : x.hdr = true) (hne : ∃ y,getAt x (i :: p) = some y) (ho : ownP x (i :: p) = true) : ∃ q,adrV h (i :: p) x v = some q:=by
 cases x with
 | sl own sz xs =>
  cases own with
  | false => simp [AV.hdr] at ha
  | true =>
   simp only [RepW,RepC] at r
   simp only [ownP] at ho
   cases hf : xs[i]? with
   | none => simp [hf] at ho
   | some z =>
    simp only [hf] at ho
    rcases r with ⟨rfl,_,_⟩ | ⟨hsz,b,c,te,cap,O1,h1,h2,h3,h4,h5,h6,h7,h8,h9,h10⟩
    ·simp at hf
    ·obtain rfl : v = .slice (some ⟨b,0,none⟩) xs.length cap:=by simpa using h1
     simp only [adrV,hf]
     have hil : i < xs.length:=(List.getElem?_eq_some_iff.1 hf).1
     have hrow:=rep_slice (n:=xs.length * sz) h2
     obtain ⟨m1,cz,m2,Oz,Ob1,g1,g2,g3,g4,g5,g6⟩:=repL_at xs i z h6 hf
     rw [g1] at hrow
     have hat':=(At.app.1 (At.app.1 hrow).1).2
     rw [g2,uni_take h7 (by omega)] at hat'
     exact adr_some p z b _ g3 (by simpa using hat') ho
 | box x =>
  simp only [RepW,RepC] at r
  simp only [ownP,Bool.and_eq_true,beq_iff_eq] at ho
  obtain ⟨b,c,te,m,O1,h1,h2,h3,h4,h5,h6⟩:=r
  obtain rfl : v = .pointer (some ⟨b,0,none⟩):=by simpa using h1
  simp only [adrV,ho.1,if_true]
  have hat' : At h b 0 m:=by
   have:=rep_slice (n:=c.toList.length) h2
   rwa [List.take_length,h3] at this
  exact adr_some p x b _ h4 hat' ho.2
 | mp _ => obtain ⟨y,e⟩:=hne; simp [getAt] at e
 | _ => simp [AV.hdr] at ha
def frz (σ : St) (s : Nat) (p : List Nat) : St :=
 match p with
 | [] => if (look σ s).target = none then upd σ [(s,erase (look σ s))] else σ
 | i :: p => (match getAt (look σ s) (i :: p) with | some y => if 0 < ncells y ∧ (look σ s).hdr = true ∧ ownP (look σ s) (i :: p) = true then setP σ s (i :: p) (erase y) [] else σ | none => σ)
def frzs (σ : St) : List (Nat × List Nat) → St
 | [] => σ
 | (s,p) :: r => frzs (frz σ s p) r
theorem erase_target {x : AV} (h : x.target = none) : (erase x).target = none:=by
 cases x <;> first | rfl | (simp [AV.target] at h)
section
variable {h0 : Array Obj} {ok O0 : Nat → Prop} {σ : St} {tm : Array Value} {h : Array Obj} {Os : Nat → Nat → Prop}
theorem frz_ok (R : Rel h0 ok O0 σ tm h Os) (hall : ∀ k,O0 k ∨ h0.size ≤ k → ok k) (s : Nat) (p : List Nat) : ∃ Os',Rel h0 ok O0 (frz σ s p) tm h Os':=by
 have hok : ∀ t k,Os t k → ok k:=fun t k hk => hall k (R.own t k hk)
 unfold frz
 split
 ·split
  ·rename_i htn
   refine ⟨fun t => if t = s then (fun _ => False) else Os t,?_⟩
   have hsub : ∀ t k,(if t = s then (fun _ => False) else Os t) k → t ≠ s ∧ Os t k:=by
    intro t k hk
    by_cases h1 : t = s
    ·simp [h1] at hk
    ·simp [h1] at hk; exact ⟨h1,hk⟩
   have hSh : ∀ k,Sh ok Os k → Sh ok (fun t => if t = s then (fun _ => False) else Os t) k:=fun k hk => ⟨hk.1,fun t ht => hk.2 t (hsub t k ht).2⟩
   have hSh2 : ∀ k,Os s k → Sh ok (fun t => if t = s then (fun _ => False) else Os t) k:=fun k hk => ⟨hok s k hk,fun t ht => (hsub t k ht).1 (R.dis _ _ k (hsub t k ht).2 hk)⟩
   refine R.step [(s,erase (look σ s))] tm h _ rfl (fun _ _ => rfl) ?_ (fun _ _ _ _ => rfl) ?_ ?_ ?_ ?_ ?_ ?_ (Nat.le_refl _) (fun _ _ _ => rfl)
   ·intro t ht k
    have : t ≠ s:=by simpa [keys] using ht
    simp [this]
   ·exact fun k _ hk => ⟨(hSh k hk).2,rfl⟩
   ·intro t ht v hv
    have : t = s:=by simpa [keys] using ht
    subst this
    simp only [look,if_true]
    exact repW_erase _ (R.rep t v hv) hSh hSh2
   ·intro t ht _ k hk
    have : t = s:=by simpa [keys] using ht
    simp [this] at hk
   ·intro a b k ha hb
    exact R.dis _ _ k (hsub a k ha).2 (hsub b k hb).2
   ·intro t _ k hk
    exact R.own t k (hsub t k hk).2
   ·intro t ht v hv
    have : t = s:=by simpa [keys] using ht
    subst this
    simp only [look,if_true]
    exact aliasOk_none (erase_target htn)
  ·exact ⟨Os,R⟩
 ·rename_i i p
  split
  ·rename_i y eg
   split
   ·rename_i hpos
    obtain ⟨hpos,hhd,hown⟩:=hpos
    cases hu : tm[s]? with
    | none =>
     have hsz : tm.size ≤ s:=by simpa using hu
     refine ⟨Os,?_⟩
     have hlk : ∀ t,t < tm.size → look (setP σ s (i :: p) (erase y) []) t = keepP s (i :: p) (look σ t):=by
      intro t ht
      rw [look_setP,if_neg (by omega)]
      simp only [keys,List.not_mem_nil,if_false]
      rcases purgeV_undef [] (keepP s (i :: p) (look σ t)) with e | ⟨_,_,_,hh⟩
      ·exact e
      ·simp at hh
     refine ⟨?_,R.out,R.dis,R.own,?_,R.size,R.keep⟩
     ·intro t v hv
      have ht:=(Array.getElem?_eq_some_iff.1 hv).1
      rw [hlk t ht]
      rcases keepP_undef s (i :: p) (look σ t) with e | ⟨e,s',hs'⟩
      ·rw [e]; exact R.rep t v hv
      ·rw [e]; simp only [RepW]; exact repW_alias (R.rep t v hv) hs'
     ·intro t v hv
      have ht:=(Array.getElem?_eq_some_iff.1 hv).1
      rw [hlk t ht]
      rcases keepP_undef s (i :: p) (look σ t) with e | ⟨e,s',hs'⟩
      ·rw [e]
       have al:=R.ali t v hv
       cases htg : (look σ t).target with
       | none => exact aliasOk_none htg
       | some s' =>
        by_cases hs' : s' = s
        ·subst hs'
         exfalso
         have : ∃ u,tm[s']? = some u:=by
          generalize look σ t = x at al htg
          cases x <;> simp only [AV.target,Option.some.injEq] at htg <;> first | (cases htg; done) | (subst htg; obtain ⟨u,h⟩:=al; simp only [exists_and_left] at h; exact ⟨u,h.1⟩)
         obtain ⟨u,hu'⟩:=this
         rw [hu] at hu'; cases hu'
        ·refine aliasOk_same (S:=Sh ok Os) (O:=Os s') al ?_ (fun _ _ => rfl) ?_ (fun _ _ => rfl)
         ·intro s'' u' e1 e2; rw [htg] at e1; cases e1; exact R.rep s' u' e2
         ·intro s'' e1 e2
          rw [htg] at e1; cases e1
          rw [look_setP,if_neg hs']
          simp only [keys,List.not_mem_nil,if_false]
          rw [keepP_none _ _ e2,purgeV_none _ e2]
      ·rw [e]; trivial
    | some u =>
     obtain ⟨⟨B,o⟩,ha⟩:=adrV_some (R.rep s u hu) hhd ⟨y,eg⟩ hown
     have r':=repC_of_get (y:=y) (R.rep s u hu) ha
     obtain ⟨cy,Oy,Ob,q1,q2,q3,q4,q5,q6,q7⟩:=placeV _ _ r' eg ha
     have hl:=repC_len _ q1
     refine ⟨fun t => if t = s then Ob else Os t,?_⟩
     have hsub : ∀ t k,(if t = s then Ob else Os t) k → Os t k ∧ (t = s → Ob k):=by
      intro t k hk
      by_cases h1 : t = s
      ·subst h1; simp at hk; exact ⟨(q3 k).2 (.inr hk),fun _ => hk⟩
      ·simp [h1] at hk; exact ⟨hk,fun h => absurd h h1⟩
     have hSh : ∀ k,Sh ok Os k → Sh ok (fun t => if t = s then Ob else Os t) k:=fun k hk => ⟨hk.1,fun t ht => hk.2 t (hsub t k ht).1⟩
     have hSh2 : ∀ k,Oy k → Sh ok (fun t => if t = s then Ob else Os t) k:=fun k hk => ⟨hok s k ((q3 k).2 (.inl hk)),fun t ht => by
      have:=R.dis _ _ k (hsub t k ht).1 ((q3 k).2 (.inl hk))
      exact q4 k hk ((hsub t k ht).2 this)⟩
     have hw:=wrote_same (W:=fun _ => True) q2 (by omega)
     have hb:=q7 (fun _ => True) h (Sh ok (fun t => if t = s then Ob else Os t)) (erase y) cy (fun _ => False) hw (fun _ _ => trivial) rfl (repC_erase _ q1 hSh hSh2) (fun k hk _ => ⟨hSh k hk,rfl⟩) (by simp)
     refine R.stepP [] tm h _ (by simp [keys]) hu eg ha (ncells_erase y) hw hl rfl (fun _ _ => rfl) ?_ ?_ (by simp [keys]) ?_ (by simp [keys]) ?_ ?_ (by simp [keys]) (Nat.le_refl _)
     ·intro t _ hts k; simp [hts]
     ·intro k _ hk t ht; exact hk.2 t (hsub t k ht).1
     ·exact repW_cong _ (repW_of_C1 hb (setAt_noagg ha _)) (fun k => by simp)
     ·intro a b k ha hb; exact R.dis _ _ k (hsub a k ha).1 (hsub b k hb).1
     ·intro t k hk; exact R.own t k (hsub t k hk).1
   ·exact ⟨Os,R⟩
  ·exact ⟨Os,R⟩
theorem frzs_ok : ∀ (L : List (Nat × List Nat)) {σ : St} {Os : Nat → Nat → Prop} (R : Rel h0 ok O0 σ tm h Os) (hall : ∀ k,O0 k ∨ h0.size ≤ k → ok k),∃ Os',Rel h0 ok O0 (frzs σ L) tm h Os'
 | [],σ,Os,R,_ => ⟨Os,R⟩
 | (s,p) :: r,σ,Os,R,hall => by
  obtain ⟨Os1,R1⟩:=frz_ok R hall s p
  exact frzs_ok r R1 hall
end
theorem Sim.frzs {P : Program} {C : Ctx P} {σ : St} {a : Act} {w : World} (S : Sim C σ a w) (L : List (Nat × List Nat)) : Sim C (frzs σ L) a w:=by
 obtain ⟨⟨Os,R⟩,hr⟩:=S
 exact ⟨frzs_ok L R C.all,hr⟩
end Go.Proofs.YtpffgegfjpdncaaGreatDoor.Am
namespace Go.Proofs.YtpffgegfjpdncaaGreatDoor.Am
open Go.RowKit AV
set_option linter.unusedVariables false
theorem repL_split {h : Array Obj} {S : Nat → Prop} : ∀ (n : Nat) (xs : List AV) {m : List Value} {O : Nat → Prop},RepL h S xs m O →
  ∃ O1 O2,RepL h S (xs.take n) (m.take (ncellsL (xs.take n))) O1 ∧ RepL h S (xs.drop n) (m.drop (ncellsL (xs.take n))) O2 ∧ (∀ k,O k ↔ O1 k ∨ O2 k) ∧ (∀ k,O1 k → ¬ O2 k)
 | 0,xs,m,O,r => ⟨fun _ => False,O,by simp only [List.take_zero,ncellsL,RepL]; exact ⟨trivial,emp_false⟩,by simpa [ncellsL] using r,by simp,by simp⟩
 | n + 1,[],m,O,r => ⟨fun _ => False,O,by simp only [List.take_nil,ncellsL,List.take_zero,RepL]; exact ⟨trivial,emp_false⟩,by simpa [ncellsL] using r,by simp,by simp⟩
 | n + 1,x :: xs,m,O,r => by
  simp only [RepL] at r
  obtain ⟨c1,c2,O1,O2,rfl,h2,h3,h4,h5⟩:=r
  obtain ⟨P1,P2,g1,g2,g3,g4⟩:=repL_split n xs h5
  have hl:=repC_len _ h4
  refine ⟨fun k => O1 k ∨ P1 k,P2,?_,?_,?_,?_⟩
  ·simp only [List.take_succ_cons,ncellsL,RepL]
   refine ⟨c1,c2.take (ncellsL (xs.take n)),O1,P1,?_,fun k => Iff.rfl,fun k hk hp => h3 k hk ((g3 k).2 (.inl hp)),h4,g1⟩
   rw [List.take_append,hl,Nat.add_sub_cancel_left,List.take_of_length_le (l:=c1) (by omega)]
  ·simp only [List.take_succ_cons,List.drop_succ_cons,ncellsL]
   rw [List.drop_append,hl,Nat.add_sub_cancel_left,List.drop_eq_nil_of_le (as:=c1) (by omega)]
   simpa using g2
  ·intro k
   rw [h2 k,g3 k,or_assoc]
  ·rintro k (hk | hk) hp
   ·exact h3 k hk ((g3 k).2 (.inr hp))
   ·exact g4 k hk hp
section
variable {h0 : Array Obj} {ok O0 : Nat → Prop} {σ : St} {a : Act} {w : World} {Os : Nat → Nat → Prop}
theorem Rel.turn (R : Rel h0 ok O0 σ a.tmps w.heap Os) (dst : Option Tmp) (v : Value) {h' : Array Obj} {s : Nat} {u : Value} {res z : AV} {Oy Ob Oi : Nat → Prop} (hu : a.tmps[s]? = some u) (q3 : ∀ k,Os s k ↔ Oy k ∨ Ob k) (q4 : ∀ k,Oy k → ¬ Ob k)
  (hdlt : ∀ d,dst = some d → d < a.tmps.size) (hds : dst ≠ some s) (hsame : ∀ k,k < w.heap.size → ¬ Oy k → h'[k]? = w.heap[k]?) (hsz : w.heap.size ≤ h'.size) (hOi : ∀ k,Oi k → Oy k ∨ w.heap.size ≤ k)
  (rres : ∀ S,RepW h' S res v (fun _ => False)) (rs : ∀ S' : Nat → Prop,(∀ k,k < w.heap.size → Sh ok Os k → S' k) → RepW h' S' z u (fun k => Oi k ∨ Ob k)) (rst : z.target = none) (e3 : res.target = none) :
  ∃ Os',Rel h0 ok O0 (upd σ (newsOf dst res s z)) (a.put dst v).tmps h' Os':=by
 have hObl : ∀ k,Ob k → Os s k:=fun k hk => (q3 k).2 (.inr hk)
 have hOyl : ∀ k,Oy k → Os s k:=fun k hk => (q3 k).2 (.inl hk)
 have hshy : ∀ k,Sh ok Os k → ¬ Oy k:=fun k hk hy => hk.2 s (hOyl k hy)
 have hslt : s < a.tmps.size:=(Array.getElem?_eq_some_iff.1 hu).1
 let Os' : Nat → Nat → Prop:=fun t k => if t = s then Oi k ∨ Ob k else if dst = some t then False else Os t k
 have hs' : ∀ k,Os' s k ↔ Oi k ∨ Ob k:=fun k => by simp [Os']
 have hd' : ∀ d,dst = some d → ∀ k,¬ Os' d k:=by
  intro d hd k
  have hne : d ≠ s:=fun e => hds (e ▸ hd)
  simp [Os',hne,hd]
 have ho' : ∀ t,t ≠ s → dst ≠ some t → ∀ k,Os' t k ↔ Os t k:=by
  intro t h1 h2 k
  simp [Os',h1,h2]
 have hcase : ∀ t k,Os' t k → (t = s ∧ (Oi k ∨ Ob k)) ∨ (t ≠ s ∧ dst ≠ some t ∧ Os t k):=by
  intro t k hk
  by_cases h1 : t = s
  ·subst h1; exact .inl ⟨rfl,(hs' k).1 hk⟩
  ·by_cases h2 : dst = some t
   ·exact (hd' t h2 k hk).elim
   ·exact .inr ⟨h1,h2,(ho' t h1 h2 k).1 hk⟩
 have hfrom : ∀ t k,Os' t k → (∃ t',Os t' k) ∨ w.heap.size ≤ k:=by
  intro t k hk
  rcases hcase t k hk with ⟨_,hk | hk⟩ | ⟨_,_,hk⟩
  ·exact (hOi k hk).imp (fun h => ⟨s,hOyl k h⟩) id
  ·exact .inl ⟨s,hObl k hk⟩
  ·exact .inl ⟨t,hk⟩
 have hSh : ∀ k,k < w.heap.size → Sh ok Os k → Sh ok Os' k:=by
  intro k hlt hk
  refine ⟨hk.1,fun t ht => ?_⟩
  rcases hfrom t k ht with ⟨t',ht'⟩ | hge
  ·exact hk.2 t' ht'
  ·omega
 have hkeys : ∀ t,t ∈ keys (newsOf dst res s z) ↔ t = s ∨ dst = some t:=by
  intro t
  cases dst with
  | none => simp [newsOf,keys]
  | some d => simp [newsOf,keys,eq_comm]; exact or_comm
 have hlookS : look (newsOf dst res s z) s = z:=by
  cases hd : dst with
  | none => simp [newsOf,look]
  | some d =>
   have hne : d ≠ s:=fun e => hds (e ▸ hd)
   simp [newsOf,look,hne]
 have hlookD : ∀ d,dst = some d → look (newsOf dst res s z) d = res:=by
  intro d hd; rw [hd]; simp [newsOf,look]
 have hputS : ∀ t,dst ≠ some t → (a.put dst v).tmps[t]? = a.tmps[t]?:=by
  intro t ht
  cases hd : dst with
  | none => rfl
  | some d =>
   show (a.tmps.setIfInBounds d v)[t]? = _
   rw [Array.getElem?_setIfInBounds_ne (by rintro rfl; exact ht hd)]
 have hputD : ∀ d,dst = some d → (a.put dst v).tmps[d]? = some v:=by
  intro d hd
  have:=hdlt d hd
  rw [hd]
  show (a.tmps.setIfInBounds d v)[d]? = _
  rw [Array.getElem?_setIfInBounds_self_of_lt this]
 have hputZ : (a.put dst v).tmps.size = a.tmps.size:=by cases dst <;> simp [Act.put]
 refine ⟨Os',R.step (newsOf dst res s z) (a.put dst v).tmps h' Os' hputZ ?_ ?_ ?_ ?_ ?_ ?_ ?_ ?_ ?_ hsz ?_⟩
 ·intro t ht
  rw [hkeys] at ht
  exact hputS t (fun e => ht (.inr e))
 ·intro t ht k
  rw [hkeys] at ht
  exact ho' t (fun e => ht (.inl e)) (fun e => ht (.inr e)) k
 ·intro t ht k hk
  rw [hkeys] at ht
  exact hsame k (R.lt hk) fun hy => ht (.inl (R.dis _ _ k hk (hOyl k hy)))
 ·exact fun k hlt hk => ⟨(hSh k hlt hk).2,hsame k hlt (hshy k hk)⟩
 ·intro t ht v' hv'
  rw [hkeys] at ht
  by_cases hts : t = s
  ·subst hts
   rw [hputS t hds,hu] at hv'
   cases hv'
   rw [hlookS]
   exact repW_cong _ (rs _ hSh) (fun k => hs' k)
  ·have hd:=ht.resolve_left hts
   rw [hputD t hd] at hv'
   cases hv'
   rw [hlookD t hd]
   exact repW_cong _ (rres _) (fun k => ⟨fun hk => (hd' t hd k hk).elim,False.elim⟩)
 ·intro t ht hge
  rw [hkeys] at ht
  exfalso
  rcases ht with rfl | hd
  ·omega
  ·exact absurd (hdlt t hd) (Nat.not_lt.2 hge)
 ·intro s1 t1 k hk1 hk2
  rcases hcase s1 k hk1 with ⟨rfl,a1⟩ | ⟨b1,b2,a1⟩ <;> rcases hcase t1 k hk2 with ⟨rfl,a2⟩ | ⟨d1,d2,a2⟩
  ·rfl
  ·exfalso
   rcases a1 with a1 | a1
   ·rcases hOi k a1 with h | h
    ·exact d1 (R.dis _ _ k a2 (hOyl k h))
    ·exact absurd (R.lt a2) (Nat.not_lt.2 h)
   ·exact d1 (R.dis _ _ k a2 (hObl k a1))
  ·exfalso
   rcases a2 with a2 | a2
   ·rcases hOi k a2 with h | h
    ·exact b1 (R.dis _ _ k a1 (hOyl k h))
    ·exact absurd (R.lt a1) (Nat.not_lt.2 h)
   ·exact b1 (R.dis _ _ k a1 (hObl k a2))
  ·exact R.dis _ _ k a1 a2
 ·intro t _ k hk
  rcases hfrom t k hk with ⟨t',ht'⟩ | hge
  ·exact R.own t' k ht'
  ·right; have:=R.size; omega
 ·intro t ht v' hv'
  rw [hkeys] at ht
  by_cases hts : t = s
  ·subst hts; rw [hlookS]; exact aliasOk_none rst
  ·rw [hlookD t (ht.resolve_left hts)]; exact aliasOk_none e3
 ·intro k hlt hk
  have:=R.size
  refine hsame k (by omega) fun hy => ?_
  rcases R.own s k (hOyl k hy) with h | h
  ·exact hk h
  ·omega
end
def lentOf (σ : St) (y : Operand) (s : Nat) : Option (Nat × List AV) :=
 match srcOf σ y with
 | .sls sz ys => if plainL ys then some (sz,ys) else none
 | .slo s' _ sz ys => if plainL ys ∧ s' ≠ s then some (sz,ys) else none
 | _ => none
def copyW (P : Program) (σ : St) (t : TypeId) (x y : Operand) (dst : Option Tmp) (K : St → Prop) : Prop :=
 match homeOf σ x with
 | some (s,p,.sl true sz xs) => (tinfo P t).kind = 1 ∧ 0 < (tinfo P t).esz ∧ (sz = (tinfo P t).esz ∨ sz = 0) ∧ dst ≠ some s ∧
  (match lentOf σ y s with
  | some (sz2,ys) => (sz2 = (tinfo P t).esz ∨ ys = []) ∧
   K (upd σ (newsOf dst (.int .i64 (min ys.length xs.length : Nat)) s (setAt (look σ s) p (.sl true (tinfo P t).esz (ys.take xs.length ++ xs.drop ys.length)))))
  | none => False)
 | _ => False
section
variable {P : Program} {C : Ctx P} {σ : St} {a : Act} {w : World} {K : St → Prop}
theorem lent_rep {h0 : Array Obj} {ok O0 : Nat → Prop} {Os : Nat → Nat → Prop} (R : Rel h0 ok O0 σ a.tmps w.heap Os) {y : Operand} (hy : opndOk a.tmps.size y = true) {s sz : Nat} {ys : List AV} (e : lentOf σ y s = some (sz,ys)) :
  ∃ (m : List Value),RepL w.heap (Sh ok Os) ys m (fun _ => False) ∧ (∀ q ∈ ys,q.ncells = sz) ∧
   ((∃ c,a.eval y = .slice none ys.length c ∧ ys.length = 0) ∨ ∃ ad c,a.eval y = .slice (some ad) ys.length c ∧ ∀ (j : Nat) u,m[j]? = some u → cellH w.heap (ad.add j) = some u):=by
 unfold lentOf at e
 split at e
 ·rename_i sz' ys' ey
  split at e
  ·simp only [Option.some.injEq,Prod.mk.injEq] at e
   obtain ⟨rfl,rfl⟩:=e
   obtain ⟨r,_,_⟩:=src_sls R hy ey
   simp only [RepC] at r
   obtain ⟨⟨A,cap,m,r1,r2,r3,r4,r5⟩,_⟩:=r
   have hv : a.eval y = .slice A ys'.length cap:=by simpa using r1
   refine ⟨m,r3,r4,?_⟩
   by_cases hz : ys'.length = 0
   ·have : m = []:=by
     have:=repL_len _ r3
     have hy0 : ys' = []:=List.eq_nil_of_length_eq_zero hz
     subst hy0
     simpa [ncellsL] using this
    cases A with
    | none => exact .inl ⟨cap,hv,hz⟩
    | some ad => exact .inr ⟨ad,cap,hv,by simp [this]⟩
   ·obtain ⟨ad,rfl,_,hc⟩:=r5 (by omega)
    exact .inr ⟨ad,cap,hv,hc⟩
  ·cases e
 ·rename_i s' p sz' ys' ey
  split at e
  ·rename_i hp
   simp only [Option.some.injEq,Prod.mk.injEq] at e
   obtain ⟨rfl,rfl⟩:=e
   obtain ⟨u,k1,k2,k3,k4⟩:=src_slo R hy ey
   obtain ⟨⟨Oy,r,hOy⟩,_⟩:=slo_rep k2 k3 k4
   simp only [RepC] at r
   rcases r with ⟨rfl,gv,gO⟩ | ⟨hszp,b,c,te,cap,O',gv,hrow,hcs,hlc,hcm,hrl,hun,hnb,hO,hone⟩
   ·have hv : a.eval y = .slice none 0 0:=by simpa using gv
    exact ⟨[],by simp only [RepL]; exact ⟨trivial,emp_false⟩,by simp,.inl ⟨0,hv,rfl⟩⟩
   ·have hv : a.eval y = .slice (some ⟨b,0,none⟩) ys'.length cap:=by simpa using gv
    exact ⟨_,repL_emp hrl (repL_plain _ hrl hp.1),hun,.inr ⟨_,cap,hv,fun j u hj => row_cells hrow hj⟩⟩
  ·cases e
 ·cases e
theorem copy_sound {o : Oper} {x y : Operand} {t t' : TypeId} {Q : Exit → Act → World → Prop} (ho : o.op = .call ⟨.builtin .copy,#[x,y],#[t,t']⟩) (hok : operOk a.tmps.size C.ks o = true) (S : Sim C σ a w) (h : copyW P σ t x y o.dst K) :
  o.wp P a w (fun a' w' => ∃ σ',K σ' ∧ Sim C σ' a' w') Q:=by
 obtain ⟨⟨Os,R⟩,hkk,hn,hdf,hos,htp,hout⟩:=S
 simp only [operOk,Bool.and_eq_true] at hok
 have hx : opndOk a.tmps.size x = true:=opsOk_mem hok.1 x (by rw [ho]; simp [Op.operands,Call.operands])
 have hy : opndOk a.tmps.size y = true:=opsOk_mem hok.1 y (by rw [ho]; simp [Op.operands,Call.operands])
 have hdlt : ∀ d,o.dst = some d → d < a.tmps.size ∧ d ∉ C.ks:=by
  intro d hd
  have:=hok.2
  rw [hd] at this
  simpa using this
 unfold copyW at h
 split at h
 case h_2 => exact h.elim
 rename_i s p sz xs hhome
 obtain ⟨hk,hpos,hsz,hds,h⟩:=h
 split at h
 case h_2 => exact h.elim
 rename_i sz2 ys hl
 obtain ⟨hs2,hK⟩:=h
 obtain ⟨e,hue,hse,hbt,_,hz0,_⟩:=kind1 hk
 obtain ⟨u,Oy,Ob,hu,ry,q3,q4,hyt,hst,hupd⟩:=home_rep R hx hhome
 obtain ⟨m,hm1,hm2,hm3⟩:=lent_rep R hy hl
 generalize hE : (tinfo P t).esz = E at *
 have huni : ∀ q ∈ ys,q.ncells = E:=by
  rcases hs2 with rfl | rfl
  ·exact hm2
  ·simp
 have hsizeOf : (sizeOf e).run P w = .ok E w:=by rw [← hse]; exact run_size (by omega)
 have hml : m.length = ys.length * E:=by rw [repL_len _ hm1,len_of_uni huni,Nat.mul_comm]
 have hlen : (Builtin.lenOf (a.eval y)).run P w = .ok ys.length w:=by
  rcases hm3 with ⟨c,hv,_⟩ | ⟨ad,c,hv,_⟩ <;> rw [hv] <;> simp [Builtin.lenOf]
 have hfirst : ∀ n,n ≤ ys.length → (Builtin.firstCells E n (a.eval y)).run P w = .ok (m.take (n * E)).toArray w:=by
  intro n hn'
  rcases hm3 with ⟨c,hv,hz⟩ | ⟨ad,c,hv,hc⟩
  ·rw [hv]
   have : n = 0:=by omega
   subst this
   simp [Builtin.firstCells]
  ·rw [hv]
   refine run_firstCells_some w E n ad ys.length c _ (by rw [List.length_take,hml,Nat.min_eq_left (Nat.mul_le_mul_right _ hn')]) (fun j v hv => ?_)
   rw [cell_eq]
   refine hc j v ?_
   rw [List.getElem?_take] at hv
   split at hv
   ·exact hv
   ·cases hv
 -- the end
 have fin : ∀ (w' : World) (Oi : Nat → Prop),(Builtin.copy_ #[t,t'] o.type #[a.eval x,a.eval y]).run P w = .ok (.int .i64 (min ys.length xs.length : Nat)) w' → w'.os = w.os → w'.tape = w.tape → w'.output = w.output → w'.heap.size = w.heap.size →
   (∀ k,k < w.heap.size → ¬ Oy k → w'.heap[k]? = w.heap[k]?) → (∀ k,Oi k → Oy k) →
   (∀ S',(∀ k,k < w.heap.size → Sh C.ok Os k → S' k) → RepW w'.heap S' (.sl true E (ys.take xs.length ++ xs.drop ys.length)) (a.eval x) Oi) →
   o.wp P a w (fun a' w' => ∃ σ',K σ' ∧ Sim C σ' a' w') Q:=by
  intro w' Oi hrun g1 g2 g3 g4 hsame hOi hrep
  have hobs : ∀ k,Ob k → w'.heap[k]? = w.heap[k]?:=fun k hk => hsame k (R.lt ((q3 k).2 (.inr hk))) (fun hy => q4 k hy hk)
  have hshy : ∀ k,Sh C.ok Os k → ¬ Oy k:=fun k hk hy => hk.2 s ((q3 k).2 (.inl hy))
  have hu2 : ∀ S' : Nat → Prop,(∀ k,k < w.heap.size → Sh C.ok Os k → S' k) → _:=fun S' hS => hupd w'.heap S' _ Oi hobs (fun k hk hlt => ⟨hS k hlt hk,hsame k hlt (hshy k hk)⟩) (hrep S' hS) rfl (by simp [ncells]) rfl (by simp) (fun k hk => q4 k (hOi k hk))
  obtain ⟨Os',R'⟩:=R.turn o.dst (.int .i64 (min ys.length xs.length : Nat)) (h':=w'.heap) (res:=.int .i64 (min ys.length xs.length : Nat)) hu q3 q4 (fun d hd => (hdlt d hd).1) hds hsame (by omega) (fun k hk => .inl (hOi k hk))
   (fun S => by simp only [RepW,RepC]; exact ⟨trivial,emp_false⟩) (fun S' hS => (hu2 S' hS).1) (hu2 (Sh C.ok Os) (fun k _ hk => hk)).2 rfl
  unfold Oper.wp
  have hexec : (execOp a.eval o).run P w = .ok (.value (.int .i64 (min ys.length xs.length : Nat))) w':=by
   simp only [execOp,ho]
   simp [resolve,invoke,builtin,hrun]
  rw [hexec]
  refine ⟨_,hK,⟨_,R'⟩,?_,?_,?_,g1.trans hos,g2.trans htp,g3.trans hout⟩
  ·intro t ht
   cases hd : o.dst with
   | none => exact hkk t ht
   | some d =>
    show (a.tmps.setIfInBounds d _)[t]? = _
    rw [Array.getElem?_setIfInBounds_ne (by rintro rfl; exact (hdlt d hd).2 ht)]
    exact hkk t ht
  ·cases o.dst <;> simp [Act.put,hn]
  ·cases o.dst <;> exact hdf
 simp only [RepW,RepC] at ry
 rcases ry with ⟨rfl,gv,gO⟩ | ⟨hszp,b,c,te,cap,O',gv,hrow,hcs,hlc,hcm,hrl,hun,hnb,hO,hone⟩
 ·have hv : a.eval x = .slice none 0 0:=by simpa using gv
  refine fin w (fun _ => False) ?_ rfl rfl rfl rfl (fun _ _ _ => rfl) (fun _ h => h.elim) (fun S' _ => ?_)
  ·have:=hfirst 0 (by omega)
   simp only [Nat.zero_mul,List.take_zero] at this
   simp [Builtin.copy_,hv,run_under hue,hlen,hsizeOf,this,goInt]
  ·simp only [List.length_nil,List.take_zero,List.drop_nil,List.append_nil,RepW,RepC]
   exact .inl ⟨trivial,by rw [hv],emp_false⟩
 ·have hv : a.eval x = .slice (some ⟨b,0,none⟩) xs.length cap:=by simpa using gv
  obtain rfl : sz = E:=by
   rcases hsz with h | h
   ·exact h
   ·omega
  generalize hn0 : min ys.length xs.length = n0 at *
  have hn1 : n0 ≤ ys.length:=by omega
  have hn2 : n0 ≤ xs.length:=by omega
  have hml2 : (m.take (n0 * sz)).length = n0 * sz:=by rw [List.length_take,hml,Nat.min_eq_left (Nat.mul_le_mul_right _ hn1)]
  have hroom : n0 * sz ≤ c.size:=by rw [hcs]; exact Nat.mul_le_mul_right _ (by omega)
  have hbo : Oy b:=(hO b).2 (.inl rfl)
  obtain ⟨O1,O2,s1,s2,s3,s4⟩:=repL_split n0 xs hrl
  obtain ⟨P1,P2,u1,u2,u3,u4⟩:=repL_split n0 ys hm1
  have hP1 : Emp P1:=fun k hk => (u3 k).2 (.inl hk)
  have hnx : ncellsL (xs.take n0) = n0 * sz:=uni_take hun hn2
  have hny : ncellsL (ys.take n0) = n0 * sz:=uni_take huni hn1
  rw [hnx] at s1 s2
  rw [hny] at u1 u2
  obtain ⟨fr,hb,hfr⟩:=hrow
  have hone1 : ∀ v ∈ m.take (n0 * sz),v.oneCell' = true:=fun v hv => repL_one _ hm1 v (List.mem_of_mem_take hv)
  have hst:=run_storeRow P b 0 te fr (m.take (n0 * sz)) 0 c w hb hfr (by simp only [Nat.zero_add,hml2]; exact hroom) hone1
  simp only [Nat.add_zero,List.take_zero,List.nil_append,Nat.zero_add,hml2] at hst
  have hW:=wrote_row (w:=w) (vs:=m.take (n0 * sz)) (o:=0) hb (by rw [Nat.zero_add,hml2]; exact hroom) (fun _ => True)
  simp only [List.take_zero,List.nil_append,Nat.zero_add,hml2] at hW
  have hrow' : Row (w.setRow b (m.take (n0 * sz) ++ c.toList.drop (n0 * sz)).toArray).heap b (m.take (n0 * sz) ++ c.toList.drop (n0 * sz)).toArray te:=by
   refine ⟨fr,setRow_heap w b c _ te fr hb,?_⟩
   have : (m.take (n0 * sz) ++ c.toList.drop (n0 * sz)).toArray.size = c.size:=by
    simp only [List.size_toArray,List.length_append,hml2,List.length_drop,Array.length_toList]; omega
   rw [this]; exact hfr
  generalize hw' : w.setRow b (m.take (n0 * sz) ++ c.toList.drop (n0 * sz)).toArray = w' at hst hW hrow'
  have hsz' : w'.heap.size = w.heap.size:=by rw [← hw']; simp [World.setRow]
  have hoth : ∀ k,k ≠ b → w'.heap[k]? = w.heap[k]?:=fun k hk => hW.other k trivial hk
  refine fin w' (fun k => k = b ∨ O2 k) ?_ (by rw [← hw']; rfl) (by rw [← hw']; rfl) (by rw [← hw']; rfl) hsz' (fun k _ hk => hoth k (fun e => hk (e ▸ hbo))) ?_ ?_
  ·have h1:=hfirst n0 hn1
   have hn0' : Nat.min ys.length xs.length = n0:=hn0
   simp [Builtin.copy_,hv,run_under hue,hlen,hsizeOf,hn0',h1,hst,goInt]
  ·rintro k (rfl | hk)
   ·exact hbo
   ·exact (hO k).2 (.inr ((s3 k).2 (.inr hk)))
  ·intro S' hS
   have hag : ∀ Oz : Nat → Prop,(∀ k,Oz k → k ≠ b) → Agree w.heap w'.heap (Sh C.ok Os) S' Oz:=fun Oz hz => ⟨fun k hk hlt => ⟨hS k hlt hk,hoth k (fun e => hk.2 s ((q3 k).2 (.inl (e ▸ hbo))))⟩,fun k hk => hoth k (hz k hk)⟩
   have r1:=repL_mono _ u1 (hag P1 fun k hk => (hP1 k hk).elim)
   have r2:=repL_mono _ s2 (hag O2 fun k hk e => hnb (e ▸ (s3 k).2 (.inr hk)))
   have r12:=repL_app _ _ r1 r2 (fun k hk => (hP1 k hk).elim)
   have hl12 : (ys.take xs.length ++ xs.drop ys.length) = ys.take n0 ++ xs.drop n0:=by
    by_cases hle : ys.length ≤ xs.length
    ·rw [Nat.min_eq_left hle] at hn0
     rw [← hn0,List.take_of_length_le hle,List.take_of_length_le (Nat.le_refl _)]
    ·rw [Nat.min_eq_right (by omega)] at hn0
     rw [← hn0,List.drop_eq_nil_of_le (by omega),List.drop_eq_nil_of_le (Nat.le_refl _)]
   rw [hl12]
   have hlen12 : (ys.take n0 ++ xs.drop n0).length = xs.length:=by simp; omega
   have hown:=rep_own (h:=w'.heap) (S:=S') (sz:=sz) (cap:=cap) (xs:=ys.take n0 ++ xs.drop n0) (O':=O2) hszp hrow' (by
    simp only [List.size_toArray,List.length_append,hml2,List.length_drop,Array.length_toList,← hcs]; omega) (by rw [hlen12]; exact hlc) hcm (by
    refine repL_cong _ (O:=fun k => P1 k ∨ O2 k) ?_ (fun k => ⟨.inr,fun h => h.resolve_left (hP1 k)⟩)
    rw [hlen12]
    have hle : n0 * sz ≤ xs.length * sz:=Nat.mul_le_mul_right _ hn2
    have e12 : (m.take (n0 * sz) ++ c.toList.drop (n0 * sz)).toArray.toList.take (xs.length * sz) = m.take (n0 * sz) ++ (c.toList.take (xs.length * sz)).drop (n0 * sz):=by
     show List.take _ (m.take (n0 * sz) ++ c.toList.drop (n0 * sz)) = _
     rw [List.take_append,hml2,List.take_of_length_le (l:=m.take (n0 * sz)) (by omega),List.drop_take]
    rw [e12]; exact r12) (by
    intro q hq
    rcases List.mem_append.1 hq with hq | hq
    ·exact huni q (List.mem_of_mem_take hq)
    ·exact hun q (List.mem_of_mem_drop hq)) (fun hk => hnb ((s3 b).2 (.inr hk))) (by
    intro q hq
    have hq : q ∈ m.take (n0 * sz) ++ c.toList.drop (n0 * sz):=hq
    rcases List.mem_append.1 hq with hq | hq
    ·exact hone1 q hq
    ·exact hone q (List.mem_of_mem_drop hq))
   rw [hlen12] at hown
   rw [hv]
   simpa only [RepW] using hown
end
end Go.Proofs.YtpffgegfjpdncaaGreatDoor.Am
namespace Go.Proofs.YtpffgegfjpdncaaGreatDoor.Am
open Go.RowKit AV
set_option linter.unusedVariables false
def CallVW (P : Program) (f : FuncId) (xs : List Operand) (dst : Option Tmp) (σ : St) (K : St → Prop) : Prop :=
 ∃ args res d,dst = some d ∧ Fits P f args res [] ∧ (usedOf (pulls σ xs) xs).Nodup ∧ leL (xs.map (ev (pulls σ xs))) args ∧ res.target = none ∧ K (put (pulls σ xs) d res (usedOf (pulls σ xs) xs))
section
variable {P : Program} {C : Ctx P} {σ : St} {a : Act} {w : World} {K : St → Prop}
theorem callV_sound {o : Oper} {c : Call} {f : FuncId} {Q : Exit → Act → World → Prop} (ho : o.op = .call c) (hcal : c.callee = .value (.func f)) (hok : operOk a.tmps.size C.ks o = true) (S : Sim C σ a w) (h : CallVW P f c.args.toList o.dst σ K) :
  o.wp P a w (fun a' w' => ∃ σ',K σ' ∧ Sim C σ' a' w') Q:=by
 obtain ⟨args,res,d,hd,⟨⟨fn,f1,f2,f3⟩,F⟩,hnd,ele,e3,e4⟩:=h
 obtain ⟨⟨Os,R⟩,hkk,hn,hdf,hos,htp,hout⟩:=S
 simp only [operOk,hd,Bool.and_eq_true,decide_eq_true_eq] at hok
 have hx : ∀ x ∈ c.args.toList,opndOk a.tmps.size x = true:=by
  intro x hm
  refine opsOk_mem hok.1 x ?_
  rw [ho]
  simp only [Op.operands,Call.operands,hcal]
  simpa using .inr (by simpa using hm)
 have hdt : d < a.tmps.size:=hok.2.1
 have hargs : (c.args.toList.map a.eval).toArray = c.args.map a.eval:=by rw [← Array.toList_map,Array.toArray_toList]
 unfold Oper.wp
 rw [run_call ho hcal f1 f2 f3]
 simp only [Oper.upon]
 rw [← hargs]
 generalize c.args.toList = xs at *
 obtain ⟨Os1,R1⟩:=pulls_ok xs R hx
 generalize pulls σ xs = σ1 at *
 obtain ⟨O,g1,g2⟩:=gather R1 xs hx hnd
 have hOO : ∀ k,O k → C.ok k:=fun k hk => by
  obtain ⟨t,_,ht⟩:=(g2 k).1 hk
  exact C.all k (R1.own t k ht)
 have hrep0 : RepWs w.heap (fun k => (Sh C.ok Os1 k ∨ O k ∨ w.heap.size ≤ k) ∧ ¬ O k) args (xs.map a.eval) O :=
  repWs_le _ _ ele (repWs_mono _ g1 ⟨fun k hk _ => ⟨⟨.inl hk,fun hO => by obtain ⟨t,_,ht⟩:=(g2 k).1 hO; exact hk.2 t ht⟩,rfl⟩,fun _ _ => rfl⟩)
 have hF:=F w (xs.map a.eval) (fun k => Sh C.ok Os1 k ∨ O k ∨ w.heap.size ≤ k) O (fun k hk => .inr hk) hrep0 (R1.laid C.lay fun k hk => by obtain ⟨t,_,ht⟩:=(g2 k).1 hk; exact R1.own t k ht)
 refine Calls.mono hF ?_
 rintro e w' ⟨v,Or,Oo,rfl,k1,k2,k3,k4,k5,k6,_,_,k9⟩
 simp only
 have hO : ∀ k,Or k → (∃ t ∈ usedOf σ1 xs,Os1 t k) ∨ w.heap.size ≤ k:=fun k hk => (k9 k (.inl hk)).imp (fun h => (g2 k).1 h) id
 have hrep : RepW w'.heap (Sh C.ok (ownR Os1 d Or (usedOf σ1 xs))) res v Or:=by
  refine repW_mono _ k6 ⟨fun k hk _ => ⟨⟨?_,fun t ht => ?_⟩,rfl⟩,fun _ _ => rfl⟩
  ·rcases hk.1 with h | h | h
   ·exact h.1
   ·exact hOO k h
   ·exact C.all k (.inr (Nat.le_trans R.size h))
  ·unfold ownR at ht
   split at ht
   ·exact hk.2.1 ht
   ·split at ht
    ·exact ht
    ·rename_i hnu
     rcases hk.1 with h | h | h
     ·exact h.2 t ht
     ·obtain ⟨t',ht',ho'⟩:=(g2 k).1 h
      have:=R1.dis _ _ k ht ho'
      subst this
      exact hnu ht'
     ·exact absurd (R1.lt ht) (Nat.not_lt.2 h)
 have R':=R1.result d res v (usedOf σ1 xs) w'.heap Or hdt k4 (fun k hk hnt => k5 k hk fun hOk => by obtain ⟨t,ht,hot⟩:=(g2 k).1 hOk; exact hnt t ht hot) hO hrep (aliasOk_none e3)
 refine ⟨_,e4,⟨_,by rw [hd]; exact R'⟩,?_,by rw [hd]; simp [Act.put,hn],by rw [hd]; exact hdf,k1.trans hos,k2.trans htp,k3.trans hout⟩
 intro t ht
 rw [hd]
 have hne : d ≠ t:=by rintro rfl; simpa [ht] using hok.2.2
 show (a.tmps.setIfInBounds d v)[t]? = _
 rw [Array.getElem?_setIfInBounds_ne hne]
 exact hkk t ht
end
end Go.Proofs.YtpffgegfjpdncaaGreatDoor.Am
namespace Go.Proofs.YtpffgegfjpdncaaGreatDoor.Am
open Go.RowKit AV
set_option linter.unusedVariables false
def CallMk (P : Program) (f : FuncId) (xs : List Operand) (dst : Option Tmp) (σ : St) (K : St → Prop) : Prop :=
 ∃ t s y,look σ t = .ptr s [0] ∧ look σ s = .box y ∧ t ≠ s ∧ dst ≠ some t ∧ dst ≠ some s ∧ CallM P f xs dst σ (fun σ' => look σ' t = .undef ∧ (∃ y',look σ' s = .box y') ∧ K ((t,.ptr s [0]) :: σ'))
theorem rel_ptr {h0 : Array Obj} {ok O0 : Nat → Prop} {σ : St} {tm : Array Value} {h : Array Obj} {Os : Nat → Nat → Prop} (R : Rel h0 ok O0 σ tm h Os) {t s : Nat} {y : AV} (ht : look σ t = .undef) (hs : look σ s = .box y) (hts : t ≠ s)
  (hv : ∀ v,tm[t]? = some v → ∃ b,tm[s]? = some (.pointer (some b)) ∧ v = .pointer (some ⟨b.block,b.off,none⟩)) : Rel h0 ok O0 ((t,.ptr s [0]) :: σ) tm h Os:=by
 have lk : ∀ k,look ((t,.ptr s [0]) :: σ) k = if k = t then .ptr s [0] else look σ k:=by
  intro k
  simp only [look]
  by_cases h : t = k
  ·subst h; simp
  ·simp [h,Ne.symm h]
 refine ⟨fun k v hk => ?_,R.out,R.dis,R.own,fun k v hk => ?_,R.size,R.keep⟩
 ·rw [lk]
  split
  ·rename_i e; subst e
   have:=R.rep k v hk
   rw [ht] at this
   simpa only [RepW] using this
  ·exact R.rep k v hk
 ·rw [lk]
  split
  ·rename_i e; subst e
   obtain ⟨b,h1,h2⟩:=hv v hk
   refine ⟨_,y,b.block,b.off,h1,?_,?_,h2⟩
   ·rw [lk,if_neg (Ne.symm hts),hs]; simp [getAt]
   ·rw [lk,if_neg (Ne.symm hts),hs]; simp [adrV,adr]
  ·have ha:=R.ali k v hk
   have no : ∀ s',(look σ k).target = some s' → s' = t → False:=by
    intro s' h1 h2
    subst h2
    cases e : look σ k with
    | vref s1 p =>
     rw [e] at ha h1
     simp only [AV.target,Option.some.injEq] at h1
     subst h1
     obtain ⟨u,y1,g1,g2,g3,g4⟩:=ha
     rw [ht] at g2
     cases p with
     | nil => simp only [getAt,Option.some.injEq] at g2; subst g2; simp [AV.hdr] at g3
     | cons i p => simp [getAt] at g2
    | vagg s1 p =>
     rw [e] at ha h1
     simp only [AV.target,Option.some.injEq] at h1
     subst h1
     obtain ⟨u,y1,B,o,cs,g1,g2,g3,g4,_⟩:=ha
     rw [ht] at g2
     cases p with
     | nil => simp only [getAt,Option.some.injEq] at g2; subst g2; simp [AV.isAgg] at g3
     | cons i p => simp [getAt] at g2
    | vsub s1 p lo hi =>
     rw [e] at ha h1
     simp only [AV.target,Option.some.injEq] at h1
     subst h1
     obtain ⟨u,sz,xs,w0,g1,g2,_⟩:=ha
     rw [ht] at g2
     cases p with
     | nil => simp [getAt] at g2
     | cons i p => simp [getAt] at g2
    | ptr s1 p =>
     rw [e] at ha h1
     simp only [AV.target,Option.some.injEq] at h1
     subst h1
     obtain ⟨u,y1,B,o,g1,g2,g3,_⟩:=ha
     rw [ht] at g3
     cases p <;> simp [adrV] at g3
    | _ => rw [e] at h1; simp [AV.target] at h1
   have lks : ∀ s',(look σ k).target = some s' → look ((t,.ptr s [0]) :: σ) s' = look σ s':=fun s' h1 => by
    rw [lk,if_neg (fun e => no s' h1 e)]
   cases e : look σ k with
   | vref s1 p => rw [e] at ha; unfold AliasOk at ha ⊢; simp only; rw [lks s1 (by rw [e]; rfl)]; exact ha
   | vagg s1 p => rw [e] at ha; unfold AliasOk at ha ⊢; simp only; rw [lks s1 (by rw [e]; rfl)]; exact ha
   | vsub s1 p lo hi => rw [e] at ha; unfold AliasOk at ha ⊢; simp only; rw [lks s1 (by rw [e]; rfl)]; exact ha
   | ptr s1 p => rw [e] at ha; unfold AliasOk at ha ⊢; simp only; rw [lks s1 (by rw [e]; rfl)]; exact ha
   | _ => trivial
section
variable {P : Program} {C : Ctx P} {σ : St} {a : Act} {w : World} {K : St → Prop}
theorem callMk_sound {o : Oper} {c : Call} {f : FuncId} {Q : Exit → Act → World → Prop} (ho : o.op = .call c) (hcal : c.callee = .value (.func f)) (hok : operOk a.tmps.size C.ks o = true) (S : Sim C σ a w) (h : CallMk P f c.args.toList o.dst σ K) :
  o.wp P a w (fun a' w' => ∃ σ',K σ' ∧ Sim C σ' a' w') Q:=by
 obtain ⟨t,s,y,ht,hs,hts,hdt,hds,hM⟩:=h
 obtain ⟨⟨Os,R⟩,hk,hr⟩:=S
 have hsz:=hr.1
 by_cases htl : t < a.tmps.size
 ·have hv : a.tmps[t]? = some a.tmps[t]:=Array.getElem?_eq_getElem htl
  have hal:=R.ali t _ hv
  rw [ht] at hal
  obtain ⟨u,y0,B,off,g1,g2,g3,g4⟩:=hal
  rw [hs] at g3
  obtain ⟨b,hb⟩ : ∃ b,u = .pointer (some b):=by
   cases u with
   | pointer o =>
    cases o with
    | none => simp [adrV] at g3
    | some b => exact ⟨b,rfl⟩
   | _ => simp [adrV] at g3
  subst hb
  simp only [adrV,if_true,adr,Option.some.injEq,Prod.mk.injEq] at g3
  obtain ⟨rfl,rfl⟩:=g3
  let C' : Ctx P:={ C with ks:=s :: t :: C.ks,kv:=fun k => if k ∈ C.ks then C.kv k else (a.tmps[k]?).getD (.pointer none) }
  have S' : Sim C' σ a w:=by
   refine ⟨⟨Os,R⟩,?_,hr⟩
   intro k hkm
   show a.tmps[k]? = some (if k ∈ C.ks then C.kv k else (a.tmps[k]?).getD (.pointer none))
   split
   ·rename_i hm; exact hk k hm
   ·rename_i hm
    rcases List.mem_cons.1 hkm with rfl | hkm
    ·rw [g1]; rfl
    ·rcases List.mem_cons.1 hkm with rfl | hkm
     ·rw [hv]; rfl
     ·exact absurd hkm hm
  have hok' : operOk a.tmps.size C'.ks o = true:=by
   simp only [operOk,Bool.and_eq_true] at hok ⊢
   refine ⟨hok.1,?_⟩
   have h2:=hok.2
   cases hd : o.dst with
   | none => rfl
   | some d =>
    rw [hd] at h2 hdt hds
    simp only [Bool.and_eq_true,decide_eq_true_eq,Bool.not_eq_true'] at h2 ⊢
    refine ⟨h2.1,?_⟩
    have h3 : d ∉ C.ks:=by simpa using h2.2
    have h4 : d ≠ t:=fun e => hdt (by rw [e])
    have h5 : d ≠ s:=fun e => hds (by rw [e])
    show (s :: t :: C.ks).contains d = false
    simp [h3,h4,h5]
  refine Oper.wp_mono ?_ (callM_sound ho hcal hok' S' hM)
  rintro a' w' ⟨σ',⟨q1,⟨y',q2⟩,q3⟩,⟨⟨Os',R'⟩,hk',hr'⟩⟩
  have e1 : a'.tmps[s]? = some (.pointer (some b)):=by
   rw [hk' s (List.mem_cons_self ..)]
   show some (if s ∈ C.ks then C.kv s else (a.tmps[s]?).getD (.pointer none)) = _
   split
   ·rename_i hm; rw [← hk s hm,g1]
   ·rw [g1]; rfl
  have e2 : a'.tmps[t]? = some a.tmps[t]:=by
   rw [hk' t (by simp [C'])]
   show some (if t ∈ C.ks then C.kv t else (a.tmps[t]?).getD (.pointer none)) = _
   split
   ·rename_i hm; rw [← hk t hm,hv]
   ·rw [hv]; rfl
  refine ⟨_,q3,⟨⟨Os',rel_ptr R' q1 q2 hts ?_⟩,?_,hr'⟩⟩
  ·intro v hv'
   rw [e2] at hv'
   cases hv'
   exact ⟨b,e1,g4⟩
  ·intro k hkm
   have:=hk' k (by simp [C',hkm])
   rw [this]
   show some (if k ∈ C.ks then C.kv k else _) = _
   rw [if_pos hkm]
 ·refine Oper.wp_mono ?_ (callM_sound ho hcal hok ⟨⟨Os,R⟩,hk,hr⟩ hM)
  rintro a' w' ⟨σ',⟨q1,⟨y',q2⟩,q3⟩,⟨⟨Os',R'⟩,hk',hr'⟩⟩
  refine ⟨_,q3,⟨⟨Os',rel_ptr R' q1 q2 hts ?_⟩,hk',hr'⟩⟩
  intro v hv'
  have h1:=(Array.getElem?_eq_some_iff.1 hv').1
  have h2:=hr'.1
  omega
end
end Go.Proofs.YtpffgegfjpdncaaGreatDoor.Am
namespace Go.Proofs.YtpffgegfjpdncaaGreatDoor.Am
open Go.RowKit AV
set_option linter.unusedVariables false
section
variable {h0 : Array Obj} {ok O0 : Nat → Prop} {σ : St} {tm : Array Value} {h : Array Obj} {Os : Nat → Nat → Prop}
theorem cut_ok (R : Rel h0 ok O0 σ tm h Os) {t s hi sz : Nat} {xs : List AV} (hlt : t < tm.size) (ht : look σ t = .vsub s [] 0 hi) (hs : look σ s = .sl true sz xs) (hp : plainL xs = true) :
  ∃ Os',Rel h0 ok O0 (upd σ [(t,.sl true sz (xs.take hi)),(s,.undef)]) tm h Os':=by
 cases hv : tm[t]? with
 | none => exact absurd hlt (Nat.not_lt.2 (Array.getElem?_eq_none_iff.1 hv))
 | some v =>
  have ha:=R.ali t v hv
  rw [ht] at ha
  obtain ⟨u,sz',xs',w',k1,k2,k3,k4,k5,k6⟩:=ha
  rw [hs] at k2
  simp only [getAt,Option.some.injEq,AV.sl.injEq,true_and] at k2
  obtain ⟨rfl,rfl⟩:=k2
  have hts : t ≠ s:=by
   intro e; subst e; rw [ht] at hs; cases hs
  have hOt : Emp (Os t):=by
   have:=R.rep t v hv
   rw [ht] at this
   simpa only [RepW] using this
  have hw : w' = u:=by
   rcases k3 with ⟨_,e⟩ | ⟨B,o,e,_⟩
   ·exact e
   ·simp [adrV] at e
  subst hw
  have r:=R.rep s w' k1
  rw [hs] at r
  have rt : RepW h (Sh ok Os) (.sl true sz (xs.take hi)) v (Os s):=by
   simp only [RepW,RepC] at r
   rcases r with ⟨rfl,gv,gO⟩ | ⟨hszp,b,c,te,cap,O',gv,hrow,hcs,hlc,hcm,hrl,hun,hnb,hO,hone⟩
   ·have hw : w' = .slice none 0 0:=by simpa using gv
    have hv' : v = .slice none 0 0:=by
     rcases k6 with ⟨b,l,c,q1,_⟩ | ⟨_,q2,_⟩
     ·rw [hw] at q1; cases q1
     ·exact q2
    simp only [RepW,RepC,List.take_nil]
    exact .inl ⟨trivial,by rw [hv'],gO⟩
   ·have hw : w' = .slice (some ⟨b,0,none⟩) xs.length cap:=by simpa using gv
    obtain ⟨b1,l1,c1,q1,q2⟩ : ∃ b1 l1 c1,w' = .slice (some ⟨b1,0,none⟩) l1 c1 ∧ v = .slice (some ⟨b1,(if c1 = 0 then 0 else 0 * sz),none⟩) (hi - 0) (c1 - 0):=by
     rcases k6 with ⟨b1,l1,c1,q1,q2⟩ | ⟨q1,_⟩
     ·exact ⟨b1,l1,c1,q1,q2⟩
     ·rw [hw] at q1; cases q1
    rw [hw] at q1
    simp only [Value.slice.injEq,Option.some.injEq,Addr.mk.injEq,and_true] at q1
    obtain ⟨rfl,rfl,rfl⟩:=q1
    have hemp:=repL_plain _ hrl hp
    have d1:=(repL_cut hi xs (repL_emp hrl hemp) hun k5).1
    have hlen : (xs.take hi).length = hi:=by simp; omega
    have hmin : hi * sz ≤ xs.length * sz:=Nat.mul_le_mul_right _ k5
    have d2:=rep_own (h:=h) (S:=Sh ok Os) (xs:=xs.take hi) (O':=fun _ => False) hszp hrow hcs (by rw [hlen]; omega) hcm (by
     rw [hlen]
     rw [List.take_take,Nat.min_eq_left hmin] at d1
     exact d1) (fun x hx => hun x (List.mem_of_mem_take hx)) (fun e => e) hone
    have e : v = .slice (some ⟨b,0,none⟩) (xs.take hi).length cap:=by rw [q2,hlen]; simp
    rw [e]
    simp only [RepW]
    exact repC_cong _ d2 (fun k => by rw [hO k]; have:=hemp k; simp [this])
  refine ⟨_,R.ghost2 hts _ .undef (Os s) (fun _ => False) hv k1 ?_ (by simp) rt (by simp only [RepW]; exact emp_false) rfl rfl⟩
  intro k; have:=hOt k; simp [this]
end
theorem Sim.cut {P : Program} {C : Ctx P} {σ : St} {a : Act} {w : World} (S : Sim C σ a w) {t s hi sz : Nat} {xs : List AV} (hlt : t < a.tmps.size) (ht : look σ t = .vsub s [] 0 hi) (hs : look σ s = .sl true sz xs) (hp : plainL xs = true) : Sim C (upd σ [(t,.sl true sz (xs.take hi)),(s,.undef)]) a w:=by
 obtain ⟨⟨Os,R⟩,hr⟩:=S
 exact ⟨cut_ok R hlt ht hs hp,hr⟩
end Go.Proofs.YtpffgegfjpdncaaGreatDoor.Am
namespace Go.Proofs.YtpffgegfjpdncaaGreatDoor.Am
open Go.RowKit AV
set_option linter.unusedVariables false
set_option maxHeartbeats 1000000
def eff (σ : St) : Option St → St
 | none => σ
 | some n => upd σ n
def keysO : Option St → List Nat
 | none => []
 | some n => keys n
def lookO : Option St → Nat → AV
 | none,_ => .undef
 | some n,k => look n k
theorem look_eff (σ : St) (N : Option St) (k : Nat) : look (eff σ N) k = if k ∈ keysO N then lookO N k else (match N with | none => look σ k | some n => purgeV (keys n) (look σ k)):=by
 cases N with
 | none => simp [eff,keysO]
 | some n => simp only [eff,keysO,lookO]; exact look_upd σ n k
theorem eff_eqv {σ τ : St} (h : Eqv σ τ) (N : Option St) : Eqv (eff σ N) (eff τ N):=by
 intro s
 rw [look_eff,look_eff,h s]
theorem eff_keep {σ : St} {N : Option St} {k : Nat} (h : k ∉ keysO N) : look (eff σ N) k = look σ k ∨ (look (eff σ N) k = .undef ∧ ∃ t,(look σ k).target = some t ∧ t ∈ keysO N):=by
 rw [look_eff,if_neg h]
 cases N with
 | none => exact .inl rfl
 | some n => exact purgeV_undef (keys n) (look σ k)
theorem eff_back {σ : St} {ds : List Nat} {N : Option St} {s : Nat} (hN : ∀ t ∈ keysO N,t ∈ ds ∧ s ≠ t) (h : check1 (eff σ N) ds s = true) : Like (eff σ N) σ s ∧ check1 σ ds s = true:=by
 obtain ⟨h1,h2⟩:=check1_spec h
 have hL:=check1_live h
 have hs : s ∉ keysO N:=fun hs => (hN s hs).2 rfl
 have e1 : look (eff σ N) s = look σ s:=(eff_keep hs).resolve_right fun hh => h1 hh.1
 have e2 : ∀ t,(look σ s).target = some t → t ∉ ds ∧ look (eff σ N) t = look σ t ∧ look σ t ≠ .undef ∧ (look σ t).target = none:=by
  intro t ht
  obtain ⟨g1,g2,g3⟩:=h2 t (by rw [e1]; exact ht)
  have htn : t ∉ keysO N:=fun hs => g1 (hN t hs).1
  have e3 : look (eff σ N) t = look σ t:=(eff_keep htn).resolve_right fun hh => g2 hh.1
  rw [e3] at g2 g3
  exact ⟨g1,e3,g2,g3⟩
 refine ⟨⟨e1.symm,fun t ht => ?_⟩,?_⟩
 ·rw [e1] at ht
  exact (e2 t ht).2.1.symm
 ·rw [e1] at hL
  exact check1_mk hL fun t ht => ⟨(e2 t ht).1,(e2 t ht).2.2⟩
theorem eff_forth {σ : St} {ds : List Nat} {N : Option St} {s : Nat} (hN : ∀ t ∈ keysO N,t ∈ ds ∧ s ≠ t) (h : check1 σ ds s = true) : Like σ (eff σ N) s ∧ check1 (eff σ N) ds s = true:=by
 obtain ⟨h1,h2⟩:=check1_spec h
 have hL:=check1_live h
 have hs : s ∉ keysO N:=fun hs => (hN s hs).2 rfl
 have e1 : look (eff σ N) s = look σ s:=(eff_keep hs).resolve_right fun ⟨_,t,ht,hm⟩ => (h2 t ht).1 (hN t hm).1
 have e2 : ∀ t,(look σ s).target = some t → look (eff σ N) t = look σ t:=by
  intro t ht
  obtain ⟨g1,g2,g3⟩:=h2 t ht
  have htn : t ∉ keysO N:=fun hs => g1 (hN t hs).1
  exact (eff_keep htn).resolve_right fun ⟨_,t',ht',_⟩ => by rw [g3] at ht'; cases ht'
 refine ⟨⟨e1,e2⟩,check1_mk (by rw [e1]; exact hL) fun t ht => ?_⟩
 rw [e1] at ht
 rw [e2 t ht]
 exact h2 t ht
def MStep (P : Program) (s0 : Nat) (f : FuncId) (xs : List Operand) (dst : Option Tmp) (σ : St) (K : St → Prop) : Prop :=
 ∃ (i : Nat) (x : Operand) (p : List Nat) (y y' : AV) (args0 args : List AV) (res : AV) (outs : List AV),Fits P f args res outs ∧ xs[i]? = some x ∧ homeOf σ x = some (s0,p,y) ∧ argsM σ s0 i y 0 xs = some args0 ∧ leL args0 args ∧ outs[i]? = some y' ∧
  (y'.isAgg = y.isAgg ∧ ncells y' = ncells y ∧ y'.target = none ∧ ∀ l,y' ≠ .tup l) ∧ ((closed res = true ∧ closed y' = true) ∨ othersVal σ i 0 xs = true) ∧ res.target = none ∧ dst ≠ some s0 ∧ (setAt (look σ s0) p y').target = none ∧ dst.isSome = true ∧
  K (upd σ (newsOf dst res s0 (setAt (look σ s0) p y')))
theorem callM_of {P : Program} {s0 : Nat} {f : FuncId} {xs : List Operand} {dst : Option Tmp} {σ : St} {K : St → Prop} (h : MStep P s0 f xs dst σ K) : CallM P f xs dst σ K:=by
 obtain ⟨i,x,p,y,y',args0,args,res,outs,h1,h2,h3,h4,h5,h6,h7,h8,h9,h10,h11,_,h12⟩:=h
 exact ⟨i,x,s0,p,y,y',args0,args,res,outs,h1,h2,h3,h4,h5,h6,h7,h8,h9,h10,h12⟩
section
variable {σ τ : St}
theorem like_home {x : Operand} (h : LikeX σ τ x) : homeOf τ x = homeOf σ x:=by
 cases x with
 | tmp t =>
  obtain ⟨h1,h2⟩:=h t rfl
  unfold homeOf
  simp only
  rw [h1]
  cases e : look σ t with
  | vref s p => simp only; rw [h2 s (by rw [e]; rfl)]
  | vagg s p => simp only; rw [h2 s (by rw [e]; rfl)]
  | ptr s q => simp only; rw [h2 s (by rw [e]; rfl)]
  | sl o z xs => cases o <;> rfl
  | _ => rfl
 | _ => rfl
theorem like_arg {x : Operand} (h : LikeX σ τ x) : argOf τ x = argOf σ x:=by
 unfold argOf
 rw [like_src h,like_ev h]
 cases he : ev σ x with
 | vagg s p =>
  have : look τ s = look σ s:=by
   cases x with
   | tmp t =>
    simp only [ev] at he
    exact (h t rfl).2 s (by rw [he]; rfl)
   | const v => have:=constV_target v; simp only [ev] at he; rw [he] at this; simp [AV.target] at this
   | global g => simp [ev] at he
   | func f => simp [ev] at he
  simp only [this]
 | _ => rfl
theorem like_lends {x : Operand} (h : LikeX σ τ x) : lends τ x = lends σ x:=by
 have e:=usedOf_like (σ:=σ) (τ:=τ) (xs:=[x]) (fun y hy => by rw [List.mem_singleton] at hy; subst hy; exact h)
 unfold lends
 rw [like_src h,like_ev h,e]
theorem like_isVal {x : Operand} (h : LikeX σ τ x) : isVal τ x = isVal σ x:=by unfold isVal; rw [like_src h]
theorem like_argsM {s i : Nat} {y : AV} : ∀ (xs : List Operand) (j : Nat),(∀ x ∈ xs,LikeX σ τ x) → argsM τ s i y j xs = argsM σ s i y j xs
 | [],j,_ => rfl
 | x :: r,j,h => by
  have ih:=like_argsM (s:=s) (i:=i) (y:=y) r (j + 1) (fun z hz => h z (List.mem_cons_of_mem _ hz))
  have hx:=h x (List.mem_cons_self ..)
  simp only [argsM]
  rw [ih,like_arg hx,like_lends hx]
theorem like_othersVal {i : Nat} : ∀ (xs : List Operand) (j : Nat),(∀ x ∈ xs,LikeX σ τ x) → othersVal τ i j xs = othersVal σ i j xs
 | [],j,_ => rfl
 | x :: r,j,h => by
  have ih:=like_othersVal (i:=i) r (j + 1) (fun z hz => h z (List.mem_cons_of_mem _ hz))
  simp only [othersVal]
  rw [ih,like_isVal (h x (List.mem_cons_self ..))]
theorem home_look {x : Operand} {s : Nat} {p : List Nat} {y : AV} (h : LikeX σ τ x) (e : homeOf σ x = some (s,p,y)) : look τ s = look σ s:=by
 cases x with
 | tmp t =>
  obtain ⟨h1,h2⟩:=h t rfl
  unfold homeOf at e
  simp only at e
  split at e
  ·rename_i s' p' e1
   split at e
   ·cases e; exact h2 _ (by rw [e1]; rfl)
   ·cases e
  ·rename_i s' p' e1
   split at e
   ·split at e
    ·cases e; exact h2 _ (by rw [e1]; rfl)
    ·cases e
   ·cases e
  ·rename_i s' p' e1
   split at e
   ·split at e
    ·cases e; exact h2 _ (by rw [e1]; rfl)
    ·cases e
   ·cases e
  ·cases e; exact h1
  ·cases e; exact h1
  ·cases e; exact h1
  ·cases e; exact h1
  ·cases e
 | _ => simp [homeOf] at e
end
def isCall : Op → Bool
 | .call _ => true
 | .slice .. => true
 | _ => false
def stoN : Op → Nat
 | .store _ (.tmp s) (.tmp _) => s + 1
 | _ => 0
def isM (dm : Nat) (o : Oper) : Bool:=(o.dst == some (dm % 2000000) && isCall o.op) || (o.dst == none && stoN o.op == dm / 2000000 && decide (2000000 ≤ dm))
def MApp (P : Program) (s0 : Nat) (x y : Operand) (t t' : TypeId) (d : Nat) (σ : St) (K : St → Prop) : Prop:=x = .tmp s0 ∧ t = t' ∧ (look σ s0).target = none ∧ appendW P σ t x y d K
def MStepF (P : Program) (ss : List Nat) (f : FuncId) (xs : List Operand) (dst : Option Tmp) (σ : St) (K : St → Prop) : Prop :=
 (∃ s0,ss = [s0] ∧ MStep P s0 f xs dst σ K) ∨ (∃ s0 t,ss = [s0,t] ∧ Operand.tmp t ∈ xs ∧ t ≠ s0 ∧ dst ≠ some t ∧ (look σ t).target = none ∧ MStep P s0 f xs dst (upd σ [(t,erase (look σ t))]) K)
def MStepG (P : Program) (ss : List Nat) (f : FuncId) (xs : List Operand) (dst : Option Tmp) (σ : St) (K : St → Prop) : Prop:=∃ ss',(∀ t ∈ ss',t ∈ ss) ∧ MStepF P ss' f xs dst σ K
def MSto (P : Program) (ss : List Nat) (t : TypeId) (s q : Nat) (σ : St) (K : St → Prop) : Prop:=s ∈ ss ∧ q ≠ s ∧ (plain (look σ q) = true ∨ q ∈ ss) ∧ (look σ q).target = none ∧ (match look σ s with
 | .box y => (look σ q).stor = true ∧ ncells (look σ q) = ncells y ∧ szOf P t = ncells y ∧ 0 < ncells y ∧ K (upd σ ((s,.box (look σ q)) :: wipe (usedOf σ [.tmp q])))
 | _ => False)
def MCut (P : Program) (s0 : Nat) (t : TypeId) (x y : Operand) (d : Nat) (σ : St) (K : St → Prop) : Prop:=match ev σ x,ev σ y with
 | .vref s [],.int _ n => s = s0 ∧ d ≠ s ∧ (match look σ s with
  | .sl true sz xs => plainL xs = true ∧ (tinfo P t).kind = 1 ∧ ((tinfo P t).esz = sz ∨ xs = []) ∧ 0 < (tinfo P t).esz ∧ 0 ≤ n ∧ n ≤ xs.length ∧ K (upd σ [(d,.sl true sz (xs.take n.toNat)),(s0,.undef)])
  | _ => False)
 | _,_ => False
def mStepW (P : Program) (ss : List Nat) (o : Oper) (σ : St) (K : St → Prop) : Prop:=match o.op with
 | .call c => (match c.callee,c.args.toList,c.argTypes.toList,o.dst with
  | .value (.func f),_,_,_ => MStepG P ss f c.args.toList o.dst σ K
  | .builtin .append,[x,y],[t,t'],some d => ∃ s0,ss = [s0] ∧ MApp P s0 x y t t' d σ K
  | _,_,_,_ => False)
 | .slice t x none (some y) none => (match o.dst with
  | some d => ∃ s0,ss = [s0] ∧ MCut P s0 t x y d σ K
  | none => False)
 | .store t (.tmp s) (.tmp q) => (match o.dst with
  | some d => False
  | none => MSto P ss t s q σ K)
 | _ => False
theorem sto_eff {P : Program} {ss : List Nat} {t : TypeId} {s q : Nat} {σ : St} {K : St → Prop} (h : MSto P ss t s q σ K) : s ∈ ss ∧ ∃ v us,(∀ t ∈ us,t ∈ ss) ∧ K (upd σ ((s,.box v) :: wipe us)) ∧ ∀ τ,(∀ z ∈ [Operand.tmp s,.tmp q],LikeX σ τ z) → ∀ K' : St → Prop,K' (upd τ ((s,.box v) :: wipe us)) → MSto P ss t s q τ K':=by
 obtain ⟨h0,h1,h2,h3,h⟩:=h
 split at h
 ·rename_i y e
  obtain ⟨g1,g2,g3,g4,g5⟩:=h
  refine ⟨h0,_,_,?_,g5,fun τ hl K' hk => ?_⟩
  ·intro u hu
   simp only [usedOf] at hu
   split at hu
   ·cases hu
   ·rename_i hp
    simp only [List.mem_singleton] at hu
    subst hu
    exact h2.resolve_left hp
  ·have e1 : look τ s = look σ s:=(hl (.tmp s) (by simp) s rfl).1
   have e2 : look τ q = look σ q:=(hl (.tmp q) (by simp) q rfl).1
   have eu : usedOf τ [.tmp q] = usedOf σ [.tmp q]:=by simp only [usedOf,e2]
   unfold MSto
   rw [e1,e2,e,eu]
   exact ⟨h0,h1,h2,h3,g1,g2,g3,g4,hk⟩
 ·exact h.elim
theorem kp_keep {s : Nat} {v : AV} (hv : v.target ≠ some s) : keepP s [0] v = v:=by
 cases v <;> simp only [keepP] <;> rw [if_neg] <;> (rintro ⟨rfl,_⟩; exact hv rfl)
theorem kp_pu {s : Nat} {us : List Nat} {v : AV} (hn : (purgeV us (keepP s [0] v)).target = none) : purgeV (s :: us) v = purgeV us (keepP s [0] v):=by
 by_cases hv : v.target = some s
 ·have e1 : purgeV (s :: us) v = .undef:=by cases v <;> simp only [AV.target,Option.some.injEq,reduceCtorEq] at hv <;> subst hv <;> simp [purgeV]
  rw [e1]
  rcases purgeV_undef us (keepP s [0] v) with e | ⟨e,_⟩
  ·rw [e] at hn ⊢
   cases v <;> simp only [AV.target,Option.some.injEq,reduceCtorEq] at hv <;> subst hv <;> simp only [keepP] at hn ⊢ <;> (split at hn <;> simp_all [AV.target])
  ·rw [e]
 ·rw [kp_keep hv] at hn ⊢
  rcases purgeV_undef us v with e | ⟨e,u,hu,hm⟩
  ·rw [e] at hn ⊢
   exact purgeV_none _ hn
  ·rw [e]
   cases v <;> simp only [AV.target,Option.some.injEq,reduceCtorEq] at hu <;> subst hu <;> simp [purgeV,hm]
theorem pu_und {ms : List Nat} {v : AV} {u : Nat} (hp : purgeV ms v = v) (hu : v.target = some u) (hm : u ∈ ms) : v = .undef:=by
 cases v <;> simp only [AV.target,Option.some.injEq,reduceCtorEq] at hu <;> subst hu <;> simp [purgeV,hm] at hp
theorem sto_sound {P : Program} {C : Ctx P} {cw : Call → Option Tmp → St → (St → Prop) → Prop} (hc : CallsOk P cw) {ss : List Nat} {t : TypeId} {s q : Nat} {σ : St} {a : Act} {w : World} {K : St → Prop} {o : Oper} {Q : Exit → Act → World → Prop} (hop : o.op = .store t (.tmp s) (.tmp q)) (hd : o.dst = none) (ho : operOk a.tmps.size C.ks o = true) (S : Sim C σ a w) (h : MSto P ss t s q σ K) :
  o.wp P a w (lift C K) Q:=by
 obtain ⟨dst,op,ty,pos,af,g⟩:=o
 simp only at hop hd
 subst hop hd
 obtain ⟨h0,h1,h2,tq,h⟩:=h
 split at h
 ·rename_i y e
  obtain ⟨g1,g2,g3,g4,g5⟩:=h
  have px : pull σ (.tmp q) = σ:=pull_none (fun u hu => by cases hu; exact tq)
  have hus0 : ∀ u ∈ usedOf σ [.tmp q],u ≠ s:=fun u hu he => by
   have:=usedOf_mem hu
   simp only [List.mem_singleton,Operand.tmp.injEq] at this
   exact h1 (by rw [← this,he])
  have hw : opW P cw σ ⟨none,.store t (.tmp s) (.tmp q),ty,pos,af,g⟩ (fun σ' => σ' = setP σ s [0] (look σ q) (wipe (usedOf σ [.tmp q]))):=by
   have e0 : ∀ K',opW P cw σ ⟨none,.store t (.tmp s) (.tmp q),ty,pos,af,g⟩ K' = storeW P σ t (.tmp s) (.tmp q) K':=fun _ => rfl
   rw [e0]
   unfold storeW
   simp only [px]
   have es : srcOf σ (.tmp s) = .pto s [0] y:=by unfold srcOf; simp only [ev,e]
   rw [es]
   simp only [ev]
   exact ⟨fun hh => h1 (by cases hh; rfl),g1,g2,g3,g4,trivial⟩
  generalize usedOf σ [.tmp q] = us at *
  refine Oper.wp_mono ?_ (sim_op hc ho S hw)
  rintro a' w' ⟨σ',rfl,S'⟩
  refine ⟨_,g5,S'.weaken ?_⟩
  have lt : ∀ k,look (upd σ ((s,.box (look σ q)) :: wipe us)) k = if k = s then .box (look σ q) else if k ∈ us then .undef else purgeV (s :: us) (look σ k):=by
   intro k
   rw [look_upd]
   simp only [keys,keys_wipe,List.mem_cons]
   by_cases hk : k = s
   ·subst hk; simp [look]
   ·by_cases hu : k ∈ us
    ·simp only [hk,hu,or_true,if_true,if_false,look,Ne.symm hk,look_wipe]
    ·simp only [hk,hu,or_self,if_false]
  have ls : ∀ k,look (setP σ s [0] (look σ q) (wipe us)) k = if k = s then .box (look σ q) else if k ∈ us then .undef else purgeV us (keepP s [0] (look σ k)):=by
   intro k
   rw [look_setP,keys_wipe]
   by_cases hk : k = s
   ·subst hk; simp [e,setAt]
   ·simp only [if_neg hk,look_wipe]
  intro k
  rw [lt k]
  by_cases hk : k = s
  ·subst hk
   rw [if_pos rfl]
   refine .inr (.inl ⟨by rw [ls,if_pos rfl],fun u hu => ?_⟩)
   rw [ls,if_pos rfl] at hu; simp [AV.target] at hu
  ·rw [if_neg hk]
   by_cases hku : k ∈ us
   ·rw [if_pos hku]; exact .inl rfl
   ·rw [if_neg hku]
    rcases purgeV_undef (s :: us) (look σ k) with hp | ⟨hp,_⟩
    ·by_cases ht : ∃ u,(look σ k).target = some u ∧ u ∈ s :: us
     ·left
      obtain ⟨u,hu,hm⟩:=ht
      rw [hp]
      exact pu_und hp hu hm
     ·have hts : (look σ k).target ≠ some s:=fun hh => ht ⟨s,hh,by simp⟩
      have lk : look (setP σ s [0] (look σ q) (wipe us)) k = look σ k:=by
       rw [ls,if_neg hk,if_neg hku,kp_keep hts]
       rcases purgeV_undef us (look σ k) with hh | ⟨_,u,hu,hm⟩
       ·exact hh
       ·exact absurd ⟨u,hu,List.mem_cons_of_mem _ hm⟩ ht
      refine .inr (.inl ⟨by rw [hp,lk],fun u hu hn => ?_⟩)
      rw [lk] at hu
      have hu1 : u ≠ s:=fun hh => hts (by rw [hu,hh])
      have hu2 : u ∉ us:=fun hh => ht ⟨u,hu,List.mem_cons_of_mem _ hh⟩
      rw [lt u,if_neg hu1,if_neg hu2,ls u,if_neg hu1,if_neg hu2]
      rw [ls u,if_neg hu1,if_neg hu2] at hn
      exact kp_pu hn
    ·exact .inl hp
 ·exact h.elim
theorem cut_eff {P : Program} {s0 : Nat} {t : TypeId} {x y : Operand} {d : Nat} {σ : St} {K : St → Prop} (h : MCut P s0 t x y d σ K) : ∃ v,v.target = none ∧ K (upd σ [(d,v),(s0,.undef)]) ∧ ∀ τ,(∀ z ∈ [x,y],LikeX σ τ z) → ∀ K' : St → Prop,K' (upd τ [(d,v),(s0,.undef)]) → MCut P s0 t x y d τ K':=by
 unfold MCut at h
 split at h
 ·rename_i s k n ex ey
  obtain ⟨rfl,hd,h⟩:=h
  split at h
  ·rename_i sz xs es
   obtain ⟨h1,h2,h3,h4,h5,h6,h7⟩:=h
   refine ⟨_,rfl,h7,fun τ hl K' hk => ?_⟩
   have hs : look τ s = look σ s:=by
    cases x with
    | tmp q => simp only [ev] at ex; exact (hl (.tmp q) (by simp) q rfl).2 s (by rw [ex]; rfl)
    | const v => have:=constV_target v; simp only [ev] at ex; rw [ex] at this; simp [AV.target] at this
    | global g => simp [ev] at ex
    | func f => simp [ev] at ex
   unfold MCut
   rw [like_ev (hl x (by simp)),like_ev (hl y (by simp)),ex,ey]
   simp only
   rw [hs,es]
   exact ⟨trivial,hd,h1,h2,h3,h4,h5,h6,hk⟩
  ·exact h.elim
 ·exact h.elim
theorem purge_two (d s : Nat) (v : AV) : purgeV [d,s] (purgeV [d] v) = purgeV [d,s] v:=by
 rcases purgeV_undef [d] v with e | ⟨e,u,hu,hm⟩
 ·rw [e]
 ·rw [e]
  simp only [List.mem_singleton] at hm
  subst hm
  cases v <;> simp only [AV.target,Option.some.injEq,reduceCtorEq] at hu <;> subst hu <;> simp [purgeV]
theorem cut_sound {P : Program} {C : Ctx P} {cw : Call → Option Tmp → St → (St → Prop) → Prop} (hc : CallsOk P cw) {s0 : Nat} {t : TypeId} {x y : Operand} {d : Nat} {σ : St} {a : Act} {w : World} {K : St → Prop} {o : Oper} {Q : Exit → Act → World → Prop} (hop : o.op = .slice t x none (some y) none) (hd : o.dst = some d) (ho : operOk a.tmps.size C.ks o = true) (S : Sim C σ a w) (h : MCut P s0 t x y d σ K) :
  o.wp P a w (lift C K) Q:=by
 obtain ⟨dst,op,ty,pos,af,g⟩:=o
 simp only at hop hd
 subst hop hd
 unfold MCut at h
 split at h
 ·rename_i s k n ex ey
  obtain ⟨rfl,hds,h⟩:=h
  split at h
  ·rename_i sz xs es
   obtain ⟨h1,h2,h3,h4,h5,h6,h7⟩:=h
   have hw : opW P cw σ ⟨some d,.slice t x none (some y) none,ty,pos,af,g⟩ (fun σ' => σ' = put σ d (.vsub s [] 0 n.toNat) []):=by
    show sliceStrW P σ t x none (some y) _
    unfold sliceStrW
    rw [ex]
    simp only [getAt,es,ey]
    exact ⟨h2,h3,h4,Int.le_refl _,h5,h6,by simp only [AV.target,ne_eq,Option.some.injEq]; exact fun e => hds e.symm,rfl⟩
   have hsz : a.tmps.size = C.n:=S.2.2.1
   have hdl : d < a.tmps.size:=by
    have:=ho
    simp only [operOk,Bool.and_eq_true,decide_eq_true_eq] at this
    exact this.2.1
   refine Oper.wp_mono ?_ (sim_op hc ho S hw)
   rintro a' w' ⟨σ',rfl,S'⟩
   have lk : ∀ k,look (put σ d (.vsub s [] 0 n.toNat) []) k = if k = d then .vsub s [] 0 n.toNat else purgeV [d] (look σ k):=by
    intro k
    unfold put
    rw [look_upd]
    simp only [keys,keys_wipe,List.mem_cons,List.not_mem_nil,or_false]
    split
    ·rename_i e; subst e; simp [look]
    ·rfl
   have S2:=S'.cut (t:=d) (s:=s) (hi:=n.toNat) (sz:=sz) (xs:=xs) (by rw [S'.2.2.1,← hsz]; exact hdl) (by rw [lk,if_pos rfl]) (by rw [lk,if_neg (fun e => hds e.symm),es]; rfl) h1
   refine ⟨_,h7,S2.eqv ?_⟩
   intro k
   rw [look_upd,look_upd,lk]
   simp only [keys,List.mem_cons,List.not_mem_nil,or_false]
   by_cases e1 : k = d
   ·subst e1; simp [look]
   ·by_cases e2 : k = s
    ·subst e2; simp [look]
    ·simp only [e1,e2,or_self,if_false]
     exact (purge_two d s _).symm
  ·exact h.elim
 ·exact h.elim
theorem m_eff {P : Program} {s0 : Nat} {f : FuncId} {xs : List Operand} {dst : Option Tmp} {σ : St} {K : St → Prop} (h : MStep P s0 f xs dst σ K) : ∃ d v z,dst = some d ∧ d ≠ s0 ∧ v.target = none ∧ z.target = none ∧ K (upd σ [(d,v),(s0,z)]) ∧ ∀ τ,(∀ x ∈ xs,LikeX σ τ x) → ∀ K' : St → Prop,K' (upd τ [(d,v),(s0,z)]) → MStep P s0 f xs dst τ K':=by
 obtain ⟨i,x,p,y,y',args0,args,res,outs,h1,h2,h3,h4,h5,h6,h7,h8,h9,h10,h11,h12,hk⟩:=h
 obtain ⟨d,hd⟩:=Option.isSome_iff_exists.1 h12
 subst hd
 refine ⟨d,res,_,rfl,fun e => h10 (by rw [e]),h9,h11,hk,fun τ hlx K' hk' => ?_⟩
 have hx:=hlx x (List.mem_of_getElem? h2)
 refine ⟨i,x,p,y,y',args0,args,res,outs,h1,h2,by rw [like_home hx]; exact h3,by rw [like_argsM _ _ hlx]; exact h4,h5,h6,h7,by rw [like_othersVal _ _ hlx]; exact h8,h9,h10,?_,h12,?_⟩
 ·rw [home_look hx h3]; exact h11
 ·rw [home_look hx h3]; exact hk'
theorem likeX_upd {σ τ : St} {t : Nat} {x : Operand} {xs : List Operand} (hx : x ∈ xs) (hl : ∀ z ∈ xs,LikeX σ τ z) (ht : Operand.tmp t ∈ xs) : LikeX (upd σ [(t,erase (look σ t))]) (upd τ [(t,erase (look τ t))]) x:=by
 intro s hs
 obtain ⟨g1,g2⟩:=hl x hx s hs
 obtain ⟨q1,q2⟩:=hl _ ht t rfl
 have key : ∀ k,look τ k = look σ k → look (upd τ [(t,erase (look τ t))]) k = look (upd σ [(t,erase (look σ t))]) k:=by
  intro k hk
  rw [look_upd,look_upd,hk]
  by_cases e : k = t
  ·subst e; simp only [keys,List.mem_cons,true_or,if_true,Am.look]; rw [hk]
  ·simp only [keys,List.mem_cons,List.not_mem_nil,or_false,e,if_false]
 refine ⟨key s g1,fun u hu => key u (g2 u ?_)⟩
 rw [look_upd] at hu
 split at hu
 ·simp only [keys,List.mem_cons,List.not_mem_nil,or_false] at *
  rename_i e
  subst e
  simp only [Am.look,if_true] at hu
  cases hlk : (look σ s) <;> rw [hlk] at hu <;> simp_all [erase,AV.target]
 ·rcases purgeV_undef (keys [(t,erase (look σ t))]) (look σ s) with e | ⟨e,_⟩
  ·rw [e] at hu; exact hu
  ·rw [e] at hu; cases hu
theorem mF_eff {P : Program} {ss : List Nat} {f : FuncId} {xs : List Operand} {dst : Option Tmp} {σ : St} {K : St → Prop} (h : MStepF P ss f xs dst σ K) : ∃ n ρ,(∀ t ∈ keys n,dst = some t ∨ t ∈ ss) ∧ (∀ k,(look n k).target = none) ∧ Eqv (upd σ n) ρ ∧ K ρ ∧ ∀ τ,(∀ x ∈ xs,LikeX σ τ x) → ∀ K' : St → Prop,(∀ ρ,Eqv (upd τ n) ρ → K' ρ) → MStepF P ss f xs dst τ K':=by
 rcases h with ⟨s0,rfl,h⟩ | ⟨s0,t,rfl,ht,hts,hdt,htn,h⟩
 ·obtain ⟨d,v,z,rfl,hds,hv,hz,hk,hf⟩:=m_eff h
  refine ⟨[(d,v),(s0,z)],_,?_,?_,.refl _,hk,fun τ hl K' hk' => .inl ⟨s0,rfl,hf τ hl K' (hk' _ (.refl _))⟩⟩
  ·intro t ht
   simp only [keys,List.mem_cons,List.not_mem_nil,or_false] at ht
   rcases ht with rfl | rfl <;> simp
  ·intro k
   simp only [look]
   split
   ·exact hv
   ·split
    ·exact hz
    ·rfl
 ·obtain ⟨d,v,z,rfl,hds,hv,hz,hk,hf⟩:=m_eff h
  have hdt' : d ≠ t:=fun e => hdt (by rw [e])
  have he : ∀ τ : St,look τ t = look σ t → Eqv (upd τ [(d,v),(s0,z),(t,erase (look σ t))]) (upd (upd τ [(t,erase (look τ t))]) [(d,v),(s0,z)]):=by
   intro τ hτ k
   rw [look_upd,look_upd,look_upd,hτ]
   simp only [keys,List.mem_cons,List.not_mem_nil,or_false,look]
   by_cases e1 : k = d
   ·subst e1; simp
   ·by_cases e2 : k = s0
    ·subst e2; simp [Ne.symm e1]
    ·by_cases e3 : k = t
     ·subst e3
      simp only [e1,e2,or_self,if_false,or_true,if_true,Ne.symm e1,Ne.symm e2]
      exact purgeV_none _ (erase_target htn)
     ·simp only [e1,e2,e3,or_self,if_false]
      have e4:=purgeV_undef [t] (look τ k)
      rcases purgeV_undef [t] (look τ k) with e | ⟨e,u,hu,hm⟩
      ·rw [e]
       cases hx : look τ k <;> rw [hx] at e <;> simp_all [purgeV]
      ·rw [e]
       simp only [List.mem_singleton] at hm
       subst hm
       cases hx : look τ k <;> rw [hx] at hu <;> simp_all [purgeV,AV.target]
  refine ⟨[(d,v),(s0,z),(t,erase (look σ t))],_,?_,?_,he σ rfl,hk,fun τ hl K' hk' => .inr ⟨s0,t,rfl,ht,hts,hdt,?_,?_⟩⟩
  ·intro t ht
   simp only [keys,List.mem_cons,List.not_mem_nil,or_false] at ht
   rcases ht with rfl | rfl | rfl <;> simp
  ·intro k
   simp only [look]
   split
   ·exact hv
   ·split
    ·exact hz
    ·split
     ·exact erase_target htn
     ·rfl
  ·rw [(hl _ ht t rfl).1]; exact htn
  ·exact hf _ (fun x hx => likeX_upd hx hl ht) K' (hk' _ (he τ (hl _ ht t rfl).1))
theorem like_sub {σ τ : St} {y : Operand} (h : LikeX σ τ y) : subOf τ y = subOf σ y:=by
 unfold subOf
 rw [like_ev h]
 split
 ·rename_i s p lo hi e
  have : look τ s = look σ s:=by
   cases y with
   | tmp q => simp only [ev] at e; exact (h q rfl).2 s (by rw [e]; rfl)
   | const v => have:=constV_target v; simp only [ev] at e; rw [e] at this; simp [AV.target] at this
   | global g => simp [ev] at e
   | func f => simp [ev] at e
  rw [this]
 ·rfl
theorem app_eff {P : Program} {s0 : Nat} {x y : Operand} {t t' : TypeId} {d : Nat} {σ : St} {K : St → Prop} (h : MApp P s0 x y t t' d σ K) : ∃ v us,v.target = none ∧ (∀ t ∈ us,t = s0) ∧ K (put σ d v us) ∧ ∀ τ,(∀ z ∈ [x,y],LikeX σ τ z) → ∀ K' : St → Prop,K' (put τ d v us) → MApp P s0 x y t t' d τ K':=by
 obtain ⟨rfl,rfl,hn,h⟩:=h
 have px : ∀ ρ : St,(look ρ s0).target = none → pull ρ (.tmp s0) = ρ:=fun ρ hr => pull_none (fun s hs => by cases hs; exact hr)
 unfold appendW at h
 simp only [px σ hn] at h
 obtain ⟨h1,h2,h3,h4⟩:=h
 split at h4
 ·rename_i sz xs ex
  obtain ⟨h5,h6⟩:=h4
  have hn' : ∀ τ,LikeX σ τ (.tmp s0) → (look τ s0).target = none:=fun τ hl => by rw [(hl s0 rfl).1]; exact hn
  have hus : ∀ t ∈ usedOf σ [Operand.tmp s0],t = s0:=fun t ht => by have:=usedOf_mem ht; simpa using this
  split at h6
  ·rename_i sz2 ys ey
   obtain ⟨h7,h8,h9⟩:=h6
   refine ⟨_,_,rfl,hus,h9,fun τ hl K' hk => ⟨rfl,rfl,hn' τ (hl _ (by simp)),?_⟩⟩
   unfold appendW
   simp only [px τ (hn' τ (hl _ (by simp))),like_ev (hl (.tmp s0) (by simp)),like_src (hl y (by simp)),ex,ey,usedOf_like (xs:=[Operand.tmp s0]) (fun z hz => hl z (by simp at hz; simp [hz]))]
   exact ⟨h1,h2,h3,h5,h7,h8,hk⟩
  ·rename_i s p sz2 ys ey
   obtain ⟨h7,h8,h9,h10,h11⟩:=h6
   refine ⟨_,_,rfl,hus,h11,fun τ hl K' hk => ⟨rfl,rfl,hn' τ (hl _ (by simp)),?_⟩⟩
   unfold appendW
   simp only [px τ (hn' τ (hl _ (by simp))),like_ev (hl (.tmp s0) (by simp)),like_src (hl y (by simp)),ex,ey,usedOf_like (xs:=[Operand.tmp s0]) (fun z hz => hl z (by simp at hz; simp [hz]))]
   exact ⟨h1,h2,h3,h5,h7,h8,h9,h10,hk⟩
  ·rename_i ey
   split at h6
   ·rename_i s sz2 zs lo hi es
    obtain ⟨h7,h8,h9,h10,h11⟩:=h6
    refine ⟨_,_,rfl,hus,h11,fun τ hl K' hk => ⟨rfl,rfl,hn' τ (hl _ (by simp)),?_⟩⟩
    unfold appendW
    simp only [px τ (hn' τ (hl _ (by simp))),like_ev (hl (.tmp s0) (by simp)),like_src (hl y (by simp)),like_sub (hl y (by simp)),ex,ey,es,usedOf_like (xs:=[Operand.tmp s0]) (fun z hz => hl z (by simp at hz; simp [hz]))]
    exact ⟨h1,h2,h3,h5,h7,h8,h9,h10,hk⟩
   ·exact h6.elim
  ·exact h6.elim
 ·exact h4.elim
theorem app_opW {P : Program} {cw : Call → Option Tmp → St → (St → Prop) → Prop} {s0 : Nat} {x y : Operand} {t t' : TypeId} {d : Nat} {σ : St} {K : St → Prop} {ty : TypeId} {pos : String} {af : Array Edge} {g : Option (Nat × Bool)} (h : MApp P s0 x y t t' d σ K) :
  opW P cw σ ⟨some d,.call ⟨.builtin .append,#[x,y],#[t,t']⟩,ty,pos,af,g⟩ K:=by
 obtain ⟨rfl,rfl,hn,h⟩:=h
 refine ⟨rfl,?_⟩
 have px : pull σ (.tmp s0) = σ:=pull_none (fun s hs => by cases hs; exact hn)
 rw [px]
 split
 ·rename_i s p sz ys e
  have hp : plainL ys = true:=by
   have h:=h
   unfold appendW at h
   simp only [px] at h
   obtain ⟨_,_,_,h4⟩:=h
   split at h4
   ·obtain ⟨_,h6⟩:=h4
    rw [e] at h6
    exact h6.2.1
   ·exact h4.elim
  rw [if_pos hp]; exact h
 ·exact h
def gW (P : Program) (callW : Call → Option Tmp → St → (St → Prop) → Prop) (all : List Oper) (dm : Nat) (ss : List Nat) (o : Oper) (σ : St) (K : St → Prop) : Prop :=
 match isM dm o with
 | true => o.guard = none ∧ mStepW P ss o σ K
 | false => stepW P callW all o σ K
def inSq (sq : List Nat) (o : Oper) : Bool:=match o.dst with | some d => sq.contains d | none => false
def isG (P : Program) (all : List Oper) (dm : Nat) (sq : List Nat) (o : Oper) : Bool:=isM dm o || (!inSq sq o && isP P all o)
def dsG (dm : Nat) (ss : List Nat) (ds : List Nat) (o : Oper) : List Nat:=if isM dm o then ds else ss ++ ds
def chkG (all : List Oper) (dm : Nat) (ss : List Nat) (o : Oper) (σ : St) (ds : List Nat) (s : Nat) : Bool:=if isM dm o then check1 σ ds s else chkO all o σ (ss ++ ds) s
def touch (all : List Oper) (dm : Nat) (ss : List Nat) (o : Oper) : List Nat:=o.dst.toList ++ (if isM dm o then ss else if isB all o then looks all o else [])
def apartG (all : List Oper) (dm : Nat) (ss : List Nat) (x y : Oper) : Bool:=disj (touch all dm ss x) (touch all dm ss y) && disj (touch all dm ss x) (looks all y) && disj (touch all dm ss y) (looks all x)
section
variable {P : Program} {callW : Call → Option Tmp → St → (St → Prop) → Prop} {all : List Oper} {dm : Nat} {ss : List Nat} {sq ds : List Nat}
theorem chkG_1 {o : Oper} {σ : St} {s : Nat} (h : chkG all dm ss o σ ds s = true) : check1 σ (dsG dm ss ds o) s = true:=by
 unfold chkG at h
 unfold dsG
 cases hm : isM dm o with
 | true => rw [hm] at h; exact h
 | false => rw [hm] at h; exact chkO_1 h
theorem chkG_to {o : Oper} {σ τ : St} {s : Nat} (hl : Like σ τ s) (h1 : check1 τ (dsG dm ss ds o) s = true) (h : chkG all dm ss o σ ds s = true) : chkG all dm ss o τ ds s = true:=by
 unfold chkG at h ⊢
 unfold dsG at h1
 cases hm : isM dm o with
 | true => rw [hm] at h1; simpa using h1
 | false =>
  rw [hm] at h h1
  exact chkO_to hl h1 h
theorem chkG_eqv {o : Oper} {σ τ : St} {s : Nat} (h : Eqv σ τ) (hc : chkG all dm ss o σ ds s = true) : chkG all dm ss o τ ds s = true :=
 chkG_to (h.like s) (by rw [check1_like h]; exact chkG_1 hc) hc
def ExecG (P : Program) (callW : Call → Option Tmp → St → (St → Prop) → Prop) (all : List Oper) (dm : Nat) (ss : List Nat) (ds : List Nat) (σ : St) (o : Oper) (N : Option St) : Prop :=
 (∀ t ∈ keysO N,t ∈ touch all dm ss o ∧ t ∈ ss ++ ds) ∧ (∀ k ∈ keysO N,∀ t,(lookO N k).target = some t → ∃ s ∈ looks all o,t = s ∨ (look σ s).target = some t) ∧
 ∀ τ,(∀ s ∈ looks all o,Like σ τ s) → ∀ K' : St → Prop,(∀ ρ,Eqv (eff τ N) ρ → K' ρ) → gW P callW all dm ss o τ K'
theorem ExecG.like {σ τ : St} {o : Oper} {N : Option St} (h : ExecG P callW all dm ss ds σ o N) (hl : ∀ s ∈ looks all o,Like σ τ s) : ExecG P callW all dm ss ds τ o N:=by
 refine ⟨h.1,fun k hk t ht => ?_,fun ρ hr K' hk => h.2.2 ρ (fun s hs => (hl s hs).trans (hr s hs)) K' hk⟩
 obtain ⟨s,hs,hh⟩:=h.2.1 k hk t ht
 exact ⟨s,hs,by rw [(hl s hs).1]; exact hh⟩
theorem g_step (hcl : CallsLoc callW) {o : Oper} (hg : isG P all dm sq o = true) (hdo : ∀ d,o.dst = some d → d ∈ ds) {σ : St} (hc : ∀ s ∈ looks all o,chkG all dm ss o σ ds s = true) {K : St → Prop} (h : gW P callW all dm ss o σ K) :
  ∃ N ρ,ExecG P callW all dm ss ds σ o N ∧ Eqv (eff σ N) ρ ∧ K ρ:=by
 cases hm : isM dm o with
 | true =>
  unfold gW at h
  rw [hm] at h
  obtain ⟨hgd,h⟩:=h
  unfold mStepW at h
  split at h
  ·rename_i c hop
   split at h
   ·rename_i f _ _ _ hf
    have hlx : ∀ τ,(∀ s ∈ looks all o,Like σ τ s) → ∀ x ∈ c.args.toList,LikeX σ τ x:=by
     intro τ hl x hx s hs
     subst hs
     refine hl s (looks_tmp ?_)
     rw [hop]
     simp only [Op.operands,Call.operands,hf]
     simpa using hx
    obtain ⟨ss',hss,h⟩:=h
    obtain ⟨n,ρ,g1,g2,g3,g4,g5⟩:=mF_eff h
    refine ⟨some n,ρ,⟨?_,?_,?_⟩,g3,g4⟩
    ·intro t ht
     unfold touch
     rw [hm]
     rcases g1 t ht with hd | hs
     ·rw [hd]; exact ⟨by simp,List.mem_append_right _ (hdo _ hd)⟩
     ·exact ⟨by simp [hss _ hs],List.mem_append_left _ (hss _ hs)⟩
    ·intro k hkk t ht
     simp only [lookO] at ht
     rw [g2 k] at ht; cases ht
    ·intro τ hl K' hk'
     unfold gW
     rw [hm]
     refine ⟨hgd,?_⟩
     unfold mStepW
     rw [hop]
     simp only
     rw [hf]
     exact ⟨ss',hss,g5 τ (hlx τ hl) K' hk'⟩
   ·rename_i x y t t' d hcal hx hty hd
    obtain ⟨s0,rfl,h⟩:=h
    have hlx : ∀ τ,(∀ s ∈ looks all o,Like σ τ s) → ∀ z ∈ [x,y],LikeX σ τ z:=by
     intro τ hl z hz s hs
     subst hs
     refine hl s (looks_tmp ?_)
     rw [hop]
     simp only [Op.operands,Call.operands,hcal]
     have : Operand.tmp s ∈ c.args.toList:=by rw [hx]; exact hz
     simpa using this
    obtain ⟨v,us,g1,g2,g3,g4⟩:=app_eff h
    refine ⟨some ((d,v) :: wipe us),_,⟨?_,?_,fun τ hl K' hk => ?_⟩,.refl _,g3⟩
    ·intro t ht
     simp only [keysO,keys,keys_wipe,List.mem_cons] at ht
     unfold touch
     rw [hm,hd]
     rcases ht with rfl | ht
     ·exact ⟨by simp,List.mem_append_right _ (hdo _ hd)⟩
     ·obtain rfl:=g2 t ht
      exact ⟨by simp,List.mem_append_left _ (by simp)⟩
    ·intro k hk t ht
     simp only [lookO,look,look_wipe] at ht
     split at ht
     ·rw [g1] at ht; cases ht
     ·simp [AV.target] at ht
    ·unfold gW
     rw [hm]
     refine ⟨hgd,?_⟩
     unfold mStepW
     rw [hop]
     simp only
     rw [hcal,hx,hty,hd]
     exact ⟨s0,rfl,g4 τ (hlx τ hl) K' (hk _ (.refl _))⟩
   ·exact h.elim
  ·rename_i t x y hop
   split at h
   ·rename_i d hd
    obtain ⟨s0,rfl,h⟩:=h
    have hlx : ∀ τ,(∀ s ∈ looks all o,Like σ τ s) → ∀ z ∈ [x,y],LikeX σ τ z:=by
     intro τ hl z hz s hs
     subst hs
     refine hl s (looks_tmp ?_)
     rw [hop]
     simp only [List.mem_cons,List.not_mem_nil,or_false] at hz
     rcases hz with rfl | rfl <;> simp [Op.operands]
    obtain ⟨v,g1,g3,g4⟩:=cut_eff h
    refine ⟨some [(d,v),(s0,.undef)],_,⟨?_,?_,fun τ hl K' hk => ?_⟩,.refl _,g3⟩
    ·intro t ht
     simp only [keysO,keys,List.mem_cons,List.not_mem_nil,or_false] at ht
     unfold touch
     rw [hm,hd]
     rcases ht with rfl | rfl
     ·exact ⟨by simp,List.mem_append_right _ (hdo _ hd)⟩
     ·exact ⟨by simp,List.mem_append_left _ (by simp)⟩
    ·intro k hk t ht
     simp only [lookO,look] at ht
     split at ht
     ·rw [g1] at ht; cases ht
     ·split at ht <;> simp [AV.target] at ht
    ·unfold gW
     rw [hm]
     refine ⟨hgd,?_⟩
     unfold mStepW
     rw [hop]
     simp only
     rw [hd]
     exact ⟨s0,rfl,g4 τ (hlx τ hl) K' (hk _ (.refl _))⟩
   ·exact h.elim
  ·rename_i t s q hop
   split at h
   ·exact h.elim
   ·rename_i hd
    have hlx : ∀ τ,(∀ s ∈ looks all o,Like σ τ s) → ∀ z ∈ [Operand.tmp s,.tmp q],LikeX σ τ z:=by
     intro τ hl z hz s' hs
     subst hs
     refine hl s' (looks_tmp ?_)
     rw [hop]
     simp only [List.mem_cons,List.not_mem_nil,or_false] at hz
     rcases hz with hz | hz <;> simp [Op.operands,hz]
    obtain ⟨hsi,v,us,hus,g3,g4⟩:=sto_eff h
    refine ⟨some ((s,.box v) :: wipe us),_,⟨?_,?_,fun τ hl K' hk => ?_⟩,.refl _,g3⟩
    ·intro t ht
     simp only [keysO,keys,keys_wipe,List.mem_cons] at ht
     unfold touch
     rw [hm]
     have htm : t ∈ ss:=by
      rcases ht with rfl | ht
      ·exact hsi
      ·exact hus _ ht
     exact ⟨by simp [htm],List.mem_append_left _ htm⟩
    ·intro k hk t ht
     simp only [lookO,look,look_wipe] at ht
     split at ht <;> simp [AV.target] at ht
    ·unfold gW
     rw [hm]
     refine ⟨hgd,?_⟩
     unfold mStepW
     rw [hop]
     simp only
     rw [hd]
     exact g4 τ (hlx τ hl) K' (hk _ (.refl _))
  ·exact h.elim
 | false =>
  have hp : isP P all o = true:=by unfold isG at hg; rw [hm,Bool.false_or,Bool.and_eq_true] at hg; exact hg.2
  unfold gW at h
  rw [hm] at h
  have hc' : ∀ s ∈ looks all o,chkO all o σ (ss ++ ds) s = true:=fun s hs => by have:=hc s hs; unfold chkG at this; rw [hm] at this; exact this
  obtain ⟨y,us,g1,g2,g2',g3,g4⟩:=t_step hcl hp (fun s hs => check1_live (chkO_1 (hc' s hs))) (fun hb s hs => (chkO_B hb (hc' s hs)).2.2) h
  have hfw : ∀ τ,(∀ s ∈ looks all o,Like σ τ s) → ∀ K' : St → Prop,K' (putU τ o.dst y us) → gW P callW all dm ss o τ K':=by
   intro τ hl K' hk
   unfold gW
   rw [hm]
   exact g4 τ hl K' hk
  cases hd : o.dst with
  | none =>
   rw [hd] at g3 hfw
   exact ⟨none,_,⟨by simp [keysO],by simp [keysO],fun τ hl K' hk => hfw τ hl K' (hk _ (.refl _))⟩,.refl _,g3⟩
  | some d =>
   rw [hd] at g3 hfw
   refine ⟨some ((d,y) :: wipe us),_,⟨?_,?_,fun τ hl K' hk => hfw τ hl K' (hk _ (.refl _))⟩,.refl _,g3⟩
   ·intro t ht
    simp only [keysO,keys,keys_wipe,List.mem_cons] at ht
    unfold touch
    rw [hm,hd]
    rcases ht with rfl | ht
    ·exact ⟨by simp,List.mem_append_right _ (hdo _ hd)⟩
    ·obtain ⟨hb,hl⟩:=g2' t ht
     rw [hb]
     exact ⟨by simp [hl],(chkO_B hb (hc' t hl)).1⟩
   ·intro k hk t ht
    simp only [lookO,look,look_wipe] at ht
    split at ht
    ·exact g1 t ht
    ·simp [AV.target] at ht
def dGW (P : Program) (callW : Call → Option Tmp → St → (St → Prop) → Prop) (all : List Oper) (dm : Nat) (sq : List Nat) (ss : List Nat) (ds : List Nat) : List Oper → St → (St → Prop) → Prop
 | [],σ,K => K σ
 | o :: r,σ,K => (isG P all dm sq o = true → (looks all o).all (chkG all dm ss o σ ds) = true) ∧ gW P callW all dm ss o σ (fun σ' => dGW P callW all dm sq ss ds r σ' K)
def dGE (P : Program) (callW : Call → Option Tmp → St → (St → Prop) → Prop) (all : List Oper) (dm : Nat) (sq : List Nat) (ss : List Nat) (ds : List Nat) : List Oper → St → (St → Prop) → Prop
 | [],σ,K => ∃ σ',Eqv σ σ' ∧ K σ'
 | o :: r,σ,K => (isG P all dm sq o = true ∧ (∀ s ∈ looks all o,chkG all dm ss o σ ds s = true) ∧ ∃ N,ExecG P callW all dm ss ds σ o N ∧ dGE P callW all dm sq ss ds r (eff σ N) K) ∨
  (isG P all dm sq o = false ∧ ∃ σ',Eqv σ σ' ∧ stepW P callW all o σ' (fun σ1 => dGW P callW all dm sq ss ds r σ1 K))
theorem gW_n {o : Oper} (h : isG P all dm sq o = false) {σ : St} {K : St → Prop} : gW P callW all dm ss o σ K = stepW P callW all o σ K:=by
 unfold isG at h
 rw [Bool.or_eq_false_iff] at h
 unfold gW
 rw [h.1]
theorem dGE_eqv : ∀ (l : List Oper) {σ τ : St} {K : St → Prop},Eqv σ τ → dGE P callW all dm sq ss ds l σ K → dGE P callW all dm sq ss ds l τ K
 | [],σ,τ,K,e,h => by
  obtain ⟨σ',h1,h2⟩:=h
  exact ⟨σ',e.symm.trans h1,h2⟩
 | o :: r,σ,τ,K,e,h => by
  rcases h with ⟨hp,h1,N,h2,h3⟩ | ⟨hp,σ',h1,h2⟩
  ·exact .inl ⟨hp,fun s hs => chkG_eqv e (h1 s hs),N,h2.like (fun s _ => e.like s),dGE_eqv r (eff_eqv e _) h3⟩
  ·exact .inr ⟨hp,σ',e.symm.trans h1,h2⟩
theorem dGE_of (hcl : CallsLoc callW) : ∀ (l : List Oper) (σ : St) {K : St → Prop},(∀ o ∈ l,∀ d,o.dst = some d → d ∈ ds) → dGW P callW all dm sq ss ds l σ K → dGE P callW all dm sq ss ds l σ K
 | [],σ,K,_,h => ⟨σ,.refl σ,h⟩
 | o :: r,σ,K,hd,h => by
  obtain ⟨h1,h2⟩:=h
  cases hg : isG P all dm sq o with
  | false => rw [gW_n hg] at h2; exact .inr ⟨hg,σ,.refl σ,h2⟩
  | true =>
   have hc:=List.all_eq_true.1 (h1 hg)
   obtain ⟨N,ρ,g1,ge,g2⟩:=g_step hcl hg (hd o (List.mem_cons_self ..)) hc h2
   exact .inl ⟨hg,hc,N,g1,dGE_eqv r ge.symm (dGE_of hcl r _ (fun o' ho' => hd o' (List.mem_cons_of_mem _ ho')) g2)⟩
theorem apartG_spec {x y : Oper} (h : apartG all dm ss x y = true) : (∀ t,t ∈ touch all dm ss x → t ∉ touch all dm ss y ∧ t ∉ looks all y) ∧ (∀ t,t ∈ touch all dm ss y → t ∉ looks all x):=by
 unfold apartG at h
 simp only [Bool.and_eq_true] at h
 exact ⟨fun t ht => ⟨fun h2 => disj_spec h.1.1 ht h2,fun h2 => disj_spec h.1.2 ht h2⟩,fun t ht h2 => disj_spec h.2 ht h2⟩
theorem touch_m {o : Oper} (h : isM dm o = true) {t : Nat} (ht : t ∈ ss) : t ∈ touch all dm ss o:=by unfold touch; rw [h]; simp [ht]
theorem frontG {o : Oper} {post : List Oper} (hpo : isG P all dm sq o = true) : ∀ (pre : List Oper) (σ : St) {K : St → Prop},(∀ k ∈ pre,isG P all dm sq k = true ∧ apartG all dm ss k o = true) → dGE P callW all dm sq ss ds (pre ++ o :: post) σ K →
  (∀ s ∈ looks all o,chkG all dm ss o σ ds s = true) ∧ ∃ N,ExecG P callW all dm ss ds σ o N ∧ dGE P callW all dm sq ss ds (pre ++ post) (eff σ N) K
 | [],σ,K,_,h => by
  rcases h with ⟨_,h1,h2⟩ | ⟨hp,_⟩
  ·exact ⟨h1,h2⟩
  ·rw [hpo] at hp; cases hp
 | k :: pre,σ,K,hk,h => by
  obtain ⟨hpk,hap⟩:=hk k (List.mem_cons_self ..)
  obtain ⟨a1,a2⟩:=apartG_spec hap
  rcases h with ⟨_,h1,Nk,h2,h3⟩ | ⟨hp,_⟩
  ·obtain ⟨g1,No,g2,g3⟩:=frontG hpo pre (eff σ Nk) (fun k' hm => hk k' (List.mem_cons_of_mem _ hm)) h3
   have kin : ∀ t ∈ keysO Nk,t ∈ dsG dm ss ds o:=by
    intro t ht
    obtain ⟨q1,q2⟩:=h2.1 t ht
    unfold dsG
    split
    ·rename_i hm
     rcases List.mem_append.1 q2 with q2 | q2
     ·exact absurd (touch_m hm q2) (a1 _ q1).1
     ·exact q2
    ·exact q2
   have oin : ∀ t ∈ keysO No,t ∈ dsG dm ss ds k:=by
    intro t ht
    obtain ⟨q1,q2⟩:=g2.1 t ht
    unfold dsG
    split
    ·rename_i hm
     rcases List.mem_append.1 q2 with q2 | q2
     ·exact absurd q1 (a1 _ (touch_m hm q2)).1
     ·exact q2
    ·exact q2
   have hback : ∀ s ∈ looks all o,Like (eff σ Nk) σ s ∧ check1 σ (dsG dm ss ds o) s = true:=fun s hs => eff_back (fun t ht => ⟨kin t ht,by rintro rfl; exact (a1 _ (h2.1 _ ht).1).2 hs⟩) (chkG_1 (g1 s hs))
   have hforth : ∀ s ∈ looks all k,Like σ (eff σ No) s ∧ check1 (eff σ No) (dsG dm ss ds k) s = true:=fun s hs => eff_forth (fun t ht => ⟨oin t ht,by rintro rfl; exact a2 _ (g2.1 _ ht).1 hs⟩) (chkG_1 (h1 s hs))
   have g2':=g2.like (fun s hs => (hback s hs).1)
   refine ⟨fun s hs => chkG_to (hback s hs).1 (hback s hs).2 (g1 s hs),No,g2',.inl ⟨hpk,fun s hs => chkG_to (hforth s hs).1 (hforth s hs).2 (h1 s hs),Nk,h2.like (fun s hs => (hforth s hs).1),dGE_eqv _ ?_ g3⟩⟩
   intro s
   have hyo : ∀ q ∈ keysO No,∀ n,Nk = some n → purgeV (keys n) (lookO No q) = lookO No q:=by
    intro q hq n hn
    subst hn
    rcases purgeV_undef (keys n) (lookO No q) with e | ⟨_,t,ht,hm⟩
    ·exact e
    ·obtain ⟨s',hs',hh⟩:=g2'.2.1 q hq t ht
     rcases hh with rfl | hh
     ·exact absurd hs' (a1 _ (h2.1 _ hm).1).2
     ·exact absurd (kin t hm) ((check1_spec (hback s' hs').2).2 t hh).1
   have hyk : ∀ q ∈ keysO Nk,∀ n,No = some n → purgeV (keys n) (lookO Nk q) = lookO Nk q:=by
    intro q hq n hn
    subst hn
    rcases purgeV_undef (keys n) (lookO Nk q) with e | ⟨_,t,ht,hm⟩
    ·exact e
    ·obtain ⟨s',hs',hh⟩:=h2.2.1 q hq t ht
     rcases hh with rfl | hh
     ·exact absurd hs' (a2 _ (g2.1 _ hm).1)
     ·exact absurd (oin t hm) ((check1_spec (chkG_1 (h1 s' hs'))).2 t hh).1
   have dis : ∀ q ∈ keysO Nk,q ∉ keysO No:=fun q hq hq2 => (a1 q (h2.1 q hq).1).1 (g2.1 q hq2).1
   rw [look_eff,look_eff,look_eff,look_eff]
   by_cases e1 : s ∈ keysO Nk
   ·have e2:=dis s e1
    rw [if_pos e1,if_neg e2]
    cases No with
    | none => simp only [if_pos e1]
    | some n => simp only [if_pos e1]; exact (hyk s e1 n rfl).symm
   ·rw [if_neg e1]
    by_cases e2 : s ∈ keysO No
    ·rw [if_pos e2]
     cases Nk with
     | none => simp only [if_pos e2]
     | some n => simp only [if_pos e2]; exact hyo s e2 n rfl
    ·cases Nk with
     | none => cases No <;> simp only [if_neg e2,if_neg e1]
     | some n =>
      cases No with
      | none => simp only [if_neg e2,if_neg e1]
      | some m => simp only [if_neg e2,if_neg e1]; exact purge_comm _ _ _
  ·rw [hpk] at hp; cases hp
end
def pairG (P : Program) (all : List Oper) (dm : Nat) (sq : List Nat) (ss : List Nat) (m : Nat) (o : Oper) (k : Nat) : Bool:=m.testBit k || (match all[k]? with | some ok => isG P all dm sq ok && isG P all dm sq o && apartG all dm ss ok o | none => true)
def rowG (P : Program) (all : List Oper) (dm : Nat) (sq : List Nat) (ss : List Nat) (ms : List Nat) (i : Nat) : Bool:=match all[i]? with
 | none => true
 | some o => (predsOf o).all (fun p => decide (p < i)) && (ms.getD i 0 == maskOf ms (predsOf o)) && (List.range i).all (pairG P all dm sq ss (ms.getD i 0) o)
def mixOk (P : Program) (ops : List Oper) (dm : Nat) (sq : List Nat) (ss : List Nat) : Bool:=P.follows .mixedOrders && (List.range ops.length).all (rowG P ops dm sq ss (maskGo [] ops))
section
variable {P : Program} {C : Ctx P} {callW : Call → Option Tmp → St → (St → Prop) → Prop}
theorem down_maskG {ops : Array Oper} {listed : Array Bool} {ms sq : List Nat} {dm : Nat} {ss : List Nat} (hsz : listed.size = ops.size) (hd : Down ops listed) (hrow : ∀ i,i < ops.size → rowG P ops.toList dm sq ss ms i = true) :
  ∀ (n j : Nat),j ≤ n → j < ops.size → listed.getD j true = true → ∀ k,(ms.getD j 0).testBit k = true → listed.getD k false = true
 | n,j,hjn,hj,hl,k,hk => by
  have hr:=hrow j hj
  unfold rowG at hr
  have hj' : ops.toList[j]? = some ops[j]:=by rw [Array.getElem?_toList,Array.getElem?_eq_getElem hj]
  rw [hj'] at hr
  simp only [Bool.and_eq_true,beq_iff_eq] at hr
  obtain ⟨⟨r1,r2⟩,_⟩:=hr
  rw [r2] at hk
  obtain ⟨p,hp,hh⟩:=maskOf_spec hk
  have hpl:=hd j ops[j] (Array.getElem?_eq_getElem hj) hl p hp
  have hpj : p < j:=by simpa using (List.all_eq_true.1 r1) p hp
  rcases hh with rfl | hh
  ·exact hpl
  ·cases n with
   | zero => omega
   | succ n => exact down_maskG hsz hd hrow n p (by omega) (by omega) (by rw [getD_tf (by omega)]; exact hpl) k hh
theorem mix_any (hc : CallsOk P callW) (hcl : CallsLoc callW) {ops : Array Oper} {Q : Exit → Act → World → Prop} {K : St → Prop} {dm : Nat} {ss : List Nat} {sq : List Nat} (hok : ops.toList.all (operOk C.n C.ks) = true) (hdr : mixOk P ops.toList dm sq ss = true) (hQ : ∀ a w,lift C K a w → Q .normal a w) :
  ∀ (fuel : Nat) (listed : Array Bool) (σ : St) (a : Act) (w : World),listed.size = ops.size → Down ops listed → (unl ops.size listed).length = fuel →
   dGE P callW ops.toList dm sq ss (ops.toList.filterMap (·.dst)) (remOf ops listed) σ K → Sim C σ a w → wpAny P .any ops Q fuel listed a w:=by
 have hrow : ∀ i,i < ops.size → rowG P ops.toList dm sq ss (maskGo [] ops.toList) i = true:=by
  intro i hi
  simp only [mixOk,Bool.and_eq_true] at hdr
  exact (List.all_eq_true.1 hdr.2) i (by simpa using hi)
 generalize maskGo [] ops.toList = ms at hrow
 have hready : ∀ (listed : Array Bool),listed.size = ops.size → ∀ (i : Nat) (l : List Nat),unl ops.size listed = i :: l → i ∈ Region.ready .any ops listed:=by
  intro listed hsz i l hu
  have hi : i ∈ unl ops.size listed:=by rw [hu]; exact List.mem_cons_self ..
  obtain ⟨h1,h2⟩:=List.mem_filter.1 hi
  have hlt : i < ops.size:=by simpa using h1
  refine mem_ready.2 ⟨by simpa using h2,ops[i],Array.getElem?_eq_getElem hlt,fun e he hb => ?_⟩
  have hr:=hrow i hlt
  unfold rowG at hr
  rw [Array.getElem?_toList,Array.getElem?_eq_getElem hlt] at hr
  simp only [Bool.and_eq_true] at hr
  have hp : e.on ∈ predsOf ops[i]:=List.mem_map.2 ⟨e,List.mem_filter.2 ⟨by simpa using he,hb⟩,rfl⟩
  have hlt' : e.on < i:=by simpa using (List.all_eq_true.1 hr.1.1) _ hp
  cases hh : listed.getD e.on false with
  | true => rfl
  | false =>
   have hm : e.on ∈ unl ops.size listed:=List.mem_filter.2 ⟨by simp; omega,by rw [getD_tf (by omega),hh]; rfl⟩
   have hsorted : (unl ops.size listed).Pairwise (· < ·):=(List.pairwise_lt_range).filter _
   rw [hu] at hm hsorted
   rcases List.mem_cons.1 hm with h | h
   ·omega
   ·have:=(List.pairwise_cons.1 hsorted).1 _ h
    omega
 intro fuel
 induction fuel with
 | zero =>
  intro listed σ a w hsz hd hu hE S
  have hu0 : unl ops.size listed = []:=List.eq_nil_of_length_eq_zero hu
  refine ⟨?_,?_⟩
  ·apply List.eq_nil_iff_forall_not_mem.2
   intro j hj
   obtain ⟨h1,o,ho,_⟩:=mem_ready.1 hj
   have : j ∈ unl ops.size listed:=List.mem_filter.2 ⟨by simpa using (Array.getElem?_eq_some_iff.1 ho).1,by rw [h1]; rfl⟩
   rw [hu0] at this; cases this
  ·unfold remOf at hE
   rw [hu0] at hE
   obtain ⟨σ',h1,h2⟩:=hE
   exact hQ a w ⟨σ',h2,S.eqv h1⟩
 | succ fuel ih =>
  intro listed σ a w hsz hd hu hE S
  refine ⟨fun hnil => ?_,fun i hi => ?_⟩
  ·cases hul : unl ops.size listed with
   | nil => rw [hul] at hu; cases hu
   | cons j l =>
    have:=hready listed hsz j l hul
    rw [hnil] at this; cases this
  ·obtain ⟨h1,o,ho,haft⟩:=mem_ready.1 hi
   have hlt : i < ops.size:=(Array.getElem?_eq_some_iff.1 ho).1
   obtain ⟨pre,post,u1,u2,u3⟩:=unl_split hlt h1 hsz
   have hoi : ops.toList[i]? = some o:=by rw [Array.getElem?_toList]; exact ho
   have hop : operOk C.n C.ks o = true:=(List.all_eq_true.1 hok) o (List.mem_of_getElem? hoi)
   have hds : ∀ (o' : Oper),o' ∈ ops.toList → ∀ d,o'.dst = some d → d ∈ ops.toList.filterMap (·.dst):=fun o' hm d hd' => List.mem_filterMap.2 ⟨o',hm,hd'⟩
   have hsz' : (listed.setIfInBounds i true).size = ops.size:=by simpa using hsz
   have hd' : Down ops (listed.setIfInBounds i true):=by
    intro j oj hj hl p hp
    have hpl : listed.getD p false = true:=by
     by_cases hji : j = i
     ·subst hji
      rw [ho] at hj; cases hj
      obtain ⟨e,he,rfl⟩:=List.mem_map.1 hp
      obtain ⟨he1,he2⟩:=List.mem_filter.1 he
      exact haft e (by simpa using he1) he2
     ·rw [getD_set_ne true (Ne.symm hji)] at hl
      exact hd j oj hj hl p hp
    exact getD_set_true hpl
   have hu' : (unl ops.size (listed.setIfInBounds i true)).length = fuel:=by
    rw [u3,List.length_append]
    rw [u1,List.length_append,List.length_cons] at hu
    omega
   have hrem : remOf ops listed = (pre.filterMap fun k => ops[k]?) ++ o :: (post.filterMap fun k => ops[k]?):=by
    unfold remOf
    rw [u1,List.filterMap_append,List.filterMap_cons,ho]
   have hrem' : remOf ops (listed.setIfInBounds i true) = (pre.filterMap fun k => ops[k]?) ++ (post.filterMap fun k => ops[k]?):=by
    unfold remOf
    rw [u3,List.filterMap_append]
   have hmask : ∀ k,(ms.getD i 0).testBit k = true → listed.getD k false = true:=by
    intro k hk
    have hr:=hrow i hlt
    unfold rowG at hr
    rw [hoi] at hr
    simp only [Bool.and_eq_true,beq_iff_eq] at hr
    rw [hr.1.2] at hk
    obtain ⟨p,hp,hh⟩:=maskOf_spec hk
    have hpi : p < i:=by simpa using (List.all_eq_true.1 hr.1.1) p hp
    have hpl : listed.getD p false = true:=by
     obtain ⟨e,he,rfl⟩:=List.mem_map.1 hp
     obtain ⟨he1,he2⟩:=List.mem_filter.1 he
     exact haft e (by simpa using he1) he2
    rcases hh with rfl | hh
    ·exact hpl
    ·exact down_maskG hsz hd hrow p p (Nat.le_refl _) (by omega) (by rw [getD_tf (by omega)]; exact hpl) k hh
   have hpre : ∀ k ∈ pre.filterMap (fun k => ops[k]?),isG P ops.toList dm sq k = true ∧ isG P ops.toList dm sq o = true ∧ apartG ops.toList dm ss k o = true:=by
    intro ok hok'
    obtain ⟨k,hk,hkk⟩:=List.mem_filterMap.1 hok'
    obtain ⟨hki,hkl⟩:=u2 k hk
    have hr:=hrow i hlt
    unfold rowG at hr
    rw [hoi] at hr
    simp only [Bool.and_eq_true] at hr
    have hp:=(List.all_eq_true.1 hr.2) k (by simpa using hki)
    unfold pairG at hp
    rw [Bool.or_eq_true] at hp
    rcases hp with hp | hp
    ·have:=hmask k hp
     rw [← getD_tf (by omega),hkl] at this; cases this
    ·have hkk' : ops.toList[k]? = some ok:=by rw [Array.getElem?_toList]; exact hkk
     rw [hkk'] at hp
     simp only [Bool.and_eq_true] at hp
     exact ⟨hp.1.1,hp.1.2,hp.2⟩
   have step : ∀ {σ0 : St} {K0 : St → Prop},Sim C σ0 a w → stepW P callW ops.toList o σ0 K0 → wpOp P ops Q i (lift C K0) a w:=by
    intro σ0 K0 S0 hst
    unfold wpOp
    simp only [ho]
    rcases cond_sound hok S0 hst with ⟨hw,h⟩ | ⟨hw,h⟩
    ·rw [if_pos hw]
     exact .inl (sim_op hc (by rw [S0.2.2.1]; exact hop) S0 h)
    ·rw [if_neg (by simp [hw])]
     exact skip_sound hop S0 h
   have stepM : ∀ {σ0 : St} {K0 : St → Prop},isM dm o = true → Sim C σ0 a w → gW P callW ops.toList dm ss o σ0 K0 → wpOp P ops Q i (lift C K0) a w:=by
    intro σ0 K0 hm S0 hst
    unfold gW at hst
    rw [hm] at hst
    obtain ⟨hgd,hst⟩:=hst
    unfold wpOp
    simp only [ho]
    rcases cond_sound (Y:=mStepW P ss o σ0 K0) (N:=False) hok S0 (by unfold condW; rw [hgd]; exact hst) with ⟨hw,h⟩ | ⟨hw,h⟩
    ·rw [if_pos hw]
     refine .inl ?_
     unfold mStepW at h
     split at h
     ·rename_i c hcop
      split at h
      ·rename_i f _ _ _ hf
       obtain ⟨ss',_,h⟩:=h
       rcases h with ⟨s1,rfl,h⟩ | ⟨s1,t1,rfl,_,_,_,htn,h⟩
       ·exact callM_sound hcop hf (by rw [S0.2.2.1]; exact hop) S0 (callM_of h)
       ·have S1:=S0.frzs [(t1,[])]
        have e : frzs σ0 [(t1,[])] = upd σ0 [(t1,erase (look σ0 t1))]:=by
         show frz σ0 t1 [] = _
         unfold frz
         simp only [htn,if_true]
        rw [e] at S1
        exact callM_sound hcop hf (by rw [S0.2.2.1]; exact hop) S1 (callM_of h)
      ·rename_i x y t t' d hcal hx hty hd
       obtain ⟨s1,rfl,h⟩:=h
       obtain ⟨dst,op,ty,pos,af,g⟩:=o
       simp only at hcop hd
       subst hcop hd
       obtain ⟨callee,args,argTypes⟩:=c
       simp only at hcal hx hty
       have ea : args = #[x,y]:=by rw [← Array.toArray_toList (xs:=args),hx]
       have et : argTypes = #[t,t']:=by rw [← Array.toArray_toList (xs:=argTypes),hty]
       subst hcal ea et
       exact sim_op hc (by rw [S0.2.2.1]; exact hop) S0 (app_opW h)
      ·exact h.elim
     ·rename_i t x y hsop
      split at h
      ·rename_i d hd
       obtain ⟨s1,rfl,h⟩:=h
       exact cut_sound hc hsop hd (by rw [S0.2.2.1]; exact hop) S0 h
      ·exact h.elim
     ·rename_i t s q hsop
      split at h
      ·exact h.elim
      ·rename_i hd
       exact sto_sound hc hsop hd (by rw [S0.2.2.1]; exact hop) S0 h
     ·exact h.elim
    ·exact h.elim
   rw [hrem] at hE
   cases hg : isG P ops.toList dm sq o with
   | true =>
    obtain ⟨_,N,g1,g2⟩:=frontG (o:=o) hg _ σ (fun k hk => by
     obtain ⟨q1,_,q2⟩:=hpre k hk
     exact ⟨q1,q2⟩) hE
    have hst:=g1.2.2 σ (fun s _ => ⟨rfl,fun _ _ => rfl⟩) (fun σ' => Eqv (eff σ N) σ') (fun ρ hρ => hρ)
    have hwp : wpOp P ops Q i (lift C (fun σ' => Eqv (eff σ N) σ')) a w:=by
     cases hm : isM dm o with
     | true => exact stepM hm S hst
     | false => unfold gW at hst; rw [hm] at hst; exact step S hst
    refine wpOp_mono ?_ hwp
    rintro a' w' ⟨σ',hσ',S'⟩
    have S':=S'.eqv hσ'.symm
    exact ih _ _ a' w' hsz' hd' hu' (by rw [hrem']; exact g2) S'
   | false =>
    have hpn : pre.filterMap (fun k => ops[k]?) = []:=by
     cases hl : pre.filterMap (fun k => ops[k]?) with
     | nil => rfl
     | cons k l =>
      have:=(hpre k (by rw [hl]; exact List.mem_cons_self ..)).2.1
      rw [hg] at this; cases this
    rw [hpn,List.nil_append] at hE
    rcases hE with ⟨h2,_⟩ | ⟨_,σ',e1,hst⟩
    ·rw [hg] at h2; cases h2
    ·refine wpOp_mono ?_ (step (S.eqv e1) hst)
     rintro a' w' ⟨σ1,hdw,S'⟩
     refine ih _ _ a' w' hsz' hd' hu' ?_ S'
     rw [hrem',hpn,List.nil_append]
     refine dGE_of hcl _ _ (fun o' ho' d hd2 => ?_) hdw
     obtain ⟨k,_,hkk⟩:=List.mem_filterMap.1 ho'
     exact hds o' (List.mem_of_getElem? (by rw [Array.getElem?_toList]; exact hkk)) d hd2
def MixW (P : Program) (callW : Call → Option Tmp → St → (St → Prop) → Prop) (ops : List Oper) (σ : St) (K : St → Prop) : Prop :=
 ∃ dm sq ss,mixOk P ops dm sq ss = true ∧ dGW P callW ops dm sq ss (ops.filterMap (·.dst)) ops σ K
theorem mix_sound (hc : CallsOk P callW) (hcl : CallsLoc callW) {ops : Array Oper} {id : Nat} {Q : Exit → Act → World → Prop} {K : St → Prop} {σ : St} {a : Act} {w : World} (hok : ops.toList.all (operOk C.n C.ks) = true) (hQ : ∀ a w,lift C K a w → Q .normal a w)
  (h : MixW P callW ops.toList σ K) (S : Sim C σ a w) : (Code.region id ops true).wp P Q a w:=by
 obtain ⟨dm,sq,ss,h1,h2⟩:=h
 have hm : P.follows .mixedOrders = true:=by
  have:=h1
  simp only [mixOk,Bool.and_eq_true] at this
  exact this.1
 have hget : ∀ k,(Array.replicate ops.size false).getD k true = true → ops.size ≤ k:=by
  intro k hk
  by_cases h : k < ops.size
  ·simp [h] at hk
  ·omega
 have hul : unl ops.size (Array.replicate ops.size false) = List.range ops.size:=by
  unfold unl
  refine List.filter_eq_self.2 fun k hk => ?_
  have : k < ops.size:=by simpa using hk
  simp [this]
 refine wp_region_any hm (mix_any (C:=C) hc hcl hok h1 hQ ops.size _ σ a _ (by simp) ?_ (by rw [hul]; simp) ?_ S.drawn)
 ·intro j o hj hl
  have:=hget j hl
  have:=(Array.getElem?_eq_some_iff.1 hj).1
  omega
 ·have hrm : remOf ops (Array.replicate ops.size false) = ops.toList:=by
   unfold remOf
   rw [hul]
   have : ∀ n,n ≤ ops.size → (List.range n).filterMap (fun i => ops[i]?) = ops.toList.take n:=by
    intro n
    induction n with
    | zero => simp
    | succ n ih =>
     intro hn
     rw [List.range_succ,List.filterMap_append,ih (by omega)]
     have hlt : n < ops.size:=by omega
     simp [Array.getElem?_eq_getElem hlt,List.take_add_one]
   rw [this ops.size (Nat.le_refl _),List.take_of_length_le (by simp)]
  rw [hrm]
  refine dGE_of hcl _ _ (fun o' ho' d hd2 => List.mem_filterMap.2 ⟨o',ho',hd2⟩) h2
end
theorem isV_noM {dm : Nat} {o : Oper} (h : isV o = true) : isM dm o = false:=by
 obtain ⟨dst,op,ty,pos,af,g⟩:=o
 unfold isV at h
 unfold isM
 split at h <;> simp_all [isCall]
def sure (all : List Oper) (s0 : Nat) (k : Nat) : Bool:=decide (k < s0) && (match all[k]? with | some o => !isV o | none => false)
def preG (P : Program) (all : List Oper) (dm : Nat) (sq : List Nat) (sl : List Nat) (ms : List Nat) (s0 i : Nat) : Bool:=match all[i]? with
 | none => true
 | some o => isG P all dm sq o && (List.range i).all (pairG P all dm sq sl (ms.getD i 0) o) && ((isV o && rowLp all ms (sure all s0) i) || (List.range all.length).all fun k => decide (k < s0) || (ms.getD k 0).testBit i)
def lateG (P : Program) (ops : List Oper) (dm : Nat) (sq : List Nat) (sl : List Nat) (s0 : Nat) (ls : List (List Nat)) : Bool :=
 P.follows .mixedOrders && decide (s0 ≤ ops.length) && (List.range ops.length).all (rowM ops (maskGo [] ops)) && (List.range s0).all (preG P ops dm sq sl (maskGo [] ops) s0) &&
  (List.range ops.length).all (fun i => decide (i < s0) || rowLp ops (maskGo [] ops) (sure ops s0) i) && coverL (maskGo [] ops) ops s0 (ops.drop s0) ls &&
  (List.range ops.length).all (fun s => match ops[s]? with | some os => !isSt os || (List.range s).all (fun k => ((maskGo [] ops).getD s 0).testBit k || noWr ops k s) | none => true)
def MixL (P : Program) (callW : Call → Option Tmp → St → (St → Prop) → Prop) (ops : List Oper) (σ : St) (K : St → Prop) : Prop :=
 ∃ dm sq sl s0 ls,lateG P ops dm sq sl s0 ls = true ∧ dGW P callW ops dm sq sl ((ops.take s0).filterMap (·.dst)) (ops.take s0) σ (lW P ops (ops.drop s0) ls K)
section
variable {P : Program} {C : Ctx P} {callW : Call → Option Tmp → St → (St → Prop) → Prop}
theorem g_wpS {ops : Array Oper} {o : Oper} {i : Nat} {a : Act} {w : World} {Q : Exit → Act → World → Prop} (hok : ops.toList.all (operOk C.n C.ks) = true) (hc : CallsOk P callW) (ho : ops[i]? = some o) (hop : operOk C.n C.ks o = true) {σ0 : St} {K0 : St → Prop} (S0 : Sim C σ0 a w) (hst : stepW P callW ops.toList o σ0 K0) : wpOp P ops Q i (lift C K0) a w:=by
 unfold wpOp
 simp only [ho]
 rcases cond_sound hok S0 hst with ⟨hw,h⟩ | ⟨hw,h⟩
 ·rw [if_pos hw]
  exact .inl (sim_op hc (by rw [S0.2.2.1]; exact hop) S0 h)
 ·rw [if_neg (by simp [hw])]
  exact skip_sound hop S0 h
theorem g_wpM {ops : Array Oper} {o : Oper} {i dm : Nat} {ss : List Nat} {a : Act} {w : World} {Q : Exit → Act → World → Prop} (hok : ops.toList.all (operOk C.n C.ks) = true) (hc : CallsOk P callW) (ho : ops[i]? = some o) (hop : operOk C.n C.ks o = true) {σ0 : St} {K0 : St → Prop} (hm : isM dm o = true) (S0 : Sim C σ0 a w) (hst : gW P callW ops.toList dm ss o σ0 K0) : wpOp P ops Q i (lift C K0) a w:=by
 unfold gW at hst
 rw [hm] at hst
 obtain ⟨hgd,hst⟩:=hst
 unfold wpOp
 simp only [ho]
 rcases cond_sound (Y:=mStepW P ss o σ0 K0) (N:=False) hok S0 (by unfold condW; rw [hgd]; exact hst) with ⟨hw,h⟩ | ⟨hw,h⟩
 ·rw [if_pos hw]
  refine .inl ?_
  unfold mStepW at h
  split at h
  ·rename_i c hcop
   split at h
   ·rename_i f _ _ _ hf
    obtain ⟨ss',_,h⟩:=h
    rcases h with ⟨s1,rfl,h⟩ | ⟨s1,t1,rfl,_,_,_,htn,h⟩
    ·exact callM_sound hcop hf (by rw [S0.2.2.1]; exact hop) S0 (callM_of h)
    ·have S1:=S0.frzs [(t1,[])]
     have e : frzs σ0 [(t1,[])] = upd σ0 [(t1,erase (look σ0 t1))]:=by
      show frz σ0 t1 [] = _
      unfold frz
      simp only [htn,if_true]
     rw [e] at S1
     exact callM_sound hcop hf (by rw [S0.2.2.1]; exact hop) S1 (callM_of h)
   ·rename_i x y t t' d hcal hx hty hd
    obtain ⟨s1,rfl,h⟩:=h
    obtain ⟨dst,op,ty,pos,af,g⟩:=o
    simp only at hcop hd
    subst hcop hd
    obtain ⟨callee,args,argTypes⟩:=c
    simp only at hcal hx hty
    have ea : args = #[x,y]:=by rw [← Array.toArray_toList (xs:=args),hx]
    have et : argTypes = #[t,t']:=by rw [← Array.toArray_toList (xs:=argTypes),hty]
    subst hcal ea et
    exact sim_op hc (by rw [S0.2.2.1]; exact hop) S0 (app_opW h)
   ·exact h.elim
  ·rename_i t x y hsop
   split at h
   ·rename_i d hd
    obtain ⟨s1,rfl,h⟩:=h
    exact cut_sound hc hsop hd (by rw [S0.2.2.1]; exact hop) S0 h
   ·exact h.elim
  ·rename_i t s q hsop
   split at h
   ·exact h.elim
   ·rename_i hd
    exact sto_sound hc hsop hd (by rw [S0.2.2.1]; exact hop) S0 h
  ·exact h.elim
 ·exact h.elim
theorem walk_preG {ops : Array Oper} {listed : Array Bool} {ds sq sl : List Nat} {dm : Nat} {K : St → Prop} {s0 : Nat} {ls : List (List Nat)} (hsz : listed.size = ops.size) (h0 : s0 ≤ ops.size) (hP : ∀ k o,k < s0 → ops[k]? = some o → isG P ops.toList dm sq o = true) (hV : ∀ k o,k < s0 → ops[k]? = some o → listed.getD k false = false → isV o = true) (htail : ∀ k,s0 ≤ k → listed.getD k false = false) :
  ∀ (m i : Nat) {σ : St},i + m = s0 → dGE P callW ops.toList dm sq sl ds (remP ops listed s0 i) σ (lW P ops.toList (ops.toList.drop s0) ls K) → WalkOk P ops.toList listed i (ops.toList.drop i) ls K σ
 | 0,i,σ,hi,h => by
  obtain rfl : i = s0:=by omega
  have e : remP ops listed i i = []:=by simp [remP]
  rw [e] at h
  obtain ⟨σ',h1,h2⟩:=h
  exact walk_eqv _ _ _ h1 (walk_of_lW _ _ _ htail h2)
 | m + 1,i,σ,hi,h => by
  have hil : i < ops.size:=by omega
  have ho : ops[i]? = some ops[i]:=Array.getElem?_eq_getElem hil
  have hdrop : ops.toList.drop i = ops[i] :: ops.toList.drop (i + 1):=by
   rw [List.drop_eq_getElem_cons (by simpa using hil)]; simp
  have hp:=hP i _ (by omega) ho
  have hrange : List.range' i (s0 - i) = i :: List.range' (i + 1) (s0 - (i + 1)):=by
   rw [show s0 - i = (s0 - (i + 1)) + 1 by omega,List.range'_succ]
  rw [hdrop]
  unfold WalkOk
  cases hb : listed.getD i false with
  | true =>
   rw [if_pos rfl]
   refine walk_preG (ds:=ds) (dm:=dm) (sq:=sq) (sl:=sl) hsz h0 hP hV htail m (i + 1) (by omega) ?_
   unfold remP at h ⊢
   rw [hrange,List.filter_cons,if_neg (by rw [getD_tf (by omega),hb]; simp)] at h
   exact h
  | false =>
   rw [if_neg (by simp)]
   refine ⟨σ,.refl σ,?_⟩
   rw [not_both (hV i _ (by omega) ho hb)]
   simp only
   have e : remP ops listed s0 i = ops[i] :: remP ops listed s0 (i + 1):=by
    unfold remP
    rw [hrange,List.filter_cons,if_pos (by rw [getD_tf (by omega),hb]; simp),List.filterMap_cons,ho]
   rw [e] at h
   have hv:=hV i _ (by omega) ho hb
   rcases h with ⟨_,h1,N,h2,h3⟩ | ⟨hp',_⟩
   ·have hst:=h2.2.2 σ (fun s _ => ⟨rfl,fun _ _ => rfl⟩) (fun σ1 => WalkOk P ops.toList listed (i + 1) (ops.toList.drop (i + 1)) ls K σ1) (fun ρ hρ => walk_eqv _ _ _ hρ.symm (walk_preG (ds:=ds) (dm:=dm) (sq:=sq) (sl:=sl) hsz h0 hP hV htail m (i + 1) (by omega) h3))
    unfold gW at hst
    rw [isV_noM hv] at hst
    simp only at hst
    unfold stepW condW at hst
    rw [isV_guard hv] at hst
    exact vStep_of_opW hv hst
   ·rw [hp] at hp'; cases hp'
theorem draw_mixl (hc : CallsOk P callW) (hcl : CallsLoc callW) {ops : Array Oper} {Q : Exit → Act → World → Prop} {K : St → Prop} {dm s0 : Nat} {sq sl : List Nat} {ls : List (List Nat)} (hok : ops.toList.all (operOk C.n C.ks) = true) (hlo : lateG P ops.toList dm sq sl s0 ls = true) (hQ : ∀ a w,lift C K a w → Q .normal a w) :
  ∀ (fuel : Nat) (listed : Array Bool) (σ : St) (a : Act) (w : World),listed.size = ops.size → Down ops listed → (∀ k,s0 ≤ k → listed.getD k false = false) → (unl ops.size listed).length = fuel →
   dGE P callW ops.toList dm sq sl ((ops.toList.take s0).filterMap (·.dst)) (remP ops listed s0 0) σ (lW P ops.toList (ops.toList.drop s0) ls K) → Sim C σ a w → wpAny P .any ops Q fuel listed a w:=by
 simp only [lateG,Bool.and_eq_true,decide_eq_true_eq] at hlo
 obtain ⟨⟨⟨⟨⟨⟨_,hs0⟩,hm0⟩,hp0⟩,hr0⟩,hcov⟩,hw0⟩:=hlo
 have hs0 : s0 ≤ ops.size:=by simpa using hs0
 have hrm : ∀ i,i < ops.size → rowM ops.toList (maskGo [] ops.toList) i = true:=fun i hi => (List.all_eq_true.1 hm0) i (by simpa using hi)
 have hpre : ∀ i,i < s0 → preG P ops.toList dm sq sl (maskGo [] ops.toList) s0 i = true:=fun i hi => (List.all_eq_true.1 hp0) i (by simpa using hi)
 have hrow : ∀ i,i < ops.size → s0 ≤ i → rowLp ops.toList (maskGo [] ops.toList) (sure ops.toList s0) i = true:=fun i hi h => by
  have:=(List.all_eq_true.1 hr0) i (by simpa using hi)
  simp only [Bool.or_eq_true,decide_eq_true_eq] at this
  exact this.resolve_left (by omega)
 have hnw : ∀ (s : Nat) os (j : Nat),ops[s]? = some os → isSt os = true → j < s → ((maskGo [] ops.toList).getD s 0).testBit j = false → noWr ops.toList j s = true:=by
  intro s os j hs hst hjs hb
  have hl:=(Array.getElem?_eq_some_iff.1 hs).1
  have:=(List.all_eq_true.1 hw0) s (by simpa using hl)
  rw [Array.getElem?_toList,hs] at this
  simp only [hst,Bool.not_true,Bool.false_or] at this
  have:=(List.all_eq_true.1 this) j (by simpa using hjs)
  rw [hb] at this
  simpa using this
 generalize maskGo [] ops.toList = ms at hrm hpre hrow hcov hnw
 have hPre : ∀ (k : Nat) o,k < s0 → ops[k]? = some o → isG P ops.toList dm sq o = true ∧ (List.range k).all (pairG P ops.toList dm sq sl (ms.getD k 0) o) = true ∧ ((isV o = true ∧ rowLp ops.toList ms (sure ops.toList s0) k = true) ∨ ∀ i,i < ops.size → s0 ≤ i → (ms.getD i 0).testBit k = true):=by
  intro k o hk ho
  have:=hpre k hk
  unfold preG at this
  rw [Array.getElem?_toList,ho] at this
  simp only [Bool.and_eq_true,Bool.or_eq_true] at this
  refine ⟨this.1.1,this.1.2,this.2.imp id fun h i hi hsi => ?_⟩
  have:=(List.all_eq_true.1 h) i (by simpa using hi)
  simp only [Bool.or_eq_true,decide_eq_true_eq] at this
  exact this.resolve_left (by omega)
 have hready : ∀ (listed : Array Bool),listed.size = ops.size → ∀ (i : Nat) (l : List Nat),unl ops.size listed = i :: l → i ∈ Region.ready .any ops listed:=by
  intro listed hsz i l hu
  have hi : i ∈ unl ops.size listed:=by rw [hu]; exact List.mem_cons_self ..
  obtain ⟨h1,h2⟩:=List.mem_filter.1 hi
  have hlt : i < ops.size:=by simpa using h1
  refine mem_ready.2 ⟨by simpa using h2,ops[i],Array.getElem?_eq_getElem hlt,fun e he hb => ?_⟩
  have hp : e.on ∈ predsOf ops[i]:=List.mem_map.2 ⟨e,List.mem_filter.2 ⟨by simpa using he,hb⟩,rfl⟩
  have hlt' : e.on < i:=(rowM_spec (hrm i hlt) (by rw [Array.getElem?_toList,Array.getElem?_eq_getElem hlt])).1 _ hp
  cases hh : listed.getD e.on false with
  | true => rfl
  | false =>
   have hm : e.on ∈ unl ops.size listed:=List.mem_filter.2 ⟨by simp; omega,by rw [getD_tf (by omega),hh]; rfl⟩
   have hsorted : (unl ops.size listed).Pairwise (· < ·):=(List.pairwise_lt_range).filter _
   rw [hu] at hm hsorted
   rcases List.mem_cons.1 hm with h | h
   ·omega
   ·have:=(List.pairwise_cons.1 hsorted).1 _ h
    omega
 intro fuel
 induction fuel with
 | zero =>
  intro listed σ a w hsz hd htl hu hE S
  have hu0 : unl ops.size listed = []:=List.eq_nil_of_length_eq_zero hu
  have hs0e : s0 = ops.size:=by
   rcases Nat.lt_or_ge s0 ops.size with h | h
   ·have : s0 ∈ unl ops.size listed:=List.mem_filter.2 ⟨by simpa using h,by rw [getD_tf (by omega),htl s0 (Nat.le_refl _)]; rfl⟩
    rw [hu0] at this; cases this
   ·omega
  refine ⟨?_,?_⟩
  ·apply List.eq_nil_iff_forall_not_mem.2
   intro j hj
   obtain ⟨h1,o,ho,_⟩:=mem_ready.1 hj
   have : j ∈ unl ops.size listed:=List.mem_filter.2 ⟨by simpa using (Array.getElem?_eq_some_iff.1 ho).1,by rw [h1]; rfl⟩
   rw [hu0] at this; cases this
  ·have e : remP ops listed s0 0 = []:=by
    have : (List.range' 0 (s0 - 0)).filter (fun k => !listed.getD k true) = []:=by
     have h:=hu0
     unfold unl at h
     rw [List.range_eq_range'] at h
     rw [hs0e,Nat.sub_zero]; exact h
    unfold remP
    rw [this]; rfl
   rw [e] at hE
   obtain ⟨σ',h1,h2⟩:=hE
   have hdrop : ops.toList.drop s0 = []:=by rw [List.drop_eq_nil_iff]; simp; omega
   rw [hdrop] at h2
   exact hQ a w ⟨σ',h2,S.eqv h1⟩
 | succ fuel ih =>
  intro listed σ a w hsz hd htl hu hE S
  refine ⟨fun hnil => ?_,fun i hi => ?_⟩
  ·cases hul : unl ops.size listed with
   | nil => rw [hul] at hu; cases hu
   | cons j l =>
    have:=hready listed hsz j l hul
    rw [hnil] at this; cases this
  ·obtain ⟨h1,o,ho,haft⟩:=mem_ready.1 hi
   have hlt : i < ops.size:=(Array.getElem?_eq_some_iff.1 ho).1
   have hoi : ops.toList[i]? = some o:=by rw [Array.getElem?_toList]; exact ho
   have hop : operOk C.n C.ks o = true:=(List.all_eq_true.1 hok) o (List.mem_of_getElem? hoi)
   have hmask : ∀ k,(ms.getD i 0).testBit k = true → listed.getD k false = true:=by
    intro k hk
    obtain ⟨r1,r2⟩:=rowM_spec (hrm i hlt) hoi
    rw [r2] at hk
    obtain ⟨p,hp,hh⟩:=maskOf_spec hk
    have hpi : p < i:=r1 p hp
    have hpl : listed.getD p false = true:=by
     obtain ⟨e,he,rfl⟩:=List.mem_map.1 hp
     obtain ⟨he1,he2⟩:=List.mem_filter.1 he
     exact haft e (by simpa using he1) he2
    rcases hh with rfl | hh
    ·exact hpl
    ·exact down_maskL hrm hsz hd p p (Nat.le_refl _) (by omega) (by rw [getD_tf (by omega)]; exact hpl) k hh
   rcases Nat.lt_or_ge i s0 with his | his
   ·-- as always
    obtain ⟨pre,post,u1,u2,u3⟩:=unl_split hlt h1 hsz
    obtain ⟨pre',post',v1,v2,v3⟩:=unl_split' (n:=s0) his h1 (by omega)
    have hds : ∀ (o' : Oper),o' ∈ ops.toList.take s0 → ∀ d,o'.dst = some d → d ∈ (ops.toList.take s0).filterMap (·.dst):=fun o' hm d hd' => List.mem_filterMap.2 ⟨o',hm,hd'⟩
    have htk : ∀ (k : Nat) (o' : Oper),k < s0 → ops.toList[k]? = some o' → o' ∈ ops.toList.take s0:=fun k o' hk h => List.mem_of_getElem? (i:=k) (by rw [List.getElem?_take_of_lt hk]; exact h)
    have hsz' : (listed.setIfInBounds i true).size = ops.size:=by simpa using hsz
    have hd' : Down ops (listed.setIfInBounds i true):=by
     intro j oj hj hl p hp
     have hpl : listed.getD p false = true:=by
      by_cases hji : j = i
      ·subst hji
       rw [ho] at hj; cases hj
       obtain ⟨e,he,rfl⟩:=List.mem_map.1 hp
       obtain ⟨he1,he2⟩:=List.mem_filter.1 he
       exact haft e (by simpa using he1) he2
      ·rw [getD_set_ne true (Ne.symm hji)] at hl
       exact hd j oj hj hl p hp
     exact getD_set_true hpl
    have htl' : ∀ k,s0 ≤ k → (listed.setIfInBounds i true).getD k false = false:=fun k hk => by
     rw [getD_set_ne false (by omega)]; exact htl k hk
    have hu' : (unl ops.size (listed.setIfInBounds i true)).length = fuel:=by
     rw [u3,List.length_append]
     rw [u1,List.length_append,List.length_cons] at hu
     omega
    have hru : ∀ l : Array Bool,remP ops l s0 0 = (unl s0 l).filterMap fun k => ops[k]?:=fun l => by
     unfold remP unl; rw [List.range_eq_range',Nat.sub_zero]
    have hrem : remP ops listed s0 0 = (pre'.filterMap fun k => ops[k]?) ++ o :: (post'.filterMap fun k => ops[k]?):=by
     rw [hru,v1,List.filterMap_append,List.filterMap_cons,ho]
    have hrem' : remP ops (listed.setIfInBounds i true) s0 0 = (pre'.filterMap fun k => ops[k]?) ++ (post'.filterMap fun k => ops[k]?):=by
     rw [hru,v3,List.filterMap_append]
    obtain ⟨hpo,hpair,_⟩:=hPre i o his ho
    have hprem : ∀ k ∈ pre'.filterMap (fun k => ops[k]?),isG P ops.toList dm sq k = true ∧ apartG ops.toList dm sl k o = true:=by
     intro ok hok'
     obtain ⟨k,hk,hkk⟩:=List.mem_filterMap.1 hok'
     obtain ⟨hki,hkl⟩:=v2 k hk
     have hp:=(List.all_eq_true.1 hpair) k (by simpa using hki)
     unfold pairG at hp
     rw [Bool.or_eq_true] at hp
     rcases hp with hp | hp
     ·have:=hmask k hp
      rw [← getD_tf (by omega),hkl] at this; cases this
     ·have hkk' : ops.toList[k]? = some ok:=by rw [Array.getElem?_toList]; exact hkk
      rw [hkk'] at hp
      simp only [Bool.and_eq_true] at hp
      exact ⟨hp.1.1,hp.2⟩
    rw [hrem] at hE
    obtain ⟨_,N,g1,g2⟩:=frontG (o:=o) hpo _ σ (fun k hk => by
     obtain ⟨q1,q2⟩:=hprem k hk
     exact ⟨q1,q2⟩) hE
    have hst:=g1.2.2 σ (fun s _ => ⟨rfl,fun _ _ => rfl⟩) (fun σ' => Eqv (eff σ N) σ') (fun ρ hρ => hρ)
    have hwp : wpOp P ops Q i (lift C (fun σ' => Eqv (eff σ N) σ')) a w:=by
     cases hm : isM dm o with
     | true => exact g_wpM hok hc ho hop hm S hst
     | false => unfold gW at hst; rw [hm] at hst; exact g_wpS hok hc ho hop S hst
    refine wpOp_mono ?_ hwp
    rintro a' w' ⟨σ',hσ',S'⟩
    have S':=S'.eqv hσ'.symm
    exact ih _ _ a' w' hsz' hd' htl' hu' (by rw [hrem']; exact g2) S'
   ·-- from here on in any order
    have hV : ∀ (k : Nat) o,k < s0 → ops[k]? = some o → listed.getD k false = false → isV o = true ∧ rowLp ops.toList ms (sure ops.toList s0) k = true:=by
     intro k ok hk hok' hkl
     rcases (hPre k ok hk hok').2.2 with h | h
     ·exact h
     ·have:=hmask k (h i hlt his)
      rw [hkl] at this; cases this
    have hwalk:=walk_preG (P:=P) (callW:=callW) hsz hs0 (fun k o hk ho => (hPre k o hk ho).1) (fun k o hk ho hl => (hV k o hk ho hl).1) htl s0 0 (by omega) hE
    have hrowA : ∀ i,i < ops.size → listed.getD i false = false → rowLp ops.toList ms (fun k => listed.getD k false) i = true:=by
     intro k hk hkl
     refine rowL_mono (pl:=sure ops.toList s0) ?_ (fun q hq => by
      unfold sure at hq
      simp only [Bool.and_eq_true,decide_eq_true_eq] at hq
      obtain ⟨hq1,hq2⟩:=hq
      cases hh : listed.getD q false with
      | true => rfl
      | false =>
       have hql : q < ops.size:=by omega
       rw [Array.getElem?_toList,Array.getElem?_eq_getElem hql] at hq2
       have:=(hV q _ hq1 (Array.getElem?_eq_getElem hql) hh).1
       simp [this] at hq2)
     rcases Nat.lt_or_ge k s0 with h | h
     ·exact (hV k _ h (Array.getElem?_eq_getElem hk) hkl).2
     ·exact hrow k hk h
    have hcov0 : coverB ms listed 0 (ops.toList.drop 0) ls = true:=by
     have key : ∀ m i,i + m = s0 → coverB ms listed i (ops.toList.drop i) ls = true:=by
      intro m
      induction m with
      | zero =>
       intro i hi
       have hi2 : i = s0:=by omega
       rw [hi2]; exact cover_tail _ _ _ htl hcov
      | succ m ihm =>
       intro i hi
       have hil : i < ops.size:=by omega
       have hdrop : ops.toList.drop i = ops[i] :: ops.toList.drop (i + 1):=by
        rw [List.drop_eq_getElem_cons (by simpa using hil)]; simp
       rw [hdrop]
       unfold coverB
       cases hb : listed.getD i false with
       | true => rw [if_pos rfl]; exact ihm (i + 1) (by omega)
       | false =>
        rw [if_neg (by simp),if_neg (by rw [not_both (hV i _ (by omega) (Array.getElem?_eq_getElem hil) hb).1]; simp)]
        exact ihm (i + 1) (by omega)
     exact key s0 0 (by omega)
    obtain ⟨A,E,W,q1,⟨tm,q2,q3,q4⟩,q4',q5,q5',q6,q7⟩:=lW_run (K:=K) hnw hrm hrowA hok (ops.toList.drop 0) 0 ls σ a w rfl (by simp) hcov0 hwalk S
    have RR : RefRun P ops ms listed a A E W:=by
     refine ⟨hrm,hrowA,fun j hj hb => q5' j (Nat.zero_le _) hj hb,fun j o hj hb t => ?_,fun j o hj hb hp => ?_,fun s o hs hb hss => (q7 s o (Nat.zero_le _) hs hb hss).1⟩
     ·obtain ⟨e1,e2⟩:=q4' j o (Nat.zero_le _) hj hb t
      exact ⟨fun k ok => e1 k ok (Nat.zero_le _),fun hno => e2 fun k ok _ => hno k ok⟩
     ·obtain ⟨v,d,g1,g2,g3,g4⟩:=q6 j o (Nat.zero_le _) hj hb hp
      refine ⟨v,d,g1,g2,g3,g4,fun s os hs hsb hss hjs hbit => ?_⟩
      obtain ⟨v',d',f1,f2,f3⟩:=(q7 s os (Nat.zero_le _) hs hsb hss).2 j o hj hb hp hjs hbit
      rw [g1] at f1; cases f1
      rw [g2] at f2; cases f2
      exact f3 _ (fun h => absurd h (Nat.not_lt_zero _)) (fun _ => rfl)
    have hfin:=late_any RR (fun _ _ => hQ _ _ q5) ⟨tm,q2,q3,fun t ht => q4 t fun k ok _ => ht k ok⟩ (fun k ok d hk hd' => by
     have hok2 : operOk C.n C.ks ok = true:=(List.all_eq_true.1 hok) ok (List.mem_of_getElem? (by rw [Array.getElem?_toList]; exact hk : ops.toList[k]? = some ok))
     simp only [operOk,hd',Bool.and_eq_true,decide_eq_true_eq] at hok2
     rw [S.2.2.1]; exact hok2.2.1) (fuel + 1) listed a w hsz hd hu ⟨⟨a.tmps,rfl,rfl,fun t => ⟨fun k ok hk hb hd' hl => absurd hl (by rw [hb]; simp),fun _ => rfl⟩⟩,⟨0,Nat.zero_le _,q1.symm,fun s o hs hb hst => ⟨fun hl => absurd hl (by rw [hb]; simp),fun h => absurd h (Nat.not_lt_zero _)⟩⟩,fun k hk => hk⟩
    exact hfin.2 i hi
theorem mixl_sound (hc : CallsOk P callW) (hcl : CallsLoc callW) {ops : Array Oper} {id : Nat} {Q : Exit → Act → World → Prop} {K : St → Prop} {σ : St} {a : Act} {w : World} (hok : ops.toList.all (operOk C.n C.ks) = true) (hQ : ∀ a w, lift C K a w → Q .normal a w)
    (h : MixL P callW ops.toList σ K) (S : Sim C σ a w) : (Code.region id ops true).wp P Q a w:=by
  obtain ⟨dm,sq,sl,s0,ls,h1,h2⟩:=h
  have hm : P.follows .mixedOrders = true:=by
    have:=h1
    simp only [lateG,Bool.and_eq_true] at this
    exact this.1.1.1.1.1.1
  have hs0 : s0 ≤ ops.size:=by
    have:=h1
    simp only [lateG,Bool.and_eq_true,decide_eq_true_eq] at this
    simpa using this.1.1.1.1.1.2
  have hgetF : ∀ k,(Array.replicate ops.size false).getD k false = false:=by
    intro k
    by_cases h : k < ops.size <;> simp [h]
  have hget : ∀ k,(Array.replicate ops.size false).getD k true = true → ops.size ≤ k:=by
    intro k hk
    by_cases h : k < ops.size
    · simp [h] at hk
    · omega
  have hul : ∀ n,n ≤ ops.size → unl n (Array.replicate ops.size false) = List.range n:=by
    intro n hn
    unfold unl
    refine List.filter_eq_self.2 fun k hk => ?_
    have : k < ops.size := by have : k < n := by simpa using hk
                              omega
    simp [this]
  refine wp_region_any hm (draw_mixl (C:=C) hc hcl hok h1 hQ ops.size _ σ a _ (by simp) ?_ (fun k _ => hgetF k) (by rw [hul _ (Nat.le_refl _)]; simp) ?_ S.drawn)
  · intro j o hj hl
    have:=hget j hl
    have:=(Array.getElem?_eq_some_iff.1 hj).1
    omega
  · have hrm : remP ops (Array.replicate ops.size false) s0 0 = ops.toList.take s0 := by
      have e : remP ops (Array.replicate ops.size false) s0 0 = (unl s0 (Array.replicate ops.size false)).filterMap fun k => ops[k]?:=by
        unfold remP unl; rw [List.range_eq_range',Nat.sub_zero]
      rw [e,hul _ hs0]
      have : ∀ n,n ≤ ops.size → (List.range n).filterMap (fun i => ops[i]?) = ops.toList.take n:=by
        intro n
        induction n with
        | zero => simp
        | succ n ih =>
          intro hn
          rw [List.range_succ,List.filterMap_append,ih (by omega)]
          have hlt : n < ops.size:=by omega
          simp [Array.getElem?_eq_getElem hlt,List.take_add_one]
      exact this s0 hs0
    rw [hrm]
    refine dGE_of hcl _ _ (fun o' ho' d hd2 => List.mem_filterMap.2 ⟨o',ho',hd2⟩) h2
end
end Go.Proofs.YtpffgegfjpdncaaGreatDoor.Am
namespace Go.Proofs.YtpffgegfjpdncaaGreatDoor.Am
open Go.RowKit AV
set_option linter.unusedVariables false
set_option maxHeartbeats 1000000
def barOk (P : Program) (ops : List Oper) (b : Nat) : Bool :=
 P.follows .mixedOrders && decide (b ≤ ops.length) && (List.range ops.length).all (rowM ops (maskGo [] ops)) &&
  (List.range ops.length).all (fun j => decide (j < b) || (List.range j).all fun i => ((maskGo [] ops).getD j 0).testBit i) &&
  (ops.take b).all (fun o => o.guard.isNone)
def BarW (P : Program) (callW callX : Call → Option Tmp → St → (St → Prop) → Prop) (ops : List Oper) (σ : St) (K : St → Prop) : Prop :=
 ∃ b dm sq ss,barOk P ops b = true ∧ mixOk P (ops.take b) dm sq ss = true ∧ dGW P callW (ops.take b) dm sq ss ((ops.take b).filterMap (·.dst)) (ops.take b) σ (fun σ' => opsW P callX ops (ops.drop b) σ' K)
section
variable {P : Program} {C : Ctx P} {callW callX : Call → Option Tmp → St → (St → Prop) → Prop}
theorem wp_noexit {o : Oper} {a : Act} {w : World} {R : Act → World → Prop} {K K' : Act → World → Prop} {Q : Exit → Act → World → Prop} (h : ∀ a w,K a w → K' a w) (hh : o.wp P a w K (fun e a w => e = .normal ∧ R a w)) : o.wp P a w K' Q:=by
 unfold Oper.wp at *
 generalize (execOp a.eval o).run P w = r at *
 cases r with
 | ok n w' =>
  cases n <;> simp only [Oper.upon] at hh ⊢ <;>
   first
    | exact h _ _ hh
    | exact Calls.mono hh (fun e w'' he => by
      cases e with
      | returned v => exact h _ _ he
      | panicked c => exact absurd he.1 (by simp)
      | outgrown => obtain ⟨_,_,he,_⟩:=he; cases he)
    | exact Rows.mono hh (fun _ _ he => h _ _ he)
 | halt x w' => cases x <;> simp only [Oper.upon] at hh ⊢ <;> first | exact hh | exact absurd hh.1 (by simp)
theorem wpOp_noexit {ops A : Array Oper} {i : Nat} {o : Oper} {a : Act} {w : World} {R : Act → World → Prop} {K K' : Act → World → Prop} {Q : Exit → Act → World → Prop} (ho : ops[i]? = some o) (hA : A[i]? = some o) (hg : o.guard = none) (h : ∀ a w,K a w → K' a w)
  (hh : wpOp P A (fun e a w => e = .normal ∧ R a w) i K a w) : wpOp P ops Q i K' a w:=by
 unfold wpOp at *
 rw [hA] at hh
 rw [ho]
 have hw : ∀ y,Region.wanted o y = true:=fun y => by unfold Region.wanted; rw [hg]
 simp only [hw,if_true] at hh ⊢
 rcases hh with hh | ⟨_,_,_,he,_⟩
 ·exact .inl (wp_noexit h hh)
 ·cases he
theorem ready_first {ops : Array Oper} {ms : List Nat} (hrm : ∀ i,i < ops.size → rowM ops.toList ms i = true) {l : Array Bool} {i : Nat} (hi : i < ops.size) (h1 : l.getD i true = false) (hlt : ∀ j,j < i → l.getD j false = true) : i ∈ Region.ready .any ops l:=by
 refine mem_ready.2 ⟨h1,ops[i],Array.getElem?_eq_getElem hi,fun e he hb => ?_⟩
 have hp : e.on ∈ predsOf ops[i]:=List.mem_map.2 ⟨e,List.mem_filter.2 ⟨by simpa using he,hb⟩,rfl⟩
 exact hlt _ ((rowM_spec (hrm i hi) (by rw [Array.getElem?_toList,Array.getElem?_eq_getElem hi])).1 _ hp)
theorem ready_mask {ops : Array Oper} {ms : List Nat} (hrm : ∀ i,i < ops.size → rowM ops.toList ms i = true) {l : Array Bool} (hsz : l.size = ops.size) (hd : Down ops l) {i : Nat} {o : Oper} (ho : ops[i]? = some o) (haft : ∀ e ∈ o.after,Region.binds .any e = true → l.getD e.on false = true) {k : Nat} (hk : (ms.getD i 0).testBit k = true) : l.getD k false = true:=by
 have hlt : i < ops.size:=(Array.getElem?_eq_some_iff.1 ho).1
 obtain ⟨r1,r2⟩:=rowM_spec (hrm i hlt) (by rw [Array.getElem?_toList]; exact ho)
 rw [r2] at hk
 obtain ⟨p,hp,hh⟩:=maskOf_spec hk
 have hpi : p < i:=r1 p hp
 have hpl : l.getD p false = true:=by
  obtain ⟨e,he,rfl⟩:=List.mem_map.1 hp
  obtain ⟨he1,he2⟩:=List.mem_filter.1 he
  exact haft e (by simpa using he1) he2
 rcases hh with rfl | hh
 ·exact hpl
 ·exact down_maskL hrm hsz hd p p (Nat.le_refl _) (by omega) (by rw [getD_tf (by omega)]; exact hpl) k hh
theorem down_set {ops : Array Oper} {l : Array Bool} (hd : Down ops l) {i : Nat} {o : Oper} (ho : ops[i]? = some o) (haft : ∀ e ∈ o.after,Region.binds .any e = true → l.getD e.on false = true) : Down ops (l.setIfInBounds i true):=by
 intro j oj hj hl p hp
 have hpl : l.getD p false = true:=by
  by_cases hji : j = i
  ·subst hji
   rw [ho] at hj; cases hj
   obtain ⟨e,he,rfl⟩:=List.mem_map.1 hp
   obtain ⟨he1,he2⟩:=List.mem_filter.1 he
   exact haft e (by simpa using he1) he2
  ·rw [getD_set_ne true (Ne.symm hji)] at hl
   exact hd j oj hj hl p hp
 exact getD_set_true hpl
theorem seq_any {ops : Array Oper} {ms : List Nat} {b : Nat} {Q : Exit → Act → World → Prop} (hrm : ∀ i,i < ops.size → rowM ops.toList ms i = true) (hch : ∀ j,b ≤ j → j < ops.size → ∀ i,i < j → (ms.getD j 0).testBit i = true) :
  ∀ (m k : Nat) (l : Array Bool) (a : Act) (w : World),k + m = ops.size → b ≤ k → l.size = ops.size → (∀ j,j < k → l.getD j false = true) → (∀ j,k ≤ j → l.getD j false = false) → Down ops l →
   wpOps P ops Q (List.range' k m) a w → wpAny P .any ops Q m l a w
 | 0,k,l,a,w,hk,hb,hsz,ht,hf,hd,h => by
  refine ⟨?_,by simpa [wpOps] using h⟩
  apply List.eq_nil_iff_forall_not_mem.2
  intro j hj
  obtain ⟨h1,o,ho,_⟩:=mem_ready.1 hj
  have hlt:=(Array.getElem?_eq_some_iff.1 ho).1
  rw [getD_tf (by omega),ht j (by omega)] at h1; cases h1
 | m + 1,k,l,a,w,hk,hb,hsz,ht,hf,hd,h => by
  have hkl : k < ops.size:=by omega
  have hready:=ready_first hrm hkl (by rw [getD_tf (by omega)]; exact hf k (Nat.le_refl _)) ht
  refine ⟨fun hn => (by rw [hn] at hready; exact absurd hready (by simp)),fun i hi => ?_⟩
  obtain ⟨h1,o,ho,haft⟩:=mem_ready.1 hi
  have hlt:=(Array.getElem?_eq_some_iff.1 ho).1
  rw [getD_tf (by omega)] at h1
  have hik : k ≤ i:=by
   rcases Nat.lt_or_ge i k with h | h
   ·rw [ht i h] at h1; cases h1
   ·exact h
  have hki : i = k:=by
   rcases Nat.lt_or_ge k i with h | h
   ·have:=ready_mask hrm hsz hd ho haft (hch i (by omega) hlt k h)
    rw [hf k (Nat.le_refl _)] at this; cases this
   ·omega
  subst hki
  rw [List.range'_succ,wpOps_cons] at h
  refine wpOp_mono (fun a' w' h' => ?_) h
  refine seq_any hrm hch m (i + 1) _ a' w' (by omega) (by omega) (by simpa using hsz) (fun j hj => ?_) (fun j hj => ?_) (down_set hd ho haft) h'
  ·rcases Nat.lt_or_ge j i with h | h
   ·exact getD_set_true (ht j h)
   ·obtain rfl : j = i:=by omega
    simp [hsz,hlt]
  ·rw [getD_set_ne false (by omega)]; exact hf j (by omega)
theorem bar_any {ops A : Array Oper} {ms : List Nat} {b : Nat} {Q : Exit → Act → World → Prop} {R : Act → World → Prop} (hAi : ∀ i,i < b → A[i]? = ops[i]?) (hAs : A.size = b) (hb : b ≤ ops.size) (hrm : ∀ i,i < ops.size → rowM ops.toList ms i = true) (hch : ∀ j,b ≤ j → j < ops.size → ∀ i,i < j → (ms.getD j 0).testBit i = true)
  (hg : ∀ (i : Nat) o,i < b → ops[i]? = some o → o.guard = none) (hR : ∀ (l : Array Bool) a w,l.size = ops.size → (∀ k,k < b → l.getD k false = true) → (∀ k,b ≤ k → l.getD k false = false) → Down ops l → R a w → wpAny P .any ops Q (ops.size - b) l a w) :
  ∀ (fuel : Nat) (la l : Array Bool) (a : Act) (w : World),la.size = b → l.size = ops.size → (∀ k,k < b → la.getD k false = l.getD k false) → (∀ k,b ≤ k → l.getD k false = false) → Down ops l → (unl b la).length = fuel →
   wpAny P .any A (fun e a w => e = .normal ∧ R a w) fuel la a w → wpAny P .any ops Q (fuel + (ops.size - b)) l a w:=by
 intro fuel
 induction fuel with
 | zero =>
  intro la l a w h1 h2 h3 h4 h5 h6 h
  rw [Nat.zero_add]
  refine hR l a w h2 (fun k hk => ?_) h4 h5 h.2.2
  rw [← h3 k hk]
  cases hh : la.getD k false with
  | true => rfl
  | false =>
   have : k ∈ unl b la:=List.mem_filter.2 ⟨by simpa using hk,by rw [getD_tf (by omega),hh]; rfl⟩
   rw [List.eq_nil_of_length_eq_zero h6] at this; cases this
 | succ fuel ih =>
  intro la l a w h1 h2 h3 h4 h5 h6 h
  rw [show fuel + 1 + (ops.size - b) = (fuel + (ops.size - b)) + 1 by omega]
  obtain ⟨j,rest,hu⟩ : ∃ j rest,unl b la = j :: rest:=by
   cases hu : unl b la with
   | nil => rw [hu] at h6; cases h6
   | cons j rest => exact ⟨j,rest,rfl⟩
  have hj : j ∈ unl b la:=by rw [hu]; exact List.mem_cons_self ..
  obtain ⟨hj1,hj2⟩:=List.mem_filter.1 hj
  have hjb : j < b:=by simpa using hj1
  have hjl : l.getD j false = false:=by
   rw [← h3 j hjb,← getD_tf (by omega)]
   simpa using hj2
  have hmin : ∀ i,i < j → l.getD i false = true:=by
   intro i hi
   cases hh : l.getD i false with
   | true => rfl
   | false =>
    have hm : i ∈ unl b la:=List.mem_filter.2 ⟨by simp; omega,by rw [getD_tf (by omega),h3 i (by omega),hh]; rfl⟩
    have hs : (unl b la).Pairwise (· < ·):=(List.pairwise_lt_range).filter _
    rw [hu] at hm hs
    rcases List.mem_cons.1 hm with h | h
    ·omega
    ·have:=(List.pairwise_cons.1 hs).1 _ h
     omega
  have hready:=ready_first hrm (by omega : j < ops.size) (by rw [getD_tf (by omega)]; exact hjl) hmin
  refine ⟨fun hn => (by rw [hn] at hready; exact absurd hready (by simp)),fun i hi => ?_⟩
  obtain ⟨q1,o,ho,haft⟩:=mem_ready.1 hi
  have hlt:=(Array.getElem?_eq_some_iff.1 ho).1
  rcases Nat.lt_or_ge i b with hib | hib
  ·have hAo : A[i]? = some o:=by rw [hAi i hib]; exact ho
   have hra : i ∈ Region.ready .any A la:=by
    refine mem_ready.2 ⟨?_,o,hAo,fun e he hb => ?_⟩
    ·rw [getD_tf (by omega),h3 i hib,← getD_tf (by omega)]; exact q1
    ·have hp : e.on ∈ predsOf o:=List.mem_map.2 ⟨e,List.mem_filter.2 ⟨by simpa using he,hb⟩,rfl⟩
     have:=(rowM_spec (hrm i hlt) (by rw [Array.getElem?_toList]; exact ho)).1 _ hp
     rw [h3 _ (by omega)]
     exact haft e he hb
   obtain ⟨pre,post,u1,u2,u3⟩:=unl_split (n:=b) hib (by rw [getD_tf (by omega),h3 i hib,← getD_tf (by omega)]; exact q1) h1
   refine wpOp_noexit ho hAo (hg i o hib ho) (fun a' w' h' => ?_) (h.2 i hra)
   refine ih _ _ a' w' (by simpa using h1) (by simpa using h2) (fun k hk => ?_) (fun k hk => ?_) (down_set h5 ho haft) ?_ h'
   ·by_cases e : k = i
    ·subst e; simp [h1,h2,hib,hlt]
    ·rw [getD_set_ne false (Ne.symm e),getD_set_ne false (Ne.symm e)]; exact h3 k hk
   ·rw [getD_set_ne false (by omega)]; exact h4 k hk
   ·rw [u3,List.length_append]
    rw [u1,List.length_append,List.length_cons] at h6
    omega
  ·have:=ready_mask hrm h2 h5 ho haft (hch i hib hlt j (by omega))
   rw [hjl] at this; cases this
theorem bar_sound (hc : CallsOk P callW) (hcl : CallsLoc callW) (hx : CallsOk P callX) {ops : Array Oper} {id : Nat} {Q : Exit → Act → World → Prop} {K : St → Prop} {σ : St} {a : Act} {w : World} (hok : ops.toList.all (operOk C.n C.ks) = true) (hQ : ∀ a w,lift C K a w → Q .normal a w)
  (h : BarW P callW callX ops.toList σ K) (S : Sim C σ a w) : (Code.region id ops true).wp P Q a w:=by
 obtain ⟨b,dm,sq,ss,h1,h2,h3⟩:=h
 simp only [barOk,Bool.and_eq_true,decide_eq_true_eq] at h1
 obtain ⟨⟨⟨⟨hm,hb⟩,hrm⟩,hch⟩,hg⟩:=h1
 have hb : b ≤ ops.size:=by simpa using hb
 have hrm : ∀ i,i < ops.size → rowM ops.toList (maskGo [] ops.toList) i = true:=fun i hi => (List.all_eq_true.1 hrm) i (by simpa using hi)
 have hch : ∀ j,b ≤ j → j < ops.size → ∀ i,i < j → ((maskGo [] ops.toList).getD j 0).testBit i = true:=by
  intro j hbj hj i hi
  have:=(List.all_eq_true.1 hch) j (by simpa using hj)
  simp only [Bool.or_eq_true,decide_eq_true_eq] at this
  exact (List.all_eq_true.1 (this.resolve_left (by omega))) i (by simpa using hi)
 have hg : ∀ (i : Nat) o,i < b → ops[i]? = some o → o.guard = none:=by
  intro i o hi ho
  have:=(List.all_eq_true.1 hg) o (List.mem_of_getElem? (i:=i) (by rw [List.getElem?_take_of_lt hi,Array.getElem?_toList]; exact ho))
  simpa using this
 have hAi : ∀ i,i < b → (ops.toList.take b).toArray[i]? = ops[i]?:=by
  intro i hi
  rw [List.getElem?_toArray,List.getElem?_take_of_lt hi,Array.getElem?_toList]
 have hAs : (ops.toList.take b).toArray.size = b:=by simp; omega
 have hokA : ((ops.toList.take b).toArray).toList.all (operOk C.n C.ks) = true:=by
  refine List.all_eq_true.2 fun o ho => (List.all_eq_true.1 hok) o ?_
  exact List.mem_of_mem_take (by simpa using ho)
 have hgetF : ∀ n k,(Array.replicate n false).getD k false = false:=by
  intro n k
  by_cases h : k < n <;> simp [h]
 have hget : ∀ n k,(Array.replicate n false).getD k true = true → n ≤ k:=by
  intro n k hk
  by_cases h : k < n
  ·simp [h] at hk
  ·omega
 have hul : ∀ n,unl n (Array.replicate n false) = List.range n:=by
  intro n
  unfold unl
  refine List.filter_eq_self.2 fun k hk => ?_
  have : k < n:=by simpa using hk
  simp [this]
 have hdn : ∀ A : Array Oper,Down A (Array.replicate A.size false):=by
  intro A j o hj hl
  have:=hget _ j hl
  have:=(Array.getElem?_eq_some_iff.1 hj).1
  omega
 have hrem : remOf (ops.toList.take b).toArray (Array.replicate (ops.toList.take b).toArray.size false) = ops.toList.take b:=by
  unfold remOf
  rw [hul]
  have : ∀ (A : Array Oper) n,n ≤ A.size → (List.range n).filterMap (fun i => A[i]?) = A.toList.take n:=by
   intro A n
   induction n with
   | zero => simp
   | succ n ih =>
    intro hn
    rw [List.range_succ,List.filterMap_append,ih (by omega)]
    have hlt : n < A.size:=by omega
    simp [Array.getElem?_eq_getElem hlt,List.take_add_one]
  rw [this _ _ (Nat.le_refl _),List.take_of_length_le (by simp)]
 have hA:=mix_any (P:=P) (C:=C) (callW:=callW) hc hcl (ops:=(ops.toList.take b).toArray) (Q:=fun e a w => e = .normal ∧ lift C (fun σ' => opsW P callX ops.toList (ops.toList.drop b) σ' K) a w) (K:=fun σ' => opsW P callX ops.toList (ops.toList.drop b) σ' K)
  hokA h2 (fun a w h => ⟨rfl,h⟩) b (Array.replicate (ops.toList.take b).toArray.size false) σ a { w with drawn:=w.drawn + 1 } (by simp) (hdn _) (by rw [hul,List.length_range]; exact hAs) (by
   rw [hrem]
   exact dGE_of hcl _ _ (fun o' ho' d hd2 => List.mem_filterMap.2 ⟨o',ho',hd2⟩) h3) S.drawn
 rw [hAs] at hA
 have:=bar_any (P:=P) (ops:=ops) (b:=b) (Q:=Q) (R:=lift C (fun σ' => opsW P callX ops.toList (ops.toList.drop b) σ' K)) hAi hAs hb hrm hch hg (fun l a w q1 q2 q3 q4 ⟨σ',q5,S'⟩ => by
  refine seq_any (b:=b) hrm hch (ops.size - b) b l a w (by omega) (Nat.le_refl _) q1 q2 q3 q4 ?_
  have:=ops_sound (C:=C) hx (ops:=ops) (Q:=Q) hok hQ (ops.toList.drop b) b σ' a w rfl q5 S'
  rw [List.length_drop,Array.length_toList] at this
  exact this) b (Array.replicate b false) (Array.replicate ops.size false) a { w with drawn:=w.drawn + 1 } (by simp) (by simp) (fun k hk => by rw [hgetF,hgetF]) (fun k _ => hgetF _ k) (hdn _) (by rw [hul,List.length_range]) hA
 rw [show b + (ops.size - b) = ops.size by omega] at this
 exact wp_region_any hm this
end
end Go.Proofs.YtpffgegfjpdncaaGreatDoor.Am
namespace Go.Proofs.YtpffgegfjpdncaaGreatDoor.Am
open Go.RowKit AV
set_option linter.unusedVariables false
abbrev Post:=Exit → St → Prop
abbrev CW:=Call → Option Tmp → St → (St → Prop) → Prop
def CallX (P : Program) (cw : CW) : CW:=fun c dst σ K => (∃ L,cw c dst (frzs σ L) K) ∨ (∃ f,c.callee = .value (.func f) ∧ ∃ L,CallM P f c.args.toList dst (frzs σ L) K) ∨ (∃ x y t t',c = ⟨.builtin .copy,#[x,y],#[t,t']⟩ ∧ copyW P σ t x y dst K) ∨ ∃ f,c.callee = .value (.func f) ∧ (CallVW P f c.args.toList dst σ K ∨ CallMk P f c.args.toList dst σ K)
theorem callsX {P : Program} {cw : CW} (h : CallsOk P cw) : CallsOk P (CallX P cw):=by
 intro C c o σ K a w Q ho hok S hw
 rcases hw with ⟨L,hw⟩ | ⟨f,hf,L,hw⟩ | ⟨x,y,t,t',rfl,hw⟩ | ⟨f,hf,hw⟩
 ·exact h C c o _ K a w Q ho hok (S.frzs L) hw
 ·exact callM_sound ho hf hok (S.frzs L) hw
 ·exact copy_sound ho hok S hw
 ·rcases hw with hw | hw
  ·exact callV_sound ho hf hok S hw
  ·exact callMk_sound ho hf hok S hw
def MixB (P : Program) (cw : CW) (ops : List Oper) (σ : St) (K : St → Prop) : Prop:=MixL P cw ops σ K ∨ BarW P cw (CallX P cw) ops σ K
def thenQ (K : St → Prop) (Q : Post) : Post
 | .normal,σ => K σ
 | e,σ => Q e σ
def blockQ (id : Nat) (Q : Post) : Post
 | .exit id',σ => if id' = id then Q .normal σ else Q (.exit id') σ
 | e,σ => Q e σ
def LoopW (bodyW : St → Post → Prop) (σ : St) (Q : Post) : Prop :=
 ∃ (α : Type) (J : α → Prop) (I : α → St) (μ : α → Nat),(∃ g,J g ∧ ∃ L,Le (frzs σ L) (I g)) ∧ ∀ g,J g → bodyW (I g) (thenQ (fun σ' => ∃ g',J g' ∧ (∃ L,Le (frzs σ' L) (I g')) ∧ μ g' < μ g) Q)
def codeW (P : Program) (callW : CW) (vars : List Nat) : Code → St → Post → Prop
 | .skip,σ,Q => Q .normal σ
 | .region _ ops false,σ,Q => opsW P (CallX P callW) ops.toList ops.toList σ (fun σ' => Q .normal (tidy vars σ'))
 | .region _ ops true,σ,Q => DrawW P callW ops.toList σ (fun σ' => Q .normal (tidy vars σ')) ∨ (LateW P callW ops.toList σ (fun σ' => Q .normal (tidy vars σ')) ∨ (MixW P callW ops.toList σ (fun σ' => Q .normal (tidy vars σ')) ∨ (MixB P callW ops.toList σ (fun σ' => Q .normal (tidy vars σ')) ∨ ∃ L,DrawW P callW ops.toList (frzs σ L) (fun σ' => Q .normal (tidy vars σ')) ∨ (LateW P callW ops.toList (frzs σ L) (fun σ' => Q .normal (tidy vars σ')) ∨ (MixW P callW ops.toList (frzs σ L) (fun σ' => Q .normal (tidy vars σ')) ∨ MixB P callW ops.toList (frzs σ L) (fun σ' => Q .normal (tidy vars σ')))))))
 | .seq x y,σ,Q => codeW P callW vars x σ (thenQ (fun σ' => codeW P callW vars y σ' Q) Q)
 | .cond c x y,σ,Q => (match ev σ c with | .bool t => (t = true → codeW P callW vars x σ Q) ∧ (t = false → codeW P callW vars y σ Q) | _ => False)
 | .block id b,σ,Q => codeW P callW vars b σ (blockQ id Q)
 | .loop b,σ,Q => LoopW (codeW P callW vars b) σ Q
 | .exit id,σ,Q => Q (.exit id) σ
 | .ret,σ,Q => Q .ret σ
 | _,_,_ => False
def codeOk (n : Nat) (ks : List Nat) : Code → Bool
 | .region _ ops _ => ops.toList.all (operOk n ks)
 | .seq x y => codeOk n ks x && codeOk n ks y
 | .cond c x y => opndOk n c && codeOk n ks x && codeOk n ks y
 | .block _ b | .loop b => codeOk n ks b
 | _ => true
def liftQ {P : Program} (C : Ctx P) (Q : Post) : Exit → Act → World → Prop:=fun e a w => ∃ σ,Q e σ ∧ Sim C σ a w
section
variable {P : Program} {C : Ctx P} {callW : CW} {vars : List Nat}
theorem Sim.tidy {σ : St} {a : Act} {w : World} (S : Sim C σ a w) (vars : List Nat) : Sim C (tidy vars σ) a w:=S.weaken (less_tidy _ _)
theorem Sim.le {σ τ : St} {a : Act} {w : World} (S : Sim C σ a w) (h : Le σ τ) : Sim C τ a w:=S.weaken (less_of_le h)
theorem Sim.bool {σ : St} {a : Act} {w : World} (S : Sim C σ a w) {c : Operand} {t : Bool} (hc : opndOk C.n c = true) (e : ev σ c = .bool t) : a.eval c = .bool t:=by
 obtain ⟨⟨Os,R⟩,_,hn,_⟩:=S
 have:=(ev_rep R (by rw [hn]; exact hc)).1
 rw [e] at this
 simp only [RepW,RepC] at this
 simpa using this.1
theorem code_sound (hc : CallsOk P callW) (hcl : CallsLoc callW) : ∀ (c : Code) (σ : St) (Q : Post) (a : Act) (w : World),codeOk C.n C.ks c = true → codeW P callW vars c σ Q → Sim C σ a w → c.wp P (liftQ C Q) a w
 | .skip,σ,Q,a,w,_,h,S => wp_skip ⟨σ,h,S⟩
 | .region id ops false,σ,Q,a,w,ok,h,S => by
  simp only [codeW] at h
  refine wp_region ?_
  rw [List.range_eq_range',← Array.length_toList]
  refine ops_sound (C:=C) (K:=fun σ' => Q .normal (Am.tidy vars σ')) (callsX hc) (by simpa [codeOk] using ok) ?_ ops.toList 0 σ a w rfl h S
  rintro a' w' ⟨σ',h',S'⟩
  exact ⟨_,h',S'.tidy vars⟩
 | .region id ops true,σ,Q,a,w,ok,h,S => by
  simp only [codeW] at h
  have key : ∀ σ,Sim C σ a w → (DrawW P callW ops.toList σ (fun σ' => Q .normal (Am.tidy vars σ')) ∨ (LateW P callW ops.toList σ (fun σ' => Q .normal (Am.tidy vars σ')) ∨ (MixW P callW ops.toList σ (fun σ' => Q .normal (Am.tidy vars σ')) ∨ MixB P callW ops.toList σ (fun σ' => Q .normal (Am.tidy vars σ'))))) → (Code.region id ops true).wp P (liftQ C Q) a w:=by
   intro σ S h
   rcases h with h | h | h | h
   ·refine draw_sound (C:=C) (K:=fun σ' => Q .normal (Am.tidy vars σ')) hc hcl (by simpa [codeOk] using ok) ?_ h S
    rintro a' w' ⟨σ',h',S'⟩
    exact ⟨_,h',S'.tidy vars⟩
   ·refine late_sound (C:=C) (K:=fun σ' => Q .normal (Am.tidy vars σ')) hc hcl (by simpa [codeOk] using ok) ?_ h S
    rintro a' w' ⟨σ',h',S'⟩
    exact ⟨_,h',S'.tidy vars⟩
   ·refine mix_sound (C:=C) (K:=fun σ' => Q .normal (Am.tidy vars σ')) hc hcl (by simpa [codeOk] using ok) ?_ h S
    rintro a' w' ⟨σ',h',S'⟩
    exact ⟨_,h',S'.tidy vars⟩
   ·rcases h with h | h
    ·refine mixl_sound (C:=C) (K:=fun σ' => Q .normal (Am.tidy vars σ')) hc hcl (by simpa [codeOk] using ok) ?_ h S
     rintro a' w' ⟨σ',h',S'⟩
     exact ⟨_,h',S'.tidy vars⟩
    ·refine bar_sound (C:=C) (K:=fun σ' => Q .normal (Am.tidy vars σ')) hc hcl (callsX hc) (by simpa [codeOk] using ok) ?_ h S
     rintro a' w' ⟨σ',h',S'⟩
     exact ⟨_,h',S'.tidy vars⟩
  rcases h with h | h | h | h | ⟨L,h⟩
  ·exact key σ S (.inl h)
  ·exact key σ S (.inr (.inl h))
  ·exact key σ S (.inr (.inr (.inl h)))
  ·exact key σ S (.inr (.inr (.inr h)))
  ·exact key _ (S.frzs L) h
 | .seq x y,σ,Q,a,w,ok,h,S => by
  simp only [codeOk,Bool.and_eq_true] at ok
  simp only [codeW] at h
  refine wp_seq (wp_mono (code_sound hc hcl x σ _ a w ok.1 h S) ?_)
  rintro e a' w' ⟨σ',h',S'⟩
  cases e with
  | normal => exact code_sound hc hcl y σ' Q a' w' ok.2 h' S'
  | _ => exact ⟨σ',h',S'⟩
 | .cond c x y,σ,Q,a,w,ok,h,S => by
  simp only [codeOk,Bool.and_eq_true] at ok
  simp only [codeW] at h
  split at h
  ·rename_i t e
   have hb:=S.bool ok.1.1 e
   exact wp_cond_split hb (fun ht => code_sound hc hcl x σ Q a w ok.1.2 (h.1 ht) S) (fun ht => code_sound hc hcl y σ Q a w ok.2 (h.2 ht) S)
  ·exact h.elim
 | .block id b,σ,Q,a,w,ok,h,S => by
  refine wp_block (wp_mono (code_sound hc hcl b σ _ a w ok h S) ?_)
  rintro e a' w' ⟨σ',h',S'⟩
  cases e with
  | exit id' =>
   simp only [Exit.inBlock]
   simp only [blockQ] at h'
   split at h'
   ·rename_i he; rw [if_pos he]; exact ⟨σ',h',S'⟩
   ·rename_i he; rw [if_neg he]; exact ⟨σ',h',S'⟩
  | _ => exact ⟨σ',h',S'⟩
 | .loop b,σ,Q,a,w,ok,h,S => by
  simp only [codeW,LoopW] at h
  obtain ⟨α,J,I,μ,⟨g0,hj0,L0,hl0⟩,round⟩:=h
  refine wp_loop_ghost (fun n a w => ∃ g,J g ∧ μ g = n ∧ Sim C (I g) a w) (μ g0) ⟨g0,hj0,rfl,(S.frzs L0).le hl0⟩ ?_
  rintro n a1 w1 ⟨g,hj,rfl,Sg⟩
  refine wp_mono (code_sound hc hcl b (I g) _ a1 w1 ok (round g hj) Sg) ?_
  rintro e a' w' ⟨σ',h',S'⟩
  cases e with
  | normal =>
   obtain ⟨g',hj',⟨L',hl'⟩,hlt⟩:=h'
   exact ⟨μ g',hlt,g',hj',rfl,(S'.frzs L').le hl'⟩
  | _ => exact ⟨σ',h',S'⟩
 | .exit id,σ,Q,a,w,_,h,S => wp_exit ⟨σ,h,S⟩
 | .ret,σ,Q,a,w,_,h,S => wp_ret ⟨σ,h,S⟩
 | .rangeFunc ..,_,_,_,_,_,h,_ => h.elim
 | .scope _,_,_,_,_,_,h,_ => h.elim
 | .label _,_,_,_,_,_,h,_ => h.elim
 | .goto _,_,_,_,_,_,h,_ => h.elim
 | .refuse _,_,_,_,_,_,h,_ => h.elim
end
end Go.Proofs.YtpffgegfjpdncaaGreatDoor.Am
namespace Go.Proofs.YtpffgegfjpdncaaGreatDoor.Am
open Go.RowKit AV
set_option linter.unusedVariables false
theorem callsOk {P : Program} : CallsOk P (CallW P):=by
 intro C c o σ K a w Q ho hok S h
 unfold CallW at h
 split at h
 ·rename_i f hc
  exact callL_sound ho hc hok S h
 ·exact h.elim
theorem callsLoc {P : Program} : CallsLoc (CallW P):=by
 intro c f dst σ K hc h
 unfold CallW at h
 rw [hc] at h
 simp only at h
 obtain ⟨args0,args,res,outs,F,e1,ele,e2,e3,e4⟩:=h
 refine ⟨res,e3,by unfold putO; cases dst <;> exact e4,fun τ hl K' hk => ?_⟩
 unfold CallW
 rw [hc]
 simp only
 have hsrc : ∀ x ∈ c.args.toList,srcOf τ x = srcOf σ x:=fun x hx => like_src (hl x hx)
 have harg : ∀ x ∈ c.args.toList,argOf τ x = argOf σ x:=by
  intro x hx
  unfold argOf
  rw [hsrc x hx,like_ev (hl x hx)]
  cases he : ev σ x with
  | vagg s p =>
   have : look τ s = look σ s:=by
    cases x with
    | tmp t =>
     simp only [ev] at he
     exact ((hl _ hx) t rfl).2 s (by rw [he]; rfl)
    | const v => have:=constV_target v; simp only [ev] at he; rw [he] at this; simp [AV.target] at this
    | global g => simp [ev] at he
    | func f => simp [ev] at he
   simp only [this]
  | _ => rfl
 have hargs : ∀ l : List Operand,(∀ x ∈ l,x ∈ c.args.toList) → argsOf τ l = argsOf σ l:=by
  intro l
  induction l with
  | nil => intro _; rfl
  | cons x r ih =>
   intro h
   simp only [argsOf]
   rw [harg x (h x (List.mem_cons_self ..)),ih (fun y hy => h y (List.mem_cons_of_mem _ hy))]
 have hval : valOnly τ c.args.toList = valOnly σ c.args.toList:=by
  unfold valOnly
  have : ∀ l : List Operand,(∀ x ∈ l,x ∈ c.args.toList) → (l.all fun x => match srcOf τ x with | .sls _ _ | .pts _ | .va _ => true | _ => false) = (l.all fun x => match srcOf σ x with | .sls _ _ | .pts _ | .va _ => true | _ => false):=by
   intro l
   induction l with
   | nil => intro _; rfl
   | cons x r ih =>
    intro h
    rw [List.all_cons,List.all_cons,hsrc x (h x (List.mem_cons_self ..)),ih (fun y hy => h y (List.mem_cons_of_mem _ hy))]
  exact this _ (fun _ h => h)
 refine ⟨args0,args,res,outs,F,by rw [hargs _ (fun _ h => h)]; exact e1,ele,by rw [hval]; exact e2,e3,?_⟩
 unfold putO at hk
 cases dst <;> exact hk
def initGo : Nat → List AV → St
 | _,[] => []
 | i,x :: r => (i,x) :: initGo (i + 1) r
theorem look_init : ∀ (xs : List AV) (i k : Nat),look (initGo i xs) k = if i ≤ k then xs.getD (k - i) .undef else .undef
 | [],i,k => by simp [initGo,look]
 | x :: r,i,k => by
  simp only [initGo,look,look_init r (i + 1) k]
  by_cases h : i = k
  ·subst h; simp
  ·simp only [h,if_false]
   by_cases h1 : i + 1 ≤ k
   ·rw [if_pos h1,if_pos (by omega),show k - i = (k - (i + 1)) + 1 by omega]; simp
   ·rw [if_neg h1,if_neg (by omega)]
theorem args_split {h : Array Obj} {S : Nat → Prop} : ∀ (xs : List AV) {vs : List Value} {O : Nat → Prop},RepWs h S xs vs O →
  ∃ Os : Nat → Nat → Prop,vs.length = xs.length ∧ (∀ i v,vs[i]? = some v → RepW h S (xs.getD i .undef) v (Os i)) ∧ (∀ i,xs.length ≤ i → Emp (Os i)) ∧ (∀ s t k,Os s k → Os t k → s = t) ∧ ∀ k,O k ↔ ∃ i,Os i k
 | [],vs,O,r => by
  simp only [RepWs] at r
  obtain ⟨rfl,hO⟩:=r
  exact ⟨fun _ _ => False,rfl,by simp,fun _ _ _ h => h,by simp,fun k => by simp [hO k]⟩
 | x :: xs,vs,O,r => by
  simp only [RepWs] at r
  obtain ⟨v,vs',O1,O2,rfl,h2,h3,h4,h5⟩:=r
  obtain ⟨Os,g1,g2,g3,g4,g5⟩:=args_split xs h5
  refine ⟨fun i => match i with | 0 => O1 | i + 1 => Os i,by simp [g1],?_,?_,?_,?_⟩
  ·intro i u hu
   cases i with
   | zero =>
    simp only [List.getElem?_cons_zero,Option.some.injEq] at hu
    subst hu
    simpa using h4
   | succ i => simpa using g2 i u (by simpa using hu)
  ·intro i hi
   cases i with
   | zero => simp at hi
   | succ i => exact g3 i (by simpa using hi)
  ·intro s t k hs ht
   cases s <;> cases t
   ·rfl
   ·exact (h3 k hs ((g5 k).2 ⟨_,ht⟩)).elim
   ·exact (h3 k ht ((g5 k).2 ⟨_,hs⟩)).elim
   ·rw [g4 _ _ k hs ht]
  ·intro k
   rw [h2 k,g5 k]
   constructor
   ·rintro (h | ⟨i,h⟩)
    ·exact ⟨0,h⟩
    ·exact ⟨i + 1,h⟩
   ·rintro ⟨i,h⟩
    cases i with
    | zero => exact .inl h
    | succ i => exact .inr ⟨i,h⟩
def outsW (σ1 : St) (used ks : List Nat) : Nat → List AV → Prop
 | _,[] => True
 | i,o :: r => (o = .undef ∨ (ks.contains i = true ∧ used.contains i = false ∧ leV (look σ1 i) o)) ∧ outsW σ1 used ks (i + 1) r
def retW (rs : List Nat) (ks : List Nat) (res : AV) (outs : List AV) (σ : St) : Prop :=
 let xs:=rs.map Operand.tmp
 let σ1:=pulls σ xs
 (usedOf σ1 xs).Nodup ∧ (match rs with | [r] => leV (look σ1 r) res | _ => leV (.tup (rs.map (look σ1))) res) ∧ outsW σ1 (usedOf σ1 xs) ks 0 outs
def retQ (rs : List Nat) (ks : List Nat) (res : AV) (outs : List AV) : Post
 | .ret,σ | .normal,σ => retW rs ks res outs σ
 | _,_ => False
theorem outs_rep {h : Array Obj} {ok O0 : Nat → Prop} {h0 : Array Obj} {tm : Array Value} {Os : Nat → Nat → Prop} {σ1 : St} {used ks : List Nat} {kv : Nat → Value} (R : Rel h0 ok O0 σ1 tm h Os) (hk : ∀ t ∈ ks,tm[t]? = some (kv t)) :
  ∀ (outs : List AV) (i : Nat) (vs : List Value),outsW σ1 used ks i outs → (∀ j v,vs[j]? = some v → kv (i + j) = v) → outs.length ≤ vs.length →
  ∃ Oo,RepWs h (Sh ok Os) outs (vs.take outs.length) Oo ∧ ∀ k,Oo k → ∃ t,i ≤ t ∧ t ∉ used ∧ Os t k
 | [],i,vs,_,_,_ => ⟨fun _ => False,by simp only [List.length_nil,List.take_zero,RepWs]; exact ⟨trivial,emp_false⟩,fun _ h => h.elim⟩
 | o :: r,i,[],_,_,hl => by simp at hl
 | o :: r,i,v :: vs,hw,hkv,hl => by
  simp only [outsW] at hw
  obtain ⟨Oo,g1,g2⟩:=outs_rep R hk r (i + 1) vs hw.2 (fun j u hu => by
   have:=hkv (j + 1) u (by simpa using hu)
   rw [show i + 1 + j = i + (j + 1) by omega]; exact this) (by simpa using hl)
  simp only [List.length_cons,List.take_succ_cons,RepWs]
  rcases hw.1 with rfl | ⟨h1,h2,h3⟩
  ·exact ⟨Oo,⟨v,_,fun _ => False,Oo,rfl,by simp,by simp,by simp only [RepW]; exact emp_false,g1⟩,fun k hk => by
    obtain ⟨t,q1,q2⟩:=g2 k hk
    exact ⟨t,by omega,q2⟩⟩
  ·have hm : i ∈ ks:=by simpa using h1
   have hv:=hk i hm
   have hvv : kv i = v:=hkv 0 v rfl
   rw [hvv] at hv
   have r1:=repW_le _ _ h3 (R.rep i v hv)
   refine ⟨fun k => Os i k ∨ Oo k,⟨v,_,Os i,Oo,rfl,fun _ => Iff.rfl,?_,r1,g1⟩,?_⟩
   ·intro k hk' ho
    obtain ⟨t,q1,_,q2⟩:=g2 k ho
    have:=R.dis _ _ k hk' q2
    omega
   ·rintro k (hk' | hk')
    ·exact ⟨i,Nat.le_refl _,by simpa using h2,hk'⟩
    ·obtain ⟨t,q1,q2⟩:=g2 k hk'
     exact ⟨t,by omega,q2⟩
theorem fits_of_code {P : Program} {f : FuncId} {fn : Func} {c : Code} {args : List AV} {res : AV} {outs : List AV} (rs ks vars : List Nat) (hf : P.funcs[f]? = some fn) (hb : fn.body = some c) (hname : (fn.name == "runtime.NumGoroutine") = false)
  (hrs : fn.results.toList = rs.map ResultVar.tmp) (hrn : rs.all (· < fn.ntmps) = true) (hn : args.length ≤ fn.ntmps) (hok : codeOk fn.ntmps ks c = true) (hks : ks.all (· < args.length) = true) (ho : outs.length ≤ args.length) (hal : args.all (fun x => x.target.isNone) = true)
  (h : codeW P (CallW P) vars c (initGo 0 args) (retQ rs ks res outs)) : Fits P f args res outs:=by
 refine ⟨⟨fn,hf,by simp [hb],hname⟩,?_⟩
 intro w vs ok O hall hrep hlay
 obtain ⟨Os,g1,g2,g3,g4,g5⟩:=args_split _ hrep
 let C : Ctx P:={ h0:=w.heap,ok,O0:=O,os:=w.os,tape:=w.tape,out:=w.output,n:=fn.ntmps,ks,kv:=fun i => vs.getD i undef,all:=hall,lay:=hlay }
 have hsz : (vs.toArray ++ Array.replicate (fn.ntmps - vs.toArray.size) undef).size = fn.ntmps:=by simp; omega
 have hget : ∀ t v,(vs.toArray ++ Array.replicate (fn.ntmps - vs.toArray.size) undef)[t]? = some v → t < vs.length → vs[t]? = some v:=by
  intro t v hv ht
  rw [Array.getElem?_append_left (by simpa using ht)] at hv
  simpa using hv
 have hsh : ∀ k,(ok k ∧ ¬ O k) → Sh ok Os k:=fun k hk => ⟨hk.1,fun t ht => hk.2 ((g5 k).2 ⟨t,ht⟩)⟩
 have S0 : Sim C (initGo 0 args) { tmps:=vs.toArray ++ Array.replicate (fn.ntmps - vs.toArray.size) undef,defers:=[] } w:=by
  refine ⟨⟨Os,?_,?_,g4,fun t k hk => .inl ((g5 k).2 ⟨t,hk⟩),?_,Nat.le_refl _,fun _ _ _ => rfl⟩,?_,hsz,rfl,rfl,rfl,rfl⟩
  ·intro t v hv
   rw [look_init,if_pos (Nat.zero_le _),Nat.sub_zero]
   by_cases ht : t < vs.length
   ·exact repW_mono _ (g2 t v (hget t v hv ht)) ⟨fun k hk _ => ⟨hsh k hk,rfl⟩,fun _ _ => rfl⟩
   ·have : args.getD t .undef = .undef:=by
     rw [List.getD,List.getElem?_eq_none (by omega)]; rfl
    rw [this]
    simp only [RepW]; exact g3 t (by omega)
  ·intro t ht
   exact g3 t (by simp only [] at ht; rw [hsz] at ht; omega)
  ·intro t v hv
   rw [look_init,if_pos (Nat.zero_le _),Nat.sub_zero]
   refine aliasOk_none ?_
   by_cases ht : t < args.length
   ·have hm : args.getD t .undef ∈ args:=by rw [List.getD,List.getElem?_eq_getElem ht]; exact List.getElem_mem ht
    simpa using (List.all_eq_true.1 hal) _ hm
   ·rw [List.getD,List.getElem?_eq_none (by omega)]; rfl
  ·intro t ht
   have hlt : t < args.length:=by simpa using (List.all_eq_true.1 hks) t ht
   have hlt' : t < vs.length:=by omega
   show (vs.toArray ++ _)[t]? = some (vs.getD t undef)
   rw [Array.getElem?_append_left (by simpa using hlt')]
   simp [List.getD,List.getElem?_eq_getElem hlt']
 refine calls_of_wp hf hb (wp_mono (code_sound (C:=C) callsOk callsLoc c _ _ _ w hok h S0) ?_)
 have main : ∀ a' w' σ',Sim C σ' a' w' → retW rs ks res outs σ' → a'.defers = [] ∧ ∃ v,(results fn a'.tmps).run P w' = .ok v w' ∧ ∃ v_1 Or Oo,Ending.returned v = Ending.returned v_1 ∧ w'.os = w.os ∧ w'.tape = w.tape ∧ w'.output = w.output ∧ w.heap.size ≤ w'.heap.size ∧
   (∀ k,k < w.heap.size → ¬ O k → w'.heap[k]? = w.heap[k]?) ∧
   RepW w'.heap (fun k => ok k ∧ ¬ Or k ∧ ¬ Oo k) res v_1 Or ∧ RepWs w'.heap (fun k => ok k ∧ ¬ Or k ∧ ¬ Oo k) outs (vs.take outs.length) Oo ∧
   (∀ k,Or k → ¬ Oo k) ∧ ∀ k,(Or k ∨ Oo k) → O k ∨ w.heap.size ≤ k:=by
  rintro a' w' σ' ⟨⟨Os1,R⟩,hkk,hn',hdf,hos,htp,hout⟩ ⟨r1,r2,r3⟩
  have hx : ∀ x ∈ rs.map Operand.tmp,opndOk a'.tmps.size x = true:=by
   intro x hm
   obtain ⟨r,hr,rfl⟩:=List.mem_map.1 hm
   have hrn' : r < fn.ntmps:=by simpa using (List.all_eq_true.1 hrn) r hr
   simp only [opndOk,decide_eq_true_eq,hn']
   exact hrn'
  obtain ⟨Os2,R2⟩:=pulls_ok _ R hx
  obtain ⟨Or,q1,q2⟩:=gather R2 _ hx r1
  obtain ⟨Oo,q3,q4⟩:=outs_rep (used:=usedOf (pulls σ' (rs.map Operand.tmp)) (rs.map Operand.tmp)) R2 hkk outs 0 vs r3 (fun j v hv => by
   rw [Nat.zero_add]
   show vs.getD j undef = v
   rw [List.getD,hv]; rfl) (by omega)
  have hdis : ∀ k,Or k → ¬ Oo k:=by
   intro k h1 h2
   obtain ⟨t,ht,hot⟩:=(q2 k).1 h1
   obtain ⟨t',_,ht',hot'⟩:=q4 k h2
   have:=R2.dis _ _ k hot hot'
   subst this; exact ht' ht
  have hag : ∀ Oz,Agree w'.heap w'.heap (Sh ok Os2) (fun k => ok k ∧ ¬ Or k ∧ ¬ Oo k) Oz:=fun Oz => ⟨fun k hk _ => ⟨⟨hk.1,fun h => by obtain ⟨t,_,ht⟩:=(q2 k).1 h; exact hk.2 t ht,fun h => by obtain ⟨t,_,_,ht⟩:=q4 k h; exact hk.2 t ht⟩,rfl⟩,fun _ _ => rfl⟩
  have q1':=repWs_mono _ q1 (hag _)
  have hrun : (fn.results.mapM fun (x : ResultVar) => (match x with
    | .tmp t => pure (a'.tmps.getD t undef)
    | .cell a t => do loadVar t (← asAddr (a'.tmps.getD a undef)) : Sem Value)).run P w' = .ok ((fn.results.map fun x => match x with | .tmp t => a'.tmps.getD t undef | _ => undef)) w':=by
   refine run_mapA _ _ w' _ ?_
   intro x hm
   have : x ∈ rs.map ResultVar.tmp:=by rw [← hrs]; simpa using hm
   obtain ⟨r,_,rfl⟩:=List.mem_map.1 this
   rfl
  have hlist : (fn.results.map fun x => match x with | .tmp t => a'.tmps.getD t undef | _ => undef) = ((rs.map Operand.tmp).map a'.eval).toArray:=by
   apply Array.ext'
   simp only [Array.toList_map,hrs,List.map_map]
   rfl
  rw [hlist] at hrun
  refine ⟨hdf,?_⟩
  have fin : ∀ v,(results fn a'.tmps).run P w' = .ok v w' → RepW w'.heap (fun k => ok k ∧ ¬ Or k ∧ ¬ Oo k) res v Or → ∃ v,(results fn a'.tmps).run P w' = .ok v w' ∧ ∃ v_1 Or Oo,Ending.returned v = Ending.returned v_1 ∧ w'.os = w.os ∧ w'.tape = w.tape ∧ w'.output = w.output ∧ w.heap.size ≤ w'.heap.size ∧
   (∀ k,k < w.heap.size → ¬ O k → w'.heap[k]? = w.heap[k]?) ∧
   RepW w'.heap (fun k => ok k ∧ ¬ Or k ∧ ¬ Oo k) res v_1 Or ∧ RepWs w'.heap (fun k => ok k ∧ ¬ Or k ∧ ¬ Oo k) outs (vs.take outs.length) Oo ∧
   (∀ k,Or k → ¬ Oo k) ∧ ∀ k,(Or k ∨ Oo k) → O k ∨ w.heap.size ≤ k:=fun v hv hr => ⟨v,hv,v,Or,Oo,rfl,hos,htp,hout,R2.size,fun k hk hn => R2.keep k hk hn,hr,repWs_mono _ q3 (hag _),hdis,fun k hk => by
    rcases hk with hk | hk
    ·obtain ⟨t,_,ht⟩:=(q2 k).1 hk; exact R2.own t k ht
    ·obtain ⟨t,_,_,ht⟩:=q4 k hk; exact R2.own t k ht⟩
  have hlen : ((rs.map Operand.tmp).map a'.eval).toArray.size = rs.length:=by simp
  split at r2
  ·rename_i r
   simp only [List.map_cons,List.map_nil,RepWs,ev] at q1'
   obtain ⟨v,vs',O1,O2,e1,e2,e3,e4,e5,e6⟩:=q1'
   simp only [List.cons.injEq] at e1
   obtain ⟨rfl,rfl⟩:=e1
   simp only [List.map_cons,List.map_nil] at r2
   refine fin (a'.eval (.tmp r)) ?_ ?_
   ·unfold results; rw [Sem.run_bind]; erw [hrun]; simp
   ·exact repW_le _ _ r2 (repW_cong _ e4 (fun k => by rw [e2 k]; simp [e6 k]))
  ·rename_i hne
   have hl1 : rs.length ≠ 1:=by
    intro h1
    obtain ⟨r,rfl⟩:=List.length_eq_one_iff.1 h1
    exact hne r rfl
   refine fin (.tuple ((rs.map Operand.tmp).map a'.eval).toArray) ?_ ?_
   ·unfold results; rw [Sem.run_bind]; erw [hrun]; simp [hl1]
   ·refine repW_le _ _ r2 ?_
    simp only [RepW]
    refine ⟨_,rfl,?_⟩
    have hmm : rs.map (look (pulls σ' (rs.map Operand.tmp))) = (rs.map Operand.tmp).map (ev (pulls σ' (rs.map Operand.tmp))):=by rw [List.map_map]; rfl
    rw [hmm]
    simpa only [List.toList_toArray] using q1'
 rintro e a' w' ⟨σ',h',S'⟩
 cases e with
 | normal => exact main a' w' σ' S' h'
 | ret => exact main a' w' σ' S' h'
 | _ => exact h'.elim
end Go.Proofs.YtpffgegfjpdncaaGreatDoor.Am
namespace Go.Proofs.YtpffgegfjpdncaaGreatDoor.Am
open Go.RowKit AV
set_option linter.unusedVariables false
inductive It where
 | code (c : Code)
 | ops (all l : List Oper)
 | drw (all : List Oper) (ds : List Nat) (l : List Oper)
 | blk (id : Nat)
def kQ (P : Program) (cw : CW) (vars : List Nat) (Q : Post) : List It → Post
 | [] => Q
 | .code c :: k => thenQ (fun σ => codeW P cw vars c σ (kQ P cw vars Q k)) (kQ P cw vars Q k)
 | .ops all l :: k => thenQ (fun σ => opsW P (CallX P cw) all l σ (fun σ' => kQ P cw vars Q k .normal (tidy vars σ'))) (kQ P cw vars Q k)
 | .drw all ds l :: k => thenQ (fun σ => dW P cw all ds l σ (fun σ' => kQ P cw vars Q k .normal (tidy vars σ'))) (kQ P cw vars Q k)
 | .blk id :: k => blockQ id (kQ P cw vars Q k)
def Run (P : Program) (cw : CW) (vars : List Nat) (Q : Post) (k : List It) (σ : St) : Prop:=kQ P cw vars Q k .normal σ
def lEnd (P : Program) (cw : CW) (vars : List Nat) (Q : Post) (k : List It) (σ : St) : Prop:=Run P cw vars Q k (tidy vars σ)
def LateR (P : Program) (cw : CW) (vars : List Nat) (Q : Post) (ops : List Oper) (k : List It) (σ : St) : Prop:=LateW P cw ops σ (lEnd P cw vars Q k) ∨ (MixW P cw ops σ (lEnd P cw vars Q k) ∨ (MixB P cw ops σ (lEnd P cw vars Q k) ∨ ∃ L,DrawW P cw ops (frzs σ L) (lEnd P cw vars Q k) ∨ (LateW P cw ops (frzs σ L) (lEnd P cw vars Q k) ∨ (MixW P cw ops (frzs σ L) (lEnd P cw vars Q k) ∨ MixB P cw ops (frzs σ L) (lEnd P cw vars Q k)))))
def mK (P : Program) (cw : CW) (all : List Oper) (dm : Nat) (sq : List Nat) (sl : List Nat) (ds : List Nat) (l : List Oper) (K : St → Prop) (σ : St) : Prop:=dGW P cw all dm sq sl ds l σ K
def dK (P : Program) (cw : CW) (all : List Oper) (ds : List Nat) (l : List Oper) (K : St → Prop) (σ : St) : Prop:=dW P cw all ds l σ K
def lS (P : Program) (all : List Oper) (l : List Nat) (r : List Oper) (ls : List (List Nat)) (K : St → Prop) (σ : St) : Prop:=latesOk P all σ l ∧ lW P all r ls K σ
def condR (P : Program) (cw : CW) (vars : List Nat) (Q : Post) (v : AV) (x y : Code) (k : List It) (σ : St) : Prop :=
 match v with | .bool t => (t = true → Run P cw vars Q (.code x :: k) σ) ∧ (t = false → Run P cw vars Q (.code y :: k) σ) | _ => False
def gslot (σ : St) : Option Oper → AV
 | some og => (match og.dst with | some t => look σ t | none => .tup [])
 | none => .tup []
def guardR (P : Program) (cw : CW) (vars : List Nat) (Q : Post) (v : AV) (want : Bool) (o : Oper) (all l : List Oper) (k : List It) (σ : St) : Prop :=
 match v with
 | .bool b => if b = want then opW P (CallX P cw) σ o (Run P cw vars Q (.ops all l :: k)) else skipW σ o (Run P cw vars Q (.ops all l :: k))
 | .tup [] => skipW σ o (Run P cw vars Q (.ops all l :: k))
 | _ => False
def roundQ {α : Type} (J : α → Prop) (I : α → St) (μ : α → Nat) (g : α) (Q : Post) : Post:=thenQ (fun σ' => ∃ g',J g' ∧ (∃ L,Le (frzs σ' L) (I g')) ∧ μ g' < μ g) Q
section
variable {P : Program} {cw : CW} {vars : List Nat} {Q : Post} (k : List It) (σ : St)
theorem run_of {c : Code} {σ : St} (h : Run P cw vars Q [.code c] σ) : codeW P cw vars c σ Q:=h
theorem run_nil : Run P cw vars Q [] σ = Q .normal σ:=rfl
theorem run_skip : Run P cw vars Q (.code .skip :: k) σ = Run P cw vars Q k σ:=rfl
theorem run_seq (x y : Code) : Run P cw vars Q (.code (.seq x y) :: k) σ = Run P cw vars Q (.code x :: .code y :: k) σ:=rfl
theorem run_region (id : Nat) (ops : List Oper) : Run P cw vars Q (.code (.region id ⟨ops⟩ false) :: k) σ = Run P cw vars Q (.ops ops ops :: k) σ:=rfl
theorem run_draw (id : Nat) (ops : List Oper) : Run P cw vars Q (.code (.region id ⟨ops⟩ true) :: k) σ = ((drawOk P ops = true ∧ Run P cw vars Q (.drw ops (ops.filterMap (·.dst)) ops :: k) σ) ∨ LateR P cw vars Q ops k σ):=rfl
theorem run_late (s0 : Nat) (ls : List (List Nat)) {ops : List Oper} {k : List It} {σ : St} (h1 : lateOk P ops s0 ls = true) (h2 : dK P cw ops ((ops.take s0).filterMap (·.dst)) (ops.take s0) (lW P ops (ops.drop s0) ls (lEnd P cw vars Q k)) σ) : LateR P cw vars Q ops k σ:=.inl ⟨s0,ls,h1,h2⟩
theorem run_mix (dm : Nat) (sq : List Nat) (sl : List Nat) {ops : List Oper} {k : List It} {σ : St} (h1 : mixOk P ops dm sq sl = true) (h2 : mK P cw ops dm sq sl (ops.filterMap (·.dst)) ops (lEnd P cw vars Q k) σ) : LateR P cw vars Q ops k σ:=.inr (.inl ⟨dm,sq,sl,h1,h2⟩)
theorem run_mixl (dm : Nat) (sq : List Nat) (sl : List Nat) (s0 : Nat) (ls : List (List Nat)) {ops : List Oper} {k : List It} {σ : St} (h1 : lateG P ops dm sq sl s0 ls = true) (h2 : mK P cw ops dm sq sl ((ops.take s0).filterMap (·.dst)) (ops.take s0) (lW P ops (ops.drop s0) ls (lEnd P cw vars Q k)) σ) : LateR P cw vars Q ops k σ:=.inr (.inr (.inl (.inl ⟨dm,sq,sl,s0,ls,h1,h2⟩)))
theorem run_bar (b : Nat) (dm : Nat) (sq : List Nat) (sl : List Nat) {ops : List Oper} {k : List It} {σ : St} (h1 : (barOk P ops b && mixOk P (ops.take b) dm sq sl) = true) (h2 : mK P cw (ops.take b) dm sq sl ((ops.take b).filterMap (·.dst)) (ops.take b) (Run P cw vars Q (.ops ops (ops.drop b) :: k)) σ) : LateR P cw vars Q ops k σ:=by
 rw [Bool.and_eq_true] at h1
 exact .inr (.inr (.inl (.inr ⟨b,dm,sq,sl,h1.1,h1.2,h2⟩)))
theorem lEnd_eq : lEnd P cw vars Q k σ = Run P cw vars Q k (tidy vars σ):=rfl
section
variable {K : St → Prop} (all r : List Oper) (ls : List (List Nat)) (d : Tmp) (ty : TypeId) (pos : String) (af : Array Edge) (g : Option (Nat × Bool))
theorem lw_nil : lW P all [] ls (lEnd P cw vars Q k) σ = Run P cw vars Q k (tidy vars σ):=rfl
theorem lw_move (x) : lW P all (⟨some d,.move x,ty,pos,af,none⟩ :: r) ls K σ = mvX (ev σ x) σ x (some d) (lW P all r ls K):=rfl
theorem lw_store (t x v l) : lW P all (⟨none,.store t x v,ty,pos,af,none⟩ :: r) (l :: ls) K σ = storeW P σ t x v (lS P all l r ls K):=rfl
theorem lw_assign (x) : lW P all (⟨some d,.assign x,ty,pos,af,none⟩ :: r) ls K σ = assignW σ x d (lW P all r ls K):=rfl
theorem lw_extract (x i) : lW P all (⟨some d,.extract x i,ty,pos,af,none⟩ :: r) ls K σ = extractW σ x i d (lW P all r ls K):=rfl
theorem lw_append (x y t t' l) : lW P all (⟨some d,.call ⟨.builtin .append,⟨[x,y]⟩,⟨[t,t']⟩⟩,ty,pos,af,none⟩ :: r) (l :: ls) K σ = opW P noC σ ⟨some d,.call ⟨.builtin .append,⟨[x,y]⟩,⟨[t,t']⟩⟩,ty,pos,af,none⟩ (lS P all l r ls K):=rfl
theorem lS_eq (l) : lS P all l r ls K σ = (latesOk P all σ l ∧ lW P all r ls K σ):=rfl
theorem la_nil : latesOk P all σ [] = True:=rfl
end
theorem run_drw (all : List Oper) (ds : List Nat) : Run P cw vars Q (.drw all ds [] :: k) σ = Run P cw vars Q k (tidy vars σ):=rfl
theorem run_ops (all : List Oper) : Run P cw vars Q (.ops all [] :: k) σ = Run P cw vars Q k (tidy vars σ):=rfl
theorem run_cond (c : Operand) (x y : Code) : Run P cw vars Q (.code (.cond c x y) :: k) σ = condR P cw vars Q (ev σ c) x y k σ:=by
 unfold condR
 show codeW P cw vars (.cond c x y) σ _ = _
 simp only [codeW]
 rfl
theorem cond_t (x y : Code) : condR P cw vars Q (.bool true) x y k σ = Run P cw vars Q (.code x :: k) σ:=by simp [condR]
theorem cond_f (x y : Code) : condR P cw vars Q (.bool false) x y k σ = Run P cw vars Q (.code y :: k) σ:=by simp [condR]
theorem run_block (id : Nat) (b : Code) : Run P cw vars Q (.code (.block id b) :: k) σ = Run P cw vars Q (.code b :: .blk id :: k) σ:=rfl
theorem run_blk (id : Nat) : Run P cw vars Q (.blk id :: k) σ = Run P cw vars Q k σ:=rfl
theorem run_exit (id : Nat) : Run P cw vars Q (.code (.exit id) :: k) σ = kQ P cw vars Q k (.exit id) σ:=rfl
theorem kx_nil (e : Exit) : kQ P cw vars Q [] e σ = Q e σ:=rfl
theorem kx_code (id : Nat) (c : Code) : kQ P cw vars Q (.code c :: k) (.exit id) σ = kQ P cw vars Q k (.exit id) σ:=rfl
theorem kx_blk (id id' : Nat) : kQ P cw vars Q (.blk id' :: k) (.exit id) σ = if id = id' then Run P cw vars Q k σ else kQ P cw vars Q k (.exit id) σ:=rfl
theorem run_ret : Run P cw vars Q (.code .ret :: k) σ = kQ P cw vars Q k .ret σ:=rfl
theorem kr_code (c : Code) : kQ P cw vars Q (.code c :: k) .ret σ = kQ P cw vars Q k .ret σ:=rfl
theorem kr_blk (id' : Nat) : kQ P cw vars Q (.blk id' :: k) .ret σ = kQ P cw vars Q k .ret σ:=rfl
theorem run_loop {α : Type} (J : α → Prop) (I : α → St) (μ : α → Nat) (g0 : α) {b : Code} {k : List It} {σ : St} (hJ : J g0) (hI : Le σ (I g0))
  (round : ∀ g,J g → Run P cw vars (roundQ J I μ g (kQ P cw vars Q k)) [.code b] (I g)) : Run P cw vars Q (.code (.loop b) :: k) σ :=
 ⟨α,J,I,μ,⟨g0,hJ,[],hI⟩,round⟩
theorem run_loopF (L : List (Nat × List Nat)) {α : Type} (J : α → Prop) (I : α → St) (μ : α → Nat) (g0 : α) {b : Code} {k : List It} {σ : St} (hJ : J g0) (hI : Le (frzs σ L) (I g0))
  (round : ∀ g,J g → Run P cw vars (roundQ J I μ g (kQ P cw vars Q k)) [.code b] (I g)) : Run P cw vars Q (.code (.loop b) :: k) σ :=
 ⟨α,J,I,μ,⟨g0,hJ,L,hI⟩,round⟩
theorem round_frz (L : List (Nat × List Nat)) {α : Type} {J : α → Prop} {I : α → St} {μ : α → Nat} {g : α} {R : Post} {σ : St} (g' : α) (h1 : J g') (h2 : Le (frzs σ L) (I g')) (h3 : μ g' < μ g) : roundQ J I μ g R .normal σ:=⟨g',h1,⟨L,h2⟩,h3⟩
theorem round_normal {α : Type} {J : α → Prop} {I : α → St} {μ : α → Nat} {g : α} {R : Post} {σ : St} (g' : α) (h1 : J g') (h2 : Le σ (I g')) (h3 : μ g' < μ g) : roundQ J I μ g R .normal σ:=⟨g',h1,⟨[],h2⟩,h3⟩
theorem round_exit {α : Type} (J : α → Prop) (I : α → St) (μ : α → Nat) (g : α) (id : Nat) : roundQ J I μ g (kQ P cw vars Q k) (.exit id) σ = kQ P cw vars Q k (.exit id) σ:=rfl
theorem round_ret {α : Type} (J : α → Prop) (I : α → St) (μ : α → Nat) (g : α) : roundQ J I μ g (kQ P cw vars Q k) .ret σ = kQ P cw vars Q k .ret σ:=rfl
theorem retQ_ret (rs ks : List Nat) (res : AV) (outs : List AV) : retQ rs ks res outs .ret σ = retW rs ks res outs σ:=rfl
end
section
variable {P : Program} {cw : CW} {vars : List Nat} {Q : Post} (all l : List Oper) (k : List It) (σ : St) (dst : Option Tmp) (op : Op) (ty : TypeId) (pos : String) (af : Array Edge)
theorem ops_none : Run P cw vars Q (.ops all (⟨dst,op,ty,pos,af,none⟩ :: l) :: k) σ = opW P (CallX P cw) σ ⟨dst,op,ty,pos,af,none⟩ (Run P cw vars Q (.ops all l :: k)):=rfl
theorem ops_some (i : Nat) (want : Bool) : Run P cw vars Q (.ops all (⟨dst,op,ty,pos,af,some (i,want)⟩ :: l) :: k) σ = guardR P cw vars Q (gslot σ all[i]?) want ⟨dst,op,ty,pos,af,some (i,want)⟩ all l k σ:=by
 have e : ∀ o,Run P cw vars Q (.ops all (o :: l) :: k) σ = condW σ all o (opW P (CallX P cw) σ o (Run P cw vars Q (.ops all l :: k))) (skipW σ o (Run P cw vars Q (.ops all l :: k))):=fun _ => rfl
 rw [e]
 unfold condW
 simp only
 cases all[i]? with
 | none => rfl
 | some og =>
  obtain ⟨d,o1,o2,o3,o4,o5⟩:=og
  cases d with
  | none => rfl
  | some d => rfl
def guardD (P : Program) (cw : CW) (vars : List Nat) (Q : Post) (v : AV) (want : Bool) (o : Oper) (all : List Oper) (ds : List Nat) (l : List Oper) (k : List It) (σ : St) : Prop :=
 match v with
 | .bool b => if b = want then opW P cw σ o (Run P cw vars Q (.drw all ds l :: k)) else skipW σ o (Run P cw vars Q (.drw all ds l :: k))
 | .tup [] => skipW σ o (Run P cw vars Q (.drw all ds l :: k))
 | _ => False
def chk (P : Program) (all : List Oper) (o : Oper) (ss : List Nat) (ds : List Nat) (σ : St) : Prop:=isP P all o = true → ss.all (chkO all o σ ds) = true
theorem drw_none (ds : List Nat) : Run P cw vars Q (.drw all ds (⟨dst,op,ty,pos,af,none⟩ :: l) :: k) σ = (chk P all ⟨dst,op,ty,pos,af,none⟩ (looks all ⟨dst,op,ty,pos,af,none⟩) ds σ ∧ opW P cw σ ⟨dst,op,ty,pos,af,none⟩ (Run P cw vars Q (.drw all ds l :: k))):=rfl
theorem drw_some (ds : List Nat) (i : Nat) (want : Bool) : Run P cw vars Q (.drw all ds (⟨dst,op,ty,pos,af,some (i,want)⟩ :: l) :: k) σ = (chk P all ⟨dst,op,ty,pos,af,some (i,want)⟩ (looks all ⟨dst,op,ty,pos,af,some (i,want)⟩) ds σ ∧ guardD P cw vars Q (gslot σ all[i]?) want ⟨dst,op,ty,pos,af,some (i,want)⟩ all ds l k σ):=by
 have e : ∀ o,Run P cw vars Q (.drw all ds (o :: l) :: k) σ = (chk P all o (looks all o) ds σ ∧ condW σ all o (opW P cw σ o (Run P cw vars Q (.drw all ds l :: k))) (skipW σ o (Run P cw vars Q (.drw all ds l :: k)))):=fun _ => rfl
 rw [e]
 unfold condW
 simp only
 cases all[i]? with
 | none => rfl
 | some og =>
  obtain ⟨d,o1,o2,o3,o4,o5⟩:=og
  cases d with
  | none => rfl
  | some d => rfl
section
variable (K : St → Prop) (ds : List Nat)
def MCutF (P : Program) (ss : List Nat) (t : TypeId) (x y : Operand) (d : Nat) (σ : St) (K : St → Prop) : Prop:=∃ s0,ss = [s0] ∧ MCut P s0 t x y d σ K
theorem mcut_1 (s0 : Nat) (t : TypeId) (x y : Operand) (d : Nat) : MCutF P [s0] t x y d σ K = MCut P s0 t x y d σ K:=by
 apply propext
 constructor
 ·rintro ⟨s,h1,h2⟩; cases h1; exact h2
 ·exact fun h => ⟨s0,rfl,h⟩
theorem mx_nil (dm : Nat) (sl sq ds : List Nat) : mK P cw all dm sq sl ds [] K σ = K σ:=rfl
theorem mx_op {dm : Nat} {sl sq ds : List Nat} {o : Oper} (hm : isM dm o = false) (hg : o.guard = none) : mK P cw all dm sq sl ds (o :: l) K σ = ((inSq sq o = true ∨ chk P all o (looks all o) (sl ++ ds) σ) ∧ opW P cw σ o (mK P cw all dm sq sl ds l K)):=by
 have e : chkG all dm sl o σ ds = chkO all o σ (sl ++ ds):=by funext s; simp [chkG,hm]
 show ((isG P all dm sq o = true → (looks all o).all (chkG all dm sl o σ ds) = true) ∧ gW P cw all dm sl o σ (mK P cw all dm sq sl ds l K)) = _
 rw [e]
 unfold gW isG
 rw [hm,Bool.false_or]
 show (_ ∧ stepW P cw all o σ (mK P cw all dm sq sl ds l K)) = _
 unfold stepW condW
 rw [hg]
 cases inSq sq o with
 | true => simp
 | false => simp [chk]
theorem mx_some {dm : Nat} {sl sq ds : List Nat} {d : Nat} (h : d ≠ dm % 2000000) : mK P cw all dm sq sl ds (⟨some d,op,ty,pos,af,none⟩ :: l) K σ = ((sq.contains d = true ∨ chk P all ⟨some d,op,ty,pos,af,none⟩ (looks all ⟨some d,op,ty,pos,af,none⟩) (sl ++ ds) σ) ∧ opW P cw σ ⟨some d,op,ty,pos,af,none⟩ (mK P cw all dm sq sl ds l K)):=by
 rw [mx_op (σ:=σ) (hm:=by simp [isM,h]) (hg:=rfl)]
 rfl
theorem mx_m {dm : Nat} {sl sq ds : List Nat} {o : Oper} (hm : isM dm o = true) (hg : o.guard = none) : mK P cw all dm sq sl ds (o :: l) K σ = ((looks all o).all (check1 σ ds) = true ∧ mStepW P sl o σ (mK P cw all dm sq sl ds l K)):=by
 have e : chkG all dm sl o σ ds = check1 σ ds:=by funext s; simp [chkG,hm]
 show ((isG P all dm sq o = true → (looks all o).all (chkG all dm sl o σ ds) = true) ∧ gW P cw all dm sl o σ (mK P cw all dm sq sl ds l K)) = _
 rw [e]
 unfold gW isG
 rw [hm,Bool.true_or]
 simp only [true_implies,hg,true_and]
theorem mx_call {dm : Nat} {sl sq ds : List Nat} {d : Nat} (h : d = dm % 2000000) (f : FuncId) (xs : List Operand) (ats : Array TypeId) : mK P cw all dm sq sl ds (⟨some d,.call ⟨.value (.func f),⟨xs⟩,ats⟩,ty,pos,af,none⟩ :: l) K σ = ((looks all ⟨some d,.call ⟨.value (.func f),⟨xs⟩,ats⟩,ty,pos,af,none⟩).all (check1 σ ds) = true ∧ MStepG P sl f xs (some d) σ (mK P cw all dm sq sl ds l K)):=mx_m (σ:=σ) (hm:=by simp [isM,h,isCall]) (hg:=rfl) ..
theorem mx_cut {dm : Nat} {sl sq ds : List Nat} {d : Nat} (h : d = dm % 2000000) (t : TypeId) (x y : Operand) : mK P cw all dm sq sl ds (⟨some d,.slice t x none (some y) none,ty,pos,af,none⟩ :: l) K σ = ((looks all ⟨some d,.slice t x none (some y) none,ty,pos,af,none⟩).all (check1 σ ds) = true ∧ MCutF P sl t x y d σ (mK P cw all dm sq sl ds l K)):=mx_m (σ:=σ) (hm:=by simp [isM,h,isCall]) (hg:=rfl) ..
theorem dk_nil : dK P cw all ds [] K σ = K σ:=rfl
theorem dk_none : dK P cw all ds (⟨dst,op,ty,pos,af,none⟩ :: l) K σ = (chk P all ⟨dst,op,ty,pos,af,none⟩ (looks all ⟨dst,op,ty,pos,af,none⟩) ds σ ∧ opW P cw σ ⟨dst,op,ty,pos,af,none⟩ (dK P cw all ds l K)):=rfl
end
theorem gd_tt (ds) (o : Oper) : guardD P cw vars Q (.bool true) true o all ds l k σ = opW P cw σ o (Run P cw vars Q (.drw all ds l :: k)):=rfl
theorem gd_ff (ds) (o : Oper) : guardD P cw vars Q (.bool false) false o all ds l k σ = opW P cw σ o (Run P cw vars Q (.drw all ds l :: k)):=rfl
theorem gd_tf (ds) (o : Oper) : guardD P cw vars Q (.bool true) false o all ds l k σ = skipW σ o (Run P cw vars Q (.drw all ds l :: k)):=rfl
theorem gd_ft (ds) (o : Oper) : guardD P cw vars Q (.bool false) true o all ds l k σ = skipW σ o (Run P cw vars Q (.drw all ds l :: k)):=rfl
theorem gd_skip (ds) (want : Bool) (o : Oper) : guardD P cw vars Q (.tup []) want o all ds l k σ = skipW σ o (Run P cw vars Q (.drw all ds l :: k)):=rfl
theorem guard_tt (o : Oper) : guardR P cw vars Q (.bool true) true o all l k σ = opW P (CallX P cw) σ o (Run P cw vars Q (.ops all l :: k)):=rfl
theorem guard_ff (o : Oper) : guardR P cw vars Q (.bool false) false o all l k σ = opW P (CallX P cw) σ o (Run P cw vars Q (.ops all l :: k)):=rfl
theorem guard_tf (o : Oper) : guardR P cw vars Q (.bool true) false o all l k σ = skipW σ o (Run P cw vars Q (.ops all l :: k)):=rfl
theorem guard_ft (o : Oper) : guardR P cw vars Q (.bool false) true o all l k σ = skipW σ o (Run P cw vars Q (.ops all l :: k)):=rfl
theorem guard_skip (want : Bool) (o : Oper) : guardR P cw vars Q (.tup []) want o all l k σ = skipW σ o (Run P cw vars Q (.ops all l :: k)):=rfl
theorem gslot_some (t : Tmp) (g : Option (Nat × Bool)) : gslot σ (some ⟨some t,op,ty,pos,af,g⟩) = look σ t:=rfl
end
section
variable {P : Program} {cw : CW} {σ : St} {K : St → Prop} (dst : Option Tmp) (ty : TypeId) (pos : String) (af : Array Edge) (g : Option (Nat × Bool))
theorem op_move (x) : opW P cw σ ⟨dst,.move x,ty,pos,af,g⟩ K = mvX (ev σ x) σ x dst K:=rfl
section
variable (x : Operand)
theorem mv_int (a0 a1) : mvX (.int a0 a1) σ x dst K = moveW σ x (pureK σ dst K):=by cases dst <;> rfl
theorem mv_bool (a0) : mvX (.bool a0) σ x dst K = moveW σ x (pureK σ dst K):=by cases dst <;> rfl
theorem mv_str (a0) : mvX (.str a0) σ x dst K = moveW σ x (pureK σ dst K):=by cases dst <;> rfl
theorem mv_sl (a0 a1 a2) : mvX (.sl a0 a1 a2) σ x dst K = moveW σ x (pureK σ dst K):=by cases dst <;> rfl
theorem mv_mp (a0) : mvX (.mp a0) σ x dst K = moveW σ x (pureK σ dst K):=by cases dst <;> rfl
theorem mv_tup (vs : List AV) (d : Tmp) : mvX (.tup vs) σ x (some d) K = (if plainL vs = true then moveW σ x (pureK σ (some d) K) else assignW σ x d K):=rfl
end
theorem op_assign (x d) : opW P cw σ ⟨some d,.assign x,ty,pos,af,g⟩ K = assignW σ x d K:=rfl
theorem op_pick (c x y) : opW P cw σ ⟨dst,.pick c x y,ty,pos,af,g⟩ K = pickW σ c x y (pureK σ dst K):=rfl
theorem op_alloc (t d) : opW P cw σ ⟨some d,.alloc t,ty,pos,af,g⟩ K = allocW P σ t d K:=rfl
theorem op_box (t x d) : opW P cw σ ⟨some d,.box t x,ty,pos,af,g⟩ K = boxW σ x d K:=rfl
theorem op_build (t ps d) : opW P cw σ ⟨some d,.build t ⟨ps⟩,ty,pos,af,g⟩ K = buildW P σ t ps d K:=rfl
theorem op_buildSlice (t n ps d) : opW P cw σ ⟨some d,.buildSlice t n ⟨ps⟩,ty,pos,af,g⟩ K = buildSliceW P σ t n ps d K:=rfl
theorem op_load (t x) : opW P cw σ ⟨dst,.load t x,ty,pos,af,g⟩ K = loadW P σ t x (pureK σ dst K):=rfl
theorem op_store (t x v) : opW P cw σ ⟨none,.store t x v,ty,pos,af,g⟩ K = storeW P σ t x v K:=rfl
theorem op_binOp (op t x y yt) : opW P cw σ ⟨dst,.binOp op t x y yt,ty,pos,af,g⟩ K = needW (binA P op t (ev σ x) (ev σ y)) (pureK σ dst K):=rfl
theorem op_unOp (op t x) : opW P cw σ ⟨dst,.unOp op t x,ty,pos,af,g⟩ K = needW (unA op (ev σ x)) (pureK σ dst K):=rfl
theorem op_convert (s t x) : opW P cw σ ⟨dst,.convert s t x,ty,pos,af,g⟩ K = convertW P σ s t x dst K:=rfl
theorem op_makeSlice (t l c d) : opW P cw σ ⟨some d,.makeSlice t l c,ty,pos,af,g⟩ K = makeW P σ t l c d K:=rfl
theorem op_slice (t x lo hi) : opW P cw σ ⟨dst,.slice t x lo hi none,ty,pos,af,g⟩ K = sliceStrW P σ t x lo hi (pureK σ dst K):=rfl
theorem op_fieldAddr (t x f) : opW P cw σ ⟨dst,.fieldAddr t x f,ty,pos,af,g⟩ K = fieldAddrW P σ t x f (pureK σ dst K):=rfl
theorem op_indexAddr (t x i) : opW P cw σ ⟨dst,.indexAddr t x i,ty,pos,af,g⟩ K = indexAddrW P σ t x i (pureK σ dst K):=rfl
theorem op_index (t x i) : opW P cw σ ⟨dst,.index t x i,ty,pos,af,g⟩ K = indexW P σ t x i (pureK σ dst K):=rfl
theorem op_extract (x i d) : opW P cw σ ⟨some d,.extract x i,ty,pos,af,g⟩ K = extractW σ x i d K:=rfl
theorem op_makeMap (t d) : opW P cw σ ⟨some d,.makeMap t none,ty,pos,af,g⟩ K = makeMapW σ d K:=rfl
theorem op_lookup (t m k b) : opW P cw σ ⟨dst,.lookup t m k b,ty,pos,af,g⟩ K = lookupW P σ t m k b (pureK σ dst K):=rfl
theorem op_mapUpdate (t m k v) : opW P cw σ ⟨none,.mapUpdate t m k v,ty,pos,af,g⟩ K = mapUpdateW P σ t m k v K:=rfl
theorem op_insert (t m k v) : opW P cw σ ⟨none,.insert t m k v,ty,pos,af,g⟩ K = mapUpdateW P σ t m k v K:=rfl
theorem op_len (x t) : opW P cw σ ⟨dst,.call ⟨.builtin .len,⟨[x]⟩,⟨[t]⟩⟩,ty,pos,af,g⟩ K = lenW σ P t x (pureK σ dst K):=rfl
def mnI (a b : Int) : Int:=if b < a then b else a
def appW (P : Program) (σ : St) (t t' : TypeId) (x y : Operand) (d : Tmp) (K : St → Prop) : Prop := t = t' ∧ (match srcOf (pull σ x) y with
   | .slo _ _ _ ys => if plainL ys then appendW P σ t x y d K else appendMW P σ t x y d K
   | _ => appendW P σ t x y d K)
theorem op_append (x y t t' d) : opW P cw σ ⟨some d,.call ⟨.builtin .append,⟨[x,y]⟩,⟨[t,t']⟩⟩,ty,pos,af,g⟩ K = appW P σ t t' x y d K:=rfl
theorem op_call (f xs ats) : opW P (CallW P) σ ⟨dst,.call ⟨.value (.func f),⟨xs⟩,ats⟩,ty,pos,af,g⟩ K = CallL P f xs dst σ K:=by
 show (match (Callee.value (.func f)),xs,ats.toList,dst with
  | .builtin .len,[x],[t],dst => lenW σ P t x (pureK σ dst K)
  | .builtin .min,[x,y],[_,_],dst => needW (minA (ev σ x) (ev σ y)) (pureK σ dst K)
  | .builtin .append,[x,y],[t,t'],some d => t = t' ∧ (match srcOf (pull σ x) y with
   | .slo _ _ _ ys => if plainL ys then appendW P σ t x y d K else appendMW P σ t x y d K
   | _ => appendW P σ t x y d K)
  | _,_,_,dst => CallW P ⟨.value (.func f),⟨xs⟩,ats⟩ dst σ K) = _
 rfl
def CallB (P : Program) (f : FuncId) (xs : List Operand) (dst : Option Tmp) (σ : St) (K : St → Prop) : Prop:=(∃ L,CallL P f xs dst (frzs σ L) K ∨ CallM P f xs dst (frzs σ L) K) ∨ (CallVW P f xs dst σ K ∨ CallMk P f xs dst σ K)
theorem op_callX (f xs ats) : opW P (CallX P (CallW P)) σ ⟨dst,.call ⟨.value (.func f),⟨xs⟩,ats⟩,ty,pos,af,g⟩ K = CallB P f xs dst σ K:=by
 have h : opW P (CallX P (CallW P)) σ ⟨dst,.call ⟨.value (.func f),⟨xs⟩,ats⟩,ty,pos,af,g⟩ K = CallX P (CallW P) ⟨.value (.func f),⟨xs⟩,ats⟩ dst σ K:=by
  show (match (Callee.value (.func f)),xs,ats.toList,dst with
   | .builtin .len,[x],[t],dst => lenW σ P t x (pureK σ dst K)
   | .builtin .min,[x,y],[_,_],dst => needW (minA (ev σ x) (ev σ y)) (pureK σ dst K)
   | .builtin .append,[x,y],[t,t'],some d => t = t' ∧ (match srcOf (pull σ x) y with
    | .slo _ _ _ ys => if plainL ys then appendW P σ t x y d K else appendMW P σ t x y d K
    | _ => appendW P σ t x y d K)
   | _,_,_,dst => CallX P (CallW P) ⟨.value (.func f),⟨xs⟩,ats⟩ dst σ K) = _
  rfl
 rw [h]
 apply propext
 unfold CallX CallB
 constructor
 ·rintro (⟨L,h⟩ | ⟨f',e,L,h⟩ | ⟨x,y,t,t',e,_⟩ | ⟨f',e,h⟩)
  ·exact .inl ⟨L,.inl h⟩
  ·simp only [Callee.value.injEq,Operand.func.injEq] at e; subst e; exact .inl ⟨L,.inr h⟩
  ·simp at e
  ·simp only [Callee.value.injEq,Operand.func.injEq] at e; subst e; exact .inr h
 ·rintro (⟨L,h | h⟩ | h)
  ·exact .inl ⟨L,h⟩
  ·exact .inr (.inl ⟨f,rfl,L,h⟩)
  ·exact .inr (.inr (.inr ⟨f,rfl,h⟩))
theorem op_copyX (x y t t') : opW P (CallX P (CallW P)) σ ⟨dst,.call ⟨.builtin .copy,⟨[x,y]⟩,⟨[t,t']⟩⟩,ty,pos,af,g⟩ K = copyW P σ t x y dst K:=by
 have h : opW P (CallX P (CallW P)) σ ⟨dst,.call ⟨.builtin .copy,⟨[x,y]⟩,⟨[t,t']⟩⟩,ty,pos,af,g⟩ K = CallX P (CallW P) ⟨.builtin .copy,⟨[x,y]⟩,⟨[t,t']⟩⟩ dst σ K:=rfl
 rw [h]
 apply propext
 unfold CallX CallW
 constructor
 ·rintro (⟨L,h⟩ | ⟨f',e,L,h⟩ | ⟨x',y',t1,t1',e,h⟩ | ⟨f',e,h⟩)
  ·exact h.elim
  ·simp at e
  ·simp only [Call.mk.injEq,true_and] at e
   obtain ⟨e1,e2⟩:=e
   injection e1 with e1
   injection e2 with e2
   simp only [List.cons.injEq,and_true] at e1 e2
   obtain ⟨rfl,rfl⟩:=e1
   obtain ⟨rfl,rfl⟩:=e2
   exact h
  ·simp at e
 ·intro h
  exact .inr (.inr (.inl ⟨x,y,t,t',rfl,h⟩))
theorem newsOf_some (d : Nat) (res : AV) (s : Nat) (z : AV) : newsOf (some d) res s z = [(d,res),(s,z)]:=rfl
theorem skip_some (op : Op) (d : Tmp) : skipW σ ⟨some d,op,ty,pos,af,g⟩ K = K (put σ d (.tup []) []):=rfl
def argsOk (a : Option (List AV)) (args : List AV) : Prop:=match a with | some a0 => leL a0 args | none => False
theorem argsOk_iff {a : Option (List AV)} {args : List AV} : argsOk a args ↔ ∃ a0,a = some a0 ∧ leL a0 args:=by
 cases a with
 | none => simp [argsOk]
 | some a0 => simp [argsOk]
theorem argsOk_some (a0 args : List AV) : argsOk (some a0) args = leL a0 args:=rfl
theorem call_of {f : FuncId} {xs : List Operand} {d : Tmp} {σ : St} {args : List AV} {res : AV} {outs : List AV} (F : Fits P f args res outs) (h1 : argsOk (argsOf σ xs) args) (h2 : closed res = true ∨ valOnly σ xs = true) (h3 : res.target = none) (h4 : K (put σ d res [])) : CallL P f xs (some d) σ K:=by
 obtain ⟨a0,h1,h1'⟩:=argsOk_iff.1 h1
 exact ⟨a0,args,res,outs,F,h1,h1',h2,h3,h4⟩
theorem callb_of {f : FuncId} {xs : List Operand} {d : Tmp} {σ : St} {args : List AV} {res : AV} {outs : List AV} (F : Fits P f args res outs) (h1 : argsOk (argsOf σ xs) args) (h2 : closed res = true ∨ valOnly σ xs = true) (h3 : res.target = none) (h4 : K (put σ d res [])) : CallB P f xs (some d) σ K:=by
 obtain ⟨a0,h1,h1'⟩:=argsOk_iff.1 h1
 exact .inl ⟨[],.inl ⟨a0,args,res,outs,F,h1,h1',h2,h3,h4⟩⟩
theorem callf_of (L : List (Nat × List Nat)) {f : FuncId} {xs : List Operand} {d : Tmp} {σ : St} {args : List AV} {res : AV} {outs : List AV} (F : Fits P f args res outs) (h1 : argsOk (argsOf (frzs σ L) xs) args) (h2 : closed res = true ∨ valOnly (frzs σ L) xs = true) (h3 : res.target = none) (h4 : K (put (frzs σ L) d res [])) : CallB P f xs (some d) σ K:=by
 obtain ⟨a0,h1,h1'⟩:=argsOk_iff.1 h1
 exact .inl ⟨L,.inl ⟨a0,args,res,outs,F,h1,h1',h2,h3,h4⟩⟩
def vOk (σ : St) (xs : List Operand) (d : Tmp) (args : List AV) (res : AV) (K : St → Prop) : Prop:=(usedOf (pulls σ xs) xs).Nodup ∧ leL (xs.map (ev (pulls σ xs))) args ∧ res.target = none ∧ K (put (pulls σ xs) d res (usedOf (pulls σ xs) xs))
theorem callV {f : FuncId} {xs : List Operand} {d : Tmp} {σ : St} {args : List AV} {res : AV} (F : Fits P f args res []) (h : vOk σ xs d args res K) : CallB P f xs (some d) σ K :=
 .inr (.inl ⟨args,res,d,rfl,F,h.1,h.2.1,h.2.2.1,h.2.2.2⟩)
theorem callmf_of (L : List (Nat × List Nat)) (i : Nat) {f : FuncId} {xs : List Operand} {dst : Option Tmp} {σ : St} {x : Operand} {s : Nat} {p : List Nat} {y y' : AV} {args : List AV} {res : AV} {outs : List AV} (F : Fits P f args res outs) (h1 : xs[i]? = some x) (h2 : homeOf (frzs σ L) x = some (s,p,y)) (h3 : argsOk (argsM (frzs σ L) s i y 0 xs) args) (h4 : outs[i]? = some y')
  (h5 : y'.isAgg = y.isAgg ∧ ncells y' = ncells y ∧ y'.target = none ∧ ∀ l,y' ≠ .tup l) (h6 : (closed res = true ∧ closed y' = true) ∨ othersVal (frzs σ L) i 0 xs = true) (h7 : res.target = none) (h8 : dst ≠ some s) (h9 : K (upd (frzs σ L) (newsOf dst res s (setAt (look (frzs σ L) s) p y')))) : CallB P f xs dst σ K:=by
 obtain ⟨a0,h3,h3'⟩:=argsOk_iff.1 h3
 exact .inl ⟨L,.inr ⟨i,x,s,p,y,y',a0,args,res,outs,F,h1,h2,h3,h3',h4,h5,h6,h7,h8,h9⟩⟩
end
section
variable (P : Program) (dst : Option Tmp) (ty : TypeId) (pos : String) (af : Array Edge) (g : Option (Nat × Bool)) (ss ds : List Nat) (σ : St)
def chkA (b : Bool) (ss ds : List Nat) (σ : St) : Prop:=b = true → ss.all (check0 σ ds) = true
theorem chkA_t (ss ds : List Nat) (σ : St) : chkA true ss ds σ = (ss.all (check0 σ ds) = true):=by simp [chkA]
theorem chkA_f (ss ds : List Nat) (σ : St) : chkA false ss ds σ = True:=by simp [chkA]
def dq : Option Tmp → Nat → Bool
 | some d,t => d == t
 | none,_ => false
def madeL : List Oper → Nat → Bool
 | [],_ => false
 | ⟨d,op,_,_,_,_⟩ :: r,t => (dq d t && isMk op) || madeL r t
theorem madeIn_tmp (all : List Oper) (t : Nat) : madeIn all (.tmp t) = madeL all t:=by
 unfold madeIn
 induction all with
 | nil => rfl
 | cons o r ih =>
  obtain ⟨d,op,a,b,c,e⟩:=o
  simp only [List.any_cons,madeL]
  rw [← ih]
  congr 2
  cases d with
  | none => rfl
  | some d => simp [dq]
variable {all : List Oper}
theorem chk_move (x : Operand) : chk P all ⟨dst,.move x,ty,pos,af,g⟩ ss ds σ = (ss.all (check1 σ ds) = true):=by simp [chk,isP,chkO,isB]
theorem chk_pick (c x y : Operand) : chk P all ⟨dst,.pick c x y,ty,pos,af,g⟩ ss ds σ = (ss.all (check1 σ ds) = true):=by simp [chk,isP,chkO,isB]
theorem chk_load (t : TypeId) (x : Operand) : chk P all ⟨dst,.load t x,ty,pos,af,g⟩ ss ds σ = (ss.all (check1 σ ds) = true):=by simp [chk,isP,chkO,isB]
theorem chk_binOp (op : BinOp) (t : TypeId) (x y : Operand) (yt : TypeId) : chk P all ⟨dst,.binOp op t x y yt,ty,pos,af,g⟩ ss ds σ = (ss.all (check1 σ ds) = true):=by simp [chk,isP,chkO,isB]
theorem chk_unOp (op : UnOp) (t : TypeId) (x : Operand) : chk P all ⟨dst,.unOp op t x,ty,pos,af,g⟩ ss ds σ = (ss.all (check1 σ ds) = true):=by simp [chk,isP,chkO,isB]
theorem chk_fieldAddr (t : TypeId) (x : Operand) (f : Nat) : chk P all ⟨dst,.fieldAddr t x f,ty,pos,af,g⟩ ss ds σ = (ss.all (check1 σ ds) = true):=by simp [chk,isP,chkO,isB]
theorem chk_indexAddr (t : TypeId) (x i : Operand) : chk P all ⟨dst,.indexAddr t x i,ty,pos,af,g⟩ ss ds σ = (ss.all (check1 σ ds) = true):=by simp [chk,isP,chkO,isB]
theorem chk_slice (t : TypeId) (x : Operand) (lo hi : Option Operand) : chk P all ⟨dst,.slice t x lo hi none,ty,pos,af,g⟩ ss ds σ = (ss.all (check1 σ ds) = true):=by simp [chk,isP,chkO,isB]
def kk (a b : Nat) : Bool:=match a,b with | 1,4 => true | 5,5 => true | _,_ => false
def chkA1 (b : Bool) (ss ds : List Nat) (σ : St) : Prop:=b = true → ss.all (check1 σ ds) = true
theorem chkA1_t (ss ds : List Nat) (σ : St) : chkA1 true ss ds σ = (ss.all (check1 σ ds) = true):=by simp [chkA1]
theorem kk_14 : kk 1 4 = true:=rfl
theorem kk_55 : kk 5 5 = true:=rfl
theorem chk_convert (s t : TypeId) (x : Operand) : chk P all ⟨dst,.convert s t x,ty,pos,af,g⟩ ss ds σ = chkA1 (kk (tinfo P s).kind (tinfo P t).kind) ss ds σ:=by
 unfold chk chkA1
 have h : isP P all ⟨dst,.convert s t x,ty,pos,af,g⟩ = kk (tinfo P s).kind (tinfo P t).kind:=rfl
 rw [h,chkO_n rfl]
theorem chk_len (x : Operand) (t : TypeId) : chk P all ⟨dst,.call ⟨.builtin .len,⟨[x]⟩,⟨[t]⟩⟩,ty,pos,af,g⟩ ss ds σ = (ss.all (check1 σ ds) = true):=by simp [chk,isP,chkO,isB]
theorem chk_fn (f : FuncId) (xs : List Operand) (ats : Array TypeId) : chk P all ⟨dst,.call ⟨.value (.func f),⟨xs⟩,ats⟩,ty,pos,af,g⟩ ss ds σ = (ss.all (check1 σ ds) = true):=by simp [chk,isP,chkO,isB]
theorem chk_alloc (t : TypeId) : chk P all ⟨dst,.alloc t,ty,pos,af,g⟩ ss ds σ = (ss.all (check1 σ ds) = true):=by simp [chk,isP,chkO,isB]
theorem chk_assign (x : Operand) : chk P all ⟨dst,.assign x,ty,pos,af,g⟩ ss ds σ = True:=by simp [chk,isP,chkO,isB]
theorem chk_build (t : TypeId) (ps : Array (Nat × Operand)) : chk P all ⟨dst,.build t ps,ty,pos,af,g⟩ ss ds σ = (ss.all (check0 σ ds) = true):=by simp [chk,isP,chkO,isB]
theorem chk_buildSlice (t : TypeId) (n : Nat) (ps : Array (Nat × Operand)) : chk P all ⟨dst,.buildSlice t n ps,ty,pos,af,g⟩ ss ds σ = (ss.all (check0 σ ds) = true):=by simp [chk,isP,chkO,isB]
theorem chk_store (t : TypeId) (x v : Operand) : chk P all ⟨dst,.store t x v,ty,pos,af,g⟩ ss ds σ = True:=by simp [chk,isP,chkO,isB]
theorem chk_append (x y : Operand) (d : Tmp) (t t' : TypeId) : chk P all ⟨some d,.call ⟨.builtin .append,⟨[x,y]⟩,⟨[t,t']⟩⟩,ty,pos,af,g⟩ ss ds σ = chkA (madeIn all x) ss ds σ:=by
 cases h : madeIn all x <;> simp [chk,isP,chkO,isB,h,chkA]
def gtmp : Option Oper → List Nat
 | some ⟨some t,_,_,_,_,_⟩ => [t]
 | _ => []
theorem looks_none (all : List Oper) (op : Op) : looks all ⟨dst,op,ty,pos,af,none⟩ = tmpsOf op.operands.toList:=by
 unfold looks
 simp
theorem looks_some (all : List Oper) (op : Op) (i : Nat) (want : Bool) : looks all ⟨dst,op,ty,pos,af,some (i,want)⟩ = tmpsOf op.operands.toList ++ gtmp all[i]?:=by
 unfold looks
 simp only
 congr 1
 cases all[i]? with
 | none => rfl
 | some og =>
  obtain ⟨d,o1,o2,o3,o4,o5⟩:=og
  cases d <;> rfl
theorem gtmp_some (t : Tmp) (op : Op) : gtmp (some ⟨some t,op,ty,pos,af,g⟩) = [t]:=rfl
def chkT : AV → Bool
 | .undef => false
 | y => y.target.isNone
def chkV (σ : St) (ds : List Nat) (x : AV) : Bool:=live x && (match x.target with | none => true | some t => !ds.contains t && chkT (look σ t))
theorem check1_eq (s : Nat) : check1 σ ds s = chkV σ ds (look σ s):=by
 have h : ∀ y : AV,(match y with | .undef => false | y => y.target.isNone) = chkT y:=by intro y; cases y <;> rfl
 unfold check1 chkV
 cases (look σ s).target with
 | none => rfl
 | some t =>
  simp only
  congr 1
def chk0 (x : AV) : Bool:=live x && x.target.isNone
theorem check0_eq (s : Nat) : check0 σ ds s = (ds.contains s && chk0 (look σ s)):=by
 unfold check0 chk0
 rfl
theorem c0_int (k n) : chk0 (.int k n) = true:=rfl
theorem c0_str (s) : chk0 (.str s) = true:=rfl
theorem c0_sl (o z xs) : chk0 (.sl o z xs) = true:=rfl
theorem c0_agg (fs) : chk0 (.agg fs) = true:=rfl
theorem ck_int (k n) : chkV σ ds (.int k n) = true:=rfl
theorem ck_bool (b) : chkV σ ds (.bool b) = true:=rfl
theorem ck_str (s) : chkV σ ds (.str s) = true:=rfl
theorem ck_sl (o z xs) : chkV σ ds (.sl o z xs) = true:=rfl
theorem ck_agg (fs) : chkV σ ds (.agg fs) = true:=rfl
theorem ck_tup (vs) : chkV σ ds (.tup vs) = plainL vs:=by simp [chkV,live,AV.target]
theorem ck_box (x) : chkV σ ds (.box x) = true:=rfl
theorem ck_dptr (x) : chkV σ ds (.dptr x) = true:=rfl
theorem ck_vref (s p) : chkV σ ds (.vref s p) = (!ds.contains s && chkT (look σ s)):=rfl
theorem ck_vagg (s p) : chkV σ ds (.vagg s p) = (!ds.contains s && chkT (look σ s)):=rfl
theorem ck_ptr (s p) : chkV σ ds (.ptr s p) = (!ds.contains s && chkT (look σ s)):=rfl
theorem ct_sl (o z xs) : chkT (.sl o z xs) = true:=rfl
theorem ct_box (x) : chkT (.box x) = true:=rfl
end
theorem look_put (σ : St) (d : Nat) (y : AV) (used : List Nat) (k : Nat) : look (put σ d y used) k = if k = d then y else if k ∈ used then .undef else purgeV (d :: used) (look σ k):=by
 unfold put
 rw [look_upd]
 simp only [keys,keys_wipe,List.mem_cons,look,look_wipe]
 by_cases h : k = d
 ·subst h; simp
 ·simp [h,Ne.symm h]
theorem needW_some (y : AV) (K : AV → Prop) : needW (some y) K = K y:=rfl
theorem szOf_ti (P : Program) (t : TypeId) : szOf P t = (tinfo P t).size:=(tinfo_base t).1.symm
theorem pureK_some (σ : St) (d : Nat) (K : St → Prop) (y : AV) : pureK σ (some d) K y = (y.target ≠ some d ∧ K (put σ d y [])):=rfl
section
variable (s : Nat) (p : List Nat)
theorem kP_undef : keepP s p .undef = .undef:=rfl
theorem kP_int (k n) : keepP s p (.int k n) = .int k n:=rfl
theorem kP_bool (b) : keepP s p (.bool b) = .bool b:=rfl
theorem kP_str (x) : keepP s p (.str x) = .str x:=rfl
theorem kP_sl (o z xs) : keepP s p (.sl o z xs) = .sl o z xs:=rfl
theorem kP_agg (fs) : keepP s p (.agg fs) = .agg fs:=rfl
theorem kP_arr (z xs) : keepP s p (.arr z xs) = .arr z xs:=rfl
theorem kP_box (x) : keepP s p (.box x) = .box x:=rfl
theorem kP_mp (x) : keepP s p (.mp x) = .mp x:=rfl
theorem kP_vref (t q) : keepP s p (.vref t q) = if t = s ∧ preB p q = true then .undef else .vref t q:=rfl
theorem preB_cn (i : Nat) (p : List Nat) : preB (i :: p) [] = false:=rfl
end
section
variable (ms : List Nat)
theorem pu_undef : purgeV ms .undef = .undef:=rfl
theorem pu_int (k n) : purgeV ms (.int k n) = .int k n:=rfl
theorem pu_bool (b) : purgeV ms (.bool b) = .bool b:=rfl
theorem pu_str (s) : purgeV ms (.str s) = .str s:=rfl
theorem pu_sl (o z xs) : purgeV ms (.sl o z xs) = .sl o z xs:=rfl
theorem pu_agg (fs) : purgeV ms (.agg fs) = .agg fs:=rfl
theorem pu_arr (z xs) : purgeV ms (.arr z xs) = .arr z xs:=rfl
theorem pu_tup (vs) : purgeV ms (.tup vs) = .tup vs:=rfl
theorem pu_box (x) : purgeV ms (.box x) = .box x:=rfl
theorem pu_mp (x) : purgeV ms (.mp x) = .mp x:=rfl
theorem pu_vref (s p) : purgeV ms (.vref s p) = if s ∈ ms then .undef else .vref s p:=rfl
theorem pu_vagg (s p) : purgeV ms (.vagg s p) = if s ∈ ms then .undef else .vagg s p:=rfl
theorem pu_vsub (s p l h) : purgeV ms (.vsub s p l h) = if s ∈ ms then .undef else .vsub s p l h:=rfl
theorem kp_undef : keepV ms .undef = .undef:=rfl
theorem kp_int (k n) : keepV ms (.int k n) = .int k n:=rfl
theorem kp_bool (b) : keepV ms (.bool b) = .bool b:=rfl
theorem kp_str (s) : keepV ms (.str s) = .str s:=rfl
theorem kp_sl (o z xs) : keepV ms (.sl o z xs) = .sl o z xs:=rfl
theorem kp_agg (fs) : keepV ms (.agg fs) = .agg fs:=rfl
theorem kp_arr (z xs) : keepV ms (.arr z xs) = .arr z xs:=rfl
theorem kp_box (x) : keepV ms (.box x) = .box x:=rfl
theorem kp_mp (x) : keepV ms (.mp x) = .mp x:=rfl
theorem kp_vref (s p) : keepV ms (.vref s p) = if ms.contains s then .vref s p else .undef:=rfl
end
end Go.Proofs.YtpffgegfjpdncaaGreatDoor.Am
namespace Go.Proofs.YtpffgegfjpdncaaGreatDoor.Am
open Go.RowKit AV
set_option linter.unusedVariables false
def endQ (Q : St → Prop) : Post
 | .ret,σ | .normal,σ => Q σ
 | _,_ => False
theorem endQ_ret (Q : St → Prop) (σ : St) : endQ Q .ret σ = Q σ:=rfl
theorem fits_gen {P : Program} {f : FuncId} {fn : Func} {c : Code} {args : List AV} {res : AV} {outs : List AV} (Qe : St → Prop) (ks vars : List Nat) (hf : P.funcs[f]? = some fn) (hb : fn.body = some c) (hname : (fn.name == "runtime.NumGoroutine") = false)
  (hn : args.length ≤ fn.ntmps) (hok : codeOk fn.ntmps ks c = true) (hks : ks.all (· < args.length) = true) (ho : outs.length ≤ args.length) (hal : args.all (fun x => x.target.isNone) = true)
  (h : codeW P (CallW P) vars c (initGo 0 args) (endQ Qe))
  (main : ∀ (C : Ctx P) (a' : Act) (w' : World) (σ' : St) (vs : List Value),C.n = fn.ntmps → C.ks = ks → (∀ j v,vs[j]? = some v → C.kv j = v) → outs.length ≤ vs.length → Sim C σ' a' w' → Qe σ' →
   ∃ v Or Oo,(results fn a'.tmps).run P w' = .ok v w' ∧ RepW w'.heap (fun k => C.ok k ∧ ¬ Or k ∧ ¬ Oo k) res v Or ∧ RepWs w'.heap (fun k => C.ok k ∧ ¬ Or k ∧ ¬ Oo k) outs (vs.take outs.length) Oo ∧
    (∀ k,Or k → ¬ Oo k) ∧ ∀ k,(Or k ∨ Oo k) → C.O0 k ∨ C.h0.size ≤ k) : Fits P f args res outs:=by
 refine ⟨⟨fn,hf,by simp [hb],hname⟩,?_⟩
 intro w vs ok O hall hrep hlay
 obtain ⟨Os,g1,g2,g3,g4,g5⟩:=args_split _ hrep
 let C : Ctx P:={ h0:=w.heap,ok,O0:=O,os:=w.os,tape:=w.tape,out:=w.output,n:=fn.ntmps,ks,kv:=fun i => vs.getD i undef,all:=hall,lay:=hlay }
 have hsz : (vs.toArray ++ Array.replicate (fn.ntmps - vs.toArray.size) undef).size = fn.ntmps:=by simp; omega
 have hget : ∀ t v,(vs.toArray ++ Array.replicate (fn.ntmps - vs.toArray.size) undef)[t]? = some v → t < vs.length → vs[t]? = some v:=by
  intro t v hv ht
  rw [Array.getElem?_append_left (by simpa using ht)] at hv
  simpa using hv
 have hsh : ∀ k,(ok k ∧ ¬ O k) → Sh ok Os k:=fun k hk => ⟨hk.1,fun t ht => hk.2 ((g5 k).2 ⟨t,ht⟩)⟩
 have S0 : Sim C (initGo 0 args) { tmps:=vs.toArray ++ Array.replicate (fn.ntmps - vs.toArray.size) undef,defers:=[] } w:=by
  refine ⟨⟨Os,?_,?_,g4,fun t k hk => .inl ((g5 k).2 ⟨t,hk⟩),?_,Nat.le_refl _,fun _ _ _ => rfl⟩,?_,hsz,rfl,rfl,rfl,rfl⟩
  ·intro t v hv
   rw [look_init,if_pos (Nat.zero_le _),Nat.sub_zero]
   by_cases ht : t < vs.length
   ·exact repW_mono _ (g2 t v (hget t v hv ht)) ⟨fun k hk _ => ⟨hsh k hk,rfl⟩,fun _ _ => rfl⟩
   ·have : args.getD t .undef = .undef:=by
     rw [List.getD,List.getElem?_eq_none (by omega)]; rfl
    rw [this]
    simp only [RepW]; exact g3 t (by omega)
  ·intro t ht
   exact g3 t (by simp only [] at ht; rw [hsz] at ht; omega)
  ·intro t v hv
   rw [look_init,if_pos (Nat.zero_le _),Nat.sub_zero]
   refine aliasOk_none ?_
   by_cases ht : t < args.length
   ·have hm : args.getD t .undef ∈ args:=by rw [List.getD,List.getElem?_eq_getElem ht]; exact List.getElem_mem ht
    simpa using (List.all_eq_true.1 hal) _ hm
   ·rw [List.getD,List.getElem?_eq_none (by omega)]; rfl
  ·intro t ht
   have hlt : t < args.length:=by simpa using (List.all_eq_true.1 hks) t ht
   have hlt' : t < vs.length:=by omega
   show (vs.toArray ++ _)[t]? = some (vs.getD t undef)
   rw [Array.getElem?_append_left (by simpa using hlt')]
   simp [List.getD,List.getElem?_eq_getElem hlt']
 refine calls_of_wp hf hb (wp_mono (code_sound (C:=C) callsOk callsLoc c _ _ _ w hok h S0) ?_)
 have fin : ∀ a' w' σ',Sim C σ' a' w' → Qe σ' → a'.defers = [] ∧ ∃ v,(results fn a'.tmps).run P w' = .ok v w' ∧ ∃ v_1 Or Oo,Ending.returned v = Ending.returned v_1 ∧ w'.os = w.os ∧ w'.tape = w.tape ∧ w'.output = w.output ∧ w.heap.size ≤ w'.heap.size ∧
   (∀ k,k < w.heap.size → ¬ O k → w'.heap[k]? = w.heap[k]?) ∧
   RepW w'.heap (fun k => ok k ∧ ¬ Or k ∧ ¬ Oo k) res v_1 Or ∧ RepWs w'.heap (fun k => ok k ∧ ¬ Or k ∧ ¬ Oo k) outs (vs.take outs.length) Oo ∧
   (∀ k,Or k → ¬ Oo k) ∧ ∀ k,(Or k ∨ Oo k) → O k ∨ w.heap.size ≤ k:=by
  intro a' w' σ' S hq
  obtain ⟨v,Or,Oo,m1,m2,m3,m4,m5⟩:=main C a' w' σ' vs rfl rfl (fun j v hv => by show vs.getD j undef = v; rw [List.getD,hv]; rfl) (by omega) S hq
  obtain ⟨⟨Os1,R⟩,_,_,hdf,hos,htp,hout⟩:=S
  exact ⟨hdf,v,m1,v,Or,Oo,rfl,hos,htp,hout,R.size,fun k hk hn => R.keep k hk hn,m2,m3,m4,m5⟩
 rintro e a' w' ⟨σ',h',S'⟩
 cases e with
 | normal => exact fin a' w' σ' S' h'
 | ret => exact fin a' w' σ' S' h'
 | _ => exact h'.elim
def retC (P : Program) (a t : Nat) (ks : List Nat) (res : AV) (outs : List AV) (σ : St) : Prop :=
 leV (look σ a) (.box res) ∧ res.stor = true ∧ (tinfo P t).agg = some res.isAgg ∧ (tinfo P t).size = ncells res ∧ outsW σ [a] ks 0 outs
theorem fits_of_cell {P : Program} {f : FuncId} {fn : Func} {c : Code} {args : List AV} {res : AV} {outs : List AV} (a t : Nat) (ks vars : List Nat) (hf : P.funcs[f]? = some fn) (hb : fn.body = some c) (hname : (fn.name == "runtime.NumGoroutine") = false)
  (hrs : fn.results = #[.cell a t]) (hrn : a < fn.ntmps) (hn : args.length ≤ fn.ntmps) (hok : codeOk fn.ntmps ks c = true) (hks : ks.all (· < args.length) = true) (ho : outs.length ≤ args.length) (hal : args.all (fun x => x.target.isNone) = true)
  (h : codeW P (CallW P) vars c (initGo 0 args) (endQ (retC P a t ks res outs))) : Fits P f args res outs:=by
 refine fits_gen (retC P a t ks res outs) ks vars hf hb hname hn hok hks ho hal h ?_
 rintro C a' w' σ' vs hCn hCk hkv hov ⟨⟨Os1,R⟩,hkk,hn',hdf,hos,htp,hout⟩ ⟨r1,r2,r3,r4,r5⟩
 rw [(tinfo_base t).2.1] at r3
 rw [(tinfo_base t).1] at r4
 have hlt : a < a'.tmps.size:=by rw [hn',hCn]; exact hrn
 have hv : a'.tmps[a]? = some a'.tmps[a]:=Array.getElem?_eq_getElem hlt
 have hr:=repW_le _ _ r1 (R.rep a _ hv)
 simp only [RepW,RepC] at hr
 obtain ⟨b,cc,te,m,O',e1,hrow,hm,hrep,hnb,hO⟩:=hr
 have e1' : a'.tmps[a] = .pointer (some ⟨b,0,none⟩):=by simpa using e1
 obtain ⟨v,l1,l2,_,_⟩:=run_loadVar (P:=P) (w:=w') hrep (.inl r2) (ad:=⟨b,0,none⟩) r3 r4 (fun j u hj => by
  have:=row_cells (n:=m.length) hrow (j:=j) (u:=u) (by rw [hm,List.take_length]; exact hj)
  simpa using this)
 obtain ⟨Oo,q3,q4⟩:=outs_rep (used:=[a]) R hkk outs 0 vs (by rw [hCk]; exact r5) (fun j v hv => by rw [Nat.zero_add]; exact hkv j v hv) hov
 have hsub : ∀ k,O' k → Os1 a k:=fun k hk => (hO k).2 (.inr hk)
 have hdis : ∀ k,O' k → ¬ Oo k:=by
  intro k h1 h2
  obtain ⟨t',_,ht',hot'⟩:=q4 k h2
  have:=R.dis _ _ k (hsub k h1) hot'
  subst this; simp at ht'
 have hag : ∀ Oz,Agree w'.heap w'.heap (Sh C.ok Os1) (fun k => C.ok k ∧ ¬ O' k ∧ ¬ Oo k) Oz:=fun Oz => ⟨fun k hk _ => ⟨⟨hk.1,fun h => hk.2 a (hsub k h),fun h => by obtain ⟨t',_,_,ht'⟩:=q4 k h; exact hk.2 t' ht'⟩,rfl⟩,fun _ _ => rfl⟩
 refine ⟨v,O',Oo,?_,repW_mono _ l2 (hag _),repWs_mono _ q3 (hag _),hdis,?_⟩
 ·rw [e1'] at hv
  have hm1 : (fn.results.mapM fun (x : ResultVar) => (match x with
    | .tmp t => pure (a'.tmps.getD t undef)
    | .cell a t => do loadVar t (← asAddr (a'.tmps.getD a undef)) : Sem Value)).run P w' = .ok #[v] w':=by
   rw [hrs]
   simp [hv,asAddr,l1]
  unfold results
  rw [Sem.run_bind]
  erw [hm1]
  simp
 ·rintro k (hk | hk)
  ·exact R.own a k (hsub k hk)
  ·obtain ⟨t',_,_,ht'⟩:=q4 k hk
   exact R.own t' k ht'
end Go.Proofs.YtpffgegfjpdncaaGreatDoor.Am
