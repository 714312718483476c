/- What functions of the program answer, on values without memory (part 2): conditions stand at each theorem. -/
import Derived.Test.YtpffgegfjpdncaaGreatDoorRows
import Derived.Test.YtpffgegfjpdncaaGreatDoorAskShortU1
import Derived.Shelf.Strings.OnBuilder
import Derived.Shelf.LaysM
import Derived.Shelf.Strconv.Itoa3
import Derived.Shelf.Sort.Plain
import Derived.Shelf.Slices.In.SortNone2
set_option linter.unusedVariables false
set_option linter.unusedSimpArgs false
set_option maxRecDepth 100000
set_option maxHeartbeats 4000000
namespace Go.Proofs.YtpffgegfjpdncaaGreatDoor.U
open Go Go.RowKit Go.Proofs Go.Proofs.YtpffgegfjpdncaaGreatDoor.Am AV Go.Proofs.Tryz
def psD : Nat → Rex → Nat
 | 0,_ => 1
 | d + 1,r => 1 + (r.kids.map (psD d)).sum
theorem psD_le : ∀ d (r : Rex),psD d r ≤ ps r
 | 0,r => by rw [ps_eq]; simp [psD]
 | d + 1,r => by
  rw [ps_eq,psD]
  have key : ∀ l : List Rex,(l.map (psD d)).sum ≤ (l.map ps).sum:=by
   intro l
   induction l with
   | nil => simp
   | cons x l ih => have:=psD_le d x; simp only [List.map_cons,List.sum_cons]; omega
  have:=key r.kids; omega
theorem psD_all : ∀ d (r : Rex),psD d r ≤ d → psD d r = ps r
 | 0,r,h => by simp [psD] at h
 | d + 1,r,h => by
  rw [psD] at h ⊢
  rw [ps_eq]
  have key : ∀ l : List Rex,(l.map (psD d)).sum ≤ d → (l.map (psD d)).sum = (l.map ps).sum:=by
   intro l
   induction l with
   | nil => intro; rfl
   | cons x l ih =>
    intro hl
    simp only [List.map_cons,List.sum_cons] at *
    rw [psD_all d x (by omega),ih (by omega)]
  rw [key r.kids (by omega)]
theorem ps_bd (r : Rex) : ps r ≤ bd r + 1:=by
 induction r using Rex.ind' with
 | h r ih =>
  rw [ps_eq,bd_eq]
  have key : ∀ l : List Rex,(∀ x ∈ l,ps x ≤ bd x + 1) → (l.map ps).sum ≤ l.length + (l.map bd).sum:=by
   intro l
   induction l with
   | nil => simp
   | cons x l ih2 =>
    intro hl
    have a:=hl x (List.mem_cons_self ..)
    have b:=ih2 (fun y hy => hl y (List.mem_cons_of_mem _ hy))
    simp only [List.map_cons,List.sum_cons,List.length_cons]; omega
  have:=key r.kids ih; omega
theorem setB_lo2 {s : List Span} (h : setB s = true) : ∀ (i : Nat) (hi : i < s.length),(2 * i : Int) ≤ s[i].lo
 | 0,hi => by have:=(setB_at h 0 hi).1.1; omega
 | i + 1,hi => by
  have a:=setB_lo2 h i (by omega)
  have b:=setB_at h i (by omega)
  have c:=(setB_at h (i + 1) hi).2 (by omega)
  simp only [Nat.add_sub_cancel] at c
  have:=b.1.2.1
  omega
theorem setB_128 {s : List Span} (h : setB s = true) : s.length ≤ 128:=by
 by_cases h0 : s.length = 0
 ·omega
 ·have a:=setB_lo2 h (s.length - 1) (by omega)
  have b:=(setB_at h (s.length - 1) (by omega)).1
  omega
theorem bd_ps (r : Rex) : Okr r → bd r + 1 ≤ 129 * ps r:=by
 induction r using Rex.ind' with
 | h r ih =>
  intro hr
  obtain ⟨d,hd⟩:=hr
  rw [ps_eq,bd_eq]
  cases d with
  | zero => simp [fm] at hd
  | succ d =>
   obtain ⟨h1,h2,h3,h4⟩:=fm_ok hd
   have hs:=setB_128 h3
   have key : ∀ l : List Rex,(∀ x ∈ l,bd x + 1 ≤ 129 * ps x) → l.length + (l.map bd).sum ≤ 129 * (l.map ps).sum:=by
    intro l
    induction l with
    | nil => simp
    | cons x l ih2 =>
     intro hl
     have a:=hl x (List.mem_cons_self ..)
     have b:=ih2 (fun y hy => hl y (List.mem_cons_of_mem _ hy))
     simp only [List.map_cons,List.sum_cons,List.length_cons]; omega
   have:=key r.kids (fun x hx => ih x hx ⟨d,h4 x hx⟩)
   omega
theorem fits_sManyD (d : Nat) : ∀ r : Rex,d ≤ 1000 → bd r ≤ 1099511627776 → Fits prog 57 [eRex false r,.int .i64 d] (.int .i64 (psD d r)) []:=by
 induction d with
 | zero =>
  intro r _ hb
  have hbd:=bd_eq r
  have z : psD 0 r = 1:=rfl
  rw [eRex_eq]
  refine fits_of_code [4] [] [0,1,2,4,5,6,15] func57 rfl rfl rfl (by rfl) (by show 2 ≤ 29; decide) (by rfl) (by rfl) (by show 0 ≤ 2; decide) (by rfl) (run_of ?_)
  (first | refine Zo tis ?_ | exact Zc tis)
  refine run_loop (α:=Nat) (fun i => i = 0) (fun i => [(1,.int .i64 0),(2,.box (.agg [.int .i64 r.kind,.sl false 2 (r.set.map eSpan),.sl false 3 (r.kids.map (eRex false))])),(5,.int .i64 1),(6,.int .i64 0)]) (fun i => i) 0 rfl ?_ ?_
  ·(first | refine Zo tis ?_ | exact Zc tis)
  ·intro i hi
   subst hi
   by_cases h : (0 : Int) < r.kids.length
   ·(repeat (first | refine Zo (Z6 tis rx fls @h @z Zi) ?_ | refine .inl ⟨by kernel_rfl,?_⟩ | exact .inl (by show _ = _; kernel_rfl) | exact Zc (Z6 tis rx fls @h @z Zi)))
   ·(repeat (first | refine Zo (Z6 tis rx fls @h @z Zi) ?_ | refine .inl ⟨by kernel_rfl,?_⟩ | exact .inl (by show _ = _; kernel_rfl) | exact Zc (Z6 tis rx fls @h @z Zi)))
 | succ d ih =>
  intro r hd hb
  have hbd:=bd_eq r
  have hp : psD (d + 1) r = 1 + (r.kids.map (psD d)).sum:=rfl
  have hps:=psD_le (d + 1) r
  have hpb:=ps_bd r
  have e1 : ((d : Int) + 1 - 1) = d:=by omega
  rw [eRex_eq]
  refine fits_of_code [4] [] [0,1,2,4,5,6,15] func57 rfl rfl rfl (by rfl) (by show 2 ≤ 29; decide) (by rfl) (by rfl) (by show 0 ≤ 2; decide) (by rfl) (run_of ?_)
  (first | refine Zo tis ?_ | exact Zc tis)
  refine run_loop (α:=Nat) (fun i => i ≤ r.kids.length) (fun i => [(1,.int .i64 ((d : Int) + 1)),(2,.box (.agg [.int .i64 r.kind,.sl false 2 (r.set.map eSpan),.sl false 3 (r.kids.map (eRex false))])),(5,.int .i64 ((1 + ((r.kids.map (psD d)).take i).sum : Nat) : Int)),(6,.int .i64 i)]) (fun i => r.kids.length - i) 0 (Nat.zero_le _) ?_ ?_
  ·simp -implicitDefEqProofs (disch:=first | (intros; contradiction) | omega) only [am0,am1,am2,am3,am4,am5,am6,Nat.reduceSub,↓reduceIte,reduceCtorEq,Nat.reduceEqDiff,Nat.reduceBEq,Nat.reduceAdd,Nat.reduceLT,Nat.reduceBNe,Nat.reduceMul,↓reduceIte,tis,List.sum_nil]
  ·intro i hi'
   by_cases hi : i < r.kids.length
   ·have e:=take_sum (l:=r.kids.map (psD d)) (i:=i) (by simpa using hi)
    have e':=take_sum_le (r.kids.map (psD d)) (i + 1)
    rw [List.getElem_map] at e
    have hm:=List.getElem_mem hi
    have cF:=ih r.kids[i] (by omega) (Nat.le_trans (bd_kid hm) hb)
    rw [eRex_eq] at cF
    (repeat (first | refine callL cF ?_ | refine callB cF ?_ | refine Zo (Z6 tis rx fls @eRex_eq @e1 Zi) ?_ | refine .inl ⟨by kernel_rfl,?_⟩ | exact .inl (by show _ = _; kernel_rfl) | exact Zc (Z6 tis rx fls @eRex_eq @e1 Zi)))
    refine round_normal (i + 1) (by omega) ?_ (by show r.kids.length - (i + 1) < r.kids.length - i; omega)
    (first | refine Zo (Z2 tis @e) ?_ | exact Zc (Z2 tis @e))
    omega
   ·obtain rfl : i = r.kids.length:=by omega
    have e : (r.kids.map (psD d)).take r.kids.length = r.kids.map (psD d):=List.take_of_length_le (by simp)
    (repeat (first | refine Zo (Z6 tis rx fls @e @hp Zi) ?_ | refine .inl ⟨by kernel_rfl,?_⟩ | exact .inl (by show _ = _; kernel_rfl) | exact Zc (Z6 tis rx fls @e @hp Zi)))
def bigR (r : Rex) : Bool:=decide (120 < psD 1000 r)
theorem bigR_no {r : Rex} (h : bigR r = false) (hr : Okr r) : bd r ≤ 15479:=by
 have h1 : psD 1000 r ≤ 120:=by unfold bigR at h; simpa using h
 have h2:=psD_all 1000 r (by omega)
 have:=bd_ps r hr
 omega
theorem fits_l5Big (r : Rex) (hb : bd r ≤ 1099511627776) : Fits prog 53 [eRex false r] (.bool (bigR r)) []:=by
 have cM : Fits prog 57 [eRex false r,.int .i64 1000] (.int .i64 (psD 1000 r)) []:=fits_sManyD 1000 r (by omega) hb
 have e : bigR r = decide ((120 : Int) < (psD 1000 r : Nat)):=by unfold bigR; congr 1; simp; omega
 rw [e]
 generalize psD 1000 r = n at *
 rw [eRex_eq] at *
 refine fits_of_code [2] [] [0,1,2] func53 rfl rfl rfl (by rfl) (by show 1 ≤ 6; decide) (by rfl) (by rfl) (by show 0 ≤ 1; decide) (by rfl) (run_of ?_)
 by_cases h : (120 : Int) < (n : Nat)
 ·(repeat (first | refine callL cM ?_ | refine callB cM ?_ | refine Zo (Z5 tis rx fls @h Zi) ?_ | refine .inl ⟨by kernel_rfl,?_⟩ | exact .inl (by show _ = _; kernel_rfl) | exact Zc (Z5 tis rx fls @h Zi)))
 ·(repeat (first | refine callL cM ?_ | refine callB cM ?_ | refine Zo (Z5 tis rx fls @h Zi) ?_ | refine .inl ⟨by kernel_rfl,?_⟩ | exact .inl (by show _ = _; kernel_rfl) | exact Zc (Z5 tis rx fls @h Zi)))
def vecR (b : Int) (v : List Rex) : List Rex:=v.map (derR b)
theorem fits_l7Vec (b : Int) (v : List Rex) (hv : ∀ r ∈ v,Okr r ∧ gB (bd r) ≤ 500000000) (hl : v.length ≤ 1099511627776) : Fits prog 116 [.sl false 3 (v.map (eRex false)),.int .i64 b] (.sl true 3 ((vecR b v).map (eRex false))) []:=by
 unfold vecR
 refine fits_of_code [4] [] [0,1,4,5,6,11] func116 rfl rfl rfl (by rfl) (by show 2 ≤ 24; decide) (by rfl) (by rfl) (by show 0 ≤ 2; decide) (by rfl) (run_of ?_)
 (first | refine Zo (Z2 tis rx) ?_ | exact Zc (Z2 tis rx))
 refine run_loop (α:=Nat) (fun i => i ≤ v.length) (fun i => [(0,.sl false 3 (v.map (eRex false))),(1,.int .i64 b),(5,.sl true 3 (((v.map (derR b)).take i).map (eRex false))),(6,.int .i64 i)]) (fun i => v.length - i) 0 (Nat.zero_le _) ?_ ?_
 ·(first | refine Zo (Z3 tis @LLmapnil @LLtakzer) ?_ | exact Zc (Z3 tis @LLmapnil @LLtakzer))
 ·intro i hi'
  by_cases hi : i < v.length
  ·obtain ⟨h1,h2⟩:=hv _ (List.getElem_mem hi)
   have cD:=fits_l5By b v[i] h1 h2
   have e : ((v.map (derR b)).take (i + 1)).map (eRex false) = ((v.map (derR b)).take i).map (eRex false) ++ [eRex false (derR b v[i])]:=by
    rw [List.take_succ_eq_append_getElem (by simpa using hi),List.map_append]; simp
   have hl2 : ((v.map (derR b)).take i).length = i:=by simp; omega
   rw [eRex_eq false (derR b v[i])] at cD e
   (repeat (first | refine callL cD ?_ | refine callB cD ?_ | refine Zo (Z6 tis rx fls (eRex_eq false v[i]) @hl2 Zi) ?_ | refine .inl ⟨by kernel_rfl,?_⟩ | exact .inl (by show _ = _; kernel_rfl) | exact Zc (Z6 tis rx fls (eRex_eq false v[i]) @hl2 Zi)))
   refine round_normal (i + 1) (by omega) ?_ (by show v.length - (i + 1) < v.length - i; omega)
   rw [e]
   (first | refine Zo tis ?_ | exact Zc tis)
  ·obtain rfl : i = v.length:=by omega
   have e : (v.map (derR b)).take v.length = v.map (derR b):=List.take_of_length_le (by simp)
   (repeat (first | refine Zo (Z5 tis rx fls @e Zi) ?_ | refine .inl ⟨by kernel_rfl,?_⟩ | exact .inl (by show _ = _; kernel_rfl) | exact Zc (Z5 tis rx fls @e Zi)))
section
variable {α : Type} {p : α → Bool} {l : List α} {i : Nat}
theorem all_s (h : i < l.length) (a : (l.take i).all p = true) (b : p l[i] = true) : (l.take (i + 1)).all p = true:=by
 rw [List.take_succ_eq_append_getElem h,List.all_append,a]; simp [b]
theorem all_f (h : i < l.length) (b : p l[i] = false) : l.all p = false:=by
 rw [List.all_eq_false]; exact ⟨l[i],List.getElem_mem h,by simp [b]⟩
theorem any_s (h : i < l.length) (a : (l.take i).any p = false) (b : p l[i] = false) : (l.take (i + 1)).any p = false:=by
 rw [List.take_succ_eq_append_getElem h,List.any_append,a]; simp [b]
theorem any_t (h : i < l.length) (b : p l[i] = true) : l.any p = true:=by
 rw [List.any_eq_true]; exact ⟨l[i],List.getElem_mem h,b⟩
def firstI (p : α → Bool) (l : List α) : Int:=match l.findIdx? p with | some i => (i : Int) | none => -1
theorem first_at (h : i < l.length) (a : (l.take i).any p = false) (b : p l[i] = true) : firstI p l = i:=by
 have : l.findIdx? p = some i:=by
  rw [List.findIdx?_eq_some_iff_getElem]
  refine ⟨h,b,fun j hj hp => ?_⟩
  rw [List.any_eq_false] at a
  refine a l[j] ?_ hp
  rw [List.mem_take_iff_getElem]
  exact ⟨j,by omega,rfl⟩
 unfold firstI; rw [this]
theorem first_no (a : l.any p = false) : firstI p l = -1:=by
 have : l.findIdx? p = none:=by
  rw [List.findIdx?_eq_none_iff]
  intro x hx
  rw [List.any_eq_false] at a
  simpa using a x hx
 unfold firstI; rw [this]
theorem first_lt (p : α → Bool) (l : List α) : -1 ≤ firstI p l ∧ firstI p l < l.length:=by
 unfold firstI
 split
 ·rename_i i h
  obtain ⟨h,_⟩:=List.findIdx?_eq_some_iff_getElem.1 h
  omega
 ·omega
end
def goneV (v : List Rex) : Bool:=v.all noR
def bigV (v : List Rex) : Bool:=v.any bigR
def accV (v : List Rex) : Int:=firstI nulN v
noncomputable def atV (A : List (List Rex)) (v : List Rex) : Int:=firstI (fun u => decide (u = v)) A
def eVec (o : Bool) (v : List Rex) : AV:=.sl o 3 (v.map (eRex false))
theorem fits_l7Gone (v : List Rex) (hl : v.length ≤ 1099511627776) (hb : ∀ r ∈ v,bd r ≤ 1099511627776) : Fits prog 118 [.sl false 3 (v.map (eRex false))] (.bool (goneV v)) []:=by
 unfold goneV
 refine fits_of_code [2] [] [0,2,3,7,15] func118 rfl rfl rfl (by rfl) (by show 1 ≤ 16; decide) (by rfl) (by rfl) (by show 0 ≤ 1; decide) (by rfl) (run_of ?_)
 (first | refine Zo (Z2 tis rx) ?_ | exact Zc (Z2 tis rx))
 refine run_loop (α:=Nat) (fun i => i ≤ v.length ∧ (v.take i).all noR = true) (fun i => [(0,.sl false 3 (v.map (eRex false))),(3,.int .i64 i)]) (fun i => v.length - i) 0 ⟨Nat.zero_le _,rfl⟩ ?_ ?_
 ·(first | refine Zo tis ?_ | exact Zc tis)
 ·rintro i ⟨hi',ha⟩
  by_cases hi : i < v.length
  ·have cN:=fits_l4No v[i] (hb _ (List.getElem_mem hi))
   have ev:=eRex_eq false v[i]
   have af:=all_f (p:=noR) hi
   have sx:=all_s (p:=noR) hi ha
   rw [ev] at cN
   generalize noR v[i] = x at *
   cases x with
   | true =>
    (repeat (first | refine callL cN ?_ | refine callB cN ?_ | refine Zo (Z5 tis rx fls @ev Zi) ?_ | refine .inl ⟨by kernel_rfl,?_⟩ | exact .inl (by show _ = _; kernel_rfl) | exact Zc (Z5 tis rx fls @ev Zi)))
    exact round_normal (i + 1) ⟨by omega,sx rfl⟩ (by (first | refine Zo tis ?_ | exact Zc tis)) (by show v.length - (i + 1) < v.length - i; omega)
   | false =>
    have e:=af rfl
    (repeat (first | refine callL cN ?_ | refine callB cN ?_ | refine Zo (Z6 tis rx fls @ev @e Zi) ?_ | refine .inl ⟨by kernel_rfl,?_⟩ | exact .inl (by show _ = _; kernel_rfl) | exact Zc (Z6 tis rx fls @ev @e Zi)))
  ·obtain rfl : i = v.length:=by omega
   rw [List.take_length] at ha
   (repeat (first | refine Zo (Z5 tis rx fls @ha Zi) ?_ | refine .inl ⟨by kernel_rfl,?_⟩ | exact .inl (by show _ = _; kernel_rfl) | exact Zc (Z5 tis rx fls @ha Zi)))
theorem fits_l7Big (v : List Rex) (hl : v.length ≤ 1099511627776) (hb : ∀ r ∈ v,bd r ≤ 1099511627776) : Fits prog 119 [.sl false 3 (v.map (eRex false))] (.bool (bigV v)) []:=by
 unfold bigV
 refine fits_of_code [2] [] [0,2,3,7,14] func119 rfl rfl rfl (by rfl) (by show 1 ≤ 15; decide) (by rfl) (by rfl) (by show 0 ≤ 1; decide) (by rfl) (run_of ?_)
 (first | refine Zo (Z2 tis rx) ?_ | exact Zc (Z2 tis rx))
 refine run_loop (α:=Nat) (fun i => i ≤ v.length ∧ (v.take i).any bigR = false) (fun i => [(0,.sl false 3 (v.map (eRex false))),(3,.int .i64 i)]) (fun i => v.length - i) 0 ⟨Nat.zero_le _,rfl⟩ ?_ ?_
 ·(first | refine Zo tis ?_ | exact Zc tis)
 ·rintro i ⟨hi',ha⟩
  by_cases hi : i < v.length
  ·have cN:=fits_l5Big v[i] (hb _ (List.getElem_mem hi))
   have ev:=eRex_eq false v[i]
   have af:=any_t (p:=bigR) hi
   have sx:=any_s (p:=bigR) hi ha
   rw [ev] at cN
   generalize bigR v[i] = x at *
   cases x with
   | false =>
    (repeat (first | refine callL cN ?_ | refine callB cN ?_ | refine Zo (Z5 tis rx fls @ev Zi) ?_ | refine .inl ⟨by kernel_rfl,?_⟩ | exact .inl (by show _ = _; kernel_rfl) | exact Zc (Z5 tis rx fls @ev Zi)))
    exact round_normal (i + 1) ⟨by omega,sx rfl⟩ (by (first | refine Zo tis ?_ | exact Zc tis)) (by show v.length - (i + 1) < v.length - i; omega)
   | true =>
    have e:=af rfl
    (repeat (first | refine callL cN ?_ | refine callB cN ?_ | refine Zo (Z6 tis rx fls @ev @e Zi) ?_ | refine .inl ⟨by kernel_rfl,?_⟩ | exact .inl (by show _ = _; kernel_rfl) | exact Zc (Z6 tis rx fls @ev @e Zi)))
  ·obtain rfl : i = v.length:=by omega
   rw [List.take_length] at ha
   (repeat (first | refine Zo (Z5 tis rx fls @ha Zi) ?_ | refine .inl ⟨by kernel_rfl,?_⟩ | exact .inl (by show _ = _; kernel_rfl) | exact Zc (Z5 tis rx fls @ha Zi)))
theorem fits_l7Acc (v : List Rex) (hl : v.length ≤ 1099511627776) (hb : ∀ r ∈ v,Okr r ∧ bd r ≤ 1099511627776) : Fits prog 120 [.sl false 3 (v.map (eRex false))] (.int .i64 (accV v)) []:=by
 unfold accV
 refine fits_of_code [2] [] [0,2,3,7,14] func120 rfl rfl rfl (by rfl) (by show 1 ≤ 16; decide) (by rfl) (by rfl) (by show 0 ≤ 1; decide) (by rfl) (run_of ?_)
 (first | refine Zo (Z2 tis rx) ?_ | exact Zc (Z2 tis rx))
 refine run_loop (α:=Nat) (fun i => i ≤ v.length ∧ (v.take i).any nulN = false) (fun i => [(0,.sl false 3 (v.map (eRex false))),(3,.int .i64 i)]) (fun i => v.length - i) 0 ⟨Nat.zero_le _,rfl⟩ ?_ ?_
 ·(first | refine Zo tis ?_ | exact Zc tis)
 ·rintro i ⟨hi',ha⟩
  by_cases hi : i < v.length
  ·obtain ⟨o1,o2⟩:=hb _ (List.getElem_mem hi)
   have cN:=fits_sNull v[i] o1 o2
   have ev:=eRex_eq false v[i]
   have af:=first_at (p:=nulN) hi ha
   have sx:=any_s (p:=nulN) hi ha
   rw [ev] at cN
   generalize nulN v[i] = x at *
   cases x with
   | false =>
    (repeat (first | refine callL cN ?_ | refine callB cN ?_ | refine Zo (Z5 tis rx fls @ev Zi) ?_ | refine .inl ⟨by kernel_rfl,?_⟩ | exact .inl (by show _ = _; kernel_rfl) | exact Zc (Z5 tis rx fls @ev Zi)))
    exact round_normal (i + 1) ⟨by omega,sx rfl⟩ (by (first | refine Zo tis ?_ | exact Zc tis)) (by show v.length - (i + 1) < v.length - i; omega)
   | true =>
    have e:=af rfl
    (repeat (first | refine callL cN ?_ | refine callB cN ?_ | refine Zo (Z6 tis rx fls @ev @e Zi) ?_ | refine .inl ⟨by kernel_rfl,?_⟩ | exact .inl (by show _ = _; kernel_rfl) | exact Zc (Z6 tis rx fls @ev @e Zi)))
  ·obtain rfl : i = v.length:=by omega
   rw [List.take_length] at ha
   have e:=first_no ha
   (repeat (first | refine Zo (Z5 tis rx fls @e Zi) ?_ | refine .inl ⟨by kernel_rfl,?_⟩ | exact .inl (by show _ = _; kernel_rfl) | exact Zc (Z5 tis rx fls @e Zi)))
theorem vec_ext (A : List (List Rex)) (i : Nat) (h : i < A.length) : (A.map (eVec false))[i]? = some (.sl false 3 (A[i].map (eRex false))) ∧ (A.map (eVec false)).getD i .undef = .sl false 3 (A[i].map (eRex false)):=by
 constructor <;> simp [List.getD,h,eVec]
theorem fits_l7At (A : List (List Rex)) (v : List Rex) (hA : A.length ≤ 1099511627776) (hl : v.length ≤ 1099511627776) (hu : ∀ u ∈ A,u.length = v.length) (hb : ∀ u ∈ A,∀ r ∈ u,bd r ≤ 1099511627776) : Fits prog 117 [.sl false 1 (A.map (eVec false)),.sl false 3 (v.map (eRex false))] (.int .i64 (atV A v)) []:=by
 unfold atV
 refine fits_of_code [4] [] [0,1,4,5,6,7,11,20,35] func117 rfl rfl rfl (by rfl) (by show 2 ≤ 37; decide) (by rfl) (by rfl) (by show 0 ≤ 2; decide) (by rfl) (run_of ?_)
 (first | refine Zo (Z2 tis rx) ?_ | exact Zc (Z2 tis rx))
 refine run_loop (α:=Nat) (fun i => i ≤ A.length ∧ (A.take i).any (fun u => decide (u = v)) = false) (fun i => [(0,.sl false 1 (A.map (eVec false))),(1,.sl false 3 (v.map (eRex false))),(5,.int .i64 i)]) (fun i => A.length - i) 0 ⟨Nat.zero_le _,rfl⟩ ?_ ?_
 ·(first | refine Zo tis ?_ | exact Zc tis)
 ·rintro i ⟨hi',ha⟩
  by_cases hi : i < A.length
  ·have hui:=hu _ (List.getElem_mem hi)
   have hbi:=hb _ (List.getElem_mem hi)
   obtain ⟨g1,g2⟩:=vec_ext A i hi
   have af:=first_at (p:=fun u => decide (u = v)) hi ha
   have sx:=any_s (p:=fun u => decide (u = v)) hi ha
   generalize A[i] = u at *
   (first | refine Zo (Z3 tis rx fls) ?_ | exact Zc (Z3 tis rx fls))
   refine run_loop (α:=Nat × Bool) (fun x => x.1 ≤ u.length ∧ (x.2 = true → Upto u v x.1) ∧ (x.2 = false → u ≠ v)) (fun x => [(0,.sl false 1 (A.map (eVec false))),(1,.sl false 3 (v.map (eRex false))),(5,.int .i64 i),(6,.bool x.2),(7,.int .i64 x.1)]) (fun x => if x.2 = true then u.length - x.1 + 1 else 0) (0,true) ⟨Nat.zero_le _,fun _ => upto_0 _ _,fun h => by cases h⟩ ?_ ?_
   ·(first | refine Zo tis ?_ | exact Zc tis)
   ·rintro ⟨k,s⟩ ⟨hk',hs1,hs2⟩
    simp only at hk' hs1 hs2
    cases s with
    | false =>
     have e : decide (u = v) = false:=decide_eq_false (hs2 rfl)
     have sx:=sx e
     by_cases hk : (k : Int) < v.length
     ·(repeat (first | refine Zo (Z5 tis rx fls @hk Zi) ?_ | refine .inl ⟨by kernel_rfl,?_⟩ | exact .inl (by show _ = _; kernel_rfl) | exact Zc (Z5 tis rx fls @hk Zi)))
      exact round_normal (i + 1) ⟨by omega,sx⟩ (by (first | refine Zo tis ?_ | exact Zc tis)) (by show A.length - (i + 1) < A.length - i; omega)
     ·(repeat (first | refine Zo (Z5 tis rx fls @hk Zi) ?_ | refine .inl ⟨by kernel_rfl,?_⟩ | exact .inl (by show _ = _; kernel_rfl) | exact Zc (Z5 tis rx fls @hk Zi)))
      exact round_normal (i + 1) ⟨by omega,sx⟩ (by (first | refine Zo tis ?_ | exact Zc tis)) (by show A.length - (i + 1) < A.length - i; omega)
    | true =>
     by_cases hk : k < u.length
     ·have hk2 : k < v.length:=by omega
      have cS:=fits_sRexSame u[k] v[k] (hbi _ (List.getElem_mem hk))
      have ev:=eRex_eq false v[k]
      have eu:=eRex_eq false u[k]
      rw [ev,eu] at cS
      by_cases he : u[k] = v[k]
      ·have hU:=upto_s (hs1 rfl) hk hk2 he
       rw [decide_eq_true he] at cS
       (repeat (first | refine callL cS ?_ | refine callB cS ?_ | refine Zo (Z9 tis rx fls @g1 @g2 @ev @eu @eRex_eq Zi) ?_ | refine .inl ⟨by kernel_rfl,?_⟩ | exact .inl (by show _ = _; kernel_rfl) | exact Zc (Z9 tis rx fls @g1 @g2 @ev @eu @eRex_eq Zi)))
       exact round_normal (k + 1,true) ⟨by show k + 1 ≤ _; omega,fun _ => hU,fun h => by cases h⟩ (by (first | refine Zo tis ?_ | exact Zc tis)) (by show (if true = true then u.length - (k + 1) + 1 else 0) < (if true = true then u.length - k + 1 else 0); simp; omega)
      ·rw [decide_eq_false he] at cS
       have hne : u ≠ v:=fun e => he (by subst e; rfl)
       (repeat (first | refine callL cS ?_ | refine callB cS ?_ | refine Zo (Z9 tis rx fls @g1 @g2 @ev @eu @eRex_eq Zi) ?_ | refine .inl ⟨by kernel_rfl,?_⟩ | exact .inl (by show _ = _; kernel_rfl) | exact Zc (Z9 tis rx fls @g1 @g2 @ev @eu @eRex_eq Zi)))
       exact round_normal (k + 1,false) ⟨by show k + 1 ≤ _; omega,(fun h => by cases h),fun _ => hne⟩ (by (first | refine Zo tis ?_ | exact Zc tis)) (by show (if false = true then u.length - (k + 1) + 1 else 0) < (if true = true then u.length - k + 1 else 0); simp)
     ·obtain rfl : k = u.length:=by omega
      have e : decide (u = v) = true:=decide_eq_true (upto_e (hs1 rfl) hui)
      have af:=af e
      have hk3 : ¬ (u.length : Int) < v.length:=by omega
      (repeat (first | refine Zo (Z6 tis rx fls @hk3 @af Zi) ?_ | refine .inl ⟨by kernel_rfl,?_⟩ | exact .inl (by show _ = _; kernel_rfl) | exact Zc (Z6 tis rx fls @hk3 @af Zi)))
  ·obtain rfl : i = A.length:=by omega
   rw [List.take_length] at ha
   have e:=first_no ha
   (repeat (first | refine Zo (Z5 tis rx fls @e Zi) ?_ | refine .inl ⟨by kernel_rfl,?_⟩ | exact .inl (by show _ = _; kernel_rfl) | exact Zc (Z5 tis rx fls @e Zi)))
structure Rule where
 name : List UInt8
 rex : Rex
instance : Inhabited Rule:=⟨⟨[],default⟩⟩
def eRule (o : Bool) (x : Rule) : AV:=.agg [.str x.name,.agg [.int .i64 x.rex.kind,.sl o 2 (x.rex.set.map eSpan),.sl o 3 (x.rex.kids.map (eRex o))]]
theorem eRule_eq (o : Bool) (x : Rule) : eRule o x = .agg [.str x.name,.agg [.int .i64 x.rex.kind,.sl o 2 (x.rex.set.map eSpan),.sl o 3 (x.rex.kids.map (eRex o))]]:=rfl
theorem er_rule (o : Bool) (x : Rule) : erase (eRule o x) = eRule false x:=by simp [eRule,erase,eraseL,fls,erL_rex]
theorem erL_rule (o : Bool) (l : List Rule) : eraseL (l.map (eRule o)) = l.map (eRule false):=by
 rw [eraseL_map,List.map_map]; exact List.map_congr_left fun x _ => er_rule o x
theorem pl_rule (x : Rule) : plain (eRule false x) = true:=by simp [eRule,plain,plainL]
theorem plL_rule (l : List Rule) : plainL (l.map (eRule false)) = true:=by rw [plainL_all]; simp [pl_rule]
theorem cl_rule (x : Rule) : closed (eRule true x) = true:=by simp [eRule,closed,closedL,fls,clL_rex]
theorem clL_rule (l : List Rule) : closedL (l.map (eRule true)) = true:=by rw [closedL_all]; simp [cl_rule]
theorem ux : (∀ o x,erase (eRule o x) = eRule false x) ∧ (∀ o (l : List Rule),eraseL (l.map (eRule o)) = l.map (eRule false)) ∧ (∀ l : List Rule,plainL (l.map (eRule false)) = true) ∧ (∀ l : List Rule,closedL (l.map (eRule true)) = true) :=
 ⟨er_rule,erL_rule,plL_rule,clL_rule⟩


theorem fits_sForm (r : Rex) (d : Nat) (hd : d ≤ 8) (hb : bd r ≤ 1048576) : Fits prog 56 [eRex false r,.int .i64 d] (.bool (fm d r)) []:=by
 induction d generalizing r with
 | zero =>
  rw [eRex_eq]
  refine fits_of_code [4] [] [0,1,2,4,5,33,38,49] func56 rfl rfl rfl (by rfl) (by show 2 ≤ 50; decide) (by rfl) (by rfl) (by show 0 ≤ 2; decide) (by rfl) (run_of ?_)
  refine Zo (Z2 tis @fm_0) ?_
  refine .inl ?_
  show _ = _
  kernel_rfl
 | succ d ih =>
  have hb':=bd_eq r
  have cK:=fits_sKids r.kind
  have cS:=fits_sSetOk r.set (by omega)
  rw [eRex_eq]
  refine fits_of_code [4] [] [0,1,2,4,5,33,38,49] func56 rfl rfl rfl (by rfl) (by show 2 ≤ 50; decide) (by rfl) (by rfl) (by show 0 ≤ 2; decide) (by rfl) (run_of ?_)
  refine Zo tis ?_
  refine .inl ⟨by kernel_rfl,?_⟩
  refine callL cK ?_
  by_cases h1 : kidsN r.kind = r.kids.length
  case neg => simp -implicitDefEqProofs (disch:=first | (intros; contradiction) | omega) only [am0,am1,am2,am3,am4,am5,am6,Nat.reduceSub,↓reduceIte,reduceCtorEq,Nat.reduceEqDiff,Nat.reduceBEq,Nat.reduceAdd,Nat.reduceLT,Nat.reduceBNe,Nat.reduceMul,↓reduceIte,tis,fm_f1 h1]
  by_cases h2 : r.kind = 1 ∨ r.set.length = 0
  case neg =>
   have h2a : r.kind ≠ 1:=fun h => h2 (.inl h)
   have h2b : 0 < (r.set.length : Int):=by omega
   simp -implicitDefEqProofs (disch:=first | (intros; contradiction) | omega) only [am0,am1,am2,am3,am4,am5,am6,Nat.reduceSub,↓reduceIte,reduceCtorEq,Nat.reduceEqDiff,Nat.reduceBEq,Nat.reduceAdd,Nat.reduceLT,Nat.reduceBNe,Nat.reduceMul,↓reduceIte,tis,fm_f2 h2]
  have h2c : r.kind = 1 ∨ (r.kind ≠ 1 ∧ (r.set.length : Int) = 0):=by omega
  cases h3 : setB r.set with
  | false =>
   rcases h2c with h2c | ⟨h2c,h2d⟩
   all_goals
    refine Zo tis ?_
    refine callL cS ?_
    simp -implicitDefEqProofs (disch:=first | (intros; contradiction) | omega) only [am0,am1,am2,am3,am4,am5,am6,Nat.reduceSub,↓reduceIte,reduceCtorEq,Nat.reduceEqDiff,Nat.reduceBEq,Nat.reduceAdd,Nat.reduceLT,Nat.reduceBNe,Nat.reduceMul,↓reduceIte,tis,h3,fm_f3 h3]
  | true =>
   rcases h2c with h2c | ⟨h2c,h2d⟩
   all_goals
    refine Zo tis ?_
    refine callL cS ?_
    refine Zo (Z2 tis @h3) ?_
    refine run_loop (α:=Nat) (fun i => i ≤ r.kids.length ∧ ∀ j (hj : j < r.kids.length),j < i → fm d r.kids[j] = true) (fun i => [(1,.int .i64 ((d : Int) + 1)),(2,.box (.agg [.int .i64 r.kind,.sl false 2 (r.set.map eSpan),.sl false 3 (r.kids.map (eRex false))])),(5,.int .i64 i)]) (fun i => r.kids.length - i) 0 ⟨Nat.zero_le _,by intros; omega⟩ ?_ ?_
    ·exact Zc tis
    ·rintro i ⟨hi',hb2⟩
     by_cases hi : i < r.kids.length
     ·have e1 : ((d : Int) + 1 - 1) = d:=by omega
      have cF:=ih r.kids[i] (by omega) (Nat.le_trans (bd_kid (List.getElem_mem hi)) hb)
      refine Zo (Z3 tis rx @eRex_eq) ?_
      refine callB cF ?_
      cases h5 : fm d r.kids[i] with
      | false => simp -implicitDefEqProofs (disch:=first | (intros; contradiction) | omega) only [am0,am1,am2,am3,am4,am5,am6,Nat.reduceSub,↓reduceIte,reduceCtorEq,Nat.reduceEqDiff,Nat.reduceBEq,Nat.reduceAdd,Nat.reduceLT,Nat.reduceBNe,Nat.reduceMul,↓reduceIte,tis,rx,eRex_eq,e1,fm_f hi h5]
      | true =>
       refine Zo (Z4 tis rx @eRex_eq @e1) ?_
       refine round_normal (i + 1) ⟨by omega,?_⟩ ?_ (by show r.kids.length - (i + 1) < r.kids.length - i; omega)
       ·intro j hj hj2
        by_cases hji : j < i
        ·exact hb2 j hj hji
        ·obtain rfl : j = i:=by omega
         exact h5
       ·exact Zc tis
     ·obtain rfl : i = r.kids.length:=by omega
      simp -implicitDefEqProofs (disch:=first | (intros; contradiction) | omega) only [am0,am1,am2,am3,am4,am5,am6,Nat.reduceSub,↓reduceIte,reduceCtorEq,Nat.reduceEqDiff,Nat.reduceBEq,Nat.reduceAdd,Nat.reduceLT,Nat.reduceBNe,Nat.reduceMul,↓reduceIte,tis,fm_t h1 h2 h3 (fun i hi => hb2 i hi hi)]
theorem fits_manyParts2 (r : Rex) (hb : bd r ≤ 1099511627776) (h2 : ps r ≤ 1099511627777) : Fits prog 48 [eRex false r] (.int .i64 (ps r)) []:=by
 induction r using Rex.ind' with
 | h r ih =>
  have hb':=bd_eq r
  have hp:=ps_eq r
  rw [eRex_eq]
  refine fits_of_code [2] [] [0,1,2,3,5,7,8,9,10] func48 rfl rfl rfl (by rfl) (by show 1 ≤ 19; decide) (by rfl) (by rfl) (by show 0 ≤ 1; decide) (by rfl) (run_of ?_)
  refine Zo tis ?_
  refine run_loop (α:=Nat) (fun i => i ≤ r.kids.length) (fun i => [(3,.int .i64 ((1 + ((r.kids.map ps).take i).sum : Nat) : Int)),(7,.sl false 3 (r.kids.map (eRex false))),(8,.int .i64 r.kids.length),(9,.int .i64 i)]) (fun i => r.kids.length - i) 0 (Nat.zero_le _) ?_ ?_
  ·simp -implicitDefEqProofs (disch:=first | (intros; contradiction) | omega) only [am0,am1,am2,am3,am4,am5,am6,Nat.reduceSub,↓reduceIte,reduceCtorEq,Nat.reduceEqDiff,Nat.reduceBEq,Nat.reduceAdd,Nat.reduceLT,Nat.reduceBNe,Nat.reduceMul,↓reduceIte,tis,List.sum_nil]
  ·intro i hi'
   by_cases hi : i < r.kids.length
   ·have e:=take_sum (l:=r.kids.map ps) (i:=i) (by simpa using hi)
    have e':=take_sum_le (r.kids.map ps) (i + 1)
    rw [List.getElem_map] at e
    have hm:=List.getElem_mem hi
    have hk : ps r.kids[i] ≤ (r.kids.map ps).sum:=le_sum (List.mem_map_of_mem hm)
    have cF:=ih r.kids[i] hm (Nat.le_trans (bd_kid hm) hb) (by omega)
    refine Zo (Z3 tis rx @eRex_eq) ?_
    refine callB cF ?_
    refine Zo (Z3 tis rx @eRex_eq) ?_
    refine round_normal (i + 1) (by omega) ?_ (by show r.kids.length - (i + 1) < r.kids.length - i; omega)
    refine Zo (Z2 tis @e) ?_
    omega
   ·obtain rfl : i = r.kids.length:=by omega
    have e : (r.kids.map ps).take r.kids.length = r.kids.map ps:=List.take_of_length_le (by simp)
    exact Zc (Z3 tis @e @hp)
theorem fits_manyParts (r : Rex) (hb : bd r ≤ 1048576) (h2 : ps r ≤ 1048576) : Fits prog 48 [eRex false r] (.int .i64 (ps r)) []:=fits_manyParts2 r (by omega) (by omega)
theorem fits_sMany (r : Rex) (d : Nat) (hd : d ≤ 8) (hf : fm d r = true) (hb : bd r ≤ 1048576) : Fits prog 57 [eRex false r,.int .i64 d] (.int .i64 (ps r)) []:=by
 induction d generalizing r with
 | zero => simp [fm] at hf
 | succ d ih =>
  have hb':=bd_eq r
  have hp:=ps_eq r
  have h4:=(fm_ok hf).2.2.2
  have hps:=ps_le (d + 1) r hf
  have h2p : 2 ^ (d + 1) ≤ 2 ^ 8:=Nat.pow_le_pow_right (by omega) hd
  have e1 : ((d : Int) + 1 - 1) = d:=by omega
  rw [eRex_eq]
  refine fits_of_code [4] [] [0,1,2,4,5,6,15] func57 rfl rfl rfl (by rfl) (by show 2 ≤ 29; decide) (by rfl) (by rfl) (by show 0 ≤ 2; decide) (by rfl) (run_of ?_)
  refine Zo tis ?_
  refine run_loop (α:=Nat) (fun i => i ≤ r.kids.length) (fun i => [(1,.int .i64 ((d : Int) + 1)),(2,.box (.agg [.int .i64 r.kind,.sl false 2 (r.set.map eSpan),.sl false 3 (r.kids.map (eRex false))])),(5,.int .i64 ((1 + ((r.kids.map ps).take i).sum : Nat) : Int)),(6,.int .i64 i)]) (fun i => r.kids.length - i) 0 (Nat.zero_le _) ?_ ?_
  ·simp -implicitDefEqProofs (disch:=first | (intros; contradiction) | omega) only [am0,am1,am2,am3,am4,am5,am6,Nat.reduceSub,↓reduceIte,reduceCtorEq,Nat.reduceEqDiff,Nat.reduceBEq,Nat.reduceAdd,Nat.reduceLT,Nat.reduceBNe,Nat.reduceMul,↓reduceIte,tis,List.sum_nil]
  ·intro i hi'
   by_cases hi : i < r.kids.length
   ·have e:=take_sum (l:=r.kids.map ps) (i:=i) (by simpa using hi)
    have e':=take_sum_le (r.kids.map ps) (i + 1)
    rw [List.getElem_map] at e
    have hm:=List.getElem_mem hi
    have hk : ps r.kids[i] ≤ (r.kids.map ps).sum:=le_sum (List.mem_map_of_mem hm)
    have cF:=ih r.kids[i] (by omega) (h4 _ hm) (Nat.le_trans (bd_kid hm) hb)
    refine Zo (Z3 tis rx @eRex_eq) ?_
    refine callB cF ?_
    refine Zo (Z4 tis rx @eRex_eq @e1) ?_
    refine round_normal (i + 1) (by omega) ?_ (by show r.kids.length - (i + 1) < r.kids.length - i; omega)
    refine Zo (Z2 tis @e) ?_
    omega
   ·obtain rfl : i = r.kids.length:=by omega
    have e : (r.kids.map ps).take r.kids.length = r.kids.map ps:=List.take_of_length_le (by simp)
    exact Zc (Z3 tis @e @hp)
def rexB (r : Rex) : Bool:=fm 8 r && decide (ps r ≤ 24)
theorem fits_rexOk (r : Rex) (hb : bd r ≤ 1048576) : Fits prog 34 [eRex false r] (.bool (rexB r)) []:=by
 have cF : Fits prog 72 [eRex false r,.int .i64 8] (.bool (fm 8 r)) []:=fits_formed r 8 (by omega) hb
 cases h : fm 8 r with
 | false =>
  have hx : rexB r = false:=by simp [rexB,h]
  rw [h] at cF
  rw [eRex_eq] at *
  refine fits_of_code [2] [] [0,1,2] func34 rfl rfl rfl (by rfl) (by show 1 ≤ 10; decide) (by rfl) (by rfl) (by show 0 ≤ 1; decide) (by rfl) (run_of ?_)
  refine Zo tis ?_
  refine callB cF ?_
  exact Zc (Z2 tis @hx)
 | true =>
  have hp:=ps_le 8 r h
  have cM:=fits_manyParts r hb (by omega)
  rw [h] at cF
  rw [eRex_eq] at *
  by_cases h2 : (ps r : Int) ≤ 24
  ·have hx : rexB r = true:=by simp only [rexB,h,Bool.true_and,decide_eq_true_eq]; omega
   refine fits_of_code [2] [] [0,1,2] func34 rfl rfl rfl (by rfl) (by show 1 ≤ 10; decide) (by rfl) (by rfl) (by show 0 ≤ 1; decide) (by rfl) (run_of ?_)
   refine Zo tis ?_
   refine callB cF ?_
   refine Zo tis ?_
   refine callB cM ?_
   exact Zc (Z2 tis @hx)
  ·have hx : rexB r = false:=by simp only [rexB,h,Bool.true_and,decide_eq_false_iff_not]; omega
   refine fits_of_code [2] [] [0,1,2] func34 rfl rfl rfl (by rfl) (by show 1 ≤ 10; decide) (by rfl) (by rfl) (by show 0 ≤ 1; decide) (by rfl) (run_of ?_)
   refine Zo tis ?_
   refine callB cF ?_
   refine Zo tis ?_
   refine callB cM ?_
   exact Zc (Z2 tis @hx)
theorem fits_sRexOk (r : Rex) (hb : bd r ≤ 1048576) : Fits prog 20 [eRex false r] (.bool (rexB r)) []:=by
 have cF : Fits prog 56 [eRex false r,.int .i64 8] (.bool (fm 8 r)) []:=fits_sForm r 8 (by omega) hb
 cases h : fm 8 r with
 | false =>
  have hx : rexB r = false:=by simp [rexB,h]
  rw [h] at cF
  rw [eRex_eq] at *
  refine fits_of_code [2] [] [0,1,2] func20 rfl rfl rfl (by rfl) (by show 1 ≤ 10; decide) (by rfl) (by rfl) (by show 0 ≤ 1; decide) (by rfl) (run_of ?_)
  refine Zo tis ?_
  refine callB cF ?_
  exact Zc (Z2 tis @hx)
 | true =>
  have hp:=ps_le 8 r h
  have cM : Fits prog 57 [eRex false r,.int .i64 8] (.int .i64 (ps r)) []:=fits_sMany r 8 (by omega) h hb
  rw [h] at cF
  rw [eRex_eq] at *
  by_cases h2 : (ps r : Int) ≤ 24
  ·have hx : rexB r = true:=by simp only [rexB,h,Bool.true_and,decide_eq_true_eq]; omega
   refine fits_of_code [2] [] [0,1,2] func20 rfl rfl rfl (by rfl) (by show 1 ≤ 10; decide) (by rfl) (by rfl) (by show 0 ≤ 1; decide) (by rfl) (run_of ?_)
   refine Zo tis ?_
   refine callB cF ?_
   refine Zo tis ?_
   refine callB cM ?_
   exact Zc (Z2 tis @hx)
  ·have hx : rexB r = false:=by simp only [rexB,h,Bool.true_and,decide_eq_false_iff_not]; omega
   refine fits_of_code [2] [] [0,1,2] func20 rfl rfl rfl (by rfl) (by show 1 ≤ 10; decide) (by rfl) (by rfl) (by show 0 ≤ 1; decide) (by rfl) (run_of ?_)
   refine Zo tis ?_
   refine callB cF ?_
   refine Zo tis ?_
   refine callB cM ?_
   exact Zc (Z2 tis @hx)






theorem fits_l2Copy (r : Rex) (hb : bd r ≤ 1048576) : Fits prog 30 [eRex false r] (eRex true r) []:=by
 induction r using Rex.ind' with
 | h r ih =>
  have hb':=bd_eq r
  rw [eRex_eq,eRex_eq]
  refine fits_of_cell 2 30 [] [0,1,2,3,4,16] func30 rfl rfl rfl (by show 2 < 31; decide) (by show 1 ≤ 31; decide) (by rfl) (by rfl) (by show 0 ≤ 1; decide) (by rfl) (run_of ?_)
  refine Zo tis ?_
  refine .inl ⟨by kernel_rfl,?_⟩
  refine run_loop (α:=Nat) (fun i => i ≤ r.kids.length) (fun i => [(1,.box (.agg [.int .i64 r.kind,.sl false 2 (r.set.map eSpan),.sl false 3 (r.kids.map (eRex false))])),(2,.box (.agg [.int .i64 0,.sl true 2 [],.sl true 3 []])),(3,.box (.agg [.int .i64 r.kind,.sl true 2 (r.set.map eSpan),.sl true 3 ((r.kids.take i).map (eRex true))])),(4,.int .i64 i)]) (fun i => r.kids.length - i) 0 (Nat.zero_le _) ?_ ?_
  ·exact Zc (Z2 tis @LLmapnil)
  ·intro i hi'
   by_cases hi : i < r.kids.length
   ·have hm:=List.getElem_mem hi
    have cF:=ih r.kids[i] hm (Nat.le_trans (bd_kid hm) hb)
    rw [eRex_eq false r.kids[i],eRex_eq true r.kids[i]] at cF
    refine Zo (Z4 tis rx fls (eRex_eq false r.kids[i])) ?_
    refine .inl ⟨by kernel_rfl,?_⟩
    refine callL cF ?_
    have hlt : (r.kids.take i).length = i:=by simp; omega
    refine Zo (Z4 tis rx fls @hlt) ?_
    refine round_normal (i + 1) (by omega) ?_ (by show r.kids.length - (i + 1) < r.kids.length - i; omega)
    rw [List.take_succ_eq_append_getElem hi,List.map_append,List.map_cons,List.map_nil,eRex_eq true r.kids[i]]
    exact Zc tis
   ·obtain rfl : i = r.kids.length:=by omega
    exact Zc (Z3 tis rx fls)



theorem normR_bd (r : Rex) : Okr r → bd (normR r) ≤ bd r + 260 * ps r:=by
 induction r using Rex.ind' with
 | h r ih =>
  intro hr
  rw [normR_eq]
  have hps:=ps_eq r
  by_cases h2 : r.kind = 3 ∨ r.kind = 4 ∨ r.kind = 6
  ·obtain ⟨a,b,e,ha,hb,hl⟩:=okr_kids2 hr h2
   have p1:=(normR_ok a ha).1
   have p2:=ih a (by rw [e]; simp) ha
   have q1:=(normR_ok b hb).1
   have q2:=ih b (by rw [e]; simp) hb
   rw [e] at hps ⊢
   simp only [List.map_cons,List.map_nil,List.getD_cons_zero,List.getD_cons_succ,List.sum_cons,List.sum_nil] at *
   have c1:=(catN_ok (normR a) (normR b) p1 q1).2
   have c2:=(orN_ok p1 q1).2
   have c3:=(andN_ok p1 q1).2
   rcases h2 with h | h | h
   ·rw [if_pos h]; omega
   ·rw [if_neg (by omega),if_pos h]; omega
   ·rw [if_neg (by omega),if_neg (by omega),if_pos h]; omega
  ·simp only [not_or] at h2
   rw [if_neg h2.1,if_neg h2.2.1,if_neg h2.2.2]
   by_cases h1 : r.kind = 5 ∨ r.kind = 7
   ·obtain ⟨a,e,ha,hl⟩:=okr_kids1 hr h1
    have p1:=(normR_ok a ha).1
    have p2:=ih a (by rw [e]; simp) ha
    rw [e] at hps ⊢
    simp only [List.map_cons,List.map_nil,List.getD_cons_zero,List.sum_cons,List.sum_nil] at *
    have c1:=(starN_ok p1).2
    have c2:=(notN_ok p1).2
    rcases h1 with h | h
    ·rw [if_pos h]; omega
    ·rw [if_neg (by omega),if_pos h]; omega
   ·simp only [not_or] at h1
    rw [if_neg h1.1,if_neg h1.2]
    omega
theorem erL_vec (o : Bool) (l : List (List Rex)) : eraseL (l.map (eVec o)) = l.map (eVec false):=by
 rw [eraseL_map,List.map_map]; refine List.map_congr_left fun x _ => ?_; simp [eVec,erase,erL_rex]
theorem plL_vec (l : List (List Rex)) : plainL (l.map (eVec false)) = true:=by rw [plainL_all]; simp [eVec,plain,plL_rex]
theorem vx : (∀ o (l : List (List Rex)),eraseL (l.map (eVec o)) = l.map (eVec false)) ∧ (∀ l : List (List Rex),plainL (l.map (eVec false)) = true):=⟨erL_vec,plL_vec⟩
noncomputable def colS (A : List (List Rex)) (row : List Int) (x : List Rex) : Option (List (List Rex) × List Int) :=
 if atV A x < 0 ∧ goneV x = false then (if 40 ≤ A.length ∨ bigV x = true then none else some (A ++ [x],row ++ [(A.length : Int)]))
 else some (A,row ++ [if goneV x = true then -1 else atV A x])
noncomputable def rowF (v : List Rex) : List (List Span) → List (List Rex) → List Int → Option (List (List Rex) × List Int)
 | [],A,row => some (A,row)
 | p :: ps,A,row => match colS A row (vecR (firstB p) v) with | none => none | some z => rowF v ps z.1 z.2
noncomputable def machF (P : List (List Span)) : Nat → Nat → List (List Rex) → List (List Int) → List Int → Option Dfa
 | 0,_,_,_,_ => none
 | n + 1,s,A,rows,acc => match A[s]? with
  | none => some ⟨P,rows,acc⟩
  | some v => match rowF v P A [] with | none => none | some z => machF P n (s + 1) z.1 (rows ++ [z.2]) (acc ++ [accV v])
def setsV (l : List Rule) : List (List Span):=(l.map fun x => setsR x.rex).flatten
def startV (l : List Rule) : List Rex:=l.map fun x => normR x.rex
noncomputable def dfaOfV (l : List Rule) : Option Dfa:=machF (partsL (setsV l)) 41 0 [startV l] [] []
def zDfa : Dfa:=⟨[],[],[]⟩
structure VOk (n : Nat) (v : List Rex) : Prop where
 len : v.length = n
 ok : ∀ r ∈ v,Okr r ∧ gB (bd r) ≤ 500000000
theorem VOk.vbd {n : Nat} {v : List Rex} (h : VOk n v) : ∀ r ∈ v,Okr r ∧ bd r ≤ 1099511627776:=fun r hr => by
 obtain ⟨a,b⟩:=h.ok r hr
 rw [gB_eq] at b
 exact ⟨a,by omega⟩
theorem vec_bd {n : Nat} {v : List Rex} (h : VOk n v) (b : Int) : ∀ r ∈ vecR b v,Okr r ∧ bd r ≤ 1099511627776:=fun r hr => by
 unfold vecR at hr
 obtain ⟨x,hx,rfl⟩:=List.mem_map.1 hr
 obtain ⟨a,c⟩:=h.ok x hx
 obtain ⟨d,e⟩:=derR_ok b x a
 exact ⟨d,by omega⟩
theorem vec_ok {n : Nat} {v : List Rex} (h : VOk n v) (b : Int) (hb : bigV (vecR b v) = false) : VOk n (vecR b v):=by
 refine ⟨by unfold vecR; rw [List.length_map]; exact h.len,fun r hr => ?_⟩
 have ho:=(vec_bd h b r hr).1
 unfold bigV at hb
 rw [List.any_eq_false] at hb
 have:=bigR_no (by simpa using hb r hr) ho
 have:=gB_mono this
 exact ⟨ho,Nat.le_trans this (by decide)⟩
theorem colS_ok {n : Nat} {A : List (List Rex)} {row : List Int} {v : List Rex} {b : Int} {z} (hv : VOk n v) (hA : ∀ u ∈ A,VOk n u) (hl : A.length ≤ 40) (h : colS A row (vecR b v) = some z) :
  (∀ u ∈ z.1,VOk n u) ∧ z.1.length ≤ 40 ∧ A <+: z.1 ∧ z.2.length = row.length + 1:=by
 unfold colS at h
 split at h
 ·split at h
  ·cases h
  ·rename_i hc
   simp only [Option.some.injEq] at h; subst h
   rw [not_or] at hc
   have hb : bigV (vecR b v) = false:=by simpa using hc.2
   refine ⟨fun u hu => ?_,by simp only [List.length_append,List.length_singleton]; omega,List.prefix_append _ _,by simp⟩
   rcases List.mem_append.1 hu with hu | hu
   ·exact hA u hu
   ·simp at hu; subst hu; exact vec_ok hv b hb
 ·simp only [Option.some.injEq] at h; subst h
  exact ⟨hA,hl,List.prefix_refl _,by simp⟩
theorem rowF_at {v : List Rex} {P : List (List Span)} {k : Nat} {A : List (List Rex)} {row : List Int} (h : k < P.length) : rowF v (P.drop k) A row = match colS A row (vecR (firstB P[k]) v) with | none => none | some z => rowF v (P.drop (k + 1)) z.1 z.2:=by
 rw [List.drop_eq_getElem_cons h]; rfl
theorem machF_at {P : List (List Span)} {n s : Nat} {A : List (List Rex)} {rows : List (List Int)} {acc : List Int} (h : s < A.length) : machF P (n + 1) s A rows acc = match rowF A[s] P A [] with | none => none | some z => machF P n (s + 1) z.1 (rows ++ [z.2]) (acc ++ [accV A[s]]):=by
 rw [machF,List.getElem?_eq_getElem h]
def eDfa2 (d : Dfa) : AV:=.agg [.sl true 1 (d.parts.map (eSpans false)),.sl true 1 (d.rows.map (eInts true)),.sl true 1 (d.acc.map eInt)]
theorem er_dfa2 (d : Dfa) : erase (eDfa2 d) = eDfa false d:=by simp [eDfa2,eDfa,erase,eraseL,dx,fls]
structure ROk (l : List Rule) : Prop where
 len : l.length ≤ 5
 pos : 0 < l.length
 ok : ∀ x ∈ l,Okr x.rex ∧ ps x.rex ≤ 24
theorem ROk.rbd {l : List Rule} (h : ROk l) : ∀ x ∈ l,Okr x.rex ∧ bd x.rex ≤ 3095:=fun x hx => by
 obtain ⟨a,b⟩:=h.ok x hx
 have:=bd_ps x.rex a
 exact ⟨a,by omega⟩
theorem ROk.start {l : List Rule} (h : ROk l) : VOk l.length (startV l):=by
 refine ⟨by unfold startV; simp,fun r hr => ?_⟩
 unfold startV at hr
 obtain ⟨x,hx,rfl⟩:=List.mem_map.1 hr
 obtain ⟨a,b⟩:=h.ok x hx
 have h1:=(h.rbd x hx).2
 have h2:=normR_bd x.rex a
 exact ⟨(normR_ok x.rex a).1,Nat.le_trans (gB_mono (show bd (normR x.rex) ≤ 9335 by omega)) (by decide)⟩
theorem sets_le {l : List Rule} (h : ROk l) (i : Nat) : (setsV (l.take i)).length ≤ 15480 ∧ ∀ p ∈ setsV (l.take i),p.length ≤ 1048576:=by
 have key : ∀ m : List Rule,(∀ x ∈ m,Okr x.rex ∧ bd x.rex ≤ 3095) → (setsV m).length ≤ 3096 * m.length ∧ ∀ p ∈ setsV m,p.length ≤ 1048576:=by
  intro m
  induction m with
  | nil => intro; simp [setsV]
  | cons x m ih =>
   intro hm
   have a:=hm x (List.mem_cons_self ..)
   obtain ⟨b1,b2⟩:=ih (fun y hy => hm y (List.mem_cons_of_mem _ hy))
   have c:=setsR_len x.rex
   have d:=setsR_mem x.rex
   unfold setsV at *
   simp only [List.map_cons,List.flatten_cons,List.length_append,List.length_cons,List.mem_append]
   refine ⟨by omega,fun p hp => ?_⟩
   rcases hp with hp | hp
   ·have:=d p hp; omega
   ·exact b2 p hp
 obtain ⟨a,b⟩:=key (l.take i) (fun x hx => h.rbd x (List.mem_of_mem_take hx))
 have:=h.len
 rw [List.length_take] at a
 exact ⟨by omega,b⟩
theorem setsV_s {l : List Rule} {i : Nat} (h : i < l.length) : setsV (l.take (i + 1)) = setsV (l.take i) ++ setsR l[i].rex:=by
 unfold setsV; rw [List.take_succ_eq_append_getElem h,List.map_append,List.flatten_append]; simp
theorem startV_s {l : List Rule} {i : Nat} (h : i < l.length) : startV (l.take (i + 1)) = startV (l.take i) ++ [normR l[i].rex]:=by
 unfold startV; rw [List.take_succ_eq_append_getElem h,List.map_append]; rfl
structure MG where
 n : Nat
 s : Nat
 A : List (List Rex)
 rows : List (List Int)
 acc : List Int
structure MI (P : List (List Span)) (L : Nat) (R : Option Dfa) (g : MG) : Prop where
 eq : R = machF P g.n g.s g.A g.rows g.acc
 ns : g.n + g.s = 41
 sl : g.s ≤ g.A.length
 len : g.A.length ≤ 40
 ok : ∀ u ∈ g.A,VOk L u
 rl : g.rows.length = g.s
 al : g.acc.length = g.s
 rc : ∀ r ∈ g.rows,r.length = P.length
structure RG where
 k : Nat
 A : List (List Rex)
 row : List Int
structure RI (P : List (List Span)) (L : Nat) (v : List Rex) (s : Nat) (R : Option (List (List Rex) × List Int)) (g : RG) : Prop where
 eq : R = rowF v (P.drop g.k) g.A g.row
 kl : g.k ≤ P.length
 len : g.A.length ≤ 40
 ok : ∀ u ∈ g.A,VOk L u
 at_ : g.A[s]? = some v
 rl : g.row.length = g.k
theorem fits_l7Of2 (l : List Rule) (h : ROk l) : Fits prog 97 [.sl false 4 (l.map (eRule false))] (.tup [eDfa2 ((dfaOfV l).getD zDfa),.bool (dfaOfV l).isSome]) []:=by
 have h5:=h.len
 have hst:=h.start
 obtain ⟨hp1,hp2⟩:=partsL_ok (setsV l)
 have hp3 : ∀ p ∈ partsL (setsV l),p.length ≤ 1048576:=fun p hp => by
  have:=setB_256 (hp2 p hp).1; omega
 obtain ⟨q1,q2⟩:=sets_le h l.length
 rw [List.take_length] at q1 q2
 have cP : Fits prog 115 [.sl true 1 ((setsV l).map (eSpans false))] (.sl true 1 ((partsL (setsV l)).map (eSpans false))) []:=fits_take (by simpa only [eraseL,erase,erL_spans] using fits_sSetParts (setsV l) (by omega) q2)
 have hR : dfaOfV l = machF (partsL (setsV l)) 41 0 [startV l] [] []:=rfl
 generalize dfaOfV l = R at *
 unfold eDfa2
 refine fits_of_pair 2 73 3 [] [0,2,3,4,5,6,7,8,9,10,11,12,13,19,48,56,79,86,95] func97 rfl rfl rfl (by show 2 < 117; decide) (by show 3 < 117; decide) (by show 1 ≤ 117; decide) (by rfl) (by rfl) (by show 0 ≤ 1; decide) (by rfl) (run_of ?_)
 (first | refine Zo (Z2 tis fls) ?_ | exact Zc (Z2 tis fls))
 refine run_loop (α:=Nat) (fun i => i ≤ l.length) (fun i => [(0,.sl false 4 (l.map (eRule false))),(2,.box (.agg [.sl true 1 [],.sl true 1 [],.sl true 1 []])),(4,.sl true 1 ((setsV (l.take i)).map (eSpans false))),(5,.sl true 3 ((startV (l.take i)).map (eRex false))),(6,.int .i64 i)]) (fun i => l.length - i) 0 (Nat.zero_le _) ?_ ?_
 ·have e1 : setsV (l.take 0) = []:=rfl
  have e2 : startV (l.take 0) = []:=rfl
  rw [e1,e2]
  (first | refine Zo (Z2 tis @LLmapnil) ?_ | exact Zc (Z2 tis @LLmapnil))
 ·intro i hi'
  obtain ⟨z1,z2⟩:=sets_le h i
  have z3 : (startV (l.take i)).length ≤ 5:=by unfold startV; simp; omega
  by_cases hi : i < l.length
  ·obtain ⟨o1,o2⟩:=h.rbd _ (List.getElem_mem hi)
   have e1:=setsV_s hi
   have e2:=startV_s hi
   have lS:=setsR_len l[i].rex
   have cS:=fits_l2Sets l[i].rex (by omega)
   have cC:=fits_l2Copy l[i].rex (by omega)
   have cN : Fits prog 51 [eRex true l[i].rex] (eRex false (normR l[i].rex)) []:=fits_take (by simpa only [eraseL,er_rex] using fits_l4Norm l[i].rex o1 (by omega))
   have er:=eRule_eq false l[i]
   generalize normR l[i].rex = N at *
   rw [eRex_eq false l[i].rex] at cS cC
   rw [eRex_eq true l[i].rex] at cC cN
   have eN:=eRex_eq false N
   rw [eN] at cN
   (repeat (first | refine callL cS ?_ | refine callB cS ?_ | refine callL cC ?_ | refine callB cC ?_ | refine callV cN ?_ | refine Zo (Z7 tis fls rx @dx @ux @er Zi) ?_ | refine .inl ⟨by kernel_rfl,?_⟩ | exact .inl (by show _ = _; kernel_rfl) | exact Zc (Z7 tis fls rx @dx @ux @er Zi)))
   refine round_normal (i + 1) (by omega) ?_ (by show l.length - (i + 1) < l.length - i; omega)
   rw [e1,e2,List.map_append,List.map_append,List.map_cons,List.map_nil,eN]
   (first | refine Zo tis ?_ | exact Zc tis)
  ·obtain rfl : i = l.length:=by omega
   rw [List.take_length] at *
   (repeat (first | refine callV cP ?_ | refine Zo (Z6 tis fls rx @dx @ux Zi) ?_ | refine .inl ⟨by kernel_rfl,?_⟩ | exact .inl (by show _ = _; kernel_rfl) | exact Zc (Z6 tis fls rx @dx @ux Zi)))
   generalize partsL (setsV l) = P at *
   generalize hD : R.getD zDfa = D
   generalize hS : R.isSome = S
   have hL : startV l = [] ∨ startV l ≠ []:=Classical.em _
   have hv0 : (startV l).length ≤ 5:=z3
   have zp : zDfa.parts = []:=rfl
   have zr : zDfa.rows = []:=rfl
   have za : zDfa.acc = []:=rfl
   generalize hLl : l.length = L at *
   refine run_loopF [(8,[0])] (α:=MG) (MI P L R) (fun g => [(2,.box (.agg [.sl true 1 [],.sl true 1 [],.sl true 1 []])),(7,.box (.agg [.sl true 1 (P.map (eSpans false)),.sl true 1 (g.rows.map (eInts true)),.sl true 1 (g.acc.map eInt)])),(8,.sl true 1 (g.A.map (eVec false))),(9,.int .i64 g.s)]) (fun g => g.n) ⟨41,0,[startV l],[],[]⟩ ⟨hR,rfl,Nat.zero_le _,by simp,by simpa using hst,rfl,rfl,by simp⟩ ?_ ?_
   ·simp only [List.map_cons,List.map_nil,eVec]
    (first | refine Zo (Z4 tis fls rx @dx) ?_ | exact Zc (Z4 tis fls rx @dx))
   ·rintro ⟨n,s,A,rows,acc⟩ ⟨m1,m2,m3,m4,m5,m6,m7,m8⟩
    simp only at m1 m2 m3 m4 m5 m6 m7 m8
    by_cases hs : s < A.length
    ·obtain ⟨n,rfl⟩ : ∃ k,n = k + 1:=⟨n - 1,by omega⟩
     rw [machF_at hs] at m1
     have hv:=m5 _ (List.getElem_mem hs)
     obtain ⟨gv1,gv2⟩:=vec_ext A s hs
     have hat : A[s]? = some A[s]:=List.getElem?_eq_getElem hs
     generalize A[s] = v at *
     generalize hQ : rowF v P A [] = Q at *
     (first | refine Zo (Z5 tis fls rx @dx @vx) ?_ | exact Zc (Z5 tis fls rx @dx @vx))
     refine run_loop (α:=RG) (RI P L v s Q) (fun g => [(2,.box (.agg [.sl true 1 [],.sl true 1 [],.sl true 1 []])),(7,.box (.agg [.sl true 1 (P.map (eSpans false)),.sl true 1 (rows.map (eInts true)),.sl true 1 (acc.map eInt)])),(8,.sl true 1 (g.A.map (eVec false))),(9,.int .i64 s),(10,.sl true 1 (g.row.map eInt)),(11,.int .i64 g.k)]) (fun g => P.length - g.k) ⟨0,A,[]⟩ ⟨hQ.symm,Nat.zero_le _,m4,m5,hat,rfl⟩ ?_ ?_
     ·(first | refine Zo (Z2 tis @LLmapnil) ?_ | exact Zc (Z2 tis @LLmapnil))
     ·rintro ⟨k,B,row⟩ ⟨r1,r2,r3,r4,r5,r6⟩
      simp only at r1 r2 r3 r4 r5 r6
      obtain ⟨hsB,hBs⟩:=List.getElem?_eq_some_iff.1 r5
      obtain ⟨gb1,gb2⟩:=vec_ext B s hsB
      rw [hBs] at gb1 gb2
      by_cases hk : k < P.length
      ·rw [rowF_at hk] at r1
       have cF:=fits_sSetFirst P[k] (hp3 _ (List.getElem_mem hk))
       have gp : (P.map (eSpans false)).getD k .undef = .sl false 2 (P[k].map eSpan):=by simp [List.getD,hk,eSpans]
       have gp2 : (P.map (eSpans false))[k]? = some (.sl false 2 (P[k].map eSpan)):=by simp [hk,eSpans]
       generalize P[k] = p at *
       generalize firstB p = b at *
       have cV : Fits prog 116 [.sl false 3 (v.map (eRex false)),.int .i64 b] (.sl false 3 ((vecR b v).map (eRex false))) []:=fits_as (fits_l7Vec b v hv.ok (by have:=hv.len; omega)) (by simp [erase,erL_rex])
       have xb:=vec_bd hv b
       have xl : (vecR b v).length = L:=by unfold vecR; rw [List.length_map]; exact hv.len
       have hco:=fun z => colS_ok (row:=row) (z:=z) hv r4 r3 (b:=b)
       have cA:=fits_l7At B (vecR b v) (by omega) (by omega) (fun u hu => by rw [xl]; exact (r4 u hu).len) (fun u hu r hr => ((r4 u hu).vbd r hr).2)
       have cG:=fits_l7Gone (vecR b v) (by omega) (fun r hr => (xb r hr).2)
       have cB:=fits_l7Big (vecR b v) (by omega) (fun r hr => (xb r hr).2)
       have hat2:=first_lt (fun u => decide (u = vecR b v)) B
       change -1 ≤ atV B (vecR b v) ∧ atV B (vecR b v) < B.length at hat2
       have hcs : colS B row (vecR b v) = if atV B (vecR b v) < 0 ∧ goneV (vecR b v) = false then (if 40 ≤ B.length ∨ bigV (vecR b v) = true then none else some (B ++ [vecR b v],row ++ [(B.length : Int)])) else some (B,row ++ [if goneV (vecR b v) = true then -1 else atV B (vecR b v)]):=rfl
       generalize hX : vecR b v = x at *
       generalize atV B x = t at *
       generalize goneV x = g at *
       generalize bigV x = q at *
       have hx2 : eVec false x = .sl false 3 (x.map (eRex false)):=rfl
       have fin : ∀ B' row' (hc : colS B row x = some (B',row')),RI P L v s Q ⟨k + 1,B',row'⟩:=fun B' row' hc => by
        obtain ⟨w1,w2,w3,w4⟩:=hco _ hc
        rw [hc] at r1
        exact ⟨r1,hk,w2,w1,by obtain ⟨tl,rfl⟩:=w3; rw [List.getElem?_append_left hsB]; exact r5,by simp only at w4 ⊢; omega⟩
       have hk40 : ∀ h : 40 ≤ B.length,(40 : Int) ≤ B.length:=fun h => by omega
       have hn40 : ∀ h : ¬ 40 ≤ B.length,¬ (40 : Int) ≤ B.length:=fun h => by omega
       cases g with
       | true =>
        rw [if_neg (by simp),if_pos rfl] at hcs
        have F:=fin _ _ hcs
        have er : (row ++ [(-1 : Int)]).map eInt = row.map eInt ++ [.int .i64 (-1)]:=by simp [eInt]
        by_cases ht : t < 0
        all_goals
         (repeat (first | refine Zo (Z11 tis fls rx @dx @vx @gb1 @gb2 @gp @gp2 @ht Zi) ?_ | refine .inl ⟨by kernel_rfl,?_⟩ | exact .inl (by show _ = _; kernel_rfl) | exact Zc (Z11 tis fls rx @dx @vx @gb1 @gb2 @gp @gp2 @ht Zi)); try ((first | refine callL cF ?_ | refine callB cF ?_); repeat (first | refine Zo (Z11 tis fls rx @dx @vx @gb1 @gb2 @gp @gp2 @ht Zi) ?_ | refine .inl ⟨by kernel_rfl,?_⟩ | exact .inl (by show _ = _; kernel_rfl) | exact Zc (Z11 tis fls rx @dx @vx @gb1 @gb2 @gp @gp2 @ht Zi))); try ((first | refine callL cV ?_ | refine callB cV ?_); repeat (first | refine Zo (Z11 tis fls rx @dx @vx @gb1 @gb2 @gp @gp2 @ht Zi) ?_ | refine .inl ⟨by kernel_rfl,?_⟩ | exact .inl (by show _ = _; kernel_rfl) | exact Zc (Z11 tis fls rx @dx @vx @gb1 @gb2 @gp @gp2 @ht Zi))); try ((first | refine callL cA ?_ | refine callB cA ?_); repeat (first | refine Zo (Z11 tis fls rx @dx @vx @gb1 @gb2 @gp @gp2 @ht Zi) ?_ | refine .inl ⟨by kernel_rfl,?_⟩ | exact .inl (by show _ = _; kernel_rfl) | exact Zc (Z11 tis fls rx @dx @vx @gb1 @gb2 @gp @gp2 @ht Zi))); try ((first | refine callL cG ?_ | refine callB cG ?_); repeat (first | refine Zo (Z11 tis fls rx @dx @vx @gb1 @gb2 @gp @gp2 @ht Zi) ?_ | refine .inl ⟨by kernel_rfl,?_⟩ | exact .inl (by show _ = _; kernel_rfl) | exact Zc (Z11 tis fls rx @dx @vx @gb1 @gb2 @gp @gp2 @ht Zi))); try ((first | refine callL cG ?_ | refine callB cG ?_); repeat (first | refine Zo (Z11 tis fls rx @dx @vx @gb1 @gb2 @gp @gp2 @ht Zi) ?_ | refine .inl ⟨by kernel_rfl,?_⟩ | exact .inl (by show _ = _; kernel_rfl) | exact Zc (Z11 tis fls rx @dx @vx @gb1 @gb2 @gp @gp2 @ht Zi))))
         refine round_normal ⟨k + 1,_,_⟩ F ?_ (by show P.length - (k + 1) < P.length - k; omega)
         rw [er]
         (first | refine Zo tis ?_ | exact Zc tis)
       | false =>
        by_cases ht : t < 0
        ·rw [if_pos ⟨ht,rfl⟩] at hcs
         by_cases h40 : 40 ≤ B.length
         ·rw [if_pos (.inl h40)] at hcs
          rw [hcs] at r1
          simp only at r1
          have e40:=hk40 h40
          rw [r1] at m1
          simp only at m1
          obtain rfl : D = zDfa:=by rw [← hD,m1]; rfl
          obtain rfl : S = false:=by rw [← hS,m1]; rfl
          simp only [zp,zr,za,List.map_nil]
          (repeat (first | refine Zo (Z13 tis fls rx @dx @vx @gb1 @gb2 @gp @gp2 @ht @e40 retCB.eq_1 Zi) ?_ | refine .inl ⟨by kernel_rfl,?_⟩ | exact .inl (by show _ = _; kernel_rfl) | exact Zc (Z13 tis fls rx @dx @vx @gb1 @gb2 @gp @gp2 @ht @e40 retCB.eq_1 Zi)); try ((first | refine callL cF ?_ | refine callB cF ?_); repeat (first | refine Zo (Z13 tis fls rx @dx @vx @gb1 @gb2 @gp @gp2 @ht @e40 retCB.eq_1 Zi) ?_ | refine .inl ⟨by kernel_rfl,?_⟩ | exact .inl (by show _ = _; kernel_rfl) | exact Zc (Z13 tis fls rx @dx @vx @gb1 @gb2 @gp @gp2 @ht @e40 retCB.eq_1 Zi))); try ((first | refine callL cV ?_ | refine callB cV ?_); repeat (first | refine Zo (Z13 tis fls rx @dx @vx @gb1 @gb2 @gp @gp2 @ht @e40 retCB.eq_1 Zi) ?_ | refine .inl ⟨by kernel_rfl,?_⟩ | exact .inl (by show _ = _; kernel_rfl) | exact Zc (Z13 tis fls rx @dx @vx @gb1 @gb2 @gp @gp2 @ht @e40 retCB.eq_1 Zi))); try ((first | refine callL cA ?_ | refine callB cA ?_); repeat (first | refine Zo (Z13 tis fls rx @dx @vx @gb1 @gb2 @gp @gp2 @ht @e40 retCB.eq_1 Zi) ?_ | refine .inl ⟨by kernel_rfl,?_⟩ | exact .inl (by show _ = _; kernel_rfl) | exact Zc (Z13 tis fls rx @dx @vx @gb1 @gb2 @gp @gp2 @ht @e40 retCB.eq_1 Zi))); try ((first | refine callL cG ?_ | refine callB cG ?_); repeat (first | refine Zo (Z13 tis fls rx @dx @vx @gb1 @gb2 @gp @gp2 @ht @e40 retCB.eq_1 Zi) ?_ | refine .inl ⟨by kernel_rfl,?_⟩ | exact .inl (by show _ = _; kernel_rfl) | exact Zc (Z13 tis fls rx @dx @vx @gb1 @gb2 @gp @gp2 @ht @e40 retCB.eq_1 Zi))))
         ·have e40:=hn40 h40
          cases q with
          | true =>
           rw [if_pos (.inr rfl)] at hcs
           rw [hcs] at r1
           simp only at r1
           rw [r1] at m1
           simp only at m1
           obtain rfl : D = zDfa:=by rw [← hD,m1]; rfl
           obtain rfl : S = false:=by rw [← hS,m1]; rfl
           simp only [zp,zr,za,List.map_nil]
           (repeat (first | refine Zo (Z13 tis fls rx @dx @vx @gb1 @gb2 @gp @gp2 @ht @e40 retCB.eq_1 Zi) ?_ | refine .inl ⟨by kernel_rfl,?_⟩ | exact .inl (by show _ = _; kernel_rfl) | exact Zc (Z13 tis fls rx @dx @vx @gb1 @gb2 @gp @gp2 @ht @e40 retCB.eq_1 Zi)); try ((first | refine callL cF ?_ | refine callB cF ?_); repeat (first | refine Zo (Z13 tis fls rx @dx @vx @gb1 @gb2 @gp @gp2 @ht @e40 retCB.eq_1 Zi) ?_ | refine .inl ⟨by kernel_rfl,?_⟩ | exact .inl (by show _ = _; kernel_rfl) | exact Zc (Z13 tis fls rx @dx @vx @gb1 @gb2 @gp @gp2 @ht @e40 retCB.eq_1 Zi))); try ((first | refine callL cV ?_ | refine callB cV ?_); repeat (first | refine Zo (Z13 tis fls rx @dx @vx @gb1 @gb2 @gp @gp2 @ht @e40 retCB.eq_1 Zi) ?_ | refine .inl ⟨by kernel_rfl,?_⟩ | exact .inl (by show _ = _; kernel_rfl) | exact Zc (Z13 tis fls rx @dx @vx @gb1 @gb2 @gp @gp2 @ht @e40 retCB.eq_1 Zi))); try ((first | refine callL cA ?_ | refine callB cA ?_); repeat (first | refine Zo (Z13 tis fls rx @dx @vx @gb1 @gb2 @gp @gp2 @ht @e40 retCB.eq_1 Zi) ?_ | refine .inl ⟨by kernel_rfl,?_⟩ | exact .inl (by show _ = _; kernel_rfl) | exact Zc (Z13 tis fls rx @dx @vx @gb1 @gb2 @gp @gp2 @ht @e40 retCB.eq_1 Zi))); try ((first | refine callL cG ?_ | refine callB cG ?_); repeat (first | refine Zo (Z13 tis fls rx @dx @vx @gb1 @gb2 @gp @gp2 @ht @e40 retCB.eq_1 Zi) ?_ | refine .inl ⟨by kernel_rfl,?_⟩ | exact .inl (by show _ = _; kernel_rfl) | exact Zc (Z13 tis fls rx @dx @vx @gb1 @gb2 @gp @gp2 @ht @e40 retCB.eq_1 Zi))); try ((first | refine callL cB ?_ | refine callB cB ?_); repeat (first | refine Zo (Z13 tis fls rx @dx @vx @gb1 @gb2 @gp @gp2 @ht @e40 retCB.eq_1 Zi) ?_ | refine .inl ⟨by kernel_rfl,?_⟩ | exact .inl (by show _ = _; kernel_rfl) | exact Zc (Z13 tis fls rx @dx @vx @gb1 @gb2 @gp @gp2 @ht @e40 retCB.eq_1 Zi))))
          | false =>
           rw [if_neg (by simpa using h40)] at hcs
           have F:=fin _ _ hcs
           have er : (row ++ [(B.length : Int)]).map eInt = row.map eInt ++ [.int .i64 B.length]:=by simp [eInt]
           (repeat (first | refine Zo (Z12 tis fls rx @dx @vx @gb1 @gb2 @gp @gp2 @ht @e40 Zi) ?_ | refine .inl ⟨by kernel_rfl,?_⟩ | exact .inl (by show _ = _; kernel_rfl) | exact Zc (Z12 tis fls rx @dx @vx @gb1 @gb2 @gp @gp2 @ht @e40 Zi)); try ((first | refine callL cF ?_ | refine callB cF ?_); repeat (first | refine Zo (Z12 tis fls rx @dx @vx @gb1 @gb2 @gp @gp2 @ht @e40 Zi) ?_ | refine .inl ⟨by kernel_rfl,?_⟩ | exact .inl (by show _ = _; kernel_rfl) | exact Zc (Z12 tis fls rx @dx @vx @gb1 @gb2 @gp @gp2 @ht @e40 Zi))); try ((first | refine callL cV ?_ | refine callB cV ?_); repeat (first | refine Zo (Z12 tis fls rx @dx @vx @gb1 @gb2 @gp @gp2 @ht @e40 Zi) ?_ | refine .inl ⟨by kernel_rfl,?_⟩ | exact .inl (by show _ = _; kernel_rfl) | exact Zc (Z12 tis fls rx @dx @vx @gb1 @gb2 @gp @gp2 @ht @e40 Zi))); try ((first | refine callL cA ?_ | refine callB cA ?_); repeat (first | refine Zo (Z12 tis fls rx @dx @vx @gb1 @gb2 @gp @gp2 @ht @e40 Zi) ?_ | refine .inl ⟨by kernel_rfl,?_⟩ | exact .inl (by show _ = _; kernel_rfl) | exact Zc (Z12 tis fls rx @dx @vx @gb1 @gb2 @gp @gp2 @ht @e40 Zi))); try ((first | refine callL cG ?_ | refine callB cG ?_); repeat (first | refine Zo (Z12 tis fls rx @dx @vx @gb1 @gb2 @gp @gp2 @ht @e40 Zi) ?_ | refine .inl ⟨by kernel_rfl,?_⟩ | exact .inl (by show _ = _; kernel_rfl) | exact Zc (Z12 tis fls rx @dx @vx @gb1 @gb2 @gp @gp2 @ht @e40 Zi))); try ((first | refine callL cB ?_ | refine callB cB ?_); repeat (first | refine Zo (Z12 tis fls rx @dx @vx @gb1 @gb2 @gp @gp2 @ht @e40 Zi) ?_ | refine .inl ⟨by kernel_rfl,?_⟩ | exact .inl (by show _ = _; kernel_rfl) | exact Zc (Z12 tis fls rx @dx @vx @gb1 @gb2 @gp @gp2 @ht @e40 Zi))); try ((first | refine callL cG ?_ | refine callB cG ?_); repeat (first | refine Zo (Z12 tis fls rx @dx @vx @gb1 @gb2 @gp @gp2 @ht @e40 Zi) ?_ | refine .inl ⟨by kernel_rfl,?_⟩ | exact .inl (by show _ = _; kernel_rfl) | exact Zc (Z12 tis fls rx @dx @vx @gb1 @gb2 @gp @gp2 @ht @e40 Zi))))
           refine round_normal ⟨k + 1,_,_⟩ F ?_ (by show P.length - (k + 1) < P.length - k; omega)
           rw [er,List.map_append,List.map_cons,List.map_nil,hx2]
           (first | refine Zo tis ?_ | exact Zc tis)
        ·rw [if_neg (fun h => ht h.1),if_neg (by decide)] at hcs
         have F:=fin _ _ hcs
         have er : (row ++ [t]).map eInt = row.map eInt ++ [.int .i64 t]:=by simp [eInt]
         (repeat (first | refine Zo (Z11 tis fls rx @dx @vx @gb1 @gb2 @gp @gp2 @ht Zi) ?_ | refine .inl ⟨by kernel_rfl,?_⟩ | exact .inl (by show _ = _; kernel_rfl) | exact Zc (Z11 tis fls rx @dx @vx @gb1 @gb2 @gp @gp2 @ht Zi)); try ((first | refine callL cF ?_ | refine callB cF ?_); repeat (first | refine Zo (Z11 tis fls rx @dx @vx @gb1 @gb2 @gp @gp2 @ht Zi) ?_ | refine .inl ⟨by kernel_rfl,?_⟩ | exact .inl (by show _ = _; kernel_rfl) | exact Zc (Z11 tis fls rx @dx @vx @gb1 @gb2 @gp @gp2 @ht Zi))); try ((first | refine callL cV ?_ | refine callB cV ?_); repeat (first | refine Zo (Z11 tis fls rx @dx @vx @gb1 @gb2 @gp @gp2 @ht Zi) ?_ | refine .inl ⟨by kernel_rfl,?_⟩ | exact .inl (by show _ = _; kernel_rfl) | exact Zc (Z11 tis fls rx @dx @vx @gb1 @gb2 @gp @gp2 @ht Zi))); try ((first | refine callL cA ?_ | refine callB cA ?_); repeat (first | refine Zo (Z11 tis fls rx @dx @vx @gb1 @gb2 @gp @gp2 @ht Zi) ?_ | refine .inl ⟨by kernel_rfl,?_⟩ | exact .inl (by show _ = _; kernel_rfl) | exact Zc (Z11 tis fls rx @dx @vx @gb1 @gb2 @gp @gp2 @ht Zi))); try ((first | refine callL cG ?_ | refine callB cG ?_); repeat (first | refine Zo (Z11 tis fls rx @dx @vx @gb1 @gb2 @gp @gp2 @ht Zi) ?_ | refine .inl ⟨by kernel_rfl,?_⟩ | exact .inl (by show _ = _; kernel_rfl) | exact Zc (Z11 tis fls rx @dx @vx @gb1 @gb2 @gp @gp2 @ht Zi))))
         refine round_normal ⟨k + 1,_,_⟩ F ?_ (by show P.length - (k + 1) < P.length - k; omega)
         rw [er]
         (first | refine Zo tis ?_ | exact Zc tis)
      ·obtain rfl : k = P.length:=by omega
       rw [List.drop_length] at r1
       simp only [rowF] at r1
       rw [r1] at m1
       simp only at m1
       have cC:=fits_l7Acc v (by have:=hv.len; omega) hv.vbd
       have eI : ∀ z : List Int,eInts true z = .sl true 1 (z.map eInt):=fun _ => rfl
       have eT : ∀ z : Int,eInt z = .int .i64 z:=fun _ => rfl
       generalize accV v = ac at *
       (repeat (first | refine Zo (Z8 tis fls rx @dx @vx @gb1 @gb2 Zi) ?_ | refine .inl ⟨by kernel_rfl,?_⟩ | exact .inl (by show _ = _; kernel_rfl) | exact Zc (Z8 tis fls rx @dx @vx @gb1 @gb2 Zi)); try ((first | refine callL cC ?_ | refine callB cC ?_); repeat (first | refine Zo (Z8 tis fls rx @dx @vx @gb1 @gb2 Zi) ?_ | refine .inl ⟨by kernel_rfl,?_⟩ | exact .inl (by show _ = _; kernel_rfl) | exact Zc (Z8 tis fls rx @dx @vx @gb1 @gb2 Zi))))
       refine round_normal ⟨n,s + 1,B,rows ++ [row],acc ++ [ac]⟩ ⟨m1,by simp only; omega,by simp only; omega,r3,r4,by simp [m6],by simp [m7],fun r hr => ?_⟩ ?_ (by show n < n + 1; omega)
       ·rcases List.mem_append.1 hr with hr | hr
        ·exact m8 r hr
        ·simp at hr; subst hr; exact r6
       ·simp only [List.map_append,List.map_cons,List.map_nil,eI,eT]
        (first | refine Zo tis ?_ | exact Zc tis)
    ·obtain rfl : s = A.length:=by omega
     have hn : n ≠ 0:=by omega
     obtain ⟨n,rfl⟩ : ∃ k,n = k + 1:=⟨n - 1,by omega⟩
     have e : machF P (n + 1) A.length A rows acc = some ⟨P,rows,acc⟩:=by rw [machF,List.getElem?_eq_none (Nat.le_refl _)]
     rw [e] at m1
     obtain rfl : D = ⟨P,rows,acc⟩:=by rw [← hD,m1]; rfl
     obtain rfl : S = true:=by rw [← hS,m1]; rfl
     dsimp only
     (repeat (first | refine Zo (Z7 tis fls rx @dx @vx retCB.eq_1 Zi) ?_ | refine .inl ⟨by kernel_rfl,?_⟩ | exact .inl (by show _ = _; kernel_rfl) | exact Zc (Z7 tis fls rx @dx @vx retCB.eq_1 Zi)))
theorem fits_l7Of (l : List Rule) (h : ROk l) : Fits prog 97 [.sl false 4 (l.map (eRule false))] (.tup [eDfa false ((dfaOfV l).getD zDfa),.bool (dfaOfV l).isSome]) [] :=
 fits_as (fits_l7Of2 l h) (by simp [erase,eraseL,er_dfa2])
def noC (c : UInt8) (t : Txt) : Prop:=∀ x ∈ t,x ≠ c
def sepC (c : UInt8) (t : Txt) : Prop:=t = [] ∨ ∃ u,t = c :: u
theorem cut_eq {c : UInt8} : ∀ {a b u v : Txt},noC c a → noC c b → sepC c u → sepC c v → a ++ u = b ++ v → a = b ∧ u = v
 | [],[],u,v,_,_,_,_,h => ⟨rfl,by simpa using h⟩
 | [],y :: b,u,v,_,hb,hu,_,h => by
  rcases hu with rfl | ⟨u,rfl⟩
  ·simp at h
  ·simp only [List.nil_append,List.cons_append,List.cons.injEq] at h
   exact absurd h.1.symm (hb y (List.mem_cons_self ..))
 | x :: a,[],u,v,ha,_,_,hv,h => by
  rcases hv with rfl | ⟨v,rfl⟩
  ·simp at h
  ·simp only [List.nil_append,List.cons_append,List.cons.injEq] at h
   exact absurd h.1 (ha x (List.mem_cons_self ..))
 | x :: a,y :: b,u,v,ha,hb,hu,hv,h => by
  simp only [List.cons_append,List.cons.injEq] at h
  obtain ⟨rfl,h⟩:=h
  obtain ⟨h1,h2⟩:=cut_eq (fun z hz => ha z (List.mem_cons_of_mem _ hz)) (fun z hz => hb z (List.mem_cons_of_mem _ hz)) hu hv h
  exact ⟨by rw [h1],h2⟩
theorem dig_v {n : Nat} (h : n ≤ 9) : (dig n).toNat = 48 + n:=by
 unfold dig
 rw [UInt8.toNat_ofNat']; omega
theorem decN_ch : ∀ (n : Nat),∀ x ∈ decN n,48 ≤ x.toNat ∧ x.toNat ≤ 57
 | n => by
  intro x hx
  by_cases h : n ≤ 9
  ·rw [decN_s h] at hx
   simp at hx; subst hx
   rw [dig_v h]; omega
  ·rw [decN_g h] at hx
   rcases List.mem_append.1 hx with hx | hx
   ·exact decN_ch (n / 10) x hx
   ·simp at hx; subst hx
    rw [dig_v (by omega)]; omega
 termination_by n => n
 decreasing_by omega
def dvalN (t : Txt) : Nat:=t.foldl (fun a x => 10 * a + (x.toNat - 48)) 0
theorem dval_dec (n : Nat) : dvalN (decN n) = n:=by
 induction n using Nat.strongRecOn with
 | ind n ih =>
  by_cases h : n ≤ 9
  ·rw [decN_s h]; unfold dvalN; simp [dig_v h]
  ·have ih:=ih (n / 10) (by omega)
   rw [decN_g h]
   unfold dvalN at *
   rw [List.foldl_append,ih]
   simp only [List.foldl_cons,List.foldl_nil,dig_v (show n % 10 ≤ 9 by omega)]
   omega
theorem dec_inj {n m : Nat} (h : decN n = decN m) : n = m:=by rw [← dval_dec n,h,dval_dec]
theorem dec_no {n : Nat} {c : UInt8} (h : c.toNat < 48 ∨ 57 < c.toNat) : noC c (decN n):=fun x hx e => by
 have:=decN_ch n x hx
 subst e; omega
theorem sp_inj {x y : Span} (hx : 0 ≤ x.lo ∧ x.lo ≤ x.hi) (hy : 0 ≤ y.lo ∧ y.lo ≤ y.hi) (h : spT x = spT y) : x = y:=by
 unfold spT at h
 have sep : ∀ z : Span,sepC 45 (if z.hi = z.lo then [] else 45 :: decN z.hi.toNat):=fun z => by
  split
  ·exact .inl rfl
  ·exact .inr ⟨_,rfl⟩
 obtain ⟨h1,h2⟩:=cut_eq (dec_no (by decide)) (dec_no (by decide)) (sep x) (sep y) h
 have e1:=dec_inj h1
 cases x with | mk xl xh => cases y with | mk yl yh =>
 simp only at *
 have e3 : xl = yl:=by omega
 subst e3
 congr 1
 by_cases a : xh = xl
 ·rw [if_pos a] at h2
  by_cases b : yh = xl
  ·omega
  ·rw [if_neg b] at h2; cases h2
 ·rw [if_neg a] at h2
  by_cases b : yh = xl
  ·rw [if_pos b] at h2; cases h2
  ·rw [if_neg b] at h2
   injection h2 with _ h2
   have:=dec_inj h2
   omega
theorem spT_no {c : UInt8} (h : c.toNat < 48 ∨ 57 < c.toNat) (h2 : c ≠ 45) (x : Span) : noC c (spT x):=fun y hy e => by
 unfold spT at hy
 rcases List.mem_append.1 hy with hy | hy
 ·exact dec_no h y hy e
 ·split at hy
  ·simp at hy
  ·rcases List.mem_cons.1 hy with hy | hy
   ·exact h2 (by rw [← e,hy])
   ·exact dec_no h y hy e
theorem spT_ne (x : Span) : ∃ c t,spT x = c :: t ∧ 48 ≤ c.toNat ∧ c.toNat ≤ 57:=by
 unfold spT
 have h:=(decN_len x.lo.toNat).1
 cases e : decN x.lo.toNat with
 | nil => rw [e] at h; simp at h
 | cons c t => exact ⟨c,_,rfl,decN_ch _ c (by rw [e]; exact List.mem_cons_self ..)⟩
def setJ : List Span → Txt
 | [] => []
 | [x] => spT x
 | x :: y :: l => spT x ++ 44 :: setJ (y :: l)
theorem setJ_app (x : Span) : ∀ s : List Span,setJ (s ++ [x]) = if s = [] then spT x else setJ s ++ 44 :: spT x
 | [] => rfl
 | [y] => rfl
 | y :: z :: l => by
  have ih:=setJ_app x (z :: l)
  rw [if_neg (by simp)] at ih ⊢
  show spT y ++ 44 :: setJ ((z :: l) ++ [x]) = (spT y ++ 44 :: setJ (z :: l)) ++ 44 :: spT x
  rw [ih]; simp
theorem setPre_J (s : List Span) : ∀ n,n ≤ s.length → setPre s n = setJ (s.take n)
 | 0,_ => rfl
 | n + 1,h => by
  rw [setPre_s (by omega),setPre_J s n (by omega),List.take_succ_eq_append_getElem (by omega),setJ_app]
  by_cases e : n = 0
  ·subst e; simp [setJ]
  ·rw [if_neg e,if_neg (by intro h2; have h3:=congrArg List.length h2; rw [List.length_take,List.length_nil] at h3; omega)]
   simp
theorem setJ_ne {s : List Span} (h : s ≠ []) : ∃ c t,setJ s = c :: t ∧ 48 ≤ c.toNat ∧ c.toNat ≤ 57:=by
 match s,h with
 | [x],_ => exact spT_ne x
 | x :: y :: l,_ =>
  obtain ⟨c,t,e,h⟩:=spT_ne x
  exact ⟨c,t ++ 44 :: setJ (y :: l),by rw [setJ,e]; rfl,h⟩
theorem setT_J (s : List Span) : setT s = if s = [] then [110,111] else setJ s:=by
 unfold setT
 rw [setPre_J s s.length (Nat.le_refl _),List.take_length]
 by_cases h : s = []
 ·subst h; rfl
 ·obtain ⟨c,t,e,_⟩:=setJ_ne h
  rw [if_neg (by rw [e]; simp),if_neg h]
def SpOk (s : List Span) : Prop:=∀ x ∈ s,0 ≤ x.lo ∧ x.lo ≤ x.hi
theorem setJ_inj : ∀ {s t : List Span},SpOk s → SpOk t → setJ s = setJ t → s = t
 | [],[],_,_,_ => rfl
 | [],y :: t,_,_,h => by obtain ⟨c,u,e,_⟩:=setJ_ne (s:=y :: t) (by simp); rw [e] at h; cases h
 | x :: s,[],_,_,h => by obtain ⟨c,u,e,_⟩:=setJ_ne (s:=x :: s) (by simp); rw [e] at h; cases h
 | x :: s,y :: t,hs,ht,h => by
  have e : ∀ (z : Span) (l : List Span),setJ (z :: l) = spT z ++ (if l = [] then [] else 44 :: setJ l):=fun z l => by
   cases l <;> simp [setJ]
  rw [e,e] at h
  have sep : ∀ l : List Span,sepC 44 (if l = [] then [] else 44 :: setJ l):=fun l => by
   split
   ·exact .inl rfl
   ·exact .inr ⟨_,rfl⟩
  obtain ⟨h1,h2⟩:=cut_eq (spT_no (by decide) (by decide) x) (spT_no (by decide) (by decide) y) (sep s) (sep t) h
  have e1:=sp_inj (hs x (List.mem_cons_self ..)) (ht y (List.mem_cons_self ..)) h1
  subst e1
  congr 1
  by_cases a : s = []
  ·subst a
   by_cases b : t = []
   ·exact b.symm
   ·rw [if_pos rfl,if_neg b] at h2; cases h2
  ·rw [if_neg a] at h2
   by_cases b : t = []
   ·subst b; rw [if_pos rfl] at h2; cases h2
   ·rw [if_neg b] at h2
    injection h2 with _ h2
    exact setJ_inj (fun z hz => hs z (List.mem_cons_of_mem _ hz)) (fun z hz => ht z (List.mem_cons_of_mem _ hz)) h2
theorem set_no {s : List Span} : noC 32 (setT s):=by
 rw [setT_J]
 split
 ·intro x hx; simp at hx; rcases hx with rfl | rfl <;> decide
 ·have key : ∀ l : List Span,noC 32 (setJ l):=by
   intro l
   induction l with
   | nil => intro x hx; simp [setJ] at hx
   | cons y l ih =>
    cases l with
    | nil => exact spT_no (by decide) (by decide) y
    | cons z l =>
     intro x hx
     rw [setJ] at hx
     rcases List.mem_append.1 hx with hx | hx
     ·exact spT_no (by decide) (by decide) y x hx
     ·rcases List.mem_cons.1 hx with hx | hx
      ·rw [hx]; decide
      ·exact ih x hx
  exact key s
theorem set_inj {s t : List Span} (hs : SpOk s) (ht : SpOk t) (h : setT s = setT t) : s = t:=by
 rw [setT_J,setT_J] at h
 have no : ∀ l : List Span,l ≠ [] → setJ l ≠ [110,111]:=fun l hl e => by
  obtain ⟨c,u,e2,h⟩:=setJ_ne hl
  rw [e] at e2
  injection e2 with e3 _
  subst e3
  exact absurd h.2 (by decide)
 by_cases a : s = []
 ·subst a
  by_cases b : t = []
  ·exact b.symm
  ·rw [if_pos rfl,if_neg b] at h; exact absurd h.symm (no t b)
 ·rw [if_neg a] at h
  by_cases b : t = []
  ·subst b; rw [if_pos rfl] at h; exact absurd h (no s a)
  ·rw [if_neg b] at h; exact setJ_inj hs ht h
theorem word_no (k : Int) : noC 32 (wordK k):=by
 intro x hx
 unfold wordK wordsL at hx
 rw [List.getD_eq_getElem?_getD] at hx
 cases h : [[],[115,101,116],[101,109,112,116,121],[99,97,116],[111,114],[115,116,97,114],[97,110,100],[110,111,(116 : UInt8)]][k.toNat]? with
 | none => rw [h] at hx; simp at hx
 | some w =>
  rw [h] at hx
  simp only [Option.getD_some] at hx
  have:=List.mem_of_getElem? h
  simp at this
  rcases this with rfl | rfl | rfl | rfl | rfl | rfl | rfl | rfl <;> simp at hx <;> (try rcases hx with rfl | rfl | rfl | rfl | rfl) <;> (try rcases hx with rfl | rfl | rfl | rfl) <;> (try rcases hx with rfl | rfl | rfl) <;> (try rcases hx with rfl | rfl) <;> decide
theorem word_inj {k l : Int} (hk : 1 ≤ k ∧ k ≤ 7) (hl : 1 ≤ l ∧ l ≤ 7) (h : wordK k = wordK l) : k = l:=by
 have e : ∀ k : Int,1 ≤ k ∧ k ≤ 7 → k = 1 ∨ k = 2 ∨ k = 3 ∨ k = 4 ∨ k = 5 ∨ k = 6 ∨ k = 7:=by intro k h; omega
 rcases e k hk with rfl | rfl | rfl | rfl | rfl | rfl | rfl <;> rcases e l hl with rfl | rfl | rfl | rfl | rfl | rfl | rfl <;> first | rfl | (exact absurd h (by decide))
theorem rex_inj : ∀ (d : Nat) (r s : Rex),fm d r = true → Okr s → ∀ u v,sepC 32 u → sepC 32 v → rexT r ++ u = rexT s ++ v → r = s ∧ u = v
 | 0,r,s,h,_,_,_,_,_,_ => by simp [fm] at h
 | d + 1,r,s,h,hs,u,v,hu,hv,e => by
  obtain ⟨d',h'⟩:=hs
  cases d' with
  | zero => simp [fm] at h'
  | succ d' =>
   obtain ⟨a1,a2,a3,a4⟩:=fm_ok h
   obtain ⟨b1,b2,b3,b4⟩:=fm_ok h'
   have rng : ∀ x : Rex,kidsN x.kind = x.kids.length → 1 ≤ x.kind ∧ x.kind ≤ 7:=fun x hx => by
    unfold kidsN at hx
    split at hx
    ·omega
    ·split at hx
     ·omega
     ·split at hx
      ·omega
      ·omega
   have sok : ∀ l : List Span,setB l = true → SpOk l:=fun l hl x hx => by
    obtain ⟨i,hi,rfl⟩:=List.getElem_of_mem hx
    have:=(setB_at hl i hi).1
    exact ⟨this.1,this.2.1⟩
   have hd : ∀ x : Rex,∃ z,rexT x = wordK x.kind ++ z ∧ sepC 32 z:=fun x => by
    rw [rexT_eq]
    split
    ·exact ⟨32 :: setT x.set,by simp,.inr ⟨_,rfl⟩⟩
    ·refine ⟨_,rfl,?_⟩
     cases x.kids with
     | nil => exact .inl rfl
     | cons y l => exact .inr ⟨_,rfl⟩
   have app : ∀ z w : Txt,sepC 32 z → sepC 32 w → sepC 32 (z ++ w):=fun z w hz hw => by
    rcases hz with rfl | ⟨z,rfl⟩
    ·exact hw
    ·exact .inr ⟨z ++ w,rfl⟩
   have hkk : r.kind = s.kind:=by
    obtain ⟨z,e1,hz⟩:=hd r
    obtain ⟨w,e2,hw⟩:=hd s
    rw [e1,e2,List.append_assoc,List.append_assoc] at e
    exact word_inj (rng r a1) (rng s b1) (cut_eq (word_no _) (word_no _) (app _ _ hz hu) (app _ _ hw hv) e).1
   have hrx : ∀ x y : Rex,x.kind = y.kind → x.set = y.set → x.kids = y.kids → x = y:=fun x y h1 h2 h3 => by
    cases x; cases y; simp only [Rex.kind,Rex.set,Rex.kids] at h1 h2 h3; subst h1 h2 h3; rfl
   by_cases h1 : r.kind = 1
   ·have k1 : r.kids = []:=by
     have:=a1; rw [h1] at this; simp [kidsN] at this; exact List.eq_nil_of_length_eq_zero (by omega)
    have k2 : s.kids = []:=by
     have:=b1; rw [← hkk,h1] at this; simp [kidsN] at this; exact List.eq_nil_of_length_eq_zero (by omega)
    rw [rexT_eq r,rexT_eq s,if_pos h1,if_pos (by rw [← hkk]; exact h1),← hkk] at e
    simp only [List.append_assoc] at e
    have e:=List.append_cancel_left (List.append_cancel_left e)
    obtain ⟨e2,e3⟩:=cut_eq set_no set_no hu hv e
    exact ⟨hrx r s hkk (set_inj (sok _ a3) (sok _ b3) e2) (by rw [k1,k2]),e3⟩
   ·have s1 : r.set = []:=List.eq_nil_of_length_eq_zero (a2.resolve_left h1)
    have s2 : s.set = []:=List.eq_nil_of_length_eq_zero (b2.resolve_left (by rw [← hkk]; exact h1))
    have hl : r.kids.length = s.kids.length:=by
     have:=a1; rw [hkk,b1] at this; omega
    rw [rexT_eq r,rexT_eq s,if_neg h1,if_neg (by rw [← hkk]; exact h1),← hkk,List.append_assoc,List.append_assoc] at e
    have e:=List.append_cancel_left e
    have key : ∀ (xs ys : List Rex),xs.length = ys.length → (∀ x ∈ xs,fm d x = true) → (∀ y ∈ ys,Okr y) → ((xs.map rexT).map (fun t => 32 :: t)).flatten ++ u = ((ys.map rexT).map (fun t => 32 :: t)).flatten ++ v → xs = ys ∧ u = v:=by
     intro xs
     induction xs with
     | nil =>
      intro ys hl _ _ e
      cases ys with
      | nil => exact ⟨rfl,by simpa using e⟩
      | cons y ys => simp at hl
     | cons x xs ih =>
      intro ys hl hx hy e
      cases ys with
      | nil => simp at hl
      | cons y ys =>
       simp only [List.map_cons,List.flatten_cons,List.cons_append,List.append_assoc,List.cons.injEq,true_and] at e
       have sp : ∀ (l : List Rex) (w : Txt),sepC 32 w → sepC 32 (((l.map rexT).map (fun t => 32 :: t)).flatten ++ w):=fun l w hw => by
        cases l with
        | nil => simpa using hw
        | cons z l => exact .inr ⟨_,rfl⟩
       obtain ⟨e1,e2⟩:=rex_inj d x y (hx x (List.mem_cons_self ..)) (hy y (List.mem_cons_self ..)) _ _ (sp xs u hu) (sp ys v hv) e
       obtain ⟨e3,e4⟩:=ih ys (by simpa using hl) (fun z hz => hx z (List.mem_cons_of_mem _ hz)) (fun z hz => hy z (List.mem_cons_of_mem _ hz)) e2
       exact ⟨by rw [e1,e3],e4⟩
    obtain ⟨e1,e2⟩:=key r.kids s.kids hl a4 (fun y hy => ⟨d',b4 y hy⟩) e
    exact ⟨hrx r s hkk (by rw [s1,s2]) e1,e2⟩
theorem rexT_inj {r s : Rex} (hr : Okr r) (hs : Okr s) (h : rexT r = rexT s) : r = s:=by
 obtain ⟨d,hd⟩:=hr
 exact (rex_inj d r s hd hs [] [] (.inl rfl) (.inl rfl) (by simpa using h)).1
section
open Go.Shelf
def sh_lays156_ren : Go.Shelf.Ren:=⟨fun | 156 => 144 | 165 => 153 | 166 => 154 | 169 => 155 | 240 => 161 | 241 => 162 | 276 => 175 | 277 => 176 | n => n,fun | 31 => 76 | 9 => 9 | 3 => 3 | 4 => 4 | 0 => 0 | 20 => 20 | 72 => 148 | 76 => 152 | 70 => 146 | 37 => 37 | 75 => 151 | 127 => 159 | 164 => 172 | 5 => 5 | 80 => 154 | n => n,fun | n => n⟩
theorem sh_lays156 : Go.Proofs.Lays.n156 Tryz.prog sh_lays156_ren:={
 mixed:=by kernel_rfl
 f156:=Tryz.func144.trans (congrArg some (by kernel_rfl))
 f165:=Tryz.func153.trans (congrArg some (by kernel_rfl))
 f166:=Tryz.func154.trans (congrArg some (by kernel_rfl))
 f169:=Tryz.func155.trans (congrArg some (by kernel_rfl))
 f240:=Tryz.func161.trans (congrArg some (by kernel_rfl))
 f241:=Tryz.func162.trans (congrArg some (by kernel_rfl))
 f276:=Tryz.func175.trans (congrArg some (by kernel_rfl))
 f277:=Tryz.func176.trans (congrArg some (by kernel_rfl))
 t0:=Tryz.underlying0
 a0:=Tryz.isAgg0
 z0:=Tryz.sizeOf0
 v0:=Tryz.zeroValue0
 t3:=Tryz.underlying3
 a3:=Tryz.isAgg3
 z3:=Tryz.sizeOf3
 v3:=Tryz.zeroValue3
 t4:=Tryz.underlying4
 a4:=Tryz.isAgg4
 z4:=Tryz.sizeOf4
 v4:=Tryz.zeroValue4
 t9:=Tryz.underlying9
 a9:=Tryz.isAgg9
 z9:=Tryz.sizeOf9
 v9:=Tryz.zeroValue9
 t20:=Tryz.underlying20
 a20:=Tryz.isAgg20
 z20:=Tryz.sizeOf20
 v20:=Tryz.zeroValue20
 t31:=Tryz.underlying76
 a31:=Tryz.isAgg76
 z31:=Tryz.sizeOf76
 v31:=Tryz.zeroValue76
 t37:=Tryz.underlying37
 a37:=Tryz.isAgg37
 z37:=Tryz.sizeOf37
 v37:=Tryz.zeroValue37
 t70:=Tryz.underlying146
 a70:=Tryz.isAgg146
 z70:=Tryz.sizeOf146
 v70:=Tryz.zeroValue146
 t72:=Tryz.underlying148
 a72:=Tryz.isAgg148
 z72:=Tryz.sizeOf148
 v72:=Tryz.zeroValue148
 t75:=Tryz.underlying151
 a75:=Tryz.isAgg151
 z75:=Tryz.sizeOf151
 v75:=Tryz.zeroValue151
 t76:=Tryz.underlying152
 a76:=Tryz.isAgg152
 z76:=Tryz.sizeOf152
 v76:=Tryz.zeroValue152
 t127:=Tryz.underlying159
 a127:=Tryz.isAgg159
 z127:=Tryz.sizeOf159
 v127:=Tryz.zeroValue159
 t164:=Tryz.underlying172
 a164:=Tryz.isAgg172
 z164:=Tryz.sizeOf172
 v164:=Tryz.zeroValue172 }
theorem sh_Builder_Extra_156 : Builder.Extra Tryz.prog sh_lays156_ren:={
 sizeBuilder:=by kernel_rfl
 liesBuilder:=by kernel_rfl
 t5:=Tryz.underlying5
 a5:=Tryz.isAgg5
 z5:=Tryz.sizeOf5
 v5:=Tryz.zeroValue5
 infoByte:=by kernel_rfl
 cellsByte:=by kernel_rfl
 sizeByte:=by kernel_rfl
 neB5:=by decide }
open Go.RowKit in
theorem sh_strings_Join_none (a : Option Addr) (c : Nat) (sep : ByteArray) (w : World) :
  Calls Tryz.prog 144 #[.slice a 0 c,.string sep] w fun e w' => e = .returned (.string ⟨#[]⟩) ∧ w' = w:=Any.strings_Join_none sh_lays156 sh_Builder_Extra_156 a c sep w
open Go.RowKit in
theorem sh_strings_Join (bk o c : Nat) (xs : List ByteArray) (sep : ByteArray) (w : World) (hcells : ∀ (j : Nat) x,xs[j]? = some x → w.cell? ⟨bk,o + j,none⟩ = some (.string x)) (hbk : bk < w.heap.size) (hN : xs.length ≤ 140737488355328) (hcap : xs.length ≤ c) (hlen : (Lib.join (xs.map (·.data.toList)) sep.data.toList).length ≤ 140737488355328) :
  Calls Tryz.prog 144 #[.slice (some ⟨bk,o,none⟩) xs.length c,.string sep] w fun e w' => e = .returned (.string ⟨(Lib.join (xs.map (·.data.toList)) sep.data.toList).toArray⟩) ∧ Below w.heap.size w w':=Any.strings_Join sh_lays156 sh_Builder_Extra_156 bk o c xs sep w hcells hbk hN hcap hlen
open Go.RowKit Go.Sort Go.Lib in
open Go.RowKit Go.Sort Go.Lib in
open Go.RowKit Go.Sort Go.Lib in
open Go.RowKit Go.Sort Go.Lib in
def sh_laysM171_ren : Go.Shelf.Ren:=⟨fun | 171 => 163 | 243 => 177 | 246 => 184 | 283 => 186 | 284 => 187 | 285 => 188 | 286 => 189 | 129 => 174 | 317 => 190 | 318 => 191 | 319 => 192 | 320 => 193 | 337 => 194 | 338 => 195 | n => n,fun | 3 => 3 | 9 => 9 | 2 => 2 | 4 => 4 | 171 => 185 | 0 => 0 | 53 => 171 | 37 => 37 | 5 => 5 | 173 => 187 | 212 => 190 | 51 => 169 | 20 => 20 | 213 => 191 | 46 => 158 | 232 => 193 | 233 => 194 | n => n,fun | 17 => 1 | 18 => 2 | 19 => 3 | n => n⟩
theorem sh_laysM171 : Go.Proofs.LaysM.n171 Tryz.prog sh_laysM171_ren:={
 mixed:=by kernel_rfl
 f129:=Tryz.func174.trans (congrArg some (by kernel_rfl))
 f171:=Tryz.func163.trans (congrArg some (by kernel_rfl))
 f243:=Tryz.func177.trans (congrArg some (by kernel_rfl))
 f246:=Tryz.func184.trans (congrArg some (by kernel_rfl))
 f283:=Tryz.func186.trans (congrArg some (by kernel_rfl))
 f284:=Tryz.func187.trans (congrArg some (by kernel_rfl))
 f285:=Tryz.func188.trans (congrArg some (by kernel_rfl))
 f286:=Tryz.func189.trans (congrArg some (by kernel_rfl))
 f317:=Tryz.func190.trans (congrArg some (by kernel_rfl))
 f318:=Tryz.func191.trans (congrArg some (by kernel_rfl))
 f319:=Tryz.func192.trans (congrArg some (by kernel_rfl))
 f320:=Tryz.func193.trans (congrArg some (by kernel_rfl))
 f337:=Tryz.func194.trans (congrArg some (by kernel_rfl))
 f338:=Tryz.func195.trans (congrArg some (by kernel_rfl))
 t0:=Tryz.underlying0
 a0:=Tryz.isAgg0
 z0:=Tryz.sizeOf0
 v0:=Tryz.zeroValue0
 t2:=Tryz.underlying2
 a2:=Tryz.isAgg2
 z2:=Tryz.sizeOf2
 v2:=Tryz.zeroValue2
 t3:=Tryz.underlying3
 a3:=Tryz.isAgg3
 z3:=Tryz.sizeOf3
 v3:=Tryz.zeroValue3
 t4:=Tryz.underlying4
 a4:=Tryz.isAgg4
 z4:=Tryz.sizeOf4
 v4:=Tryz.zeroValue4
 t5:=Tryz.underlying5
 a5:=Tryz.isAgg5
 z5:=Tryz.sizeOf5
 v5:=Tryz.zeroValue5
 t9:=Tryz.underlying9
 a9:=Tryz.isAgg9
 z9:=Tryz.sizeOf9
 v9:=Tryz.zeroValue9
 t20:=Tryz.underlying20
 a20:=Tryz.isAgg20
 z20:=Tryz.sizeOf20
 v20:=Tryz.zeroValue20
 t37:=Tryz.underlying37
 a37:=Tryz.isAgg37
 z37:=Tryz.sizeOf37
 v37:=Tryz.zeroValue37
 t46:=Tryz.underlying158
 a46:=Tryz.isAgg158
 z46:=Tryz.sizeOf158
 v46:=Tryz.zeroValue158
 t51:=Tryz.underlying169
 a51:=Tryz.isAgg169
 z51:=Tryz.sizeOf169
 v51:=Tryz.zeroValue169
 t53:=Tryz.underlying171
 a53:=Tryz.isAgg171
 z53:=Tryz.sizeOf171
 v53:=Tryz.zeroValue171
 t171:=Tryz.underlying185
 a171:=Tryz.isAgg185
 z171:=Tryz.sizeOf185
 v171:=Tryz.zeroValue185
 t173:=Tryz.underlying187
 a173:=Tryz.isAgg187
 z173:=Tryz.sizeOf187
 v173:=Tryz.zeroValue187
 t212:=Tryz.underlying190
 a212:=Tryz.isAgg190
 z212:=Tryz.sizeOf190
 v212:=Tryz.zeroValue190
 t213:=Tryz.underlying191
 a213:=Tryz.isAgg191
 z213:=Tryz.sizeOf191
 t232:=Tryz.underlying193
 a232:=Tryz.isAgg193
 z232:=Tryz.sizeOf193
 v232:=Tryz.zeroValue193
 t233:=Tryz.underlying194
 a233:=Tryz.isAgg194
 z233:=Tryz.sizeOf194
 v233:=Tryz.zeroValue194
 g17:=by kernel_rfl
 g18:=by kernel_rfl
 g19:=by kernel_rfl
 i0:=by kernel_rfl
 i2:=by kernel_rfl
 i3:=by kernel_rfl
 i4:=by kernel_rfl
 i5:=by kernel_rfl
 i9:=by kernel_rfl
 i20:=by kernel_rfl
 i37:=by kernel_rfl
 i46:=by kernel_rfl
 i51:=by kernel_rfl
 i53:=by kernel_rfl
 i171:=by kernel_rfl
 i173:=by kernel_rfl
 i212:=by kernel_rfl
 i232:=by kernel_rfl
 i233:=by kernel_rfl
 m17:=by kernel_rfl
 m18:=by kernel_rfl
 m19:=by kernel_rfl }
open Go.RowKit Go.Sort Go.Lib in
theorem sh_strconv_Itoa (n : Int) (h0 : -9223372036854775808 ≤ n) (h1 : n ≤ 9223372036854775807) (w : World) (htab : Lib.TabIs Tryz.prog w "internal/strconv.uint64pow10" .u64 Lib.pow10Tab) :
  Calls Tryz.prog 163 #[.int .i64 n] w fun e w' => e = .returned (.string ⟨(Lib.itoa n).toArray⟩) ∧ ∃ k os,w' = grow (w.drewN k) os:=Any.strconv_Itoa sh_laysM171 n h0 h1 w htab
open Go.RowKit Go.Sort Go.Lib in
open Go.Sort Go.RowKit in
def sh_lays192_ren : Go.Shelf.Ren:=⟨fun | 192 => 133 | 190 => 146 | 125 => 159 | 258 => 158 | 128 => 173 | 129 => 174 | 302 => 164 | 303 => 165 | 304 => 166 | 305 => 167 | 306 => 168 | 307 => 169 | 308 => 170 | 309 => 171 | 310 => 172 | 333 => 178 | 329 => 179 | 330 => 180 | 334 => 181 | 335 => 182 | 336 => 183 | 344 => 185 | n => n,fun | 31 => 76 | 0 => 0 | 9 => 9 | 3 => 3 | 46 => 158 | 51 => 169 | 53 => 171 | 4 => 4 | 183 => 162 | 182 => 161 | 131 => 50 | 5 => 5 | 218 => 175 | 222 => 179 | 228 => 182 | 229 => 183 | n => n,fun | n => n⟩
theorem sh_lays192 : Go.Proofs.Lays.n192 Tryz.prog sh_lays192_ren:={
 mixed:=by kernel_rfl
 f125:=Tryz.func159.trans (congrArg some (by kernel_rfl))
 f128:=Tryz.func173.trans (congrArg some (by kernel_rfl))
 f129:=Tryz.func174.trans (congrArg some (by kernel_rfl))
 f190:=Tryz.func146.trans (congrArg some (by kernel_rfl))
 f192:=Tryz.func133.trans (congrArg some (by kernel_rfl))
 f258:=Tryz.func158.trans (congrArg some (by kernel_rfl))
 f302:=Tryz.func164.trans (congrArg some (by kernel_rfl))
 f303:=Tryz.func165.trans (congrArg some (by kernel_rfl))
 f304:=Tryz.func166.trans (congrArg some (by kernel_rfl))
 f305:=Tryz.func167.trans (congrArg some (by kernel_rfl))
 f306:=Tryz.func168.trans (congrArg some (by kernel_rfl))
 f307:=Tryz.func169.trans (congrArg some (by kernel_rfl))
 f308:=Tryz.func170.trans (congrArg some (by kernel_rfl))
 f309:=Tryz.func171.trans (congrArg some (by kernel_rfl))
 f310:=Tryz.func172.trans (congrArg some (by kernel_rfl))
 f329:=Tryz.func179.trans (congrArg some (by kernel_rfl))
 f330:=Tryz.func180.trans (congrArg some (by kernel_rfl))
 f333:=Tryz.func178.trans (congrArg some (by kernel_rfl))
 f334:=Tryz.func181.trans (congrArg some (by kernel_rfl))
 f335:=Tryz.func182.trans (congrArg some (by kernel_rfl))
 f336:=Tryz.func183.trans (congrArg some (by kernel_rfl))
 f344:=Tryz.func185.trans (congrArg some (by kernel_rfl))
 t0:=Tryz.underlying0
 a0:=Tryz.isAgg0
 z0:=Tryz.sizeOf0
 v0:=Tryz.zeroValue0
 t3:=Tryz.underlying3
 a3:=Tryz.isAgg3
 z3:=Tryz.sizeOf3
 v3:=Tryz.zeroValue3
 t4:=Tryz.underlying4
 a4:=Tryz.isAgg4
 z4:=Tryz.sizeOf4
 v4:=Tryz.zeroValue4
 t5:=Tryz.underlying5
 a5:=Tryz.isAgg5
 z5:=Tryz.sizeOf5
 v5:=Tryz.zeroValue5
 t9:=Tryz.underlying9
 a9:=Tryz.isAgg9
 z9:=Tryz.sizeOf9
 v9:=Tryz.zeroValue9
 t31:=Tryz.underlying76
 a31:=Tryz.isAgg76
 z31:=Tryz.sizeOf76
 v31:=Tryz.zeroValue76
 t46:=Tryz.underlying158
 a46:=Tryz.isAgg158
 z46:=Tryz.sizeOf158
 v46:=Tryz.zeroValue158
 t51:=Tryz.underlying169
 a51:=Tryz.isAgg169
 z51:=Tryz.sizeOf169
 v51:=Tryz.zeroValue169
 t53:=Tryz.underlying171
 a53:=Tryz.isAgg171
 z53:=Tryz.sizeOf171
 v53:=Tryz.zeroValue171
 t131:=Tryz.underlying50
 a131:=Tryz.isAgg50
 z131:=Tryz.sizeOf50
 v131:=Tryz.zeroValue50
 t182:=Tryz.underlying161
 a182:=Tryz.isAgg161
 z182:=Tryz.sizeOf161
 v182:=Tryz.zeroValue161
 t183:=Tryz.underlying162
 a183:=Tryz.isAgg162
 z183:=Tryz.sizeOf162
 v183:=Tryz.zeroValue162
 t218:=Tryz.underlying175
 a218:=Tryz.isAgg175
 z218:=Tryz.sizeOf175
 v218:=Tryz.zeroValue175
 t222:=Tryz.underlying179
 a222:=Tryz.isAgg179
 z222:=Tryz.sizeOf179
 v222:=Tryz.zeroValue179
 t228:=Tryz.underlying182
 a228:=Tryz.isAgg182
 z228:=Tryz.sizeOf182
 v228:=Tryz.zeroValue182
 t229:=Tryz.underlying183
 a229:=Tryz.isAgg183
 z229:=Tryz.sizeOf183
 v229:=Tryz.zeroValue183 }
open Go.Sort Go.RowKit in
theorem sh_sort_Strings (blk off cap : Nat) (ss : List (List UInt8)) (w : World) (hH : Holds encStr w blk off ss.toArray) (hblk : blk < w.heap.size) (hsz : ss.length < 4611686018427387904) :
  Calls Tryz.prog 133 #[.slice (some ⟨blk,off,none⟩) ss.length cap] w fun e w' =>
   e = .returned (.tuple #[]) ∧ ∃ n os,w' = grow (putRow encStr (Sort.ahead w n) blk off (ss.mergeSort fun x y => decide (x ≤ y)).toArray) os:=Any.sort_Strings sh_lays192 blk off cap ss w hH hblk hsz
open Go.RowKit Go.Sort in
theorem sh_sort_Strings_none (p : Option Addr) (cap : Nat) (w : World) :
  Calls Tryz.prog 133 #[.slice p 0 cap] w fun e w' => e = .returned (.tuple #[]) ∧ w' = w:=Any.sort_Strings_none sh_lays192 p cap w
end

theorem tab_of {w : World} {O : Nat → Prop} (L : Laid prog w.heap O) : Lib.TabIs prog w "internal/strconv.uint64pow10" .u64 Lib.pow10Tab:=by
 obtain ⟨hb,⟨l1,_⟩,l2⟩:=L
 obtain ⟨g,hg⟩:=Option.isSome_iff_exists.1 (show (prog.globalNamed "internal/strconv.uint64pow10").isSome = true by kernel_rfl)
 obtain ⟨e,fr,h1⟩:=l1 g hg
 obtain ⟨_,_,h3⟩:=l2 _ (by simp [tabN]) g hg
 unfold Lib.TabIs World.var?
 rw [hg]
 simp [h3,h1]
theorem dec_lib (n : Nat) : Lib.decDigits n = decN n:=by
 induction n using Nat.strongRecOn with
 | ind n ih =>
  rw [Lib.decDigits,decN]
  by_cases h : n ≤ 9
  ·rw [dif_pos (by omega),dif_pos h]; rfl
  ·rw [dif_neg (by omega),dif_neg h,ih (n / 10) (by omega)]; rfl
theorem fits_itoa (n : Nat) (h : n ≤ 9223372036854775807) : Fits prog 163 [.int .i64 n] (.str (decN n)) []:=by
 refine ⟨⟨_,func163,rfl,by kernel_rfl⟩,fun w vs ok O hok r hly => ?_⟩
 simp only [RepWs,RepW,RepC] at r
 obtain ⟨v,vs',O1,O2,rfl,_,_,⟨hv,_⟩,rfl,_⟩:=r
 have e : v = .int .i64 n:=by simpa using hv
 subst e
 have e2 : Lib.itoa (n : Int) = decN n:=by unfold Lib.itoa; rw [if_neg (by omega),Int.toNat_natCast,dec_lib]
 refine Calls.mono (sh_strconv_Itoa n (by omega) (by omega) w (tab_of hly)) ?_
 rintro e w' ⟨rfl,k,os,rfl⟩
 rw [e2]
 refine ⟨_,fun _ => False,fun _ => False,rfl,rfl,rfl,rfl,?_,?_,?_,?_,fun _ h => h.elim,fun _ h => h.elim (fun h => h.elim) (fun h => h.elim)⟩
 ·simp [Go.Sort.grow,World.drewN]
 ·intro k hk _
  simp only [Go.Sort.grow,World.drewN]
  rw [Array.getElem?_append_left hk]
 ·simp only [RepW,RepC]; exact ⟨trivial,emp_false⟩
 ·simp only [List.take_zero,List.length_nil,RepWs]; exact ⟨trivial,emp_false⟩
theorem strs_cells {h : Array Obj} {S O : Nat → Prop} : ∀ (xs : List Txt) {m : List Value},RepL h S (xs.map eStr) m O → m = xs.map fun t => Value.string ⟨t.toArray⟩
 | [],m,r => by simp only [List.map_nil,RepL] at r; exact r.1
 | x :: xs,m,r => by
  simp only [List.map_cons,RepL,eStr,RepC] at r
  obtain ⟨c1,c2,O1,O2,rfl,_,_,⟨rfl,_⟩,h5⟩:=r
  rw [strs_cells xs h5]; rfl
theorem cells_strs {h : Array Obj} {S : Nat → Prop} : ∀ (xs : List Txt),RepL h S (xs.map eStr) (xs.map fun t => Value.string ⟨t.toArray⟩) (fun _ => False)
 | [] => by simp only [List.map_nil,RepL]; exact ⟨trivial,emp_false⟩
 | x :: xs => by
  simp only [List.map_cons,RepL,eStr,RepC]
  exact ⟨_,_,fun _ => False,fun _ => False,rfl,by simp,by simp,⟨rfl,emp_false⟩,cells_strs xs⟩
theorem addr_at {h : Array Obj} {a : Addr} {v : Value} (e : cellH h (a.add 0) = some v) : ∃ b o,a = ⟨b,o,none⟩:=by
 obtain ⟨b,o,s⟩:=a
 cases s with
 | none => exact ⟨b,o,rfl⟩
 | some s =>
  exfalso
  have hs : ((⟨b,o,some s⟩ : Addr).add 0).spot.isSome = true:=by unfold Addr.add; split <;> simp_all
  unfold cellH at e
  rw [hs] at e
  split at e <;> simp at e
theorem fits_join (xs : List Txt) (sep : Txt) (hl : xs.length ≤ 1099511627776) (hj : (Lib.join xs sep).length ≤ 1099511627776) : Fits prog 144 [.sl false 1 (xs.map eStr),.str sep] (.str (Lib.join xs sep)) []:=by
 refine ⟨⟨_,func144,rfl,by kernel_rfl⟩,fun w vs ok O hok r hly => ?_⟩
 simp only [RepWs,RepW] at r
 obtain ⟨v,vs',O1,O2,rfl,_,_,r1,v2,vs2,O3,O4,rfl,_,_,r2,rfl,_⟩:=r
 simp only [RepC] at r1 r2
 obtain ⟨⟨A,cap,m,e1,hcap,rm,_,hA⟩,_⟩:=r1
 have e1 : v = .slice A (xs.map eStr).length cap:=by simpa using e1
 have e2 : v2 = .string ⟨sep.toArray⟩:=by simpa using r2.1
 subst e1 e2
 rw [List.length_map] at *
 have hm:=strs_cells xs rm
 have fin : ∀ (e : Ending) (w' : World),e = .returned (.string ⟨(Lib.join xs sep).toArray⟩) → Below w.heap.size w w' → ∃ v Or Oo,e = .returned v ∧ w'.os = w.os ∧ w'.tape = w.tape ∧ w'.output = w.output ∧ w.heap.size ≤ w'.heap.size ∧
   (∀ k,k < w.heap.size → ¬ O k → w'.heap[k]? = w.heap[k]?) ∧
   RepW w'.heap (fun k => ok k ∧ ¬ Or k ∧ ¬ Oo k) (.str (Lib.join xs sep)) v Or ∧ RepWs w'.heap (fun k => ok k ∧ ¬ Or k ∧ ¬ Oo k) [] (([.slice A xs.length cap,.string ⟨sep.toArray⟩] : List Value).take ([] : List AV).length) Oo ∧
   (∀ k,Or k → ¬ Oo k) ∧ ∀ k,(Or k ∨ Oo k) → O k ∨ w.heap.size ≤ k:=by
  rintro e w' rfl hb
  refine ⟨_,fun _ => False,fun _ => False,rfl,hb.os,hb.tape,hb.output,hb.size,fun k hk _ => hb.block k hk,?_,?_,fun _ h => h.elim,fun _ h => h.elim (fun h => h.elim) (fun h => h.elim)⟩
  ·simp only [RepW,RepC]; exact ⟨trivial,emp_false⟩
  ·simp only [List.take_zero,List.length_nil,RepWs]; exact ⟨trivial,emp_false⟩
 by_cases h0 : xs = []
 ·subst h0
  refine Calls.mono (sh_strings_Join_none A cap ⟨sep.toArray⟩ w) ?_
  rintro e w' ⟨he,rfl⟩
  exact fin e w' (by rw [he]; simp [Lib.join]) (Below.refl _ _)
 ·have hpos : 0 < xs.length:=List.length_pos_iff.2 h0
  obtain ⟨a,rfl,_,hc⟩:=hA hpos
  have hc0:=hc 0 _ (by rw [hm,List.getElem?_eq_getElem (by simpa using hpos)])
  obtain ⟨b,o,rfl⟩:=addr_at hc0
  have hb:=cellH_lt hc0
  rw [add_block] at hb
  have e3 : (xs.map fun t => (⟨t.toArray⟩ : ByteArray)).map (fun x => x.data.toList) = xs:=by rw [List.map_map]; exact (List.map_congr_left (fun t _ => by simp)).trans (List.map_id xs)
  have hJ:=sh_strings_Join b o cap (xs.map fun t => ⟨t.toArray⟩) ⟨sep.toArray⟩ w (fun j x hx => by
    rw [List.getElem?_map] at hx
    obtain ⟨t,ht,rfl⟩:=Option.map_eq_some_iff.1 hx
    have:=hc j (.string ⟨t.toArray⟩) (by rw [hm,List.getElem?_map,ht]; rfl)
    have hadd : (⟨b,o,none⟩ : Addr).add j = ⟨b,o + j,none⟩:=by unfold Addr.add; split <;> simp_all
    rw [hadd] at this
    exact this) hb (by rw [List.length_map]; omega) (by rw [List.length_map]; exact hcap) (by rw [e3]; show (Lib.join xs sep).length ≤ _; omega)
  rw [List.length_map,e3] at hJ
  refine Calls.mono hJ ?_
  rintro e w' ⟨he,hbe⟩
  exact fin e w' he hbe
theorem put_at (d : Array Txt) (c : Array Value) (j : Nat) (h : j < c.size) : (Go.Sort.putCells encStr 0 d c)[j]? = some (if j < d.size then encStr d[j]! else c[j]):=by
 unfold Go.Sort.putCells
 rw [Array.getElem?_mapIdx,Array.getElem?_eq_getElem h]
 simp
theorem put_take (ss : List Txt) (c : Array Value) (h : ss.length ≤ c.size) : (Go.Sort.putCells encStr 0 ss.toArray c).toList.take ss.length = ss.map fun t => Value.string ⟨t.toArray⟩:=by
 apply List.ext_getElem?
 intro j
 rw [List.getElem?_take]
 by_cases hj : j < ss.length
 ·rw [if_pos hj,Array.getElem?_toList,put_at _ _ _ (by omega),if_pos (by simpa using hj),List.getElem?_map,List.getElem?_eq_getElem hj]
  simp [encStr,hj]
 ·rw [if_neg hj,List.getElem?_map,List.getElem?_eq_none (by omega)]; rfl
def sortT (xs : List Txt) : List Txt:=xs.mergeSort fun x y => decide (x ≤ y)
theorem fits_sortStrings (xs : List Txt) (hl : xs.length ≤ 1099511627776) : Fits prog 133 [.sl true 1 (xs.map eStr)] (.tup []) [.sl true 1 ((sortT xs).map eStr)]:=by
 refine ⟨⟨_,func133,rfl,by kernel_rfl⟩,fun w vs ok O hok r hly => ?_⟩
 simp only [RepWs,RepW] at r
 obtain ⟨v,vs',O1,O2,rfl,hO,_,r1,rfl,hO2⟩:=r
 have hr1:=r1
 have hlen : (sortT xs).length = xs.length:=List.length_mergeSort ..
 simp only [RepC] at r1
 rcases r1 with ⟨h0,e1,he⟩ | ⟨_,b,c,te,cap,O',e1,hrow,hsz,hle,hcm,hL,_,hnb,hO',hone⟩
 ·have e1 : v = .slice none 0 0:=by simpa using e1
  subst e1
  have hx : xs = []:=by simpa using h0
  subst hx
  refine Calls.mono (sh_sort_Strings_none none 0 w) ?_
  rintro e w' ⟨rfl,rfl⟩
  refine ⟨_,fun _ => False,fun _ => False,rfl,rfl,rfl,rfl,Nat.le_refl _,fun _ _ _ => rfl,?_,?_,fun _ h => h.elim,fun _ h => h.elim (fun h => h.elim) (fun h => h.elim)⟩
  ·simp only [RepW,RepWs]; exact ⟨_,rfl,by simp,emp_false⟩
  ·simp only [sortT,List.mergeSort_nil,List.map_nil,List.length_singleton,List.take_succ_cons,List.take_zero,RepWs,RepW,RepC]
   exact ⟨_,[],fun _ => False,fun _ => False,rfl,by simp,by simp,.inl ⟨trivial,rfl,emp_false⟩,rfl,emp_false⟩
 ·have e1 : v = .slice (some ⟨b,0,none⟩) (xs.map eStr).length cap:=by simpa using e1
  subst e1
  rw [List.length_map] at *
  rw [Nat.mul_one] at hsz
  rw [Nat.mul_one] at hL
  have hm:=strs_cells xs hL
  obtain ⟨fr,hb,hfr⟩:=hrow
  have hbl : b < w.heap.size:=(Array.getElem?_eq_some_iff.1 hb).1
  refine Calls.mono (sh_sort_Strings b 0 cap xs w (fun j hj => ?_) hbl (by omega)) ?_
  ·have hjl : j < xs.length:=by simpa using hj
   have hc:=row_cells (n:=xs.length) (u:=.string ⟨xs[j].toArray⟩) ⟨fr,hb,hfr⟩ (j:=j) (by rw [hm,List.getElem?_map,List.getElem?_eq_getElem hjl]; rfl)
   have hadd : (⟨b,0,none⟩ : Addr).add j = ⟨b,0 + j,none⟩:=by unfold Addr.add; split <;> simp_all
   rw [hadd] at hc
   refine ⟨by rw [cell_eq,hc]; simp [encStr,hjl],?_⟩
   have:=hfr (0 + j) (by omega)
   obtain ⟨f1,f2⟩:=fr
   simp only [World.frozen?,hb]
   simp only [not_and,Nat.not_lt] at this
   simpa using this
  ·rintro e w' ⟨rfl,n,os,rfl⟩
   have hes : (xs.mergeSort fun x y => decide (x ≤ y)) = sortT xs:=rfl
   rw [hes]
   have hsz2 : (Go.Sort.putCells encStr 0 (sortT xs).toArray c).size = c.size:=by simp [Go.Sort.putCells]
   have hh : (Go.Sort.grow (Go.Sort.putRow encStr (Go.Sort.ahead w n) b 0 (sortT xs).toArray) os).heap[b]? = some (.cells (Go.Sort.putCells encStr 0 (sortT xs).toArray c) te fr):=by
    simp only [Go.Sort.grow,Go.Sort.putRow,Go.Sort.mapBlock,Go.Sort.ahead]
    rw [Array.getElem?_append_left (by simpa using hbl),Array.getElem?_modify]
    simp [hb,Go.Sort.onCells]
   have hother : ∀ k,k < w.heap.size → k ≠ b → (Go.Sort.grow (Go.Sort.putRow encStr (Go.Sort.ahead w n) b 0 (sortT xs).toArray) os).heap[k]? = w.heap[k]?:=by
    intro k hk hne
    simp only [Go.Sort.grow,Go.Sort.putRow,Go.Sort.mapBlock,Go.Sort.ahead]
    rw [Array.getElem?_append_left (by simpa using hk),Array.getElem?_modify,if_neg (Ne.symm hne)]
   have hOb : O b:=(hO b).2 (.inl ((hO' b).2 (.inl rfl)))
   refine ⟨_,fun _ => False,fun k => k = b,rfl,rfl,rfl,rfl,by simp [Go.Sort.grow,Go.Sort.putRow,Go.Sort.mapBlock,Go.Sort.ahead],fun k hk hn => hother k hk (fun e => hn (by rw [e]; exact hOb)),?_,?_,fun _ h => h.elim,fun k h => .inl (h.elim (fun h => h.elim) (fun h => by rw [h]; exact hOb))⟩
   ·simp only [RepW,RepWs]; exact ⟨_,rfl,by simp,emp_false⟩
   ·simp only [List.length_singleton,List.take_succ_cons,List.take_zero,RepWs,RepW]
    refine ⟨_,[],fun k => k = b,fun _ => False,rfl,by simp,by simp,?_,rfl,emp_false⟩
    simp only [RepC]
    refine .inr ⟨by decide,b,_,te,cap,fun _ => False,by rw [List.length_map,hlen],⟨fr,hh,by rw [hsz2]; exact hfr⟩,by rw [hsz2,hsz]; omega,by rw [List.length_map,hlen]; exact hle,hcm,?_,?_,fun h => h,fun k => by simp,?_⟩
    ·rw [List.length_map,Nat.mul_one,put_take _ _ (by omega)]
     exact cells_strs _
    ·intro x hx
     obtain ⟨y,_,rfl⟩:=List.mem_map.1 hx; rfl
    ·intro u hu
     obtain ⟨j,hj⟩:=List.getElem?_of_mem hu
     rw [Array.getElem?_toList] at hj
     have hjs:=(Array.getElem?_eq_some_iff.1 hj).1
     rw [hsz2] at hjs
     rw [put_at _ _ _ hjs] at hj
     simp only [Option.some.injEq] at hj
     rw [← hj]
     split
     ·rfl
     ·exact hone _ (by simp)
def oth (l : List Rex) : List Rex:=l.filter fun x => !decide (x.kind = 1)
theorem bagA_o {k : Int} {all : List Rex} : ∀ i,i ≤ all.length → (bagA k all i).o = (oth (all.take i)).foldl putR []
 | 0,_ => rfl
 | i + 1,h => by
  have ih:=bagA_o (k:=k) (all:=all) i (by omega)
  rw [bagA_s (by omega),List.take_succ_eq_append_getElem (by omega)]
  unfold oth at *
  rw [List.filter_append,List.foldl_append,← ih]
  unfold bagS
  by_cases e : all[i].kind = 1
  ·simp [e]
  ·simp [e]
def bagO (k : Int) (a b : Rex) : List Rex :=
 let all:=listR k a ++ listR k b
 let z:=bagA k all all.length
 if z.f = true ∧ (0 < z.t.length ∨ k = 6 ∨ (oth all).length = 0) then oth all ++ [.mk 1 z.t []] else oth all
theorem foldP_pos : ∀ (l : List Rex) (L : List Rex),(l.foldl putR L).length = 0 ↔ l.length = 0 ∧ L.length = 0
 | [],L => by simp
 | x :: l,L => by
  rw [List.foldl_cons,foldP_pos l]
  have:=putR_pos L x
  simp; intro _ h; rw [h] at this; simp at this
theorem bagR_O (k : Int) (a b : Rex) : bagR k a b = (bagO k a b).foldl putR []:=by
 unfold bagR bagO
 simp only
 generalize listR k a ++ listR k b = all
 have e:=bagA_o (k:=k) (all:=all) all.length (Nat.le_refl _)
 rw [List.take_length] at e
 have e2 : (bagA k all all.length).o.length = 0 ↔ (oth all).length = 0:=by rw [e,foldP_pos]; simp
 simp only [e2]
 rw [e]
 split
 ·rw [List.foldl_append]; rfl
 ·rfl
theorem less_lt (x y : Txt) : Op.bytesLess x y = decide (x < y):=Go.Proofs.bytesLess_eq x y
theorem putR_keep : ∀ {L : List Rex} {r : Rex},(∀ x ∈ L,Okr x) → Okr r → L.Pairwise (fun x y => rexT x < rexT y) → (putR L r).Pairwise (fun x y => rexT x < rexT y) ∧ ∀ x,x ∈ putR L r ↔ x ∈ L ∨ x = r
 | [],r,_,_,_ => by simp [putR]
 | y :: l,r,hO,hr,hp => by
  rw [List.pairwise_cons] at hp
  obtain ⟨h1,h2⟩:=hp
  obtain ⟨g1,g2⟩:=putR_keep (L:=l) (r:=r) (fun x hx => hO x (List.mem_cons_of_mem _ hx)) hr h2
  rw [putR,less_lt]
  by_cases c : rexT y < rexT r
  ·rw [if_pos (by simpa using c)]
   refine ⟨List.pairwise_cons.2 ⟨fun x hx => ?_,g1⟩,fun x => ?_⟩
   ·rcases (g2 x).1 hx with h | h
    ·exact h1 x h
    ·rw [h]; exact c
   ·rw [List.mem_cons,g2,List.mem_cons,or_assoc]
  ·rw [if_neg (by simpa using c)]
   by_cases e : rexT y = rexT r
   ·have e2 : y = r:=rexT_inj (hO y (List.mem_cons_self ..)) hr e
    subst e2
    rw [if_pos (by simp)]
    refine ⟨List.pairwise_cons.2 ⟨h1,h2⟩,fun x => ?_⟩
    rw [List.mem_cons]
    constructor
    ·rintro (h | h)
     ·exact .inr h
     ·exact .inl (.inr h)
    ·rintro ((h | h) | h)
     ·exact .inl h
     ·exact .inr h
     ·exact .inl h
   ·rw [if_neg (by simpa using e)]
    have c2 : rexT r < rexT y:=by
     rcases Std.le_total (a:=rexT y) (b:=rexT r) with h | h
     ·exact absurd (List.le_antisymm h (by exact c)) e
     ·rcases List.le_iff_lt_or_eq.1 h with h | h
      ·exact h
      ·exact absurd h.symm e
    refine ⟨List.pairwise_cons.2 ⟨fun x hx => ?_,List.pairwise_cons.2 ⟨h1,h2⟩⟩,fun x => ?_⟩
    ·rcases List.mem_cons.1 hx with h | h
     ·rw [h]; exact c2
     ·exact List.lt_trans c2 (h1 x h)
    ·simp only [List.mem_cons]
     constructor
     ·rintro (h | h | h)
      ·exact .inr h
      ·exact .inl (.inl h)
      ·exact .inl (.inr h)
     ·rintro ((h | h) | h)
      ·exact .inr (.inl h)
      ·exact .inr (.inr h)
      ·exact .inl h
theorem foldP_keep : ∀ (l : List Rex) {L : List Rex},(∀ x ∈ l,Okr x) → (∀ x ∈ L,Okr x) → L.Pairwise (fun x y => rexT x < rexT y) → (l.foldl putR L).Pairwise (fun x y => rexT x < rexT y) ∧ ∀ x,x ∈ l.foldl putR L ↔ x ∈ L ∨ x ∈ l
 | [],L,_,_,h => by simp [h]
 | y :: l,L,hl,hL,h => by
  obtain ⟨g1,g2⟩:=putR_keep hL (hl y (List.mem_cons_self ..)) h
  obtain ⟨f1,f2⟩:=foldP_keep l (L:=putR L y) (fun x hx => hl x (List.mem_cons_of_mem _ hx)) (fun x hx => ((g2 x).1 hx).elim (hL x) (fun e => by rw [e]; exact hl y (List.mem_cons_self ..))) g1
  rw [List.foldl_cons]
  refine ⟨f1,fun x => ?_⟩
  rw [f2,g2,List.mem_cons,or_assoc]
theorem sorted_eq : ∀ {A B : List Txt},A.Pairwise (· < ·) → B.Pairwise (· < ·) → (∀ x,x ∈ A ↔ x ∈ B) → A = B
 | [],[],_,_,_ => rfl
 | [],b :: B,_,_,h => by have:=(h b).2 (List.mem_cons_self ..); cases this
 | a :: A,[],_,_,h => by have:=(h a).1 (List.mem_cons_self ..); cases this
 | a :: A,b :: B,hA,hB,h => by
  rw [List.pairwise_cons] at hA hB
  have hab : a = b:=by
   rcases List.mem_cons.1 ((h a).1 (List.mem_cons_self ..)) with e | e
   ·exact e
   ·rcases List.mem_cons.1 ((h b).2 (List.mem_cons_self ..)) with e2 | e2
    ·exact e2.symm
    ·exact absurd (List.lt_trans (hA.1 b e2) (hB.1 a e)) (List.lt_irrefl _)
  subst hab
  rw [sorted_eq hA.2 hB.2 (fun x => ?_)]
  constructor
  ·intro hx
   rcases List.mem_cons.1 ((h x).1 (List.mem_cons_of_mem _ hx)) with e | e
   ·subst e; exact absurd (hA.1 x hx) (List.lt_irrefl _)
   ·exact e
  ·intro hx
   rcases List.mem_cons.1 ((h x).2 (List.mem_cons_of_mem _ hx)) with e | e
   ·subst e; exact absurd (hB.1 x hx) (List.lt_irrefl _)
   ·exact e
theorem sortT_lt {xs : List Txt} (h : xs.Nodup) : (sortT xs).Pairwise (· < ·) ∧ ∀ x,x ∈ sortT xs ↔ x ∈ xs:=by
 refine ⟨?_,fun x => List.mem_mergeSort⟩
 have h1 : (sortT xs).Pairwise fun x y => decide (x ≤ y) = true:=List.pairwise_mergeSort (fun a b c h1 h2 => by simp only [decide_eq_true_eq] at *; exact List.le_trans h1 h2) (fun a b => by simpa using Std.le_total (a:=a) (b:=b)) xs
 have h2 : (sortT xs).Nodup:=(List.mergeSort_perm xs _).nodup_iff.2 h
 refine (h1.and h2).imp ?_
 rintro a b ⟨g1,g2⟩
 simp only [decide_eq_true_eq] at g1
 rcases List.le_iff_lt_or_eq.1 g1 with h | h
 ·exact h
 ·exact absurd h g2
def addD (D : List Rex) (x : Rex) : List Rex:=if D.any (fun y => rexT y == rexT x) = true then D else D ++ [x]
def distR (l : List Rex) : List Rex:=l.foldl addD []
theorem dist_s {l : List Rex} {i : Nat} (h : i < l.length) : distR (l.take (i + 1)) = addD (distR (l.take i)) l[i]:=by
 unfold distR
 rw [List.take_succ_eq_append_getElem h,List.foldl_append]; rfl
theorem addD_keep {D : List Rex} {x : Rex} (hD : ∀ y ∈ D,Okr y) (hx : Okr x) (hn : (D.map rexT).Nodup) : ((addD D x).map rexT).Nodup ∧ ∀ y,y ∈ addD D x ↔ y ∈ D ∨ y = x:=by
 unfold addD
 split
 ·rename_i h
  obtain ⟨z,hz,e⟩:=List.any_eq_true.1 h
  have e : z = x:=rexT_inj (hD z hz) hx (by simpa using e)
  subst e
  exact ⟨hn,fun y => ⟨.inl,fun h => h.elim id (fun e => by rw [e]; exact hz)⟩⟩
 ·rename_i h
  refine ⟨?_,fun y => by simp⟩
  rw [List.map_append,List.nodup_append]
  refine ⟨hn,by simp,fun a ha b hb => ?_⟩
  simp only [List.map_cons,List.map_nil,List.mem_singleton] at hb
  subst hb
  obtain ⟨z,hz,rfl⟩:=List.mem_map.1 ha
  intro e
  exact h (List.any_eq_true.2 ⟨z,hz,by simpa using e⟩)
theorem foldD_keep : ∀ (l : List Rex) {D : List Rex},(∀ x ∈ l,Okr x) → (∀ x ∈ D,Okr x) → (D.map rexT).Nodup → ((l.foldl addD D).map rexT).Nodup ∧ ∀ x,x ∈ l.foldl addD D ↔ x ∈ D ∨ x ∈ l
 | [],D,_,_,h => by simp only [List.foldl_nil,List.not_mem_nil,or_false,implies_true,and_true]; exact h
 | y :: l,D,hl,hD,h => by
  obtain ⟨g1,g2⟩:=addD_keep hD (hl y (List.mem_cons_self ..)) h
  obtain ⟨f1,f2⟩:=foldD_keep l (D:=addD D y) (fun x hx => hl x (List.mem_cons_of_mem _ hx)) (fun x hx => ((g2 x).1 hx).elim (hD x) (fun e => by rw [e]; exact hl y (List.mem_cons_self ..))) g1
  rw [List.foldl_cons]
  refine ⟨f1,fun x => ?_⟩
  rw [f2,g2,List.mem_cons,or_assoc]
theorem dist_ok {l : List Rex} (h : ∀ x ∈ l,Okr x) : ((distR l).map rexT).Nodup ∧ (∀ x,x ∈ distR l ↔ x ∈ l) ∧ ∀ x ∈ distR l,Okr x:=by
 obtain ⟨g1,g2⟩:=foldD_keep l (D:=[]) h (by simp) (by simp)
 have g3 : ∀ x,x ∈ distR l ↔ x ∈ l:=fun x => by rw [distR,g2]; simp
 exact ⟨g1,g3,fun x hx => h x ((g3 x).1 hx)⟩
theorem sort_bag {l : List Rex} (h : ∀ x ∈ l,Okr x) : sortT ((distR l).map rexT) = (l.foldl putR []).map rexT:=by
 obtain ⟨d1,d2,d3⟩:=dist_ok h
 obtain ⟨s1,s2⟩:=sortT_lt d1
 obtain ⟨p1,p2⟩:=foldP_keep l (L:=[]) h (by simp) List.Pairwise.nil
 refine sorted_eq s1 (List.pairwise_map.2 p1) (fun x => ?_)
 rw [s2]
 constructor
 ·intro hx
  obtain ⟨y,hy,e⟩:=List.mem_map.1 hx
  exact List.mem_map.2 ⟨y,(p2 y).2 (.inr ((d2 y).1 hy)),e⟩
 ·intro hx
  obtain ⟨y,hy,e⟩:=List.mem_map.1 hx
  refine List.mem_map.2 ⟨y,(d2 y).2 (((p2 y).1 hy).resolve_left (by simp)),e⟩
def kvR (x : Rex) : AV:=.agg [.str (rexT x),eRex false x]
theorem kv_key {D : List Rex} {t : Txt} : kvKeys (.str t) (D.map kvR):=by
 intro y hy
 obtain ⟨x,_,rfl⟩:=List.mem_map.1 hy
 exact ⟨_,_,rfl,rfl⟩
theorem kv_at {D : List Rex} {j : Nat} (hn : (D.map rexT).Nodup) (hj : j < D.length) : kvAt (.str (rexT D[j])) (eRex false D[j]) (D.map kvR) j:=by
 refine ⟨by rw [List.getElem?_map,List.getElem?_eq_getElem hj]; rfl,fun i hi v' e => ?_⟩
 rw [List.getElem?_map,List.getElem?_eq_getElem (by omega)] at e
 simp only [Option.map_some,kvR,Option.some.injEq,AV.agg.injEq,List.cons.injEq,AV.str.injEq] at e
 have:=(List.pairwise_iff_getElem.1 hn) i j (by simp; omega) (by simpa using hj) hi
 rw [List.getElem_map,List.getElem_map] at this
 exact this e.1
theorem kv_no {D : List Rex} {t : Txt} (h : D.any (fun y => rexT y == t) = false) : kvNo (.str t) (D.map kvR):=by
 intro i v' e
 rw [List.getElem?_map] at e
 cases hx : D[i]? with
 | none => rw [hx] at e; cases e
 | some x =>
  rw [hx] at e
  simp only [Option.map_some,kvR,Option.some.injEq,AV.agg.injEq,List.cons.injEq,AV.str.injEq] at e
  have:=(List.any_eq_false.1 h) x (List.mem_of_getElem? hx)
  simp [e.1] at this
theorem kv_set {D : List Rex} {j : Nat} (hj : j < D.length) : (D.map kvR).set j (kvR D[j]) = D.map kvR:=by
 rw [← List.map_set]; simp
def exGo (σ : St) (t i d : Nat) (K : St → Prop) : AV → Prop
 | .tup vs => i < vs.length ∧ t ≠ d ∧ (vs.getD i .undef).target = none ∧ (if plain (vs.getD i .undef) then K (put σ d (vs.getD i .undef) []) else K (upd (put σ d .undef []) [(d,vs.getD i .undef),(t,.tup (vs.set i .undef))]))
 | _ => False
theorem ex_eq (σ : St) (t i d : Nat) (K : St → Prop) : extractW σ (.tmp t) i d K = exGo σ t i d K (ev σ (.tmp t)):=by
 unfold extractW exGo
 cases ev σ (.tmp t) <;> rfl
theorem exGo_tup (σ : St) (t i d : Nat) (K : St → Prop) (vs : List AV) : exGo σ t i d K (.tup vs) = (i < vs.length ∧ t ≠ d ∧ (vs.getD i .undef).target = none ∧ (if plain (vs.getD i .undef) then K (put σ d (vs.getD i .undef) []) else K (upd (put σ d .undef []) [(d,vs.getD i .undef),(t,.tup (vs.set i .undef))]))):=rfl
theorem retW2 (a b : Nat) (ks : List Nat) (res : AV) (outs : List AV) (σ : St) : retW [a,b] ks res outs σ = ((usedOf (pulls σ [.tmp a,.tmp b]) [.tmp a,.tmp b]).Nodup ∧ leV (.tup [Am.look (pulls σ [.tmp a,.tmp b]) a,Am.look (pulls σ [.tmp a,.tmp b]) b]) res ∧ outsW (pulls σ [.tmp a,.tmp b]) (usedOf (pulls σ [.tmp a,.tmp b]) [.tmp a,.tmp b]) ks 0 outs):=rfl
theorem retW3 (a b c : Nat) (ks : List Nat) (res : AV) (outs : List AV) (σ : St) : retW [a,b,c] ks res outs σ = ((usedOf (pulls σ [.tmp a,.tmp b,.tmp c]) [.tmp a,.tmp b,.tmp c]).Nodup ∧ leV (.tup [Am.look (pulls σ [.tmp a,.tmp b,.tmp c]) a,Am.look (pulls σ [.tmp a,.tmp b,.tmp c]) b,Am.look (pulls σ [.tmp a,.tmp b,.tmp c]) c]) res ∧ outsW (pulls σ [.tmp a,.tmp b,.tmp c]) (usedOf (pulls σ [.tmp a,.tmp b,.tmp c]) [.tmp a,.tmp b,.tmp c]) ks 0 outs):=rfl
theorem fits_isNothing (r : Rex) (hb : bd r ≤ 1099511627776) : Fits prog 75 [eRex false r] (.bool (noR r)) []:=by
 have hb2:=bd_eq r
 have e : noR r = (decide (r.kind = 1) && decide (r.set.length = 0)):=by
  unfold noR; simp
 rw [e,eRex_eq]
 by_cases h1 : r.kind = 1
 ·by_cases h2 : r.set.length = 0
  ·have h2' : (r.set.length : Int) = 0:=by omega
   refine fits_of_code [2] [] [0,1,2] func75 rfl rfl rfl (by rfl) (by show 1 ≤ 12; decide) (by rfl) (by rfl) (by show 0 ≤ 1; decide) (by rfl) (run_of ?_)
   (repeat (first | refine Zo (Z7 tis fls rx @h1 @h2 @h2' Zi) ?_ | refine .inl ⟨by kernel_rfl,?_⟩ | exact .inl (by show _ = _; kernel_rfl) | exact Zc (Z7 tis fls rx @h1 @h2 @h2' Zi)))
   done
  ·have h2' : ¬ (r.set.length : Int) = 0:=by omega
   refine fits_of_code [2] [] [0,1,2] func75 rfl rfl rfl (by rfl) (by show 1 ≤ 12; decide) (by rfl) (by rfl) (by show 0 ≤ 1; decide) (by rfl) (run_of ?_)
   (repeat (first | refine Zo (Z7 tis fls rx @h1 @h2 @h2' Zi) ?_ | refine .inl ⟨by kernel_rfl,?_⟩ | exact .inl (by show _ = _; kernel_rfl) | exact Zc (Z7 tis fls rx @h1 @h2 @h2' Zi)))
   done
 ·refine fits_of_code [2] [] [0,1,2] func75 rfl rfl rfl (by rfl) (by show 1 ≤ 12; decide) (by rfl) (by rfl) (by show 0 ≤ 1; decide) (by rfl) (run_of ?_)
  (repeat (first | refine Zo (Z5 tis fls rx @h1 Zi) ?_ | refine .inl ⟨by kernel_rfl,?_⟩ | exact .inl (by show _ = _; kernel_rfl) | exact Zc (Z5 tis fls rx @h1 Zi)))
  done
theorem repWs_undef {h h' : Array Obj} {S : Nat → Prop} : ∀ {xs : List AV} {vs : List Value} {O : Nat → Prop},RepWs h S xs vs O → ∀ {S'},RepWs h' S' (xs.map fun _ => .undef) vs (fun _ => False)
 | [],vs,O,r,S' => by
  simp only [RepWs,List.map_nil] at r ⊢
  exact ⟨r.1,emp_false⟩
 | x :: xs,vs,O,r,S' => by
  simp only [RepWs,List.map_cons] at r ⊢
  obtain ⟨v,vs',O1,O2,rfl,_,_,_,r2⟩:=r
  exact ⟨v,vs',fun _ => False,fun _ => False,rfl,by simp,by simp,by simp only [RepW]; exact emp_false,repWs_undef r2⟩
theorem repWs_length {h : Array Obj} {S : Nat → Prop} : ∀ {xs : List AV} {vs : List Value} {O : Nat → Prop},RepWs h S xs vs O → xs.length = vs.length
 | [],vs,O,r => by simp only [RepWs] at r; rw [r.1]; rfl
 | x :: xs,vs,O,r => by
  simp only [RepWs] at r
  obtain ⟨v,vs',O1,O2,rfl,_,_,_,r2⟩:=r
  simp [repWs_length r2]
theorem fits_used {f : FuncId} {args : List AV} {res : AV} (F : Fits prog f args res []) : Fits prog f args res (args.map fun _ => .undef):=by
 obtain ⟨h1,h2⟩:=F
 refine ⟨h1,fun w vs ok O hok r hly => ?_⟩
 refine Calls.mono (h2 w vs ok O hok r hly) ?_
 rintro e w' ⟨v,Or,Oo,rfl,g1,g2,g3,g4,g5,g6,g7,g8,g9⟩
 refine ⟨v,Or,fun _ => False,rfl,g1,g2,g3,g4,g5,?_,?_,fun _ _ h => h,fun k hk => g9 k (.inl (hk.resolve_right id))⟩
 ·exact repW_mono _ g6 ⟨fun k hk _ => ⟨⟨hk.1,hk.2.1,id⟩,rfl⟩,fun _ _ => rfl⟩
 ·rw [List.length_map,repWs_length r,List.take_length]
  exact repWs_undef r
theorem fits_joined (k : Int) (hk : k = 4 ∨ k = 6) (r : Rex) : ∀ (out : List Rex),Okr r → bd r ≤ 1000000000 → out.length + (listR k r).length ≤ 1099511627776 → Fits prog 129 [.int .i64 k,eRex false r,.sl true 3 (out.map (eRex false))] (.sl true 3 ((out ++ listR k r).map (eRex false))) []:=by
 induction r using Rex.ind' with
 | h r ih =>
  intro out hr hb hl
  have er:=eRex_eq false r
  by_cases e : r.kind = k
  ·obtain ⟨a,b,e1,ha,hb2,hl2⟩:=okr_kids2 hr (by omega)
   have el : listR k r = listR k a ++ listR k b:=by rw [listR_eq,if_pos e,e1]; rfl
   rw [el,List.length_append] at hl
   have c1:=fits_used (ih a (by rw [e1]; simp) out ha (by omega) (by omega))
   have c2:=fits_used (ih b (by rw [e1]; simp) (out ++ listR k a) hb2 (by omega) (by rw [List.length_append]; omega))
   rw [el,er,e1,← List.append_assoc]
   simp only [List.map_cons,List.map_nil] at c1 c2 ⊢
   rw [eRex_eq] at c1 c2
   generalize out.map (eRex false) = X0 at *
   generalize (out ++ listR k a).map (eRex false) = X1 at *
   generalize (out ++ listR k a ++ listR k b).map (eRex false) = X2 at *
   refine fits_of_code [6] [] [0,1,2,4,6,10] func129 rfl rfl rfl (by rfl) (by show 3 ≤ 28; decide) (by rfl) (by rfl) (by show 0 ≤ 3; decide) (by rfl) (run_of ?_)
   refine Zo (Z6 tis rx fls @LLmapcon @LLmapnil @eRex_eq) ?_
   refine .inr (run_bar 12 26 [] [2] (by kernel_rfl) ?_)
   refine Zo (Z6 tis rx fls @LLmapcon @LLmapnil @eRex_eq) ?_
   refine callG 2 c1 ?_
   refine Zo (Z6 tis rx fls @LLmapcon @LLmapnil @eRex_eq) ?_
   refine ⟨by split <;> trivial,?_⟩
   refine callM 2 c2 ?_
   refine Zo (Z6 tis rx fls @LLmapcon @LLmapnil @eRex_eq) ?_
   try (split <;> trivial)
   done
  ·have el : listR k r = [r]:=by rw [listR_eq,if_neg e]
   rw [el,er]
   rw [el] at hl
   refine fits_of_code [6] [] [0,1,2,4,6,10] func129 rfl rfl rfl (by rfl) (by show 3 ≤ 28; decide) (by rfl) (by rfl) (by show 0 ≤ 3; decide) (by rfl) (run_of ?_)
   exact Zc (Z7 tis rx fls @LLmapcon @LLmapnil @LLmapapp @eRex_eq)
   done

structure LensD (d : Dfa) : Prop where
 p : d.parts.length ≤ 9223372036854775807
 pc : ∀ c ∈ d.parts,c.length ≤ 9223372036854775807
 r : d.rows.length ≤ 9223372036854775807
 rc : ∀ c ∈ d.rows,c.length ≤ 9223372036854775807
 a : d.acc.length ≤ 9223372036854775807
structure Small (d : Dfa) : Prop where
 p : d.parts.length ≤ 1048576
 ps : sumS d.parts ≤ 1048576
 r : d.rows.length ≤ 1048576
 rs : sumS d.rows ≤ 1048576
 a : d.acc.length ≤ 1048576
theorem Small.pc {d : Dfa} (h : Small d) : ∀ c ∈ d.parts,c.length ≤ 1048576:=fun c hc => Nat.le_trans (sumS_mem hc) h.ps
theorem Small.rc {d : Dfa} (h : Small d) : ∀ c ∈ d.rows,c.length ≤ 1048576:=fun c hc => Nat.le_trans (sumS_mem hc) h.rs



def mixB (f : Bool → Bool → Bool) (s t : List Span) (i : Nat) : List Bool:=(List.range 256).map fun b => if b < i then f (hasB s (b : Nat)) (hasB t (b : Nat)) else hasB s (b : Nat)
theorem mixB_len (f : Bool → Bool → Bool) (s t : List Span) (i : Nat) : (mixB f s t i).length = 256:=by simp [mixB]
theorem mixB_0 (f : Bool → Bool → Bool) (s t : List Span) : mixB f s t 0 = bitsL s:=by simp [mixB,bitsL]
theorem mixB_get (f : Bool → Bool → Bool) (s t : List Span) {i : Nat} (h : i < 256) : (mixB f s t i).getD i false = hasB s i:=by
 have h1 : i < (mixB f s t i).length:=by rw [mixB_len]; exact h
 simp only [List.getD,List.getElem?_eq_getElem h1,Option.getD_some]
 simp [mixB]
theorem mixB_set (f : Bool → Bool → Bool) (s t : List Span) {i : Nat} (h : i < 256) : (mixB f s t i).set i (f (hasB s i) (hasB t i)) = mixB f s t (i + 1):=by
 apply List.ext_getElem
 ·simp [mixB]
 ·intro c h1 h2
  rw [List.getElem_set]
  simp only [mixB,List.getElem_map,List.getElem_range]
  by_cases e : i = c
  ·subst e; simp
  ·rw [if_neg e]
   by_cases h3 : c < i
   ·rw [if_pos h3,if_pos (by omega)]
   ·rw [if_neg h3,if_neg (by omega)]
theorem mixB_end (f : Bool → Bool → Bool) (s t : List Span) : mixB f s t 256 = (List.range 256).map fun b => f (hasB s (b : Nat)) (hasB t (b : Nat)):=by
 unfold mixB
 refine List.map_congr_left fun b hb => ?_
 rw [if_pos (List.mem_range.1 hb)]
theorem fits_setJoin (s t : List Span) (hs : s.length ≤ 1048576) (ht : t.length ≤ 1048576) : Fits prog 130 [.sl false 2 (s.map eSpan),.sl false 2 (t.map eSpan)] (.sl true 2 ((joinL s t).map eSpan)) []:=by
 have c1:=fits_setOk s (by omega)
 have c2:=fits_setOk t (by omega)
 unfold joinL
 cases h1 : setB s with
 | false =>
  rw [h1] at c1
  rw [if_neg (by simp)]
  refine fits_of_code [4] [] [0,1,4,5,6,7,15,20,21] func130 rfl rfl rfl (by rfl) (by show 2 ≤ 36; decide) (by rfl) (by rfl) (by show 0 ≤ 2; decide) (by rfl) (run_of ?_)
  (repeat (first | refine callL c1 ?_ | refine callB c1 ?_ | refine Zo (Z4 tis fls @LLmapnil Zi) ?_ | refine .inl ⟨by kernel_rfl,?_⟩ | exact .inl (by show _ = _; kernel_rfl) | exact Zc (Z4 tis fls @LLmapnil Zi)))
 | true =>
  rw [h1] at c1
  cases h2 : setB t with
  | false =>
   rw [h2] at c2
   rw [if_neg (by simp)]
   refine fits_of_code [4] [] [0,1,4,5,6,7,15,20,21] func130 rfl rfl rfl (by rfl) (by show 2 ≤ 36; decide) (by rfl) (by rfl) (by show 0 ≤ 2; decide) (by rfl) (run_of ?_)
   (repeat (first | refine Zo (Z4 tis fls @LLmapnil Zi) ?_ | refine .inl ⟨by kernel_rfl,?_⟩ | exact .inl (by show _ = _; kernel_rfl) | exact Zc (Z4 tis fls @LLmapnil Zi)); try ((first | refine callL c1 ?_ | refine callB c1 ?_); repeat (first | refine Zo (Z4 tis fls @LLmapnil Zi) ?_ | refine .inl ⟨by kernel_rfl,?_⟩ | exact .inl (by show _ = _; kernel_rfl) | exact Zc (Z4 tis fls @LLmapnil Zi))); try ((first | refine callL c2 ?_ | refine callB c2 ?_); repeat (first | refine Zo (Z4 tis fls @LLmapnil Zi) ?_ | refine .inl ⟨by kernel_rfl,?_⟩ | exact .inl (by show _ = _; kernel_rfl) | exact Zc (Z4 tis fls @LLmapnil Zi))))
  | true =>
   rw [h2] at c2
   rw [if_pos ⟨rfl,rfl⟩]
   have b1:=fits_bitsOf s (by omega)
   have b2:=fits_bitsOf t (by omega)
   have e0:=mixB_0 (fun a b => a || b) s t
   rw [← e0] at b1
   have cS:=fits_spans (mixB (fun a b => a || b) s t 256) (mixB_len _ _ _ _)
   have eE : mixB (fun a b => a || b) s t 256 = joinB s t:=mixB_end _ s t
   rw [eE] at cS
   have bl : ∀ (l : List Bool),∀ x,x ∈ List.map eBool l → false = x.isAgg ∧ x.stor = true:=by
    intro l x hx; obtain ⟨y,_,rfl⟩:=List.mem_map.1 hx; exact ⟨rfl,rfl⟩
   have hlm:=fun i => mixB_len (fun a b => a || b) s t i
   have hlt:=bitsL_len t
   have hl0:=hlm 0
   refine fits_of_code [4] [] [0,1,4,5,6,7,15,20,21] func130 rfl rfl rfl (by rfl) (by show 2 ≤ 36; decide) (by rfl) (by rfl) (by show 0 ≤ 2; decide) (by rfl) (run_of ?_)
   (repeat (first | refine Zo (Z5 tis fls @hl0 @hlt Zi) ?_ | refine .inl ⟨by kernel_rfl,?_⟩ | exact .inl (by show _ = _; kernel_rfl) | exact Zc (Z5 tis fls @hl0 @hlt Zi)); try ((first | refine callL c1 ?_ | refine callB c1 ?_); repeat (first | refine Zo (Z5 tis fls @hl0 @hlt Zi) ?_ | refine .inl ⟨by kernel_rfl,?_⟩ | exact .inl (by show _ = _; kernel_rfl) | exact Zc (Z5 tis fls @hl0 @hlt Zi))); try ((first | refine callL c2 ?_ | refine callB c2 ?_); repeat (first | refine Zo (Z5 tis fls @hl0 @hlt Zi) ?_ | refine .inl ⟨by kernel_rfl,?_⟩ | exact .inl (by show _ = _; kernel_rfl) | exact Zc (Z5 tis fls @hl0 @hlt Zi))); try ((first | refine callL b1 ?_ | refine callB b1 ?_); repeat (first | refine Zo (Z5 tis fls @hl0 @hlt Zi) ?_ | refine .inl ⟨by kernel_rfl,?_⟩ | exact .inl (by show _ = _; kernel_rfl) | exact Zc (Z5 tis fls @hl0 @hlt Zi))); try ((first | refine callL b2 ?_ | refine callB b2 ?_); repeat (first | refine Zo (Z5 tis fls @hl0 @hlt Zi) ?_ | refine .inl ⟨by kernel_rfl,?_⟩ | exact .inl (by show _ = _; kernel_rfl) | exact Zc (Z5 tis fls @hl0 @hlt Zi))))
   refine run_loop (α:=Nat) (fun i => i ≤ 256) (fun i => [(5,.box (.arr 1 ((mixB (fun a b => a || b) s t i).map eBool))),(6,.box (.arr 1 ((bitsL t).map eBool))),(20,.int .i64 i)]) (fun i => 256 - i) 0 (Nat.zero_le _) ?_ ?_
   ·(first | refine Zo tis ?_ | exact Zc tis)
   ·intro i hi'
    by_cases hi : i < 256
    ·have hl1:=hlm i
     have g1:=getBool (mixB (fun a b => a || b) s t i) i (by omega)
     rw [mixB_get (fun a b => a || b) s t hi] at g1
     have g2:=getBool (bitsL t) i (by omega)
     rw [bitsL_getD t i hi] at g2
     have g3 : ((mixB (fun a b => a || b) s t i).map eBool).getD i .undef = .bool (hasB s i):=by simp [List.getD,g1]
     have g4 : ((bitsL t).map eBool).getD i .undef = .bool (hasB t i):=by simp [List.getD,g2]
     have hse:=mixB_set (fun a b => a || b) s t hi
     have hst : ((mixB (fun a b => a || b) s t i).map eBool).set i (.bool ((fun a b => a || b) (hasB s i) (hasB t i))) = (mixB (fun a b => a || b) s t (i + 1)).map eBool:=by rw [← hse,List.map_set]; rfl
     generalize hA : (mixB (fun a b => a || b) s t i).map eBool = A at *
     generalize hB : (mixB (fun a b => a || b) s t (i + 1)).map eBool = B at *
     have hAl : A.length = 256:=by rw [← hA,List.length_map]; exact hl1
     generalize hasB s (i : Int) = x at *
     generalize hasB t (i : Int) = y at *
     cases x <;> cases y <;> simp only [Bool.or_true,Bool.or_false,Bool.and_true,Bool.and_false,Bool.true_or,Bool.false_or,Bool.true_and,Bool.false_and] at hst
     all_goals
      (repeat (first | refine Zo (Z10 tis fls @g1 @g2 @g3 @g4 @hAl @hlt @hst Zi) ?_ | refine .inl ⟨by kernel_rfl,?_⟩ | exact .inl (by show _ = _; kernel_rfl) | exact Zc (Z10 tis fls @g1 @g2 @g3 @g4 @hAl @hlt @hst Zi)))
      refine round_normal (i + 1) (by omega) ?_ (by show 256 - (i + 1) < 256 - i; omega)
      rw [hB]
      (first | refine Zo tis ?_ | exact Zc tis)
    ·obtain rfl : i = 256:=by omega
     rw [eE]
     have hle:=joinB_len s t
     (repeat (first | refine callL cS ?_ | refine callB cS ?_ | refine Zo (Z4 tis fls @hle Zi) ?_ | refine .inl ⟨by kernel_rfl,?_⟩ | exact .inl (by show _ = _; kernel_rfl) | exact Zc (Z4 tis fls @hle Zi)))
theorem fits_setMeet (s t : List Span) (hs : s.length ≤ 1048576) (ht : t.length ≤ 1048576) : Fits prog 131 [.sl false 2 (s.map eSpan),.sl false 2 (t.map eSpan)] (.sl true 2 ((meetL s t).map eSpan)) []:=by
 have c1:=fits_setOk s (by omega)
 have c2:=fits_setOk t (by omega)
 unfold meetL
 cases h1 : setB s with
 | false =>
  rw [h1] at c1
  rw [if_neg (by simp)]
  refine fits_of_code [4] [] [0,1,4,5,6,7,15,20,21] func131 rfl rfl rfl (by rfl) (by show 2 ≤ 36; decide) (by rfl) (by rfl) (by show 0 ≤ 2; decide) (by rfl) (run_of ?_)
  (repeat (first | refine callL c1 ?_ | refine callB c1 ?_ | refine Zo (Z4 tis fls @LLmapnil Zi) ?_ | refine .inl ⟨by kernel_rfl,?_⟩ | exact .inl (by show _ = _; kernel_rfl) | exact Zc (Z4 tis fls @LLmapnil Zi)))
 | true =>
  rw [h1] at c1
  cases h2 : setB t with
  | false =>
   rw [h2] at c2
   rw [if_neg (by simp)]
   refine fits_of_code [4] [] [0,1,4,5,6,7,15,20,21] func131 rfl rfl rfl (by rfl) (by show 2 ≤ 36; decide) (by rfl) (by rfl) (by show 0 ≤ 2; decide) (by rfl) (run_of ?_)
   (repeat (first | refine Zo (Z4 tis fls @LLmapnil Zi) ?_ | refine .inl ⟨by kernel_rfl,?_⟩ | exact .inl (by show _ = _; kernel_rfl) | exact Zc (Z4 tis fls @LLmapnil Zi)); try ((first | refine callL c1 ?_ | refine callB c1 ?_); repeat (first | refine Zo (Z4 tis fls @LLmapnil Zi) ?_ | refine .inl ⟨by kernel_rfl,?_⟩ | exact .inl (by show _ = _; kernel_rfl) | exact Zc (Z4 tis fls @LLmapnil Zi))); try ((first | refine callL c2 ?_ | refine callB c2 ?_); repeat (first | refine Zo (Z4 tis fls @LLmapnil Zi) ?_ | refine .inl ⟨by kernel_rfl,?_⟩ | exact .inl (by show _ = _; kernel_rfl) | exact Zc (Z4 tis fls @LLmapnil Zi))))
  | true =>
   rw [h2] at c2
   rw [if_pos ⟨rfl,rfl⟩]
   have b1:=fits_bitsOf s (by omega)
   have b2:=fits_bitsOf t (by omega)
   have e0:=mixB_0 (fun a b => a && b) s t
   rw [← e0] at b1
   have cS:=fits_spans (mixB (fun a b => a && b) s t 256) (mixB_len _ _ _ _)
   have eE : mixB (fun a b => a && b) s t 256 = meetB s t:=mixB_end _ s t
   rw [eE] at cS
   have bl : ∀ (l : List Bool),∀ x,x ∈ List.map eBool l → false = x.isAgg ∧ x.stor = true:=by
    intro l x hx; obtain ⟨y,_,rfl⟩:=List.mem_map.1 hx; exact ⟨rfl,rfl⟩
   have hlm:=fun i => mixB_len (fun a b => a && b) s t i
   have hlt:=bitsL_len t
   have hl0:=hlm 0
   refine fits_of_code [4] [] [0,1,4,5,6,7,15,20,21] func131 rfl rfl rfl (by rfl) (by show 2 ≤ 36; decide) (by rfl) (by rfl) (by show 0 ≤ 2; decide) (by rfl) (run_of ?_)
   (repeat (first | refine Zo (Z5 tis fls @hl0 @hlt Zi) ?_ | refine .inl ⟨by kernel_rfl,?_⟩ | exact .inl (by show _ = _; kernel_rfl) | exact Zc (Z5 tis fls @hl0 @hlt Zi)); try ((first | refine callL c1 ?_ | refine callB c1 ?_); repeat (first | refine Zo (Z5 tis fls @hl0 @hlt Zi) ?_ | refine .inl ⟨by kernel_rfl,?_⟩ | exact .inl (by show _ = _; kernel_rfl) | exact Zc (Z5 tis fls @hl0 @hlt Zi))); try ((first | refine callL c2 ?_ | refine callB c2 ?_); repeat (first | refine Zo (Z5 tis fls @hl0 @hlt Zi) ?_ | refine .inl ⟨by kernel_rfl,?_⟩ | exact .inl (by show _ = _; kernel_rfl) | exact Zc (Z5 tis fls @hl0 @hlt Zi))); try ((first | refine callL b1 ?_ | refine callB b1 ?_); repeat (first | refine Zo (Z5 tis fls @hl0 @hlt Zi) ?_ | refine .inl ⟨by kernel_rfl,?_⟩ | exact .inl (by show _ = _; kernel_rfl) | exact Zc (Z5 tis fls @hl0 @hlt Zi))); try ((first | refine callL b2 ?_ | refine callB b2 ?_); repeat (first | refine Zo (Z5 tis fls @hl0 @hlt Zi) ?_ | refine .inl ⟨by kernel_rfl,?_⟩ | exact .inl (by show _ = _; kernel_rfl) | exact Zc (Z5 tis fls @hl0 @hlt Zi))))
   refine run_loop (α:=Nat) (fun i => i ≤ 256) (fun i => [(5,.box (.arr 1 ((mixB (fun a b => a && b) s t i).map eBool))),(6,.box (.arr 1 ((bitsL t).map eBool))),(20,.int .i64 i)]) (fun i => 256 - i) 0 (Nat.zero_le _) ?_ ?_
   ·(first | refine Zo tis ?_ | exact Zc tis)
   ·intro i hi'
    by_cases hi : i < 256
    ·have hl1:=hlm i
     have g1:=getBool (mixB (fun a b => a && b) s t i) i (by omega)
     rw [mixB_get (fun a b => a && b) s t hi] at g1
     have g2:=getBool (bitsL t) i (by omega)
     rw [bitsL_getD t i hi] at g2
     have g3 : ((mixB (fun a b => a && b) s t i).map eBool).getD i .undef = .bool (hasB s i):=by simp [List.getD,g1]
     have g4 : ((bitsL t).map eBool).getD i .undef = .bool (hasB t i):=by simp [List.getD,g2]
     have hse:=mixB_set (fun a b => a && b) s t hi
     have hst : ((mixB (fun a b => a && b) s t i).map eBool).set i (.bool ((fun a b => a && b) (hasB s i) (hasB t i))) = (mixB (fun a b => a && b) s t (i + 1)).map eBool:=by rw [← hse,List.map_set]; rfl
     generalize hA : (mixB (fun a b => a && b) s t i).map eBool = A at *
     generalize hB : (mixB (fun a b => a && b) s t (i + 1)).map eBool = B at *
     have hAl : A.length = 256:=by rw [← hA,List.length_map]; exact hl1
     generalize hasB s (i : Int) = x at *
     generalize hasB t (i : Int) = y at *
     cases x <;> cases y <;> simp only [Bool.or_true,Bool.or_false,Bool.and_true,Bool.and_false,Bool.true_or,Bool.false_or,Bool.true_and,Bool.false_and] at hst
     all_goals
      (repeat (first | refine Zo (Z10 tis fls @g1 @g2 @g3 @g4 @hAl @hlt @hst Zi) ?_ | refine .inl ⟨by kernel_rfl,?_⟩ | exact .inl (by show _ = _; kernel_rfl) | exact Zc (Z10 tis fls @g1 @g2 @g3 @g4 @hAl @hlt @hst Zi)))
      refine round_normal (i + 1) (by omega) ?_ (by show 256 - (i + 1) < 256 - i; omega)
      rw [hB]
      (first | refine Zo tis ?_ | exact Zc tis)
    ·obtain rfl : i = 256:=by omega
     rw [eE]
     have hle:=meetB_len s t
     (repeat (first | refine callL cS ?_ | refine callB cS ?_ | refine Zo (Z4 tis fls @hle Zi) ?_ | refine .inl ⟨by kernel_rfl,?_⟩ | exact .inl (by show _ = _; kernel_rfl) | exact Zc (Z4 tis fls @hle Zi)))
theorem fits_itoaI (z : Int) (h0 : 0 ≤ z) (h1 : z ≤ 9223372036854775807) : Fits prog 163 [.int .i64 z] (.str (decN z.toNat)) []:=by
 have:=fits_itoa z.toNat (by omega)
 rwa [show ((z.toNat : Nat) : Int) = z by omega] at this
def SpB (s : List Span) : Prop:=∀ x ∈ s,0 ≤ x.lo ∧ x.lo ≤ x.hi ∧ x.hi ≤ 255
theorem join_J : ∀ s : List Span,Lib.join (s.map spT) [44] = setJ s
 | [] => rfl
 | [x] => by simp [Lib.join,List.intercalate,setJ]
 | x :: y :: l => by
  have ih:=join_J (y :: l)
  unfold Lib.join at ih ⊢
  rw [setJ,← ih]
  simp [List.intercalate,List.intersperse]
theorem setJ_len : ∀ s : List Span,SpB s → (setJ s).length ≤ 8 * s.length
 | [],_ => by simp [setJ]
 | [x],h => by
  obtain ⟨a,b,c⟩:=h x (by simp)
  have:=spT_len a b c
  simp only [setJ,List.length_singleton]; omega
 | x :: y :: l,h => by
  obtain ⟨a,b,c⟩:=h x (by simp)
  have:=spT_len a b c
  have ih:=setJ_len (y :: l) (fun z hz => h z (List.mem_cons_of_mem _ hz))
  simp only [setJ,List.length_append,List.length_cons] at *
  omega
theorem fits_setText (s : List Span) (hs : setB s = true) : Fits prog 157 [.sl false 2 (s.map eSpan)] (.str (setT s)) []:=by
 have h256:=setB_256 hs
 rw [setT_J]
 by_cases h0 : s = []
 ·subst h0
  rw [if_pos rfl]
  refine fits_of_code [2] [] [0,2,3,5,6,9,10,11,12,13,23] func157 rfl rfl rfl (by rfl) (by show 1 ≤ 37; decide) (by rfl) (by rfl) (by show 0 ≤ 1; decide) (by rfl) (run_of ?_)
  (repeat (first | refine Zo (Z3 tis fls Zi) ?_ | refine .inl ⟨by kernel_rfl,?_⟩ | exact .inl (by show _ = _; kernel_rfl) | exact Zc (Z3 tis fls Zi)))
  done
 rw [if_neg h0]
 have hl : ¬ (s.length : Int) = 0:=by have:=List.length_pos_iff.2 h0; omega
 have hsp : SpB s:=fun x hx => by
  obtain ⟨i,hi,rfl⟩:=List.getElem_of_mem hx
  have:=(setB_at hs i hi).1; exact this
 have cJ:=fits_join (s.map spT) [44] (by rw [List.length_map]; omega) (by rw [join_J]; have:=setJ_len s hsp; omega)
 rw [join_J] at cJ
 refine fits_of_code [2] [] [0,2,3,5,6,9,10,11,12,13,23] func157 rfl rfl rfl (by rfl) (by show 1 ≤ 37; decide) (by rfl) (by rfl) (by show 0 ≤ 1; decide) (by rfl) (run_of ?_)
 (repeat (first | refine Zo (Z4 tis fls @hl Zi) ?_ | refine .inl ⟨by kernel_rfl,?_⟩ | exact .inl (by show _ = _; kernel_rfl) | exact Zc (Z4 tis fls @hl Zi)))
 refine run_loop (α:=Nat) (fun i => i ≤ s.length) (fun i => [(3,.sl true 1 (((s.take i).map spT).map eStr)),(10,.sl false 2 (s.map eSpan)),(11,.int .i64 s.length),(12,.int .i64 i)]) (fun i => s.length - i) 0 (Nat.zero_le _) ?_ ?_
 ·(first | refine Zo (Z2 tis @LLmapnil) ?_ | exact Zc (Z2 tis @LLmapnil))
 ·intro i hi'
  by_cases hi : i < s.length
  ·obtain ⟨b1,b2,b3⟩:=hsp _ (List.getElem_mem hi)
   have gi2 : (s.map eSpan)[i]? = some (.agg [.int .i64 s[i].lo,.int .i64 s[i].hi]):=by simp [hi,eSpan]
   have gi : (s.map eSpan).getD i .undef = .agg [.int .i64 s[i].lo,.int .i64 s[i].hi]:=by simp [List.getD,hi,eSpan]
   have e1 : ((s.take (i + 1)).map spT).map eStr = ((s.take i).map spT).map eStr ++ [.str (spT s[i])]:=by rw [List.take_succ_eq_append_getElem hi,List.map_append,List.map_append]; rfl
   have hx : spT s[i] = decN s[i].lo.toNat ++ (if s[i].hi = s[i].lo then [] else 45 :: decN s[i].hi.toNat):=rfl
   have tl : (s.take i).length = i:=by rw [List.length_take]; omega
   have l1:=decN_3 (n:=s[i].lo.toNat) (by omega)
   have l2:=decN_3 (n:=s[i].hi.toNat) (by omega)
   have c1:=fits_itoaI s[i].lo b1 (by omega)
   have c2:=fits_itoaI s[i].hi (by omega) (by omega)
   generalize s[i].lo = lo at *
   generalize s[i].hi = hv at *
   generalize decN lo.toNat = dl at *
   generalize decN hv.toNat = dh at *
   by_cases he : hv = lo
   ·rw [if_pos he,List.append_nil] at hx
    subst he
    (repeat (first | refine callL c1 ?_ | refine callB c1 ?_ | refine Zo (Z5 tis fls @gi @gi2 Zi) ?_ | refine .inl ⟨by kernel_rfl,?_⟩ | exact .inl (by show _ = _; kernel_rfl) | exact Zc (Z5 tis fls @gi @gi2 Zi)))
    refine round_normal (i + 1) (by omega) ?_ (by show s.length - (i + 1) < s.length - i; omega)
    rw [e1,hx]
    (first | refine Zo (Z2 tis fls) ?_ | exact Zc (Z2 tis fls))
    done
   ·rw [if_neg he] at hx
    (repeat (first | refine Zo (Z6 tis fls @gi @gi2 @he Zi) ?_ | refine .inl ⟨by kernel_rfl,?_⟩ | exact .inl (by show _ = _; kernel_rfl) | exact Zc (Z6 tis fls @gi @gi2 @he Zi)); try ((first | refine callL c1 ?_ | refine callB c1 ?_); repeat (first | refine Zo (Z6 tis fls @gi @gi2 @he Zi) ?_ | refine .inl ⟨by kernel_rfl,?_⟩ | exact .inl (by show _ = _; kernel_rfl) | exact Zc (Z6 tis fls @gi @gi2 @he Zi))); try ((first | refine callL c2 ?_ | refine callB c2 ?_); repeat (first | refine Zo (Z6 tis fls @gi @gi2 @he Zi) ?_ | refine .inl ⟨by kernel_rfl,?_⟩ | exact .inl (by show _ = _; kernel_rfl) | exact Zc (Z6 tis fls @gi @gi2 @he Zi))))
    refine round_normal (i + 1) (by omega) ?_ (by show s.length - (i + 1) < s.length - i; omega)
    rw [e1,hx]
    (first | refine Zo (Z2 tis fls) ?_ | exact Zc (Z2 tis fls))
    done
  ·obtain rfl : i = s.length:=by omega
   rw [List.take_length]
   (repeat (first | refine callL cJ ?_ | refine callB cJ ?_ | refine Zo (Z3 tis fls Zi) ?_ | refine .inl ⟨by kernel_rfl,?_⟩ | exact .inl (by show _ = _; kernel_rfl) | exact Zc (Z3 tis fls Zi)))
   done
theorem fits_rexWord (k : Int) (h0 : 1 ≤ k) (h1 : k ≤ 7) : Fits prog 156 [.int .i64 k] (.str (wordK k)) []:=by
 have e : k = 1 ∨ k = 2 ∨ k = 3 ∨ k = 4 ∨ k = 5 ∨ k = 6 ∨ k = 7:=by omega
 rcases e with rfl | rfl | rfl | rfl | rfl | rfl | rfl
 ·rw [show wordK 1 = [115,101,116] from rfl]
  have tn : Int.toNat 1 = 1:=rfl
  refine fits_of_code [2] [] [0,2] func156 rfl rfl rfl (by rfl) (by show 1 ≤ 7; decide) (by rfl) (by rfl) (by show 0 ≤ 1; decide) (by rfl) (run_of ?_)
  (repeat (first | refine Zo (Z4 tis fls @tn Zi) ?_ | refine .inl ⟨by kernel_rfl,?_⟩ | exact .inl (by show _ = _; kernel_rfl) | exact Zc (Z4 tis fls @tn Zi)))
 ·rw [show wordK 2 = [101,109,112,116,121] from rfl]
  have tn : Int.toNat 2 = 2:=rfl
  refine fits_of_code [2] [] [0,2] func156 rfl rfl rfl (by rfl) (by show 1 ≤ 7; decide) (by rfl) (by rfl) (by show 0 ≤ 1; decide) (by rfl) (run_of ?_)
  (repeat (first | refine Zo (Z4 tis fls @tn Zi) ?_ | refine .inl ⟨by kernel_rfl,?_⟩ | exact .inl (by show _ = _; kernel_rfl) | exact Zc (Z4 tis fls @tn Zi)))
 ·rw [show wordK 3 = [99,97,116] from rfl]
  have tn : Int.toNat 3 = 3:=rfl
  refine fits_of_code [2] [] [0,2] func156 rfl rfl rfl (by rfl) (by show 1 ≤ 7; decide) (by rfl) (by rfl) (by show 0 ≤ 1; decide) (by rfl) (run_of ?_)
  (repeat (first | refine Zo (Z4 tis fls @tn Zi) ?_ | refine .inl ⟨by kernel_rfl,?_⟩ | exact .inl (by show _ = _; kernel_rfl) | exact Zc (Z4 tis fls @tn Zi)))
 ·rw [show wordK 4 = [111,114] from rfl]
  have tn : Int.toNat 4 = 4:=rfl
  refine fits_of_code [2] [] [0,2] func156 rfl rfl rfl (by rfl) (by show 1 ≤ 7; decide) (by rfl) (by rfl) (by show 0 ≤ 1; decide) (by rfl) (run_of ?_)
  (repeat (first | refine Zo (Z4 tis fls @tn Zi) ?_ | refine .inl ⟨by kernel_rfl,?_⟩ | exact .inl (by show _ = _; kernel_rfl) | exact Zc (Z4 tis fls @tn Zi)))
 ·rw [show wordK 5 = [115,116,97,114] from rfl]
  have tn : Int.toNat 5 = 5:=rfl
  refine fits_of_code [2] [] [0,2] func156 rfl rfl rfl (by rfl) (by show 1 ≤ 7; decide) (by rfl) (by rfl) (by show 0 ≤ 1; decide) (by rfl) (run_of ?_)
  (repeat (first | refine Zo (Z4 tis fls @tn Zi) ?_ | refine .inl ⟨by kernel_rfl,?_⟩ | exact .inl (by show _ = _; kernel_rfl) | exact Zc (Z4 tis fls @tn Zi)))
 ·rw [show wordK 6 = [97,110,100] from rfl]
  have tn : Int.toNat 6 = 6:=rfl
  refine fits_of_code [2] [] [0,2] func156 rfl rfl rfl (by rfl) (by show 1 ≤ 7; decide) (by rfl) (by rfl) (by show 0 ≤ 1; decide) (by rfl) (run_of ?_)
  (repeat (first | refine Zo (Z4 tis fls @tn Zi) ?_ | refine .inl ⟨by kernel_rfl,?_⟩ | exact .inl (by show _ = _; kernel_rfl) | exact Zc (Z4 tis fls @tn Zi)))
 ·rw [show wordK 7 = [110,111,116] from rfl]
  have tn : Int.toNat 7 = 7:=rfl
  refine fits_of_code [2] [] [0,2] func156 rfl rfl rfl (by rfl) (by show 1 ≤ 7; decide) (by rfl) (by rfl) (by show 0 ≤ 1; decide) (by rfl) (run_of ?_)
  (repeat (first | refine Zo (Z4 tis fls @tn Zi) ?_ | refine .inl ⟨by kernel_rfl,?_⟩ | exact .inl (by show _ = _; kernel_rfl) | exact Zc (Z4 tis fls @tn Zi)))
def wordsR : Rex → List Txt
 | .mk k s ks => wordK k :: ((if k = 1 then [setT s] else []) ++ (ks.map wordsR).flatten)
theorem wordsR_eq (r : Rex) : wordsR r = wordK r.kind :: ((if r.kind = 1 then [setT r.set] else []) ++ (r.kids.map wordsR).flatten):=by cases r; rw [wordsR]; rfl
theorem words_len (r : Rex) : ∀ d,fm d r = true → (wordsR r).length ≤ 2 * (bd r + 1):=by
 induction r using Rex.ind' with
 | h r ih =>
  intro d hd
  cases d with
  | zero => simp [fm] at hd
  | succ d =>
   obtain ⟨_,_,_,h4⟩:=fm_ok hd
   rw [wordsR_eq,bd_eq]
   have key : ∀ l : List Rex,(∀ x ∈ l,(wordsR x).length ≤ 2 * (bd x + 1)) → ((l.map wordsR).flatten).length ≤ 2 * (l.length + (l.map bd).sum):=by
    intro l
    induction l with
    | nil => simp
    | cons x l ih2 =>
     intro hl
     have a:=hl x (List.mem_cons_self ..)
     have b:=ih2 (fun y hy => hl y (List.mem_cons_of_mem _ hy))
     simp only [List.map_cons,List.flatten_cons,List.length_append,List.length_cons,List.sum_cons] at *
     omega
   have:=key r.kids (fun x hx => ih x hx d (h4 x hx))
   simp only [List.length_cons,List.length_append]
   split
   ·simp only [List.length_singleton]; omega
   ·simp only [List.length_nil]; omega
theorem wordsR_ne (r : Rex) : wordsR r ≠ []:=by rw [wordsR_eq]; simp
theorem inter_app (c : Txt) : ∀ (a b : List Txt),a ≠ [] → b ≠ [] → Lib.join (a ++ b) c = Lib.join a c ++ c ++ Lib.join b c
 | [],_,h,_ => absurd rfl h
 | [x],b,_,h => by
  cases b with
  | nil => exact absurd rfl h
  | cons y b => simp [Lib.join,List.intercalate,List.intersperse]
 | x :: y :: a,b,_,h => by
  have ih:=inter_app c (y :: a) b (by simp) h
  have e : ∀ (z : Txt) (l : List Txt),l ≠ [] → Lib.join (z :: l) c = z ++ c ++ Lib.join l c:=fun z l hl => by
   cases l with
   | nil => exact absurd rfl hl
   | cons w l => simp [Lib.join,List.intercalate,List.intersperse]
  rw [List.cons_append,e x _ (by simp),ih,e x _ (by simp)]
  simp
theorem join_rex (r : Rex) : ∀ d,fm d r = true → Lib.join (wordsR r) [32] = rexT r:=by
 induction r using Rex.ind' with
 | h r ih =>
  intro d hd
  cases d with
  | zero => simp [fm] at hd
  | succ d =>
   obtain ⟨h1,_,_,h4⟩:=fm_ok hd
   have one : ∀ x : Txt,Lib.join [x] [32] = x:=fun x => by simp [Lib.join,List.intercalate]
   have key : ∀ (l : List Rex) (a : List Txt),a ≠ [] → (∀ x ∈ l,Lib.join (wordsR x) [32] = rexT x) → Lib.join (a ++ (l.map wordsR).flatten) [32] = Lib.join a [32] ++ ((l.map rexT).map (fun t => 32 :: t)).flatten:=by
    intro l
    induction l with
    | nil => intro a _ _; simp
    | cons x l ih2 =>
     intro a ha hl
     rw [List.map_cons,List.flatten_cons,← List.append_assoc,ih2 (a ++ wordsR x) (by simp [ha]) (fun y hy => hl y (List.mem_cons_of_mem _ hy)),inter_app [32] a _ ha (wordsR_ne x),hl x (List.mem_cons_self ..)]
     simp
   have hk:=fun x hx => ih x hx d (h4 x hx)
   rw [wordsR_eq,rexT_eq]
   by_cases hk1 : r.kind = 1
   ·have k1 : r.kids = []:=by
     have:=h1; rw [hk1] at this; simp [kidsN] at this; exact List.eq_nil_of_length_eq_zero (by omega)
    rw [if_pos hk1,if_pos hk1,k1]
    simp [Lib.join,List.intercalate,List.intersperse]
   ·rw [if_neg hk1,if_neg hk1,List.nil_append]
    have:=key r.kids [wordK r.kind] (by simp) hk
    rw [one] at this
    exact this
theorem fits_writeRex (r : Rex) : ∀ (d : Nat) (out : List Txt),fm d r = true → bd r ≤ 1000000000 → out.length + 2 * (bd r + 1) ≤ 1099511627776 → Fits prog 145 [eRex false r,.sl true 1 (out.map eStr)] (.sl true 1 ((out ++ wordsR r).map eStr)) []:=by
 induction r using Rex.ind' with
 | h r ih =>
  intro d out hd hb ho
  cases d with
  | zero => simp [fm] at hd
  | succ d =>
   obtain ⟨h1,h2,h3,h4⟩:=fm_ok hd
   have rng : 1 ≤ r.kind ∧ r.kind ≤ 7:=by
    unfold kidsN at h1
    split at h1
    ·omega
    ·split at h1
     ·omega
     ·split at h1 <;> omega
   have cW:=fits_rexWord r.kind rng.1 rng.2
   have cS:=fits_setText r.set h3
   have hbe:=bd_eq r
   have hw:=wordsR_eq r
   have hlen : ∀ i (hi : i < r.kids.length),(((r.kids.take i).map wordsR).flatten).length + 2 * (bd r.kids[i] + 1) ≤ 2 * bd r:=by
    intro i hi
    have key : ∀ l : List Rex,(∀ x ∈ l,(wordsR x).length ≤ 2 * (bd x + 1)) → ((l.map wordsR).flatten).length ≤ 2 * (l.length + (l.map bd).sum):=by
     intro l
     induction l with
     | nil => simp
     | cons x l ih2 =>
      intro hl
      have a:=hl x (List.mem_cons_self ..)
      have b:=ih2 (fun y hy => hl y (List.mem_cons_of_mem _ hy))
      simp only [List.map_cons,List.flatten_cons,List.length_append,List.length_cons,List.sum_cons] at *
      omega
    have h1:=key (r.kids.take i) (fun x hx => words_len x d (h4 x (List.mem_of_mem_take hx)))
    have h2:=congrArg List.sum (congrArg (List.map bd) (List.take_append_drop i r.kids))
    rw [List.drop_eq_getElem_cons hi,List.map_append,List.map_cons,List.sum_append,List.sum_cons] at h2
    rw [List.length_take] at h1
    omega
   rw [eRex_eq]
   by_cases hk1 : r.kind = 1
   ·rw [if_pos hk1] at hw
    obtain ⟨out1,ho1⟩ : ∃ o,out ++ [wordK r.kind] ++ [setT r.set] = o:=⟨_,rfl⟩
    have hout : out ++ wordsR r = out1 ++ (r.kids.map wordsR).flatten:=by rw [hw,← ho1]; simp
    have hol : out1.length = out.length + 2:=by rw [← ho1]; simp
    have ho1 : out.map eStr ++ [.str (wordK r.kind)] ++ [.str (setT r.set)] = out1.map eStr:=by rw [← ho1]; simp [eStr]
    generalize hkd : r.kind = kd at *
    subst hk1
    rw [hout]
    refine fits_of_code [4] [] [0,1,2,4,6,15,23,24,25,26] func145 rfl rfl rfl (by rfl) (by show 2 ≤ 34; decide) (by rfl) (by rfl) (by show 0 ≤ 2; decide) (by rfl) (run_of ?_)
    (repeat (first | refine Zo (Z4 tis fls rx Zi) ?_ | refine .inl ⟨by kernel_rfl,?_⟩ | exact .inl (by show _ = _; kernel_rfl) | exact Zc (Z4 tis fls rx Zi)); try ((first | refine callL cW ?_ | refine callB cW ?_); repeat (first | refine Zo (Z4 tis fls rx Zi) ?_ | refine .inl ⟨by kernel_rfl,?_⟩ | exact .inl (by show _ = _; kernel_rfl) | exact Zc (Z4 tis fls rx Zi))); try ((first | refine callL cS ?_ | refine callB cS ?_); repeat (first | refine Zo (Z4 tis fls rx Zi) ?_ | refine .inl ⟨by kernel_rfl,?_⟩ | exact .inl (by show _ = _; kernel_rfl) | exact Zc (Z4 tis fls rx Zi))))
    refine run_loop (α:=Nat) (fun i => i ≤ r.kids.length) (fun i => [(1,.sl true 1 ((out1 ++ ((r.kids.take i).map wordsR).flatten).map eStr)),(23,.sl false 3 (r.kids.map (eRex false))),(24,.int .i64 r.kids.length),(25,.int .i64 i)]) (fun i => r.kids.length - i) 0 (Nat.zero_le _) ?_ ?_
    ·simp -implicitDefEqProofs (disch:=first | (intros; contradiction) | omega) only [am0,am1,am2,am3,am4,am5,am6,Nat.reduceSub,↓reduceIte,reduceCtorEq,Nat.reduceEqDiff,Nat.reduceBEq,Nat.reduceAdd,Nat.reduceLT,Nat.reduceBNe,Nat.reduceMul,↓reduceIte,tis,ho1,List.map_nil,List.flatten_nil,List.append_nil]
     done
    ·intro i hi'
     by_cases hi : i < r.kids.length
     ·have hx:=List.getElem_mem hi
      have hbx:=bd_kid hx
      have hwl:=hlen i hi
      have c:=ih _ hx d (out1 ++ ((r.kids.take i).map wordsR).flatten) (h4 _ hx) (by omega) (by rw [List.length_append]; omega)
      have e1 : (out1 ++ ((r.kids.take i).map wordsR).flatten) ++ wordsR r.kids[i] = out1 ++ ((r.kids.take (i + 1)).map wordsR).flatten:=by
       rw [List.take_succ_eq_append_getElem hi,List.map_append,List.flatten_append,List.append_assoc]; simp
      rw [e1] at c
      have gi2 : (r.kids.map (eRex false))[i]? = some (.agg [.int .i64 r.kids[i].kind,.sl false 2 (r.kids[i].set.map eSpan),.sl false 3 (r.kids[i].kids.map (eRex false))]):=by rw [List.getElem?_map,List.getElem?_eq_getElem hi,Option.map_some,eRex_eq]
      have gi : (r.kids.map (eRex false)).getD i .undef = .agg [.int .i64 r.kids[i].kind,.sl false 2 (r.kids[i].set.map eSpan),.sl false 3 (r.kids[i].kids.map (eRex false))]:=by rw [List.getD,gi2]; rfl
      rw [eRex_eq] at c
      generalize ((out1 ++ ((r.kids.take i).map wordsR).flatten).map eStr) = X at *
      generalize hY : ((out1 ++ ((r.kids.take (i + 1)).map wordsR).flatten).map eStr) = Y at *
      (repeat (first | refine Zo (Z6 tis fls rx @gi @gi2 Zi) ?_ | refine .inl ⟨by kernel_rfl,?_⟩ | exact .inl (by show _ = _; kernel_rfl) | exact Zc (Z6 tis fls rx @gi @gi2 Zi)); try (refine callV c ?_; repeat (first | refine Zo (Z6 tis fls rx @gi @gi2 Zi) ?_ | refine .inl ⟨by kernel_rfl,?_⟩ | exact .inl (by show _ = _; kernel_rfl) | exact Zc (Z6 tis fls rx @gi @gi2 Zi))))
      refine round_normal (i + 1) (by omega) ?_ (by show r.kids.length - (i + 1) < r.kids.length - i; omega)
      rw [hY]
      (first | refine Zo tis ?_ | exact Zc tis)
      done
     ·obtain rfl : i = r.kids.length:=by omega
      rw [List.take_length,← hout]
      (repeat (first | refine Zo (Z4 tis fls rx Zi) ?_ | refine .inl ⟨by kernel_rfl,?_⟩ | exact .inl (by show _ = _; kernel_rfl) | exact Zc (Z4 tis fls rx Zi)))
      done
   ·rw [if_neg hk1] at hw
    obtain ⟨out1,ho1⟩ : ∃ o,out ++ [wordK r.kind] = o:=⟨_,rfl⟩
    have hout : out ++ wordsR r = out1 ++ (r.kids.map wordsR).flatten:=by rw [hw,← ho1]; simp
    have hol : out1.length = out.length + 1:=by rw [← ho1]; simp
    have ho1 : out.map eStr ++ [.str (wordK r.kind)] = out1.map eStr:=by rw [← ho1]; simp [eStr]
    rw [hout]
    refine fits_of_code [4] [] [0,1,2,4,6,15,23,24,25,26] func145 rfl rfl rfl (by rfl) (by show 2 ≤ 34; decide) (by rfl) (by rfl) (by show 0 ≤ 2; decide) (by rfl) (run_of ?_)
    (repeat (first | refine Zo (Z5 tis fls rx @hk1 Zi) ?_ | refine .inl ⟨by kernel_rfl,?_⟩ | exact .inl (by show _ = _; kernel_rfl) | exact Zc (Z5 tis fls rx @hk1 Zi)); try ((first | refine callL cW ?_ | refine callB cW ?_); repeat (first | refine Zo (Z5 tis fls rx @hk1 Zi) ?_ | refine .inl ⟨by kernel_rfl,?_⟩ | exact .inl (by show _ = _; kernel_rfl) | exact Zc (Z5 tis fls rx @hk1 Zi))))
    refine run_loop (α:=Nat) (fun i => i ≤ r.kids.length) (fun i => [(1,.sl true 1 ((out1 ++ ((r.kids.take i).map wordsR).flatten).map eStr)),(23,.sl false 3 (r.kids.map (eRex false))),(24,.int .i64 r.kids.length),(25,.int .i64 i)]) (fun i => r.kids.length - i) 0 (Nat.zero_le _) ?_ ?_
    ·simp -implicitDefEqProofs (disch:=first | (intros; contradiction) | omega) only [am0,am1,am2,am3,am4,am5,am6,Nat.reduceSub,↓reduceIte,reduceCtorEq,Nat.reduceEqDiff,Nat.reduceBEq,Nat.reduceAdd,Nat.reduceLT,Nat.reduceBNe,Nat.reduceMul,↓reduceIte,tis,ho1,List.map_nil,List.flatten_nil,List.append_nil]
     done
    ·intro i hi'
     by_cases hi : i < r.kids.length
     ·have hx:=List.getElem_mem hi
      have hbx:=bd_kid hx
      have hwl:=hlen i hi
      have c:=ih _ hx d (out1 ++ ((r.kids.take i).map wordsR).flatten) (h4 _ hx) (by omega) (by rw [List.length_append]; omega)
      have e1 : (out1 ++ ((r.kids.take i).map wordsR).flatten) ++ wordsR r.kids[i] = out1 ++ ((r.kids.take (i + 1)).map wordsR).flatten:=by
       rw [List.take_succ_eq_append_getElem hi,List.map_append,List.flatten_append,List.append_assoc]; simp
      rw [e1] at c
      have gi2 : (r.kids.map (eRex false))[i]? = some (.agg [.int .i64 r.kids[i].kind,.sl false 2 (r.kids[i].set.map eSpan),.sl false 3 (r.kids[i].kids.map (eRex false))]):=by rw [List.getElem?_map,List.getElem?_eq_getElem hi,Option.map_some,eRex_eq]
      have gi : (r.kids.map (eRex false)).getD i .undef = .agg [.int .i64 r.kids[i].kind,.sl false 2 (r.kids[i].set.map eSpan),.sl false 3 (r.kids[i].kids.map (eRex false))]:=by rw [List.getD,gi2]; rfl
      rw [eRex_eq] at c
      generalize ((out1 ++ ((r.kids.take i).map wordsR).flatten).map eStr) = X at *
      generalize hY : ((out1 ++ ((r.kids.take (i + 1)).map wordsR).flatten).map eStr) = Y at *
      (repeat (first | refine Zo (Z6 tis fls rx @gi @gi2 Zi) ?_ | refine .inl ⟨by kernel_rfl,?_⟩ | exact .inl (by show _ = _; kernel_rfl) | exact Zc (Z6 tis fls rx @gi @gi2 Zi)); try (refine callV c ?_; repeat (first | refine Zo (Z6 tis fls rx @gi @gi2 Zi) ?_ | refine .inl ⟨by kernel_rfl,?_⟩ | exact .inl (by show _ = _; kernel_rfl) | exact Zc (Z6 tis fls rx @gi @gi2 Zi))))
      refine round_normal (i + 1) (by omega) ?_ (by show r.kids.length - (i + 1) < r.kids.length - i; omega)
      rw [hY]
      (first | refine Zo tis ?_ | exact Zc tis)
      done
     ·obtain rfl : i = r.kids.length:=by omega
      rw [List.take_length,← hout]
      (repeat (first | refine Zo (Z4 tis fls rx Zi) ?_ | refine .inl ⟨by kernel_rfl,?_⟩ | exact .inl (by show _ = _; kernel_rfl) | exact Zc (Z4 tis fls rx Zi)))
      done
theorem fits_textOf (r : Rex) (hr : Okr r) (hb : bd r ≤ 1000000000) : Fits prog 132 [eRex false r] (.str (rexT r)) []:=by
 obtain ⟨d,hd⟩:=hr
 have cW:=fits_writeRex r d [] hd hb (by simp only [List.length_nil]; omega)
 rw [List.nil_append,List.map_nil] at cW
 have hl:=rexT_len r d hd
 have hwl:=words_len r d hd
 have cJ:=fits_join (wordsR r) [32] (by omega) (by rw [join_rex r d hd]; omega)
 rw [join_rex r d hd] at cJ
 rw [eRex_eq] at *
 refine fits_of_code [2] [] [0,1,2] func132 rfl rfl rfl (by rfl) (by show 1 ≤ 6; decide) (by rfl) (by rfl) (by show 0 ≤ 1; decide) (by rfl) (run_of ?_)
 (repeat (first | refine Zo (Z4 tis fls rx Zi) ?_ | refine .inl ⟨by kernel_rfl,?_⟩ | exact .inl (by show _ = _; kernel_rfl) | exact Zc (Z4 tis fls rx Zi)); try (refine callV cW ?_; repeat (first | refine Zo (Z4 tis fls rx Zi) ?_ | refine .inl ⟨by kernel_rfl,?_⟩ | exact .inl (by show _ = _; kernel_rfl) | exact Zc (Z4 tis fls rx Zi))); try ((first | refine callL cJ ?_ | refine callB cJ ?_); repeat (first | refine Zo (Z4 tis fls rx Zi) ?_ | refine .inl ⟨by kernel_rfl,?_⟩ | exact .inl (by show _ = _; kernel_rfl) | exact Zc (Z4 tis fls rx Zi))))
theorem fits_isAll (r : Rex) (hb : bd r ≤ 1099511627776) (hk : r.kind = 7 → 0 < r.kids.length) : Fits prog 109 [eRex false r] (.bool (allR r)) []:=by
 have hbd:=bd_eq r
 unfold allR
 by_cases h1 : r.kind = 7
 ·have h0:=hk h1
  have hx:=List.getElem_mem h0
  have c:=fits_isNothing r.kids[0] (Nat.le_trans (bd_kid hx) hb)
  have e : r.kids.getD 0 default = r.kids[0]:=by simp [List.getD,h0]
  rw [e]
  rw [eRex_eq] at c ⊢
  refine fits_of_code [2] [] [0,1,2] func109 rfl rfl rfl (by rfl) (by show 1 ≤ 13; decide) (by rfl) (by rfl) (by show 0 ≤ 1; decide) (by rfl) (run_of ?_)
  refine Zo (Z4 tis rx fls @eRex_eq) ?_
  refine callB c ?_
  cases a : noR r.kids[0] with
  | true => refine Zo (Z3 tis rx fls) ?_; try simp [h1]
  | false => exact Zc (Z3 tis rx fls); try simp [h1]
 ·rw [eRex_eq]
  refine fits_of_code [2] [] [0,1,2] func109 rfl rfl rfl (by rfl) (by show 1 ≤ 13; decide) (by rfl) (by rfl) (by show 0 ≤ 1; decide) (by rfl) (run_of ?_)
  refine Zo (Z3 tis rx fls) ?_
  try simp [h1]
theorem fits_nothing : Fits prog 76 [] (.agg [.int .i64 1,.sl true 2 [],.sl true 3 []]) []:=by
 refine fits_of_cell 0 30 [] [0] func76 rfl rfl rfl (by show 0 < 2; decide) (by show 0 ≤ 2; decide) (by rfl) (by rfl) (by show 0 ≤ 0; decide) (by rfl) (run_of ?_)
 exact Zc (Z3 tis rx fls)
theorem erL_rexL : ∀ l : List Rex,eraseL (l.map (eRex false)) = l.map (eRex false)
 | [] => rfl
 | x :: l => by simp [eraseL,er_rex,erL_rexL l]
theorem fits_two (k : Int) (a b : Rex) : Fits prog 111 [.int .i64 k,eRex false a,eRex false b] (.agg [.int .i64 k,.sl true 2 [],.sl true 3 [eRex false a,eRex false b]]) []:=by
 rw [eRex_eq false a,eRex_eq false b]
 refine fits_of_cell 6 30 [] [0,1,2,4,5,6] func111 rfl rfl rfl (by show 6 < 12; decide) (by show 3 ≤ 12; decide) (by rfl) (by rfl) (by show 0 ≤ 3; decide) (by rfl) (run_of ?_)
 exact Zc (Z3 tis rx fls)
theorem two_rex (k : Int) (a b : Rex) : eRex false (.mk k [] [a,b]) = .agg [.int .i64 k,.sl false 2 [],.sl false 3 [eRex false a,eRex false b]]:=by
 rw [eRex_eq]; rfl
theorem fits_twoR (k : Int) (a b : Rex) : Fits prog 111 [.int .i64 k,eRex false a,eRex false b] (eRex false (.mk k [] [a,b])) [] :=
 fits_as (fits_two k a b) (by rw [two_rex]; simp [erase,eraseL,er_rex])
theorem fits_nothingR : Fits prog 76 [] (eRex false (.mk 1 [] [])) []:=fits_as fits_nothing (by rw [eRex_eq]; rfl)
theorem fits_chain (k : Int) (L : List Rex) (h0 : 0 < L.length) (hL : L.length ≤ 1099511627776) : Fits prog 110 [.int .i64 k,.sl false 3 (L.map (eRex false))] (eRex false (chainR k L)) []:=by
 have eL : chainR k (L.drop (L.length - 1)) = L[L.length - 1]:=by
  rw [List.drop_eq_getElem_cons (by omega),List.drop_of_length_le (by omega)]; rfl
 have e0 : chainR k (L.drop 0) = chainR k L:=by rw [List.drop_zero]
 refine fits_of_cell 4 30 [] [0,1,4,5,6,17] func110 rfl rfl rfl (by show 4 < 28; decide) (by show 2 ≤ 28; decide) (by rfl) (by rfl) (by show 0 ≤ 2; decide) (by rfl) (run_of ?_)
 have tn : ((L.length : Int) - 1).toNat = L.length - 1:=by omega
 refine Zo (Z5 tis rx fls @eRex_eq @tn) ?_
 refine run_loop (α:=Nat) (fun j => j ≤ L.length - 1) (fun j => [(0,.int .i64 k),(1,.sl false 3 (L.map (eRex false))),(4,.box (.agg [.int .i64 0,.sl true 2 [],.sl true 3 []])),(5,.box (eRex false (chainR k (L.drop j)))),(6,.int .i64 ((j : Int) - 1))]) (fun j => j) (L.length - 1) (Nat.le_refl _) ?_ ?_
 ·rw [eL]
  refine Zo (Z5 tis rx fls @eRex_eq @tn) ?_
  omega
 ·intro j hj
  cases j with
  | zero =>
   rw [e0]
   exact Zc (Z4 tis rx fls @eRex_eq)
   done
  | succ i =>
   have hd:=chain_drop (k:=k) (L:=L) (i:=i) (by omega)
   have cT:=fits_twoR k L[i] (chainR k (L.drop (i + 1)))
   rw [← hd] at cT
   rw [eRex_eq false L[i],eRex_eq false (chainR k (L.drop (i + 1))),eRex_eq false (chainR k (L.drop i))] at cT
   have ti : ((i : Int) + 1 - 1).toNat = i:=by omega
   refine Zo (Z5 tis rx fls @eRex_eq @ti) ?_
   refine .inl ⟨by kernel_rfl,?_⟩
   refine callL cT ?_
   refine Zo (Z5 tis rx fls @eRex_eq @ti) ?_
   refine round_normal i (by omega) ?_ (Nat.lt_succ_self i)
   refine Zo (Z7 tis rx fls @eRex_eq @ti @LLmapcon @LLmapnil) ?_
   omega
theorem fits_normCat (a : Rex) : ∀ b,Okr a → Okr b → bd a + bd b + 2 ≤ 1099511627776 → Fits prog 79 [eRex false a,eRex false b] (eRex false (catN a b)) []:=by
 induction a using Rex.ind' with
 | h a ih =>
  intro b ha hb hB
  have hba:=bd_eq a
  have hbb:=bd_eq b
  have cA:=fits_isNothing a (by omega)
  have cB:=fits_isNothing b (by omega)
  have cN:=fits_nothingR
  have ea:=eRex_eq false a
  have eb:=eRex_eq false b
  rw [eRex_eq] at cN
  rw [catN_eq]
  cases n1 : noR a with
  | true =>
   rw [n1] at cA
   rw [if_pos (.inl rfl),eRex_eq false (.mk 1 [] [])]
   rw [ea] at cA ⊢
   rw [eb]
   refine fits_of_cell 4 30 [] [0,1,2,3,4,5,13,18,23] func79 rfl rfl rfl (by show 4 < 41; decide) (by show 2 ≤ 41; decide) (by rfl) (by rfl) (by show 0 ≤ 2; decide) (by rfl) (run_of ?_)
   (repeat (first | refine Zo (Z4 tis rx fls Zi) ?_ | refine .inl ⟨by kernel_rfl,?_⟩ | exact .inl (by show _ = _; kernel_rfl) | exact Zc (Z4 tis rx fls Zi)); try ((first | refine callL cA ?_ | refine callB cA ?_); repeat (first | refine Zo (Z4 tis rx fls Zi) ?_ | refine .inl ⟨by kernel_rfl,?_⟩ | exact .inl (by show _ = _; kernel_rfl) | exact Zc (Z4 tis rx fls Zi))); try ((first | refine callL cN ?_ | refine callB cN ?_); repeat (first | refine Zo (Z4 tis rx fls Zi) ?_ | refine .inl ⟨by kernel_rfl,?_⟩ | exact .inl (by show _ = _; kernel_rfl) | exact Zc (Z4 tis rx fls Zi))))
   done
  | false =>
   rw [n1] at cA
   cases n2 : noR b with
   | true =>
    rw [n2] at cB
    rw [if_pos (.inr rfl),eRex_eq false (.mk 1 [] [])]
    rw [ea] at cA ⊢
    rw [eb] at cB ⊢
    refine fits_of_cell 4 30 [] [0,1,2,3,4,5,13,18,23] func79 rfl rfl rfl (by show 4 < 41; decide) (by show 2 ≤ 41; decide) (by rfl) (by rfl) (by show 0 ≤ 2; decide) (by rfl) (run_of ?_)
    (repeat (first | refine Zo (Z4 tis rx fls Zi) ?_ | refine .inl ⟨by kernel_rfl,?_⟩ | exact .inl (by show _ = _; kernel_rfl) | exact Zc (Z4 tis rx fls Zi)); try ((first | refine callL cA ?_ | refine callB cA ?_); repeat (first | refine Zo (Z4 tis rx fls Zi) ?_ | refine .inl ⟨by kernel_rfl,?_⟩ | exact .inl (by show _ = _; kernel_rfl) | exact Zc (Z4 tis rx fls Zi))); try ((first | refine callL cB ?_ | refine callB cB ?_); repeat (first | refine Zo (Z4 tis rx fls Zi) ?_ | refine .inl ⟨by kernel_rfl,?_⟩ | exact .inl (by show _ = _; kernel_rfl) | exact Zc (Z4 tis rx fls Zi))); try ((first | refine callL cN ?_ | refine callB cN ?_); repeat (first | refine Zo (Z4 tis rx fls Zi) ?_ | refine .inl ⟨by kernel_rfl,?_⟩ | exact .inl (by show _ = _; kernel_rfl) | exact Zc (Z4 tis rx fls Zi))))
    done
   | false =>
    rw [n2] at cB
    rw [if_neg (by simp)]
    by_cases k2 : a.kind = 2
    ·rw [if_pos k2]
     rw [ea] at cA ⊢
     rw [eb] at cB ⊢
     refine fits_of_cell 4 30 [] [0,1,2,3,4,5,13,18,23] func79 rfl rfl rfl (by show 4 < 41; decide) (by show 2 ≤ 41; decide) (by rfl) (by rfl) (by show 0 ≤ 2; decide) (by rfl) (run_of ?_)
     (repeat (first | refine Zo (Z4 tis rx fls Zi) ?_ | refine .inl ⟨by kernel_rfl,?_⟩ | exact .inl (by show _ = _; kernel_rfl) | exact Zc (Z4 tis rx fls Zi)); try ((first | refine callL cA ?_ | refine callB cA ?_); repeat (first | refine Zo (Z4 tis rx fls Zi) ?_ | refine .inl ⟨by kernel_rfl,?_⟩ | exact .inl (by show _ = _; kernel_rfl) | exact Zc (Z4 tis rx fls Zi))); try ((first | refine callL cB ?_ | refine callB cB ?_); repeat (first | refine Zo (Z4 tis rx fls Zi) ?_ | refine .inl ⟨by kernel_rfl,?_⟩ | exact .inl (by show _ = _; kernel_rfl) | exact Zc (Z4 tis rx fls Zi))))
     done
    ·rw [if_neg k2]
     by_cases j2 : b.kind = 2
     ·rw [if_pos j2]
      rw [ea] at cA ⊢
      rw [eb] at cB ⊢
      refine fits_of_cell 4 30 [] [0,1,2,3,4,5,13,18,23] func79 rfl rfl rfl (by show 4 < 41; decide) (by show 2 ≤ 41; decide) (by rfl) (by rfl) (by show 0 ≤ 2; decide) (by rfl) (run_of ?_)
      (repeat (first | refine Zo (Z4 tis rx fls Zi) ?_ | refine .inl ⟨by kernel_rfl,?_⟩ | exact .inl (by show _ = _; kernel_rfl) | exact Zc (Z4 tis rx fls Zi)); try ((first | refine callL cA ?_ | refine callB cA ?_); repeat (first | refine Zo (Z4 tis rx fls Zi) ?_ | refine .inl ⟨by kernel_rfl,?_⟩ | exact .inl (by show _ = _; kernel_rfl) | exact Zc (Z4 tis rx fls Zi))); try ((first | refine callL cB ?_ | refine callB cB ?_); repeat (first | refine Zo (Z4 tis rx fls Zi) ?_ | refine .inl ⟨by kernel_rfl,?_⟩ | exact .inl (by show _ = _; kernel_rfl) | exact Zc (Z4 tis rx fls Zi))))
      done
     ·rw [if_neg j2]
      by_cases k3 : a.kind = 3
      ·rw [if_pos k3]
       obtain ⟨x,y,e,hx,hy,hl⟩:=okr_kids2 ha (.inl k3)
       obtain ⟨g1,g2⟩:=catN_ok y b hy hb
       have c1:=ih y (by rw [e]; simp) b hy hb (by omega)
       have c2:=ih x (by rw [e]; simp) _ hx g1 (by omega)
       rw [e]
       simp only [List.map_cons,List.map_nil,List.getD_cons_zero,List.getD_cons_succ]
       rw [eRex_eq false y,eRex_eq false (catN y b),eb] at c1
       rw [eRex_eq false x,eRex_eq false (catN y b),eRex_eq false (catN x _)] at c2
       rw [eRex_eq false (catN x _)]
       rw [ea,e] at cA ⊢
       rw [eb] at cB ⊢
       simp only [List.map_cons,List.map_nil] at cA ⊢
       rw [eRex_eq false x,eRex_eq false y] at cA ⊢
       refine fits_of_cell 4 30 [] [0,1,2,3,4,5,13,18,23] func79 rfl rfl rfl (by show 4 < 41; decide) (by show 2 ≤ 41; decide) (by rfl) (by rfl) (by show 0 ≤ 2; decide) (by rfl) (run_of ?_)
       (repeat (first | refine Zo (Z4 tis rx fls Zi) ?_ | refine .inl ⟨by kernel_rfl,?_⟩ | exact .inl (by show _ = _; kernel_rfl) | exact Zc (Z4 tis rx fls Zi)); try ((first | refine callL cA ?_ | refine callB cA ?_); repeat (first | refine Zo (Z4 tis rx fls Zi) ?_ | refine .inl ⟨by kernel_rfl,?_⟩ | exact .inl (by show _ = _; kernel_rfl) | exact Zc (Z4 tis rx fls Zi))); try ((first | refine callL cB ?_ | refine callB cB ?_); repeat (first | refine Zo (Z4 tis rx fls Zi) ?_ | refine .inl ⟨by kernel_rfl,?_⟩ | exact .inl (by show _ = _; kernel_rfl) | exact Zc (Z4 tis rx fls Zi))); try ((first | refine callL c1 ?_ | refine callB c1 ?_); repeat (first | refine Zo (Z4 tis rx fls Zi) ?_ | refine .inl ⟨by kernel_rfl,?_⟩ | exact .inl (by show _ = _; kernel_rfl) | exact Zc (Z4 tis rx fls Zi))); try ((first | refine callL c2 ?_ | refine callB c2 ?_); repeat (first | refine Zo (Z4 tis rx fls Zi) ?_ | refine .inl ⟨by kernel_rfl,?_⟩ | exact .inl (by show _ = _; kernel_rfl) | exact Zc (Z4 tis rx fls Zi))))
       done
      ·rw [if_neg k3]
       have cT:=fits_twoR 3 a b
       rw [eRex_eq false (.mk 3 [] [a,b])] at cT ⊢
       rw [ea] at cA cT ⊢
       rw [eb] at cB cT ⊢
       refine fits_of_cell 4 30 [] [0,1,2,3,4,5,13,18,23] func79 rfl rfl rfl (by show 4 < 41; decide) (by show 2 ≤ 41; decide) (by rfl) (by rfl) (by show 0 ≤ 2; decide) (by rfl) (run_of ?_)
       (repeat (first | refine Zo (Z4 tis rx fls Zi) ?_ | refine .inl ⟨by kernel_rfl,?_⟩ | exact .inl (by show _ = _; kernel_rfl) | exact Zc (Z4 tis rx fls Zi)); try ((first | refine callL cA ?_ | refine callB cA ?_); repeat (first | refine Zo (Z4 tis rx fls Zi) ?_ | refine .inl ⟨by kernel_rfl,?_⟩ | exact .inl (by show _ = _; kernel_rfl) | exact Zc (Z4 tis rx fls Zi))); try ((first | refine callL cB ?_ | refine callB cB ?_); repeat (first | refine Zo (Z4 tis rx fls Zi) ?_ | refine .inl ⟨by kernel_rfl,?_⟩ | exact .inl (by show _ = _; kernel_rfl) | exact Zc (Z4 tis rx fls Zi))); try ((first | refine callL cT ?_ | refine callB cT ?_); repeat (first | refine Zo (Z4 tis rx fls Zi) ?_ | refine .inl ⟨by kernel_rfl,?_⟩ | exact .inl (by show _ = _; kernel_rfl) | exact Zc (Z4 tis rx fls Zi))))
       done
theorem fits_normStar (r : Rex) (hr : Okr r) (hb : bd r ≤ 1000000000) : Fits prog 80 [eRex false r] (eRex false (starN r)) []:=by
 have cN:=fits_isNothing r (by omega)
 have er:=eRex_eq false r
 unfold starN
 by_cases k5 : r.kind = 5
 ·rw [if_pos k5,er]
  refine fits_of_cell 2 30 [] [0,1,2,3,8] func80 rfl rfl rfl (by show 2 < 20; decide) (by show 1 ≤ 20; decide) (by rfl) (by rfl) (by show 0 ≤ 1; decide) (by rfl) (run_of ?_)
  exact Zc (Z3 tis rx fls)
 ·rw [if_neg k5]
  by_cases k2 : r.kind = 2
  ·rw [if_pos (.inl k2)]
   refine fits_as (res:=.agg [.int .i64 2,.sl true 2 [],.sl true 3 []]) ?_ (by rw [eRex_eq]; rfl)
   rw [er]
   refine fits_of_cell 2 30 [] [0,1,2,3,8] func80 rfl rfl rfl (by show 2 < 20; decide) (by show 1 ≤ 20; decide) (by rfl) (by rfl) (by show 0 ≤ 1; decide) (by rfl) (run_of ?_)
   exact Zc (Z3 tis rx fls)
  ·rw [er] at cN
   cases n : noR r with
   | true =>
    rw [n] at cN
    rw [if_pos (.inr rfl)]
    refine fits_as (res:=.agg [.int .i64 2,.sl true 2 [],.sl true 3 []]) ?_ (by rw [eRex_eq]; rfl)
    rw [er]
    refine fits_of_cell 2 30 [] [0,1,2,3,8] func80 rfl rfl rfl (by show 2 < 20; decide) (by show 1 ≤ 20; decide) (by rfl) (by rfl) (by show 0 ≤ 1; decide) (by rfl) (run_of ?_)
    (repeat (first | refine callL cN ?_ | refine callB cN ?_ | refine Zo (Z4 tis rx fls Zi) ?_ | refine .inl ⟨by kernel_rfl,?_⟩ | exact .inl (by show _ = _; kernel_rfl) | exact Zc (Z4 tis rx fls Zi)))
   | false =>
    rw [n] at cN
    rw [if_neg (by simp [k2])]
    refine fits_as (res:=.agg [.int .i64 5,.sl true 2 [],.sl true 3 [eRex false r]]) ?_ (by rw [eRex_eq false (.mk 5 [] [r])]; simp [erase,eraseL,Rex.kind,Rex.set,Rex.kids,er_rex])
    rw [er]
    refine fits_of_cell 2 30 [] [0,1,2,3,8] func80 rfl rfl rfl (by show 2 < 20; decide) (by show 1 ≤ 20; decide) (by rfl) (by rfl) (by show 0 ≤ 1; decide) (by rfl) (run_of ?_)
    (repeat (first | refine callL cN ?_ | refine callB cN ?_ | refine Zo (Z4 tis rx fls Zi) ?_ | refine .inl ⟨by kernel_rfl,?_⟩ | exact .inl (by show _ = _; kernel_rfl) | exact Zc (Z4 tis rx fls Zi)))
theorem fits_normNot (r : Rex) (hr : Okr r) (hb : bd r ≤ 1000000000) : Fits prog 89 [eRex false r] (eRex false (notN r)) []:=by
 have er:=eRex_eq false r
 unfold notN
 by_cases k7 : r.kind = 7
 ·obtain ⟨x,e1,hx,_⟩:=okr_kids1 hr (.inr k7)
  rw [if_pos k7,er,e1]
  simp only [List.map_cons,List.map_nil,List.getD_cons_zero]
  rw [eRex_eq false x]
  refine fits_of_cell 2 30 [] [0,1,2,5] func89 rfl rfl rfl (by show 2 < 13; decide) (by show 1 ≤ 13; decide) (by rfl) (by rfl) (by show 0 ≤ 1; decide) (by rfl) (run_of ?_)
  exact Zc (Z6 tis rx fls @LLmapcon @LLmapnil @eRex_eq)
 ·rw [if_neg k7]
  refine fits_as (res:=.agg [.int .i64 7,.sl true 2 [],.sl true 3 [eRex false r]]) ?_ (by rw [eRex_eq false (.mk 7 [] [r])]; simp [erase,eraseL,Rex.kind,Rex.set,Rex.kids,er_rex])
  rw [er]
  refine fits_of_cell 2 30 [] [0,1,2,5] func89 rfl rfl rfl (by show 2 < 13; decide) (by show 1 ≤ 13; decide) (by rfl) (by rfl) (by show 0 ≤ 1; decide) (by rfl) (run_of ?_)
  exact Zc (Z3 tis rx fls)
theorem bagO_ok (k : Int) (hk : k = 4 ∨ k = 6) {a b : Rex} (ha : Okr a) (hb : Okr b) : (∀ x ∈ bagO k a b,Okr x ∧ bd x ≤ bd a + bd b + 260) ∧ (bagO k a b).length ≤ bd a + bd b + 260:=by
 obtain ⟨p1,p2,p3⟩:=listR_ok k hk a ha
 obtain ⟨q1,q2,q3⟩:=listR_ok k hk b hb
 have hO : ∀ x ∈ listR k a ++ listR k b,Okr x:=fun x hx => by
  rcases List.mem_append.1 hx with h | h
  ·exact p1 x h
  ·exact q1 x h
 obtain ⟨h1,h2,h3⟩:=bag_inv (k:=k) hO _ (Nat.le_refl _)
 have hle2 : ∀ x ∈ listR k a ++ listR k b,bd x ≤ sumB (listR k a ++ listR k b):=fun x hx => le_sum (List.mem_map_of_mem hx)
 have hAll : sumB (listR k a ++ listR k b) + 2 * (listR k a ++ listR k b).length ≤ bd a + bd b + 4:=by rw [sumB_app,List.length_append]; omega
 have h256:=setB_256 h2
 have ho : ∀ x ∈ oth (listR k a ++ listR k b),x ∈ listR k a ++ listR k b:=fun x hx => (List.mem_filter.1 hx).1
 have hl : (oth (listR k a ++ listR k b)).length ≤ (listR k a ++ listR k b).length:=List.length_filter_le ..
 unfold bagO
 simp only
 generalize listR k a ++ listR k b = all at *
 split
 ·refine ⟨fun x hx => ?_,by rw [List.length_append,List.length_singleton]; omega⟩
  rcases List.mem_append.1 hx with h | h
  ·have:=hle2 x (ho x h)
   exact ⟨hO x (ho x h),by omega⟩
  ·simp only [List.mem_singleton] at h
   subst h
   exact ⟨okr_set h2,by rw [bd_eq]; simp [Rex.set,Rex.kids]; omega⟩
 ·exact ⟨fun x hx => ⟨hO x (ho x hx),by have:=hle2 x (ho x hx); omega⟩,by omega⟩
theorem oth_s {all : List Rex} {i : Nat} (h : i < all.length) : oth (all.take (i + 1)) = oth (all.take i) ++ (if all[i].kind = 1 then [] else [all[i]]):=by
 unfold oth
 rw [List.take_succ_eq_append_getElem h,List.filter_append]
 by_cases e : all[i].kind = 1
 ·simp [e]
 ·simp [e]
theorem dist_len : ∀ l : List Rex,(distR l).length ≤ l.length:=by
 have key : ∀ (l D : List Rex),(l.foldl addD D).length ≤ D.length + l.length:=by
  intro l
  induction l with
  | nil => intro D; simp
  | cons x l ih =>
   intro D
   have h:=ih (addD D x)
   have h2 : (addD D x).length ≤ D.length + 1:=by unfold addD; split <;> simp
   rw [List.foldl_cons,List.length_cons]; omega
 intro l
 simpa [distR] using key l []
def kT (x : Rex) : AV:=.str (rexT x)
theorem kT_map (l : List Rex) : (l.map rexT).map eStr = l.map kT:=by rw [List.map_map]; rfl
theorem foldP_len {l : List Rex} (h : ∀ x ∈ l,Okr x) : (l.foldl putR []).length ≤ l.length:=by
 have e:=congrArg List.length (sort_bag h)
 rw [List.length_map,show (sortT ((distR l).map rexT)).length = ((distR l).map rexT).length from List.length_mergeSort ..,List.length_map] at e
 have:=dist_len l
 omega
theorem fits_bag (k : Int) (hk : k = 4 ∨ k = 6) (a b : Rex) (ha : Okr a) (hb : Okr b) (hB : bd a + bd b ≤ 900000000) : Fits prog 108 [.int .i64 k,eRex false a,eRex false b] (.sl true 3 ((bagR k a b).map (eRex false))) []:=by
 obtain ⟨p1,p2,p3⟩:=listR_ok k hk a ha
 obtain ⟨q1,q2,q3⟩:=listR_ok k hk b hb
 have c1:=fits_joined k hk a [] ha (by omega) (by rw [List.length_nil]; omega)
 have c2:=fits_used (fits_joined k hk b (listR k a) hb (by omega) (by omega))
 rw [List.nil_append,List.map_nil] at c1
 have hO : ∀ x ∈ listR k a ++ listR k b,Okr x:=fun x hx => by
  rcases List.mem_append.1 hx with h | h
  ·exact p1 x h
  ·exact q1 x h
 have inv:=fun i hi => bag_inv (k:=k) hO i hi
 have hle2 : ∀ x ∈ listR k a ++ listR k b,bd x ≤ sumB (listR k a ++ listR k b):=fun x hx => le_sum (List.mem_map_of_mem hx)
 have hAll : sumB (listR k a ++ listR k b) + 2 * (listR k a ++ listR k b).length ≤ 900000004:=by rw [sumB_app,List.length_append]; omega
 have z0 : bagA k (listR k a ++ listR k b) 0 = ⟨[],false,[]⟩:=rfl
 have hs:=fun i hi => bagA_s (k:=k) (all:=listR k a ++ listR k b) (i:=i) hi
 have hos:=fun i hi => oth_s (all:=listR k a ++ listR k b) (i:=i) hi
 obtain ⟨o1,o2⟩:=bagO_ok k hk ha hb
 have oE:=bagO_ok k hk ha hb
 have hbo : bagO k a b = let all:=listR k a ++ listR k b; let z:=bagA k all all.length; if z.f = true ∧ (0 < z.t.length ∨ k = 6 ∨ (oth all).length = 0) then oth all ++ [.mk 1 z.t []] else oth all:=rfl
 rw [bagR_O]
 simp only at hbo
 have lA : (listR k a).length ≤ 900000002:=by omega
 have lall : (listR k a ++ listR k b).length ≤ 900000004:=by omega
 simp only [List.map_cons,List.map_nil] at c2
 rw [eRex_eq false a] at c1
 rw [eRex_eq false b] at c2
 rw [eRex_eq false a,eRex_eq false b]
 generalize hA : listR k a ++ listR k b = all at *
 generalize listR k a = A at *
 have olen : ∀ i,(oth (all.take i)).length ≤ 900000004:=fun i => Nat.le_trans (List.length_filter_le ..) (by rw [List.length_take]; omega)
 generalize hA2 : A.map (eRex false) = A2 at *
 refine fits_of_code [6] [] [0,1,2,4,5,6,7,8,9,11,12,13,15,16,18,19,21,28,29,30,31,40,48,54,78,84,85,86,87,99,110,111,112,113] func108 rfl rfl rfl (by rfl) (by show 3 ≤ 124; decide) (by rfl) (by rfl) (by show 0 ≤ 3; decide) (by rfl) (run_of ?_)
 refine Zo (Z3 tis rx fls) ?_
 refine .inr (run_mix 28 [] [27] (by kernel_rfl) ?_)
 refine Zo (Z3 tis rx fls) ?_
 refine callL c1 ?_
 refine Zo (Z3 tis rx fls) ?_
 refine ⟨by split <;> trivial,?_⟩
 refine callG 2 c2 ?_
 refine Zo (Z3 tis rx fls) ?_
 refine ⟨by split <;> trivial,?_⟩
 refine run_loopF [(28,[]),(8,[0,1]),(8,[0,2])] (α:=Nat) (fun i => i ≤ all.length) (fun i => [(0,.int .i64 k),(7,.sl true 3 ((oth (all.take i)).map (eRex false))),(8,.box (.agg [.int .i64 1,.sl false 2 ((bagA k all i).t.map eSpan),.sl false 3 []])),(9,.bool (bagA k all i).f),(28,.sl false 3 (all.map (eRex false))),(29,.int .i64 all.length),(30,.int .i64 i)]) (fun i => all.length - i) 0 (Nat.zero_le _) ?_ ?_
 ·rw [z0,List.take_zero,show oth [] = [] from rfl]
  exact Zc (Z4 tis rx fls @LLmapnil)
  done
 ·intro i hi'
  obtain ⟨v1,v2,v3⟩:=inv i hi'
  by_cases hi : i < all.length
  ·have hx:=List.getElem_mem hi
   have ox:=hO _ hx
   have hsx:=okr_setB ox
   have hs':=hs i hi
   have ho':=hos i hi
   have ol:=olen i
   have ex:=eRex_eq false all[i]
   have l256:=setB_256 v2
   have m256:=setB_256 hsx.1
   unfold bagS at hs'
   generalize bagA k all i = z at *
   obtain ⟨o,f,t⟩:=z
   simp only at *
   by_cases k1 : all[i].kind = 1
   ·rw [if_pos k1] at hs' ho'
    rw [List.append_nil] at ho'
    cases f with
    | false =>
     simp only [Bool.false_eq_true,if_false] at hs'
     refine Zo (Z4 tis rx fls @eRex_eq) ?_
     refine round_frz [(8,[0,1])] (i + 1) (by omega) ?_ (by show all.length - (i + 1) < all.length - i; omega)
     rw [hs',ho']
     exact Zc (Z4 tis rx fls @eRex_eq)
     done
    | true =>
     simp only [if_true] at hs'
     by_cases k4 : k = 4
     ·rw [if_pos k4] at hs'
      have cJ:=fits_setJoin t all[i].set (by omega) (by omega)
      refine Zo (Z4 tis rx fls @eRex_eq) ?_
      refine callB cJ ?_
      refine Zo (Z4 tis rx fls @eRex_eq) ?_
      refine round_frz [(8,[0,1])] (i + 1) (by omega) ?_ (by show all.length - (i + 1) < all.length - i; omega)
      rw [hs',ho']
      exact Zc (Z4 tis rx fls @eRex_eq)
      done
     ·rw [if_neg k4] at hs'
      have cJ:=fits_setMeet t all[i].set (by omega) (by omega)
      refine Zo (Z4 tis rx fls @eRex_eq) ?_
      refine callB cJ ?_
      refine Zo (Z4 tis rx fls @eRex_eq) ?_
      refine round_frz [(8,[0,1])] (i + 1) (by omega) ?_ (by show all.length - (i + 1) < all.length - i; omega)
      rw [hs',ho']
      exact Zc (Z4 tis rx fls @eRex_eq)
      done
   ·rw [if_neg k1] at hs' ho'
    refine Zo (Z4 tis rx fls @eRex_eq) ?_
    refine round_normal (i + 1) (by omega) ?_ (by show all.length - (i + 1) < all.length - i; omega)
    rw [hs',ho',List.map_append,List.map_cons,List.map_nil]
    exact Zc (Z4 tis rx fls @eRex_eq)
    done
  ·obtain rfl : i = all.length:=by omega
   have ol:=olen all.length
   rw [List.take_length] at ol ⊢
   have l256:=setB_256 v2
   generalize bagA k all all.length = z at *
   obtain ⟨o,f,t⟩:=z
   simp only at *
   have cN:=fits_isNothing (.mk 1 t []) (by rw [bd_eq]; simp [Rex.set,Rex.kids]; omega)
   rw [eRex_eq false (.mk 1 t [])] at cN
   simp only [mk_kind,mk_set,mk_kids,List.map_nil] at cN
   generalize bagO k a b = O at *
   have b3 : bd a + bd b + 260 ≤ 1000000000:=by omega
   have n0 : noR (.mk 1 t []) = decide (t.length = 0):=by simp [noR,Rex.kind,Rex.set]
   rw [n0] at cN
   have hcs : (f = false ∧ O = oth all) ∨ (f = true ∧ t.length = 0 ∧ k = 4 ∧ (oth all).length = 0 ∧ O = oth all ++ [.mk 1 t []]) ∨ (f = true ∧ t.length = 0 ∧ k = 4 ∧ 0 < (oth all).length ∧ O = oth all) ∨ (f = true ∧ t.length = 0 ∧ k = 6 ∧ O = oth all ++ [.mk 1 t []]) ∨ (f = true ∧ 0 < t.length ∧ O = oth all ++ [.mk 1 t []]):=by
    cases f with
    | false => exact .inl ⟨rfl,by rw [hbo,if_neg (by simp)]⟩
    | true =>
     by_cases h0 : t.length = 0
     ·rcases hk with hk | hk
      ·by_cases hl : (oth all).length = 0
       ·exact .inr (.inl ⟨rfl,h0,hk,hl,by rw [hbo,if_pos ⟨rfl,.inr (.inr hl)⟩]⟩)
       ·exact .inr (.inr (.inl ⟨rfl,h0,hk,by omega,by rw [hbo,if_neg (by rintro ⟨_,h | h | h⟩ <;> omega)]⟩))
      ·exact .inr (.inr (.inr (.inl ⟨rfl,h0,hk,by rw [hbo,if_pos ⟨rfl,.inr (.inl hk)⟩]⟩)))
     ·exact .inr (.inr (.inr (.inr ⟨rfl,by omega,by rw [hbo,if_pos ⟨rfl,.inl (by omega)⟩]⟩)))
   clear hbo
   rcases hcs with ⟨hc,hbo⟩ | ⟨hc,h0,hk4,hl,hbo⟩ | ⟨hc,h0,hk4,hl,hbo⟩ | ⟨hc,h0,hk4,hbo⟩ | ⟨hc,h0,hbo⟩
   subst hc
   refine Zo (Z3 tis rx fls) ?_
   rotate_left
   subst hc hk4
   rw [decide_eq_true h0] at cN
   refine Zo (Z3 tis rx fls) ?_
   refine callB cN ?_
   refine Zo (Z3 tis rx fls) ?_
   rotate_left
   subst hc hk4
   rw [decide_eq_true h0] at cN
   refine Zo (Z3 tis rx fls) ?_
   refine callB cN ?_
   refine Zo (Z3 tis rx fls) ?_
   rotate_left
   subst hc hk4
   rw [decide_eq_true h0] at cN
   refine Zo (Z3 tis rx fls) ?_
   refine callB cN ?_
   refine Zo (Z3 tis rx fls) ?_
   rotate_left
   subst hc
   rw [decide_eq_false (by omega)] at cN
   refine Zo (Z3 tis rx fls) ?_
   refine callB cN ?_
   refine Zo (Z3 tis rx fls) ?_
   rotate_left
   all_goals
    refine run_loop (α:=Nat) (fun i => i ≤ O.length) (fun i => [(7,.sl true 3 (O.map (eRex false))),(12,.mp ((distR (O.take i)).map kvR)),(13,.sl true 1 ((distR (O.take i)).map kT)),(84,.vref 7 []),(85,.int .i64 O.length),(86,.int .i64 i)]) (fun i => O.length - i) 0 (Nat.zero_le _) ?_ ?_
    ·rw [List.take_zero,show distR [] = [] from rfl,hbo]
     exact Zc (Z10 tis rx fls @LLmapnil @LLmapapp @LLmapcon @eRex_eq @mk_kind @mk_set @mk_kids)
     done
    ·intro i hi'
     by_cases hi : i < O.length
     ·obtain ⟨oxi,bxi⟩:=o1 _ (List.getElem_mem hi)
      have cT:=fits_textOf O[i] oxi (by omega)
      have hdi:=dist_s hi
      obtain ⟨d1,d2,d3⟩:=dist_ok (l:=O.take i) (fun x hx => (o1 x (List.mem_of_mem_take hx)).1)
      have dl:=dist_len (O.take i)
      rw [List.length_take] at dl
      generalize distR (O.take i) = D at *
      rw [eRex_eq] at cT
      unfold addD at hdi
      refine Zo (Z4 tis rx fls @eRex_eq) ?_
      refine callB cT ?_
      refine Zo (Z4 tis rx fls @eRex_eq) ?_
      cases hany : D.any (fun y => rexT y == rexT O[i]) with
      | true =>
       rw [hany,if_pos rfl] at hdi
       obtain ⟨y,hy,ey⟩:=List.any_eq_true.1 hany
       obtain ⟨j,hj,rfl⟩:=List.mem_iff_getElem.1 hy
       have ey : D[j] = O[i]:=rexT_inj (d3 _ hy) oxi (by simpa using ey)
       have ka:=kv_at d1 hj
       have ks:=kv_set hj
       rw [ey] at ka ks
       rw [eRex_eq] at ka
       unfold kvR at ks
       rw [eRex_eq] at ks
       change (D.map kvR).set j _ = D.map kvR at ks
       refine lk_yes 12 (D.map kvR) (.str (rexT O[i])) _ _ _ j _ rfl rfl kv_key ka ?_
       simp -implicitDefEqProofs (disch:=first | (intros; contradiction) | omega) only [am0,am1,am2,am3,am4,am5,am6,Nat.reduceSub,↓reduceIte,reduceCtorEq,Nat.reduceEqDiff,Nat.reduceBEq,Nat.reduceAdd,Nat.reduceLT,Nat.reduceBNe,Nat.reduceMul,↓reduceIte,tis,rx,fls,eRex_eq,ex_eq,exGo_tup,plain,plainL]
       refine mu_old 12 (D.map kvR) (.str (rexT O[i])) (.agg [.int .i64 O[i].kind,.sl false 2 (O[i].set.map eSpan),.sl false 3 (O[i].kids.map (eRex false))]) _ _ _ j _ rfl rfl kv_key ka ?_
       refine Zo (Z5 tis rx fls @eRex_eq @ks) ?_
       refine round_normal (i + 1) (by omega) ?_ (by show O.length - (i + 1) < O.length - i; omega)
       rw [hdi]
       exact Zc (Z4 tis rx fls @eRex_eq)
       done
      | false =>
       rw [hany,if_neg (by simp)] at hdi
       have ek : kvR O[i] = .agg [.str (rexT O[i]),(.agg [.int .i64 O[i].kind,.sl false 2 (O[i].set.map eSpan),.sl false 3 (O[i].kids.map (eRex false))])]:=by unfold kvR; rw [eRex_eq]
       refine lk_no 12 (D.map kvR) (.str (rexT O[i])) _ _ _ rfl rfl (by kernel_rfl) kv_key (kv_no hany) ?_
       simp -implicitDefEqProofs (disch:=first | (intros; contradiction) | omega) only [am0,am1,am2,am3,am4,am5,am6,Nat.reduceSub,↓reduceIte,reduceCtorEq,Nat.reduceEqDiff,Nat.reduceBEq,Nat.reduceAdd,Nat.reduceLT,Nat.reduceBNe,Nat.reduceMul,↓reduceIte,tis,rx,fls,eRex_eq,ex_eq,exGo_tup,plain,plainL]
       refine mu_new 12 (D.map kvR) (.str (rexT O[i])) (.agg [.int .i64 O[i].kind,.sl false 2 (O[i].set.map eSpan),.sl false 3 (O[i].kids.map (eRex false))]) _ _ _ rfl rfl kv_key (kv_no hany) ?_
       refine Zo (Z4 tis rx fls @eRex_eq) ?_
       refine round_normal (i + 1) (by omega) ?_ (by show O.length - (i + 1) < O.length - i; omega)
       rw [hdi,List.map_append,List.map_append]
       simp -implicitDefEqProofs (disch:=first | (intros; contradiction) | omega) only [am0,am1,am2,am3,am4,am5,am6,Nat.reduceSub,↓reduceIte,reduceCtorEq,Nat.reduceEqDiff,Nat.reduceBEq,Nat.reduceAdd,Nat.reduceLT,Nat.reduceBNe,Nat.reduceMul,↓reduceIte,tis,rx,fls,eRex_eq,ek,kT,List.map_cons,List.map_nil]
       done
     ·obtain rfl : i = O.length:=by omega
      rw [List.take_length]
      have hok : ∀ x ∈ O,Okr x:=fun x hx => (o1 x hx).1
      obtain ⟨d1,d2,d3⟩:=dist_ok hok
      have dl:=dist_len O
      have cS:=fits_sortStrings ((distR O).map rexT) (by rw [List.length_map]; omega)
      rw [sort_bag hok,kT_map,kT_map] at cS
      have fl:=foldP_len hok
      obtain ⟨_,fm⟩:=foldP_keep O (L:=[]) hok (by simp) List.Pairwise.nil
      generalize O.foldl putR [] = F at *
      generalize distR O = D at *
      refine Zo (Z3 tis rx fls) ?_
      refine callM 0 cS ?_
      refine Zo (Z3 tis rx fls) ?_
      refine ⟨by split <;> trivial,?_⟩
      refine run_loop (α:=Nat) (fun i => i ≤ F.length) (fun i => [(12,.mp (D.map kvR)),(13,.sl true 1 (F.map kT)),(19,.sl true 3 ((F.take i).map (eRex false))),(110,.vref 13 []),(111,.int .i64 F.length),(112,.int .i64 i)]) (fun i => F.length - i) 0 (Nat.zero_le _) ?_ ?_
      ·rw [List.take_zero]
       exact Zc (Z4 tis rx fls @LLmapnil)
       done
      ·intro i hi'
       by_cases hi : i < F.length
       ·have hF:=List.getElem_mem hi
        have hy:=(d2 _).2 (((fm _).1 hF).resolve_left (by simp))
        obtain ⟨j,hj,ey⟩:=List.mem_iff_getElem.1 hy
        have ka:=kv_at d1 hj
        rw [ey,eRex_eq] at ka
        have et:=congrArg (List.map (eRex false)) (List.take_succ_eq_append_getElem hi)
        rw [List.map_append] at et
        have tl : (F.take i).length = i:=by rw [List.length_take]; omega
        simp -implicitDefEqProofs (disch:=first | (intros; contradiction) | omega) only [am0,am1,am2,am3,am4,am5,am6,Nat.reduceSub,↓reduceIte,reduceCtorEq,Nat.reduceEqDiff,Nat.reduceBEq,Nat.reduceAdd,Nat.reduceLT,Nat.reduceBNe,Nat.reduceMul,↓reduceIte,tis,rx,fls,eRex_eq,kT]
        refine lk_yes 12 (D.map kvR) (.str (rexT F[i])) _ _ _ j _ rfl rfl kv_key ka ?_
        refine Zo (Z5 tis rx fls @eRex_eq @tl) ?_
        refine round_normal (i + 1) (by omega) ?_ (by show F.length - (i + 1) < F.length - i; omega)
        rw [et]
        exact Zc (Z6 tis rx fls @eRex_eq @LLmapcon @LLmapnil)
        done
       ·obtain rfl : i = F.length:=by omega
        rw [List.take_length]
        exact Zc (Z3 tis rx fls)
        done
theorem fits_normOr (a b : Rex) (ha : Okr a) (hb : Okr b) (hB : bd a + bd b ≤ 900000000) : Fits prog 77 [eRex false a,eRex false b] (eRex false (orN a b)) []:=by
 have cB:=fits_bag 4 (.inl rfl) a b ha hb (by omega)
 obtain ⟨h1,h2,h3⟩:=bagR_ok 4 (.inl rfl) ha hb
 have cC:=fits_chain 4 (bagR 4 a b) h3 (by omega)
 have hm:=fun x hx => bd_mem (L:=bagR 4 a b) (x:=x) hx
 unfold orN
 generalize bagR 4 a b = L at *
 rw [eRex_eq false a,eRex_eq false b] at cB ⊢
 refine fits_of_cell 4 30 [] [0,1,2,3,4,5,7,11,12,13,14,18] func77 rfl rfl rfl (by show 4 < 23; decide) (by show 2 ≤ 23; decide) (by rfl) (by rfl) (by show 0 ≤ 2; decide) (by rfl) (run_of ?_)
 refine Zo (Z3 tis rx fls) ?_
 refine callB cB ?_
 refine Zo (Z3 tis rx fls) ?_
 refine ⟨by split <;> trivial,?_⟩
 refine run_loop (α:=Nat) (fun i => i ≤ L.length ∧ ∀ j (h : j < L.length),j < i → allR L[j] = false) (fun i => [(4,.box (.agg [.int .i64 0,.sl true 2 [],.sl true 3 []])),(5,.sl (decide (i < L.length)) 3 (L.map (eRex false))),(11,if decide (i < L.length) = true then .vref 5 [] else .undef),(12,.int .i64 L.length),(13,.int .i64 i)]) (fun i => L.length - i) 0 ⟨Nat.zero_le _,fun j _ h => by omega⟩ ?_ ?_
 ·have d0 : decide (0 < L.length) = true:=by simp [h3]
  exact Zc (Z4 tis rx fls @d0)
  done
 ·rintro i ⟨hi',hh⟩
  by_cases hi : i < L.length
  ·have hx:=List.getElem_mem hi
   have bx:=hm _ hx
   have cA:=fits_isAll L[i] (by omega) (okr_7 (h1 _ hx))
   have fa:=find_at hi hh
   have ex:=eRex_eq false L[i]
   have dI : decide (i < L.length) = true:=by simp [hi]
   rw [dI]
   rw [ex] at cA
   cases hA : allR L[i] with
   | true =>
    rw [hA] at cA
    rw [fa hA]
    simp only
    rw [ex]
    refine Zo (Z4 tis rx fls @eRex_eq) ?_
    refine callB cA ?_
    exact Zc (Z4 tis rx fls @eRex_eq)
    done
   | false =>
    rw [hA] at cA
    refine Zo (Z4 tis rx fls @eRex_eq) ?_
    refine callB cA ?_
    refine Zo (Z4 tis rx fls @eRex_eq) ?_
    have nx : ∀ j (h : j < L.length),j < i + 1 → allR L[j] = false:=by
     intro j hj hji
     by_cases e : j = i
     ·subst e; exact hA
     ·exact hh j hj (by omega)
    by_cases hl : i + 1 < L.length
    ·have dn : decide (i + 1 < L.length) = true:=by simp [hl]
     refine round_normal (i + 1) ⟨by omega,nx⟩ ?_ (by show L.length - (i + 1) < L.length - i; omega)
     rw [dn]
     exact Zc (Z4 tis rx fls @eRex_eq)
     done
    ·have dn : decide (i + 1 < L.length) = false:=by simp [hl]
     refine round_frz [(5,[])] (i + 1) ⟨by omega,nx⟩ ?_ (by show L.length - (i + 1) < L.length - i; omega)
     rw [dn]
     have el:=erL_rexL L
     exact Zc (Z5 tis rx fls @eRex_eq @el)
     done
  ·obtain rfl : i = L.length:=by omega
   have fn : L.find? allR = none:=by
    rw [List.find?_eq_none]
    intro x hx
    obtain ⟨j,hj,rfl⟩:=List.getElem_of_mem hx
    rw [hh j hj hj]; simp
   rw [fn]
   simp only
   generalize chainR 4 L = C at *
   rw [eRex_eq false C] at cC ⊢
   have dE : decide (L.length < L.length) = false:=by simp
   rw [dE]
   refine Zo (Z4 tis rx fls @eRex_eq) ?_
   refine callB cC ?_
   exact Zc (Z4 tis rx fls @eRex_eq)
   done
theorem fits_normAnd (a b : Rex) (ha : Okr a) (hb : Okr b) (hB : bd a + bd b ≤ 900000000) : Fits prog 88 [eRex false a,eRex false b] (eRex false (andN a b)) []:=by
 have cB:=fits_bag 6 (.inr rfl) a b ha hb (by omega)
 obtain ⟨h1,h2,h3⟩:=bagR_ok 6 (.inr rfl) ha hb
 have hm:=fun x hx => bd_mem (L:=bagR 6 a b) (x:=x) hx
 have c0:=fits_nothingR
 unfold andN
 generalize bagR 6 a b = L at *
 rw [eRex_eq false a,eRex_eq false b] at cB ⊢
 have eN : eRex false (.mk 1 [] []) = .agg [.int .i64 1,.sl false 2 [],.sl false 3 []]:=by rw [eRex_eq]; rfl
 rw [eN] at c0
 have fle : ∀ i,((L.take i).filter nAll).length ≤ L.length:=fun i => Nat.le_trans (List.length_filter_le _ _) (by rw [List.length_take]; omega)
 have ft : ∀ i (hi : i < L.length),(L.take (i + 1)).filter nAll = (L.take i).filter nAll ++ (if allR L[i] = true then [] else [L[i]]):=by
  intro i hi
  rw [List.take_succ_eq_append_getElem hi,List.filter_append]
  unfold nAll
  cases h : allR L[i] with
  | true => simp [h]
  | false => simp [h]
 obtain ⟨R,hR⟩ : ∃ R,(if L.any noR = true then Rex.mk 1 [] [] else if (L.filter nAll).length = 0 then L.getD 0 default else chainR 6 (L.filter nAll)) = R:=⟨_,rfl⟩
 rw [hR]
 refine fits_of_cell 4 30 [] [0,1,2,3,4,5,6,8,12,13,14,15,19,23,31] func88 rfl rfl rfl (by show 4 < 37; decide) (by show 2 ≤ 37; decide) (by rfl) (by rfl) (by show 0 ≤ 2; decide) (by rfl) (run_of ?_)
 refine Zo (Z3 tis rx fls) ?_
 refine callB cB ?_
 refine Zo (Z3 tis rx fls) ?_
 refine ⟨by split <;> trivial,?_⟩
 refine run_loop (α:=Nat) (fun i => i ≤ L.length ∧ ∀ j (h : j < L.length),j < i → noR L[j] = false) (fun i => [(4,.box (.agg [.int .i64 0,.sl true 2 [],.sl true 3 []])),(5,.sl true 3 (L.map (eRex false))),(6,.sl (decide (i < L.length)) 3 (((L.take i).filter nAll).map (eRex false))),(12,.vref 5 []),(13,.int .i64 L.length),(14,.int .i64 i)]) (fun i => L.length - i) 0 ⟨Nat.zero_le _,fun j _ h => by omega⟩ ?_ ?_
 ·rw [List.take_zero,List.filter_nil]
  have d0 : decide (0 < L.length) = true:=by simp [h3]
  exact Zc (Z5 tis rx fls @LLmapnil @d0)
  done
 ·rintro i ⟨hi',hh⟩
  by_cases hi : i < L.length
  ·have hx:=List.getElem_mem hi
   have bx:=hm _ hx
   have cN:=fits_isNothing L[i] (by omega)
   have cA:=fits_isAll L[i] (by omega) (okr_7 (h1 _ hx))
   have ex:=eRex_eq false L[i]
   have ft:=ft i hi
   have fl:=fle i
   have dI : decide (i < L.length) = true:=by simp [hi]
   rw [dI]
   rw [ex] at cA cN
   cases hN : noR L[i] with
   | true =>
    rw [hN] at cN
    rw [if_pos (List.any_eq_true.2 ⟨_,hx,hN⟩)] at hR
    subst hR
    rw [eN]
    refine Zo (Z4 tis rx fls @eRex_eq) ?_
    refine callB cN ?_
    refine Zo (Z4 tis rx fls @eRex_eq) ?_
    refine callB c0 ?_
    exact Zc (Z4 tis rx fls @eRex_eq)
    done
   | false =>
    rw [hN] at cN
    have nx : ∀ j (h : j < L.length),j < i + 1 → noR L[j] = false:=by
     intro j hj hji
     by_cases e : j = i
     ·subst e; exact hN
     ·exact hh j hj (by omega)
    generalize hF : (L.take i).filter nAll = F at *
    cases hA : allR L[i] with
    | true =>
     rw [hA] at ft cA
     simp only [if_true,List.append_nil] at ft
     refine Zo (Z4 tis rx fls @eRex_eq) ?_
     refine callB cN ?_
     refine Zo (Z4 tis rx fls @eRex_eq) ?_
     refine callB cA ?_
     refine Zo (Z4 tis rx fls @eRex_eq) ?_
     by_cases hl : i + 1 < L.length
     ·have dn : decide (i + 1 < L.length) = true:=by simp [hl]
      refine round_normal (i + 1) ⟨by omega,nx⟩ ?_ (by show L.length - (i + 1) < L.length - i; omega)
      rw [dn,ft]
      exact Zc (Z4 tis rx fls @eRex_eq)
      done
     ·have dn : decide (i + 1 < L.length) = false:=by simp [hl]
      refine round_frz [(6,[])] (i + 1) ⟨by omega,nx⟩ ?_ (by show L.length - (i + 1) < L.length - i; omega)
      rw [dn,ft]
      have el:=erL_rexL F
      exact Zc (Z5 tis rx fls @eRex_eq @el)
      done
    | false =>
     rw [hA] at ft cA
     simp only [Bool.false_eq_true,if_false] at ft
     refine Zo (Z4 tis rx fls @eRex_eq) ?_
     refine callB cN ?_
     refine Zo (Z4 tis rx fls @eRex_eq) ?_
     refine callB cA ?_
     refine Zo (Z4 tis rx fls @eRex_eq) ?_
     by_cases hl : i + 1 < L.length
     ·have dn : decide (i + 1 < L.length) = true:=by simp [hl]
      refine round_normal (i + 1) ⟨by omega,nx⟩ ?_ (by show L.length - (i + 1) < L.length - i; omega)
      rw [dn,ft,List.map_append]
      exact Zc (Z6 tis rx fls @eRex_eq @LLmapcon @LLmapnil)
      done
     ·have dn : decide (i + 1 < L.length) = false:=by simp [hl]
      refine round_frz [(6,[])] (i + 1) ⟨by omega,nx⟩ ?_ (by show L.length - (i + 1) < L.length - i; omega)
      rw [dn,ft,List.map_append]
      refine Zo (Z6 tis rx fls @eRex_eq @LLmapcon @LLmapnil) ?_
      refine .inl ?_
      rw [← eRex_eq false L[i]]
      have:=erL_rexL (F ++ [L[i]])
      rwa [List.map_append] at this
  ·obtain rfl : i = L.length:=by omega
   have dE : decide (L.length < L.length) = false:=by simp
   rw [List.take_of_length_le (Nat.le_refl _),dE]
   have fl:=fle L.length
   rw [List.take_of_length_le (Nat.le_refl _)] at fl
   have hn : ¬ L.any noR = true:=by
    intro hn
    obtain ⟨x,hx,hnx⟩:=List.any_eq_true.1 hn
    obtain ⟨j,hj,rfl⟩:=List.getElem_of_mem hx
    rw [hh j hj hj] at hnx; cases hnx
   rw [if_neg hn] at hR
   by_cases h0 : (L.filter nAll).length = 0
   ·rw [if_pos h0] at hR
    have e0 : L.getD 0 default = L[0]:=by simp [List.getD,h3]
    rw [e0] at hR
    subst hR
    rw [List.eq_nil_of_length_eq_zero h0,eRex_eq false L[0]]
    exact Zc (Z5 tis rx fls @eRex_eq @LLmapnil)
    done
   ·rw [if_neg h0] at hR
    have cC:=fits_chain 6 (L.filter nAll) (by omega) (by omega)
    rw [hR] at cC
    generalize L.filter nAll = F at *
    rw [eRex_eq false R] at cC ⊢
    refine Zo (Z4 tis rx fls @eRex_eq) ?_
    refine callB cC ?_
    exact Zc (Z4 tis rx fls @eRex_eq)
    done
def anyU (f : Nat → Bool) : Nat → Bool
 | 0 => false
 | n + 1 => anyU f n || f n
theorem anyU_iff (f : Nat → Bool) : ∀ n,anyU f n = true ↔ ∃ i,i < n ∧ f i = true
 | 0 => by simp [anyU]
 | n + 1 => by
  simp only [anyU,Bool.or_eq_true,anyU_iff f n]
  constructor
  ·rintro (⟨i,h1,h2⟩ | h)
   ·exact ⟨i,by omega,h2⟩
   ·exact ⟨n,by omega,h⟩
  ·rintro ⟨i,h1,h2⟩
   by_cases h : i = n
   ·subst h; exact .inr h2
   ·exact .inl ⟨i,by omega,h2⟩
theorem anyU_ext {f g : Nat → Bool} : ∀ n,(∀ i,i < n → f i = g i) → anyU f n = anyU g n
 | 0,_ => rfl
 | n + 1,h => by simp only [anyU]; rw [anyU_ext n (fun i hi => h i (by omega)),h n (by omega)]
def sub (t : Txt) (i j : Nat) : Txt:=(t.take j).drop i
theorem sub_len {t : Txt} {i j : Nat} (h : j ≤ t.length) : (sub t i j).length = j - i:=by simp [sub]; omega
theorem sub_take {t : Txt} {i j x : Nat} (h : i + x ≤ j) : (sub t i j).take x = sub t i (i + x):=by
 unfold sub
 rw [List.take_drop,List.take_take]
 congr 2
 omega
theorem sub_drop {t : Txt} {i j x : Nat} : (sub t i j).drop x = sub t (i + x) j:=by
 unfold sub; rw [List.drop_drop]
theorem sub_app {t : Txt} {i k j : Nat} (h1 : i ≤ k) (h2 : k ≤ j) : sub t i k ++ sub t k j = sub t i j:=by
 have e1 : (sub t i j).take (k - i) = sub t i k:=by rw [sub_take (by omega)]; congr 1; omega
 have e2 : (sub t i j).drop (k - i) = sub t k j:=by rw [sub_drop]; congr 1; omega
 rw [← e1,← e2,List.take_append_drop]
def catB (f g : Txt → Bool) (t : Txt) : Bool:=anyU (fun k => f (t.take k) && g (t.drop k)) (t.length + 1)
def okL (f : Txt → Bool) (t : Txt) : Nat → List Bool
 | 0 => [true]
 | k + 1 => okL f t k ++ [anyU (fun i => (okL f t k).getD i false && f (sub t i (k + 1))) (k + 1)]
def starB (f : Txt → Bool) (t : Txt) : Bool:=(okL f t t.length).getD t.length false
inductive StarP (f : Txt → Bool) : Txt → Prop
 | nil : StarP f []
 | cons (u v : Txt) : u ≠ [] → f u = true → StarP f v → StarP f (u ++ v)
theorem StarP.one {f : Txt → Bool} {u : Txt} (h : u ≠ []) (hf : f u = true) : StarP f u:=by
 have:=StarP.cons u [] h hf .nil
 rwa [List.append_nil] at this
theorem StarP.app {f : Txt → Bool} {u v : Txt} (hu : StarP f u) (hv : StarP f v) : StarP f (u ++ v):=by
 induction hu with
 | nil => exact hv
 | cons a b h1 h2 _ ih => rw [List.append_assoc]; exact .cons a _ h1 h2 ih
theorem StarP.snoc {f : Txt → Bool} {w : Txt} (h : StarP f w) : w = [] ∨ ∃ v u,w = v ++ u ∧ u ≠ [] ∧ f u = true ∧ StarP f v:=by
 induction h with
 | nil => exact .inl rfl
 | cons a b h1 h2 hb ih =>
  right
  rcases ih with rfl | ⟨v,u,rfl,g1,g2,g3⟩
  ·exact ⟨[],a,by simp,h1,h2,.nil⟩
  ·exact ⟨a ++ v,u,by simp,g1,g2,.cons a v h1 h2 g3⟩
theorem okL_len (f : Txt → Bool) (t : Txt) : ∀ k,(okL f t k).length = k + 1
 | 0 => rfl
 | k + 1 => by simp [okL,okL_len f t k]
def okAt (f : Txt → Bool) (t : Txt) (k : Nat) : Bool:=(okL f t k).getD k false
theorem okL_get (f : Txt → Bool) (t : Txt) : ∀ k i,i ≤ k → (okL f t k).getD i false = okAt f t i
  | 0, i, h => by obtain rfl : i = 0 := by omega
                  rfl
  | k + 1,i,h => by
    by_cases hi : i = k + 1
    · subst hi; rfl
    · have hl:=okL_len f t k
      have : (okL f t (k + 1)).getD i false = (okL f t k).getD i false:=by
        simp only [okL,List.getD]
        rw [List.getElem?_append_left (by omega)]
      rw [this,okL_get f t k i (by omega)]
theorem okAt_0 (f : Txt → Bool) (t : Txt) : okAt f t 0 = true:=rfl
theorem okAt_s (f : Txt → Bool) (t : Txt) (k : Nat) : okAt f t (k + 1) = anyU (fun i => okAt f t i && f (sub t i (k + 1))) (k + 1):=by
 have hl:=okL_len f t k
 unfold okAt
 simp only [okL,List.getD]
 rw [List.getElem?_append_right (by omega)]
 simp only [hl,Nat.sub_self,List.getElem?_cons_zero,Option.getD_some]
 refine anyU_ext _ fun i hi => ?_
 have:=okL_get f t k i (by omega)
 simp only [List.getD] at this
 rw [this]; rfl
theorem okAt_iff (f : Txt → Bool) (t : Txt) : ∀ (n k : Nat),k ≤ n → k ≤ t.length → (okAt f t k = true ↔ StarP f (t.take k))
 | n,0,_,_ => by simp [okAt_0,StarP.nil]
 | 0,k + 1,h,_ => by omega
 | n + 1,k + 1,h,hk => by
  rw [okAt_s,anyU_iff]
  constructor
  ·rintro ⟨i,hi,hh⟩
   simp only [Bool.and_eq_true] at hh
   have h1:=(okAt_iff f t n i (by omega) (by omega)).1 hh.1
   have e : t.take (k + 1) = t.take i ++ sub t i (k + 1):=by
    have:=sub_app (t:=t) (i:=0) (k:=i) (j:=k + 1) (by omega) (by omega)
    simpa [sub] using this.symm
   rw [e]
   refine h1.app (StarP.one ?_ hh.2)
   intro he
   have:=sub_len (t:=t) (i:=i) hk
   rw [he] at this
   simp at this; omega
  ·intro hs
   rcases hs.snoc with he | ⟨v,u,he,hu,hf,hv⟩
   ·have:=congrArg List.length he
    rw [List.length_take,List.length_nil] at this; omega
   ·have hl:=congrArg List.length he
    simp only [List.length_take,List.length_append] at hl
    have hul : 0 < u.length:=List.length_pos_iff.2 hu
    have hvt : t.take v.length = v:=by
     have:=congrArg (List.take v.length) he
     rw [List.take_take,List.take_left] at this
     rwa [show min v.length (k + 1) = v.length by omega] at this
    have hut : sub t v.length (k + 1) = u:=by
     have:=congrArg (List.drop v.length) he
     rwa [List.drop_left] at this
    refine ⟨v.length,by omega,?_⟩
    simp only [Bool.and_eq_true]
    exact ⟨(okAt_iff f t n v.length (by omega) (by omega)).2 (by rw [hvt]; exact hv),by rw [hut]; exact hf⟩
theorem starB_iff (f : Txt → Bool) (t : Txt) : starB f t = true ↔ StarP f t:=by
 have:=okAt_iff f t t.length t.length (Nat.le_refl _) (Nat.le_refl _)
 rw [List.take_length] at this
 exact this
def mtK (k : Int) (s : List Span) (fs : List (Txt → Bool)) (t : Txt) : Bool :=
 let f0:=fs.getD 0 (fun _ => false)
 let f1:=fs.getD 1 (fun _ => false)
 if k = 1 then (match t with | [c] => hasB s c.toNat | _ => false)
 else if k = 2 then decide (t.length = 0)
 else if k = 3 then catB f0 f1 t
 else if k = 4 then f0 t || f1 t
 else if k = 5 then starB f0 t
 else if k = 6 then f0 t && f1 t
 else !f0 t
def mt : Rex → Txt → Bool
 | .mk k s ks => mtK k s (ks.map mt)
theorem mt_eq (r : Rex) : mt r = mtK r.kind r.set (r.kids.map mt):=by cases r; rw [mt]; rfl

def tb (f : Txt → Bool) (t : Txt) (k : Nat) (cur : Bool) (j : Nat) : AV:=.bool (if j < k then okAt f t j else if j = k then cur else false)

def part (r : Rex) (t : Txt) (size i0 i j : Nat) : Bool:=decide (i ≤ j ∧ j ≤ t.length ∧ (j - i < size ∨ (j - i = size ∧ i < i0))) && mt r (sub t i j)


theorem kids_0 {r : Rex} (h : r.kids.length = 0) : r.kids = []:=List.eq_nil_of_length_eq_zero h
theorem kids_1 {r : Rex} (h : r.kids.length = 1) : ∃ a,r.kids = [a]:=List.length_eq_one_iff.1 h
theorem kids_2 {r : Rex} (h : r.kids.length = 2) : ∃ a b,r.kids = [a,b]:=by
 match r.kids,h with
 | [a,b],_ => exact ⟨a,b,rfl⟩
theorem fm_cases {d : Nat} {r : Rex} (h : fm (d + 1) r = true) : (r.kind = 1 ∧ r.kids = []) ∨ (r.kind = 2 ∧ r.kids = []) ∨ (∃ a b,r.kind = 3 ∧ r.kids = [a,b]) ∨ (∃ a b,r.kind = 4 ∧ r.kids = [a,b]) ∨ (∃ a,r.kind = 5 ∧ r.kids = [a]) ∨ (∃ a b,r.kind = 6 ∧ r.kids = [a,b]) ∨ (∃ a,r.kind = 7 ∧ r.kids = [a]):=by
 have h1:=(fm_ok h).1
 unfold kidsN at h1
 split at h1
 ·rename_i hk
  have:=kids_0 (r:=r) (by omega)
  rcases hk with hk | hk
  ·exact .inl ⟨hk,this⟩
  ·exact .inr (.inl ⟨hk,this⟩)
 ·split at h1
  ·rename_i hk
   obtain ⟨a,ha⟩:=kids_1 (r:=r) (by omega)
   rcases hk with hk | hk
   ·exact .inr (.inr (.inr (.inr (.inl ⟨a,hk,ha⟩))))
   ·exact .inr (.inr (.inr (.inr (.inr (.inr ⟨a,hk,ha⟩)))))
  ·split at h1
   ·rename_i hk
    obtain ⟨a,b,ha⟩:=kids_2 (r:=r) (by omega)
    rcases hk with hk | hk | hk
    ·exact .inr (.inr (.inl ⟨a,b,hk,ha⟩))
    ·exact .inr (.inr (.inr (.inl ⟨a,b,hk,ha⟩)))
    ·exact .inr (.inr (.inr (.inr (.inr (.inl ⟨a,b,hk,ha⟩)))))
   ·omega
theorem mtK_1 (s : List Span) (fs : List (Txt → Bool)) (t : Txt) : mtK 1 s fs t = (match t with | [c] => hasB s c.toNat | _ => false):=rfl
theorem mtK_2 (s : List Span) (fs : List (Txt → Bool)) (t : Txt) : mtK 2 s fs t = decide (t.length = 0):=rfl
theorem mtK_3 (s : List Span) (f g : Txt → Bool) (t : Txt) : mtK 3 s [f,g] t = catB f g t:=rfl
theorem mtK_4 (s : List Span) (f g : Txt → Bool) (t : Txt) : mtK 4 s [f,g] t = (f t || g t):=rfl
theorem mtK_5 (s : List Span) (f : Txt → Bool) (t : Txt) : mtK 5 s [f] t = starB f t:=rfl
theorem mtK_6 (s : List Span) (f g : Txt → Bool) (t : Txt) : mtK 6 s [f,g] t = (f t && g t):=rfl
theorem mtK_7 (s : List Span) (f : Txt → Bool) (t : Txt) : mtK 7 s [f] t = !f t:=rfl
theorem fits_eqRexS_of (p : List Rex) (hp : p.length ≤ 1048576) (H : ∀ x ∈ p,Fits prog 11 [eRex false x,eRex false x] (.bool true) []) : Fits prog 39 [.sl false 3 (p.map (eRex false)),.sl false 3 (p.map (eRex false))] (.bool true) []:=by
 refine fits_of_code [4] [] [0,1,4,5,10,14,26] func39 rfl rfl rfl (by rfl) (by show 2 ≤ 27; decide) (by rfl) (by rfl) (by show 0 ≤ 2; decide) (by rfl) (run_of ?_)
 refine Zo tis ?_
 refine run_loop (α:=Nat) (fun i => i ≤ p.length) (fun i => [(0,.sl false 3 (p.map (eRex false))),(1,.sl false 3 (p.map (eRex false))),(5,.int .i64 i)]) (fun i => p.length - i) 0 (Nat.zero_le _) ?_ ?_
 ·exact Zc tis
 ·intro i hi'
  by_cases hi : i < p.length
  ·refine Zo (Z3 tis rx @eRex_eq) ?_
   refine .inl ⟨by kernel_rfl,?_⟩
   refine callL (H p[i] (List.getElem_mem hi)) ?_
   refine Zo (Z3 tis rx @eRex_eq) ?_
   refine round_normal (i + 1) (by omega) ?_ (by show p.length - (i + 1) < p.length - i; omega)
   exact Zc tis
  ·obtain rfl : i = p.length:=by omega
   exact Zc tis
theorem fits_eqRex (r : Rex) (hb : bd r ≤ 1048576) : Fits prog 11 [eRex false r,eRex false r] (.bool true) []:=by
 induction r using Rex.ind' with
 | h r ih =>
  have hb':=bd_eq r
  have HS:=fits_eqRexS_of r.kids (by omega) (fun x hx => ih x hx (Nat.le_trans (bd_kid hx) hb))
  have HT:=fits_eqSpanS r.set r.set (by omega) (by omega)
  rw [eRex_eq]
  refine fits_of_code [4] [] [0,1,2,3,4,9,15,21] func11 rfl rfl rfl (by rfl) (by show 2 ≤ 22; decide) (by rfl) (by rfl) (by show 0 ≤ 2; decide) (by rfl) (run_of ?_)
  refine Zo tis ?_
  refine callB HT ?_
  refine Zo (Z3 tis fls rx) ?_
  refine callB HS ?_
  exact Zc (Z3 tis fls rx)
def ct : Rex → Nat
 | .mk _ s ks => 1 + (2 * s.length + (ks.map ct).sum)
theorem ct_eq (r : Rex) : ct r = 1 + (2 * r.set.length + (r.kids.map ct).sum):=by cases r; rw [ct]; rfl
theorem ct_le (r : Rex) : ct r ≤ 1 + 2 * bd r:=by
 induction r using Rex.ind' with
 | h r ih =>
  rw [ct_eq,bd_eq]
  have : (r.kids.map ct).sum ≤ r.kids.length + 2 * (r.kids.map bd).sum:=by
   generalize r.kids = l at ih
   induction l with
   | nil => simp
   | cons x l ihl =>
    have h1:=ih x (List.mem_cons_self ..)
    have h2:=ihl (fun y hy => ih y (List.mem_cons_of_mem _ hy))
    simp only [List.map_cons,List.sum_cons,List.length_cons]
    omega
  omega
theorem ctL_le (l : List Rex) : (l.map ct).sum ≤ l.length + 2 * (l.map bd).sum:=by
 induction l with
 | nil => simp
 | cons x l ih =>
  have:=ct_le x
  simp only [List.map_cons,List.sum_cons,List.length_cons]
  omega

theorem catB_0 (f g : Txt → Bool) : catB f g [] = (f [] && g []):=by simp [catB,anyU]
theorem starB_0 (f : Txt → Bool) : starB f [] = true:=(starB_iff f []).2 .nil
theorem fits_null (r : Rex) (d : Nat) (hf : fm d r = true) (hb : bd r ≤ 1048576) : Fits prog 90 [eRex false r] (.bool (mt r [])) []:=by
 induction d generalizing r with
 | zero => simp [fm] at hf
 | succ d ih =>
  have hk:=(fm_ok hf).2.2.2
  have cF : ∀ x ∈ r.kids,Fits prog 90 [eRex false x] (.bool (mt x [])) []:=fun x hx => ih x (hk x hx) (Nat.le_trans (bd_kid hx) hb)
  rw [mt_eq,eRex_eq]
  rcases fm_cases hf with ⟨k,e⟩ | ⟨k,e⟩ | ⟨a,b,k,e⟩ | ⟨a,b,k,e⟩ | ⟨a,k,e⟩ | ⟨a,b,k,e⟩ | ⟨a,k,e⟩
  ·rw [k,e]
   refine fits_of_code [2] [] [0,1,2,4,5,8,23,37] func90 rfl rfl rfl (by rfl) (by show 1 ≤ 45; decide) (by rfl) (by rfl) (by show 0 ≤ 1; decide) (by rfl) (run_of ?_)
   exact Zc (Z4 tis fls @mtK_1 @LLmapnil)
  ·rw [k,e]
   refine fits_of_code [2] [] [0,1,2,4,5,8,23,37] func90 rfl rfl rfl (by rfl) (by show 1 ≤ 45; decide) (by rfl) (by rfl) (by show 0 ≤ 1; decide) (by rfl) (run_of ?_)
   exact Zc (Z5 tis fls @mtK_2 @LLmapnil @LLlennil)
  ·rw [e] at cF
   have ca:=cF a (by simp)
   have cb:=cF b (by simp)
   rw [k,e]
   simp only [List.map_cons,List.map_nil,mtK_3,catB_0]
   simp only [eRex_eq] at *
   cases ha : mt a [] with
   | true =>
    rw [ha] at ca
    refine fits_of_code [2] [] [0,1,2,4,5,8,23,37] func90 rfl rfl rfl (by rfl) (by show 1 ≤ 45; decide) (by rfl) (by rfl) (by show 0 ≤ 1; decide) (by rfl) (run_of ?_)
    refine Zo (Z3 tis fls rx) ?_
    refine callB ca ?_
    refine Zo (Z3 tis fls rx) ?_
    refine callB cb ?_
    exact Zc (Z3 tis fls rx)
   | false =>
    rw [ha] at ca
    refine fits_of_code [2] [] [0,1,2,4,5,8,23,37] func90 rfl rfl rfl (by rfl) (by show 1 ≤ 45; decide) (by rfl) (by rfl) (by show 0 ≤ 1; decide) (by rfl) (run_of ?_)
    refine Zo (Z3 tis fls rx) ?_
    refine callB ca ?_
    exact Zc (Z3 tis fls rx)
  ·rw [e] at cF
   have ca:=cF a (by simp)
   have cb:=cF b (by simp)
   rw [k,e]
   simp only [List.map_cons,List.map_nil,mtK_4]
   simp only [eRex_eq] at *
   cases ha : mt a [] with
   | true =>
    rw [ha] at ca
    refine fits_of_code [2] [] [0,1,2,4,5,8,23,37] func90 rfl rfl rfl (by rfl) (by show 1 ≤ 45; decide) (by rfl) (by rfl) (by show 0 ≤ 1; decide) (by rfl) (run_of ?_)
    refine Zo (Z3 tis fls rx) ?_
    refine callB ca ?_
    exact Zc (Z3 tis fls rx)
   | false =>
    rw [ha] at ca
    refine fits_of_code [2] [] [0,1,2,4,5,8,23,37] func90 rfl rfl rfl (by rfl) (by show 1 ≤ 45; decide) (by rfl) (by rfl) (by show 0 ≤ 1; decide) (by rfl) (run_of ?_)
    refine Zo (Z3 tis fls rx) ?_
    refine callB ca ?_
    refine Zo (Z3 tis fls rx) ?_
    refine callB cb ?_
    exact Zc (Z3 tis fls rx)
  ·rw [k,e]
   simp only [List.map_cons,List.map_nil,mtK_5,starB_0]
   refine fits_of_code [2] [] [0,1,2,4,5,8,23,37] func90 rfl rfl rfl (by rfl) (by show 1 ≤ 45; decide) (by rfl) (by rfl) (by show 0 ≤ 1; decide) (by rfl) (run_of ?_)
   exact Zc (Z3 tis fls rx)
  ·rw [e] at cF
   have ca:=cF a (by simp)
   have cb:=cF b (by simp)
   rw [k,e]
   simp only [List.map_cons,List.map_nil,mtK_6]
   simp only [eRex_eq] at *
   cases ha : mt a [] with
   | true =>
    rw [ha] at ca
    refine fits_of_code [2] [] [0,1,2,4,5,8,23,37] func90 rfl rfl rfl (by rfl) (by show 1 ≤ 45; decide) (by rfl) (by rfl) (by show 0 ≤ 1; decide) (by rfl) (run_of ?_)
    refine Zo (Z3 tis fls rx) ?_
    refine callB ca ?_
    refine Zo (Z3 tis fls rx) ?_
    refine callB cb ?_
    exact Zc (Z3 tis fls rx)
   | false =>
    rw [ha] at ca
    refine fits_of_code [2] [] [0,1,2,4,5,8,23,37] func90 rfl rfl rfl (by rfl) (by show 1 ≤ 45; decide) (by rfl) (by rfl) (by show 0 ≤ 1; decide) (by rfl) (run_of ?_)
    refine Zo (Z3 tis fls rx) ?_
    refine callB ca ?_
    exact Zc (Z3 tis fls rx)
  ·rw [e] at cF
   have ca:=cF a (by simp)
   rw [k,e]
   simp only [List.map_cons,List.map_nil,mtK_7]
   simp only [eRex_eq] at *
   refine fits_of_code [2] [] [0,1,2,4,5,8,23,37] func90 rfl rfl rfl (by rfl) (by show 1 ≤ 45; decide) (by rfl) (by rfl) (by show 0 ≤ 1; decide) (by rfl) (run_of ?_)
   refine Zo (Z3 tis fls rx) ?_
   refine callB ca ?_
   exact Zc (Z3 tis fls rx)
theorem nul_mt (r : Rex) : Okr r → nulN r = mt r []:=by
 induction r using Rex.ind' with
 | h r ih =>
  rintro ⟨d,hd⟩
  cases d with
  | zero => simp [fm] at hd
  | succ d =>
   have hk:=(fm_ok hd).2.2.2
   have ih : ∀ x ∈ r.kids,nulN x = mt x []:=fun x hx => ih x hx ⟨d,hk x hx⟩
   rw [mt_eq,nulN_eq]
   rcases fm_cases hd with ⟨k,e⟩ | ⟨k,e⟩ | ⟨a,b,k,e⟩ | ⟨a,b,k,e⟩ | ⟨a,k,e⟩ | ⟨a,b,k,e⟩ | ⟨a,k,e⟩
   ·rw [k,e]; simp [mtK_1]
   ·rw [k,e]; simp [mtK_2]
   ·rw [e] at ih; have ha:=ih a (by simp); have hb:=ih b (by simp)
    rw [k,e]; simp [mtK_3,catB_0,ha,hb]
   ·rw [e] at ih; have ha:=ih a (by simp); have hb:=ih b (by simp)
    rw [k,e]; simp [mtK_4,ha,hb]
   ·rw [k,e]; simp [mtK_5,starB_0]
   ·rw [e] at ih; have ha:=ih a (by simp); have hb:=ih b (by simp)
    rw [k,e]; simp [mtK_6,ha,hb]
   ·rw [e] at ih; have ha:=ih a (by simp)
    rw [k,e]; simp [mtK_7,ha]
theorem fits_nul (r : Rex) (hr : Okr r) (hb : bd r ≤ 1048576) : Fits prog 90 [eRex false r] (.bool (nulN r)) []:=by
 rw [nul_mt r hr]
 obtain ⟨d,hd⟩:=hr
 exact fits_null r d hd hb
theorem fits_deriv (b : Int) (r : Rex) : Okr r → gB (bd r) ≤ 500000000 → Fits prog 47 [eRex false r,.int .i64 b] (eRex false (derR b r)) []:=by
 induction r using Rex.ind' with
 | h r ih =>
  intro hr hb
  have er:=eRex_eq false r
  have hB : bd r ≤ gB (bd r):=by rw [gB_eq]; omega
  have hB2 : bd r ≤ 1048576:=by
   rcases Nat.lt_or_ge 1048576 (bd r) with h | h
   ·have h1 : 1048576 * 1048576 ≤ bd r * bd r:=Nat.mul_le_mul (by omega) (by omega)
    rw [gB_eq] at hb; omega
   ·exact h
  have eN : eRex false (.mk 1 [] []) = .agg [.int .i64 1,.sl false 2 [],.sl false 3 []]:=by rw [eRex_eq]; rfl
  have eE : eRex false (.mk 2 [] []) = .agg [.int .i64 2,.sl false 2 [],.sl false 3 []]:=by rw [eRex_eq]; rfl
  have c0:=fits_nothingR
  rw [eN] at c0
  rw [derR_eq]
  by_cases h2 : r.kind = 3 ∨ r.kind = 4 ∨ r.kind = 6
  ·obtain ⟨x,y,e,hx,hy,hl⟩:=okr_kids2 hr h2
   have g:=gB_two (bd x) (bd y) (bd r) (by omega)
   have c1:=ih x (by rw [e]; simp) hx (by omega)
   have c2:=ih y (by rw [e]; simp) hy (by omega)
   obtain ⟨p1,p2⟩:=derR_ok b x hx
   obtain ⟨q1,q2⟩:=derR_ok b y hy
   have hc:=catN_ok (derR b x) y p1 hy
   have d1:=fits_normCat (derR b x) y p1 hy (by omega)
   have d2:=fits_normOr (catN (derR b x) y) (derR b y) hc.1 q1 (by omega)
   have d3:=fits_normOr (derR b x) (derR b y) p1 q1 (by omega)
   have d4:=fits_normAnd (derR b x) (derR b y) p1 q1 (by omega)
   have cN:=fits_nul x hx (by omega)
   rw [er,e]
   simp only [List.map_cons,List.map_nil,List.getD_cons_zero,List.getD_cons_succ]
   clear ih p2 q2 hc g
   generalize derR b x = X at *
   generalize derR b y = Y at *
   generalize catN X y = C at *
   generalize orN C Y = O at *
   generalize orN X Y = P at *
   generalize andN X Y = A at *
   rw [eRex_eq false x,eRex_eq false X] at c1
   rw [eRex_eq false y,eRex_eq false Y] at c2
   rw [eRex_eq false X,eRex_eq false y,eRex_eq false C] at d1
   rw [eRex_eq false C,eRex_eq false Y,eRex_eq false O] at d2
   rw [eRex_eq false X,eRex_eq false Y,eRex_eq false P] at d3
   rw [eRex_eq false X,eRex_eq false Y,eRex_eq false A] at d4
   rw [eRex_eq false x] at cN
   rcases h2 with h | h | h
   ·rw [if_neg (by omega),if_pos h]
    generalize nulN x = nx at *
    cases nx with
    | true =>
     rw [if_pos rfl,eRex_eq false O]
     refine fits_of_cell 4 30 [] [0,1,2,4,5,7,8,13,15,32,42,57,72,82] func47 rfl rfl rfl (by show 4 < 92; decide) (by show 2 ≤ 92; decide) (by rfl) (by rfl) (by show 0 ≤ 2; decide) (by rfl) (run_of ?_)
     (repeat (first | refine Zo (Z6 tis rx fls @eRex_eq @h Zi) ?_ | refine .inl ⟨by kernel_rfl,?_⟩ | exact .inl (by show _ = _; kernel_rfl) | exact Zc (Z6 tis rx fls @eRex_eq @h Zi)); try ((first | refine callL c1 ?_ | refine callB c1 ?_); repeat (first | refine Zo (Z6 tis rx fls @eRex_eq @h Zi) ?_ | refine .inl ⟨by kernel_rfl,?_⟩ | exact .inl (by show _ = _; kernel_rfl) | exact Zc (Z6 tis rx fls @eRex_eq @h Zi))); try ((first | refine callL d1 ?_ | refine callB d1 ?_); repeat (first | refine Zo (Z6 tis rx fls @eRex_eq @h Zi) ?_ | refine .inl ⟨by kernel_rfl,?_⟩ | exact .inl (by show _ = _; kernel_rfl) | exact Zc (Z6 tis rx fls @eRex_eq @h Zi))); try ((first | refine callL cN ?_ | refine callB cN ?_); repeat (first | refine Zo (Z6 tis rx fls @eRex_eq @h Zi) ?_ | refine .inl ⟨by kernel_rfl,?_⟩ | exact .inl (by show _ = _; kernel_rfl) | exact Zc (Z6 tis rx fls @eRex_eq @h Zi))); try ((first | refine callL c2 ?_ | refine callB c2 ?_); repeat (first | refine Zo (Z6 tis rx fls @eRex_eq @h Zi) ?_ | refine .inl ⟨by kernel_rfl,?_⟩ | exact .inl (by show _ = _; kernel_rfl) | exact Zc (Z6 tis rx fls @eRex_eq @h Zi))); try ((first | refine callL d2 ?_ | refine callB d2 ?_); repeat (first | refine Zo (Z6 tis rx fls @eRex_eq @h Zi) ?_ | refine .inl ⟨by kernel_rfl,?_⟩ | exact .inl (by show _ = _; kernel_rfl) | exact Zc (Z6 tis rx fls @eRex_eq @h Zi))))
    | false =>
     rw [if_neg (by decide),eRex_eq false C]
     refine fits_of_cell 4 30 [] [0,1,2,4,5,7,8,13,15,32,42,57,72,82] func47 rfl rfl rfl (by show 4 < 92; decide) (by show 2 ≤ 92; decide) (by rfl) (by rfl) (by show 0 ≤ 2; decide) (by rfl) (run_of ?_)
     (repeat (first | refine Zo (Z6 tis rx fls @eRex_eq @h Zi) ?_ | refine .inl ⟨by kernel_rfl,?_⟩ | exact .inl (by show _ = _; kernel_rfl) | exact Zc (Z6 tis rx fls @eRex_eq @h Zi)); try ((first | refine callL c1 ?_ | refine callB c1 ?_); repeat (first | refine Zo (Z6 tis rx fls @eRex_eq @h Zi) ?_ | refine .inl ⟨by kernel_rfl,?_⟩ | exact .inl (by show _ = _; kernel_rfl) | exact Zc (Z6 tis rx fls @eRex_eq @h Zi))); try ((first | refine callL d1 ?_ | refine callB d1 ?_); repeat (first | refine Zo (Z6 tis rx fls @eRex_eq @h Zi) ?_ | refine .inl ⟨by kernel_rfl,?_⟩ | exact .inl (by show _ = _; kernel_rfl) | exact Zc (Z6 tis rx fls @eRex_eq @h Zi))); try ((first | refine callL cN ?_ | refine callB cN ?_); repeat (first | refine Zo (Z6 tis rx fls @eRex_eq @h Zi) ?_ | refine .inl ⟨by kernel_rfl,?_⟩ | exact .inl (by show _ = _; kernel_rfl) | exact Zc (Z6 tis rx fls @eRex_eq @h Zi))))
   ·rw [if_neg (by omega),if_neg (by omega),if_pos h,eRex_eq false P]
    refine fits_of_cell 4 30 [] [0,1,2,4,5,7,8,13,15,32,42,57,72,82] func47 rfl rfl rfl (by show 4 < 92; decide) (by show 2 ≤ 92; decide) (by rfl) (by rfl) (by show 0 ≤ 2; decide) (by rfl) (run_of ?_)
    (repeat (first | refine Zo (Z6 tis rx fls @eRex_eq @h Zi) ?_ | refine .inl ⟨by kernel_rfl,?_⟩ | exact .inl (by show _ = _; kernel_rfl) | exact Zc (Z6 tis rx fls @eRex_eq @h Zi)); try ((first | refine callL c1 ?_ | refine callB c1 ?_); repeat (first | refine Zo (Z6 tis rx fls @eRex_eq @h Zi) ?_ | refine .inl ⟨by kernel_rfl,?_⟩ | exact .inl (by show _ = _; kernel_rfl) | exact Zc (Z6 tis rx fls @eRex_eq @h Zi))); try ((first | refine callL c2 ?_ | refine callB c2 ?_); repeat (first | refine Zo (Z6 tis rx fls @eRex_eq @h Zi) ?_ | refine .inl ⟨by kernel_rfl,?_⟩ | exact .inl (by show _ = _; kernel_rfl) | exact Zc (Z6 tis rx fls @eRex_eq @h Zi))); try ((first | refine callL d3 ?_ | refine callB d3 ?_); repeat (first | refine Zo (Z6 tis rx fls @eRex_eq @h Zi) ?_ | refine .inl ⟨by kernel_rfl,?_⟩ | exact .inl (by show _ = _; kernel_rfl) | exact Zc (Z6 tis rx fls @eRex_eq @h Zi))))
   ·rw [if_neg (by omega),if_neg (by omega),if_neg (by omega),if_pos h,eRex_eq false A]
    refine fits_of_cell 4 30 [] [0,1,2,4,5,7,8,13,15,32,42,57,72,82] func47 rfl rfl rfl (by show 4 < 92; decide) (by show 2 ≤ 92; decide) (by rfl) (by rfl) (by show 0 ≤ 2; decide) (by rfl) (run_of ?_)
    (repeat (first | refine Zo (Z6 tis rx fls @eRex_eq @h Zi) ?_ | refine .inl ⟨by kernel_rfl,?_⟩ | exact .inl (by show _ = _; kernel_rfl) | exact Zc (Z6 tis rx fls @eRex_eq @h Zi)); try ((first | refine callL c1 ?_ | refine callB c1 ?_); repeat (first | refine Zo (Z6 tis rx fls @eRex_eq @h Zi) ?_ | refine .inl ⟨by kernel_rfl,?_⟩ | exact .inl (by show _ = _; kernel_rfl) | exact Zc (Z6 tis rx fls @eRex_eq @h Zi))); try ((first | refine callL c2 ?_ | refine callB c2 ?_); repeat (first | refine Zo (Z6 tis rx fls @eRex_eq @h Zi) ?_ | refine .inl ⟨by kernel_rfl,?_⟩ | exact .inl (by show _ = _; kernel_rfl) | exact Zc (Z6 tis rx fls @eRex_eq @h Zi))); try ((first | refine callL d4 ?_ | refine callB d4 ?_); repeat (first | refine Zo (Z6 tis rx fls @eRex_eq @h Zi) ?_ | refine .inl ⟨by kernel_rfl,?_⟩ | exact .inl (by show _ = _; kernel_rfl) | exact Zc (Z6 tis rx fls @eRex_eq @h Zi))))
  ·simp only [not_or] at h2
   by_cases h1 : r.kind = 5 ∨ r.kind = 7
   ·obtain ⟨x,e,hx,hl⟩:=okr_kids1 hr h1
    have g:=gB_one (bd x) (bd r) (by omega)
    have c1:=ih x (by rw [e]; simp) hx (by omega)
    obtain ⟨p1,p2⟩:=derR_ok b x hx
    have d1:=fits_normCat (derR b x) r p1 hr (by omega)
    have d2:=fits_normNot (derR b x) p1 (by omega)
    have er2:=er
    rw [e] at er2 ⊢
    simp only [List.map_cons,List.map_nil,List.getD_cons_zero] at er2 ⊢
    clear ih p2 g
    generalize derR b x = X at *
    generalize catN X r = C at *
    generalize notN X = N at *
    rw [eRex_eq false x,eRex_eq false X] at c1
    rw [eRex_eq false X,er2,eRex_eq false C] at d1
    rw [eRex_eq false X,eRex_eq false N] at d2
    rw [er2]
    rcases h1 with h | h
    ·rw [if_neg (by omega),if_neg (by omega),if_neg (by omega),if_neg (by omega),if_pos h,eRex_eq false C]
     rw [h] at d1
     refine fits_of_cell 4 30 [] [0,1,2,4,5,7,8,13,15,32,42,57,72,82] func47 rfl rfl rfl (by show 4 < 92; decide) (by show 2 ≤ 92; decide) (by rfl) (by rfl) (by show 0 ≤ 2; decide) (by rfl) (run_of ?_)
     (repeat (first | refine Zo (Z6 tis rx fls @eRex_eq @h Zi) ?_ | refine .inl ⟨by kernel_rfl,?_⟩ | exact .inl (by show _ = _; kernel_rfl) | exact Zc (Z6 tis rx fls @eRex_eq @h Zi)); try ((first | refine callL c1 ?_ | refine callB c1 ?_); repeat (first | refine Zo (Z6 tis rx fls @eRex_eq @h Zi) ?_ | refine .inl ⟨by kernel_rfl,?_⟩ | exact .inl (by show _ = _; kernel_rfl) | exact Zc (Z6 tis rx fls @eRex_eq @h Zi))); try ((first | refine callL d1 ?_ | refine callB d1 ?_); repeat (first | refine Zo (Z6 tis rx fls @eRex_eq @h Zi) ?_ | refine .inl ⟨by kernel_rfl,?_⟩ | exact .inl (by show _ = _; kernel_rfl) | exact Zc (Z6 tis rx fls @eRex_eq @h Zi))))
    ·rw [if_neg (by omega),if_neg (by omega),if_neg (by omega),if_neg (by omega),if_neg (by omega),if_pos h,eRex_eq false N]
     refine fits_of_cell 4 30 [] [0,1,2,4,5,7,8,13,15,32,42,57,72,82] func47 rfl rfl rfl (by show 4 < 92; decide) (by show 2 ≤ 92; decide) (by rfl) (by rfl) (by show 0 ≤ 2; decide) (by rfl) (run_of ?_)
     (repeat (first | refine Zo (Z6 tis rx fls @eRex_eq @h Zi) ?_ | refine .inl ⟨by kernel_rfl,?_⟩ | exact .inl (by show _ = _; kernel_rfl) | exact Zc (Z6 tis rx fls @eRex_eq @h Zi)); try ((first | refine callL c1 ?_ | refine callB c1 ?_); repeat (first | refine Zo (Z6 tis rx fls @eRex_eq @h Zi) ?_ | refine .inl ⟨by kernel_rfl,?_⟩ | exact .inl (by show _ = _; kernel_rfl) | exact Zc (Z6 tis rx fls @eRex_eq @h Zi))); try ((first | refine callL d2 ?_ | refine callB d2 ?_); repeat (first | refine Zo (Z6 tis rx fls @eRex_eq @h Zi) ?_ | refine .inl ⟨by kernel_rfl,?_⟩ | exact .inl (by show _ = _; kernel_rfl) | exact Zc (Z6 tis rx fls @eRex_eq @h Zi))))
   ·simp only [not_or] at h1
    obtain ⟨n1,n2,n3⟩:=h2
    obtain ⟨n4,n5⟩:=h1
    by_cases k1 : r.kind = 1
    ·have cS:=fits_setHas r.set b (by have:=bd_eq r; omega)
     rw [if_pos k1,er]
     cases hb2 : hasB r.set b with
     | true =>
      rw [hb2] at cS
      rw [if_pos rfl,eE]
      refine fits_as (res:=.agg [.int .i64 2,.sl true 2 [],.sl true 3 []]) ?_ rfl
      refine fits_of_cell 4 30 [] [0,1,2,4,5,7,8,13,15,32,42,57,72,82] func47 rfl rfl rfl (by show 4 < 92; decide) (by show 2 ≤ 92; decide) (by rfl) (by rfl) (by show 0 ≤ 2; decide) (by rfl) (run_of ?_)
      (repeat (first | refine Zo (Z5 tis rx fls @k1 Zi) ?_ | refine .inl ⟨by kernel_rfl,?_⟩ | exact .inl (by show _ = _; kernel_rfl) | exact Zc (Z5 tis rx fls @k1 Zi)); try ((first | refine callL cS ?_ | refine callB cS ?_); repeat (first | refine Zo (Z5 tis rx fls @k1 Zi) ?_ | refine .inl ⟨by kernel_rfl,?_⟩ | exact .inl (by show _ = _; kernel_rfl) | exact Zc (Z5 tis rx fls @k1 Zi))))
     | false =>
      rw [hb2] at cS
      rw [if_neg (by decide),eN]
      refine fits_of_cell 4 30 [] [0,1,2,4,5,7,8,13,15,32,42,57,72,82] func47 rfl rfl rfl (by show 4 < 92; decide) (by show 2 ≤ 92; decide) (by rfl) (by rfl) (by show 0 ≤ 2; decide) (by rfl) (run_of ?_)
      (repeat (first | refine Zo (Z5 tis rx fls @k1 Zi) ?_ | refine .inl ⟨by kernel_rfl,?_⟩ | exact .inl (by show _ = _; kernel_rfl) | exact Zc (Z5 tis rx fls @k1 Zi)); try ((first | refine callL cS ?_ | refine callB cS ?_); repeat (first | refine Zo (Z5 tis rx fls @k1 Zi) ?_ | refine .inl ⟨by kernel_rfl,?_⟩ | exact .inl (by show _ = _; kernel_rfl) | exact Zc (Z5 tis rx fls @k1 Zi))); try ((first | refine callL c0 ?_ | refine callB c0 ?_); repeat (first | refine Zo (Z5 tis rx fls @k1 Zi) ?_ | refine .inl ⟨by kernel_rfl,?_⟩ | exact .inl (by show _ = _; kernel_rfl) | exact Zc (Z5 tis rx fls @k1 Zi))))
    ·rw [if_neg k1,if_neg n1,if_neg n2,if_neg n3,if_neg n4,if_neg n5,er,eN]
     refine fits_of_cell 4 30 [] [0,1,2,4,5,7,8,13,15,32,42,57,72,82] func47 rfl rfl rfl (by show 4 < 92; decide) (by show 2 ≤ 92; decide) (by rfl) (by rfl) (by show 0 ≤ 2; decide) (by rfl) (run_of ?_)
     (repeat (first | refine callL c0 ?_ | refine callB c0 ?_ | refine Zo (Z10 tis rx fls @k1 @n1 @n2 @n3 @n4 @n5 Zi) ?_ | refine .inl ⟨by kernel_rfl,?_⟩ | exact .inl (by show _ = _; kernel_rfl) | exact Zc (Z10 tis rx fls @k1 @n1 @n2 @n3 @n4 @n5 Zi)))
theorem setsR_ok : ∀ (d : Nat) (r : Rex),fm d r = true → ∀ s ∈ setsR r,setB s = true
 | 0,r,h => by simp [fm] at h
 | d + 1,r,h => by
  obtain ⟨_,_,h3,h4⟩:=fm_ok h
  intro s hs
  rw [setsR_eq,List.mem_append] at hs
  rcases hs with hs | hs
  ·split at hs
   ·simp at hs; subst hs; exact h3
   ·simp at hs
  ·obtain ⟨l,hl,hs⟩:=List.mem_flatten.1 hs
   obtain ⟨x,hx,rfl⟩:=List.mem_map.1 hl
   exact setsR_ok d x (h4 x hx) s hs
theorem big_ps (r : Rex) : bigR r = decide (120 < ps r):=by
 have h1:=psD_le 1000 r
 unfold bigR
 by_cases h : 120 < ps r
 ·have : 120 < psD 1000 r:=by
   apply Classical.byContradiction
   intro h2
   have:=psD_all 1000 r (by omega)
   omega
  simp [h,this]
 ·have : ¬ 120 < psD 1000 r:=by omega
  simp [h,this]
theorem fits_leftOf (b : Int) (v : List Rex) (hv : ∀ r ∈ v,Okr r ∧ gB (bd r) ≤ 500000000) (hl : v.length ≤ 1099511627776) : Fits prog 121 [.sl false 3 (v.map (eRex false)),.int .i64 b] (.tup [.sl true 3 ((vecR b v).map (eRex false)),.bool (goneV (vecR b v))]) []:=by
 have hL : (vecR b v).length = v.length:=by unfold vecR; rw [List.length_map]
 unfold goneV
 refine fits_of_code [4,5] [] [0,1,4,5,6,7,9,10,11,12,13,14] func121 rfl rfl rfl (by rfl) (by show 2 ≤ 32; decide) (by rfl) (by rfl) (by show 0 ≤ 2; decide) (by rfl) (run_of ?_)
 (repeat (first | refine Zo (Z4 tis rx fls Zi) ?_ | refine .inl ⟨by kernel_rfl,?_⟩ | exact .inl (by show _ = _; kernel_rfl) | exact Zc (Z4 tis rx fls Zi)))
 refine run_loop (α:=Nat) (fun i => i ≤ v.length) (fun i => [(1,.int .i64 b),(6,.bool (((vecR b v).take i).all noR)),(7,.sl true 3 (((vecR b v).take i).map (eRex false))),(11,.sl false 3 (v.map (eRex false))),(12,.int .i64 v.length),(13,.int .i64 i)]) (fun i => v.length - i) 0 (Nat.zero_le _) ?_ ?_
 ·rw [List.take_zero,List.all_nil,List.map_nil]
  (first | refine Zo tis ?_ | exact Zc tis)
 ·intro i hi'
  have hl1 : ((vecR b v).take i).length = i:=by rw [List.length_take]; omega
  by_cases hi : i < v.length
  ·have hi2 : i < (vecR b v).length:=by omega
   obtain ⟨o1,o2⟩:=hv _ (List.getElem_mem hi)
   obtain ⟨o3,o4⟩:=derR_ok b v[i] o1
   have cD:=fits_deriv b v[i] o1 o2
   have cN:=fits_isNothing (derR b v[i]) (by omega)
   have e : (vecR b v)[i] = derR b v[i]:=by simp [vecR]
   have es : (vecR b v).take (i + 1) = (vecR b v).take i ++ [derR b v[i]]:=by rw [List.take_succ_eq_append_getElem hi2,e]
   have ea : ((vecR b v).take (i + 1)).all noR = (((vecR b v).take i).all noR && noR (derR b v[i])):=by rw [es,List.all_append,List.all_cons,List.all_nil,Bool.and_true]
   have em : ((vecR b v).take (i + 1)).map (eRex false) = ((vecR b v).take i).map (eRex false) ++ [eRex false (derR b v[i])]:=by rw [es,List.map_append,List.map_cons,List.map_nil]
   rw [eRex_eq false (derR b v[i])] at cD cN em
   rw [eRex_eq false v[i]] at cD
   generalize derR b v[i] = X at *
   cases hd : ((vecR b v).take i).all noR with
   | true =>
    rw [hd,Bool.true_and] at ea
    (repeat (first | refine Zo (Z6 tis rx fls @eRex_eq @hd Zi) ?_ | refine .inl ⟨by kernel_rfl,?_⟩ | exact .inl (by show _ = _; kernel_rfl) | exact Zc (Z6 tis rx fls @eRex_eq @hd Zi)); try ((first | refine callL cD ?_ | refine callB cD ?_); repeat (first | refine Zo (Z6 tis rx fls @eRex_eq @hd Zi) ?_ | refine .inl ⟨by kernel_rfl,?_⟩ | exact .inl (by show _ = _; kernel_rfl) | exact Zc (Z6 tis rx fls @eRex_eq @hd Zi))); try ((first | refine callL cN ?_ | refine callB cN ?_); repeat (first | refine Zo (Z6 tis rx fls @eRex_eq @hd Zi) ?_ | refine .inl ⟨by kernel_rfl,?_⟩ | exact .inl (by show _ = _; kernel_rfl) | exact Zc (Z6 tis rx fls @eRex_eq @hd Zi))))
    refine round_normal (i + 1) (by omega) ?_ (by show v.length - (i + 1) < v.length - i; omega)
    rw [ea,em]
    (first | refine Zo tis ?_ | exact Zc tis)
   | false =>
    rw [hd,Bool.false_and] at ea
    (repeat (first | refine Zo (Z6 tis rx fls @eRex_eq @hd Zi) ?_ | refine .inl ⟨by kernel_rfl,?_⟩ | exact .inl (by show _ = _; kernel_rfl) | exact Zc (Z6 tis rx fls @eRex_eq @hd Zi)); try ((first | refine callL cD ?_ | refine callB cD ?_); repeat (first | refine Zo (Z6 tis rx fls @eRex_eq @hd Zi) ?_ | refine .inl ⟨by kernel_rfl,?_⟩ | exact .inl (by show _ = _; kernel_rfl) | exact Zc (Z6 tis rx fls @eRex_eq @hd Zi))))
    refine round_normal (i + 1) (by omega) ?_ (by show v.length - (i + 1) < v.length - i; omega)
    rw [ea,em]
    (first | refine Zo tis ?_ | exact Zc tis)
  ·obtain rfl : i = v.length:=by omega
   rw [List.take_of_length_le (by omega)]
   (repeat (first | refine Zo (Z5 tis rx fls @retW2 Zi) ?_ | refine .inl ⟨by kernel_rfl,?_⟩ | exact .inl (by show _ = _; kernel_rfl) | exact Zc (Z5 tis rx fls @retW2 Zi)))
theorem fits_statesSame (u v : List Rex) (hl : u.length = v.length) (hu : u.length ≤ 1099511627776) (hb : ∀ r ∈ u,bd r ≤ 1099511627776) : Fits prog 122 [.sl false 3 (u.map (eRex false)),.sl false 3 (v.map (eRex false))] (.bool (decide (u = v))) []:=by
 refine fits_of_code [4] [] [0,1,4,5,7,8,9,20] func122 rfl rfl rfl (by rfl) (by show 2 ≤ 22; decide) (by rfl) (by rfl) (by show 0 ≤ 2; decide) (by rfl) (run_of ?_)
 (repeat (first | refine Zo (Z4 tis rx fls Zi) ?_ | refine .inl ⟨by kernel_rfl,?_⟩ | exact .inl (by show _ = _; kernel_rfl) | exact Zc (Z4 tis rx fls Zi)))
 refine run_loop (α:=Nat) (fun i => i ≤ u.length ∧ Upto u v i) (fun i => [(0,.sl false 3 (u.map (eRex false))),(1,.sl false 3 (v.map (eRex false))),(7,.int .i64 u.length),(8,.int .i64 i)]) (fun i => u.length - i) 0 ⟨Nat.zero_le _,upto_0 _ _⟩ ?_ ?_
 ·(first | refine Zo tis ?_ | exact Zc tis)
 ·rintro i ⟨hi',hU⟩
  by_cases hi : i < u.length
  ·have hi2 : i < v.length:=by omega
   have cS:=fits_rexSames u[i] v[i] (hb _ (List.getElem_mem hi))
   rw [eRex_eq,eRex_eq] at cS
   by_cases he : u[i] = v[i]
   ·rw [decide_eq_true he] at cS
    (repeat (first | refine Zo (Z5 tis rx fls @eRex_eq Zi) ?_ | refine .inl ⟨by kernel_rfl,?_⟩ | exact .inl (by show _ = _; kernel_rfl) | exact Zc (Z5 tis rx fls @eRex_eq Zi)); try ((first | refine callL cS ?_ | refine callB cS ?_); repeat (first | refine Zo (Z5 tis rx fls @eRex_eq Zi) ?_ | refine .inl ⟨by kernel_rfl,?_⟩ | exact .inl (by show _ = _; kernel_rfl) | exact Zc (Z5 tis rx fls @eRex_eq Zi))))
    refine round_normal (i + 1) ⟨by omega,upto_s hU hi hi2 he⟩ (by (first | refine Zo tis ?_ | exact Zc tis)) (by show u.length - (i + 1) < u.length - i; omega)
   ·rw [decide_eq_false he] at cS
    have h2 : decide (u = v) = false:=decide_eq_false (fun e => he (by subst e; rfl))
    (repeat (first | refine Zo (Z6 tis rx fls @eRex_eq @h2 Zi) ?_ | refine .inl ⟨by kernel_rfl,?_⟩ | exact .inl (by show _ = _; kernel_rfl) | exact Zc (Z6 tis rx fls @eRex_eq @h2 Zi)); try ((first | refine callL cS ?_ | refine callB cS ?_); repeat (first | refine Zo (Z6 tis rx fls @eRex_eq @h2 Zi) ?_ | refine .inl ⟨by kernel_rfl,?_⟩ | exact .inl (by show _ = _; kernel_rfl) | exact Zc (Z6 tis rx fls @eRex_eq @h2 Zi))))
  ·obtain rfl : i = u.length:=by omega
   have h2 : decide (u = v) = true:=decide_eq_true (upto_e hU hl)
   (repeat (first | refine Zo (Z5 tis rx fls @h2 Zi) ?_ | refine .inl ⟨by kernel_rfl,?_⟩ | exact .inl (by show _ = _; kernel_rfl) | exact Zc (Z5 tis rx fls @h2 Zi)))
def bkA (v : List Rex) : Nat → Nat → Int
 | 0,_ => -1
 | n + 1,i => if nulN (v.getD i (.mk 0 [] [])) = true then (i : Int) else bkA v n (i + 1)
def bkV (v : List Rex) (i : Nat) : Int:=bkA v (v.length - i) i
theorem bk_end (v : List Rex) : bkV v v.length = -1:=by simp [bkV,bkA]
theorem bk_s {v : List Rex} {i : Nat} (h : i < v.length) : bkV v i = if nulN v[i] = true then (i : Int) else bkV v (i + 1):=by
 unfold bkV
 rw [show v.length - i = (v.length - (i + 1)) + 1 by omega,bkA]
 simp [List.getD,h]
theorem bk_0 (v : List Rex) : bkV v 0 = accV v:=by
 have key : ∀ n i,n = v.length - i → i ≤ v.length → (v.take i).any nulN = false → bkV v i = accV v:=by
  intro n
  induction n with
  | zero =>
   intro i h1 h2 h3
   obtain rfl : i = v.length:=by omega
   rw [bk_end]
   rw [List.take_length] at h3
   exact (first_no h3).symm
  | succ n ih =>
   intro i h1 h2 h3
   have hi : i < v.length:=by omega
   rw [bk_s hi]
   cases hn : nulN v[i] with
   | true => rw [if_pos rfl]; exact (first_at hi h3 hn).symm
   | false => rw [if_neg (by decide)]; exact ih (i + 1) (by omega) (by omega) (any_s hi h3 hn)
 exact key v.length 0 (by omega) (by omega) (by simp)
def rowZ (row : List Int) (m : Nat) : List AV:=row.map eInt ++ List.replicate m (.int .i64 0)
theorem rowZ_len (row : List Int) (m : Nat) : (rowZ row m).length = row.length + m:=by simp [rowZ]
theorem rowZ_0 (row : List Int) : rowZ row 0 = row.map eInt:=by simp [rowZ]
theorem rowZ_set (row : List Int) (m k : Nat) (x : Int) (h : row.length = k) : (rowZ row (m + 1)).set k (.int .i64 x) = rowZ (row ++ [x]) m:=by
 subst h
 unfold rowZ
 rw [List.set_append_right _ _ (by simp)]
 simp [List.replicate_succ,eInt]
theorem rowZ_set2 (row : List Int) (m k : Nat) (x y : Int) (h : row.length = k) : (rowZ (row ++ [x]) m).set k (.int .i64 y) = rowZ (row ++ [y]) m:=by
 subst h
 unfold rowZ
 simp only [List.map_append,List.map_cons,List.map_nil,List.append_assoc]
 rw [List.set_append_right _ _ (by simp)]
 simp [eInt]
theorem rowZ_at (row : List Int) (m k : Nat) (x : Int) (h : row.length = k) : (rowZ (row ++ [x]) m)[k]? = some (.int .i64 x) ∧ (rowZ (row ++ [x]) m).getD k .undef = .int .i64 x:=by
 subst h
 have : (rowZ (row ++ [x]) m)[row.length]? = some (.int .i64 x):=by
  unfold rowZ
  simp [eInt]
 exact ⟨this,by rw [List.getD,this]; rfl⟩
theorem rowZ_get (row : List Int) (m k : Nat) (h : row.length = k) : (rowZ row (m + 1))[k]? = some (.int .i64 0) ∧ (rowZ row (m + 1)).getD k .undef = .int .i64 0:=by
 subst h
 have : (rowZ row (m + 1))[row.length]? = some (.int .i64 0):=by
  unfold rowZ
  simp [List.replicate_succ]
 exact ⟨this,by rw [List.getD,this]; rfl⟩
theorem rowZ_pl (row : List Int) (m : Nat) : plainL (rowZ row m) = true:=by
 rw [plainL_all]; simp [rowZ,plain,eInt]
structure MI2 (P : List (List Span)) (L : Nat) (R : Option Dfa) (g : MG) : Prop where
 mi : MI P L R g
 ac : g.acc = (g.A.take g.s).map accV
theorem fits_machine (P : List (List Span)) (hP : P.length ≤ 256) (hPc : ∀ p ∈ P,setB p = true) (v0 : List Rex) (L : Nat) (hL5 : L ≤ 5) (hv0 : VOk L v0) :
  Fits prog 98 [.sl false 3 (v0.map (eRex false)),.sl false 1 (P.map (eSpans false))] (.tup [eDfa true ((machF P 41 0 [v0] [] []).getD zDfa),.bool (machF P 41 0 [v0] [] []).isSome]) []:=by
 have hp3 : ∀ p ∈ P,p.length ≤ 1048576:=fun p hp => by
  have:=setB_128 (hPc p hp); omega
 have zE : eDfa true zDfa = .agg [.sl true 1 [],.sl true 1 [],.sl true 1 []]:=by simp [eDfa,zDfa]
 generalize hR : machF P 41 0 [v0] [] [] = R
 refine fits_of_pair 4 73 5 [] [0,1,4,5,6,7,8,9,10,11,12,13,14,15,17,19,20,21,29,35,36,37,38,55,56,57,58,59,72,82,85,87,88,89,90,95,114,115,116,117,124,131] func98 rfl rfl rfl (by show 4 < 142; decide) (by show 5 < 142; decide) (by show 2 ≤ 142; decide) (by rfl) (by rfl) (by show 0 ≤ 2; decide) (by rfl) (run_of ?_)
 (first | refine Zo (Z4 tis fls rx @dx) ?_ | exact Zc (Z4 tis fls rx @dx))
 refine run_loop (α:=MG) (MI2 P L R) (fun g => [(1,.sl false 1 (P.map (eSpans false))),(4,.box (.agg [.sl true 1 [],.sl true 1 [],.sl true 1 []])),(6,.sl true 1 (g.A.map (eVec false))),(7,.box (.agg [.sl false 1 (P.map (eSpans false)),.sl true 1 (g.rows.map (eInts true)),.sl true 1 []])),(8,.int .i64 g.s)]) (fun g => g.n) ⟨41,0,[v0],[],[]⟩ ⟨⟨hR.symm,rfl,Nat.zero_le _,by simp,by simpa using hv0,rfl,rfl,by simp⟩,rfl⟩ ?_ ?_
 ·simp only [List.map_cons,List.map_nil,eVec]
  (first | refine Zo (Z4 tis fls rx @dx) ?_ | exact Zc (Z4 tis fls rx @dx))
 ·rintro ⟨n,s,A,rows,acc⟩ ⟨⟨m1,m2,m3,m4,m5,m6,m7,m8⟩,m9⟩
  simp only at m1 m2 m3 m4 m5 m6 m7 m8 m9
  have hAl : (A.map (eVec false)).length = A.length:=by simp
  by_cases hs : s < A.length
  ·obtain ⟨n,rfl⟩ : ∃ k,n = k + 1:=⟨n - 1,by omega⟩
   rw [machF_at hs] at m1
   have hv:=m5 _ (List.getElem_mem hs)
   have hat : A[s]? = some A[s]:=List.getElem?_eq_getElem hs
   have hmk : List.replicate P.length (AV.int .i64 0) = rowZ [] P.length:=by simp [rowZ]
   generalize A[s] = v at *
   generalize hQ : rowF v P A [] = Q at *
   (first | refine Zo (Z5 tis fls rx @dx @hAl) ?_ | exact Zc (Z5 tis fls rx @dx @hAl))
   refine run_loop (α:=RG) (fun g => RI P L v s Q g ∧ A <+: g.A) (fun g => [(1,.sl false 1 (P.map (eSpans false))),(4,.box (.agg [.sl true 1 [],.sl true 1 [],.sl true 1 []])),(6,.sl true 1 (g.A.map (eVec false))),(7,.box (.agg [.sl false 1 (P.map (eSpans false)),.sl true 1 (rows.map (eInts true)),.sl true 1 []])),(8,.int .i64 s),(9,.sl true 1 (rowZ g.row (P.length - g.k))),(35,.sl false 1 (P.map (eSpans false))),(36,.int .i64 P.length),(37,.int .i64 g.k)]) (fun g => P.length - g.k) ⟨0,A,[]⟩ ⟨⟨hQ.symm,Nat.zero_le _,m4,m5,hat,rfl⟩,List.prefix_refl _⟩ ?_ ?_
   ·simp only [Nat.sub_zero,← hmk]
    (first | refine Zo (Z2 tis fls) ?_ | exact Zc (Z2 tis fls))
   ·rintro ⟨k,B,row⟩ ⟨⟨r1,r2,r3,r4,r5,r6⟩,rp⟩
    simp only at r1 r2 r3 r4 r5 r6 rp
    obtain ⟨hsB,hBs⟩:=List.getElem?_eq_some_iff.1 r5
    obtain ⟨gb1,gb2⟩:=vec_ext B s hsB
    rw [hBs] at gb1 gb2
    have hBl : (B.map (eVec false)).length = B.length:=by simp
    have hZl:=rowZ_len row (P.length - k)
    by_cases hk : k < P.length
    ·rw [rowF_at hk] at r1
     have cF:=fits_setFirst P[k] (hp3 _ (List.getElem_mem hk))
     have gp : (P.map (eSpans false)).getD k .undef = .sl false 2 (P[k].map eSpan):=by simp [List.getD,hk,eSpans]
     have gp2 : (P.map (eSpans false))[k]? = some (.sl false 2 (P[k].map eSpan)):=by simp [hk,eSpans]
     generalize P[k] = p at *
     generalize firstB p = b at *
     have cV : Fits prog 121 [.sl false 3 (v.map (eRex false)),.int .i64 b] (.tup [.sl false 3 ((vecR b v).map (eRex false)),.bool (goneV (vecR b v))]) []:=fits_as (fits_leftOf b v hv.ok (by have:=hv.len; omega)) (by simp [erase,eraseL,erL_rex])
     have xb:=vec_bd hv b
     have xl : (vecR b v).length = L:=by unfold vecR; rw [List.length_map]; exact hv.len
     have hco:=fun z => colS_ok (row:=row) (z:=z) hv r4 r3 (b:=b)
     have hat2:=first_lt (fun u => decide (u = vecR b v)) B
     change -1 ≤ atV B (vecR b v) ∧ atV B (vecR b v) < B.length at hat2
     have hcs : colS B row (vecR b v) = if atV B (vecR b v) < 0 ∧ goneV (vecR b v) = false then (if 40 ≤ B.length ∨ bigV (vecR b v) = true then none else some (B ++ [vecR b v],row ++ [(B.length : Int)])) else some (B,row ++ [if goneV (vecR b v) = true then -1 else atV B (vecR b v)]):=rfl
     have htd : atV B (vecR b v) = firstI (fun u => decide (u = vecR b v)) B:=rfl
     have hqd : bigV (vecR b v) = (vecR b v).any bigR:=rfl
     generalize hX : vecR b v = x at *
     generalize atV B x = t at *
     generalize goneV x = g at *
     generalize bigV x = q at *
     have hx2 : eVec false x = .sl false 3 (x.map (eRex false)):=rfl
     have fin : ∀ B' row' (hc : colS B row x = some (B',row')),RI P L v s Q ⟨k + 1,B',row'⟩ ∧ A <+: B':=fun B' row' hc => by
      obtain ⟨w1,w2,w3,w4⟩:=hco _ hc
      rw [hc] at r1
      exact ⟨⟨r1,hk,w2,w1,by obtain ⟨tl,rfl⟩:=w3; rw [List.getElem?_append_left hsB]; exact r5,by simp only at w4 ⊢; omega⟩,rp.trans w3⟩
     have hk40 : ∀ h : 40 ≤ B.length,(40 : Int) ≤ B.length:=fun h => by omega
     have hn40 : ∀ h : ¬ 40 ≤ B.length,¬ (40 : Int) ≤ B.length:=fun h => by omega
     obtain ⟨m,hm⟩ : ∃ m,P.length - k = m + 1:=⟨P.length - k - 1,by omega⟩
     have hm2 : P.length - (k + 1) = m:=by omega
     rw [hm] at hZl
     have s1:=rowZ_set row m k (-1) r6
     obtain ⟨z1,z2⟩:=rowZ_get row m k r6
     have hpl:=rowZ_pl row (m + 1)
     rw [hm]
     cases g with
     | true =>
      rw [if_neg (by simp),if_pos rfl] at hcs
      have F:=fin _ _ hcs
      (first | refine Zo (Z12 tis fls rx @dx @gb1 @gb2 @gp @gp2 @hBl @hZl @s1 @hpl) ?_ | exact Zc (Z12 tis fls rx @dx @gb1 @gb2 @gp @gp2 @hBl @hZl @s1 @hpl))
      refine .inr (run_late 7 [] (by kernel_rfl) ?_)
      (first | refine Zo (Z7 tis fls rx @dx @gb1 @gb2 @hBl) ?_ | exact Zc (Z7 tis fls rx @dx @gb1 @gb2 @hBl))
      refine callL cF ?_
      (first | refine Zo (Z7 tis fls rx @dx @gb1 @gb2 @hBl) ?_ | exact Zc (Z7 tis fls rx @dx @gb1 @gb2 @hBl))
      refine callL cV ?_
      (first | refine Zo (Z11 tis fls rx @dx @ex_eq @exGo_tup @hZl @z1 @z2 @s1 @hpl) ?_ | exact Zc (Z11 tis fls rx @dx @ex_eq @exGo_tup @hZl @z1 @z2 @s1 @hpl))
      refine round_normal ⟨k + 1,_,_⟩ F ?_ (by show P.length - (k + 1) < P.length - k; omega)
      simp only [hm2]
      (first | refine Zo tis ?_ | exact Zc tis)
     | false =>
      (first | refine Zo (Z12 tis fls rx @dx @gb1 @gb2 @gp @gp2 @hBl @hZl @s1 @hpl) ?_ | exact Zc (Z12 tis fls rx @dx @gb1 @gb2 @gp @gp2 @hBl @hZl @s1 @hpl))
      refine .inr (run_late 7 [] (by kernel_rfl) ?_)
      (first | refine Zo (Z7 tis fls rx @dx @gb1 @gb2 @hBl) ?_ | exact Zc (Z7 tis fls rx @dx @gb1 @gb2 @hBl))
      refine callL cF ?_
      (first | refine Zo (Z7 tis fls rx @dx @gb1 @gb2 @hBl) ?_ | exact Zc (Z7 tis fls rx @dx @gb1 @gb2 @hBl))
      refine callL cV ?_
      (first | refine Zo (Z12 tis fls rx @dx @ex_eq @exGo_tup @hZl @z1 @z2 @s1 @hpl @hBl) ?_ | exact Zc (Z12 tis fls rx @dx @ex_eq @exGo_tup @hZl @z1 @z2 @s1 @hpl @hBl))
      refine run_loop (α:=Nat × Int) (fun h => h.1 ≤ B.length ∧ ((h.2 = -1 ∧ (B.take h.1).any (fun u => decide (u = x)) = false) ∨ (0 ≤ h.2 ∧ h.2 = t))) (fun h => [(1,.sl false 1 (P.map (eSpans false))),(4,.box (.agg [.sl true 1 [],.sl true 1 [],.sl true 1 []])),(6,.sl true 1 (B.map (eVec false))),(7,.box (.agg [.sl false 1 (P.map (eSpans false)),.sl true 1 (rows.map (eInts true)),.sl true 1 []])),(8,.int .i64 s),(9,.sl true 1 (rowZ (row ++ [h.2]) m)),(10,.int .i64 k),(12,.sl false 3 (x.map (eRex false))),(35,.sl false 1 (P.map (eSpans false))),(36,.int .i64 P.length),(37,.int .i64 k),(56,.vref 6 []),(57,.int .i64 B.length),(58,.int .i64 h.1)]) (fun h => B.length - h.1) (0,-1) ⟨Nat.zero_le _,.inl ⟨rfl,by simp⟩⟩ ?_ ?_
      ·(first | refine Zo (Z2 tis fls) ?_ | exact Zc (Z2 tis fls))
      ·rintro ⟨j,c⟩ ⟨j1,j2⟩
       simp only at j1 j2
       obtain ⟨w1,w2⟩:=rowZ_at row m k c r6
       have hwl:=rowZ_len (row ++ [c]) m
       rw [List.length_append,List.length_singleton] at hwl
       have hwp:=rowZ_pl (row ++ [c]) m
       by_cases hj : j < B.length
       ·obtain ⟨f1,f2⟩:=vec_ext B j hj
        have hjm:=List.getElem_mem hj
        have cS:=fits_statesSame B[j] x (by rw [xl]; exact (r4 _ hjm).len) (by have:=(r4 _ hjm).len; omega) (fun r hr => ((r4 _ hjm).vbd r hr).2)
        rcases j2 with ⟨rfl,j2⟩ | ⟨j2,j3⟩
        ·by_cases he : B[j] = x
         ·rw [decide_eq_true he] at cS
          have hs2:=rowZ_set2 row m k (-1) j r6
          have htj : t = j:=by rw [htd]; exact first_at hj j2 (by simpa using he)
          (repeat (first | refine Zo (Z13 tis fls rx @dx @f1 @f2 @w1 @w2 @hwl @hwp @hs2 @hBl Zi) ?_ | refine .inl ⟨by kernel_rfl,?_⟩ | exact .inl (by show _ = _; kernel_rfl) | exact Zc (Z13 tis fls rx @dx @f1 @f2 @w1 @w2 @hwl @hwp @hs2 @hBl Zi)); try ((first | refine callL cS ?_ | refine callB cS ?_); repeat (first | refine Zo (Z13 tis fls rx @dx @f1 @f2 @w1 @w2 @hwl @hwp @hs2 @hBl Zi) ?_ | refine .inl ⟨by kernel_rfl,?_⟩ | exact .inl (by show _ = _; kernel_rfl) | exact Zc (Z13 tis fls rx @dx @f1 @f2 @w1 @w2 @hwl @hwp @hs2 @hBl Zi))))
          refine round_normal (j + 1,(j : Int)) ⟨by simp only; omega,.inr ⟨by simp only; omega,htj.symm⟩⟩ (by (first | refine Zo tis ?_ | exact Zc tis)) (by show B.length - (j + 1) < B.length - j; omega)
         ·rw [decide_eq_false he] at cS
          (repeat (first | refine Zo (Z12 tis fls rx @dx @f1 @f2 @w1 @w2 @hwl @hwp @hBl Zi) ?_ | refine .inl ⟨by kernel_rfl,?_⟩ | exact .inl (by show _ = _; kernel_rfl) | exact Zc (Z12 tis fls rx @dx @f1 @f2 @w1 @w2 @hwl @hwp @hBl Zi)); try ((first | refine callL cS ?_ | refine callB cS ?_); repeat (first | refine Zo (Z12 tis fls rx @dx @f1 @f2 @w1 @w2 @hwl @hwp @hBl Zi) ?_ | refine .inl ⟨by kernel_rfl,?_⟩ | exact .inl (by show _ = _; kernel_rfl) | exact Zc (Z12 tis fls rx @dx @f1 @f2 @w1 @w2 @hwl @hwp @hBl Zi))))
          refine round_normal (j + 1,-1) ⟨by simp only; omega,.inl ⟨rfl,any_s hj j2 (by simpa using he)⟩⟩ (by (first | refine Zo tis ?_ | exact Zc tis)) (by show B.length - (j + 1) < B.length - j; omega)
        ·(repeat (first | refine Zo (Z12 tis fls rx @dx @f1 @f2 @w1 @w2 @hwl @hwp @hBl Zi) ?_ | refine .inl ⟨by kernel_rfl,?_⟩ | exact .inl (by show _ = _; kernel_rfl) | exact Zc (Z12 tis fls rx @dx @f1 @f2 @w1 @w2 @hwl @hwp @hBl Zi)))
         refine round_normal (j + 1,c) ⟨by simp only; omega,.inr ⟨j2,j3⟩⟩ (by (first | refine Zo tis ?_ | exact Zc tis)) (by show B.length - (j + 1) < B.length - j; omega)
       ·obtain rfl : j = B.length:=by omega
        rcases j2 with ⟨rfl,j2⟩ | ⟨j2,j3⟩
        ·rw [List.take_length] at j2
         have ht : t < 0:=by rw [htd,first_no j2]; decide
         rw [if_pos ⟨ht,rfl⟩] at hcs
         by_cases h40 : 40 ≤ B.length
         ·rw [if_pos (.inl h40)] at hcs
          rw [hcs] at r1
          simp only at r1
          have e40:=hk40 h40
          rw [r1] at m1
          simp only at m1
          subst m1
          simp only [Option.getD_none,Option.isSome_none,zE]
          (repeat (first | refine Zo (Z12 tis fls rx @dx @w1 @w2 @hwl @hwp @hBl @e40 retCB.eq_1 Zi) ?_ | refine .inl ⟨by kernel_rfl,?_⟩ | exact .inl (by show _ = _; kernel_rfl) | exact Zc (Z12 tis fls rx @dx @w1 @w2 @hwl @hwp @hBl @e40 retCB.eq_1 Zi)))
         ·have e40:=hn40 h40
          (repeat (first | refine Zo (Z11 tis fls rx @dx @w1 @w2 @hwl @hwp @hBl @e40 Zi) ?_ | refine .inl ⟨by kernel_rfl,?_⟩ | exact .inl (by show _ = _; kernel_rfl) | exact Zc (Z11 tis fls rx @dx @w1 @w2 @hwl @hwp @hBl @e40 Zi)))
          refine run_loop (α:=Nat) (fun i => i ≤ x.length ∧ (x.take i).any bigR = false) (fun i => [(1,.sl false 1 (P.map (eSpans false))),(4,.box (.agg [.sl true 1 [],.sl true 1 [],.sl true 1 []])),(6,.sl true 1 (B.map (eVec false))),(7,.box (.agg [.sl false 1 (P.map (eSpans false)),.sl true 1 (rows.map (eInts true)),.sl true 1 []])),(8,.int .i64 s),(9,.sl true 1 (rowZ (row ++ [-1]) m)),(10,.int .i64 k),(12,.sl false 3 (x.map (eRex false))),(35,.sl false 1 (P.map (eSpans false))),(36,.int .i64 P.length),(37,.int .i64 k),(87,.sl false 3 (x.map (eRex false))),(88,.int .i64 x.length),(89,.int .i64 i)]) (fun i => x.length - i) 0 ⟨Nat.zero_le _,by simp⟩ ?_ ?_
          ·(first | refine Zo (Z2 tis fls) ?_ | exact Zc (Z2 tis fls))
          ·rintro i ⟨i1,i2⟩
           by_cases hi : i < x.length
           ·have cM:=fits_manyParts2 x[i] (xb _ (List.getElem_mem hi)).2 (by have:=ps_bd x[i]; have:=(xb _ (List.getElem_mem hi)).2; omega)
            rw [eRex_eq] at cM
            have hbp:=big_ps x[i]
            by_cases hB : 120 < ps x[i]
            ·have hq : q = true:=by rw [hqd]; exact any_t hi (by rw [hbp]; simpa using hB)
             rw [if_pos (.inr hq)] at hcs
             rw [hcs] at r1
             simp only at r1
             rw [r1] at m1
             simp only at m1
             subst m1
             simp only [Option.getD_none,Option.isSome_none,zE]
             have hB2 : (120 : Int) < ps x[i]:=by omega
             (repeat (first | refine Zo (Z8 tis fls rx @dx @eRex_eq @hB2 retCB.eq_1 Zi) ?_ | refine .inl ⟨by kernel_rfl,?_⟩ | exact .inl (by show _ = _; kernel_rfl) | exact Zc (Z8 tis fls rx @dx @eRex_eq @hB2 retCB.eq_1 Zi)); try ((first | refine callL cM ?_ | refine callB cM ?_); repeat (first | refine Zo (Z8 tis fls rx @dx @eRex_eq @hB2 retCB.eq_1 Zi) ?_ | refine .inl ⟨by kernel_rfl,?_⟩ | exact .inl (by show _ = _; kernel_rfl) | exact Zc (Z8 tis fls rx @dx @eRex_eq @hB2 retCB.eq_1 Zi))))
            ·have hB2 : ¬ (120 : Int) < ps x[i]:=by omega
             (repeat (first | refine Zo (Z7 tis fls rx @dx @eRex_eq @hB2 Zi) ?_ | refine .inl ⟨by kernel_rfl,?_⟩ | exact .inl (by show _ = _; kernel_rfl) | exact Zc (Z7 tis fls rx @dx @eRex_eq @hB2 Zi)); try ((first | refine callL cM ?_ | refine callB cM ?_); repeat (first | refine Zo (Z7 tis fls rx @dx @eRex_eq @hB2 Zi) ?_ | refine .inl ⟨by kernel_rfl,?_⟩ | exact .inl (by show _ = _; kernel_rfl) | exact Zc (Z7 tis fls rx @dx @eRex_eq @hB2 Zi))))
             refine round_normal (i + 1) ⟨by omega,any_s hi i2 (by rw [hbp]; simpa using hB)⟩ (by (first | refine Zo tis ?_ | exact Zc tis)) (by show x.length - (i + 1) < x.length - i; omega)
           ·obtain rfl : i = x.length:=by omega
            rw [List.take_length] at i2
            have hq : q = false:=by rw [hqd]; exact i2
            rw [if_neg (by rw [hq]; simpa using h40)] at hcs
            have F:=fin _ _ hcs
            have hs2:=rowZ_set2 row m k (-1) B.length r6
            (repeat (first | refine Zo (Z11 tis fls rx @dx @w1 @w2 @hwl @hwp @hBl @hs2 Zi) ?_ | refine .inl ⟨by kernel_rfl,?_⟩ | exact .inl (by show _ = _; kernel_rfl) | exact Zc (Z11 tis fls rx @dx @w1 @w2 @hwl @hwp @hBl @hs2 Zi)))
            refine round_normal ⟨k + 1,_,_⟩ F ?_ (by show P.length - (k + 1) < P.length - k; omega)
            simp only [hm2,List.map_append,List.map_cons,List.map_nil,hx2]
            (first | refine Zo tis ?_ | exact Zc tis)
        ·subst j3
         rw [if_neg (fun h => by omega),if_neg (by decide)] at hcs
         have F:=fin _ _ hcs
         (repeat (first | refine Zo (Z10 tis fls rx @dx @w1 @w2 @hwl @hwp @hBl Zi) ?_ | refine .inl ⟨by kernel_rfl,?_⟩ | exact .inl (by show _ = _; kernel_rfl) | exact Zc (Z10 tis fls rx @dx @w1 @w2 @hwl @hwp @hBl Zi)))
         refine round_normal ⟨k + 1,_,_⟩ F ?_ (by show P.length - (k + 1) < P.length - k; omega)
         simp only [hm2]
         (first | refine Zo tis ?_ | exact Zc tis)
    ·obtain rfl : k = P.length:=by omega
     rw [List.drop_length] at r1
     simp only [rowF] at r1
     rw [r1] at m1
     simp only at m1
     rw [Nat.sub_self,rowZ_0]
     have eI : ∀ z : List Int,eInts true z = .sl true 1 (z.map eInt):=fun _ => rfl
     have htk : acc ++ [accV v] = (B.take (s + 1)).map accV:=by
      rw [List.take_succ_eq_append_getElem hsB,hBs,List.map_append,m9]
      obtain ⟨tl,rfl⟩:=rp
      rw [List.take_append_of_le_length m3]
      rfl
     (repeat (first | refine Zo (Z5 tis fls rx @dx Zi) ?_ | refine .inl ⟨by kernel_rfl,?_⟩ | exact .inl (by show _ = _; kernel_rfl) | exact Zc (Z5 tis fls rx @dx Zi)))
     refine round_normal ⟨n,s + 1,B,rows ++ [row],acc ++ [accV v]⟩ ⟨⟨m1,by simp only; omega,by simp only; omega,r3,r4,by simp [m6],by simp [m7],fun r hr => ?_⟩,htk⟩ ?_ (by show n < n + 1; omega)
     ·rcases List.mem_append.1 hr with hr | hr
      ·exact m8 r hr
      ·simp at hr; subst hr; exact r6
     ·simp only [List.map_append,List.map_cons,List.map_nil,eI]
      (first | refine Zo tis ?_ | exact Zc tis)
  ·obtain rfl : s = A.length:=by omega
   have hn : n ≠ 0:=by omega
   obtain ⟨n,rfl⟩ : ∃ k,n = k + 1:=⟨n - 1,by omega⟩
   rw [List.take_length] at m9
   have e : machF P (n + 1) A.length A rows acc = some ⟨P,rows,acc⟩:=by rw [machF,List.getElem?_eq_none (Nat.le_refl _)]
   rw [e,m9] at m1
   subst m1
   clear e
   have hml : (A.map accV).length ≤ 40:=by simpa using m4
   (first | refine Zo (Z5 tis fls rx @dx @hAl) ?_ | exact Zc (Z5 tis fls rx @dx @hAl))
   refine run_loop (α:=Nat) (fun j => j ≤ A.length) (fun j => [(4,.box (.agg [.sl true 1 [],.sl true 1 [],.sl true 1 []])),(6,.sl true 1 (A.map (eVec false))),(7,.box (.agg [.sl false 1 (P.map (eSpans false)),.sl true 1 (rows.map (eInts true)),.sl true 1 (((A.map accV).take j).map eInt)])),(114,.vref 6 []),(115,.int .i64 A.length),(116,.int .i64 j)]) (fun j => A.length - j) 0 (Nat.zero_le _) ?_ ?_
   ·rw [List.take_zero,List.map_nil]
    (first | refine Zo (Z2 tis fls) ?_ | exact Zc (Z2 tis fls))
   ·intro j hj'
    have hl1 : (((A.map accV).take j).map eInt).length = j:=by simp; omega
    by_cases hj : j < A.length
    ·obtain ⟨f1,f2⟩:=vec_ext A j hj
     have hvj:=m5 _ (List.getElem_mem hj)
     have hvb:=hvj.vbd
     have hvl:=hvj.len
     have es : ((A.map accV).take (j + 1)).map eInt = ((A.map accV).take j).map eInt ++ [.int .i64 (accV A[j])]:=by
      rw [List.take_succ_eq_append_getElem (by simpa using hj),List.map_append,List.getElem_map]; rfl
     have hb0:=bk_0 A[j]
     generalize A[j] = w at *
     (first | refine Zo (Z7 tis fls rx @dx @f1 @f2 @hAl) ?_ | exact Zc (Z7 tis fls rx @dx @f1 @f2 @hAl))
     refine run_loop (α:=Nat) (fun i => i ≤ w.length) (fun i => [(4,.box (.agg [.sl true 1 [],.sl true 1 [],.sl true 1 []])),(6,.sl true 1 (A.map (eVec false))),(7,.box (.agg [.sl false 1 (P.map (eSpans false)),.sl true 1 (rows.map (eInts true)),.sl true 1 (((A.map accV).take j).map eInt)])),(19,.sl false 3 (w.map (eRex false))),(20,.int .i64 (bkV w i)),(21,.int .i64 ((i : Int) - 1)),(114,.vref 6 []),(115,.int .i64 A.length),(116,.int .i64 j)]) (fun i => i) w.length (Nat.le_refl _) ?_ ?_
     ·rw [bk_end]
      (first | refine Zo (Z2 tis fls) ?_ | exact Zc (Z2 tis fls))
     ·intro i hi'
      by_cases hi : i = 0
      ·subst hi
       rw [hb0]
       (repeat (first | refine Zo (Z6 tis fls rx @dx @hl1 Zi) ?_ | refine .inl ⟨by kernel_rfl,?_⟩ | exact .inl (by show _ = _; kernel_rfl) | exact Zc (Z6 tis fls rx @dx @hl1 Zi)))
       refine round_normal (j + 1) (by omega) ?_ (by show A.length - (j + 1) < A.length - j; omega)
       rw [es]
       (first | refine Zo tis ?_ | exact Zc tis)
      ·obtain ⟨i,rfl⟩ : ∃ k,i = k + 1:=⟨i - 1,by omega⟩
       have hi2 : i < w.length:=by omega
       have eN : ((i + 1 : Nat) : Int) - 1 = i:=by omega
       obtain ⟨o1,o2⟩:=hvj.ok _ (List.getElem_mem hi2)
       rw [gB_eq] at o2
       have cN:=fits_nul w[i] o1 (by
        rcases Nat.lt_or_ge 1048576 (bd w[i]) with h | h
        ·have h1 : 1048576 * 1048576 ≤ bd w[i] * bd w[i]:=Nat.mul_le_mul (by omega) (by omega)
         omega
        ·exact h)
       rw [eRex_eq] at cN
       have hbs:=bk_s hi2
       rw [eN]
       cases hnu : nulN w[i] with
       | true =>
        rw [hnu] at cN hbs
        rw [if_pos rfl] at hbs
        (repeat (first | refine Zo (Z6 tis fls rx @dx @eRex_eq Zi) ?_ | refine .inl ⟨by kernel_rfl,?_⟩ | exact .inl (by show _ = _; kernel_rfl) | exact Zc (Z6 tis fls rx @dx @eRex_eq Zi)); try ((first | refine callL cN ?_ | refine callB cN ?_); repeat (first | refine Zo (Z6 tis fls rx @dx @eRex_eq Zi) ?_ | refine .inl ⟨by kernel_rfl,?_⟩ | exact .inl (by show _ = _; kernel_rfl) | exact Zc (Z6 tis fls rx @dx @eRex_eq Zi))))
        refine round_normal i (by omega) ?_ (by show i < i + 1; omega)
        rw [hbs]
        (first | refine Zo tis ?_ | exact Zc tis)
       | false =>
        rw [hnu] at cN hbs
        rw [if_neg (by decide)] at hbs
        (repeat (first | refine Zo (Z6 tis fls rx @dx @eRex_eq Zi) ?_ | refine .inl ⟨by kernel_rfl,?_⟩ | exact .inl (by show _ = _; kernel_rfl) | exact Zc (Z6 tis fls rx @dx @eRex_eq Zi)); try ((first | refine callL cN ?_ | refine callB cN ?_); repeat (first | refine Zo (Z6 tis fls rx @dx @eRex_eq Zi) ?_ | refine .inl ⟨by kernel_rfl,?_⟩ | exact .inl (by show _ = _; kernel_rfl) | exact Zc (Z6 tis fls rx @dx @eRex_eq Zi))))
        refine round_normal i (by omega) ?_ (by show i < i + 1; omega)
        rw [hbs]
        (first | refine Zo tis ?_ | exact Zc tis)
    ·obtain rfl : j = A.length:=by omega
     rw [List.take_of_length_le (by simp)]
     have cC:=fits_dfaCopy ⟨P,rows,A.map accV⟩ (by show P.length ≤ _; omega) hp3 (by show rows.length ≤ _; omega) (fun r hr => by have:=m8 r hr; omega) (by show (A.map accV).length ≤ _; omega)
     unfold eDfa at cC
     simp only at cC
     simp only [Option.getD_some,Option.isSome_some,eDfa]
     (repeat (first | refine callL cC ?_ | refine callB cC ?_ | refine Zo (Z6 tis fls rx @dx retCB.eq_1 Zi) ?_ | refine .inl ⟨by kernel_rfl,?_⟩ | exact .inl (by show _ = _; kernel_rfl) | exact Zc (Z6 tis fls rx @dx retCB.eq_1 Zi)))
theorem okr_kid {r x : Rex} (h : Okr r) (hx : x ∈ r.kids) : Okr x:=by
 obtain ⟨d,hd⟩:=h
 cases d with
 | zero => simp [fm] at hd
 | succ d => exact ⟨d,(fm_ok hd).2.2.2 x hx⟩
theorem okr_kidl {r : Rex} (h : Okr r) : r.kids.length ≤ 2:=by
 obtain ⟨d,hd⟩:=h
 cases d with
 | zero => simp [fm] at hd
 | succ d =>
  have:=(fm_ok hd).1
  unfold kidsN at this
  split at this
  ·omega
  ·split at this
   ·omega
   ·split at this <;> omega
theorem fits_norm (r : Rex) : Okr r → bd r ≤ 1000000 → Fits prog 46 [eRex false r] (eRex false (normR r)) []:=by
 induction r using Rex.ind' with
 | h r ih =>
  intro hr hb
  have er:=eRex_eq false r
  have kl:=okr_kidl hr
  have hkid : ∀ x ∈ r.kids,Fits prog 46 [eRex false x] (eRex false (normR x)) []:=fun x hx => ih x hx (okr_kid hr hx) (by have:=bd_kid hx; omega)
  obtain ⟨N,hN⟩ : ∃ N,normR r = N:=⟨_,rfl⟩
  rw [hN,eRex_eq false N,er]
  refine fits_of_cell 2 30 [] [0,1,2,3,5,7,8,9,10,20,21,30,39,48,54] func46 rfl rfl rfl (by show 2 < 61; decide) (by show 1 ≤ 61; decide) (by rfl) (by rfl) (by show 0 ≤ 1; decide) (by rfl) (run_of ?_)
  refine Zo (Z3 tis rx fls) ?_
  refine run_loop (α:=Nat) (fun i => i ≤ r.kids.length) (fun i => [(1,.box (.agg [.int .i64 r.kind,.sl false 2 (r.set.map eSpan),.sl false 3 (r.kids.map (eRex false))])),(2,.box (.agg [.int .i64 0,.sl true 2 [],.sl true 3 []])),(3,.sl true 3 (((r.kids.take i).map normR).map (eRex false))),(7,.sl false 3 (r.kids.map (eRex false))),(8,.int .i64 r.kids.length),(9,.int .i64 i)]) (fun i => r.kids.length - i) 0 (Nat.zero_le _) ?_ ?_
  ·rw [List.take_zero,List.map_nil]
   exact Zc (Z4 tis rx fls @LLmapnil)
   done
  ·intro i hi'
   by_cases hi : i < r.kids.length
   ·have hx:=List.getElem_mem hi
    have c:=hkid _ hx
    have tl : (r.kids.take i).length = i:=by rw [List.length_take]; omega
    have et : ((r.kids.take (i + 1)).map normR).map (eRex false) = ((r.kids.take i).map normR).map (eRex false) ++ [eRex false (normR r.kids[i])]:=by
     rw [List.take_succ_eq_append_getElem hi,List.map_append,List.map_append]; rfl
    generalize normR r.kids[i] = X at *
    rw [eRex_eq,eRex_eq false X] at c
    refine Zo (Z4 tis rx fls @eRex_eq) ?_
    refine callB c ?_
    refine Zo (Z5 tis rx fls @eRex_eq @tl) ?_
    refine round_normal (i + 1) (by omega) ?_ (by show r.kids.length - (i + 1) < r.kids.length - i; omega)
    rw [et]
    exact Zc (Z4 tis rx fls @eRex_eq)
    done
   ·obtain rfl : i = r.kids.length:=by omega
    rw [List.take_length]
    rw [normR_eq] at hN
    by_cases h2 : r.kind = 3 ∨ r.kind = 4 ∨ r.kind = 6
    ·obtain ⟨a,b,e,ha,hb2,hl⟩:=okr_kids2 hr h2
     obtain ⟨p1,p2⟩:=normR_ok a ha
     obtain ⟨q1,q2⟩:=normR_ok b hb2
     have g1:=fits_normCat (normR a) (normR b) p1 q1 (by omega)
     have g2:=fits_normOr (normR a) (normR b) p1 q1 (by omega)
     have g3:=fits_normAnd (normR a) (normR b) p1 q1 (by omega)
     rw [e] at hN ⊢
     simp only [List.map_cons,List.map_nil,List.getD_cons_zero,List.getD_cons_succ] at hN ⊢
     generalize normR a = A at *
     generalize normR b = B at *
     rw [eRex_eq false A,eRex_eq false B] at g1 g2 g3 ⊢
     rcases h2 with h | h | h
     ·rw [if_pos h] at hN
      rw [hN,eRex_eq false N] at g1
      (repeat (first | refine callL g1 ?_ | refine callB g1 ?_ | refine Zo (Z6 tis rx fls @eRex_eq @h Zi) ?_ | refine .inl ⟨by kernel_rfl,?_⟩ | exact .inl (by show _ = _; kernel_rfl) | exact Zc (Z6 tis rx fls @eRex_eq @h Zi)))
      done
     ·rw [if_neg (by omega),if_pos h] at hN
      rw [hN,eRex_eq false N] at g2
      (repeat (first | refine callL g2 ?_ | refine callB g2 ?_ | refine Zo (Z6 tis rx fls @eRex_eq @h Zi) ?_ | refine .inl ⟨by kernel_rfl,?_⟩ | exact .inl (by show _ = _; kernel_rfl) | exact Zc (Z6 tis rx fls @eRex_eq @h Zi)))
      done
     ·rw [if_neg (by omega),if_neg (by omega),if_pos h] at hN
      rw [hN,eRex_eq false N] at g3
      (repeat (first | refine callL g3 ?_ | refine callB g3 ?_ | refine Zo (Z6 tis rx fls @eRex_eq @h Zi) ?_ | refine .inl ⟨by kernel_rfl,?_⟩ | exact .inl (by show _ = _; kernel_rfl) | exact Zc (Z6 tis rx fls @eRex_eq @h Zi)))
      done
    ·simp only [not_or] at h2
     rw [if_neg h2.1,if_neg h2.2.1,if_neg h2.2.2] at hN
     by_cases h1 : r.kind = 5 ∨ r.kind = 7
     ·obtain ⟨a,e,ha,hl⟩:=okr_kids1 hr h1
      obtain ⟨p1,p2⟩:=normR_ok a ha
      have g1:=fits_normStar (normR a) p1 (by omega)
      have g2:=fits_normNot (normR a) p1 (by omega)
      rw [e] at hN ⊢
      simp only [List.map_cons,List.map_nil,List.getD_cons_zero] at hN ⊢
      generalize normR a = A at *
      rw [eRex_eq false A] at g1 g2 ⊢
      rcases h1 with h | h
      ·rw [if_pos h] at hN
       rw [hN,eRex_eq false N] at g1
       (repeat (first | refine callL g1 ?_ | refine callB g1 ?_ | refine Zo (Z6 tis rx fls @eRex_eq @h Zi) ?_ | refine .inl ⟨by kernel_rfl,?_⟩ | exact .inl (by show _ = _; kernel_rfl) | exact Zc (Z6 tis rx fls @eRex_eq @h Zi)))
       done
      ·rw [if_neg (by omega),if_pos h] at hN
       rw [hN,eRex_eq false N] at g2
       (repeat (first | refine callL g2 ?_ | refine callB g2 ?_ | refine Zo (Z6 tis rx fls @eRex_eq @h Zi) ?_ | refine .inl ⟨by kernel_rfl,?_⟩ | exact .inl (by show _ = _; kernel_rfl) | exact Zc (Z6 tis rx fls @eRex_eq @h Zi)))
       done
     ·simp only [not_or] at h1
      rw [if_neg h1.1,if_neg h1.2] at hN
      subst hN
      exact Zc (Z4 tis rx fls @eRex_eq)
      done



theorem rexB_ok {r : Rex} (h : rexB r = true) : Okr r ∧ ps r ≤ 24:=by
 simp only [rexB,Bool.and_eq_true,decide_eq_true_eq] at h
 exact ⟨⟨8,h.1⟩,h.2⟩
noncomputable def machR (r : Rex) : Option Dfa:=machF (partsL (setsR r)) 41 0 [[normR r]] [] []
theorem machR_of (a : List UInt8) (r : Rex) : dfaOfV [⟨a,r⟩] = machR r:=by
 simp [dfaOfV,machR,setsV,startV]
theorem setsR_all {r : Rex} (h : rexB r = true) : (setsR r).all setB = true:=by
 rw [List.all_eq_true]
 obtain ⟨d,hd⟩:=(rexB_ok h).1
 exact fun s hs => setsR_ok d _ hd s hs
theorem okr_norm {r : Rex} (ho : Okr r) (hp : ps r ≤ 24) : Okr (normR r) ∧ gB (bd (normR r)) ≤ 500000000:=by
 have h1:=bd_ps r ho
 have h2:=normR_bd r ho
 exact ⟨(normR_ok r ho).1,Nat.le_trans (gB_mono (show bd (normR r) ≤ 9335 by omega)) (by decide)⟩
theorem fits_machineOfT (r : Rex) (h : rexB r = true) : Fits prog 62 [eRex false r] (.tup [eDfa true ((machR r).getD zDfa),.bool (machR r).isSome]) []:=by
 obtain ⟨ho,hp⟩:=rexB_ok h
 have h1:=bd_ps r ho
 have lS:=setsR_len r
 have hm:=setsR_mem r
 obtain ⟨q1,q2⟩:=partsL_ok (setsR r)
 have cN:=fits_norm r ho (by omega)
 have cS : Fits prog 55 [eRex false r,.sl true 1 []] (.sl true 1 ((setsR r).map (eSpans false))) []:=by
  have:=fits_setsOf r (by omega) [] (by simp only [List.length_nil]; omega)
  simpa using this
 have cP:=fits_setParts (setsR r) (setsR_all h) (by omega) (fun p hp => by have:=hm p hp; omega)
 have cM : Fits prog 98 [.sl false 3 ([normR r].map (eRex false)),.sl false 1 ((partsL (setsR r)).map (eSpans false))] (.tup [eDfa true ((machR r).getD zDfa),.bool (machR r).isSome]) [] :=
  fits_machine (partsL (setsR r)) q1 (fun p hp => (q2 p hp).1) [normR r] 1 (by omega) ⟨rfl,fun x hx => by simp at hx; subst hx; exact okr_norm ho hp⟩
 generalize partsL (setsR r) = P at *
 generalize setsR r = Z at *
 generalize normR r = N at *
 generalize (machR r).getD zDfa = D at *
 generalize (machR r).isSome = S at *
 unfold eDfa at *
 rw [eRex_eq false r,eRex_eq false N] at cN
 rw [eRex_eq false r] at cS ⊢
 rw [List.map_cons,List.map_nil,eRex_eq false N] at cM
 refine fits_of_pair 2 73 3 [] [0,1,2,3] func62 rfl rfl rfl (by show 2 < 13; decide) (by show 3 < 13; decide) (by show 1 ≤ 13; decide) (by rfl) (by rfl) (by show 0 ≤ 1; decide) (by rfl) (run_of ?_)
 (first | refine Zo (Z4 tis fls rx @dx) ?_ | exact Zc (Z4 tis fls rx @dx))
 refine .inr (run_late 7 [[]] (by kernel_rfl) ?_)
 (repeat (first | refine Zo (Z8 tis fls rx @dx retCB.eq_1 @ex_eq @exGo_tup Zi) ?_ | refine .inl ⟨by kernel_rfl,?_⟩ | exact .inl (by show _ = _; kernel_rfl) | exact Zc (Z8 tis fls rx @dx retCB.eq_1 @ex_eq @exGo_tup Zi)); try ((first | refine callL cN ?_ | refine callB cN ?_); repeat (first | refine Zo (Z8 tis fls rx @dx retCB.eq_1 @ex_eq @exGo_tup Zi) ?_ | refine .inl ⟨by kernel_rfl,?_⟩ | exact .inl (by show _ = _; kernel_rfl) | exact Zc (Z8 tis fls rx @dx retCB.eq_1 @ex_eq @exGo_tup Zi))); try ((first | refine callL cS ?_ | refine callB cS ?_); repeat (first | refine Zo (Z8 tis fls rx @dx retCB.eq_1 @ex_eq @exGo_tup Zi) ?_ | refine .inl ⟨by kernel_rfl,?_⟩ | exact .inl (by show _ = _; kernel_rfl) | exact Zc (Z8 tis fls rx @dx retCB.eq_1 @ex_eq @exGo_tup Zi))); try ((first | refine callL cP ?_ | refine callB cP ?_); repeat (first | refine Zo (Z8 tis fls rx @dx retCB.eq_1 @ex_eq @exGo_tup Zi) ?_ | refine .inl ⟨by kernel_rfl,?_⟩ | exact .inl (by show _ = _; kernel_rfl) | exact Zc (Z8 tis fls rx @dx retCB.eq_1 @ex_eq @exGo_tup Zi))); try ((first | refine callL cM ?_ | refine callB cM ?_); repeat (first | refine Zo (Z8 tis fls rx @dx retCB.eq_1 @ex_eq @exGo_tup Zi) ?_ | refine .inl ⟨by kernel_rfl,?_⟩ | exact .inl (by show _ = _; kernel_rfl) | exact Zc (Z8 tis fls rx @dx retCB.eq_1 @ex_eq @exGo_tup Zi))))
theorem fits_machineOf (r : Rex) (h : rexB r = true) : Fits prog 62 [eRex false r] (.tup [eDfa false ((machR r).getD zDfa),.bool (machR r).isSome]) [] :=
 fits_as (fits_machineOfT r h) (by simp [erase,eraseL,eDfa,dx,fls])
theorem fits_l12Dfa (r : Rex) (h : rexB r = true) : Fits prog 59 [eRex false r] (.tup [eDfa false ((machR r).getD zDfa),.bool (machR r).isSome]) []:=by
 obtain ⟨ho,hp⟩:=rexB_ok h
 have cM:=fits_l7Of [⟨[97],r⟩] ⟨by simp,by simp,fun x hx => by simp at hx; subst hx; exact ⟨ho,hp⟩⟩
 rw [machR_of] at cM
 generalize (machR r).getD zDfa = D at *
 generalize (machR r).isSome = S at *
 unfold eDfa at *
 rw [List.map_cons,List.map_nil,eRule_eq] at cM
 simp only at cM
 rw [eRex_eq false r]
 refine fits_of_pair 2 73 3 [] [0,1,2,3] func59 rfl rfl rfl (by show 2 < 10; decide) (by show 3 < 10; decide) (by show 1 ≤ 10; decide) (by rfl) (by rfl) (by show 0 ≤ 1; decide) (by rfl) (run_of ?_)
 (repeat (first | refine Zo (Z9 tis fls rx @dx @ux retCB.eq_1 @ex_eq @exGo_tup Zi) ?_ | refine .inl ⟨by kernel_rfl,?_⟩ | exact .inl (by show _ = _; kernel_rfl) | exact Zc (Z9 tis fls rx @dx @ux retCB.eq_1 @ex_eq @exGo_tup Zi)); try (refine callF [(6,[])] cM ?_; repeat (first | refine Zo (Z9 tis fls rx @dx @ux retCB.eq_1 @ex_eq @exGo_tup Zi) ?_ | refine .inl ⟨by kernel_rfl,?_⟩ | exact .inl (by show _ = _; kernel_rfl) | exact Zc (Z9 tis fls rx @dx @ux retCB.eq_1 @ex_eq @exGo_tup Zi))))
structure MOk (d : Dfa) : Prop where
 pos : 0 < d.rows.length
 n : d.rows.length ≤ 40
 a : d.acc.length = d.rows.length
 l : ∀ s (h : s < d.rows.length),d.rows[s].length = d.parts.length
 b : ∀ s (h : s < d.rows.length),∀ k (h2 : k < d.rows[s].length),d.rows[s][k] < d.rows.length
 p : d.parts.length ≤ 256
 pc : ∀ p ∈ d.parts,setB p = true
theorem rowF_ok {v : List Rex} : ∀ (ps : List (List Span)) (A : List (List Rex)) (row : List Int) (z),A.length ≤ 40 → (∀ x ∈ row,x < (A.length : Int)) → rowF v ps A row = some z →
  A.length ≤ z.1.length ∧ z.1.length ≤ 40 ∧ z.2.length = row.length + ps.length ∧ ∀ x ∈ z.2,x < (z.1.length : Int)
 | [],A,row,z,h1,h2,h => by
  simp only [rowF,Option.some.injEq] at h; subst h
  exact ⟨Nat.le_refl _,h1,by simp,h2⟩
 | p :: ps,A,row,z,h1,h2,h => by
  simp only [rowF] at h
  cases hc : colS A row (vecR (firstB p) v) with
  | none => rw [hc] at h; cases h
  | some y =>
   rw [hc] at h
   have key : A.length ≤ y.1.length ∧ y.1.length ≤ 40 ∧ y.2.length = row.length + 1 ∧ ∀ x ∈ y.2,x < (y.1.length : Int):=by
    have hat:=first_lt (fun u => decide (u = vecR (firstB p) v)) A
    change -1 ≤ atV A (vecR (firstB p) v) ∧ atV A (vecR (firstB p) v) < A.length at hat
    unfold colS at hc
    split at hc
    ·split at hc
     ·cases hc
     ·rename_i h3
      simp only [Option.some.injEq] at hc; subst hc
      refine ⟨by simp,by simp; omega,by simp,fun x hx => ?_⟩
      rcases List.mem_append.1 hx with hx | hx
      ·have:=h2 x hx; simp; omega
      ·simp at hx; subst hx; simp only [List.length_append,List.length_singleton]; omega
    ·simp only [Option.some.injEq] at hc; subst hc
     refine ⟨Nat.le_refl _,h1,by simp,fun x hx => ?_⟩
     rcases List.mem_append.1 hx with hx | hx
     ·exact h2 x hx
     ·simp at hx; subst hx
      split
      ·show (-1 : Int) < A.length; omega
      ·exact hat.2
   obtain ⟨k1,k2,k3,k4⟩:=key
   obtain ⟨r1,r2,r3,r4⟩:=rowF_ok ps y.1 y.2 z k2 k4 h
   exact ⟨by omega,r2,by simp; omega,r4⟩
theorem machF_ok {P : List (List Span)} (hP : P.length ≤ 256) (hPc : ∀ p ∈ P,setB p = true) : ∀ n s A rows acc d,0 < A.length → A.length ≤ 40 → rows.length = s → acc.length = s → s ≤ A.length → (∀ r ∈ rows,r.length = P.length ∧ ∀ x ∈ r,x < (A.length : Int)) → machF P n s A rows acc = some d → MOk d ∧ d.parts = P:=by
 intro n
 induction n with
 | zero => intro s A rows acc d _ _ _ _ _ _ h; simp [machF] at h
 | succ n ih =>
  intro s A rows acc d h0 h1 h2 h3 h4 h5 h
  by_cases hs : s < A.length
  ·rw [machF_at hs] at h
   cases hr : rowF A[s] P A [] with
   | none => rw [hr] at h; cases h
   | some z =>
    rw [hr] at h
    obtain ⟨r1,r2,r3,r4⟩:=rowF_ok P A [] z h1 (by simp) hr
    refine ih (s + 1) z.1 _ _ d (by omega) r2 (by simp [h2]) (by simp [h3]) (by omega) (fun r hr2 => ?_) h
    rcases List.mem_append.1 hr2 with hr2 | hr2
    ·exact ⟨(h5 r hr2).1,fun x hx => by have:=(h5 r hr2).2 x hx; omega⟩
    ·simp at hr2; subst hr2
     exact ⟨by simpa using r3,r4⟩
  ·rw [machF,List.getElem?_eq_none (by omega)] at h
   simp only [Option.some.injEq] at h; subst h
   have e : A.length = rows.length:=by omega
   exact ⟨⟨by show 0 < rows.length; omega,by show rows.length ≤ 40; omega,by show acc.length = rows.length; omega,
    fun s hs => (h5 _ (List.getElem_mem hs)).1,fun s hs k hk => by have:=(h5 _ (List.getElem_mem hs)).2 _ (List.getElem_mem hk); show _ < (rows.length : Int); omega,hP,hPc⟩,rfl⟩
theorem machR_ok {r : Rex} {d : Dfa} (h : machR r = some d) : MOk d ∧ d.parts = partsL (setsR r):=by
 obtain ⟨q1,q2⟩:=partsL_ok (setsR r)
 exact machF_ok q1 (fun p hp => (q2 p hp).1) 41 0 _ _ _ d (by simp) (by simp) rfl rfl (by simp) (by simp) h

def glV (d : Dfa) (s k : Nat) : Int:=(d.rows.getD s []).getD k 0
def acV (d : Dfa) (s : Nat) : Int:=d.acc.getD s 0
structure DOk (d : Dfa) : Prop where
 sm : Small d
 n : d.rows.length ≤ 40
 a : d.acc.length = d.rows.length
 l : ∀ s (h : s < d.rows.length),d.rows[s].length = d.parts.length
 b : ∀ s (h : s < d.rows.length),∀ k (h2 : k < d.rows[s].length),d.rows[s][k] ≤ (d.rows.length : Int) - 1
 ac : ∀ s (h : s < d.acc.length),-1 ≤ d.acc[s] ∧ d.acc[s] ≤ 4
def cap (x : Int) : Int:=mnI 1000000 x
def addM (t c : Int) (m : Nat) (N : List Int) : List Int:=if 0 ≤ t then N.set t.toNat (cap (N.getD t.toNat 0 + c * m)) else N
def colM (d : Dfa) (s : Nat) (a : Int) : Nat → List Int → List Int
 | 0,N => N
 | k + 1,N => addM (glV d s k) a (cntB (d.parts.getD k [])) (colM d s a k N)
def rowM (d : Dfa) (A : List Int) : Nat → List Int
 | 0 => List.replicate d.rows.length 0
 | s + 1 => colM d s (A.getD s 0) d.parts.length (rowM d A s)
theorem int_at (N : List Int) (i : Nat) (h : i < N.length) : (N.map eInt)[i]? = some (.int .i64 (N.getD i 0)) ∧ (N.map eInt).getD i .undef = .int .i64 (N.getD i 0):=by
 have e : N.getD i 0 = N[i]:=by simp [List.getD,h]
 have : (N.map eInt)[i]? = some (.int .i64 (N.getD i 0)):=by rw [e]; simp [h,eInt]
 exact ⟨this,by rw [List.getD,this]; rfl⟩
theorem dat_at {d : Dfa} (h : MOk d) {s k : Nat} (hs : s < d.rows.length) (hk : k < d.parts.length) :
  ((d.rows.map (eInts false))[s]? = some (.sl false 1 ((d.rows.getD s []).map eInt)) ∧ (d.rows.map (eInts false)).getD s .undef = .sl false 1 ((d.rows.getD s []).map eInt)) ∧
  (((d.rows.getD s []).map eInt)[k]? = some (.int .i64 (glV d s k)) ∧ ((d.rows.getD s []).map eInt).getD k .undef = .int .i64 (glV d s k)) ∧
  ((d.parts.map (eSpans false))[k]? = some (.sl false 2 ((d.parts.getD k []).map eSpan)) ∧ (d.parts.map (eSpans false)).getD k .undef = .sl false 2 ((d.parts.getD k []).map eSpan)) ∧
  (d.rows.getD s []).length = d.parts.length ∧ glV d s k < d.rows.length ∧ (d.parts.getD k []).length ≤ 128:=by
 have e1 : d.rows.getD s [] = d.rows[s]:=by simp [List.getD,hs]
 have e2 : d.parts.getD k [] = d.parts[k]:=by simp [List.getD,hk]
 have hl:=h.l s hs
 have hk2 : k < d.rows[s].length:=by omega
 have e3 : glV d s k = d.rows[s][k]:=by unfold glV; rw [e1]; simp [List.getD,hk2]
 have a1 : (d.rows.map (eInts false))[s]? = some (.sl false 1 (d.rows[s].map eInt)):=by simp [hs,eInts]
 have a2 : (d.rows[s].map eInt)[k]? = some (.int .i64 (d.rows[s][k])):=by simp [hk2,eInt]
 have a3 : (d.parts.map (eSpans false))[k]? = some (.sl false 2 (d.parts[k].map eSpan)):=by simp [hk,eSpans]
 rw [e1,e2,e3]
 exact ⟨⟨a1,by rw [List.getD,a1]; rfl⟩,⟨a2,by rw [List.getD,a2]; rfl⟩,⟨a3,by rw [List.getD,a3]; rfl⟩,hl,h.b s hs k hk2,setB_128 (h.pc _ (List.getElem_mem hk))⟩
end Go.Proofs.YtpffgegfjpdncaaGreatDoor.U
