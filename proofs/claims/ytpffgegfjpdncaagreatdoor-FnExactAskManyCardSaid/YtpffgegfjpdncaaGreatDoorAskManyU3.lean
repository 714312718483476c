/- What functions of the program answer, on values without memory (part 3): conditions stand at each theorem. -/
import Derived.Test.YtpffgegfjpdncaaGreatDoorRows
import Derived.Test.YtpffgegfjpdncaaGreatDoorAskManyU2
import Derived.Shelf.Strings.OnBuilder
import Derived.Shelf.LaysM
import Derived.Shelf.Strconv.Itoa3
import Derived.Shelf.Sort.Plain
import Derived.Shelf.Slices.In.SortNone2
set_option linter.unusedVariables false
set_option linter.unusedSimpArgs false
set_option maxRecDepth 100000
set_option maxHeartbeats 4000000
namespace Go.Proofs.YtpffgegfjpdncaaGreatDoor.U
open Go Go.RowKit Go.Proofs Go.Proofs.YtpffgegfjpdncaaGreatDoor.Am AV Go.Proofs.Tryz
def cap (x : Int) : Int:=mnI 1000000 x
theorem cap_if (x : Int) : (if (1000000 : Int) < x then 1000000 else x) = cap x:=by unfold cap mnI; split <;> split <;> omega
theorem cap_le (x : Int) : cap x ≤ 1000000:=by unfold cap mnI; split <;> omega
theorem cap_0 {x : Int} (h : 0 ≤ x) : 0 ≤ cap x:=by unfold cap mnI; split <;> omega
theorem cap_cap {a x : Int} (h : 0 ≤ a) : cap (a + cap x) = cap (a + x):=by
 unfold cap mnI
 repeat' split
 all_goals omega
def addM (t c : Int) (m : Nat) (N : List Int) : List Int:=if 0 ≤ t then N.set t.toNat (cap (N.getD t.toNat 0 + c * m)) else N
def colM (d : Dfa) (s : Nat) (a : Int) : Nat → List Int → List Int
 | 0,N => N
 | k + 1,N => addM (glV d s k) a (cntB (d.parts.getD k [])) (colM d s a k N)
def rowM (d : Dfa) (A : List Int) : Nat → List Int
 | 0 => List.replicate d.rows.length 0
 | s + 1 => colM d s (A.getD s 0) d.parts.length (rowM d A s)
def runM (d : Dfa) : Nat → List Int
 | 0 => (List.replicate d.rows.length 0).set 0 1
 | i + 1 => rowM d (runM d i) d.rows.length
def sumM (d : Dfa) (A : List Int) : Nat → Int
 | 0 => 0
 | s + 1 => if 0 ≤ acV d s then cap (sumM d A s + A.getD s 0) else sumM d A s
noncomputable def manyR (r : Rex) (n : Int) : Int × Bool :=
 if rexB r = true ∧ 0 ≤ n ∧ n ≤ 12 then (match machR r with | none => (0,false) | some d => (sumM d (runM d n.toNat) d.rows.length,true)) else (0,false)
def NOk (n : Nat) (N : List Int) : Prop:=N.length = n ∧ ∀ x ∈ N,0 ≤ x ∧ x ≤ 1000000
theorem nok_get {n : Nat} {N : List Int} (h : NOk n N) (i : Nat) : 0 ≤ N.getD i 0 ∧ N.getD i 0 ≤ 1000000:=by
 by_cases hi : i < N.length
 ·have e : N.getD i 0 = N[i]:=by simp [List.getD,hi]
  rw [e]
  exact h.2 _ (List.getElem_mem hi)
 ·have e : N.getD i 0 = 0:=by simp [List.getD,List.getElem?_eq_none (show N.length ≤ i by omega)]
  rw [e]; omega
theorem nok_rep (n : Nat) : NOk n (List.replicate n 0):=⟨by simp,fun x hx => by rw [List.mem_replicate] at hx; omega⟩
theorem nok_set {n : Nat} {N : List Int} (h : NOk n N) (i : Nat) {x : Int} (hx : 0 ≤ x ∧ x ≤ 1000000) : NOk n (N.set i x):=by
 refine ⟨by rw [List.length_set]; exact h.1,fun y hy => ?_⟩
 rcases List.mem_or_eq_of_mem_set hy with hy | hy
 ·exact h.2 y hy
 ·subst hy; exact hx
theorem nok_add {n : Nat} {N : List Int} (h : NOk n N) (t : Int) {c : Int} (hc : 0 ≤ c) (m : Nat) : NOk n (addM t c m N):=by
 unfold addM
 split
 ·have:=nok_get h t.toNat
  have hm : 0 ≤ c * (m : Int):=Int.mul_nonneg hc (by omega)
  exact nok_set h _ ⟨cap_0 (by omega),cap_le _⟩
 ·exact h
theorem nok_col (d : Dfa) (s : Nat) {a : Int} (ha : 0 ≤ a) {n : Nat} : ∀ k {N : List Int},NOk n N → NOk n (colM d s a k N)
 | 0,_,h => h
 | k + 1,_,h => nok_add (nok_col d s ha k h) _ ha _
theorem nok_row (d : Dfa) {A : List Int} (hA : NOk d.rows.length A) : ∀ s,NOk d.rows.length (rowM d A s)
 | 0 => nok_rep _
 | s + 1 => nok_col d s (nok_get hA s).1 _ (nok_row d hA s)
theorem nok_run (d : Dfa) : ∀ i,NOk d.rows.length (runM d i)
 | 0 => nok_set (nok_rep _) _ (by omega)
 | i + 1 => nok_row d (nok_run d i) _
theorem sum_ok (d : Dfa) {n : Nat} {A : List Int} (hA : NOk n A) : ∀ s,0 ≤ sumM d A s ∧ sumM d A s ≤ 1000000
 | 0 => by simp [sumM]
 | s + 1 => by
  have h1:=sum_ok d hA s
  have h2:=nok_get hA s
  unfold sumM
  split
  ·exact ⟨cap_0 (by omega),cap_le _⟩
  ·exact h1
theorem int_at (N : List Int) (i : Nat) (h : i < N.length) : (N.map eInt)[i]? = some (.int .i64 (N.getD i 0)) ∧ (N.map eInt).getD i .undef = .int .i64 (N.getD i 0):=by
 have e : N.getD i 0 = N[i]:=by simp [List.getD,h]
 have : (N.map eInt)[i]? = some (.int .i64 (N.getD i 0)):=by rw [e]; simp [h,eInt]
 exact ⟨this,by rw [List.getD,this]; rfl⟩
theorem set_int (N : List Int) (i : Nat) (x : Int) : (N.map eInt).set i (.int .i64 x) = (N.set i x).map eInt:=by rw [List.map_set]; rfl
theorem rep_int (n : Nat) : List.replicate n (AV.int .i64 0) = (List.replicate n 0).map eInt:=by rw [List.map_replicate]; rfl
theorem mul_le (a : Int) (m : Nat) (h : 0 ≤ a ∧ a ≤ 1000000) (hm : m ≤ 256) : 0 ≤ a * m ∧ a * m ≤ 256000000:=by
 refine ⟨Int.mul_nonneg h.1 (by omega),?_⟩
 have h1 : a * (m : Int) ≤ 1000000 * (m : Int):=Int.mul_le_mul_of_nonneg_right h.2 (by omega)
 omega
theorem dat_at {d : Dfa} (h : MOk d) {s k : Nat} (hs : s < d.rows.length) (hk : k < d.parts.length) :
  ((d.rows.map (eInts false))[s]? = some (.sl false 1 ((d.rows.getD s []).map eInt)) ∧ (d.rows.map (eInts false)).getD s .undef = .sl false 1 ((d.rows.getD s []).map eInt)) ∧
  (((d.rows.getD s []).map eInt)[k]? = some (.int .i64 (glV d s k)) ∧ ((d.rows.getD s []).map eInt).getD k .undef = .int .i64 (glV d s k)) ∧
  ((d.parts.map (eSpans false))[k]? = some (.sl false 2 ((d.parts.getD k []).map eSpan)) ∧ (d.parts.map (eSpans false)).getD k .undef = .sl false 2 ((d.parts.getD k []).map eSpan)) ∧
  (d.rows.getD s []).length = d.parts.length ∧ glV d s k < d.rows.length ∧ (d.parts.getD k []).length ≤ 128:=by
 have e1 : d.rows.getD s [] = d.rows[s]:=by simp [List.getD,hs]
 have e2 : d.parts.getD k [] = d.parts[k]:=by simp [List.getD,hk]
 have hl:=h.l s hs
 have hk2 : k < d.rows[s].length:=by omega
 have e3 : glV d s k = d.rows[s][k]:=by unfold glV; rw [e1]; simp [List.getD,hk2]
 have a1 : (d.rows.map (eInts false))[s]? = some (.sl false 1 (d.rows[s].map eInt)):=by simp [hs,eInts]
 have a2 : (d.rows[s].map eInt)[k]? = some (.int .i64 (d.rows[s][k])):=by simp [hk2,eInt]
 have a3 : (d.parts.map (eSpans false))[k]? = some (.sl false 2 (d.parts[k].map eSpan)):=by simp [hk,eSpans]
 rw [e1,e2,e3]
 exact ⟨⟨a1,by rw [List.getD,a1]; rfl⟩,⟨a2,by rw [List.getD,a2]; rfl⟩,⟨a3,by rw [List.getD,a3]; rfl⟩,hl,h.b s hs k hk2,setB_128 (h.pc _ (List.getElem_mem hk))⟩
theorem fits_askMany (r : Rex) (hb : bd r ≤ 1048576) (m : Int) : Fits prog 26 [eRex false r,.int .i64 m] (.tup [.int .i64 (manyR r m).1,.bool (manyR r m).2]) []:=by
 have cR:=fits_rexOk r hb
 have cI:=fits_in m 0 12
 rw [eRex_eq] at cR ⊢
 by_cases hr : rexB r = true
 case neg =>
  have e : manyR r m = (0,false):=by unfold manyR; rw [if_neg (fun h => hr h.1)]
  have hr2 : rexB r = false:=by simpa using hr
  rw [e]; rw [hr2] at cR
  refine fits_of_code [4,5] [] [0,1,2,4,5,6,7,8,9,10,11,12,13,14,15,16,17,25,32,40,47,48,49,50,55,56,57,58,71,88,89,90,91,100] func26 rfl rfl rfl (by rfl) (by show 2 ≤ 107; decide) (by rfl) (by rfl) (by show 0 ≤ 2; decide) (by rfl) (run_of ?_)
  (repeat (first | refine Zo (Z5 tis rx fls @retW2 Zi) ?_ | refine .inl ⟨by kernel_rfl,?_⟩ | exact .inl (by show _ = _; kernel_rfl) | exact Zc (Z5 tis rx fls @retW2 Zi)); try ((first | refine callL cR ?_ | refine callB cR ?_); repeat (first | refine Zo (Z5 tis rx fls @retW2 Zi) ?_ | refine .inl ⟨by kernel_rfl,?_⟩ | exact .inl (by show _ = _; kernel_rfl) | exact Zc (Z5 tis rx fls @retW2 Zi))))
 rw [hr] at cR
 by_cases hm : 0 ≤ m ∧ m ≤ 12
 case neg =>
  have e : manyR r m = (0,false):=by unfold manyR; rw [if_neg (fun h => hm h.2)]
  rw [e]; rw [decide_eq_false hm] at cI
  refine fits_of_code [4,5] [] [0,1,2,4,5,6,7,8,9,10,11,12,13,14,15,16,17,25,32,40,47,48,49,50,55,56,57,58,71,88,89,90,91,100] func26 rfl rfl rfl (by rfl) (by show 2 ≤ 107; decide) (by rfl) (by rfl) (by show 0 ≤ 2; decide) (by rfl) (run_of ?_)
  (repeat (first | refine Zo (Z5 tis rx fls @retW2 Zi) ?_ | refine .inl ⟨by kernel_rfl,?_⟩ | exact .inl (by show _ = _; kernel_rfl) | exact Zc (Z5 tis rx fls @retW2 Zi)); try ((first | refine callL cR ?_ | refine callB cR ?_); repeat (first | refine Zo (Z5 tis rx fls @retW2 Zi) ?_ | refine .inl ⟨by kernel_rfl,?_⟩ | exact .inl (by show _ = _; kernel_rfl) | exact Zc (Z5 tis rx fls @retW2 Zi))); try ((first | refine callL cI ?_ | refine callB cI ?_); repeat (first | refine Zo (Z5 tis rx fls @retW2 Zi) ?_ | refine .inl ⟨by kernel_rfl,?_⟩ | exact .inl (by show _ = _; kernel_rfl) | exact Zc (Z5 tis rx fls @retW2 Zi))))
 rw [decide_eq_true hm] at cI
 have cM:=fits_machineOf r hr
 rw [eRex_eq] at cM
 have eM : manyR r m = match machR r with | none => (0,false) | some d => (sumM d (runM d m.toNat) d.rows.length,true):=by unfold manyR; rw [if_pos ⟨hr,hm⟩]
 cases hM : machR r with
 | none =>
  rw [hM] at eM cM
  simp only at eM
  rw [eM]
  simp only [Option.getD_none,Option.isSome_none] at cM
  generalize zDfa = D at *
  unfold eDfa at cM
  refine fits_of_code [4,5] [] [0,1,2,4,5,6,7,8,9,10,11,12,13,14,15,16,17,25,32,40,47,48,49,50,55,56,57,58,71,88,89,90,91,100] func26 rfl rfl rfl (by rfl) (by show 2 ≤ 107; decide) (by rfl) (by rfl) (by show 0 ≤ 2; decide) (by rfl) (run_of ?_)
  (repeat (first | refine Zo (Z8 tis rx fls @dx @retW2 @ex_eq @exGo_tup Zi) ?_ | refine .inl ⟨by kernel_rfl,?_⟩ | exact .inl (by show _ = _; kernel_rfl) | exact Zc (Z8 tis rx fls @dx @retW2 @ex_eq @exGo_tup Zi)); try ((first | refine callL cR ?_ | refine callB cR ?_); repeat (first | refine Zo (Z8 tis rx fls @dx @retW2 @ex_eq @exGo_tup Zi) ?_ | refine .inl ⟨by kernel_rfl,?_⟩ | exact .inl (by show _ = _; kernel_rfl) | exact Zc (Z8 tis rx fls @dx @retW2 @ex_eq @exGo_tup Zi))); try ((first | refine callL cI ?_ | refine callB cI ?_); repeat (first | refine Zo (Z8 tis rx fls @dx @retW2 @ex_eq @exGo_tup Zi) ?_ | refine .inl ⟨by kernel_rfl,?_⟩ | exact .inl (by show _ = _; kernel_rfl) | exact Zc (Z8 tis rx fls @dx @retW2 @ex_eq @exGo_tup Zi))); try ((first | refine callL cM ?_ | refine callB cM ?_); repeat (first | refine Zo (Z8 tis rx fls @dx @retW2 @ex_eq @exGo_tup Zi) ?_ | refine .inl ⟨by kernel_rfl,?_⟩ | exact .inl (by show _ = _; kernel_rfl) | exact Zc (Z8 tis rx fls @dx @retW2 @ex_eq @exGo_tup Zi))))
 | some d =>
  have hd:=(machR_ok hM).1
  rw [hM] at eM cM
  simp only at eM
  rw [eM]
  simp only [Option.getD_some,Option.isSome_some] at cM
  unfold eDfa at cM
  clear eM
  obtain ⟨n,rfl⟩ : ∃ n : Nat,m = n:=⟨m.toNat,by omega⟩
  rw [Int.toNat_natCast]
  have hn:=hd.n
  have hpos:=hd.pos
  have hpl:=hd.p
  have hR0 : ((List.replicate d.rows.length (0 : Int)).map eInt).set 0 (.int .i64 1) = (runM d 0).map eInt:=by rw [set_int]; rfl
  obtain ⟨z1,z2⟩:=int_at (List.replicate d.rows.length 0) 0 (by simpa using hpos)
  have zl : ((List.replicate d.rows.length (0 : Int)).map eInt).length = d.rows.length:=by simp
  have hrep:=rep_int d.rows.length
  have hrow0 : (List.replicate d.rows.length (0 : Int)) = rowM d [] 0:=rfl
  refine fits_of_code [4,5] [] [0,1,2,4,5,6,7,8,9,10,11,12,13,14,15,16,17,25,32,40,47,48,49,50,55,56,57,58,71,88,89,90,91,100] func26 rfl rfl rfl (by rfl) (by show 2 ≤ 107; decide) (by rfl) (by rfl) (by show 0 ≤ 2; decide) (by rfl) (run_of ?_)
  (repeat (first | refine Zo (Z12 tis rx fls @dx @ex_eq @exGo_tup @hrep @z1 @z2 @zl @hR0 Zi) ?_ | refine .inl ⟨by kernel_rfl,?_⟩ | exact .inl (by show _ = _; kernel_rfl) | exact Zc (Z12 tis rx fls @dx @ex_eq @exGo_tup @hrep @z1 @z2 @zl @hR0 Zi)); try ((first | refine callL cR ?_ | refine callB cR ?_); repeat (first | refine Zo (Z12 tis rx fls @dx @ex_eq @exGo_tup @hrep @z1 @z2 @zl @hR0 Zi) ?_ | refine .inl ⟨by kernel_rfl,?_⟩ | exact .inl (by show _ = _; kernel_rfl) | exact Zc (Z12 tis rx fls @dx @ex_eq @exGo_tup @hrep @z1 @z2 @zl @hR0 Zi))); try ((first | refine callL cI ?_ | refine callB cI ?_); repeat (first | refine Zo (Z12 tis rx fls @dx @ex_eq @exGo_tup @hrep @z1 @z2 @zl @hR0 Zi) ?_ | refine .inl ⟨by kernel_rfl,?_⟩ | exact .inl (by show _ = _; kernel_rfl) | exact Zc (Z12 tis rx fls @dx @ex_eq @exGo_tup @hrep @z1 @z2 @zl @hR0 Zi))); try ((first | refine callL cM ?_ | refine callB cM ?_); repeat (first | refine Zo (Z12 tis rx fls @dx @ex_eq @exGo_tup @hrep @z1 @z2 @zl @hR0 Zi) ?_ | refine .inl ⟨by kernel_rfl,?_⟩ | exact .inl (by show _ = _; kernel_rfl) | exact Zc (Z12 tis rx fls @dx @ex_eq @exGo_tup @hrep @z1 @z2 @zl @hR0 Zi))))
  refine run_loop (α:=Nat) (fun i => i ≤ n) (fun i => [(1,.int .i64 ((n : Int) - i)),(6,.box (.agg [.sl false 1 (d.parts.map (eSpans false)),.sl false 1 (d.rows.map (eInts false)),.sl false 1 (d.acc.map eInt)])),(8,.sl true 1 ((runM d i).map eInt))]) (fun i => n - i) 0 (Nat.zero_le _) ?_ ?_
  ·(first | refine Zo (Z2 tis fls) ?_ | exact Zc (Z2 tis fls))
  ·intro i hi'
   have hA:=nok_run d i
   have hAl : ((runM d i).map eInt).length = d.rows.length:=by simpa using hA.1
   by_cases hi : i < n
   ·have hrow0 : rowM d (runM d i) 0 = List.replicate d.rows.length 0:=rfl
    have hrunS : runM d (i + 1) = rowM d (runM d i) d.rows.length:=rfl
    generalize runM d i = A at *
    (first | refine Zo (Z5 tis fls @dx @hAl @hrep) ?_ | exact Zc (Z5 tis fls @dx @hAl @hrep))
    refine run_loop (α:=Nat) (fun s => s ≤ d.rows.length) (fun s => [(1,.int .i64 ((n : Int) - i)),(6,.box (.agg [.sl false 1 (d.parts.map (eSpans false)),.sl false 1 (d.rows.map (eInts false)),.sl false 1 (d.acc.map eInt)])),(8,.sl true 1 (A.map eInt)),(9,.sl true 1 ((rowM d A s).map eInt)),(47,.vref 8 []),(48,.int .i64 d.rows.length),(49,.int .i64 s)]) (fun s => d.rows.length - s) 0 (Nat.zero_le _) ?_ ?_
    ·rw [hrow0]
     (first | refine Zo (Z3 tis fls @hAl) ?_ | exact Zc (Z3 tis fls @hAl))
    ·intro s hs'
     have hB:=nok_row d hA s
     by_cases hs : s < d.rows.length
     ·obtain ⟨a1,a2⟩:=int_at A s (by rw [hA.1]; exact hs)
      have ha:=nok_get hA s
      have hrS : rowM d A (s + 1) = colM d s (A.getD s 0) d.parts.length (rowM d A s):=rfl
      generalize A.getD s 0 = a at *
      generalize rowM d A s = B at *
      (first | refine Zo (Z6 tis fls @dx @hAl @a1 @a2) ?_ | exact Zc (Z6 tis fls @dx @hAl @a1 @a2))
      refine run_loop (α:=Nat) (fun k => k ≤ d.parts.length) (fun k => [(1,.int .i64 ((n : Int) - i)),(6,.box (.agg [.sl false 1 (d.parts.map (eSpans false)),.sl false 1 (d.rows.map (eInts false)),.sl false 1 (d.acc.map eInt)])),(8,.sl true 1 (A.map eInt)),(9,.sl true 1 ((colM d s a k B).map eInt)),(10,.int .i64 s),(11,.int .i64 a),(47,.vref 8 []),(48,.int .i64 d.rows.length),(49,.int .i64 s),(55,.sl false 1 (d.parts.map (eSpans false))),(56,.int .i64 d.parts.length),(57,.int .i64 k)]) (fun k => d.parts.length - k) 0 (Nat.zero_le _) ?_ ?_
      ·simp -implicitDefEqProofs (disch:=first | (intros; contradiction) | omega) only [am0,am1,am2,am3,am4,am5,am6,Nat.reduceSub,↓reduceIte,reduceCtorEq,Nat.reduceEqDiff,Nat.reduceBEq,Nat.reduceAdd,Nat.reduceLT,Nat.reduceBNe,Nat.reduceMul,↓reduceIte,tis,fls,colM]
      ·intro k hk'
       have hC:=nok_col d s ha.1 k hB
       by_cases hk : k < d.parts.length
       ·obtain ⟨⟨r1,r2⟩,⟨r3,r4⟩,⟨r5,r6⟩,r7,r8,r9⟩:=dat_at hd hs hk
        have cZ:=fits_setSize (d.parts.getD k []) (by omega)
        have hkS : colM d s a (k + 1) B = addM (glV d s k) a (cntB (d.parts.getD k [])) (colM d s a k B):=rfl
        have hCl : ((colM d s a k B).map eInt).length = d.rows.length:=by simpa using hC.1
        have hm256 : cntB (d.parts.getD k []) ≤ 256:=cntN_le _ _
        have hr7 : ((d.rows.getD s []).map eInt).length = d.parts.length:=by simpa using r7
        generalize cntB (d.parts.getD k []) = m at *
        generalize glV d s k = t at *
        generalize d.parts.getD k [] = p at *
        generalize d.rows.getD s [] = row at *
        generalize colM d s a k B = C at *
        by_cases ht : 0 ≤ t
        ·obtain ⟨u,rfl⟩ : ∃ u : Nat,t = u:=⟨t.toNat,by omega⟩
         obtain ⟨v1,v2⟩:=int_at C u (by rw [hC.1]; omega)
         have hv:=nok_get hC u
         have hmm:=mul_le a m ha hm256
         have hset:=set_int C u (mnI 1000000 (C.getD u 0 + a * m))
         unfold addM cap at hkS
         rw [if_pos ht,Int.toNat_natCast] at hkS
         generalize C.getD u 0 = c at *
         have hge : (u : Int) ≥ 0:=ht
         (repeat (first | refine Zo (Z16 tis fls @dx @r1 @r2 @r3 @r4 @r5 @r6 @hr7 @r7 @hCl @v1 @v2 @hset Zi) ?_ | refine .inl ⟨by kernel_rfl,?_⟩ | exact .inl (by show _ = _; kernel_rfl) | exact Zc (Z16 tis fls @dx @r1 @r2 @r3 @r4 @r5 @r6 @hr7 @r7 @hCl @v1 @v2 @hset Zi)); try ((first | refine callL cZ ?_ | refine callB cZ ?_); repeat (first | refine Zo (Z16 tis fls @dx @r1 @r2 @r3 @r4 @r5 @r6 @hr7 @r7 @hCl @v1 @v2 @hset Zi) ?_ | refine .inl ⟨by kernel_rfl,?_⟩ | exact .inl (by show _ = _; kernel_rfl) | exact Zc (Z16 tis fls @dx @r1 @r2 @r3 @r4 @r5 @r6 @hr7 @r7 @hCl @v1 @v2 @hset Zi))))
         refine round_normal (k + 1) (by omega) ?_ (by show d.parts.length - (k + 1) < d.parts.length - k; omega)
         rw [hkS]
         (first | refine Zo tis ?_ | exact Zc tis)
        ·unfold addM at hkS
         rw [if_neg ht] at hkS
         (repeat (first | refine Zo (Z13 tis fls @dx @r1 @r2 @r3 @r4 @r5 @r6 @hr7 @r7 @ht Zi) ?_ | refine .inl ⟨by kernel_rfl,?_⟩ | exact .inl (by show _ = _; kernel_rfl) | exact Zc (Z13 tis fls @dx @r1 @r2 @r3 @r4 @r5 @r6 @hr7 @r7 @ht Zi)))
         refine round_normal (k + 1) (by omega) ?_ (by show d.parts.length - (k + 1) < d.parts.length - k; omega)
         rw [hkS]
         (first | refine Zo tis ?_ | exact Zc tis)
       ·obtain rfl : k = d.parts.length:=by omega
        (first | refine Zo (Z2 tis fls) ?_ | exact Zc (Z2 tis fls))
        refine round_normal (s + 1) (by omega) ?_ (by show d.rows.length - (s + 1) < d.rows.length - s; omega)
        rw [hrS]
        (first | refine Zo tis ?_ | exact Zc tis)
     ·obtain rfl : s = d.rows.length:=by omega
      (repeat (first | refine Zo (Z3 tis fls Zi) ?_ | refine .inl ⟨by kernel_rfl,?_⟩ | exact .inl (by show _ = _; kernel_rfl) | exact Zc (Z3 tis fls Zi)))
      refine round_normal (i + 1) (by omega) ?_ (by show n - (i + 1) < n - i; omega)
      have e : (n : Int) - i - 1 = (n : Int) - (i + 1 : Nat):=by omega
      rw [hrunS,← e]
      (first | refine Zo tis ?_ | exact Zc tis)
   ·obtain rfl : i = n:=by omega
    have hsm:=fun s => sum_ok d hA s
    have hacl : (d.acc.map eInt).length = d.rows.length:=by simpa using hd.a
    generalize hAe : runM d i = A at *
    have hsmS : ∀ s,sumM d A (s + 1) = if 0 ≤ acV d s then cap (sumM d A s + A.getD s 0) else sumM d A s:=fun s => rfl
    (first | refine Zo (Z3 tis fls @hAl) ?_ | exact Zc (Z3 tis fls @hAl))
    refine run_loop (α:=Nat) (fun s => s ≤ d.rows.length) (fun s => [(6,.box (.agg [.sl false 1 (d.parts.map (eSpans false)),.sl false 1 (d.rows.map (eInts false)),.sl false 1 (d.acc.map eInt)])),(8,.sl true 1 (A.map eInt)),(15,.int .i64 (sumM d A s)),(88,.vref 8 []),(89,.int .i64 d.rows.length),(90,.int .i64 s)]) (fun s => d.rows.length - s) 0 (Nat.zero_le _) ?_ ?_
    ·simp -implicitDefEqProofs (disch:=first | (intros; contradiction) | omega) only [am0,am1,am2,am3,am4,am5,am6,Nat.reduceSub,↓reduceIte,reduceCtorEq,Nat.reduceEqDiff,Nat.reduceBEq,Nat.reduceAdd,Nat.reduceLT,Nat.reduceBNe,Nat.reduceMul,↓reduceIte,tis,fls,hAl,sumM]
    ·intro s hs'
     have h0:=hsm s
     by_cases hs : s < d.rows.length
     ·obtain ⟨a1,a2⟩:=int_at A s (by rw [hA.1]; exact hs)
      obtain ⟨c1,c2⟩:=int_at d.acc s (by rw [hd.a]; exact hs)
      have ha:=nok_get hA s
      have hS:=hsmS s
      have ev : acV d s = d.acc.getD s 0:=rfl
      rw [ev] at hS
      generalize d.acc.getD s 0 = ac at *
      generalize A.getD s 0 = a at *
      generalize sumM d A s = z at *
      by_cases hac : 0 ≤ ac
      ·rw [if_pos hac] at hS
       unfold cap at hS
       (repeat (first | refine Zo (Z11 tis fls @dx @hAl @hacl @a1 @a2 @c1 @c2 @hac Zi) ?_ | refine .inl ⟨by kernel_rfl,?_⟩ | exact .inl (by show _ = _; kernel_rfl) | exact Zc (Z11 tis fls @dx @hAl @hacl @a1 @a2 @c1 @c2 @hac Zi)))
       refine round_normal (s + 1) (by omega) ?_ (by show d.rows.length - (s + 1) < d.rows.length - s; omega)
       rw [hS]
       (first | refine Zo tis ?_ | exact Zc tis)
      ·rw [if_neg hac] at hS
       (repeat (first | refine Zo (Z11 tis fls @dx @hAl @hacl @a1 @a2 @c1 @c2 @hac Zi) ?_ | refine .inl ⟨by kernel_rfl,?_⟩ | exact .inl (by show _ = _; kernel_rfl) | exact Zc (Z11 tis fls @dx @hAl @hacl @a1 @a2 @c1 @c2 @hac Zi)))
       refine round_normal (s + 1) (by omega) ?_ (by show d.rows.length - (s + 1) < d.rows.length - s; omega)
       rw [hS]
       (first | refine Zo tis ?_ | exact Zc tis)
     ·obtain rfl : s = d.rows.length:=by omega
      (repeat (first | refine Zo (Z4 tis fls @retW2 Zi) ?_ | refine .inl ⟨by kernel_rfl,?_⟩ | exact .inl (by show _ = _; kernel_rfl) | exact Zc (Z4 tis fls @retW2 Zi)))
theorem fits_sAskMany (r : Rex) (hb : bd r ≤ 1048576) (m : Int) : Fits prog 25 [eRex false r,.int .i64 m] (.tup [.int .i64 (manyR r m).1,.bool (manyR r m).2]) []:=by
 have cR:=fits_sRexOk r hb
 rw [eRex_eq] at cR ⊢
 by_cases hr : rexB r = true
 case neg =>
  have e : manyR r m = (0,false):=by unfold manyR; rw [if_neg (fun h => hr h.1)]
  have hr2 : rexB r = false:=by simpa using hr
  rw [e]; rw [hr2] at cR
  refine fits_of_code [4,5] [] [0,1,2,4,5,6,7,8,9,10,11,12,13,14,15,26,33,42,53,60,72,99,107] func25 rfl rfl rfl (by rfl) (by show 2 ≤ 116; decide) (by rfl) (by rfl) (by show 0 ≤ 2; decide) (by rfl) (run_of ?_)
  (repeat (first | refine Zo (Z5 tis rx fls @retW2 Zi) ?_ | refine .inl ⟨by kernel_rfl,?_⟩ | exact .inl (by show _ = _; kernel_rfl) | exact Zc (Z5 tis rx fls @retW2 Zi)); try ((first | refine callL cR ?_ | refine callB cR ?_); repeat (first | refine Zo (Z5 tis rx fls @retW2 Zi) ?_ | refine .inl ⟨by kernel_rfl,?_⟩ | exact .inl (by show _ = _; kernel_rfl) | exact Zc (Z5 tis rx fls @retW2 Zi))))
 rw [hr] at cR
 by_cases hm : 0 ≤ m ∧ m ≤ 12
 case neg =>
  have e : manyR r m = (0,false):=by unfold manyR; rw [if_neg (fun h => hm h.2)]
  rw [e]
  by_cases h1 : m < 0
  ·refine fits_of_code [4,5] [] [0,1,2,4,5,6,7,8,9,10,11,12,13,14,15,26,33,42,53,60,72,99,107] func25 rfl rfl rfl (by rfl) (by show 2 ≤ 116; decide) (by rfl) (by rfl) (by show 0 ≤ 2; decide) (by rfl) (run_of ?_)
   (repeat (first | refine Zo (Z6 tis rx fls @retW2 @h1 Zi) ?_ | refine .inl ⟨by kernel_rfl,?_⟩ | exact .inl (by show _ = _; kernel_rfl) | exact Zc (Z6 tis rx fls @retW2 @h1 Zi)); try ((first | refine callL cR ?_ | refine callB cR ?_); repeat (first | refine Zo (Z6 tis rx fls @retW2 @h1 Zi) ?_ | refine .inl ⟨by kernel_rfl,?_⟩ | exact .inl (by show _ = _; kernel_rfl) | exact Zc (Z6 tis rx fls @retW2 @h1 Zi))))
  ·have h2 : (12 : Int) < m:=by omega
   refine fits_of_code [4,5] [] [0,1,2,4,5,6,7,8,9,10,11,12,13,14,15,26,33,42,53,60,72,99,107] func25 rfl rfl rfl (by rfl) (by show 2 ≤ 116; decide) (by rfl) (by rfl) (by show 0 ≤ 2; decide) (by rfl) (run_of ?_)
   (repeat (first | refine Zo (Z7 tis rx fls @retW2 @h1 @h2 Zi) ?_ | refine .inl ⟨by kernel_rfl,?_⟩ | exact .inl (by show _ = _; kernel_rfl) | exact Zc (Z7 tis rx fls @retW2 @h1 @h2 Zi)); try ((first | refine callL cR ?_ | refine callB cR ?_); repeat (first | refine Zo (Z7 tis rx fls @retW2 @h1 @h2 Zi) ?_ | refine .inl ⟨by kernel_rfl,?_⟩ | exact .inl (by show _ = _; kernel_rfl) | exact Zc (Z7 tis rx fls @retW2 @h1 @h2 Zi))))
 have hm1 : ¬ m < 0:=by omega
 have hm2 : ¬ (12 : Int) < m:=by omega
 have cM:=fits_l12Dfa r hr
 rw [eRex_eq] at cM
 have eM : manyR r m = match machR r with | none => (0,false) | some d => (sumM d (runM d m.toNat) d.rows.length,true):=by unfold manyR; rw [if_pos ⟨hr,hm⟩] <;> (cases machR r <;> rfl)
 cases hM : machR r with
 | none =>
  rw [hM] at eM cM
  simp only at eM
  rw [eM]
  simp only [Option.getD_none,Option.isSome_none] at cM
  generalize zDfa = D at *
  unfold eDfa at cM
  refine fits_of_code [4,5] [] [0,1,2,4,5,6,7,8,9,10,11,12,13,14,15,26,33,42,53,60,72,99,107] func25 rfl rfl rfl (by rfl) (by show 2 ≤ 116; decide) (by rfl) (by rfl) (by show 0 ≤ 2; decide) (by rfl) (run_of ?_)
  (repeat (first | refine Zo (Z10 tis rx fls @dx @retW2 @ex_eq @exGo_tup @hm1 @hm2 Zi) ?_ | refine .inl ⟨by kernel_rfl,?_⟩ | exact .inl (by show _ = _; kernel_rfl) | exact Zc (Z10 tis rx fls @dx @retW2 @ex_eq @exGo_tup @hm1 @hm2 Zi)); try ((first | refine callL cR ?_ | refine callB cR ?_); repeat (first | refine Zo (Z10 tis rx fls @dx @retW2 @ex_eq @exGo_tup @hm1 @hm2 Zi) ?_ | refine .inl ⟨by kernel_rfl,?_⟩ | exact .inl (by show _ = _; kernel_rfl) | exact Zc (Z10 tis rx fls @dx @retW2 @ex_eq @exGo_tup @hm1 @hm2 Zi))); try ((first | refine callL cM ?_ | refine callB cM ?_); repeat (first | refine Zo (Z10 tis rx fls @dx @retW2 @ex_eq @exGo_tup @hm1 @hm2 Zi) ?_ | refine .inl ⟨by kernel_rfl,?_⟩ | exact .inl (by show _ = _; kernel_rfl) | exact Zc (Z10 tis rx fls @dx @retW2 @ex_eq @exGo_tup @hm1 @hm2 Zi))))
 | some d =>
  have hd:=(machR_ok hM).1
  rw [hM] at eM cM
  simp only at eM
  rw [eM]
  simp only [Option.getD_some,Option.isSome_some] at cM
  unfold eDfa at cM
  clear eM
  obtain ⟨n,rfl⟩ : ∃ n : Nat,m = n:=⟨m.toNat,by omega⟩
  rw [Int.toNat_natCast]
  have hn:=hd.n
  have hpos:=hd.pos
  have hpl:=hd.p
  have hR0 : ((List.replicate d.rows.length (0 : Int)).map eInt).set 0 (.int .i64 1) = (runM d 0).map eInt:=by rw [set_int]; rfl
  obtain ⟨z1,z2⟩:=int_at (List.replicate d.rows.length 0) 0 (by simpa using hpos)
  have zl : ((List.replicate d.rows.length (0 : Int)).map eInt).length = d.rows.length:=by simp
  have hrep:=rep_int d.rows.length
  have hrow0 : (List.replicate d.rows.length (0 : Int)) = rowM d [] 0:=rfl
  refine fits_of_code [4,5] [] [0,1,2,4,5,6,7,8,9,10,11,12,13,14,15,26,33,42,53,60,72,99,107] func25 rfl rfl rfl (by rfl) (by show 2 ≤ 116; decide) (by rfl) (by rfl) (by show 0 ≤ 2; decide) (by rfl) (run_of ?_)
  (repeat (first | refine Zo (Z14 tis rx fls @dx @ex_eq @exGo_tup @hrep @z1 @z2 @zl @hR0 @hm1 @hm2 Zi) ?_ | refine .inl ⟨by kernel_rfl,?_⟩ | exact .inl (by show _ = _; kernel_rfl) | exact Zc (Z14 tis rx fls @dx @ex_eq @exGo_tup @hrep @z1 @z2 @zl @hR0 @hm1 @hm2 Zi)); try ((first | refine callL cR ?_ | refine callB cR ?_); repeat (first | refine Zo (Z14 tis rx fls @dx @ex_eq @exGo_tup @hrep @z1 @z2 @zl @hR0 @hm1 @hm2 Zi) ?_ | refine .inl ⟨by kernel_rfl,?_⟩ | exact .inl (by show _ = _; kernel_rfl) | exact Zc (Z14 tis rx fls @dx @ex_eq @exGo_tup @hrep @z1 @z2 @zl @hR0 @hm1 @hm2 Zi))); try ((first | refine callL cM ?_ | refine callB cM ?_); repeat (first | refine Zo (Z14 tis rx fls @dx @ex_eq @exGo_tup @hrep @z1 @z2 @zl @hR0 @hm1 @hm2 Zi) ?_ | refine .inl ⟨by kernel_rfl,?_⟩ | exact .inl (by show _ = _; kernel_rfl) | exact Zc (Z14 tis rx fls @dx @ex_eq @exGo_tup @hrep @z1 @z2 @zl @hR0 @hm1 @hm2 Zi))))
  refine run_loop (α:=Nat) (fun i => i ≤ n) (fun i => [(1,.int .i64 n),(6,.box (.agg [.sl false 1 (d.parts.map (eSpans false)),.sl false 1 (d.rows.map (eInts false)),.sl false 1 (d.acc.map eInt)])),(8,.sl true 1 ((runM d i).map eInt)),(9,.int .i64 i)]) (fun i => n - i) 0 (Nat.zero_le _) ?_ ?_
  ·(first | refine Zo (Z2 tis fls) ?_ | exact Zc (Z2 tis fls))
  ·intro i hi'
   have hA:=nok_run d i
   have hAl : ((runM d i).map eInt).length = d.rows.length:=by simpa using hA.1
   by_cases hi : i < n
   ·have hrow0 : rowM d (runM d i) 0 = List.replicate d.rows.length 0:=rfl
    have hrunS : runM d (i + 1) = rowM d (runM d i) d.rows.length:=rfl
    generalize runM d i = A at *
    (first | refine Zo (Z5 tis fls @dx @hAl @hrep) ?_ | exact Zc (Z5 tis fls @dx @hAl @hrep))
    refine run_loop (α:=Nat) (fun s => s ≤ d.rows.length) (fun s => [(1,.int .i64 n),(6,.box (.agg [.sl false 1 (d.parts.map (eSpans false)),.sl false 1 (d.rows.map (eInts false)),.sl false 1 (d.acc.map eInt)])),(8,.sl true 1 (A.map eInt)),(9,.int .i64 i),(10,.sl true 1 ((rowM d A s).map eInt)),(11,.int .i64 s)]) (fun s => d.rows.length - s) 0 (Nat.zero_le _) ?_ ?_
    ·rw [hrow0]
     (first | refine Zo (Z3 tis fls @hAl) ?_ | exact Zc (Z3 tis fls @hAl))
    ·intro s hs'
     have hB:=nok_row d hA s
     by_cases hs : s < d.rows.length
     ·obtain ⟨a1,a2⟩:=int_at A s (by rw [hA.1]; exact hs)
      have hAl2 : A.length = d.rows.length:=hA.1
      have ha:=nok_get hA s
      have hrS : rowM d A (s + 1) = colM d s (A.getD s 0) d.parts.length (rowM d A s):=rfl
      generalize A.getD s 0 = a at *
      generalize rowM d A s = B at *
      (first | refine Zo (Z6 tis fls @dx @hAl @a1 @a2) ?_ | exact Zc (Z6 tis fls @dx @hAl @a1 @a2))
      refine run_loop (α:=Nat) (fun k => k ≤ d.parts.length) (fun k => [(1,.int .i64 n),(6,.box (.agg [.sl false 1 (d.parts.map (eSpans false)),.sl false 1 (d.rows.map (eInts false)),.sl false 1 (d.acc.map eInt)])),(8,.sl true 1 (A.map eInt)),(9,.int .i64 i),(10,.sl true 1 ((colM d s a k B).map eInt)),(11,.int .i64 s),(12,.int .i64 k)]) (fun k => d.parts.length - k) 0 (Nat.zero_le _) ?_ ?_
      ·simp -implicitDefEqProofs (disch:=first | (intros; contradiction) | omega) only [am0,am1,am2,am3,am4,am5,am6,Nat.reduceSub,↓reduceIte,reduceCtorEq,Nat.reduceEqDiff,Nat.reduceBEq,Nat.reduceAdd,Nat.reduceLT,Nat.reduceBNe,Nat.reduceMul,↓reduceIte,tis,fls,colM]
      ·intro k hk'
       have hC:=nok_col d s ha.1 k hB
       by_cases hk : k < d.parts.length
       ·obtain ⟨⟨r1,r2⟩,⟨r3,r4⟩,⟨r5,r6⟩,r7,r8,r9⟩:=dat_at hd hs hk
        have cZ:=fits_sSetSize (d.parts.getD k []) (by omega)
        have hkS : colM d s a (k + 1) B = addM (glV d s k) a (cntB (d.parts.getD k [])) (colM d s a k B):=rfl
        have hCl : ((colM d s a k B).map eInt).length = d.rows.length:=by simpa using hC.1
        have hm256 : cntB (d.parts.getD k []) ≤ 256:=cntN_le _ _
        have hr7 : ((d.rows.getD s []).map eInt).length = d.parts.length:=by simpa using r7
        generalize cntB (d.parts.getD k []) = m at *
        generalize glV d s k = t at *
        generalize d.parts.getD k [] = p at *
        generalize d.rows.getD s [] = row at *
        generalize colM d s a k B = C at *
        by_cases ht : 0 ≤ t
        ·obtain ⟨u,rfl⟩ : ∃ u : Nat,t = u:=⟨t.toNat,by omega⟩
         obtain ⟨v1,v2⟩:=int_at C u (by rw [hC.1]; omega)
         have hv:=nok_get hC u
         have hmm:=mul_le a m ha hm256
         have hset:=set_int C u (mnI 1000000 (C.getD u 0 + a * m))
         unfold addM at hkS
         rw [if_pos ht,Int.toNat_natCast] at hkS
         generalize C.getD u 0 = c at *
         have c1:=fits_l1Min 1000000 (a * m)
         have c2:=fits_l1Min 1000000 (c + cap (a * m))
         rw [cap_if] at c1 c2
         have hc2:=cap_0 hmm.1
         have hc3:=cap_le (a * m)
         rw [cap_cap hv.1] at c2
         have hset2 : (C.map eInt).set u (.int .i64 (cap (c + a * m))) = (C.set u (cap (c + a * m))).map eInt:=hset
         generalize cap (a * m) = am at *
         (repeat (first | refine Zo (Z16 tis fls @r1 @r2 @r3 @r4 @r5 @r6 @hr7 @a1 @a2 @hCl @v1 @v2 @hset2 Zi) ?_ | refine .inl ⟨by kernel_rfl,?_⟩ | exact .inl (by show _ = _; kernel_rfl) | exact Zc (Z16 tis fls @r1 @r2 @r3 @r4 @r5 @r6 @hr7 @a1 @a2 @hCl @v1 @v2 @hset2 Zi)); try ((first | refine callL cZ ?_ | refine callB cZ ?_); repeat (first | refine Zo (Z16 tis fls @r1 @r2 @r3 @r4 @r5 @r6 @hr7 @a1 @a2 @hCl @v1 @v2 @hset2 Zi) ?_ | refine .inl ⟨by kernel_rfl,?_⟩ | exact .inl (by show _ = _; kernel_rfl) | exact Zc (Z16 tis fls @r1 @r2 @r3 @r4 @r5 @r6 @hr7 @a1 @a2 @hCl @v1 @v2 @hset2 Zi))); try ((first | refine callL c1 ?_ | refine callB c1 ?_); repeat (first | refine Zo (Z16 tis fls @r1 @r2 @r3 @r4 @r5 @r6 @hr7 @a1 @a2 @hCl @v1 @v2 @hset2 Zi) ?_ | refine .inl ⟨by kernel_rfl,?_⟩ | exact .inl (by show _ = _; kernel_rfl) | exact Zc (Z16 tis fls @r1 @r2 @r3 @r4 @r5 @r6 @hr7 @a1 @a2 @hCl @v1 @v2 @hset2 Zi))); try ((first | refine callL c2 ?_ | refine callB c2 ?_); repeat (first | refine Zo (Z16 tis fls @r1 @r2 @r3 @r4 @r5 @r6 @hr7 @a1 @a2 @hCl @v1 @v2 @hset2 Zi) ?_ | refine .inl ⟨by kernel_rfl,?_⟩ | exact .inl (by show _ = _; kernel_rfl) | exact Zc (Z16 tis fls @r1 @r2 @r3 @r4 @r5 @r6 @hr7 @a1 @a2 @hCl @v1 @v2 @hset2 Zi))))
         refine round_normal (k + 1) (by omega) ?_ (by show d.parts.length - (k + 1) < d.parts.length - k; omega)
         rw [hkS]
         (first | refine Zo tis ?_ | exact Zc tis)
        ·unfold addM at hkS
         rw [if_neg ht] at hkS
         (repeat (first | refine Zo (Z13 tis fls @dx @r1 @r2 @r3 @r4 @r5 @r6 @hr7 @r7 @ht Zi) ?_ | refine .inl ⟨by kernel_rfl,?_⟩ | exact .inl (by show _ = _; kernel_rfl) | exact Zc (Z13 tis fls @dx @r1 @r2 @r3 @r4 @r5 @r6 @hr7 @r7 @ht Zi)))
         refine round_normal (k + 1) (by omega) ?_ (by show d.parts.length - (k + 1) < d.parts.length - k; omega)
         rw [hkS]
         (first | refine Zo tis ?_ | exact Zc tis)
       ·obtain rfl : k = d.parts.length:=by omega
        (first | refine Zo (Z2 tis fls) ?_ | exact Zc (Z2 tis fls))
        refine round_normal (s + 1) (by omega) ?_ (by show d.rows.length - (s + 1) < d.rows.length - s; omega)
        rw [hrS]
        (first | refine Zo tis ?_ | exact Zc tis)
     ·obtain rfl : s = d.rows.length:=by omega
      (repeat (first | refine Zo (Z3 tis fls Zi) ?_ | refine .inl ⟨by kernel_rfl,?_⟩ | exact .inl (by show _ = _; kernel_rfl) | exact Zc (Z3 tis fls Zi)))
      refine round_normal (i + 1) (by omega) ?_ (by show n - (i + 1) < n - i; omega)
      rw [hrunS]
      (first | refine Zo tis ?_ | exact Zc tis)
   ·obtain rfl : i = n:=by omega
    have hsm:=fun s => sum_ok d hA s
    have hacl : (d.acc.map eInt).length = d.rows.length:=by simpa using hd.a
    generalize hAe : runM d i = A at *
    have hsmS : ∀ s,sumM d A (s + 1) = if 0 ≤ acV d s then cap (sumM d A s + A.getD s 0) else sumM d A s:=fun s => rfl
    (first | refine Zo (Z3 tis fls @hAl) ?_ | exact Zc (Z3 tis fls @hAl))
    refine run_loop (α:=Nat) (fun s => s ≤ d.rows.length) (fun s => [(6,.box (.agg [.sl false 1 (d.parts.map (eSpans false)),.sl false 1 (d.rows.map (eInts false)),.sl false 1 (d.acc.map eInt)])),(8,.sl true 1 (A.map eInt)),(14,.int .i64 (sumM d A s)),(15,.int .i64 s)]) (fun s => d.rows.length - s) 0 (Nat.zero_le _) ?_ ?_
    ·simp -implicitDefEqProofs (disch:=first | (intros; contradiction) | omega) only [am0,am1,am2,am3,am4,am5,am6,Nat.reduceSub,↓reduceIte,reduceCtorEq,Nat.reduceEqDiff,Nat.reduceBEq,Nat.reduceAdd,Nat.reduceLT,Nat.reduceBNe,Nat.reduceMul,↓reduceIte,tis,fls,hAl,sumM]
    ·intro s hs'
     have h0:=hsm s
     by_cases hs : s < d.rows.length
     ·obtain ⟨a1,a2⟩:=int_at A s (by rw [hA.1]; exact hs)
      obtain ⟨c1,c2⟩:=int_at d.acc s (by rw [hd.a]; exact hs)
      have ha:=nok_get hA s
      have hS:=hsmS s
      have ev : acV d s = d.acc.getD s 0:=rfl
      rw [ev] at hS
      generalize d.acc.getD s 0 = ac at *
      generalize A.getD s 0 = a at *
      generalize sumM d A s = z at *
      by_cases hac : 0 ≤ ac
      ·rw [if_pos hac] at hS
       have cZ:=fits_l1Min 1000000 (z + a)
       rw [cap_if] at cZ
       (repeat (first | refine Zo (Z11 tis fls @dx @hAl @hacl @a1 @a2 @c1 @c2 @hac Zi) ?_ | refine .inl ⟨by kernel_rfl,?_⟩ | exact .inl (by show _ = _; kernel_rfl) | exact Zc (Z11 tis fls @dx @hAl @hacl @a1 @a2 @c1 @c2 @hac Zi)); try ((first | refine callL cZ ?_ | refine callB cZ ?_); repeat (first | refine Zo (Z11 tis fls @dx @hAl @hacl @a1 @a2 @c1 @c2 @hac Zi) ?_ | refine .inl ⟨by kernel_rfl,?_⟩ | exact .inl (by show _ = _; kernel_rfl) | exact Zc (Z11 tis fls @dx @hAl @hacl @a1 @a2 @c1 @c2 @hac Zi))))
       refine round_normal (s + 1) (by omega) ?_ (by show d.rows.length - (s + 1) < d.rows.length - s; omega)
       rw [hS]
       (first | refine Zo tis ?_ | exact Zc tis)
      ·rw [if_neg hac] at hS
       (repeat (first | refine Zo (Z11 tis fls @dx @hAl @hacl @a1 @a2 @c1 @c2 @hac Zi) ?_ | refine .inl ⟨by kernel_rfl,?_⟩ | exact .inl (by show _ = _; kernel_rfl) | exact Zc (Z11 tis fls @dx @hAl @hacl @a1 @a2 @c1 @c2 @hac Zi)))
       refine round_normal (s + 1) (by omega) ?_ (by show d.rows.length - (s + 1) < d.rows.length - s; omega)
       rw [hS]
       (first | refine Zo tis ?_ | exact Zc tis)
     ·obtain rfl : s = d.rows.length:=by omega
      (repeat (first | refine Zo (Z4 tis fls @retW2 Zi) ?_ | refine .inl ⟨by kernel_rfl,?_⟩ | exact .inl (by show _ = _; kernel_rfl) | exact Zc (Z4 tis fls @retW2 Zi)))
section
variable {h h' : Array Obj} {S : Nat → Prop}
end

theorem szR_ok2 {n : Int} {b : Nat} (h : ¬ (if n - b < 0 then (-1 : Int) else n - b) < 0) : (b : Int) ≤ n:=by
 split at h <;> omega
theorem law_AskMany (r : Rex) (hl : Lens r) (m : Int) (_ : -9223372036854775808 ≤ m) (_ : m ≤ 9223372036854775807) : Fits prog 6 [eRex false r,.int .i64 m] (.bool true) []:=by
 have cZ:=fits_szRex r 1048576 hl (by omega) (by omega)
 by_cases h : (if (1048576 : Int) - bd r < 0 then (-1 : Int) else 1048576 - bd r) < 0
 ·rw [eRex_eq] at *
  refine fits_of_code [4] [] [0,1,2,4,5,6,7,8,9,10,15,38,43] func6 rfl rfl rfl (by rfl) (by show 2 ≤ 44; decide) (by rfl) (by rfl) (by show 0 ≤ 2; decide) (by rfl) (run_of ?_)
  (repeat (first | refine Zo (Z3 tis @h Zi) ?_ | refine .inl ⟨by kernel_rfl,?_⟩ | exact .inl (by show _ = _; kernel_rfl) | exact Zc (Z3 tis @h Zi)); try ((first | refine callL cZ ?_ | refine callB cZ ?_); repeat (first | refine Zo (Z3 tis @h Zi) ?_ | refine .inl ⟨by kernel_rfl,?_⟩ | exact .inl (by show _ = _; kernel_rfl) | exact Zc (Z3 tis @h Zi))))
 have hb:=szR_ok2 h
 have hb : bd r ≤ 1048576:=by omega
 have hbb:=bd_eq r
 have hc1:=ctL_le r.kids
 have cI:=fits_toRex r hb
 have cO:=fits_sAskMany r hb m
 have cP:=fits_askMany r hb m
 have cL:=fits_eqRex r hb
 generalize (manyR r m).1 = g at *
 generalize (manyR r m).2 = B at *
 simp only [eRex_eq] at *
 refine fits_of_code [4] [] [0,1,2,4,5,6,7,8,9,10,15,38,43] func6 rfl rfl rfl (by rfl) (by show 2 ≤ 44; decide) (by rfl) (by rfl) (by show 0 ≤ 2; decide) (by rfl) (run_of ?_)
 (repeat (first | refine Zo (Z7 tis @h fls rx @ex_eq @exGo_tup Zi) ?_ | refine .inl ⟨by kernel_rfl,?_⟩ | exact .inl (by show _ = _; kernel_rfl) | exact Zc (Z7 tis @h fls rx @ex_eq @exGo_tup Zi)); try ((first | refine callL cZ ?_ | refine callB cZ ?_); repeat (first | refine Zo (Z7 tis @h fls rx @ex_eq @exGo_tup Zi) ?_ | refine .inl ⟨by kernel_rfl,?_⟩ | exact .inl (by show _ = _; kernel_rfl) | exact Zc (Z7 tis @h fls rx @ex_eq @exGo_tup Zi))); try ((first | refine callL cI ?_ | refine callB cI ?_); repeat (first | refine Zo (Z7 tis @h fls rx @ex_eq @exGo_tup Zi) ?_ | refine .inl ⟨by kernel_rfl,?_⟩ | exact .inl (by show _ = _; kernel_rfl) | exact Zc (Z7 tis @h fls rx @ex_eq @exGo_tup Zi))); try ((first | refine callL cO ?_ | refine callB cO ?_); repeat (first | refine Zo (Z7 tis @h fls rx @ex_eq @exGo_tup Zi) ?_ | refine .inl ⟨by kernel_rfl,?_⟩ | exact .inl (by show _ = _; kernel_rfl) | exact Zc (Z7 tis @h fls rx @ex_eq @exGo_tup Zi))); try ((first | refine callL cI ?_ | refine callB cI ?_); repeat (first | refine Zo (Z7 tis @h fls rx @ex_eq @exGo_tup Zi) ?_ | refine .inl ⟨by kernel_rfl,?_⟩ | exact .inl (by show _ = _; kernel_rfl) | exact Zc (Z7 tis @h fls rx @ex_eq @exGo_tup Zi))); try ((first | refine callL cP ?_ | refine callB cP ?_); repeat (first | refine Zo (Z7 tis @h fls rx @ex_eq @exGo_tup Zi) ?_ | refine .inl ⟨by kernel_rfl,?_⟩ | exact .inl (by show _ = _; kernel_rfl) | exact Zc (Z7 tis @h fls rx @ex_eq @exGo_tup Zi))); try ((first | refine callL cI ?_ | refine callB cI ?_); repeat (first | refine Zo (Z7 tis @h fls rx @ex_eq @exGo_tup Zi) ?_ | refine .inl ⟨by kernel_rfl,?_⟩ | exact .inl (by show _ = _; kernel_rfl) | exact Zc (Z7 tis @h fls rx @ex_eq @exGo_tup Zi))); try ((first | refine callL cL ?_ | refine callB cL ?_); repeat (first | refine Zo (Z7 tis @h fls rx @ex_eq @exGo_tup Zi) ?_ | refine .inl ⟨by kernel_rfl,?_⟩ | exact .inl (by show _ = _; kernel_rfl) | exact Zc (Z7 tis @h fls rx @ex_eq @exGo_tup Zi))))
theorem own : ownKnob prog.godebug = none:=by kernel_rfl
theorem laidOut : laidOutB prog = true:=by kernel_rfl
theorem typ_int {n : Nat} {x : AV} (h : Typed prog n 3 x) : ∃ v,x = .int .i64 v ∧ -9223372036854775808 ≤ v ∧ v ≤ 9223372036854775807:=by
 cases n with
 | zero => exact h.elim
 | succ n =>
  simp only [Typed,underlying3] at h
  obtain ⟨v,rfl,hw⟩:=h
  refine ⟨v,rfl,?_⟩
  simp [Lit.wf,IntKind.min,IntKind.max,IntKind.bits,IntKind.signed] at hw
  omega
theorem all_map {α : Type} (f : α → AV) : ∀ xs : List AV,(∀ y ∈ xs,∃ i,y = f i) → ∃ is : List α,xs = is.map f
 | [],_ => ⟨[],rfl⟩
 | y :: r,h => by
  obtain ⟨i,rfl⟩:=h y (List.mem_cons_self ..)
  obtain ⟨is,rfl⟩:=all_map f r (fun z hz => h z (List.mem_cons_of_mem _ hz))
  exact ⟨i :: is,rfl⟩
theorem co_span : prog.cellsOf 84 = 2:=by kernel_rfl
theorem co_rex : prog.cellsOf 25 = 3:=by kernel_rfl
theorem typ_span {n : Nat} {x : AV} (h : Typed prog n 84 x) : ∃ i,x = eSpan i:=by
 cases n with
 | zero => exact h.elim
 | succ n =>
  simp only [Typed,underlying84] at h
  obtain ⟨ys,rfl,hl,hf⟩:=h
  match ys,hl,hf with
  | [a,b],_,hf =>
   obtain ⟨a',rfl,_⟩:=typ_int (hf 0 _ a rfl rfl)
   obtain ⟨b',rfl,_⟩:=typ_int (hf 1 _ b rfl rfl)
   exact ⟨⟨a',b'⟩,rfl⟩
theorem typ_spans {n : Nat} {x : AV} (h : Typed prog n 22 x) : ∃ p : List Span,x = .sl false 2 (p.map eSpan) ∧ p.length ≤ 9223372036854775807:=by
 cases n with
 | zero => exact h.elim
 | succ n =>
  simp only [Typed,underlying22,co_span] at h
  obtain ⟨xs,rfl,hl,hf⟩:=h
  obtain ⟨p,rfl⟩:=all_map eSpan xs (fun y hy => typ_span (hf y hy))
  exact ⟨p,rfl,by simpa [maxLen] using hl⟩
theorem all_mapP {α : Type} (f : α → AV) (Q : α → Prop) : ∀ xs : List AV,(∀ y ∈ xs,∃ i,y = f i ∧ Q i) → ∃ is : List α,xs = is.map f ∧ ∀ i ∈ is,Q i
 | [],_ => ⟨[],rfl,by simp⟩
 | y :: r,h => by
  obtain ⟨i,rfl,hi⟩:=h y (List.mem_cons_self ..)
  obtain ⟨is,rfl,hr⟩:=all_mapP f Q r (fun z hz => h z (List.mem_cons_of_mem _ hz))
  exact ⟨i :: is,rfl,fun j hj => (List.mem_cons.1 hj).elim (fun e => e ▸ hi) (hr j)⟩
theorem typ_rex : ∀ {n : Nat} {x : AV},Typed prog n 25 x → ∃ r,x = eRex false r ∧ Lens r
 | 0,x,h => h.elim
 | n + 1,x,h => by
  simp only [Typed,underlying25] at h
  obtain ⟨ys,rfl,hl,hf⟩:=h
  match ys,hl,hf with
  | [a,b,c],_,hf =>
   obtain ⟨k,rfl,_⟩:=typ_int (hf 0 _ a rfl rfl)
   obtain ⟨s,rfl,hs⟩:=typ_spans (hf 1 _ b rfl rfl)
   have hc:=hf 2 _ c rfl rfl
   cases n with
   | zero => exact hc.elim
   | succ n =>
    simp only [Typed,underlying23,co_rex] at hc
    obtain ⟨xs,rfl,hl2,hf2⟩:=hc
    obtain ⟨p,rfl,hp⟩:=all_mapP (eRex false) Lens xs (fun y hy => typ_rex (hf2 y hy))
    have hl3 : p.length ≤ 9223372036854775807:=by simpa [maxLen] using hl2
    refine ⟨.mk k s p,by rw [eRex,show prog.cellsOf 25 = 3 from co_rex],.mk _ hs hl3 hp⟩
end Go.Proofs.YtpffgegfjpdncaaGreatDoor.U
