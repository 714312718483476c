/- What functions of the program answer, on values without memory (part 2): conditions stand at each theorem. -/
import Derived.Test.YtikpjpinkkllaaaRows
import Derived.Test.YtikpjpinkkllaaaLProgSizeU1
set_option linter.unusedVariables false
set_option linter.unusedSimpArgs false
set_option maxRecDepth 100000
set_option maxHeartbeats 4000000
namespace Go.Proofs.Ytikpjpinkkllaaa.U
open Go Go.RowKit Go.Proofs Go.Proofs.Ytikpjpinkkllaaa.Am AV Go.Proofs.Try
theorem erL_vec (o : Bool) (l : List (List Rex)) : eraseL (l.map (eVec o)) = l.map (eVec false) := by
 rw [eraseL_map, List.map_map]; refine List.map_congr_left fun x _ => ?_; simp [eVec, erase, erL_rex]
theorem plL_vec (l : List (List Rex)) : plainL (l.map (eVec false)) = true := by rw [plainL_all]; simp [eVec, plain, plL_rex]
theorem vx : (∀ o (l : List (List Rex)), eraseL (l.map (eVec o)) = l.map (eVec false)) ∧ (∀ l : List (List Rex), plainL (l.map (eVec false)) = true) := ⟨erL_vec, plL_vec⟩
noncomputable def colS (A : List (List Rex)) (row : List Int) (x : List Rex) : Option (List (List Rex) × List Int) :=
 if atV A x < 0 ∧ goneV x = false then (if 40 ≤ A.length ∨ bigV x = true then none else some (A ++ [x], row ++ [(A.length : Int)]))
 else some (A, row ++ [if goneV x = true then -1 else atV A x])
noncomputable def rowF (v : List Rex) : List (List Span) → List (List Rex) → List Int → Option (List (List Rex) × List Int)
 | [], A, row => some (A, row)
 | p :: ps, A, row => match colS A row (vecR (firstB p) v) with | none => none | some z => rowF v ps z.1 z.2
noncomputable def machF (P : List (List Span)) : Nat → Nat → List (List Rex) → List (List Int) → List Int → Option Dfa
 | 0, _, _, _, _ => none
 | n + 1, s, A, rows, acc => match A[s]? with
  | none => some ⟨P, rows, acc⟩
  | some v => match rowF v P A [] with | none => none | some z => machF P n (s + 1) z.1 (rows ++ [z.2]) (acc ++ [accV v])
def setsV (l : List Rule) : List (List Span) := (l.map fun x => setsR x.rex).flatten
def startV (l : List Rule) : List Rex := l.map fun x => normR x.rex
noncomputable def dfaOfV (l : List Rule) : Option Dfa := machF (partsL (setsV l)) 41 0 [startV l] [] []
def zDfa : Dfa := ⟨[], [], []⟩
structure VOk (n : Nat) (v : List Rex) : Prop where
 len : v.length = n
 ok : ∀ r ∈ v, Okr r ∧ gB (bd r) ≤ 500000000
theorem VOk.vbd {n : Nat} {v : List Rex} (h : VOk n v) : ∀ r ∈ v, Okr r ∧ bd r ≤ 1099511627776 := fun r hr => by
 obtain ⟨a, b⟩ := h.ok r hr
 rw [gB_eq] at b
 exact ⟨a, by omega⟩
theorem vec_bd {n : Nat} {v : List Rex} (h : VOk n v) (b : Int) : ∀ r ∈ vecR b v, Okr r ∧ bd r ≤ 1099511627776 := fun r hr => by
 unfold vecR at hr
 obtain ⟨x, hx, rfl⟩ := List.mem_map.1 hr
 obtain ⟨a, c⟩ := h.ok x hx
 obtain ⟨d, e⟩ := derR_ok b x a
 exact ⟨d, by omega⟩
theorem vec_ok {n : Nat} {v : List Rex} (h : VOk n v) (b : Int) (hb : bigV (vecR b v) = false) : VOk n (vecR b v) := by
 refine ⟨by unfold vecR; rw [List.length_map]; exact h.len, fun r hr => ?_⟩
 have ho := (vec_bd h b r hr).1
 unfold bigV at hb
 rw [List.any_eq_false] at hb
 have := bigR_no (by simpa using hb r hr) ho
 have := gB_mono this
 exact ⟨ho, Nat.le_trans this (by decide)⟩
theorem colS_ok {n : Nat} {A : List (List Rex)} {row : List Int} {v : List Rex} {b : Int} {z} (hv : VOk n v) (hA : ∀ u ∈ A, VOk n u) (hl : A.length ≤ 40) (h : colS A row (vecR b v) = some z) :
  (∀ u ∈ z.1, VOk n u) ∧ z.1.length ≤ 40 ∧ A <+: z.1 ∧ z.2.length = row.length + 1 := by
 unfold colS at h
 split at h
 ·split at h
  ·cases h
  ·rename_i hc
   simp only [Option.some.injEq] at h; subst h
   rw [not_or] at hc
   have hb : bigV (vecR b v) = false := by simpa using hc.2
   refine ⟨fun u hu => ?_, by simp only [List.length_append, List.length_singleton]; omega, List.prefix_append _ _, by simp⟩
   rcases List.mem_append.1 hu with hu | hu
   ·exact hA u hu
   ·simp at hu; subst hu; exact vec_ok hv b hb
 ·simp only [Option.some.injEq] at h; subst h
  exact ⟨hA, hl, List.prefix_refl _, by simp⟩
theorem rowF_at {v : List Rex} {P : List (List Span)} {k : Nat} {A : List (List Rex)} {row : List Int} (h : k < P.length) : rowF v (P.drop k) A row = match colS A row (vecR (firstB P[k]) v) with | none => none | some z => rowF v (P.drop (k + 1)) z.1 z.2 := by
 rw [List.drop_eq_getElem_cons h]; rfl
theorem machF_at {P : List (List Span)} {n s : Nat} {A : List (List Rex)} {rows : List (List Int)} {acc : List Int} (h : s < A.length) : machF P (n + 1) s A rows acc = match rowF A[s] P A [] with | none => none | some z => machF P n (s + 1) z.1 (rows ++ [z.2]) (acc ++ [accV A[s]]) := by
 rw [machF, List.getElem?_eq_getElem h]
def eDfa2 (d : Dfa) : AV := .agg [.sl true 1 (d.parts.map (eSpans false)), .sl true 1 (d.rows.map (eInts true)), .sl true 1 (d.acc.map eInt)]
theorem er_dfa2 (d : Dfa) : erase (eDfa2 d) = eDfa false d := by simp [eDfa2, eDfa, erase, eraseL, dx, fls]
structure ROk (l : List Rule) : Prop where
 len : l.length ≤ 5
 pos : 0 < l.length
 ok : ∀ x ∈ l, Okr x.rex ∧ ps x.rex ≤ 24
theorem ROk.rbd {l : List Rule} (h : ROk l) : ∀ x ∈ l, Okr x.rex ∧ bd x.rex ≤ 3095 := fun x hx => by
 obtain ⟨a, b⟩ := h.ok x hx
 have := bd_ps x.rex a
 exact ⟨a, by omega⟩
theorem ROk.start {l : List Rule} (h : ROk l) : VOk l.length (startV l) := by
 refine ⟨by unfold startV; simp, fun r hr => ?_⟩
 unfold startV at hr
 obtain ⟨x, hx, rfl⟩ := List.mem_map.1 hr
 obtain ⟨a, b⟩ := h.ok x hx
 have h1 := (h.rbd x hx).2
 have h2 := normR_bd x.rex a
 exact ⟨(normR_ok x.rex a).1, Nat.le_trans (gB_mono (show bd (normR x.rex) ≤ 9335 by omega)) (by decide)⟩
theorem sets_le {l : List Rule} (h : ROk l) (i : Nat) : (setsV (l.take i)).length ≤ 15480 ∧ ∀ p ∈ setsV (l.take i), p.length ≤ 1048576 := by
 have key : ∀ m : List Rule, (∀ x ∈ m, Okr x.rex ∧ bd x.rex ≤ 3095) → (setsV m).length ≤ 3096 * m.length ∧ ∀ p ∈ setsV m, p.length ≤ 1048576 := by
  intro m
  induction m with
  | nil => intro; simp [setsV]
  | cons x m ih =>
   intro hm
   have a := hm x (List.mem_cons_self ..)
   obtain ⟨b1, b2⟩ := ih (fun y hy => hm y (List.mem_cons_of_mem _ hy))
   have c := setsR_len x.rex
   have d := setsR_mem x.rex
   unfold setsV at *
   simp only [List.map_cons, List.flatten_cons, List.length_append, List.length_cons, List.mem_append]
   refine ⟨by omega, fun p hp => ?_⟩
   rcases hp with hp | hp
   ·have := d p hp; omega
   ·exact b2 p hp
 obtain ⟨a, b⟩ := key (l.take i) (fun x hx => h.rbd x (List.mem_of_mem_take hx))
 have := h.len
 rw [List.length_take] at a
 exact ⟨by omega, b⟩
theorem setsV_s {l : List Rule} {i : Nat} (h : i < l.length) : setsV (l.take (i + 1)) = setsV (l.take i) ++ setsR l[i].rex := by
 unfold setsV; rw [List.take_succ_eq_append_getElem h, List.map_append, List.flatten_append]; simp
theorem startV_s {l : List Rule} {i : Nat} (h : i < l.length) : startV (l.take (i + 1)) = startV (l.take i) ++ [normR l[i].rex] := by
 unfold startV; rw [List.take_succ_eq_append_getElem h, List.map_append]; rfl
structure MG where
 n : Nat
 s : Nat
 A : List (List Rex)
 rows : List (List Int)
 acc : List Int
structure MI (P : List (List Span)) (L : Nat) (R : Option Dfa) (g : MG) : Prop where
 eq : R = machF P g.n g.s g.A g.rows g.acc
 ns : g.n + g.s = 41
 sl : g.s ≤ g.A.length
 len : g.A.length ≤ 40
 ok : ∀ u ∈ g.A, VOk L u
 rl : g.rows.length = g.s
 al : g.acc.length = g.s
 rc : ∀ r ∈ g.rows, r.length = P.length
structure RG where
 k : Nat
 A : List (List Rex)
 row : List Int
structure RI (P : List (List Span)) (L : Nat) (v : List Rex) (s : Nat) (R : Option (List (List Rex) × List Int)) (g : RG) : Prop where
 eq : R = rowF v (P.drop g.k) g.A g.row
 kl : g.k ≤ P.length
 len : g.A.length ≤ 40
 ok : ∀ u ∈ g.A, VOk L u
 at_ : g.A[s]? = some v
 rl : g.row.length = g.k
theorem fits_l7Of2 (l : List Rule) (h : ROk l) : Fits prog 85 [.sl false 4 (l.map (eRule false))] (.tup [eDfa2 ((dfaOfV l).getD zDfa), .bool (dfaOfV l).isSome]) [] := by
 have h5 := h.len
 have hst := h.start
 obtain ⟨hp1, hp2⟩ := partsL_ok (setsV l)
 have hp3 : ∀ p ∈ partsL (setsV l), p.length ≤ 1048576 := fun p hp => by
  have := setB_256 (hp2 p hp).1; omega
 obtain ⟨q1, q2⟩ := sets_le h l.length
 rw [List.take_length] at q1 q2
 have cP : Fits prog 76 [.sl true 1 ((setsV l).map (eSpans false))] (.sl true 1 ((partsL (setsV l)).map (eSpans false))) [] := fits_take (by simpa only [eraseL, erase, erL_spans] using fits_sSetParts (setsV l) (by omega) q2)
 have hR : dfaOfV l = machF (partsL (setsV l)) 41 0 [startV l] [] [] := rfl
 generalize dfaOfV l = R at *
 unfold eDfa2
 refine fits_of_pair 2 53 3 [] [0, 2, 3, 4, 5, 6, 7, 8, 9, 10, 11, 12, 13, 19, 48, 56, 79, 86, 95] func85 rfl rfl rfl (by show 2 < 117; decide) (by show 3 < 117; decide) (by show 1 ≤ 117; decide) (by rfl) (by rfl) (by show 0 ≤ 1; decide) (by rfl) (run_of ?_)
 (first | refine Zo (Z2 tis fls) ?_ | exact Zc (Z2 tis fls))
 refine run_loop (α := Nat) (fun i => i ≤ l.length) (fun i => [(0, .sl false 4 (l.map (eRule false))), (2, .box (.agg [.sl true 1 [], .sl true 1 [], .sl true 1 []])), (4, .sl true 1 ((setsV (l.take i)).map (eSpans false))), (5, .sl true 3 ((startV (l.take i)).map (eRex false))), (6, .int .i64 i)]) (fun i => l.length - i) 0 (Nat.zero_le _) ?_ ?_
 ·have e1 : setsV (l.take 0) = [] := rfl
  have e2 : startV (l.take 0) = [] := rfl
  rw [e1, e2]
  (first | refine Zo (Z2 tis @LLmapnil) ?_ | exact Zc (Z2 tis @LLmapnil))
 ·intro i hi'
  obtain ⟨z1, z2⟩ := sets_le h i
  have z3 : (startV (l.take i)).length ≤ 5 := by unfold startV; simp; omega
  by_cases hi : i < l.length
  ·obtain ⟨o1, o2⟩ := h.rbd _ (List.getElem_mem hi)
   have e1 := setsV_s hi
   have e2 := startV_s hi
   have lS := setsR_len l[i].rex
   have cS := fits_l2Sets l[i].rex (by omega)
   have cC := fits_l2Copy l[i].rex (by omega)
   have cN : Fits prog 97 [eRex true l[i].rex] (eRex false (normR l[i].rex)) [] := fits_take (by simpa only [eraseL, er_rex] using fits_l4Norm l[i].rex o1 (by omega))
   have er := eRule_eq false l[i]
   generalize normR l[i].rex = N at *
   rw [eRex_eq false l[i].rex] at cS cC
   rw [eRex_eq true l[i].rex] at cC cN
   have eN := eRex_eq false N
   rw [eN] at cN
   (repeat (first | refine callL cS ?_ | refine callB cS ?_ | refine callL cC ?_ | refine callB cC ?_ | refine callV cN ?_ | refine Zo (Z7 tis fls rx @dx @ux @er Zi) ?_ | refine .inl ⟨by kernel_rfl, ?_⟩ | exact .inl (by show _ = _; kernel_rfl) | exact Zc (Z7 tis fls rx @dx @ux @er Zi)))
   refine round_normal (i + 1) (by omega) ?_ (by show l.length - (i + 1) < l.length - i; omega)
   rw [e1, e2, List.map_append, List.map_append, List.map_cons, List.map_nil, eN]
   (first | refine Zo tis ?_ | exact Zc tis)
  ·obtain rfl : i = l.length := by omega
   rw [List.take_length] at *
   (repeat (first | refine callV cP ?_ | refine Zo (Z6 tis fls rx @dx @ux Zi) ?_ | refine .inl ⟨by kernel_rfl, ?_⟩ | exact .inl (by show _ = _; kernel_rfl) | exact Zc (Z6 tis fls rx @dx @ux Zi)))
   generalize partsL (setsV l) = P at *
   generalize hD : R.getD zDfa = D
   generalize hS : R.isSome = S
   have hL : startV l = [] ∨ startV l ≠ [] := Classical.em _
   have hv0 : (startV l).length ≤ 5 := z3
   have zp : zDfa.parts = [] := rfl
   have zr : zDfa.rows = [] := rfl
   have za : zDfa.acc = [] := rfl
   generalize hLl : l.length = L at *
   refine run_loopF [(8, [0])] (α := MG) (MI P L R) (fun g => [(2, .box (.agg [.sl true 1 [], .sl true 1 [], .sl true 1 []])), (7, .box (.agg [.sl true 1 (P.map (eSpans false)), .sl true 1 (g.rows.map (eInts true)), .sl true 1 (g.acc.map eInt)])), (8, .sl true 1 (g.A.map (eVec false))), (9, .int .i64 g.s)]) (fun g => g.n) ⟨41, 0, [startV l], [], []⟩ ⟨hR, rfl, Nat.zero_le _, by simp, by simpa using hst, rfl, rfl, by simp⟩ ?_ ?_
   ·simp only [List.map_cons, List.map_nil, eVec]
    (first | refine Zo (Z4 tis fls rx @dx) ?_ | exact Zc (Z4 tis fls rx @dx))
   ·rintro ⟨n, s, A, rows, acc⟩ ⟨m1, m2, m3, m4, m5, m6, m7, m8⟩
    simp only at m1 m2 m3 m4 m5 m6 m7 m8
    by_cases hs : s < A.length
    ·obtain ⟨n, rfl⟩ : ∃ k, n = k + 1 := ⟨n - 1, by omega⟩
     rw [machF_at hs] at m1
     have hv := m5 _ (List.getElem_mem hs)
     obtain ⟨gv1, gv2⟩ := vec_ext A s hs
     have hat : A[s]? = some A[s] := List.getElem?_eq_getElem hs
     generalize A[s] = v at *
     generalize hQ : rowF v P A [] = Q at *
     (first | refine Zo (Z5 tis fls rx @dx @vx) ?_ | exact Zc (Z5 tis fls rx @dx @vx))
     refine run_loop (α := RG) (RI P L v s Q) (fun g => [(2, .box (.agg [.sl true 1 [], .sl true 1 [], .sl true 1 []])), (7, .box (.agg [.sl true 1 (P.map (eSpans false)), .sl true 1 (rows.map (eInts true)), .sl true 1 (acc.map eInt)])), (8, .sl true 1 (g.A.map (eVec false))), (9, .int .i64 s), (10, .sl true 1 (g.row.map eInt)), (11, .int .i64 g.k)]) (fun g => P.length - g.k) ⟨0, A, []⟩ ⟨hQ.symm, Nat.zero_le _, m4, m5, hat, rfl⟩ ?_ ?_
     ·(first | refine Zo (Z2 tis @LLmapnil) ?_ | exact Zc (Z2 tis @LLmapnil))
     ·rintro ⟨k, B, row⟩ ⟨r1, r2, r3, r4, r5, r6⟩
      simp only at r1 r2 r3 r4 r5 r6
      obtain ⟨hsB, hBs⟩ := List.getElem?_eq_some_iff.1 r5
      obtain ⟨gb1, gb2⟩ := vec_ext B s hsB
      rw [hBs] at gb1 gb2
      by_cases hk : k < P.length
      ·rw [rowF_at hk] at r1
       have cF := fits_sSetFirst P[k] (hp3 _ (List.getElem_mem hk))
       have gp : (P.map (eSpans false)).getD k .undef = .sl false 2 (P[k].map eSpan) := by simp [List.getD, hk, eSpans]
       have gp2 : (P.map (eSpans false))[k]? = some (.sl false 2 (P[k].map eSpan)) := by simp [hk, eSpans]
       generalize P[k] = p at *
       generalize firstB p = b at *
       have cV : Fits prog 99 [.sl false 3 (v.map (eRex false)), .int .i64 b] (.sl false 3 ((vecR b v).map (eRex false))) [] := fits_as (fits_l7Vec b v hv.ok (by have := hv.len; omega)) (by simp [erase, erL_rex])
       have xb := vec_bd hv b
       have xl : (vecR b v).length = L := by unfold vecR; rw [List.length_map]; exact hv.len
       have hco := fun z => colS_ok (row := row) (z := z) hv r4 r3 (b := b)
       have cA := fits_l7At B (vecR b v) (by omega) (by omega) (fun u hu => by rw [xl]; exact (r4 u hu).len) (fun u hu r hr => ((r4 u hu).vbd r hr).2)
       have cG := fits_l7Gone (vecR b v) (by omega) (fun r hr => (xb r hr).2)
       have cB := fits_l7Big (vecR b v) (by omega) (fun r hr => (xb r hr).2)
       have hat2 := first_lt (fun u => decide (u = vecR b v)) B
       change -1 ≤ atV B (vecR b v) ∧ atV B (vecR b v) < B.length at hat2
       have hcs : colS B row (vecR b v) = if atV B (vecR b v) < 0 ∧ goneV (vecR b v) = false then (if 40 ≤ B.length ∨ bigV (vecR b v) = true then none else some (B ++ [vecR b v], row ++ [(B.length : Int)])) else some (B, row ++ [if goneV (vecR b v) = true then -1 else atV B (vecR b v)]) := rfl
       generalize hX : vecR b v = x at *
       generalize atV B x = t at *
       generalize goneV x = g at *
       generalize bigV x = q at *
       have hx2 : eVec false x = .sl false 3 (x.map (eRex false)) := rfl
       have fin : ∀ B' row' (hc : colS B row x = some (B', row')), RI P L v s Q ⟨k + 1, B', row'⟩ := fun B' row' hc => by
        obtain ⟨w1, w2, w3, w4⟩ := hco _ hc
        rw [hc] at r1
        exact ⟨r1, hk, w2, w1, by obtain ⟨tl, rfl⟩ := w3; rw [List.getElem?_append_left hsB]; exact r5, by simp only at w4 ⊢; omega⟩
       have hk40 : ∀ h : 40 ≤ B.length, (40 : Int) ≤ B.length := fun h => by omega
       have hn40 : ∀ h : ¬ 40 ≤ B.length, ¬ (40 : Int) ≤ B.length := fun h => by omega
       cases g with
       | true =>
        rw [if_neg (by simp), if_pos rfl] at hcs
        have F := fin _ _ hcs
        have er : (row ++ [(-1 : Int)]).map eInt = row.map eInt ++ [.int .i64 (-1)] := by simp [eInt]
        by_cases ht : t < 0
        all_goals
         (repeat (first | refine Zo (Z11 tis fls rx @dx @vx @gb1 @gb2 @gp @gp2 @ht Zi) ?_ | refine .inl ⟨by kernel_rfl, ?_⟩ | exact .inl (by show _ = _; kernel_rfl) | exact Zc (Z11 tis fls rx @dx @vx @gb1 @gb2 @gp @gp2 @ht Zi)); try ((first | refine callL cF ?_ | refine callB cF ?_); repeat (first | refine Zo (Z11 tis fls rx @dx @vx @gb1 @gb2 @gp @gp2 @ht Zi) ?_ | refine .inl ⟨by kernel_rfl, ?_⟩ | exact .inl (by show _ = _; kernel_rfl) | exact Zc (Z11 tis fls rx @dx @vx @gb1 @gb2 @gp @gp2 @ht Zi))); try ((first | refine callL cV ?_ | refine callB cV ?_); repeat (first | refine Zo (Z11 tis fls rx @dx @vx @gb1 @gb2 @gp @gp2 @ht Zi) ?_ | refine .inl ⟨by kernel_rfl, ?_⟩ | exact .inl (by show _ = _; kernel_rfl) | exact Zc (Z11 tis fls rx @dx @vx @gb1 @gb2 @gp @gp2 @ht Zi))); try ((first | refine callL cA ?_ | refine callB cA ?_); repeat (first | refine Zo (Z11 tis fls rx @dx @vx @gb1 @gb2 @gp @gp2 @ht Zi) ?_ | refine .inl ⟨by kernel_rfl, ?_⟩ | exact .inl (by show _ = _; kernel_rfl) | exact Zc (Z11 tis fls rx @dx @vx @gb1 @gb2 @gp @gp2 @ht Zi))); try ((first | refine callL cG ?_ | refine callB cG ?_); repeat (first | refine Zo (Z11 tis fls rx @dx @vx @gb1 @gb2 @gp @gp2 @ht Zi) ?_ | refine .inl ⟨by kernel_rfl, ?_⟩ | exact .inl (by show _ = _; kernel_rfl) | exact Zc (Z11 tis fls rx @dx @vx @gb1 @gb2 @gp @gp2 @ht Zi))); try ((first | refine callL cG ?_ | refine callB cG ?_); repeat (first | refine Zo (Z11 tis fls rx @dx @vx @gb1 @gb2 @gp @gp2 @ht Zi) ?_ | refine .inl ⟨by kernel_rfl, ?_⟩ | exact .inl (by show _ = _; kernel_rfl) | exact Zc (Z11 tis fls rx @dx @vx @gb1 @gb2 @gp @gp2 @ht Zi))))
         refine round_normal ⟨k + 1, _, _⟩ F ?_ (by show P.length - (k + 1) < P.length - k; omega)
         rw [er]
         (first | refine Zo tis ?_ | exact Zc tis)
       | false =>
        by_cases ht : t < 0
        ·rw [if_pos ⟨ht, rfl⟩] at hcs
         by_cases h40 : 40 ≤ B.length
         ·rw [if_pos (.inl h40)] at hcs
          rw [hcs] at r1
          simp only at r1
          have e40 := hk40 h40
          rw [r1] at m1
          simp only at m1
          obtain rfl : D = zDfa := by rw [← hD, m1]; rfl
          obtain rfl : S = false := by rw [← hS, m1]; rfl
          simp only [zp, zr, za, List.map_nil]
          (repeat (first | refine Zo (Z13 tis fls rx @dx @vx @gb1 @gb2 @gp @gp2 @ht @e40 retCB.eq_1 Zi) ?_ | refine .inl ⟨by kernel_rfl, ?_⟩ | exact .inl (by show _ = _; kernel_rfl) | exact Zc (Z13 tis fls rx @dx @vx @gb1 @gb2 @gp @gp2 @ht @e40 retCB.eq_1 Zi)); try ((first | refine callL cF ?_ | refine callB cF ?_); repeat (first | refine Zo (Z13 tis fls rx @dx @vx @gb1 @gb2 @gp @gp2 @ht @e40 retCB.eq_1 Zi) ?_ | refine .inl ⟨by kernel_rfl, ?_⟩ | exact .inl (by show _ = _; kernel_rfl) | exact Zc (Z13 tis fls rx @dx @vx @gb1 @gb2 @gp @gp2 @ht @e40 retCB.eq_1 Zi))); try ((first | refine callL cV ?_ | refine callB cV ?_); repeat (first | refine Zo (Z13 tis fls rx @dx @vx @gb1 @gb2 @gp @gp2 @ht @e40 retCB.eq_1 Zi) ?_ | refine .inl ⟨by kernel_rfl, ?_⟩ | exact .inl (by show _ = _; kernel_rfl) | exact Zc (Z13 tis fls rx @dx @vx @gb1 @gb2 @gp @gp2 @ht @e40 retCB.eq_1 Zi))); try ((first | refine callL cA ?_ | refine callB cA ?_); repeat (first | refine Zo (Z13 tis fls rx @dx @vx @gb1 @gb2 @gp @gp2 @ht @e40 retCB.eq_1 Zi) ?_ | refine .inl ⟨by kernel_rfl, ?_⟩ | exact .inl (by show _ = _; kernel_rfl) | exact Zc (Z13 tis fls rx @dx @vx @gb1 @gb2 @gp @gp2 @ht @e40 retCB.eq_1 Zi))); try ((first | refine callL cG ?_ | refine callB cG ?_); repeat (first | refine Zo (Z13 tis fls rx @dx @vx @gb1 @gb2 @gp @gp2 @ht @e40 retCB.eq_1 Zi) ?_ | refine .inl ⟨by kernel_rfl, ?_⟩ | exact .inl (by show _ = _; kernel_rfl) | exact Zc (Z13 tis fls rx @dx @vx @gb1 @gb2 @gp @gp2 @ht @e40 retCB.eq_1 Zi))))
         ·have e40 := hn40 h40
          cases q with
          | true =>
           rw [if_pos (.inr rfl)] at hcs
           rw [hcs] at r1
           simp only at r1
           rw [r1] at m1
           simp only at m1
           obtain rfl : D = zDfa := by rw [← hD, m1]; rfl
           obtain rfl : S = false := by rw [← hS, m1]; rfl
           simp only [zp, zr, za, List.map_nil]
           (repeat (first | refine Zo (Z13 tis fls rx @dx @vx @gb1 @gb2 @gp @gp2 @ht @e40 retCB.eq_1 Zi) ?_ | refine .inl ⟨by kernel_rfl, ?_⟩ | exact .inl (by show _ = _; kernel_rfl) | exact Zc (Z13 tis fls rx @dx @vx @gb1 @gb2 @gp @gp2 @ht @e40 retCB.eq_1 Zi)); try ((first | refine callL cF ?_ | refine callB cF ?_); repeat (first | refine Zo (Z13 tis fls rx @dx @vx @gb1 @gb2 @gp @gp2 @ht @e40 retCB.eq_1 Zi) ?_ | refine .inl ⟨by kernel_rfl, ?_⟩ | exact .inl (by show _ = _; kernel_rfl) | exact Zc (Z13 tis fls rx @dx @vx @gb1 @gb2 @gp @gp2 @ht @e40 retCB.eq_1 Zi))); try ((first | refine callL cV ?_ | refine callB cV ?_); repeat (first | refine Zo (Z13 tis fls rx @dx @vx @gb1 @gb2 @gp @gp2 @ht @e40 retCB.eq_1 Zi) ?_ | refine .inl ⟨by kernel_rfl, ?_⟩ | exact .inl (by show _ = _; kernel_rfl) | exact Zc (Z13 tis fls rx @dx @vx @gb1 @gb2 @gp @gp2 @ht @e40 retCB.eq_1 Zi))); try ((first | refine callL cA ?_ | refine callB cA ?_); repeat (first | refine Zo (Z13 tis fls rx @dx @vx @gb1 @gb2 @gp @gp2 @ht @e40 retCB.eq_1 Zi) ?_ | refine .inl ⟨by kernel_rfl, ?_⟩ | exact .inl (by show _ = _; kernel_rfl) | exact Zc (Z13 tis fls rx @dx @vx @gb1 @gb2 @gp @gp2 @ht @e40 retCB.eq_1 Zi))); try ((first | refine callL cG ?_ | refine callB cG ?_); repeat (first | refine Zo (Z13 tis fls rx @dx @vx @gb1 @gb2 @gp @gp2 @ht @e40 retCB.eq_1 Zi) ?_ | refine .inl ⟨by kernel_rfl, ?_⟩ | exact .inl (by show _ = _; kernel_rfl) | exact Zc (Z13 tis fls rx @dx @vx @gb1 @gb2 @gp @gp2 @ht @e40 retCB.eq_1 Zi))); try ((first | refine callL cB ?_ | refine callB cB ?_); repeat (first | refine Zo (Z13 tis fls rx @dx @vx @gb1 @gb2 @gp @gp2 @ht @e40 retCB.eq_1 Zi) ?_ | refine .inl ⟨by kernel_rfl, ?_⟩ | exact .inl (by show _ = _; kernel_rfl) | exact Zc (Z13 tis fls rx @dx @vx @gb1 @gb2 @gp @gp2 @ht @e40 retCB.eq_1 Zi))))
          | false =>
           rw [if_neg (by simpa using h40)] at hcs
           have F := fin _ _ hcs
           have er : (row ++ [(B.length : Int)]).map eInt = row.map eInt ++ [.int .i64 B.length] := by simp [eInt]
           (repeat (first | refine Zo (Z12 tis fls rx @dx @vx @gb1 @gb2 @gp @gp2 @ht @e40 Zi) ?_ | refine .inl ⟨by kernel_rfl, ?_⟩ | exact .inl (by show _ = _; kernel_rfl) | exact Zc (Z12 tis fls rx @dx @vx @gb1 @gb2 @gp @gp2 @ht @e40 Zi)); try ((first | refine callL cF ?_ | refine callB cF ?_); repeat (first | refine Zo (Z12 tis fls rx @dx @vx @gb1 @gb2 @gp @gp2 @ht @e40 Zi) ?_ | refine .inl ⟨by kernel_rfl, ?_⟩ | exact .inl (by show _ = _; kernel_rfl) | exact Zc (Z12 tis fls rx @dx @vx @gb1 @gb2 @gp @gp2 @ht @e40 Zi))); try ((first | refine callL cV ?_ | refine callB cV ?_); repeat (first | refine Zo (Z12 tis fls rx @dx @vx @gb1 @gb2 @gp @gp2 @ht @e40 Zi) ?_ | refine .inl ⟨by kernel_rfl, ?_⟩ | exact .inl (by show _ = _; kernel_rfl) | exact Zc (Z12 tis fls rx @dx @vx @gb1 @gb2 @gp @gp2 @ht @e40 Zi))); try ((first | refine callL cA ?_ | refine callB cA ?_); repeat (first | refine Zo (Z12 tis fls rx @dx @vx @gb1 @gb2 @gp @gp2 @ht @e40 Zi) ?_ | refine .inl ⟨by kernel_rfl, ?_⟩ | exact .inl (by show _ = _; kernel_rfl) | exact Zc (Z12 tis fls rx @dx @vx @gb1 @gb2 @gp @gp2 @ht @e40 Zi))); try ((first | refine callL cG ?_ | refine callB cG ?_); repeat (first | refine Zo (Z12 tis fls rx @dx @vx @gb1 @gb2 @gp @gp2 @ht @e40 Zi) ?_ | refine .inl ⟨by kernel_rfl, ?_⟩ | exact .inl (by show _ = _; kernel_rfl) | exact Zc (Z12 tis fls rx @dx @vx @gb1 @gb2 @gp @gp2 @ht @e40 Zi))); try ((first | refine callL cB ?_ | refine callB cB ?_); repeat (first | refine Zo (Z12 tis fls rx @dx @vx @gb1 @gb2 @gp @gp2 @ht @e40 Zi) ?_ | refine .inl ⟨by kernel_rfl, ?_⟩ | exact .inl (by show _ = _; kernel_rfl) | exact Zc (Z12 tis fls rx @dx @vx @gb1 @gb2 @gp @gp2 @ht @e40 Zi))); try ((first | refine callL cG ?_ | refine callB cG ?_); repeat (first | refine Zo (Z12 tis fls rx @dx @vx @gb1 @gb2 @gp @gp2 @ht @e40 Zi) ?_ | refine .inl ⟨by kernel_rfl, ?_⟩ | exact .inl (by show _ = _; kernel_rfl) | exact Zc (Z12 tis fls rx @dx @vx @gb1 @gb2 @gp @gp2 @ht @e40 Zi))))
           refine round_normal ⟨k + 1, _, _⟩ F ?_ (by show P.length - (k + 1) < P.length - k; omega)
           rw [er, List.map_append, List.map_cons, List.map_nil, hx2]
           (first | refine Zo tis ?_ | exact Zc tis)
        ·rw [if_neg (fun h => ht h.1), if_neg (by decide)] at hcs
         have F := fin _ _ hcs
         have er : (row ++ [t]).map eInt = row.map eInt ++ [.int .i64 t] := by simp [eInt]
         (repeat (first | refine Zo (Z11 tis fls rx @dx @vx @gb1 @gb2 @gp @gp2 @ht Zi) ?_ | refine .inl ⟨by kernel_rfl, ?_⟩ | exact .inl (by show _ = _; kernel_rfl) | exact Zc (Z11 tis fls rx @dx @vx @gb1 @gb2 @gp @gp2 @ht Zi)); try ((first | refine callL cF ?_ | refine callB cF ?_); repeat (first | refine Zo (Z11 tis fls rx @dx @vx @gb1 @gb2 @gp @gp2 @ht Zi) ?_ | refine .inl ⟨by kernel_rfl, ?_⟩ | exact .inl (by show _ = _; kernel_rfl) | exact Zc (Z11 tis fls rx @dx @vx @gb1 @gb2 @gp @gp2 @ht Zi))); try ((first | refine callL cV ?_ | refine callB cV ?_); repeat (first | refine Zo (Z11 tis fls rx @dx @vx @gb1 @gb2 @gp @gp2 @ht Zi) ?_ | refine .inl ⟨by kernel_rfl, ?_⟩ | exact .inl (by show _ = _; kernel_rfl) | exact Zc (Z11 tis fls rx @dx @vx @gb1 @gb2 @gp @gp2 @ht Zi))); try ((first | refine callL cA ?_ | refine callB cA ?_); repeat (first | refine Zo (Z11 tis fls rx @dx @vx @gb1 @gb2 @gp @gp2 @ht Zi) ?_ | refine .inl ⟨by kernel_rfl, ?_⟩ | exact .inl (by show _ = _; kernel_rfl) | exact Zc (Z11 tis fls rx @dx @vx @gb1 @gb2 @gp @gp2 @ht Zi))); try ((first | refine callL cG ?_ | refine callB cG ?_); repeat (first | refine Zo (Z11 tis fls rx @dx @vx @gb1 @gb2 @gp @gp2 @ht Zi) ?_ | refine .inl ⟨by kernel_rfl, ?_⟩ | exact .inl (by show _ = _; kernel_rfl) | exact Zc (Z11 tis fls rx @dx @vx @gb1 @gb2 @gp @gp2 @ht Zi))))
         refine round_normal ⟨k + 1, _, _⟩ F ?_ (by show P.length - (k + 1) < P.length - k; omega)
         rw [er]
         (first | refine Zo tis ?_ | exact Zc tis)
      ·obtain rfl : k = P.length := by omega
       rw [List.drop_length] at r1
       simp only [rowF] at r1
       rw [r1] at m1
       simp only at m1
       have cC := fits_l7Acc v (by have := hv.len; omega) hv.vbd
       have eI : ∀ z : List Int, eInts true z = .sl true 1 (z.map eInt) := fun _ => rfl
       have eT : ∀ z : Int, eInt z = .int .i64 z := fun _ => rfl
       generalize accV v = ac at *
       (repeat (first | refine Zo (Z8 tis fls rx @dx @vx @gb1 @gb2 Zi) ?_ | refine .inl ⟨by kernel_rfl, ?_⟩ | exact .inl (by show _ = _; kernel_rfl) | exact Zc (Z8 tis fls rx @dx @vx @gb1 @gb2 Zi)); try ((first | refine callL cC ?_ | refine callB cC ?_); repeat (first | refine Zo (Z8 tis fls rx @dx @vx @gb1 @gb2 Zi) ?_ | refine .inl ⟨by kernel_rfl, ?_⟩ | exact .inl (by show _ = _; kernel_rfl) | exact Zc (Z8 tis fls rx @dx @vx @gb1 @gb2 Zi))))
       refine round_normal ⟨n, s + 1, B, rows ++ [row], acc ++ [ac]⟩ ⟨m1, by simp only; omega, by simp only; omega, r3, r4, by simp [m6], by simp [m7], fun r hr => ?_⟩ ?_ (by show n < n + 1; omega)
       ·rcases List.mem_append.1 hr with hr | hr
        ·exact m8 r hr
        ·simp at hr; subst hr; exact r6
       ·simp only [List.map_append, List.map_cons, List.map_nil, eI, eT]
        (first | refine Zo tis ?_ | exact Zc tis)
    ·obtain rfl : s = A.length := by omega
     have hn : n ≠ 0 := by omega
     obtain ⟨n, rfl⟩ : ∃ k, n = k + 1 := ⟨n - 1, by omega⟩
     have e : machF P (n + 1) A.length A rows acc = some ⟨P, rows, acc⟩ := by rw [machF, List.getElem?_eq_none (Nat.le_refl _)]
     rw [e] at m1
     obtain rfl : D = ⟨P, rows, acc⟩ := by rw [← hD, m1]; rfl
     obtain rfl : S = true := by rw [← hS, m1]; rfl
     dsimp only
     (repeat (first | refine Zo (Z7 tis fls rx @dx @vx retCB.eq_1 Zi) ?_ | refine .inl ⟨by kernel_rfl, ?_⟩ | exact .inl (by show _ = _; kernel_rfl) | exact Zc (Z7 tis fls rx @dx @vx retCB.eq_1 Zi)))
def exGo (σ : St) (t i d : Nat) (K : St → Prop) : AV → Prop
 | .tup vs => i < vs.length ∧ t ≠ d ∧ (vs.getD i .undef).target = none ∧ (if plain (vs.getD i .undef) then K (put σ d (vs.getD i .undef) []) else K (upd (put σ d .undef []) [(d, vs.getD i .undef), (t, .tup (vs.set i .undef))]))
 | _ => False
theorem ex_eq (σ : St) (t i d : Nat) (K : St → Prop) : extractW σ (.tmp t) i d K = exGo σ t i d K (ev σ (.tmp t)) := by
 unfold extractW exGo
 cases ev σ (.tmp t) <;> rfl
theorem exGo_tup (σ : St) (t i d : Nat) (K : St → Prop) (vs : List AV) : exGo σ t i d K (.tup vs) = (i < vs.length ∧ t ≠ d ∧ (vs.getD i .undef).target = none ∧ (if plain (vs.getD i .undef) then K (put σ d (vs.getD i .undef) []) else K (upd (put σ d .undef []) [(d, vs.getD i .undef), (t, .tup (vs.set i .undef))]))) := rfl
theorem retW2 (a b : Nat) (ks : List Nat) (res : AV) (outs : List AV) (σ : St) : retW [a, b] ks res outs σ = ((usedOf (pulls σ [.tmp a, .tmp b]) [.tmp a, .tmp b]).Nodup ∧ leV (.tup [Am.look (pulls σ [.tmp a, .tmp b]) a, Am.look (pulls σ [.tmp a, .tmp b]) b]) res ∧ outsW (pulls σ [.tmp a, .tmp b]) (usedOf (pulls σ [.tmp a, .tmp b]) [.tmp a, .tmp b]) ks 0 outs) := rfl
def azB (c : UInt8) : Bool := decide (97 ≤ c.toNat ∧ c.toNat ≤ 122)
def wordB (s : List UInt8) : Bool := s.all azB && decide (0 < s.length ∧ s.length ≤ 6)
theorem fits_sRuleWord (s : List UInt8) (hs : s.length ≤ 1099511627776) : Fits prog 95 [.str s] (.bool (wordB s)) [] := by
 unfold wordB
 refine fits_of_code [2] [] [0, 2, 3, 7, 19] func95 rfl rfl rfl (by rfl) (by show 1 ≤ 28; decide) (by rfl) (by rfl) (by show 0 ≤ 1; decide) (by rfl) (run_of ?_)
 (first | refine Zo tis ?_ | exact Zc tis)
 refine run_loop (α := Nat) (fun i => i ≤ s.length ∧ (s.take i).all azB = true) (fun i => [(0, .str s), (3, .int .i64 i)]) (fun i => s.length - i) 0 ⟨Nat.zero_le _, rfl⟩ ?_ ?_
 ·(first | refine Zo tis ?_ | exact Zc tis)
 ·rintro i ⟨hi', ha⟩
  by_cases hi : i < s.length
  ·have hc := s[i].toNat_lt
   have gd := getD_of s i hi
   have hz : azB s[i] = decide (97 ≤ s[i].toNat ∧ s[i].toNat ≤ 122) := rfl
   have af := all_f (p := azB) hi
   have sx := all_s (p := azB) hi ha
   by_cases h1 : (s[i].toNat : Int) < 97
   ·have e := af (by rw [hz]; simp; omega)
    (repeat (first | refine Zo (Z5 tis @gd @h1 @e Zi) ?_ | refine .inl ⟨by kernel_rfl, ?_⟩ | exact .inl (by show _ = _; kernel_rfl) | exact Zc (Z5 tis @gd @h1 @e Zi)))
   ·by_cases h2 : (122 : Int) < s[i].toNat
    ·have e := af (by rw [hz]; simp; omega)
     (repeat (first | refine Zo (Z6 tis @gd @h1 @h2 @e Zi) ?_ | refine .inl ⟨by kernel_rfl, ?_⟩ | exact .inl (by show _ = _; kernel_rfl) | exact Zc (Z6 tis @gd @h1 @h2 @e Zi)))
    ·(repeat (first | refine Zo (Z5 tis @gd @h1 @h2 Zi) ?_ | refine .inl ⟨by kernel_rfl, ?_⟩ | exact .inl (by show _ = _; kernel_rfl) | exact Zc (Z5 tis @gd @h1 @h2 Zi)))
     exact round_normal (i + 1) ⟨by omega, sx (by rw [hz]; simp; omega)⟩ (by (first | refine Zo tis ?_ | exact Zc tis)) (by show s.length - (i + 1) < s.length - i; omega)
  ·obtain rfl : i = s.length := by omega
   rw [List.take_length] at ha
   by_cases h0 : (0 : Int) < s.length
   ·by_cases h6 : (s.length : Int) ≤ 6
    ·have e : decide (0 < s.length ∧ s.length ≤ 6) = true := decide_eq_true (by omega)
     (repeat (first | refine Zo (Z6 tis @ha @h0 @h6 @e Zi) ?_ | refine .inl ⟨by kernel_rfl, ?_⟩ | exact .inl (by show _ = _; kernel_rfl) | exact Zc (Z6 tis @ha @h0 @h6 @e Zi)))
    ·have e : decide (0 < s.length ∧ s.length ≤ 6) = false := decide_eq_false (by omega)
     (repeat (first | refine Zo (Z6 tis @ha @h0 @h6 @e Zi) ?_ | refine .inl ⟨by kernel_rfl, ?_⟩ | exact .inl (by show _ = _; kernel_rfl) | exact Zc (Z6 tis @ha @h0 @h6 @e Zi)))
   ·have e : decide (0 < s.length ∧ s.length ≤ 6) = false := decide_eq_false (by omega)
    (repeat (first | refine Zo (Z5 tis @ha @h0 @e Zi) ?_ | refine .inl ⟨by kernel_rfl, ?_⟩ | exact .inl (by show _ = _; kernel_rfl) | exact Zc (Z5 tis @ha @h0 @e Zi)))
def ruleN (l : List Rule) (i : Nat) : Bool := match l[i]? with
 | some x => wordB x.name && (rexB x.rex && (l.take i).all fun y => decide (y.name ≠ x.name))
 | none => false
theorem ruleN_at {l : List Rule} {i : Nat} (h : i < l.length) : ruleN l i = (wordB l[i].name && (rexB l[i].rex && (l.take i).all fun y => decide (y.name ≠ l[i].name))) := by
 unfold ruleN; rw [List.getElem?_eq_getElem h]
def rulesB (l : List Rule) : Bool := decide (1 ≤ l.length ∧ l.length ≤ 5) && (List.range l.length).all (ruleN l)
theorem rulesB_f {l : List Rule} {i : Nat} (h : i < l.length) (e : ruleN l i = false) : rulesB l = false := by
 have : (List.range l.length).all (ruleN l) = false := by rw [List.all_eq_false]; exact ⟨i, by simpa using h, by simp [e]⟩
 unfold rulesB; rw [this]; simp
theorem rulesB_t {l : List Rule} (h0 : 1 ≤ l.length ∧ l.length ≤ 5) (h : ∀ j, j < l.length → ruleN l j = true) : rulesB l = true := by
 have : (List.range l.length).all (ruleN l) = true := by simpa using h
 unfold rulesB; rw [this]; simp; omega
theorem fits_sRulesOk (l : List Rule) (hl : l.length ≤ 1099511627776) (hb : ∀ x ∈ l, x.name.length ≤ 1099511627776 ∧ bd x.rex ≤ 1048576) : Fits prog 84 [.sl false 4 (l.map (eRule false))] (.bool (rulesB l)) [] := by
 refine fits_of_code [2] [] [0, 2, 3, 4, 12, 16, 34, 37, 50] func84 rfl rfl rfl (by rfl) (by show 1 ≤ 51; decide) (by rfl) (by rfl) (by show 0 ≤ 1; decide) (by rfl) (run_of ?_)
 by_cases h1 : (l.length : Int) < 1
 ·have e : rulesB l = false := by unfold rulesB; rw [decide_eq_false (by omega)]; rfl
  (repeat (first | refine Zo (Z5 tis @ux @h1 @e Zi) ?_ | refine .inl ⟨by kernel_rfl, ?_⟩ | exact .inl (by show _ = _; kernel_rfl) | exact Zc (Z5 tis @ux @h1 @e Zi)))
 by_cases h2 : (5 : Int) < l.length
 ·have e : rulesB l = false := by unfold rulesB; rw [decide_eq_false (by omega)]; rfl
  (repeat (first | refine Zo (Z6 tis @ux @h1 @h2 @e Zi) ?_ | refine .inl ⟨by kernel_rfl, ?_⟩ | exact .inl (by show _ = _; kernel_rfl) | exact Zc (Z6 tis @ux @h1 @h2 @e Zi)))
 (first | refine Zo (Z4 tis @ux @h1 @h2) ?_ | exact Zc (Z4 tis @ux @h1 @h2))
 refine run_loop (α := Nat) (fun i => i ≤ l.length ∧ ∀ j, j < i → ruleN l j = true) (fun i => [(0, .sl false 4 (l.map (eRule false))), (3, .int .i64 i)]) (fun i => l.length - i) 0 ⟨Nat.zero_le _, by intros; omega⟩ ?_ ?_
 ·(first | refine Zo tis ?_ | exact Zc tis)
 ·rintro i ⟨hi', ha⟩
  by_cases hi : i < l.length
  ·obtain ⟨b1, b2⟩ := hb _ (List.getElem_mem hi)
   have cW := fits_sRuleWord l[i].name b1
   have cO := fits_sRexOk l[i].rex b2
   have er := eRule_eq false l[i]
   have hN := ruleN_at hi
   have hf := rulesB_f hi
   rw [eRex_eq] at cO
   generalize wordB l[i].name = w at *
   generalize rexB l[i].rex = o at *
   cases w with
   | false =>
    have e := hf (by rw [hN]; rfl)
    (repeat (first | refine callL cW ?_ | refine callB cW ?_ | refine Zo (Z7 tis fls rx @ux @er @e Zi) ?_ | refine .inl ⟨by kernel_rfl, ?_⟩ | exact .inl (by show _ = _; kernel_rfl) | exact Zc (Z7 tis fls rx @ux @er @e Zi)))
   | true =>
    cases o with
    | false =>
     have e := hf (by rw [hN]; rfl)
     (repeat (first | refine callL cW ?_ | refine callB cW ?_ | refine callL cO ?_ | refine callB cO ?_ | refine Zo (Z7 tis fls rx @ux @er @e Zi) ?_ | refine .inl ⟨by kernel_rfl, ?_⟩ | exact .inl (by show _ = _; kernel_rfl) | exact Zc (Z7 tis fls rx @ux @er @e Zi)))
    | true =>
     rw [Bool.true_and, Bool.true_and] at hN
     (repeat (first | refine Zo (Z6 tis fls rx @ux @er Zi) ?_ | refine .inl ⟨by kernel_rfl, ?_⟩ | exact .inl (by show _ = _; kernel_rfl) | exact Zc (Z6 tis fls rx @ux @er Zi)); try ((first | refine callL cW ?_ | refine callB cW ?_); repeat (first | refine Zo (Z6 tis fls rx @ux @er Zi) ?_ | refine .inl ⟨by kernel_rfl, ?_⟩ | exact .inl (by show _ = _; kernel_rfl) | exact Zc (Z6 tis fls rx @ux @er Zi))); try ((first | refine callL cO ?_ | refine callB cO ?_); repeat (first | refine Zo (Z6 tis fls rx @ux @er Zi) ?_ | refine .inl ⟨by kernel_rfl, ?_⟩ | exact .inl (by show _ = _; kernel_rfl) | exact Zc (Z6 tis fls rx @ux @er Zi))))
     refine run_loop (α := Nat) (fun k => k ≤ i ∧ (l.take k).all (fun y => decide (y.name ≠ l[i].name)) = true) (fun k => [(0, .sl false 4 (l.map (eRule false))), (3, .int .i64 i), (4, .int .i64 k)]) (fun k => i - k) 0 ⟨Nat.zero_le _, rfl⟩ ?_ ?_
     ·(first | refine Zo tis ?_ | exact Zc tis)
     ·rintro k ⟨hk', hka⟩
      by_cases hk : k < i
      ·have hkl : k < l.length := by omega
       have ek := eRule_eq false l[k]
       have sx := all_s (p := fun y : Rule => decide (y.name ≠ l[i].name)) hkl hka
       by_cases hn : l[k].name = l[i].name
       ·have e := hf (by
         rw [hN, List.all_eq_false]
         exact ⟨l[k], by rw [List.mem_take_iff_getElem]; exact ⟨k, by omega, rfl⟩, by simp [hn]⟩)
        have hn2 : (l[k].name == l[i].name) = true := by simp [hn]
        (repeat (first | refine Zo (Z9 tis fls rx @ux @er @ek @hn2 @e Zi) ?_ | refine .inl ⟨by kernel_rfl, ?_⟩ | exact .inl (by show _ = _; kernel_rfl) | exact Zc (Z9 tis fls rx @ux @er @ek @hn2 @e Zi)))
       ·have hn2 : (l[k].name == l[i].name) = false := by simp [hn]
        (repeat (first | refine Zo (Z8 tis fls rx @ux @er @ek @hn2 Zi) ?_ | refine .inl ⟨by kernel_rfl, ?_⟩ | exact .inl (by show _ = _; kernel_rfl) | exact Zc (Z8 tis fls rx @ux @er @ek @hn2 Zi)))
        exact round_normal (k + 1) ⟨by omega, sx (by simp [hn])⟩ (by (first | refine Zo tis ?_ | exact Zc tis)) (by show i - (k + 1) < i - k; omega)
      ·obtain rfl : k = i := by omega
       (repeat (first | refine Zo (Z5 tis fls rx @ux Zi) ?_ | refine .inl ⟨by kernel_rfl, ?_⟩ | exact .inl (by show _ = _; kernel_rfl) | exact Zc (Z5 tis fls rx @ux Zi)))
       refine round_normal (k + 1) ⟨by omega, fun j hj => ?_⟩ (by (first | refine Zo tis ?_ | exact Zc tis)) (by show l.length - (k + 1) < l.length - k; omega)
       by_cases e : j = k
       ·subst e; rw [hN]; exact hka
       ·exact ha j (by omega)
  ·obtain rfl : i = l.length := by omega
   have e := rulesB_t (l := l) (by omega) ha
   (repeat (first | refine Zo (Z4 tis fls @e Zi) ?_ | refine .inl ⟨by kernel_rfl, ?_⟩ | exact .inl (by show _ = _; kernel_rfl) | exact Zc (Z4 tis fls @e Zi)))
theorem rulesB_ok {l : List Rule} (h : rulesB l = true) : ROk l := by
 unfold rulesB at h
 simp only [Bool.and_eq_true, decide_eq_true_eq, List.all_eq_true, List.mem_range] at h
 refine ⟨h.1.2, by omega, fun x hx => ?_⟩
 obtain ⟨i, hi, rfl⟩ := List.getElem_of_mem hx
 have := h.2 i hi
 rw [ruleN_at hi] at this
 simp only [Bool.and_eq_true] at this
 have := this.2.1
 simp only [rexB, Bool.and_eq_true, decide_eq_true_eq] at this
 exact ⟨⟨8, this.1⟩, this.2⟩
noncomputable def dfaV (l : List Rule) : Option Dfa := if rulesB l = true then dfaOfV l else none
theorem fits_sDfaOf2 (l : List Rule) (hl : l.length ≤ 1099511627776) (hb : ∀ x ∈ l, x.name.length ≤ 1099511627776 ∧ bd x.rex ≤ 1048576) : Fits prog 74 [.sl false 4 (l.map (eRule false))] (.tup [eDfa2 ((dfaV l).getD zDfa), .bool (dfaV l).isSome]) [] := by
 have cO := fits_sRulesOk l hl hb
 unfold dfaV
 cases h : rulesB l with
 | false =>
  rw [h] at cO
  rw [if_neg (by decide)]
  show Fits prog 74 [.sl false 4 (l.map (eRule false))] (.tup [.agg [.sl true 1 [], .sl true 1 [], .sl true 1 []], .bool false]) []
  refine fits_of_pair 2 53 3 [] [0, 2, 3, 6] func74 rfl rfl rfl (by show 2 < 12; decide) (by show 3 < 12; decide) (by show 1 ≤ 12; decide) (by rfl) (by rfl) (by show 0 ≤ 1; decide) (by rfl) (run_of ?_)
  (repeat (first | refine callL cO ?_ | refine callB cO ?_ | refine Zo (Z6 tis fls @ux @dx retCB.eq_1 Zi) ?_ | refine .inl ⟨by kernel_rfl, ?_⟩ | exact .inl (by show _ = _; kernel_rfl) | exact Zc (Z6 tis fls @ux @dx retCB.eq_1 Zi)))
 | true =>
  rw [h] at cO
  rw [if_pos rfl]
  have c2 := fits_l7Of2 l (rulesB_ok h)
  generalize (dfaOfV l).getD zDfa = d at *
  generalize (dfaOfV l).isSome = s at *
  unfold eDfa2 at *
  refine fits_of_pair 2 53 3 [] [0, 2, 3, 6] func74 rfl rfl rfl (by show 2 < 12; decide) (by show 3 < 12; decide) (by show 1 ≤ 12; decide) (by rfl) (by rfl) (by show 0 ≤ 1; decide) (by rfl) (run_of ?_)
  (repeat (first | refine callL cO ?_ | refine callB cO ?_ | refine callL c2 ?_ | refine callB c2 ?_ | refine Zo (Z8 tis fls @ux @dx retCB.eq_1 @ex_eq @exGo_tup Zi) ?_ | refine .inl ⟨by kernel_rfl, ?_⟩ | exact .inl (by show _ = _; kernel_rfl) | exact Zc (Z8 tis fls @ux @dx retCB.eq_1 @ex_eq @exGo_tup Zi)))
def names5 : List (List UInt8) := [[105, 100], [110, 117, 109], [111, 112], [115, 112, 97, 99, 101], [107, 101, 121]]
def ruleA (b : List UInt8) (p : Nat) : Rex × Nat := if pickV b (rexV b (pickV b p 3) (p + 1)).2 3 = 0 then
  (.mk 3 [] [byteR (97 + (pickV b ((rexV b (pickV b p 3) (p + 1)).2 + 1) 3 : Nat)), .mk 5 [] [(leafV b ((rexV b (pickV b p 3) (p + 1)).2 + 1 + 1)).1]], (leafV b ((rexV b (pickV b p 3) (p + 1)).2 + 1 + 1)).2)
 else ((rexV b (pickV b p 3) (p + 1)).1, (rexV b (pickV b p 3) (p + 1)).2 + 1)
def ruleX (b : List UInt8) (p : Nat) : Rex × Nat := if rexB (ruleA b p).1 = true then ruleA b p else leafV b (ruleA b p).2
def rulesN (b : List UInt8) (p : Nat) : Nat → List Rule × Nat
 | 0 => ([], p)
 | i + 1 => ((rulesN b p i).1 ++ [⟨names5.getD i [], (ruleX b (rulesN b p i).2).1⟩], (ruleX b (rulesN b p i).2).2)
def rulesV (b : List UInt8) (p : Nat) : List Rule × Nat := rulesN b (p + 1) (1 + pickV b p 4)
theorem rexV_le3 (b : List UInt8) (d p : Nat) (hd : d ≤ 2) : (rexV b d p).2 ≤ p + 128 ∧ bd (rexV b d p).1 ≤ 4096 := by
 have h := rexV_le b d p
 have h4 : 4 ^ d ≤ 4 ^ 2 := Nat.pow_le_pow_right (by omega) hd
 omega
theorem byteR_bd (n : Int) : bd (byteR n) = 1 := by unfold byteR; rw [bd_eq]; simp [Rex.set, Rex.kids]
theorem ruleA_le (b : List UInt8) (p : Nat) : (ruleA b p).2 ≤ p + 200 ∧ bd (ruleA b p).1 ≤ 10000 := by
 have h1 := pickV_lt b p (n := 3) (by omega)
 have h2 := rexV_le3 b (pickV b p 3) (p + 1) (by omega)
 unfold ruleA
 split
 ·have h3 := leafV_le b ((rexV b (pickV b p 3) (p + 1)).2 + 1 + 1)
  refine ⟨by simp only; omega, ?_⟩
  simp only [bd, List.map_cons, List.map_nil, List.sum_cons, List.sum_nil, List.length_cons, List.length_nil, byteR_bd]; omega
 ·exact ⟨by simp only; omega, by simp only; omega⟩
theorem ruleX_le (b : List UInt8) (p : Nat) : (ruleX b p).2 ≤ p + 300 ∧ bd (ruleX b p).1 ≤ 10000 := by
 have h1 := ruleA_le b p
 have h2 := leafV_le b (ruleA b p).2
 unfold ruleX
 split <;> omega
theorem names5_len (i : Nat) : (names5.getD i []).length ≤ 6 := by
 rw [List.getD_eq_getElem?_getD]
 cases h : names5[i]? with
 | none => simp
 | some x =>
  have := List.mem_of_getElem? h
  simp [names5] at this
  rcases this with rfl | rfl | rfl | rfl | rfl <;> simp
theorem rulesN_le (b : List UInt8) (p : Nat) : ∀ i, (rulesN b p i).1.length = i ∧ (rulesN b p i).2 ≤ p + 300 * i ∧ ∀ x ∈ (rulesN b p i).1, x.name.length ≤ 6 ∧ bd x.rex ≤ 10000
 | 0 => by simp [rulesN]
 | i + 1 => by
  obtain ⟨h1, h2, h3⟩ := rulesN_le b p i
  have h4 := ruleX_le b (rulesN b p i).2
  simp only [rulesN, List.length_append, List.length_singleton]
  refine ⟨by omega, by omega, fun x hx => ?_⟩
  rcases List.mem_append.1 hx with hx | hx
  ·exact h3 x hx
  ·simp at hx; subst hx; exact ⟨names5_len i, h4.2⟩
theorem rulesV_le (b : List UInt8) (p : Nat) : (rulesV b p).1.length ≤ 4 ∧ (rulesV b p).2 ≤ p + 1300 ∧ ∀ x ∈ (rulesV b p).1, x.name.length ≤ 6 ∧ bd x.rex ≤ 10000 := by
 have h := pickV_lt b p (n := 4) (by omega)
 obtain ⟨h1, h2, h3⟩ := rulesN_le b (p + 1) (1 + pickV b p 4)
 unfold rulesV
 exact ⟨by omega, by omega, h3⟩
theorem fits_l6Rules (b : List UInt8) (hb : b.length ≤ 2000) (p : Nat) (hp : p ≤ 600000) : Fits prog 75 [.box (eRd b p)] (.sl true 4 ((rulesV b p).1.map (eRule false))) [.box (eRd b (rulesV b p).2)] := by
 have hk := pickV_lt b p (n := 4) (by omega)
 have cP : Fits prog 34 [.box (eRd b p), .int .i64 4] (.int .i64 (pickV b p 4)) [.box (eRd b (p + 1))] := fits_pick b hb p (by omega) 4 (by omega) (by omega)
 have hN := fun i => rulesN_le b (p + 1) i
 unfold rulesV
 generalize pickV b p 4 = m at *
 have e0 : rulesN b (p + 1) 0 = ([], p + 1) := rfl
 have en : names5.map eStr = [.str [105, 100], .str [110, 117, 109], .str [111, 112], .str [115, 112, 97, 99, 101], .str [107, 101, 121]] := rfl
 unfold eRd at *
 refine fits_of_code [2] [0] [0, 2, 3, 4, 5, 6, 13, 23, 36] func75 rfl rfl rfl (by rfl) (by show 1 ≤ 50; decide) (by rfl) (by rfl) (by show 1 ≤ 1; decide) (by rfl) (run_of ?_)
 (first | refine Zo (Z3 tis fls rx) ?_ | exact Zc (Z3 tis fls rx))
 refine callM 0 cP ?_
 simp -implicitDefEqProofs (disch := first | (intros; contradiction) | omega) only [am0, am1, am2, am3, am4, am5, am6, Nat.reduceSub, ↓reduceIte, reduceCtorEq, Nat.reduceEqDiff, Nat.reduceBEq, Nat.reduceAdd, Nat.reduceLT, Nat.reduceBNe, Nat.reduceMul, ↓reduceIte, tis, fls, rx, List.dropLast_singleton, ← en]
 refine run_loop (α := Nat) (fun i => i ≤ 1 + m) (fun i => [(0, .box (.agg [.sl false 1 (bytesA b), .int .i64 (rulesN b (p + 1) i).2])), (3, .sl true 4 ((rulesN b (p + 1) i).1.map (eRule false))), (4, .sl true 1 (names5.map eStr)), (5, .int .i64 ((1 + m : Int) - i))]) (fun i => 1 + m - i) 0 (Nat.zero_le _) ?_ ?_
 ·rw [e0]
  (first | refine Zo (Z4 tis fls rx @LLmapnil) ?_ | exact Zc (Z4 tis fls rx @LLmapnil))
 ·intro i hi'
  by_cases hi : i < 1 + m
  ·obtain ⟨n1, n2, n3⟩ := hN i
   have hs : rulesN b (p + 1) (i + 1) = ((rulesN b (p + 1) i).1 ++ [⟨names5.getD i [], (ruleX b (rulesN b (p + 1) i).2).1⟩], (ruleX b (rulesN b (p + 1) i).2).2) := rfl
   generalize rulesN b (p + 1) i = z at *
   obtain ⟨L, q⟩ := z
   simp only at n1 n2 n3 hs
   have gi : (names5.map eStr).getD i .undef = .str (names5.getD i []) := by
    have : i < names5.length := by simp [names5]; omega
    simp [List.getD, this, eStr]
   have gi2 : (names5.map eStr)[i]? = some (.str (names5.getD i [])) := by
    have : i < names5.length := by simp [names5]; omega
    simp [List.getD, this, eStr]
   have gl : (names5.map eStr).length = 5 := rfl
   generalize names5.map eStr = N at *
   generalize names5.getD i [] = nm at *
   have k1 := pickV_lt b q (n := 3) (by omega)
   have c1 : Fits prog 34 [.box (.agg [.sl false 1 (bytesA b), .int .i64 q]), .int .i64 3] (.int .i64 (pickV b q 3)) [.box (.agg [.sl false 1 (bytesA b), .int .i64 (q + 1)])] := fits_pick b hb q (by omega) 3 (by omega) (by omega)
   have hx0 := rexV_le3 b (pickV b q 3) (q + 1) (by omega)
   have cR := fits_l2Rex b hb (pickV b q 3) (by omega) (q + 1) (by omega)
   have hA : ruleA b q = if pickV b (rexV b (pickV b q 3) (q + 1)).2 3 = 0 then
     (.mk 3 [] [byteR (97 + (pickV b ((rexV b (pickV b q 3) (q + 1)).2 + 1) 3 : Nat)), .mk 5 [] [(leafV b ((rexV b (pickV b q 3) (q + 1)).2 + 1 + 1)).1]], (leafV b ((rexV b (pickV b q 3) (q + 1)).2 + 1 + 1)).2)
    else ((rexV b (pickV b q 3) (q + 1)).1, (rexV b (pickV b q 3) (q + 1)).2 + 1) := rfl
   have hX : ruleX b q = if rexB (ruleA b q).1 = true then ruleA b q else leafV b (ruleA b q).2 := rfl
   have hAl := ruleA_le b q
   have cO := fits_sRexOk (ruleA b q).1 (by omega)
   have cL2 := fits_l2Leaf b hb (ruleA b q).2 (by omega)
   generalize ruleX b q = X at *
   generalize ruleA b q = A at *
   generalize pickV b q 3 = d at *
   generalize rexV b d (q + 1) = x0 at *
   obtain ⟨x0, q1⟩ := x0
   simp only at hx0 hA cR
   have c2 : Fits prog 34 [.box (.agg [.sl false 1 (bytesA b), .int .i64 q1]), .int .i64 3] (.int .i64 (pickV b q1 3)) [.box (.agg [.sl false 1 (bytesA b), .int .i64 (q1 + 1)])] := fits_pick b hb q1 (by omega) 3 (by omega) (by omega)
   have c3 : Fits prog 34 [.box (.agg [.sl false 1 (bytesA b), .int .i64 (q1 + 1)]), .int .i64 3] (.int .i64 (pickV b (q1 + 1) 3)) [.box (.agg [.sl false 1 (bytesA b), .int .i64 (q1 + 1 + 1)])] := fits_pick b hb (q1 + 1) (by omega) 3 (by omega) (by omega)
   have k3 := pickV_lt b (q1 + 1) (n := 3) (by omega)
   have cB := fits_l2Byte (97 + (pickV b (q1 + 1) 3 : Nat))
   have cL := fits_l2Leaf b hb (q1 + 1 + 1) (by omega)
   generalize pickV b (q1 + 1) 3 = c at *
   generalize byteR (97 + (c : Int)) = bx at *
   generalize leafV b (q1 + 1 + 1) = lf at *
   generalize leafV b A.2 = l2 at *
   generalize pickV b q1 3 = tt at *
   have eD : (1 : Int) + d = ((d : Int) + 1) := by omega
   have eI : ((1 : Int) + m - i) - 1 = (1 : Int) + m - ((i + 1 : Nat) : Int) := by omega
   obtain ⟨lf, q3⟩ := lf
   obtain ⟨l2, q4⟩ := l2
   simp only at cL cL2 hA
   unfold eRd at *
   have eM : ∀ (r : Rule), (L ++ [r]).map (eRule false) = L.map (eRule false) ++ [eRule false r] := fun r => by simp
   rw [eRex_eq true x0] at cR
   rw [eRex_eq true lf] at cL
   rw [eRex_eq true l2] at cL2
   rw [eRex_eq true bx] at cB
   have hpos : (0 : Int) < 1 + m - i := by omega
   by_cases h0 : tt = 0
   ·rw [if_pos h0] at hA
    subst hA
    subst h0
    have eW : ∀ o, eRex o (.mk 3 [] [bx, .mk 5 [] [lf]]) = .agg [.int .i64 3, .sl o 2 [], .sl o 3 [.agg [.int .i64 bx.kind, .sl o 2 (bx.set.map eSpan), .sl o 3 (bx.kids.map (eRex o))], .agg [.int .i64 5, .sl o 2 [], .sl o 3 [.agg [.int .i64 lf.kind, .sl o 2 (lf.set.map eSpan), .sl o 3 (lf.kids.map (eRex o))]]]]] := fun o => by
     rw [eRex_eq]; simp [Rex.kind, Rex.set, Rex.kids, eRex_eq]
    have eWr : ∀ o, (Rex.mk 3 [] [bx, .mk 5 [] [lf]]).kids.map (eRex o) = [.agg [.int .i64 bx.kind, .sl o 2 (bx.set.map eSpan), .sl o 3 (bx.kids.map (eRex o))], .agg [.int .i64 5, .sl o 2 [], .sl o 3 [.agg [.int .i64 lf.kind, .sl o 2 (lf.set.map eSpan), .sl o 3 (lf.kids.map (eRex o))]]]] := fun o => by
     simp [Rex.kids, eRex_eq, Rex.kind, Rex.set]
    rw [eW] at cO
    (first | refine Zo (Z4 tis fls rx @hpos) ?_ | exact Zc (Z4 tis fls rx @hpos))
    refine callK 16 0 0 c1 ?_
    (first | refine Zo (Z5 tis fls rx @LLdrosin @eD) ?_ | exact Zc (Z5 tis fls rx @LLdrosin @eD))
    refine callM 0 cR ?_
    (first | refine Zo (Z4 tis fls rx @LLdrosin) ?_ | exact Zc (Z4 tis fls rx @LLdrosin))
    refine callM 0 c2 ?_
    (first | refine Zo (Z4 tis fls rx @LLdrosin) ?_ | exact Zc (Z4 tis fls rx @LLdrosin))
    refine callM 0 c3 ?_
    (first | refine Zo (Z4 tis fls rx @LLdrosin) ?_ | exact Zc (Z4 tis fls rx @LLdrosin))
    refine callB cB ?_
    (first | refine Zo (Z4 tis fls rx @LLdrosin) ?_ | exact Zc (Z4 tis fls rx @LLdrosin))
    refine callM 0 cL ?_
    (first | refine Zo (Z4 tis fls rx @LLdrosin) ?_ | exact Zc (Z4 tis fls rx @LLdrosin))
    rcases Bool.eq_false_or_eq_true (rexB (Rex.mk 3 [] [bx, .mk 5 [] [lf]])) with hO | hO
    ·rw [hO] at cO
     rw [if_pos hO] at hX
     subst hX
     refine callB cO ?_
     (first | refine Zo (Z4 tis fls rx @LLdrosin) ?_ | exact Zc (Z4 tis fls rx @LLdrosin))
     refine run_frzl [(6, [])] 9 [[], []] (by kernel_rfl) ?_
     (first | refine Zo (Z9 tis fls rx @ux @LLdrosin @gi @gi2 @gl @n1) ?_ | exact Zc (Z9 tis fls rx @ux @LLdrosin @gi @gi2 @gl @n1))
     refine round_normal (i + 1) (by omega) ?_ (by show 1 + m - (i + 1) < 1 + m - i; omega)
     rw [hs]
     simp only [eM, eRule_eq, eWr]
     simp only [mk_kind, mk_set, List.map_nil]
     (first | refine Zo (Z2 tis @eI) ?_ | exact Zc (Z2 tis @eI))
    ·rw [hO] at cO
     rw [if_neg (by rw [hO]; decide)] at hX
     subst hX
     refine callB cO ?_
     (first | refine Zo (Z4 tis fls rx @LLdrosin) ?_ | exact Zc (Z4 tis fls rx @LLdrosin))
     refine callM 0 cL2 ?_
     (first | refine Zo (Z4 tis fls rx @LLdrosin) ?_ | exact Zc (Z4 tis fls rx @LLdrosin))
     refine run_frzl [(6, [])] 9 [[], []] (by kernel_rfl) ?_
     (first | refine Zo (Z9 tis fls rx @ux @LLdrosin @gi @gi2 @gl @n1) ?_ | exact Zc (Z9 tis fls rx @ux @LLdrosin @gi @gi2 @gl @n1))
     refine round_normal (i + 1) (by omega) ?_ (by show 1 + m - (i + 1) < 1 + m - i; omega)
     rw [hs]
     simp only [eM, eRule_eq]
     (first | refine Zo (Z2 tis @eI) ?_ | exact Zc (Z2 tis @eI))
   ·rw [if_neg h0] at hA
    subst hA
    have h0' : ¬ (tt : Int) = 0 := by omega
    simp only at cO cL2 hX
    rw [eRex_eq false x0] at cO
    (first | refine Zo (Z4 tis fls rx @hpos) ?_ | exact Zc (Z4 tis fls rx @hpos))
    refine callK 16 0 0 c1 ?_
    (first | refine Zo (Z5 tis fls rx @LLdrosin @eD) ?_ | exact Zc (Z5 tis fls rx @LLdrosin @eD))
    refine callM 0 cR ?_
    (first | refine Zo (Z4 tis fls rx @LLdrosin) ?_ | exact Zc (Z4 tis fls rx @LLdrosin))
    refine callM 0 c2 ?_
    (first | refine Zo (Z5 tis fls rx @LLdrosin @h0') ?_ | exact Zc (Z5 tis fls rx @LLdrosin @h0'))
    rcases Bool.eq_false_or_eq_true (rexB x0) with hO | hO
    ·rw [hO] at cO
     rw [if_pos hO] at hX
     subst hX
     refine callB cO ?_
     (first | refine Zo (Z4 tis fls rx @LLdrosin) ?_ | exact Zc (Z4 tis fls rx @LLdrosin))
     refine run_frzl [(6, [])] 9 [[], []] (by kernel_rfl) ?_
     (first | refine Zo (Z9 tis fls rx @ux @LLdrosin @gi @gi2 @gl @n1) ?_ | exact Zc (Z9 tis fls rx @ux @LLdrosin @gi @gi2 @gl @n1))
     refine round_normal (i + 1) (by omega) ?_ (by show 1 + m - (i + 1) < 1 + m - i; omega)
     rw [hs]
     simp only [eM, eRule_eq]
     (first | refine Zo (Z2 tis @eI) ?_ | exact Zc (Z2 tis @eI))
    ·rw [hO] at cO
     rw [if_neg (by rw [hO]; decide)] at hX
     subst hX
     refine callB cO ?_
     (first | refine Zo (Z4 tis fls rx @LLdrosin) ?_ | exact Zc (Z4 tis fls rx @LLdrosin))
     refine callM 0 cL2 ?_
     (first | refine Zo (Z4 tis fls rx @LLdrosin) ?_ | exact Zc (Z4 tis fls rx @LLdrosin))
     refine run_frzl [(6, [])] 9 [[], []] (by kernel_rfl) ?_
     (first | refine Zo (Z9 tis fls rx @ux @LLdrosin @gi @gi2 @gl @n1) ?_ | exact Zc (Z9 tis fls rx @ux @LLdrosin @gi @gi2 @gl @n1))
     refine round_normal (i + 1) (by omega) ?_ (by show 1 + m - (i + 1) < 1 + m - i; omega)
     rw [hs]
     simp only [eM, eRule_eq]
     (first | refine Zo (Z2 tis @eI) ?_ | exact Zc (Z2 tis @eI))
  ·obtain rfl : i = 1 + m := by omega
   have hz : ((1 : Int) + m - ((1 + m : Nat) : Int)) = 0 := by omega
   (repeat (first | refine Zo (Z6 tis fls rx @ux @hz Zi) ?_ | refine .inl ⟨by kernel_rfl, ?_⟩ | exact .inl (by show _ = _; kernel_rfl) | exact Zc (Z6 tis fls rx @ux @hz Zi)))

structure LensD (d : Dfa) : Prop where
 p : d.parts.length ≤ 9223372036854775807
 pc : ∀ c ∈ d.parts, c.length ≤ 9223372036854775807
 r : d.rows.length ≤ 9223372036854775807
 rc : ∀ c ∈ d.rows, c.length ≤ 9223372036854775807
 a : d.acc.length ≤ 9223372036854775807
structure Small (d : Dfa) : Prop where
 p : d.parts.length ≤ 1048576
 ps : sumS d.parts ≤ 1048576
 r : d.rows.length ≤ 1048576
 rs : sumS d.rows ≤ 1048576
 a : d.acc.length ≤ 1048576
theorem Small.pc {d : Dfa} (h : Small d) : ∀ c ∈ d.parts, c.length ≤ 1048576 := fun c hc => Nat.le_trans (sumS_mem hc) h.ps
theorem Small.rc {d : Dfa} (h : Small d) : ∀ c ∈ d.rows, c.length ≤ 1048576 := fun c hc => Nat.le_trans (sumS_mem hc) h.rs
def disjB (s t : List Span) : Bool := decide ((meetL s t).length = 0)
theorem disjB_iff {s t : List Span} (hs : setB s = true) (ht : setB t = true) : disjB s t = true ↔ ∀ i : Nat, i < 256 → hasB s i = true → hasB t i = false := by
 unfold disjB meetL
 rw [if_pos ⟨hs, ht⟩, decide_eq_true_eq]
 have hp := spansL_pos (meetB_len s t)
 constructor
 ·intro h i hi h1
  cases h2 : hasB t i with
  | false => rfl
  | true =>
   have : 0 < (spansL (meetB s t)).length := hp.2 ⟨i, hi, by
    have hl := meetB_len s t
    have hil : i < (meetB s t).length := by omega
    have := meetB_get s t i hil
    rw [h1, h2] at this
    simp [List.getD, hil, this]⟩
   omega
 ·intro h
  apply Classical.byContradiction
  intro hne
  obtain ⟨i, hi, h2⟩ := hp.1 (by omega)
  have hl := meetB_len s t
  have hil : i < (meetB s t).length := by omega
  have h3 := meetB_get s t i hil
  simp only [List.getD, List.getElem?_eq_getElem hil, Option.getD_some] at h2
  rw [h3, Bool.and_eq_true] at h2
  rw [h i hi h2.1] at h2
  simp at h2
def partN (L : List (List Span)) (i : Nat) : Bool := match L[i]? with
 | some p => setB p && (decide (0 < p.length) && ((decide (i = 0) || decide (firstB (L.getD (i - 1) []) < firstB p)) && (List.range i).all (fun k => disjB p (L.getD k []))))
 | none => false
theorem partN_at {L : List (List Span)} {i : Nat} (h : i < L.length) : partN L i = (setB L[i] && (decide (0 < L[i].length) && ((decide (i = 0) || decide (firstB (L.getD (i - 1) []) < firstB L[i])) && (List.range i).all (fun k => disjB L[i] (L.getD k []))))) := by
 simp [partN, h]
def partsB (L : List (List Span)) : Bool := (List.range L.length).all (partN L) && decide ((L.map cntB).sum = 256)
theorem partsB_f {L : List (List Span)} {i : Nat} (hi : i < L.length) (h : partN L i = false) : partsB L = false := by
 unfold partsB
 have : (List.range L.length).all (partN L) = false := by rw [List.all_eq_false]; exact ⟨i, by simpa using hi, by simp [h]⟩
 rw [this]; rfl
theorem partsB_t {L : List (List Span)} (h : ∀ i, i < L.length → partN L i = true) : partsB L = decide ((L.map cntB).sum = 256) := by
 unfold partsB
 have : (List.range L.length).all (partN L) = true := by simpa using h
 rw [this]; rfl
theorem partN_set {L : List (List Span)} {i : Nat} (hi : i < L.length) (h : partN L i = true) : setB L[i] = true ∧ 0 < L[i].length := by
 rw [partN_at hi] at h
 simp only [Bool.and_eq_true, decide_eq_true_eq] at h
 exact ⟨h.1, h.2.1⟩
theorem sum_take {L : List (List Span)} {i : Nat} (h : i < L.length) : ((L.take (i + 1)).map cntB).sum = ((L.take i).map cntB).sum + cntB L[i] := by
 rw [List.take_succ_eq_append_getElem h, List.map_append, List.sum_append]; rfl
theorem sum_le (L : List (List Span)) : (L.map cntB).sum ≤ 256 * L.length := by
 induction L with
 | nil => simp
 | cons x L ih =>
  have := cntN_le x 256
  simp only [List.map_cons, List.sum_cons, List.length_cons, cntB] at *
  omega
def rowN (d : Dfa) (i : Nat) : Bool := match d.rows[i]?, d.acc[i]? with
 | some row, some a => decide (row.length = d.parts.length) && (decide (-1 ≤ a ∧ a ≤ 4) && row.all (fun s => decide (-1 ≤ s ∧ s ≤ (d.rows.length : Int) - 1)))
 | _, _ => false
theorem rowN_at {d : Dfa} {i : Nat} (h : i < d.rows.length) (h2 : i < d.acc.length) : rowN d i = (decide (d.rows[i].length = d.parts.length) && (decide (-1 ≤ d.acc[i] ∧ d.acc[i] ≤ 4) && d.rows[i].all (fun s => decide (-1 ≤ s ∧ s ≤ (d.rows.length : Int) - 1)))) := by
 simp [rowN, h, h2]
def dfaB (d : Dfa) : Bool := partsB d.parts && (decide (1 ≤ d.rows.length ∧ d.rows.length ≤ 40) && (decide (d.acc.length = d.rows.length) && (List.range d.rows.length).all (rowN d)))
theorem rows_f {d : Dfa} {i : Nat} (hi : i < d.rows.length) (h : rowN d i = false) : dfaB d = false := by
 unfold dfaB
 have : (List.range d.rows.length).all (rowN d) = false := by rw [List.all_eq_false]; exact ⟨i, by simpa using hi, by simp [h]⟩
 rw [this]; simp
theorem rows_t {d : Dfa} (h1 : partsB d.parts = true) (h2 : 1 ≤ d.rows.length ∧ d.rows.length ≤ 40) (h3 : d.acc.length = d.rows.length) (h : ∀ i, i < d.rows.length → rowN d i = true) : dfaB d = true := by
 unfold dfaB
 have : (List.range d.rows.length).all (rowN d) = true := by simpa using h
 rw [h1, decide_eq_true h2, decide_eq_true h3, this]; rfl
theorem fits_l7Parts (L : List (List Span)) (hL : L.length ≤ 1048576) (hc : ∀ c ∈ L, c.length ≤ 1048576) : Fits prog 72 [.sl false 1 (L.map (eSpans false))] (.bool (partsB L)) [] := by
 refine fits_of_code [2] [] [0, 2, 3, 4, 5, 9, 43, 46, 59] func72 rfl rfl rfl (by rfl) (by show 1 ≤ 69; decide) (by rfl) (by rfl) (by show 0 ≤ 1; decide) (by rfl) (run_of ?_)
 refine Zo (Z2 tis fls) ?_
 refine run_loop (α := Nat) (fun i => i ≤ L.length ∧ ∀ j, j < i → partN L j = true) (fun i => [(0, .sl false 1 (L.map (eSpans false))), (3, .int .i64 (((L.take i).map cntB).sum : Nat)), (4, .int .i64 i)]) (fun i => L.length - i) 0 ⟨Nat.zero_le _, by intros; omega⟩ ?_ ?_
 ·simp -implicitDefEqProofs (disch := first | (intros; contradiction) | omega) only [am0, am1, am2, am3, am4, am5, am6, Nat.reduceSub, ↓reduceIte, reduceCtorEq, Nat.reduceEqDiff, Nat.reduceBEq, Nat.reduceAdd, Nat.reduceLT, Nat.reduceBNe, Nat.reduceMul, ↓reduceIte, tis, List.map_nil, List.sum_nil]
 ·rintro i ⟨hi', hb⟩
  by_cases hi : i < L.length
  ·have hci := hc _ (List.getElem_mem hi)
   have hP := partN_at hi
   have hS := sum_take hi
   have hsl := sum_le (L.take i)
   have hcl : cntB L[i] ≤ 256 := cntN_le L[i] 256
   have htl : (L.take i).length = i := by simp; omega
   have c1 := fits_sSetOk L[i] (by omega)
   have cF := fits_sSetFirst L[i] hci
   have cZ := fits_sSetSize L[i] hci
   have gi : (L.map (eSpans false)).getD i .undef = .sl false 2 (L[i].map eSpan) := by simp [List.getD, hi, eSpans]
   have gi2 : (L.map (eSpans false))[i]? = some (.sl false 2 (L[i].map eSpan)) := by simp [hi, eSpans]
   by_cases g1 : setB L[i] = true
   ·rw [g1] at c1
    by_cases g2 : L[i].length = 0
    ·have hf : partN L i = false := by rw [hP, g1, decide_eq_false (by omega)]; rfl
     have hf := partsB_f hi hf
     have g2' : (L[i].length : Int) = 0 := by omega
     refine Zo (Z4 tis fls @gi @gi2) ?_
     refine .inl ⟨by kernel_rfl, ?_⟩
     refine callL c1 ?_
     exact Zc (Z6 tis fls @gi @gi2 @g2' @hf)
    ·have g2' : ¬ (L[i].length : Int) = 0 := by omega
     by_cases g3 : i = 0 ∨ firstB (L.getD (i - 1) []) < firstB L[i]
     ·-- the pairs
      have hP2 : partN L i = (List.range i).all (fun k => disjB L[i] (L.getD k [])) := by
       rw [hP, g1, decide_eq_true (show 0 < L[i].length by omega)]
       have : (decide (i = 0) || decide (firstB (L.getD (i - 1) []) < firstB L[i])) = true := by simpa using g3
       rw [this]; simp
      by_cases hi0 : (0 : Int) < i
      ·have hj : i - 1 < L.length := by omega
       have hcj := hc _ (List.getElem_mem hj)
       have ej : ((i : Int) - 1).toNat = i - 1 := by omega
       have cF2 := fits_sSetFirst L[i - 1] hcj
       have gj : (L.map (eSpans false)).getD (i - 1) .undef = .sl false 2 (L[i - 1].map eSpan) := by simp [List.getD, hj, eSpans]
       have gj2 : (L.map (eSpans false))[i - 1]? = some (.sl false 2 (L[i - 1].map eSpan)) := by simp [hj, eSpans]
       have g4 : ¬ firstB L[i] ≤ firstB L[i - 1] := by
        rcases g3 with h | h
        ·omega
        ·simp only [List.getD, List.getElem?_eq_getElem hj, Option.getD_some] at h; omega
       refine Zo (Z4 tis fls @gi @gi2) ?_
       refine .inl ⟨by kernel_rfl, ?_⟩
       refine callL c1 ?_
       refine Zo (Z6 tis fls @gi @gi2 @g2' @hi0) ?_
       refine callL cF ?_
       refine Zo (Z5 tis fls @ej @gj @gj2) ?_
       refine callL cF2 ?_
       refine Zo (Z3 tis fls @g4) ?_
       refine run_loop (α := Nat) (fun k => k ≤ i ∧ ∀ k', k' < k → disjB L[i] (L.getD k' []) = true) (fun k => [(0, .sl false 1 (L.map (eSpans false))), (3, .int .i64 (((L.take i).map cntB).sum : Nat)), (4, .int .i64 i), (5, .int .i64 k)]) (fun k => i - k) 0 ⟨Nat.zero_le _, by intros; omega⟩ ?_ ?_
       ·exact Zc tis
       ·rintro k ⟨hk', hkb⟩
        by_cases hk : k < i
        ·have hkl : k < L.length := by omega
         have cM := fits_sSetMeet L[i] L[k] hci (hc _ (List.getElem_mem hkl))
         have gk : (L.map (eSpans false)).getD k .undef = .sl false 2 (L[k].map eSpan) := by simp [List.getD, hkl, eSpans]
         have gk2 : (L.map (eSpans false))[k]? = some (.sl false 2 (L[k].map eSpan)) := by simp [hkl, eSpans]
         have gkd : L.getD k [] = L[k] := by simp [List.getD, hkl]
         by_cases g5 : (0 : Int) < (meetL L[i] L[k]).length
         ·have hd : disjB L[i] (L.getD k []) = false := by rw [gkd]; unfold disjB; rw [decide_eq_false]; omega
          have hf : partN L i = false := by rw [hP2, List.all_eq_false]; exact ⟨k, by simpa using hk, by rw [hd]; simp⟩
          have hf := partsB_f hi hf
          refine Zo (Z6 tis fls @gi @gi2 @gk @gk2) ?_
          refine .inl ⟨by kernel_rfl, ?_⟩
          refine callL cM ?_
          exact Zc (Z4 tis fls @g5 @hf)
         ·have hd : disjB L[i] (L.getD k []) = true := by rw [gkd]; unfold disjB; rw [decide_eq_true]; omega
          refine Zo (Z6 tis fls @gi @gi2 @gk @gk2) ?_
          refine .inl ⟨by kernel_rfl, ?_⟩
          refine callL cM ?_
          refine Zo (Z3 tis fls @g5) ?_
          refine round_normal (k + 1) ⟨by omega, fun k' hk2 => ?_⟩ ?_ (by show i - (k + 1) < i - k; omega)
          ·by_cases e : k' = k
           ·subst e; exact hd
           ·exact hkb k' (by omega)
          ·exact Zc tis
        ·obtain rfl : k = i := by omega
         refine Zo (Z4 tis fls @gi @gi2) ?_
         refine callB cZ ?_
         refine Zo (Z2 tis fls) ?_
         refine round_normal (k + 1) ⟨by omega, fun j hj3 => ?_⟩ ?_ (by show L.length - (k + 1) < L.length - k; omega)
         ·by_cases e : j = k
          ·subst e; rw [hP2]; simpa using hkb
          ·exact hb j (by omega)
         ·exact Zc (Z2 tis @hS)
      ·obtain rfl : i = 0 := by omega
       refine Zo (Z4 tis fls @gi @gi2) ?_
       refine .inl ⟨by kernel_rfl, ?_⟩
       refine callL c1 ?_
       refine Zo (Z5 tis fls @gi @gi2 @g2') ?_
       refine run_loop (α := Nat) (fun k => k = 0) (fun k => [(0, .sl false 1 (L.map (eSpans false))), (3, .int .i64 (((L.take 0).map cntB).sum : Nat)), (4, .int .i64 0), (5, .int .i64 k)]) (fun k => k) 0 rfl ?_ ?_
       ·exact Zc tis
       ·intro k hk
        subst hk
        refine Zo (Z4 tis fls @gi @gi2) ?_
        refine callB cZ ?_
        refine Zo (Z2 tis fls) ?_
        refine round_normal 1 ⟨by omega, fun j hj3 => ?_⟩ ?_ (by show L.length - 1 < L.length - 0; omega)
        ·obtain rfl : j = 0 := by omega
         rw [hP2]; rfl
        ·rw [Nat.zero_add] at hS
         simp -implicitDefEqProofs (disch := first | (intros; contradiction) | omega) only [am0, am1, am2, am3, am4, am5, am6, Nat.reduceSub, ↓reduceIte, reduceCtorEq, Nat.reduceEqDiff, Nat.reduceBEq, Nat.reduceAdd, Nat.reduceLT, Nat.reduceBNe, Nat.reduceMul, ↓reduceIte, tis, hS, List.sum_nil]
     ·have hi0 : (0 : Int) < i := by omega
      have hj : i - 1 < L.length := by omega
      have hcj := hc _ (List.getElem_mem hj)
      have ej : ((i : Int) - 1).toNat = i - 1 := by omega
      have cF2 := fits_sSetFirst L[i - 1] hcj
      have gj : (L.map (eSpans false)).getD (i - 1) .undef = .sl false 2 (L[i - 1].map eSpan) := by simp [List.getD, hj, eSpans]
      have gj2 : (L.map (eSpans false))[i - 1]? = some (.sl false 2 (L[i - 1].map eSpan)) := by simp [hj, eSpans]
      have g4 : firstB L[i] ≤ firstB L[i - 1] := by
       have h : ¬ firstB (L.getD (i - 1) []) < firstB L[i] := fun h => g3 (.inr h)
       simp only [List.getD, List.getElem?_eq_getElem hj, Option.getD_some] at h; omega
      have hf : partN L i = false := by
       rw [hP, decide_eq_false (show ¬ i = 0 by omega), decide_eq_false (fun h => g3 (.inr h))]; simp
      have hf := partsB_f hi hf
      refine Zo (Z4 tis fls @gi @gi2) ?_
      refine .inl ⟨by kernel_rfl, ?_⟩
      refine callL c1 ?_
      refine Zo (Z6 tis fls @gi @gi2 @g2' @hi0) ?_
      refine callL cF ?_
      refine Zo (Z5 tis fls @ej @gj @gj2) ?_
      refine callL cF2 ?_
      exact Zc (Z4 tis fls @g4 @hf)
   ·have g1 : setB L[i] = false := by simpa using g1
    have hf : partN L i = false := by rw [hP, g1]; rfl
    have hf := partsB_f hi hf
    rw [g1] at c1
    refine Zo (Z4 tis fls @gi @gi2) ?_
    refine .inl ⟨by kernel_rfl, ?_⟩
    refine callL c1 ?_
    exact Zc (Z3 tis fls @hf)
  ·obtain rfl : i = L.length := by omega
   rw [List.take_length]
   have ht := partsB_t hb
   have e : (((L.map cntB).sum : Nat) : Int) = 256 ↔ (L.map cntB).sum = 256 := by omega
   refine Zo (Z3 tis fls @ht) ?_
   rw [Bool.eq_iff_iff]
   simp [e]
def acc4 : List Int := [-1, -1, 0, 1]
def partsAB : List (List Span) := partsL [[⟨97, 97⟩], [⟨98, 98⟩]]
def rowAt (b : List UInt8) (n q : Nat) (k : Nat) : List Int := (List.range k).map fun j => (pickV b (q + j) (n + 1) : Int) - 1
def anyRows (b : List UInt8) (n q : Nat) (i : Nat) : List (List Int) := (List.range i).map fun s => rowAt b n (q + 4 * s) 3
def anyAcc (b : List UInt8) (q : Nat) (i : Nat) : List Int := (List.range i).map fun s => numV b (q + 4 * s + 3) acc4
noncomputable def anyQ (b : List UInt8) (p : Nat) : Nat := if (dfaV (rulesV b p).1).isSome = true then (rulesV b p).2 + 1 else (rulesV b p).2
noncomputable def anyV (b : List UInt8) (p : Nat) : Dfa × Nat :=
 if (dfaV (rulesV b p).1).isSome = true ∧ pickV b (rulesV b p).2 2 = 0 then ((dfaV (rulesV b p).1).getD zDfa, (rulesV b p).2 + 1)
 else (⟨partsAB, anyRows b (1 + pickV b (anyQ b p) 6) (anyQ b p + 1) (1 + pickV b (anyQ b p) 6), anyAcc b (anyQ b p + 1) (1 + pickV b (anyQ b p) 6)⟩, anyQ b p + 1 + 4 * (1 + pickV b (anyQ b p) 6))
theorem rowAt_s (b : List UInt8) (n q k : Nat) : rowAt b n q (k + 1) = rowAt b n q k ++ [(pickV b (q + k) (n + 1) : Int) - 1] := by unfold rowAt; rw [List.range_succ, List.map_append]; rfl
theorem anyRows_s (b : List UInt8) (n q i : Nat) : anyRows b n q (i + 1) = anyRows b n q i ++ [rowAt b n (q + 4 * i) 3] := by unfold anyRows; rw [List.range_succ, List.map_append]; rfl
theorem anyAcc_s (b : List UInt8) (q i : Nat) : anyAcc b q (i + 1) = anyAcc b q i ++ [numV b (q + 4 * i + 3) acc4] := by unfold anyAcc; rw [List.range_succ, List.map_append]; rfl
theorem sum_const {α : Type} (f : α → Nat) (m : Nat) : ∀ l : List α, (∀ x ∈ l, f x ≤ m) → (l.map f).sum ≤ m * l.length
 | [], _ => by simp
 | x :: l, h => by
  have a := h x (List.mem_cons_self ..)
  have b := sum_const f m l (fun y hy => h y (List.mem_cons_of_mem _ hy))
  simp only [List.map_cons, List.sum_cons, List.length_cons, Nat.mul_add]; omega
theorem parts_small (S : List (List Span)) : (partsL S).length ≤ 256 ∧ sumS (partsL S) ≤ 65536 := by
 obtain ⟨h1, h2⟩ := partsL_ok S
 refine ⟨h1, ?_⟩
 have := sum_const List.length 256 (partsL S) (fun p hp => setB_256 (h2 p hp).1)
 unfold sumS; omega
theorem machF_small {P : List (List Span)} {L : Nat} : ∀ n s A rows acc d, s ≤ A.length → A.length ≤ 40 → (∀ u ∈ A, VOk L u) → rows.length = s → acc.length = s → (∀ r ∈ rows, r.length = P.length) → machF P n s A rows acc = some d → d.parts = P ∧ d.rows.length ≤ 40 ∧ d.acc.length ≤ 40 ∧ ∀ r ∈ d.rows, r.length = P.length := by
 intro n
 induction n with
 | zero => intro s A rows acc d _ _ _ _ _ _ h; simp [machF] at h
 | succ n ih =>
  intro s A rows acc d h1 h2 h3 h4 h5 h6 h
  by_cases hs : s < A.length
  ·rw [machF_at hs] at h
   have hv := h3 _ (List.getElem_mem hs)
   generalize A[s] = v at *
   have key : ∀ (ps : List (List Span)) B row z, (∀ u ∈ B, VOk L u) → B.length ≤ 40 → rowF v ps B row = some z → (∀ u ∈ z.1, VOk L u) ∧ z.1.length ≤ 40 ∧ B.length ≤ z.1.length ∧ z.2.length = row.length + ps.length := by
    intro ps
    induction ps with
    | nil => intro B row z hB hl hz; simp only [rowF, Option.some.injEq] at hz; subst hz; exact ⟨hB, hl, Nat.le_refl _, rfl⟩
    | cons p ps ih2 =>
     intro B row z hB hl hz
     simp only [rowF] at hz
     cases hc : colS B row (vecR (firstB p) v) with
     | none => rw [hc] at hz; cases hz
     | some y =>
      rw [hc] at hz
      obtain ⟨a1, a2, a3, a4⟩ := colS_ok hv hB hl hc
      obtain ⟨b1, b2, b3, b4⟩ := ih2 _ _ _ a1 a2 hz
      exact ⟨b1, b2, Nat.le_trans a3.length_le b3, by rw [b4, a4, List.length_cons]; omega⟩
   cases hr : rowF v P A [] with
   | none => rw [hr] at h; cases h
   | some z =>
    rw [hr] at h
    obtain ⟨c1, c2, c3, c4⟩ := key P A [] z h3 h2 hr
    refine ih (s + 1) z.1 _ _ d (by omega) c2 c1 (by simp [h4]) (by simp [h5]) (fun r hr' => ?_) h
    rcases List.mem_append.1 hr' with hr' | hr'
    ·exact h6 r hr'
    ·simp at hr'; subst hr'; rw [c4]; simp
  ·rw [machF, List.getElem?_eq_none (by omega)] at h
   simp only [Option.some.injEq] at h; subst h
   exact ⟨rfl, by simp only; omega, by simp only; omega, h6⟩
theorem dfaV_small (l : List Rule) : Small ((dfaV l).getD zDfa) := by
 have z : Small zDfa := ⟨by simp [zDfa], by simp [zDfa, sumS], by simp [zDfa], by simp [zDfa, sumS], by simp [zDfa]⟩
 unfold dfaV
 split
 ·rename_i h
  have hr := rulesB_ok h
  cases hd : dfaOfV l with
  | none => exact z
  | some d =>
   obtain ⟨p1, p2⟩ := parts_small (setsV l)
   obtain ⟨a, b, c, e⟩ := machF_small (L := l.length) 41 0 [startV l] [] [] d (Nat.zero_le _) (by simp) (by simpa using hr.start) rfl rfl (by simp) hd
   have s := sum_const List.length 256 d.rows (fun r hr => by rw [e r hr]; exact p1)
   refine ⟨by show d.parts.length ≤ _; rw [a]; omega, by show sumS d.parts ≤ _; rw [a]; omega, by show d.rows.length ≤ _; omega, by show sumS d.rows ≤ _; unfold sumS; omega, by show d.acc.length ≤ _; omega⟩
 ·exact z
theorem anyV_small (b : List UInt8) (p : Nat) : Small (anyV b p).1 := by
 unfold anyV
 split
 ·exact dfaV_small _
 ·have hk := pickV_lt b (anyQ b p) (n := 6) (by omega)
  generalize pickV b (anyQ b p) 6 = m at *
  obtain ⟨p1, p2⟩ := parts_small [[⟨97, 97⟩], [⟨98, 98⟩]]
  have s := sum_const List.length 3 (anyRows b (1 + m) (anyQ b p + 1) (1 + m)) (fun r hr => by
   unfold anyRows at hr
   obtain ⟨s, _, rfl⟩ := List.mem_map.1 hr
   simp [rowAt])
  have l1 : (anyRows b (1 + m) (anyQ b p + 1) (1 + m)).length = 1 + m := by simp [anyRows]
  have l2 : (anyAcc b (anyQ b p + 1) (1 + m)).length = 1 + m := by simp [anyAcc]
  refine ⟨by show partsAB.length ≤ _; unfold partsAB; omega, by show sumS partsAB ≤ _; unfold partsAB; omega, by simp only; omega, by simp only; unfold sumS; omega, by simp only; omega⟩
theorem anyV_le (b : List UInt8) (p : Nat) : (anyV b p).2 ≤ p + 1400 := by
 have h1 := (rulesV_le b p).2.1
 have hk := pickV_lt b (anyQ b p) (n := 6) (by omega)
 have hq : anyQ b p ≤ (rulesV b p).2 + 1 := by unfold anyQ; split <;> omega
 unfold anyV
 split
 ·simp only; omega
 ·simp only; omega
theorem fits_l7Any2 (b : List UInt8) (hb : b.length ≤ 2000) (p : Nat) (hp : p ≤ 500000) : Fits prog 62 [.box (eRd b p)] (eDfa2 (anyV b p).1) [.box (eRd b (anyV b p).2)] := by
 have cR := fits_l6Rules b hb p (by omega)
 obtain ⟨r1, r2, r3⟩ := rulesV_le b p
 have eV : anyV b p = if (dfaV (rulesV b p).1).isSome = true ∧ pickV b (rulesV b p).2 2 = 0 then ((dfaV (rulesV b p).1).getD zDfa, (rulesV b p).2 + 1)
  else (⟨partsAB, anyRows b (1 + pickV b (anyQ b p) 6) (anyQ b p + 1) (1 + pickV b (anyQ b p) 6), anyAcc b (anyQ b p + 1) (1 + pickV b (anyQ b p) 6)⟩, anyQ b p + 1 + 4 * (1 + pickV b (anyQ b p) 6)) := rfl
 have eQ : anyQ b p = if (dfaV (rulesV b p).1).isSome = true then (rulesV b p).2 + 1 else (rulesV b p).2 := rfl
 have cD : Fits prog 74 [.sl true 4 ((rulesV b p).1.map (eRule false))] (.tup [eDfa2 ((dfaV (rulesV b p).1).getD zDfa), .bool (dfaV (rulesV b p).1).isSome]) [] := fits_take (by simpa only [eraseL, erase, erL_rule] using fits_sDfaOf2 (rulesV b p).1 (by omega) (fun x hx => by have := r3 x hx; omega))
 have c2 : Fits prog 34 [.box (eRd b (rulesV b p).2), .int .i64 2] (.int .i64 (pickV b (rulesV b p).2 2)) [.box (eRd b ((rulesV b p).2 + 1))] := fits_pick b hb (rulesV b p).2 (by omega) 2 (by omega) (by omega)
 generalize dfaV (rulesV b p).1 = o at *
 generalize rulesV b p = z at *
 obtain ⟨l, q⟩ := z
 simp only at *
 generalize anyQ b p = Q at *
 generalize pickV b q 2 = t at *
 generalize anyV b p = V at *
 have hQ : Q ≤ q + 1 := by rw [eQ]; split <;> omega
 have c6 : Fits prog 34 [.box (eRd b Q), .int .i64 6] (.int .i64 (pickV b Q 6)) [.box (eRd b (Q + 1))] := fits_pick b hb Q (by omega) 6 (by omega) (by omega)
 have h6 := pickV_lt b Q (n := 6) (by omega)
 generalize pickV b Q 6 = m at *
 have cP : Fits prog 76 [.sl true 1 [.sl true 2 [.agg [.int .i64 97, .int .i64 97]], .sl true 2 [.agg [.int .i64 98, .int .i64 98]]]] (.sl true 1 (partsAB.map (eSpans false))) [] := by unfold partsAB; exact fits_take (fits_sSetParts [[⟨97, 97⟩], [⟨98, 98⟩]] (by simp) (by simp))
 have tail : ∀ s : Bool, o.isSome = s → (s = true → t ≠ 0) → V = (⟨partsAB, anyRows b (1 + m) (Q + 1) (1 + m), anyAcc b (Q + 1) (1 + m)⟩, Q + 1 + 4 * (1 + m)) := fun s h1 h2 => by
  rw [eV, if_neg]; rintro ⟨a, c⟩; exact h2 (h1 ▸ a) c
 generalize partsAB = P at *
 have eI : ∀ z : List Int, eInts true z = .sl true 1 (z.map eInt) := fun _ => rfl
 have eT : ∀ z : Int, eInt z = .int .i64 z := fun _ => rfl
 by_cases hd : o.isSome = true ∧ t = 0
 ·obtain ⟨h1, h2⟩ := hd
  rw [if_pos ⟨h1, h2⟩] at eV
  subst eV
  subst h2
  rw [h1] at cD
  generalize o.getD zDfa = d at *
  unfold eRd eDfa2 at *
  refine fits_of_cell 2 53 [0] [0, 2, 3, 4, 5, 6, 7, 8, 9, 21, 35, 40] func62 rfl rfl rfl (by show 2 < 66; decide) (by show 1 ≤ 66; decide) (by rfl) (by rfl) (by show 1 ≤ 1; decide) (by rfl) (run_of ?_)
  (first | refine Zo (Z4 tis fls @dx @ux) ?_ | exact Zc (Z4 tis fls @dx @ux))
  refine callM 0 cR ?_
  (first | refine Zo (Z5 tis fls @dx @ux @LLdrosin) ?_ | exact Zc (Z5 tis fls @dx @ux @LLdrosin))
  refine callV cD ?_
  (first | refine Zo (Z7 tis fls @dx @ux @LLdrosin @ex_eq @exGo_tup) ?_ | exact Zc (Z7 tis fls @dx @ux @LLdrosin @ex_eq @exGo_tup))
  refine callM 0 c2 ?_
  (first | refine Zo (Z5 tis fls @dx @ux @LLdrosin) ?_ | exact Zc (Z5 tis fls @dx @ux @LLdrosin))
  done
 ·rw [if_neg hd] at eV
  subst eV
  generalize o.getD zDfa = d at *
  unfold eRd eDfa2 at *
  rcases Bool.eq_false_or_eq_true o.isSome with h1 | h1
  ·have ht : t ≠ 0 := fun e => hd ⟨h1, e⟩
   have ht' : ¬ (t : Int) = 0 := by omega
   rw [h1] at cD
   rw [if_pos h1] at eQ
   rw [← eQ] at c2
   refine fits_of_cell 2 53 [0] [0, 2, 3, 4, 5, 6, 7, 8, 9, 21, 35, 40] func62 rfl rfl rfl (by show 2 < 66; decide) (by show 1 ≤ 66; decide) (by rfl) (by rfl) (by show 1 ≤ 1; decide) (by rfl) (run_of ?_)
   (first | refine Zo (Z4 tis fls @dx @ux) ?_ | exact Zc (Z4 tis fls @dx @ux))
   refine callM 0 cR ?_
   (first | refine Zo (Z5 tis fls @dx @ux @LLdrosin) ?_ | exact Zc (Z5 tis fls @dx @ux @LLdrosin))
   refine callV cD ?_
   (first | refine Zo (Z7 tis fls @dx @ux @LLdrosin @ex_eq @exGo_tup) ?_ | exact Zc (Z7 tis fls @dx @ux @LLdrosin @ex_eq @exGo_tup))
   refine callM 0 c2 ?_
   (first | refine Zo (Z6 tis fls @dx @ux @LLdrosin @ht') ?_ | exact Zc (Z6 tis fls @dx @ux @LLdrosin @ht'))
   refine callV cP ?_
   (first | refine Zo (Z5 tis fls @dx @ux @LLdrosin) ?_ | exact Zc (Z5 tis fls @dx @ux @LLdrosin))
   refine callM 0 c6 ?_
   (first | refine Zo (Z5 tis fls @dx @ux @LLdrosin) ?_ | exact Zc (Z5 tis fls @dx @ux @LLdrosin))
   refine run_loop (α := Nat) (fun i => i ≤ 1 + m) (fun i => [(0, .box (.agg [.sl false 1 (bytesA b), .int .i64 ((Q + 1 + 4 * i : Nat) : Int)])), (2, .box (.agg [.sl true 1 [], .sl true 1 [], .sl true 1 []])), (5, .box (.agg [.sl true 1 (P.map (eSpans false)), .sl true 1 ((anyRows b (1 + m) (Q + 1) i).map (eInts true)), .sl true 1 ((anyAcc b (Q + 1) i).map eInt)])), (6, .int .i64 ((1 + m : Nat) : Int)), (7, .int .i64 i)]) (fun i => 1 + m - i) 0 (Nat.zero_le _) ?_ ?_
   ·have a1 : anyRows b (1 + m) (Q + 1) 0 = [] := rfl
    have a2 : anyAcc b (Q + 1) 0 = [] := rfl
    rw [a1, a2]
    (first | refine Zo (Z3 tis fls @LLmapnil) ?_ | exact Zc (Z3 tis fls @LLmapnil))
   ·intro i hi'
    by_cases hi : i < 1 + m
    ·have l1 : (anyRows b (1 + m) (Q + 1) i).length = i := by simp [anyRows]
     have l2 : (anyAcc b (Q + 1) i).length = i := by simp [anyAcc]
     have s1 := anyRows_s b (1 + m) (Q + 1) i
     have s2 := anyAcc_s b (Q + 1) i
     have e3 : Q + 1 + 4 * (i + 1) = Q + 1 + 4 * i + 3 + 1 := by omega
     have hp3 : Q + 1 + 4 * i ≤ 510000 := by omega
     generalize hR : Q + 1 + 4 * i = r at *
     have cN := fits_num b hb (r + 3) (by omega) acc4 (by decide) (by decide)
     have eA : acc4.map eInt = [.int .i64 (-1), .int .i64 (-1), .int .i64 0, .int .i64 1] := rfl
     rw [eA] at cN
     generalize numV b (r + 3) acc4 = ac at *
     unfold eRd at cN
     (first | refine Zo (Z4 tis fls @dx @ux) ?_ | exact Zc (Z4 tis fls @dx @ux))
     refine run_loop (α := Nat) (fun k => k ≤ 3) (fun k => [(0, .box (.agg [.sl false 1 (bytesA b), .int .i64 ((r + k : Nat) : Int)])), (2, .box (.agg [.sl true 1 [], .sl true 1 [], .sl true 1 []])), (5, .box (.agg [.sl true 1 (P.map (eSpans false)), .sl true 1 ((anyRows b (1 + m) (Q + 1) i).map (eInts true)), .sl true 1 ((anyAcc b (Q + 1) i).map eInt)])), (6, .int .i64 ((1 + m : Nat) : Int)), (7, .int .i64 i), (8, .sl true 1 ((rowAt b (1 + m) r k).map eInt)), (9, .int .i64 k)]) (fun k => 3 - k) 0 (Nat.zero_le _) ?_ ?_
     ·have a1 : rowAt b (1 + m) r 0 = [] := rfl
      rw [a1]
      (first | refine Zo (Z3 tis fls @LLmapnil) ?_ | exact Zc (Z3 tis fls @LLmapnil))
     ·intro k hk'
      by_cases hk : k < 3
      ·have cK := fits_pick b hb (r + k) (by omega) (1 + m + 1) (by omega) (by omega)
       have s3 := rowAt_s b (1 + m) r k
       have l3 : (rowAt b (1 + m) r k).length = k := by simp [rowAt]
       have hpl := pickV_lt b (r + k) (n := 1 + m + 1) (by omega)
       generalize pickV b (r + k) (1 + m + 1) = pk at *
       unfold eRd at cK
       (first | refine Zo (Z4 tis fls @dx @ux) ?_ | exact Zc (Z4 tis fls @dx @ux))
       refine callM 0 cK ?_
       (first | refine Zo (Z6 tis fls @dx @ux @LLdrosin @l3) ?_ | exact Zc (Z6 tis fls @dx @ux @LLdrosin @l3))
       refine round_normal (k + 1) (by omega) ?_ (by show 3 - (k + 1) < 3 - k; omega)
       rw [s3, List.map_append, List.map_cons, List.map_nil, eT]
       (first | refine Zo tis ?_ | exact Zc tis)
       omega
      ·obtain rfl : k = 3 := by omega
       (first | refine Zo (Z4 tis fls @dx @ux) ?_ | exact Zc (Z4 tis fls @dx @ux))
       refine .inr (run_mixl 61 [] [0, 60] 6 [[], []] (by kernel_rfl) ?_)
       (first | refine Zo (Z4 tis fls @dx @ux) ?_ | exact Zc (Z4 tis fls @dx @ux))
       refine callGF 0 cN ?_
       (first | refine Zo (Z7 tis fls @dx @ux @LLdrosin @l1 @l2) ?_ | exact Zc (Z7 tis fls @dx @ux @LLdrosin @l1 @l2))
       refine round_normal (i + 1) (by omega) ?_ (by show 1 + m - (i + 1) < 1 + m - i; omega)
       rw [s1, s2, List.map_append, List.map_append, List.map_cons, List.map_nil, List.map_cons, List.map_nil, eT, eI]
       (first | refine Zo tis ?_ | exact Zc tis)
       omega
    ·obtain rfl : i = 1 + m := by omega
     (first | refine Zo (Z4 tis fls @dx @ux) ?_ | exact Zc (Z4 tis fls @dx @ux))
  ·rw [h1] at cD
   rw [if_neg (by rw [h1]; decide)] at eQ
   obtain rfl : Q = q := eQ
   refine fits_of_cell 2 53 [0] [0, 2, 3, 4, 5, 6, 7, 8, 9, 21, 35, 40] func62 rfl rfl rfl (by show 2 < 66; decide) (by show 1 ≤ 66; decide) (by rfl) (by rfl) (by show 1 ≤ 1; decide) (by rfl) (run_of ?_)
   (first | refine Zo (Z4 tis fls @dx @ux) ?_ | exact Zc (Z4 tis fls @dx @ux))
   refine callM 0 cR ?_
   (first | refine Zo (Z5 tis fls @dx @ux @LLdrosin) ?_ | exact Zc (Z5 tis fls @dx @ux @LLdrosin))
   refine callV cD ?_
   (first | refine Zo (Z7 tis fls @dx @ux @LLdrosin @ex_eq @exGo_tup) ?_ | exact Zc (Z7 tis fls @dx @ux @LLdrosin @ex_eq @exGo_tup))
   refine callV cP ?_
   (first | refine Zo (Z5 tis fls @dx @ux @LLdrosin) ?_ | exact Zc (Z5 tis fls @dx @ux @LLdrosin))
   refine callM 0 c6 ?_
   (first | refine Zo (Z5 tis fls @dx @ux @LLdrosin) ?_ | exact Zc (Z5 tis fls @dx @ux @LLdrosin))
   refine run_loop (α := Nat) (fun i => i ≤ 1 + m) (fun i => [(0, .box (.agg [.sl false 1 (bytesA b), .int .i64 ((Q + 1 + 4 * i : Nat) : Int)])), (2, .box (.agg [.sl true 1 [], .sl true 1 [], .sl true 1 []])), (5, .box (.agg [.sl true 1 (P.map (eSpans false)), .sl true 1 ((anyRows b (1 + m) (Q + 1) i).map (eInts true)), .sl true 1 ((anyAcc b (Q + 1) i).map eInt)])), (6, .int .i64 ((1 + m : Nat) : Int)), (7, .int .i64 i)]) (fun i => 1 + m - i) 0 (Nat.zero_le _) ?_ ?_
   ·have a1 : anyRows b (1 + m) (Q + 1) 0 = [] := rfl
    have a2 : anyAcc b (Q + 1) 0 = [] := rfl
    rw [a1, a2]
    (first | refine Zo (Z3 tis fls @LLmapnil) ?_ | exact Zc (Z3 tis fls @LLmapnil))
   ·intro i hi'
    by_cases hi : i < 1 + m
    ·have l1 : (anyRows b (1 + m) (Q + 1) i).length = i := by simp [anyRows]
     have l2 : (anyAcc b (Q + 1) i).length = i := by simp [anyAcc]
     have s1 := anyRows_s b (1 + m) (Q + 1) i
     have s2 := anyAcc_s b (Q + 1) i
     have e3 : Q + 1 + 4 * (i + 1) = Q + 1 + 4 * i + 3 + 1 := by omega
     have hp3 : Q + 1 + 4 * i ≤ 510000 := by omega
     generalize hR : Q + 1 + 4 * i = r at *
     have cN := fits_num b hb (r + 3) (by omega) acc4 (by decide) (by decide)
     have eA : acc4.map eInt = [.int .i64 (-1), .int .i64 (-1), .int .i64 0, .int .i64 1] := rfl
     rw [eA] at cN
     generalize numV b (r + 3) acc4 = ac at *
     unfold eRd at cN
     (first | refine Zo (Z4 tis fls @dx @ux) ?_ | exact Zc (Z4 tis fls @dx @ux))
     refine run_loop (α := Nat) (fun k => k ≤ 3) (fun k => [(0, .box (.agg [.sl false 1 (bytesA b), .int .i64 ((r + k : Nat) : Int)])), (2, .box (.agg [.sl true 1 [], .sl true 1 [], .sl true 1 []])), (5, .box (.agg [.sl true 1 (P.map (eSpans false)), .sl true 1 ((anyRows b (1 + m) (Q + 1) i).map (eInts true)), .sl true 1 ((anyAcc b (Q + 1) i).map eInt)])), (6, .int .i64 ((1 + m : Nat) : Int)), (7, .int .i64 i), (8, .sl true 1 ((rowAt b (1 + m) r k).map eInt)), (9, .int .i64 k)]) (fun k => 3 - k) 0 (Nat.zero_le _) ?_ ?_
     ·have a1 : rowAt b (1 + m) r 0 = [] := rfl
      rw [a1]
      (first | refine Zo (Z3 tis fls @LLmapnil) ?_ | exact Zc (Z3 tis fls @LLmapnil))
     ·intro k hk'
      by_cases hk : k < 3
      ·have cK := fits_pick b hb (r + k) (by omega) (1 + m + 1) (by omega) (by omega)
       have s3 := rowAt_s b (1 + m) r k
       have l3 : (rowAt b (1 + m) r k).length = k := by simp [rowAt]
       have hpl := pickV_lt b (r + k) (n := 1 + m + 1) (by omega)
       generalize pickV b (r + k) (1 + m + 1) = pk at *
       unfold eRd at cK
       (first | refine Zo (Z4 tis fls @dx @ux) ?_ | exact Zc (Z4 tis fls @dx @ux))
       refine callM 0 cK ?_
       (first | refine Zo (Z6 tis fls @dx @ux @LLdrosin @l3) ?_ | exact Zc (Z6 tis fls @dx @ux @LLdrosin @l3))
       refine round_normal (k + 1) (by omega) ?_ (by show 3 - (k + 1) < 3 - k; omega)
       rw [s3, List.map_append, List.map_cons, List.map_nil, eT]
       (first | refine Zo tis ?_ | exact Zc tis)
       omega
      ·obtain rfl : k = 3 := by omega
       (first | refine Zo (Z4 tis fls @dx @ux) ?_ | exact Zc (Z4 tis fls @dx @ux))
       refine .inr (run_mixl 61 [] [0, 60] 6 [[], []] (by kernel_rfl) ?_)
       (first | refine Zo (Z4 tis fls @dx @ux) ?_ | exact Zc (Z4 tis fls @dx @ux))
       refine callGF 0 cN ?_
       (first | refine Zo (Z7 tis fls @dx @ux @LLdrosin @l1 @l2) ?_ | exact Zc (Z7 tis fls @dx @ux @LLdrosin @l1 @l2))
       refine round_normal (i + 1) (by omega) ?_ (by show 1 + m - (i + 1) < 1 + m - i; omega)
       rw [s1, s2, List.map_append, List.map_append, List.map_cons, List.map_nil, List.map_cons, List.map_nil, eT, eI]
       (first | refine Zo tis ?_ | exact Zc tis)
       omega
    ·obtain rfl : i = 1 + m := by omega
     (first | refine Zo (Z4 tis fls @dx @ux) ?_ | exact Zc (Z4 tis fls @dx @ux))
theorem has_len {s : List Span} {b : Int} (h : hasB s b = true) : 0 < s.length := by
 cases s with
 | nil => simp [hasB] at h
 | cons x s => simp
theorem parts_cover {S : List (List Span)} (hS : S.all setB = true) {b : Nat} (hb : b < 256) : ∃ p ∈ partsL S, hasB p (b : Int) = true := by
 have step : ∀ (L : List (List Span)) (s : List Span), setB s = true → (∀ p ∈ L, setB p = true) → (∃ p ∈ L, hasB p (b : Int) = true) → ∃ p ∈ partsN L s, hasB p (b : Int) = true := by
  rintro L s hs hL ⟨p, hp, h⟩
  unfold partsN
  cases hc : hasB s (b : Int) with
  | true =>
   have e : hasB (meetL p s) (b : Int) = true := by rw [meetL_has (hL p hp) hs hb, h, hc]; rfl
   exact ⟨_, List.mem_flatMap.2 ⟨p, hp, by unfold cutP; rw [if_pos (has_len e)]; simp⟩, e⟩
  | false =>
   have e : hasB (meetL p (notL s)) (b : Int) = true := by rw [meetL_has (hL p hp) (notL_ok s) hb, h, notL_has hs hb, hc]; rfl
   exact ⟨_, List.mem_flatMap.2 ⟨p, hp, by unfold cutP; rw [if_pos (has_len e)]; simp⟩, e⟩
 have key : ∀ (l L : List (List Span)), l.all setB = true → Cuts L → (∃ p ∈ L, hasB p (b : Int) = true) → Cuts (l.foldl partsN L) ∧ ∃ p ∈ l.foldl partsN L, hasB p (b : Int) = true := by
  intro l
  induction l with
  | nil => intro L _ hC h; exact ⟨hC, h⟩
  | cons s l ih =>
   intro L hl hC h
   simp only [List.all_cons, Bool.and_eq_true] at hl
   exact ih _ hl.2 (hC.step hl.1) (step L s hl.1 (fun p hp => (hC.ok p hp).1) h)
 obtain ⟨hC, p, hp, h⟩ := key S _ hS cuts_0 ⟨[⟨0, 255⟩], by simp, by simp [hasB]; omega⟩
 unfold partsL
 rw [if_pos hS]
 obtain ⟨h1, h2⟩ := hC.ok p hp
 obtain ⟨n, hn, e, _⟩ := has_first h1 h2
 refine ⟨p, ?_, h⟩
 unfold sortP sortN
 exact List.mem_flatMap.2 ⟨n, List.mem_range.2 hn, List.mem_filter.2 ⟨hp, by simpa using e⟩⟩
theorem parts_pos {S : List (List Span)} (hS : S.all setB = true) : 0 < (partsL S).length := by
 obtain ⟨p, hp, _⟩ := parts_cover hS (b := 0) (by decide)
 exact List.length_pos_of_mem hp
theorem setsR_ok : ∀ (d : Nat) (r : Rex), fm d r = true → ∀ s ∈ setsR r, setB s = true
 | 0, r, h => by simp [fm] at h
 | d + 1, r, h => by
  obtain ⟨_, _, h3, h4⟩ := fm_ok h
  intro s hs
  rw [setsR_eq, List.mem_append] at hs
  rcases hs with hs | hs
  ·split at hs
   ·simp at hs; subst hs; exact h3
   ·simp at hs
  ·obtain ⟨l, hl, hs⟩ := List.mem_flatten.1 hs
   obtain ⟨x, hx, rfl⟩ := List.mem_map.1 hl
   exact setsR_ok d x (h4 x hx) s hs
theorem setsV_ok {l : List Rule} (h : ROk l) : (setsV l).all setB = true := by
 rw [List.all_eq_true]
 intro s hs
 unfold setsV at hs
 obtain ⟨m, hm, hs⟩ := List.mem_flatten.1 hs
 obtain ⟨x, hx, rfl⟩ := List.mem_map.1 hm
 obtain ⟨d, hd⟩ := (h.ok x hx).1
 exact setsR_ok d _ hd s hs
theorem machF_pos {P : List (List Span)} : ∀ n s A rows acc d, 0 < A.length → rows.length = s → acc.length = s → machF P n s A rows acc = some d → 0 < d.rows.length ∧ d.acc.length = d.rows.length := by
 intro n
 induction n with
 | zero => intro s A rows acc d _ _ _ h; simp [machF] at h
 | succ n ih =>
  intro s A rows acc d h1 h2 h3 h
  by_cases hs : s < A.length
  ·rw [machF, List.getElem?_eq_getElem hs] at h
   simp only at h
   have key : ∀ (v : List Rex) (ps : List (List Span)) B row z, 0 < B.length → rowF v ps B row = some z → 0 < z.1.length := by
    intro v ps
    induction ps with
    | nil => intro B row z hB hz; simp only [rowF, Option.some.injEq] at hz; subst hz; exact hB
    | cons p ps ih2 =>
     intro B row z hB hz
     simp only [rowF] at hz
     cases hc : colS B row (vecR (firstB p) v) with
     | none => rw [hc] at hz; cases hz
     | some y =>
      rw [hc] at hz
      refine ih2 _ _ _ ?_ hz
      unfold colS at hc
      split at hc
      ·split at hc
       ·cases hc
       ·simp only [Option.some.injEq] at hc; subst hc; simp
      ·simp only [Option.some.injEq] at hc; subst hc; exact hB
   cases hr : rowF A[s] P A [] with
   | none => rw [hr] at h; cases h
   | some z =>
    rw [hr] at h
    exact ih (s + 1) z.1 _ _ d (key _ _ _ _ z h1 hr) (by simp [h2]) (by simp [h3]) h
  ·rw [machF, List.getElem?_eq_none (by omega)] at h
   simp only [Option.some.injEq] at h; subst h
   exact ⟨by show 0 < rows.length; omega, by show acc.length = rows.length; omega⟩
theorem anyV_pos (b : List UInt8) (p : Nat) : 0 < (anyV b p).1.parts.length ∧ 0 < (anyV b p).1.rows.length ∧ (anyV b p).1.acc.length = (anyV b p).1.rows.length ∧ (∀ r ∈ (anyV b p).1.rows, 0 < r.length) := by
 unfold anyV
 split
 ·rename_i h
  have hd := h.1
  unfold dfaV at hd ⊢
  split at hd
  case isFalse => simp at hd
  rename_i hr
  rw [if_pos hr]
  have hR := rulesB_ok hr
  obtain ⟨d, he⟩ := Option.isSome_iff_exists.1 hd
  rw [he]
  simp only [Option.getD_some]
  have hp := parts_pos (setsV_ok hR)
  obtain ⟨a, _, _, e⟩ := machF_small (L := (rulesV b p).1.length) 41 0 [startV (rulesV b p).1] [] [] d (Nat.zero_le _) (by simp) (by simpa using hR.start) rfl rfl (by simp) he
  obtain ⟨x, y⟩ := machF_pos 41 0 [startV (rulesV b p).1] [] [] d (by simp) rfl rfl he
  exact ⟨by rw [a]; exact hp, x, y, fun r hr => by rw [e r hr]; exact hp⟩
 ·generalize pickV b (anyQ b p) 6 = m
  refine ⟨?_, ?_, ?_, ?_⟩
  ·unfold partsAB; exact parts_pos (S := [[⟨97, 97⟩], [⟨98, 98⟩]]) (by decide)
  ·simp [anyRows]; omega
  ·simp [anyRows, anyAcc]
  ·intro r hr
   simp only at hr
   unfold anyRows at hr
   obtain ⟨s, _, rfl⟩ := List.mem_map.1 hr
   simp [rowAt]
def acc2 : List Int := [-2, 5]
def bentD (b : List UInt8) (d : Dfa) (q k : Nat) : Dfa × Nat :=
 if k = 0 then ({ d with rows := [] }, q)
 else if k = 1 then ({ d with acc := d.acc.set 0 (numV b q acc2) }, q + 1)
 else if k = 2 then ({ d with rows := d.rows.set 0 ((d.rows.getD 0 []).set 0 d.rows.length) }, q)
 else if k = 3 then ({ d with parts := d.parts.drop 1 }, q)
 else (d, q)
noncomputable def bent7V (b : List UInt8) (p : Nat) : Dfa × Nat := bentD b (anyV b p).1 ((anyV b p).2 + 1) (pickV b (anyV b p).2 48)
theorem bent7V_small (b : List UInt8) (p : Nat) : Small (bent7V b p).1 := by
 obtain ⟨h1, h2, h3, h4, h5⟩ := anyV_small b p
 obtain ⟨_, g2, _, _⟩ := anyV_pos b p
 unfold bent7V bentD
 generalize (anyV b p).1 = d at *
 split
 ·exact ⟨h1, h2, by simp, by simp [sumS], h5⟩
 ·split
  ·exact ⟨h1, h2, h3, h4, by simpa using h5⟩
  ·split
   ·refine ⟨h1, h2, by simpa using h3, ?_, h5⟩
    simp only
    have e : (d.rows.set 0 ((d.rows.getD 0 []).set 0 d.rows.length)).map List.length = d.rows.map List.length := by
     cases hd : d.rows with
     | nil => rw [hd] at g2; simp at g2
     | cons r l => simp
    unfold sumS at *
    rw [e]; exact h4
   ·split
    ·refine ⟨by simp only [List.length_drop]; omega, ?_, h3, h4, h5⟩
     have := sumS_mono d.parts 1
     simp only
     unfold sumS at *
     have e := congrArg List.sum (congrArg (List.map List.length) (List.take_append_drop 1 d.parts))
     rw [List.map_append, List.sum_append] at e
     omega
    ·exact ⟨h1, h2, h3, h4, h5⟩
theorem fits_l7Bent (b : List UInt8) (hb : b.length ≤ 2000) (p : Nat) (hp : p ≤ 400000) : Fits prog 54 [.box (eRd b p)] (eDfa false (bent7V b p).1) [.box (eRd b (bent7V b p).2)] := by
 have cA := fits_l7Any2 b hb p (by omega)
 have hle := anyV_le b p
 obtain ⟨g1, g2, g3, g4⟩ := anyV_pos b p
 obtain ⟨s1, _, s3, _, s5⟩ := anyV_small b p
 unfold bent7V
 generalize anyV b p = z at *
 obtain ⟨d, q⟩ := z
 simp only at *
 have cK : Fits prog 34 [.box (eRd b q), .int .i64 48] (.int .i64 (pickV b q 48)) [.box (eRd b (q + 1))] := fits_pick b hb q (by omega) 48 (by omega) (by omega)
 generalize pickV b q 48 = k at *
 obtain ⟨P, R, A⟩ := d
 simp only at *
 unfold bentD
 by_cases k0 : k = 0
 ·subst k0
  rw [if_pos rfl]
  unfold eRd eDfa2 at *
  unfold eDfa
  refine fits_of_cell 2 53 [0] [0, 2, 3, 7, 8, 14, 22, 32] func54 rfl rfl rfl (by show 2 < 39; decide) (by show 1 ≤ 39; decide) (by rfl) (by rfl) (by show 1 ≤ 1; decide) (by rfl) (run_of ?_)
  (first | refine Zo (Z3 tis fls @dx) ?_ | exact Zc (Z3 tis fls @dx))
  refine callM 0 cA ?_
  (first | refine Zo (Z4 tis fls @dx @LLdrosin) ?_ | exact Zc (Z4 tis fls @dx @LLdrosin))
  refine callMF [(3, [0])] 0 cK ?_
  (first | refine Zo (Z4 tis fls @dx @LLdrosin) ?_ | exact Zc (Z4 tis fls @dx @LLdrosin))
  done
 rw [if_neg k0]
 have k0' : ¬ (k : Int) = 0 := by omega
 by_cases k3 : k = 3
 ·subst k3
  rw [if_neg (by decide), if_neg (by decide), if_pos rfl]
  have e1 : ((P.drop 1).map (eSpans false)) = (P.map (eSpans false)).drop 1 := by simp
  unfold eRd eDfa2 at *
  unfold eDfa
  simp only [e1]
  refine fits_of_cell 2 53 [0] [0, 2, 3, 7, 8, 14, 22, 32] func54 rfl rfl rfl (by show 2 < 39; decide) (by show 1 ≤ 39; decide) (by rfl) (by rfl) (by show 1 ≤ 1; decide) (by rfl) (run_of ?_)
  (first | refine Zo (Z3 tis fls @dx) ?_ | exact Zc (Z3 tis fls @dx))
  refine callM 0 cA ?_
  (first | refine Zo (Z4 tis fls @dx @LLdrosin) ?_ | exact Zc (Z4 tis fls @dx @LLdrosin))
  refine callMF [(3, [0])] 0 cK ?_
  (first | refine Zo (Z4 tis fls @dx @LLdrosin) ?_ | exact Zc (Z4 tis fls @dx @LLdrosin))
  exact .inl (by rw [List.take_of_length_le (by simp)])
 have k3' : ¬ (k : Int) = 3 := by omega
 by_cases k1 : k = 1
 ·subst k1
  rw [if_pos rfl]
  refine fits_as2 (res := eDfa2 ⟨P, R, A.set 0 (numV b (q + 1) acc2)⟩) ?_ (er_dfa2 _)
  have cN := fits_num b hb (q + 1) (by omega) acc2 (by decide) (by decide)
  generalize numV b (q + 1) acc2 = x at *
  have e1 : (A.set 0 x).map eInt = (A.map eInt).set 0 (.int .i64 x) := by rw [List.map_set]; rfl
  unfold eRd eDfa2 at *
  simp only [e1]
  refine fits_of_cell 2 53 [0] [0, 2, 3, 7, 8, 14, 22, 32] func54 rfl rfl rfl (by show 2 < 39; decide) (by show 1 ≤ 39; decide) (by rfl) (by rfl) (by show 1 ≤ 1; decide) (by rfl) (run_of ?_)
  (first | refine Zo (Z3 tis fls @dx) ?_ | exact Zc (Z3 tis fls @dx))
  refine callM 0 cA ?_
  (first | refine Zo (Z4 tis fls @dx @LLdrosin) ?_ | exact Zc (Z4 tis fls @dx @LLdrosin))
  refine callM 0 cK ?_
  (first | refine Zo (Z4 tis fls @dx @LLdrosin) ?_ | exact Zc (Z4 tis fls @dx @LLdrosin))
  refine .inr (run_mixl 20 [] [0, 19] 6 [[]] (by kernel_rfl) ?_)
  (first | refine Zo (Z3 tis fls @dx) ?_ | exact Zc (Z3 tis fls @dx))
  refine callGF 0 cN ?_
  simp -implicitDefEqProofs (disch := first | (intros; contradiction) | omega) only [am0, am1, am2, am3, am4, am5, am6, Nat.reduceSub, ↓reduceIte, reduceCtorEq, Nat.reduceEqDiff, Nat.reduceBEq, Nat.reduceAdd, Nat.reduceLT, Nat.reduceBNe, Nat.reduceMul, ↓reduceIte, tis, fls, dx, List.dropLast_singleton, acc2, eInt]
  done
 rw [if_neg k1]
 have k1' : ¬ (k : Int) = 1 := by omega
 by_cases k2 : k = 2
 ·subst k2
  rw [if_pos rfl]
  refine fits_as2 (res := eDfa2 ⟨P, R.set 0 ((R.getD 0 []).set 0 R.length), A⟩) ?_ (er_dfa2 _)
  have gr : R.getD 0 [] = R[0] := by simp [List.getD, g2]
  have gl := g4 _ (List.getElem_mem g2)
  have e1 : (R.map (eInts true))[0]? = some (.sl true 1 (R[0].map eInt)) := by simp [g2, eInts]
  have e2 : (R.map (eInts true)).getD 0 .undef = .sl true 1 (R[0].map eInt) := by simp [List.getD, g2, eInts]
  have e3 : (R.set 0 ((R.getD 0 []).set 0 (R.length : Int))).map (eInts true) = (R.map (eInts true)).set 0 (.sl true 1 ((R[0].map eInt).set 0 (.int .i64 (R.length : Int)))) := by
   rw [gr, List.map_set]; unfold eInts; rw [List.map_set]; rfl
  unfold eRd eDfa2 at *
  simp only [e3]
  have ei : ∀ z : Int, eInt z = .int .i64 z := fun _ => rfl
  refine fits_of_cell 2 53 [0] [0, 2, 3, 7, 8, 14, 22, 32] func54 rfl rfl rfl (by show 2 < 39; decide) (by show 1 ≤ 39; decide) (by rfl) (by rfl) (by show 1 ≤ 1; decide) (by rfl) (run_of ?_)
  (first | refine Zo (Z3 tis fls @dx) ?_ | exact Zc (Z3 tis fls @dx))
  refine callM 0 cA ?_
  (first | refine Zo (Z4 tis fls @dx @LLdrosin) ?_ | exact Zc (Z4 tis fls @dx @LLdrosin))
  refine callM 0 cK ?_
  (first | refine Zo (Z6 tis fls @dx @LLdrosin @e1 @e2) ?_ | exact Zc (Z6 tis fls @dx @LLdrosin @e1 @e2))
  refine .inl ⟨by kernel_rfl, ?_⟩
  (first | refine Zo (Z7 tis fls @dx @LLdrosin @e1 @e2 @ei) ?_ | exact Zc (Z7 tis fls @dx @LLdrosin @e1 @e2 @ei))
  done
 rw [if_neg k2, if_neg k3]
 have k2' : ¬ (k : Int) = 2 := by omega
 refine fits_as2 (res := eDfa2 ⟨P, R, A⟩) ?_ (er_dfa2 _)
 unfold eRd eDfa2 at *
 refine fits_of_cell 2 53 [0] [0, 2, 3, 7, 8, 14, 22, 32] func54 rfl rfl rfl (by show 2 < 39; decide) (by show 1 ≤ 39; decide) (by rfl) (by rfl) (by show 1 ≤ 1; decide) (by rfl) (run_of ?_)
 (first | refine Zo (Z3 tis fls @dx) ?_ | exact Zc (Z3 tis fls @dx))
 refine callM 0 cA ?_
 (first | refine Zo (Z4 tis fls @dx @LLdrosin) ?_ | exact Zc (Z4 tis fls @dx @LLdrosin))
 refine callM 0 cK ?_
 (first | refine Zo (Z8 tis fls @dx @k0' @k1' @k2' @k3' @LLdrosin) ?_ | exact Zc (Z8 tis fls @dx @k0' @k1' @k2' @k3' @LLdrosin))
 done
theorem fits_drawProgOf (c : List UInt8) (hc : c.length ≤ 9223372036854775807) : Fits prog 25 [.sl false 1 (bytesA c)] (eDfa false (bent7V (c.take 2000) 0).1) [] := by
 have cO := fits_open c hc
 have hb := take_len c
 generalize c.take 2000 = b at *
 have cP := fits_l7Bent b hb 0 (by omega)
 generalize bent7V b 0 = z at *
 unfold eRd eDfa at *
 refine fits_of_cell 2 53 [] [0, 2] func25 rfl rfl rfl (by show 2 < 6; decide) (by show 1 ≤ 6; decide) (by rfl) (by rfl) (by show 0 ≤ 1; decide) (by rfl) (run_of ?_)
 (first | refine Zo (Z3 tis fls @dx) ?_ | exact Zc (Z3 tis fls @dx))
 refine callB cO ?_
 (first | refine Zo (Z3 tis fls @dx) ?_ | exact Zc (Z3 tis fls @dx))
 refine callM 0 cP ?_
 (first | refine Zo (Z4 tis fls @dx @LLdrosin) ?_ | exact Zc (Z4 tis fls @dx @LLdrosin))

def glV (d : Dfa) (s k : Nat) : Int := (d.rows.getD s []).getD k 0
def acV (d : Dfa) (s : Nat) : Int := d.acc.getD s 0
def ifI (to : Int) (x : Span) : Ins := ⟨3, x.lo, x.hi, to⟩
def ifsN (d : Dfa) (s : Nat) (f : Int → Int) : Nat → List Ins
 | 0 => []
 | k + 1 => ifsN d s f k ++ (if 0 ≤ glV d s k then (d.parts.getD k []).map (ifI (f (glV d s k))) else [])
def headL (d : Dfa) (s : Nat) : List Ins := (if 0 ≤ acV d s then [⟨1, acV d s, 0, 0⟩] else []) ++ [⟨2, 0, 0, 0⟩]
def stL (d : Dfa) (f : Int → Int) (s : Nat) : List Ins := headL d s ++ ifsN d s f d.parts.length ++ [⟨4, 0, 0, 0⟩]
def outN (d : Dfa) (f : Int → Int) : Nat → List Ins
 | 0 => []
 | n + 1 => outN d f n ++ stL d f n
def labI (d : Dfa) (x : Int) : Int := (outN d id x.toNat).length
theorem ifsN_le (d : Dfa) (s : Nat) (f : Int → Int) : ∀ k, k ≤ d.parts.length → (ifsN d s f k).length ≤ sumS (d.parts.take k)
 | 0, _ => by simp [ifsN]
 | k + 1, h => by
  have ih := ifsN_le d s f k (by omega)
  have e := sumS_take d.parts k (by omega)
  have g : d.parts.getD k [] = d.parts[k] := by simp [List.getD, show k < d.parts.length by omega]
  simp only [ifsN, List.length_append, g]
  split
  ·simp only [List.length_map]; omega
  ·simp; omega
theorem ifsN_len (d : Dfa) (s : Nat) (f g : Int → Int) : ∀ k, (ifsN d s f k).length = (ifsN d s g k).length
 | 0 => rfl
 | k + 1 => by
  simp only [ifsN, List.length_append, ifsN_len d s f g k]
  split <;> simp
theorem stL_le (d : Dfa) (f : Int → Int) (s : Nat) : (stL d f s).length ≤ 3 + sumS d.parts := by
 have h := ifsN_le d s f d.parts.length (Nat.le_refl _)
 rw [List.take_length] at h
 unfold stL headL
 simp only [List.length_append, List.length_singleton]
 split <;> simp <;> omega
theorem outN_le (d : Dfa) (f : Int → Int) : ∀ n, (outN d f n).length ≤ n * (3 + sumS d.parts)
 | 0 => by simp [outN]
 | n + 1 => by
  have h1 := outN_le d f n
  have h2 := stL_le d f n
  have e : (n + 1) * (3 + sumS d.parts) = n * (3 + sumS d.parts) + (3 + sumS d.parts) := Nat.succ_mul ..
  simp only [outN, List.length_append]
  omega
theorem outN_len (d : Dfa) (f g : Int → Int) : ∀ n, (outN d f n).length = (outN d g n).length
 | 0 => rfl
 | n + 1 => by simp only [outN, stL, List.length_append, outN_len d f g n, ifsN_len d n f g]
structure DOk (d : Dfa) : Prop where
 sm : Small d
 n : d.rows.length ≤ 40
 a : d.acc.length = d.rows.length
 l : ∀ s (h : s < d.rows.length), d.rows[s].length = d.parts.length
 b : ∀ s (h : s < d.rows.length), ∀ k (h2 : k < d.rows[s].length), d.rows[s][k] ≤ (d.rows.length : Int) - 1
 ac : ∀ s (h : s < d.acc.length), -1 ≤ d.acc[s] ∧ d.acc[s] ≤ 4
theorem dok_of {d : Dfa} (h : Small d) (hb : dfaB d = true) : DOk d := by
 unfold dfaB at hb
 simp only [Bool.and_eq_true, decide_eq_true_eq, List.all_eq_true, List.mem_range] at hb
 obtain ⟨_, h2, h3, h4⟩ := hb
 have key : ∀ s (h5 : s < d.rows.length), d.rows[s].length = d.parts.length ∧ (-1 ≤ d.acc[s]'(by omega) ∧ d.acc[s]'(by omega) ≤ 4) ∧ ∀ x ∈ d.rows[s], -1 ≤ x ∧ x ≤ (d.rows.length : Int) - 1 := by
  intro s h5
  have := h4 s h5
  rw [rowN_at h5 (by omega)] at this
  simp only [Bool.and_eq_true, decide_eq_true_eq, List.all_eq_true] at this
  exact ⟨this.1, this.2.1, fun x hx => this.2.2 x hx⟩
 exact ⟨h, h2.2, h3, fun s h5 => (key s h5).1, fun s h5 k h6 => ((key s h5).2.2 _ (List.getElem_mem h6)).2, fun s h5 => (key s (by omega)).2.1⟩
theorem DOk.bnd {d : Dfa} (h : DOk d) (f : Int → Int) (n : Nat) (hn : n ≤ 40) : (outN d f n).length ≤ 41943160 := by
 have h1 := outN_le d f n
 have h2 := h.sm.ps
 have : n * (3 + sumS d.parts) ≤ 40 * (3 + 1048576) := Nat.mul_le_mul hn (by omega)
 omega
theorem fits_l10Head (d : Dfa) (h : DOk d) (s : Nat) (hs : s < d.rows.length) : Fits prog 109 [eDfa false d, .int .i64 s] (.int .i64 (headL d s).length) [] := by
 have ha := h.a
 have hal := h.sm.a
 have hsa : s < d.acc.length := by omega
 have e : acV d s = d.acc[s] := by simp [acV, List.getD, hsa]
 unfold headL
 rw [e]
 have ga2 : (d.acc.map eInt)[s]? = some (.int .i64 d.acc[s]) := by simp [hsa, eInt]
 generalize hae : d.acc[s] = a at *
 have ea : eInt d.acc[s] = .int .i64 a := by rw [hae]; rfl
 unfold eDfa
 by_cases h0 : 0 ≤ a
 ·rw [if_pos h0]
  refine fits_of_code [4] [] [0, 1, 2, 4, 10] func109 rfl rfl rfl (by rfl) (by show 2 ≤ 11; decide) (by rfl) (by rfl) (by show 0 ≤ 2; decide) (by rfl) (run_of ?_)
  refine Zo (Z6 tis fls @dx @ea @ga2 @h0) ?_
  rfl
 ·rw [if_neg h0]
  refine fits_of_code [4] [] [0, 1, 2, 4, 10] func109 rfl rfl rfl (by rfl) (by show 2 ≤ 11; decide) (by rfl) (by rfl) (by show 0 ≤ 2; decide) (by rfl) (run_of ?_)
  exact Zc (Z6 tis fls @dx @ea @ga2 @h0)
theorem headL_len (d : Dfa) (s : Nat) : (headL d s).length ≤ 2 := by unfold headL; split <;> simp
theorem stL_len (d : Dfa) (f : Int → Int) (s : Nat) : (stL d f s).length = (headL d s).length + 1 + (ifsN d s f d.parts.length).length := by
 unfold stL; simp; omega
theorem fits_l10Many (d : Dfa) (h : DOk d) (s : Nat) (hs : s < d.rows.length) : Fits prog 94 [eDfa false d, .int .i64 s] (.int .i64 (stL d id s).length) [] := by
 have cH := fits_l10Head d h s hs
 have hh := headL_len d s
 rw [stL_len]
 generalize (headL d s).length = H at *
 have hp := h.sm.p
 have hr := h.sm.r
 have hrl := h.sm.rc _ (List.getElem_mem hs)
 have hl := h.l s hs
 have hps := h.sm.ps
 have gr2 : (d.rows.map (eInts false))[s]? = some (.sl false 1 (d.rows[s].map eInt)) := by simp [hs, eInts]
 have gr : (d.rows.map (eInts false)).getD s .undef = .sl false 1 (d.rows[s].map eInt) := by simp [List.getD, hs, eInts]
 have eg : ∀ k, glV d s k = d.rows[s].getD k 0 := fun k => by simp [glV, List.getD, hs]
 generalize d.rows[s] = row at *
 unfold eDfa at *
 refine fits_of_code [4] [] [0, 1, 2, 4, 5, 6, 15, 26] func94 rfl rfl rfl (by rfl) (by show 2 ≤ 36; decide) (by rfl) (by rfl) (by show 0 ≤ 2; decide) (by rfl) (run_of ?_)
 simp -implicitDefEqProofs (disch := first | (intros; contradiction) | omega) only [am0, am1, am2, am3, am4, am5, am6, Nat.reduceSub, ↓reduceIte, reduceCtorEq, Nat.reduceEqDiff, Nat.reduceBEq, Nat.reduceAdd, Nat.reduceLT, Nat.reduceBNe, Nat.reduceMul, ↓reduceIte, tis, fls, dx, plain, plainL]
 refine callB cH ?_
 refine Zo (Z3 tis fls @dx) ?_
 refine run_loop (α := Nat) (fun k => k ≤ d.parts.length) (fun k => [(1, .int .i64 s), (2, .box (.agg [.sl false 1 (d.parts.map (eSpans false)), .sl false 1 (d.rows.map (eInts false)), .sl false 1 (d.acc.map eInt)])), (5, .int .i64 ((H + 1 + (ifsN d s id k).length : Nat))), (6, .int .i64 k)]) (fun k => d.parts.length - k) 0 (Nat.zero_le _) ?_ ?_
 ·simp -implicitDefEqProofs (disch := first | (intros; contradiction) | omega) only [am0, am1, am2, am3, am4, am5, am6, Nat.reduceSub, ↓reduceIte, reduceCtorEq, Nat.reduceEqDiff, Nat.reduceBEq, Nat.reduceAdd, Nat.reduceLT, Nat.reduceBNe, Nat.reduceMul, ↓reduceIte, tis, ifsN, List.length_nil]
 ·intro k hk'
  have hle := ifsN_le d s id k hk'
  have hle2 := sumS_mono d.parts k
  by_cases hk : k < d.parts.length
  ·have hkr : k < row.length := by omega
   have hS : ifsN d s id (k + 1) = ifsN d s id k ++ (if 0 ≤ glV d s k then (d.parts.getD k []).map (ifI (id (glV d s k))) else []) := rfl
   have e1 : glV d s k = row[k] := by rw [eg]; simp [List.getD, hkr]
   have e2 : d.parts.getD k [] = d.parts[k] := by simp [List.getD, hk]
   have hpl := h.sm.pc _ (List.getElem_mem hk)
   have gp2 : (d.parts.map (eSpans false))[k]? = some (.sl false 2 (d.parts[k].map eSpan)) := by simp [hk, eSpans]
   have gp : (d.parts.map (eSpans false)).getD k .undef = .sl false 2 (d.parts[k].map eSpan) := by simp [List.getD, hk, eSpans]
   have gk2 : (row.map eInt)[k]? = some (.int .i64 row[k]) := by simp [hkr, eInt]
   rw [e1, e2] at hS
   generalize hse : row[k] = x at *
   have ek : eInt row[k] = .int .i64 x := by rw [hse]; rfl
   generalize d.parts[k] = p at *
   by_cases h0 : 0 ≤ x
   ·rw [if_pos h0] at hS
    have hS2 := congrArg List.length hS
    rw [List.length_append, List.length_map] at hS2
    refine Zo (Z10 tis fls @dx @gr @gr2 @ek @gk2 @h0 @gp @gp2) ?_
    refine round_normal (k + 1) (by omega) ?_ (by show d.parts.length - (k + 1) < d.parts.length - k; omega)
    refine Zo (Z2 tis @hS2) ?_
    omega
   ·rw [if_neg h0, List.append_nil] at hS
    refine Zo (Z8 tis fls @dx @gr @gr2 @ek @gk2 @h0) ?_
    refine round_normal (k + 1) (by omega) ?_ (by show d.parts.length - (k + 1) < d.parts.length - k; omega)
    exact Zc (Z2 tis @hS)
  ·obtain rfl : k = d.parts.length := by omega
   exact Zc (Z3 tis fls @dx)
theorem fits_l10Label (d : Dfa) (h : DOk d) (s : Nat) (hs : s ≤ d.rows.length) : Fits prog 83 [eDfa false d, .int .i64 s] (.int .i64 (outN d id s).length) [] := by
 have hn := h.n
 have cM := fun i (hi : i < s) => fits_l10Many d h i (by omega)
 unfold eDfa at *
 refine fits_of_code [4] [] [0, 1, 2, 4, 5, 6, 9] func83 rfl rfl rfl (by rfl) (by show 2 ≤ 18; decide) (by rfl) (by rfl) (by show 0 ≤ 2; decide) (by rfl) (run_of ?_)
 refine Zo (Z3 tis fls @dx) ?_
 refine run_loop (α := Nat) (fun i => i ≤ s) (fun i => [(1, .int .i64 s), (2, .box (.agg [.sl false 1 (d.parts.map (eSpans false)), .sl false 1 (d.rows.map (eInts false)), .sl false 1 (d.acc.map eInt)])), (5, .int .i64 (outN d id i).length), (6, .int .i64 i)]) (fun i => s - i) 0 (Nat.zero_le _) ?_ ?_
 ·simp -implicitDefEqProofs (disch := first | (intros; contradiction) | omega) only [am0, am1, am2, am3, am4, am5, am6, Nat.reduceSub, ↓reduceIte, reduceCtorEq, Nat.reduceEqDiff, Nat.reduceBEq, Nat.reduceAdd, Nat.reduceLT, Nat.reduceBNe, Nat.reduceMul, ↓reduceIte, tis, outN, List.length_nil]
 ·intro i hi'
  have hbd := h.bnd id i (by omega)
  by_cases hi : i < s
  ·have cM := cM i hi
   have hb2 := h.bnd id (i + 1) (by omega)
   have hS : (outN d id (i + 1)).length = (outN d id i).length + (stL d id i).length := by simp [outN]
   simp -implicitDefEqProofs (disch := first | (intros; contradiction) | omega) only [am0, am1, am2, am3, am4, am5, am6, Nat.reduceSub, ↓reduceIte, reduceCtorEq, Nat.reduceEqDiff, Nat.reduceBEq, Nat.reduceAdd, Nat.reduceLT, Nat.reduceBNe, Nat.reduceMul, ↓reduceIte, tis, fls, dx, plain, plainL]
   refine callB cM ?_
   refine Zo (Z3 tis fls @dx) ?_
   refine round_normal (i + 1) (by omega) ?_ (by show s - (i + 1) < s - i; omega)
   exact Zc (Z2 tis @hS)
  ·obtain rfl : i = s := by omega
   exact Zc (Z3 tis fls @dx)
theorem fits_sDfaOk (d : Dfa) (h : Small d) : Fits prog 56 [eDfa false d] (.bool (dfaB d)) [] := by
 have cP := fits_l7Parts d.parts h.p h.pc
 have hr := h.r
 have ha := h.a
 have hp := h.p
 unfold eDfa
 by_cases p1 : partsB d.parts = true
 case neg =>
  have p1 : partsB d.parts = false := by simpa using p1
  have e : dfaB d = false := by unfold dfaB; rw [p1]; rfl
  rw [p1] at cP
  refine fits_of_code [2] [] [0, 1, 2, 3, 4, 29, 34, 62, 70, 95] func56 rfl rfl rfl (by rfl) (by show 1 ≤ 96; decide) (by rfl) (by rfl) (by show 0 ≤ 1; decide) (by rfl) (run_of ?_)
  refine Zo (Z3 tis fls @dx) ?_
  refine callB cP ?_
  exact Zc (Z3 tis fls @e)
 rw [p1] at cP
 by_cases r1 : (d.rows.length : Int) < 1
 ·have e : dfaB d = false := by unfold dfaB; rw [decide_eq_false (show ¬ (1 ≤ d.rows.length ∧ d.rows.length ≤ 40) by omega)]; simp
  refine fits_of_code [2] [] [0, 1, 2, 3, 4, 29, 34, 62, 70, 95] func56 rfl rfl rfl (by rfl) (by show 1 ≤ 96; decide) (by rfl) (by rfl) (by show 0 ≤ 1; decide) (by rfl) (run_of ?_)
  refine Zo (Z3 tis fls @dx) ?_
  refine callB cP ?_
  exact Zc (Z4 tis fls @r1 @e)
 by_cases r2 : (40 : Int) < d.rows.length
 ·have e : dfaB d = false := by unfold dfaB; rw [decide_eq_false (show ¬ (1 ≤ d.rows.length ∧ d.rows.length ≤ 40) by omega)]; simp
  refine fits_of_code [2] [] [0, 1, 2, 3, 4, 29, 34, 62, 70, 95] func56 rfl rfl rfl (by rfl) (by show 1 ≤ 96; decide) (by rfl) (by rfl) (by show 0 ≤ 1; decide) (by rfl) (run_of ?_)
  refine Zo (Z3 tis fls @dx) ?_
  refine callB cP ?_
  exact Zc (Z5 tis fls @r1 @r2 @e)
 by_cases r3 : d.acc.length = d.rows.length
 case neg =>
  have e : dfaB d = false := by unfold dfaB; rw [decide_eq_false r3]; simp
  have r3' : ¬ (d.acc.length : Int) = d.rows.length := by omega
  refine fits_of_code [2] [] [0, 1, 2, 3, 4, 29, 34, 62, 70, 95] func56 rfl rfl rfl (by rfl) (by show 1 ≤ 96; decide) (by rfl) (by rfl) (by show 0 ≤ 1; decide) (by rfl) (run_of ?_)
  refine Zo (Z3 tis fls @dx) ?_
  refine callB cP ?_
  exact Zc (Z6 tis fls @r1 @r2 @r3' @e)
 have r3' : (d.acc.length : Int) = d.rows.length := by omega
 refine fits_of_code [2] [] [0, 1, 2, 3, 4, 29, 34, 62, 70, 95] func56 rfl rfl rfl (by rfl) (by show 1 ≤ 96; decide) (by rfl) (by rfl) (by show 0 ≤ 1; decide) (by rfl) (run_of ?_)
 refine Zo (Z3 tis fls @dx) ?_
 refine callB cP ?_
 refine Zo (Z5 tis fls @r1 @r2 @r3') ?_
 refine run_loop (α := Nat) (fun i => i ≤ d.rows.length ∧ ∀ j, j < i → rowN d j = true) (fun i => [(1, .box (.agg [.sl false 1 (d.parts.map (eSpans false)), .sl false 1 (d.rows.map (eInts false)), .sl false 1 (d.acc.map eInt)])), (3, .int .i64 i)]) (fun i => d.rows.length - i) 0 ⟨Nat.zero_le _, by intros; omega⟩ ?_ ?_
 ·exact Zc tis
 ·rintro i ⟨hi', hb⟩
  by_cases hi : i < d.rows.length
  ·have hi2 : i < d.acc.length := by omega
   have hN := rowN_at hi hi2
   have hrl := h.rc _ (List.getElem_mem hi)
   have gr : (d.rows.map (eInts false)).getD i .undef = .sl false 1 (d.rows[i].map eInt) := by simp [List.getD, hi, eInts]
   have gr2 : (d.rows.map (eInts false))[i]? = some (.sl false 1 (d.rows[i].map eInt)) := by simp [hi, eInts]
   have ga : (d.acc.map eInt).getD i .undef = .int .i64 d.acc[i] := by simp [List.getD, hi2, eInt]
   have ga2 : (d.acc.map eInt)[i]? = some (.int .i64 d.acc[i]) := by simp [hi2, eInt]
   generalize d.rows[i] = row at *
   generalize hae : d.acc[i] = a at *
   have ea : eInt d.acc[i] = .int .i64 a := by rw [hae]; rfl
   by_cases b1 : row.length = d.parts.length
   case neg =>
    have hf : rowN d i = false := by rw [hN, decide_eq_false b1]; rfl
    have hf := rows_f hi hf
    have b1' : ¬ (row.length : Int) = d.parts.length := by omega
    refine Zo (Z5 tis fls @gr @gr2 @dx) ?_
    refine .inl ⟨by kernel_rfl, ?_⟩
    exact Zc (Z4 tis fls @b1' @hf)
   have b1' : (row.length : Int) = d.parts.length := by omega
   by_cases b2 : a < -1
   ·have hf : rowN d i = false := by rw [hN, decide_eq_false (show ¬ (-1 ≤ a ∧ a ≤ 4) by omega)]; simp
    have hf := rows_f hi hf
    refine Zo (Z5 tis fls @gr @gr2 @dx) ?_
    refine .inl ⟨by kernel_rfl, ?_⟩
    exact Zc (Z7 tis fls @b1' @ea @ga2 @b2 @hf)
   by_cases b3 : 5 ≤ a
   ·have hf : rowN d i = false := by rw [hN, decide_eq_false (show ¬ (-1 ≤ a ∧ a ≤ 4) by omega)]; simp
    have hf := rows_f hi hf
    refine Zo (Z5 tis fls @gr @gr2 @dx) ?_
    refine .inl ⟨by kernel_rfl, ?_⟩
    exact Zc (Z8 tis fls @b1' @ea @ga2 @b2 @b3 @hf)
   have hN2 : rowN d i = row.all (fun s => decide (-1 ≤ s ∧ s ≤ (d.rows.length : Int) - 1)) := by
    rw [hN, decide_eq_true b1, decide_eq_true (show -1 ≤ a ∧ a ≤ 4 by omega)]; rfl
   refine Zo (Z5 tis fls @gr @gr2 @dx) ?_
   refine .inl ⟨by kernel_rfl, ?_⟩
   refine Zo (Z7 tis fls @b1' @ea @ga2 @b2 @b3) ?_
   refine run_loop (α := Nat) (fun k => k ≤ row.length ∧ ∀ k' (hk : k' < row.length), k' < k → (-1 ≤ row[k'] ∧ row[k'] ≤ (d.rows.length : Int) - 1)) (fun k => [(1, .box (.agg [.sl false 1 (d.parts.map (eSpans false)), .sl false 1 (d.rows.map (eInts false)), .sl false 1 (d.acc.map eInt)])), (3, .int .i64 i), (4, .int .i64 k)]) (fun k => row.length - k) 0 ⟨Nat.zero_le _, by intros; omega⟩ ?_ ?_
   ·exact Zc tis
   ·rintro k ⟨hk', hkb⟩
    by_cases hk : k < row.length
    ·have gk : (row.map eInt).getD k .undef = .int .i64 row[k] := by simp [List.getD, hk, eInt]
     have gk2 : (row.map eInt)[k]? = some (.int .i64 row[k]) := by simp [hk, eInt]
     have bad : ¬ (-1 ≤ row[k] ∧ row[k] ≤ (d.rows.length : Int) - 1) → dfaB d = false := fun hx => rows_f hi (by
      rw [hN2, List.all_eq_false]; exact ⟨row[k], List.getElem_mem hk, by simpa using hx⟩)
     have good : (-1 ≤ row[k] ∧ row[k] ≤ (d.rows.length : Int) - 1) → ∀ k' (hk3 : k' < row.length), k' < k + 1 → (-1 ≤ row[k'] ∧ row[k'] ≤ (d.rows.length : Int) - 1) := fun hx k' hk3 hk4 => by
      by_cases e : k' = k
      ·subst e; exact hx
      ·exact hkb k' hk3 (by omega)
     generalize hse : row[k] = s at *
     have ek : eInt row[k] = .int .i64 s := by rw [hse]; rfl
     by_cases s1 : s < -1
     ·have hf := bad (by omega)
      refine Zo (Z5 tis fls @gr @gr2 @dx) ?_
      refine .inl ⟨by kernel_rfl, ?_⟩
      exact Zc (Z8 tis fls @gr @gr2 @ek @gk2 @s1 @hf)
     by_cases s2 : (d.rows.length : Int) ≤ s
     ·have hf := bad (by omega)
      refine Zo (Z5 tis fls @gr @gr2 @dx) ?_
      refine .inl ⟨by kernel_rfl, ?_⟩
      exact Zc (Z9 tis fls @gr @gr2 @ek @gk2 @s1 @s2 @hf)
     refine Zo (Z5 tis fls @gr @gr2 @dx) ?_
     refine .inl ⟨by kernel_rfl, ?_⟩
     refine Zo (Z8 tis fls @gr @gr2 @ek @gk2 @s1 @s2) ?_
     refine round_normal (k + 1) ⟨by omega, good (by omega)⟩ ?_ (by show row.length - (k + 1) < row.length - k; omega)
     exact Zc tis
    ·obtain rfl : k = row.length := by omega
     refine Zo (Z5 tis fls @gr @gr2 @dx) ?_
     refine round_normal (i + 1) ⟨by omega, fun j hj => ?_⟩ ?_ (by show d.rows.length - (i + 1) < d.rows.length - i; omega)
     ·by_cases e : j = i
      ·subst e
       rw [hN2, List.all_eq_true]
       intro x hx
       obtain ⟨k', hk3, rfl⟩ := List.getElem_of_mem hx
       simpa using hkb k' hk3 hk3
      ·exact hb j (by omega)
     ·exact Zc tis
  ·obtain rfl : i = d.rows.length := by omega
   have e : dfaB d = true := rows_t p1 (by omega) r3 hb
   exact Zc (Z4 tis fls @dx @e)
def uni (L : List (List Span)) (i c : Nat) : Bool := (L.take i).any (fun p => hasB p (c : Nat))
def uB (L : List (List Span)) (i : Nat) (p : List Span) (b : Nat) : List Bool := (List.range 256).map fun c => uni L i c || (decide (c < b) && hasB p (c : Nat))
def uT (L : List (List Span)) (i : Nat) : List Bool := (List.range 256).map fun c => uni L i c
theorem uB_len (L : List (List Span)) (i : Nat) (p : List Span) (b : Nat) : (uB L i p b).length = 256 := by simp [uB]
theorem uB_0 (L : List (List Span)) (i : Nat) (p : List Span) : uB L i p 0 = uT L i := by simp [uB, uT]
theorem uT_0 (L : List (List Span)) : uT L 0 = List.replicate 256 false := by
 unfold uT uni
 simp only [List.take_zero, List.any_nil]
 exact List.map_const' ..
theorem uB_getD (L : List (List Span)) (i : Nat) (p : List Span) {b : Nat} (hb : b < 256) : (uB L i p b).getD b false = uni L i b := by
 have h1 : b < (uB L i p b).length := by rw [uB_len]; exact hb
 simp only [List.getD, List.getElem?_eq_getElem h1, Option.getD_some]
 simp [uB]
theorem uB_set (L : List (List Span)) (i : Nat) (p : List Span) {b : Nat} (hb : b < 256) (h : hasB p (b : Nat) = true) : (uB L i p b).set b true = uB L i p (b + 1) := by
 apply List.ext_getElem
 ·simp [uB_len]
 ·intro c h1 h2
  rw [List.getElem_set]
  by_cases e : b = c
  ·subst e; simp [uB, h]
  ·rw [if_neg e]
   simp only [uB, List.getElem_map, List.getElem_range]
   congr 2
   rw [decide_eq_decide]; omega
theorem uB_skip (L : List (List Span)) (i : Nat) (p : List Span) {b : Nat} (h : hasB p (b : Nat) = false) : uB L i p (b + 1) = uB L i p b := by
 unfold uB
 refine List.map_congr_left fun c _ => ?_
 by_cases e : c = b
 ·subst e; simp [h]
 ·congr 2
  rw [decide_eq_decide]; omega
theorem uB_end (L : List (List Span)) (i : Nat) (hi : i < L.length) : uB L i L[i] 256 = uT L (i + 1) := by
 unfold uB uT
 refine List.map_congr_left fun c hc => ?_
 have hc : c < 256 := by simpa using hc
 unfold uni
 rw [decide_eq_true hc, Bool.true_and, List.take_succ_eq_append_getElem hi, List.any_append]
 simp
def lastV (L : List (List Span)) (i : Nat) : Int := if i = 0 then -1 else firstB (L.getD (i - 1) [])
theorem lastV_s (L : List (List Span)) (i : Nat) (hi : i < L.length) : lastV L (i + 1) = firstB L[i] := by
 unfold lastV
 rw [if_neg (by omega)]
 simp [List.getD, hi]
theorem uni_f {L : List (List Span)} {i k c : Nat} (hk : k < i) (hi : i < L.length) (h : uni L i c = false) : hasB (L.getD k []) (c : Nat) = false := by
 unfold uni at h
 rw [List.any_eq_false] at h
 have hkl : k < L.length := by omega
 have : L[k] ∈ L.take i := List.mem_take_iff_getElem.2 ⟨k, by omega, rfl⟩
 have := h _ this
 simp only [List.getD, List.getElem?_eq_getElem hkl, Option.getD_some]
 simpa using this
theorem uni_t {L : List (List Span)} {i c : Nat} (hi : i < L.length) (h : uni L i c = true) : ∃ k, k < i ∧ hasB (L.getD k []) (c : Nat) = true := by
 unfold uni at h
 rw [List.any_eq_true] at h
 obtain ⟨p, hp, hh⟩ := h
 obtain ⟨k, hk, rfl⟩ := List.mem_take_iff_getElem.1 hp
 refine ⟨k, by omega, ?_⟩
 have hkl : k < L.length := by omega
 simp only [List.getD, List.getElem?_eq_getElem hkl, Option.getD_some]
 exact hh
theorem fits_dfaOk (d : Dfa) (h : Small d) : Fits prog 55 [eDfa false d] (.bool (dfaB d)) [] := by
 have hr := h.r
 have ha := h.a
 have hp := h.p
 have hpc := h.pc
 have dp : partsB d.parts = false → dfaB d = false := fun e => by unfold dfaB; rw [e]; rfl
 have e0 : (uT d.parts 0).map eBool = List.replicate 256 (.bool false) := by rw [uT_0]; simp [eBool]
 unfold eDfa
 refine fits_of_code [2] [] [0, 1, 2, 3, 4, 5, 7, 8, 9, 10, 11, 13, 15, 16, 17, 18, 36, 42, 43, 44, 52, 53, 77, 79, 80, 81, 82, 100, 101, 102, 103, 104, 113] func55 rfl rfl rfl (by rfl) (by show 1 ≤ 116; decide) (by rfl) (by rfl) (by show 0 ≤ 1; decide) (by rfl) (run_of ?_)
 refine Zo (Z3 tis fls @dx) ?_
 refine run_loop (α := Nat) (fun i => i ≤ d.parts.length ∧ ∀ j, j < i → partN d.parts j = true) (fun i => [(1, .box (.agg [.sl false 1 (d.parts.map (eSpans false)), .sl false 1 (d.rows.map (eInts false)), .sl false 1 (d.acc.map eInt)])), (3, .box (.arr 1 ((uT d.parts i).map eBool))), (4, .int .i64 (lastV d.parts i)), (5, .int .i64 ((((d.parts.take i).map cntB).sum : Nat))), (15, .sl false 1 (d.parts.map (eSpans false))), (16, .int .i64 d.parts.length), (17, .int .i64 i)]) (fun i => d.parts.length - i) 0 ⟨Nat.zero_le _, by intros; omega⟩ ?_ ?_
 ·simp -implicitDefEqProofs (disch := first | (intros; contradiction) | omega) only [am0, am1, am2, am3, am4, am5, am6, Nat.reduceSub, ↓reduceIte, reduceCtorEq, Nat.reduceEqDiff, Nat.reduceBEq, Nat.reduceAdd, Nat.reduceLT, Nat.reduceBNe, Nat.reduceMul, ↓reduceIte, tis, e0, List.map_nil, List.sum_nil, lastV]
 ·rintro i ⟨hi', hb⟩
  by_cases hi : i < d.parts.length
  ·have hci := hpc _ (List.getElem_mem hi)
   have hP := partN_at hi
   have hS := sum_take hi
   have hsl := sum_le (d.parts.take i)
   have hcl : cntB d.parts[i] ≤ 256 := cntN_le d.parts[i] 256
   have htl : (d.parts.take i).length = i := by simp; omega
   have c1 := fits_setOk d.parts[i] (by omega)
   have cB := fits_bitsOf d.parts[i] (by omega)
   have gi : (d.parts.map (eSpans false)).getD i .undef = .sl false 2 (d.parts[i].map eSpan) := by simp [List.getD, hi, eSpans]
   have gi2 : (d.parts.map (eSpans false))[i]? = some (.sl false 2 (d.parts[i].map eSpan)) := by simp [hi, eSpans]
   have hU := uB_end d.parts i hi
   have hLs := lastV_s d.parts i hi
   have hset : ∀ k, k < i → setB (d.parts.getD k []) = true := fun k hk => by
    have hkl : k < d.parts.length := by omega
    simp only [List.getD, List.getElem?_eq_getElem hkl, Option.getD_some]
    exact (partN_set hkl (hb k hk)).1
   generalize hpe : d.parts[i] = p at *
   by_cases g1 : setB p = true
   case neg =>
    have g1 : setB p = false := by simpa using g1
    have hf := dp (partsB_f hi (by rw [hP, g1]; rfl))
    rw [g1] at c1
    refine Zo (Z4 tis fls @gi @gi2) ?_
    refine callB c1 ?_
    exact Zc (Z3 tis fls @hf)
   rw [g1] at c1
   by_cases g2 : p.length = 0
   ·have hf := dp (partsB_f hi (by rw [hP, g1, decide_eq_false (by omega)]; rfl))
    have g2' : (p.length : Int) = 0 := by omega
    refine Zo (Z4 tis fls @gi @gi2) ?_
    refine callB c1 ?_
    exact Zc (Z4 tis fls @g2' @hf)
   have g2' : ¬ (p.length : Int) = 0 := by omega
   have hp0 : 0 < p.length := by omega
   have hfp := firstB_set g1 hp0
   have hlo := (setB_at g1 0 hp0).1
   by_cases g3 : p[0].lo ≤ lastV d.parts i
   ·have hf := dp (partsB_f hi (by
     unfold lastV at g3
     by_cases e : i = 0
     ·rw [if_pos e] at g3; omega
     ·rw [if_neg e] at g3
      rw [hP, decide_eq_false e, decide_eq_false (show ¬ firstB (d.parts.getD (i - 1) []) < firstB p by omega)]; simp))
    refine Zo (Z4 tis fls @gi @gi2) ?_
    refine callB c1 ?_
    exact Zc (Z6 tis fls @g2' eSpan.eq_1 @g3 @hf)
   have hP2 : partN d.parts i = (List.range i).all (fun k => disjB p (d.parts.getD k [])) := by
    rw [hP, g1, decide_eq_true hp0]
    have : (decide (i = 0) || decide (firstB (d.parts.getD (i - 1) []) < firstB p)) = true := by
     unfold lastV at g3
     by_cases e : i = 0
     ·simp [e]
     ·rw [if_neg e] at g3
      rw [decide_eq_true (show firstB (d.parts.getD (i - 1) []) < firstB p by omega)]; simp
    rw [this]; simp
   have hU0 := uB_0 d.parts i p
   rw [← hU0]
   refine Zo (Z4 tis fls @gi @gi2) ?_
   refine callB c1 ?_
   refine Zo (Z5 tis fls @g2' eSpan.eq_1 @g3) ?_
   refine callB cB ?_
   refine Zo (Z2 tis fls) ?_
   refine run_loop (α := Nat) (fun b => b ≤ 256 ∧ ∀ c, c < b → hasB p (c : Nat) = true → uni d.parts i c = false) (fun b => [(1, .box (.agg [.sl false 1 (d.parts.map (eSpans false)), .sl false 1 (d.rows.map (eInts false)), .sl false 1 (d.acc.map eInt)])), (3, .box (.arr 1 ((uB d.parts i p b).map eBool))), (4, .int .i64 p[0].lo), (5, .int .i64 (((((d.parts.take i).map cntB).sum + cntN p b : Nat)))), (15, .sl false 1 (d.parts.map (eSpans false))), (16, .int .i64 d.parts.length), (17, .int .i64 i), (42, .arr 1 ((bitsL p).map eBool)), (43, .int .i64 b)]) (fun b => 256 - b) 0 ⟨Nat.zero_le _, by intros; omega⟩ ?_ ?_
   ·simp -implicitDefEqProofs (disch := first | (intros; contradiction) | omega) only [am0, am1, am2, am3, am4, am5, am6, Nat.reduceSub, ↓reduceIte, reduceCtorEq, Nat.reduceEqDiff, Nat.reduceBEq, Nat.reduceAdd, Nat.reduceLT, Nat.reduceBNe, Nat.reduceMul, ↓reduceIte, tis, cntN, List.range_zero, List.filter_nil, List.length_nil]
   ·rintro b ⟨hb', hbb⟩
    have hcn := cntN_le p b
    have hul := uB_len d.parts i p b
    have hbl := bitsL_len p
    by_cases hb1 : b < 256
    ·have gB := getBool (bitsL p) b (by omega)
     rw [bitsL_getD p b hb1] at gB
     have gB2 : ((bitsL p).map eBool).getD b .undef = .bool (hasB p b) := by simp [List.getD, gB]
     have gU := getBool (uB d.parts i p b) b (by omega)
     rw [uB_getD d.parts i p hb1] at gU
     have hub : b < (uB d.parts i p b).length := by omega
     have gU2 : eBool (uB d.parts i p b)[b] = .bool (uni d.parts i b) := by
      have := uB_getD d.parts i p hb1
      simp only [List.getD, List.getElem?_eq_getElem hub, Option.getD_some] at this
      rw [this]; rfl
     have bl : ∀ x, x ∈ List.map eBool (bitsL p) → false = x.isAgg ∧ x.stor = true := by
      intro x hx; obtain ⟨y, _, rfl⟩ := List.mem_map.1 hx; exact ⟨rfl, rfl⟩
     have hcs := cntN_s p b
     cases hpb : hasB p (b : Nat) with
     | false =>
      rw [hpb] at gB gB2 hcs
      rw [if_neg (by simp), Nat.add_zero] at hcs
      have hsk := uB_skip d.parts i p hpb
      simp -implicitDefEqProofs (disch := first | (intros; contradiction) | omega) only [am0, am1, am2, am3, am4, am5, am6, Nat.reduceSub, ↓reduceIte, reduceCtorEq, Nat.reduceEqDiff, Nat.reduceBEq, Nat.reduceAdd, Nat.reduceLT, Nat.reduceBNe, Nat.reduceMul, ↓reduceIte, tis, fls, gB, gB2, hbl]
      refine ⟨bl, ?_⟩
      refine round_normal (b + 1) ⟨by omega, fun c hc hh => ?_⟩ ?_ (by show 256 - (b + 1) < 256 - b; omega)
      ·by_cases e : c = b
       ·subst e; rw [hpb] at hh; cases hh
       ·exact hbb c (by omega) hh
      ·exact Zc (Z3 tis @hsk @hcs)
     | true =>
      rw [hpb] at gB gB2 hcs
      rw [if_pos rfl] at hcs
      cases hu : uni d.parts i b with
      | true =>
       obtain ⟨k, hk, hkh⟩ := uni_t hi hu
       have hd : disjB p (d.parts.getD k []) = false := by
        cases hx : disjB p (d.parts.getD k []) with
        | false => rfl
        | true =>
         have := (disjB_iff g1 (hset k hk)).1 hx b hb1 hpb
         rw [hkh] at this; cases this
       have hf := dp (partsB_f hi (by rw [hP2, List.all_eq_false]; exact ⟨k, by simpa using hk, by rw [hd]; simp⟩))
       rw [hu] at gU gU2
       simp -implicitDefEqProofs (disch := first | (intros; contradiction) | omega) only [am0, am1, am2, am3, am4, am5, am6, Nat.reduceSub, ↓reduceIte, reduceCtorEq, Nat.reduceEqDiff, Nat.reduceBEq, Nat.reduceAdd, Nat.reduceLT, Nat.reduceBNe, Nat.reduceMul, ↓reduceIte, tis, fls, gB, gB2, hbl]
       refine ⟨bl, ?_⟩
       exact Zc (Z6 tis fls @gU @gU2 @hul @hf)
      | false =>
       rw [hu] at gU gU2
       have hse := uB_set d.parts i p hb1 hpb
       have hsb := setBool (uB d.parts i p b) b true
       rw [hse] at hsb
       simp -implicitDefEqProofs (disch := first | (intros; contradiction) | omega) only [am0, am1, am2, am3, am4, am5, am6, Nat.reduceSub, ↓reduceIte, reduceCtorEq, Nat.reduceEqDiff, Nat.reduceBEq, Nat.reduceAdd, Nat.reduceLT, Nat.reduceBNe, Nat.reduceMul, ↓reduceIte, tis, fls, gB, gB2, hbl]
       refine ⟨bl, ?_⟩
       refine Zo (Z6 tis fls @gU @gU2 @hul @hsb) ?_
       refine round_normal (b + 1) ⟨by omega, fun c hc hh => ?_⟩ ?_ (by show 256 - (b + 1) < 256 - b; omega)
       ·by_cases e : c = b
        ·subst e; exact hu
        ·exact hbb c (by omega) hh
       ·refine Zo (Z2 tis @hcs) ?_
        omega
    ·obtain rfl : b = 256 := by omega
     have hc256 : cntN p 256 = cntB p := rfl
     rw [hU, hc256, ← hS, ← hfp, ← hLs]
     refine Zo (Z2 tis fls) ?_
     refine round_normal (i + 1) ⟨by omega, fun j hj => ?_⟩ ?_ (by show d.parts.length - (i + 1) < d.parts.length - i; omega)
     ·by_cases e : j = i
      ·subst e
       rw [hP2, List.all_eq_true]
       intro k hk
       have hk : k < j := by simpa using hk
       exact (disjB_iff g1 (hset k hk)).2 fun c hc hh => uni_f hk hi (hbb c hc hh)
      ·exact hb j (by omega)
     ·exact Zc tis
  ·obtain rfl : i = d.parts.length := by omega
   rw [List.take_length]
   have ht := partsB_t hb
   by_cases m1 : (d.parts.map cntB).sum = 256
   case neg =>
    have hf := dp (by rw [ht, decide_eq_false m1])
    have m1' : ¬ (((d.parts.map cntB).sum : Nat) : Int) = 256 := by omega
    exact Zc (Z4 tis fls @m1' @hf)
   have m1' : (((d.parts.map cntB).sum : Nat) : Int) = 256 := by omega
   have hpt : partsB d.parts = true := by rw [ht, decide_eq_true m1]
   have cI := fits_in d.rows.length 1 40
   by_cases r1 : (1 : Int) ≤ d.rows.length ∧ (d.rows.length : Int) ≤ 40
   case neg =>
    have e : dfaB d = false := by unfold dfaB; rw [decide_eq_false (show ¬ (1 ≤ d.rows.length ∧ d.rows.length ≤ 40) by omega)]; simp
    rw [decide_eq_false r1] at cI
    refine Zo (Z4 tis fls @dx @m1') ?_
    refine callB cI ?_
    exact Zc (Z3 tis fls @e)
   rw [decide_eq_true r1] at cI
   by_cases r3 : d.acc.length = d.rows.length
   case neg =>
    have e : dfaB d = false := by unfold dfaB; rw [decide_eq_false r3]; simp
    have r3' : ¬ (d.acc.length : Int) = d.rows.length := by omega
    refine Zo (Z4 tis fls @dx @m1') ?_
    refine callB cI ?_
    exact Zc (Z5 tis fls @dx @r3' @e)
   have r3' : (d.acc.length : Int) = d.rows.length := by omega
   refine Zo (Z4 tis fls @dx @m1') ?_
   refine callB cI ?_
   refine Zo (Z4 tis fls @dx @r3') ?_
   refine run_loop (α := Nat) (fun i => i ≤ d.rows.length ∧ ∀ j, j < i → rowN d j = true) (fun i => [(1, .box (.agg [.sl false 1 (d.parts.map (eSpans false)), .sl false 1 (d.rows.map (eInts false)), .sl false 1 (d.acc.map eInt)])), (79, .sl false 1 (d.rows.map (eInts false))), (80, .int .i64 d.rows.length), (81, .int .i64 i)]) (fun i => d.rows.length - i) 0 ⟨Nat.zero_le _, by intros; omega⟩ ?_ ?_
   ·exact Zc tis
   ·rintro i ⟨hi', hb⟩
    by_cases hi : i < d.rows.length
    ·have hi2 : i < d.acc.length := by omega
     have hN := rowN_at hi hi2
     have hrl := h.rc _ (List.getElem_mem hi)
     have gr : (d.rows.map (eInts false)).getD i .undef = .sl false 1 (d.rows[i].map eInt) := by simp [List.getD, hi, eInts]
     have gr2 : (d.rows.map (eInts false))[i]? = some (.sl false 1 (d.rows[i].map eInt)) := by simp [hi, eInts]
     have ga2 : (d.acc.map eInt)[i]? = some (.int .i64 d.acc[i]) := by simp [hi2, eInt]
     generalize d.rows[i] = row at *
     generalize hae : d.acc[i] = a at *
     have ea : eInt d.acc[i] = .int .i64 a := by rw [hae]; rfl
     by_cases b1 : row.length = d.parts.length
     case neg =>
      have hf : rowN d i = false := by rw [hN, decide_eq_false b1]; rfl
      have hf := rows_f hi hf
      have b1' : ¬ (row.length : Int) = d.parts.length := by omega
      exact Zc (Z7 tis fls @gr @gr2 @dx @b1' @hf)
     have b1' : (row.length : Int) = d.parts.length := by omega
     have cI2 := fits_in a (-1) 4
     by_cases b2 : -1 ≤ a ∧ a ≤ 4
     case neg =>
      have hf : rowN d i = false := by rw [hN, decide_eq_false b2]; simp
      have hf := rows_f hi hf
      rw [decide_eq_false b2] at cI2
      refine Zo (Z8 tis fls @gr @gr2 @dx @b1' @ea @ga2) ?_
      refine callB cI2 ?_
      exact Zc (Z3 tis fls @hf)
     rw [decide_eq_true b2] at cI2
     have hN2 : rowN d i = row.all (fun s => decide (-1 ≤ s ∧ s ≤ (d.rows.length : Int) - 1)) := by
      rw [hN, decide_eq_true b1, decide_eq_true b2]; rfl
     refine Zo (Z8 tis fls @gr @gr2 @dx @b1' @ea @ga2) ?_
     refine callB cI2 ?_
     refine Zo (Z2 tis fls) ?_
     refine run_loop (α := Nat) (fun k => k ≤ row.length ∧ ∀ k' (hk : k' < row.length), k' < k → (-1 ≤ row[k'] ∧ row[k'] ≤ (d.rows.length : Int) - 1)) (fun k => [(1, .box (.agg [.sl false 1 (d.parts.map (eSpans false)), .sl false 1 (d.rows.map (eInts false)), .sl false 1 (d.acc.map eInt)])), (79, .sl false 1 (d.rows.map (eInts false))), (80, .int .i64 d.rows.length), (81, .int .i64 i), (101, .sl false 1 (row.map eInt)), (102, .int .i64 row.length), (103, .int .i64 k)]) (fun k => row.length - k) 0 ⟨Nat.zero_le _, by intros; omega⟩ ?_ ?_
     ·exact Zc tis
     ·rintro k ⟨hk', hkb⟩
      by_cases hk : k < row.length
      ·have gk2 : (row.map eInt)[k]? = some (.int .i64 row[k]) := by simp [hk, eInt]
       have bad : ¬ (-1 ≤ row[k] ∧ row[k] ≤ (d.rows.length : Int) - 1) → dfaB d = false := fun hx => rows_f hi (by
        rw [hN2, List.all_eq_false]; exact ⟨row[k], List.getElem_mem hk, by simpa using hx⟩)
       have good : (-1 ≤ row[k] ∧ row[k] ≤ (d.rows.length : Int) - 1) → ∀ k' (hk3 : k' < row.length), k' < k + 1 → (-1 ≤ row[k'] ∧ row[k'] ≤ (d.rows.length : Int) - 1) := fun hx k' hk3 hk4 => by
        by_cases e : k' = k
        ·subst e; exact hx
        ·exact hkb k' hk3 (by omega)
       generalize hse : row[k] = s at *
       have ek : eInt row[k] = .int .i64 s := by rw [hse]; rfl
       have cI3 := fits_in s (-1) ((d.rows.length : Int) - 1)
       by_cases s1 : -1 ≤ s ∧ s ≤ (d.rows.length : Int) - 1
       case neg =>
        have hf := bad s1
        rw [decide_eq_false s1] at cI3
        refine Zo (Z5 tis fls @ek @gk2 @dx) ?_
        refine callB cI3 ?_
        exact Zc (Z3 tis fls @hf)
       rw [decide_eq_true s1] at cI3
       refine Zo (Z5 tis fls @ek @gk2 @dx) ?_
       refine callB cI3 ?_
       refine Zo (Z2 tis fls) ?_
       refine round_normal (k + 1) ⟨by omega, good s1⟩ ?_ (by show row.length - (k + 1) < row.length - k; omega)
       exact Zc tis
      ·obtain rfl : k = row.length := by omega
       refine Zo (Z2 tis fls) ?_
       refine round_normal (i + 1) ⟨by omega, fun j hj => ?_⟩ ?_ (by show d.rows.length - (i + 1) < d.rows.length - i; omega)
       ·by_cases e : j = i
        ·subst e
         rw [hN2, List.all_eq_true]
         intro x hx
         obtain ⟨k', hk3, rfl⟩ := List.getElem_of_mem hx
         simpa using hkb k' hk3 hk3
        ·exact hb j (by omega)
       ·exact Zc tis
    ·obtain rfl : i = d.rows.length := by omega
     have e : dfaB d = true := rows_t hpt (by omega) r3 hb
     exact Zc (Z3 tis fls @e)
theorem map_take_s {α β : Type} (f : α → β) (l : List α) (i : Nat) (h : i < l.length) : (l.take (i + 1)).map f = (l.take i).map f ++ [f l[i]] := by
 rw [List.take_succ_eq_append_getElem h, List.map_append]; rfl
theorem fits_l10State (d : Dfa) (h : DOk d) (s : Nat) (hs : s < d.rows.length) : Fits prog 73 [eDfa false d, .int .i64 s] (.sl true 4 ((stL d (labI d) s).map eIns)) [] := by
 have hp := h.sm.p
 have hr := h.sm.r
 have hn := h.n
 have ha := h.a
 have hal := h.sm.a
 have hps := h.sm.ps
 have hrl := h.sm.rc _ (List.getElem_mem hs)
 have hl := h.l s hs
 have hbb := h.b s hs
 have hsa : s < d.acc.length := by omega
 have gr2 : (d.rows.map (eInts false))[s]? = some (.sl false 1 (d.rows[s].map eInt)) := by simp [hs, eInts]
 have gr : (d.rows.map (eInts false)).getD s .undef = .sl false 1 (d.rows[s].map eInt) := by simp [List.getD, hs, eInts]
 have eg : ∀ k, glV d s k = d.rows[s].getD k 0 := fun k => by simp [glV, List.getD, hs]
 generalize d.rows[s] = row at *
 have eac : acV d s = d.acc[s] := by simp [acV, List.getD, hsa]
 have ga2 : (d.acc.map eInt)[s]? = some (.int .i64 d.acc[s]) := by simp [hsa, eInt]
 have cL := fun x (hx : x ≤ d.rows.length) => fits_l10Label d h x hx
 have hH : headL d s = (if 0 ≤ d.acc[s] then [⟨1, d.acc[s], 0, 0⟩] else []) ++ [⟨2, 0, 0, 0⟩] := by unfold headL; rw [eac]
 generalize hae : d.acc[s] = a at *
 have ea : eInt d.acc[s] = .int .i64 a := by rw [hae]; rfl
 have hhl := headL_len d s
 have body : ∀ (Hd : List Ins), Hd = headL d s → Hd.length ≤ 2 → True := fun _ _ _ => trivial
 unfold eDfa at *
 unfold stL
 by_cases h0 : 0 ≤ a
 all_goals (
  first
   | (rw [if_pos h0] at hH)
   | (rw [if_neg h0] at hH)
  have hHm := congrArg (List.map eIns) hH
  simp only [List.cons_append, List.nil_append, List.map_cons, List.map_nil, eIns] at hHm
  generalize headL d s = Hd at *
  refine fits_of_code [4] [] [0, 1, 2, 4, 5, 6, 7, 14, 32, 53] func73 rfl rfl rfl (by rfl) (by show 2 ≤ 92; decide) (by rfl) (by rfl) (by show 0 ≤ 2; decide) (by rfl) (run_of ?_)
  refine Zo (Z6 tis fls @dx @ea @ga2 @h0) ?_
  refine run_loop (α := Nat) (fun k => k ≤ d.parts.length) (fun k => [(1, .int .i64 s), (2, .box (.agg [.sl false 1 (d.parts.map (eSpans false)), .sl false 1 (d.rows.map (eInts false)), .sl false 1 (d.acc.map eInt)])), (5, .sl true 4 ((Hd ++ ifsN d s (labI d) k).map eIns)), (6, .int .i64 k)]) (fun k => d.parts.length - k) 0 (Nat.zero_le _) ?_ ?_
  ·simp -implicitDefEqProofs (disch := first | (intros; contradiction) | omega) only [am0, am1, am2, am3, am4, am5, am6, Nat.reduceSub, ↓reduceIte, reduceCtorEq, Nat.reduceEqDiff, Nat.reduceBEq, Nat.reduceAdd, Nat.reduceLT, Nat.reduceBNe, Nat.reduceMul, ↓reduceIte, tis, ifsN, List.append_nil, hHm]
  ·intro k hk'
   have hle := ifsN_le d s (labI d) k hk'
   have hle2 := sumS_mono d.parts k
   by_cases hk : k < d.parts.length
   ·have hkr : k < row.length := by omega
    have hS : ifsN d s (labI d) (k + 1) = ifsN d s (labI d) k ++ (if 0 ≤ glV d s k then (d.parts.getD k []).map (ifI (labI d (glV d s k))) else []) := rfl
    have e1 : glV d s k = row[k] := by rw [eg]; simp [List.getD, hkr]
    have e2 : d.parts.getD k [] = d.parts[k] := by simp [List.getD, hk]
    have hpl := h.sm.pc _ (List.getElem_mem hk)
    have hbk := hbb k hkr
    have gp2 : (d.parts.map (eSpans false))[k]? = some (.sl false 2 (d.parts[k].map eSpan)) := by simp [hk, eSpans]
    have gp : (d.parts.map (eSpans false)).getD k .undef = .sl false 2 (d.parts[k].map eSpan) := by simp [List.getD, hk, eSpans]
    have gk2 : (row.map eInt)[k]? = some (.int .i64 row[k]) := by simp [hkr, eInt]
    rw [e1, e2] at hS
    generalize hse : row[k] = x at *
    have ek : eInt row[k] = .int .i64 x := by rw [hse]; rfl
    generalize d.parts[k] = p at *
    generalize ifsN d s (labI d) k = F at *
    by_cases hx0 : 0 ≤ x
    ·rw [if_pos hx0] at hS
     obtain ⟨x, rfl⟩ : ∃ n : Nat, x = n := ⟨x.toNat, by omega⟩
     have cL := cL x (by omega)
     have eL : labI d (x : Int) = (outN d id x).length := rfl
     have hbd := h.bnd id x (by omega)
     refine Zo (Z3 tis fls @dx) ?_
     refine run_loop (α := Nat) (fun i => i ≤ p.length) (fun i => [(1, .int .i64 s), (2, .box (.agg [.sl false 1 (d.parts.map (eSpans false)), .sl false 1 (d.rows.map (eInts false)), .sl false 1 (d.acc.map eInt)])), (5, .sl true 4 ((Hd ++ F ++ (p.take i).map (ifI (labI d (x : Int)))).map eIns)), (6, .int .i64 k), (7, .int .i64 i)]) (fun i => p.length - i) 0 (Nat.zero_le _) ?_ ?_
     ·exact Zc (Z3 tis @LLmapnil @LLappnil)
     ·intro i hi'
      by_cases hi : i < p.length
      ·have hT := map_take_s (ifI (labI d (x : Int))) p i hi
       have hti : (p.take i).length = i := by simp; omega
       simp -implicitDefEqProofs (disch := first | (intros; contradiction) | omega) only [am0, am1, am2, am3, am4, am5, am6, Nat.reduceSub, ↓reduceIte, reduceCtorEq, Nat.reduceEqDiff, Nat.reduceBEq, Nat.reduceAdd, Nat.reduceLT, Nat.reduceBNe, Nat.reduceMul, ↓reduceIte, tis, fls, dx, gr, gr2, ek, gk2, hx0, gp, gp2, eSpan, plain, plainL]
       refine .inl ⟨by kernel_rfl, ?_⟩
       refine callL cL ?_
       refine Zo (Z4 tis fls @dx @hti) ?_
       refine round_normal (i + 1) (by omega) ?_ (by show p.length - (i + 1) < p.length - i; omega)
       have hT2 : (Hd ++ F ++ (p.take (i + 1)).map (ifI (labI d (x : Int)))).map eIns = (Hd ++ F ++ (p.take i).map (ifI (labI d (x : Int)))).map eIns ++ [.agg [.int .i64 3, .int .i64 p[i].lo, .int .i64 p[i].hi, .int .i64 (outN d id x).length]] := by
        rw [hT, eL, ← List.append_assoc, List.map_append]; rfl
       rw [hT2]
       exact Zc tis
      ·obtain rfl : i = p.length := by omega
       rw [List.take_length]
       refine Zo (Z10 tis fls @dx @gr @gr2 @ek @gk2 @hx0 @gp @gp2) ?_
       refine round_normal (k + 1) (by omega) ?_ (by show d.parts.length - (k + 1) < d.parts.length - k; omega)
       rw [hS]
       exact Zc (Z2 tis @LLappass)
    ·rw [if_neg hx0, List.append_nil] at hS
     refine Zo (Z3 tis fls @dx) ?_
     refine run_loop (α := Nat) (fun i => i = 0) (fun i => [(1, .int .i64 s), (2, .box (.agg [.sl false 1 (d.parts.map (eSpans false)), .sl false 1 (d.rows.map (eInts false)), .sl false 1 (d.acc.map eInt)])), (5, .sl true 4 ((Hd ++ F).map eIns)), (6, .int .i64 k), (7, .int .i64 0)]) (fun i => i) 0 rfl ?_ ?_
     ·exact Zc tis
     ·intro i hi0
      subst hi0
      by_cases hpl0 : (0 : Int) < p.length
      ·refine Zo (Z11 tis fls @dx @gr @gr2 @ek @gk2 @hx0 @gp @gp2 @hpl0) ?_
       refine round_normal (k + 1) (by omega) ?_ (by show d.parts.length - (k + 1) < d.parts.length - k; omega)
       rw [hS]
       exact Zc tis
      ·refine Zo (Z11 tis fls @dx @gr @gr2 @ek @gk2 @hx0 @gp @gp2 @hpl0) ?_
       refine round_normal (k + 1) (by omega) ?_ (by show d.parts.length - (k + 1) < d.parts.length - k; omega)
       rw [hS]
       exact Zc tis
   ·obtain rfl : k = d.parts.length := by omega
    rw [List.take_length] at hle
    generalize ifsN d s (labI d) d.parts.length = F at *
    exact Zc (Z5 tis fls @dx @LLmapapp eIns.eq_1))
theorem fits_l10Of (d : Dfa) (h : DOk d) : Fits prog 57 [eDfa false d] (.sl true 4 ((outN d (labI d) d.rows.length).map eIns)) [] := by
 have hn := h.n
 have hr := h.sm.r
 have cS := fun i (hi : i < d.rows.length) => fits_l10State d h i hi
 unfold eDfa at *
 refine fits_of_code [2] [] [0, 1, 2, 3, 4, 10] func57 rfl rfl rfl (by rfl) (by show 1 ≤ 19; decide) (by rfl) (by rfl) (by show 0 ≤ 1; decide) (by rfl) (run_of ?_)
 refine Zo (Z3 tis fls @dx) ?_
 refine run_loop (α := Nat) (fun i => i ≤ d.rows.length) (fun i => [(1, .box (.agg [.sl false 1 (d.parts.map (eSpans false)), .sl false 1 (d.rows.map (eInts false)), .sl false 1 (d.acc.map eInt)])), (3, .sl true 4 ((outN d (labI d) i).map eIns)), (4, .int .i64 i)]) (fun i => d.rows.length - i) 0 (Nat.zero_le _) ?_ ?_
 ·simp -implicitDefEqProofs (disch := first | (intros; contradiction) | omega) only [am0, am1, am2, am3, am4, am5, am6, Nat.reduceSub, ↓reduceIte, reduceCtorEq, Nat.reduceEqDiff, Nat.reduceBEq, Nat.reduceAdd, Nat.reduceLT, Nat.reduceBNe, Nat.reduceMul, ↓reduceIte, tis, outN, List.map_nil]
 ·intro i hi'
  have hbd := h.bnd (labI d) i (by omega)
  by_cases hi : i < d.rows.length
  ·have cS := cS i hi
   have hsl := stL_le d (labI d) i
   have hps := h.sm.ps
   have hS : outN d (labI d) (i + 1) = outN d (labI d) i ++ stL d (labI d) i := rfl
   generalize stL d (labI d) i = X at *
   generalize outN d (labI d) i = Y at *
   simp -implicitDefEqProofs (disch := first | (intros; contradiction) | omega) only [am0, am1, am2, am3, am4, am5, am6, Nat.reduceSub, ↓reduceIte, reduceCtorEq, Nat.reduceEqDiff, Nat.reduceBEq, Nat.reduceAdd, Nat.reduceLT, Nat.reduceBNe, Nat.reduceMul, ↓reduceIte, tis, fls, dx, plain, plainL]
   refine callB cS ?_
   refine Zo (Z3 tis fls @dx) ?_
   refine round_normal (i + 1) (by omega) ?_ (by show d.rows.length - (i + 1) < d.rows.length - i; omega)
   rw [hS]
   exact Zc (Z2 tis @LLmapapp)
  ·obtain rfl : i = d.rows.length := by omega
   exact Zc (Z3 tis fls @dx)
def progL (d : Dfa) : List Ins := if dfaB d = true then (if (outN d id d.rows.length).length ≤ 1500 then outN d (labI d) d.rows.length else []) else []
def progOkB (d : Dfa) : Bool := dfaB d && decide ((outN d id d.rows.length).length ≤ 1500)
theorem fits_sProgOf (d : Dfa) (h : Small d) : Fits prog 27 [eDfa false d] (.tup [.sl true 4 ((progL d).map eIns), .bool (progOkB d)]) [] := by
 have cO := fits_sDfaOk d h
 unfold progL progOkB
 cases hb : dfaB d with
 | false =>
  rw [hb] at cO
  unfold eDfa at *
  refine fits_of_code [2, 3] [] [0, 1, 2, 3, 4, 7, 13] func27 rfl rfl rfl (by rfl) (by show 1 ≤ 16; decide) (by rfl) (by rfl) (by show 0 ≤ 1; decide) (by rfl) (run_of ?_)
  simp -implicitDefEqProofs (disch := first | (intros; contradiction) | omega) only [am0, am1, am2, am3, am4, am5, am6, Nat.reduceSub, ↓reduceIte, reduceCtorEq, Nat.reduceEqDiff, Nat.reduceBEq, Nat.reduceAdd, Nat.reduceLT, Nat.reduceBNe, Nat.reduceMul, ↓reduceIte, tis, fls, dx, plain, plainL]
  refine callB cO ?_
  exact Zc (Z5 tis fls @dx @retW2 @LLmapnil)
 | true =>
  have hk := dok_of h hb
  have cP := fits_l10Of d hk
  have hbd := hk.bnd (labI d) d.rows.length hk.n
  rw [hb] at cO
  rw [if_pos rfl, outN_len d id (labI d)]
  generalize outN d (labI d) d.rows.length = X at *
  unfold eDfa at *
  by_cases h0 : (1500 : Int) < X.length
  ·rw [if_neg (by omega), decide_eq_false (by omega)]
   refine fits_of_code [2, 3] [] [0, 1, 2, 3, 4, 7, 13] func27 rfl rfl rfl (by rfl) (by show 1 ≤ 16; decide) (by rfl) (by rfl) (by show 0 ≤ 1; decide) (by rfl) (run_of ?_)
   simp -implicitDefEqProofs (disch := first | (intros; contradiction) | omega) only [am0, am1, am2, am3, am4, am5, am6, Nat.reduceSub, ↓reduceIte, reduceCtorEq, Nat.reduceEqDiff, Nat.reduceBEq, Nat.reduceAdd, Nat.reduceLT, Nat.reduceBNe, Nat.reduceMul, ↓reduceIte, tis, fls, dx, plain, plainL]
   refine callB cO ?_
   simp -implicitDefEqProofs (disch := first | (intros; contradiction) | omega) only [am0, am1, am2, am3, am4, am5, am6, Nat.reduceSub, ↓reduceIte, reduceCtorEq, Nat.reduceEqDiff, Nat.reduceBEq, Nat.reduceAdd, Nat.reduceLT, Nat.reduceBNe, Nat.reduceMul, ↓reduceIte, tis, fls, dx, plain, plainL]
   refine callB cP ?_
   exact Zc (Z6 tis fls @dx @h0 @retW2 @LLmapnil)
  ·rw [if_pos (by omega), decide_eq_true (by omega)]
   refine fits_of_code [2, 3] [] [0, 1, 2, 3, 4, 7, 13] func27 rfl rfl rfl (by rfl) (by show 1 ≤ 16; decide) (by rfl) (by rfl) (by show 0 ≤ 1; decide) (by rfl) (run_of ?_)
   simp -implicitDefEqProofs (disch := first | (intros; contradiction) | omega) only [am0, am1, am2, am3, am4, am5, am6, Nat.reduceSub, ↓reduceIte, reduceCtorEq, Nat.reduceEqDiff, Nat.reduceBEq, Nat.reduceAdd, Nat.reduceLT, Nat.reduceBNe, Nat.reduceMul, ↓reduceIte, tis, fls, dx, plain, plainL]
   refine callB cO ?_
   simp -implicitDefEqProofs (disch := first | (intros; contradiction) | omega) only [am0, am1, am2, am3, am4, am5, am6, Nat.reduceSub, ↓reduceIte, reduceCtorEq, Nat.reduceEqDiff, Nat.reduceBEq, Nat.reduceAdd, Nat.reduceLT, Nat.reduceBNe, Nat.reduceMul, ↓reduceIte, tis, fls, dx, plain, plainL]
   refine callB cP ?_
   exact Zc (Z5 tis fls @dx @h0 @retW2)
theorem fits_copiedIns (p : List Ins) (hp : p.length ≤ 1099511627776) : Fits prog 48 [.sl false 4 (p.map eIns)] (.sl true 4 (p.map eIns)) [] := by
 refine fits_of_code [2] [] [0, 2, 3, 6] func48 rfl rfl rfl (by rfl) (by show 1 ≤ 14; decide) (by rfl) (by rfl) (by show 0 ≤ 1; decide) (by rfl) (run_of ?_)
 cases p with
 | nil => exact Zc tis
 | cons x r =>
  have hl : ((x :: r).length : Int) ≠ 0 := by simp; omega
  generalize (x :: r) = p at *
  refine Zo tis ?_
  refine Zo (Z3 tis @LLlenrep fls) ?_
  simp [List.take_of_length_le]
def fixI (d : Dfa) (x : Ins) : Ins := if x.op = 3 then ⟨x.op, x.a, x.b, labI d x.to⟩ else x
theorem fix_ifs (d : Dfa) (s : Nat) : ∀ k, (ifsN d s id k).map (fixI d) = ifsN d s (labI d) k
 | 0 => rfl
 | k + 1 => by
  simp only [ifsN, List.map_append, fix_ifs d s k]
  congr 1
  split
  ·rw [List.map_map]; rfl
  ·rfl
theorem fix_head (d : Dfa) (s : Nat) : (headL d s).map (fixI d) = headL d s := by
 unfold headL; split <;> rfl
theorem fix_out (d : Dfa) : ∀ n, (outN d id n).map (fixI d) = outN d (labI d) n
 | 0 => rfl
 | n + 1 => by
  simp only [outN, stL, List.map_append, fix_out d n, fix_ifs, fix_head]
  rfl
theorem to_ifs {d : Dfa} (h : DOk d) {s : Nat} (hs : s < d.rows.length) : ∀ k, k ≤ d.parts.length → ∀ x ∈ ifsN d s id k, 0 ≤ x.to ∧ x.to < d.rows.length
 | 0, _, x, hx => by simp [ifsN] at hx
 | k + 1, hk, x, hx => by
  simp only [ifsN, List.mem_append] at hx
  rcases hx with hx | hx
  ·exact to_ifs h hs k (by omega) x hx
  ·split at hx
   ·rename_i h0
    obtain ⟨y, _, rfl⟩ := List.mem_map.1 hx
    have hl := h.l s hs
    have hk2 : k < d.rows[s].length := by omega
    have hb := h.b s hs k hk2
    have e : glV d s k = d.rows[s][k] := by simp [glV, List.getD, hs, hk2]
    show 0 ≤ glV d s k ∧ glV d s k < d.rows.length
    omega
   ·simp at hx
theorem to_out {d : Dfa} (h : DOk d) : ∀ n, n ≤ d.rows.length → ∀ x ∈ outN d id n, x.op = 3 → 0 ≤ x.to ∧ x.to < d.rows.length
 | 0, _, x, hx => by simp [outN] at hx
 | n + 1, hn, x, hx => by
  intro h3
  simp only [outN, stL, List.mem_append] at hx
  rcases hx with hx | (hx | hx) | hx
  ·exact to_out h n (by omega) x hx h3
  ·exfalso
   unfold headL at hx
   simp only [List.mem_append] at hx
   rcases hx with hx | hx
   ·split at hx
    ·rw [List.mem_singleton] at hx; subst hx; simp at h3
    ·simp at hx
   ·rw [List.mem_singleton] at hx; subst hx; simp at h3
  ·exact to_ifs h (by omega) d.parts.length (Nat.le_refl _) x hx
  ·rw [List.mem_singleton] at hx; subst hx; simp at h3
def labL (d : Dfa) : List Int := (List.range d.rows.length).map fun i => ((outN d id i).length : Int)
theorem labL_len (d : Dfa) : (labL d).length = d.rows.length := by simp [labL]
theorem labL_get (d : Dfa) (i : Nat) (h : i < (labL d).length) : (labL d)[i] = (outN d id i).length := by simp [labL]
theorem fits_progOf (d : Dfa) (h : Small d) : Fits prog 26 [eDfa false d] (.tup [.sl true 4 ((progL d).map eIns), .bool (progOkB d)]) [] := by
 have cO := fits_dfaOk d h
 unfold progL progOkB
 cases hb : dfaB d with
 | false =>
  rw [hb] at cO
  unfold eDfa at *
  refine fits_of_code [2, 3] [] [0, 1, 2, 3, 4, 5, 6, 7, 8, 9, 11, 12, 15, 21, 22, 23, 24, 38, 53, 54, 55, 56, 64, 65, 66, 67, 68, 92, 94, 95, 96, 103] func26 rfl rfl rfl (by rfl) (by show 1 ≤ 119; decide) (by rfl) (by rfl) (by show 0 ≤ 1; decide) (by rfl) (run_of ?_)
  simp -implicitDefEqProofs (disch := first | (intros; contradiction) | omega) only [am0, am1, am2, am3, am4, am5, am6, Nat.reduceSub, ↓reduceIte, reduceCtorEq, Nat.reduceEqDiff, Nat.reduceBEq, Nat.reduceAdd, Nat.reduceLT, Nat.reduceBNe, Nat.reduceMul, ↓reduceIte, tis, fls, dx, plain, plainL]
  refine callB cO ?_
  exact Zc (Z5 tis fls @dx @retW2 @LLmapnil)
 | true =>
  have hk := dok_of h hb
  have hn := hk.n
  have hr := h.r
  have hp := h.p
  have hps := h.ps
  have ha := hk.a
  have hal := h.a
  have hbd := hk.bnd id d.rows.length hk.n
  have hLl := labL_len d
  have hfix := fix_out d d.rows.length
  have hto := to_out hk d.rows.length (Nat.le_refl _)
  rw [hb] at cO
  rw [if_pos rfl]
  unfold eDfa at *
  refine fits_of_code [2, 3] [] [0, 1, 2, 3, 4, 5, 6, 7, 8, 9, 11, 12, 15, 21, 22, 23, 24, 38, 53, 54, 55, 56, 64, 65, 66, 67, 68, 92, 94, 95, 96, 103] func26 rfl rfl rfl (by rfl) (by show 1 ≤ 119; decide) (by rfl) (by rfl) (by show 0 ≤ 1; decide) (by rfl) (run_of ?_)
  simp -implicitDefEqProofs (disch := first | (intros; contradiction) | omega) only [am0, am1, am2, am3, am4, am5, am6, Nat.reduceSub, ↓reduceIte, reduceCtorEq, Nat.reduceEqDiff, Nat.reduceBEq, Nat.reduceAdd, Nat.reduceLT, Nat.reduceBNe, Nat.reduceMul, ↓reduceIte, tis, fls, dx, plain, plainL]
  refine callB cO ?_
  simp -implicitDefEqProofs (disch := first | (intros; contradiction) | omega) only [am0, am1, am2, am3, am4, am5, am6, Nat.reduceSub, ↓reduceIte, reduceCtorEq, Nat.reduceEqDiff, Nat.reduceBEq, Nat.reduceAdd, Nat.reduceLT, Nat.reduceBNe, Nat.reduceMul, ↓reduceIte, tis, fls, dx, plain, plainL]
  refine run_loop (α := Nat) (fun s => s ≤ d.rows.length) (fun s => [(1, .box (.agg [.sl false 1 (d.parts.map (eSpans false)), .sl false 1 (d.rows.map (eInts false)), .sl false 1 (d.acc.map eInt)])), (4, .sl true 4 ((outN d id s).map eIns)), (5, .sl true 1 (((labL d).take s).map eInt ++ List.replicate ((labL d).length - s) (eInt 0))), (21, .sl false 1 (d.rows.map (eInts false))), (22, .int .i64 d.rows.length), (23, .int .i64 s)]) (fun s => d.rows.length - s) 0 (Nat.zero_le _) ?_ ?_
  ·simp -implicitDefEqProofs (disch := first | (intros; contradiction) | omega) only [am0, am1, am2, am3, am4, am5, am6, Nat.reduceSub, ↓reduceIte, reduceCtorEq, Nat.reduceEqDiff, Nat.reduceBEq, Nat.reduceAdd, Nat.reduceLT, Nat.reduceBNe, Nat.reduceMul, ↓reduceIte, tis, outN, List.map_nil, hLl, eInt]
  ·intro s hs'
   have hbs := hk.bnd id s (by omega)
   by_cases hs : s < d.rows.length
   ·have hrl := h.rc _ (List.getElem_mem hs)
    have hl := hk.l s hs
    have hsa : s < d.acc.length := by omega
    have hsl := stL_le d id s
    have gr2 : (d.rows.map (eInts false))[s]? = some (.sl false 1 (d.rows[s].map eInt)) := by simp [hs, eInts]
    have gr : (d.rows.map (eInts false)).getD s .undef = .sl false 1 (d.rows[s].map eInt) := by simp [List.getD, hs, eInts]
    have eg : ∀ k, glV d s k = d.rows[s].getD k 0 := fun k => by simp [glV, List.getD, hs]
    generalize d.rows[s] = row at *
    have eac : acV d s = d.acc[s] := by simp [acV, List.getD, hsa]
    have ga2 : (d.acc.map eInt)[s]? = some (.int .i64 d.acc[s]) := by simp [hsa, eInt]
    have hH : headL d s = (if 0 ≤ d.acc[s] then [⟨1, d.acc[s], 0, 0⟩] else []) ++ [⟨2, 0, 0, 0⟩] := by unfold headL; rw [eac]
    generalize hae : d.acc[s] = a at *
    have ea : eInt d.acc[s] = .int .i64 a := by rw [hae]; rfl
    have hhl := headL_len d s
    have b1 := build_get eInt (eInt 0) (labL d) s (by omega)
    have b2 := build_set eInt (eInt 0) (labL d) s (by omega)
    have b3 := build_len eInt (eInt 0) (labL d) s (by omega)
    rw [labL_get d s (by omega)] at b2
    have b2 : (((labL d).take s).map eInt ++ List.replicate ((labL d).length - s) (eInt 0)).set s (.int .i64 (outN d id s).length) = ((labL d).take (s + 1)).map eInt ++ List.replicate ((labL d).length - (s + 1)) (eInt 0) := b2
    have b1 : (((labL d).take s).map eInt ++ List.replicate ((labL d).length - s) (eInt 0))[s]? = some (.int .i64 0) := b1
    have hO : outN d id (s + 1) = outN d id s ++ (headL d s ++ ifsN d s id d.parts.length ++ [⟨4, 0, 0, 0⟩]) := rfl
    generalize ((labL d).take s).map eInt ++ List.replicate ((labL d).length - s) (eInt 0) = A at *
    generalize hB : ((labL d).take (s + 1)).map eInt ++ List.replicate ((labL d).length - (s + 1)) (eInt 0) = B at *
    generalize outN d id s = O at *
    by_cases h0 : 0 ≤ a
    all_goals (
     first
      | (rw [if_pos h0] at hH)
      | (rw [if_neg h0] at hH)
     have hHm := congrArg (List.map eIns) hH
     simp only [List.cons_append, List.nil_append, List.map_cons, List.map_nil, eIns] at hHm
     generalize headL d s = Hd at *
     refine Zo (Z12 tis fls @dx @gr @gr2 @ea @ga2 @h0 @b1 @b2 @b3 @hLl) ?_
     refine run_loop (α := Nat) (fun k => k ≤ d.parts.length) (fun k => [(1, .box (.agg [.sl false 1 (d.parts.map (eSpans false)), .sl false 1 (d.rows.map (eInts false)), .sl false 1 (d.acc.map eInt)])), (4, .sl true 4 ((O ++ Hd ++ ifsN d s id k).map eIns)), (5, .sl true 1 B), (7, .sl false 1 (row.map eInt)), (21, .sl false 1 (d.rows.map (eInts false))), (22, .int .i64 d.rows.length), (23, .int .i64 s), (53, .sl false 1 (d.parts.map (eSpans false))), (54, .int .i64 d.parts.length), (55, .int .i64 k)]) (fun k => d.parts.length - k) 0 (Nat.zero_le _) ?_ ?_
     ·simp -implicitDefEqProofs (disch := first | (intros; contradiction) | omega) only [am0, am1, am2, am3, am4, am5, am6, Nat.reduceSub, ↓reduceIte, reduceCtorEq, Nat.reduceEqDiff, Nat.reduceBEq, Nat.reduceAdd, Nat.reduceLT, Nat.reduceBNe, Nat.reduceMul, ↓reduceIte, tis, ifsN, List.append_nil, List.map_append, hHm]
      try simp
     ·intro k hk'
      have hle := ifsN_le d s id k hk'
      have hle2 := sumS_mono d.parts k
      by_cases hkk : k < d.parts.length
      ·have hkr : k < row.length := by omega
       have hS : ifsN d s id (k + 1) = ifsN d s id k ++ (if 0 ≤ glV d s k then (d.parts.getD k []).map (ifI (glV d s k)) else []) := rfl
       have e1 : glV d s k = row[k] := by rw [eg]; simp [List.getD, hkr]
       have e2 : d.parts.getD k [] = d.parts[k] := by simp [List.getD, hkk]
       have hpl := h.pc _ (List.getElem_mem hkk)
       have gp2 : (d.parts.map (eSpans false))[k]? = some (.sl false 2 (d.parts[k].map eSpan)) := by simp [hkk, eSpans]
       have gp : (d.parts.map (eSpans false)).getD k .undef = .sl false 2 (d.parts[k].map eSpan) := by simp [List.getD, hkk, eSpans]
       have gk2 : (row.map eInt)[k]? = some (.int .i64 row[k]) := by simp [hkr, eInt]
       rw [e1, e2] at hS
       generalize hse : row[k] = x at *
       have ek : eInt row[k] = .int .i64 x := by rw [hse]; rfl
       generalize d.parts[k] = p at *
       generalize ifsN d s id k = F at *
       by_cases hx0 : x < 0
       ·rw [if_neg (by omega), List.append_nil] at hS
        refine Zo (Z8 tis fls @dx @gp @gp2 @ek @gk2 @hx0) ?_
        refine round_normal (k + 1) (by omega) ?_ (by show d.parts.length - (k + 1) < d.parts.length - k; omega)
        rw [hS]
        exact Zc tis
       ·rw [if_pos (by omega)] at hS
        refine Zo (Z8 tis fls @dx @gp @gp2 @ek @gk2 @hx0) ?_
        refine run_loop (α := Nat) (fun i => i ≤ p.length) (fun i => [(1, .box (.agg [.sl false 1 (d.parts.map (eSpans false)), .sl false 1 (d.rows.map (eInts false)), .sl false 1 (d.acc.map eInt)])), (4, .sl true 4 ((O ++ Hd ++ F ++ (p.take i).map (ifI x)).map eIns)), (5, .sl true 1 B), (7, .sl false 1 (row.map eInt)), (8, .int .i64 k), (21, .sl false 1 (d.rows.map (eInts false))), (22, .int .i64 d.rows.length), (23, .int .i64 s), (53, .sl false 1 (d.parts.map (eSpans false))), (54, .int .i64 d.parts.length), (55, .int .i64 k), (65, .sl false 2 (p.map eSpan)), (66, .int .i64 p.length), (67, .int .i64 i)]) (fun i => p.length - i) 0 (Nat.zero_le _) ?_ ?_
        ·exact Zc (Z3 tis @LLmapnil @LLappnil)
        ·intro i hi'
         by_cases hi : i < p.length
         ·have hT := map_take_s (ifI x) p i hi
          have hti : (p.take i).length = i := by simp; omega
          simp -implicitDefEqProofs (disch := first | (intros; contradiction) | omega) only [am0, am1, am2, am3, am4, am5, am6, Nat.reduceSub, ↓reduceIte, reduceCtorEq, Nat.reduceEqDiff, Nat.reduceBEq, Nat.reduceAdd, Nat.reduceLT, Nat.reduceBNe, Nat.reduceMul, ↓reduceIte, tis, fls, dx, ek, gk2, eSpan, plain, plainL, hti]
          refine .inl ⟨by kernel_rfl, ?_⟩
          refine round_normal (i + 1) (by omega) ?_ (by show p.length - (i + 1) < p.length - i; omega)
          have hT2 : (O ++ Hd ++ F ++ (p.take (i + 1)).map (ifI x)).map eIns = (O ++ Hd ++ F ++ (p.take i).map (ifI x)).map eIns ++ [.agg [.int .i64 3, .int .i64 p[i].lo, .int .i64 p[i].hi, .int .i64 x]] := by
           rw [hT, ← List.append_assoc, List.map_append]; rfl
          rw [hT2]
          exact Zc tis
         ·obtain rfl : i = p.length := by omega
          rw [List.take_length]
          refine Zo (Z3 tis fls @dx) ?_
          refine round_normal (k + 1) (by omega) ?_ (by show d.parts.length - (k + 1) < d.parts.length - k; omega)
          rw [hS]
          exact Zc (Z2 tis @LLappass)
      ·obtain rfl : k = d.parts.length := by omega
       rw [List.take_length] at hle
       have hO2 : (outN d id (s + 1)).map eIns = (O ++ Hd ++ ifsN d s id d.parts.length).map eIns ++ [.agg [.int .i64 4, .int .i64 0, .int .i64 0, .int .i64 0]] := by
        rw [hO]; simp [eIns]
       generalize ifsN d s id d.parts.length = F at *
       refine Zo (Z3 tis fls @dx) ?_
       refine round_normal (s + 1) (by omega) ?_ (by show d.rows.length - (s + 1) < d.rows.length - s; omega)
       rw [hO2]
       refine Zo tis ?_
       rw [← hLl]; exact hB.symm)
   ·obtain rfl : s = d.rows.length := by omega
    have hend : ((labL d).take d.rows.length).map eInt ++ List.replicate ((labL d).length - d.rows.length) (eInt 0) = (labL d).map eInt := by
     rw [hLl, Nat.sub_self, List.replicate_zero, List.append_nil, List.take_of_length_le (by omega)]
    rw [hend]
    rw [← hfix]
    generalize outN d id d.rows.length = X at *
    by_cases h15 : (1500 : Int) < X.length
    ·rw [if_neg (by omega), decide_eq_false (by omega)]
     exact Zc (Z6 tis fls @dx @h15 @retW2 @LLmapnil)
    ·rw [if_pos (by omega), decide_eq_true (by omega)]
     have cC := fits_copiedIns (X.map (fixI d)) (by rw [List.length_map]; omega)
     refine Zo (Z4 tis fls @dx @h15) ?_
     refine run_loop (α := Nat) (fun i => i ≤ X.length) (fun i => [(4, .sl true 4 (((X.take i).map (fixI d)).map eIns ++ (X.drop i).map eIns)), (5, .sl true 1 ((labL d).map eInt)), (94, .int .i64 X.length), (95, .int .i64 i)]) (fun i => X.length - i) 0 (Nat.zero_le _) ?_ ?_
     ·exact Zc (Z2 tis @LLmapnil)
     ·intro i hi'
      have hA : (((X.take i).map (fixI d)).map eIns).length = i := by simp; omega
      have hL : (((X.take i).map (fixI d)).map eIns ++ (X.drop i).map eIns).length = X.length := by simp; omega
      by_cases hi : i < X.length
      ·have g1 := turn_get _ eIns X i hA hi
       have g2 := fun y => turn_set _ eIns X i y hA hi
       have hx := hto X[i] (List.getElem_mem hi)
       have hT : ((X.take (i + 1)).map (fixI d)).map eIns = ((X.take i).map (fixI d)).map eIns ++ [eIns (fixI d X[i])] := by
        rw [map_take_s (fixI d) X i hi, List.map_append]; rfl
       have hD : (X.drop i).map eIns = eIns X[i] :: (X.drop (i + 1)).map eIns := by rw [List.drop_eq_getElem_cons hi]; rfl
       generalize ((X.take i).map (fixI d)).map eIns = A at *
       generalize X[i] = x at *
       by_cases h3 : x.op = 3
       ·obtain ⟨t0, t1⟩ := hx h3
        obtain ⟨n, hn2⟩ := Int.eq_ofNat_of_zero_le t0
        have hnl : n < (labL d).length := by omega
        have hlg := labL_get d n hnl
        have el : eInt (labL d)[n] = .int .i64 (outN d id n).length := by rw [hlg]; rfl
        have gl2 : ((labL d).map eInt)[n]? = some (.int .i64 (outN d id n).length) := by rw [List.getElem?_map, List.getElem?_eq_getElem hnl]; simp [el]
        have hf : eIns (fixI d x) = .agg [.int .i64 x.op, .int .i64 x.a, .int .i64 x.b, .int .i64 (outN d id n).length] := by
         unfold fixI; rw [if_pos h3, hn2]; rfl
        simp only [eIns] at g1
        refine Zo (Z10 tis fls @hL @g1 @g2 @h3 @hn2 @el @gl2 @hLl) ?_
        refine round_normal (i + 1) (by omega) ?_ (by show X.length - (i + 1) < X.length - i; omega)
        rw [hT, hf]
        exact Zc (Z2 tis @h3)
       ·have hf : fixI d x = x := by unfold fixI; rw [if_neg h3]
        have g1' := g1
        simp only [eIns] at g1
        refine Zo (Z6 tis fls @hL @g1 @g2 @h3) ?_
        refine round_normal (i + 1) (by omega) ?_ (by show X.length - (i + 1) < X.length - i; omega)
        rw [hT, hf, List.append_assoc, List.cons_append, List.nil_append, ← hD]
        exact Zc tis
      ·obtain rfl : i = X.length := by omega
       rw [List.take_length, List.drop_length, List.map_nil, List.append_nil]
       refine Zo (Z2 tis fls) ?_
       refine callB cC ?_
       exact Zc (Z3 tis fls @retW2)
def isOp (o : Int) (x : Ins) : Bool := decide (x.op = o)
def cntO (o : Int) (l : List Ins) : Nat := l.countP (isOp o)
def spL (d : Dfa) (s : Nat) : Nat → Nat
 | 0 => 0
 | k + 1 => spL d s k + (if 0 ≤ glV d s k then (d.parts.getD k []).length else 0)
def spM (d : Dfa) : Nat → Nat
 | 0 => 0
 | n + 1 => spM d n + spL d n d.parts.length
def acM (d : Dfa) : Nat → Nat
 | 0 => 0
 | n + 1 => acM d n + (if 0 ≤ acV d n then 1 else 0)
theorem cntO_app (o : Int) (a b : List Ins) : cntO o (a ++ b) = cntO o a + cntO o b := List.countP_append
theorem cntO_map (o to : Int) (l : List Span) : cntO o (l.map (ifI to)) = if o = 3 then l.length else 0 := by
 unfold cntO
 rw [List.countP_map]
 split
 ·rename_i h
  rw [List.countP_eq_length.2]
  intro x _
  show isOp o (ifI to x) = true
  unfold isOp ifI; simp [h]
 ·rename_i h
  rw [List.countP_eq_zero.2]
  intro x _
  show ¬ isOp o (ifI to x) = true
  unfold isOp ifI; simp; omega
theorem cntO_ifs (o : Int) (d : Dfa) (s : Nat) (f : Int → Int) : ∀ k, cntO o (ifsN d s f k) = if o = 3 then spL d s k else 0
 | 0 => by simp [ifsN, spL, cntO]
 | k + 1 => by
  simp only [ifsN, cntO_app, cntO_ifs o d s f k, spL]
  by_cases h : 0 ≤ glV d s k
  ·rw [if_pos h, if_pos h, cntO_map]; split <;> rfl
  ·rw [if_neg h, if_neg h]; simp [cntO]
theorem len_ifs (d : Dfa) (s : Nat) (f : Int → Int) : ∀ k, (ifsN d s f k).length = spL d s k
 | 0 => rfl
 | k + 1 => by
  simp only [ifsN, List.length_append, len_ifs d s f k, spL]
  split <;> simp
theorem cnt_out (d : Dfa) (f : Int → Int) : ∀ n, cntO 1 (outN d f n) = acM d n ∧ cntO 2 (outN d f n) = n ∧ cntO 3 (outN d f n) = spM d n ∧ (outN d f n).length = acM d n + n + spM d n + n
 | 0 => by simp [outN, cntO, acM, spM]
 | n + 1 => by
  obtain ⟨a, b, c, e⟩ := cnt_out d f n
  have h1 : cntO 1 (headL d n) = (if 0 ≤ acV d n then 1 else 0) := by unfold headL cntO; split <;> simp [isOp, List.countP_cons]
  have h2 : cntO 2 (headL d n) = 1 := by unfold headL cntO; split <;> simp [isOp, List.countP_cons]
  have h3 : cntO 3 (headL d n) = 0 := by unfold headL cntO; split <;> simp [isOp, List.countP_cons]
  have h4 : (headL d n).length = (if 0 ≤ acV d n then 1 else 0) + 1 := by unfold headL; split <;> simp
  have t : ∀ o : Int, o ≠ 4 → cntO o [(⟨4, 0, 0, 0⟩ : Ins)] = 0 := fun o ho => by unfold cntO isOp; simp [List.countP_cons]; omega
  refine ⟨?_, ?_, ?_, ?_⟩
  ·simp only [outN, stL, cntO_app, a, h1, cntO_ifs, t 1 (by decide), acM]; simp
  ·simp only [outN, stL, cntO_app, b, h2, cntO_ifs, t 2 (by decide)]; simp
  ·simp only [outN, stL, cntO_app, c, h3, cntO_ifs, t 3 (by decide), spM]; simp
  ·simp only [outN, stL, List.length_append, e, h4, len_ifs, acM, spM, List.length_singleton]; omega
theorem out_pre (d : Dfa) (f : Int → Int) (v : Nat) : ∀ n, v ≤ n → outN d f v <+: outN d f n
  | 0, h => by obtain rfl : v = 0 := by omega
               exact List.prefix_refl _
  | n + 1, h => by
    by_cases e : v = n + 1
    · subst e; exact List.prefix_refl _
    · exact (out_pre d f v n (by omega)).trans (List.prefix_append _ _)
theorem out_stop (d : Dfa) (f : Int → Int) (v n : Nat) (hv : v ≤ n) (h0 : 0 < (outN d id v).length) : (outN d f n)[(outN d id v).length - 1]? = some ⟨4, 0, 0, 0⟩ := by
 rw [outN_len d id f v] at h0 ⊢
 obtain ⟨t, ht⟩ := out_pre d f v n hv
 rw [← ht, List.getElem?_append_left (by omega)]
 cases v with
 | zero => simp [outN] at h0
 | succ v =>
  have e : outN d f (v + 1) = (outN d f v ++ (headL d v ++ ifsN d v f d.parts.length)) ++ [⟨4, 0, 0, 0⟩] := by simp only [outN, stL, List.append_assoc]
  rw [e]
  generalize outN d f v ++ (headL d v ++ ifsN d v f d.parts.length) = X
  simp
theorem out_to {d : Dfa} (h : DOk d) : ∀ n, n ≤ d.rows.length → ∀ x ∈ outN d (labI d) n, x.op = 3 → ∃ v, v < d.rows.length ∧ x.to = ((outN d id v).length : Int)
 | 0, _, x, hx => by simp [outN] at hx
 | n + 1, hn, x, hx => by
  intro h3
  simp only [outN, stL, List.mem_append] at hx
  rcases hx with hx | (hx | hx) | hx
  ·exact out_to h n (by omega) x hx h3
  ·unfold headL at hx
   split at hx <;> simp at hx
   ·rcases hx with rfl | rfl <;> simp at h3
   ·subst hx; simp at h3
  ·have key : ∀ k, k ≤ d.parts.length → x ∈ ifsN d n (labI d) k → ∃ v, v < d.rows.length ∧ x.to = ((outN d id v).length : Int) := by
    intro k
    induction k with
    | zero => intro _ hx; simp [ifsN] at hx
    | succ k ih =>
     intro hk hx
     simp only [ifsN, List.mem_append] at hx
     rcases hx with hx | hx
     ·exact ih (by omega) hx
     ·split at hx
      ·rename_i h0
       obtain ⟨y, _, rfl⟩ := List.mem_map.1 hx
       have hl := h.l n (by omega)
       have hk2 : k < d.rows[n].length := by omega
       have hb := h.b n (by omega) k hk2
       have e : glV d n k = d.rows[n][k] := by simp [glV, List.getD, show n < d.rows.length by omega, hk2]
       exact ⟨(glV d n k).toNat, by omega, rfl⟩
      ·simp at hx
   exact key _ (Nat.le_refl _) hx
  ·simp only [List.mem_singleton] at hx
   subst hx; simp at h3
theorem cntO_s {p : List Ins} {i : Nat} (o : Int) (h : i < p.length) : cntO o (p.take (i + 1)) = cntO o (p.take i) + (if p[i].op = o then 1 else 0) := by
 rw [List.take_succ_eq_append_getElem h, cntO_app]
 unfold cntO isOp
 simp [List.countP_cons]
theorem cntO_le (o : Int) (p : List Ins) (i : Nat) : cntO o (p.take i) ≤ p.length := by
 have h1 : cntO o (p.take i) ≤ (p.take i).length := List.countP_le_length
 rw [List.length_take] at h1
 omega
theorem insM {p : List Ins} {i : Nat} (h : i < p.length) : (p.map eIns)[i]? = some (.agg [.int .i64 p[i].op, .int .i64 p[i].a, .int .i64 p[i].b, .int .i64 p[i].to]) ∧ (p.map eIns).getD i .undef = .agg [.int .i64 p[i].op, .int .i64 p[i].a, .int .i64 p[i].b, .int .i64 p[i].to] := by
 constructor <;> simp [h, eIns, List.getD]
theorem spL_le (d : Dfa) (s : Nat) : ∀ k, k ≤ d.parts.length → spL d s k ≤ sumS (d.parts.take k) := fun k hk => by
 rw [← len_ifs d s id k]; exact ifsN_le d s id k hk
theorem spM_le {d : Dfa} (h : DOk d) : ∀ n, n ≤ 40 → spM d n ≤ n * 1048576
 | 0, _ => by simp [spM]
 | n + 1, hn => by
  have h1 := spM_le h n (by omega)
  have h2 := spL_le d n d.parts.length (Nat.le_refl _)
  have h3 := h.sm.ps
  rw [List.take_length] at h2
  rw [spM]; omega
theorem acM_le (d : Dfa) : ∀ n, acM d n ≤ n
 | 0 => Nat.le_refl _
 | n + 1 => by have := acM_le d n; rw [acM]; split <;> omega
theorem law_LProgSize (c : List UInt8) (hc : c.length ≤ 9223372036854775807) : Fits prog 7 [.sl false 1 (bytesA c)] (.bool true) [] := by
 by_cases h0 : (1048576 : Int) < c.length
 ·refine fits_of_code [2] [] [0, 2, 3, 4, 5, 7, 8, 9, 10, 11, 12, 13, 14, 15, 18, 37, 44, 51, 52, 56, 78, 79, 87, 95, 102, 113] func7 rfl rfl rfl (by rfl) (by show 1 ≤ 151; decide) (by rfl) (by rfl) (by show 0 ≤ 1; decide) (by rfl) (run_of ?_)
  (repeat (first | refine Zo (Z3 tis @h0 Zi) ?_ | refine .inl ⟨by kernel_rfl, ?_⟩ | exact .inl (by show _ = _; kernel_rfl) | exact Zc (Z3 tis @h0 Zi)))
 have cD := fits_drawProgOf c hc
 have hS := bent7V_small (c.take 2000) 0
 generalize (bent7V (c.take 2000) 0).1 = d at *
 have cP := fits_progOf d hS
 have cQ := fits_sProgOf d hS
 cases hO : progOkB d with
 | false =>
  rw [hO] at cP cQ
  unfold eDfa at *
  refine fits_of_code [2] [] [0, 2, 3, 4, 5, 7, 8, 9, 10, 11, 12, 13, 14, 15, 18, 37, 44, 51, 52, 56, 78, 79, 87, 95, 102, 113] func7 rfl rfl rfl (by rfl) (by show 1 ≤ 151; decide) (by rfl) (by rfl) (by show 0 ≤ 1; decide) (by rfl) (run_of ?_)
  (repeat (first | refine Zo (Z7 tis fls @dx @h0 @ex_eq @exGo_tup Zi) ?_ | refine .inl ⟨by kernel_rfl, ?_⟩ | exact .inl (by show _ = _; kernel_rfl) | exact Zc (Z7 tis fls @dx @h0 @ex_eq @exGo_tup Zi)); try ((first | refine callL cD ?_ | refine callB cD ?_); repeat (first | refine Zo (Z7 tis fls @dx @h0 @ex_eq @exGo_tup Zi) ?_ | refine .inl ⟨by kernel_rfl, ?_⟩ | exact .inl (by show _ = _; kernel_rfl) | exact Zc (Z7 tis fls @dx @h0 @ex_eq @exGo_tup Zi))); try ((first | refine callL cP ?_ | refine callB cP ?_); repeat (first | refine Zo (Z7 tis fls @dx @h0 @ex_eq @exGo_tup Zi) ?_ | refine .inl ⟨by kernel_rfl, ?_⟩ | exact .inl (by show _ = _; kernel_rfl) | exact Zc (Z7 tis fls @dx @h0 @ex_eq @exGo_tup Zi))); try ((first | refine callL cQ ?_ | refine callB cQ ?_); repeat (first | refine Zo (Z7 tis fls @dx @h0 @ex_eq @exGo_tup Zi) ?_ | refine .inl ⟨by kernel_rfl, ?_⟩ | exact .inl (by show _ = _; kernel_rfl) | exact Zc (Z7 tis fls @dx @h0 @ex_eq @exGo_tup Zi))))
  done
 | true =>
  have hD : dfaB d = true := by unfold progOkB at hO; simp only [Bool.and_eq_true] at hO; exact hO.1
  have hl : (outN d id d.rows.length).length ≤ 1500 := by unfold progOkB at hO; simp only [Bool.and_eq_true, decide_eq_true_eq] at hO; exact hO.2
  have he : progL d = outN d (labI d) d.rows.length := by unfold progL; rw [if_pos hD, if_pos hl]
  have hk := dok_of hS hD
  rw [hO] at cP cQ
  rw [outN_len d id (labI d), ← he] at hl
  obtain ⟨n1, n2, n3, n4⟩ := cnt_out d (labI d) d.rows.length
  have hto := fun x (hx : x ∈ progL d) (h3 : x.op = 3) => out_to hk _ (Nat.le_refl _) x (by rw [← he]; exact hx) h3
  have hst := fun v (hv : v < d.rows.length) (hp : 0 < (outN d id v).length) => out_stop d (labI d) v d.rows.length (by omega) hp
  rw [← he] at n1 n2 n3 n4
  rw [← he] at hst
  generalize progL d = p at *
  have hn := hk.n
  have hr := hk.sm.r
  have hpt := hk.sm.p
  unfold eDfa at *
  refine fits_of_code [2] [] [0, 2, 3, 4, 5, 7, 8, 9, 10, 11, 12, 13, 14, 15, 18, 37, 44, 51, 52, 56, 78, 79, 87, 95, 102, 113] func7 rfl rfl rfl (by rfl) (by show 1 ≤ 151; decide) (by rfl) (by rfl) (by show 0 ≤ 1; decide) (by rfl) (run_of ?_)
  (repeat (first | refine Zo (Z7 tis fls @dx @h0 @ex_eq @exGo_tup Zi) ?_ | refine .inl ⟨by kernel_rfl, ?_⟩ | exact .inl (by show _ = _; kernel_rfl) | exact Zc (Z7 tis fls @dx @h0 @ex_eq @exGo_tup Zi)); try ((first | refine callL cD ?_ | refine callB cD ?_); repeat (first | refine Zo (Z7 tis fls @dx @h0 @ex_eq @exGo_tup Zi) ?_ | refine .inl ⟨by kernel_rfl, ?_⟩ | exact .inl (by show _ = _; kernel_rfl) | exact Zc (Z7 tis fls @dx @h0 @ex_eq @exGo_tup Zi))); try ((first | refine callL cP ?_ | refine callB cP ?_); repeat (first | refine Zo (Z7 tis fls @dx @h0 @ex_eq @exGo_tup Zi) ?_ | refine .inl ⟨by kernel_rfl, ?_⟩ | exact .inl (by show _ = _; kernel_rfl) | exact Zc (Z7 tis fls @dx @h0 @ex_eq @exGo_tup Zi))); try ((first | refine callL cQ ?_ | refine callB cQ ?_); repeat (first | refine Zo (Z7 tis fls @dx @h0 @ex_eq @exGo_tup Zi) ?_ | refine .inl ⟨by kernel_rfl, ?_⟩ | exact .inl (by show _ = _; kernel_rfl) | exact Zc (Z7 tis fls @dx @h0 @ex_eq @exGo_tup Zi))))
  refine run_loop (α := Nat) (fun i => i ≤ p.length) (fun i => [(3, .box (.agg [.sl false 1 (d.parts.map (eSpans false)), .sl false 1 (d.rows.map (eInts false)), .sl false 1 (d.acc.map eInt)])), (4, .sl true 4 (p.map eIns)), (8, .int .i64 (cntO 2 (p.take i))), (9, .int .i64 (cntO 3 (p.take i))), (10, .int .i64 (cntO 1 (p.take i))), (11, .int .i64 i)]) (fun i => p.length - i) 0 (Nat.zero_le _) ?_ ?_
  ·have z : ∀ o, cntO o [] = 0 := fun _ => rfl
   (first | refine Zo (Z2 tis @z) ?_ | exact Zc (Z2 tis @z))
  ·intro i hi'
   have b1 := cntO_le 1 p i
   have b2 := cntO_le 2 p i
   have b3 := cntO_le 3 p i
   by_cases hi : i < p.length
   ·obtain ⟨gi2, gi⟩ := insM hi
    have s1 := cntO_s 1 hi
    have s2 := cntO_s 2 hi
    have s3 := cntO_s 3 hi
    have tox := hto _ (List.getElem_mem hi)
    generalize p[i].op = op at *
    generalize p[i].to = to at *
    generalize p[i].a = ia at *
    generalize p[i].b = ib at *
    by_cases o2 : op = 2
    ·subst o2
     rw [if_neg (by decide)] at s1
     rw [if_pos rfl] at s2
     rw [if_neg (by decide)] at s3
     (repeat (first | refine Zo (Z5 tis fls @gi @gi2 Zi) ?_ | refine .inl ⟨by kernel_rfl, ?_⟩ | exact .inl (by show _ = _; kernel_rfl) | exact Zc (Z5 tis fls @gi @gi2 Zi)))
     refine round_normal (i + 1) (by omega) ?_ (by show p.length - (i + 1) < p.length - i; omega)
     rw [s1, s2, s3]
     (first | refine Zo tis ?_ | exact Zc tis)
     done
    by_cases o3 : op = 3
    ·subst o3
     rw [if_neg (by decide)] at s1
     rw [if_neg (by decide)] at s2
     rw [if_pos rfl] at s3
     obtain ⟨v, hv, rfl⟩ := tox rfl
     have hs := hst v hv
     generalize (outN d id v).length = T at *
     cases T with
     | zero =>
      (repeat (first | refine Zo (Z5 tis fls @gi @gi2 Zi) ?_ | refine .inl ⟨by kernel_rfl, ?_⟩ | exact .inl (by show _ = _; kernel_rfl) | exact Zc (Z5 tis fls @gi @gi2 Zi)))
      refine round_normal (i + 1) (by omega) ?_ (by show p.length - (i + 1) < p.length - i; omega)
      rw [s1, s2, s3]
      (first | refine Zo tis ?_ | exact Zc tis)
      done
     | succ T =>
      have hs := hs (by omega)
      rw [Nat.add_sub_cancel] at hs
      have hTl : T < p.length := (List.getElem?_eq_some_iff.1 hs).1
      obtain ⟨ti2, ti⟩ := insM hTl
      have hpe : p[T] = ⟨4, 0, 0, 0⟩ := (List.getElem?_eq_some_iff.1 hs).2
      rw [hpe] at ti ti2
      have e1 : (T : Int) + 1 - 1 = T := by omega
      have e2 : (0 : Int) < (T : Int) + 1 := by omega
      (repeat (first | refine Zo (Z9 tis fls @gi @gi2 @ti @ti2 @e1 @e2 Zi) ?_ | refine .inl ⟨by kernel_rfl, ?_⟩ | exact .inl (by show _ = _; kernel_rfl) | exact Zc (Z9 tis fls @gi @gi2 @ti @ti2 @e1 @e2 Zi)))
      refine round_normal (i + 1) (by omega) ?_ (by show p.length - (i + 1) < p.length - i; omega)
      rw [s1, s2, s3]
      (first | refine Zo tis ?_ | exact Zc tis)
      done
    by_cases o1 : op = 1
    ·subst o1
     rw [if_pos rfl] at s1
     rw [if_neg (by decide)] at s2
     rw [if_neg (by decide)] at s3
     (repeat (first | refine Zo (Z5 tis fls @gi @gi2 Zi) ?_ | refine .inl ⟨by kernel_rfl, ?_⟩ | exact .inl (by show _ = _; kernel_rfl) | exact Zc (Z5 tis fls @gi @gi2 Zi)))
     refine round_normal (i + 1) (by omega) ?_ (by show p.length - (i + 1) < p.length - i; omega)
     rw [s1, s2, s3]
     (first | refine Zo tis ?_ | exact Zc tis)
     done
    rw [if_neg o1] at s1
    rw [if_neg o2] at s2
    rw [if_neg o3] at s3
    (repeat (first | refine Zo (Z8 tis fls @gi @gi2 @o1 @o2 @o3 Zi) ?_ | refine .inl ⟨by kernel_rfl, ?_⟩ | exact .inl (by show _ = _; kernel_rfl) | exact Zc (Z8 tis fls @gi @gi2 @o1 @o2 @o3 Zi)))
    refine round_normal (i + 1) (by omega) ?_ (by show p.length - (i + 1) < p.length - i; omega)
    rw [s1, s2, s3]
    (first | refine Zo tis ?_ | exact Zc tis)
    done
   ·obtain rfl : i = p.length := by omega
    rw [List.take_length] at *
    rw [n1, n2, n3]
    (repeat (first | refine Zo (Z3 tis fls Zi) ?_ | refine .inl ⟨by kernel_rfl, ?_⟩ | exact .inl (by show _ = _; kernel_rfl) | exact Zc (Z3 tis fls Zi)))
    refine run_loop (α := Nat) (fun s => s ≤ d.rows.length) (fun s => [(3, .box (.agg [.sl false 1 (d.parts.map (eSpans false)), .sl false 1 (d.rows.map (eInts false)), .sl false 1 (d.acc.map eInt)])), (4, .sl true 4 (p.map eIns)), (8, .int .i64 d.rows.length), (9, .int .i64 (spM d d.rows.length)), (10, .int .i64 (acM d d.rows.length)), (12, .int .i64 (spM d s)), (13, .int .i64 (acM d s)), (14, .int .i64 s)]) (fun s => d.rows.length - s) 0 (Nat.zero_le _) ?_ ?_
    ·simp -implicitDefEqProofs (disch := first | (intros; contradiction) | omega) only [am0, am1, am2, am3, am4, am5, am6, Nat.reduceSub, ↓reduceIte, reduceCtorEq, Nat.reduceEqDiff, Nat.reduceBEq, Nat.reduceAdd, Nat.reduceLT, Nat.reduceBNe, Nat.reduceMul, ↓reduceIte, tis, spM, acM]
    ·intro s hs'
     have m1 := spM_le hk s (by omega)
     have m2 := acM_le d s
     by_cases hs : s < d.rows.length
     ·have hl2 := hk.l s hs
      have gr2 : (d.rows.map (eInts false))[s]? = some (.sl false 1 (d.rows[s].map eInt)) := by simp [hs, eInts]
      have gr : (d.rows.map (eInts false)).getD s .undef = .sl false 1 (d.rows[s].map eInt) := by simp [List.getD, hs, eInts]
      have hsa : s < d.acc.length := by rw [hk.a]; exact hs
      have ga2 : (d.acc.map eInt)[s]? = some (.int .i64 (acV d s)) := by simp [acV, List.getD, hsa, eInt]
      have ga : (d.acc.map eInt).getD s .undef = .int .i64 (acV d s) := by simp [List.getD, ga2]
      have eg : ∀ k, glV d s k = d.rows[s].getD k 0 := fun k => by simp [glV, List.getD, hs]
      have sA : acM d (s + 1) = acM d s + (if 0 ≤ acV d s then 1 else 0) := rfl
      have sS : spM d (s + 1) = spM d s + spL d s d.parts.length := rfl
      have hla := hk.a
      generalize d.rows[s] = row at *
      generalize acV d s = av at *
      by_cases hav : 0 ≤ av
      ·rw [if_pos hav] at sA
       (repeat (first | refine Zo (Z7 tis fls @dx @ga @ga2 @hav Zi) ?_ | refine .inl ⟨by kernel_rfl, ?_⟩ | exact .inl (by show _ = _; kernel_rfl) | exact Zc (Z7 tis fls @dx @ga @ga2 @hav Zi)))
       refine run_loop (α := Nat) (fun k => k ≤ d.parts.length) (fun k => [(3, .box (.agg [.sl false 1 (d.parts.map (eSpans false)), .sl false 1 (d.rows.map (eInts false)), .sl false 1 (d.acc.map eInt)])), (4, .sl true 4 (p.map eIns)), (8, .int .i64 d.rows.length), (9, .int .i64 (spM d d.rows.length)), (10, .int .i64 (acM d d.rows.length)), (12, .int .i64 ((spM d s + spL d s k : Nat) : Int)), (13, .int .i64 ((acM d s + 1 : Nat) : Int)), (14, .int .i64 s), (15, .int .i64 k)]) (fun k => d.parts.length - k) 0 (Nat.zero_le _) ?_ ?_
       ·simp -implicitDefEqProofs (disch := first | (intros; contradiction) | omega) only [am0, am1, am2, am3, am4, am5, am6, Nat.reduceSub, ↓reduceIte, reduceCtorEq, Nat.reduceEqDiff, Nat.reduceBEq, Nat.reduceAdd, Nat.reduceLT, Nat.reduceBNe, Nat.reduceMul, ↓reduceIte, tis, spL]
       ·intro k hk'
        have hle := spL_le d s k hk'
        have hle2 := sumS_mono d.parts k
        have hps := hk.sm.ps
        by_cases hkk : k < d.parts.length
        ·have hkr : k < row.length := by omega
         have hS : spL d s (k + 1) = spL d s k + (if 0 ≤ glV d s k then (d.parts.getD k []).length else 0) := rfl
         have e1 : glV d s k = row[k] := by rw [eg]; simp [List.getD, hkr]
         have e2 : d.parts.getD k [] = d.parts[k] := by simp [List.getD, hkk]
         have hpl := hk.sm.pc _ (List.getElem_mem hkk)
         have gp2 : (d.parts.map (eSpans false))[k]? = some (.sl false 2 (d.parts[k].map eSpan)) := by simp [hkk, eSpans]
         have gp : (d.parts.map (eSpans false)).getD k .undef = .sl false 2 (d.parts[k].map eSpan) := by simp [List.getD, hkk, eSpans]
         have gk2 : (row.map eInt)[k]? = some (.int .i64 row[k]) := by simp [hkr, eInt]
         have gk : (row.map eInt).getD k .undef = .int .i64 row[k] := by simp [List.getD, gk2]
         rw [e1, e2] at hS
         generalize row[k] = x at *
         generalize d.parts[k] = sp at *
         by_cases hx : 0 ≤ x
         ·rw [if_pos hx] at hS
          (repeat (first | refine Zo (Z11 tis fls @dx @gr @gr2 @gk @gk2 @hx @gp @gp2 Zi) ?_ | refine .inl ⟨by kernel_rfl, ?_⟩ | exact .inl (by show _ = _; kernel_rfl) | exact Zc (Z11 tis fls @dx @gr @gr2 @gk @gk2 @hx @gp @gp2 Zi)))
          refine round_normal (k + 1) (by omega) ?_ (by show d.parts.length - (k + 1) < d.parts.length - k; omega)
          have eS : ((spM d s : Nat) : Int) + ((spL d s k + sp.length : Nat) : Int) = (spM d s : Int) + (spL d s k : Int) + (sp.length : Int) := by omega
          rw [hS, eS]
          (first | refine Zo tis ?_ | exact Zc tis)
          done
         ·rw [if_neg hx, Nat.add_zero] at hS
          (repeat (first | refine Zo (Z9 tis fls @dx @gr @gr2 @gk @gk2 @hx Zi) ?_ | refine .inl ⟨by kernel_rfl, ?_⟩ | exact .inl (by show _ = _; kernel_rfl) | exact Zc (Z9 tis fls @dx @gr @gr2 @gk @gk2 @hx Zi)))
          refine round_normal (k + 1) (by omega) ?_ (by show d.parts.length - (k + 1) < d.parts.length - k; omega)
          rw [hS]
          (first | refine Zo tis ?_ | exact Zc tis)
          done
        ·obtain rfl : k = d.parts.length := by omega
         (repeat (first | refine Zo (Z4 tis fls @dx Zi) ?_ | refine .inl ⟨by kernel_rfl, ?_⟩ | exact .inl (by show _ = _; kernel_rfl) | exact Zc (Z4 tis fls @dx Zi)))
         refine round_normal (s + 1) (by omega) ?_ (by show d.rows.length - (s + 1) < d.rows.length - s; omega)
         rw [sA, sS]
         (first | refine Zo tis ?_ | exact Zc tis)
         done
      ·rw [if_neg hav, Nat.add_zero] at sA
       (repeat (first | refine Zo (Z7 tis fls @dx @ga @ga2 @hav Zi) ?_ | refine .inl ⟨by kernel_rfl, ?_⟩ | exact .inl (by show _ = _; kernel_rfl) | exact Zc (Z7 tis fls @dx @ga @ga2 @hav Zi)))
       refine run_loop (α := Nat) (fun k => k ≤ d.parts.length) (fun k => [(3, .box (.agg [.sl false 1 (d.parts.map (eSpans false)), .sl false 1 (d.rows.map (eInts false)), .sl false 1 (d.acc.map eInt)])), (4, .sl true 4 (p.map eIns)), (8, .int .i64 d.rows.length), (9, .int .i64 (spM d d.rows.length)), (10, .int .i64 (acM d d.rows.length)), (12, .int .i64 ((spM d s + spL d s k : Nat) : Int)), (13, .int .i64 ((acM d s : Nat) : Int)), (14, .int .i64 s), (15, .int .i64 k)]) (fun k => d.parts.length - k) 0 (Nat.zero_le _) ?_ ?_
       ·simp -implicitDefEqProofs (disch := first | (intros; contradiction) | omega) only [am0, am1, am2, am3, am4, am5, am6, Nat.reduceSub, ↓reduceIte, reduceCtorEq, Nat.reduceEqDiff, Nat.reduceBEq, Nat.reduceAdd, Nat.reduceLT, Nat.reduceBNe, Nat.reduceMul, ↓reduceIte, tis, spL]
       ·intro k hk'
        have hle := spL_le d s k hk'
        have hle2 := sumS_mono d.parts k
        have hps := hk.sm.ps
        by_cases hkk : k < d.parts.length
        ·have hkr : k < row.length := by omega
         have hS : spL d s (k + 1) = spL d s k + (if 0 ≤ glV d s k then (d.parts.getD k []).length else 0) := rfl
         have e1 : glV d s k = row[k] := by rw [eg]; simp [List.getD, hkr]
         have e2 : d.parts.getD k [] = d.parts[k] := by simp [List.getD, hkk]
         have hpl := hk.sm.pc _ (List.getElem_mem hkk)
         have gp2 : (d.parts.map (eSpans false))[k]? = some (.sl false 2 (d.parts[k].map eSpan)) := by simp [hkk, eSpans]
         have gp : (d.parts.map (eSpans false)).getD k .undef = .sl false 2 (d.parts[k].map eSpan) := by simp [List.getD, hkk, eSpans]
         have gk2 : (row.map eInt)[k]? = some (.int .i64 row[k]) := by simp [hkr, eInt]
         have gk : (row.map eInt).getD k .undef = .int .i64 row[k] := by simp [List.getD, gk2]
         rw [e1, e2] at hS
         generalize row[k] = x at *
         generalize d.parts[k] = sp at *
         by_cases hx : 0 ≤ x
         ·rw [if_pos hx] at hS
          (repeat (first | refine Zo (Z11 tis fls @dx @gr @gr2 @gk @gk2 @hx @gp @gp2 Zi) ?_ | refine .inl ⟨by kernel_rfl, ?_⟩ | exact .inl (by show _ = _; kernel_rfl) | exact Zc (Z11 tis fls @dx @gr @gr2 @gk @gk2 @hx @gp @gp2 Zi)))
          refine round_normal (k + 1) (by omega) ?_ (by show d.parts.length - (k + 1) < d.parts.length - k; omega)
          have eS : ((spM d s : Nat) : Int) + ((spL d s k + sp.length : Nat) : Int) = (spM d s : Int) + (spL d s k : Int) + (sp.length : Int) := by omega
          rw [hS, eS]
          (first | refine Zo tis ?_ | exact Zc tis)
          done
         ·rw [if_neg hx, Nat.add_zero] at hS
          (repeat (first | refine Zo (Z9 tis fls @dx @gr @gr2 @gk @gk2 @hx Zi) ?_ | refine .inl ⟨by kernel_rfl, ?_⟩ | exact .inl (by show _ = _; kernel_rfl) | exact Zc (Z9 tis fls @dx @gr @gr2 @gk @gk2 @hx Zi)))
          refine round_normal (k + 1) (by omega) ?_ (by show d.parts.length - (k + 1) < d.parts.length - k; omega)
          rw [hS]
          (first | refine Zo tis ?_ | exact Zc tis)
          done
        ·obtain rfl : k = d.parts.length := by omega
         (repeat (first | refine Zo (Z4 tis fls @dx Zi) ?_ | refine .inl ⟨by kernel_rfl, ?_⟩ | exact .inl (by show _ = _; kernel_rfl) | exact Zc (Z4 tis fls @dx Zi)))
         refine round_normal (s + 1) (by omega) ?_ (by show d.rows.length - (s + 1) < d.rows.length - s; omega)
         rw [sA, sS]
         (first | refine Zo tis ?_ | exact Zc tis)
         done
     ·obtain rfl : s = d.rows.length := by omega
      have n5 : (p.length : Int) = d.rows.length + spM d d.rows.length + acM d d.rows.length + d.rows.length := by omega
      (repeat (first | refine Zo (Z5 tis fls @dx @n5 Zi) ?_ | refine .inl ⟨by kernel_rfl, ?_⟩ | exact .inl (by show _ = _; kernel_rfl) | exact Zc (Z5 tis fls @dx @n5 Zi)))
      done
theorem own : ownKnob prog.godebug = none := by kernel_rfl
theorem laidOut : laidOutB prog = true := by kernel_rfl
theorem all_map {α : Type} (f : α → AV) : ∀ xs : List AV, (∀ y ∈ xs, ∃ i, y = f i) → ∃ is : List α, xs = is.map f
 | [], _ => ⟨[], rfl⟩
 | y :: r, h => by
  obtain ⟨i, rfl⟩ := h y (List.mem_cons_self ..)
  obtain ⟨is, rfl⟩ := all_map f r (fun z hz => h z (List.mem_cons_of_mem _ hz))
  exact ⟨i :: is, rfl⟩
theorem typ_byte {n : Nat} {x : AV} (h : Typed prog n 5 x) : ∃ v : UInt8, x = .int .u8 v.toNat := by
 cases n with
 | zero => exact h.elim
 | succ n =>
  simp only [Typed, underlying5] at h
  obtain ⟨v, rfl, hw⟩ := h
  simp [Lit.wf, IntKind.min, IntKind.max, IntKind.bits, IntKind.signed] at hw
  refine ⟨UInt8.ofNat v.toNat, ?_⟩
  rw [UInt8.toNat_ofNat']
  congr 1
  omega
theorem typ_code {n : Nat} {x : AV} (h : Typed prog n 22 x) : ∃ c : List UInt8, x = .sl false 1 (bytesA c) ∧ c.length ≤ 9223372036854775807 := by
 cases n with
 | zero => exact h.elim
 | succ n =>
  have co : prog.cellsOf 5 = 1 := by kernel_rfl
  simp only [Typed, underlying22, co] at h
  obtain ⟨xs, rfl, hl, hf⟩ := h
  obtain ⟨p, rfl⟩ := all_map (fun v : UInt8 => AV.int .u8 v.toNat) xs (fun y hy => typ_byte (hf y hy))
  exact ⟨p, rfl, by simpa [maxLen] using hl⟩
end Go.Proofs.Ytikpjpinkkllaaa.U
