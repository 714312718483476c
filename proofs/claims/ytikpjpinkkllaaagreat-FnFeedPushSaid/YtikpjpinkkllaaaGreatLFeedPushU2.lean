/- What functions of the program answer, on values without memory (part 2): conditions stand at each theorem. -/
import Derived.Test.YtikpjpinkkllaaaGreatRows
import Derived.Test.YtikpjpinkkllaaaGreatLFeedPushU1
set_option linter.unusedVariables false
set_option linter.unusedSimpArgs false
set_option maxRecDepth 100000
set_option maxHeartbeats 4000000
namespace Go.Proofs.YtikpjpinkkllaaaGreat.U
open Go Go.RowKit Go.Proofs Go.Proofs.YtikpjpinkkllaaaGreat.Am AV Go.Proofs.Tryz
theorem erL_vec (o : Bool) (l : List (List Rex)) : eraseL (l.map (eVec o)) = l.map (eVec false) := by
 rw [eraseL_map, List.map_map]; refine List.map_congr_left fun x _ => ?_; simp [eVec, erase, erL_rex]
theorem plL_vec (l : List (List Rex)) : plainL (l.map (eVec false)) = true := by rw [plainL_all]; simp [eVec, plain, plL_rex]
theorem vx : (∀ o (l : List (List Rex)), eraseL (l.map (eVec o)) = l.map (eVec false)) ∧ (∀ l : List (List Rex), plainL (l.map (eVec false)) = true) := ⟨erL_vec, plL_vec⟩
noncomputable def colS (A : List (List Rex)) (row : List Int) (x : List Rex) : Option (List (List Rex) × List Int) :=
 if atV A x < 0 ∧ goneV x = false then (if 40 ≤ A.length ∨ bigV x = true then none else some (A ++ [x], row ++ [(A.length : Int)]))
 else some (A, row ++ [if goneV x = true then -1 else atV A x])
noncomputable def rowF (v : List Rex) : List (List Span) → List (List Rex) → List Int → Option (List (List Rex) × List Int)
 | [], A, row => some (A, row)
 | p :: ps, A, row => match colS A row (vecR (firstB p) v) with | none => none | some z => rowF v ps z.1 z.2
noncomputable def machF (P : List (List Span)) : Nat → Nat → List (List Rex) → List (List Int) → List Int → Option Dfa
 | 0, _, _, _, _ => none
 | n + 1, s, A, rows, acc => match A[s]? with
  | none => some ⟨P, rows, acc⟩
  | some v => match rowF v P A [] with | none => none | some z => machF P n (s + 1) z.1 (rows ++ [z.2]) (acc ++ [accV v])
def setsV (l : List Rule) : List (List Span) := (l.map fun x => setsR x.rex).flatten
def startV (l : List Rule) : List Rex := l.map fun x => normR x.rex
noncomputable def dfaOfV (l : List Rule) : Option Dfa := machF (partsL (setsV l)) 41 0 [startV l] [] []
def zDfa : Dfa := ⟨[], [], []⟩
structure VOk (n : Nat) (v : List Rex) : Prop where
 len : v.length = n
 ok : ∀ r ∈ v, Okr r ∧ gB (bd r) ≤ 500000000
theorem VOk.vbd {n : Nat} {v : List Rex} (h : VOk n v) : ∀ r ∈ v, Okr r ∧ bd r ≤ 1099511627776 := fun r hr => by
 obtain ⟨a, b⟩ := h.ok r hr
 rw [gB_eq] at b
 exact ⟨a, by omega⟩
theorem vec_bd {n : Nat} {v : List Rex} (h : VOk n v) (b : Int) : ∀ r ∈ vecR b v, Okr r ∧ bd r ≤ 1099511627776 := fun r hr => by
 unfold vecR at hr
 obtain ⟨x, hx, rfl⟩ := List.mem_map.1 hr
 obtain ⟨a, c⟩ := h.ok x hx
 obtain ⟨d, e⟩ := derR_ok b x a
 exact ⟨d, by omega⟩
theorem vec_ok {n : Nat} {v : List Rex} (h : VOk n v) (b : Int) (hb : bigV (vecR b v) = false) : VOk n (vecR b v) := by
 refine ⟨by unfold vecR; rw [List.length_map]; exact h.len, fun r hr => ?_⟩
 have ho := (vec_bd h b r hr).1
 unfold bigV at hb
 rw [List.any_eq_false] at hb
 have := bigR_no (by simpa using hb r hr) ho
 have := gB_mono this
 exact ⟨ho, Nat.le_trans this (by decide)⟩
theorem colS_ok {n : Nat} {A : List (List Rex)} {row : List Int} {v : List Rex} {b : Int} {z} (hv : VOk n v) (hA : ∀ u ∈ A, VOk n u) (hl : A.length ≤ 40) (h : colS A row (vecR b v) = some z) :
  (∀ u ∈ z.1, VOk n u) ∧ z.1.length ≤ 40 ∧ A <+: z.1 ∧ z.2.length = row.length + 1 := by
 unfold colS at h
 split at h
 ·split at h
  ·cases h
  ·rename_i hc
   simp only [Option.some.injEq] at h; subst h
   rw [not_or] at hc
   have hb : bigV (vecR b v) = false := by simpa using hc.2
   refine ⟨fun u hu => ?_, by simp only [List.length_append, List.length_singleton]; omega, List.prefix_append _ _, by simp⟩
   rcases List.mem_append.1 hu with hu | hu
   ·exact hA u hu
   ·simp at hu; subst hu; exact vec_ok hv b hb
 ·simp only [Option.some.injEq] at h; subst h
  exact ⟨hA, hl, List.prefix_refl _, by simp⟩
theorem rowF_at {v : List Rex} {P : List (List Span)} {k : Nat} {A : List (List Rex)} {row : List Int} (h : k < P.length) : rowF v (P.drop k) A row = match colS A row (vecR (firstB P[k]) v) with | none => none | some z => rowF v (P.drop (k + 1)) z.1 z.2 := by
 rw [List.drop_eq_getElem_cons h]; rfl
theorem machF_at {P : List (List Span)} {n s : Nat} {A : List (List Rex)} {rows : List (List Int)} {acc : List Int} (h : s < A.length) : machF P (n + 1) s A rows acc = match rowF A[s] P A [] with | none => none | some z => machF P n (s + 1) z.1 (rows ++ [z.2]) (acc ++ [accV A[s]]) := by
 rw [machF, List.getElem?_eq_getElem h]
def eDfa2 (d : Dfa) : AV := .agg [.sl true 1 (d.parts.map (eSpans false)), .sl true 1 (d.rows.map (eInts true)), .sl true 1 (d.acc.map eInt)]
theorem er_dfa2 (d : Dfa) : erase (eDfa2 d) = eDfa false d := by simp [eDfa2, eDfa, erase, eraseL, dx, fls]
structure ROk (l : List Rule) : Prop where
 len : l.length ≤ 5
 pos : 0 < l.length
 ok : ∀ x ∈ l, Okr x.rex ∧ ps x.rex ≤ 24
theorem ROk.rbd {l : List Rule} (h : ROk l) : ∀ x ∈ l, Okr x.rex ∧ bd x.rex ≤ 3095 := fun x hx => by
 obtain ⟨a, b⟩ := h.ok x hx
 have := bd_ps x.rex a
 exact ⟨a, by omega⟩
theorem ROk.start {l : List Rule} (h : ROk l) : VOk l.length (startV l) := by
 refine ⟨by unfold startV; simp, fun r hr => ?_⟩
 unfold startV at hr
 obtain ⟨x, hx, rfl⟩ := List.mem_map.1 hr
 obtain ⟨a, b⟩ := h.ok x hx
 have h1 := (h.rbd x hx).2
 have h2 := normR_bd x.rex a
 exact ⟨(normR_ok x.rex a).1, Nat.le_trans (gB_mono (show bd (normR x.rex) ≤ 9335 by omega)) (by decide)⟩
theorem sets_le {l : List Rule} (h : ROk l) (i : Nat) : (setsV (l.take i)).length ≤ 15480 ∧ ∀ p ∈ setsV (l.take i), p.length ≤ 1048576 := by
 have key : ∀ m : List Rule, (∀ x ∈ m, Okr x.rex ∧ bd x.rex ≤ 3095) → (setsV m).length ≤ 3096 * m.length ∧ ∀ p ∈ setsV m, p.length ≤ 1048576 := by
  intro m
  induction m with
  | nil => intro; simp [setsV]
  | cons x m ih =>
   intro hm
   have a := hm x (List.mem_cons_self ..)
   obtain ⟨b1, b2⟩ := ih (fun y hy => hm y (List.mem_cons_of_mem _ hy))
   have c := setsR_len x.rex
   have d := setsR_mem x.rex
   unfold setsV at *
   simp only [List.map_cons, List.flatten_cons, List.length_append, List.length_cons, List.mem_append]
   refine ⟨by omega, fun p hp => ?_⟩
   rcases hp with hp | hp
   ·have := d p hp; omega
   ·exact b2 p hp
 obtain ⟨a, b⟩ := key (l.take i) (fun x hx => h.rbd x (List.mem_of_mem_take hx))
 have := h.len
 rw [List.length_take] at a
 exact ⟨by omega, b⟩
theorem setsV_s {l : List Rule} {i : Nat} (h : i < l.length) : setsV (l.take (i + 1)) = setsV (l.take i) ++ setsR l[i].rex := by
 unfold setsV; rw [List.take_succ_eq_append_getElem h, List.map_append, List.flatten_append]; simp
theorem startV_s {l : List Rule} {i : Nat} (h : i < l.length) : startV (l.take (i + 1)) = startV (l.take i) ++ [normR l[i].rex] := by
 unfold startV; rw [List.take_succ_eq_append_getElem h, List.map_append]; rfl
structure MG where
 n : Nat
 s : Nat
 A : List (List Rex)
 rows : List (List Int)
 acc : List Int
structure MI (P : List (List Span)) (L : Nat) (R : Option Dfa) (g : MG) : Prop where
 eq : R = machF P g.n g.s g.A g.rows g.acc
 ns : g.n + g.s = 41
 sl : g.s ≤ g.A.length
 len : g.A.length ≤ 40
 ok : ∀ u ∈ g.A, VOk L u
 rl : g.rows.length = g.s
 al : g.acc.length = g.s
 rc : ∀ r ∈ g.rows, r.length = P.length
structure RG where
 k : Nat
 A : List (List Rex)
 row : List Int
structure RI (P : List (List Span)) (L : Nat) (v : List Rex) (s : Nat) (R : Option (List (List Rex) × List Int)) (g : RG) : Prop where
 eq : R = rowF v (P.drop g.k) g.A g.row
 kl : g.k ≤ P.length
 len : g.A.length ≤ 40
 ok : ∀ u ∈ g.A, VOk L u
 at_ : g.A[s]? = some v
 rl : g.row.length = g.k
theorem fits_l7Of2 (l : List Rule) (h : ROk l) : Fits prog 68 [.sl false 4 (l.map (eRule false))] (.tup [eDfa2 ((dfaOfV l).getD zDfa), .bool (dfaOfV l).isSome]) [] := by
 have h5 := h.len
 have hst := h.start
 obtain ⟨hp1, hp2⟩ := partsL_ok (setsV l)
 have hp3 : ∀ p ∈ partsL (setsV l), p.length ≤ 1048576 := fun p hp => by
  have := setB_256 (hp2 p hp).1; omega
 obtain ⟨q1, q2⟩ := sets_le h l.length
 rw [List.take_length] at q1 q2
 have cP : Fits prog 64 [.sl true 1 ((setsV l).map (eSpans false))] (.sl true 1 ((partsL (setsV l)).map (eSpans false))) [] := fits_take (by simpa only [eraseL, erase, erL_spans] using fits_sSetParts (setsV l) (by omega) q2)
 have hR : dfaOfV l = machF (partsL (setsV l)) 41 0 [startV l] [] [] := rfl
 generalize dfaOfV l = R at *
 unfold eDfa2
 refine fits_of_pair 2 81 3 [] [0, 2, 3, 4, 5, 6, 7, 8, 9, 10, 11, 12, 13, 19, 48, 56, 79, 86, 95] func68 rfl rfl rfl (by show 2 < 117; decide) (by show 3 < 117; decide) (by show 1 ≤ 117; decide) (by rfl) (by rfl) (by show 0 ≤ 1; decide) (by rfl) (run_of ?_)
 (first | refine Zo (Z2 tis fls) ?_ | exact Zc (Z2 tis fls))
 refine run_loop (α := Nat) (fun i => i ≤ l.length) (fun i => [(0, .sl false 4 (l.map (eRule false))), (2, .box (.agg [.sl true 1 [], .sl true 1 [], .sl true 1 []])), (4, .sl true 1 ((setsV (l.take i)).map (eSpans false))), (5, .sl true 3 ((startV (l.take i)).map (eRex false))), (6, .int .i64 i)]) (fun i => l.length - i) 0 (Nat.zero_le _) ?_ ?_
 ·have e1 : setsV (l.take 0) = [] := rfl
  have e2 : startV (l.take 0) = [] := rfl
  rw [e1, e2]
  (first | refine Zo (Z2 tis @LLmapnil) ?_ | exact Zc (Z2 tis @LLmapnil))
 ·intro i hi'
  obtain ⟨z1, z2⟩ := sets_le h i
  have z3 : (startV (l.take i)).length ≤ 5 := by unfold startV; simp; omega
  by_cases hi : i < l.length
  ·obtain ⟨o1, o2⟩ := h.rbd _ (List.getElem_mem hi)
   have e1 := setsV_s hi
   have e2 := startV_s hi
   have lS := setsR_len l[i].rex
   have cS := fits_l2Sets l[i].rex (by omega)
   have cC := fits_l2Copy l[i].rex (by omega)
   have cN : Fits prog 82 [eRex true l[i].rex] (eRex false (normR l[i].rex)) [] := fits_take (by simpa only [eraseL, er_rex] using fits_l4Norm l[i].rex o1 (by omega))
   have er := eRule_eq false l[i]
   generalize normR l[i].rex = N at *
   rw [eRex_eq false l[i].rex] at cS cC
   rw [eRex_eq true l[i].rex] at cC cN
   have eN := eRex_eq false N
   rw [eN] at cN
   (repeat (first | refine callL cS ?_ | refine callB cS ?_ | refine callL cC ?_ | refine callB cC ?_ | refine callV cN ?_ | refine Zo (Z7 tis fls rx @dx @ux @er Zi) ?_ | refine .inl ⟨by kernel_rfl, ?_⟩ | exact .inl (by show _ = _; kernel_rfl) | exact Zc (Z7 tis fls rx @dx @ux @er Zi)))
   refine round_normal (i + 1) (by omega) ?_ (by show l.length - (i + 1) < l.length - i; omega)
   rw [e1, e2, List.map_append, List.map_append, List.map_cons, List.map_nil, eN]
   (first | refine Zo tis ?_ | exact Zc tis)
  ·obtain rfl : i = l.length := by omega
   rw [List.take_length] at *
   (repeat (first | refine callV cP ?_ | refine Zo (Z6 tis fls rx @dx @ux Zi) ?_ | refine .inl ⟨by kernel_rfl, ?_⟩ | exact .inl (by show _ = _; kernel_rfl) | exact Zc (Z6 tis fls rx @dx @ux Zi)))
   generalize partsL (setsV l) = P at *
   generalize hD : R.getD zDfa = D
   generalize hS : R.isSome = S
   have hL : startV l = [] ∨ startV l ≠ [] := Classical.em _
   have hv0 : (startV l).length ≤ 5 := z3
   have zp : zDfa.parts = [] := rfl
   have zr : zDfa.rows = [] := rfl
   have za : zDfa.acc = [] := rfl
   generalize hLl : l.length = L at *
   refine run_loopF [(8, [0])] (α := MG) (MI P L R) (fun g => [(2, .box (.agg [.sl true 1 [], .sl true 1 [], .sl true 1 []])), (7, .box (.agg [.sl true 1 (P.map (eSpans false)), .sl true 1 (g.rows.map (eInts true)), .sl true 1 (g.acc.map eInt)])), (8, .sl true 1 (g.A.map (eVec false))), (9, .int .i64 g.s)]) (fun g => g.n) ⟨41, 0, [startV l], [], []⟩ ⟨hR, rfl, Nat.zero_le _, by simp, by simpa using hst, rfl, rfl, by simp⟩ ?_ ?_
   ·simp only [List.map_cons, List.map_nil, eVec]
    (first | refine Zo (Z4 tis fls rx @dx) ?_ | exact Zc (Z4 tis fls rx @dx))
   ·rintro ⟨n, s, A, rows, acc⟩ ⟨m1, m2, m3, m4, m5, m6, m7, m8⟩
    simp only at m1 m2 m3 m4 m5 m6 m7 m8
    by_cases hs : s < A.length
    ·obtain ⟨n, rfl⟩ : ∃ k, n = k + 1 := ⟨n - 1, by omega⟩
     rw [machF_at hs] at m1
     have hv := m5 _ (List.getElem_mem hs)
     obtain ⟨gv1, gv2⟩ := vec_ext A s hs
     have hat : A[s]? = some A[s] := List.getElem?_eq_getElem hs
     generalize A[s] = v at *
     generalize hQ : rowF v P A [] = Q at *
     (first | refine Zo (Z5 tis fls rx @dx @vx) ?_ | exact Zc (Z5 tis fls rx @dx @vx))
     refine run_loop (α := RG) (RI P L v s Q) (fun g => [(2, .box (.agg [.sl true 1 [], .sl true 1 [], .sl true 1 []])), (7, .box (.agg [.sl true 1 (P.map (eSpans false)), .sl true 1 (rows.map (eInts true)), .sl true 1 (acc.map eInt)])), (8, .sl true 1 (g.A.map (eVec false))), (9, .int .i64 s), (10, .sl true 1 (g.row.map eInt)), (11, .int .i64 g.k)]) (fun g => P.length - g.k) ⟨0, A, []⟩ ⟨hQ.symm, Nat.zero_le _, m4, m5, hat, rfl⟩ ?_ ?_
     ·(first | refine Zo (Z2 tis @LLmapnil) ?_ | exact Zc (Z2 tis @LLmapnil))
     ·rintro ⟨k, B, row⟩ ⟨r1, r2, r3, r4, r5, r6⟩
      simp only at r1 r2 r3 r4 r5 r6
      obtain ⟨hsB, hBs⟩ := List.getElem?_eq_some_iff.1 r5
      obtain ⟨gb1, gb2⟩ := vec_ext B s hsB
      rw [hBs] at gb1 gb2
      by_cases hk : k < P.length
      ·rw [rowF_at hk] at r1
       have cF := fits_sSetFirst P[k] (hp3 _ (List.getElem_mem hk))
       have gp : (P.map (eSpans false)).getD k .undef = .sl false 2 (P[k].map eSpan) := by simp [List.getD, hk, eSpans]
       have gp2 : (P.map (eSpans false))[k]? = some (.sl false 2 (P[k].map eSpan)) := by simp [hk, eSpans]
       generalize P[k] = p at *
       generalize firstB p = b at *
       have cV : Fits prog 84 [.sl false 3 (v.map (eRex false)), .int .i64 b] (.sl false 3 ((vecR b v).map (eRex false))) [] := fits_as (fits_l7Vec b v hv.ok (by have := hv.len; omega)) (by simp [erase, erL_rex])
       have xb := vec_bd hv b
       have xl : (vecR b v).length = L := by unfold vecR; rw [List.length_map]; exact hv.len
       have hco := fun z => colS_ok (row := row) (z := z) hv r4 r3 (b := b)
       have cA := fits_l7At B (vecR b v) (by omega) (by omega) (fun u hu => by rw [xl]; exact (r4 u hu).len) (fun u hu r hr => ((r4 u hu).vbd r hr).2)
       have cG := fits_l7Gone (vecR b v) (by omega) (fun r hr => (xb r hr).2)
       have cB := fits_l7Big (vecR b v) (by omega) (fun r hr => (xb r hr).2)
       have hat2 := first_lt (fun u => decide (u = vecR b v)) B
       change -1 ≤ atV B (vecR b v) ∧ atV B (vecR b v) < B.length at hat2
       have hcs : colS B row (vecR b v) = if atV B (vecR b v) < 0 ∧ goneV (vecR b v) = false then (if 40 ≤ B.length ∨ bigV (vecR b v) = true then none else some (B ++ [vecR b v], row ++ [(B.length : Int)])) else some (B, row ++ [if goneV (vecR b v) = true then -1 else atV B (vecR b v)]) := rfl
       generalize hX : vecR b v = x at *
       generalize atV B x = t at *
       generalize goneV x = g at *
       generalize bigV x = q at *
       have hx2 : eVec false x = .sl false 3 (x.map (eRex false)) := rfl
       have fin : ∀ B' row' (hc : colS B row x = some (B', row')), RI P L v s Q ⟨k + 1, B', row'⟩ := fun B' row' hc => by
        obtain ⟨w1, w2, w3, w4⟩ := hco _ hc
        rw [hc] at r1
        exact ⟨r1, hk, w2, w1, by obtain ⟨tl, rfl⟩ := w3; rw [List.getElem?_append_left hsB]; exact r5, by simp only at w4 ⊢; omega⟩
       have hk40 : ∀ h : 40 ≤ B.length, (40 : Int) ≤ B.length := fun h => by omega
       have hn40 : ∀ h : ¬ 40 ≤ B.length, ¬ (40 : Int) ≤ B.length := fun h => by omega
       cases g with
       | true =>
        rw [if_neg (by simp), if_pos rfl] at hcs
        have F := fin _ _ hcs
        have er : (row ++ [(-1 : Int)]).map eInt = row.map eInt ++ [.int .i64 (-1)] := by simp [eInt]
        by_cases ht : t < 0
        all_goals
         (repeat (first | refine Zo (Z11 tis fls rx @dx @vx @gb1 @gb2 @gp @gp2 @ht Zi) ?_ | refine .inl ⟨by kernel_rfl, ?_⟩ | exact .inl (by show _ = _; kernel_rfl) | exact Zc (Z11 tis fls rx @dx @vx @gb1 @gb2 @gp @gp2 @ht Zi)); try ((first | refine callL cF ?_ | refine callB cF ?_); repeat (first | refine Zo (Z11 tis fls rx @dx @vx @gb1 @gb2 @gp @gp2 @ht Zi) ?_ | refine .inl ⟨by kernel_rfl, ?_⟩ | exact .inl (by show _ = _; kernel_rfl) | exact Zc (Z11 tis fls rx @dx @vx @gb1 @gb2 @gp @gp2 @ht Zi))); try ((first | refine callL cV ?_ | refine callB cV ?_); repeat (first | refine Zo (Z11 tis fls rx @dx @vx @gb1 @gb2 @gp @gp2 @ht Zi) ?_ | refine .inl ⟨by kernel_rfl, ?_⟩ | exact .inl (by show _ = _; kernel_rfl) | exact Zc (Z11 tis fls rx @dx @vx @gb1 @gb2 @gp @gp2 @ht Zi))); try ((first | refine callL cA ?_ | refine callB cA ?_); repeat (first | refine Zo (Z11 tis fls rx @dx @vx @gb1 @gb2 @gp @gp2 @ht Zi) ?_ | refine .inl ⟨by kernel_rfl, ?_⟩ | exact .inl (by show _ = _; kernel_rfl) | exact Zc (Z11 tis fls rx @dx @vx @gb1 @gb2 @gp @gp2 @ht Zi))); try ((first | refine callL cG ?_ | refine callB cG ?_); repeat (first | refine Zo (Z11 tis fls rx @dx @vx @gb1 @gb2 @gp @gp2 @ht Zi) ?_ | refine .inl ⟨by kernel_rfl, ?_⟩ | exact .inl (by show _ = _; kernel_rfl) | exact Zc (Z11 tis fls rx @dx @vx @gb1 @gb2 @gp @gp2 @ht Zi))); try ((first | refine callL cG ?_ | refine callB cG ?_); repeat (first | refine Zo (Z11 tis fls rx @dx @vx @gb1 @gb2 @gp @gp2 @ht Zi) ?_ | refine .inl ⟨by kernel_rfl, ?_⟩ | exact .inl (by show _ = _; kernel_rfl) | exact Zc (Z11 tis fls rx @dx @vx @gb1 @gb2 @gp @gp2 @ht Zi))))
         refine round_normal ⟨k + 1, _, _⟩ F ?_ (by show P.length - (k + 1) < P.length - k; omega)
         rw [er]
         (first | refine Zo tis ?_ | exact Zc tis)
       | false =>
        by_cases ht : t < 0
        ·rw [if_pos ⟨ht, rfl⟩] at hcs
         by_cases h40 : 40 ≤ B.length
         ·rw [if_pos (.inl h40)] at hcs
          rw [hcs] at r1
          simp only at r1
          have e40 := hk40 h40
          rw [r1] at m1
          simp only at m1
          obtain rfl : D = zDfa := by rw [← hD, m1]; rfl
          obtain rfl : S = false := by rw [← hS, m1]; rfl
          simp only [zp, zr, za, List.map_nil]
          (repeat (first | refine Zo (Z13 tis fls rx @dx @vx @gb1 @gb2 @gp @gp2 @ht @e40 retCB.eq_1 Zi) ?_ | refine .inl ⟨by kernel_rfl, ?_⟩ | exact .inl (by show _ = _; kernel_rfl) | exact Zc (Z13 tis fls rx @dx @vx @gb1 @gb2 @gp @gp2 @ht @e40 retCB.eq_1 Zi)); try ((first | refine callL cF ?_ | refine callB cF ?_); repeat (first | refine Zo (Z13 tis fls rx @dx @vx @gb1 @gb2 @gp @gp2 @ht @e40 retCB.eq_1 Zi) ?_ | refine .inl ⟨by kernel_rfl, ?_⟩ | exact .inl (by show _ = _; kernel_rfl) | exact Zc (Z13 tis fls rx @dx @vx @gb1 @gb2 @gp @gp2 @ht @e40 retCB.eq_1 Zi))); try ((first | refine callL cV ?_ | refine callB cV ?_); repeat (first | refine Zo (Z13 tis fls rx @dx @vx @gb1 @gb2 @gp @gp2 @ht @e40 retCB.eq_1 Zi) ?_ | refine .inl ⟨by kernel_rfl, ?_⟩ | exact .inl (by show _ = _; kernel_rfl) | exact Zc (Z13 tis fls rx @dx @vx @gb1 @gb2 @gp @gp2 @ht @e40 retCB.eq_1 Zi))); try ((first | refine callL cA ?_ | refine callB cA ?_); repeat (first | refine Zo (Z13 tis fls rx @dx @vx @gb1 @gb2 @gp @gp2 @ht @e40 retCB.eq_1 Zi) ?_ | refine .inl ⟨by kernel_rfl, ?_⟩ | exact .inl (by show _ = _; kernel_rfl) | exact Zc (Z13 tis fls rx @dx @vx @gb1 @gb2 @gp @gp2 @ht @e40 retCB.eq_1 Zi))); try ((first | refine callL cG ?_ | refine callB cG ?_); repeat (first | refine Zo (Z13 tis fls rx @dx @vx @gb1 @gb2 @gp @gp2 @ht @e40 retCB.eq_1 Zi) ?_ | refine .inl ⟨by kernel_rfl, ?_⟩ | exact .inl (by show _ = _; kernel_rfl) | exact Zc (Z13 tis fls rx @dx @vx @gb1 @gb2 @gp @gp2 @ht @e40 retCB.eq_1 Zi))))
         ·have e40 := hn40 h40
          cases q with
          | true =>
           rw [if_pos (.inr rfl)] at hcs
           rw [hcs] at r1
           simp only at r1
           rw [r1] at m1
           simp only at m1
           obtain rfl : D = zDfa := by rw [← hD, m1]; rfl
           obtain rfl : S = false := by rw [← hS, m1]; rfl
           simp only [zp, zr, za, List.map_nil]
           (repeat (first | refine Zo (Z13 tis fls rx @dx @vx @gb1 @gb2 @gp @gp2 @ht @e40 retCB.eq_1 Zi) ?_ | refine .inl ⟨by kernel_rfl, ?_⟩ | exact .inl (by show _ = _; kernel_rfl) | exact Zc (Z13 tis fls rx @dx @vx @gb1 @gb2 @gp @gp2 @ht @e40 retCB.eq_1 Zi)); try ((first | refine callL cF ?_ | refine callB cF ?_); repeat (first | refine Zo (Z13 tis fls rx @dx @vx @gb1 @gb2 @gp @gp2 @ht @e40 retCB.eq_1 Zi) ?_ | refine .inl ⟨by kernel_rfl, ?_⟩ | exact .inl (by show _ = _; kernel_rfl) | exact Zc (Z13 tis fls rx @dx @vx @gb1 @gb2 @gp @gp2 @ht @e40 retCB.eq_1 Zi))); try ((first | refine callL cV ?_ | refine callB cV ?_); repeat (first | refine Zo (Z13 tis fls rx @dx @vx @gb1 @gb2 @gp @gp2 @ht @e40 retCB.eq_1 Zi) ?_ | refine .inl ⟨by kernel_rfl, ?_⟩ | exact .inl (by show _ = _; kernel_rfl) | exact Zc (Z13 tis fls rx @dx @vx @gb1 @gb2 @gp @gp2 @ht @e40 retCB.eq_1 Zi))); try ((first | refine callL cA ?_ | refine callB cA ?_); repeat (first | refine Zo (Z13 tis fls rx @dx @vx @gb1 @gb2 @gp @gp2 @ht @e40 retCB.eq_1 Zi) ?_ | refine .inl ⟨by kernel_rfl, ?_⟩ | exact .inl (by show _ = _; kernel_rfl) | exact Zc (Z13 tis fls rx @dx @vx @gb1 @gb2 @gp @gp2 @ht @e40 retCB.eq_1 Zi))); try ((first | refine callL cG ?_ | refine callB cG ?_); repeat (first | refine Zo (Z13 tis fls rx @dx @vx @gb1 @gb2 @gp @gp2 @ht @e40 retCB.eq_1 Zi) ?_ | refine .inl ⟨by kernel_rfl, ?_⟩ | exact .inl (by show _ = _; kernel_rfl) | exact Zc (Z13 tis fls rx @dx @vx @gb1 @gb2 @gp @gp2 @ht @e40 retCB.eq_1 Zi))); try ((first | refine callL cB ?_ | refine callB cB ?_); repeat (first | refine Zo (Z13 tis fls rx @dx @vx @gb1 @gb2 @gp @gp2 @ht @e40 retCB.eq_1 Zi) ?_ | refine .inl ⟨by kernel_rfl, ?_⟩ | exact .inl (by show _ = _; kernel_rfl) | exact Zc (Z13 tis fls rx @dx @vx @gb1 @gb2 @gp @gp2 @ht @e40 retCB.eq_1 Zi))))
          | false =>
           rw [if_neg (by simpa using h40)] at hcs
           have F := fin _ _ hcs
           have er : (row ++ [(B.length : Int)]).map eInt = row.map eInt ++ [.int .i64 B.length] := by simp [eInt]
           (repeat (first | refine Zo (Z12 tis fls rx @dx @vx @gb1 @gb2 @gp @gp2 @ht @e40 Zi) ?_ | refine .inl ⟨by kernel_rfl, ?_⟩ | exact .inl (by show _ = _; kernel_rfl) | exact Zc (Z12 tis fls rx @dx @vx @gb1 @gb2 @gp @gp2 @ht @e40 Zi)); try ((first | refine callL cF ?_ | refine callB cF ?_); repeat (first | refine Zo (Z12 tis fls rx @dx @vx @gb1 @gb2 @gp @gp2 @ht @e40 Zi) ?_ | refine .inl ⟨by kernel_rfl, ?_⟩ | exact .inl (by show _ = _; kernel_rfl) | exact Zc (Z12 tis fls rx @dx @vx @gb1 @gb2 @gp @gp2 @ht @e40 Zi))); try ((first | refine callL cV ?_ | refine callB cV ?_); repeat (first | refine Zo (Z12 tis fls rx @dx @vx @gb1 @gb2 @gp @gp2 @ht @e40 Zi) ?_ | refine .inl ⟨by kernel_rfl, ?_⟩ | exact .inl (by show _ = _; kernel_rfl) | exact Zc (Z12 tis fls rx @dx @vx @gb1 @gb2 @gp @gp2 @ht @e40 Zi))); try ((first | refine callL cA ?_ | refine callB cA ?_); repeat (first | refine Zo (Z12 tis fls rx @dx @vx @gb1 @gb2 @gp @gp2 @ht @e40 Zi) ?_ | refine .inl ⟨by kernel_rfl, ?_⟩ | exact .inl (by show _ = _; kernel_rfl) | exact Zc (Z12 tis fls rx @dx @vx @gb1 @gb2 @gp @gp2 @ht @e40 Zi))); try ((first | refine callL cG ?_ | refine callB cG ?_); repeat (first | refine Zo (Z12 tis fls rx @dx @vx @gb1 @gb2 @gp @gp2 @ht @e40 Zi) ?_ | refine .inl ⟨by kernel_rfl, ?_⟩ | exact .inl (by show _ = _; kernel_rfl) | exact Zc (Z12 tis fls rx @dx @vx @gb1 @gb2 @gp @gp2 @ht @e40 Zi))); try ((first | refine callL cB ?_ | refine callB cB ?_); repeat (first | refine Zo (Z12 tis fls rx @dx @vx @gb1 @gb2 @gp @gp2 @ht @e40 Zi) ?_ | refine .inl ⟨by kernel_rfl, ?_⟩ | exact .inl (by show _ = _; kernel_rfl) | exact Zc (Z12 tis fls rx @dx @vx @gb1 @gb2 @gp @gp2 @ht @e40 Zi))); try ((first | refine callL cG ?_ | refine callB cG ?_); repeat (first | refine Zo (Z12 tis fls rx @dx @vx @gb1 @gb2 @gp @gp2 @ht @e40 Zi) ?_ | refine .inl ⟨by kernel_rfl, ?_⟩ | exact .inl (by show _ = _; kernel_rfl) | exact Zc (Z12 tis fls rx @dx @vx @gb1 @gb2 @gp @gp2 @ht @e40 Zi))))
           refine round_normal ⟨k + 1, _, _⟩ F ?_ (by show P.length - (k + 1) < P.length - k; omega)
           rw [er, List.map_append, List.map_cons, List.map_nil, hx2]
           (first | refine Zo tis ?_ | exact Zc tis)
        ·rw [if_neg (fun h => ht h.1), if_neg (by decide)] at hcs
         have F := fin _ _ hcs
         have er : (row ++ [t]).map eInt = row.map eInt ++ [.int .i64 t] := by simp [eInt]
         (repeat (first | refine Zo (Z11 tis fls rx @dx @vx @gb1 @gb2 @gp @gp2 @ht Zi) ?_ | refine .inl ⟨by kernel_rfl, ?_⟩ | exact .inl (by show _ = _; kernel_rfl) | exact Zc (Z11 tis fls rx @dx @vx @gb1 @gb2 @gp @gp2 @ht Zi)); try ((first | refine callL cF ?_ | refine callB cF ?_); repeat (first | refine Zo (Z11 tis fls rx @dx @vx @gb1 @gb2 @gp @gp2 @ht Zi) ?_ | refine .inl ⟨by kernel_rfl, ?_⟩ | exact .inl (by show _ = _; kernel_rfl) | exact Zc (Z11 tis fls rx @dx @vx @gb1 @gb2 @gp @gp2 @ht Zi))); try ((first | refine callL cV ?_ | refine callB cV ?_); repeat (first | refine Zo (Z11 tis fls rx @dx @vx @gb1 @gb2 @gp @gp2 @ht Zi) ?_ | refine .inl ⟨by kernel_rfl, ?_⟩ | exact .inl (by show _ = _; kernel_rfl) | exact Zc (Z11 tis fls rx @dx @vx @gb1 @gb2 @gp @gp2 @ht Zi))); try ((first | refine callL cA ?_ | refine callB cA ?_); repeat (first | refine Zo (Z11 tis fls rx @dx @vx @gb1 @gb2 @gp @gp2 @ht Zi) ?_ | refine .inl ⟨by kernel_rfl, ?_⟩ | exact .inl (by show _ = _; kernel_rfl) | exact Zc (Z11 tis fls rx @dx @vx @gb1 @gb2 @gp @gp2 @ht Zi))); try ((first | refine callL cG ?_ | refine callB cG ?_); repeat (first | refine Zo (Z11 tis fls rx @dx @vx @gb1 @gb2 @gp @gp2 @ht Zi) ?_ | refine .inl ⟨by kernel_rfl, ?_⟩ | exact .inl (by show _ = _; kernel_rfl) | exact Zc (Z11 tis fls rx @dx @vx @gb1 @gb2 @gp @gp2 @ht Zi))))
         refine round_normal ⟨k + 1, _, _⟩ F ?_ (by show P.length - (k + 1) < P.length - k; omega)
         rw [er]
         (first | refine Zo tis ?_ | exact Zc tis)
      ·obtain rfl : k = P.length := by omega
       rw [List.drop_length] at r1
       simp only [rowF] at r1
       rw [r1] at m1
       simp only at m1
       have cC := fits_l7Acc v (by have := hv.len; omega) hv.vbd
       have eI : ∀ z : List Int, eInts true z = .sl true 1 (z.map eInt) := fun _ => rfl
       have eT : ∀ z : Int, eInt z = .int .i64 z := fun _ => rfl
       generalize accV v = ac at *
       (repeat (first | refine Zo (Z8 tis fls rx @dx @vx @gb1 @gb2 Zi) ?_ | refine .inl ⟨by kernel_rfl, ?_⟩ | exact .inl (by show _ = _; kernel_rfl) | exact Zc (Z8 tis fls rx @dx @vx @gb1 @gb2 Zi)); try ((first | refine callL cC ?_ | refine callB cC ?_); repeat (first | refine Zo (Z8 tis fls rx @dx @vx @gb1 @gb2 Zi) ?_ | refine .inl ⟨by kernel_rfl, ?_⟩ | exact .inl (by show _ = _; kernel_rfl) | exact Zc (Z8 tis fls rx @dx @vx @gb1 @gb2 Zi))))
       refine round_normal ⟨n, s + 1, B, rows ++ [row], acc ++ [ac]⟩ ⟨m1, by simp only; omega, by simp only; omega, r3, r4, by simp [m6], by simp [m7], fun r hr => ?_⟩ ?_ (by show n < n + 1; omega)
       ·rcases List.mem_append.1 hr with hr | hr
        ·exact m8 r hr
        ·simp at hr; subst hr; exact r6
       ·simp only [List.map_append, List.map_cons, List.map_nil, eI, eT]
        (first | refine Zo tis ?_ | exact Zc tis)
    ·obtain rfl : s = A.length := by omega
     have hn : n ≠ 0 := by omega
     obtain ⟨n, rfl⟩ : ∃ k, n = k + 1 := ⟨n - 1, by omega⟩
     have e : machF P (n + 1) A.length A rows acc = some ⟨P, rows, acc⟩ := by rw [machF, List.getElem?_eq_none (Nat.le_refl _)]
     rw [e] at m1
     obtain rfl : D = ⟨P, rows, acc⟩ := by rw [← hD, m1]; rfl
     obtain rfl : S = true := by rw [← hS, m1]; rfl
     dsimp only
     (repeat (first | refine Zo (Z7 tis fls rx @dx @vx retCB.eq_1 Zi) ?_ | refine .inl ⟨by kernel_rfl, ?_⟩ | exact .inl (by show _ = _; kernel_rfl) | exact Zc (Z7 tis fls rx @dx @vx retCB.eq_1 Zi)))
def exGo (σ : St) (t i d : Nat) (K : St → Prop) : AV → Prop
 | .tup vs => i < vs.length ∧ t ≠ d ∧ (vs.getD i .undef).target = none ∧ (if plain (vs.getD i .undef) then K (put σ d (vs.getD i .undef) []) else K (upd (put σ d .undef []) [(d, vs.getD i .undef), (t, .tup (vs.set i .undef))]))
 | _ => False
theorem ex_eq (σ : St) (t i d : Nat) (K : St → Prop) : extractW σ (.tmp t) i d K = exGo σ t i d K (ev σ (.tmp t)) := by
 unfold extractW exGo
 cases ev σ (.tmp t) <;> rfl
theorem exGo_tup (σ : St) (t i d : Nat) (K : St → Prop) (vs : List AV) : exGo σ t i d K (.tup vs) = (i < vs.length ∧ t ≠ d ∧ (vs.getD i .undef).target = none ∧ (if plain (vs.getD i .undef) then K (put σ d (vs.getD i .undef) []) else K (upd (put σ d .undef []) [(d, vs.getD i .undef), (t, .tup (vs.set i .undef))]))) := rfl
theorem retW2 (a b : Nat) (ks : List Nat) (res : AV) (outs : List AV) (σ : St) : retW [a, b] ks res outs σ = ((usedOf (pulls σ [.tmp a, .tmp b]) [.tmp a, .tmp b]).Nodup ∧ leV (.tup [Am.look (pulls σ [.tmp a, .tmp b]) a, Am.look (pulls σ [.tmp a, .tmp b]) b]) res ∧ outsW (pulls σ [.tmp a, .tmp b]) (usedOf (pulls σ [.tmp a, .tmp b]) [.tmp a, .tmp b]) ks 0 outs) := rfl
def azB (c : UInt8) : Bool := decide (97 ≤ c.toNat ∧ c.toNat ≤ 122)
def wordB (s : List UInt8) : Bool := s.all azB && decide (0 < s.length ∧ s.length ≤ 6)
theorem fits_sRuleWord (s : List UInt8) (hs : s.length ≤ 1099511627776) : Fits prog 80 [.str s] (.bool (wordB s)) [] := by
 unfold wordB
 refine fits_of_code [2] [] [0, 2, 3, 7, 19] func80 rfl rfl rfl (by rfl) (by show 1 ≤ 28; decide) (by rfl) (by rfl) (by show 0 ≤ 1; decide) (by rfl) (run_of ?_)
 (first | refine Zo tis ?_ | exact Zc tis)
 refine run_loop (α := Nat) (fun i => i ≤ s.length ∧ (s.take i).all azB = true) (fun i => [(0, .str s), (3, .int .i64 i)]) (fun i => s.length - i) 0 ⟨Nat.zero_le _, rfl⟩ ?_ ?_
 ·(first | refine Zo tis ?_ | exact Zc tis)
 ·rintro i ⟨hi', ha⟩
  by_cases hi : i < s.length
  ·have hc := s[i].toNat_lt
   have gd := getD_of s i hi
   have hz : azB s[i] = decide (97 ≤ s[i].toNat ∧ s[i].toNat ≤ 122) := rfl
   have af := all_f (p := azB) hi
   have sx := all_s (p := azB) hi ha
   by_cases h1 : (s[i].toNat : Int) < 97
   ·have e := af (by rw [hz]; simp; omega)
    (repeat (first | refine Zo (Z5 tis @gd @h1 @e Zi) ?_ | refine .inl ⟨by kernel_rfl, ?_⟩ | exact .inl (by show _ = _; kernel_rfl) | exact Zc (Z5 tis @gd @h1 @e Zi)))
   ·by_cases h2 : (122 : Int) < s[i].toNat
    ·have e := af (by rw [hz]; simp; omega)
     (repeat (first | refine Zo (Z6 tis @gd @h1 @h2 @e Zi) ?_ | refine .inl ⟨by kernel_rfl, ?_⟩ | exact .inl (by show _ = _; kernel_rfl) | exact Zc (Z6 tis @gd @h1 @h2 @e Zi)))
    ·(repeat (first | refine Zo (Z5 tis @gd @h1 @h2 Zi) ?_ | refine .inl ⟨by kernel_rfl, ?_⟩ | exact .inl (by show _ = _; kernel_rfl) | exact Zc (Z5 tis @gd @h1 @h2 Zi)))
     exact round_normal (i + 1) ⟨by omega, sx (by rw [hz]; simp; omega)⟩ (by (first | refine Zo tis ?_ | exact Zc tis)) (by show s.length - (i + 1) < s.length - i; omega)
  ·obtain rfl : i = s.length := by omega
   rw [List.take_length] at ha
   by_cases h0 : (0 : Int) < s.length
   ·by_cases h6 : (s.length : Int) ≤ 6
    ·have e : decide (0 < s.length ∧ s.length ≤ 6) = true := decide_eq_true (by omega)
     (repeat (first | refine Zo (Z6 tis @ha @h0 @h6 @e Zi) ?_ | refine .inl ⟨by kernel_rfl, ?_⟩ | exact .inl (by show _ = _; kernel_rfl) | exact Zc (Z6 tis @ha @h0 @h6 @e Zi)))
    ·have e : decide (0 < s.length ∧ s.length ≤ 6) = false := decide_eq_false (by omega)
     (repeat (first | refine Zo (Z6 tis @ha @h0 @h6 @e Zi) ?_ | refine .inl ⟨by kernel_rfl, ?_⟩ | exact .inl (by show _ = _; kernel_rfl) | exact Zc (Z6 tis @ha @h0 @h6 @e Zi)))
   ·have e : decide (0 < s.length ∧ s.length ≤ 6) = false := decide_eq_false (by omega)
    (repeat (first | refine Zo (Z5 tis @ha @h0 @e Zi) ?_ | refine .inl ⟨by kernel_rfl, ?_⟩ | exact .inl (by show _ = _; kernel_rfl) | exact Zc (Z5 tis @ha @h0 @e Zi)))
def ruleN (l : List Rule) (i : Nat) : Bool := match l[i]? with
 | some x => wordB x.name && (rexB x.rex && (l.take i).all fun y => decide (y.name ≠ x.name))
 | none => false
theorem ruleN_at {l : List Rule} {i : Nat} (h : i < l.length) : ruleN l i = (wordB l[i].name && (rexB l[i].rex && (l.take i).all fun y => decide (y.name ≠ l[i].name))) := by
 unfold ruleN; rw [List.getElem?_eq_getElem h]
def rulesB (l : List Rule) : Bool := decide (1 ≤ l.length ∧ l.length ≤ 5) && (List.range l.length).all (ruleN l)
theorem rulesB_f {l : List Rule} {i : Nat} (h : i < l.length) (e : ruleN l i = false) : rulesB l = false := by
 have : (List.range l.length).all (ruleN l) = false := by rw [List.all_eq_false]; exact ⟨i, by simpa using h, by simp [e]⟩
 unfold rulesB; rw [this]; simp
theorem rulesB_t {l : List Rule} (h0 : 1 ≤ l.length ∧ l.length ≤ 5) (h : ∀ j, j < l.length → ruleN l j = true) : rulesB l = true := by
 have : (List.range l.length).all (ruleN l) = true := by simpa using h
 unfold rulesB; rw [this]; simp; omega
theorem fits_sRulesOk (l : List Rule) (hl : l.length ≤ 1099511627776) (hb : ∀ x ∈ l, x.name.length ≤ 1099511627776 ∧ bd x.rex ≤ 1048576) : Fits prog 67 [.sl false 4 (l.map (eRule false))] (.bool (rulesB l)) [] := by
 refine fits_of_code [2] [] [0, 2, 3, 4, 12, 16, 34, 37, 50] func67 rfl rfl rfl (by rfl) (by show 1 ≤ 51; decide) (by rfl) (by rfl) (by show 0 ≤ 1; decide) (by rfl) (run_of ?_)
 by_cases h1 : (l.length : Int) < 1
 ·have e : rulesB l = false := by unfold rulesB; rw [decide_eq_false (by omega)]; rfl
  (repeat (first | refine Zo (Z5 tis @ux @h1 @e Zi) ?_ | refine .inl ⟨by kernel_rfl, ?_⟩ | exact .inl (by show _ = _; kernel_rfl) | exact Zc (Z5 tis @ux @h1 @e Zi)))
 by_cases h2 : (5 : Int) < l.length
 ·have e : rulesB l = false := by unfold rulesB; rw [decide_eq_false (by omega)]; rfl
  (repeat (first | refine Zo (Z6 tis @ux @h1 @h2 @e Zi) ?_ | refine .inl ⟨by kernel_rfl, ?_⟩ | exact .inl (by show _ = _; kernel_rfl) | exact Zc (Z6 tis @ux @h1 @h2 @e Zi)))
 (first | refine Zo (Z4 tis @ux @h1 @h2) ?_ | exact Zc (Z4 tis @ux @h1 @h2))
 refine run_loop (α := Nat) (fun i => i ≤ l.length ∧ ∀ j, j < i → ruleN l j = true) (fun i => [(0, .sl false 4 (l.map (eRule false))), (3, .int .i64 i)]) (fun i => l.length - i) 0 ⟨Nat.zero_le _, by intros; omega⟩ ?_ ?_
 ·(first | refine Zo tis ?_ | exact Zc tis)
 ·rintro i ⟨hi', ha⟩
  by_cases hi : i < l.length
  ·obtain ⟨b1, b2⟩ := hb _ (List.getElem_mem hi)
   have cW := fits_sRuleWord l[i].name b1
   have cO := fits_sRexOk l[i].rex b2
   have er := eRule_eq false l[i]
   have hN := ruleN_at hi
   have hf := rulesB_f hi
   rw [eRex_eq] at cO
   generalize wordB l[i].name = w at *
   generalize rexB l[i].rex = o at *
   cases w with
   | false =>
    have e := hf (by rw [hN]; rfl)
    (repeat (first | refine callL cW ?_ | refine callB cW ?_ | refine Zo (Z7 tis fls rx @ux @er @e Zi) ?_ | refine .inl ⟨by kernel_rfl, ?_⟩ | exact .inl (by show _ = _; kernel_rfl) | exact Zc (Z7 tis fls rx @ux @er @e Zi)))
   | true =>
    cases o with
    | false =>
     have e := hf (by rw [hN]; rfl)
     (repeat (first | refine callL cW ?_ | refine callB cW ?_ | refine callL cO ?_ | refine callB cO ?_ | refine Zo (Z7 tis fls rx @ux @er @e Zi) ?_ | refine .inl ⟨by kernel_rfl, ?_⟩ | exact .inl (by show _ = _; kernel_rfl) | exact Zc (Z7 tis fls rx @ux @er @e Zi)))
    | true =>
     rw [Bool.true_and, Bool.true_and] at hN
     (repeat (first | refine Zo (Z6 tis fls rx @ux @er Zi) ?_ | refine .inl ⟨by kernel_rfl, ?_⟩ | exact .inl (by show _ = _; kernel_rfl) | exact Zc (Z6 tis fls rx @ux @er Zi)); try ((first | refine callL cW ?_ | refine callB cW ?_); repeat (first | refine Zo (Z6 tis fls rx @ux @er Zi) ?_ | refine .inl ⟨by kernel_rfl, ?_⟩ | exact .inl (by show _ = _; kernel_rfl) | exact Zc (Z6 tis fls rx @ux @er Zi))); try ((first | refine callL cO ?_ | refine callB cO ?_); repeat (first | refine Zo (Z6 tis fls rx @ux @er Zi) ?_ | refine .inl ⟨by kernel_rfl, ?_⟩ | exact .inl (by show _ = _; kernel_rfl) | exact Zc (Z6 tis fls rx @ux @er Zi))))
     refine run_loop (α := Nat) (fun k => k ≤ i ∧ (l.take k).all (fun y => decide (y.name ≠ l[i].name)) = true) (fun k => [(0, .sl false 4 (l.map (eRule false))), (3, .int .i64 i), (4, .int .i64 k)]) (fun k => i - k) 0 ⟨Nat.zero_le _, rfl⟩ ?_ ?_
     ·(first | refine Zo tis ?_ | exact Zc tis)
     ·rintro k ⟨hk', hka⟩
      by_cases hk : k < i
      ·have hkl : k < l.length := by omega
       have ek := eRule_eq false l[k]
       have sx := all_s (p := fun y : Rule => decide (y.name ≠ l[i].name)) hkl hka
       by_cases hn : l[k].name = l[i].name
       ·have e := hf (by
         rw [hN, List.all_eq_false]
         exact ⟨l[k], by rw [List.mem_take_iff_getElem]; exact ⟨k, by omega, rfl⟩, by simp [hn]⟩)
        have hn2 : (l[k].name == l[i].name) = true := by simp [hn]
        (repeat (first | refine Zo (Z9 tis fls rx @ux @er @ek @hn2 @e Zi) ?_ | refine .inl ⟨by kernel_rfl, ?_⟩ | exact .inl (by show _ = _; kernel_rfl) | exact Zc (Z9 tis fls rx @ux @er @ek @hn2 @e Zi)))
       ·have hn2 : (l[k].name == l[i].name) = false := by simp [hn]
        (repeat (first | refine Zo (Z8 tis fls rx @ux @er @ek @hn2 Zi) ?_ | refine .inl ⟨by kernel_rfl, ?_⟩ | exact .inl (by show _ = _; kernel_rfl) | exact Zc (Z8 tis fls rx @ux @er @ek @hn2 Zi)))
        exact round_normal (k + 1) ⟨by omega, sx (by simp [hn])⟩ (by (first | refine Zo tis ?_ | exact Zc tis)) (by show i - (k + 1) < i - k; omega)
      ·obtain rfl : k = i := by omega
       (repeat (first | refine Zo (Z5 tis fls rx @ux Zi) ?_ | refine .inl ⟨by kernel_rfl, ?_⟩ | exact .inl (by show _ = _; kernel_rfl) | exact Zc (Z5 tis fls rx @ux Zi)))
       refine round_normal (k + 1) ⟨by omega, fun j hj => ?_⟩ (by (first | refine Zo tis ?_ | exact Zc tis)) (by show l.length - (k + 1) < l.length - k; omega)
       by_cases e : j = k
       ·subst e; rw [hN]; exact hka
       ·exact ha j (by omega)
  ·obtain rfl : i = l.length := by omega
   have e := rulesB_t (l := l) (by omega) ha
   (repeat (first | refine Zo (Z4 tis fls @e Zi) ?_ | refine .inl ⟨by kernel_rfl, ?_⟩ | exact .inl (by show _ = _; kernel_rfl) | exact Zc (Z4 tis fls @e Zi)))
theorem rulesB_ok {l : List Rule} (h : rulesB l = true) : ROk l := by
 unfold rulesB at h
 simp only [Bool.and_eq_true, decide_eq_true_eq, List.all_eq_true, List.mem_range] at h
 refine ⟨h.1.2, by omega, fun x hx => ?_⟩
 obtain ⟨i, hi, rfl⟩ := List.getElem_of_mem hx
 have := h.2 i hi
 rw [ruleN_at hi] at this
 simp only [Bool.and_eq_true] at this
 have := this.2.1
 simp only [rexB, Bool.and_eq_true, decide_eq_true_eq] at this
 exact ⟨⟨8, this.1⟩, this.2⟩
noncomputable def dfaV (l : List Rule) : Option Dfa := if rulesB l = true then dfaOfV l else none
theorem fits_sDfaOf2 (l : List Rule) (hl : l.length ≤ 1099511627776) (hb : ∀ x ∈ l, x.name.length ≤ 1099511627776 ∧ bd x.rex ≤ 1048576) : Fits prog 62 [.sl false 4 (l.map (eRule false))] (.tup [eDfa2 ((dfaV l).getD zDfa), .bool (dfaV l).isSome]) [] := by
 have cO := fits_sRulesOk l hl hb
 unfold dfaV
 cases h : rulesB l with
 | false =>
  rw [h] at cO
  rw [if_neg (by decide)]
  show Fits prog 62 [.sl false 4 (l.map (eRule false))] (.tup [.agg [.sl true 1 [], .sl true 1 [], .sl true 1 []], .bool false]) []
  refine fits_of_pair 2 81 3 [] [0, 2, 3, 6] func62 rfl rfl rfl (by show 2 < 12; decide) (by show 3 < 12; decide) (by show 1 ≤ 12; decide) (by rfl) (by rfl) (by show 0 ≤ 1; decide) (by rfl) (run_of ?_)
  (repeat (first | refine callL cO ?_ | refine callB cO ?_ | refine Zo (Z6 tis fls @ux @dx retCB.eq_1 Zi) ?_ | refine .inl ⟨by kernel_rfl, ?_⟩ | exact .inl (by show _ = _; kernel_rfl) | exact Zc (Z6 tis fls @ux @dx retCB.eq_1 Zi)))
 | true =>
  rw [h] at cO
  rw [if_pos rfl]
  have c2 := fits_l7Of2 l (rulesB_ok h)
  generalize (dfaOfV l).getD zDfa = d at *
  generalize (dfaOfV l).isSome = s at *
  unfold eDfa2 at *
  refine fits_of_pair 2 81 3 [] [0, 2, 3, 6] func62 rfl rfl rfl (by show 2 < 12; decide) (by show 3 < 12; decide) (by show 1 ≤ 12; decide) (by rfl) (by rfl) (by show 0 ≤ 1; decide) (by rfl) (run_of ?_)
  (repeat (first | refine callL cO ?_ | refine callB cO ?_ | refine callL c2 ?_ | refine callB c2 ?_ | refine Zo (Z8 tis fls @ux @dx retCB.eq_1 @ex_eq @exGo_tup Zi) ?_ | refine .inl ⟨by kernel_rfl, ?_⟩ | exact .inl (by show _ = _; kernel_rfl) | exact Zc (Z8 tis fls @ux @dx retCB.eq_1 @ex_eq @exGo_tup Zi)))
def names5 : List (List UInt8) := [[105, 100], [110, 117, 109], [111, 112], [115, 112, 97, 99, 101], [107, 101, 121]]
def ruleA (b : List UInt8) (p : Nat) : Rex × Nat := if pickV b (rexV b (pickV b p 3) (p + 1)).2 3 = 0 then
  (.mk 3 [] [byteR (97 + (pickV b ((rexV b (pickV b p 3) (p + 1)).2 + 1) 3 : Nat)), .mk 5 [] [(leafV b ((rexV b (pickV b p 3) (p + 1)).2 + 1 + 1)).1]], (leafV b ((rexV b (pickV b p 3) (p + 1)).2 + 1 + 1)).2)
 else ((rexV b (pickV b p 3) (p + 1)).1, (rexV b (pickV b p 3) (p + 1)).2 + 1)
def ruleX (b : List UInt8) (p : Nat) : Rex × Nat := if rexB (ruleA b p).1 = true then ruleA b p else leafV b (ruleA b p).2
def rulesN (b : List UInt8) (p : Nat) : Nat → List Rule × Nat
 | 0 => ([], p)
 | i + 1 => ((rulesN b p i).1 ++ [⟨names5.getD i [], (ruleX b (rulesN b p i).2).1⟩], (ruleX b (rulesN b p i).2).2)
def rulesV (b : List UInt8) (p : Nat) : List Rule × Nat := rulesN b (p + 1) (1 + pickV b p 4)
theorem rexV_le3 (b : List UInt8) (d p : Nat) (hd : d ≤ 2) : (rexV b d p).2 ≤ p + 128 ∧ bd (rexV b d p).1 ≤ 4096 := by
 have h := rexV_le b d p
 have h4 : 4 ^ d ≤ 4 ^ 2 := Nat.pow_le_pow_right (by omega) hd
 omega
theorem byteR_bd (n : Int) : bd (byteR n) = 1 := by unfold byteR; rw [bd_eq]; simp [Rex.set, Rex.kids]
theorem ruleA_le (b : List UInt8) (p : Nat) : (ruleA b p).2 ≤ p + 200 ∧ bd (ruleA b p).1 ≤ 10000 := by
 have h1 := pickV_lt b p (n := 3) (by omega)
 have h2 := rexV_le3 b (pickV b p 3) (p + 1) (by omega)
 unfold ruleA
 split
 ·have h3 := leafV_le b ((rexV b (pickV b p 3) (p + 1)).2 + 1 + 1)
  refine ⟨by simp only; omega, ?_⟩
  simp only [bd, List.map_cons, List.map_nil, List.sum_cons, List.sum_nil, List.length_cons, List.length_nil, byteR_bd]; omega
 ·exact ⟨by simp only; omega, by simp only; omega⟩
theorem ruleX_le (b : List UInt8) (p : Nat) : (ruleX b p).2 ≤ p + 300 ∧ bd (ruleX b p).1 ≤ 10000 := by
 have h1 := ruleA_le b p
 have h2 := leafV_le b (ruleA b p).2
 unfold ruleX
 split <;> omega
theorem names5_len (i : Nat) : (names5.getD i []).length ≤ 6 := by
 rw [List.getD_eq_getElem?_getD]
 cases h : names5[i]? with
 | none => simp
 | some x =>
  have := List.mem_of_getElem? h
  simp [names5] at this
  rcases this with rfl | rfl | rfl | rfl | rfl <;> simp
theorem rulesN_le (b : List UInt8) (p : Nat) : ∀ i, (rulesN b p i).1.length = i ∧ (rulesN b p i).2 ≤ p + 300 * i ∧ ∀ x ∈ (rulesN b p i).1, x.name.length ≤ 6 ∧ bd x.rex ≤ 10000
 | 0 => by simp [rulesN]
 | i + 1 => by
  obtain ⟨h1, h2, h3⟩ := rulesN_le b p i
  have h4 := ruleX_le b (rulesN b p i).2
  simp only [rulesN, List.length_append, List.length_singleton]
  refine ⟨by omega, by omega, fun x hx => ?_⟩
  rcases List.mem_append.1 hx with hx | hx
  ·exact h3 x hx
  ·simp at hx; subst hx; exact ⟨names5_len i, h4.2⟩
theorem rulesV_le (b : List UInt8) (p : Nat) : (rulesV b p).1.length ≤ 4 ∧ (rulesV b p).2 ≤ p + 1300 ∧ ∀ x ∈ (rulesV b p).1, x.name.length ≤ 6 ∧ bd x.rex ≤ 10000 := by
 have h := pickV_lt b p (n := 4) (by omega)
 obtain ⟨h1, h2, h3⟩ := rulesN_le b (p + 1) (1 + pickV b p 4)
 unfold rulesV
 exact ⟨by omega, by omega, h3⟩
theorem fits_l6Rules (b : List UInt8) (hb : b.length ≤ 2000) (p : Nat) (hp : p ≤ 600000) : Fits prog 63 [.box (eRd b p)] (.sl true 4 ((rulesV b p).1.map (eRule false))) [.box (eRd b (rulesV b p).2)] := by
 have hk := pickV_lt b p (n := 4) (by omega)
 have cP : Fits prog 38 [.box (eRd b p), .int .i64 4] (.int .i64 (pickV b p 4)) [.box (eRd b (p + 1))] := fits_pick b hb p (by omega) 4 (by omega) (by omega)
 have hN := fun i => rulesN_le b (p + 1) i
 unfold rulesV
 generalize pickV b p 4 = m at *
 have e0 : rulesN b (p + 1) 0 = ([], p + 1) := rfl
 have en : names5.map eStr = [.str [105, 100], .str [110, 117, 109], .str [111, 112], .str [115, 112, 97, 99, 101], .str [107, 101, 121]] := rfl
 unfold eRd at *
 refine fits_of_code [2] [0] [0, 2, 3, 4, 5, 6, 13, 23, 36] func63 rfl rfl rfl (by rfl) (by show 1 ≤ 50; decide) (by rfl) (by rfl) (by show 1 ≤ 1; decide) (by rfl) (run_of ?_)
 (first | refine Zo (Z3 tis fls rx) ?_ | exact Zc (Z3 tis fls rx))
 refine callM 0 cP ?_
 simp -implicitDefEqProofs (disch := first | (intros; contradiction) | omega) only [am0, am1, am2, am3, am4, am5, am6, Nat.reduceSub, ↓reduceIte, reduceCtorEq, Nat.reduceEqDiff, Nat.reduceBEq, Nat.reduceAdd, Nat.reduceLT, Nat.reduceBNe, Nat.reduceMul, ↓reduceIte, tis, fls, rx, List.dropLast_singleton, ← en]
 refine run_loop (α := Nat) (fun i => i ≤ 1 + m) (fun i => [(0, .box (.agg [.sl false 1 (bytesA b), .int .i64 (rulesN b (p + 1) i).2])), (3, .sl true 4 ((rulesN b (p + 1) i).1.map (eRule false))), (4, .sl true 1 (names5.map eStr)), (5, .int .i64 ((1 + m : Int) - i))]) (fun i => 1 + m - i) 0 (Nat.zero_le _) ?_ ?_
 ·rw [e0]
  (first | refine Zo (Z4 tis fls rx @LLmapnil) ?_ | exact Zc (Z4 tis fls rx @LLmapnil))
 ·intro i hi'
  by_cases hi : i < 1 + m
  ·obtain ⟨n1, n2, n3⟩ := hN i
   have hs : rulesN b (p + 1) (i + 1) = ((rulesN b (p + 1) i).1 ++ [⟨names5.getD i [], (ruleX b (rulesN b (p + 1) i).2).1⟩], (ruleX b (rulesN b (p + 1) i).2).2) := rfl
   generalize rulesN b (p + 1) i = z at *
   obtain ⟨L, q⟩ := z
   simp only at n1 n2 n3 hs
   have gi : (names5.map eStr).getD i .undef = .str (names5.getD i []) := by
    have : i < names5.length := by simp [names5]; omega
    simp [List.getD, this, eStr]
   have gi2 : (names5.map eStr)[i]? = some (.str (names5.getD i [])) := by
    have : i < names5.length := by simp [names5]; omega
    simp [List.getD, this, eStr]
   have gl : (names5.map eStr).length = 5 := rfl
   generalize names5.map eStr = N at *
   generalize names5.getD i [] = nm at *
   have k1 := pickV_lt b q (n := 3) (by omega)
   have c1 : Fits prog 38 [.box (.agg [.sl false 1 (bytesA b), .int .i64 q]), .int .i64 3] (.int .i64 (pickV b q 3)) [.box (.agg [.sl false 1 (bytesA b), .int .i64 (q + 1)])] := fits_pick b hb q (by omega) 3 (by omega) (by omega)
   have hx0 := rexV_le3 b (pickV b q 3) (q + 1) (by omega)
   have cR := fits_l2Rex b hb (pickV b q 3) (by omega) (q + 1) (by omega)
   have hA : ruleA b q = if pickV b (rexV b (pickV b q 3) (q + 1)).2 3 = 0 then
     (.mk 3 [] [byteR (97 + (pickV b ((rexV b (pickV b q 3) (q + 1)).2 + 1) 3 : Nat)), .mk 5 [] [(leafV b ((rexV b (pickV b q 3) (q + 1)).2 + 1 + 1)).1]], (leafV b ((rexV b (pickV b q 3) (q + 1)).2 + 1 + 1)).2)
    else ((rexV b (pickV b q 3) (q + 1)).1, (rexV b (pickV b q 3) (q + 1)).2 + 1) := rfl
   have hX : ruleX b q = if rexB (ruleA b q).1 = true then ruleA b q else leafV b (ruleA b q).2 := rfl
   have hAl := ruleA_le b q
   have cO := fits_sRexOk (ruleA b q).1 (by omega)
   have cL2 := fits_l2Leaf b hb (ruleA b q).2 (by omega)
   generalize ruleX b q = X at *
   generalize ruleA b q = A at *
   generalize pickV b q 3 = d at *
   generalize rexV b d (q + 1) = x0 at *
   obtain ⟨x0, q1⟩ := x0
   simp only at hx0 hA cR
   have c2 : Fits prog 38 [.box (.agg [.sl false 1 (bytesA b), .int .i64 q1]), .int .i64 3] (.int .i64 (pickV b q1 3)) [.box (.agg [.sl false 1 (bytesA b), .int .i64 (q1 + 1)])] := fits_pick b hb q1 (by omega) 3 (by omega) (by omega)
   have c3 : Fits prog 38 [.box (.agg [.sl false 1 (bytesA b), .int .i64 (q1 + 1)]), .int .i64 3] (.int .i64 (pickV b (q1 + 1) 3)) [.box (.agg [.sl false 1 (bytesA b), .int .i64 (q1 + 1 + 1)])] := fits_pick b hb (q1 + 1) (by omega) 3 (by omega) (by omega)
   have k3 := pickV_lt b (q1 + 1) (n := 3) (by omega)
   have cB := fits_l2Byte (97 + (pickV b (q1 + 1) 3 : Nat))
   have cL := fits_l2Leaf b hb (q1 + 1 + 1) (by omega)
   generalize pickV b (q1 + 1) 3 = c at *
   generalize byteR (97 + (c : Int)) = bx at *
   generalize leafV b (q1 + 1 + 1) = lf at *
   generalize leafV b A.2 = l2 at *
   generalize pickV b q1 3 = tt at *
   have eD : (1 : Int) + d = ((d : Int) + 1) := by omega
   have eI : ((1 : Int) + m - i) - 1 = (1 : Int) + m - ((i + 1 : Nat) : Int) := by omega
   obtain ⟨lf, q3⟩ := lf
   obtain ⟨l2, q4⟩ := l2
   simp only at cL cL2 hA
   unfold eRd at *
   have eM : ∀ (r : Rule), (L ++ [r]).map (eRule false) = L.map (eRule false) ++ [eRule false r] := fun r => by simp
   rw [eRex_eq true x0] at cR
   rw [eRex_eq true lf] at cL
   rw [eRex_eq true l2] at cL2
   rw [eRex_eq true bx] at cB
   have hpos : (0 : Int) < 1 + m - i := by omega
   by_cases h0 : tt = 0
   ·rw [if_pos h0] at hA
    subst hA
    subst h0
    have eW : ∀ o, eRex o (.mk 3 [] [bx, .mk 5 [] [lf]]) = .agg [.int .i64 3, .sl o 2 [], .sl o 3 [.agg [.int .i64 bx.kind, .sl o 2 (bx.set.map eSpan), .sl o 3 (bx.kids.map (eRex o))], .agg [.int .i64 5, .sl o 2 [], .sl o 3 [.agg [.int .i64 lf.kind, .sl o 2 (lf.set.map eSpan), .sl o 3 (lf.kids.map (eRex o))]]]]] := fun o => by
     rw [eRex_eq]; simp [Rex.kind, Rex.set, Rex.kids, eRex_eq]
    have eWr : ∀ o, (Rex.mk 3 [] [bx, .mk 5 [] [lf]]).kids.map (eRex o) = [.agg [.int .i64 bx.kind, .sl o 2 (bx.set.map eSpan), .sl o 3 (bx.kids.map (eRex o))], .agg [.int .i64 5, .sl o 2 [], .sl o 3 [.agg [.int .i64 lf.kind, .sl o 2 (lf.set.map eSpan), .sl o 3 (lf.kids.map (eRex o))]]]] := fun o => by
     simp [Rex.kids, eRex_eq, Rex.kind, Rex.set]
    rw [eW] at cO
    (first | refine Zo (Z4 tis fls rx @hpos) ?_ | exact Zc (Z4 tis fls rx @hpos))
    refine callK 16 0 0 c1 ?_
    (first | refine Zo (Z5 tis fls rx @LLdrosin @eD) ?_ | exact Zc (Z5 tis fls rx @LLdrosin @eD))
    refine callM 0 cR ?_
    (first | refine Zo (Z4 tis fls rx @LLdrosin) ?_ | exact Zc (Z4 tis fls rx @LLdrosin))
    refine callM 0 c2 ?_
    (first | refine Zo (Z4 tis fls rx @LLdrosin) ?_ | exact Zc (Z4 tis fls rx @LLdrosin))
    refine callM 0 c3 ?_
    (first | refine Zo (Z4 tis fls rx @LLdrosin) ?_ | exact Zc (Z4 tis fls rx @LLdrosin))
    refine callB cB ?_
    (first | refine Zo (Z4 tis fls rx @LLdrosin) ?_ | exact Zc (Z4 tis fls rx @LLdrosin))
    refine callM 0 cL ?_
    (first | refine Zo (Z4 tis fls rx @LLdrosin) ?_ | exact Zc (Z4 tis fls rx @LLdrosin))
    rcases Bool.eq_false_or_eq_true (rexB (Rex.mk 3 [] [bx, .mk 5 [] [lf]])) with hO | hO
    ·rw [hO] at cO
     rw [if_pos hO] at hX
     subst hX
     refine callB cO ?_
     (first | refine Zo (Z4 tis fls rx @LLdrosin) ?_ | exact Zc (Z4 tis fls rx @LLdrosin))
     refine run_frzl [(6, [])] 9 [[], []] (by kernel_rfl) ?_
     (first | refine Zo (Z9 tis fls rx @ux @LLdrosin @gi @gi2 @gl @n1) ?_ | exact Zc (Z9 tis fls rx @ux @LLdrosin @gi @gi2 @gl @n1))
     refine round_normal (i + 1) (by omega) ?_ (by show 1 + m - (i + 1) < 1 + m - i; omega)
     rw [hs]
     simp only [eM, eRule_eq, eWr]
     simp only [mk_kind, mk_set, List.map_nil]
     (first | refine Zo (Z2 tis @eI) ?_ | exact Zc (Z2 tis @eI))
    ·rw [hO] at cO
     rw [if_neg (by rw [hO]; decide)] at hX
     subst hX
     refine callB cO ?_
     (first | refine Zo (Z4 tis fls rx @LLdrosin) ?_ | exact Zc (Z4 tis fls rx @LLdrosin))
     refine callM 0 cL2 ?_
     (first | refine Zo (Z4 tis fls rx @LLdrosin) ?_ | exact Zc (Z4 tis fls rx @LLdrosin))
     refine run_frzl [(6, [])] 9 [[], []] (by kernel_rfl) ?_
     (first | refine Zo (Z9 tis fls rx @ux @LLdrosin @gi @gi2 @gl @n1) ?_ | exact Zc (Z9 tis fls rx @ux @LLdrosin @gi @gi2 @gl @n1))
     refine round_normal (i + 1) (by omega) ?_ (by show 1 + m - (i + 1) < 1 + m - i; omega)
     rw [hs]
     simp only [eM, eRule_eq]
     (first | refine Zo (Z2 tis @eI) ?_ | exact Zc (Z2 tis @eI))
   ·rw [if_neg h0] at hA
    subst hA
    have h0' : ¬ (tt : Int) = 0 := by omega
    simp only at cO cL2 hX
    rw [eRex_eq false x0] at cO
    (first | refine Zo (Z4 tis fls rx @hpos) ?_ | exact Zc (Z4 tis fls rx @hpos))
    refine callK 16 0 0 c1 ?_
    (first | refine Zo (Z5 tis fls rx @LLdrosin @eD) ?_ | exact Zc (Z5 tis fls rx @LLdrosin @eD))
    refine callM 0 cR ?_
    (first | refine Zo (Z4 tis fls rx @LLdrosin) ?_ | exact Zc (Z4 tis fls rx @LLdrosin))
    refine callM 0 c2 ?_
    (first | refine Zo (Z5 tis fls rx @LLdrosin @h0') ?_ | exact Zc (Z5 tis fls rx @LLdrosin @h0'))
    rcases Bool.eq_false_or_eq_true (rexB x0) with hO | hO
    ·rw [hO] at cO
     rw [if_pos hO] at hX
     subst hX
     refine callB cO ?_
     (first | refine Zo (Z4 tis fls rx @LLdrosin) ?_ | exact Zc (Z4 tis fls rx @LLdrosin))
     refine run_frzl [(6, [])] 9 [[], []] (by kernel_rfl) ?_
     (first | refine Zo (Z9 tis fls rx @ux @LLdrosin @gi @gi2 @gl @n1) ?_ | exact Zc (Z9 tis fls rx @ux @LLdrosin @gi @gi2 @gl @n1))
     refine round_normal (i + 1) (by omega) ?_ (by show 1 + m - (i + 1) < 1 + m - i; omega)
     rw [hs]
     simp only [eM, eRule_eq]
     (first | refine Zo (Z2 tis @eI) ?_ | exact Zc (Z2 tis @eI))
    ·rw [hO] at cO
     rw [if_neg (by rw [hO]; decide)] at hX
     subst hX
     refine callB cO ?_
     (first | refine Zo (Z4 tis fls rx @LLdrosin) ?_ | exact Zc (Z4 tis fls rx @LLdrosin))
     refine callM 0 cL2 ?_
     (first | refine Zo (Z4 tis fls rx @LLdrosin) ?_ | exact Zc (Z4 tis fls rx @LLdrosin))
     refine run_frzl [(6, [])] 9 [[], []] (by kernel_rfl) ?_
     (first | refine Zo (Z9 tis fls rx @ux @LLdrosin @gi @gi2 @gl @n1) ?_ | exact Zc (Z9 tis fls rx @ux @LLdrosin @gi @gi2 @gl @n1))
     refine round_normal (i + 1) (by omega) ?_ (by show 1 + m - (i + 1) < 1 + m - i; omega)
     rw [hs]
     simp only [eM, eRule_eq]
     (first | refine Zo (Z2 tis @eI) ?_ | exact Zc (Z2 tis @eI))
  ·obtain rfl : i = 1 + m := by omega
   have hz : ((1 : Int) + m - ((1 + m : Nat) : Int)) = 0 := by omega
   (repeat (first | refine Zo (Z6 tis fls rx @ux @hz Zi) ?_ | refine .inl ⟨by kernel_rfl, ?_⟩ | exact .inl (by show _ = _; kernel_rfl) | exact Zc (Z6 tis fls rx @ux @hz Zi)))

structure LensD (d : Dfa) : Prop where
 p : d.parts.length ≤ 9223372036854775807
 pc : ∀ c ∈ d.parts, c.length ≤ 9223372036854775807
 r : d.rows.length ≤ 9223372036854775807
 rc : ∀ c ∈ d.rows, c.length ≤ 9223372036854775807
 a : d.acc.length ≤ 9223372036854775807
structure Small (d : Dfa) : Prop where
 p : d.parts.length ≤ 1048576
 ps : sumS d.parts ≤ 1048576
 r : d.rows.length ≤ 1048576
 rs : sumS d.rows ≤ 1048576
 a : d.acc.length ≤ 1048576
theorem Small.pc {d : Dfa} (h : Small d) : ∀ c ∈ d.parts, c.length ≤ 1048576 := fun c hc => Nat.le_trans (sumS_mem hc) h.ps
theorem Small.rc {d : Dfa} (h : Small d) : ∀ c ∈ d.rows, c.length ≤ 1048576 := fun c hc => Nat.le_trans (sumS_mem hc) h.rs
def disjB (s t : List Span) : Bool := decide ((meetL s t).length = 0)
def partN (L : List (List Span)) (i : Nat) : Bool := match L[i]? with
 | some p => setB p && (decide (0 < p.length) && ((decide (i = 0) || decide (firstB (L.getD (i - 1) []) < firstB p)) && (List.range i).all (fun k => disjB p (L.getD k []))))
 | none => false
theorem partN_at {L : List (List Span)} {i : Nat} (h : i < L.length) : partN L i = (setB L[i] && (decide (0 < L[i].length) && ((decide (i = 0) || decide (firstB (L.getD (i - 1) []) < firstB L[i])) && (List.range i).all (fun k => disjB L[i] (L.getD k []))))) := by
 simp [partN, h]
def partsB (L : List (List Span)) : Bool := (List.range L.length).all (partN L) && decide ((L.map cntB).sum = 256)
theorem partsB_f {L : List (List Span)} {i : Nat} (hi : i < L.length) (h : partN L i = false) : partsB L = false := by
 unfold partsB
 have : (List.range L.length).all (partN L) = false := by rw [List.all_eq_false]; exact ⟨i, by simpa using hi, by simp [h]⟩
 rw [this]; rfl
theorem partsB_t {L : List (List Span)} (h : ∀ i, i < L.length → partN L i = true) : partsB L = decide ((L.map cntB).sum = 256) := by
 unfold partsB
 have : (List.range L.length).all (partN L) = true := by simpa using h
 rw [this]; rfl
theorem sum_take {L : List (List Span)} {i : Nat} (h : i < L.length) : ((L.take (i + 1)).map cntB).sum = ((L.take i).map cntB).sum + cntB L[i] := by
 rw [List.take_succ_eq_append_getElem h, List.map_append, List.sum_append]; rfl
theorem sum_le (L : List (List Span)) : (L.map cntB).sum ≤ 256 * L.length := by
 induction L with
 | nil => simp
 | cons x L ih =>
  have := cntN_le x 256
  simp only [List.map_cons, List.sum_cons, List.length_cons, cntB] at *
  omega
def rowN (d : Dfa) (i : Nat) : Bool := match d.rows[i]?, d.acc[i]? with
 | some row, some a => decide (row.length = d.parts.length) && (decide (-1 ≤ a ∧ a ≤ 4) && row.all (fun s => decide (-1 ≤ s ∧ s ≤ (d.rows.length : Int) - 1)))
 | _, _ => false
theorem rowN_at {d : Dfa} {i : Nat} (h : i < d.rows.length) (h2 : i < d.acc.length) : rowN d i = (decide (d.rows[i].length = d.parts.length) && (decide (-1 ≤ d.acc[i] ∧ d.acc[i] ≤ 4) && d.rows[i].all (fun s => decide (-1 ≤ s ∧ s ≤ (d.rows.length : Int) - 1)))) := by
 simp [rowN, h, h2]
def dfaB (d : Dfa) : Bool := partsB d.parts && (decide (1 ≤ d.rows.length ∧ d.rows.length ≤ 40) && (decide (d.acc.length = d.rows.length) && (List.range d.rows.length).all (rowN d)))
theorem rows_f {d : Dfa} {i : Nat} (hi : i < d.rows.length) (h : rowN d i = false) : dfaB d = false := by
 unfold dfaB
 have : (List.range d.rows.length).all (rowN d) = false := by rw [List.all_eq_false]; exact ⟨i, by simpa using hi, by simp [h]⟩
 rw [this]; simp
theorem rows_t {d : Dfa} (h1 : partsB d.parts = true) (h2 : 1 ≤ d.rows.length ∧ d.rows.length ≤ 40) (h3 : d.acc.length = d.rows.length) (h : ∀ i, i < d.rows.length → rowN d i = true) : dfaB d = true := by
 unfold dfaB
 have : (List.range d.rows.length).all (rowN d) = true := by simpa using h
 rw [h1, decide_eq_true h2, decide_eq_true h3, this]; rfl
theorem fits_l7Parts (L : List (List Span)) (hL : L.length ≤ 1048576) (hc : ∀ c ∈ L, c.length ≤ 1048576) : Fits prog 65 [.sl false 1 (L.map (eSpans false))] (.bool (partsB L)) [] := by
 refine fits_of_code [2] [] [0, 2, 3, 4, 5, 9, 43, 46, 59] func65 rfl rfl rfl (by rfl) (by show 1 ≤ 69; decide) (by rfl) (by rfl) (by show 0 ≤ 1; decide) (by rfl) (run_of ?_)
 refine Zo (Z2 tis fls) ?_
 refine run_loop (α := Nat) (fun i => i ≤ L.length ∧ ∀ j, j < i → partN L j = true) (fun i => [(0, .sl false 1 (L.map (eSpans false))), (3, .int .i64 (((L.take i).map cntB).sum : Nat)), (4, .int .i64 i)]) (fun i => L.length - i) 0 ⟨Nat.zero_le _, by intros; omega⟩ ?_ ?_
 ·simp -implicitDefEqProofs (disch := first | (intros; contradiction) | omega) only [am0, am1, am2, am3, am4, am5, am6, Nat.reduceSub, ↓reduceIte, reduceCtorEq, Nat.reduceEqDiff, Nat.reduceBEq, Nat.reduceAdd, Nat.reduceLT, Nat.reduceBNe, Nat.reduceMul, ↓reduceIte, tis, List.map_nil, List.sum_nil]
 ·rintro i ⟨hi', hb⟩
  by_cases hi : i < L.length
  ·have hci := hc _ (List.getElem_mem hi)
   have hP := partN_at hi
   have hS := sum_take hi
   have hsl := sum_le (L.take i)
   have hcl : cntB L[i] ≤ 256 := cntN_le L[i] 256
   have htl : (L.take i).length = i := by simp; omega
   have c1 := fits_sSetOk L[i] (by omega)
   have cF := fits_sSetFirst L[i] hci
   have cZ := fits_sSetSize L[i] hci
   have gi : (L.map (eSpans false)).getD i .undef = .sl false 2 (L[i].map eSpan) := by simp [List.getD, hi, eSpans]
   have gi2 : (L.map (eSpans false))[i]? = some (.sl false 2 (L[i].map eSpan)) := by simp [hi, eSpans]
   by_cases g1 : setB L[i] = true
   ·rw [g1] at c1
    by_cases g2 : L[i].length = 0
    ·have hf : partN L i = false := by rw [hP, g1, decide_eq_false (by omega)]; rfl
     have hf := partsB_f hi hf
     have g2' : (L[i].length : Int) = 0 := by omega
     refine Zo (Z4 tis fls @gi @gi2) ?_
     refine .inl ⟨by kernel_rfl, ?_⟩
     refine callL c1 ?_
     exact Zc (Z6 tis fls @gi @gi2 @g2' @hf)
    ·have g2' : ¬ (L[i].length : Int) = 0 := by omega
     by_cases g3 : i = 0 ∨ firstB (L.getD (i - 1) []) < firstB L[i]
     ·-- the pairs
      have hP2 : partN L i = (List.range i).all (fun k => disjB L[i] (L.getD k [])) := by
       rw [hP, g1, decide_eq_true (show 0 < L[i].length by omega)]
       have : (decide (i = 0) || decide (firstB (L.getD (i - 1) []) < firstB L[i])) = true := by simpa using g3
       rw [this]; simp
      by_cases hi0 : (0 : Int) < i
      ·have hj : i - 1 < L.length := by omega
       have hcj := hc _ (List.getElem_mem hj)
       have ej : ((i : Int) - 1).toNat = i - 1 := by omega
       have cF2 := fits_sSetFirst L[i - 1] hcj
       have gj : (L.map (eSpans false)).getD (i - 1) .undef = .sl false 2 (L[i - 1].map eSpan) := by simp [List.getD, hj, eSpans]
       have gj2 : (L.map (eSpans false))[i - 1]? = some (.sl false 2 (L[i - 1].map eSpan)) := by simp [hj, eSpans]
       have g4 : ¬ firstB L[i] ≤ firstB L[i - 1] := by
        rcases g3 with h | h
        ·omega
        ·simp only [List.getD, List.getElem?_eq_getElem hj, Option.getD_some] at h; omega
       refine Zo (Z4 tis fls @gi @gi2) ?_
       refine .inl ⟨by kernel_rfl, ?_⟩
       refine callL c1 ?_
       refine Zo (Z6 tis fls @gi @gi2 @g2' @hi0) ?_
       refine callL cF ?_
       refine Zo (Z5 tis fls @ej @gj @gj2) ?_
       refine callL cF2 ?_
       refine Zo (Z3 tis fls @g4) ?_
       refine run_loop (α := Nat) (fun k => k ≤ i ∧ ∀ k', k' < k → disjB L[i] (L.getD k' []) = true) (fun k => [(0, .sl false 1 (L.map (eSpans false))), (3, .int .i64 (((L.take i).map cntB).sum : Nat)), (4, .int .i64 i), (5, .int .i64 k)]) (fun k => i - k) 0 ⟨Nat.zero_le _, by intros; omega⟩ ?_ ?_
       ·exact Zc tis
       ·rintro k ⟨hk', hkb⟩
        by_cases hk : k < i
        ·have hkl : k < L.length := by omega
         have cM := fits_sSetMeet L[i] L[k] hci (hc _ (List.getElem_mem hkl))
         have gk : (L.map (eSpans false)).getD k .undef = .sl false 2 (L[k].map eSpan) := by simp [List.getD, hkl, eSpans]
         have gk2 : (L.map (eSpans false))[k]? = some (.sl false 2 (L[k].map eSpan)) := by simp [hkl, eSpans]
         have gkd : L.getD k [] = L[k] := by simp [List.getD, hkl]
         by_cases g5 : (0 : Int) < (meetL L[i] L[k]).length
         ·have hd : disjB L[i] (L.getD k []) = false := by rw [gkd]; unfold disjB; rw [decide_eq_false]; omega
          have hf : partN L i = false := by rw [hP2, List.all_eq_false]; exact ⟨k, by simpa using hk, by rw [hd]; simp⟩
          have hf := partsB_f hi hf
          refine Zo (Z6 tis fls @gi @gi2 @gk @gk2) ?_
          refine .inl ⟨by kernel_rfl, ?_⟩
          refine callL cM ?_
          exact Zc (Z4 tis fls @g5 @hf)
         ·have hd : disjB L[i] (L.getD k []) = true := by rw [gkd]; unfold disjB; rw [decide_eq_true]; omega
          refine Zo (Z6 tis fls @gi @gi2 @gk @gk2) ?_
          refine .inl ⟨by kernel_rfl, ?_⟩
          refine callL cM ?_
          refine Zo (Z3 tis fls @g5) ?_
          refine round_normal (k + 1) ⟨by omega, fun k' hk2 => ?_⟩ ?_ (by show i - (k + 1) < i - k; omega)
          ·by_cases e : k' = k
           ·subst e; exact hd
           ·exact hkb k' (by omega)
          ·exact Zc tis
        ·obtain rfl : k = i := by omega
         refine Zo (Z4 tis fls @gi @gi2) ?_
         refine callB cZ ?_
         refine Zo (Z2 tis fls) ?_
         refine round_normal (k + 1) ⟨by omega, fun j hj3 => ?_⟩ ?_ (by show L.length - (k + 1) < L.length - k; omega)
         ·by_cases e : j = k
          ·subst e; rw [hP2]; simpa using hkb
          ·exact hb j (by omega)
         ·exact Zc (Z2 tis @hS)
      ·obtain rfl : i = 0 := by omega
       refine Zo (Z4 tis fls @gi @gi2) ?_
       refine .inl ⟨by kernel_rfl, ?_⟩
       refine callL c1 ?_
       refine Zo (Z5 tis fls @gi @gi2 @g2') ?_
       refine run_loop (α := Nat) (fun k => k = 0) (fun k => [(0, .sl false 1 (L.map (eSpans false))), (3, .int .i64 (((L.take 0).map cntB).sum : Nat)), (4, .int .i64 0), (5, .int .i64 k)]) (fun k => k) 0 rfl ?_ ?_
       ·exact Zc tis
       ·intro k hk
        subst hk
        refine Zo (Z4 tis fls @gi @gi2) ?_
        refine callB cZ ?_
        refine Zo (Z2 tis fls) ?_
        refine round_normal 1 ⟨by omega, fun j hj3 => ?_⟩ ?_ (by show L.length - 1 < L.length - 0; omega)
        ·obtain rfl : j = 0 := by omega
         rw [hP2]; rfl
        ·rw [Nat.zero_add] at hS
         simp -implicitDefEqProofs (disch := first | (intros; contradiction) | omega) only [am0, am1, am2, am3, am4, am5, am6, Nat.reduceSub, ↓reduceIte, reduceCtorEq, Nat.reduceEqDiff, Nat.reduceBEq, Nat.reduceAdd, Nat.reduceLT, Nat.reduceBNe, Nat.reduceMul, ↓reduceIte, tis, hS, List.sum_nil]
     ·have hi0 : (0 : Int) < i := by omega
      have hj : i - 1 < L.length := by omega
      have hcj := hc _ (List.getElem_mem hj)
      have ej : ((i : Int) - 1).toNat = i - 1 := by omega
      have cF2 := fits_sSetFirst L[i - 1] hcj
      have gj : (L.map (eSpans false)).getD (i - 1) .undef = .sl false 2 (L[i - 1].map eSpan) := by simp [List.getD, hj, eSpans]
      have gj2 : (L.map (eSpans false))[i - 1]? = some (.sl false 2 (L[i - 1].map eSpan)) := by simp [hj, eSpans]
      have g4 : firstB L[i] ≤ firstB L[i - 1] := by
       have h : ¬ firstB (L.getD (i - 1) []) < firstB L[i] := fun h => g3 (.inr h)
       simp only [List.getD, List.getElem?_eq_getElem hj, Option.getD_some] at h; omega
      have hf : partN L i = false := by
       rw [hP, decide_eq_false (show ¬ i = 0 by omega), decide_eq_false (fun h => g3 (.inr h))]; simp
      have hf := partsB_f hi hf
      refine Zo (Z4 tis fls @gi @gi2) ?_
      refine .inl ⟨by kernel_rfl, ?_⟩
      refine callL c1 ?_
      refine Zo (Z6 tis fls @gi @gi2 @g2' @hi0) ?_
      refine callL cF ?_
      refine Zo (Z5 tis fls @ej @gj @gj2) ?_
      refine callL cF2 ?_
      exact Zc (Z4 tis fls @g4 @hf)
   ·have g1 : setB L[i] = false := by simpa using g1
    have hf : partN L i = false := by rw [hP, g1]; rfl
    have hf := partsB_f hi hf
    rw [g1] at c1
    refine Zo (Z4 tis fls @gi @gi2) ?_
    refine .inl ⟨by kernel_rfl, ?_⟩
    refine callL c1 ?_
    exact Zc (Z3 tis fls @hf)
  ·obtain rfl : i = L.length := by omega
   rw [List.take_length]
   have ht := partsB_t hb
   have e : (((L.map cntB).sum : Nat) : Int) = 256 ↔ (L.map cntB).sum = 256 := by omega
   refine Zo (Z3 tis fls @ht) ?_
   rw [Bool.eq_iff_iff]
   simp [e]
def acc4 : List Int := [-1, -1, 0, 1]
def partsAB : List (List Span) := partsL [[⟨97, 97⟩], [⟨98, 98⟩]]
def rowAt (b : List UInt8) (n q : Nat) (k : Nat) : List Int := (List.range k).map fun j => (pickV b (q + j) (n + 1) : Int) - 1
def anyRows (b : List UInt8) (n q : Nat) (i : Nat) : List (List Int) := (List.range i).map fun s => rowAt b n (q + 4 * s) 3
def anyAcc (b : List UInt8) (q : Nat) (i : Nat) : List Int := (List.range i).map fun s => numV b (q + 4 * s + 3) acc4
noncomputable def anyQ (b : List UInt8) (p : Nat) : Nat := if (dfaV (rulesV b p).1).isSome = true then (rulesV b p).2 + 1 else (rulesV b p).2
noncomputable def anyV (b : List UInt8) (p : Nat) : Dfa × Nat :=
 if (dfaV (rulesV b p).1).isSome = true ∧ pickV b (rulesV b p).2 2 = 0 then ((dfaV (rulesV b p).1).getD zDfa, (rulesV b p).2 + 1)
 else (⟨partsAB, anyRows b (1 + pickV b (anyQ b p) 6) (anyQ b p + 1) (1 + pickV b (anyQ b p) 6), anyAcc b (anyQ b p + 1) (1 + pickV b (anyQ b p) 6)⟩, anyQ b p + 1 + 4 * (1 + pickV b (anyQ b p) 6))
theorem rowAt_s (b : List UInt8) (n q k : Nat) : rowAt b n q (k + 1) = rowAt b n q k ++ [(pickV b (q + k) (n + 1) : Int) - 1] := by unfold rowAt; rw [List.range_succ, List.map_append]; rfl
theorem anyRows_s (b : List UInt8) (n q i : Nat) : anyRows b n q (i + 1) = anyRows b n q i ++ [rowAt b n (q + 4 * i) 3] := by unfold anyRows; rw [List.range_succ, List.map_append]; rfl
theorem anyAcc_s (b : List UInt8) (q i : Nat) : anyAcc b q (i + 1) = anyAcc b q i ++ [numV b (q + 4 * i + 3) acc4] := by unfold anyAcc; rw [List.range_succ, List.map_append]; rfl
theorem sum_const {α : Type} (f : α → Nat) (m : Nat) : ∀ l : List α, (∀ x ∈ l, f x ≤ m) → (l.map f).sum ≤ m * l.length
 | [], _ => by simp
 | x :: l, h => by
  have a := h x (List.mem_cons_self ..)
  have b := sum_const f m l (fun y hy => h y (List.mem_cons_of_mem _ hy))
  simp only [List.map_cons, List.sum_cons, List.length_cons, Nat.mul_add]; omega
theorem parts_small (S : List (List Span)) : (partsL S).length ≤ 256 ∧ sumS (partsL S) ≤ 65536 := by
 obtain ⟨h1, h2⟩ := partsL_ok S
 refine ⟨h1, ?_⟩
 have := sum_const List.length 256 (partsL S) (fun p hp => setB_256 (h2 p hp).1)
 unfold sumS; omega
theorem machF_small {P : List (List Span)} {L : Nat} : ∀ n s A rows acc d, s ≤ A.length → A.length ≤ 40 → (∀ u ∈ A, VOk L u) → rows.length = s → acc.length = s → (∀ r ∈ rows, r.length = P.length) → machF P n s A rows acc = some d → d.parts = P ∧ d.rows.length ≤ 40 ∧ d.acc.length ≤ 40 ∧ ∀ r ∈ d.rows, r.length = P.length := by
 intro n
 induction n with
 | zero => intro s A rows acc d _ _ _ _ _ _ h; simp [machF] at h
 | succ n ih =>
  intro s A rows acc d h1 h2 h3 h4 h5 h6 h
  by_cases hs : s < A.length
  ·rw [machF_at hs] at h
   have hv := h3 _ (List.getElem_mem hs)
   generalize A[s] = v at *
   have key : ∀ (ps : List (List Span)) B row z, (∀ u ∈ B, VOk L u) → B.length ≤ 40 → rowF v ps B row = some z → (∀ u ∈ z.1, VOk L u) ∧ z.1.length ≤ 40 ∧ B.length ≤ z.1.length ∧ z.2.length = row.length + ps.length := by
    intro ps
    induction ps with
    | nil => intro B row z hB hl hz; simp only [rowF, Option.some.injEq] at hz; subst hz; exact ⟨hB, hl, Nat.le_refl _, rfl⟩
    | cons p ps ih2 =>
     intro B row z hB hl hz
     simp only [rowF] at hz
     cases hc : colS B row (vecR (firstB p) v) with
     | none => rw [hc] at hz; cases hz
     | some y =>
      rw [hc] at hz
      obtain ⟨a1, a2, a3, a4⟩ := colS_ok hv hB hl hc
      obtain ⟨b1, b2, b3, b4⟩ := ih2 _ _ _ a1 a2 hz
      exact ⟨b1, b2, Nat.le_trans a3.length_le b3, by rw [b4, a4, List.length_cons]; omega⟩
   cases hr : rowF v P A [] with
   | none => rw [hr] at h; cases h
   | some z =>
    rw [hr] at h
    obtain ⟨c1, c2, c3, c4⟩ := key P A [] z h3 h2 hr
    refine ih (s + 1) z.1 _ _ d (by omega) c2 c1 (by simp [h4]) (by simp [h5]) (fun r hr' => ?_) h
    rcases List.mem_append.1 hr' with hr' | hr'
    ·exact h6 r hr'
    ·simp at hr'; subst hr'; rw [c4]; simp
  ·rw [machF, List.getElem?_eq_none (by omega)] at h
   simp only [Option.some.injEq] at h; subst h
   exact ⟨rfl, by simp only; omega, by simp only; omega, h6⟩
theorem dfaV_small (l : List Rule) : Small ((dfaV l).getD zDfa) := by
 have z : Small zDfa := ⟨by simp [zDfa], by simp [zDfa, sumS], by simp [zDfa], by simp [zDfa, sumS], by simp [zDfa]⟩
 unfold dfaV
 split
 ·rename_i h
  have hr := rulesB_ok h
  cases hd : dfaOfV l with
  | none => exact z
  | some d =>
   obtain ⟨p1, p2⟩ := parts_small (setsV l)
   obtain ⟨a, b, c, e⟩ := machF_small (L := l.length) 41 0 [startV l] [] [] d (Nat.zero_le _) (by simp) (by simpa using hr.start) rfl rfl (by simp) hd
   have s := sum_const List.length 256 d.rows (fun r hr => by rw [e r hr]; exact p1)
   refine ⟨by show d.parts.length ≤ _; rw [a]; omega, by show sumS d.parts ≤ _; rw [a]; omega, by show d.rows.length ≤ _; omega, by show sumS d.rows ≤ _; unfold sumS; omega, by show d.acc.length ≤ _; omega⟩
 ·exact z
theorem anyV_small (b : List UInt8) (p : Nat) : Small (anyV b p).1 := by
 unfold anyV
 split
 ·exact dfaV_small _
 ·have hk := pickV_lt b (anyQ b p) (n := 6) (by omega)
  generalize pickV b (anyQ b p) 6 = m at *
  obtain ⟨p1, p2⟩ := parts_small [[⟨97, 97⟩], [⟨98, 98⟩]]
  have s := sum_const List.length 3 (anyRows b (1 + m) (anyQ b p + 1) (1 + m)) (fun r hr => by
   unfold anyRows at hr
   obtain ⟨s, _, rfl⟩ := List.mem_map.1 hr
   simp [rowAt])
  have l1 : (anyRows b (1 + m) (anyQ b p + 1) (1 + m)).length = 1 + m := by simp [anyRows]
  have l2 : (anyAcc b (anyQ b p + 1) (1 + m)).length = 1 + m := by simp [anyAcc]
  refine ⟨by show partsAB.length ≤ _; unfold partsAB; omega, by show sumS partsAB ≤ _; unfold partsAB; omega, by simp only; omega, by simp only; unfold sumS; omega, by simp only; omega⟩
theorem anyV_le (b : List UInt8) (p : Nat) : (anyV b p).2 ≤ p + 1400 := by
 have h1 := (rulesV_le b p).2.1
 have hk := pickV_lt b (anyQ b p) (n := 6) (by omega)
 have hq : anyQ b p ≤ (rulesV b p).2 + 1 := by unfold anyQ; split <;> omega
 unfold anyV
 split
 ·simp only; omega
 ·simp only; omega
theorem fits_l7Any2 (b : List UInt8) (hb : b.length ≤ 2000) (p : Nat) (hp : p ≤ 500000) : Fits prog 58 [.box (eRd b p)] (eDfa2 (anyV b p).1) [.box (eRd b (anyV b p).2)] := by
 have cR := fits_l6Rules b hb p (by omega)
 obtain ⟨r1, r2, r3⟩ := rulesV_le b p
 have eV : anyV b p = if (dfaV (rulesV b p).1).isSome = true ∧ pickV b (rulesV b p).2 2 = 0 then ((dfaV (rulesV b p).1).getD zDfa, (rulesV b p).2 + 1)
  else (⟨partsAB, anyRows b (1 + pickV b (anyQ b p) 6) (anyQ b p + 1) (1 + pickV b (anyQ b p) 6), anyAcc b (anyQ b p + 1) (1 + pickV b (anyQ b p) 6)⟩, anyQ b p + 1 + 4 * (1 + pickV b (anyQ b p) 6)) := rfl
 have eQ : anyQ b p = if (dfaV (rulesV b p).1).isSome = true then (rulesV b p).2 + 1 else (rulesV b p).2 := rfl
 have cD : Fits prog 62 [.sl true 4 ((rulesV b p).1.map (eRule false))] (.tup [eDfa2 ((dfaV (rulesV b p).1).getD zDfa), .bool (dfaV (rulesV b p).1).isSome]) [] := fits_take (by simpa only [eraseL, erase, erL_rule] using fits_sDfaOf2 (rulesV b p).1 (by omega) (fun x hx => by have := r3 x hx; omega))
 have c2 : Fits prog 38 [.box (eRd b (rulesV b p).2), .int .i64 2] (.int .i64 (pickV b (rulesV b p).2 2)) [.box (eRd b ((rulesV b p).2 + 1))] := fits_pick b hb (rulesV b p).2 (by omega) 2 (by omega) (by omega)
 generalize dfaV (rulesV b p).1 = o at *
 generalize rulesV b p = z at *
 obtain ⟨l, q⟩ := z
 simp only at *
 generalize anyQ b p = Q at *
 generalize pickV b q 2 = t at *
 generalize anyV b p = V at *
 have hQ : Q ≤ q + 1 := by rw [eQ]; split <;> omega
 have c6 : Fits prog 38 [.box (eRd b Q), .int .i64 6] (.int .i64 (pickV b Q 6)) [.box (eRd b (Q + 1))] := fits_pick b hb Q (by omega) 6 (by omega) (by omega)
 have h6 := pickV_lt b Q (n := 6) (by omega)
 generalize pickV b Q 6 = m at *
 have cP : Fits prog 64 [.sl true 1 [.sl true 2 [.agg [.int .i64 97, .int .i64 97]], .sl true 2 [.agg [.int .i64 98, .int .i64 98]]]] (.sl true 1 (partsAB.map (eSpans false))) [] := by unfold partsAB; exact fits_take (fits_sSetParts [[⟨97, 97⟩], [⟨98, 98⟩]] (by simp) (by simp))
 have tail : ∀ s : Bool, o.isSome = s → (s = true → t ≠ 0) → V = (⟨partsAB, anyRows b (1 + m) (Q + 1) (1 + m), anyAcc b (Q + 1) (1 + m)⟩, Q + 1 + 4 * (1 + m)) := fun s h1 h2 => by
  rw [eV, if_neg]; rintro ⟨a, c⟩; exact h2 (h1 ▸ a) c
 generalize partsAB = P at *
 have eI : ∀ z : List Int, eInts true z = .sl true 1 (z.map eInt) := fun _ => rfl
 have eT : ∀ z : Int, eInt z = .int .i64 z := fun _ => rfl
 by_cases hd : o.isSome = true ∧ t = 0
 ·obtain ⟨h1, h2⟩ := hd
  rw [if_pos ⟨h1, h2⟩] at eV
  subst eV
  subst h2
  rw [h1] at cD
  generalize o.getD zDfa = d at *
  unfold eRd eDfa2 at *
  refine fits_of_cell 2 81 [0] [0, 2, 3, 4, 5, 6, 7, 8, 9, 21, 35, 40] func58 rfl rfl rfl (by show 2 < 66; decide) (by show 1 ≤ 66; decide) (by rfl) (by rfl) (by show 1 ≤ 1; decide) (by rfl) (run_of ?_)
  (first | refine Zo (Z4 tis fls @dx @ux) ?_ | exact Zc (Z4 tis fls @dx @ux))
  refine callM 0 cR ?_
  (first | refine Zo (Z5 tis fls @dx @ux @LLdrosin) ?_ | exact Zc (Z5 tis fls @dx @ux @LLdrosin))
  refine callV cD ?_
  (first | refine Zo (Z7 tis fls @dx @ux @LLdrosin @ex_eq @exGo_tup) ?_ | exact Zc (Z7 tis fls @dx @ux @LLdrosin @ex_eq @exGo_tup))
  refine callM 0 c2 ?_
  (first | refine Zo (Z5 tis fls @dx @ux @LLdrosin) ?_ | exact Zc (Z5 tis fls @dx @ux @LLdrosin))
  done
 ·rw [if_neg hd] at eV
  subst eV
  generalize o.getD zDfa = d at *
  unfold eRd eDfa2 at *
  rcases Bool.eq_false_or_eq_true o.isSome with h1 | h1
  ·have ht : t ≠ 0 := fun e => hd ⟨h1, e⟩
   have ht' : ¬ (t : Int) = 0 := by omega
   rw [h1] at cD
   rw [if_pos h1] at eQ
   rw [← eQ] at c2
   refine fits_of_cell 2 81 [0] [0, 2, 3, 4, 5, 6, 7, 8, 9, 21, 35, 40] func58 rfl rfl rfl (by show 2 < 66; decide) (by show 1 ≤ 66; decide) (by rfl) (by rfl) (by show 1 ≤ 1; decide) (by rfl) (run_of ?_)
   (first | refine Zo (Z4 tis fls @dx @ux) ?_ | exact Zc (Z4 tis fls @dx @ux))
   refine callM 0 cR ?_
   (first | refine Zo (Z5 tis fls @dx @ux @LLdrosin) ?_ | exact Zc (Z5 tis fls @dx @ux @LLdrosin))
   refine callV cD ?_
   (first | refine Zo (Z7 tis fls @dx @ux @LLdrosin @ex_eq @exGo_tup) ?_ | exact Zc (Z7 tis fls @dx @ux @LLdrosin @ex_eq @exGo_tup))
   refine callM 0 c2 ?_
   (first | refine Zo (Z6 tis fls @dx @ux @LLdrosin @ht') ?_ | exact Zc (Z6 tis fls @dx @ux @LLdrosin @ht'))
   refine callV cP ?_
   (first | refine Zo (Z5 tis fls @dx @ux @LLdrosin) ?_ | exact Zc (Z5 tis fls @dx @ux @LLdrosin))
   refine callM 0 c6 ?_
   (first | refine Zo (Z5 tis fls @dx @ux @LLdrosin) ?_ | exact Zc (Z5 tis fls @dx @ux @LLdrosin))
   refine run_loop (α := Nat) (fun i => i ≤ 1 + m) (fun i => [(0, .box (.agg [.sl false 1 (bytesA b), .int .i64 ((Q + 1 + 4 * i : Nat) : Int)])), (2, .box (.agg [.sl true 1 [], .sl true 1 [], .sl true 1 []])), (5, .box (.agg [.sl true 1 (P.map (eSpans false)), .sl true 1 ((anyRows b (1 + m) (Q + 1) i).map (eInts true)), .sl true 1 ((anyAcc b (Q + 1) i).map eInt)])), (6, .int .i64 ((1 + m : Nat) : Int)), (7, .int .i64 i)]) (fun i => 1 + m - i) 0 (Nat.zero_le _) ?_ ?_
   ·have a1 : anyRows b (1 + m) (Q + 1) 0 = [] := rfl
    have a2 : anyAcc b (Q + 1) 0 = [] := rfl
    rw [a1, a2]
    (first | refine Zo (Z3 tis fls @LLmapnil) ?_ | exact Zc (Z3 tis fls @LLmapnil))
   ·intro i hi'
    by_cases hi : i < 1 + m
    ·have l1 : (anyRows b (1 + m) (Q + 1) i).length = i := by simp [anyRows]
     have l2 : (anyAcc b (Q + 1) i).length = i := by simp [anyAcc]
     have s1 := anyRows_s b (1 + m) (Q + 1) i
     have s2 := anyAcc_s b (Q + 1) i
     have e3 : Q + 1 + 4 * (i + 1) = Q + 1 + 4 * i + 3 + 1 := by omega
     have hp3 : Q + 1 + 4 * i ≤ 510000 := by omega
     generalize hR : Q + 1 + 4 * i = r at *
     have cN := fits_num b hb (r + 3) (by omega) acc4 (by decide) (by decide)
     have eA : acc4.map eInt = [.int .i64 (-1), .int .i64 (-1), .int .i64 0, .int .i64 1] := rfl
     rw [eA] at cN
     generalize numV b (r + 3) acc4 = ac at *
     unfold eRd at cN
     (first | refine Zo (Z4 tis fls @dx @ux) ?_ | exact Zc (Z4 tis fls @dx @ux))
     refine run_loop (α := Nat) (fun k => k ≤ 3) (fun k => [(0, .box (.agg [.sl false 1 (bytesA b), .int .i64 ((r + k : Nat) : Int)])), (2, .box (.agg [.sl true 1 [], .sl true 1 [], .sl true 1 []])), (5, .box (.agg [.sl true 1 (P.map (eSpans false)), .sl true 1 ((anyRows b (1 + m) (Q + 1) i).map (eInts true)), .sl true 1 ((anyAcc b (Q + 1) i).map eInt)])), (6, .int .i64 ((1 + m : Nat) : Int)), (7, .int .i64 i), (8, .sl true 1 ((rowAt b (1 + m) r k).map eInt)), (9, .int .i64 k)]) (fun k => 3 - k) 0 (Nat.zero_le _) ?_ ?_
     ·have a1 : rowAt b (1 + m) r 0 = [] := rfl
      rw [a1]
      (first | refine Zo (Z3 tis fls @LLmapnil) ?_ | exact Zc (Z3 tis fls @LLmapnil))
     ·intro k hk'
      by_cases hk : k < 3
      ·have cK := fits_pick b hb (r + k) (by omega) (1 + m + 1) (by omega) (by omega)
       have s3 := rowAt_s b (1 + m) r k
       have l3 : (rowAt b (1 + m) r k).length = k := by simp [rowAt]
       have hpl := pickV_lt b (r + k) (n := 1 + m + 1) (by omega)
       generalize pickV b (r + k) (1 + m + 1) = pk at *
       unfold eRd at cK
       (first | refine Zo (Z4 tis fls @dx @ux) ?_ | exact Zc (Z4 tis fls @dx @ux))
       refine callM 0 cK ?_
       (first | refine Zo (Z6 tis fls @dx @ux @LLdrosin @l3) ?_ | exact Zc (Z6 tis fls @dx @ux @LLdrosin @l3))
       refine round_normal (k + 1) (by omega) ?_ (by show 3 - (k + 1) < 3 - k; omega)
       rw [s3, List.map_append, List.map_cons, List.map_nil, eT]
       (first | refine Zo tis ?_ | exact Zc tis)
       omega
      ·obtain rfl : k = 3 := by omega
       (first | refine Zo (Z4 tis fls @dx @ux) ?_ | exact Zc (Z4 tis fls @dx @ux))
       refine .inr (run_mixl 61 [] [0, 60] 6 [[], []] (by kernel_rfl) ?_)
       (first | refine Zo (Z4 tis fls @dx @ux) ?_ | exact Zc (Z4 tis fls @dx @ux))
       refine callGF 0 cN ?_
       (first | refine Zo (Z7 tis fls @dx @ux @LLdrosin @l1 @l2) ?_ | exact Zc (Z7 tis fls @dx @ux @LLdrosin @l1 @l2))
       refine round_normal (i + 1) (by omega) ?_ (by show 1 + m - (i + 1) < 1 + m - i; omega)
       rw [s1, s2, List.map_append, List.map_append, List.map_cons, List.map_nil, List.map_cons, List.map_nil, eT, eI]
       (first | refine Zo tis ?_ | exact Zc tis)
       omega
    ·obtain rfl : i = 1 + m := by omega
     (first | refine Zo (Z4 tis fls @dx @ux) ?_ | exact Zc (Z4 tis fls @dx @ux))
  ·rw [h1] at cD
   rw [if_neg (by rw [h1]; decide)] at eQ
   obtain rfl : Q = q := eQ
   refine fits_of_cell 2 81 [0] [0, 2, 3, 4, 5, 6, 7, 8, 9, 21, 35, 40] func58 rfl rfl rfl (by show 2 < 66; decide) (by show 1 ≤ 66; decide) (by rfl) (by rfl) (by show 1 ≤ 1; decide) (by rfl) (run_of ?_)
   (first | refine Zo (Z4 tis fls @dx @ux) ?_ | exact Zc (Z4 tis fls @dx @ux))
   refine callM 0 cR ?_
   (first | refine Zo (Z5 tis fls @dx @ux @LLdrosin) ?_ | exact Zc (Z5 tis fls @dx @ux @LLdrosin))
   refine callV cD ?_
   (first | refine Zo (Z7 tis fls @dx @ux @LLdrosin @ex_eq @exGo_tup) ?_ | exact Zc (Z7 tis fls @dx @ux @LLdrosin @ex_eq @exGo_tup))
   refine callV cP ?_
   (first | refine Zo (Z5 tis fls @dx @ux @LLdrosin) ?_ | exact Zc (Z5 tis fls @dx @ux @LLdrosin))
   refine callM 0 c6 ?_
   (first | refine Zo (Z5 tis fls @dx @ux @LLdrosin) ?_ | exact Zc (Z5 tis fls @dx @ux @LLdrosin))
   refine run_loop (α := Nat) (fun i => i ≤ 1 + m) (fun i => [(0, .box (.agg [.sl false 1 (bytesA b), .int .i64 ((Q + 1 + 4 * i : Nat) : Int)])), (2, .box (.agg [.sl true 1 [], .sl true 1 [], .sl true 1 []])), (5, .box (.agg [.sl true 1 (P.map (eSpans false)), .sl true 1 ((anyRows b (1 + m) (Q + 1) i).map (eInts true)), .sl true 1 ((anyAcc b (Q + 1) i).map eInt)])), (6, .int .i64 ((1 + m : Nat) : Int)), (7, .int .i64 i)]) (fun i => 1 + m - i) 0 (Nat.zero_le _) ?_ ?_
   ·have a1 : anyRows b (1 + m) (Q + 1) 0 = [] := rfl
    have a2 : anyAcc b (Q + 1) 0 = [] := rfl
    rw [a1, a2]
    (first | refine Zo (Z3 tis fls @LLmapnil) ?_ | exact Zc (Z3 tis fls @LLmapnil))
   ·intro i hi'
    by_cases hi : i < 1 + m
    ·have l1 : (anyRows b (1 + m) (Q + 1) i).length = i := by simp [anyRows]
     have l2 : (anyAcc b (Q + 1) i).length = i := by simp [anyAcc]
     have s1 := anyRows_s b (1 + m) (Q + 1) i
     have s2 := anyAcc_s b (Q + 1) i
     have e3 : Q + 1 + 4 * (i + 1) = Q + 1 + 4 * i + 3 + 1 := by omega
     have hp3 : Q + 1 + 4 * i ≤ 510000 := by omega
     generalize hR : Q + 1 + 4 * i = r at *
     have cN := fits_num b hb (r + 3) (by omega) acc4 (by decide) (by decide)
     have eA : acc4.map eInt = [.int .i64 (-1), .int .i64 (-1), .int .i64 0, .int .i64 1] := rfl
     rw [eA] at cN
     generalize numV b (r + 3) acc4 = ac at *
     unfold eRd at cN
     (first | refine Zo (Z4 tis fls @dx @ux) ?_ | exact Zc (Z4 tis fls @dx @ux))
     refine run_loop (α := Nat) (fun k => k ≤ 3) (fun k => [(0, .box (.agg [.sl false 1 (bytesA b), .int .i64 ((r + k : Nat) : Int)])), (2, .box (.agg [.sl true 1 [], .sl true 1 [], .sl true 1 []])), (5, .box (.agg [.sl true 1 (P.map (eSpans false)), .sl true 1 ((anyRows b (1 + m) (Q + 1) i).map (eInts true)), .sl true 1 ((anyAcc b (Q + 1) i).map eInt)])), (6, .int .i64 ((1 + m : Nat) : Int)), (7, .int .i64 i), (8, .sl true 1 ((rowAt b (1 + m) r k).map eInt)), (9, .int .i64 k)]) (fun k => 3 - k) 0 (Nat.zero_le _) ?_ ?_
     ·have a1 : rowAt b (1 + m) r 0 = [] := rfl
      rw [a1]
      (first | refine Zo (Z3 tis fls @LLmapnil) ?_ | exact Zc (Z3 tis fls @LLmapnil))
     ·intro k hk'
      by_cases hk : k < 3
      ·have cK := fits_pick b hb (r + k) (by omega) (1 + m + 1) (by omega) (by omega)
       have s3 := rowAt_s b (1 + m) r k
       have l3 : (rowAt b (1 + m) r k).length = k := by simp [rowAt]
       have hpl := pickV_lt b (r + k) (n := 1 + m + 1) (by omega)
       generalize pickV b (r + k) (1 + m + 1) = pk at *
       unfold eRd at cK
       (first | refine Zo (Z4 tis fls @dx @ux) ?_ | exact Zc (Z4 tis fls @dx @ux))
       refine callM 0 cK ?_
       (first | refine Zo (Z6 tis fls @dx @ux @LLdrosin @l3) ?_ | exact Zc (Z6 tis fls @dx @ux @LLdrosin @l3))
       refine round_normal (k + 1) (by omega) ?_ (by show 3 - (k + 1) < 3 - k; omega)
       rw [s3, List.map_append, List.map_cons, List.map_nil, eT]
       (first | refine Zo tis ?_ | exact Zc tis)
       omega
      ·obtain rfl : k = 3 := by omega
       (first | refine Zo (Z4 tis fls @dx @ux) ?_ | exact Zc (Z4 tis fls @dx @ux))
       refine .inr (run_mixl 61 [] [0, 60] 6 [[], []] (by kernel_rfl) ?_)
       (first | refine Zo (Z4 tis fls @dx @ux) ?_ | exact Zc (Z4 tis fls @dx @ux))
       refine callGF 0 cN ?_
       (first | refine Zo (Z7 tis fls @dx @ux @LLdrosin @l1 @l2) ?_ | exact Zc (Z7 tis fls @dx @ux @LLdrosin @l1 @l2))
       refine round_normal (i + 1) (by omega) ?_ (by show 1 + m - (i + 1) < 1 + m - i; omega)
       rw [s1, s2, List.map_append, List.map_append, List.map_cons, List.map_nil, List.map_cons, List.map_nil, eT, eI]
       (first | refine Zo tis ?_ | exact Zc tis)
       omega
    ·obtain rfl : i = 1 + m := by omega
     (first | refine Zo (Z4 tis fls @dx @ux) ?_ | exact Zc (Z4 tis fls @dx @ux))
theorem fits_l7Any (b : List UInt8) (hb : b.length ≤ 2000) (p : Nat) (hp : p ≤ 500000) : Fits prog 58 [.box (eRd b p)] (eDfa false (anyV b p).1) [.box (eRd b (anyV b p).2)] :=
 fits_as2 (fits_l7Any2 b hb p hp) (er_dfa2 _)

def glV (d : Dfa) (s k : Nat) : Int := (d.rows.getD s []).getD k 0
def acV (d : Dfa) (s : Nat) : Int := d.acc.getD s 0
def ifI (to : Int) (x : Span) : Ins := ⟨3, x.lo, x.hi, to⟩
def ifsN (d : Dfa) (s : Nat) (f : Int → Int) : Nat → List Ins
 | 0 => []
 | k + 1 => ifsN d s f k ++ (if 0 ≤ glV d s k then (d.parts.getD k []).map (ifI (f (glV d s k))) else [])
def headL (d : Dfa) (s : Nat) : List Ins := (if 0 ≤ acV d s then [⟨1, acV d s, 0, 0⟩] else []) ++ [⟨2, 0, 0, 0⟩]
def stL (d : Dfa) (f : Int → Int) (s : Nat) : List Ins := headL d s ++ ifsN d s f d.parts.length ++ [⟨4, 0, 0, 0⟩]
def outN (d : Dfa) (f : Int → Int) : Nat → List Ins
 | 0 => []
 | n + 1 => outN d f n ++ stL d f n
def labI (d : Dfa) (x : Int) : Int := (outN d id x.toNat).length
theorem ifsN_le (d : Dfa) (s : Nat) (f : Int → Int) : ∀ k, k ≤ d.parts.length → (ifsN d s f k).length ≤ sumS (d.parts.take k)
 | 0, _ => by simp [ifsN]
 | k + 1, h => by
  have ih := ifsN_le d s f k (by omega)
  have e := sumS_take d.parts k (by omega)
  have g : d.parts.getD k [] = d.parts[k] := by simp [List.getD, show k < d.parts.length by omega]
  simp only [ifsN, List.length_append, g]
  split
  ·simp only [List.length_map]; omega
  ·simp; omega
theorem ifsN_len (d : Dfa) (s : Nat) (f g : Int → Int) : ∀ k, (ifsN d s f k).length = (ifsN d s g k).length
 | 0 => rfl
 | k + 1 => by
  simp only [ifsN, List.length_append, ifsN_len d s f g k]
  split <;> simp
theorem stL_le (d : Dfa) (f : Int → Int) (s : Nat) : (stL d f s).length ≤ 3 + sumS d.parts := by
 have h := ifsN_le d s f d.parts.length (Nat.le_refl _)
 rw [List.take_length] at h
 unfold stL headL
 simp only [List.length_append, List.length_singleton]
 split <;> simp <;> omega
theorem outN_le (d : Dfa) (f : Int → Int) : ∀ n, (outN d f n).length ≤ n * (3 + sumS d.parts)
 | 0 => by simp [outN]
 | n + 1 => by
  have h1 := outN_le d f n
  have h2 := stL_le d f n
  have e : (n + 1) * (3 + sumS d.parts) = n * (3 + sumS d.parts) + (3 + sumS d.parts) := Nat.succ_mul ..
  simp only [outN, List.length_append]
  omega
theorem outN_len (d : Dfa) (f g : Int → Int) : ∀ n, (outN d f n).length = (outN d g n).length
 | 0 => rfl
 | n + 1 => by simp only [outN, stL, List.length_append, outN_len d f g n, ifsN_len d n f g]
structure DOk (d : Dfa) : Prop where
 sm : Small d
 n : d.rows.length ≤ 40
 a : d.acc.length = d.rows.length
 l : ∀ s (h : s < d.rows.length), d.rows[s].length = d.parts.length
 b : ∀ s (h : s < d.rows.length), ∀ k (h2 : k < d.rows[s].length), d.rows[s][k] ≤ (d.rows.length : Int) - 1
 ac : ∀ s (h : s < d.acc.length), -1 ≤ d.acc[s] ∧ d.acc[s] ≤ 4
theorem dok_of {d : Dfa} (h : Small d) (hb : dfaB d = true) : DOk d := by
 unfold dfaB at hb
 simp only [Bool.and_eq_true, decide_eq_true_eq, List.all_eq_true, List.mem_range] at hb
 obtain ⟨_, h2, h3, h4⟩ := hb
 have key : ∀ s (h5 : s < d.rows.length), d.rows[s].length = d.parts.length ∧ (-1 ≤ d.acc[s]'(by omega) ∧ d.acc[s]'(by omega) ≤ 4) ∧ ∀ x ∈ d.rows[s], -1 ≤ x ∧ x ≤ (d.rows.length : Int) - 1 := by
  intro s h5
  have := h4 s h5
  rw [rowN_at h5 (by omega)] at this
  simp only [Bool.and_eq_true, decide_eq_true_eq, List.all_eq_true] at this
  exact ⟨this.1, this.2.1, fun x hx => this.2.2 x hx⟩
 exact ⟨h, h2.2, h3, fun s h5 => (key s h5).1, fun s h5 k h6 => ((key s h5).2.2 _ (List.getElem_mem h6)).2, fun s h5 => (key s (by omega)).2.1⟩
theorem DOk.bnd {d : Dfa} (h : DOk d) (f : Int → Int) (n : Nat) (hn : n ≤ 40) : (outN d f n).length ≤ 41943160 := by
 have h1 := outN_le d f n
 have h2 := h.sm.ps
 have : n * (3 + sumS d.parts) ≤ 40 * (3 + 1048576) := Nat.mul_le_mul hn (by omega)
 omega
theorem fits_l10Head (d : Dfa) (h : DOk d) (s : Nat) (hs : s < d.rows.length) : Fits prog 107 [eDfa false d, .int .i64 s] (.int .i64 (headL d s).length) [] := by
 have ha := h.a
 have hal := h.sm.a
 have hsa : s < d.acc.length := by omega
 have e : acV d s = d.acc[s] := by simp [acV, List.getD, hsa]
 unfold headL
 rw [e]
 have ga2 : (d.acc.map eInt)[s]? = some (.int .i64 d.acc[s]) := by simp [hsa, eInt]
 generalize hae : d.acc[s] = a at *
 have ea : eInt d.acc[s] = .int .i64 a := by rw [hae]; rfl
 unfold eDfa
 by_cases h0 : 0 ≤ a
 ·rw [if_pos h0]
  refine fits_of_code [4] [] [0, 1, 2, 4, 10] func107 rfl rfl rfl (by rfl) (by show 2 ≤ 11; decide) (by rfl) (by rfl) (by show 0 ≤ 2; decide) (by rfl) (run_of ?_)
  refine Zo (Z6 tis fls @dx @ea @ga2 @h0) ?_
  rfl
 ·rw [if_neg h0]
  refine fits_of_code [4] [] [0, 1, 2, 4, 10] func107 rfl rfl rfl (by rfl) (by show 2 ≤ 11; decide) (by rfl) (by rfl) (by show 0 ≤ 2; decide) (by rfl) (run_of ?_)
  exact Zc (Z6 tis fls @dx @ea @ga2 @h0)
theorem headL_len (d : Dfa) (s : Nat) : (headL d s).length ≤ 2 := by unfold headL; split <;> simp
theorem stL_len (d : Dfa) (f : Int → Int) (s : Nat) : (stL d f s).length = (headL d s).length + 1 + (ifsN d s f d.parts.length).length := by
 unfold stL; simp; omega
theorem fits_l10Many (d : Dfa) (h : DOk d) (s : Nat) (hs : s < d.rows.length) : Fits prog 96 [eDfa false d, .int .i64 s] (.int .i64 (stL d id s).length) [] := by
 have cH := fits_l10Head d h s hs
 have hh := headL_len d s
 rw [stL_len]
 generalize (headL d s).length = H at *
 have hp := h.sm.p
 have hr := h.sm.r
 have hrl := h.sm.rc _ (List.getElem_mem hs)
 have hl := h.l s hs
 have hps := h.sm.ps
 have gr2 : (d.rows.map (eInts false))[s]? = some (.sl false 1 (d.rows[s].map eInt)) := by simp [hs, eInts]
 have gr : (d.rows.map (eInts false)).getD s .undef = .sl false 1 (d.rows[s].map eInt) := by simp [List.getD, hs, eInts]
 have eg : ∀ k, glV d s k = d.rows[s].getD k 0 := fun k => by simp [glV, List.getD, hs]
 generalize d.rows[s] = row at *
 unfold eDfa at *
 refine fits_of_code [4] [] [0, 1, 2, 4, 5, 6, 15, 26] func96 rfl rfl rfl (by rfl) (by show 2 ≤ 36; decide) (by rfl) (by rfl) (by show 0 ≤ 2; decide) (by rfl) (run_of ?_)
 simp -implicitDefEqProofs (disch := first | (intros; contradiction) | omega) only [am0, am1, am2, am3, am4, am5, am6, Nat.reduceSub, ↓reduceIte, reduceCtorEq, Nat.reduceEqDiff, Nat.reduceBEq, Nat.reduceAdd, Nat.reduceLT, Nat.reduceBNe, Nat.reduceMul, ↓reduceIte, tis, fls, dx, plain, plainL]
 refine callB cH ?_
 refine Zo (Z3 tis fls @dx) ?_
 refine run_loop (α := Nat) (fun k => k ≤ d.parts.length) (fun k => [(1, .int .i64 s), (2, .box (.agg [.sl false 1 (d.parts.map (eSpans false)), .sl false 1 (d.rows.map (eInts false)), .sl false 1 (d.acc.map eInt)])), (5, .int .i64 ((H + 1 + (ifsN d s id k).length : Nat))), (6, .int .i64 k)]) (fun k => d.parts.length - k) 0 (Nat.zero_le _) ?_ ?_
 ·simp -implicitDefEqProofs (disch := first | (intros; contradiction) | omega) only [am0, am1, am2, am3, am4, am5, am6, Nat.reduceSub, ↓reduceIte, reduceCtorEq, Nat.reduceEqDiff, Nat.reduceBEq, Nat.reduceAdd, Nat.reduceLT, Nat.reduceBNe, Nat.reduceMul, ↓reduceIte, tis, ifsN, List.length_nil]
 ·intro k hk'
  have hle := ifsN_le d s id k hk'
  have hle2 := sumS_mono d.parts k
  by_cases hk : k < d.parts.length
  ·have hkr : k < row.length := by omega
   have hS : ifsN d s id (k + 1) = ifsN d s id k ++ (if 0 ≤ glV d s k then (d.parts.getD k []).map (ifI (id (glV d s k))) else []) := rfl
   have e1 : glV d s k = row[k] := by rw [eg]; simp [List.getD, hkr]
   have e2 : d.parts.getD k [] = d.parts[k] := by simp [List.getD, hk]
   have hpl := h.sm.pc _ (List.getElem_mem hk)
   have gp2 : (d.parts.map (eSpans false))[k]? = some (.sl false 2 (d.parts[k].map eSpan)) := by simp [hk, eSpans]
   have gp : (d.parts.map (eSpans false)).getD k .undef = .sl false 2 (d.parts[k].map eSpan) := by simp [List.getD, hk, eSpans]
   have gk2 : (row.map eInt)[k]? = some (.int .i64 row[k]) := by simp [hkr, eInt]
   rw [e1, e2] at hS
   generalize hse : row[k] = x at *
   have ek : eInt row[k] = .int .i64 x := by rw [hse]; rfl
   generalize d.parts[k] = p at *
   by_cases h0 : 0 ≤ x
   ·rw [if_pos h0] at hS
    have hS2 := congrArg List.length hS
    rw [List.length_append, List.length_map] at hS2
    refine Zo (Z10 tis fls @dx @gr @gr2 @ek @gk2 @h0 @gp @gp2) ?_
    refine round_normal (k + 1) (by omega) ?_ (by show d.parts.length - (k + 1) < d.parts.length - k; omega)
    refine Zo (Z2 tis @hS2) ?_
    omega
   ·rw [if_neg h0, List.append_nil] at hS
    refine Zo (Z8 tis fls @dx @gr @gr2 @ek @gk2 @h0) ?_
    refine round_normal (k + 1) (by omega) ?_ (by show d.parts.length - (k + 1) < d.parts.length - k; omega)
    exact Zc (Z2 tis @hS)
  ·obtain rfl : k = d.parts.length := by omega
   exact Zc (Z3 tis fls @dx)
theorem fits_l10Label (d : Dfa) (h : DOk d) (s : Nat) (hs : s ≤ d.rows.length) : Fits prog 79 [eDfa false d, .int .i64 s] (.int .i64 (outN d id s).length) [] := by
 have hn := h.n
 have cM := fun i (hi : i < s) => fits_l10Many d h i (by omega)
 unfold eDfa at *
 refine fits_of_code [4] [] [0, 1, 2, 4, 5, 6, 9] func79 rfl rfl rfl (by rfl) (by show 2 ≤ 18; decide) (by rfl) (by rfl) (by show 0 ≤ 2; decide) (by rfl) (run_of ?_)
 refine Zo (Z3 tis fls @dx) ?_
 refine run_loop (α := Nat) (fun i => i ≤ s) (fun i => [(1, .int .i64 s), (2, .box (.agg [.sl false 1 (d.parts.map (eSpans false)), .sl false 1 (d.rows.map (eInts false)), .sl false 1 (d.acc.map eInt)])), (5, .int .i64 (outN d id i).length), (6, .int .i64 i)]) (fun i => s - i) 0 (Nat.zero_le _) ?_ ?_
 ·simp -implicitDefEqProofs (disch := first | (intros; contradiction) | omega) only [am0, am1, am2, am3, am4, am5, am6, Nat.reduceSub, ↓reduceIte, reduceCtorEq, Nat.reduceEqDiff, Nat.reduceBEq, Nat.reduceAdd, Nat.reduceLT, Nat.reduceBNe, Nat.reduceMul, ↓reduceIte, tis, outN, List.length_nil]
 ·intro i hi'
  have hbd := h.bnd id i (by omega)
  by_cases hi : i < s
  ·have cM := cM i hi
   have hb2 := h.bnd id (i + 1) (by omega)
   have hS : (outN d id (i + 1)).length = (outN d id i).length + (stL d id i).length := by simp [outN]
   simp -implicitDefEqProofs (disch := first | (intros; contradiction) | omega) only [am0, am1, am2, am3, am4, am5, am6, Nat.reduceSub, ↓reduceIte, reduceCtorEq, Nat.reduceEqDiff, Nat.reduceBEq, Nat.reduceAdd, Nat.reduceLT, Nat.reduceBNe, Nat.reduceMul, ↓reduceIte, tis, fls, dx, plain, plainL]
   refine callB cM ?_
   refine Zo (Z3 tis fls @dx) ?_
   refine round_normal (i + 1) (by omega) ?_ (by show s - (i + 1) < s - i; omega)
   exact Zc (Z2 tis @hS)
  ·obtain rfl : i = s := by omega
   exact Zc (Z3 tis fls @dx)
theorem fits_sDfaOk (d : Dfa) (h : Small d) : Fits prog 60 [eDfa false d] (.bool (dfaB d)) [] := by
 have cP := fits_l7Parts d.parts h.p h.pc
 have hr := h.r
 have ha := h.a
 have hp := h.p
 unfold eDfa
 by_cases p1 : partsB d.parts = true
 case neg =>
  have p1 : partsB d.parts = false := by simpa using p1
  have e : dfaB d = false := by unfold dfaB; rw [p1]; rfl
  rw [p1] at cP
  refine fits_of_code [2] [] [0, 1, 2, 3, 4, 29, 34, 62, 70, 95] func60 rfl rfl rfl (by rfl) (by show 1 ≤ 96; decide) (by rfl) (by rfl) (by show 0 ≤ 1; decide) (by rfl) (run_of ?_)
  refine Zo (Z3 tis fls @dx) ?_
  refine callB cP ?_
  exact Zc (Z3 tis fls @e)
 rw [p1] at cP
 by_cases r1 : (d.rows.length : Int) < 1
 ·have e : dfaB d = false := by unfold dfaB; rw [decide_eq_false (show ¬ (1 ≤ d.rows.length ∧ d.rows.length ≤ 40) by omega)]; simp
  refine fits_of_code [2] [] [0, 1, 2, 3, 4, 29, 34, 62, 70, 95] func60 rfl rfl rfl (by rfl) (by show 1 ≤ 96; decide) (by rfl) (by rfl) (by show 0 ≤ 1; decide) (by rfl) (run_of ?_)
  refine Zo (Z3 tis fls @dx) ?_
  refine callB cP ?_
  exact Zc (Z4 tis fls @r1 @e)
 by_cases r2 : (40 : Int) < d.rows.length
 ·have e : dfaB d = false := by unfold dfaB; rw [decide_eq_false (show ¬ (1 ≤ d.rows.length ∧ d.rows.length ≤ 40) by omega)]; simp
  refine fits_of_code [2] [] [0, 1, 2, 3, 4, 29, 34, 62, 70, 95] func60 rfl rfl rfl (by rfl) (by show 1 ≤ 96; decide) (by rfl) (by rfl) (by show 0 ≤ 1; decide) (by rfl) (run_of ?_)
  refine Zo (Z3 tis fls @dx) ?_
  refine callB cP ?_
  exact Zc (Z5 tis fls @r1 @r2 @e)
 by_cases r3 : d.acc.length = d.rows.length
 case neg =>
  have e : dfaB d = false := by unfold dfaB; rw [decide_eq_false r3]; simp
  have r3' : ¬ (d.acc.length : Int) = d.rows.length := by omega
  refine fits_of_code [2] [] [0, 1, 2, 3, 4, 29, 34, 62, 70, 95] func60 rfl rfl rfl (by rfl) (by show 1 ≤ 96; decide) (by rfl) (by rfl) (by show 0 ≤ 1; decide) (by rfl) (run_of ?_)
  refine Zo (Z3 tis fls @dx) ?_
  refine callB cP ?_
  exact Zc (Z6 tis fls @r1 @r2 @r3' @e)
 have r3' : (d.acc.length : Int) = d.rows.length := by omega
 refine fits_of_code [2] [] [0, 1, 2, 3, 4, 29, 34, 62, 70, 95] func60 rfl rfl rfl (by rfl) (by show 1 ≤ 96; decide) (by rfl) (by rfl) (by show 0 ≤ 1; decide) (by rfl) (run_of ?_)
 refine Zo (Z3 tis fls @dx) ?_
 refine callB cP ?_
 refine Zo (Z5 tis fls @r1 @r2 @r3') ?_
 refine run_loop (α := Nat) (fun i => i ≤ d.rows.length ∧ ∀ j, j < i → rowN d j = true) (fun i => [(1, .box (.agg [.sl false 1 (d.parts.map (eSpans false)), .sl false 1 (d.rows.map (eInts false)), .sl false 1 (d.acc.map eInt)])), (3, .int .i64 i)]) (fun i => d.rows.length - i) 0 ⟨Nat.zero_le _, by intros; omega⟩ ?_ ?_
 ·exact Zc tis
 ·rintro i ⟨hi', hb⟩
  by_cases hi : i < d.rows.length
  ·have hi2 : i < d.acc.length := by omega
   have hN := rowN_at hi hi2
   have hrl := h.rc _ (List.getElem_mem hi)
   have gr : (d.rows.map (eInts false)).getD i .undef = .sl false 1 (d.rows[i].map eInt) := by simp [List.getD, hi, eInts]
   have gr2 : (d.rows.map (eInts false))[i]? = some (.sl false 1 (d.rows[i].map eInt)) := by simp [hi, eInts]
   have ga : (d.acc.map eInt).getD i .undef = .int .i64 d.acc[i] := by simp [List.getD, hi2, eInt]
   have ga2 : (d.acc.map eInt)[i]? = some (.int .i64 d.acc[i]) := by simp [hi2, eInt]
   generalize d.rows[i] = row at *
   generalize hae : d.acc[i] = a at *
   have ea : eInt d.acc[i] = .int .i64 a := by rw [hae]; rfl
   by_cases b1 : row.length = d.parts.length
   case neg =>
    have hf : rowN d i = false := by rw [hN, decide_eq_false b1]; rfl
    have hf := rows_f hi hf
    have b1' : ¬ (row.length : Int) = d.parts.length := by omega
    refine Zo (Z5 tis fls @gr @gr2 @dx) ?_
    refine .inl ⟨by kernel_rfl, ?_⟩
    exact Zc (Z4 tis fls @b1' @hf)
   have b1' : (row.length : Int) = d.parts.length := by omega
   by_cases b2 : a < -1
   ·have hf : rowN d i = false := by rw [hN, decide_eq_false (show ¬ (-1 ≤ a ∧ a ≤ 4) by omega)]; simp
    have hf := rows_f hi hf
    refine Zo (Z5 tis fls @gr @gr2 @dx) ?_
    refine .inl ⟨by kernel_rfl, ?_⟩
    exact Zc (Z7 tis fls @b1' @ea @ga2 @b2 @hf)
   by_cases b3 : 5 ≤ a
   ·have hf : rowN d i = false := by rw [hN, decide_eq_false (show ¬ (-1 ≤ a ∧ a ≤ 4) by omega)]; simp
    have hf := rows_f hi hf
    refine Zo (Z5 tis fls @gr @gr2 @dx) ?_
    refine .inl ⟨by kernel_rfl, ?_⟩
    exact Zc (Z8 tis fls @b1' @ea @ga2 @b2 @b3 @hf)
   have hN2 : rowN d i = row.all (fun s => decide (-1 ≤ s ∧ s ≤ (d.rows.length : Int) - 1)) := by
    rw [hN, decide_eq_true b1, decide_eq_true (show -1 ≤ a ∧ a ≤ 4 by omega)]; rfl
   refine Zo (Z5 tis fls @gr @gr2 @dx) ?_
   refine .inl ⟨by kernel_rfl, ?_⟩
   refine Zo (Z7 tis fls @b1' @ea @ga2 @b2 @b3) ?_
   refine run_loop (α := Nat) (fun k => k ≤ row.length ∧ ∀ k' (hk : k' < row.length), k' < k → (-1 ≤ row[k'] ∧ row[k'] ≤ (d.rows.length : Int) - 1)) (fun k => [(1, .box (.agg [.sl false 1 (d.parts.map (eSpans false)), .sl false 1 (d.rows.map (eInts false)), .sl false 1 (d.acc.map eInt)])), (3, .int .i64 i), (4, .int .i64 k)]) (fun k => row.length - k) 0 ⟨Nat.zero_le _, by intros; omega⟩ ?_ ?_
   ·exact Zc tis
   ·rintro k ⟨hk', hkb⟩
    by_cases hk : k < row.length
    ·have gk : (row.map eInt).getD k .undef = .int .i64 row[k] := by simp [List.getD, hk, eInt]
     have gk2 : (row.map eInt)[k]? = some (.int .i64 row[k]) := by simp [hk, eInt]
     have bad : ¬ (-1 ≤ row[k] ∧ row[k] ≤ (d.rows.length : Int) - 1) → dfaB d = false := fun hx => rows_f hi (by
      rw [hN2, List.all_eq_false]; exact ⟨row[k], List.getElem_mem hk, by simpa using hx⟩)
     have good : (-1 ≤ row[k] ∧ row[k] ≤ (d.rows.length : Int) - 1) → ∀ k' (hk3 : k' < row.length), k' < k + 1 → (-1 ≤ row[k'] ∧ row[k'] ≤ (d.rows.length : Int) - 1) := fun hx k' hk3 hk4 => by
      by_cases e : k' = k
      ·subst e; exact hx
      ·exact hkb k' hk3 (by omega)
     generalize hse : row[k] = s at *
     have ek : eInt row[k] = .int .i64 s := by rw [hse]; rfl
     by_cases s1 : s < -1
     ·have hf := bad (by omega)
      refine Zo (Z5 tis fls @gr @gr2 @dx) ?_
      refine .inl ⟨by kernel_rfl, ?_⟩
      exact Zc (Z8 tis fls @gr @gr2 @ek @gk2 @s1 @hf)
     by_cases s2 : (d.rows.length : Int) ≤ s
     ·have hf := bad (by omega)
      refine Zo (Z5 tis fls @gr @gr2 @dx) ?_
      refine .inl ⟨by kernel_rfl, ?_⟩
      exact Zc (Z9 tis fls @gr @gr2 @ek @gk2 @s1 @s2 @hf)
     refine Zo (Z5 tis fls @gr @gr2 @dx) ?_
     refine .inl ⟨by kernel_rfl, ?_⟩
     refine Zo (Z8 tis fls @gr @gr2 @ek @gk2 @s1 @s2) ?_
     refine round_normal (k + 1) ⟨by omega, good (by omega)⟩ ?_ (by show row.length - (k + 1) < row.length - k; omega)
     exact Zc tis
    ·obtain rfl : k = row.length := by omega
     refine Zo (Z5 tis fls @gr @gr2 @dx) ?_
     refine round_normal (i + 1) ⟨by omega, fun j hj => ?_⟩ ?_ (by show d.rows.length - (i + 1) < d.rows.length - i; omega)
     ·by_cases e : j = i
      ·subst e
       rw [hN2, List.all_eq_true]
       intro x hx
       obtain ⟨k', hk3, rfl⟩ := List.getElem_of_mem hx
       simpa using hkb k' hk3 hk3
      ·exact hb j (by omega)
     ·exact Zc tis
  ·obtain rfl : i = d.rows.length := by omega
   have e : dfaB d = true := rows_t p1 (by omega) r3 hb
   exact Zc (Z4 tis fls @dx @e)

theorem map_take_s {α β : Type} (f : α → β) (l : List α) (i : Nat) (h : i < l.length) : (l.take (i + 1)).map f = (l.take i).map f ++ [f l[i]] := by
 rw [List.take_succ_eq_append_getElem h, List.map_append]; rfl
theorem fits_l10State (d : Dfa) (h : DOk d) (s : Nat) (hs : s < d.rows.length) : Fits prog 66 [eDfa false d, .int .i64 s] (.sl true 4 ((stL d (labI d) s).map eIns)) [] := by
 have hp := h.sm.p
 have hr := h.sm.r
 have hn := h.n
 have ha := h.a
 have hal := h.sm.a
 have hps := h.sm.ps
 have hrl := h.sm.rc _ (List.getElem_mem hs)
 have hl := h.l s hs
 have hbb := h.b s hs
 have hsa : s < d.acc.length := by omega
 have gr2 : (d.rows.map (eInts false))[s]? = some (.sl false 1 (d.rows[s].map eInt)) := by simp [hs, eInts]
 have gr : (d.rows.map (eInts false)).getD s .undef = .sl false 1 (d.rows[s].map eInt) := by simp [List.getD, hs, eInts]
 have eg : ∀ k, glV d s k = d.rows[s].getD k 0 := fun k => by simp [glV, List.getD, hs]
 generalize d.rows[s] = row at *
 have eac : acV d s = d.acc[s] := by simp [acV, List.getD, hsa]
 have ga2 : (d.acc.map eInt)[s]? = some (.int .i64 d.acc[s]) := by simp [hsa, eInt]
 have cL := fun x (hx : x ≤ d.rows.length) => fits_l10Label d h x hx
 have hH : headL d s = (if 0 ≤ d.acc[s] then [⟨1, d.acc[s], 0, 0⟩] else []) ++ [⟨2, 0, 0, 0⟩] := by unfold headL; rw [eac]
 generalize hae : d.acc[s] = a at *
 have ea : eInt d.acc[s] = .int .i64 a := by rw [hae]; rfl
 have hhl := headL_len d s
 have body : ∀ (Hd : List Ins), Hd = headL d s → Hd.length ≤ 2 → True := fun _ _ _ => trivial
 unfold eDfa at *
 unfold stL
 by_cases h0 : 0 ≤ a
 all_goals (
  first
   | (rw [if_pos h0] at hH)
   | (rw [if_neg h0] at hH)
  have hHm := congrArg (List.map eIns) hH
  simp only [List.cons_append, List.nil_append, List.map_cons, List.map_nil, eIns] at hHm
  generalize headL d s = Hd at *
  refine fits_of_code [4] [] [0, 1, 2, 4, 5, 6, 7, 14, 32, 53] func66 rfl rfl rfl (by rfl) (by show 2 ≤ 92; decide) (by rfl) (by rfl) (by show 0 ≤ 2; decide) (by rfl) (run_of ?_)
  refine Zo (Z6 tis fls @dx @ea @ga2 @h0) ?_
  refine run_loop (α := Nat) (fun k => k ≤ d.parts.length) (fun k => [(1, .int .i64 s), (2, .box (.agg [.sl false 1 (d.parts.map (eSpans false)), .sl false 1 (d.rows.map (eInts false)), .sl false 1 (d.acc.map eInt)])), (5, .sl true 4 ((Hd ++ ifsN d s (labI d) k).map eIns)), (6, .int .i64 k)]) (fun k => d.parts.length - k) 0 (Nat.zero_le _) ?_ ?_
  ·simp -implicitDefEqProofs (disch := first | (intros; contradiction) | omega) only [am0, am1, am2, am3, am4, am5, am6, Nat.reduceSub, ↓reduceIte, reduceCtorEq, Nat.reduceEqDiff, Nat.reduceBEq, Nat.reduceAdd, Nat.reduceLT, Nat.reduceBNe, Nat.reduceMul, ↓reduceIte, tis, ifsN, List.append_nil, hHm]
  ·intro k hk'
   have hle := ifsN_le d s (labI d) k hk'
   have hle2 := sumS_mono d.parts k
   by_cases hk : k < d.parts.length
   ·have hkr : k < row.length := by omega
    have hS : ifsN d s (labI d) (k + 1) = ifsN d s (labI d) k ++ (if 0 ≤ glV d s k then (d.parts.getD k []).map (ifI (labI d (glV d s k))) else []) := rfl
    have e1 : glV d s k = row[k] := by rw [eg]; simp [List.getD, hkr]
    have e2 : d.parts.getD k [] = d.parts[k] := by simp [List.getD, hk]
    have hpl := h.sm.pc _ (List.getElem_mem hk)
    have hbk := hbb k hkr
    have gp2 : (d.parts.map (eSpans false))[k]? = some (.sl false 2 (d.parts[k].map eSpan)) := by simp [hk, eSpans]
    have gp : (d.parts.map (eSpans false)).getD k .undef = .sl false 2 (d.parts[k].map eSpan) := by simp [List.getD, hk, eSpans]
    have gk2 : (row.map eInt)[k]? = some (.int .i64 row[k]) := by simp [hkr, eInt]
    rw [e1, e2] at hS
    generalize hse : row[k] = x at *
    have ek : eInt row[k] = .int .i64 x := by rw [hse]; rfl
    generalize d.parts[k] = p at *
    generalize ifsN d s (labI d) k = F at *
    by_cases hx0 : 0 ≤ x
    ·rw [if_pos hx0] at hS
     obtain ⟨x, rfl⟩ : ∃ n : Nat, x = n := ⟨x.toNat, by omega⟩
     have cL := cL x (by omega)
     have eL : labI d (x : Int) = (outN d id x).length := rfl
     have hbd := h.bnd id x (by omega)
     refine Zo (Z3 tis fls @dx) ?_
     refine run_loop (α := Nat) (fun i => i ≤ p.length) (fun i => [(1, .int .i64 s), (2, .box (.agg [.sl false 1 (d.parts.map (eSpans false)), .sl false 1 (d.rows.map (eInts false)), .sl false 1 (d.acc.map eInt)])), (5, .sl true 4 ((Hd ++ F ++ (p.take i).map (ifI (labI d (x : Int)))).map eIns)), (6, .int .i64 k), (7, .int .i64 i)]) (fun i => p.length - i) 0 (Nat.zero_le _) ?_ ?_
     ·exact Zc (Z3 tis @LLmapnil @LLappnil)
     ·intro i hi'
      by_cases hi : i < p.length
      ·have hT := map_take_s (ifI (labI d (x : Int))) p i hi
       have hti : (p.take i).length = i := by simp; omega
       simp -implicitDefEqProofs (disch := first | (intros; contradiction) | omega) only [am0, am1, am2, am3, am4, am5, am6, Nat.reduceSub, ↓reduceIte, reduceCtorEq, Nat.reduceEqDiff, Nat.reduceBEq, Nat.reduceAdd, Nat.reduceLT, Nat.reduceBNe, Nat.reduceMul, ↓reduceIte, tis, fls, dx, gr, gr2, ek, gk2, hx0, gp, gp2, eSpan, plain, plainL]
       refine .inl ⟨by kernel_rfl, ?_⟩
       refine callL cL ?_
       refine Zo (Z4 tis fls @dx @hti) ?_
       refine round_normal (i + 1) (by omega) ?_ (by show p.length - (i + 1) < p.length - i; omega)
       have hT2 : (Hd ++ F ++ (p.take (i + 1)).map (ifI (labI d (x : Int)))).map eIns = (Hd ++ F ++ (p.take i).map (ifI (labI d (x : Int)))).map eIns ++ [.agg [.int .i64 3, .int .i64 p[i].lo, .int .i64 p[i].hi, .int .i64 (outN d id x).length]] := by
        rw [hT, eL, ← List.append_assoc, List.map_append]; rfl
       rw [hT2]
       exact Zc tis
      ·obtain rfl : i = p.length := by omega
       rw [List.take_length]
       refine Zo (Z10 tis fls @dx @gr @gr2 @ek @gk2 @hx0 @gp @gp2) ?_
       refine round_normal (k + 1) (by omega) ?_ (by show d.parts.length - (k + 1) < d.parts.length - k; omega)
       rw [hS]
       exact Zc (Z2 tis @LLappass)
    ·rw [if_neg hx0, List.append_nil] at hS
     refine Zo (Z3 tis fls @dx) ?_
     refine run_loop (α := Nat) (fun i => i = 0) (fun i => [(1, .int .i64 s), (2, .box (.agg [.sl false 1 (d.parts.map (eSpans false)), .sl false 1 (d.rows.map (eInts false)), .sl false 1 (d.acc.map eInt)])), (5, .sl true 4 ((Hd ++ F).map eIns)), (6, .int .i64 k), (7, .int .i64 0)]) (fun i => i) 0 rfl ?_ ?_
     ·exact Zc tis
     ·intro i hi0
      subst hi0
      by_cases hpl0 : (0 : Int) < p.length
      ·refine Zo (Z11 tis fls @dx @gr @gr2 @ek @gk2 @hx0 @gp @gp2 @hpl0) ?_
       refine round_normal (k + 1) (by omega) ?_ (by show d.parts.length - (k + 1) < d.parts.length - k; omega)
       rw [hS]
       exact Zc tis
      ·refine Zo (Z11 tis fls @dx @gr @gr2 @ek @gk2 @hx0 @gp @gp2 @hpl0) ?_
       refine round_normal (k + 1) (by omega) ?_ (by show d.parts.length - (k + 1) < d.parts.length - k; omega)
       rw [hS]
       exact Zc tis
   ·obtain rfl : k = d.parts.length := by omega
    rw [List.take_length] at hle
    generalize ifsN d s (labI d) d.parts.length = F at *
    exact Zc (Z5 tis fls @dx @LLmapapp eIns.eq_1))
theorem fits_l10Of (d : Dfa) (h : DOk d) : Fits prog 61 [eDfa false d] (.sl true 4 ((outN d (labI d) d.rows.length).map eIns)) [] := by
 have hn := h.n
 have hr := h.sm.r
 have cS := fun i (hi : i < d.rows.length) => fits_l10State d h i hi
 unfold eDfa at *
 refine fits_of_code [2] [] [0, 1, 2, 3, 4, 10] func61 rfl rfl rfl (by rfl) (by show 1 ≤ 19; decide) (by rfl) (by rfl) (by show 0 ≤ 1; decide) (by rfl) (run_of ?_)
 refine Zo (Z3 tis fls @dx) ?_
 refine run_loop (α := Nat) (fun i => i ≤ d.rows.length) (fun i => [(1, .box (.agg [.sl false 1 (d.parts.map (eSpans false)), .sl false 1 (d.rows.map (eInts false)), .sl false 1 (d.acc.map eInt)])), (3, .sl true 4 ((outN d (labI d) i).map eIns)), (4, .int .i64 i)]) (fun i => d.rows.length - i) 0 (Nat.zero_le _) ?_ ?_
 ·simp -implicitDefEqProofs (disch := first | (intros; contradiction) | omega) only [am0, am1, am2, am3, am4, am5, am6, Nat.reduceSub, ↓reduceIte, reduceCtorEq, Nat.reduceEqDiff, Nat.reduceBEq, Nat.reduceAdd, Nat.reduceLT, Nat.reduceBNe, Nat.reduceMul, ↓reduceIte, tis, outN, List.map_nil]
 ·intro i hi'
  have hbd := h.bnd (labI d) i (by omega)
  by_cases hi : i < d.rows.length
  ·have cS := cS i hi
   have hsl := stL_le d (labI d) i
   have hps := h.sm.ps
   have hS : outN d (labI d) (i + 1) = outN d (labI d) i ++ stL d (labI d) i := rfl
   generalize stL d (labI d) i = X at *
   generalize outN d (labI d) i = Y at *
   simp -implicitDefEqProofs (disch := first | (intros; contradiction) | omega) only [am0, am1, am2, am3, am4, am5, am6, Nat.reduceSub, ↓reduceIte, reduceCtorEq, Nat.reduceEqDiff, Nat.reduceBEq, Nat.reduceAdd, Nat.reduceLT, Nat.reduceBNe, Nat.reduceMul, ↓reduceIte, tis, fls, dx, plain, plainL]
   refine callB cS ?_
   refine Zo (Z3 tis fls @dx) ?_
   refine round_normal (i + 1) (by omega) ?_ (by show d.rows.length - (i + 1) < d.rows.length - i; omega)
   rw [hS]
   exact Zc (Z2 tis @LLmapapp)
  ·obtain rfl : i = d.rows.length := by omega
   exact Zc (Z3 tis fls @dx)
def progL (d : Dfa) : List Ins := if dfaB d = true then (if (outN d id d.rows.length).length ≤ 1500 then outN d (labI d) d.rows.length else []) else []
def progOkB (d : Dfa) : Bool := dfaB d && decide ((outN d id d.rows.length).length ≤ 1500)
theorem fits_sProgOf (d : Dfa) (h : Small d) : Fits prog 57 [eDfa false d] (.tup [.sl true 4 ((progL d).map eIns), .bool (progOkB d)]) [] := by
 have cO := fits_sDfaOk d h
 unfold progL progOkB
 cases hb : dfaB d with
 | false =>
  rw [hb] at cO
  unfold eDfa at *
  refine fits_of_code [2, 3] [] [0, 1, 2, 3, 4, 7, 13] func57 rfl rfl rfl (by rfl) (by show 1 ≤ 16; decide) (by rfl) (by rfl) (by show 0 ≤ 1; decide) (by rfl) (run_of ?_)
  simp -implicitDefEqProofs (disch := first | (intros; contradiction) | omega) only [am0, am1, am2, am3, am4, am5, am6, Nat.reduceSub, ↓reduceIte, reduceCtorEq, Nat.reduceEqDiff, Nat.reduceBEq, Nat.reduceAdd, Nat.reduceLT, Nat.reduceBNe, Nat.reduceMul, ↓reduceIte, tis, fls, dx, plain, plainL]
  refine callB cO ?_
  exact Zc (Z5 tis fls @dx @retW2 @LLmapnil)
 | true =>
  have hk := dok_of h hb
  have cP := fits_l10Of d hk
  have hbd := hk.bnd (labI d) d.rows.length hk.n
  rw [hb] at cO
  rw [if_pos rfl, outN_len d id (labI d)]
  generalize outN d (labI d) d.rows.length = X at *
  unfold eDfa at *
  by_cases h0 : (1500 : Int) < X.length
  ·rw [if_neg (by omega), decide_eq_false (by omega)]
   refine fits_of_code [2, 3] [] [0, 1, 2, 3, 4, 7, 13] func57 rfl rfl rfl (by rfl) (by show 1 ≤ 16; decide) (by rfl) (by rfl) (by show 0 ≤ 1; decide) (by rfl) (run_of ?_)
   simp -implicitDefEqProofs (disch := first | (intros; contradiction) | omega) only [am0, am1, am2, am3, am4, am5, am6, Nat.reduceSub, ↓reduceIte, reduceCtorEq, Nat.reduceEqDiff, Nat.reduceBEq, Nat.reduceAdd, Nat.reduceLT, Nat.reduceBNe, Nat.reduceMul, ↓reduceIte, tis, fls, dx, plain, plainL]
   refine callB cO ?_
   simp -implicitDefEqProofs (disch := first | (intros; contradiction) | omega) only [am0, am1, am2, am3, am4, am5, am6, Nat.reduceSub, ↓reduceIte, reduceCtorEq, Nat.reduceEqDiff, Nat.reduceBEq, Nat.reduceAdd, Nat.reduceLT, Nat.reduceBNe, Nat.reduceMul, ↓reduceIte, tis, fls, dx, plain, plainL]
   refine callB cP ?_
   exact Zc (Z6 tis fls @dx @h0 @retW2 @LLmapnil)
  ·rw [if_pos (by omega), decide_eq_true (by omega)]
   refine fits_of_code [2, 3] [] [0, 1, 2, 3, 4, 7, 13] func57 rfl rfl rfl (by rfl) (by show 1 ≤ 16; decide) (by rfl) (by rfl) (by show 0 ≤ 1; decide) (by rfl) (run_of ?_)
   simp -implicitDefEqProofs (disch := first | (intros; contradiction) | omega) only [am0, am1, am2, am3, am4, am5, am6, Nat.reduceSub, ↓reduceIte, reduceCtorEq, Nat.reduceEqDiff, Nat.reduceBEq, Nat.reduceAdd, Nat.reduceLT, Nat.reduceBNe, Nat.reduceMul, ↓reduceIte, tis, fls, dx, plain, plainL]
   refine callB cO ?_
   simp -implicitDefEqProofs (disch := first | (intros; contradiction) | omega) only [am0, am1, am2, am3, am4, am5, am6, Nat.reduceSub, ↓reduceIte, reduceCtorEq, Nat.reduceEqDiff, Nat.reduceBEq, Nat.reduceAdd, Nat.reduceLT, Nat.reduceBNe, Nat.reduceMul, ↓reduceIte, tis, fls, dx, plain, plainL]
   refine callB cP ?_
   exact Zc (Z5 tis fls @dx @h0 @retW2)
def manyL (s out : List UInt8) (n : Nat) : List UInt8 := if n = 0 then out else manyL (s ++ s) (if n % 2 = 1 then out ++ s else out) (n / 2)
termination_by n
decreasing_by omega
theorem manyL_0 (s out : List UInt8) : manyL s out 0 = out := by rw [manyL, if_pos rfl]
theorem manyL_s (s out : List UInt8) {n : Nat} (h : 0 < n) : manyL s out n = manyL (s ++ s) (if n % 2 = 1 then out ++ s else out) (n / 2) := by rw [manyL, if_neg (by omega)]
theorem half_len (a o n : Nat) : (if n % 2 = 1 then o + a else o) + (a + a) * (n / 2) = o + a * n := by
 have h := Nat.div_add_mod n 2
 have h2 : n % 2 = 0 ∨ n % 2 = 1 := by omega
 have e : a * n = (a + a) * (n / 2) + a * (n % 2) := by
  conv => lhs; rw [← h, Nat.mul_add, ← Nat.mul_assoc, Nat.mul_two]
 rcases h2 with h2 | h2 <;> rw [h2] at e ⊢ <;> simp at e ⊢ <;> omega
theorem fits_l15Many (s : List UInt8) (n : Nat) (hn : s.length * n ≤ 1048576) (hs : s.length ≤ 1048576) (hn2 : n ≤ 1048576) : Fits prog 39 [.str s, .int .i64 n] (.str (manyL s [] n)) [] := by
 have c2 : ¬ ((2 : Int) = 0) := by omega
 refine fits_of_code [4] [] [0, 1, 4, 5, 7, 10] func39 rfl rfl rfl (by rfl) (by show 2 ≤ 20; decide) (by rfl) (by rfl) (by show 0 ≤ 2; decide) (by rfl) (run_of ?_)
 refine Zo (Z2 tis fls) ?_
 refine run_loop (α := List UInt8 × List UInt8 × Nat) (fun g => manyL g.1 g.2.1 g.2.2 = manyL s [] n ∧ g.2.1.length + g.1.length * g.2.2 ≤ 1048576 ∧ g.1.length ≤ 2097152 ∧ g.2.2 ≤ 1048576) (fun g => [(0, .str g.1), (1, .int .i64 g.2.2), (5, .str g.2.1)]) (fun g => g.2.2) (s, [], n) ⟨rfl, by simpa using hn, by simp only; omega, hn2⟩ ?_ ?_
 ·exact Zc (Z2 tis fls)
 ·rintro ⟨x, o, m⟩ ⟨h1, h2, h3, h4⟩
  simp only at h1 h2 h3 h4
  by_cases hm : 0 < m
  ·have hx : x.length ≤ 1048576 := by
    have : x.length * 1 ≤ x.length * m := Nat.mul_le_mul_left _ hm
    omega
   have e := half_len x.length o.length m
   have e1 : Int.tmod (m : Int) 2 = ((m % 2 : Nat) : Int) := tmod_nn m 2
   have e2 : Int.tdiv (m : Int) 2 = ((m / 2 : Nat) : Int) := tdiv_nn m 2
   have hs := manyL_s x o hm
   by_cases hp : m % 2 = 1
   ·rw [if_pos hp] at hs e
    rw [hp] at e1
    refine Zo (Z5 tis fls @e1 @e2 @c2) ?_
    refine round_normal (x ++ x, o ++ x, m / 2) ⟨by simp only; rw [← hs]; exact h1, by simp only [List.length_append]; omega, by simp only [List.length_append]; omega, by simp only; omega⟩ ?_ (by show m / 2 < m; omega)
    exact Zc (Z2 tis fls)
   ·rw [if_neg hp] at hs e
    have hp0 : m % 2 = 0 := by omega
    rw [hp0] at e1
    refine Zo (Z5 tis fls @e1 @e2 @c2) ?_
    refine round_normal (x ++ x, o, m / 2) ⟨by simp only; rw [← hs]; exact h1, by simp only [List.length_append]; omega, by simp only [List.length_append]; omega, by simp only; omega⟩ ?_ (by show m / 2 < m; omega)
    exact Zc (Z2 tis fls)
  ·obtain rfl : m = 0 := by omega
   rw [manyL_0] at h1
   exact Zc (Z3 tis fls @h1)
theorem manyL_len (n : Nat) : ∀ (s out : List UInt8), (manyL s out n).length = out.length + s.length * n := by
 induction n using Nat.strongRecOn with
 | ind n ih =>
  intro s out
  by_cases h : 0 < n
  ·rw [manyL_s s out h, ih (n / 2) (by omega)]
   have e := half_len s.length out.length n
   rw [List.length_append, ← e]
   congr 1
   split <;> simp
  ·obtain rfl : n = 0 := by omega
   rw [manyL_0]; simp
def w13 : List (List UInt8) := [[97], [98], [97], [98], [99], [120], [48], [97], [98], [97], [98], [255], [0]]
def wordL (b : List UInt8) (p : Nat) : Nat → List UInt8
 | 0 => []
 | j + 1 => wordL b p j ++ ofV b (p + j) w13
theorem w13_len (b : List UInt8) (p : Nat) : (ofV b p w13).length = 1 := by
 have h := ofV_mem b p (l := w13) (by decide)
 generalize ofV b p w13 = x at *
 simp only [w13, List.mem_cons, List.not_mem_nil, or_false] at h
 rcases h with rfl | rfl | rfl | rfl | rfl | rfl | rfl | rfl | rfl | rfl | rfl | rfl | rfl <;> rfl
theorem wordL_len (b : List UInt8) (p : Nat) : ∀ j, (wordL b p j).length = j
 | 0 => rfl
 | j + 1 => by simp [wordL, wordL_len b p j, w13_len]
def wordV (b : List UInt8) (p most : Nat) : List UInt8 := wordL b (p + 1) (pickV b p (most + 1))
def wordQ (b : List UInt8) (p most : Nat) : Nat := p + 1 + pickV b p (most + 1)
theorem wordV_len (b : List UInt8) (p most : Nat) : (wordV b p most).length ≤ most := by
 have := pickV_lt b p (n := most + 1) (by omega)
 unfold wordV; rw [wordL_len]; omega
theorem fits_l3Word (b : List UInt8) (hb : b.length ≤ 2000) (p : Nat) (hp : p ≤ 900000) (most : Nat) (hm : most ≤ 1000) : Fits prog 41 [.box (eRd b p), .int .i64 most] (.str (wordV b p most)) [.box (eRd b (wordQ b p most))] := by
 have c1 := fits_pick b hb p (by omega) (most + 1) (by omega) (by omega)
 have hk := pickV_lt b p (n := most + 1) (by omega)
 unfold wordV wordQ
 generalize pickV b p (most + 1) = m at *
 have cO := fun j (hj : j < m) => fits_of b hb (p + 1 + j) (by omega) w13 (by decide) (by decide)
 unfold eRd at *
 refine fits_of_code [4] [0] [0, 1, 4, 5, 6, 12] func41 rfl rfl rfl (by rfl) (by show 2 ≤ 21; decide) (by rfl) (by rfl) (by show 1 ≤ 2; decide) (by rfl) (run_of ?_)
 refine Zo (Z2 tis fls) ?_
 refine callM 0 c1 ?_
 refine Zo (Z3 tis fls @LLdrosin) ?_
 refine run_loop (α := Nat) (fun j => j ≤ m) (fun j => [(0, .box (.agg [.sl false 1 (bytesA b), .int .i64 (p + 1 + j : Nat)])), (5, .str (wordL b (p + 1) j)), (6, .int .i64 ((m : Int) - j))]) (fun j => m - j) 0 (Nat.zero_le _) ?_ ?_
 ·simp -implicitDefEqProofs (disch := first | (intros; contradiction) | omega) only [am0, am1, am2, am3, am4, am5, am6, Nat.reduceSub, ↓reduceIte, reduceCtorEq, Nat.reduceEqDiff, Nat.reduceBEq, Nat.reduceAdd, Nat.reduceLT, Nat.reduceBNe, Nat.reduceMul, ↓reduceIte, tis, fls, wordL]
 ·intro j hj'
  have hl := wordL_len b (p + 1) j
  by_cases hj : j < m
  ·have cO := cO j hj
   have hl2 := w13_len b (p + 1 + j)
   have hS : wordL b (p + 1) (j + 1) = wordL b (p + 1) j ++ ofV b (p + 1 + j) w13 := rfl
   generalize ofV b (p + 1 + j) w13 = x at *
   generalize wordL b (p + 1) j = y at *
   refine Zo (Z2 tis fls) ?_
   refine callMF [(17, [])] 0 cO ?_
   simp -implicitDefEqProofs (disch := first | (intros; contradiction) | omega) only [am0, am1, am2, am3, am4, am5, am6, Nat.reduceSub, ↓reduceIte, reduceCtorEq, Nat.reduceEqDiff, Nat.reduceBEq, Nat.reduceAdd, Nat.reduceLT, Nat.reduceBNe, Nat.reduceMul, ↓reduceIte, tis, fls, List.dropLast_singleton, w13, eStr]
   refine round_normal (j + 1) (by omega) ?_ (by show m - (j + 1) < m - j; omega)
   refine Zo (Z3 tis fls @hS) ?_
   try omega
  ·obtain rfl : j = m := by omega
   exact Zc (Z2 tis fls)
def op4 : List Int := [0, 5, 2, 3]
def a3L : List Int := [-1, 256, 9]
noncomputable def base0 (b : List UInt8) (p : Nat) : List Ins := if progOkB (anyV b p).1 = true then progL (anyV b p).1 else [⟨2, 0, 0, 0⟩, ⟨4, 0, 0, 0⟩]
def bentI (b : List UInt8) (P : List Ins) (q k c : Nat) : List Ins × Nat :=
 if c = 0 then (P.set k { (P.getD k default) with op := numV b q op4 }, q + 1)
 else if c = 1 then (P.set k { (P.getD k default) with to := numV b q [-1, (P.length : Int), 1] }, q + 1)
 else if c = 2 then (P.take k, q)
 else if c = 3 then (P.set k { (P.getD k default) with a := numV b q a3L }, q + 1)
 else if c = 4 then (if (P.getD k default).op = 3 then (P.set k { (P.getD k default) with b := numV b q [255, (P.getD k default).a] }, q + 1) else (P, q))
 else (P, q)
noncomputable def progV (b : List UInt8) (p : Nat) : List Ins × Nat :=
 bentI b (base0 b p) ((anyV b p).2 + 1 + 1) (pickV b (anyV b p).2 (base0 b p).length) (pickV b ((anyV b p).2 + 1) 50)
theorem base0_len (b : List UInt8) (p : Nat) : 1 ≤ (base0 b p).length ∧ (base0 b p).length ≤ 1500 := by
 unfold base0
 split
 ·rename_i h
  unfold progOkB at h
  simp only [Bool.and_eq_true, decide_eq_true_eq] at h
  have hk := dok_of (anyV_small b p) h.1
  have e : progL (anyV b p).1 = outN (anyV b p).1 (labI (anyV b p).1) (anyV b p).1.rows.length := by
   unfold progL; rw [if_pos h.1, if_pos h.2]
  rw [e]
  rw [outN_len (anyV b p).1 id (labI (anyV b p).1)] at h
  refine ⟨?_, h.2⟩
  have hr : 1 ≤ (anyV b p).1.rows.length := by
   have h1 := h.1
   unfold dfaB at h1
   simp only [Bool.and_eq_true, decide_eq_true_eq] at h1
   exact h1.2.1.1
  obtain ⟨s, hs⟩ : ∃ s, (anyV b p).1.rows.length = s + 1 := ⟨(anyV b p).1.rows.length - 1, by omega⟩
  rw [hs]
  show 1 ≤ (outN (anyV b p).1 (labI (anyV b p).1) s ++ stL (anyV b p).1 (labI (anyV b p).1) s).length
  have : 1 ≤ (stL (anyV b p).1 (labI (anyV b p).1) s).length := by
   unfold stL
   simp only [List.length_append, List.length_cons, List.length_nil]; omega
  rw [List.length_append]; omega
 ·simp
theorem bentI_le (b : List UInt8) (P : List Ins) (q k c : Nat) : (bentI b P q k c).1.length ≤ P.length ∧ (bentI b P q k c).2 ≤ q + 1 := by
 unfold bentI
 repeat' split
 all_goals (simp; try omega)
theorem progV_le (b : List UInt8) (p : Nat) : (progV b p).1.length ≤ 1500 ∧ (progV b p).2 ≤ p + 1500 := by
 have h1 := base0_len b p
 have h2 := anyV_le b p
 have h3 := bentI_le b (base0 b p) ((anyV b p).2 + 1 + 1) (pickV b (anyV b p).2 (base0 b p).length) (pickV b ((anyV b p).2 + 1) 50)
 unfold progV
 omega
theorem ins_at {P : List Ins} {k : Nat} (h : k < P.length) : (P.map eIns)[k]? = some (.agg [.int .i64 (P.getD k default).op, .int .i64 (P.getD k default).a, .int .i64 (P.getD k default).b, .int .i64 (P.getD k default).to]) := by
 simp [h, eIns, List.getD]
theorem fits_insF {P : Program} {f : FuncId} {args outs : List AV} {l : List Ins} (h : Fits P f args (.sl true 4 (l.map eIns)) outs) : Fits P f args (.sl false 4 (l.map eIns)) outs := fits_as2 h (by simp only [erase, fls])
theorem fits_l10Prog (b : List UInt8) (hb : b.length ≤ 2000) (p : Nat) (hp : p ≤ 400000) : Fits prog 43 [.box (eRd b p)] (.sl false 4 ((progV b p).1.map eIns)) [.box (eRd b (progV b p).2)] := by
 have cA := fits_l7Any b hb p (by omega)
 have cP := fits_sProgOf (anyV b p).1 (anyV_small b p)
 have hle := anyV_le b p
 have hlen := base0_len b p
 have hB : base0 b p = if progOkB (anyV b p).1 = true then progL (anyV b p).1 else [⟨2, 0, 0, 0⟩, ⟨4, 0, 0, 0⟩] := rfl
 unfold progV
 generalize base0 b p = B at *
 generalize progL (anyV b p).1 = L at *
 generalize progOkB (anyV b p).1 = o at *
 generalize anyV b p = z at *
 obtain ⟨d, q⟩ := z
 simp only at *
 have c1 := fits_pick b hb q (by omega) B.length (by omega) (by omega)
 have hk := pickV_lt b q (n := B.length) (by omega)
 generalize pickV b q B.length = k at *
 have c2 : Fits prog 38 [.box (eRd b (q + 1)), .int .i64 50] (.int .i64 (pickV b (q + 1) 50)) [.box (eRd b (q + 1 + 1))] := fits_pick b hb (q + 1) (by omega) 50 (by omega) (by omega)
 generalize pickV b (q + 1) 50 = c at *
 have gk := ins_at hk
 generalize hS : q + 1 + 1 = r at *
 have n0 := fits_num b hb r (by omega) op4 (by decide) (by decide)
 have n1 := fits_num b hb r (by omega) [-1, (B.length : Int), 1] (by simp) (by simp)
 have n3 := fits_num b hb r (by omega) a3L (by decide) (by decide)
 have n4 := fits_num b hb r (by omega) [255, (B.getD k default).a] (by simp) (by simp)
 have hbent : bentI b B r k c = if c = 0 then (B.set k { (B.getD k default) with op := numV b r op4 }, r + 1)
 else if c = 1 then (B.set k { (B.getD k default) with to := numV b r [-1, (B.length : Int), 1] }, r + 1)
 else if c = 2 then (B.take k, r)
 else if c = 3 then (B.set k { (B.getD k default) with a := numV b r a3L }, r + 1)
 else if c = 4 then (if (B.getD k default).op = 3 then (B.set k { (B.getD k default) with b := numV b r [255, (B.getD k default).a] }, r + 1) else (B, r))
 else (B, r) := rfl
 rw [hbent]
 clear hbent
 generalize numV b r op4 = v0 at *
 generalize numV b r [-1, (B.length : Int), 1] = v1 at *
 generalize numV b r a3L = v3 at *
 generalize numV b r [255, (B.getD k default).a] = v4 at *
 have e0 : op4.map eInt = [.int .i64 0, .int .i64 5, .int .i64 2, .int .i64 3] := rfl
 have e3 : a3L.map eInt = [.int .i64 (-1), .int .i64 256, .int .i64 9] := rfl
 rw [e0] at n0
 rw [e3] at n3
 have eS : ∀ x, (B.set k x).map eIns = (B.map eIns).set k (eIns x) := fun x => by simp
 have eT : (B.take k).map eIns = (B.map eIns).take k := by simp
 generalize B.getD k default = x at *
 have hlB : (B.map eIns).length = B.length := by simp
 unfold eRd eDfa at *
 have eL : o = false → [AV.agg [.int .i64 2, .int .i64 0, .int .i64 0, .int .i64 0], .agg [.int .i64 4, .int .i64 0, .int .i64 0, .int .i64 0]] = B.map eIns := fun h => by rw [hB, if_neg (by rw [h]; decide)]; rfl
 have gl : 1 ≤ B.length ∧ B.length ≤ 1500 := hlen
 have tk : k ≤ B.length := Nat.le_of_lt hk
 by_cases hc2 : c = 2
 ·subst hc2
  rw [if_neg (by decide), if_neg (by decide), if_pos rfl]
  simp only [eT]
  cases o
  ·have eL := eL rfl
   clear hB
   refine fits_of_code [2] [0] [0, 2, 3, 4, 5, 13, 22, 23, 32, 43, 48, 57, 64] func43 rfl rfl rfl (by rfl) (by show 1 ≤ 78; decide) (by rfl) (by rfl) (by show 1 ≤ 1; decide) (by rfl) (run_of ?_)
   (first | refine Zo (Z3 tis fls @dx) ?_ | exact Zc (Z3 tis fls @dx))
   refine callM 0 cA ?_
   (first | refine Zo (Z4 tis fls @dx @LLdrosin) ?_ | exact Zc (Z4 tis fls @dx @LLdrosin))
   refine callB cP ?_
   (first | refine Zo (Z7 tis fls @dx @LLdrosin @ex_eq @exGo_tup @eL) ?_ | exact Zc (Z7 tis fls @dx @LLdrosin @ex_eq @exGo_tup @eL))
   refine callM 0 c1 ?_
   (first | refine Zo (Z4 tis fls @dx @LLdrosin) ?_ | exact Zc (Z4 tis fls @dx @LLdrosin))
   refine callMF [(3, [])] 0 c2 ?_
   (first | refine Zo (Z4 tis fls @dx @LLdrosin) ?_ | exact Zc (Z4 tis fls @dx @LLdrosin))
  ·rw [if_pos rfl] at hB
   clear eL
   subst hB
   refine fits_of_code [2] [0] [0, 2, 3, 4, 5, 13, 22, 23, 32, 43, 48, 57, 64] func43 rfl rfl rfl (by rfl) (by show 1 ≤ 78; decide) (by rfl) (by rfl) (by show 1 ≤ 1; decide) (by rfl) (run_of ?_)
   (first | refine Zo (Z3 tis fls @dx) ?_ | exact Zc (Z3 tis fls @dx))
   refine callM 0 cA ?_
   (first | refine Zo (Z4 tis fls @dx @LLdrosin) ?_ | exact Zc (Z4 tis fls @dx @LLdrosin))
   refine callB cP ?_
   (first | refine Zo (Z6 tis fls @dx @LLdrosin @ex_eq @exGo_tup) ?_ | exact Zc (Z6 tis fls @dx @LLdrosin @ex_eq @exGo_tup))
   refine callM 0 c1 ?_
   (first | refine Zo (Z4 tis fls @dx @LLdrosin) ?_ | exact Zc (Z4 tis fls @dx @LLdrosin))
   refine callMF [(3, [])] 0 c2 ?_
   (first | refine Zo (Z4 tis fls @dx @LLdrosin) ?_ | exact Zc (Z4 tis fls @dx @LLdrosin))
 refine fits_insF ?_
 cases o
 ·have eL := eL rfl
  clear hB
  refine fits_of_code [2] [0] [0, 2, 3, 4, 5, 13, 22, 23, 32, 43, 48, 57, 64] func43 rfl rfl rfl (by rfl) (by show 1 ≤ 78; decide) (by rfl) (by rfl) (by show 1 ≤ 1; decide) (by rfl) (run_of ?_)
  (first | refine Zo (Z3 tis fls @dx) ?_ | exact Zc (Z3 tis fls @dx))
  refine callM 0 cA ?_
  (first | refine Zo (Z4 tis fls @dx @LLdrosin) ?_ | exact Zc (Z4 tis fls @dx @LLdrosin))
  refine callB cP ?_
  (first | refine Zo (Z7 tis fls @dx @LLdrosin @ex_eq @exGo_tup @eL) ?_ | exact Zc (Z7 tis fls @dx @LLdrosin @ex_eq @exGo_tup @eL))
  refine callM 0 c1 ?_
  (first | refine Zo (Z4 tis fls @dx @LLdrosin) ?_ | exact Zc (Z4 tis fls @dx @LLdrosin))
  refine callM 0 c2 ?_
  by_cases k0 : c = 0
  ·subst k0
   rw [if_pos rfl]
   simp only [eS, eIns]
   (first | refine Zo (Z4 tis fls @dx @LLdrosin) ?_ | exact Zc (Z4 tis fls @dx @LLdrosin))
   refine callMF [(28, [])] 0 n0 ?_
   (first | refine Zo (Z6 tis fls @dx @LLdrosin @gk @hlB) ?_ | exact Zc (Z6 tis fls @dx @LLdrosin @gk @hlB))
   done
  rw [if_neg k0]
  have k0 : ¬ (c : Int) = 0 := by omega
  by_cases k1 : c = 1
  ·subst k1
   rw [if_pos rfl]
   simp only [eS, eIns]
   simp only [List.map_cons, List.map_nil, eInt] at n1
   (first | refine Zo (Z5 tis fls @dx @LLdrosin @k0) ?_ | exact Zc (Z5 tis fls @dx @LLdrosin @k0))
   refine callMF [(39, [])] 0 n1 ?_
   (first | refine Zo (Z6 tis fls @dx @LLdrosin @gk @hlB) ?_ | exact Zc (Z6 tis fls @dx @LLdrosin @gk @hlB))
   done
  rw [if_neg k1]
  have k1 : ¬ (c : Int) = 1 := by omega
  rw [if_neg hc2]
  have k2 : ¬ (c : Int) = 2 := by omega
  by_cases k3 : c = 3
  ·subst k3
   rw [if_pos rfl]
   simp only [eS, eIns]
   (first | refine Zo (Z7 tis fls @dx @LLdrosin @k0 @k1 @k2) ?_ | exact Zc (Z7 tis fls @dx @LLdrosin @k0 @k1 @k2))
   refine callMF [(53, [])] 0 n3 ?_
   (first | refine Zo (Z6 tis fls @dx @LLdrosin @gk @hlB) ?_ | exact Zc (Z6 tis fls @dx @LLdrosin @gk @hlB))
   done
  rw [if_neg k3]
  have k3 : ¬ (c : Int) = 3 := by omega
  by_cases k4 : c = 4
  ·subst k4
   rw [if_pos rfl]
   by_cases x3 : x.op = 3
   ·rw [if_pos x3]
    simp only [eS, eIns]
    simp only [List.map_cons, List.map_nil, eInt] at n4
    (first | refine Zo (Z11 tis fls @dx @LLdrosin @k0 @k1 @k2 @k3 @gk @hlB @x3) ?_ | exact Zc (Z11 tis fls @dx @LLdrosin @k0 @k1 @k2 @k3 @gk @hlB @x3))
    refine callMF [(73, [])] 0 n4 ?_
    (first | refine Zo (Z6 tis fls @dx @LLdrosin @gk @hlB) ?_ | exact Zc (Z6 tis fls @dx @LLdrosin @gk @hlB))
    rw [x3]
   ·rw [if_neg x3]
    (first | refine Zo (Z11 tis fls @dx @LLdrosin @k0 @k1 @k2 @k3 @gk @hlB @x3) ?_ | exact Zc (Z11 tis fls @dx @LLdrosin @k0 @k1 @k2 @k3 @gk @hlB @x3))
    done
  rw [if_neg k4]
  have k4 : ¬ (c : Int) = 4 := by omega
  (first | refine Zo (Z9 tis fls @dx @LLdrosin @k0 @k1 @k2 @k3 @k4) ?_ | exact Zc (Z9 tis fls @dx @LLdrosin @k0 @k1 @k2 @k3 @k4))
 ·rw [if_pos rfl] at hB
  clear eL
  subst hB
  refine fits_of_code [2] [0] [0, 2, 3, 4, 5, 13, 22, 23, 32, 43, 48, 57, 64] func43 rfl rfl rfl (by rfl) (by show 1 ≤ 78; decide) (by rfl) (by rfl) (by show 1 ≤ 1; decide) (by rfl) (run_of ?_)
  (first | refine Zo (Z3 tis fls @dx) ?_ | exact Zc (Z3 tis fls @dx))
  refine callM 0 cA ?_
  (first | refine Zo (Z4 tis fls @dx @LLdrosin) ?_ | exact Zc (Z4 tis fls @dx @LLdrosin))
  refine callB cP ?_
  (first | refine Zo (Z6 tis fls @dx @LLdrosin @ex_eq @exGo_tup) ?_ | exact Zc (Z6 tis fls @dx @LLdrosin @ex_eq @exGo_tup))
  refine callM 0 c1 ?_
  (first | refine Zo (Z4 tis fls @dx @LLdrosin) ?_ | exact Zc (Z4 tis fls @dx @LLdrosin))
  refine callM 0 c2 ?_
  by_cases k0 : c = 0
  ·subst k0
   rw [if_pos rfl]
   simp only [eS, eIns]
   (first | refine Zo (Z4 tis fls @dx @LLdrosin) ?_ | exact Zc (Z4 tis fls @dx @LLdrosin))
   refine callMF [(28, [])] 0 n0 ?_
   (first | refine Zo (Z6 tis fls @dx @LLdrosin @gk @hlB) ?_ | exact Zc (Z6 tis fls @dx @LLdrosin @gk @hlB))
   done
  rw [if_neg k0]
  have k0 : ¬ (c : Int) = 0 := by omega
  by_cases k1 : c = 1
  ·subst k1
   rw [if_pos rfl]
   simp only [eS, eIns]
   simp only [List.map_cons, List.map_nil, eInt] at n1
   (first | refine Zo (Z5 tis fls @dx @LLdrosin @k0) ?_ | exact Zc (Z5 tis fls @dx @LLdrosin @k0))
   refine callMF [(39, [])] 0 n1 ?_
   (first | refine Zo (Z6 tis fls @dx @LLdrosin @gk @hlB) ?_ | exact Zc (Z6 tis fls @dx @LLdrosin @gk @hlB))
   done
  rw [if_neg k1]
  have k1 : ¬ (c : Int) = 1 := by omega
  rw [if_neg hc2]
  have k2 : ¬ (c : Int) = 2 := by omega
  by_cases k3 : c = 3
  ·subst k3
   rw [if_pos rfl]
   simp only [eS, eIns]
   (first | refine Zo (Z7 tis fls @dx @LLdrosin @k0 @k1 @k2) ?_ | exact Zc (Z7 tis fls @dx @LLdrosin @k0 @k1 @k2))
   refine callMF [(53, [])] 0 n3 ?_
   (first | refine Zo (Z6 tis fls @dx @LLdrosin @gk @hlB) ?_ | exact Zc (Z6 tis fls @dx @LLdrosin @gk @hlB))
   done
  rw [if_neg k3]
  have k3 : ¬ (c : Int) = 3 := by omega
  by_cases k4 : c = 4
  ·subst k4
   rw [if_pos rfl]
   by_cases x3 : x.op = 3
   ·rw [if_pos x3]
    simp only [eS, eIns]
    simp only [List.map_cons, List.map_nil, eInt] at n4
    (first | refine Zo (Z11 tis fls @dx @LLdrosin @k0 @k1 @k2 @k3 @gk @hlB @x3) ?_ | exact Zc (Z11 tis fls @dx @LLdrosin @k0 @k1 @k2 @k3 @gk @hlB @x3))
    refine callMF [(73, [])] 0 n4 ?_
    (first | refine Zo (Z6 tis fls @dx @LLdrosin @gk @hlB) ?_ | exact Zc (Z6 tis fls @dx @LLdrosin @gk @hlB))
    rw [x3]
   ·rw [if_neg x3]
    (first | refine Zo (Z11 tis fls @dx @LLdrosin @k0 @k1 @k2 @k3 @gk @hlB @x3) ?_ | exact Zc (Z11 tis fls @dx @LLdrosin @k0 @k1 @k2 @k3 @gk @hlB @x3))
    done
  rw [if_neg k4]
  have k4 : ¬ (c : Int) = 4 := by omega
  (first | refine Zo (Z9 tis fls @dx @LLdrosin @k0 @k1 @k2 @k3 @k4) ?_ | exact Zc (Z9 tis fls @dx @LLdrosin @k0 @k1 @k2 @k3 @k4))

def pcs (b : List UInt8) : Nat → Nat → List UInt8 → List (List UInt8) × Nat
 | 0, p, t => (if 0 < t.length then [t] else [], p)
 | n + 1, p, t => if t.length = 0 then ([], p) else (t.take (pickV b p (min 4 (t.length + 1))) :: (pcs b n (p + 1) (t.drop (pickV b p (min 4 (t.length + 1))))).1, (pcs b n (p + 1) (t.drop (pickV b p (min 4 (t.length + 1))))).2)
theorem pcs_len (b : List UInt8) : ∀ n p t, (pcs b n p t).1.length ≤ n + 1 ∧ (pcs b n p t).2 ≤ p + n ∧ ∀ c ∈ (pcs b n p t).1, c.length ≤ t.length
 | 0, p, t => by
  unfold pcs
  split <;> simp
 | n + 1, p, t => by
  unfold pcs
  split
  ·simp
  ·obtain ⟨a, b1, c⟩ := pcs_len b n (p + 1) (t.drop (pickV b p (min 4 (t.length + 1))))
   refine ⟨by simp only [List.length_cons]; omega, by simp only; omega, fun x hx => ?_⟩
   rcases List.mem_cons.1 hx with rfl | hx
   ·rw [List.length_take]; omega
   ·have := c x hx
    rw [List.length_drop] at this; omega
theorem fits_l11Pieces (b : List UInt8) (hb : b.length ≤ 2000) (p : Nat) (hp : p ≤ 900000) (t : List UInt8) (ht : t.length ≤ 100000) : Fits prog 44 [.box (eRd b p), .str t] (.sl true 1 ((pcs b 12 p t).1.map eStr)) [.box (eRd b (pcs b 12 p t).2)] := by
 generalize hR : pcs b 12 p t = R at *
 unfold eRd
 refine fits_of_code [4] [0] [0, 1, 4, 5, 6, 7, 15, 35] func44 rfl rfl rfl (by rfl) (by show 2 ≤ 41; decide) (by rfl) (by rfl) (by show 1 ≤ 2; decide) (by rfl) (run_of ?_)
 (first | refine Zo (Z2 tis fls) ?_ | exact Zc (Z2 tis fls))
 refine run_loop (α := Nat × Nat × List UInt8 × List (List UInt8)) (fun g => g.1 ≤ 12 ∧ g.2.1 + g.1 ≤ p + 12 ∧ g.2.2.1.length ≤ 100000 ∧ g.2.2.2.length + g.1 ≤ 12 ∧ R = (g.2.2.2 ++ (pcs b g.1 g.2.1 g.2.2.1).1, (pcs b g.1 g.2.1 g.2.2.1).2)) (fun g => [(0, .box (.agg [.sl false 1 (bytesA b), .int .i64 g.2.1])), (1, .str g.2.2.1), (5, .sl true 1 (g.2.2.2.map eStr)), (6, .int .i64 ((12 : Int) - g.1))]) (fun g => g.1) (12, p, t, []) ⟨by simp, by simp, by simpa using ht, by simp, by rw [← hR]; rfl⟩ ?_ ?_
 ·(first | refine Zo (Z2 tis @LLmapnil) ?_ | exact Zc (Z2 tis @LLmapnil))
  rfl
 ·rintro ⟨n, q, u, out⟩ ⟨i1, i2, i3, i4, i5⟩
  simp only at i1 i2 i3 i4 i5
  by_cases hu : u.length = 0
  ·have h1 : ¬ (0 : Int) < u.length := by omega
   have e : pcs b n q u = ([], q) := by
    cases n with
    | zero => unfold pcs; rw [if_neg (by omega)]
    | succ n => unfold pcs; rw [if_pos hu]
   rw [e, List.append_nil] at i5
   subst i5
   by_cases hn : ((12 : Int) - n) < 12
   ·(repeat (first | refine Zo (Z5 tis fls @h1 @hn Zi) ?_ | refine .inl ⟨by kernel_rfl, ?_⟩ | exact .inl (by show _ = _; kernel_rfl) | exact Zc (Z5 tis fls @h1 @hn Zi)))
   ·(repeat (first | refine Zo (Z5 tis fls @h1 @hn Zi) ?_ | refine .inl ⟨by kernel_rfl, ?_⟩ | exact .inl (by show _ = _; kernel_rfl) | exact Zc (Z5 tis fls @h1 @hn Zi)))
  ·have h1 : (0 : Int) < u.length := by omega
   cases n with
   | zero =>
    have e : pcs b 0 q u = ([u], q) := by unfold pcs; rw [if_pos (by omega)]
    rw [e] at i5
    subst i5
    have hn : ¬ ((12 : Int) - (0 : Nat)) < 12 := by omega
    (repeat (first | refine Zo (Z5 tis fls @h1 @hn Zi) ?_ | refine .inl ⟨by kernel_rfl, ?_⟩ | exact .inl (by show _ = _; kernel_rfl) | exact Zc (Z5 tis fls @h1 @hn Zi)))
    simp [eStr]
   | succ n =>
    have hn : ((12 : Int) - (n + 1 : Nat)) < 12 := by omega
    have hmin : (min 4 (u.length + 1) : Nat) = if (4 : Int) < (u.length : Int) + 1 then 4 else u.length + 1 := by split <;> omega
    have hk := pickV_lt b q (n := min 4 (u.length + 1)) (by omega)
    have cP := fits_pick b hb q (by omega) (min 4 (u.length + 1)) (by omega) (by omega)
    have cM := fits_l1Min 4 ((u.length : Int) + 1)
    have eM : (if (4 : Int) < (u.length : Int) + 1 then (4 : Int) else (u.length : Int) + 1) = ((min 4 (u.length + 1) : Nat) : Int) := by split <;> omega
    rw [eM] at cM
    have e : pcs b (n + 1) q u = (u.take (pickV b q (min 4 (u.length + 1))) :: (pcs b n (q + 1) (u.drop (pickV b q (min 4 (u.length + 1))))).1, (pcs b n (q + 1) (u.drop (pickV b q (min 4 (u.length + 1))))).2) := by
     rw [pcs, if_neg hu]
    rw [e] at i5
    generalize pickV b q (min 4 (u.length + 1)) = k at *
    generalize min 4 (u.length + 1) = mm at *
    unfold eRd at cP
    (first | refine Zo (Z4 tis fls @h1 @hn) ?_ | exact Zc (Z4 tis fls @h1 @hn))
    refine callB cM ?_
    (first | refine Zo (Z2 tis fls) ?_ | exact Zc (Z2 tis fls))
    refine callM 0 cP ?_
    (first | refine Zo (Z3 tis fls @LLdrosin) ?_ | exact Zc (Z3 tis fls @LLdrosin))
    refine round_normal (n, q + 1, u.drop k, out ++ [u.take k]) ⟨by simp only; omega, by simp only; omega, by simp only [List.length_drop]; omega, by simp only [List.length_append, List.length_singleton]; omega, by rw [i5]; simp⟩ ?_ (by show n < n + 1; omega)
    simp only [List.map_append, List.map_cons, List.map_nil, eStr]
    (first | refine Zo tis ?_ | exact Zc tis)
    omega
structure Feed where
 prog : List Ins
 buf : List UInt8
 base : Int
 pc : Int
 at_ : Int
 rule : Int
 to : Int
 out : List Token
 stuck : Bool
 deriving DecidableEq
def eFeed (o : Bool) (f : Feed) : AV := .agg [.sl o 4 (f.prog.map eIns), .str f.buf, .int .i64 f.base, .int .i64 f.pc, .int .i64 f.at_, .int .i64 f.rule, .int .i64 f.to, .sl o 3 (f.out.map eToken), .bool f.stuck]
def outEnd : List Token → Int → Option Int
 | [], e => some e
 | t :: r, e => if t.frm = e ∧ e < t.to ∧ 0 ≤ t.rule ∧ t.rule ≤ 4 then outEnd r t.to else none
def feedB (f : Feed) : Bool := progB f.prog && (decide (0 ≤ f.base ∧ f.base + f.buf.length ≤ 200) && (doorI f.prog f.pc && (decide (0 ≤ f.at_ ∧ f.at_ ≤ f.buf.length ∧ (f.at_ = 0 → f.pc = 0) ∧ 0 ≤ f.to ∧ f.to ≤ f.at_ ∧ -1 ≤ f.rule ∧ f.rule ≤ 4 ∧ (f.rule = -1 ↔ f.to = 0)) && outEnd f.out 0 == some f.base)))
theorem outEnd_app (a : List Token) (t : Token) (e : Int) : outEnd (a ++ [t]) e = (match outEnd a e with | some e' => outEnd [t] e' | none => none) := by
 induction a generalizing e with
 | nil => rfl
 | cons x a ih =>
  simp only [List.cons_append, outEnd]
  split
  ·exact ih _
  ·rfl
theorem outEnd_take {l : List Token} {i : Nat} {e e' : Int} (h : i < l.length) (h1 : outEnd (l.take i) e = some e') (h2 : l[i].frm = e' ∧ e' < l[i].to ∧ 0 ≤ l[i].rule ∧ l[i].rule ≤ 4) : outEnd (l.take (i + 1)) e = some l[i].to := by
 rw [List.take_succ_eq_append_getElem h, outEnd_app, h1]
 simp [outEnd, h2]
theorem outEnd_fail {l : List Token} {i : Nat} {e e' : Int} (h : i < l.length) (h1 : outEnd (l.take i) e = some e') (h2 : ¬ (l[i].frm = e' ∧ e' < l[i].to ∧ 0 ≤ l[i].rule ∧ l[i].rule ≤ 4)) : outEnd l e = none := by
 have : l = l.take i ++ l[i] :: l.drop (i + 1) := by rw [← List.drop_eq_getElem_cons h, List.take_append_drop]
 rw [this]
 generalize l.take i = a at h1
 generalize l[i] = x at h2
 induction a generalizing e with
 | nil =>
  simp only [outEnd, Option.some.injEq] at h1; subst h1
  simp only [List.nil_append, outEnd]
  rw [if_neg h2]
 | cons y a ih =>
  simp only [List.cons_append, outEnd] at h1 ⊢
  split
  ·rename_i hy; rw [if_pos hy] at h1; exact ih h1
  ·rfl
theorem progB_parts {p : List Ins} (h : progB p = true) : (1 ≤ p.length ∧ p.length ≤ 1500) ∧ doorB p 0 = true ∧ lastB p = true ∧ ∀ i, i < p.length → insB p i = true := by
 unfold progB at h
 simp only [Bool.and_eq_true, decide_eq_true_eq, List.all_eq_true, List.mem_range] at h
 exact ⟨h.1, h.2.1, h.2.2.1, h.2.2.2⟩
def goesP (p : List Ins) (b : Int) : Nat → Nat → Int
 | 0, _ => -1
 | n + 1, at_ => match p[at_]? with
  | some x => if x.op = 3 then (if x.a ≤ b ∧ b ≤ x.b then x.to else goesP p b n (at_ + 1)) else if doorB p at_ = true then at_ else -1
  | none => -1
def getP (f : Feed) : Nat := match f.prog[f.pc.toNat]? with | some x => if x.op = 1 then f.pc.toNat + 1 else f.pc.toNat | none => 0
def markF (f : Feed) : Feed := match f.prog[f.pc.toNat]? with | some x => if x.op = 1 ∧ 0 < f.at_ then { f with rule := x.a, to := f.at_ } else f | none => f
def cutF (f : Feed) : Feed := if f.rule = -1 then { f with stuck := true } else
 { f with out := f.out ++ [⟨f.rule, f.base, f.base + f.to⟩], base := f.base + f.to, buf := f.buf.drop f.to.toNat, pc := 0, at_ := 0, to := 0, rule := -1 }
def byteF (f : Feed) : Int := ((f.buf.getD f.at_.toNat 0).toNat : Int)
def toF (f : Feed) : Int := goesP f.prog (byteF f) f.prog.length (getP f + 1)
def stepF (f : Feed) : Feed := if toF f < 0 then cutF (markF f) else { markF f with at_ := f.at_ + 1, pc := toF f }
def runF : Nat → Feed → Feed
 | 0, f => f
 | n + 1, f => if f.stuck = true then f else if (f.buf.length : Int) ≤ f.at_ then markF f else runF n (stepF f)
structure FI (f : Feed) : Prop where
 prog : progB f.prog = true
 door : doorI f.prog f.pc = true
 at1 : 0 ≤ f.at_ ∧ f.at_ ≤ f.buf.length
 to1 : 0 ≤ f.to ∧ f.to ≤ f.at_
 rule : -1 ≤ f.rule ∧ f.rule ≤ 4
 rt : f.rule = -1 ↔ f.to = 0
 base : 0 ≤ f.base ∧ f.base + f.buf.length ≤ 200
 out : (f.out.length : Int) ≤ f.base
theorem doorI_at {p : List Ins} {i : Int} (h : doorI p i = true) : 0 ≤ i ∧ i < p.length ∧ doorB p i.toNat = true := by
 unfold doorI at h
 simp only [Bool.and_eq_true, decide_eq_true_eq] at h
 have := doorB_lt h.2
 exact ⟨h.1, by omega, h.2⟩
theorem last_stop {p : List Ins} (h : progB p = true) {i : Nat} (hi : i < p.length) (h3 : p[i].op ≠ 4) : i + 1 < p.length := by
 obtain ⟨h1, _, hl, _⟩ := progB_parts h
 rw [lastB_at (by omega)] at hl
 by_cases hh : i + 1 < p.length
 ·exact hh
 ·have : i = p.length - 1 := by omega
  subst this
  exact absurd (by simpa using hl) h3
theorem FI.pc {f : Feed} (h : FI f) : 0 ≤ f.pc ∧ f.pc < f.prog.length := by
 have := doorI_at h.door
 exact ⟨this.1, this.2.1⟩
theorem FI.get {f : Feed} (h : FI f) : ∃ hp : f.pc.toNat < f.prog.length, (f.prog[f.pc.toNat].op = 1 ∧ getP f = f.pc.toNat + 1 ∧ (∃ hq : f.pc.toNat + 1 < f.prog.length, f.prog[f.pc.toNat + 1].op = 2) ∧ 0 ≤ f.prog[f.pc.toNat].a ∧ f.prog[f.pc.toNat].a ≤ 4) ∨ (f.prog[f.pc.toNat].op = 2 ∧ getP f = f.pc.toNat) := by
 obtain ⟨h1, h2, h3⟩ := doorI_at h.door
 have hp : f.pc.toNat < f.prog.length := by omega
 refine ⟨hp, ?_⟩
 have hi := (progB_parts h.prog).2.2.2 _ hp
 rw [doorB_at hp] at h3
 rw [insB_at hp] at hi
 by_cases e1 : f.prog[f.pc.toNat].op = 1
 ·left
  simp only [e1, beq_self_eq_true, Bool.true_and, show ((1 : Int) == 2) = false from rfl, Bool.false_or, show ((1 : Int) == 4) = false from rfl, show ((1 : Int) == 3) = false from rfl, Bool.false_and, Bool.or_false, Bool.and_eq_true, decide_eq_true_eq] at h3 hi
  refine ⟨e1, ?_, ?_, hi.1.1, hi.1.2.1⟩
  ·unfold getP; rw [List.getElem?_eq_getElem hp]; simp [e1]
  ·split at h3
   ·rename_i y hy
    obtain ⟨hq, hy⟩ := List.getElem?_eq_some_iff.1 hy
    exact ⟨hq, by rw [hy]; simpa using h3⟩
   ·cases h3
 ·right
  have e2 : f.prog[f.pc.toNat].op = 2 := by
   have : (f.prog[f.pc.toNat].op == 1) = false := by simp [e1]
   rw [this] at h3
   simpa using h3
  refine ⟨e2, ?_⟩
  unfold getP; rw [List.getElem?_eq_getElem hp]; simp [e1]
theorem FI.get1 {f : Feed} (h : FI f) : getP f + 1 < f.prog.length := by
 obtain ⟨hp, h⟩ := h.get
 rename_i h0
 rcases h with ⟨_, e, ⟨hq, e2⟩, _⟩ | ⟨e2, e⟩
 ·rw [e]; exact last_stop h0.prog hq (by rw [e2]; decide)
 ·rw [e]; exact last_stop h0.prog hp (by rw [e2]; decide)
theorem goesP_at {p : List Ins} {b : Int} {n i : Nat} (hi : i < p.length) : goesP p b (n + 1) i = if p[i].op = 3 then (if p[i].a ≤ b ∧ b ≤ p[i].b then p[i].to else goesP p b n (i + 1)) else if doorB p i = true then (i : Int) else -1 := by
 rw [goesP, List.getElem?_eq_getElem hi]
theorem goesP_door {p : List Ins} (hp : progB p = true) {b : Int} : ∀ n i, i < p.length → goesP p b n i < 0 ∨ doorI p (goesP p b n i) = true
 | 0, i, hi => .inl (by rw [goesP]; decide)
 | n + 1, i, hi => by
  rw [goesP_at hi]
  have hin := (progB_parts hp).2.2.2 _ hi
  by_cases h3 : p[i].op = 3
  ·rw [if_pos h3]
   by_cases hb : p[i].a ≤ b ∧ b ≤ p[i].b
   ·rw [if_pos hb]
    right
    rw [insB_at hi] at hin
    simp only [h3, show ((3 : Int) == 1) = false from rfl, show ((3 : Int) == 2) = false from rfl, show ((3 : Int) == 4) = false from rfl, beq_self_eq_true, Bool.false_and, Bool.or_false, Bool.false_or, Bool.true_and, Bool.and_eq_true] at hin
    exact hin.2
   ·rw [if_neg hb]
    exact goesP_door hp n (i + 1) (last_stop hp hi (by rw [h3]; decide))
  ·rw [if_neg h3]
   by_cases hd : doorB p i = true
   ·rw [if_pos hd]
    right
    unfold doorI
    simp [hd]
   ·rw [if_neg hd]; exact .inl (by decide)
theorem markF_same (f : Feed) : (markF f).prog = f.prog ∧ (markF f).buf = f.buf ∧ (markF f).base = f.base ∧ (markF f).pc = f.pc ∧ (markF f).at_ = f.at_ ∧ (markF f).out = f.out ∧ (markF f).stuck = f.stuck := by
 unfold markF; split
 ·split <;> simp
 ·simp
theorem FI.mark {f : Feed} (h : FI f) : FI (markF f) := by
 obtain ⟨hp, hg⟩ := h.get
 unfold markF
 rw [List.getElem?_eq_getElem hp]
 simp only
 by_cases hc : f.prog[f.pc.toNat].op = 1 ∧ 0 < f.at_
 ·rw [if_pos hc]
  rcases hg with ⟨_, _, _, a1, a2⟩ | ⟨e2, _⟩
  ·exact ⟨h.prog, h.door, h.at1, ⟨by simp only; omega, by simp only; omega⟩, ⟨by simp only; omega, a2⟩, by simp only; constructor <;> intro <;> omega, h.base, h.out⟩
  ·rw [hc.1] at e2; exact absurd e2 (by decide)
 ·rw [if_neg hc]; exact h
theorem doorI_0 {p : List Ins} (h : progB p = true) : doorI p 0 = true := by
 have := (progB_parts h).2.1
 unfold doorI; simpa using this
theorem FI.cut {f : Feed} (h : FI f) : FI (cutF f) := by
 unfold cutF
 split
 ·exact ⟨h.prog, h.door, h.at1, h.to1, h.rule, h.rt, h.base, h.out⟩
 ·rename_i hr
  have ht : f.to ≠ 0 := fun e => hr (h.rt.2 e)
  have h1 := h.to1
  have h2 := h.at1
  have h3 := h.base
  have h4 := h.out
  refine ⟨h.prog, doorI_0 h.prog, ⟨by simp only; omega, by simp only; omega⟩, ⟨by simp only; omega, by simp only; omega⟩, ⟨by simp only; omega, by simp only; omega⟩, by simp, ⟨by simp only; omega, by simp only [List.length_drop]; omega⟩, by simp only [List.length_append, List.length_singleton]; omega⟩
theorem FI.step {f : Feed} (h : FI f) (hl : f.at_ < f.buf.length) : FI (stepF f) := by
 have hm := h.mark
 have hs := markF_same f
 unfold stepF
 split
 ·exact hm.cut
 ·rename_i ht
  have hd : doorI f.prog (toF f) = true := (goesP_door h.prog _ _ h.get1).resolve_left ht
  have h1 := hm.to1
  have h2 := h.at1
  rw [hs.2.2.2.2.1] at h1
  exact ⟨hm.prog, by simp only; rw [hs.1]; exact hd, ⟨by simp only; omega, by simp only; rw [hs.2.1]; omega⟩, ⟨by simp only; omega, by simp only; omega⟩, hm.rule, hm.rt, hm.base, hm.out⟩
def muF (f : Feed) : Nat := if f.stuck = true then 0 else f.buf.length * 300 + (f.buf.length - f.at_.toNat) + 1
theorem muF_step {f : Feed} (h : FI f) (hst : f.stuck = false) (hl : f.at_ < f.buf.length) : muF (stepF f) < muF f := by
 have hm := h.mark
 have hs := markF_same f
 have h2 := h.at1
 have h3 := h.base
 have e0 : muF f = f.buf.length * 300 + (f.buf.length - f.at_.toNat) + 1 := by unfold muF; rw [hst]; simp
 rw [e0]
 unfold stepF
 split
 ·unfold cutF
  split
  ·unfold muF; simp
  ·rename_i hr
   have ht : (markF f).to ≠ 0 := fun e => hr (hm.rt.2 e)
   have h1 := hm.to1
   unfold muF
   simp only [hs.2.2.2.2.2.2, hst, Bool.false_eq_true, if_false, List.length_drop, hs.2.1]
   rw [hs.2.2.2.2.1] at h1
   have : (markF f).to.toNat ≤ f.buf.length := by omega
   have : 1 ≤ (markF f).to.toNat := by omega
   have : f.buf.length ≤ 200 := by omega
   simp only [Int.toNat_zero]
   omega
 ·unfold muF
  simp only [hs.2.2.2.2.2.2, hst, Bool.false_eq_true, if_false, hs.2.1]
  omega
theorem runF_more {f : Feed} : ∀ n m, FI f → muF f ≤ n → n ≤ m → runF n f = runF m f := by
 intro n
 induction n generalizing f with
 | zero =>
  intro m h hn hm
  have hst : f.stuck = true := by
   cases hs : f.stuck with
   | true => rfl
   | false => unfold muF at hn; rw [hs] at hn; simp at hn
  cases m <;> simp [runF, hst]
 | succ n ih =>
  intro m h hn hm
  obtain ⟨m, rfl⟩ : ∃ k, m = k + 1 := ⟨m - 1, by omega⟩
  cases hs : f.stuck with
  | true => simp [runF, hs]
  | false =>
   by_cases hl : (f.buf.length : Int) ≤ f.at_
   ·simp [runF, hs, hl]
   ·simp only [runF, hs, Bool.false_eq_true, if_false, if_neg hl]
    have := muF_step h hs (by omega)
    exact ih m (h.step (by omega)) (by omega) (by omega)
def goF (f : Feed) : Feed := runF (muF f) f
theorem goF_stuck {f : Feed} (h : f.stuck = true) : goF f = f := by
 unfold goF; cases muF f <;> simp [runF, h]
theorem goF_end {f : Feed} (h : f.stuck = false) (hl : (f.buf.length : Int) ≤ f.at_) : goF f = markF f := by
 unfold goF
 have : muF f = f.buf.length * 300 + (f.buf.length - f.at_.toNat) + 1 := by unfold muF; rw [h]; simp
 rw [this]; simp [runF, h, hl]
theorem goF_step {f : Feed} (hf : FI f) (h : f.stuck = false) (hl : f.at_ < f.buf.length) : goF f = goF (stepF f) := by
 have hm := muF_step hf h hl
 unfold goF
 obtain ⟨n, hn⟩ : ∃ k, muF f = k + 1 := ⟨muF f - 1, by omega⟩
 rw [hn]
 simp only [runF, h, Bool.false_eq_true, if_false]
 rw [if_neg (by omega)]
 exact (runF_more _ _ (hf.step hl) (Nat.le_refl _) (by omega)).symm
theorem goF_FI {f : Feed} (hf : FI f) : FI (goF f) := by
 unfold goF
 generalize muF f = n
 induction n generalizing f with
 | zero => exact hf
 | succ n ih =>
  unfold runF
  split
  ·exact hf
  ·split
   ·exact hf.mark
   ·exact ih (hf.step (by omega))
theorem fits_goes (f : Feed) (hp : progB f.prog = true) (i0 : Nat) (h0 : i0 + 1 < f.prog.length) (b : Int) : Fits prog 51 [.dptr (eFeed false f), .int .i64 i0, .int .i64 b] (.int .i64 (goesP f.prog b f.prog.length (i0 + 1))) [] := by
 have hl := (progB_parts hp).1
 unfold eFeed
 refine fits_of_code [6] [] [0, 1, 2, 6, 7, 18, 36, 52] func51 rfl rfl rfl (by rfl) (by show 3 ≤ 54; decide) (by rfl) (by rfl) (by show 0 ≤ 3; decide) (by rfl) (run_of ?_)
 refine Zo (Z2 tis fls) ?_
 refine run_loop (α := Nat × Nat) (fun g => goesP f.prog b f.prog.length (i0 + 1) = goesP f.prog b g.1 g.2 ∧ g.2 < f.prog.length ∧ f.prog.length ≤ g.1 + g.2) (fun g => [(0, .dptr (.agg [.sl false 4 (f.prog.map eIns), .str f.buf, .int .i64 f.base, .int .i64 f.pc, .int .i64 f.at_, .int .i64 f.rule, .int .i64 f.to, .sl false 3 (f.out.map eToken), .bool f.stuck])), (2, .int .i64 b), (7, .int .i64 g.2)]) (fun g => f.prog.length - g.2) (f.prog.length, i0 + 1) ⟨rfl, h0, by simp only; omega⟩ ?_ ?_
 ·exact Zc tis
 ·rintro ⟨m, i⟩ ⟨h1, h2, h3⟩
  simp only at h1 h2 h3
  obtain ⟨m, rfl⟩ : ∃ k, m = k + 1 := ⟨m - 1, by omega⟩
  rw [goesP_at h2] at h1
  by_cases h5 : f.prog[i].op = 3
  ·rw [if_pos h5] at h1
   have hn := last_stop hp h2 (by rw [h5]; decide)
   refine Zo (Z4 tis fls eIns.eq_1 @h5) ?_
   refine .inl ⟨by kernel_rfl, ?_⟩
   refine callL (fits_in b f.prog[i].a f.prog[i].b) ?_
   by_cases h6 : f.prog[i].a ≤ b ∧ b ≤ f.prog[i].b
   ·rw [if_pos h6] at h1
    exact Zc (Z6 tis fls eIns.eq_1 @h5 @h6 @h1)
   ·rw [if_neg h6] at h1
    refine Zo (Z5 tis fls eIns.eq_1 @h5 @h6) ?_
    refine round_normal (m, i + 1) ⟨h1, hn, by simp only; omega⟩ ?_ (by show f.prog.length - (i + 1) < f.prog.length - i; omega)
    exact Zc tis
  ·rw [if_neg h5] at h1
   have cD := fits_door f.prog i (by omega)
   rw [doorI_nat] at cD
   refine Zo (Z4 tis fls eIns.eq_1 @h5) ?_
   refine callB cD ?_
   cases hd : doorB f.prog i with
   | true =>
    rw [if_pos hd] at h1
    exact Zc (Z3 tis fls @h1)
   | false =>
    rw [if_neg (by simp [hd])] at h1
    exact Zc (Z3 tis fls @h1)
theorem fits_cuts (f : Feed) (h : FI f) : Fits prog 26 [.box (eFeed true f)] (.tup []) [.box (eFeed true (cutF f))] := by
 have hb := h.base
 have ho := h.out
 have h1 := h.to1
 have h2 := h.at1
 unfold eFeed
 by_cases hr : f.rule = -1
 ·have e : cutF f = { f with stuck := true } := if_pos hr
  rw [e]
  refine fits_of_code [] [0] [0, 6] func26 rfl rfl rfl (by rfl) (by show 1 ≤ 72; decide) (by rfl) (by rfl) (by show 1 ≤ 1; decide) (by rfl) (run_of ?_)
  exact Zc (Z3 tis fls @hr)
 ·have e : cutF f = { f with out := f.out ++ [⟨f.rule, f.base, f.base + f.to⟩], base := f.base + f.to, buf := f.buf.drop f.to.toNat, pc := 0, at_ := 0, to := 0, rule := -1 } := if_neg hr
  rw [e]
  refine fits_of_code [] [0] [0, 6] func26 rfl rfl rfl (by rfl) (by show 1 ≤ 72; decide) (by rfl) (by rfl) (by show 1 ≤ 1; decide) (by rfl) (run_of ?_)
  refine Zo (Z3 tis fls @hr) ?_
  refine .inr (run_late 24 [[0], []] (by kernel_rfl) ?_)
  refine Zo (Z4 tis fls @hr @LLtaklen) ?_
  refine .inl ⟨by kernel_rfl, ?_⟩
  refine .inl ⟨by kernel_rfl, ?_⟩
  simp [eToken]
theorem markF_1 {f : Feed} {x : Ins} (hx : f.prog[f.pc.toNat]? = some x) (h : x.op = 1) (h0 : 0 < f.at_) : markF f = { f with rule := x.a, to := f.at_ } := by unfold markF; rw [hx]; simp [h, h0]
theorem markF_2 {f : Feed} {x : Ins} (hx : f.prog[f.pc.toNat]? = some x) (h : ¬ (x.op = 1 ∧ 0 < f.at_)) : markF f = f := by unfold markF; rw [hx]; simp only; rw [if_neg h]
theorem stepF_1 {f : Feed} (h : toF f < 0) : stepF f = cutF (markF f) := if_pos h
theorem stepF_2 {f : Feed} (h : ¬ toF f < 0) : stepF f = { markF f with at_ := f.at_ + 1, pc := toF f } := if_neg h
theorem fits_goOn (f : Feed) (hf : FI f) : Fits prog 25 [.box (eFeed true f)] (.tup []) [.box (eFeed true (goF f))] := by
 unfold eFeed
 refine fits_of_code [] [0] [0, 2, 3, 8, 24, 31, 62, 77] func25 rfl rfl rfl (by rfl) (by show 1 ≤ 91; decide) (by rfl) (by rfl) (by show 1 ≤ 1; decide) (by rfl) (run_of ?_)
 refine Zo (Z2 tis fls) ?_
 refine run_loop (α := Feed) (fun g => FI g ∧ goF f = goF g) (fun g => [(0, .box (.agg [.sl true 4 (g.prog.map eIns), .str g.buf, .int .i64 g.base, .int .i64 g.pc, .int .i64 g.at_, .int .i64 g.rule, .int .i64 g.to, .sl true 3 (g.out.map eToken), .bool g.stuck]))]) muF f ⟨hf, rfl⟩ ?_ ?_
 ·exact Zc tis
 ·rintro g ⟨hg, hgo⟩
  cases hs : g.stuck with
  | true =>
   rw [goF_stuck hs] at hgo
   rw [hgo]
   exact Zc (Z3 tis fls @hs)
  | false =>
   obtain ⟨hp, hget⟩ := hg.get
   have hpc := hg.pc
   have hat := hg.at1
   have hba := hg.base
   have hout := hg.out
   have hlen := (progB_parts hg.prog).1
   have h1 := hg.get1
   have hx : g.prog[g.pc.toNat]? = some g.prog[g.pc.toNat] := List.getElem?_eq_getElem hp
   have hm := hg.mark
   have hms := markF_same g
   have gx : (g.prog.map eIns)[g.pc.toNat]? = some (eIns g.prog[g.pc.toNat]) := by rw [List.getElem?_map, hx]; rfl
   have gl : (g.prog.map eIns).length = g.prog.length := by simp
   simp only [eIns] at gx
   rcases hget with ⟨e1, eg, ⟨hq, _⟩, _⟩ | ⟨e2, eg⟩
   ·have egi : ((getP g : Nat) : Int) = g.pc + 1 := by rw [eg]; omega
    by_cases h0 : 0 < g.at_
    ·have em := markF_1 hx e1 h0
     by_cases hl : (g.buf.length : Int) ≤ g.at_
     ·rw [goF_end hs hl, em] at hgo
      rw [hgo]
      refine Zo (Z8 tis fls @hs @gx @gl @e1 @h0 @hl) ?_
      refine .inl ⟨by kernel_rfl, ?_⟩
      refine .inl ⟨by kernel_rfl, ?_⟩
      refine .inl ?_
      show _ = _
      kernel_rfl
     ·have hb2 : g.at_.toNat < g.buf.length := by omega
      have hby : byteF g = ((g.buf.getD g.at_.toNat 0).toNat : Int) := rfl
      have hlt : (g.buf.getD g.at_.toNat 0).toNat < 256 := (g.buf.getD g.at_.toNat 0).toNat_lt
      have hgo2 : goF f = goF (stepF g) := by rw [hgo]; exact goF_step hg hs (by omega)
      have hst := hg.step (by omega : g.at_ < g.buf.length)
      have hmu := muF_step hg hs (by omega : g.at_ < g.buf.length)
      have cG := fits_goes (markF g) hm.prog (getP g) (by rw [hms.1]; exact h1) (byteF g)
      have cC := fits_cuts (markF g) hm
      have htF : goesP (markF g).prog (byteF g) (markF g).prog.length (getP g + 1) = toF g := by rw [hms.1]; rfl
      rw [htF] at cG
      by_cases ht : toF g < 0
      ·rw [stepF_1 ht] at hst hgo2 hmu
       generalize cutF (markF g) = c at *
       rw [em] at cG cC
       simp only [eFeed, egi, hby, hs] at cG cC
       refine Zo (Z8 tis fls @hs @gx @gl @e1 @h0 @hl) ?_
       refine .inl ⟨by kernel_rfl, ?_⟩
       refine .inl ⟨by kernel_rfl, ?_⟩
       refine .inl ⟨by kernel_rfl, ?_⟩
       refine .inl ⟨by kernel_rfl, ?_⟩
       refine callL cG ?_
       refine Zo (Z4 tis fls @hs @ht) ?_
       refine callM 0 cC ?_
       refine Zo (Z3 tis fls @LLdrosin) ?_
       refine round_normal _ ⟨hst, hgo2⟩ ?_ hmu
       exact Zc tis
      ·rw [stepF_2 ht, em] at hst hgo2 hmu
       rw [em] at cG
       simp only [eFeed, egi, hby] at cG
       refine Zo (Z8 tis fls @hs @gx @gl @e1 @h0 @hl) ?_
       refine .inl ⟨by kernel_rfl, ?_⟩
       refine .inl ⟨by kernel_rfl, ?_⟩
       refine .inl ⟨by kernel_rfl, ?_⟩
       refine .inl ⟨by kernel_rfl, ?_⟩
       refine callL cG ?_
       refine Zo (Z4 tis fls @hs @ht) ?_
       refine round_normal _ ⟨hst, hgo2⟩ ?_ hmu
       exact Zc (Z2 tis @hs)
    ·have em := markF_2 hx (fun h => h0 h.2)
     by_cases hl : (g.buf.length : Int) ≤ g.at_
     ·rw [goF_end hs hl, em] at hgo
      rw [hgo]
      refine Zo (Z8 tis fls @hs @gx @gl @e1 @h0 @hl) ?_
      refine .inl ⟨by kernel_rfl, ?_⟩
      refine .inl ?_
      show _ = _
      kernel_rfl
     ·have hb2 : g.at_.toNat < g.buf.length := by omega
      have hby : byteF g = ((g.buf.getD g.at_.toNat 0).toNat : Int) := rfl
      have hlt : (g.buf.getD g.at_.toNat 0).toNat < 256 := (g.buf.getD g.at_.toNat 0).toNat_lt
      have hgo2 : goF f = goF (stepF g) := by rw [hgo]; exact goF_step hg hs (by omega)
      have hst := hg.step (by omega : g.at_ < g.buf.length)
      have hmu := muF_step hg hs (by omega : g.at_ < g.buf.length)
      have cG := fits_goes (markF g) hm.prog (getP g) (by rw [hms.1]; exact h1) (byteF g)
      have cC := fits_cuts (markF g) hm
      have htF : goesP (markF g).prog (byteF g) (markF g).prog.length (getP g + 1) = toF g := by rw [hms.1]; rfl
      rw [htF] at cG
      by_cases ht : toF g < 0
      ·rw [stepF_1 ht] at hst hgo2 hmu
       generalize cutF (markF g) = c at *
       rw [em] at cG cC
       simp only [eFeed, egi, hby, hs] at cG cC
       refine Zo (Z8 tis fls @hs @gx @gl @e1 @h0 @hl) ?_
       refine .inl ⟨by kernel_rfl, ?_⟩
       refine .inl ⟨by kernel_rfl, ?_⟩
       refine .inl ⟨by kernel_rfl, ?_⟩
       refine callL cG ?_
       refine Zo (Z4 tis fls @hs @ht) ?_
       refine callM 0 cC ?_
       refine Zo (Z3 tis fls @LLdrosin) ?_
       refine round_normal _ ⟨hst, hgo2⟩ ?_ hmu
       exact Zc tis
      ·rw [stepF_2 ht, em] at hst hgo2 hmu
       rw [em] at cG
       simp only [eFeed, egi, hby] at cG
       refine Zo (Z8 tis fls @hs @gx @gl @e1 @h0 @hl) ?_
       refine .inl ⟨by kernel_rfl, ?_⟩
       refine .inl ⟨by kernel_rfl, ?_⟩
       refine .inl ⟨by kernel_rfl, ?_⟩
       refine callL cG ?_
       refine Zo (Z4 tis fls @hs @ht) ?_
       refine round_normal _ ⟨hst, hgo2⟩ ?_ hmu
       exact Zc (Z2 tis @hs)
   ·have egi : ((getP g : Nat) : Int) = g.pc := by rw [eg]; omega
    have em := markF_2 hx (fun h => by rw [e2] at h; exact absurd h.1 (by decide))
    by_cases hl : (g.buf.length : Int) ≤ g.at_
    ·rw [goF_end hs hl, em] at hgo
     rw [hgo]
     refine Zo (Z7 tis fls @hs @gx @gl @e2 @hl) ?_
     refine .inl ⟨by kernel_rfl, ?_⟩
     refine .inl ?_
     show _ = _
     kernel_rfl
    ·have hb2 : g.at_.toNat < g.buf.length := by omega
     have hby : byteF g = ((g.buf.getD g.at_.toNat 0).toNat : Int) := rfl
     have hlt : (g.buf.getD g.at_.toNat 0).toNat < 256 := (g.buf.getD g.at_.toNat 0).toNat_lt
     have hgo2 : goF f = goF (stepF g) := by rw [hgo]; exact goF_step hg hs (by omega)
     have hst := hg.step (by omega : g.at_ < g.buf.length)
     have hmu := muF_step hg hs (by omega : g.at_ < g.buf.length)
     have cG := fits_goes (markF g) hm.prog (getP g) (by rw [hms.1]; exact h1) (byteF g)
     have cC := fits_cuts (markF g) hm
     have htF : goesP (markF g).prog (byteF g) (markF g).prog.length (getP g + 1) = toF g := by rw [hms.1]; rfl
     rw [htF] at cG
     by_cases ht : toF g < 0
     ·rw [stepF_1 ht] at hst hgo2 hmu
      generalize cutF (markF g) = c at *
      rw [em] at cG cC
      simp only [eFeed, egi, hby, hs] at cG cC
      refine Zo (Z7 tis fls @hs @gx @gl @e2 @hl) ?_
      refine .inl ⟨by kernel_rfl, ?_⟩
      refine .inl ⟨by kernel_rfl, ?_⟩
      refine .inl ⟨by kernel_rfl, ?_⟩
      refine callL cG ?_
      refine Zo (Z4 tis fls @hs @ht) ?_
      refine callM 0 cC ?_
      refine Zo (Z3 tis fls @LLdrosin) ?_
      refine round_normal _ ⟨hst, hgo2⟩ ?_ hmu
      exact Zc tis
     ·rw [stepF_2 ht, em] at hst hgo2 hmu
      rw [em] at cG
      simp only [eFeed, egi, hby] at cG
      refine Zo (Z7 tis fls @hs @gx @gl @e2 @hl) ?_
      refine .inl ⟨by kernel_rfl, ?_⟩
      refine .inl ⟨by kernel_rfl, ?_⟩
      refine .inl ⟨by kernel_rfl, ?_⟩
      refine callL cG ?_
      refine Zo (Z4 tis fls @hs @ht) ?_
      refine round_normal _ ⟨hst, hgo2⟩ ?_ hmu
      exact Zc (Z2 tis @hs)
theorem fits_copiedIns (p : List Ins) (hp : p.length ≤ 1099511627776) : Fits prog 50 [.sl false 4 (p.map eIns)] (.sl true 4 (p.map eIns)) [] := by
 refine fits_of_code [2] [] [0, 2, 3, 6] func50 rfl rfl rfl (by rfl) (by show 1 ≤ 14; decide) (by rfl) (by rfl) (by show 0 ≤ 1; decide) (by rfl) (run_of ?_)
 cases p with
 | nil => exact Zc tis
 | cons x r =>
  have hl : ((x :: r).length : Int) ≠ 0 := by simp; omega
  generalize (x :: r) = p at *
  refine Zo tis ?_
  refine Zo (Z3 tis @LLlenrep fls) ?_
  simp [List.take_of_length_le]
theorem fits_progOk (p : List Ins) (hp : p.length ≤ 1099511627776) : Fits prog 35 [.sl false 4 (p.map eIns)] (.bool (progB p)) [] := by
 refine fits_of_code [2] [] [0, 2, 3, 22, 24, 25, 26, 31] func35 rfl rfl rfl (by rfl) (by show 1 ≤ 33; decide) (by rfl) (by rfl) (by show 0 ≤ 1; decide) (by rfl) (run_of ?_)
 refine Zo tis ?_
 refine callb_of (fits_in p.length 1 1500) (by exact Zc tis) (.inl rfl) rfl ?_
 by_cases h1 : 1 ≤ (p.length : Int) ∧ (p.length : Int) ≤ 1500
 case neg => simp -implicitDefEqProofs (disch := first | (intros; contradiction) | omega) only [am0, am1, am2, am3, am4, am5, am6, Nat.reduceSub, ↓reduceIte, reduceCtorEq, Nat.reduceEqDiff, Nat.reduceBEq, Nat.reduceAdd, Nat.reduceLT, Nat.reduceBNe, Nat.reduceMul, ↓reduceIte, tis, h1, progB_false1 h1]
 obtain ⟨h1a, h1b⟩ := h1
 refine Zo tis ?_
 refine callb_of (fits_door p 0 hp) (by exact Zc tis) (.inl rfl) rfl ?_
 have hl : 0 < p.length := by omega
 cases h2 : doorB p 0 with
 | false => simp -implicitDefEqProofs (disch := first | (intros; contradiction) | omega) only [am0, am1, am2, am3, am4, am5, am6, Nat.reduceSub, ↓reduceIte, reduceCtorEq, Nat.reduceEqDiff, Nat.reduceBEq, Nat.reduceAdd, Nat.reduceLT, Nat.reduceBNe, Nat.reduceMul, ↓reduceIte, tis, doorI_zero, h2, progB_false2 h2]
 | true =>
  cases h3 : lastB p with
  | false =>
   have h3' := h3
   rw [lastB_at hl] at h3'
   have h3' : p[p.length - 1].op ≠ 4 := by simpa using h3'
   have e : ((p.length : Int) - 1).toNat = p.length - 1 := by omega
   simp -implicitDefEqProofs (disch := first | (intros; contradiction) | omega) only [am0, am1, am2, am3, am4, am5, am6, Nat.reduceSub, ↓reduceIte, reduceCtorEq, Nat.reduceEqDiff, Nat.reduceBEq, Nat.reduceAdd, Nat.reduceLT, Nat.reduceBNe, Nat.reduceMul, ↓reduceIte, tis, doorI_zero, h2, e, eIns, progB_false3 h3]
  | true =>
   have h3' := h3
   rw [lastB_at hl] at h3'
   have h3' : p[p.length - 1].op = 4 := by simpa using h3'
   have e : ((p.length : Int) - 1).toNat = p.length - 1 := by omega
   refine Zo (Z5 tis @doorI_zero @h2 @e eIns.eq_1) ?_
   refine run_loop (α := Nat) (fun i => i ≤ p.length ∧ ∀ j, j < i → insB p j = true) (fun i => [(0, .sl false 4 (p.map eIns)), (24, .int .i64 p.length), (25, .int .i64 i)]) (fun i => p.length - i) 0 ⟨Nat.zero_le _, by simp⟩ ?_ ?_
   ·exact Zc tis
   ·rintro i ⟨hi', hb⟩
    by_cases hi : i < p.length
    ·refine Zo tis ?_
     refine callb_of (fits_insOk p i hp hi) (by exact Zc tis) (.inl rfl) rfl ?_
     cases h5 : insB p i with
     | false => simp -implicitDefEqProofs (disch := first | (intros; contradiction) | omega) only [am0, am1, am2, am3, am4, am5, am6, Nat.reduceSub, ↓reduceIte, reduceCtorEq, Nat.reduceEqDiff, Nat.reduceBEq, Nat.reduceAdd, Nat.reduceLT, Nat.reduceBNe, Nat.reduceMul, ↓reduceIte, tis, h5, progB_false4 hi h5]
     | true =>
      refine Zo (Z2 tis @h5) ?_
      refine round_normal (i + 1) ⟨by omega, ?_⟩ ?_ (by show p.length - (i + 1) < p.length - i; omega)
      ·intro j hj
       by_cases hji : j < i
       ·exact hb j hji
       ·obtain rfl : j = i := by omega
        exact h5
      ·exact Zc tis
    ·obtain rfl : i = p.length := by omega
     simp -implicitDefEqProofs (disch := first | (intros; contradiction) | omega) only [am0, am1, am2, am3, am4, am5, am6, Nat.reduceSub, ↓reduceIte, reduceCtorEq, Nat.reduceEqDiff, Nat.reduceBEq, Nat.reduceAdd, Nat.reduceLT, Nat.reduceBNe, Nat.reduceMul, ↓reduceIte, tis, progB_true ⟨h1a, h1b⟩ h2 h3 hb]
theorem fits_sDoor (p : List Ins) (j : Nat) (hp : p.length ≤ 1099511627776) (hj : j < p.length) : Fits prog 34 [.sl false 4 (p.map eIns), .int .i64 j] (.bool (doorB p j)) [] := by
 refine fits_of_code [4] [] [0, 1, 4, 10] func34 rfl rfl rfl (by rfl) (by show 2 ≤ 31; decide) (by rfl) (by rfl) (by show 0 ≤ 2; decide) (by rfl) (run_of ?_)
 (simp -implicitDefEqProofs (disch := first | (intros; contradiction) | omega) only [am0, am1, am2, am3, am4, am5, am6, Nat.reduceSub, ↓reduceIte, reduceCtorEq, Nat.reduceEqDiff, Nat.reduceBEq, Nat.reduceAdd, Nat.reduceLT, Nat.reduceBNe, Nat.reduceMul, ↓reduceIte, tis, eIns]; (repeat' ((first | (refine Or.inl (And.intro (a := drawOk _ _ = true) (by kernel_rfl) ?_)) | (refine Or.inl (show drawOk _ _ = true from (by kernel_rfl))) | (refine cond_beq (fun _ => ?_) (fun _ => ?_)) | (refine cond_bne (fun _ => ?_) (fun _ => ?_)) | (refine cond_dec (fun _ => ?_) (fun _ => ?_)) | (refine cond_of (fun _ => ?_) (fun _ => ?_)) | (refine guard_beq (fun _ => ?_) (fun _ => ?_)) | (refine guard_bne (fun _ => ?_) (fun _ => ?_)) | (refine guard_dec (fun _ => ?_) (fun _ => ?_)) | (refine guard_of (fun _ => ?_) (fun _ => ?_)) | (refine guardD_beq (fun _ => ?_) (fun _ => ?_)) | (refine guardD_bne (fun _ => ?_) (fun _ => ?_)) | (refine guardD_dec (fun _ => ?_) (fun _ => ?_)) | (refine guardD_of (fun _ => ?_) (fun _ => ?_))) <;> (try simp -implicitDefEqProofs (disch := first | (intros; contradiction) | omega) only [am0, am1, am2, am3, am4, am5, am6, Nat.reduceSub, ↓reduceIte, reduceCtorEq, Nat.reduceEqDiff, Nat.reduceBEq, Nat.reduceAdd, Nat.reduceLT, Nat.reduceBNe, Nat.reduceMul, ↓reduceIte, tis, eIns]))))
 all_goals (have hq : j + 1 < p.length ∨ ¬ j + 1 < p.length := by omega)
 all_goals (rcases hq with hq | hq <;> first | omega | (simp_all [doorB_at hj]))
def insS (x : Ins) (n : Int) : Bool := (x.op == 1 && decide (0 ≤ x.a ∧ x.a ≤ 4 ∧ x.b = 0 ∧ x.to = 0)) || ((x.op == 2 || x.op == 4) && decide (x.a = 0 ∧ x.b = 0 ∧ x.to = 0)) ||
   (x.op == 3 && decide (0 ≤ x.a ∧ x.a ≤ x.b ∧ x.b ≤ 255 ∧ 0 ≤ x.to ∧ x.to < n))
theorem fits_sIns (x : Ins) (n : Int) : Fits prog 54 [eIns x, .int .i64 n] (.bool (insS x n)) [] := by
 refine fits_of_code [4] [] [0, 1, 2, 4, 6, 7, 27, 43] func54 rfl rfl rfl (by rfl) (by show 2 ≤ 71; decide) (by rfl) (by rfl) (by show 0 ≤ 2; decide) (by rfl) (run_of ?_)
 (simp -implicitDefEqProofs (disch := first | (intros; contradiction) | omega) only [am0, am1, am2, am3, am4, am5, am6, Nat.reduceSub, ↓reduceIte, reduceCtorEq, Nat.reduceEqDiff, Nat.reduceBEq, Nat.reduceAdd, Nat.reduceLT, Nat.reduceBNe, Nat.reduceMul, ↓reduceIte, tis, eIns]; (repeat' ((first | (refine Or.inl (And.intro (a := drawOk _ _ = true) (by kernel_rfl) ?_)) | (refine Or.inl (show drawOk _ _ = true from (by kernel_rfl))) | (refine cond_beq (fun _ => ?_) (fun _ => ?_)) | (refine cond_bne (fun _ => ?_) (fun _ => ?_)) | (refine cond_dec (fun _ => ?_) (fun _ => ?_)) | (refine cond_of (fun _ => ?_) (fun _ => ?_)) | (refine guard_beq (fun _ => ?_) (fun _ => ?_)) | (refine guard_bne (fun _ => ?_) (fun _ => ?_)) | (refine guard_dec (fun _ => ?_) (fun _ => ?_)) | (refine guard_of (fun _ => ?_) (fun _ => ?_)) | (refine guardD_beq (fun _ => ?_) (fun _ => ?_)) | (refine guardD_bne (fun _ => ?_) (fun _ => ?_)) | (refine guardD_dec (fun _ => ?_) (fun _ => ?_)) | (refine guardD_of (fun _ => ?_) (fun _ => ?_))) <;> (try simp -implicitDefEqProofs (disch := first | (intros; contradiction) | omega) only [am0, am1, am2, am3, am4, am5, am6, Nat.reduceSub, ↓reduceIte, reduceCtorEq, Nat.reduceEqDiff, Nat.reduceBEq, Nat.reduceAdd, Nat.reduceLT, Nat.reduceBNe, Nat.reduceMul, ↓reduceIte, tis, eIns]))))
 all_goals (simp_all [insS])
 all_goals first | (intros; omega) | grind
theorem insB_S {p : List Ins} {i : Nat} (h : i < p.length) : insB p i = (insS p[i] p.length && ((!(p[i].op == 3) || doorI p p[i].to) && (!(p[i].op == 1) || doorB p i))) := by
 rw [insB_at h, insS]
 generalize p[i] = x
 have hd : doorI p x.to = true → 0 ≤ x.to ∧ x.to < p.length := by
  intro hh
  refine Classical.byContradiction fun hc => ?_
  rw [doorI_out hc] at hh; cases hh
 rw [Bool.eq_iff_iff]
 simp only [Bool.and_eq_true, Bool.or_eq_true, beq_iff_eq, decide_eq_true_eq, Bool.not_eq_true', beq_eq_false_iff_ne]
 constructor
 ·rintro ((⟨h1, h2, h3⟩ | ⟨h1, h2⟩) | ⟨h1, h2, h3⟩)
  ·exact ⟨.inl (.inl ⟨h1, h2⟩), .inl (by omega), .inr h3⟩
  ·exact ⟨.inl (.inr ⟨h1, h2⟩), .inl (by omega), .inl (by omega)⟩
  ·have := hd h3
   exact ⟨.inr ⟨h1, by omega⟩, .inr h3, .inl (by omega)⟩
 ·rintro ⟨(⟨h1, h2⟩ | ⟨h1, h2⟩) | ⟨h1, h2⟩, h3, h4⟩
  ·exact .inl (.inl ⟨h1, h2, h4.resolve_left (by omega)⟩)
  ·exact .inl (.inr ⟨h1, h2⟩)
  ·exact .inr ⟨h1, by omega, h3.resolve_left (by omega)⟩
theorem fits_sProgOk (p : List Ins) (hp : p.length ≤ 1099511627776) : Fits prog 33 [.sl false 4 (p.map eIns)] (.bool (progB p)) [] := by
 refine fits_of_code [2] [] [0, 2, 3, 26, 30, 72] func33 rfl rfl rfl (by rfl) (by show 1 ≤ 73; decide) (by rfl) (by rfl) (by show 0 ≤ 1; decide) (by rfl) (run_of ?_)
 by_cases h1 : 1 ≤ (p.length : Int) ∧ (p.length : Int) ≤ 1500
 case neg =>
  by_cases h2 : (p.length : Int) < 1
  ·simp -implicitDefEqProofs (disch := first | (intros; contradiction) | omega) only [am0, am1, am2, am3, am4, am5, am6, Nat.reduceSub, ↓reduceIte, reduceCtorEq, Nat.reduceEqDiff, Nat.reduceBEq, Nat.reduceAdd, Nat.reduceLT, Nat.reduceBNe, Nat.reduceMul, ↓reduceIte, tis, progB_false1 h1]
  ·simp -implicitDefEqProofs (disch := first | (intros; contradiction) | omega) only [am0, am1, am2, am3, am4, am5, am6, Nat.reduceSub, ↓reduceIte, reduceCtorEq, Nat.reduceEqDiff, Nat.reduceBEq, Nat.reduceAdd, Nat.reduceLT, Nat.reduceBNe, Nat.reduceMul, ↓reduceIte, tis, progB_false1 h1]
 obtain ⟨h1a, h1b⟩ := h1
 have hl : 0 < p.length := by omega
 refine Zo tis ?_
 refine callb_of (fits_sDoor p 0 hp hl) (by exact Zc tis) (.inl rfl) rfl ?_
 cases h2 : doorB p 0 with
 | false => simp -implicitDefEqProofs (disch := first | (intros; contradiction) | omega) only [am0, am1, am2, am3, am4, am5, am6, Nat.reduceSub, ↓reduceIte, reduceCtorEq, Nat.reduceEqDiff, Nat.reduceBEq, Nat.reduceAdd, Nat.reduceLT, Nat.reduceBNe, Nat.reduceMul, ↓reduceIte, tis, h2, progB_false2 h2]
 | true =>
  have e : ((p.length : Int) - 1).toNat = p.length - 1 := by omega
  cases h3 : lastB p with
  | false =>
   have h3' := h3
   rw [lastB_at hl] at h3'
   have h3' : p[p.length - 1].op ≠ 4 := by simpa using h3'
   simp -implicitDefEqProofs (disch := first | (intros; contradiction) | omega) only [am0, am1, am2, am3, am4, am5, am6, Nat.reduceSub, ↓reduceIte, reduceCtorEq, Nat.reduceEqDiff, Nat.reduceBEq, Nat.reduceAdd, Nat.reduceLT, Nat.reduceBNe, Nat.reduceMul, ↓reduceIte, tis, h2, e, eIns, progB_false3 h3]
  | true =>
   have h3' := h3
   rw [lastB_at hl] at h3'
   have h3' : p[p.length - 1].op = 4 := by simpa using h3'
   refine Zo (Z4 tis @h2 @e eIns.eq_1) ?_
   refine run_loop (α := Nat) (fun i => i ≤ p.length ∧ ∀ j, j < i → insB p j = true) (fun i => [(0, .sl false 4 (p.map eIns)), (3, .int .i64 i)]) (fun i => p.length - i) 0 ⟨Nat.zero_le _, by simp⟩ ?_ ?_
   ·exact Zc tis
   ·rintro i ⟨hi', hb⟩
    by_cases hi : i < p.length
    ·have good : insB p i = true → Le [(0, AV.sl false 4 (p.map eIns)), (3, AV.int .i64 ((i : Int) + 1))] [(0, AV.sl false 4 (p.map eIns)), (3, AV.int .i64 ((i + 1 : Nat) : Int))] ∧ ∀ j, j < i + 1 → insB p j = true := by
      intro h5
      refine ⟨by exact Zc tis, ?_⟩
      intro j hj
      by_cases hji : j < i
      ·exact hb j hji
      ·obtain rfl : j = i := by omega
       exact h5
     have e5 := insB_S hi
     refine Zo (Z2 tis eIns.eq_1) ?_
     refine callb_of (fits_sIns p[i] p.length) (by exact Zc (Z2 tis eIns.eq_1)) (.inl rfl) rfl ?_
     cases h5 : insS p[i] p.length with
     | false =>
      rw [h5] at e5
      simp -implicitDefEqProofs (disch := first | (intros; contradiction) | omega) only [am0, am1, am2, am3, am4, am5, am6, Nat.reduceSub, ↓reduceIte, reduceCtorEq, Nat.reduceEqDiff, Nat.reduceBEq, Nat.reduceAdd, Nat.reduceLT, Nat.reduceBNe, Nat.reduceMul, ↓reduceIte, tis, h5, eIns, progB_false4 hi (by simpa using e5)]
     | true =>
      rw [h5] at e5
      by_cases h6 : p[i].op = 3
      ·have hto : 0 ≤ p[i].to ∧ p[i].to < p.length := by
        simp [insS, h6] at h5; omega
       obtain ⟨q, hq⟩ : ∃ q : Nat, p[i].to = q := ⟨p[i].to.toNat, by omega⟩
       have hq2 : q < p.length := by omega
       refine Zo (Z4 tis @h5 @h6 eIns.eq_1) ?_
       refine callb_of (fits_sDoor p q hp hq2) (by exact Zc (Z3 tis eIns.eq_1 @hq)) (.inl rfl) rfl ?_
       rw [hq, doorI_nat] at e5
       cases h7 : doorB p q with
       | false => simp -implicitDefEqProofs (disch := first | (intros; contradiction) | omega) only [am0, am1, am2, am3, am4, am5, am6, Nat.reduceSub, ↓reduceIte, reduceCtorEq, Nat.reduceEqDiff, Nat.reduceBEq, Nat.reduceAdd, Nat.reduceLT, Nat.reduceBNe, Nat.reduceMul, ↓reduceIte, tis, h7, h6, eIns, progB_false4 hi (by simpa [h6, h7] using e5)]
       | true =>
        refine Zo (Z4 tis @h7 @h6 eIns.eq_1) ?_
        obtain ⟨g1, g2⟩ := good (by simpa [h6, h7] using e5)
        exact round_normal (i + 1) ⟨by omega, g2⟩ (by exact Zc tis) (by show p.length - (i + 1) < p.length - i; omega)
      ·by_cases h8 : p[i].op = 1
       ·refine Zo (Z5 tis @h5 @h6 @h8 eIns.eq_1) ?_
        refine callb_of (fits_sDoor p i hp hi) (by exact Zc (Z2 tis eIns.eq_1)) (.inl rfl) rfl ?_
        cases h7 : doorB p i with
        | false => simp -implicitDefEqProofs (disch := first | (intros; contradiction) | omega) only [am0, am1, am2, am3, am4, am5, am6, Nat.reduceSub, ↓reduceIte, reduceCtorEq, Nat.reduceEqDiff, Nat.reduceBEq, Nat.reduceAdd, Nat.reduceLT, Nat.reduceBNe, Nat.reduceMul, ↓reduceIte, tis, h7, h8, eIns, progB_false4 hi (by simpa [h8, h7] using e5)]
        | true =>
         refine Zo (Z4 tis @h7 @h8 eIns.eq_1) ?_
         obtain ⟨g1, g2⟩ := good (by simpa [h8, h7] using e5)
         exact round_normal (i + 1) ⟨by omega, g2⟩ (by exact Zc tis) (by show p.length - (i + 1) < p.length - i; omega)
       ·refine Zo (Z5 tis @h5 @h6 @h8 eIns.eq_1) ?_
        obtain ⟨g1, g2⟩ := good (by rw [e5, ibeq_f h6, ibeq_f h8]; rfl)
        exact round_normal (i + 1) ⟨by omega, g2⟩ (by exact Zc tis) (by show p.length - (i + 1) < p.length - i; omega)
    ·obtain rfl : i = p.length := by omega
     simp -implicitDefEqProofs (disch := first | (intros; contradiction) | omega) only [am0, am1, am2, am3, am4, am5, am6, Nat.reduceSub, ↓reduceIte, reduceCtorEq, Nat.reduceEqDiff, Nat.reduceBEq, Nat.reduceAdd, Nat.reduceLT, Nat.reduceBNe, Nat.reduceMul, ↓reduceIte, tis, progB_true ⟨h1a, h1b⟩ h2 h3 hb]
def feedZ : Feed := ⟨[], [], 0, 0, 0, 0, 0, [], false⟩
def feedOpenP (p : List Ins) : Feed := if progB p then ⟨p, [], 0, 0, 0, -1, 0, [], false⟩ else feedZ
theorem fits_sFeedOpen (p : List Ins) (hp : p.length ≤ 1099511627776) : Fits prog 47 [.sl false 4 (p.map eIns)] (eFeed true (feedOpenP p)) [] := by
 refine fits_of_cell 2 26 [] [0, 2, 5] func47 rfl rfl rfl (by show 2 < 11; decide) (by show 1 ≤ 11; decide) (by rfl) (by rfl) (by show 0 ≤ 1; decide) (by rfl) (run_of ?_)
 refine Zo tis ?_
 refine callb_of (fits_sProgOk p hp) (by exact Zc tis) (.inl rfl) rfl ?_
 cases h1 : progB p with
 | false => simp -implicitDefEqProofs (disch := first | (intros; contradiction) | omega) only [am0, am1, am2, am3, am4, am5, am6, Nat.reduceSub, ↓reduceIte, reduceCtorEq, Nat.reduceEqDiff, Nat.reduceBEq, Nat.reduceAdd, Nat.reduceLT, Nat.reduceBNe, Nat.reduceMul, ↓reduceIte, tis, h1, feedOpenP, feedZ, eFeed]
 | true => simp -implicitDefEqProofs (disch := first | (intros; contradiction) | omega) only [am0, am1, am2, am3, am4, am5, am6, Nat.reduceSub, ↓reduceIte, reduceCtorEq, Nat.reduceEqDiff, Nat.reduceBEq, Nat.reduceAdd, Nat.reduceLT, Nat.reduceBNe, Nat.reduceMul, ↓reduceIte, tis, h1, feedOpenP, eFeed, fls]
theorem feedB_no1 {f : Feed} (h : progB f.prog = false) : feedB f = false := by simp [feedB, h]
theorem feedB_no2 {f : Feed} (h : ¬ (0 ≤ f.base ∧ f.base + f.buf.length ≤ 200)) : feedB f = false := by simp only [feedB, h, decide_false, Bool.false_and, Bool.and_false]
theorem feedB_no3 {f : Feed} (h : doorI f.prog f.pc = false) : feedB f = false := by simp [feedB, h]
theorem feedB_no4 {f : Feed} (h : ¬ (0 ≤ f.at_ ∧ f.at_ ≤ f.buf.length ∧ (f.at_ = 0 → f.pc = 0) ∧ 0 ≤ f.to ∧ f.to ≤ f.at_ ∧ -1 ≤ f.rule ∧ f.rule ≤ 4 ∧ (f.rule = -1 ↔ f.to = 0))) : feedB f = false := by simp only [feedB, h, decide_false, Bool.false_and, Bool.and_false]
theorem feedB_no5 {f : Feed} (h : outEnd f.out 0 = none) : feedB f = false := by simp [feedB, h]
theorem feedB_eq {f : Feed} {e : Int} (h1 : progB f.prog = true) (h2 : 0 ≤ f.base ∧ f.base + f.buf.length ≤ 200) (h3 : doorI f.prog f.pc = true) (h4 : 0 ≤ f.at_ ∧ f.at_ ≤ f.buf.length ∧ (f.at_ = 0 → f.pc = 0) ∧ 0 ≤ f.to ∧ f.to ≤ f.at_ ∧ -1 ≤ f.rule ∧ f.rule ≤ 4 ∧ (f.rule = -1 ↔ f.to = 0)) (h5 : outEnd f.out 0 = some e) : feedB f = (e == f.base) := by
 have h2' := decide_eq_true h2
 have h4' := decide_eq_true h4
 unfold feedB
 rw [h1, h2', h3, h4', h5]
 rfl
theorem fits_feedOk (f : Feed) (hp : f.prog.length ≤ 1099511627776) (hb : f.buf.length ≤ 1099511627776) (ho : f.out.length ≤ 1099511627776) : Fits prog 13 [eFeed false f] (.bool (feedB f)) [] := by
 refine fits_of_code [2] [] [0, 1, 2, 3, 5, 51, 72, 74, 75, 76, 77, 95] func13 rfl rfl rfl (by rfl) (by show 1 ≤ 103; decide) (by rfl) (by rfl) (by show 0 ≤ 1; decide) (by rfl) (run_of ?_)
 refine Zo (Z2 tis eFeed.eq_1) ?_
 refine callb_of (fits_progOk f.prog hp) (by exact Zc tis) (.inl rfl) rfl ?_
 cases h1 : progB f.prog with
 | false => simp -implicitDefEqProofs (disch := first | (intros; contradiction) | omega) only [am0, am1, am2, am3, am4, am5, am6, Nat.reduceSub, ↓reduceIte, reduceCtorEq, Nat.reduceEqDiff, Nat.reduceBEq, Nat.reduceAdd, Nat.reduceLT, Nat.reduceBNe, Nat.reduceMul, ↓reduceIte, tis, h1, feedB_no1 h1]
 | true =>
 refine Zo (Z2 tis @h1) ?_
 refine callb_of (fits_in f.base 0 200) (by exact Zc tis) (.inl rfl) rfl ?_
 by_cases h2 : 0 ≤ f.base ∧ f.base ≤ 200
 case neg => simp -implicitDefEqProofs (disch := first | (intros; contradiction) | omega) only [am0, am1, am2, am3, am4, am5, am6, Nat.reduceSub, ↓reduceIte, reduceCtorEq, Nat.reduceEqDiff, Nat.reduceBEq, Nat.reduceAdd, Nat.reduceLT, Nat.reduceBNe, Nat.reduceMul, ↓reduceIte, tis, h2, feedB_no2 (f := f) (by omega)]
 by_cases h2b : f.base + f.buf.length ≤ 200
 case neg => simp -implicitDefEqProofs (disch := first | (intros; contradiction) | omega) only [am0, am1, am2, am3, am4, am5, am6, Nat.reduceSub, ↓reduceIte, reduceCtorEq, Nat.reduceEqDiff, Nat.reduceBEq, Nat.reduceAdd, Nat.reduceLT, Nat.reduceBNe, Nat.reduceMul, ↓reduceIte, tis, h2, feedB_no2 (f := f) (by omega)]
 refine Zo (Z2 tis @h2) ?_
 refine callb_of (fits_door f.prog f.pc hp) (by exact Zc tis) (.inl rfl) rfl ?_
 cases h3 : doorI f.prog f.pc with
 | false => simp -implicitDefEqProofs (disch := first | (intros; contradiction) | omega) only [am0, am1, am2, am3, am4, am5, am6, Nat.reduceSub, ↓reduceIte, reduceCtorEq, Nat.reduceEqDiff, Nat.reduceBEq, Nat.reduceAdd, Nat.reduceLT, Nat.reduceBNe, Nat.reduceMul, ↓reduceIte, tis, h3, feedB_no3 h3]
 | true =>
 refine Zo (Z2 tis @h3) ?_
 refine callb_of (fits_in f.at_ 0 f.buf.length) (by exact Zc tis) (.inl rfl) rfl ?_
 by_cases h4 : 0 ≤ f.at_ ∧ f.at_ ≤ f.buf.length
 case neg => simp -implicitDefEqProofs (disch := first | (intros; contradiction) | omega) only [am0, am1, am2, am3, am4, am5, am6, Nat.reduceSub, ↓reduceIte, reduceCtorEq, Nat.reduceEqDiff, Nat.reduceBEq, Nat.reduceAdd, Nat.reduceLT, Nat.reduceBNe, Nat.reduceMul, ↓reduceIte, tis, h4, feedB_no4 (f := f) (by omega)]
 by_cases h5 : f.at_ = 0 → f.pc = 0
 case neg =>
  have h5a : f.at_ = 0 := by omega
  have h5b : f.pc ≠ 0 := by omega
  simp -implicitDefEqProofs (disch := first | (intros; contradiction) | omega) only [am0, am1, am2, am3, am4, am5, am6, Nat.reduceSub, ↓reduceIte, reduceCtorEq, Nat.reduceEqDiff, Nat.reduceBEq, Nat.reduceAdd, Nat.reduceLT, Nat.reduceBNe, Nat.reduceMul, ↓reduceIte, tis, h4, h5a, h5b, feedB_no4 (f := f) (by omega)]
 have key : (f.at_ = 0 ∧ f.pc = 0) ∨ f.at_ ≠ 0 := by omega
 rcases key with h0 | h0
 all_goals
  refine Zo (Z2 tis @h4) ?_
  refine callb_of (fits_in f.to 0 f.at_) (by exact Zc tis) (.inl rfl) rfl ?_
  by_cases h6 : 0 ≤ f.to ∧ f.to ≤ f.at_
  case neg => simp -implicitDefEqProofs (disch := first | (intros; contradiction) | omega) only [am0, am1, am2, am3, am4, am5, am6, Nat.reduceSub, ↓reduceIte, reduceCtorEq, Nat.reduceEqDiff, Nat.reduceBEq, Nat.reduceAdd, Nat.reduceLT, Nat.reduceBNe, Nat.reduceMul, ↓reduceIte, tis, h6, feedB_no4 (f := f) (by omega)]
  refine Zo (Z2 tis @h6) ?_
  refine callb_of (fits_in f.rule (-1) 4) (by exact Zc tis) (.inl rfl) rfl ?_
  by_cases h7 : -1 ≤ f.rule ∧ f.rule ≤ 4
  case neg => simp -implicitDefEqProofs (disch := first | (intros; contradiction) | omega) only [am0, am1, am2, am3, am4, am5, am6, Nat.reduceSub, ↓reduceIte, reduceCtorEq, Nat.reduceEqDiff, Nat.reduceBEq, Nat.reduceAdd, Nat.reduceLT, Nat.reduceBNe, Nat.reduceMul, ↓reduceIte, tis, h7, feedB_no4 (f := f) (by omega)]
  by_cases h8 : (f.rule = -1 ↔ f.to = 0)
  case neg =>
   have hq : (f.rule = -1 ∧ f.to ≠ 0) ∨ (f.rule ≠ -1 ∧ f.to = 0) := by omega
   rcases hq with ⟨hq1, hq2⟩ | ⟨hq1, hq2⟩
   ·have e1 : (f.rule == -1) = true := ibeq_t hq1
    have e2 : (f.to == 0) = false := ibeq_f hq2
    first | omega | (simp -implicitDefEqProofs (disch := first | (intros; contradiction) | omega) only [am0, am1, am2, am3, am4, am5, am6, Nat.reduceSub, ↓reduceIte, reduceCtorEq, Nat.reduceEqDiff, Nat.reduceBEq, Nat.reduceAdd, Nat.reduceLT, Nat.reduceBNe, Nat.reduceMul, ↓reduceIte, tis, h7, e1, e2, bne, feedB_no4 (f := f) (by omega)])
   ·have e1 : (f.rule == -1) = false := ibeq_f hq1
    have e2 : (f.to == 0) = true := ibeq_t hq2
    simp -implicitDefEqProofs (disch := first | (intros; contradiction) | omega) only [am0, am1, am2, am3, am4, am5, am6, Nat.reduceSub, ↓reduceIte, reduceCtorEq, Nat.reduceEqDiff, Nat.reduceBEq, Nat.reduceAdd, Nat.reduceLT, Nat.reduceBNe, Nat.reduceMul, ↓reduceIte, tis, h7, e1, e2, bne, feedB_no4 (f := f) (by omega)]
  have e12 : (f.rule == -1) = (f.to == 0) := by
   by_cases hq : f.rule = -1
   ·rw [ibeq_t hq, ibeq_t (h8.1 hq)]
   ·rw [ibeq_f hq, ibeq_f (fun h => hq (h8.2 h))]
  have good := fun e => feedB_eq (f := f) (e := e) h1 ⟨h2.1, h2b⟩ h3 ⟨h4.1, h4.2, h5, h6.1, h6.2, h7.1, h7.2, h8⟩
  simp -implicitDefEqProofs (disch := first | (intros; contradiction) | omega) only [am0, am1, am2, am3, am4, am5, am6, Nat.reduceSub, ↓reduceIte, reduceCtorEq, Nat.reduceEqDiff, Nat.reduceBEq, Nat.reduceAdd, Nat.reduceLT, Nat.reduceBNe, Nat.reduceMul, ↓reduceIte, tis, h7, e12, bne]
  refine run_loop (α := Nat × Int) (fun g => g.1 ≤ f.out.length ∧ outEnd (f.out.take g.1) 0 = some g.2) (fun g => [(1, .box (eFeed false f)), (3, .int .i64 g.2), (74, .sl false 3 (f.out.map eToken)), (75, .int .i64 f.out.length), (76, .int .i64 g.1)]) (fun g => f.out.length - g.1) (0, 0) ⟨Nat.zero_le _, by simp [outEnd]⟩ ?_ ?_
  ·exact Zc (Z2 tis eFeed.eq_1)
  ·rintro ⟨i, e⟩ ⟨hi', he⟩
   by_cases hi : i < f.out.length
   ·simp only at he
    by_cases h9 : f.out[i].frm = e ∧ e < f.out[i].to ∧ 0 ≤ f.out[i].rule ∧ f.out[i].rule ≤ 4
    case neg =>
     have hno := outEnd_fail hi he h9
     (simp -implicitDefEqProofs (disch := first | (intros; contradiction) | omega) only [am0, am1, am2, am3, am4, am5, am6, Nat.reduceSub, ↓reduceIte, reduceCtorEq, Nat.reduceEqDiff, Nat.reduceBEq, Nat.reduceAdd, Nat.reduceLT, Nat.reduceBNe, Nat.reduceMul, ↓reduceIte, tis, eFeed, eToken]; (repeat' ((first | (refine callb_of (fits_in _ _ _) (by simp -implicitDefEqProofs (disch := first | (intros; contradiction) | omega) only [am0, am1, am2, am3, am4, am5, am6, Nat.reduceSub, ↓reduceIte, reduceCtorEq, Nat.reduceEqDiff, Nat.reduceBEq, Nat.reduceAdd, Nat.reduceLT, Nat.reduceBNe, Nat.reduceMul, ↓reduceIte, tis, eFeed, eToken]; (repeat' (first | rfl | constructor))) (by first | exact .inl rfl | (right; simp -implicitDefEqProofs (disch := first | (intros; contradiction) | omega) only [am0, am1, am2, am3, am4, am5, am6, Nat.reduceSub, ↓reduceIte, reduceCtorEq, Nat.reduceEqDiff, Nat.reduceBEq, Nat.reduceAdd, Nat.reduceLT, Nat.reduceBNe, Nat.reduceMul, ↓reduceIte, tis, eFeed, eToken])) rfl ?_) | (refine call_of (fits_in _ _ _) (by simp -implicitDefEqProofs (disch := first | (intros; contradiction) | omega) only [am0, am1, am2, am3, am4, am5, am6, Nat.reduceSub, ↓reduceIte, reduceCtorEq, Nat.reduceEqDiff, Nat.reduceBEq, Nat.reduceAdd, Nat.reduceLT, Nat.reduceBNe, Nat.reduceMul, ↓reduceIte, tis, eFeed, eToken]; (repeat' (first | rfl | constructor))) (by first | exact .inl rfl | (right; simp -implicitDefEqProofs (disch := first | (intros; contradiction) | omega) only [am0, am1, am2, am3, am4, am5, am6, Nat.reduceSub, ↓reduceIte, reduceCtorEq, Nat.reduceEqDiff, Nat.reduceBEq, Nat.reduceAdd, Nat.reduceLT, Nat.reduceBNe, Nat.reduceMul, ↓reduceIte, tis, eFeed, eToken])) rfl ?_) | (refine Or.inl (And.intro (a := drawOk _ _ = true) (by kernel_rfl) ?_)) | (refine Or.inl (show drawOk _ _ = true from (by kernel_rfl))) | (refine cond_beq (fun _ => ?_) (fun _ => ?_)) | (refine cond_bne (fun _ => ?_) (fun _ => ?_)) | (refine cond_dec (fun _ => ?_) (fun _ => ?_)) | (refine cond_of (fun _ => ?_) (fun _ => ?_)) | (refine guard_beq (fun _ => ?_) (fun _ => ?_)) | (refine guard_bne (fun _ => ?_) (fun _ => ?_)) | (refine guard_dec (fun _ => ?_) (fun _ => ?_)) | (refine guard_of (fun _ => ?_) (fun _ => ?_)) | (refine guardD_beq (fun _ => ?_) (fun _ => ?_)) | (refine guardD_bne (fun _ => ?_) (fun _ => ?_)) | (refine guardD_dec (fun _ => ?_) (fun _ => ?_)) | (refine guardD_of (fun _ => ?_) (fun _ => ?_))) <;> (try simp -implicitDefEqProofs (disch := first | (intros; contradiction) | omega) only [am0, am1, am2, am3, am4, am5, am6, Nat.reduceSub, ↓reduceIte, reduceCtorEq, Nat.reduceEqDiff, Nat.reduceBEq, Nat.reduceAdd, Nat.reduceLT, Nat.reduceBNe, Nat.reduceMul, ↓reduceIte, tis, eFeed, eToken]))))
     all_goals first | omega | (simp [feedB_no5 hno]; done) | skip
    ·obtain ⟨h9a, h9b, h9c, h9d⟩ := h9
     refine Zo (Z4 tis eFeed.eq_1 eToken.eq_1 @h9a) ?_
     refine callb_of (fits_in f.out[i].rule 0 4) (by exact Zc tis) (.inl rfl) rfl ?_
     refine Zo (Z3 tis @h9c @h9d) ?_
     exact round_normal (i + 1, f.out[i].to) ⟨by simp only; omega, outEnd_take hi he ⟨h9a, h9b, h9c, h9d⟩⟩ (by exact Zc (Z2 tis eFeed.eq_1)) (by show f.out.length - (i + 1) < f.out.length - i; omega)
   ·obtain rfl : i = f.out.length := by simp only at hi'; omega
    rw [List.take_of_length_le (Nat.le_refl _)] at he
    simp -implicitDefEqProofs (disch := first | (intros; contradiction) | omega) only [am0, am1, am2, am3, am4, am5, am6, Nat.reduceSub, ↓reduceIte, reduceCtorEq, Nat.reduceEqDiff, Nat.reduceBEq, Nat.reduceAdd, Nat.reduceLT, Nat.reduceBNe, Nat.reduceMul, ↓reduceIte, tis, eFeed, good e he]
theorem fits_sFeedOk (f : Feed) (hp : f.prog.length ≤ 1099511627776) (hb : f.buf.length ≤ 1099511627776) (ho : f.out.length ≤ 1099511627776) : Fits prog 12 [eFeed false f] (.bool (feedB f)) [] := by
 refine fits_of_code [2] [] [0, 1, 2, 3, 4, 98, 106, 111, 149] func12 rfl rfl rfl (by rfl) (by show 1 ≤ 160; decide) (by rfl) (by rfl) (by show 0 ≤ 1; decide) (by rfl) (run_of ?_)
 refine Zo (Z2 tis eFeed.eq_1) ?_
 refine callb_of (fits_sProgOk f.prog hp) (by exact Zc tis) (.inl rfl) rfl ?_
 cases h1 : progB f.prog with
 | false => simp -implicitDefEqProofs (disch := first | (intros; contradiction) | omega) only [am0, am1, am2, am3, am4, am5, am6, Nat.reduceSub, ↓reduceIte, reduceCtorEq, Nat.reduceEqDiff, Nat.reduceBEq, Nat.reduceAdd, Nat.reduceLT, Nat.reduceBNe, Nat.reduceMul, ↓reduceIte, tis, h1, feedB_no1 h1]
 | true =>
 have hpl := progB_len h1
 by_cases a1 : 0 ≤ f.base
 case neg => simp -implicitDefEqProofs (disch := first | (intros; contradiction) | omega) only [am0, am1, am2, am3, am4, am5, am6, Nat.reduceSub, ↓reduceIte, reduceCtorEq, Nat.reduceEqDiff, Nat.reduceBEq, Nat.reduceAdd, Nat.reduceLT, Nat.reduceBNe, Nat.reduceMul, ↓reduceIte, tis, h1, feedB_no2 (f := f) (by omega)]
 by_cases a2 : f.base ≤ 200
 case neg => simp -implicitDefEqProofs (disch := first | (intros; contradiction) | omega) only [am0, am1, am2, am3, am4, am5, am6, Nat.reduceSub, ↓reduceIte, reduceCtorEq, Nat.reduceEqDiff, Nat.reduceBEq, Nat.reduceAdd, Nat.reduceLT, Nat.reduceBNe, Nat.reduceMul, ↓reduceIte, tis, h1, feedB_no2 (f := f) (by omega)]
 by_cases a3 : (f.buf.length : Int) ≤ 200
 case neg => simp -implicitDefEqProofs (disch := first | (intros; contradiction) | omega) only [am0, am1, am2, am3, am4, am5, am6, Nat.reduceSub, ↓reduceIte, reduceCtorEq, Nat.reduceEqDiff, Nat.reduceBEq, Nat.reduceAdd, Nat.reduceLT, Nat.reduceBNe, Nat.reduceMul, ↓reduceIte, tis, h1, feedB_no2 (f := f) (by omega)]
 by_cases a4 : f.base + f.buf.length ≤ 200
 case neg => simp -implicitDefEqProofs (disch := first | (intros; contradiction) | omega) only [am0, am1, am2, am3, am4, am5, am6, Nat.reduceSub, ↓reduceIte, reduceCtorEq, Nat.reduceEqDiff, Nat.reduceBEq, Nat.reduceAdd, Nat.reduceLT, Nat.reduceBNe, Nat.reduceMul, ↓reduceIte, tis, h1, feedB_no2 (f := f) (by omega)]
 by_cases a5 : 0 ≤ f.pc
 case neg => simp -implicitDefEqProofs (disch := first | (intros; contradiction) | omega) only [am0, am1, am2, am3, am4, am5, am6, Nat.reduceSub, ↓reduceIte, reduceCtorEq, Nat.reduceEqDiff, Nat.reduceBEq, Nat.reduceAdd, Nat.reduceLT, Nat.reduceBNe, Nat.reduceMul, ↓reduceIte, tis, h1, feedB_no3 (f := f) (doorI_out (by omega))]
 by_cases a6 : f.pc < f.prog.length
 case neg => simp -implicitDefEqProofs (disch := first | (intros; contradiction) | omega) only [am0, am1, am2, am3, am4, am5, am6, Nat.reduceSub, ↓reduceIte, reduceCtorEq, Nat.reduceEqDiff, Nat.reduceBEq, Nat.reduceAdd, Nat.reduceLT, Nat.reduceBNe, Nat.reduceMul, ↓reduceIte, tis, h1, feedB_no3 (f := f) (doorI_out (by omega))]
 obtain ⟨q, hq⟩ : ∃ q : Nat, f.pc = q := ⟨f.pc.toNat, by omega⟩
 have hq2 : q < f.prog.length := by omega
 refine Zo (Z2 tis @h1) ?_
 refine callb_of (fits_sDoor f.prog q hp hq2) (by exact Zc (Z2 tis @hq)) (.inl rfl) rfl ?_
 have hdq : doorI f.prog f.pc = doorB f.prog q := by rw [hq, doorI_nat]
 cases h3 : doorB f.prog q with
 | false => simp -implicitDefEqProofs (disch := first | (intros; contradiction) | omega) only [am0, am1, am2, am3, am4, am5, am6, Nat.reduceSub, ↓reduceIte, reduceCtorEq, Nat.reduceEqDiff, Nat.reduceBEq, Nat.reduceAdd, Nat.reduceLT, Nat.reduceBNe, Nat.reduceMul, ↓reduceIte, tis, h3, feedB_no3 (f := f) (hdq.trans h3)]
 | true =>
 by_cases b1 : 0 ≤ f.at_
 case neg => simp -implicitDefEqProofs (disch := first | (intros; contradiction) | omega) only [am0, am1, am2, am3, am4, am5, am6, Nat.reduceSub, ↓reduceIte, reduceCtorEq, Nat.reduceEqDiff, Nat.reduceBEq, Nat.reduceAdd, Nat.reduceLT, Nat.reduceBNe, Nat.reduceMul, ↓reduceIte, tis, h3, feedB_no4 (f := f) (by omega)]
 by_cases b2 : f.at_ ≤ f.buf.length
 case neg => simp -implicitDefEqProofs (disch := first | (intros; contradiction) | omega) only [am0, am1, am2, am3, am4, am5, am6, Nat.reduceSub, ↓reduceIte, reduceCtorEq, Nat.reduceEqDiff, Nat.reduceBEq, Nat.reduceAdd, Nat.reduceLT, Nat.reduceBNe, Nat.reduceMul, ↓reduceIte, tis, h3, feedB_no4 (f := f) (by omega)]
 by_cases b3 : 0 ≤ f.to
 case neg => simp -implicitDefEqProofs (disch := first | (intros; contradiction) | omega) only [am0, am1, am2, am3, am4, am5, am6, Nat.reduceSub, ↓reduceIte, reduceCtorEq, Nat.reduceEqDiff, Nat.reduceBEq, Nat.reduceAdd, Nat.reduceLT, Nat.reduceBNe, Nat.reduceMul, ↓reduceIte, tis, h3, feedB_no4 (f := f) (by omega)]
 by_cases b4 : f.to ≤ f.at_
 case neg => simp -implicitDefEqProofs (disch := first | (intros; contradiction) | omega) only [am0, am1, am2, am3, am4, am5, am6, Nat.reduceSub, ↓reduceIte, reduceCtorEq, Nat.reduceEqDiff, Nat.reduceBEq, Nat.reduceAdd, Nat.reduceLT, Nat.reduceBNe, Nat.reduceMul, ↓reduceIte, tis, h3, feedB_no4 (f := f) (by omega)]
 by_cases b5 : -1 ≤ f.rule
 case neg => simp -implicitDefEqProofs (disch := first | (intros; contradiction) | omega) only [am0, am1, am2, am3, am4, am5, am6, Nat.reduceSub, ↓reduceIte, reduceCtorEq, Nat.reduceEqDiff, Nat.reduceBEq, Nat.reduceAdd, Nat.reduceLT, Nat.reduceBNe, Nat.reduceMul, ↓reduceIte, tis, h3, feedB_no4 (f := f) (by omega)]
 by_cases b6 : f.rule ≤ 4
 case neg => simp -implicitDefEqProofs (disch := first | (intros; contradiction) | omega) only [am0, am1, am2, am3, am4, am5, am6, Nat.reduceSub, ↓reduceIte, reduceCtorEq, Nat.reduceEqDiff, Nat.reduceBEq, Nat.reduceAdd, Nat.reduceLT, Nat.reduceBNe, Nat.reduceMul, ↓reduceIte, tis, h3, feedB_no4 (f := f) (by omega)]
 by_cases h8 : (f.rule = -1 ↔ f.to = 0)
 case neg =>
  have hr : (0 ≤ f.rule ∧ ¬ 0 < f.to) ∨ (f.rule < 0 ∧ 0 < f.to) := by omega
  rcases hr with ⟨hr1, hr2⟩ | ⟨hr1, hr2⟩
  ·simp -implicitDefEqProofs (disch := first | (intros; contradiction) | omega) only [am0, am1, am2, am3, am4, am5, am6, Nat.reduceSub, ↓reduceIte, reduceCtorEq, Nat.reduceEqDiff, Nat.reduceBEq, Nat.reduceAdd, Nat.reduceLT, Nat.reduceBNe, Nat.reduceMul, ↓reduceIte, tis, h3, bne, feedB_no4 (f := f) (by omega)]
  ·simp -implicitDefEqProofs (disch := first | (intros; contradiction) | omega) only [am0, am1, am2, am3, am4, am5, am6, Nat.reduceSub, ↓reduceIte, reduceCtorEq, Nat.reduceEqDiff, Nat.reduceBEq, Nat.reduceAdd, Nat.reduceLT, Nat.reduceBNe, Nat.reduceMul, ↓reduceIte, tis, h3, bne, feedB_no4 (f := f) (by omega)]
 by_cases h5 : f.at_ = 0 → f.pc = 0
 case neg =>
  have h5a : f.at_ = 0 := by omega
  have h5b : f.pc ≠ 0 := by omega
  have hr : f.rule < 0 ∧ ¬ 0 < f.to := by omega
  obtain ⟨hr1, hr2⟩ := hr
  simp -implicitDefEqProofs (disch := first | (intros; contradiction) | omega) only [am0, am1, am2, am3, am4, am5, am6, Nat.reduceSub, ↓reduceIte, reduceCtorEq, Nat.reduceEqDiff, Nat.reduceBEq, Nat.reduceAdd, Nat.reduceLT, Nat.reduceBNe, Nat.reduceMul, ↓reduceIte, tis, h3, bne, feedB_no4 (f := f) (by omega)]
 have good := fun e => feedB_eq (f := f) (e := e) h1 ⟨a1, a4⟩ (hdq.trans h3) ⟨b1, b2, h5, b3, b4, b5, b6, h8⟩
 have hr : ((0 ≤ f.rule ∧ 0 < f.to) ∨ (f.rule < 0 ∧ ¬ 0 < f.to)) ∧ ((f.at_ = 0 ∧ f.pc = 0) ∨ f.at_ ≠ 0) := by omega
 obtain ⟨hr1, hr2⟩ := hr
 rcases hr1 with ⟨hr1, hr3⟩ | ⟨hr1, hr3⟩ <;> rcases hr2 with hr2 | hr2
 all_goals first | omega | skip
 all_goals
  simp -implicitDefEqProofs (disch := first | (intros; contradiction) | omega) only [am0, am1, am2, am3, am4, am5, am6, Nat.reduceSub, ↓reduceIte, reduceCtorEq, Nat.reduceEqDiff, Nat.reduceBEq, Nat.reduceAdd, Nat.reduceLT, Nat.reduceBNe, Nat.reduceMul, ↓reduceIte, tis, h3, bne]
  refine run_loop (α := Nat × Int) (fun g => g.1 ≤ f.out.length ∧ outEnd (f.out.take g.1) 0 = some g.2) (fun g => [(1, .box (eFeed false f)), (3, .int .i64 g.2), (4, .int .i64 g.1)]) (fun g => f.out.length - g.1) (0, 0) ⟨Nat.zero_le _, by simp [outEnd]⟩ ?_ ?_
  ·exact Zc (Z2 tis eFeed.eq_1)
  ·rintro ⟨i, e⟩ ⟨hi', he⟩
   by_cases hi : i < f.out.length
   ·simp only at he
    by_cases h9a : f.out[i].frm = e
    case neg => simp -implicitDefEqProofs (disch := first | (intros; contradiction) | omega) only [am0, am1, am2, am3, am4, am5, am6, Nat.reduceSub, ↓reduceIte, reduceCtorEq, Nat.reduceEqDiff, Nat.reduceBEq, Nat.reduceAdd, Nat.reduceLT, Nat.reduceBNe, Nat.reduceMul, ↓reduceIte, tis, eFeed, eToken, feedB_no5 (outEnd_fail hi he (by omega))]
    by_cases h9b : e < f.out[i].to
    case neg => simp -implicitDefEqProofs (disch := first | (intros; contradiction) | omega) only [am0, am1, am2, am3, am4, am5, am6, Nat.reduceSub, ↓reduceIte, reduceCtorEq, Nat.reduceEqDiff, Nat.reduceBEq, Nat.reduceAdd, Nat.reduceLT, Nat.reduceBNe, Nat.reduceMul, ↓reduceIte, tis, eFeed, eToken, feedB_no5 (outEnd_fail hi he (by omega))]
    by_cases h9c : 0 ≤ f.out[i].rule
    case neg => simp -implicitDefEqProofs (disch := first | (intros; contradiction) | omega) only [am0, am1, am2, am3, am4, am5, am6, Nat.reduceSub, ↓reduceIte, reduceCtorEq, Nat.reduceEqDiff, Nat.reduceBEq, Nat.reduceAdd, Nat.reduceLT, Nat.reduceBNe, Nat.reduceMul, ↓reduceIte, tis, eFeed, eToken, feedB_no5 (outEnd_fail hi he (by omega))]
    by_cases h9d : f.out[i].rule ≤ 4
    case neg => simp -implicitDefEqProofs (disch := first | (intros; contradiction) | omega) only [am0, am1, am2, am3, am4, am5, am6, Nat.reduceSub, ↓reduceIte, reduceCtorEq, Nat.reduceEqDiff, Nat.reduceBEq, Nat.reduceAdd, Nat.reduceLT, Nat.reduceBNe, Nat.reduceMul, ↓reduceIte, tis, eFeed, eToken, feedB_no5 (outEnd_fail hi he (by omega))]
    refine Zo (Z3 tis eFeed.eq_1 eToken.eq_1) ?_
    exact round_normal (i + 1, f.out[i].to) ⟨by simp only; omega, outEnd_take hi he ⟨h9a, h9b, h9c, h9d⟩⟩ (by exact Zc (Z2 tis eFeed.eq_1)) (by show f.out.length - (i + 1) < f.out.length - i; omega)
   ·obtain rfl : i = f.out.length := by simp only at hi'; omega
    rw [List.take_of_length_le (Nat.le_refl _)] at he
    simp -implicitDefEqProofs (disch := first | (intros; contradiction) | omega) only [am0, am1, am2, am3, am4, am5, am6, Nat.reduceSub, ↓reduceIte, reduceCtorEq, Nat.reduceEqDiff, Nat.reduceBEq, Nat.reduceAdd, Nat.reduceLT, Nat.reduceBNe, Nat.reduceMul, ↓reduceIte, tis, eFeed, good e he]

theorem fits_copiedTok (p : List Token) (hp : p.length ≤ 1099511627776) : Fits prog 46 [.sl false 3 (p.map eToken)] (.sl true 3 (p.map eToken)) [] := by
 refine fits_of_code [2] [] [0, 2, 3, 6] func46 rfl rfl rfl (by rfl) (by show 1 ≤ 14; decide) (by rfl) (by rfl) (by show 0 ≤ 1; decide) (by rfl) (run_of ?_)
 cases p with
 | nil => exact Zc tis
 | cons x r =>
  have hl : ((x :: r).length : Int) ≠ 0 := by simp; omega
  generalize (x :: r) = p at *
  refine Zo tis ?_
  refine Zo (Z3 tis @LLlenrep fls) ?_
  simp [List.take_of_length_le]
theorem fits_feedCopy (f : Feed) (hp : f.prog.length ≤ 1099511627776) (ho : f.out.length ≤ 1099511627776) : Fits prog 24 [eFeed false f] (eFeed true f) [] := by
 unfold eFeed
 refine fits_of_cell 2 26 [] [0, 1, 2, 3] func24 rfl rfl rfl (by show 2 < 14; decide) (by show 1 ≤ 14; decide) (by rfl) (by rfl) (by show 0 ≤ 1; decide) (by rfl) (run_of ?_)
 refine Zo (Z2 tis fls) ?_
 refine callB (fits_copiedIns f.prog hp) ?_
 refine Zo (Z2 tis fls) ?_
 refine callB (fits_copiedTok f.out ho) ?_
 exact Zc (Z2 tis fls)
theorem outEnd_len : ∀ (l : List Token) (e b : Int), outEnd l e = some b → (l.length : Int) + e ≤ b
 | [], e, b, h => by simp only [outEnd, Option.some.injEq] at h; subst h; simp
 | t :: r, e, b, h => by
  unfold outEnd at h
  by_cases ht : t.frm = e ∧ e < t.to ∧ 0 ≤ t.rule ∧ t.rule ≤ 4
  ·rw [if_pos ht] at h
   have := outEnd_len r _ _ h
   simp only [List.length_cons, Int.natCast_add, Int.natCast_one]; omega
  ·rw [if_neg ht] at h; exact absurd h (by simp)
theorem feedB_FI {f : Feed} (h : feedB f = true) : FI f := by
 unfold feedB at h
 simp only [Bool.and_eq_true, decide_eq_true_eq, beq_iff_eq] at h
 obtain ⟨h1, h2, h3, ⟨h4, h5, h6, h7, h8, h9, h10, h11⟩, h12⟩ := h
 have := outEnd_len _ _ _ h12
 exact ⟨h1, h3, ⟨h4, h5⟩, ⟨h7, h8⟩, ⟨h9, h10⟩, h11, h2, by omega⟩
theorem FI.more {f : Feed} (h : FI f) (w : List UInt8) (hw : f.base + f.buf.length + w.length ≤ 200) : FI { f with buf := f.buf ++ w } := by
 obtain ⟨h1, h2, h3, h4, h5, h6, h7, h8⟩ := h
 refine ⟨h1, h2, ?_, h4, h5, h6, ?_, h8⟩
 ·simp only [List.length_append]; omega
 ·simp only [List.length_append]; omega
def pushP (f : Feed) (w : List UInt8) : Feed := if feedB f = true then (if f.stuck = true ∨ f.base + f.buf.length + w.length > 200 then f else goF { f with buf := f.buf ++ w }) else feedZ
theorem fits_feedPush (f : Feed) (w : List UInt8) (hp : f.prog.length ≤ 1048576) (hb : f.buf.length ≤ 1048576) (ho : f.out.length ≤ 1048576) (hw : w.length ≤ 1048576) : Fits prog 15 [eFeed false f, .str w] (eFeed true (pushP f w)) [] := by
 have cO := fits_feedOk f (by omega) (by omega) (by omega)
 have cC := fits_feedCopy f (by omega) (by omega)
 unfold pushP
 cases h1 : feedB f with
 | false =>
  unfold eFeed at cO ⊢
  refine fits_of_cell 4 26 [] [0, 1, 2, 4, 5, 8, 25] func15 rfl rfl rfl (by show 4 < 35; decide) (by show 2 ≤ 35; decide) (by rfl) (by rfl) (by show 0 ≤ 2; decide) (by rfl) (run_of ?_)
  refine Zo (Z2 tis fls) ?_
  refine callB cO ?_
  exact Zc (Z4 tis fls @h1 feedZ.eq_1)
 | true =>
  have hf := feedB_FI h1
  have hba := hf.base
  unfold eFeed at cO cC
  rcases Bool.eq_false_or_eq_true f.stuck with hs | hs
  ·rw [if_pos rfl, if_pos (.inl hs)]
   simp only [hs] at cO cC
   unfold eFeed
   simp only [hs]
   refine fits_of_cell 4 26 [] [0, 1, 2, 4, 5, 8, 25] func15 rfl rfl rfl (by show 4 < 35; decide) (by show 2 ≤ 35; decide) (by rfl) (by rfl) (by show 0 ≤ 2; decide) (by rfl) (run_of ?_)
   refine Zo (Z2 tis fls) ?_
   refine callB cO ?_
   refine Zo (Z3 tis fls @h1) ?_
   refine callB cC ?_
   exact Zc (Z3 tis fls @h1)
  ·simp only [hs] at cO cC
   by_cases h2 : f.base + f.buf.length + w.length > 200
   ·rw [if_pos rfl, if_pos (.inr h2)]
    unfold eFeed
    simp only [hs]
    refine fits_of_cell 4 26 [] [0, 1, 2, 4, 5, 8, 25] func15 rfl rfl rfl (by show 4 < 35; decide) (by show 2 ≤ 35; decide) (by rfl) (by rfl) (by show 0 ≤ 2; decide) (by rfl) (run_of ?_)
    refine Zo (Z2 tis fls) ?_
    refine callB cO ?_
    refine Zo (Z3 tis fls @h1) ?_
    refine callB cC ?_
    exact Zc (Z3 tis fls @h1)
   ·rw [if_pos rfl, if_neg (fun h => by rcases h with h | h; exact absurd (hs.symm.trans h) (by decide); exact h2 h)]
    have hm := hf.more w (by omega)
    have cG := fits_goOn _ hm
    have hgi := goF_FI hm
    generalize hc : goF { f with buf := f.buf ++ w } = c at *
    have hcp := (progB_parts hgi.prog).1
    have hco := hgi.out
    have hcb := hgi.base
    have cC2 := fits_feedCopy c (by omega) (by omega)
    unfold eFeed at cC2 cG ⊢
    simp only [hs] at cG ⊢
    refine fits_of_cell 4 26 [] [0, 1, 2, 4, 5, 8, 25] func15 rfl rfl rfl (by show 4 < 35; decide) (by show 2 ≤ 35; decide) (by rfl) (by rfl) (by show 0 ≤ 2; decide) (by rfl) (run_of ?_)
    refine Zo (Z2 tis fls) ?_
    refine callB cO ?_
    refine Zo (Z3 tis fls @h1) ?_
    refine callB cC ?_
    refine Zo (Z3 tis fls @h1) ?_
    refine callM 0 cG ?_
    refine Zo (Z3 tis fls @LLdrosin) ?_
    refine callB cC2 ?_
    exact Zc (Z2 tis fls)
theorem fits_l11Copy (f : Feed) (hp : f.prog.length ≤ 1048576) (ho : f.out.length ≤ 1048576) : Fits prog 29 [eFeed false f] (eFeed true f) [] := by
 unfold eFeed
 refine fits_of_cell 2 26 [] [0, 1, 2, 3] func29 rfl rfl rfl (by show 2 < 16; decide) (by show 1 ≤ 16; decide) (by rfl) (by rfl) (by show 0 ≤ 1; decide) (by rfl) (run_of ?_)
 exact Zc (Z2 tis fls)
theorem fits_l11Cut (f : Feed) (h : FI f) : Fits prog 30 [eFeed true f] (eFeed true (cutF f)) [] := by
 have hb := h.base
 have ho := h.out
 have h1 := h.to1
 have h2 := h.at1
 have h3 := h.rule
 unfold eFeed
 by_cases hr : f.rule = -1
 ·have e : cutF f = { f with stuck := true } := if_pos hr
  rw [e]
  refine fits_of_cell 2 26 [] [0, 1, 2, 5] func30 rfl rfl rfl (by show 2 < 40; decide) (by show 1 ≤ 40; decide) (by rfl) (by rfl) (by show 0 ≤ 1; decide) (by rfl) (run_of ?_)
  exact Zc (Z3 tis fls @hr)
 ·have e : cutF f = { f with out := f.out ++ [⟨f.rule, f.base, f.base + f.to⟩], base := f.base + f.to, buf := f.buf.drop f.to.toNat, pc := 0, at_ := 0, to := 0, rule := -1 } := if_neg hr
  rw [e]
  refine fits_of_cell 2 26 [] [0, 1, 2, 5] func30 rfl rfl rfl (by show 2 < 40; decide) (by show 1 ≤ 40; decide) (by rfl) (by rfl) (by show 0 ≤ 1; decide) (by rfl) (run_of ?_)
  refine Zo (Z2 tis fls) ?_
  simp [eToken]
theorem doorB_no4 {p : List Ins} {i : Nat} (hi : i < p.length) (h : doorB p i = true) : p[i].op ≠ 4 := by
 rw [doorB_at hi] at h
 intro e
 rw [e] at h
 exact absurd h (by simp)
def stP (f : Feed) : Feed := if (f.buf.length : Int) ≤ f.at_ then markF f else stepF f
theorem fits_l11Step (g : Feed) (hg : FI g) : Fits prog 53 [eFeed true g] (.tup [eFeed true (stP g), .bool (decide (¬ (g.buf.length : Int) ≤ g.at_))]) [] := by
 obtain ⟨hp, hget⟩ := hg.get
 have hpc := hg.pc
 have hat := hg.at1
 have hba := hg.base
 have hout := hg.out
 have hlen := (progB_parts hg.prog).1
 have h1 := hg.get1
 have hx : g.prog[g.pc.toNat]? = some g.prog[g.pc.toNat] := List.getElem?_eq_getElem hp
 have hm := hg.mark
 have hms := markF_same g
 have gx : (g.prog.map eIns)[g.pc.toNat]? = some (eIns g.prog[g.pc.toNat]) := by rw [List.getElem?_map, hx]; rfl
 have gl : (g.prog.map eIns).length = g.prog.length := by simp
 simp only [eIns] at gx
 have hb2 : ¬ (g.buf.length : Int) ≤ g.at_ → g.at_.toNat < g.buf.length := by omega
 have hby : byteF g = ((g.buf.getD g.at_.toNat 0).toNat : Int) := rfl
 have hlt : (g.buf.getD g.at_.toNat 0).toNat < 256 := (g.buf.getD g.at_.toNat 0).toNat_lt
 have htF : toF g = goesP g.prog (byteF g) g.prog.length (getP g + 1) := rfl
 rcases hget with ⟨e1, eg, ⟨hq, _⟩, _⟩ | ⟨e2, eg⟩
 ·have egi : ((getP g : Nat) : Int) = g.pc + 1 := by rw [eg]; omega
  by_cases h0 : 0 < g.at_
  ·have em := markF_1 hx e1 h0
   by_cases hl : (g.buf.length : Int) ≤ g.at_
   ·have es : stP g = { g with rule := g.prog[g.pc.toNat].a, to := g.at_ } := by unfold stP; rw [if_pos hl, em]
    rw [es]
    unfold eFeed
    refine fits_of_pair 2 26 3 [] [0, 1, 2, 3, 4, 5, 6, 7, 16, 19, 37, 53, 73, 94, 109] func53 rfl rfl rfl (by show 2 < 119; decide) (by show 3 < 119; decide) (by show 1 ≤ 119; decide) (by rfl) (by rfl) (by show 0 ≤ 1; decide) (by rfl) (run_of ?_)
    exact Zc (Z8 retCB.eq_1 tis fls @gx @gl @e1 @h0 @hl)
   ·have es : stP g = stepF g := if_neg hl
    rw [es]
    have hb3 := hb2 hl
    have cC := fits_l11Cut (markF g) hm
    rw [em] at cC
    unfold eFeed at cC ⊢
    refine fits_of_pair 2 26 3 [] [0, 1, 2, 3, 4, 5, 6, 7, 16, 19, 37, 53, 73, 94, 109] func53 rfl rfl rfl (by show 2 < 119; decide) (by show 3 < 119; decide) (by show 1 ≤ 119; decide) (by rfl) (by rfl) (by show 0 ≤ 1; decide) (by rfl) (run_of ?_)
    refine Zo (Z8 retCB.eq_1 tis fls @gx @gl @e1 @h0 @hl) ?_
    refine run_loop (α := Nat × Nat) (fun x => toF g = goesP g.prog (byteF g) x.1 x.2 ∧ getP g + 1 ≤ x.2 ∧ x.2 < g.prog.length ∧ g.prog.length ≤ x.1 + x.2 ∧ ∀ k (hk : k < g.prog.length), getP g + 1 ≤ k → k < x.2 → g.prog[k].op = 3) (fun x => [(1, .box (.agg [.sl true 4 (g.prog.map eIns), .str g.buf, .int .i64 g.base, .int .i64 g.pc, .int .i64 g.at_, .int .i64 g.prog[g.pc.toNat].a, .int .i64 g.at_, .sl true 3 (g.out.map eToken), .bool g.stuck])), (2, .box (.agg [.sl true 4 [], .str [], .int .i64 0, .int .i64 0, .int .i64 0, .int .i64 0, .int .i64 0, .sl true 3 [], .bool false])), (3, .bool false), (4, .int .i64 (g.pc + 1)), (5, .int .i64 ((g.buf.getD g.at_.toNat 0).toNat : Int)), (6, .int .i64 x.2)]) (fun x => g.prog.length - x.2) (g.prog.length, getP g + 1) ⟨htF, Nat.le_refl _, h1, by simp only; omega, fun k _ a b => by simp only at b; omega⟩ ?_ ?_
    ·exact Zc (Z2 tis @egi)
    ·rintro ⟨n, i⟩ ⟨j1, j2, j3, j4, j5⟩
     simp only at j1 j2 j3 j4 j5
     obtain ⟨n, rfl⟩ : ∃ k, n = k + 1 := ⟨n - 1, by omega⟩
     rw [goesP_at j3] at j1
     by_cases h5 : g.prog[i].op = 3
     ·rw [if_pos h5] at j1
      have hn := last_stop hg.prog j3 (by rw [h5]; decide)
      by_cases h6 : g.prog[i].a ≤ byteF g ∧ byteF g ≤ g.prog[i].b
      ·rw [if_pos h6] at j1
       have ht : ¬ toF g < 0 := by
        have hi := (progB_parts hg.prog).2.2.2 _ j3
        rw [j1, insB_at j3] at *
        simp [h5, doorI] at hi
        omega
       rw [stepF_2 ht, em]
       rw [hby] at h6
       exact Zc (Z7 retCB.eq_1 tis fls eIns.eq_1 @h5 @h6 @j1)
      ·rw [if_neg h6] at j1
       rw [hby] at h6
       have nx : goesP g.prog (byteF g) n (i + 1) = goesP g.prog (byteF g) n (i + 1) := rfl
       by_cases h7 : g.prog[i].a ≤ ((g.buf.getD g.at_.toNat 0).toNat : Int)
       ·have h8 : ¬ ((g.buf.getD g.at_.toNat 0).toNat : Int) ≤ g.prog[i].b := fun h => h6 ⟨h7, h⟩
        refine Zo (Z7 retCB.eq_1 tis fls eIns.eq_1 @h5 @h7 @h8) ?_
        refine round_normal (n, i + 1) ⟨j1, by simp only; omega, hn, by simp only; omega, fun k hk a b => by simp only at b; rcases Nat.lt_or_ge k i with h | h; exact j5 k hk a h; (have : k = i := by omega); subst this; exact h5⟩ ?_ (by show g.prog.length - (i + 1) < g.prog.length - i; omega)
        exact Zc tis
       ·refine Zo (Z6 retCB.eq_1 tis fls eIns.eq_1 @h5 @h7) ?_
        refine round_normal (n, i + 1) ⟨j1, by simp only; omega, hn, by simp only; omega, fun k hk a b => by simp only at b; rcases Nat.lt_or_ge k i with h | h; exact j5 k hk a h; (have : k = i := by omega); subst this; exact h5⟩ ?_ (by show g.prog.length - (i + 1) < g.prog.length - i; omega)
        exact Zc tis
     ·rw [if_neg h5] at j1
      have cD := fits_sDoor g.prog i (by omega) j3
      refine Zo (Z5 retCB.eq_1 tis fls eIns.eq_1 @h5) ?_
      refine run_loop (α := Nat) (fun k => getP g + 1 ≤ k ∧ k ≤ i) (fun k => [(1, .box (.agg [.sl true 4 (g.prog.map eIns), .str g.buf, .int .i64 g.base, .int .i64 g.pc, .int .i64 g.at_, .int .i64 g.prog[g.pc.toNat].a, .int .i64 g.at_, .sl true 3 (g.out.map eToken), .bool g.stuck])), (2, .box (.agg [.sl true 4 [], .str [], .int .i64 0, .int .i64 0, .int .i64 0, .int .i64 0, .int .i64 0, .sl true 3 [], .bool false])), (3, .bool false), (7, .int .i64 k)]) (fun k => i - k) (getP g + 1) ⟨Nat.le_refl _, j2⟩ ?_ ?_
      ·exact Zc (Z2 tis @egi)
      ·rintro k ⟨k1, k2⟩
       have k3 : k < g.prog.length := by omega
       rcases Nat.lt_or_ge k i with hk | hk
       ·have h7 := j5 k k3 k1 hk
        refine Zo (Z5 retCB.eq_1 tis fls eIns.eq_1 @h7) ?_
        refine round_normal (k + 1) ⟨by omega, by omega⟩ ?_ (by show i - (k + 1) < i - k; omega)
        exact Zc tis
       ·obtain rfl : k = i := by omega
        refine Zo (Z5 retCB.eq_1 tis fls eIns.eq_1 @h5) ?_
        refine callB cD ?_
        cases hd : doorB g.prog k with
        | true =>
         rw [if_pos hd] at j1
         have h4 := doorB_no4 j3 hd
         have ht : ¬ toF g < 0 := by rw [j1]; omega
         rw [stepF_2 ht, em]
         exact Zc (Z6 retCB.eq_1 tis fls eIns.eq_1 @h4 @j1)
        | false =>
         rw [if_neg (by simp [hd])] at j1
         have ht : toF g < 0 := by rw [j1]; omega
         rw [stepF_1 ht, em]
         refine Zo (Z3 retCB.eq_1 tis fls) ?_
         refine callV cC ?_
         exact Zc (Z3 retCB.eq_1 tis fls)
  ·have em := markF_2 hx (fun h => h0 h.2)
   by_cases hl : (g.buf.length : Int) ≤ g.at_
   ·have es : stP g = g := by unfold stP; rw [if_pos hl, em]
    rw [es]
    unfold eFeed
    refine fits_of_pair 2 26 3 [] [0, 1, 2, 3, 4, 5, 6, 7, 16, 19, 37, 53, 73, 94, 109] func53 rfl rfl rfl (by show 2 < 119; decide) (by show 3 < 119; decide) (by show 1 ≤ 119; decide) (by rfl) (by rfl) (by show 0 ≤ 1; decide) (by rfl) (run_of ?_)
    exact Zc (Z8 retCB.eq_1 tis fls @gx @gl @e1 @h0 @hl)
   ·have es : stP g = stepF g := if_neg hl
    rw [es]
    have hb3 := hb2 hl
    have cC := fits_l11Cut (markF g) hm
    rw [em] at cC
    unfold eFeed at cC ⊢
    refine fits_of_pair 2 26 3 [] [0, 1, 2, 3, 4, 5, 6, 7, 16, 19, 37, 53, 73, 94, 109] func53 rfl rfl rfl (by show 2 < 119; decide) (by show 3 < 119; decide) (by show 1 ≤ 119; decide) (by rfl) (by rfl) (by show 0 ≤ 1; decide) (by rfl) (run_of ?_)
    refine Zo (Z8 retCB.eq_1 tis fls @gx @gl @e1 @h0 @hl) ?_
    refine run_loop (α := Nat × Nat) (fun x => toF g = goesP g.prog (byteF g) x.1 x.2 ∧ getP g + 1 ≤ x.2 ∧ x.2 < g.prog.length ∧ g.prog.length ≤ x.1 + x.2 ∧ ∀ k (hk : k < g.prog.length), getP g + 1 ≤ k → k < x.2 → g.prog[k].op = 3) (fun x => [(1, .box (.agg [.sl true 4 (g.prog.map eIns), .str g.buf, .int .i64 g.base, .int .i64 g.pc, .int .i64 g.at_, .int .i64 g.rule, .int .i64 g.to, .sl true 3 (g.out.map eToken), .bool g.stuck])), (2, .box (.agg [.sl true 4 [], .str [], .int .i64 0, .int .i64 0, .int .i64 0, .int .i64 0, .int .i64 0, .sl true 3 [], .bool false])), (3, .bool false), (4, .int .i64 (g.pc + 1)), (5, .int .i64 ((g.buf.getD g.at_.toNat 0).toNat : Int)), (6, .int .i64 x.2)]) (fun x => g.prog.length - x.2) (g.prog.length, getP g + 1) ⟨htF, Nat.le_refl _, h1, by simp only; omega, fun k _ a b => by simp only at b; omega⟩ ?_ ?_
    ·exact Zc (Z2 tis @egi)
    ·rintro ⟨n, i⟩ ⟨j1, j2, j3, j4, j5⟩
     simp only at j1 j2 j3 j4 j5
     obtain ⟨n, rfl⟩ : ∃ k, n = k + 1 := ⟨n - 1, by omega⟩
     rw [goesP_at j3] at j1
     by_cases h5 : g.prog[i].op = 3
     ·rw [if_pos h5] at j1
      have hn := last_stop hg.prog j3 (by rw [h5]; decide)
      by_cases h6 : g.prog[i].a ≤ byteF g ∧ byteF g ≤ g.prog[i].b
      ·rw [if_pos h6] at j1
       have ht : ¬ toF g < 0 := by
        have hi := (progB_parts hg.prog).2.2.2 _ j3
        rw [j1, insB_at j3] at *
        simp [h5, doorI] at hi
        omega
       rw [stepF_2 ht, em]
       rw [hby] at h6
       exact Zc (Z7 retCB.eq_1 tis fls eIns.eq_1 @h5 @h6 @j1)
      ·rw [if_neg h6] at j1
       rw [hby] at h6
       have nx : goesP g.prog (byteF g) n (i + 1) = goesP g.prog (byteF g) n (i + 1) := rfl
       by_cases h7 : g.prog[i].a ≤ ((g.buf.getD g.at_.toNat 0).toNat : Int)
       ·have h8 : ¬ ((g.buf.getD g.at_.toNat 0).toNat : Int) ≤ g.prog[i].b := fun h => h6 ⟨h7, h⟩
        refine Zo (Z7 retCB.eq_1 tis fls eIns.eq_1 @h5 @h7 @h8) ?_
        refine round_normal (n, i + 1) ⟨j1, by simp only; omega, hn, by simp only; omega, fun k hk a b => by simp only at b; rcases Nat.lt_or_ge k i with h | h; exact j5 k hk a h; (have : k = i := by omega); subst this; exact h5⟩ ?_ (by show g.prog.length - (i + 1) < g.prog.length - i; omega)
        exact Zc tis
       ·refine Zo (Z6 retCB.eq_1 tis fls eIns.eq_1 @h5 @h7) ?_
        refine round_normal (n, i + 1) ⟨j1, by simp only; omega, hn, by simp only; omega, fun k hk a b => by simp only at b; rcases Nat.lt_or_ge k i with h | h; exact j5 k hk a h; (have : k = i := by omega); subst this; exact h5⟩ ?_ (by show g.prog.length - (i + 1) < g.prog.length - i; omega)
        exact Zc tis
     ·rw [if_neg h5] at j1
      have cD := fits_sDoor g.prog i (by omega) j3
      refine Zo (Z5 retCB.eq_1 tis fls eIns.eq_1 @h5) ?_
      refine run_loop (α := Nat) (fun k => getP g + 1 ≤ k ∧ k ≤ i) (fun k => [(1, .box (.agg [.sl true 4 (g.prog.map eIns), .str g.buf, .int .i64 g.base, .int .i64 g.pc, .int .i64 g.at_, .int .i64 g.rule, .int .i64 g.to, .sl true 3 (g.out.map eToken), .bool g.stuck])), (2, .box (.agg [.sl true 4 [], .str [], .int .i64 0, .int .i64 0, .int .i64 0, .int .i64 0, .int .i64 0, .sl true 3 [], .bool false])), (3, .bool false), (7, .int .i64 k)]) (fun k => i - k) (getP g + 1) ⟨Nat.le_refl _, j2⟩ ?_ ?_
      ·exact Zc (Z2 tis @egi)
      ·rintro k ⟨k1, k2⟩
       have k3 : k < g.prog.length := by omega
       rcases Nat.lt_or_ge k i with hk | hk
       ·have h7 := j5 k k3 k1 hk
        refine Zo (Z5 retCB.eq_1 tis fls eIns.eq_1 @h7) ?_
        refine round_normal (k + 1) ⟨by omega, by omega⟩ ?_ (by show i - (k + 1) < i - k; omega)
        exact Zc tis
       ·obtain rfl : k = i := by omega
        refine Zo (Z5 retCB.eq_1 tis fls eIns.eq_1 @h5) ?_
        refine callB cD ?_
        cases hd : doorB g.prog k with
        | true =>
         rw [if_pos hd] at j1
         have h4 := doorB_no4 j3 hd
         have ht : ¬ toF g < 0 := by rw [j1]; omega
         rw [stepF_2 ht, em]
         exact Zc (Z6 retCB.eq_1 tis fls eIns.eq_1 @h4 @j1)
        | false =>
         rw [if_neg (by simp [hd])] at j1
         have ht : toF g < 0 := by rw [j1]; omega
         rw [stepF_1 ht, em]
         refine Zo (Z3 retCB.eq_1 tis fls) ?_
         refine callV cC ?_
         exact Zc (Z3 retCB.eq_1 tis fls)
 ·have egi : ((getP g : Nat) : Int) = g.pc := by rw [eg]; omega
  have em := markF_2 hx (fun h => by rw [e2] at h; exact absurd h.1 (by decide))
  by_cases hl : (g.buf.length : Int) ≤ g.at_
  ·have es : stP g = g := by unfold stP; rw [if_pos hl, em]
   rw [es]
   unfold eFeed
   refine fits_of_pair 2 26 3 [] [0, 1, 2, 3, 4, 5, 6, 7, 16, 19, 37, 53, 73, 94, 109] func53 rfl rfl rfl (by show 2 < 119; decide) (by show 3 < 119; decide) (by show 1 ≤ 119; decide) (by rfl) (by rfl) (by show 0 ≤ 1; decide) (by rfl) (run_of ?_)
   exact Zc (Z7 retCB.eq_1 tis fls @gx @gl @e2 @hl)
  ·have es : stP g = stepF g := if_neg hl
   rw [es]
   have hb3 := hb2 hl
   have cC := fits_l11Cut (markF g) hm
   rw [em] at cC
   unfold eFeed at cC ⊢
   refine fits_of_pair 2 26 3 [] [0, 1, 2, 3, 4, 5, 6, 7, 16, 19, 37, 53, 73, 94, 109] func53 rfl rfl rfl (by show 2 < 119; decide) (by show 3 < 119; decide) (by show 1 ≤ 119; decide) (by rfl) (by rfl) (by show 0 ≤ 1; decide) (by rfl) (run_of ?_)
   refine Zo (Z7 retCB.eq_1 tis fls @gx @gl @e2 @hl) ?_
   refine run_loop (α := Nat × Nat) (fun x => toF g = goesP g.prog (byteF g) x.1 x.2 ∧ getP g + 1 ≤ x.2 ∧ x.2 < g.prog.length ∧ g.prog.length ≤ x.1 + x.2 ∧ ∀ k (hk : k < g.prog.length), getP g + 1 ≤ k → k < x.2 → g.prog[k].op = 3) (fun x => [(1, .box (.agg [.sl true 4 (g.prog.map eIns), .str g.buf, .int .i64 g.base, .int .i64 g.pc, .int .i64 g.at_, .int .i64 g.rule, .int .i64 g.to, .sl true 3 (g.out.map eToken), .bool g.stuck])), (2, .box (.agg [.sl true 4 [], .str [], .int .i64 0, .int .i64 0, .int .i64 0, .int .i64 0, .int .i64 0, .sl true 3 [], .bool false])), (3, .bool false), (4, .int .i64 g.pc), (5, .int .i64 ((g.buf.getD g.at_.toNat 0).toNat : Int)), (6, .int .i64 x.2)]) (fun x => g.prog.length - x.2) (g.prog.length, getP g + 1) ⟨htF, Nat.le_refl _, h1, by simp only; omega, fun k _ a b => by simp only at b; omega⟩ ?_ ?_
   ·exact Zc (Z2 tis @egi)
   ·rintro ⟨n, i⟩ ⟨j1, j2, j3, j4, j5⟩
    simp only at j1 j2 j3 j4 j5
    obtain ⟨n, rfl⟩ : ∃ k, n = k + 1 := ⟨n - 1, by omega⟩
    rw [goesP_at j3] at j1
    by_cases h5 : g.prog[i].op = 3
    ·rw [if_pos h5] at j1
     have hn := last_stop hg.prog j3 (by rw [h5]; decide)
     by_cases h6 : g.prog[i].a ≤ byteF g ∧ byteF g ≤ g.prog[i].b
     ·rw [if_pos h6] at j1
      have ht : ¬ toF g < 0 := by
       have hi := (progB_parts hg.prog).2.2.2 _ j3
       rw [j1, insB_at j3] at *
       simp [h5, doorI] at hi
       omega
      rw [stepF_2 ht, em]
      rw [hby] at h6
      exact Zc (Z7 retCB.eq_1 tis fls eIns.eq_1 @h5 @h6 @j1)
     ·rw [if_neg h6] at j1
      rw [hby] at h6
      have nx : goesP g.prog (byteF g) n (i + 1) = goesP g.prog (byteF g) n (i + 1) := rfl
      by_cases h7 : g.prog[i].a ≤ ((g.buf.getD g.at_.toNat 0).toNat : Int)
      ·have h8 : ¬ ((g.buf.getD g.at_.toNat 0).toNat : Int) ≤ g.prog[i].b := fun h => h6 ⟨h7, h⟩
       refine Zo (Z7 retCB.eq_1 tis fls eIns.eq_1 @h5 @h7 @h8) ?_
       refine round_normal (n, i + 1) ⟨j1, by simp only; omega, hn, by simp only; omega, fun k hk a b => by simp only at b; rcases Nat.lt_or_ge k i with h | h; exact j5 k hk a h; (have : k = i := by omega); subst this; exact h5⟩ ?_ (by show g.prog.length - (i + 1) < g.prog.length - i; omega)
       exact Zc tis
      ·refine Zo (Z6 retCB.eq_1 tis fls eIns.eq_1 @h5 @h7) ?_
       refine round_normal (n, i + 1) ⟨j1, by simp only; omega, hn, by simp only; omega, fun k hk a b => by simp only at b; rcases Nat.lt_or_ge k i with h | h; exact j5 k hk a h; (have : k = i := by omega); subst this; exact h5⟩ ?_ (by show g.prog.length - (i + 1) < g.prog.length - i; omega)
       exact Zc tis
    ·rw [if_neg h5] at j1
     have cD := fits_sDoor g.prog i (by omega) j3
     refine Zo (Z5 retCB.eq_1 tis fls eIns.eq_1 @h5) ?_
     refine run_loop (α := Nat) (fun k => getP g + 1 ≤ k ∧ k ≤ i) (fun k => [(1, .box (.agg [.sl true 4 (g.prog.map eIns), .str g.buf, .int .i64 g.base, .int .i64 g.pc, .int .i64 g.at_, .int .i64 g.rule, .int .i64 g.to, .sl true 3 (g.out.map eToken), .bool g.stuck])), (2, .box (.agg [.sl true 4 [], .str [], .int .i64 0, .int .i64 0, .int .i64 0, .int .i64 0, .int .i64 0, .sl true 3 [], .bool false])), (3, .bool false), (7, .int .i64 k)]) (fun k => i - k) (getP g + 1) ⟨Nat.le_refl _, j2⟩ ?_ ?_
     ·exact Zc (Z2 tis @egi)
     ·rintro k ⟨k1, k2⟩
      have k3 : k < g.prog.length := by omega
      rcases Nat.lt_or_ge k i with hk | hk
      ·have h7 := j5 k k3 k1 hk
       refine Zo (Z5 retCB.eq_1 tis fls eIns.eq_1 @h7) ?_
       refine round_normal (k + 1) ⟨by omega, by omega⟩ ?_ (by show i - (k + 1) < i - k; omega)
       exact Zc tis
      ·obtain rfl : k = i := by omega
       refine Zo (Z5 retCB.eq_1 tis fls eIns.eq_1 @h5) ?_
       refine callB cD ?_
       cases hd : doorB g.prog k with
       | true =>
        rw [if_pos hd] at j1
        have h4 := doorB_no4 j3 hd
        have ht : ¬ toF g < 0 := by rw [j1]; omega
        rw [stepF_2 ht, em]
        exact Zc (Z6 retCB.eq_1 tis fls eIns.eq_1 @h4 @j1)
       | false =>
        rw [if_neg (by simp [hd])] at j1
        have ht : toF g < 0 := by rw [j1]; omega
        rw [stepF_1 ht, em]
        refine Zo (Z3 retCB.eq_1 tis fls) ?_
        refine callV cC ?_
        exact Zc (Z3 retCB.eq_1 tis fls)
theorem stP_FI {g : Feed} (h : FI g) : FI (stP g) := by
 unfold stP; split
 ·exact h.mark
 ·exact h.step (by omega)
theorem fits_l11Go (f : Feed) (hf : FI f) : Fits prog 28 [eFeed true f] (eFeed true (goF f)) [] := by
 unfold eFeed
 refine fits_of_cell 2 26 [] [0, 1, 2, 3, 4, 5, 11] func28 rfl rfl rfl (by show 2 < 20; decide) (by show 1 ≤ 20; decide) (by rfl) (by rfl) (by show 0 ≤ 1; decide) (by rfl) (run_of ?_)
 refine Zo (Z2 tis fls) ?_
 refine run_loop (α := Feed × Bool) (fun x => FI x.1 ∧ goF f = (if x.2 = true then goF x.1 else x.1)) (fun x => [(1, .box (.agg [.sl true 4 (x.1.prog.map eIns), .str x.1.buf, .int .i64 x.1.base, .int .i64 x.1.pc, .int .i64 x.1.at_, .int .i64 x.1.rule, .int .i64 x.1.to, .sl true 3 (x.1.out.map eToken), .bool x.1.stuck])), (2, .box (.agg [.sl true 4 [], .str [], .int .i64 0, .int .i64 0, .int .i64 0, .int .i64 0, .int .i64 0, .sl true 3 [], .bool false])), (3, .bool x.2)]) (fun x => if x.2 = true then muF x.1 + 1 else 0) (f, true) ⟨hf, rfl⟩ ?_ ?_
 ·exact Zc tis
 ·rintro ⟨g, on⟩ ⟨hg, hge⟩
  simp only at hg hge
  cases on with
  | false =>
   rw [if_neg (by simp)] at hge
   rw [hge]
   exact Zc (Z2 tis fls)
  | true =>
   rw [if_pos rfl] at hge
   rcases Bool.eq_false_or_eq_true g.stuck with hs | hs
   ·rw [goF_stuck hs] at hge
    rw [hge]
    exact Zc (Z3 tis fls @hs)
   ·have cS := fits_l11Step g hg
    have hst := stP_FI hg
    by_cases hl : (g.buf.length : Int) ≤ g.at_
    ·have e : goF f = stP g := by rw [hge, goF_end hs hl]; unfold stP; rw [if_pos hl]
     have hd : decide (¬ (g.buf.length : Int) ≤ g.at_) = false := by simp [hl]
     rw [hd] at cS
     generalize stP g = c at *
     unfold eFeed at cS
     simp only [hs] at cS
     refine Zo (Z3 tis fls @hs) ?_
     refine callV cS ?_
     simp -implicitDefEqProofs (disch := first | (intros; contradiction) | omega) only [am0, am1, am2, am3, am4, am5, am6, Nat.reduceSub, ↓reduceIte, reduceCtorEq, Nat.reduceEqDiff, Nat.reduceBEq, Nat.reduceAdd, Nat.reduceLT, Nat.reduceBNe, Nat.reduceMul, ↓reduceIte, tis, fls, ex_eq, exGo_tup, plain, plainL]
     refine round_normal (c, false) ⟨hst, by simpa using e⟩ ?_ (by simp)
     exact Zc tis
    ·have e0 : stP g = stepF g := if_neg hl
     have e : goF f = goF (stP g) := by rw [hge, goF_step hg hs (by omega), e0]
     have hmu := muF_step hg hs (by omega : g.at_ < g.buf.length)
     rw [← e0] at hmu
     have hd : decide (¬ (g.buf.length : Int) ≤ g.at_) = true := by simp; omega
     rw [hd] at cS
     generalize stP g = c at *
     unfold eFeed at cS
     simp only [hs] at cS
     refine Zo (Z3 tis fls @hs) ?_
     refine callV cS ?_
     simp -implicitDefEqProofs (disch := first | (intros; contradiction) | omega) only [am0, am1, am2, am3, am4, am5, am6, Nat.reduceSub, ↓reduceIte, reduceCtorEq, Nat.reduceEqDiff, Nat.reduceBEq, Nat.reduceAdd, Nat.reduceLT, Nat.reduceBNe, Nat.reduceMul, ↓reduceIte, tis, fls, ex_eq, exGo_tup, plain, plainL]
     refine round_normal (c, true) ⟨hst, by simpa using e⟩ ?_ (by simpa using hmu)
     exact Zc tis
theorem fits_sFeedPush (f : Feed) (w : List UInt8) (hp : f.prog.length ≤ 1048576) (hb : f.buf.length ≤ 1048576) (ho : f.out.length ≤ 1048576) (hw : w.length ≤ 1048576) : Fits prog 16 [eFeed false f, .str w] (eFeed true (pushP f w)) [] := by
 have cO := fits_sFeedOk f (by omega) (by omega) (by omega)
 have cC := fits_l11Copy f (by omega) (by omega)
 unfold pushP
 cases h1 : feedB f with
 | false =>
  unfold eFeed at cO ⊢
  refine fits_of_cell 4 26 [] [0, 1, 2, 4, 5, 8, 25] func16 rfl rfl rfl (by show 4 < 34; decide) (by show 2 ≤ 34; decide) (by rfl) (by rfl) (by show 0 ≤ 2; decide) (by rfl) (run_of ?_)
  refine Zo (Z2 tis fls) ?_
  refine callB cO ?_
  exact Zc (Z4 tis fls @h1 feedZ.eq_1)
 | true =>
  have hf := feedB_FI h1
  have hba := hf.base
  unfold eFeed at cO cC
  rcases Bool.eq_false_or_eq_true f.stuck with hs | hs
  ·rw [if_pos rfl, if_pos (.inl hs)]
   simp only [hs] at cO cC
   unfold eFeed
   simp only [hs]
   refine fits_of_cell 4 26 [] [0, 1, 2, 4, 5, 8, 25] func16 rfl rfl rfl (by show 4 < 34; decide) (by show 2 ≤ 34; decide) (by rfl) (by rfl) (by show 0 ≤ 2; decide) (by rfl) (run_of ?_)
   refine Zo (Z2 tis fls) ?_
   refine callB cO ?_
   refine Zo (Z3 tis fls @h1) ?_
   refine callB cC ?_
   exact Zc (Z3 tis fls @h1)
  ·simp only [hs] at cO cC
   by_cases h2 : f.base + f.buf.length + w.length > 200
   ·rw [if_pos rfl, if_pos (.inr h2)]
    unfold eFeed
    simp only [hs]
    refine fits_of_cell 4 26 [] [0, 1, 2, 4, 5, 8, 25] func16 rfl rfl rfl (by show 4 < 34; decide) (by show 2 ≤ 34; decide) (by rfl) (by rfl) (by show 0 ≤ 2; decide) (by rfl) (run_of ?_)
    refine Zo (Z2 tis fls) ?_
    refine callB cO ?_
    refine Zo (Z3 tis fls @h1) ?_
    refine callB cC ?_
    exact Zc (Z3 tis fls @h1)
   ·rw [if_pos rfl, if_neg (fun h => by rcases h with h | h; exact absurd (hs.symm.trans h) (by decide); exact h2 h)]
    have hm := hf.more w (by omega)
    have cG := fits_l11Go _ hm
    generalize hc : goF { f with buf := f.buf ++ w } = c at *
    unfold eFeed at cG ⊢
    simp only [hs] at cG ⊢
    refine fits_of_cell 4 26 [] [0, 1, 2, 4, 5, 8, 25] func16 rfl rfl rfl (by show 4 < 34; decide) (by show 2 ≤ 34; decide) (by rfl) (by rfl) (by show 0 ≤ 2; decide) (by rfl) (run_of ?_)
    refine Zo (Z2 tis fls) ?_
    refine callB cO ?_
    refine Zo (Z3 tis fls @h1) ?_
    refine callB cC ?_
    refine Zo (Z3 tis fls @h1) ?_
    refine callV cG ?_
    exact Zc (Z2 tis fls)




section
variable {h h' : Array Obj} {S : Nat → Prop}
end



def Bd (f : Feed) : Prop := f.prog.length ≤ 1048576 ∧ f.buf.length ≤ 1048576 ∧ f.out.length ≤ 1048576
theorem FI.bd {f : Feed} (h : FI f) : Bd f := by
 have h1 := (progB_parts h.prog).1
 have h2 := h.base
 have h3 := h.out
 refine ⟨?_, ?_, ?_⟩ <;> omega
theorem bd_push {f : Feed} (h : Bd f) (w : List UInt8) : Bd (pushP f w) := by
 unfold pushP; split
 ·rename_i h1
  split
  ·exact h
  ·rename_i h2
   exact (goF_FI ((feedB_FI h1).more w (by have := Int.not_lt.1 (fun x => h2 (.inr x)); omega))).bd
 ·simp [Bd, feedZ]
theorem bd_fold : ∀ (cs : List (List UInt8)) {f : Feed}, Bd f → Bd (cs.foldl pushP f)
 | [], _, h => h
 | c :: cs, _, h => bd_fold cs (bd_push h c)
noncomputable def goodV (b : List UInt8) (p : Nat) : List Ins × Nat := (if progB (progV b p).1 = true then (progV b p).1 else [⟨2, 0, 0, 0⟩, ⟨4, 0, 0, 0⟩], (progV b p).2)
theorem goodV_le (b : List UInt8) (p : Nat) : (goodV b p).1.length ≤ 1500 ∧ (goodV b p).2 ≤ p + 1500 := by
 obtain ⟨h1, h2⟩ := progV_le b p
 unfold goodV
 refine ⟨?_, h2⟩
 simp only
 split
 ·exact h1
 ·simp
theorem fits_l11Good (b : List UInt8) (hb : b.length ≤ 2000) (p : Nat) (hp : p ≤ 400000) : Fits prog 49 [.box (eRd b p)] (.sl false 4 ((goodV b p).1.map eIns)) [.box (eRd b (goodV b p).2)] := by
 have cP := fits_l10Prog b hb p hp
 obtain ⟨p1, _⟩ := progV_le b p
 unfold goodV
 generalize progV b p = R at *
 obtain ⟨P, q⟩ := R
 simp only at *
 have cO := fits_sProgOk P (by omega)
 unfold eRd at *
 cases hB : progB P with
 | true =>
  rw [hB] at cO
  rw [if_pos rfl]
  refine fits_of_code [2] [0] [0, 2, 3, 8] func49 rfl rfl rfl (by rfl) (by show 1 ≤ 13; decide) (by rfl) (by rfl) (by show 1 ≤ 1; decide) (by rfl) (run_of ?_)
  (first | refine Zo (Z2 tis fls) ?_ | exact Zc (Z2 tis fls))
  refine callM 0 cP ?_
  (repeat (first | refine Zo (Z4 tis fls @LLdrosin Zi) ?_ | refine .inl ⟨by kernel_rfl, ?_⟩ | exact .inl (by show _ = _; kernel_rfl) | exact Zc (Z4 tis fls @LLdrosin Zi)); try ((first | refine callL cO ?_ | refine callB cO ?_); repeat (first | refine Zo (Z4 tis fls @LLdrosin Zi) ?_ | refine .inl ⟨by kernel_rfl, ?_⟩ | exact .inl (by show _ = _; kernel_rfl) | exact Zc (Z4 tis fls @LLdrosin Zi))))
 | false =>
  rw [hB] at cO
  rw [if_neg (by simp)]
  refine fits_as2 (res := .sl true 4 ([⟨2, 0, 0, 0⟩, ⟨4, 0, 0, 0⟩].map eIns)) ?_ (by simp only [erase, fls])
  refine fits_of_code [2] [0] [0, 2, 3, 8] func49 rfl rfl rfl (by rfl) (by show 1 ≤ 13; decide) (by rfl) (by rfl) (by show 1 ≤ 1; decide) (by rfl) (run_of ?_)
  (first | refine Zo (Z2 tis fls) ?_ | exact Zc (Z2 tis fls))
  refine callM 0 cP ?_
  (repeat (first | refine Zo (Z4 tis fls @LLdrosin Zi) ?_ | refine .inl ⟨by kernel_rfl, ?_⟩ | exact .inl (by show _ = _; kernel_rfl) | exact Zc (Z4 tis fls @LLdrosin Zi)); try ((first | refine callL cO ?_ | refine callB cO ?_); repeat (first | refine Zo (Z4 tis fls @LLdrosin Zi) ?_ | refine .inl ⟨by kernel_rfl, ?_⟩ | exact .inl (by show _ = _; kernel_rfl) | exact Zc (Z4 tis fls @LLdrosin Zi))))
  exact ⟨rfl, rfl⟩
noncomputable def feedW (b : List UInt8) (p : Nat) : Feed × Nat :=
 ((pcs b 12 (wordQ b (goodV b p).2 9) (wordV b (goodV b p).2 9)).1.foldl pushP (feedOpenP (goodV b p).1), (pcs b 12 (wordQ b (goodV b p).2 9) (wordV b (goodV b p).2 9)).2)
def baseM : List Int := [-1, 300, 3]
def ruleM : List Int := [-2, 9, 0]
def pcM (n : Nat) : List Int := [-1, n, 1]
def bendF (b : List UInt8) (f : Feed) (q k : Nat) : Feed × Nat :=
 if k = 0 then ({ f with base := numV b q baseM }, q + 1)
 else if k = 1 then ({ f with pc := numV b q (pcM f.prog.length) }, q + 1)
 else if k = 2 then ({ f with at_ := (f.buf.length : Int) + 1 }, q)
 else if k = 3 then ({ f with rule := numV b q ruleM }, q + 1)
 else (f, q)
noncomputable def feedV (b : List UInt8) (p : Nat) : Feed × Nat := bendF b (feedW b p).1 ((feedW b p).2 + 1) (pickV b (feedW b p).2 40)
theorem eF (o : Bool) (f : Feed) : eFeed o f = .agg [.sl o 4 (f.prog.map eIns), .str f.buf, .int .i64 f.base, .int .i64 f.pc, .int .i64 f.at_, .int .i64 f.rule, .int .i64 f.to, .sl o 3 (f.out.map eToken), .bool f.stuck] := rfl
theorem bd_open {P : List Ins} (h : P.length ≤ 1048576) : Bd (feedOpenP P) := by
 unfold feedOpenP
 split <;> simp [Bd, feedZ]
 exact h
theorem fits_l11Feed (b : List UInt8) (hb : b.length ≤ 2000) (p : Nat) (hp : p ≤ 100000) : Fits prog 22 [.box (eRd b p)] (eFeed true (feedV b p).1) [.box (eRd b (feedV b p).2)] := by
 have cG := fits_l11Good b hb p (by omega)
 obtain ⟨g1, g2⟩ := goodV_le b p
 unfold feedV feedW
 generalize goodV b p = G at *
 obtain ⟨P, q⟩ := G
 simp only at *
 have cW : Fits prog 41 [.box (eRd b q), .int .i64 9] (.str (wordV b q 9)) [.box (eRd b (wordQ b q 9))] := fits_l3Word b hb q (by omega) 9 (by omega)
 have w1 := wordV_len b q 9
 have w2 : wordQ b q 9 ≤ q + 11 := by have := pickV_lt b q (n := 9 + 1) (by omega); unfold wordQ; omega
 generalize wordV b q 9 = w at *
 generalize wordQ b q 9 = q2 at *
 have cP := fits_l11Pieces b hb q2 (by omega) w (by omega)
 obtain ⟨c1, c2, c3⟩ := pcs_len b 12 q2 w
 generalize pcs b 12 q2 w = C at *
 obtain ⟨cs, q3⟩ := C
 simp only at *
 have cF := fits_sFeedOpen P (by omega)
 have hF := bd_open (P := P) (by omega)
 generalize feedOpenP P = f0 at *
 have cK : Fits prog 38 [.box (eRd b q3), .int .i64 40] (.int .i64 (pickV b q3 40)) [.box (eRd b (q3 + 1))] := fits_pick b hb q3 (by omega) 40 (by omega) (by omega)
 rw [eF] at cF
 unfold eRd at *
 refine fits_of_cell 2 26 [0] [0, 2, 3, 4, 5, 16, 26, 27, 33, 42, 49] func22 rfl rfl rfl (by show 2 < 56; decide) (by show 1 ≤ 56; decide) (by rfl) (by rfl) (by show 1 ≤ 1; decide) (by rfl) (run_of ?_)
 (first | refine Zo (Z2 tis fls) ?_ | exact Zc (Z2 tis fls))
 refine callM 0 cG ?_
 (first | refine Zo (Z3 tis fls @LLdrosin) ?_ | exact Zc (Z3 tis fls @LLdrosin))
 refine callB cF ?_
 (first | refine Zo (Z2 tis fls) ?_ | exact Zc (Z2 tis fls))
 refine callK 9 0 0 cW ?_
 (first | refine Zo (Z3 tis fls @LLdrosin) ?_ | exact Zc (Z3 tis fls @LLdrosin))
 refine callM 0 cP ?_
 (first | refine Zo (Z3 tis fls @LLdrosin) ?_ | exact Zc (Z3 tis fls @LLdrosin))
 refine run_loop (α := Nat) (fun i => i ≤ cs.length) (fun i => [(0, .box (.agg [.sl false 1 (bytesA b), .int .i64 q3])), (2, .box (.agg [.sl true 4 [], .str [], .int .i64 0, .int .i64 0, .int .i64 0, .int .i64 0, .int .i64 0, .sl true 3 [], .bool false])), (3, .box (eFeed true ((cs.take i).foldl pushP f0))), (4, .sl true 1 (cs.map eStr)), (5, .int .i64 i)]) (fun i => cs.length - i) 0 (Nat.zero_le _) ?_ ?_
 ·rw [List.take_zero, List.foldl_nil]
  (first | refine Zo (Z3 tis fls @eF) ?_ | exact Zc (Z3 tis fls @eF))
 ·intro i hi'
  by_cases hi : i < cs.length
  ·have e : (cs.take (i + 1)).foldl pushP f0 = pushP ((cs.take i).foldl pushP f0) cs[i] := by rw [List.take_succ_eq_append_getElem hi, List.foldl_append]; rfl
   have hb1 := bd_fold (cs.take i) hF
   have hci := c3 _ (List.getElem_mem hi)
   have cS := fits_sFeedPush ((cs.take i).foldl pushP f0) cs[i] hb1.1 hb1.2.1 hb1.2.2 (by omega)
   rw [← e, eF, eF] at cS
   generalize he : (cs.take (i + 1)).foldl pushP f0 = g' at *
   generalize (cs.take i).foldl pushP f0 = g at *
   (repeat (first | refine Zo (Z5 tis fls @eF eStr.eq_1 Zi) ?_ | refine .inl ⟨by kernel_rfl, ?_⟩ | exact .inl (by show _ = _; kernel_rfl) | exact Zc (Z5 tis fls @eF eStr.eq_1 Zi)); try ((first | refine callL cS ?_ | refine callB cS ?_); repeat (first | refine Zo (Z5 tis fls @eF eStr.eq_1 Zi) ?_ | refine .inl ⟨by kernel_rfl, ?_⟩ | exact .inl (by show _ = _; kernel_rfl) | exact Zc (Z5 tis fls @eF eStr.eq_1 Zi))))
   refine round_normal (i + 1) (by omega) ?_ (by show cs.length - (i + 1) < cs.length - i; omega)
   rw [he]
   (first | refine Zo (Z3 tis fls @eF) ?_ | exact Zc (Z3 tis fls @eF))
  ·obtain rfl : i = cs.length := by omega
   rw [List.take_length]
   have hb1 := bd_fold cs hF
   generalize cs.foldl pushP f0 = g at *
   have hk := pickV_lt b q3 (n := 40) (by omega)
   generalize pickV b q3 40 = k at *
   (repeat (first | refine Zo (Z4 tis fls @eF Zi) ?_ | refine .inl ⟨by kernel_rfl, ?_⟩ | exact .inl (by show _ = _; kernel_rfl) | exact Zc (Z4 tis fls @eF Zi)))
   refine callM 0 cK ?_
   unfold bendF
   by_cases k0 : k = 0
   ·subst k0
    have cN := fits_num b hb (q3 + 1) (by omega) baseM (by decide) (by decide)
    rw [if_pos rfl]
    generalize numV b (q3 + 1) baseM = x at *
    unfold eRd at cN
    (first | refine Zo (Z4 tis fls @eF @LLdrosin) ?_ | exact Zc (Z4 tis fls @eF @LLdrosin))
    refine callMF [(30, [])] 0 cN ?_
    simp -implicitDefEqProofs (disch := first | (intros; contradiction) | omega) only [am0, am1, am2, am3, am4, am5, am6, Nat.reduceSub, ↓reduceIte, reduceCtorEq, Nat.reduceEqDiff, Nat.reduceBEq, Nat.reduceAdd, Nat.reduceLT, Nat.reduceBNe, Nat.reduceMul, ↓reduceIte, tis, fls, eF, List.dropLast_singleton, baseM, eInt]
   ·have k0' : ¬ (k : Int) = 0 := by omega
    rw [if_neg k0]
    by_cases k1 : k = 1
    ·subst k1
     have cN := fits_num b hb (q3 + 1) (by omega) (pcM g.prog.length) (by simp [pcM]) (by simp [pcM])
     rw [if_pos rfl]
     generalize hx : numV b (q3 + 1) (pcM g.prog.length) = x at *
     unfold eRd at cN
     (first | refine Zo (Z4 tis fls @eF @LLdrosin) ?_ | exact Zc (Z4 tis fls @eF @LLdrosin))
     refine callMF [(39, [])] 0 cN ?_
     simp -implicitDefEqProofs (disch := first | (intros; contradiction) | omega) only [am0, am1, am2, am3, am4, am5, am6, Nat.reduceSub, ↓reduceIte, reduceCtorEq, Nat.reduceEqDiff, Nat.reduceBEq, Nat.reduceAdd, Nat.reduceLT, Nat.reduceBNe, Nat.reduceMul, ↓reduceIte, tis, fls, eF, List.dropLast_singleton, pcM, eInt]
    ·have k1' : ¬ (k : Int) = 1 := by omega
     rw [if_neg k1]
     by_cases k2 : k = 2
     ·subst k2
      have hb2 : g.buf.length ≤ 1048576 := hb1.2.1
      rw [if_pos rfl]
      (repeat (first | refine Zo (Z5 tis fls @eF @LLdrosin Zi) ?_ | refine .inl ⟨by kernel_rfl, ?_⟩ | exact .inl (by show _ = _; kernel_rfl) | exact Zc (Z5 tis fls @eF @LLdrosin Zi)))
     ·have k2' : ¬ (k : Int) = 2 := by omega
      rw [if_neg k2]
      by_cases k3 : k = 3
      ·subst k3
       have cN := fits_num b hb (q3 + 1) (by omega) ruleM (by decide) (by decide)
       rw [if_pos rfl]
       generalize numV b (q3 + 1) ruleM = x at *
       unfold eRd at cN
       (first | refine Zo (Z4 tis fls @eF @LLdrosin) ?_ | exact Zc (Z4 tis fls @eF @LLdrosin))
       refine callMF [(52, [])] 0 cN ?_
       simp -implicitDefEqProofs (disch := first | (intros; contradiction) | omega) only [am0, am1, am2, am3, am4, am5, am6, Nat.reduceSub, ↓reduceIte, reduceCtorEq, Nat.reduceEqDiff, Nat.reduceBEq, Nat.reduceAdd, Nat.reduceLT, Nat.reduceBNe, Nat.reduceMul, ↓reduceIte, tis, fls, eF, List.dropLast_singleton, ruleM, eInt]
      ·have k3' : ¬ (k : Int) = 3 := by omega
       rw [if_neg k3]
       (repeat (first | refine Zo (Z9 tis fls @eF @k0' @k1' @k2' @k3' @LLdrosin Zi) ?_ | refine .inl ⟨by kernel_rfl, ?_⟩ | exact .inl (by show _ = _; kernel_rfl) | exact Zc (Z9 tis fls @eF @k0' @k1' @k2' @k3' @LLdrosin Zi)))
theorem bd_bend {f : Feed} (h : Bd f) (b : List UInt8) (q k : Nat) : Bd (bendF b f q k).1 := by
 unfold bendF
 split
 ·exact ⟨h.1, h.2.1, h.2.2⟩
 ·split
  ·exact ⟨h.1, h.2.1, h.2.2⟩
  ·split
   ·exact ⟨h.1, h.2.1, h.2.2⟩
   ·split
    ·exact ⟨h.1, h.2.1, h.2.2⟩
    ·exact h
theorem feedV_bd (b : List UInt8) (p : Nat) : Bd (feedV b p).1 := by
 unfold feedV feedW
 exact bd_bend (bd_fold _ (bd_open (by have := (goodV_le b p).1; omega))) _ _ _
def atR (p : List Ins) (t : List UInt8) (a : Nat) : Nat → Nat → Nat → Int → Int → Nat → Nat → Int × Nat × Nat
 | 0, _, _, _, r, e, m => (r, e, m)
 | k + 1, pc, i, b, r, e, m => match p[pc]? with
  | none => (r, e, m)
  | some x => if x.op = 1 then atR p t a k (pc + 1) i b (if a < i then x.a else r) (if a < i then i else e) (m + 1)
   else if x.op = 2 then (if t.length ≤ i then (r, e, m + 1) else atR p t a k (pc + 1) (i + 1) ((t.getD i 0).toNat : Int) r e (m + 1))
   else if x.op = 3 then (if x.a ≤ b ∧ b ≤ x.b then atR p t a k x.to.toNat i b r e (m + 1) else atR p t a k (pc + 1) i b r e (m + 1))
   else (r, e, m + 1)
def Alive (p : List Ins) (T k pc i : Nat) : Prop := pc < p.length ∧ i ≤ T ∧ ((doorB p pc = true ∧ (T - i + 1) * p.length ≤ k) ∨ (((p.getD pc default).op = 2 ∧ 1 ≤ pc) ∧ (T - i + 1) * p.length ≤ k + 1) ∨ (T - i + 1) * p.length + (p.length - pc) ≤ k)
theorem alive_0 {p : List Ins} (hp : progB p = true) {T a : Nat} (h : a ≤ T) : Alive p T ((T - a + 1) * p.length) 0 a :=
 ⟨by have := progB_len hp; omega, h, .inl ⟨(progB_parts hp).2.1, Nat.le_refl _⟩⟩
structure AtB (t : List UInt8) (a : Nat) (r : Int) (e : Nat) : Prop where
 lo : a ≤ e
 hi : e ≤ t.length
 iff : 0 ≤ r ↔ a < e
 r1 : -1 ≤ r
 r2 : r ≤ 4
def atP (p : List Ins) (t : List UInt8) (a : Nat) : Int × Nat × Nat := atR p t a ((t.length - a + 1) * p.length) 0 a (-1) (-1) a 0
structure AG where
 k : Nat
 pc : Nat
 i : Nat
 b : Int
 r : Int
 e : Nat
 m : Nat
structure AI (p : List Ins) (t : List UInt8) (a : Nat) (F : Int × Nat × Nat) (g : AG) : Prop where
 eq : F = atR p t a g.k g.pc g.i g.b g.r g.e g.m
 al : Alive p t.length g.k g.pc g.i
 mb : g.m + g.k ≤ 301500
theorem AI.start {p : List Ins} {t : List UInt8} {a : Nat} (hp : progB p = true) (ht : t.length ≤ 200) (ha : a ≤ t.length) : AI p t a (atP p t a) ⟨(t.length - a + 1) * p.length, 0, a, -1, -1, a, 0⟩ := by
 have hl := progB_len hp
 have : (t.length - a + 1) * p.length ≤ 201 * 1500 := Nat.mul_le_mul (by omega) hl.2
 exact ⟨rfl, alive_0 hp ha, by simp only [Nat.zero_add]; exact Nat.le_trans this (by decide)⟩
theorem feedV_le (b : List UInt8) (p : Nat) : (feedV b p).2 ≤ p + 2000 := by
 obtain ⟨_, g2⟩ := goodV_le b p
 have w2 : wordQ b (goodV b p).2 9 ≤ (goodV b p).2 + 11 := by have := pickV_lt b (goodV b p).2 (n := 9 + 1) (by omega); unfold wordQ; omega
 have c2 := (pcs_len b 12 (wordQ b (goodV b p).2 9) (wordV b (goodV b p).2 9)).2.1
 have hw : (feedW b p).2 ≤ p + 1900 := by unfold feedW; simp only; omega
 unfold feedV bendF
 generalize pickV b (feedW b p).2 40 = k
 split
 ·simp only; omega
 ·split
  ·simp only; omega
  ·split
   ·simp only; omega
   ·split <;> simp only <;> omega
def n4L : List Int := [190, 195, 200, 201]
noncomputable def pushT (b : List UInt8) : List UInt8 := if pickV b (feedV b 0).2 20 = 0 then manyL [97] [] (numV b ((feedV b 0).2 + 1) n4L).toNat else wordV b ((feedV b 0).2 + 1) 6
theorem n4_k (b : List UInt8) (p : Nat) : ((numV b p n4L).toNat : Int) = numV b p n4L ∧ (numV b p n4L).toNat ≤ 201 := by
 have h := numV_mem b p (l := n4L) (by decide)
 unfold n4L at *
 simp only [List.mem_cons, List.not_mem_nil, or_false] at h
 rcases h with h | h | h | h <;> rw [h] <;> decide
theorem pushT_le (b : List UInt8) : (pushT b).length ≤ 300 := by
 unfold pushT
 split
 ·have := (n4_k b ((feedV b 0).2 + 1)).2
  simp only [manyL_len]; simp; omega
 ·have := wordV_len b ((feedV b 0).2 + 1) 6
  omega
theorem fits_drawFeedPush (c : List UInt8) (hc : c.length ≤ 9223372036854775807) : Fits prog 14 [.sl false 1 (bytesA c)] (.tup [eFeed true (feedV (c.take 2000) 0).1, .str (pushT (c.take 2000))]) [] := by
 have cO := fits_open c hc
 have hb := take_len c
 generalize c.take 2000 = b at *
 have cF := fits_l11Feed b hb 0 (by omega)
 have hq := feedV_le b 0
 have hT : pushT b = if pickV b (feedV b 0).2 20 = 0 then manyL [97] [] (numV b ((feedV b 0).2 + 1) n4L).toNat else wordV b ((feedV b 0).2 + 1) 6 := rfl
 generalize pushT b = T at *
 generalize feedV b 0 = z at *
 obtain ⟨f, q⟩ := z
 simp only at *
 rw [eF] at cF
 rw [eF]
 have c1 : Fits prog 38 [.box (eRd b q), .int .i64 20] (.int .i64 (pickV b q 20)) [.box (eRd b (q + 1))] := fits_pick b hb q (by omega) 20 (by omega) (by omega)
 generalize pickV b q 20 = k at *
 by_cases hk : k = 0
 ·subst hk
  rw [if_pos rfl] at hT
  have cN := fits_num b hb (q + 1) (by omega) n4L (by decide) (by decide)
  obtain ⟨u1, u2⟩ := n4_k b (q + 1)
  rw [← u1] at cN
  generalize (numV b (q + 1) n4L).toNat = n at *
  have cM := fits_l15Many [97] n (by simp only [List.length_cons, List.length_nil]; omega) (by simp) (by omega)
  generalize manyL [97] [] n = mt at *
  subst hT
  unfold eRd at *
  refine fits_of_two 2 26 3 [] [0, 2, 3, 4, 5, 12] func14 rfl rfl rfl (by show 2 < 21; decide) (by show 3 < 21; decide) (by show 1 ≤ 21; decide) (by rfl) (by rfl) (by show 0 ≤ 1; decide) (by rfl) (run_of ?_)
  (first | refine Zo (Z2 tis fls) ?_ | exact Zc (Z2 tis fls))
  refine callB cO ?_
  (first | refine Zo (Z2 tis fls) ?_ | exact Zc (Z2 tis fls))
  refine callM 0 cF ?_
  (first | refine Zo (Z3 tis fls @LLdrosin) ?_ | exact Zc (Z3 tis fls @LLdrosin))
  refine callM 0 c1 ?_
  (first | refine Zo (Z3 tis fls @LLdrosin) ?_ | exact Zc (Z3 tis fls @LLdrosin))
  refine .inr (run_mixl 16 [] [4, 15] 5 [[], []] (by kernel_rfl) ?_)
  (first | refine Zo (Z2 tis fls) ?_ | exact Zc (Z2 tis fls))
  refine callGF 0 cN ?_
  simp -implicitDefEqProofs (disch := first | (intros; contradiction) | omega) only [am0, am1, am2, am3, am4, am5, am6, Nat.reduceSub, ↓reduceIte, reduceCtorEq, Nat.reduceEqDiff, Nat.reduceBEq, Nat.reduceAdd, Nat.reduceLT, Nat.reduceBNe, Nat.reduceMul, ↓reduceIte, tis, fls, List.dropLast_singleton, n4L, eInt]
  refine callL cM ?_
  (first | refine Zo (Z5 tis fls @LLdrosin retCTwo.eq_1 (Z3 scalA.eq_1 scalA.eq_2 scalA.eq_3)) ?_ | exact Zc (Z5 tis fls @LLdrosin retCTwo.eq_1 (Z3 scalA.eq_1 scalA.eq_2 scalA.eq_3)))
  done
 ·rw [if_neg hk] at hT
  have hk0 : ¬ ((k : Int) = 0) := by omega
  have cW : Fits prog 41 [.box (eRd b (q + 1)), .int .i64 6] (.str (wordV b (q + 1) 6)) [.box (eRd b (wordQ b (q + 1) 6))] := fits_l3Word b hb (q + 1) (by omega) 6 (by omega)
  rw [← hT] at cW
  unfold eRd at *
  refine fits_of_two 2 26 3 [] [0, 2, 3, 4, 5, 12] func14 rfl rfl rfl (by show 2 < 21; decide) (by show 3 < 21; decide) (by show 1 ≤ 21; decide) (by rfl) (by rfl) (by show 0 ≤ 1; decide) (by rfl) (run_of ?_)
  (first | refine Zo (Z2 tis fls) ?_ | exact Zc (Z2 tis fls))
  refine callB cO ?_
  (first | refine Zo (Z2 tis fls) ?_ | exact Zc (Z2 tis fls))
  refine callM 0 cF ?_
  (first | refine Zo (Z3 tis fls @LLdrosin) ?_ | exact Zc (Z3 tis fls @LLdrosin))
  refine callM 0 c1 ?_
  (first | refine Zo (Z4 tis fls @LLdrosin @hk0) ?_ | exact Zc (Z4 tis fls @LLdrosin @hk0))
  refine .inr (run_mixl 20 [] [4] 3 [[], []] (by kernel_rfl) ?_)
  (first | refine Zo (Z2 tis fls) ?_ | exact Zc (Z2 tis fls))
  refine callG 0 cW ?_
  (first | refine Zo (Z5 tis fls @LLdrosin retCTwo.eq_1 (Z3 scalA.eq_1 scalA.eq_2 scalA.eq_3)) ?_ | exact Zc (Z5 tis fls @LLdrosin retCTwo.eq_1 (Z3 scalA.eq_1 scalA.eq_2 scalA.eq_3)))
  done
theorem fits_sameTok (p q : List Token) (hp : p.length ≤ 1099511627776) : Fits prog 42 [.sl false 3 (p.map eToken), .sl false 3 (q.map eToken)] (.bool (decide (p = q))) [] := by
 refine fits_of_code [4] [] [0, 1, 4, 5, 10, 12, 13, 14, 24] func42 rfl rfl rfl (by rfl) (by show 2 ≤ 26; decide) (by rfl) (by rfl) (by show 0 ≤ 2; decide) (by rfl) (run_of ?_)
 by_cases hl : p.length = q.length
 case neg =>
  have h1 : ¬ (p.length : Int) = q.length := by omega
  have h2 : decide (p = q) = false := decide_eq_false (fun e => hl (by rw [e]))
  (repeat (first | refine Zo (Z4 tis @h1 @h2 Zi) ?_ | refine .inl ⟨by kernel_rfl, ?_⟩ | exact .inl (by show _ = _; kernel_rfl) | exact Zc (Z4 tis @h1 @h2 Zi)))
 have h1 : (p.length : Int) = q.length := by omega
 (first | refine Zo (Z2 tis @h1) ?_ | exact Zc (Z2 tis @h1))
 refine run_loop (α := Nat) (fun i => i ≤ p.length ∧ Upto p q i) (fun i => [(0, .sl false 3 (p.map eToken)), (1, .sl false 3 (q.map eToken)), (12, .int .i64 p.length), (13, .int .i64 i)]) (fun i => p.length - i) 0 ⟨Nat.zero_le _, upto_0 _ _⟩ ?_ ?_
 ·(first | refine Zo (Z2 tis @h1) ?_ | exact Zc (Z2 tis @h1))
 ·rintro i ⟨hi', hb⟩
  by_cases hi : i < p.length
  ·have hi2 : i < q.length := by omega
   have key : ∀ x y : Token, (x.rule = y.rule ∧ x.frm = y.frm ∧ x.to = y.to) ↔ x = y := fun x y => by cases x; cases y; simp
   by_cases he : p[i] = q[i]
   ·have e1 : p[i].rule = q[i].rule := by rw [he]
    have e2 : p[i].frm = q[i].frm := by rw [he]
    have e3 : p[i].to = q[i].to := by rw [he]
    (repeat (first | refine Zo (Z7 tis fls eToken.eq_1 @e1 @e2 @e3 Zi) ?_ | refine .inl ⟨by kernel_rfl, ?_⟩ | exact .inl (by show _ = _; kernel_rfl) | exact Zc (Z7 tis fls eToken.eq_1 @e1 @e2 @e3 Zi)))
    exact round_normal (i + 1) ⟨by omega, upto_s hb hi hi2 he⟩ (by (first | refine Zo tis ?_ | exact Zc tis)) (by show p.length - (i + 1) < p.length - i; omega)
   ·have h2 : decide (p = q) = false := decide_eq_false (fun e => he (by subst e; rfl))
    by_cases e1 : p[i].rule = q[i].rule
    ·by_cases e2 : p[i].frm = q[i].frm
     ·have e3 : ¬ p[i].to = q[i].to := fun e3 => he ((key _ _).1 ⟨e1, e2, e3⟩)
      (repeat (first | refine Zo (Z8 tis fls eToken.eq_1 @e1 @e2 @e3 @h2 Zi) ?_ | refine .inl ⟨by kernel_rfl, ?_⟩ | exact .inl (by show _ = _; kernel_rfl) | exact Zc (Z8 tis fls eToken.eq_1 @e1 @e2 @e3 @h2 Zi)))
     ·(repeat (first | refine Zo (Z7 tis fls eToken.eq_1 @e1 @e2 @h2 Zi) ?_ | refine .inl ⟨by kernel_rfl, ?_⟩ | exact .inl (by show _ = _; kernel_rfl) | exact Zc (Z7 tis fls eToken.eq_1 @e1 @e2 @h2 Zi)))
    ·(repeat (first | refine Zo (Z6 tis fls eToken.eq_1 @e1 @h2 Zi) ?_ | refine .inl ⟨by kernel_rfl, ?_⟩ | exact .inl (by show _ = _; kernel_rfl) | exact Zc (Z6 tis fls eToken.eq_1 @e1 @h2 Zi)))
  ·obtain rfl : i = p.length := by omega
   have h2 : decide (p = q) = true := decide_eq_true (upto_e hb hl)
   (repeat (first | refine Zo (Z4 tis fls @h2 Zi) ?_ | refine .inl ⟨by kernel_rfl, ?_⟩ | exact .inl (by show _ = _; kernel_rfl) | exact Zc (Z4 tis fls @h2 Zi)))
theorem fits_lexSame (p q : List Token) (hp : p.length ≤ 1099511627776) : Fits prog 17 [.sl false 3 (p.map eToken), .sl false 3 (q.map eToken)] (.bool (decide (p = q))) [] := by
 have c := fits_sameTok p q hp
 refine fits_of_code [4] [] [0, 1, 4] func17 rfl rfl rfl (by rfl) (by show 2 ≤ 8; decide) (by rfl) (by rfl) (by show 0 ≤ 2; decide) (by rfl) (run_of ?_)
 (repeat (first | refine callL c ?_ | refine callB c ?_ | refine Zo (Z3 tis fls Zi) ?_ | refine .inl ⟨by kernel_rfl, ?_⟩ | exact .inl (by show _ = _; kernel_rfl) | exact Zc (Z3 tis fls Zi)))
theorem fits_sameIns (p q : List Ins) (hp : p.length ≤ 1099511627776) : Fits prog 52 [.sl false 4 (p.map eIns), .sl false 4 (q.map eIns)] (.bool (decide (p = q))) [] := by
 refine fits_of_code [4] [] [0, 1, 4, 5, 10, 12, 13, 14, 24] func52 rfl rfl rfl (by rfl) (by show 2 ≤ 26; decide) (by rfl) (by rfl) (by show 0 ≤ 2; decide) (by rfl) (run_of ?_)
 by_cases hl : p.length = q.length
 case neg =>
  have h1 : ¬ (p.length : Int) = q.length := by omega
  have h2 : decide (p = q) = false := decide_eq_false (fun e => hl (by rw [e]))
  (repeat (first | refine Zo (Z4 tis @h1 @h2 Zi) ?_ | refine .inl ⟨by kernel_rfl, ?_⟩ | exact .inl (by show _ = _; kernel_rfl) | exact Zc (Z4 tis @h1 @h2 Zi)))
 have h1 : (p.length : Int) = q.length := by omega
 (first | refine Zo (Z2 tis @h1) ?_ | exact Zc (Z2 tis @h1))
 refine run_loop (α := Nat) (fun i => i ≤ p.length ∧ Upto p q i) (fun i => [(0, .sl false 4 (p.map eIns)), (1, .sl false 4 (q.map eIns)), (12, .int .i64 p.length), (13, .int .i64 i)]) (fun i => p.length - i) 0 ⟨Nat.zero_le _, upto_0 _ _⟩ ?_ ?_
 ·(first | refine Zo (Z2 tis @h1) ?_ | exact Zc (Z2 tis @h1))
 ·rintro i ⟨hi', hb⟩
  by_cases hi : i < p.length
  ·have hi2 : i < q.length := by omega
   have key : ∀ x y : Ins, (x.op = y.op ∧ x.a = y.a ∧ x.b = y.b ∧ x.to = y.to) ↔ x = y := fun x y => by cases x; cases y; simp
   by_cases he : p[i] = q[i]
   ·have e1 : p[i].op = q[i].op := by rw [he]
    have e2 : p[i].a = q[i].a := by rw [he]
    have e3 : p[i].b = q[i].b := by rw [he]
    have e4 : p[i].to = q[i].to := by rw [he]
    (repeat (first | refine Zo (Z8 tis fls eIns.eq_1 @e1 @e2 @e3 @e4 Zi) ?_ | refine .inl ⟨by kernel_rfl, ?_⟩ | exact .inl (by show _ = _; kernel_rfl) | exact Zc (Z8 tis fls eIns.eq_1 @e1 @e2 @e3 @e4 Zi)))
    exact round_normal (i + 1) ⟨by omega, upto_s hb hi hi2 he⟩ (by (first | refine Zo tis ?_ | exact Zc tis)) (by show p.length - (i + 1) < p.length - i; omega)
   ·have h2 : decide (p = q) = false := decide_eq_false (fun e => he (by subst e; rfl))
    by_cases e1 : p[i].op = q[i].op
    ·by_cases e2 : p[i].a = q[i].a
     ·by_cases e3 : p[i].b = q[i].b
      ·have e4 : ¬ p[i].to = q[i].to := fun e4 => he ((key _ _).1 ⟨e1, e2, e3, e4⟩)
       (repeat (first | refine Zo (Z9 tis fls eIns.eq_1 @e1 @e2 @e3 @e4 @h2 Zi) ?_ | refine .inl ⟨by kernel_rfl, ?_⟩ | exact .inl (by show _ = _; kernel_rfl) | exact Zc (Z9 tis fls eIns.eq_1 @e1 @e2 @e3 @e4 @h2 Zi)))
      ·(repeat (first | refine Zo (Z8 tis fls eIns.eq_1 @e1 @e2 @e3 @h2 Zi) ?_ | refine .inl ⟨by kernel_rfl, ?_⟩ | exact .inl (by show _ = _; kernel_rfl) | exact Zc (Z8 tis fls eIns.eq_1 @e1 @e2 @e3 @h2 Zi)))
     ·(repeat (first | refine Zo (Z7 tis fls eIns.eq_1 @e1 @e2 @h2 Zi) ?_ | refine .inl ⟨by kernel_rfl, ?_⟩ | exact .inl (by show _ = _; kernel_rfl) | exact Zc (Z7 tis fls eIns.eq_1 @e1 @e2 @h2 Zi)))
    ·(repeat (first | refine Zo (Z6 tis fls eIns.eq_1 @e1 @h2 Zi) ?_ | refine .inl ⟨by kernel_rfl, ?_⟩ | exact .inl (by show _ = _; kernel_rfl) | exact Zc (Z6 tis fls eIns.eq_1 @e1 @h2 Zi)))
  ·obtain rfl : i = p.length := by omega
   have h2 : decide (p = q) = true := decide_eq_true (upto_e hb hl)
   (repeat (first | refine Zo (Z4 tis fls @h2 Zi) ?_ | refine .inl ⟨by kernel_rfl, ?_⟩ | exact .inl (by show _ = _; kernel_rfl) | exact Zc (Z4 tis fls @h2 Zi)))
theorem fits_progSame (p q : List Ins) (hp : p.length ≤ 1099511627776) : Fits prog 27 [.sl false 4 (p.map eIns), .sl false 4 (q.map eIns)] (.bool (decide (p = q))) [] := by
 have c := fits_sameIns p q hp
 refine fits_of_code [4] [] [0, 1, 4] func27 rfl rfl rfl (by rfl) (by show 2 ≤ 8; decide) (by rfl) (by rfl) (by show 0 ≤ 2; decide) (by rfl) (run_of ?_)
 (repeat (first | refine callL c ?_ | refine callB c ?_ | refine Zo (Z3 tis fls Zi) ?_ | refine .inl ⟨by kernel_rfl, ?_⟩ | exact .inl (by show _ = _; kernel_rfl) | exact Zc (Z3 tis fls Zi)))
theorem fits_feedSame2 (f g : Feed) (hp : f.prog.length ≤ 1099511627776) (ho : f.out.length ≤ 1099511627776) : Fits prog 9 [eFeed false f, eFeed false g] (.bool (decide (f = g))) [] := by
 have cP := fits_progSame f.prog g.prog hp
 have cL := fits_lexSame f.out g.out ho
 unfold eFeed
 by_cases e1 : f.prog = g.prog
 case neg =>
  have h2 : decide (f = g) = false := decide_eq_false (fun e => e1 (by rw [e]))
  rw [decide_eq_false e1] at cP
  refine fits_of_code [4] [] [0, 1, 2, 3, 4] func9 rfl rfl rfl (by rfl) (by show 2 ≤ 66; decide) (by rfl) (by rfl) (by show 0 ≤ 2; decide) (by rfl) (run_of ?_)
  (repeat (first | refine Zo (Z4 tis fls @h2 Zi) ?_ | refine .inl ⟨by kernel_rfl, ?_⟩ | exact .inl (by show _ = _; kernel_rfl) | exact Zc (Z4 tis fls @h2 Zi)); try ((first | refine callL cP ?_ | refine callB cP ?_); repeat (first | refine Zo (Z4 tis fls @h2 Zi) ?_ | refine .inl ⟨by kernel_rfl, ?_⟩ | exact .inl (by show _ = _; kernel_rfl) | exact Zc (Z4 tis fls @h2 Zi))))
 rw [decide_eq_true e1] at cP
 by_cases e2 : f.buf = g.buf
 case neg =>
  have h2 : decide (f = g) = false := decide_eq_false (fun e => e2 (by rw [e]))
  have eb : (f.buf == g.buf) = false := by simpa using e2
  refine fits_of_code [4] [] [0, 1, 2, 3, 4] func9 rfl rfl rfl (by rfl) (by show 2 ≤ 66; decide) (by rfl) (by rfl) (by show 0 ≤ 2; decide) (by rfl) (run_of ?_)
  (repeat (first | refine Zo (Z5 tis fls @h2 @eb Zi) ?_ | refine .inl ⟨by kernel_rfl, ?_⟩ | exact .inl (by show _ = _; kernel_rfl) | exact Zc (Z5 tis fls @h2 @eb Zi)); try ((first | refine callL cP ?_ | refine callB cP ?_); repeat (first | refine Zo (Z5 tis fls @h2 @eb Zi) ?_ | refine .inl ⟨by kernel_rfl, ?_⟩ | exact .inl (by show _ = _; kernel_rfl) | exact Zc (Z5 tis fls @h2 @eb Zi))))
 by_cases e3 : f.base = g.base
 case neg =>
  have h2 : decide (f = g) = false := decide_eq_false (fun e => e3 (by rw [e]))
  refine fits_of_code [4] [] [0, 1, 2, 3, 4] func9 rfl rfl rfl (by rfl) (by show 2 ≤ 66; decide) (by rfl) (by rfl) (by show 0 ≤ 2; decide) (by rfl) (run_of ?_)
  (repeat (first | refine Zo (Z6 tis fls @h2 @e2 @e3 Zi) ?_ | refine .inl ⟨by kernel_rfl, ?_⟩ | exact .inl (by show _ = _; kernel_rfl) | exact Zc (Z6 tis fls @h2 @e2 @e3 Zi)); try ((first | refine callL cP ?_ | refine callB cP ?_); repeat (first | refine Zo (Z6 tis fls @h2 @e2 @e3 Zi) ?_ | refine .inl ⟨by kernel_rfl, ?_⟩ | exact .inl (by show _ = _; kernel_rfl) | exact Zc (Z6 tis fls @h2 @e2 @e3 Zi))))
 by_cases e4 : f.pc = g.pc
 case neg =>
  have h2 : decide (f = g) = false := decide_eq_false (fun e => e4 (by rw [e]))
  refine fits_of_code [4] [] [0, 1, 2, 3, 4] func9 rfl rfl rfl (by rfl) (by show 2 ≤ 66; decide) (by rfl) (by rfl) (by show 0 ≤ 2; decide) (by rfl) (run_of ?_)
  (repeat (first | refine Zo (Z7 tis fls @h2 @e2 @e3 @e4 Zi) ?_ | refine .inl ⟨by kernel_rfl, ?_⟩ | exact .inl (by show _ = _; kernel_rfl) | exact Zc (Z7 tis fls @h2 @e2 @e3 @e4 Zi)); try ((first | refine callL cP ?_ | refine callB cP ?_); repeat (first | refine Zo (Z7 tis fls @h2 @e2 @e3 @e4 Zi) ?_ | refine .inl ⟨by kernel_rfl, ?_⟩ | exact .inl (by show _ = _; kernel_rfl) | exact Zc (Z7 tis fls @h2 @e2 @e3 @e4 Zi))))
 by_cases e5 : f.at_ = g.at_
 case neg =>
  have h2 : decide (f = g) = false := decide_eq_false (fun e => e5 (by rw [e]))
  refine fits_of_code [4] [] [0, 1, 2, 3, 4] func9 rfl rfl rfl (by rfl) (by show 2 ≤ 66; decide) (by rfl) (by rfl) (by show 0 ≤ 2; decide) (by rfl) (run_of ?_)
  (repeat (first | refine Zo (Z8 tis fls @h2 @e2 @e3 @e4 @e5 Zi) ?_ | refine .inl ⟨by kernel_rfl, ?_⟩ | exact .inl (by show _ = _; kernel_rfl) | exact Zc (Z8 tis fls @h2 @e2 @e3 @e4 @e5 Zi)); try ((first | refine callL cP ?_ | refine callB cP ?_); repeat (first | refine Zo (Z8 tis fls @h2 @e2 @e3 @e4 @e5 Zi) ?_ | refine .inl ⟨by kernel_rfl, ?_⟩ | exact .inl (by show _ = _; kernel_rfl) | exact Zc (Z8 tis fls @h2 @e2 @e3 @e4 @e5 Zi))))
 by_cases e6 : f.rule = g.rule
 case neg =>
  have h2 : decide (f = g) = false := decide_eq_false (fun e => e6 (by rw [e]))
  refine fits_of_code [4] [] [0, 1, 2, 3, 4] func9 rfl rfl rfl (by rfl) (by show 2 ≤ 66; decide) (by rfl) (by rfl) (by show 0 ≤ 2; decide) (by rfl) (run_of ?_)
  (repeat (first | refine Zo (Z9 tis fls @h2 @e2 @e3 @e4 @e5 @e6 Zi) ?_ | refine .inl ⟨by kernel_rfl, ?_⟩ | exact .inl (by show _ = _; kernel_rfl) | exact Zc (Z9 tis fls @h2 @e2 @e3 @e4 @e5 @e6 Zi)); try ((first | refine callL cP ?_ | refine callB cP ?_); repeat (first | refine Zo (Z9 tis fls @h2 @e2 @e3 @e4 @e5 @e6 Zi) ?_ | refine .inl ⟨by kernel_rfl, ?_⟩ | exact .inl (by show _ = _; kernel_rfl) | exact Zc (Z9 tis fls @h2 @e2 @e3 @e4 @e5 @e6 Zi))))
 by_cases e7 : f.to = g.to
 case neg =>
  have h2 : decide (f = g) = false := decide_eq_false (fun e => e7 (by rw [e]))
  refine fits_of_code [4] [] [0, 1, 2, 3, 4] func9 rfl rfl rfl (by rfl) (by show 2 ≤ 66; decide) (by rfl) (by rfl) (by show 0 ≤ 2; decide) (by rfl) (run_of ?_)
  (repeat (first | refine Zo (Z10 tis fls @h2 @e2 @e3 @e4 @e5 @e6 @e7 Zi) ?_ | refine .inl ⟨by kernel_rfl, ?_⟩ | exact .inl (by show _ = _; kernel_rfl) | exact Zc (Z10 tis fls @h2 @e2 @e3 @e4 @e5 @e6 @e7 Zi)); try ((first | refine callL cP ?_ | refine callB cP ?_); repeat (first | refine Zo (Z10 tis fls @h2 @e2 @e3 @e4 @e5 @e6 @e7 Zi) ?_ | refine .inl ⟨by kernel_rfl, ?_⟩ | exact .inl (by show _ = _; kernel_rfl) | exact Zc (Z10 tis fls @h2 @e2 @e3 @e4 @e5 @e6 @e7 Zi))))
 by_cases e8 : f.out = g.out
 case neg =>
  have h2 : decide (f = g) = false := decide_eq_false (fun e => e8 (by rw [e]))
  rw [decide_eq_false e8] at cL
  refine fits_of_code [4] [] [0, 1, 2, 3, 4] func9 rfl rfl rfl (by rfl) (by show 2 ≤ 66; decide) (by rfl) (by rfl) (by show 0 ≤ 2; decide) (by rfl) (run_of ?_)
  (repeat (first | refine Zo (Z10 tis fls @h2 @e2 @e3 @e4 @e5 @e6 @e7 Zi) ?_ | refine .inl ⟨by kernel_rfl, ?_⟩ | exact .inl (by show _ = _; kernel_rfl) | exact Zc (Z10 tis fls @h2 @e2 @e3 @e4 @e5 @e6 @e7 Zi)); try ((first | refine callL cP ?_ | refine callB cP ?_); repeat (first | refine Zo (Z10 tis fls @h2 @e2 @e3 @e4 @e5 @e6 @e7 Zi) ?_ | refine .inl ⟨by kernel_rfl, ?_⟩ | exact .inl (by show _ = _; kernel_rfl) | exact Zc (Z10 tis fls @h2 @e2 @e3 @e4 @e5 @e6 @e7 Zi))); try ((first | refine callL cL ?_ | refine callB cL ?_); repeat (first | refine Zo (Z10 tis fls @h2 @e2 @e3 @e4 @e5 @e6 @e7 Zi) ?_ | refine .inl ⟨by kernel_rfl, ?_⟩ | exact .inl (by show _ = _; kernel_rfl) | exact Zc (Z10 tis fls @h2 @e2 @e3 @e4 @e5 @e6 @e7 Zi))))
 rw [decide_eq_true e8] at cL
 by_cases e9 : f.stuck = g.stuck
 case neg =>
  have h2 : decide (f = g) = false := decide_eq_false (fun e => e9 (by rw [e]))
  have eb : (f.stuck == g.stuck) = false := by simpa using e9
  refine fits_of_code [4] [] [0, 1, 2, 3, 4] func9 rfl rfl rfl (by rfl) (by show 2 ≤ 66; decide) (by rfl) (by rfl) (by show 0 ≤ 2; decide) (by rfl) (run_of ?_)
  (repeat (first | refine Zo (Z11 tis fls @h2 @e2 @e3 @e4 @e5 @e6 @e7 @eb Zi) ?_ | refine .inl ⟨by kernel_rfl, ?_⟩ | exact .inl (by show _ = _; kernel_rfl) | exact Zc (Z11 tis fls @h2 @e2 @e3 @e4 @e5 @e6 @e7 @eb Zi)); try ((first | refine callL cP ?_ | refine callB cP ?_); repeat (first | refine Zo (Z11 tis fls @h2 @e2 @e3 @e4 @e5 @e6 @e7 @eb Zi) ?_ | refine .inl ⟨by kernel_rfl, ?_⟩ | exact .inl (by show _ = _; kernel_rfl) | exact Zc (Z11 tis fls @h2 @e2 @e3 @e4 @e5 @e6 @e7 @eb Zi))); try ((first | refine callL cL ?_ | refine callB cL ?_); repeat (first | refine Zo (Z11 tis fls @h2 @e2 @e3 @e4 @e5 @e6 @e7 @eb Zi) ?_ | refine .inl ⟨by kernel_rfl, ?_⟩ | exact .inl (by show _ = _; kernel_rfl) | exact Zc (Z11 tis fls @h2 @e2 @e3 @e4 @e5 @e6 @e7 @eb Zi))))
 have h2 : decide (f = g) = true := decide_eq_true (by cases f; cases g; simp only at *; subst e1 e2 e3 e4 e5 e6 e7 e8 e9; rfl)
 refine fits_of_code [4] [] [0, 1, 2, 3, 4] func9 rfl rfl rfl (by rfl) (by show 2 ≤ 66; decide) (by rfl) (by rfl) (by show 0 ≤ 2; decide) (by rfl) (run_of ?_)
 (repeat (first | refine Zo (Z11 tis fls @h2 @e2 @e3 @e4 @e5 @e6 @e7 @e9 Zi) ?_ | refine .inl ⟨by kernel_rfl, ?_⟩ | exact .inl (by show _ = _; kernel_rfl) | exact Zc (Z11 tis fls @h2 @e2 @e3 @e4 @e5 @e6 @e7 @e9 Zi)); try ((first | refine callL cP ?_ | refine callB cP ?_); repeat (first | refine Zo (Z11 tis fls @h2 @e2 @e3 @e4 @e5 @e6 @e7 @e9 Zi) ?_ | refine .inl ⟨by kernel_rfl, ?_⟩ | exact .inl (by show _ = _; kernel_rfl) | exact Zc (Z11 tis fls @h2 @e2 @e3 @e4 @e5 @e6 @e7 @e9 Zi))); try ((first | refine callL cL ?_ | refine callB cL ?_); repeat (first | refine Zo (Z11 tis fls @h2 @e2 @e3 @e4 @e5 @e6 @e7 @e9 Zi) ?_ | refine .inl ⟨by kernel_rfl, ?_⟩ | exact .inl (by show _ = _; kernel_rfl) | exact Zc (Z11 tis fls @h2 @e2 @e3 @e4 @e5 @e6 @e7 @e9 Zi))))
def ext (f : Feed) (w : List UInt8) : Feed := { f with buf := f.buf ++ w }
theorem mark_mark (f : Feed) : markF (markF f) = markF f := by
 have hs := markF_same f
 unfold markF at hs ⊢
 cases h : f.prog[f.pc.toNat]? with
 | none => simp [h]
 | some x =>
  simp only [h]
  by_cases hc : x.op = 1 ∧ 0 < f.at_
  ·simp [hc, h]
  ·simp [hc, h]
theorem mark_ext (f : Feed) (w : List UInt8) : markF (ext f w) = ext (markF f) w := by
 unfold markF ext
 cases h : f.prog[f.pc.toNat]? with
 | none => rfl
 | some x => simp only; split <;> rfl
theorem toF_mark (f : Feed) : toF (markF f) = toF f := by
 have hs := markF_same f
 unfold toF byteF getP
 rw [hs.1, hs.2.1, hs.2.2.2.1, hs.2.2.2.2.1]
theorem step_mark (f : Feed) : stepF (markF f) = stepF f := by
 unfold stepF
 rw [toF_mark, mark_mark, (markF_same f).2.2.2.2.1]
theorem go_mark {f : Feed} (h : FI f) (hs : f.stuck = false) : goF (markF f) = goF f := by
 have hm := markF_same f
 by_cases hl : (f.buf.length : Int) ≤ f.at_
 ·rw [goF_end hs hl, goF_end (by rw [hm.2.2.2.2.2.2]; exact hs) (by rw [hm.2.1, hm.2.2.2.2.1]; exact hl), mark_mark]
 ·rw [goF_step h hs (by omega), goF_step h.mark (by rw [hm.2.2.2.2.2.2]; exact hs) (by rw [hm.2.1, hm.2.2.2.2.1]; omega), step_mark]
theorem toF_ext {f : Feed} (h : FI f) (hl : f.at_ < f.buf.length) (w : List UInt8) : toF (ext f w) = toF f := by
 have h1 := h.at1
 have : (f.buf ++ w).getD f.at_.toNat 0 = f.buf.getD f.at_.toNat 0 := by
  simp only [List.getD]
  rw [List.getElem?_append_left (by omega)]
 unfold toF byteF getP ext
 simp only [this]
theorem cut_ext {f : Feed} (h : FI f) (w : List UInt8) : cutF (ext f w) = ext (cutF f) w := by
 have h1 := h.at1
 have h2 := h.to1
 unfold cutF ext
 split
 ·rfl
 ·simp only [List.drop_append_of_le_length (show f.to.toNat ≤ f.buf.length by omega)]
theorem step_ext {f : Feed} (h : FI f) (hl : f.at_ < f.buf.length) (w : List UInt8) : stepF (ext f w) = ext (stepF f) w := by
 unfold stepF
 rw [toF_ext h hl, mark_ext]
 split
 ·exact cut_ext h.mark w
 ·rfl
theorem go_ext {f : Feed} (h : FI f) (w : List UInt8) (hw : f.base + f.buf.length + w.length ≤ 200) : goF (ext f w) = goF (ext (goF f) w) := by
 generalize hn : muF f = n
 induction n using Nat.strongRecOn generalizing f with
 | ind n ih =>
  cases hs : f.stuck with
  | true => rw [goF_stuck hs]
  | false =>
   by_cases hl : (f.buf.length : Int) ≤ f.at_
   ·rw [goF_end hs hl, ← mark_ext]; exact (go_mark (h.more w hw) hs).symm
   ·have hl : f.at_ < f.buf.length := by omega
    have h1 := h.at1
    have e1 : goF (ext f w) = goF (stepF (ext f w)) := goF_step (h.more w hw) hs (by show f.at_ < ((f.buf ++ w).length : Nat); rw [List.length_append]; omega)
    rw [goF_step h hs hl, e1, step_ext h hl]
    have hb : (stepF f).base + (stepF f).buf.length = f.base + f.buf.length := by
     have hm := markF_same f
     have h3 := h.mark.to1
     have h4 := h.mark.at1
     unfold stepF
     split
     ·unfold cutF
      split
      ·simp only [hm.2.2.1, hm.2.1]
      ·simp only [hm.2.2.1, hm.2.1, List.length_drop]; rw [hm.2.1] at h4; omega
     ·simp only [hm.2.2.1, hm.2.1]
    exact ih _ (by rw [← hn]; exact muF_step h hs hl) (h.step hl) (by omega) rfl
structure FB (f : Feed) : Prop where
 fi : FI f
 pc0 : f.at_ = 0 → f.pc = 0
 oe : outEnd f.out 0 = some f.base
theorem feedB_iff {f : Feed} : feedB f = true ↔ FB f := by
 constructor
 ·intro h
  refine ⟨feedB_FI h, ?_, ?_⟩
  ·unfold feedB at h
   simp only [Bool.and_eq_true, decide_eq_true_eq, beq_iff_eq] at h
   exact h.2.2.2.1.2.2.1
  ·unfold feedB at h
   simp only [Bool.and_eq_true, decide_eq_true_eq, beq_iff_eq] at h
   exact h.2.2.2.2
 ·rintro ⟨⟨h1, h2, h3, h4, h5, h6, h7, h8⟩, h9, h10⟩
  unfold feedB
  simp only [Bool.and_eq_true, decide_eq_true_eq, beq_iff_eq]
  exact ⟨h1, h7, h2, ⟨h3.1, h3.2, h9, h4.1, h4.2, h5.1, h5.2, h6⟩, h10⟩
theorem FB.more {f : Feed} (h : FB f) (w : List UInt8) (hw : f.base + f.buf.length + w.length ≤ 200) : FB (ext f w) := ⟨h.fi.more w hw, h.pc0, h.oe⟩
theorem FB.mark {f : Feed} (h : FB f) : FB (markF f) := by
 have hm := markF_same f
 exact ⟨h.fi.mark, by rw [hm.2.2.2.1, hm.2.2.2.2.1]; exact h.pc0, by rw [hm.2.2.1, hm.2.2.2.2.2.1]; exact h.oe⟩
theorem FB.cut {f : Feed} (h : FB f) : FB (cutF f) := by
 refine ⟨h.fi.cut, ?_, ?_⟩
 ·unfold cutF; split
  ·exact h.pc0
  ·intro; rfl
 ·unfold cutF; split
  ·exact h.oe
  ·rename_i hr
   have ht : f.to ≠ 0 := fun e => hr (h.fi.rt.2 e)
   have h1 := h.fi.to1
   have h2 := h.fi.rule
   simp only [outEnd_app, h.oe, outEnd]
   rw [if_pos ⟨trivial, by omega, by omega, by omega⟩]
theorem FB.step {f : Feed} (h : FB f) (hl : f.at_ < f.buf.length) : FB (stepF f) := by
 have h1 := h.fi.at1
 refine ⟨h.fi.step hl, ?_, ?_⟩
 ·unfold stepF; split
  ·exact h.mark.cut.pc0
  ·intro e; simp only at e; omega
 ·unfold stepF; split
  ·exact h.mark.cut.oe
  ·have hm := markF_same f
   simp only [hm.2.2.1, hm.2.2.2.2.2.1]; exact h.oe
structure On (f g : Feed) : Prop where
 fb : FB g
 out : f.out <+: g.out
 sum : g.base + g.buf.length = f.base + f.buf.length
 prog : g.prog = f.prog
theorem On.refl {f : Feed} (h : FB f) : On f f := ⟨h, List.prefix_refl _, rfl, rfl⟩
theorem On.trans {f g h : Feed} (a : On f g) (b : On g h) : On f h := ⟨b.fb, a.out.trans b.out, b.sum.trans a.sum, b.prog.trans a.prog⟩
theorem On.mark {f g : Feed} (a : On f g) : On f (markF g) := by
 have hm := markF_same g
 exact ⟨a.fb.mark, by rw [hm.2.2.2.2.2.1]; exact a.out, by rw [hm.2.1, hm.2.2.1]; exact a.sum, by rw [hm.1]; exact a.prog⟩
theorem On.cut {f g : Feed} (a : On f g) : On f (cutF g) := by
 have h1 := a.fb.fi.to1
 have h2 := a.fb.fi.at1
 have h3 := a.sum
 refine ⟨a.fb.cut, ?_, ?_, ?_⟩ <;> unfold cutF <;> split
 ·exact a.out
 ·exact a.out.trans (List.prefix_append _ _)
 ·exact a.sum
 ·simp only [List.length_drop]; omega
 ·exact a.prog
 ·exact a.prog
theorem On.step {f g : Feed} (a : On f g) (hl : g.at_ < g.buf.length) : On f (stepF g) := by
 have hm := markF_same g
 unfold stepF
 split
 ·exact a.mark.cut
 ·rename_i ht
  have := (a.fb.step hl)
  unfold stepF at this
  rw [if_neg ht] at this
  exact ⟨this, by simp only [hm.2.2.2.2.2.1]; exact a.out, by simp only [hm.2.1, hm.2.2.1]; exact a.sum, by simp only [hm.1]; exact a.prog⟩
theorem On.run {f g : Feed} (n : Nat) (a : On f g) : On f (runF n g) := by
 induction n generalizing g with
 | zero => exact a
 | succ n ih =>
  unfold runF
  split
  ·exact a
  ·split
   ·exact a.mark
   ·exact ih (a.step (by omega))
theorem On.go {f g : Feed} (a : On f g) : On f (goF g) := a.run _
theorem pushP_eq {f : Feed} (h : FB f) (hs : f.stuck = false) {w : List UInt8} (hw : f.base + f.buf.length + w.length ≤ 200) : pushP f w = goF (ext f w) := by
 unfold pushP
 rw [if_pos (feedB_iff.2 h), if_neg (by rw [hs]; rintro (h | h); exact absurd h (by decide); omega)]
 rfl
theorem pushP_stuck {f : Feed} {w : List UInt8} (h : FB f) (hs : f.stuck = true ∨ f.base + f.buf.length + w.length > 200) : pushP f w = f := by
 unfold pushP
 rw [if_pos (feedB_iff.2 h), if_pos hs]
theorem pushP_on {f : Feed} (h : FB f) (w : List UInt8) : FB (pushP f w) ∧ f.out <+: (pushP f w).out ∧ (pushP f w).prog = f.prog := by
 by_cases hs : f.stuck = true ∨ f.base + f.buf.length + w.length > 200
 ·rw [pushP_stuck h hs]; exact ⟨h, List.prefix_refl _, rfl⟩
 ·have h2 : f.stuck = false := by cases hh : f.stuck with | true => exact absurd (.inl hh) hs | false => rfl
  have h3 : f.base + f.buf.length + w.length ≤ 200 := by
   have := fun h => hs (.inr h); omega
  rw [pushP_eq h h2 h3]
  have a := (On.refl (h.more w h3)).go
  exact ⟨a.fb, a.out, a.prog⟩
def Sim (f g : Feed) : Prop := f = g ∨ (f.stuck = true ∧ g.stuck = true ∧ f.out = g.out ∧ f.base = g.base)
theorem Sim.obs {f g : Feed} (h : Sim f g) : f.out = g.out ∧ f.base = g.base ∧ f.stuck = g.stuck := by
 rcases h with rfl | ⟨a, b, c, d⟩
 ·exact ⟨rfl, rfl, rfl⟩
 ·exact ⟨c, d, a.trans b.symm⟩
theorem push_two {f : Feed} (h : FB f) (u v : List UInt8) (hw : f.base + f.buf.length + (u.length + v.length : Nat) ≤ 200) : Sim (pushP f (u ++ v)) (pushP (pushP f u) v) := by
 cases hs : f.stuck with
 | true => rw [pushP_stuck h (.inl hs), pushP_stuck h (.inl hs), pushP_stuck h (.inl hs)]; exact .inl rfl
 | false =>
  have hu : f.base + f.buf.length + u.length ≤ 200 := by omega
  have hO := (On.refl (h.more u hu)).go
  have hsum : (goF (ext f u)).base + (goF (ext f u)).buf.length = f.base + (f.buf.length + u.length : Nat) := by
   rw [hO.sum]; simp only [ext, List.length_append]
  rw [pushP_eq h hs (by rw [List.length_append]; omega), pushP_eq h hs hu]
  have e : ext f (u ++ v) = ext (ext f u) v := by unfold ext; simp
  rw [e, go_ext (h.more u hu).fi v (by simp only [ext, List.length_append]; omega)]
  generalize goF (ext f u) = g at *
  have hg : g.base + g.buf.length + v.length ≤ 200 := by omega
  cases hs2 : g.stuck with
  | true =>
   rw [pushP_stuck hO.fb (.inl hs2), goF_stuck (by exact hs2)]
   exact .inr ⟨hs2, hs2, rfl, rfl⟩
  | false => rw [pushP_eq hO.fb hs2 hg]; exact .inl rfl
end Go.Proofs.YtikpjpinkkllaaaGreat.U
