/- What functions of the program answer, on values without memory (part 2): conditions stand at each theorem. -/
import Derived.Test.YtpffgegfjpdncaaGreatDoorRows
import Derived.Test.YtpffgegfjpdncaaGreatDoorTurnHeadU1
import Derived.Shelf.Strings.OnBuilder
import Derived.Shelf.LaysM
import Derived.Shelf.Strconv.Itoa3
import Derived.Shelf.Sort.Plain
import Derived.Shelf.Slices.In.SortNone2
set_option linter.unusedVariables false
set_option linter.unusedSimpArgs false
set_option maxRecDepth 100000
set_option maxHeartbeats 4000000
namespace Go.Proofs.YtpffgegfjpdncaaGreatDoor.U
open Go Go.RowKit Go.Proofs Go.Proofs.YtpffgegfjpdncaaGreatDoor.Am AV Go.Proofs.Tryz
theorem fits_normOr (a b : Rex) (ha : Okr a) (hb : Okr b) (hB : bd a + bd b ≤ 900000000) : Fits prog 77 [eRex false a, eRex false b] (eRex false (orN a b)) [] := by
 have cB := fits_bag 4 (.inl rfl) a b ha hb (by omega)
 obtain ⟨h1, h2, h3⟩ := bagR_ok 4 (.inl rfl) ha hb
 have cC := fits_chain 4 (bagR 4 a b) h3 (by omega)
 have hm := fun x hx => bd_mem (L := bagR 4 a b) (x := x) hx
 unfold orN
 generalize bagR 4 a b = L at *
 rw [eRex_eq false a, eRex_eq false b] at cB ⊢
 refine fits_of_cell 4 30 [] [0, 1, 2, 3, 4, 5, 7, 11, 12, 13, 14, 18] func77 rfl rfl rfl (by show 4 < 23; decide) (by show 2 ≤ 23; decide) (by rfl) (by rfl) (by show 0 ≤ 2; decide) (by rfl) (run_of ?_)
 refine Zo (Z3 tis rx fls) ?_
 refine callB cB ?_
 refine Zo (Z3 tis rx fls) ?_
 refine ⟨by split <;> trivial, ?_⟩
 refine run_loop (α := Nat) (fun i => i ≤ L.length ∧ ∀ j (h : j < L.length), j < i → allR L[j] = false) (fun i => [(4, .box (.agg [.int .i64 0, .sl true 2 [], .sl true 3 []])), (5, .sl (decide (i < L.length)) 3 (L.map (eRex false))), (11, if decide (i < L.length) = true then .vref 5 [] else .undef), (12, .int .i64 L.length), (13, .int .i64 i)]) (fun i => L.length - i) 0 ⟨Nat.zero_le _, fun j _ h => by omega⟩ ?_ ?_
 ·have d0 : decide (0 < L.length) = true := by simp [h3]
  exact Zc (Z4 tis rx fls @d0)
  done
 ·rintro i ⟨hi', hh⟩
  by_cases hi : i < L.length
  ·have hx := List.getElem_mem hi
   have bx := hm _ hx
   have cA := fits_isAll L[i] (by omega) (okr_7 (h1 _ hx))
   have fa := find_at hi hh
   have ex := eRex_eq false L[i]
   have dI : decide (i < L.length) = true := by simp [hi]
   rw [dI]
   rw [ex] at cA
   cases hA : allR L[i] with
   | true =>
    rw [hA] at cA
    rw [fa hA]
    simp only
    rw [ex]
    refine Zo (Z4 tis rx fls @eRex_eq) ?_
    refine callB cA ?_
    exact Zc (Z4 tis rx fls @eRex_eq)
    done
   | false =>
    rw [hA] at cA
    refine Zo (Z4 tis rx fls @eRex_eq) ?_
    refine callB cA ?_
    refine Zo (Z4 tis rx fls @eRex_eq) ?_
    have nx : ∀ j (h : j < L.length), j < i + 1 → allR L[j] = false := by
     intro j hj hji
     by_cases e : j = i
     ·subst e; exact hA
     ·exact hh j hj (by omega)
    by_cases hl : i + 1 < L.length
    ·have dn : decide (i + 1 < L.length) = true := by simp [hl]
     refine round_normal (i + 1) ⟨by omega, nx⟩ ?_ (by show L.length - (i + 1) < L.length - i; omega)
     rw [dn]
     exact Zc (Z4 tis rx fls @eRex_eq)
     done
    ·have dn : decide (i + 1 < L.length) = false := by simp [hl]
     refine round_frz [(5, [])] (i + 1) ⟨by omega, nx⟩ ?_ (by show L.length - (i + 1) < L.length - i; omega)
     rw [dn]
     have el := erL_rexL L
     exact Zc (Z5 tis rx fls @eRex_eq @el)
     done
  ·obtain rfl : i = L.length := by omega
   have fn : L.find? allR = none := by
    rw [List.find?_eq_none]
    intro x hx
    obtain ⟨j, hj, rfl⟩ := List.getElem_of_mem hx
    rw [hh j hj hj]; simp
   rw [fn]
   simp only
   generalize chainR 4 L = C at *
   rw [eRex_eq false C] at cC ⊢
   have dE : decide (L.length < L.length) = false := by simp
   rw [dE]
   refine Zo (Z4 tis rx fls @eRex_eq) ?_
   refine callB cC ?_
   exact Zc (Z4 tis rx fls @eRex_eq)
   done
theorem fits_normAnd (a b : Rex) (ha : Okr a) (hb : Okr b) (hB : bd a + bd b ≤ 900000000) : Fits prog 88 [eRex false a, eRex false b] (eRex false (andN a b)) [] := by
 have cB := fits_bag 6 (.inr rfl) a b ha hb (by omega)
 obtain ⟨h1, h2, h3⟩ := bagR_ok 6 (.inr rfl) ha hb
 have hm := fun x hx => bd_mem (L := bagR 6 a b) (x := x) hx
 have c0 := fits_nothingR
 unfold andN
 generalize bagR 6 a b = L at *
 rw [eRex_eq false a, eRex_eq false b] at cB ⊢
 have eN : eRex false (.mk 1 [] []) = .agg [.int .i64 1, .sl false 2 [], .sl false 3 []] := by rw [eRex_eq]; rfl
 rw [eN] at c0
 have fle : ∀ i, ((L.take i).filter nAll).length ≤ L.length := fun i => Nat.le_trans (List.length_filter_le _ _) (by rw [List.length_take]; omega)
 have ft : ∀ i (hi : i < L.length), (L.take (i + 1)).filter nAll = (L.take i).filter nAll ++ (if allR L[i] = true then [] else [L[i]]) := by
  intro i hi
  rw [List.take_succ_eq_append_getElem hi, List.filter_append]
  unfold nAll
  cases h : allR L[i] with
  | true => simp [h]
  | false => simp [h]
 obtain ⟨R, hR⟩ : ∃ R, (if L.any noR = true then Rex.mk 1 [] [] else if (L.filter nAll).length = 0 then L.getD 0 default else chainR 6 (L.filter nAll)) = R := ⟨_, rfl⟩
 rw [hR]
 refine fits_of_cell 4 30 [] [0, 1, 2, 3, 4, 5, 6, 8, 12, 13, 14, 15, 19, 23, 31] func88 rfl rfl rfl (by show 4 < 37; decide) (by show 2 ≤ 37; decide) (by rfl) (by rfl) (by show 0 ≤ 2; decide) (by rfl) (run_of ?_)
 refine Zo (Z3 tis rx fls) ?_
 refine callB cB ?_
 refine Zo (Z3 tis rx fls) ?_
 refine ⟨by split <;> trivial, ?_⟩
 refine run_loop (α := Nat) (fun i => i ≤ L.length ∧ ∀ j (h : j < L.length), j < i → noR L[j] = false) (fun i => [(4, .box (.agg [.int .i64 0, .sl true 2 [], .sl true 3 []])), (5, .sl true 3 (L.map (eRex false))), (6, .sl (decide (i < L.length)) 3 (((L.take i).filter nAll).map (eRex false))), (12, .vref 5 []), (13, .int .i64 L.length), (14, .int .i64 i)]) (fun i => L.length - i) 0 ⟨Nat.zero_le _, fun j _ h => by omega⟩ ?_ ?_
 ·rw [List.take_zero, List.filter_nil]
  have d0 : decide (0 < L.length) = true := by simp [h3]
  exact Zc (Z5 tis rx fls @LLmapnil @d0)
  done
 ·rintro i ⟨hi', hh⟩
  by_cases hi : i < L.length
  ·have hx := List.getElem_mem hi
   have bx := hm _ hx
   have cN := fits_isNothing L[i] (by omega)
   have cA := fits_isAll L[i] (by omega) (okr_7 (h1 _ hx))
   have ex := eRex_eq false L[i]
   have ft := ft i hi
   have fl := fle i
   have dI : decide (i < L.length) = true := by simp [hi]
   rw [dI]
   rw [ex] at cA cN
   cases hN : noR L[i] with
   | true =>
    rw [hN] at cN
    rw [if_pos (List.any_eq_true.2 ⟨_, hx, hN⟩)] at hR
    subst hR
    rw [eN]
    refine Zo (Z4 tis rx fls @eRex_eq) ?_
    refine callB cN ?_
    refine Zo (Z4 tis rx fls @eRex_eq) ?_
    refine callB c0 ?_
    exact Zc (Z4 tis rx fls @eRex_eq)
    done
   | false =>
    rw [hN] at cN
    have nx : ∀ j (h : j < L.length), j < i + 1 → noR L[j] = false := by
     intro j hj hji
     by_cases e : j = i
     ·subst e; exact hN
     ·exact hh j hj (by omega)
    generalize hF : (L.take i).filter nAll = F at *
    cases hA : allR L[i] with
    | true =>
     rw [hA] at ft cA
     simp only [if_true, List.append_nil] at ft
     refine Zo (Z4 tis rx fls @eRex_eq) ?_
     refine callB cN ?_
     refine Zo (Z4 tis rx fls @eRex_eq) ?_
     refine callB cA ?_
     refine Zo (Z4 tis rx fls @eRex_eq) ?_
     by_cases hl : i + 1 < L.length
     ·have dn : decide (i + 1 < L.length) = true := by simp [hl]
      refine round_normal (i + 1) ⟨by omega, nx⟩ ?_ (by show L.length - (i + 1) < L.length - i; omega)
      rw [dn, ft]
      exact Zc (Z4 tis rx fls @eRex_eq)
      done
     ·have dn : decide (i + 1 < L.length) = false := by simp [hl]
      refine round_frz [(6, [])] (i + 1) ⟨by omega, nx⟩ ?_ (by show L.length - (i + 1) < L.length - i; omega)
      rw [dn, ft]
      have el := erL_rexL F
      exact Zc (Z5 tis rx fls @eRex_eq @el)
      done
    | false =>
     rw [hA] at ft cA
     simp only [Bool.false_eq_true, if_false] at ft
     refine Zo (Z4 tis rx fls @eRex_eq) ?_
     refine callB cN ?_
     refine Zo (Z4 tis rx fls @eRex_eq) ?_
     refine callB cA ?_
     refine Zo (Z4 tis rx fls @eRex_eq) ?_
     by_cases hl : i + 1 < L.length
     ·have dn : decide (i + 1 < L.length) = true := by simp [hl]
      refine round_normal (i + 1) ⟨by omega, nx⟩ ?_ (by show L.length - (i + 1) < L.length - i; omega)
      rw [dn, ft, List.map_append]
      exact Zc (Z6 tis rx fls @eRex_eq @LLmapcon @LLmapnil)
      done
     ·have dn : decide (i + 1 < L.length) = false := by simp [hl]
      refine round_frz [(6, [])] (i + 1) ⟨by omega, nx⟩ ?_ (by show L.length - (i + 1) < L.length - i; omega)
      rw [dn, ft, List.map_append]
      refine Zo (Z6 tis rx fls @eRex_eq @LLmapcon @LLmapnil) ?_
      refine .inl ?_
      rw [← eRex_eq false L[i]]
      have := erL_rexL (F ++ [L[i]])
      rwa [List.map_append] at this
  ·obtain rfl : i = L.length := by omega
   have dE : decide (L.length < L.length) = false := by simp
   rw [List.take_of_length_le (Nat.le_refl _), dE]
   have fl := fle L.length
   rw [List.take_of_length_le (Nat.le_refl _)] at fl
   have hn : ¬ L.any noR = true := by
    intro hn
    obtain ⟨x, hx, hnx⟩ := List.any_eq_true.1 hn
    obtain ⟨j, hj, rfl⟩ := List.getElem_of_mem hx
    rw [hh j hj hj] at hnx; cases hnx
   rw [if_neg hn] at hR
   by_cases h0 : (L.filter nAll).length = 0
   ·rw [if_pos h0] at hR
    have e0 : L.getD 0 default = L[0] := by simp [List.getD, h3]
    rw [e0] at hR
    subst hR
    rw [List.eq_nil_of_length_eq_zero h0, eRex_eq false L[0]]
    exact Zc (Z5 tis rx fls @eRex_eq @LLmapnil)
    done
   ·rw [if_neg h0] at hR
    have cC := fits_chain 6 (L.filter nAll) (by omega) (by omega)
    rw [hR] at cC
    generalize L.filter nAll = F at *
    rw [eRex_eq false R] at cC ⊢
    refine Zo (Z4 tis rx fls @eRex_eq) ?_
    refine callB cC ?_
    exact Zc (Z4 tis rx fls @eRex_eq)
    done
theorem fits_l4Star (r : Rex) (hr : Okr r) (hb : bd r ≤ 1000000000) : Fits prog 70 [eRex false r] (eRex false (starN r)) [] := by
 have cN := fits_l4No r (by omega)
 have er := eRex_eq false r
 unfold starN
 by_cases k5 : r.kind = 5
 ·rw [if_pos k5, er]
  refine fits_of_cell 2 30 [] [0, 1, 2, 3, 8] func70 rfl rfl rfl (by show 2 < 20; decide) (by show 1 ≤ 20; decide) (by rfl) (by rfl) (by show 0 ≤ 1; decide) (by rfl) (run_of ?_)
  exact Zc (Z3 tis rx fls)
 ·rw [if_neg k5]
  by_cases k2 : r.kind = 2
  ·rw [if_pos (.inl k2)]
   refine fits_as (res := .agg [.int .i64 2, .sl true 2 [], .sl true 3 []]) ?_ (by rw [eRex_eq]; rfl)
   rw [er]
   refine fits_of_cell 2 30 [] [0, 1, 2, 3, 8] func70 rfl rfl rfl (by show 2 < 20; decide) (by show 1 ≤ 20; decide) (by rfl) (by rfl) (by show 0 ≤ 1; decide) (by rfl) (run_of ?_)
   exact Zc (Z3 tis rx fls)
  ·rw [er] at cN
   cases n : noR r with
   | true =>
    rw [n] at cN
    rw [if_pos (.inr rfl)]
    refine fits_as (res := .agg [.int .i64 2, .sl true 2 [], .sl true 3 []]) ?_ (by rw [eRex_eq]; rfl)
    rw [er]
    refine fits_of_cell 2 30 [] [0, 1, 2, 3, 8] func70 rfl rfl rfl (by show 2 < 20; decide) (by show 1 ≤ 20; decide) (by rfl) (by rfl) (by show 0 ≤ 1; decide) (by rfl) (run_of ?_)
    refine Zo (Z3 tis rx fls) ?_
    refine callB cN ?_
    exact Zc (Z3 tis rx fls)
   | false =>
    rw [n] at cN
    rw [if_neg (by simp [k2])]
    refine fits_as (res := .agg [.int .i64 5, .sl true 2 [], .sl true 3 [eRex false r]]) ?_ (by rw [eRex_eq false (.mk 5 [] [r])]; simp [erase, eraseL, Rex.kind, Rex.set, Rex.kids, er_rex])
    rw [er]
    refine fits_of_cell 2 30 [] [0, 1, 2, 3, 8] func70 rfl rfl rfl (by show 2 < 20; decide) (by show 1 ≤ 20; decide) (by rfl) (by rfl) (by show 0 ≤ 1; decide) (by rfl) (run_of ?_)
    refine Zo (Z3 tis rx fls) ?_
    refine callB cN ?_
    exact Zc (Z3 tis rx fls)
theorem fits_l4Not (r : Rex) (hr : Okr r) (hb : bd r ≤ 1000000000) : Fits prog 92 [eRex false r] (eRex false (notN r)) [] := by
 have er := eRex_eq false r
 unfold notN
 by_cases k7 : r.kind = 7
 ·obtain ⟨x, e1, hx, _⟩ := okr_kids1 hr (.inr k7)
  rw [if_pos k7, er, e1]
  simp only [List.map_cons, List.map_nil, List.getD_cons_zero]
  rw [eRex_eq false x]
  refine fits_of_cell 2 30 [] [0, 1, 2, 5] func92 rfl rfl rfl (by show 2 < 13; decide) (by show 1 ≤ 13; decide) (by rfl) (by rfl) (by show 0 ≤ 1; decide) (by rfl) (run_of ?_)
  exact Zc (Z6 tis rx fls @LLmapcon @LLmapnil @eRex_eq)
 ·rw [if_neg k7]
  refine fits_as (res := .agg [.int .i64 7, .sl true 2 [], .sl true 3 [eRex false r]]) ?_ (by rw [eRex_eq false (.mk 7 [] [r])]; simp [erase, eraseL, Rex.kind, Rex.set, Rex.kids, er_rex])
  rw [er]
  refine fits_of_cell 2 30 [] [0, 1, 2, 5] func92 rfl rfl rfl (by show 2 < 13; decide) (by show 1 ≤ 13; decide) (by rfl) (by rfl) (by show 0 ≤ 1; decide) (by rfl) (run_of ?_)
  exact Zc (Z3 tis rx fls)
theorem fits_l4Norm (r : Rex) : Okr r → bd r ≤ 2000000 → Fits prog 51 [eRex false r] (eRex false (normR r)) [] := by
 induction r using Rex.ind' with
 | h r ih =>
  intro hr hb
  have er := eRex_eq false r
  rw [normR_eq]
  by_cases h2 : r.kind = 3 ∨ r.kind = 4 ∨ r.kind = 6
  ·obtain ⟨a, b, e, ha, hb2, hl⟩ := okr_kids2 hr h2
   have c1 := ih a (by rw [e]; simp) ha (by omega)
   have c2 := ih b (by rw [e]; simp) hb2 (by omega)
   obtain ⟨p1, p2⟩ := normR_ok a ha
   obtain ⟨q1, q2⟩ := normR_ok b hb2
   have g1 := fits_l4Cat (normR a) (normR b) p1 q1 (by omega)
   have g2 := fits_l4Or (normR a) (normR b) p1 q1 (by omega)
   have g3 := fits_l4And (normR a) (normR b) p1 q1 (by omega)
   rw [er, e]
   simp only [List.map_cons, List.map_nil, List.getD_cons_zero, List.getD_cons_succ]
   generalize normR a = A at *
   generalize normR b = B at *
   generalize catN A B = Rc at *
   generalize orN A B = Ro at *
   generalize andN A B = Ra at *
   rw [eRex_eq false a, eRex_eq false A] at c1
   rw [eRex_eq false b, eRex_eq false B] at c2
   rw [eRex_eq false A, eRex_eq false B, eRex_eq false Rc] at g1
   rw [eRex_eq false A, eRex_eq false B, eRex_eq false Ro] at g2
   rw [eRex_eq false A, eRex_eq false B, eRex_eq false Ra] at g3
   rcases h2 with h | h | h
   ·rw [if_pos h, eRex_eq false Rc]
    refine fits_of_cell 2 30 [] [0, 1, 2, 4, 5, 18, 31, 44, 52] func51 rfl rfl rfl (by show 2 < 61; decide) (by show 1 ≤ 61; decide) (by rfl) (by rfl) (by show 0 ≤ 1; decide) (by rfl) (run_of ?_)
    refine Zo (Z6 tis rx fls @LLmapcon @LLmapnil @eRex_eq) ?_
    refine .inl ⟨by kernel_rfl, ?_⟩
    refine callL c1 ?_
    refine Zo (Z6 tis rx fls @LLmapcon @LLmapnil @eRex_eq) ?_
    refine callL c2 ?_
    refine Zo (Z6 tis rx fls @LLmapcon @LLmapnil @eRex_eq) ?_
    refine callL g1 ?_
    exact Zc (Z6 tis rx fls @LLmapcon @LLmapnil @eRex_eq)
   ·rw [if_neg (by omega), if_pos h, eRex_eq false Ro]
    refine fits_of_cell 2 30 [] [0, 1, 2, 4, 5, 18, 31, 44, 52] func51 rfl rfl rfl (by show 2 < 61; decide) (by show 1 ≤ 61; decide) (by rfl) (by rfl) (by show 0 ≤ 1; decide) (by rfl) (run_of ?_)
    refine Zo (Z6 tis rx fls @LLmapcon @LLmapnil @eRex_eq) ?_
    refine .inl ⟨by kernel_rfl, ?_⟩
    refine callL c1 ?_
    refine Zo (Z6 tis rx fls @LLmapcon @LLmapnil @eRex_eq) ?_
    refine callL c2 ?_
    refine Zo (Z6 tis rx fls @LLmapcon @LLmapnil @eRex_eq) ?_
    refine callL g2 ?_
    exact Zc (Z6 tis rx fls @LLmapcon @LLmapnil @eRex_eq)
   ·rw [if_neg (by omega), if_neg (by omega), if_pos h, eRex_eq false Ra]
    refine fits_of_cell 2 30 [] [0, 1, 2, 4, 5, 18, 31, 44, 52] func51 rfl rfl rfl (by show 2 < 61; decide) (by show 1 ≤ 61; decide) (by rfl) (by rfl) (by show 0 ≤ 1; decide) (by rfl) (run_of ?_)
    refine Zo (Z6 tis rx fls @LLmapcon @LLmapnil @eRex_eq) ?_
    refine .inl ⟨by kernel_rfl, ?_⟩
    refine callL c1 ?_
    refine Zo (Z6 tis rx fls @LLmapcon @LLmapnil @eRex_eq) ?_
    refine callL c2 ?_
    refine Zo (Z6 tis rx fls @LLmapcon @LLmapnil @eRex_eq) ?_
    refine callL g3 ?_
    exact Zc (Z6 tis rx fls @LLmapcon @LLmapnil @eRex_eq)
  ·simp only [not_or] at h2
   rw [if_neg h2.1, if_neg h2.2.1, if_neg h2.2.2]
   by_cases h1 : r.kind = 5 ∨ r.kind = 7
   ·obtain ⟨a, e, ha, hl⟩ := okr_kids1 hr h1
    have c1 := ih a (by rw [e]; simp) ha (by omega)
    obtain ⟨p1, p2⟩ := normR_ok a ha
    have g1 := fits_l4Star (normR a) p1 (by omega)
    have g2 := fits_l4Not (normR a) p1 (by omega)
    rw [er, e]
    simp only [List.map_cons, List.map_nil, List.getD_cons_zero]
    generalize normR a = A at *
    generalize starN A = Rs at *
    generalize notN A = Rn at *
    rw [eRex_eq false a, eRex_eq false A] at c1
    rw [eRex_eq false A, eRex_eq false Rs] at g1
    rw [eRex_eq false A, eRex_eq false Rn] at g2
    rcases h1 with h | h
    ·rw [if_pos h, eRex_eq false Rs]
     refine fits_of_cell 2 30 [] [0, 1, 2, 4, 5, 18, 31, 44, 52] func51 rfl rfl rfl (by show 2 < 61; decide) (by show 1 ≤ 61; decide) (by rfl) (by rfl) (by show 0 ≤ 1; decide) (by rfl) (run_of ?_)
     refine Zo (Z6 tis rx fls @LLmapcon @LLmapnil @eRex_eq) ?_
     refine callB c1 ?_
     refine Zo (Z6 tis rx fls @LLmapcon @LLmapnil @eRex_eq) ?_
     refine callB g1 ?_
     exact Zc (Z6 tis rx fls @LLmapcon @LLmapnil @eRex_eq)
    ·rw [if_neg (by omega), if_pos h, eRex_eq false Rn]
     refine fits_of_cell 2 30 [] [0, 1, 2, 4, 5, 18, 31, 44, 52] func51 rfl rfl rfl (by show 2 < 61; decide) (by show 1 ≤ 61; decide) (by rfl) (by rfl) (by show 0 ≤ 1; decide) (by rfl) (run_of ?_)
     refine Zo (Z6 tis rx fls @LLmapcon @LLmapnil @eRex_eq) ?_
     refine callB c1 ?_
     refine Zo (Z6 tis rx fls @LLmapcon @LLmapnil @eRex_eq) ?_
     refine callB g2 ?_
     exact Zc (Z6 tis rx fls @LLmapcon @LLmapnil @eRex_eq)
   ·simp only [not_or] at h1
    rw [if_neg h1.1, if_neg h1.2, er]
    refine fits_of_cell 2 30 [] [0, 1, 2, 4, 5, 18, 31, 44, 52] func51 rfl rfl rfl (by show 2 < 61; decide) (by show 1 ≤ 61; decide) (by rfl) (by rfl) (by show 0 ≤ 1; decide) (by rfl) (run_of ?_)
    exact Zc (Z5 tis rx fls @LLmapcon @LLmapnil)
theorem okr_kid {r x : Rex} (h : Okr r) (hx : x ∈ r.kids) : Okr x := by
 obtain ⟨d, hd⟩ := h
 cases d with
 | zero => simp [fm] at hd
 | succ d => exact ⟨d, (fm_ok hd).2.2.2 x hx⟩
theorem okr_kidl {r : Rex} (h : Okr r) : r.kids.length ≤ 2 := by
 obtain ⟨d, hd⟩ := h
 cases d with
 | zero => simp [fm] at hd
 | succ d =>
  have := (fm_ok hd).1
  unfold kidsN at this
  split at this
  ·omega
  ·split at this
   ·omega
   ·split at this <;> omega
theorem fits_norm (r : Rex) : Okr r → bd r ≤ 1000000 → Fits prog 46 [eRex false r] (eRex false (normR r)) [] := by
 induction r using Rex.ind' with
 | h r ih =>
  intro hr hb
  have er := eRex_eq false r
  have kl := okr_kidl hr
  have hkid : ∀ x ∈ r.kids, Fits prog 46 [eRex false x] (eRex false (normR x)) [] := fun x hx => ih x hx (okr_kid hr hx) (by have := bd_kid hx; omega)
  obtain ⟨N, hN⟩ : ∃ N, normR r = N := ⟨_, rfl⟩
  rw [hN, eRex_eq false N, er]
  refine fits_of_cell 2 30 [] [0, 1, 2, 3, 5, 7, 8, 9, 10, 20, 21, 30, 39, 48, 54] func46 rfl rfl rfl (by show 2 < 61; decide) (by show 1 ≤ 61; decide) (by rfl) (by rfl) (by show 0 ≤ 1; decide) (by rfl) (run_of ?_)
  refine Zo (Z3 tis rx fls) ?_
  refine run_loop (α := Nat) (fun i => i ≤ r.kids.length) (fun i => [(1, .box (.agg [.int .i64 r.kind, .sl false 2 (r.set.map eSpan), .sl false 3 (r.kids.map (eRex false))])), (2, .box (.agg [.int .i64 0, .sl true 2 [], .sl true 3 []])), (3, .sl true 3 (((r.kids.take i).map normR).map (eRex false))), (7, .sl false 3 (r.kids.map (eRex false))), (8, .int .i64 r.kids.length), (9, .int .i64 i)]) (fun i => r.kids.length - i) 0 (Nat.zero_le _) ?_ ?_
  ·rw [List.take_zero, List.map_nil]
   exact Zc (Z4 tis rx fls @LLmapnil)
   done
  ·intro i hi'
   by_cases hi : i < r.kids.length
   ·have hx := List.getElem_mem hi
    have c := hkid _ hx
    have tl : (r.kids.take i).length = i := by rw [List.length_take]; omega
    have et : ((r.kids.take (i + 1)).map normR).map (eRex false) = ((r.kids.take i).map normR).map (eRex false) ++ [eRex false (normR r.kids[i])] := by
     rw [List.take_succ_eq_append_getElem hi, List.map_append, List.map_append]; rfl
    generalize normR r.kids[i] = X at *
    rw [eRex_eq, eRex_eq false X] at c
    refine Zo (Z4 tis rx fls @eRex_eq) ?_
    refine callB c ?_
    refine Zo (Z5 tis rx fls @eRex_eq @tl) ?_
    refine round_normal (i + 1) (by omega) ?_ (by show r.kids.length - (i + 1) < r.kids.length - i; omega)
    rw [et]
    exact Zc (Z4 tis rx fls @eRex_eq)
    done
   ·obtain rfl : i = r.kids.length := by omega
    rw [List.take_length]
    rw [normR_eq] at hN
    by_cases h2 : r.kind = 3 ∨ r.kind = 4 ∨ r.kind = 6
    ·obtain ⟨a, b, e, ha, hb2, hl⟩ := okr_kids2 hr h2
     obtain ⟨p1, p2⟩ := normR_ok a ha
     obtain ⟨q1, q2⟩ := normR_ok b hb2
     have g1 := fits_normCat (normR a) (normR b) p1 q1 (by omega)
     have g2 := fits_normOr (normR a) (normR b) p1 q1 (by omega)
     have g3 := fits_normAnd (normR a) (normR b) p1 q1 (by omega)
     rw [e] at hN ⊢
     simp only [List.map_cons, List.map_nil, List.getD_cons_zero, List.getD_cons_succ] at hN ⊢
     generalize normR a = A at *
     generalize normR b = B at *
     rw [eRex_eq false A, eRex_eq false B] at g1 g2 g3 ⊢
     rcases h2 with h | h | h
     ·rw [if_pos h] at hN
      rw [hN, eRex_eq false N] at g1
      (repeat (first | refine callL g1 ?_ | refine callB g1 ?_ | refine Zo (Z6 tis rx fls @eRex_eq @h Zi) ?_ | refine .inl ⟨by kernel_rfl, ?_⟩ | exact .inl (by show _ = _; kernel_rfl) | exact Zc (Z6 tis rx fls @eRex_eq @h Zi)))
      done
     ·rw [if_neg (by omega), if_pos h] at hN
      rw [hN, eRex_eq false N] at g2
      (repeat (first | refine callL g2 ?_ | refine callB g2 ?_ | refine Zo (Z6 tis rx fls @eRex_eq @h Zi) ?_ | refine .inl ⟨by kernel_rfl, ?_⟩ | exact .inl (by show _ = _; kernel_rfl) | exact Zc (Z6 tis rx fls @eRex_eq @h Zi)))
      done
     ·rw [if_neg (by omega), if_neg (by omega), if_pos h] at hN
      rw [hN, eRex_eq false N] at g3
      (repeat (first | refine callL g3 ?_ | refine callB g3 ?_ | refine Zo (Z6 tis rx fls @eRex_eq @h Zi) ?_ | refine .inl ⟨by kernel_rfl, ?_⟩ | exact .inl (by show _ = _; kernel_rfl) | exact Zc (Z6 tis rx fls @eRex_eq @h Zi)))
      done
    ·simp only [not_or] at h2
     rw [if_neg h2.1, if_neg h2.2.1, if_neg h2.2.2] at hN
     by_cases h1 : r.kind = 5 ∨ r.kind = 7
     ·obtain ⟨a, e, ha, hl⟩ := okr_kids1 hr h1
      obtain ⟨p1, p2⟩ := normR_ok a ha
      have g1 := fits_normStar (normR a) p1 (by omega)
      have g2 := fits_normNot (normR a) p1 (by omega)
      rw [e] at hN ⊢
      simp only [List.map_cons, List.map_nil, List.getD_cons_zero] at hN ⊢
      generalize normR a = A at *
      rw [eRex_eq false A] at g1 g2 ⊢
      rcases h1 with h | h
      ·rw [if_pos h] at hN
       rw [hN, eRex_eq false N] at g1
       (repeat (first | refine callL g1 ?_ | refine callB g1 ?_ | refine Zo (Z6 tis rx fls @eRex_eq @h Zi) ?_ | refine .inl ⟨by kernel_rfl, ?_⟩ | exact .inl (by show _ = _; kernel_rfl) | exact Zc (Z6 tis rx fls @eRex_eq @h Zi)))
       done
      ·rw [if_neg (by omega), if_pos h] at hN
       rw [hN, eRex_eq false N] at g2
       (repeat (first | refine callL g2 ?_ | refine callB g2 ?_ | refine Zo (Z6 tis rx fls @eRex_eq @h Zi) ?_ | refine .inl ⟨by kernel_rfl, ?_⟩ | exact .inl (by show _ = _; kernel_rfl) | exact Zc (Z6 tis rx fls @eRex_eq @h Zi)))
       done
     ·simp only [not_or] at h1
      rw [if_neg h1.1, if_neg h1.2] at hN
      subst hN
      exact Zc (Z4 tis rx fls @eRex_eq)
      done

theorem okr_no : Okr (.mk 1 [] []) ∧ bd (.mk 1 [] []) = 0 := ⟨okr_set setB_nil, by rw [bd_eq]; simp [Rex.set, Rex.kids]⟩
theorem okr_em : Okr (.mk 2 [] []) ∧ bd (.mk 2 [] []) = 0 := ⟨okr_emp, by rw [bd_eq]; simp [Rex.set, Rex.kids]⟩
def sumQ (l : List Rex) : Nat := (l.map ps).sum
theorem sumQ_app (a b : List Rex) : sumQ (a ++ b) = sumQ a + sumQ b := by simp [sumQ]
theorem psm (k : Int) (s : List Span) (ks : List Rex) : ps (.mk k s ks) = 1 + (ks.map ps).sum := by rw [ps]
theorem ps_pos (r : Rex) : 1 ≤ ps r := by rw [ps_eq]; omega
theorem listR_ps (k : Int) (hk : k = 4 ∨ k = 6) (r : Rex) : Okr r → sumQ (listR k r) + (listR k r).length ≤ ps r + 1 := by
 induction r using Rex.ind' with
 | h r ih =>
  intro hr
  rw [listR_eq]
  split
  ·rename_i e
   obtain ⟨a, b, e1, ha, hb, _⟩ := okr_kids2 hr (by omega)
   rw [ps_eq, e1]
   simp only [List.map_cons, List.map_nil, List.getD_cons_zero, List.getD_cons_succ, List.sum_cons, List.sum_nil]
   have h1 := ih a (by rw [e1]; simp) ha
   have h2 := ih b (by rw [e1]; simp) hb
   rw [sumQ_app, List.length_append]; omega
  ·simp [sumQ]
theorem putR_ps : ∀ (L : List Rex) (r : Rex), sumQ (putR L r) + (putR L r).length ≤ sumQ L + L.length + ps r + 1
 | [], r => by simp [putR, sumQ]
 | y :: l, r => by
  have ih := putR_ps l r
  rw [putR]
  split
  ·simp [sumQ] at *; omega
  ·split
   ·omega
   ·simp [sumQ]; omega
theorem bag_ps {k : Int} {all : List Rex} : ∀ i, i ≤ all.length → sumQ (bagA k all i).o + (bagA k all i).o.length + (if (bagA k all i).f = true then 2 else 0) ≤ sumQ (all.take i) + i
 | 0, _ => by simp [bagA, sumQ]
 | i + 1, hi => by
  have h3 := bag_ps (k := k) (all := all) i (by omega)
  rw [bagA_s (by omega), List.take_succ_eq_append_getElem (by omega), sumQ_app]
  have e : sumQ [all[i]] = ps all[i] := by simp [sumQ]
  have hp := ps_pos all[i]
  rw [e]
  unfold bagS
  split
  ·simp only [if_true]
   split at h3 <;> omega
  ·have := putR_ps (bagA k all i).o all[i]
   simp only
   omega
theorem bagR_ps (k : Int) (hk : k = 4 ∨ k = 6) {a b : Rex} (ha : Okr a) (hb : Okr b) : sumQ (bagR k a b) + (bagR k a b).length ≤ ps a + ps b + 2 := by
 have p := listR_ps k hk a ha
 have q := listR_ps k hk b hb
 have h3 := bag_ps (k := k) (all := listR k a ++ listR k b) _ (Nat.le_refl _)
 rw [List.take_of_length_le (Nat.le_refl _), sumQ_app] at h3
 unfold bagR
 simp only
 have hl : (listR k a ++ listR k b).length = (listR k a).length + (listR k b).length := List.length_append ..
 generalize bagA k (listR k a ++ listR k b) (listR k a ++ listR k b).length = z at *
 split
 ·rename_i c
  have := putR_ps z.o (.mk 1 z.t [])
  rw [psm] at this
  simp only [List.map_nil, List.sum_nil] at this
  rw [if_pos c.1] at h3
  omega
 ·split at h3 <;> omega
theorem chainR_ps (k : Int) : ∀ l : List Rex, l ≠ [] → ps (chainR k l) + 1 = sumQ l + l.length
 | [], h => absurd rfl h
 | [x], _ => by simp [chainR, sumQ]
 | x :: y :: l, _ => by
  have h2 := chainR_ps k (y :: l) (by simp)
  rw [chainR, psm]
  simp only [List.length_cons, List.map_cons, List.map_nil, List.sum_cons, List.sum_nil, sumQ] at *
  omega
theorem ps_mem {L : List Rex} {x : Rex} (h : x ∈ L) : ps x + 1 ≤ sumQ L + L.length := by
 have := le_sum (List.mem_map_of_mem (f := ps) h)
 have := List.length_pos_of_mem h
 unfold sumQ; omega
theorem filt_ps (p : Rex → Bool) : ∀ L : List Rex, sumQ (L.filter p) + (L.filter p).length ≤ sumQ L + L.length
 | [] => by simp
 | x :: l => by
  have ih := filt_ps p l
  simp only [List.filter_cons]
  split <;> simp [sumQ] at * <;> omega
theorem ps_no : ps (.mk 1 [] []) = 1 := by rw [psm]; rfl
theorem ps_em : ps (.mk 2 [] []) = 1 := by rw [psm]; rfl
theorem orN_ps {a b : Rex} (ha : Okr a) (hb : Okr b) : ps (orN a b) ≤ ps a + ps b + 1 := by
 obtain ⟨h1, h2, h3⟩ := bagR_ok 4 (.inl rfl) ha hb
 have h := bagR_ps 4 (.inl rfl) ha hb
 unfold orN
 split
 ·rename_i x e
  have := ps_mem (List.mem_of_find?_eq_some e); omega
 ·have := chainR_ps 4 _ (List.ne_nil_of_length_pos h3); omega
theorem andN_ps {a b : Rex} (ha : Okr a) (hb : Okr b) : ps (andN a b) ≤ ps a + ps b + 1 := by
 obtain ⟨h1, h2, h3⟩ := bagR_ok 6 (.inr rfl) ha hb
 have h := bagR_ps 6 (.inr rfl) ha hb
 have hp := ps_pos a
 unfold andN
 split
 ·rw [ps_no]; omega
 ·split
  ·have hx : (bagR 6 a b).getD 0 default ∈ bagR 6 a b := by
    rw [List.getD_eq_getElem?_getD, List.getElem?_eq_getElem h3]; exact List.getElem_mem h3
   have := ps_mem hx; omega
  ·rename_i hl
   have g := chainR_ps 6 ((bagR 6 a b).filter nAll) (List.ne_nil_of_length_pos (by omega))
   have := filt_ps nAll (bagR 6 a b)
   omega
theorem starN_ps (a : Rex) : ps (starN a) ≤ ps a + 1 := by
 unfold starN
 split
 ·omega
 ·split
  ·rw [ps_em]; omega
  ·rw [psm]; simp; omega
theorem notN_ps {a : Rex} (ha : Okr a) : ps (notN a) ≤ ps a + 1 := by
 unfold notN
 split
 ·rename_i e
  obtain ⟨x, e1, hx, hl⟩ := okr_kids1 ha (.inr e)
  have h : ps a = 1 + ps x := by rw [ps_eq, e1]; simp
  rw [e1]
  show ps x ≤ _; omega
 ·rw [psm]; simp; omega
theorem catN_ps (a : Rex) : ∀ b, Okr a → Okr b → ps (catN a b) ≤ ps a + ps b + 1 := by
 induction a using Rex.ind' with
 | h a ih =>
  intro b ha hb
  have hp := ps_pos a
  rw [catN_eq]
  split
  ·rw [ps_no]; omega
  ·split
   ·omega
   ·split
    ·omega
    ·split
     ·rename_i hk
      obtain ⟨x, y, e, hx, hy, hl⟩ := okr_kids2 ha (.inl hk)
      have h : ps a = 1 + ps x + ps y := by rw [ps_eq, e]; simp; omega
      rw [e]
      simp only [List.map_cons, List.map_nil, List.getD_cons_zero, List.getD_cons_succ]
      obtain ⟨g1, g2⟩ := catN_ok y b hy hb
      have q1 := ih y (by rw [e]; simp) b hy hb
      have q2 := ih x (by rw [e]; simp) _ hx g1
      omega
     ·rw [psm]; simp; omega
theorem ps_two {r a b : Rex} (e : r.kids = [a, b]) : ps r = 1 + ps a + ps b := by rw [ps_eq, e]; simp; omega
theorem ps_one {r a : Rex} (e : r.kids = [a]) : ps r = 1 + ps a := by rw [ps_eq, e]; simp
theorem normR_ps (r : Rex) : Okr r → ps (normR r) ≤ ps r := by
 induction r using Rex.ind' with
 | h r ih =>
  intro hr
  rw [normR_eq]
  by_cases h2 : r.kind = 3 ∨ r.kind = 4 ∨ r.kind = 6
  ·obtain ⟨a, b, e, ha, hb, hl⟩ := okr_kids2 hr h2
   have p2 := ih a (by rw [e]; simp) ha
   have q2 := ih b (by rw [e]; simp) hb
   have hp := ps_two e
   rw [e]
   simp only [List.map_cons, List.map_nil, List.getD_cons_zero, List.getD_cons_succ]
   have c1 := catN_ps (normR a) (normR b) (normR_ok a ha).1 (normR_ok b hb).1
   have c2 := orN_ps (normR_ok a ha).1 (normR_ok b hb).1
   have c3 := andN_ps (normR_ok a ha).1 (normR_ok b hb).1
   rcases h2 with h | h | h
   ·rw [if_pos h]; omega
   ·rw [if_neg (by omega), if_pos h]; omega
   ·rw [if_neg (by omega), if_neg (by omega), if_pos h]; omega
  ·simp only [not_or] at h2
   rw [if_neg h2.1, if_neg h2.2.1, if_neg h2.2.2]
   by_cases h1 : r.kind = 5 ∨ r.kind = 7
   ·obtain ⟨a, e, ha, hl⟩ := okr_kids1 hr h1
    have p2 := ih a (by rw [e]; simp) ha
    have hp := ps_one e
    rw [e]
    simp only [List.map_cons, List.map_nil, List.getD_cons_zero]
    have c1 := starN_ps (normR a)
    have c2 := notN_ps (normR_ok a ha).1
    rcases h1 with h | h
    ·rw [if_pos h]; omega
    ·rw [if_neg (by omega), if_pos h]; omega
   ·simp only [not_or] at h1
    rw [if_neg h1.1, if_neg h1.2]; exact Nat.le_refl _
def someN : Rex → Bool
 | .mk k s ks => if k = 1 then decide (0 < s.length) else if k = 3 then (ks.map someN).getD 0 false && (ks.map someN).getD 1 false else if k = 4 then (ks.map someN).getD 0 false || (ks.map someN).getD 1 false else true
theorem someN_eq (r : Rex) : someN r = if r.kind = 1 then decide (0 < r.set.length) else if r.kind = 3 then (r.kids.map someN).getD 0 false && (r.kids.map someN).getD 1 false else if r.kind = 4 then (r.kids.map someN).getD 0 false || (r.kids.map someN).getD 1 false else true := by
 cases r; rw [someN]; rfl
def headR : Rex → Rex
 | .mk k s ks => if k = 1 then (if s.length = 0 then .mk 1 [] [] else orN (.mk 2 [] []) (.mk k s ks))
  else if k = 3 then (if someN (.mk k s ks) = true then orN ((ks.map headR).getD 0 default) (catN (normR (ks.getD 0 default)) ((ks.map headR).getD 1 default)) else .mk 1 [] [])
  else if k = 4 then orN ((ks.map headR).getD 0 default) ((ks.map headR).getD 1 default)
  else if k = 5 then orN (.mk 2 [] []) (catN (starN (normR (ks.getD 0 default))) ((ks.map headR).getD 0 default)) else .mk 2 [] []
theorem headR_eq (r : Rex) : headR r = if r.kind = 1 then (if r.set.length = 0 then .mk 1 [] [] else orN (.mk 2 [] []) r)
  else if r.kind = 3 then (if someN r = true then orN ((r.kids.map headR).getD 0 default) (catN (normR (r.kids.getD 0 default)) ((r.kids.map headR).getD 1 default)) else .mk 1 [] [])
  else if r.kind = 4 then orN ((r.kids.map headR).getD 0 default) ((r.kids.map headR).getD 1 default)
  else if r.kind = 5 then orN (.mk 2 [] []) (catN (starN (normR (r.kids.getD 0 default))) ((r.kids.map headR).getD 0 default)) else .mk 2 [] [] := by
 cases r; rw [headR]; rfl
def qB (n : Nat) : Nat := n * (n + 5)
theorem qB_eq (a : Nat) : qB a = a * a + 5 * a := by unfold qB; rw [Nat.mul_add, Nat.mul_comm a 5]
theorem qB_two (a b n : Nat) (h : n = 1 + a + b) : qB a + qB b + a + b + 3 ≤ qB n := by
 subst h
 rw [qB_eq, qB_eq, qB_eq]
 have e : (1 + a + b) * (1 + a + b) = a * a + b * b + 1 + 2 * a + 2 * b + a * b + b * a := by simp only [Nat.add_mul, Nat.mul_add]; omega
 have h1 := Nat.zero_le (a * b)
 have h2 := Nat.zero_le (b * a)
 omega
theorem qB_one (a n : Nat) (h : n = 1 + a) : qB a + a + 4 ≤ qB n := by
 subst h
 rw [qB_eq, qB_eq]
 have e : (1 + a) * (1 + a) = a * a + 1 + 2 * a := by simp only [Nat.add_mul, Nat.mul_add]; omega
 omega
theorem qB_pos {n : Nat} (h : 1 ≤ n) : 6 ≤ qB n := by
 rw [qB_eq]
 have : 1 * 1 ≤ n * n := Nat.mul_le_mul h h
 omega
theorem headR_ok (r : Rex) : Okr r → Okr (headR r) ∧ ps (headR r) ≤ qB (ps r) := by
 induction r using Rex.ind' with
 | h r ih =>
  intro hr
  have h0 := qB_pos (ps_pos r)
  have oe := okr_em.1
  rw [headR_eq]
  by_cases k1 : r.kind = 1
  ·rw [if_pos k1]
   split
   ·exact ⟨okr_no.1, by rw [ps_no]; omega⟩
   ·have c := orN_ps oe hr
    have c2 := qB_eq (ps r)
    have c3 := Nat.mul_le_mul (ps_pos r) (ps_pos r)
    rw [ps_em] at c
    exact ⟨(orN_ok oe hr).1, by omega⟩
  ·rw [if_neg k1]
   by_cases k3 : r.kind = 3
   ·obtain ⟨x, y, e, hx, hy, _⟩ := okr_kids2 hr (.inl k3)
    obtain ⟨p1, p2⟩ := ih x (by rw [e]; simp) hx
    obtain ⟨q1, q2⟩ := ih y (by rw [e]; simp) hy
    have hp := qB_two (ps x) (ps y) (ps r) (ps_two e)
    rw [if_pos k3]
    split
    ·rw [e]
     simp only [List.map_cons, List.map_nil, List.getD_cons_zero, List.getD_cons_succ]
     have n1 := (normR_ok x hx).1
     have n2 := normR_ps x hx
     have c1 := (catN_ok (normR x) (headR y) n1 q1).1
     have c2 := catN_ps (normR x) (headR y) n1 q1
     have c3 := orN_ps p1 c1
     exact ⟨(orN_ok p1 c1).1, by omega⟩
    ·exact ⟨okr_no.1, by rw [ps_no]; omega⟩
   ·rw [if_neg k3]
    by_cases k4 : r.kind = 4
    ·obtain ⟨x, y, e, hx, hy, _⟩ := okr_kids2 hr (.inr (.inl k4))
     obtain ⟨p1, p2⟩ := ih x (by rw [e]; simp) hx
     obtain ⟨q1, q2⟩ := ih y (by rw [e]; simp) hy
     have hp := qB_two (ps x) (ps y) (ps r) (ps_two e)
     rw [if_pos k4, e]
     simp only [List.map_cons, List.map_nil, List.getD_cons_zero, List.getD_cons_succ]
     have c3 := orN_ps p1 q1
     exact ⟨(orN_ok p1 q1).1, by omega⟩
    ·rw [if_neg k4]
     by_cases k5 : r.kind = 5
     ·obtain ⟨x, e, hx, _⟩ := okr_kids1 hr (.inl k5)
      obtain ⟨p1, p2⟩ := ih x (by rw [e]; simp) hx
      have hp := qB_one (ps x) (ps r) (ps_one e)
      rw [if_pos k5, e]
      simp only [List.map_cons, List.map_nil, List.getD_cons_zero]
      have n1 := (starN_ok (normR_ok x hx).1).1
      have n2 := normR_ps x hx
      have n3 := starN_ps (normR x)
      have c1 := (catN_ok (starN (normR x)) (headR x) n1 p1).1
      have c2 := catN_ps (starN (normR x)) (headR x) n1 p1
      have c3 := orN_ps oe c1
      rw [ps_em] at c3
      exact ⟨(orN_ok oe c1).1, by omega⟩
     ·rw [if_neg k5]; exact ⟨oe, by rw [ps_em]; omega⟩


theorem fits_copiedRex (p : List Rex) (hp : p.length ≤ 1099511627776) : Fits prog 74 [.sl false 3 (p.map (eRex false))] (.sl true 3 (p.map (eRex false))) [] := by
 refine fits_of_code [2] [] [0, 2, 3, 6] func74 rfl rfl rfl (by rfl) (by show 1 ≤ 14; decide) (by rfl) (by rfl) (by show 0 ≤ 1; decide) (by rfl) (run_of ?_)
 cases p with
 | nil => exact Zc tis
 | cons x r =>
  have hl : ((x :: r).length : Int) ≠ 0 := by simp; omega
  generalize (x :: r) = p at *
  refine Zo tis ?_
  refine Zo (Z3 tis @LLlenrep rx) ?_
  simp [List.take_of_length_le]
theorem fits_rexCopy (r : Rex) (hb : bd r ≤ 1048576) : Fits prog 36 [eRex false r] (eRex true r) [] := by
 induction r using Rex.ind' with
 | h r ih =>
  have hb' := bd_eq r
  have cS := fits_copiedSpan r.set (by omega)
  have cK := fits_copiedRex r.kids (by omega)
  rw [eRex_eq, eRex_eq]
  refine fits_of_cell 2 30 [] [0, 1, 2, 3, 4, 16, 17, 18] func36 rfl rfl rfl (by show 2 < 32; decide) (by show 1 ≤ 32; decide) (by rfl) (by rfl) (by show 0 ≤ 1; decide) (by rfl) (run_of ?_)
  refine Zo tis ?_
  refine .inl ⟨by kernel_rfl, ?_⟩
  refine callL cS ?_
  refine Zo (Z3 tis fls rx) ?_
  refine callL cK ?_
  simp -implicitDefEqProofs (disch := first | (intros; contradiction) | omega) only [am0, am1, am2, am3, am4, am5, Nat.reduceSub, ↓reduceIte, reduceCtorEq, Nat.reduceEqDiff, Nat.reduceBEq, Nat.reduceAdd, Nat.reduceLT, Nat.reduceBNe, Nat.reduceMul, ↓reduceIte, tis, fls, rx, ite_self]
  refine run_loop (α := Nat) (fun i => i ≤ r.kids.length) (fun i => [(2, .box (.agg [.int .i64 0, .sl true 2 [], .sl true 3 []])), (3, .box (.agg [.int .i64 r.kind, .sl true 2 (r.set.map eSpan), .sl true 3 ((r.kids.take i).map (eRex true) ++ (r.kids.drop i).map (eRex false))])), (16, .int .i64 r.kids.length), (17, .int .i64 i)]) (fun i => r.kids.length - i) 0 (Nat.zero_le _) ?_ ?_
  ·exact Zc tis
  ·intro i hi'
   by_cases hi : i < r.kids.length
   ·have hA : ((r.kids.take i).map (eRex true)).length = i := by simp; omega
    have hL : ((r.kids.take i).map (eRex true) ++ (r.kids.drop i).map (eRex false)).length = r.kids.length := by simp; omega
    have g1 := turn_get _ (eRex false) r.kids i hA hi
    have g2 := fun y => turn_set _ (eRex false) r.kids i y hA hi
    have hm := List.getElem_mem hi
    have cF := ih r.kids[i] hm (Nat.le_trans (bd_kid hm) hb)
    refine Zo (Z7 tis rx fls @g1 @g2 @hL (eRex_eq false r.kids[i])) ?_
    refine .inl ⟨by kernel_rfl, ?_⟩
    rw [eRex_eq false r.kids[i], eRex_eq true r.kids[i]] at cF
    refine callL cF ?_
    refine Zo (Z7 tis rx fls @g1 @g2 @hL (eRex_eq false r.kids[i])) ?_
    refine round_normal (i + 1) (by omega) ?_ (by show r.kids.length - (i + 1) < r.kids.length - i; omega)
    rw [List.take_succ_eq_append_getElem hi, List.map_append, List.map_cons, List.map_nil, eRex_eq true r.kids[i]]
    exact Zc tis
   ·obtain rfl : i = r.kids.length := by omega
    exact Zc (Z3 tis @LLdrolen @LLtaklen)
theorem fits_sForm (r : Rex) (d : Nat) (hd : d ≤ 8) (hb : bd r ≤ 1048576) : Fits prog 56 [eRex false r, .int .i64 d] (.bool (fm d r)) [] := by
 induction d generalizing r with
 | zero =>
  rw [eRex_eq]
  refine fits_of_code [4] [] [0, 1, 2, 4, 5, 33, 38, 49] func56 rfl rfl rfl (by rfl) (by show 2 ≤ 50; decide) (by rfl) (by rfl) (by show 0 ≤ 2; decide) (by rfl) (run_of ?_)
  refine Zo (Z2 tis @fm_0) ?_
  refine .inl ?_
  show _ = _
  kernel_rfl
 | succ d ih =>
  have hb' := bd_eq r
  have cK := fits_sKids r.kind
  have cS := fits_sSetOk r.set (by omega)
  rw [eRex_eq]
  refine fits_of_code [4] [] [0, 1, 2, 4, 5, 33, 38, 49] func56 rfl rfl rfl (by rfl) (by show 2 ≤ 50; decide) (by rfl) (by rfl) (by show 0 ≤ 2; decide) (by rfl) (run_of ?_)
  refine Zo tis ?_
  refine .inl ⟨by kernel_rfl, ?_⟩
  refine callL cK ?_
  by_cases h1 : kidsN r.kind = r.kids.length
  case neg => simp -implicitDefEqProofs (disch := first | (intros; contradiction) | omega) only [am0, am1, am2, am3, am4, am5, Nat.reduceSub, ↓reduceIte, reduceCtorEq, Nat.reduceEqDiff, Nat.reduceBEq, Nat.reduceAdd, Nat.reduceLT, Nat.reduceBNe, Nat.reduceMul, ↓reduceIte, tis, fm_f1 h1]
  by_cases h2 : r.kind = 1 ∨ r.set.length = 0
  case neg =>
   have h2a : r.kind ≠ 1 := fun h => h2 (.inl h)
   have h2b : 0 < (r.set.length : Int) := by omega
   simp -implicitDefEqProofs (disch := first | (intros; contradiction) | omega) only [am0, am1, am2, am3, am4, am5, Nat.reduceSub, ↓reduceIte, reduceCtorEq, Nat.reduceEqDiff, Nat.reduceBEq, Nat.reduceAdd, Nat.reduceLT, Nat.reduceBNe, Nat.reduceMul, ↓reduceIte, tis, fm_f2 h2]
  have h2c : r.kind = 1 ∨ (r.kind ≠ 1 ∧ (r.set.length : Int) = 0) := by omega
  cases h3 : setB r.set with
  | false =>
   rcases h2c with h2c | ⟨h2c, h2d⟩
   all_goals
    refine Zo tis ?_
    refine callL cS ?_
    simp -implicitDefEqProofs (disch := first | (intros; contradiction) | omega) only [am0, am1, am2, am3, am4, am5, Nat.reduceSub, ↓reduceIte, reduceCtorEq, Nat.reduceEqDiff, Nat.reduceBEq, Nat.reduceAdd, Nat.reduceLT, Nat.reduceBNe, Nat.reduceMul, ↓reduceIte, tis, h3, fm_f3 h3]
  | true =>
   rcases h2c with h2c | ⟨h2c, h2d⟩
   all_goals
    refine Zo tis ?_
    refine callL cS ?_
    refine Zo (Z2 tis @h3) ?_
    refine run_loop (α := Nat) (fun i => i ≤ r.kids.length ∧ ∀ j (hj : j < r.kids.length), j < i → fm d r.kids[j] = true) (fun i => [(1, .int .i64 ((d : Int) + 1)), (2, .box (.agg [.int .i64 r.kind, .sl false 2 (r.set.map eSpan), .sl false 3 (r.kids.map (eRex false))])), (5, .int .i64 i)]) (fun i => r.kids.length - i) 0 ⟨Nat.zero_le _, by intros; omega⟩ ?_ ?_
    ·exact Zc tis
    ·rintro i ⟨hi', hb2⟩
     by_cases hi : i < r.kids.length
     ·have e1 : ((d : Int) + 1 - 1) = d := by omega
      have cF := ih r.kids[i] (by omega) (Nat.le_trans (bd_kid (List.getElem_mem hi)) hb)
      refine Zo (Z3 tis rx @eRex_eq) ?_
      refine callB cF ?_
      cases h5 : fm d r.kids[i] with
      | false => simp -implicitDefEqProofs (disch := first | (intros; contradiction) | omega) only [am0, am1, am2, am3, am4, am5, Nat.reduceSub, ↓reduceIte, reduceCtorEq, Nat.reduceEqDiff, Nat.reduceBEq, Nat.reduceAdd, Nat.reduceLT, Nat.reduceBNe, Nat.reduceMul, ↓reduceIte, tis, rx, eRex_eq, e1, fm_f hi h5]
      | true =>
       refine Zo (Z4 tis rx @eRex_eq @e1) ?_
       refine round_normal (i + 1) ⟨by omega, ?_⟩ ?_ (by show r.kids.length - (i + 1) < r.kids.length - i; omega)
       ·intro j hj hj2
        by_cases hji : j < i
        ·exact hb2 j hj hji
        ·obtain rfl : j = i := by omega
         exact h5
       ·exact Zc tis
     ·obtain rfl : i = r.kids.length := by omega
      simp -implicitDefEqProofs (disch := first | (intros; contradiction) | omega) only [am0, am1, am2, am3, am4, am5, Nat.reduceSub, ↓reduceIte, reduceCtorEq, Nat.reduceEqDiff, Nat.reduceBEq, Nat.reduceAdd, Nat.reduceLT, Nat.reduceBNe, Nat.reduceMul, ↓reduceIte, tis, fm_t h1 h2 h3 (fun i hi => hb2 i hi hi)]
theorem fits_manyParts (r : Rex) (hb : bd r ≤ 1048576) (h2 : ps r ≤ 1048576) : Fits prog 48 [eRex false r] (.int .i64 (ps r)) [] := by
 induction r using Rex.ind' with
 | h r ih =>
  have hb' := bd_eq r
  have hp := ps_eq r
  rw [eRex_eq]
  refine fits_of_code [2] [] [0, 1, 2, 3, 5, 7, 8, 9, 10] func48 rfl rfl rfl (by rfl) (by show 1 ≤ 19; decide) (by rfl) (by rfl) (by show 0 ≤ 1; decide) (by rfl) (run_of ?_)
  refine Zo tis ?_
  refine run_loop (α := Nat) (fun i => i ≤ r.kids.length) (fun i => [(3, .int .i64 ((1 + ((r.kids.map ps).take i).sum : Nat) : Int)), (7, .sl false 3 (r.kids.map (eRex false))), (8, .int .i64 r.kids.length), (9, .int .i64 i)]) (fun i => r.kids.length - i) 0 (Nat.zero_le _) ?_ ?_
  ·simp -implicitDefEqProofs (disch := first | (intros; contradiction) | omega) only [am0, am1, am2, am3, am4, am5, Nat.reduceSub, ↓reduceIte, reduceCtorEq, Nat.reduceEqDiff, Nat.reduceBEq, Nat.reduceAdd, Nat.reduceLT, Nat.reduceBNe, Nat.reduceMul, ↓reduceIte, tis, List.sum_nil]
  ·intro i hi'
   by_cases hi : i < r.kids.length
   ·have e := take_sum (l := r.kids.map ps) (i := i) (by simpa using hi)
    have e' := take_sum_le (r.kids.map ps) (i + 1)
    rw [List.getElem_map] at e
    have hm := List.getElem_mem hi
    have hk : ps r.kids[i] ≤ (r.kids.map ps).sum := le_sum (List.mem_map_of_mem hm)
    have cF := ih r.kids[i] hm (Nat.le_trans (bd_kid hm) hb) (by omega)
    refine Zo (Z3 tis rx @eRex_eq) ?_
    refine callB cF ?_
    refine Zo (Z3 tis rx @eRex_eq) ?_
    refine round_normal (i + 1) (by omega) ?_ (by show r.kids.length - (i + 1) < r.kids.length - i; omega)
    refine Zo (Z2 tis @e) ?_
    omega
   ·obtain rfl : i = r.kids.length := by omega
    have e : (r.kids.map ps).take r.kids.length = r.kids.map ps := List.take_of_length_le (by simp)
    exact Zc (Z3 tis @e @hp)
theorem fits_sMany (r : Rex) (d : Nat) (hd : d ≤ 8) (hf : fm d r = true) (hb : bd r ≤ 1048576) : Fits prog 57 [eRex false r, .int .i64 d] (.int .i64 (ps r)) [] := by
 induction d generalizing r with
 | zero => simp [fm] at hf
 | succ d ih =>
  have hb' := bd_eq r
  have hp := ps_eq r
  have h4 := (fm_ok hf).2.2.2
  have hps := ps_le (d + 1) r hf
  have h2p : 2 ^ (d + 1) ≤ 2 ^ 8 := Nat.pow_le_pow_right (by omega) hd
  have e1 : ((d : Int) + 1 - 1) = d := by omega
  rw [eRex_eq]
  refine fits_of_code [4] [] [0, 1, 2, 4, 5, 6, 15] func57 rfl rfl rfl (by rfl) (by show 2 ≤ 29; decide) (by rfl) (by rfl) (by show 0 ≤ 2; decide) (by rfl) (run_of ?_)
  refine Zo tis ?_
  refine run_loop (α := Nat) (fun i => i ≤ r.kids.length) (fun i => [(1, .int .i64 ((d : Int) + 1)), (2, .box (.agg [.int .i64 r.kind, .sl false 2 (r.set.map eSpan), .sl false 3 (r.kids.map (eRex false))])), (5, .int .i64 ((1 + ((r.kids.map ps).take i).sum : Nat) : Int)), (6, .int .i64 i)]) (fun i => r.kids.length - i) 0 (Nat.zero_le _) ?_ ?_
  ·simp -implicitDefEqProofs (disch := first | (intros; contradiction) | omega) only [am0, am1, am2, am3, am4, am5, Nat.reduceSub, ↓reduceIte, reduceCtorEq, Nat.reduceEqDiff, Nat.reduceBEq, Nat.reduceAdd, Nat.reduceLT, Nat.reduceBNe, Nat.reduceMul, ↓reduceIte, tis, List.sum_nil]
  ·intro i hi'
   by_cases hi : i < r.kids.length
   ·have e := take_sum (l := r.kids.map ps) (i := i) (by simpa using hi)
    have e' := take_sum_le (r.kids.map ps) (i + 1)
    rw [List.getElem_map] at e
    have hm := List.getElem_mem hi
    have hk : ps r.kids[i] ≤ (r.kids.map ps).sum := le_sum (List.mem_map_of_mem hm)
    have cF := ih r.kids[i] (by omega) (h4 _ hm) (Nat.le_trans (bd_kid hm) hb)
    refine Zo (Z3 tis rx @eRex_eq) ?_
    refine callB cF ?_
    refine Zo (Z4 tis rx @eRex_eq @e1) ?_
    refine round_normal (i + 1) (by omega) ?_ (by show r.kids.length - (i + 1) < r.kids.length - i; omega)
    refine Zo (Z2 tis @e) ?_
    omega
   ·obtain rfl : i = r.kids.length := by omega
    have e : (r.kids.map ps).take r.kids.length = r.kids.map ps := List.take_of_length_le (by simp)
    exact Zc (Z3 tis @e @hp)
def rexB (r : Rex) : Bool := fm 8 r && decide (ps r ≤ 24)
theorem fits_rexOk (r : Rex) (hb : bd r ≤ 1048576) : Fits prog 34 [eRex false r] (.bool (rexB r)) [] := by
 have cF : Fits prog 72 [eRex false r, .int .i64 8] (.bool (fm 8 r)) [] := fits_formed r 8 (by omega) hb
 cases h : fm 8 r with
 | false =>
  have hx : rexB r = false := by simp [rexB, h]
  rw [h] at cF
  rw [eRex_eq] at *
  refine fits_of_code [2] [] [0, 1, 2] func34 rfl rfl rfl (by rfl) (by show 1 ≤ 10; decide) (by rfl) (by rfl) (by show 0 ≤ 1; decide) (by rfl) (run_of ?_)
  refine Zo tis ?_
  refine callB cF ?_
  exact Zc (Z2 tis @hx)
 | true =>
  have hp := ps_le 8 r h
  have cM := fits_manyParts r hb (by omega)
  rw [h] at cF
  rw [eRex_eq] at *
  by_cases h2 : (ps r : Int) ≤ 24
  ·have hx : rexB r = true := by simp only [rexB, h, Bool.true_and, decide_eq_true_eq]; omega
   refine fits_of_code [2] [] [0, 1, 2] func34 rfl rfl rfl (by rfl) (by show 1 ≤ 10; decide) (by rfl) (by rfl) (by show 0 ≤ 1; decide) (by rfl) (run_of ?_)
   refine Zo tis ?_
   refine callB cF ?_
   refine Zo tis ?_
   refine callB cM ?_
   exact Zc (Z2 tis @hx)
  ·have hx : rexB r = false := by simp only [rexB, h, Bool.true_and, decide_eq_false_iff_not]; omega
   refine fits_of_code [2] [] [0, 1, 2] func34 rfl rfl rfl (by rfl) (by show 1 ≤ 10; decide) (by rfl) (by rfl) (by show 0 ≤ 1; decide) (by rfl) (run_of ?_)
   refine Zo tis ?_
   refine callB cF ?_
   refine Zo tis ?_
   refine callB cM ?_
   exact Zc (Z2 tis @hx)
theorem fits_sRexOk (r : Rex) (hb : bd r ≤ 1048576) : Fits prog 20 [eRex false r] (.bool (rexB r)) [] := by
 have cF : Fits prog 56 [eRex false r, .int .i64 8] (.bool (fm 8 r)) [] := fits_sForm r 8 (by omega) hb
 cases h : fm 8 r with
 | false =>
  have hx : rexB r = false := by simp [rexB, h]
  rw [h] at cF
  rw [eRex_eq] at *
  refine fits_of_code [2] [] [0, 1, 2] func20 rfl rfl rfl (by rfl) (by show 1 ≤ 10; decide) (by rfl) (by rfl) (by show 0 ≤ 1; decide) (by rfl) (run_of ?_)
  refine Zo tis ?_
  refine callB cF ?_
  exact Zc (Z2 tis @hx)
 | true =>
  have hp := ps_le 8 r h
  have cM : Fits prog 57 [eRex false r, .int .i64 8] (.int .i64 (ps r)) [] := fits_sMany r 8 (by omega) h hb
  rw [h] at cF
  rw [eRex_eq] at *
  by_cases h2 : (ps r : Int) ≤ 24
  ·have hx : rexB r = true := by simp only [rexB, h, Bool.true_and, decide_eq_true_eq]; omega
   refine fits_of_code [2] [] [0, 1, 2] func20 rfl rfl rfl (by rfl) (by show 1 ≤ 10; decide) (by rfl) (by rfl) (by show 0 ≤ 1; decide) (by rfl) (run_of ?_)
   refine Zo tis ?_
   refine callB cF ?_
   refine Zo tis ?_
   refine callB cM ?_
   exact Zc (Z2 tis @hx)
  ·have hx : rexB r = false := by simp only [rexB, h, Bool.true_and, decide_eq_false_iff_not]; omega
   refine fits_of_code [2] [] [0, 1, 2] func20 rfl rfl rfl (by rfl) (by show 1 ≤ 10; decide) (by rfl) (by rfl) (by show 0 ≤ 1; decide) (by rfl) (run_of ?_)
   refine Zo tis ?_
   refine callB cF ?_
   refine Zo tis ?_
   refine callB cM ?_
   exact Zc (Z2 tis @hx)



def zRex : Rex := .mk 0 [] []


theorem fits_l2Copy (r : Rex) (hb : bd r ≤ 1048576) : Fits prog 30 [eRex false r] (eRex true r) [] := by
 induction r using Rex.ind' with
 | h r ih =>
  have hb' := bd_eq r
  rw [eRex_eq, eRex_eq]
  refine fits_of_cell 2 30 [] [0, 1, 2, 3, 4, 16] func30 rfl rfl rfl (by show 2 < 31; decide) (by show 1 ≤ 31; decide) (by rfl) (by rfl) (by show 0 ≤ 1; decide) (by rfl) (run_of ?_)
  refine Zo tis ?_
  refine .inl ⟨by kernel_rfl, ?_⟩
  refine run_loop (α := Nat) (fun i => i ≤ r.kids.length) (fun i => [(1, .box (.agg [.int .i64 r.kind, .sl false 2 (r.set.map eSpan), .sl false 3 (r.kids.map (eRex false))])), (2, .box (.agg [.int .i64 0, .sl true 2 [], .sl true 3 []])), (3, .box (.agg [.int .i64 r.kind, .sl true 2 (r.set.map eSpan), .sl true 3 ((r.kids.take i).map (eRex true))])), (4, .int .i64 i)]) (fun i => r.kids.length - i) 0 (Nat.zero_le _) ?_ ?_
  ·exact Zc (Z2 tis @LLmapnil)
  ·intro i hi'
   by_cases hi : i < r.kids.length
   ·have hm := List.getElem_mem hi
    have cF := ih r.kids[i] hm (Nat.le_trans (bd_kid hm) hb)
    rw [eRex_eq false r.kids[i], eRex_eq true r.kids[i]] at cF
    refine Zo (Z4 tis rx fls (eRex_eq false r.kids[i])) ?_
    refine .inl ⟨by kernel_rfl, ?_⟩
    refine callL cF ?_
    have hlt : (r.kids.take i).length = i := by simp; omega
    refine Zo (Z4 tis rx fls @hlt) ?_
    refine round_normal (i + 1) (by omega) ?_ (by show r.kids.length - (i + 1) < r.kids.length - i; omega)
    rw [List.take_succ_eq_append_getElem hi, List.map_append, List.map_cons, List.map_nil, eRex_eq true r.kids[i]]
    exact Zc tis
   ·obtain rfl : i = r.kids.length := by omega
    exact Zc (Z3 tis rx fls)
noncomputable instance : DecidableEq Rex := fun a b => Classical.propDecidable _

theorem setB_lo2 {s : List Span} (h : setB s = true) : ∀ (i : Nat) (hi : i < s.length), (2 * i : Int) ≤ s[i].lo
 | 0, hi => by have := (setB_at h 0 hi).1.1; omega
 | i + 1, hi => by
  have a := setB_lo2 h i (by omega)
  have b := setB_at h i (by omega)
  have c := (setB_at h (i + 1) hi).2 (by omega)
  simp only [Nat.add_sub_cancel] at c
  have := b.1.2.1
  omega
theorem setB_128 {s : List Span} (h : setB s = true) : s.length ≤ 128 := by
 by_cases h0 : s.length = 0
 ·omega
 ·have a := setB_lo2 h (s.length - 1) (by omega)
  have b := (setB_at h (s.length - 1) (by omega)).1
  omega
theorem bd_ps (r : Rex) : Okr r → bd r + 1 ≤ 129 * ps r := by
 induction r using Rex.ind' with
 | h r ih =>
  intro hr
  obtain ⟨d, hd⟩ := hr
  rw [ps_eq, bd_eq]
  cases d with
  | zero => simp [fm] at hd
  | succ d =>
   obtain ⟨h1, h2, h3, h4⟩ := fm_ok hd
   have hs := setB_128 h3
   have key : ∀ l : List Rex, (∀ x ∈ l, bd x + 1 ≤ 129 * ps x) → l.length + (l.map bd).sum ≤ 129 * (l.map ps).sum := by
    intro l
    induction l with
    | nil => simp
    | cons x l ih2 =>
     intro hl
     have a := hl x (List.mem_cons_self ..)
     have b := ih2 (fun y hy => hl y (List.mem_cons_of_mem _ hy))
     simp only [List.map_cons, List.sum_cons, List.length_cons]; omega
   have := key r.kids (fun x hx => ih x hx ⟨d, h4 x hx⟩)
   omega
def hpR : Rex → Bool
 | .mk k _ ks => (!decide (k = 6 ∨ k = 7)) && (ks.map hpR).all id
theorem hpR_eq (r : Rex) : hpR r = ((!decide (r.kind = 6 ∨ r.kind = 7)) && r.kids.all hpR) := by
 cases r; rw [hpR, List.all_map]; rfl
theorem hpR_kid {r x : Rex} (h : hpR r = true) (hx : x ∈ r.kids) : hpR x = true := by
 rw [hpR_eq] at h
 simp only [Bool.and_eq_true] at h
 exact (List.all_eq_true.1 h.2) x hx
theorem fits_has (r : Rex) : bd r ≤ 1099511627776 → Fits prog 35 [eRex false r, .int .i64 6, .int .i64 7] (.bool (!hpR r)) [] := by
 induction r using Rex.ind' with
 | h r ih =>
  intro hb
  have hbb := bd_eq r
  rw [hpR_eq, eRex_eq]
  by_cases h6 : r.kind = 6 ∨ r.kind = 7
  ·rw [decide_eq_true h6]
   simp only [Bool.not_true, Bool.false_and, Bool.not_false]
   rcases h6 with h | h
   ·refine fits_of_code [6] [] [0, 1, 2, 3, 6, 8, 18, 20, 21, 22, 23, 29] func35 rfl rfl rfl (by rfl) (by show 3 ≤ 31; decide) (by rfl) (by rfl) (by show 0 ≤ 3; decide) (by rfl) (run_of ?_)
    exact Zc (Z4 tis rx fls @h)
   ·refine fits_of_code [6] [] [0, 1, 2, 3, 6, 8, 18, 20, 21, 22, 23, 29] func35 rfl rfl rfl (by rfl) (by show 3 ≤ 31; decide) (by rfl) (by rfl) (by show 0 ≤ 3; decide) (by rfl) (run_of ?_)
    exact Zc (Z4 tis rx fls @h)
  ·rw [decide_eq_false h6]
   simp only [Bool.not_false, Bool.true_and]
   obtain ⟨n6, n7⟩ := not_or.1 h6
   have hk : ∀ x ∈ r.kids, Fits prog 35 [eRex false x, .int .i64 6, .int .i64 7] (.bool (!hpR x)) [] := fun x hx => ih x hx (Nat.le_trans (bd_kid hx) hb)
   refine fits_of_code [6] [] [0, 1, 2, 3, 6, 8, 18, 20, 21, 22, 23, 29] func35 rfl rfl rfl (by rfl) (by show 3 ≤ 31; decide) (by rfl) (by rfl) (by show 0 ≤ 3; decide) (by rfl) (run_of ?_)
   refine Zo (Z5 tis rx fls @n6 @n7) ?_
   refine run_loop (α := Nat) (fun i => i ≤ r.kids.length ∧ (r.kids.take i).all hpR = true) (fun i => [(1, .int .i64 6), (2, .int .i64 7), (3, .box (.agg [.int .i64 r.kind, .sl false 2 (r.set.map eSpan), .sl false 3 (r.kids.map (eRex false))])), (20, .sl false 3 (r.kids.map (eRex false))), (21, .int .i64 r.kids.length), (22, .int .i64 i)]) (fun i => r.kids.length - i) 0 ⟨Nat.zero_le _, rfl⟩ ?_ ?_
   ·exact Zc tis
    done
   ·rintro i ⟨hi', ha⟩
    by_cases hi : i < r.kids.length
    ·have c := hk _ (List.getElem_mem hi)
     rw [eRex_eq] at c
     cases hp : hpR r.kids[i] with
     | true =>
      rw [hp] at c
      have a2 : (r.kids.take (i + 1)).all hpR = true := by rw [List.take_succ_eq_append_getElem hi, List.all_append, ha]; simp [hp]
      refine Zo (Z4 tis rx fls @eRex_eq) ?_
      refine callB c ?_
      refine Zo (Z4 tis rx fls @eRex_eq) ?_
      refine round_normal (i + 1) ⟨by omega, a2⟩ ?_ (by show r.kids.length - (i + 1) < r.kids.length - i; omega)
      exact Zc (Z3 tis rx fls)
      done
     | false =>
      rw [hp] at c
      have a2 : r.kids.all hpR = false := by
       cases h : r.kids.all hpR with
       | false => rfl
       | true => have := (List.all_eq_true.1 h) _ (List.getElem_mem hi); rw [hp] at this; cases this
      rw [a2]
      refine Zo (Z4 tis rx fls @eRex_eq) ?_
      refine callB c ?_
      exact Zc (Z4 tis rx fls @eRex_eq)
      done
    ·obtain rfl : i = r.kids.length := by omega
     rw [List.take_length] at ha
     rw [ha]
     exact Zc (Z3 tis rx fls)
     done
theorem fits_l13Plain (r : Rex) : bd r ≤ 1099511627776 → Fits prog 29 [eRex false r] (.bool (hpR r)) [] := by
 induction r using Rex.ind' with
 | h r ih =>
  intro hb
  have hbb := bd_eq r
  rw [hpR_eq, eRex_eq]
  by_cases h6 : r.kind = 6 ∨ r.kind = 7
  ·rw [decide_eq_true h6]
   simp only [Bool.not_true, Bool.false_and]
   rcases h6 with h | h
   ·refine fits_of_code [2] [] [0, 1, 2, 3, 11, 16, 25] func29 rfl rfl rfl (by rfl) (by show 1 ≤ 26; decide) (by rfl) (by rfl) (by show 0 ≤ 1; decide) (by rfl) (run_of ?_)
    exact Zc (Z4 tis rx fls @h)
   ·refine fits_of_code [2] [] [0, 1, 2, 3, 11, 16, 25] func29 rfl rfl rfl (by rfl) (by show 1 ≤ 26; decide) (by rfl) (by rfl) (by show 0 ≤ 1; decide) (by rfl) (run_of ?_)
    exact Zc (Z4 tis rx fls @h)
  ·rw [decide_eq_false h6]
   simp only [Bool.not_false, Bool.true_and]
   obtain ⟨n6, n7⟩ := not_or.1 h6
   have hk : ∀ x ∈ r.kids, Fits prog 29 [eRex false x] (.bool (hpR x)) [] := fun x hx => ih x hx (Nat.le_trans (bd_kid hx) hb)
   refine fits_of_code [2] [] [0, 1, 2, 3, 11, 16, 25] func29 rfl rfl rfl (by rfl) (by show 1 ≤ 26; decide) (by rfl) (by rfl) (by show 0 ≤ 1; decide) (by rfl) (run_of ?_)
   refine Zo (Z5 tis rx fls @n6 @n7) ?_
   refine run_loop (α := Nat) (fun i => i ≤ r.kids.length ∧ (r.kids.take i).all hpR = true) (fun i => [(1, .box (.agg [.int .i64 r.kind, .sl false 2 (r.set.map eSpan), .sl false 3 (r.kids.map (eRex false))])), (3, .int .i64 i)]) (fun i => r.kids.length - i) 0 ⟨Nat.zero_le _, rfl⟩ ?_ ?_
   ·exact Zc tis
    done
   ·rintro i ⟨hi', ha⟩
    by_cases hi : i < r.kids.length
    ·have c := hk _ (List.getElem_mem hi)
     rw [eRex_eq] at c
     cases hp : hpR r.kids[i] with
     | true =>
      rw [hp] at c
      have a2 : (r.kids.take (i + 1)).all hpR = true := by rw [List.take_succ_eq_append_getElem hi, List.all_append, ha]; simp [hp]
      refine Zo (Z4 tis rx fls @eRex_eq) ?_
      refine callB c ?_
      refine Zo (Z4 tis rx fls @eRex_eq) ?_
      refine round_normal (i + 1) ⟨by omega, a2⟩ ?_ (by show r.kids.length - (i + 1) < r.kids.length - i; omega)
      exact Zc (Z3 tis rx fls)
      done
     | false =>
      rw [hp] at c
      have a2 : r.kids.all hpR = false := by
       cases h : r.kids.all hpR with
       | false => rfl
       | true => have := (List.all_eq_true.1 h) _ (List.getElem_mem hi); rw [hp] at this; cases this
      rw [a2]
      refine Zo (Z4 tis rx fls @eRex_eq) ?_
      refine callB c ?_
      exact Zc (Z4 tis rx fls @eRex_eq)
      done
    ·obtain rfl : i = r.kids.length := by omega
     rw [List.take_length] at ha
     rw [ha]
     exact Zc (Z3 tis rx fls)
     done
theorem fits_some (r : Rex) : Okr r → bd r ≤ 1099511627776 → Fits prog 78 [eRex false r] (.bool (someN r)) [] := by
 induction r using Rex.ind' with
 | h r ih =>
  intro hr hb
  have hbb := bd_eq r
  rw [someN_eq]
  by_cases h2 : r.kind = 3 ∨ r.kind = 4
  ·obtain ⟨a, b, e, ha, hb2, hl⟩ := okr_kids2 hr (h2.elim .inl fun h => .inr (.inl h))
   have ca := ih a (by rw [e]; simp) ha (by omega)
   have cb := ih b (by rw [e]; simp) hb2 (by omega)
   rw [eRex_eq false r, e]
   simp only [List.map_cons, List.map_nil, List.getD_cons_zero, List.getD_cons_succ]
   rw [eRex_eq] at ca cb
   rw [eRex_eq false a, eRex_eq false b]
   generalize someN a = A at *
   generalize someN b = B at *
   rcases h2 with h | h
   ·rw [if_neg (by omega), if_pos h]
    cases A with
    | true =>
     rw [Bool.true_and]
     refine fits_of_code [2] [] [0, 1, 2, 4, 5, 11, 25] func78 rfl rfl rfl (by rfl) (by show 1 ≤ 39; decide) (by rfl) (by rfl) (by show 0 ≤ 1; decide) (by rfl) (run_of ?_)
     (repeat (first | refine Zo (Z5 tis rx fls @h Zi) ?_ | refine .inl ⟨by kernel_rfl, ?_⟩ | exact .inl (by show _ = _; kernel_rfl) | exact Zc (Z5 tis rx fls @h Zi)); try ((first | refine callL ca ?_ | refine callB ca ?_); repeat (first | refine Zo (Z5 tis rx fls @h Zi) ?_ | refine .inl ⟨by kernel_rfl, ?_⟩ | exact .inl (by show _ = _; kernel_rfl) | exact Zc (Z5 tis rx fls @h Zi))); try ((first | refine callL cb ?_ | refine callB cb ?_); repeat (first | refine Zo (Z5 tis rx fls @h Zi) ?_ | refine .inl ⟨by kernel_rfl, ?_⟩ | exact .inl (by show _ = _; kernel_rfl) | exact Zc (Z5 tis rx fls @h Zi))))
    | false =>
     rw [Bool.false_and]
     refine fits_of_code [2] [] [0, 1, 2, 4, 5, 11, 25] func78 rfl rfl rfl (by rfl) (by show 1 ≤ 39; decide) (by rfl) (by rfl) (by show 0 ≤ 1; decide) (by rfl) (run_of ?_)
     (repeat (first | refine Zo (Z5 tis rx fls @h Zi) ?_ | refine .inl ⟨by kernel_rfl, ?_⟩ | exact .inl (by show _ = _; kernel_rfl) | exact Zc (Z5 tis rx fls @h Zi)); try ((first | refine callL ca ?_ | refine callB ca ?_); repeat (first | refine Zo (Z5 tis rx fls @h Zi) ?_ | refine .inl ⟨by kernel_rfl, ?_⟩ | exact .inl (by show _ = _; kernel_rfl) | exact Zc (Z5 tis rx fls @h Zi))))
   ·rw [if_neg (by omega), if_neg (by omega), if_pos h]
    cases A with
    | true =>
     rw [Bool.true_or]
     refine fits_of_code [2] [] [0, 1, 2, 4, 5, 11, 25] func78 rfl rfl rfl (by rfl) (by show 1 ≤ 39; decide) (by rfl) (by rfl) (by show 0 ≤ 1; decide) (by rfl) (run_of ?_)
     (repeat (first | refine Zo (Z5 tis rx fls @h Zi) ?_ | refine .inl ⟨by kernel_rfl, ?_⟩ | exact .inl (by show _ = _; kernel_rfl) | exact Zc (Z5 tis rx fls @h Zi)); try ((first | refine callL ca ?_ | refine callB ca ?_); repeat (first | refine Zo (Z5 tis rx fls @h Zi) ?_ | refine .inl ⟨by kernel_rfl, ?_⟩ | exact .inl (by show _ = _; kernel_rfl) | exact Zc (Z5 tis rx fls @h Zi))))
    | false =>
     rw [Bool.false_or]
     refine fits_of_code [2] [] [0, 1, 2, 4, 5, 11, 25] func78 rfl rfl rfl (by rfl) (by show 1 ≤ 39; decide) (by rfl) (by rfl) (by show 0 ≤ 1; decide) (by rfl) (run_of ?_)
     (repeat (first | refine Zo (Z5 tis rx fls @h Zi) ?_ | refine .inl ⟨by kernel_rfl, ?_⟩ | exact .inl (by show _ = _; kernel_rfl) | exact Zc (Z5 tis rx fls @h Zi)); try ((first | refine callL ca ?_ | refine callB ca ?_); repeat (first | refine Zo (Z5 tis rx fls @h Zi) ?_ | refine .inl ⟨by kernel_rfl, ?_⟩ | exact .inl (by show _ = _; kernel_rfl) | exact Zc (Z5 tis rx fls @h Zi))); try ((first | refine callL cb ?_ | refine callB cb ?_); repeat (first | refine Zo (Z5 tis rx fls @h Zi) ?_ | refine .inl ⟨by kernel_rfl, ?_⟩ | exact .inl (by show _ = _; kernel_rfl) | exact Zc (Z5 tis rx fls @h Zi))))
  ·obtain ⟨n3, n4⟩ := not_or.1 h2
   rw [eRex_eq]
   by_cases k1 : r.kind = 1
   ·rw [if_pos k1]
    by_cases h0 : 0 < r.set.length
    ·rw [decide_eq_true h0]
     refine fits_of_code [2] [] [0, 1, 2, 4, 5, 11, 25] func78 rfl rfl rfl (by rfl) (by show 1 ≤ 39; decide) (by rfl) (by rfl) (by show 0 ≤ 1; decide) (by rfl) (run_of ?_)
     exact Zc (Z4 tis rx fls @k1)
    ·rw [decide_eq_false h0]
     refine fits_of_code [2] [] [0, 1, 2, 4, 5, 11, 25] func78 rfl rfl rfl (by rfl) (by show 1 ≤ 39; decide) (by rfl) (by rfl) (by show 0 ≤ 1; decide) (by rfl) (run_of ?_)
     exact Zc (Z4 tis rx fls @k1)
   ·rw [if_neg k1, if_neg n3, if_neg n4]
    refine fits_of_code [2] [] [0, 1, 2, 4, 5, 11, 25] func78 rfl rfl rfl (by rfl) (by show 1 ≤ 39; decide) (by rfl) (by rfl) (by show 0 ≤ 1; decide) (by rfl) (run_of ?_)
    exact Zc (Z6 tis rx fls @k1 @n3 @n4)
theorem fits_l13Some (r : Rex) : Okr r → bd r ≤ 1099511627776 → Fits prog 68 [eRex false r] (.bool (someN r)) [] := by
 induction r using Rex.ind' with
 | h r ih =>
  intro hr hb
  have hbb := bd_eq r
  rw [someN_eq]
  by_cases h2 : r.kind = 3 ∨ r.kind = 4
  ·obtain ⟨a, b, e, ha, hb2, hl⟩ := okr_kids2 hr (h2.elim .inl fun h => .inr (.inl h))
   have ca := ih a (by rw [e]; simp) ha (by omega)
   have cb := ih b (by rw [e]; simp) hb2 (by omega)
   rw [eRex_eq false r, e]
   simp only [List.map_cons, List.map_nil, List.getD_cons_zero, List.getD_cons_succ]
   rw [eRex_eq] at ca cb
   rw [eRex_eq false a, eRex_eq false b]
   generalize someN a = A at *
   generalize someN b = B at *
   rcases h2 with h | h
   ·rw [if_neg (by omega), if_pos h]
    cases A with
    | true =>
     rw [Bool.true_and]
     refine fits_of_code [2] [] [0, 1, 2, 4, 5, 11, 25] func68 rfl rfl rfl (by rfl) (by show 1 ≤ 39; decide) (by rfl) (by rfl) (by show 0 ≤ 1; decide) (by rfl) (run_of ?_)
     (repeat (first | refine Zo (Z5 tis rx fls @h Zi) ?_ | refine .inl ⟨by kernel_rfl, ?_⟩ | exact .inl (by show _ = _; kernel_rfl) | exact Zc (Z5 tis rx fls @h Zi)); try ((first | refine callL ca ?_ | refine callB ca ?_); repeat (first | refine Zo (Z5 tis rx fls @h Zi) ?_ | refine .inl ⟨by kernel_rfl, ?_⟩ | exact .inl (by show _ = _; kernel_rfl) | exact Zc (Z5 tis rx fls @h Zi))); try ((first | refine callL cb ?_ | refine callB cb ?_); repeat (first | refine Zo (Z5 tis rx fls @h Zi) ?_ | refine .inl ⟨by kernel_rfl, ?_⟩ | exact .inl (by show _ = _; kernel_rfl) | exact Zc (Z5 tis rx fls @h Zi))))
    | false =>
     rw [Bool.false_and]
     refine fits_of_code [2] [] [0, 1, 2, 4, 5, 11, 25] func68 rfl rfl rfl (by rfl) (by show 1 ≤ 39; decide) (by rfl) (by rfl) (by show 0 ≤ 1; decide) (by rfl) (run_of ?_)
     (repeat (first | refine Zo (Z5 tis rx fls @h Zi) ?_ | refine .inl ⟨by kernel_rfl, ?_⟩ | exact .inl (by show _ = _; kernel_rfl) | exact Zc (Z5 tis rx fls @h Zi)); try ((first | refine callL ca ?_ | refine callB ca ?_); repeat (first | refine Zo (Z5 tis rx fls @h Zi) ?_ | refine .inl ⟨by kernel_rfl, ?_⟩ | exact .inl (by show _ = _; kernel_rfl) | exact Zc (Z5 tis rx fls @h Zi))))
   ·rw [if_neg (by omega), if_neg (by omega), if_pos h]
    cases A with
    | true =>
     rw [Bool.true_or]
     refine fits_of_code [2] [] [0, 1, 2, 4, 5, 11, 25] func68 rfl rfl rfl (by rfl) (by show 1 ≤ 39; decide) (by rfl) (by rfl) (by show 0 ≤ 1; decide) (by rfl) (run_of ?_)
     (repeat (first | refine Zo (Z5 tis rx fls @h Zi) ?_ | refine .inl ⟨by kernel_rfl, ?_⟩ | exact .inl (by show _ = _; kernel_rfl) | exact Zc (Z5 tis rx fls @h Zi)); try ((first | refine callL ca ?_ | refine callB ca ?_); repeat (first | refine Zo (Z5 tis rx fls @h Zi) ?_ | refine .inl ⟨by kernel_rfl, ?_⟩ | exact .inl (by show _ = _; kernel_rfl) | exact Zc (Z5 tis rx fls @h Zi))))
    | false =>
     rw [Bool.false_or]
     refine fits_of_code [2] [] [0, 1, 2, 4, 5, 11, 25] func68 rfl rfl rfl (by rfl) (by show 1 ≤ 39; decide) (by rfl) (by rfl) (by show 0 ≤ 1; decide) (by rfl) (run_of ?_)
     (repeat (first | refine Zo (Z5 tis rx fls @h Zi) ?_ | refine .inl ⟨by kernel_rfl, ?_⟩ | exact .inl (by show _ = _; kernel_rfl) | exact Zc (Z5 tis rx fls @h Zi)); try ((first | refine callL ca ?_ | refine callB ca ?_); repeat (first | refine Zo (Z5 tis rx fls @h Zi) ?_ | refine .inl ⟨by kernel_rfl, ?_⟩ | exact .inl (by show _ = _; kernel_rfl) | exact Zc (Z5 tis rx fls @h Zi))); try ((first | refine callL cb ?_ | refine callB cb ?_); repeat (first | refine Zo (Z5 tis rx fls @h Zi) ?_ | refine .inl ⟨by kernel_rfl, ?_⟩ | exact .inl (by show _ = _; kernel_rfl) | exact Zc (Z5 tis rx fls @h Zi))))
  ·obtain ⟨n3, n4⟩ := not_or.1 h2
   rw [eRex_eq]
   by_cases k1 : r.kind = 1
   ·rw [if_pos k1]
    by_cases h0 : 0 < r.set.length
    ·rw [decide_eq_true h0]
     refine fits_of_code [2] [] [0, 1, 2, 4, 5, 11, 25] func68 rfl rfl rfl (by rfl) (by show 1 ≤ 39; decide) (by rfl) (by rfl) (by show 0 ≤ 1; decide) (by rfl) (run_of ?_)
     exact Zc (Z4 tis rx fls @k1)
    ·rw [decide_eq_false h0]
     refine fits_of_code [2] [] [0, 1, 2, 4, 5, 11, 25] func68 rfl rfl rfl (by rfl) (by show 1 ≤ 39; decide) (by rfl) (by rfl) (by show 0 ≤ 1; decide) (by rfl) (run_of ?_)
     exact Zc (Z4 tis rx fls @k1)
   ·rw [if_neg k1, if_neg n3, if_neg n4]
    refine fits_of_code [2] [] [0, 1, 2, 4, 5, 11, 25] func68 rfl rfl rfl (by rfl) (by show 1 ≤ 39; decide) (by rfl) (by rfl) (by show 0 ≤ 1; decide) (by rfl) (run_of ?_)
    exact Zc (Z6 tis rx fls @k1 @n3 @n4)
theorem fits_copyS (r : Rex) (hb : bd r ≤ 1048576) : Fits prog 30 [eRex false r] (eRex false r) [] := fits_as (fits_l2Copy r hb) (er_rex true r)
theorem bd_p {r : Rex} (hr : Okr r) {n : Nat} (h : ps r ≤ n) : bd r ≤ 129 * n := by
 have := bd_ps r hr
 have := Nat.mul_le_mul_left 129 h
 omega
theorem qB_mono {a b : Nat} (h : a ≤ b) : qB a ≤ qB b := Nat.mul_le_mul h (by omega)
theorem okr_k2 {r : Rex} (hr : Okr r) (h : r.kind = 2) : r = .mk 2 [] [] := by
 obtain ⟨d, hd⟩ := hr
 cases d with
 | zero => simp [fm] at hd
 | succ d =>
  obtain ⟨h1, h2, _, _⟩ := fm_ok hd
  obtain ⟨k, s, ks⟩ := r
  simp only [Rex.kind, Rex.set, Rex.kids] at *
  subst h
  have hs : s = [] := List.eq_nil_of_length_eq_zero (by omega)
  have hk : ks = [] := by
   have : (ks.length : Int) = 0 := by rw [← h1]; rfl
   exact List.eq_nil_of_length_eq_zero (by omega)
  rw [hs, hk]
theorem fits_head (r : Rex) : Okr r → hpR r = true → ps r ≤ 24 → Fits prog 37 [eRex false r] (eRex false (headR r)) [] := by
 induction r using Rex.ind' with
 | h r ih =>
  intro hr hp hps
  have eN : eRex false (.mk 1 [] []) = .agg [.int .i64 1, .sl false 2 [], .sl false 3 []] := by rw [eRex_eq]; rfl
  have eE : eRex false (.mk 2 [] []) = .agg [.int .i64 2, .sl false 2 [], .sl false 3 []] := by rw [eRex_eq]; rfl
  have hbr := bd_p hr hps
  have cS := fits_some r hr (by omega)
  have oe := okr_em
  have c0 := fits_nothingR
  rw [eN] at c0
  obtain ⟨R, hR⟩ : ∃ R, headR r = R := ⟨_, rfl⟩
  rw [hR]
  rw [headR_eq] at hR
  by_cases k1 : r.kind = 1
  ·rw [if_pos k1] at hR
   have n0 : noR r = decide (r.set.length = 0) := by simp [noR, k1]
   have cN := fits_isNothing r (by omega)
   rw [n0, eRex_eq] at cN
   by_cases h0 : r.set.length = 0
   ·rw [if_pos h0] at hR
    subst hR
    rw [eN]
    rw [decide_eq_true h0] at cN
    rw [eRex_eq]
    refine fits_of_cell 2 30 [] [0, 1, 2, 3, 6, 7, 10, 15, 19, 38, 51] func37 rfl rfl rfl (by show 2 < 68; decide) (by show 1 ≤ 68; decide) (by rfl) (by rfl) (by show 0 ≤ 1; decide) (by rfl) (run_of ?_)
    (repeat (first | refine Zo (Z5 tis rx fls @k1 Zi) ?_ | refine .inl ⟨by kernel_rfl, ?_⟩ | exact .inl (by show _ = _; kernel_rfl) | exact Zc (Z5 tis rx fls @k1 Zi)); try ((first | refine callL cN ?_ | refine callB cN ?_); repeat (first | refine Zo (Z5 tis rx fls @k1 Zi) ?_ | refine .inl ⟨by kernel_rfl, ?_⟩ | exact .inl (by show _ = _; kernel_rfl) | exact Zc (Z5 tis rx fls @k1 Zi))); try ((first | refine callL c0 ?_ | refine callB c0 ?_); repeat (first | refine Zo (Z5 tis rx fls @k1 Zi) ?_ | refine .inl ⟨by kernel_rfl, ?_⟩ | exact .inl (by show _ = _; kernel_rfl) | exact Zc (Z5 tis rx fls @k1 Zi))))
   ·rw [if_neg h0] at hR
    have c1 := fits_normOr (.mk 2 [] []) r oe.1 hr (by omega)
    rw [hR, eE, eRex_eq false r, eRex_eq false R] at c1
    rw [decide_eq_false h0] at cN
    rw [eRex_eq false r, eRex_eq false R]
    refine fits_of_cell 2 30 [] [0, 1, 2, 3, 6, 7, 10, 15, 19, 38, 51] func37 rfl rfl rfl (by show 2 < 68; decide) (by show 1 ≤ 68; decide) (by rfl) (by rfl) (by show 0 ≤ 1; decide) (by rfl) (run_of ?_)
    refine Zo (Z4 tis rx fls @k1) ?_
    refine callF [(3, [0, 1]), (3, [0, 2])] cN ?_
    (repeat (first | refine Zo (Z5 tis rx fls @k1 Zi) ?_ | refine .inl ⟨by kernel_rfl, ?_⟩ | exact .inl (by show _ = _; kernel_rfl) | exact Zc (Z5 tis rx fls @k1 Zi)); try ((first | refine callL c1 ?_ | refine callB c1 ?_); repeat (first | refine Zo (Z5 tis rx fls @k1 Zi) ?_ | refine .inl ⟨by kernel_rfl, ?_⟩ | exact .inl (by show _ = _; kernel_rfl) | exact Zc (Z5 tis rx fls @k1 Zi))))
  ·rw [if_neg k1] at hR
   by_cases k3 : r.kind = 3
   ·rw [if_pos k3] at hR
    obtain ⟨x, y, e, hx, hy, hl⟩ := okr_kids2 hr (.inl k3)
    have px := ps_two e
    cases hs : someN r with
    | false =>
     rw [hs] at cS hR
     rw [if_neg (by simp)] at hR
     subst hR
     rw [eN]
     rw [eRex_eq] at cS ⊢
     refine fits_of_cell 2 30 [] [0, 1, 2, 3, 6, 7, 10, 15, 19, 38, 51] func37 rfl rfl rfl (by show 2 < 68; decide) (by show 1 ≤ 68; decide) (by rfl) (by rfl) (by show 0 ≤ 1; decide) (by rfl) (run_of ?_)
     (repeat (first | refine Zo (Z5 tis rx fls @k3 Zi) ?_ | refine .inl ⟨by kernel_rfl, ?_⟩ | exact .inl (by show _ = _; kernel_rfl) | exact Zc (Z5 tis rx fls @k3 Zi)); try ((first | refine callL cS ?_ | refine callB cS ?_); repeat (first | refine Zo (Z5 tis rx fls @k3 Zi) ?_ | refine .inl ⟨by kernel_rfl, ?_⟩ | exact .inl (by show _ = _; kernel_rfl) | exact Zc (Z5 tis rx fls @k3 Zi))); try ((first | refine callL c0 ?_ | refine callB c0 ?_); repeat (first | refine Zo (Z5 tis rx fls @k3 Zi) ?_ | refine .inl ⟨by kernel_rfl, ?_⟩ | exact .inl (by show _ = _; kernel_rfl) | exact Zc (Z5 tis rx fls @k3 Zi))))
    | true =>
     rw [hs] at cS hR
     rw [if_pos rfl, e] at hR
     simp only [List.map_cons, List.map_nil, List.getD_cons_zero, List.getD_cons_succ] at hR
     have c1 := ih x (by rw [e]; simp) hx (hpR_kid hp (by rw [e]; simp)) (by omega)
     have c2 := ih y (by rw [e]; simp) hy (hpR_kid hp (by rw [e]; simp)) (by omega)
     have bx := bd_p hx (n := 24) (by omega)
     have cC := fits_copyS x (by omega)
     have c3 := fits_norm x hx (by omega)
     obtain ⟨u1, u2⟩ := headR_ok x hx
     obtain ⟨v1, v2⟩ := headR_ok y hy
     have w1 := (normR_ok x hx).1
     have w2 := bd_p w1 (n := 24) (by have := normR_ps x hx; omega)
     have q1 : qB (ps x) ≤ 696 := Nat.le_trans (qB_mono (b := 24) (by omega)) (by decide)
     have q2 : qB (ps y) ≤ 696 := Nat.le_trans (qB_mono (b := 24) (by omega)) (by decide)
     have u3 := bd_p u1 (n := 696) (by omega)
     have v3 := bd_p v1 (n := 696) (by omega)
     have c4 := fits_normCat (normR x) (headR y) w1 v1 (by omega)
     obtain ⟨z1, z2⟩ := catN_ok (normR x) (headR y) w1 v1
     have c5 := fits_normOr (headR x) (catN (normR x) (headR y)) u1 z1 (by omega)
     rw [hR] at c5
     clear ih u2 v2 z2 hR
     rw [eRex_eq false r, e] at cS ⊢
     simp only [List.map_cons, List.map_nil] at cS ⊢
     generalize headR x = X at *
     generalize headR y = Y at *
     generalize normR x = N at *
     generalize catN N Y = C at *
     rw [eRex_eq false x] at cC c1 c3
     rw [eRex_eq false y] at c2
     rw [eRex_eq false X] at c1
     rw [eRex_eq false Y] at c2
     rw [eRex_eq false N] at c3
     rw [eRex_eq false N, eRex_eq false Y, eRex_eq false C] at c4
     rw [eRex_eq false X, eRex_eq false C, eRex_eq false R] at c5
     rw [eRex_eq false x, eRex_eq false y] at cS ⊢
     rw [eRex_eq false R]
     refine fits_of_cell 2 30 [] [0, 1, 2, 3, 6, 7, 10, 15, 19, 38, 51] func37 rfl rfl rfl (by show 2 < 68; decide) (by show 1 ≤ 68; decide) (by rfl) (by rfl) (by show 0 ≤ 1; decide) (by rfl) (run_of ?_)
     (repeat (first | refine Zo (Z6 tis rx fls @eRex_eq @k3 Zi) ?_ | refine .inl ⟨by kernel_rfl, ?_⟩ | exact .inl (by show _ = _; kernel_rfl) | exact Zc (Z6 tis rx fls @eRex_eq @k3 Zi)); try ((first | refine callL cS ?_ | refine callB cS ?_); repeat (first | refine Zo (Z6 tis rx fls @eRex_eq @k3 Zi) ?_ | refine .inl ⟨by kernel_rfl, ?_⟩ | exact .inl (by show _ = _; kernel_rfl) | exact Zc (Z6 tis rx fls @eRex_eq @k3 Zi))); try ((first | refine callL c1 ?_ | refine callB c1 ?_); repeat (first | refine Zo (Z6 tis rx fls @eRex_eq @k3 Zi) ?_ | refine .inl ⟨by kernel_rfl, ?_⟩ | exact .inl (by show _ = _; kernel_rfl) | exact Zc (Z6 tis rx fls @eRex_eq @k3 Zi))); try ((first | refine callL c3 ?_ | refine callB c3 ?_); repeat (first | refine Zo (Z6 tis rx fls @eRex_eq @k3 Zi) ?_ | refine .inl ⟨by kernel_rfl, ?_⟩ | exact .inl (by show _ = _; kernel_rfl) | exact Zc (Z6 tis rx fls @eRex_eq @k3 Zi))); try ((first | refine callL c2 ?_ | refine callB c2 ?_); repeat (first | refine Zo (Z6 tis rx fls @eRex_eq @k3 Zi) ?_ | refine .inl ⟨by kernel_rfl, ?_⟩ | exact .inl (by show _ = _; kernel_rfl) | exact Zc (Z6 tis rx fls @eRex_eq @k3 Zi))); try ((first | refine callL c4 ?_ | refine callB c4 ?_); repeat (first | refine Zo (Z6 tis rx fls @eRex_eq @k3 Zi) ?_ | refine .inl ⟨by kernel_rfl, ?_⟩ | exact .inl (by show _ = _; kernel_rfl) | exact Zc (Z6 tis rx fls @eRex_eq @k3 Zi))); try ((first | refine callL c5 ?_ | refine callB c5 ?_); repeat (first | refine Zo (Z6 tis rx fls @eRex_eq @k3 Zi) ?_ | refine .inl ⟨by kernel_rfl, ?_⟩ | exact .inl (by show _ = _; kernel_rfl) | exact Zc (Z6 tis rx fls @eRex_eq @k3 Zi))))
   ·rw [if_neg k3] at hR
    by_cases k4 : r.kind = 4
    ·rw [if_pos k4] at hR
     obtain ⟨x, y, e, hx, hy, hl⟩ := okr_kids2 hr (.inr (.inl k4))
     have px := ps_two e
     rw [e] at hR
     simp only [List.map_cons, List.map_nil, List.getD_cons_zero, List.getD_cons_succ] at hR
     have c1 := ih x (by rw [e]; simp) hx (hpR_kid hp (by rw [e]; simp)) (by omega)
     have c2 := ih y (by rw [e]; simp) hy (hpR_kid hp (by rw [e]; simp)) (by omega)
     obtain ⟨u1, u2⟩ := headR_ok x hx
     obtain ⟨v1, v2⟩ := headR_ok y hy
     have q1 : qB (ps x) ≤ 696 := Nat.le_trans (qB_mono (b := 24) (by omega)) (by decide)
     have q2 : qB (ps y) ≤ 696 := Nat.le_trans (qB_mono (b := 24) (by omega)) (by decide)
     have u3 := bd_p u1 (n := 696) (by omega)
     have v3 := bd_p v1 (n := 696) (by omega)
     have c5 := fits_normOr (headR x) (headR y) u1 v1 (by omega)
     rw [hR] at c5
     clear ih u2 v2 hR
     rw [eRex_eq false r, e]
     simp only [List.map_cons, List.map_nil]
     generalize headR x = X at *
     generalize headR y = Y at *
     rw [eRex_eq false x, eRex_eq false X] at c1
     rw [eRex_eq false y, eRex_eq false Y] at c2
     rw [eRex_eq false X, eRex_eq false Y, eRex_eq false R] at c5
     rw [eRex_eq false x, eRex_eq false y, eRex_eq false R]
     refine fits_of_cell 2 30 [] [0, 1, 2, 3, 6, 7, 10, 15, 19, 38, 51] func37 rfl rfl rfl (by show 2 < 68; decide) (by show 1 ≤ 68; decide) (by rfl) (by rfl) (by show 0 ≤ 1; decide) (by rfl) (run_of ?_)
     (repeat (first | refine Zo (Z6 tis rx fls @eRex_eq @k4 Zi) ?_ | refine .inl ⟨by kernel_rfl, ?_⟩ | exact .inl (by show _ = _; kernel_rfl) | exact Zc (Z6 tis rx fls @eRex_eq @k4 Zi)); try ((first | refine callL c1 ?_ | refine callB c1 ?_); repeat (first | refine Zo (Z6 tis rx fls @eRex_eq @k4 Zi) ?_ | refine .inl ⟨by kernel_rfl, ?_⟩ | exact .inl (by show _ = _; kernel_rfl) | exact Zc (Z6 tis rx fls @eRex_eq @k4 Zi))); try ((first | refine callL c2 ?_ | refine callB c2 ?_); repeat (first | refine Zo (Z6 tis rx fls @eRex_eq @k4 Zi) ?_ | refine .inl ⟨by kernel_rfl, ?_⟩ | exact .inl (by show _ = _; kernel_rfl) | exact Zc (Z6 tis rx fls @eRex_eq @k4 Zi))); try ((first | refine callL c5 ?_ | refine callB c5 ?_); repeat (first | refine Zo (Z6 tis rx fls @eRex_eq @k4 Zi) ?_ | refine .inl ⟨by kernel_rfl, ?_⟩ | exact .inl (by show _ = _; kernel_rfl) | exact Zc (Z6 tis rx fls @eRex_eq @k4 Zi))))
    ·rw [if_neg k4] at hR
     by_cases k5 : r.kind = 5
     ·rw [if_pos k5] at hR
      obtain ⟨x, e, hx, hl⟩ := okr_kids1 hr (.inl k5)
      have px := ps_one e
      rw [e] at hR
      simp only [List.map_cons, List.map_nil, List.getD_cons_zero] at hR
      have c1 := ih x (by rw [e]; simp) hx (hpR_kid hp (by rw [e]; simp)) (by omega)
      have bx := bd_p hx (n := 24) (by omega)
      have cC := fits_copyS x (by omega)
      have c3 := fits_norm x hx (by omega)
      obtain ⟨u1, u2⟩ := headR_ok x hx
      have w1 := (normR_ok x hx).1
      have w2 := bd_p w1 (n := 24) (by have := normR_ps x hx; omega)
      obtain ⟨s1, s2⟩ := starN_ok w1
      have c4 := fits_normStar (normR x) w1 (by omega)
      have q1 : qB (ps x) ≤ 696 := Nat.le_trans (qB_mono (b := 24) (by omega)) (by decide)
      have u3 := bd_p u1 (n := 696) (by omega)
      have c5 := fits_normCat (starN (normR x)) (headR x) s1 u1 (by omega)
      obtain ⟨z1, z2⟩ := catN_ok (starN (normR x)) (headR x) s1 u1
      have c6 := fits_normOr (.mk 2 [] []) (catN (starN (normR x)) (headR x)) oe.1 z1 (by omega)
      rw [hR, eE] at c6
      clear ih u2 z2 hR
      rw [eRex_eq false r, e]
      simp only [List.map_cons, List.map_nil]
      generalize headR x = X at *
      generalize normR x = N at *
      generalize starN N = S at *
      generalize catN S X = C at *
      rw [eRex_eq false x] at cC c1 c3
      rw [eRex_eq false X] at c1
      rw [eRex_eq false N] at c3
      rw [eRex_eq false N, eRex_eq false S] at c4
      rw [eRex_eq false S, eRex_eq false X, eRex_eq false C] at c5
      rw [eRex_eq false C, eRex_eq false R] at c6
      rw [eRex_eq false x, eRex_eq false R]
      refine fits_of_cell 2 30 [] [0, 1, 2, 3, 6, 7, 10, 15, 19, 38, 51] func37 rfl rfl rfl (by show 2 < 68; decide) (by show 1 ≤ 68; decide) (by rfl) (by rfl) (by show 0 ≤ 1; decide) (by rfl) (run_of ?_)
      refine Zo (Z5 tis rx fls @eRex_eq @k5) ?_
      refine .inr (run_frzd [(3, [0, 1]), (3, [0, 2])] (by kernel_rfl) ?_)
      (repeat (first | refine Zo (Z6 tis rx fls @eRex_eq @k5 Zi) ?_ | refine .inl ⟨by kernel_rfl, ?_⟩ | exact .inl (by show _ = _; kernel_rfl) | exact Zc (Z6 tis rx fls @eRex_eq @k5 Zi)); try ((first | refine callL c3 ?_ | refine callB c3 ?_); repeat (first | refine Zo (Z6 tis rx fls @eRex_eq @k5 Zi) ?_ | refine .inl ⟨by kernel_rfl, ?_⟩ | exact .inl (by show _ = _; kernel_rfl) | exact Zc (Z6 tis rx fls @eRex_eq @k5 Zi))); try ((first | refine callL c4 ?_ | refine callB c4 ?_); repeat (first | refine Zo (Z6 tis rx fls @eRex_eq @k5 Zi) ?_ | refine .inl ⟨by kernel_rfl, ?_⟩ | exact .inl (by show _ = _; kernel_rfl) | exact Zc (Z6 tis rx fls @eRex_eq @k5 Zi))); try ((first | refine callL c1 ?_ | refine callB c1 ?_); repeat (first | refine Zo (Z6 tis rx fls @eRex_eq @k5 Zi) ?_ | refine .inl ⟨by kernel_rfl, ?_⟩ | exact .inl (by show _ = _; kernel_rfl) | exact Zc (Z6 tis rx fls @eRex_eq @k5 Zi))); try ((first | refine callL c5 ?_ | refine callB c5 ?_); repeat (first | refine Zo (Z6 tis rx fls @eRex_eq @k5 Zi) ?_ | refine .inl ⟨by kernel_rfl, ?_⟩ | exact .inl (by show _ = _; kernel_rfl) | exact Zc (Z6 tis rx fls @eRex_eq @k5 Zi))); try ((first | refine callL c6 ?_ | refine callB c6 ?_); repeat (first | refine Zo (Z6 tis rx fls @eRex_eq @k5 Zi) ?_ | refine .inl ⟨by kernel_rfl, ?_⟩ | exact .inl (by show _ = _; kernel_rfl) | exact Zc (Z6 tis rx fls @eRex_eq @k5 Zi))))
     ·rw [if_neg k5] at hR
      subst hR
      have k2 : r.kind = 2 := by
       have := okr_kind hr
       rw [hpR_eq] at hp
       simp only [Bool.and_eq_true, Bool.not_eq_true', decide_eq_false_iff_not, not_or] at hp
       omega
      rw [okr_k2 hr k2, eE]
      refine fits_of_cell 2 30 [] [0, 1, 2, 3, 6, 7, 10, 15, 19, 38, 51] func37 rfl rfl rfl (by show 2 < 68; decide) (by show 1 ≤ 68; decide) (by rfl) (by rfl) (by show 0 ≤ 1; decide) (by rfl) (run_of ?_)
      exact Zc (Z3 tis rx fls)
theorem fits_l13Head (r : Rex) : Okr r → ps r ≤ 24 → Fits prog 31 [eRex false r] (eRex false (headR r)) [] := by
 induction r using Rex.ind' with
 | h r ih =>
  intro hr hps
  have eN : eRex false (.mk 1 [] []) = .agg [.int .i64 1, .sl false 2 [], .sl false 3 []] := by rw [eRex_eq]; rfl
  have eE : eRex false (.mk 2 [] []) = .agg [.int .i64 2, .sl false 2 [], .sl false 3 []] := by rw [eRex_eq]; rfl
  have hbr := bd_p hr hps
  have cS := fits_l13Some r hr (by omega)
  have oe := okr_em
  obtain ⟨R, hR⟩ : ∃ R, headR r = R := ⟨_, rfl⟩
  rw [hR]
  rw [headR_eq] at hR
  by_cases k1 : r.kind = 1
  ·rw [if_pos k1] at hR
   have n0 : noR r = decide (r.set.length = 0) := by simp [noR, k1]
   by_cases h0 : r.set.length = 0
   ·rw [if_pos h0] at hR
    subst hR
    rw [eN]
    rw [eRex_eq]
    refine fits_as (res := .agg [.int .i64 1, .sl true 2 [], .sl true 3 []]) ?_ rfl
    refine fits_of_cell 2 30 [] [0, 1, 2, 3, 4, 8, 9, 14, 20, 24, 44, 57] func31 rfl rfl rfl (by show 2 < 75; decide) (by show 1 ≤ 75; decide) (by rfl) (by rfl) (by show 0 ≤ 1; decide) (by rfl) (run_of ?_)
    exact Zc (Z5 tis rx fls @k1 @h0)
   ·rw [if_neg h0] at hR
    have c1 := fits_l4Or (.mk 2 [] []) r oe.1 hr (by omega)
    rw [hR, eE, eRex_eq false r, eRex_eq false R] at c1
    have cC := fits_copyS r (by omega)
    rw [eRex_eq false r] at cC
    rw [eRex_eq false r, eRex_eq false R]
    refine fits_of_cell 2 30 [] [0, 1, 2, 3, 4, 8, 9, 14, 20, 24, 44, 57] func31 rfl rfl rfl (by show 2 < 75; decide) (by show 1 ≤ 75; decide) (by rfl) (by rfl) (by show 0 ≤ 1; decide) (by rfl) (run_of ?_)
    refine Zo (Z4 tis rx fls @k1) ?_
    refine .inr (run_frzd [(4, [0, 1]), (4, [0, 2])] (by kernel_rfl) ?_)
    (repeat (first | refine Zo (Z5 tis rx fls @k1 Zi) ?_ | refine .inl ⟨by kernel_rfl, ?_⟩ | exact .inl (by show _ = _; kernel_rfl) | exact Zc (Z5 tis rx fls @k1 Zi)); try ((first | refine callL cC ?_ | refine callB cC ?_); repeat (first | refine Zo (Z5 tis rx fls @k1 Zi) ?_ | refine .inl ⟨by kernel_rfl, ?_⟩ | exact .inl (by show _ = _; kernel_rfl) | exact Zc (Z5 tis rx fls @k1 Zi))); try ((first | refine callL c1 ?_ | refine callB c1 ?_); repeat (first | refine Zo (Z5 tis rx fls @k1 Zi) ?_ | refine .inl ⟨by kernel_rfl, ?_⟩ | exact .inl (by show _ = _; kernel_rfl) | exact Zc (Z5 tis rx fls @k1 Zi))))
  ·rw [if_neg k1] at hR
   by_cases k3 : r.kind = 3
   ·rw [if_pos k3] at hR
    obtain ⟨x, y, e, hx, hy, hl⟩ := okr_kids2 hr (.inl k3)
    have px := ps_two e
    cases hs : someN r with
    | false =>
     rw [hs] at cS hR
     rw [if_neg (by simp)] at hR
     subst hR
     rw [eN]
     rw [eRex_eq] at cS ⊢
     refine fits_as (res := .agg [.int .i64 1, .sl true 2 [], .sl true 3 []]) ?_ rfl
     refine fits_of_cell 2 30 [] [0, 1, 2, 3, 4, 8, 9, 14, 20, 24, 44, 57] func31 rfl rfl rfl (by show 2 < 75; decide) (by show 1 ≤ 75; decide) (by rfl) (by rfl) (by show 0 ≤ 1; decide) (by rfl) (run_of ?_)
     (repeat (first | refine Zo (Z5 tis rx fls @k3 Zi) ?_ | refine .inl ⟨by kernel_rfl, ?_⟩ | exact .inl (by show _ = _; kernel_rfl) | exact Zc (Z5 tis rx fls @k3 Zi)); try ((first | refine callL cS ?_ | refine callB cS ?_); repeat (first | refine Zo (Z5 tis rx fls @k3 Zi) ?_ | refine .inl ⟨by kernel_rfl, ?_⟩ | exact .inl (by show _ = _; kernel_rfl) | exact Zc (Z5 tis rx fls @k3 Zi))))
    | true =>
     rw [hs] at cS hR
     rw [if_pos rfl, e] at hR
     simp only [List.map_cons, List.map_nil, List.getD_cons_zero, List.getD_cons_succ] at hR
     have c1 := ih x (by rw [e]; simp) hx (by omega)
     have c2 := ih y (by rw [e]; simp) hy (by omega)
     have bx := bd_p hx (n := 24) (by omega)
     have cC := fits_copyS x (by omega)
     have c3 := fits_l4Norm x hx (by omega)
     obtain ⟨u1, u2⟩ := headR_ok x hx
     obtain ⟨v1, v2⟩ := headR_ok y hy
     have w1 := (normR_ok x hx).1
     have w2 := bd_p w1 (n := 24) (by have := normR_ps x hx; omega)
     have q1 : qB (ps x) ≤ 696 := Nat.le_trans (qB_mono (b := 24) (by omega)) (by decide)
     have q2 : qB (ps y) ≤ 696 := Nat.le_trans (qB_mono (b := 24) (by omega)) (by decide)
     have u3 := bd_p u1 (n := 696) (by omega)
     have v3 := bd_p v1 (n := 696) (by omega)
     have c4 := fits_l4Cat (normR x) (headR y) w1 v1 (by omega)
     obtain ⟨z1, z2⟩ := catN_ok (normR x) (headR y) w1 v1
     have c5 := fits_l4Or (headR x) (catN (normR x) (headR y)) u1 z1 (by omega)
     rw [hR] at c5
     clear ih u2 v2 z2 hR
     rw [eRex_eq false r, e] at cS ⊢
     simp only [List.map_cons, List.map_nil] at cS ⊢
     generalize headR x = X at *
     generalize headR y = Y at *
     generalize normR x = N at *
     generalize catN N Y = C at *
     rw [eRex_eq false x] at cC c1 c3
     rw [eRex_eq false y] at c2
     rw [eRex_eq false X] at c1
     rw [eRex_eq false Y] at c2
     rw [eRex_eq false N] at c3
     rw [eRex_eq false N, eRex_eq false Y, eRex_eq false C] at c4
     rw [eRex_eq false X, eRex_eq false C, eRex_eq false R] at c5
     rw [eRex_eq false x, eRex_eq false y] at cS ⊢
     rw [eRex_eq false R]
     refine fits_of_cell 2 30 [] [0, 1, 2, 3, 4, 8, 9, 14, 20, 24, 44, 57] func31 rfl rfl rfl (by show 2 < 75; decide) (by show 1 ≤ 75; decide) (by rfl) (by rfl) (by show 0 ≤ 1; decide) (by rfl) (run_of ?_)
     (repeat (first | refine Zo (Z6 tis rx fls @eRex_eq @k3 Zi) ?_ | refine .inl ⟨by kernel_rfl, ?_⟩ | exact .inl (by show _ = _; kernel_rfl) | exact Zc (Z6 tis rx fls @eRex_eq @k3 Zi)); try ((first | refine callL cS ?_ | refine callB cS ?_); repeat (first | refine Zo (Z6 tis rx fls @eRex_eq @k3 Zi) ?_ | refine .inl ⟨by kernel_rfl, ?_⟩ | exact .inl (by show _ = _; kernel_rfl) | exact Zc (Z6 tis rx fls @eRex_eq @k3 Zi))); try ((first | refine callL c1 ?_ | refine callB c1 ?_); repeat (first | refine Zo (Z6 tis rx fls @eRex_eq @k3 Zi) ?_ | refine .inl ⟨by kernel_rfl, ?_⟩ | exact .inl (by show _ = _; kernel_rfl) | exact Zc (Z6 tis rx fls @eRex_eq @k3 Zi))); try ((first | refine callL cC ?_ | refine callB cC ?_); repeat (first | refine Zo (Z6 tis rx fls @eRex_eq @k3 Zi) ?_ | refine .inl ⟨by kernel_rfl, ?_⟩ | exact .inl (by show _ = _; kernel_rfl) | exact Zc (Z6 tis rx fls @eRex_eq @k3 Zi))); try ((first | refine callL c3 ?_ | refine callB c3 ?_); repeat (first | refine Zo (Z6 tis rx fls @eRex_eq @k3 Zi) ?_ | refine .inl ⟨by kernel_rfl, ?_⟩ | exact .inl (by show _ = _; kernel_rfl) | exact Zc (Z6 tis rx fls @eRex_eq @k3 Zi))); try ((first | refine callL c2 ?_ | refine callB c2 ?_); repeat (first | refine Zo (Z6 tis rx fls @eRex_eq @k3 Zi) ?_ | refine .inl ⟨by kernel_rfl, ?_⟩ | exact .inl (by show _ = _; kernel_rfl) | exact Zc (Z6 tis rx fls @eRex_eq @k3 Zi))); try ((first | refine callL c4 ?_ | refine callB c4 ?_); repeat (first | refine Zo (Z6 tis rx fls @eRex_eq @k3 Zi) ?_ | refine .inl ⟨by kernel_rfl, ?_⟩ | exact .inl (by show _ = _; kernel_rfl) | exact Zc (Z6 tis rx fls @eRex_eq @k3 Zi))); try ((first | refine callL c5 ?_ | refine callB c5 ?_); repeat (first | refine Zo (Z6 tis rx fls @eRex_eq @k3 Zi) ?_ | refine .inl ⟨by kernel_rfl, ?_⟩ | exact .inl (by show _ = _; kernel_rfl) | exact Zc (Z6 tis rx fls @eRex_eq @k3 Zi))))
   ·rw [if_neg k3] at hR
    by_cases k4 : r.kind = 4
    ·rw [if_pos k4] at hR
     obtain ⟨x, y, e, hx, hy, hl⟩ := okr_kids2 hr (.inr (.inl k4))
     have px := ps_two e
     rw [e] at hR
     simp only [List.map_cons, List.map_nil, List.getD_cons_zero, List.getD_cons_succ] at hR
     have c1 := ih x (by rw [e]; simp) hx (by omega)
     have c2 := ih y (by rw [e]; simp) hy (by omega)
     obtain ⟨u1, u2⟩ := headR_ok x hx
     obtain ⟨v1, v2⟩ := headR_ok y hy
     have q1 : qB (ps x) ≤ 696 := Nat.le_trans (qB_mono (b := 24) (by omega)) (by decide)
     have q2 : qB (ps y) ≤ 696 := Nat.le_trans (qB_mono (b := 24) (by omega)) (by decide)
     have u3 := bd_p u1 (n := 696) (by omega)
     have v3 := bd_p v1 (n := 696) (by omega)
     have c5 := fits_l4Or (headR x) (headR y) u1 v1 (by omega)
     rw [hR] at c5
     clear ih u2 v2 hR
     rw [eRex_eq false r, e]
     simp only [List.map_cons, List.map_nil]
     generalize headR x = X at *
     generalize headR y = Y at *
     rw [eRex_eq false x, eRex_eq false X] at c1
     rw [eRex_eq false y, eRex_eq false Y] at c2
     rw [eRex_eq false X, eRex_eq false Y, eRex_eq false R] at c5
     rw [eRex_eq false x, eRex_eq false y, eRex_eq false R]
     refine fits_of_cell 2 30 [] [0, 1, 2, 3, 4, 8, 9, 14, 20, 24, 44, 57] func31 rfl rfl rfl (by show 2 < 75; decide) (by show 1 ≤ 75; decide) (by rfl) (by rfl) (by show 0 ≤ 1; decide) (by rfl) (run_of ?_)
     (repeat (first | refine Zo (Z6 tis rx fls @eRex_eq @k4 Zi) ?_ | refine .inl ⟨by kernel_rfl, ?_⟩ | exact .inl (by show _ = _; kernel_rfl) | exact Zc (Z6 tis rx fls @eRex_eq @k4 Zi)); try ((first | refine callL c1 ?_ | refine callB c1 ?_); repeat (first | refine Zo (Z6 tis rx fls @eRex_eq @k4 Zi) ?_ | refine .inl ⟨by kernel_rfl, ?_⟩ | exact .inl (by show _ = _; kernel_rfl) | exact Zc (Z6 tis rx fls @eRex_eq @k4 Zi))); try ((first | refine callL c2 ?_ | refine callB c2 ?_); repeat (first | refine Zo (Z6 tis rx fls @eRex_eq @k4 Zi) ?_ | refine .inl ⟨by kernel_rfl, ?_⟩ | exact .inl (by show _ = _; kernel_rfl) | exact Zc (Z6 tis rx fls @eRex_eq @k4 Zi))); try ((first | refine callL c5 ?_ | refine callB c5 ?_); repeat (first | refine Zo (Z6 tis rx fls @eRex_eq @k4 Zi) ?_ | refine .inl ⟨by kernel_rfl, ?_⟩ | exact .inl (by show _ = _; kernel_rfl) | exact Zc (Z6 tis rx fls @eRex_eq @k4 Zi))))
    ·rw [if_neg k4] at hR
     by_cases k5 : r.kind = 5
     ·rw [if_pos k5] at hR
      obtain ⟨x, e, hx, hl⟩ := okr_kids1 hr (.inl k5)
      have px := ps_one e
      rw [e] at hR
      simp only [List.map_cons, List.map_nil, List.getD_cons_zero] at hR
      have c1 := ih x (by rw [e]; simp) hx (by omega)
      have bx := bd_p hx (n := 24) (by omega)
      have cC := fits_copyS x (by omega)
      have c3 := fits_l4Norm x hx (by omega)
      obtain ⟨u1, u2⟩ := headR_ok x hx
      have w1 := (normR_ok x hx).1
      have w2 := bd_p w1 (n := 24) (by have := normR_ps x hx; omega)
      obtain ⟨s1, s2⟩ := starN_ok w1
      have c4 := fits_l4Star (normR x) w1 (by omega)
      have q1 : qB (ps x) ≤ 696 := Nat.le_trans (qB_mono (b := 24) (by omega)) (by decide)
      have u3 := bd_p u1 (n := 696) (by omega)
      have c5 := fits_l4Cat (starN (normR x)) (headR x) s1 u1 (by omega)
      obtain ⟨z1, z2⟩ := catN_ok (starN (normR x)) (headR x) s1 u1
      have c6 := fits_l4Or (.mk 2 [] []) (catN (starN (normR x)) (headR x)) oe.1 z1 (by omega)
      rw [hR, eE] at c6
      clear ih u2 z2 hR
      rw [eRex_eq false r, e]
      simp only [List.map_cons, List.map_nil]
      generalize headR x = X at *
      generalize normR x = N at *
      generalize starN N = S at *
      generalize catN S X = C at *
      rw [eRex_eq false x] at cC c1 c3
      rw [eRex_eq false X] at c1
      rw [eRex_eq false N] at c3
      rw [eRex_eq false N, eRex_eq false S] at c4
      rw [eRex_eq false S, eRex_eq false X, eRex_eq false C] at c5
      rw [eRex_eq false C, eRex_eq false R] at c6
      rw [eRex_eq false x, eRex_eq false R]
      refine fits_of_cell 2 30 [] [0, 1, 2, 3, 4, 8, 9, 14, 20, 24, 44, 57] func31 rfl rfl rfl (by show 2 < 75; decide) (by show 1 ≤ 75; decide) (by rfl) (by rfl) (by show 0 ≤ 1; decide) (by rfl) (run_of ?_)
      refine Zo (Z5 tis rx fls @eRex_eq @k5) ?_
      refine .inr (run_frzd [(4, [0, 1]), (4, [0, 2])] (by kernel_rfl) ?_)
      (repeat (first | refine Zo (Z6 tis rx fls @eRex_eq @k5 Zi) ?_ | refine .inl ⟨by kernel_rfl, ?_⟩ | exact .inl (by show _ = _; kernel_rfl) | exact Zc (Z6 tis rx fls @eRex_eq @k5 Zi)); try ((first | refine callL cC ?_ | refine callB cC ?_); repeat (first | refine Zo (Z6 tis rx fls @eRex_eq @k5 Zi) ?_ | refine .inl ⟨by kernel_rfl, ?_⟩ | exact .inl (by show _ = _; kernel_rfl) | exact Zc (Z6 tis rx fls @eRex_eq @k5 Zi))); try ((first | refine callL c3 ?_ | refine callB c3 ?_); repeat (first | refine Zo (Z6 tis rx fls @eRex_eq @k5 Zi) ?_ | refine .inl ⟨by kernel_rfl, ?_⟩ | exact .inl (by show _ = _; kernel_rfl) | exact Zc (Z6 tis rx fls @eRex_eq @k5 Zi))); try ((first | refine callL c4 ?_ | refine callB c4 ?_); repeat (first | refine Zo (Z6 tis rx fls @eRex_eq @k5 Zi) ?_ | refine .inl ⟨by kernel_rfl, ?_⟩ | exact .inl (by show _ = _; kernel_rfl) | exact Zc (Z6 tis rx fls @eRex_eq @k5 Zi))); try ((first | refine callL c1 ?_ | refine callB c1 ?_); repeat (first | refine Zo (Z6 tis rx fls @eRex_eq @k5 Zi) ?_ | refine .inl ⟨by kernel_rfl, ?_⟩ | exact .inl (by show _ = _; kernel_rfl) | exact Zc (Z6 tis rx fls @eRex_eq @k5 Zi))); try ((first | refine callL c5 ?_ | refine callB c5 ?_); repeat (first | refine Zo (Z6 tis rx fls @eRex_eq @k5 Zi) ?_ | refine .inl ⟨by kernel_rfl, ?_⟩ | exact .inl (by show _ = _; kernel_rfl) | exact Zc (Z6 tis rx fls @eRex_eq @k5 Zi))); try ((first | refine callL c6 ?_ | refine callB c6 ?_); repeat (first | refine Zo (Z6 tis rx fls @eRex_eq @k5 Zi) ?_ | refine .inl ⟨by kernel_rfl, ?_⟩ | exact .inl (by show _ = _; kernel_rfl) | exact Zc (Z6 tis rx fls @eRex_eq @k5 Zi))))
     ·rw [if_neg k5] at hR
      subst hR
      rw [eRex_eq, eE]
      refine fits_as (res := .agg [.int .i64 2, .sl true 2 [], .sl true 3 []]) ?_ rfl
      refine fits_of_cell 2 30 [] [0, 1, 2, 3, 4, 8, 9, 14, 20, 24, 44, 57] func31 rfl rfl rfl (by show 2 < 75; decide) (by show 1 ≤ 75; decide) (by rfl) (by rfl) (by show 0 ≤ 1; decide) (by rfl) (run_of ?_)
      exact Zc (Z7 tis rx fls @k1 @k3 @k4 @k5)
def thR (r : Rex) : Rex := if rexB r = true then (if hpR r = true then headR r else zRex) else zRex
theorem rexB_ok {r : Rex} (h : rexB r = true) : Okr r ∧ ps r ≤ 24 := by
 simp only [rexB, Bool.and_eq_true, decide_eq_true_eq] at h
 exact ⟨⟨8, h.1⟩, h.2⟩
theorem headR_bd {r : Rex} (h : rexB r = true) : bd (headR r) ≤ 129 * 696 := by
 obtain ⟨h1, h2⟩ := rexB_ok h
 obtain ⟨u1, u2⟩ := headR_ok r h1
 exact bd_p u1 (Nat.le_trans u2 (Nat.le_trans (qB_mono (b := 24) h2) (by decide)))
theorem thR_bd (r : Rex) : bd (thR r) ≤ 129 * 696 := by
 have hz : bd zRex = 0 := by simp [zRex, bd]
 unfold thR
 split
 ·split
  ·exact headR_bd (by assumption)
  ·omega
 ·omega
theorem fits_turnHead (r : Rex) (hb : bd r ≤ 1048576) : Fits prog 10 [eRex false r] (.tup [eRex true (thR r), .bool (rexB r && hpR r)]) [] := by
 have cO := fits_rexOk r hb
 have cH := fits_has r (by omega)
 have eZ : eRex true zRex = .agg [.int .i64 0, .sl true 2 [], .sl true 3 []] := by rw [eRex_eq]; rfl
 unfold thR
 cases h : rexB r with
 | false =>
  rw [h] at cO
  rw [if_neg (by simp), eZ, Bool.false_and]
  rw [eRex_eq] at *
  refine fits_of_pair 2 30 3 [] [0, 1, 2, 3, 10] func10 rfl rfl rfl (by show 2 < 15; decide) (by show 3 < 15; decide) (by show 1 ≤ 15; decide) (by rfl) (by rfl) (by show 0 ≤ 1; decide) (by rfl) (run_of ?_)
  (repeat (first | refine Zo (Z5 retCB.eq_1 tis fls rx Zi) ?_ | refine .inl ⟨by kernel_rfl, ?_⟩ | exact .inl (by show _ = _; kernel_rfl) | exact Zc (Z5 retCB.eq_1 tis fls rx Zi)); try ((first | refine callL cO ?_ | refine callB cO ?_); repeat (first | refine Zo (Z5 retCB.eq_1 tis fls rx Zi) ?_ | refine .inl ⟨by kernel_rfl, ?_⟩ | exact .inl (by show _ = _; kernel_rfl) | exact Zc (Z5 retCB.eq_1 tis fls rx Zi))))
 | true =>
  rw [h] at cO
  rw [if_pos rfl, Bool.true_and]
  obtain ⟨o1, o2⟩ := rexB_ok h
  cases h2 : hpR r with
  | false =>
   rw [h2] at cH
   rw [if_neg (by simp), eZ]
   rw [eRex_eq] at *
   refine fits_of_pair 2 30 3 [] [0, 1, 2, 3, 10] func10 rfl rfl rfl (by show 2 < 15; decide) (by show 3 < 15; decide) (by show 1 ≤ 15; decide) (by rfl) (by rfl) (by show 0 ≤ 1; decide) (by rfl) (run_of ?_)
   (repeat (first | refine Zo (Z5 retCB.eq_1 tis fls rx Zi) ?_ | refine .inl ⟨by kernel_rfl, ?_⟩ | exact .inl (by show _ = _; kernel_rfl) | exact Zc (Z5 retCB.eq_1 tis fls rx Zi)); try ((first | refine callL cO ?_ | refine callB cO ?_); repeat (first | refine Zo (Z5 retCB.eq_1 tis fls rx Zi) ?_ | refine .inl ⟨by kernel_rfl, ?_⟩ | exact .inl (by show _ = _; kernel_rfl) | exact Zc (Z5 retCB.eq_1 tis fls rx Zi))); try ((first | refine callL cH ?_ | refine callB cH ?_); repeat (first | refine Zo (Z5 retCB.eq_1 tis fls rx Zi) ?_ | refine .inl ⟨by kernel_rfl, ?_⟩ | exact .inl (by show _ = _; kernel_rfl) | exact Zc (Z5 retCB.eq_1 tis fls rx Zi))))
  | true =>
   rw [h2] at cH
   rw [if_pos rfl]
   have hhb := headR_bd h
   have cT := fits_head r o1 h2 o2
   have cC := fits_rexCopy (headR r) (by omega)
   generalize headR r = X at *
   rw [eRex_eq false r] at *
   rw [eRex_eq false X] at *
   rw [eRex_eq true X] at *
   refine fits_of_pair 2 30 3 [] [0, 1, 2, 3, 10] func10 rfl rfl rfl (by show 2 < 15; decide) (by show 3 < 15; decide) (by show 1 ≤ 15; decide) (by rfl) (by rfl) (by show 0 ≤ 1; decide) (by rfl) (run_of ?_)
   (repeat (first | refine Zo (Z5 retCB.eq_1 tis fls rx Zi) ?_ | refine .inl ⟨by kernel_rfl, ?_⟩ | exact .inl (by show _ = _; kernel_rfl) | exact Zc (Z5 retCB.eq_1 tis fls rx Zi)); try ((first | refine callL cO ?_ | refine callB cO ?_); repeat (first | refine Zo (Z5 retCB.eq_1 tis fls rx Zi) ?_ | refine .inl ⟨by kernel_rfl, ?_⟩ | exact .inl (by show _ = _; kernel_rfl) | exact Zc (Z5 retCB.eq_1 tis fls rx Zi))); try ((first | refine callL cH ?_ | refine callB cH ?_); repeat (first | refine Zo (Z5 retCB.eq_1 tis fls rx Zi) ?_ | refine .inl ⟨by kernel_rfl, ?_⟩ | exact .inl (by show _ = _; kernel_rfl) | exact Zc (Z5 retCB.eq_1 tis fls rx Zi))); try ((first | refine callL cT ?_ | refine callB cT ?_); repeat (first | refine Zo (Z5 retCB.eq_1 tis fls rx Zi) ?_ | refine .inl ⟨by kernel_rfl, ?_⟩ | exact .inl (by show _ = _; kernel_rfl) | exact Zc (Z5 retCB.eq_1 tis fls rx Zi))); try ((first | refine callL cC ?_ | refine callB cC ?_); repeat (first | refine Zo (Z5 retCB.eq_1 tis fls rx Zi) ?_ | refine .inl ⟨by kernel_rfl, ?_⟩ | exact .inl (by show _ = _; kernel_rfl) | exact Zc (Z5 retCB.eq_1 tis fls rx Zi))))
theorem fits_sTurnHead (r : Rex) (hb : bd r ≤ 1048576) : Fits prog 8 [eRex false r] (.tup [eRex true (thR r), .bool (rexB r && hpR r)]) [] := by
 have cO := fits_sRexOk r hb
 have cH := fits_l13Plain r (by omega)
 have eZ : eRex true zRex = .agg [.int .i64 0, .sl true 2 [], .sl true 3 []] := by rw [eRex_eq]; rfl
 unfold thR
 cases h : rexB r with
 | false =>
  rw [h] at cO
  rw [if_neg (by simp), eZ, Bool.false_and]
  rw [eRex_eq] at *
  refine fits_of_pair 2 30 3 [] [0, 1, 2, 3, 11] func8 rfl rfl rfl (by show 2 < 16; decide) (by show 3 < 16; decide) (by show 1 ≤ 16; decide) (by rfl) (by rfl) (by show 0 ≤ 1; decide) (by rfl) (run_of ?_)
  (repeat (first | refine Zo (Z5 retCB.eq_1 tis fls rx Zi) ?_ | refine .inl ⟨by kernel_rfl, ?_⟩ | exact .inl (by show _ = _; kernel_rfl) | exact Zc (Z5 retCB.eq_1 tis fls rx Zi)); try ((first | refine callL cO ?_ | refine callB cO ?_); repeat (first | refine Zo (Z5 retCB.eq_1 tis fls rx Zi) ?_ | refine .inl ⟨by kernel_rfl, ?_⟩ | exact .inl (by show _ = _; kernel_rfl) | exact Zc (Z5 retCB.eq_1 tis fls rx Zi))))
 | true =>
  rw [h] at cO
  rw [if_pos rfl, Bool.true_and]
  obtain ⟨o1, o2⟩ := rexB_ok h
  cases h2 : hpR r with
  | false =>
   rw [h2] at cH
   rw [if_neg (by simp), eZ]
   rw [eRex_eq] at *
   refine fits_of_pair 2 30 3 [] [0, 1, 2, 3, 11] func8 rfl rfl rfl (by show 2 < 16; decide) (by show 3 < 16; decide) (by show 1 ≤ 16; decide) (by rfl) (by rfl) (by show 0 ≤ 1; decide) (by rfl) (run_of ?_)
   (repeat (first | refine Zo (Z5 retCB.eq_1 tis fls rx Zi) ?_ | refine .inl ⟨by kernel_rfl, ?_⟩ | exact .inl (by show _ = _; kernel_rfl) | exact Zc (Z5 retCB.eq_1 tis fls rx Zi)); try ((first | refine callL cO ?_ | refine callB cO ?_); repeat (first | refine Zo (Z5 retCB.eq_1 tis fls rx Zi) ?_ | refine .inl ⟨by kernel_rfl, ?_⟩ | exact .inl (by show _ = _; kernel_rfl) | exact Zc (Z5 retCB.eq_1 tis fls rx Zi))); try ((first | refine callL cH ?_ | refine callB cH ?_); repeat (first | refine Zo (Z5 retCB.eq_1 tis fls rx Zi) ?_ | refine .inl ⟨by kernel_rfl, ?_⟩ | exact .inl (by show _ = _; kernel_rfl) | exact Zc (Z5 retCB.eq_1 tis fls rx Zi))))
  | true =>
   rw [h2] at cH
   rw [if_pos rfl]
   have hhb := headR_bd h
   have cT := fits_l13Head r o1 o2
   have cC := fits_l2Copy (headR r) (by omega)
   generalize headR r = X at *
   rw [eRex_eq false r] at *
   rw [eRex_eq false X] at *
   rw [eRex_eq true X] at *
   refine fits_of_pair 2 30 3 [] [0, 1, 2, 3, 11] func8 rfl rfl rfl (by show 2 < 16; decide) (by show 3 < 16; decide) (by show 1 ≤ 16; decide) (by rfl) (by rfl) (by show 0 ≤ 1; decide) (by rfl) (run_of ?_)
   (repeat (first | refine Zo (Z5 retCB.eq_1 tis fls rx Zi) ?_ | refine .inl ⟨by kernel_rfl, ?_⟩ | exact .inl (by show _ = _; kernel_rfl) | exact Zc (Z5 retCB.eq_1 tis fls rx Zi)); try ((first | refine callL cO ?_ | refine callB cO ?_); repeat (first | refine Zo (Z5 retCB.eq_1 tis fls rx Zi) ?_ | refine .inl ⟨by kernel_rfl, ?_⟩ | exact .inl (by show _ = _; kernel_rfl) | exact Zc (Z5 retCB.eq_1 tis fls rx Zi))); try ((first | refine callL cH ?_ | refine callB cH ?_); repeat (first | refine Zo (Z5 retCB.eq_1 tis fls rx Zi) ?_ | refine .inl ⟨by kernel_rfl, ?_⟩ | exact .inl (by show _ = _; kernel_rfl) | exact Zc (Z5 retCB.eq_1 tis fls rx Zi))); try ((first | refine callL cT ?_ | refine callB cT ?_); repeat (first | refine Zo (Z5 retCB.eq_1 tis fls rx Zi) ?_ | refine .inl ⟨by kernel_rfl, ?_⟩ | exact .inl (by show _ = _; kernel_rfl) | exact Zc (Z5 retCB.eq_1 tis fls rx Zi))); try ((first | refine callL cC ?_ | refine callB cC ?_); repeat (first | refine Zo (Z5 retCB.eq_1 tis fls rx Zi) ?_ | refine .inl ⟨by kernel_rfl, ?_⟩ | exact .inl (by show _ = _; kernel_rfl) | exact Zc (Z5 retCB.eq_1 tis fls rx Zi))))
section
variable {h h' : Array Obj} {S : Nat → Prop}
theorem rl_int {k : IntKind} {n : Int} {xs : List AV} {cs : List Value} {O : Nat → Prop} : RepL h S (.int k n :: xs) cs O ↔ ∃ c2, cs = .int k n :: c2 ∧ RepL h S xs c2 O := by
 simp only [RepL, RepC]
 constructor
 ·rintro ⟨c1, c2, O1, O2, rfl, h2, h3, ⟨rfl, h4⟩, h5⟩
  exact ⟨c2, rfl, repL_cong _ h5 (fun k => by rw [h2 k]; exact ⟨fun h => h.resolve_left (h4 k), .inr⟩)⟩
 ·rintro ⟨c2, rfl, h5⟩
  exact ⟨[_], c2, fun _ => False, O, rfl, by simp, by simp, ⟨rfl, emp_false⟩, h5⟩
theorem rl_sl {o : Bool} {z : Nat} {l xs : List AV} {cs : List Value} {O : Nat → Prop} : RepL h S (.sl o z l :: xs) cs O ↔ ∃ v c2 O1 O2, cs = v :: c2 ∧ (∀ k, O k ↔ O1 k ∨ O2 k) ∧ (∀ k, O1 k → ¬ O2 k) ∧ RepC h S (.sl o z l) [v] O1 ∧ RepL h S xs c2 O2 := by
 constructor
 ·intro r
  simp only [RepL] at r
  obtain ⟨c1, c2, O1, O2, rfl, h2, h3, h4, h5⟩ := r
  have hl := repC_len _ h4
  obtain ⟨v, rfl⟩ := List.length_eq_one_iff.1 (by simpa [ncells] using hl)
  exact ⟨v, c2, O1, O2, rfl, h2, h3, h4, h5⟩
 ·rintro ⟨v, c2, O1, O2, rfl, h2, h3, h4, h5⟩
  simp only [RepL]
  exact ⟨[v], c2, O1, O2, rfl, h2, h3, h4, h5⟩
theorem rl_nil {cs : List Value} {O : Nat → Prop} : RepL h S [] cs O ↔ cs = [] ∧ Emp O := by simp only [RepL]
end
theorem fits_eqRexS_of (p : List Rex) (hp : p.length ≤ 1048576) (H : ∀ x ∈ p, Fits prog 11 [eRex false x, eRex false x] (.bool true) []) : Fits prog 39 [.sl false 3 (p.map (eRex false)), .sl false 3 (p.map (eRex false))] (.bool true) [] := by
 refine fits_of_code [4] [] [0, 1, 4, 5, 10, 14, 26] func39 rfl rfl rfl (by rfl) (by show 2 ≤ 27; decide) (by rfl) (by rfl) (by show 0 ≤ 2; decide) (by rfl) (run_of ?_)
 refine Zo tis ?_
 refine run_loop (α := Nat) (fun i => i ≤ p.length) (fun i => [(0, .sl false 3 (p.map (eRex false))), (1, .sl false 3 (p.map (eRex false))), (5, .int .i64 i)]) (fun i => p.length - i) 0 (Nat.zero_le _) ?_ ?_
 ·exact Zc tis
 ·intro i hi'
  by_cases hi : i < p.length
  ·refine Zo (Z3 tis rx @eRex_eq) ?_
   refine .inl ⟨by kernel_rfl, ?_⟩
   refine callL (H p[i] (List.getElem_mem hi)) ?_
   refine Zo (Z3 tis rx @eRex_eq) ?_
   refine round_normal (i + 1) (by omega) ?_ (by show p.length - (i + 1) < p.length - i; omega)
   exact Zc tis
  ·obtain rfl : i = p.length := by omega
   exact Zc tis
theorem fits_eqRex (r : Rex) (hb : bd r ≤ 1048576) : Fits prog 11 [eRex false r, eRex false r] (.bool true) [] := by
 induction r using Rex.ind' with
 | h r ih =>
  have hb' := bd_eq r
  have HS := fits_eqRexS_of r.kids (by omega) (fun x hx => ih x hx (Nat.le_trans (bd_kid hx) hb))
  have HT := fits_eqSpanS r.set r.set (by omega) (by omega)
  rw [eRex_eq]
  refine fits_of_code [4] [] [0, 1, 2, 3, 4, 9, 15, 21] func11 rfl rfl rfl (by rfl) (by show 2 ≤ 22; decide) (by rfl) (by rfl) (by show 0 ≤ 2; decide) (by rfl) (run_of ?_)
  refine Zo tis ?_
  refine callB HT ?_
  refine Zo (Z3 tis fls rx) ?_
  refine callB HS ?_
  exact Zc (Z3 tis fls rx)
def ct : Rex → Nat
 | .mk _ s ks => 1 + (2 * s.length + (ks.map ct).sum)
theorem ct_eq (r : Rex) : ct r = 1 + (2 * r.set.length + (r.kids.map ct).sum) := by cases r; rw [ct]; rfl
mutual
def mkR : Rex → Int → Rex
 | .mk _ s ks, k => .mk k (mkSpans s.length (k + 1)) (mkL ks (k + 1 + 2 * s.length))
def mkL : List Rex → Int → List Rex
 | [], _ => []
 | x :: xs, k => mkR x k :: mkL xs (k + ct x)
end
theorem mkR_eq (r : Rex) (k : Int) : mkR r k = .mk k (mkSpans r.set.length (k + 1)) (mkL r.kids (k + 1 + 2 * r.set.length)) := by cases r; rw [mkR]; rfl
theorem mkL_len : ∀ (l : List Rex) (k : Int), (mkL l k).length = l.length
 | [], k => by simp [mkL]
 | x :: l, k => by simp [mkL, mkL_len l]
theorem mkL_app : ∀ (l : List Rex) (x : Rex) (k : Int), mkL (l ++ [x]) k = mkL l k ++ [mkR x (k + ((l.map ct).sum : Nat))]
 | [], x, k => by simp [mkL]
 | y :: l, x, k => by
  simp only [List.cons_append, mkL, mkL_app l x, List.map_cons, List.sum_cons]
  congr 3
  congr 1
  omega
theorem ct_le (r : Rex) : ct r ≤ 1 + 2 * bd r := by
 induction r using Rex.ind' with
 | h r ih =>
  rw [ct_eq, bd_eq]
  have : (r.kids.map ct).sum ≤ r.kids.length + 2 * (r.kids.map bd).sum := by
   generalize r.kids = l at ih
   induction l with
   | nil => simp
   | cons x l ihl =>
    have h1 := ih x (List.mem_cons_self ..)
    have h2 := ihl (fun y hy => ih y (List.mem_cons_of_mem _ hy))
    simp only [List.map_cons, List.sum_cons, List.length_cons]
    omega
  omega
theorem ctL_le (l : List Rex) : (l.map ct).sum ≤ l.length + 2 * (l.map bd).sum := by
 induction l with
 | nil => simp
 | cons x l ih =>
  have := ct_le x
  simp only [List.map_cons, List.sum_cons, List.length_cons]
  omega
theorem fits_markRexS_of (p : List Rex) (k : Int) (hp : p.length ≤ 1048576) (hb : (p.map bd).sum ≤ 1048576) (h0 : 0 ≤ k) (hk : k + (p.map ct).sum ≤ 1152921504606846976)
  (hs : ∀ x ∈ p, x.set.length ≤ 1048576)
  (H : ∀ x ∈ p, ∀ m : Int, 0 ≤ m → m + (x.kids.map ct).sum ≤ 1152921504606846976 → Fits prog 41 [.sl true 3 (x.kids.map (eRex true)), .int .i64 m] (.int .i64 (m + (x.kids.map ct).sum)) [.sl true 3 ((mkL x.kids m).map (eRex true))]) :
  Fits prog 41 [.sl true 3 (p.map (eRex true)), .int .i64 k] (.int .i64 (k + (p.map ct).sum)) [.sl true 3 ((mkL p k).map (eRex true))] := by
 refine fits_of_code [4] [0] [0, 1, 4, 5, 9] func41 rfl rfl rfl (by rfl) (by show 2 ≤ 34; decide) (by rfl) (by rfl) (by show 1 ≤ 2; decide) (by rfl) (run_of ?_)
 refine Zo tis ?_
 refine run_loop (α := Nat) (fun i => i ≤ p.length) (fun i => [(0, .sl true 3 ((mkL (p.take i) k).map (eRex true) ++ (p.drop i).map (eRex true))), (1, .int .i64 (k + ((p.take i).map ct).sum)), (5, .int .i64 i)]) (fun i => p.length - i) 0 (Nat.zero_le _) ?_ ?_
 ·simp -implicitDefEqProofs (disch := first | (intros; contradiction) | omega) only [am0, am1, am2, am3, am4, am5, Nat.reduceSub, ↓reduceIte, reduceCtorEq, Nat.reduceEqDiff, Nat.reduceBEq, Nat.reduceAdd, Nat.reduceLT, Nat.reduceBNe, Nat.reduceMul, ↓reduceIte, tis, mkL, List.sum_nil]
 ·intro i hi'
  have hA : ((mkL (p.take i) k).map (eRex true)).length = i := by simp [mkL_len]; omega
  have hL : ((mkL (p.take i) k).map (eRex true) ++ (p.drop i).map (eRex true)).length = p.length := by simp [mkL_len]; omega
  by_cases hi : i < p.length
  ·have g1 := turn_get _ (eRex true) p i hA hi
   have g2 := fun y => turn_set _ (eRex true) p i y hA hi
   generalize hAA : (mkL (p.take i) k).map (eRex true) = A at *
   have g3 : ∀ y, (A ++ [y] ++ (p.drop (i + 1)).map (eRex true))[i]? = some y := fun y => by
    rw [List.append_assoc, List.getElem?_append_right (by omega), hA, Nat.sub_self]; rfl
   have g4 : ∀ y z, (A ++ [y] ++ (p.drop (i + 1)).map (eRex true)).set i z = A ++ [z] ++ (p.drop (i + 1)).map (eRex true) := fun y z => by
    rw [List.append_assoc, List.set_append_right _ _ (by omega), hA, Nat.sub_self]; simp
   have g5 : ∀ y, (A ++ [y] ++ (p.drop (i + 1)).map (eRex true)).length = p.length := fun y => by simp; omega
   rw [eRex_eq] at g1
   have es := take_sum (l := p.map ct) (i := i) (by simpa using hi)
   rw [List.getElem_map, ct_eq] at es
   have ele := take_sum_le (p.map ct) (i + 1)
   rw [← List.map_take, ← List.map_take] at es
   rw [← List.map_take] at ele
   generalize hK : k + (((p.take i).map ct).sum : Nat) = K at *
   have hK0 : 0 ≤ K := by omega
   have hx := List.getElem_mem hi
   have HT := fits_markSpanS p[i].set (K + 1) (hs _ hx) (by omega) (by have := hs _ hx; omega)
   have HR := H p[i] hx (K + 1 + 2 * p[i].set.length) (by omega) (by omega)
   refine Zo (Z7 tis @hL @g1 @g2 @g3 @g4 @g5) ?_
   refine callM 0 HT ?_
   refine Zo (Z8 tis @hL @g1 @g2 @g3 @g4 @g5 fls) ?_
   refine callM 0 HR ?_
   refine Zo (Z9 tis @hL @g1 @g2 @g3 @g4 @g5 fls rx) ?_
   refine round_normal (i + 1) (by omega) ?_ (by show p.length - (i + 1) < p.length - i; omega)
   have e1 : mkL (p.take (i + 1)) k = mkL (p.take i) k ++ [mkR p[i] K] := by
    rw [List.take_succ_eq_append_getElem hi, mkL_app, hK]
   simp -implicitDefEqProofs (disch := first | (intros; contradiction) | omega) only [am0, am1, am2, am3, am4, am5, Nat.reduceSub, ↓reduceIte, reduceCtorEq, Nat.reduceEqDiff, Nat.reduceBEq, Nat.reduceAdd, Nat.reduceLT, Nat.reduceBNe, Nat.reduceMul, ↓reduceIte, tis, e1, List.map_append, hAA, mkR_eq, eRex]
   omega
  ·obtain rfl : i = p.length := by omega
   exact Zc (Z2 tis @mkL_len)
theorem fits_markKids (r : Rex) (hb : bd r ≤ 1048576) : ∀ m : Int, 0 ≤ m → m + (r.kids.map ct).sum ≤ 1152921504606846976 → Fits prog 41 [.sl true 3 (r.kids.map (eRex true)), .int .i64 m] (.int .i64 (m + (r.kids.map ct).sum)) [.sl true 3 ((mkL r.kids m).map (eRex true))] := by
 induction r using Rex.ind' with
 | h r ih =>
  intro m h0 h1
  have hb' := bd_eq r
  exact fits_markRexS_of r.kids m (by omega) (by omega) h0 h1 (fun x hx => by have := bd_kid hx; have := bd_eq x; omega) (fun x hx => ih x hx (Nat.le_trans (bd_kid hx) hb))
theorem mkL_get (l : List Rex) (k : Int) (i : Nat) (h : i < l.length) : ((mkL l k).map (eRex false)).getD i .undef = eRex false (mkR l[i] (k + ((l.take i).map ct).sum)) := by
 induction l generalizing k i with
 | nil => simp at h
 | cons x l ih =>
  cases i with
  | zero => simp [mkL]
  | succ i =>
   have := ih (k + ct x) i (by simpa using h)
   simp only [mkL, List.map_cons, List.getD_cons_succ, this, List.getElem_cons_succ, List.take_succ_cons, List.sum_cons]
   congr 2
   omega
theorem fits_heldRexS_of (p : List Rex) (k : Int) (hp : p.length ≤ 1048576) (h0 : 0 ≤ k) (hk : k + (p.map ct).sum ≤ 1152921504606846976)
  (hs : ∀ x ∈ p, x.set.length ≤ 1048576)
  (H : ∀ x ∈ p, ∀ m : Int, 0 ≤ m → m + (x.kids.map ct).sum ≤ 1152921504606846976 → Fits prog 43 [.sl false 3 ((mkL x.kids m).map (eRex false)), .int .i64 m] (.int .i64 (m + (x.kids.map ct).sum)) []) :
  Fits prog 43 [.sl false 3 ((mkL p k).map (eRex false)), .int .i64 k] (.int .i64 (k + (p.map ct).sum)) [] := by
 refine fits_of_code [4] [] [0, 1, 4, 5, 9, 18, 29, 38] func43 rfl rfl rfl (by rfl) (by show 2 ≤ 40; decide) (by rfl) (by rfl) (by show 0 ≤ 2; decide) (by rfl) (run_of ?_)
 (first | refine Zo tis ?_ | exact Zc tis)
 refine run_loop (α := Nat) (fun i => i ≤ p.length) (fun i => [(0, .sl false 3 ((mkL p k).map (eRex false))), (1, .int .i64 (k + ((p.take i).map ct).sum)), (5, .int .i64 i)]) (fun i => p.length - i) 0 (Nat.zero_le _) ?_ ?_
 ·simp -implicitDefEqProofs (disch := first | (intros; contradiction) | omega) only [am0, am1, am2, am3, am4, am5, Nat.reduceSub, ↓reduceIte, reduceCtorEq, Nat.reduceEqDiff, Nat.reduceBEq, Nat.reduceAdd, Nat.reduceLT, Nat.reduceBNe, Nat.reduceMul, ↓reduceIte, tis, List.sum_nil]
 ·intro i hi'
  by_cases hi : i < p.length
  ·have g := mkL_get p k i hi
   rw [mkR_eq, eRex] at g
   have es := take_sum (l := p.map ct) (i := i) (by simpa using hi)
   rw [List.getElem_map, ct_eq] at es
   have ele := take_sum_le (p.map ct) (i + 1)
   rw [← List.map_take, ← List.map_take] at es
   rw [← List.map_take] at ele
   generalize hK : k + (((p.take i).map ct).sum : Nat) = K at *
   have hK0 : 0 ≤ K := by omega
   have hx := List.getElem_mem hi
   have HT := fits_heldSpanS p[i].set.length (K + 1) (hs _ hx) (by omega) (by have := hs _ hx; omega)
   have HR := H p[i] hx (K + 1 + 2 * p[i].set.length) (by omega) (by omega)
   (first | refine Zo (Z3 tis @mkL_len @g) ?_ | exact Zc (Z3 tis @mkL_len @g))
   refine callB HT ?_
   (first | refine Zo (Z3 tis @mkL_len @g) ?_ | exact Zc (Z3 tis @mkL_len @g))
   refine callB HR ?_
   (first | refine Zo (Z3 tis @mkL_len @g) ?_ | exact Zc (Z3 tis @mkL_len @g))
   refine round_normal (i + 1) (by omega) ?_ (by show p.length - (i + 1) < p.length - i; omega)
   (first | refine Zo tis ?_ | exact Zc tis)
   omega
  ·obtain rfl : i = p.length := by omega
   (first | refine Zo (Z2 tis @mkL_len) ?_ | exact Zc (Z2 tis @mkL_len))
theorem fits_heldKids (r : Rex) (hb : bd r ≤ 1048576) : ∀ m : Int, 0 ≤ m → m + (r.kids.map ct).sum ≤ 1152921504606846976 → Fits prog 43 [.sl false 3 ((mkL r.kids m).map (eRex false)), .int .i64 m] (.int .i64 (m + (r.kids.map ct).sum)) [] := by
 induction r using Rex.ind' with
 | h r ih =>
  intro m h0 h1
  have hb' := bd_eq r
  exact fits_heldRexS_of r.kids m (by omega) h0 h1 (fun x hx => by have := bd_kid hx; have := bd_eq x; omega) (fun x hx => ih x hx (Nat.le_trans (bd_kid hx) hb))
def mkTop (r : Rex) (k : Int) : Rex := .mk r.kind (mkSpans r.set.length k) (mkL r.kids (k + 2 * r.set.length))
theorem fits_heldRex (r : Rex) (k : Int) (hb : bd r ≤ 1048576) (h0 : 0 ≤ k) (hk : k ≤ 1048576) : Fits prog 13 [eRex false (mkTop r k), .int .i64 k] (.int .i64 (k + 2 * r.set.length + (r.kids.map ct).sum)) [] := by
 have hb' := bd_eq r
 have hc := ctL_le r.kids
 have HT := fits_heldSpanS r.set.length k (by omega) h0 (by omega)
 have HR := fits_heldKids r hb (k + 2 * r.set.length) (by omega) (by omega)
 rw [mkTop, eRex]
 refine fits_of_code [4] [] [0, 1, 2, 4, 10, 16] func13 rfl rfl rfl (by rfl) (by show 2 ≤ 18; decide) (by rfl) (by rfl) (by show 0 ≤ 2; decide) (by rfl) (run_of ?_)
 (first | refine Zo tis ?_ | exact Zc tis)
 refine callB HT ?_
 (first | refine Zo tis ?_ | exact Zc tis)
 refine callB HR ?_
 (first | refine Zo tis ?_ | exact Zc tis)
theorem laid_move {h h' : Array Obj} {O O' : Nat → Prop} (L : Laid prog h O) (hs : h.size ≤ h'.size) (hk : ∀ k, k < h.size → ¬ O k → h'[k]? = h[k]?) (ho : ∀ k, O' k → O k ∨ h.size ≤ k) : Laid prog h' O' := by
 obtain ⟨hb, l1, l2⟩ := L
 refine ⟨hb, l1, fun n hn g hg => ?_⟩
 obtain ⟨a, b, c⟩ := l2 n hn g hg
 refine ⟨Nat.lt_of_lt_of_le a hs, fun x => ?_, (hk g a b).trans c⟩
 rcases ho g x with h | h
 ·exact b h
 ·exact absurd a (Nat.not_lt.2 h)
theorem fits_markRex (r : Rex) (k : Int) (hb : bd r ≤ 1048576) (h0 : 0 ≤ k) (hk : k ≤ 1048576) :
  Fits prog 12 [eRex true r, .int .i64 k] (.int .i64 (k + 2 * r.set.length + (r.kids.map ct).sum)) [eRex true (mkTop r k)] := by
 have hb' := bd_eq r
 have hct := ctL_le r.kids
 refine ⟨⟨_, func12, by rfl, by rfl⟩, ?_⟩
 intro w vs ok O hall hrep hly
 simp only [RepWs, eRex_eq] at hrep
 obtain ⟨v0, vs1, Oa, Ob, rfl, e1, e2, r0, v1, vs2, Oc, Od, rfl, e3, e4, r1, rfl, e5⟩ := hrep
 simp only [RepW] at r0 r1
 obtain ⟨cs, rfl, r0⟩ := r0
 simp only [RepC] at r0
 obtain ⟨c1, d1', q1⟩ := rl_int.1 r0
 obtain ⟨s1, c2, O1, O1', d2', a1, a2, rs1, q2⟩ := rl_sl.1 q1
 obtain ⟨s8, c3, O8, O8', d3', a3, a4, rs8, q3⟩ := rl_sl.1 q2
 obtain ⟨d4', q10⟩ := rl_nil.1 q3
 subst d4' d3' d2'
 have hc1 := d1'
 simp only [RepC] at r1
 obtain ⟨r1, r1'⟩ := r1
 have r1 : v1 = .int .i64 k := by simpa using r1
 subst r1
 have hcs : cs = #[.int .i64 r.kind, s1, s8] := by
  apply Array.ext'; rw [hc1]
 subst hcs
 show Calls prog 12 #[.agg #[.int .i64 r.kind, s1, s8], .int .i64 k] w _
 clear q1 q2 q3 r0
 have hO : ∀ k, O k ↔ O1 k ∨ O8 k := by
  intro k
  rw [e1, a1, a3, e3]
  constructor
  ·rintro ((h | h | h) | h | h)
   ·exact .inl h
   ·exact .inr h
   ·exact (q10 k h).elim
   ·exact (r1' k h).elim
   ·exact (e5 k h).elim
  ·rintro (h | h)
   ·exact .inl (.inl h)
   ·exact .inl (.inr (.inl h))
 have hd18 : ∀ k, O1 k → ¬ O8 k := fun k h1 h8 => a2 k h1 ((a3 k).2 (.inl h8))
 have lt1 := repC_lt _ rs1
 have lt8 := repC_lt _ rs8
 clear a1 a2 a3 a4 e1 e2 e3 e4 e5 r1' q10
 generalize hcells : #[.int .i64 r.kind, s1, s8] = cells
 have hc0 : cells[1]? = some s1 := by rw [← hcells]; rfl
 have hc7 : cells[2]? = some s8 := by rw [← hcells]; rfl
 have hag : ∀ {h' : Array Obj} {S' Oz : Nat → Prop}, (∀ k, (ok k ∧ ¬ O k) → k < w.heap.size → S' k ∧ h'[k]? = w.heap[k]?) → (∀ k, Oz k → h'[k]? = w.heap[k]?) → Agree w.heap h' (fun k => ok k ∧ ¬ O k) S' Oz := fun h1 h2 => ⟨h1, h2⟩
 have push : ∀ k, k < w.heap.size → (w.alloc (.cells cells 30)).heap[k]? = w.heap[k]? := fun k hk => push_old _ _ hk
 have hsz : w.heap.size < (w.alloc (.cells cells 30)).heap.size := by show _ < (w.heap.push _).size; rw [Array.size_push]; omega
 have hA := (fits_markSpanS r.set k (by omega) h0 (by omega)).2 (w.alloc (.cells cells 30)) [s1, .int .i64 k] ok O1
  (fun k hk => hk.elim (fun h => hall k (.inl ((hO k).2 (.inl h)))) (fun h => hall k (.inr (Nat.le_trans (Nat.le_of_lt hsz) h))))
  (by
   simp only [RepWs, RepW]
   refine ⟨s1, _, O1, fun _ => False, rfl, by simp, by simp, repC_mono _ rs1 (hag (fun k hk hlt => ⟨⟨hk.1, fun h => hk.2 ((hO k).2 (.inl h))⟩, push k hlt⟩) (fun k hk => push k (lt1 k hk))), .int .i64 k, [], fun _ => False, fun _ => False, rfl, by simp, by simp, ?_, rfl, emp_false⟩
   simp only [RepC]; exact ⟨trivial, emp_false⟩)
  (laid_move hly (Nat.le_of_lt hsz) (fun k hk _ => push k hk) (fun k h => .inl ((hO k).2 (.inl h))))
 generalize hQ : (fun e w' => _) = Q
 go_enter func12, ntmps12
 go_wp2_with fail
 refine Calls.mono hA ?_
 rintro e w1 ⟨v1, Or1, Oo1, rfl, b1, b2, b3, b4, b5, b6, b7, b8, b9⟩
 have hB : (w.alloc (.cells cells 30)).heap[w.heap.size]? = some (.cells cells 30 (0, 0)) := push_new _ _
 have hB1 : w1.heap[w.heap.size]? = some (.cells cells 30 (0, 0)) := by rw [b5 _ hsz (fun h => absurd (lt1 _ h) (Nat.lt_irrefl _)), hB]
 have hcell : w1.cell? ⟨w.heap.size, 2, none⟩ = some s8 := by rw [cell_eq]; simp [cellH, hB1, hc7]
 have hv1 : v1 = .int .i64 (k + 2 * r.set.length) := by simp only [RepW, RepC] at b6; simpa using b6.1
 subst hv1
 have hOr1 : Emp Or1 := by simp only [RepW, RepC] at b6; exact b6.2
 go_wp2_with fail
 have hw1 : ∀ k, k < w.heap.size → ¬ O1 k → w1.heap[k]? = w.heap[k]? := fun k hk h1 => (b5 k (by omega) h1).trans (push k hk)
 have hA2 := (fits_markKids r hb (k + 2 * r.set.length) (by omega) (by omega)).2 w1 [s8, .int .i64 (k + 2 * r.set.length)] ok O8
  (fun k hk => hk.elim (fun h => hall k (.inl ((hO k).2 (.inr h)))) (fun h => hall k (.inr (by omega))))
  (by
   simp only [RepWs, RepW]
   refine ⟨s8, _, O8, fun _ => False, rfl, by simp, by simp, repC_mono _ rs8 (hag (fun k hk hlt => ⟨⟨hk.1, fun h => hk.2 ((hO k).2 (.inr h))⟩, hw1 k hlt (fun h => hk.2 ((hO k).2 (.inl h)))⟩) (fun k hk => hw1 k (lt8 k hk) (fun h => hd18 k h hk))), .int .i64 (k + 2 * r.set.length), [], fun _ => False, fun _ => False, rfl, by simp, by simp, ?_, rfl, emp_false⟩
   simp only [RepC]; exact ⟨trivial, emp_false⟩)
  (laid_move hly (Nat.le_trans (Nat.le_of_lt hsz) b4) (fun k hk hn => hw1 k hk (fun h => hn ((hO k).2 (.inl h)))) (fun k h => .inl ((hO k).2 (.inr h))))
 refine Calls.mono hA2 ?_
 rintro e w2 ⟨v2, Or2, Oo2, rfl, d1, d2, d3, d4, d5, d6, d7, d8, d9⟩
 have hv2 : v2 = .int .i64 (k + 2 * r.set.length + (r.kids.map ct).sum) := by simp only [RepW, RepC] at d6; simpa using d6.1
 subst hv2
 have hOr2 : Emp Or2 := by simp only [RepW, RepC] at d6; exact d6.2
 go_wp2_with fail
 rw [← hQ]
 simp only [List.take_succ_cons, List.take_zero, List.length_cons, List.length_nil] at b7 d7
 simp only [RepWs, RepW] at b7 d7
 obtain ⟨x1, y1, P1, P1', g1, g2, g3, g4, g5, g6⟩ := b7
 obtain ⟨x2, y2, P2, P2', k1, k2, k3, k4, k5, k6⟩ := d7
 obtain ⟨rfl, rfl⟩ : s1 = x1 ∧ [] = y1 := by simpa using g1
 obtain ⟨rfl, rfl⟩ : s8 = x2 ∧ [] = y2 := by simpa using k1
 have p1 : ∀ k, P1 k → O1 k ∨ (w.alloc (.cells cells 30)).heap.size ≤ k := fun k hk => b9 k (.inr ((g2 k).2 (.inl hk)))
 have p2 : ∀ k, P2 k → O8 k ∨ w1.heap.size ≤ k := fun k hk => d9 k (.inr ((k2 k).2 (.inl hk)))
 have l1 := repC_lt _ g4
 have q1 : ∀ k, P1 k → ¬ O8 k := fun k hk h8 => by
  rcases p1 k hk with h | h
  ·exact hd18 k h h8
  ·have := lt8 k h8; omega
 have q2 : ∀ k, P1 k → ¬ P2 k := fun k hk hk2 => by
  rcases p2 k hk2 with h | h
  ·exact q1 k hk h
  ·have := l1 k hk; omega
 refine ⟨.int .i64 (k + 2 * r.set.length + (r.kids.map ct).sum), fun _ => False, fun k => P1 k ∨ P2 k, rfl, d1.trans b1, d2.trans b2, d3.trans b3, by omega, ?_, ?_, ?_, fun _ h => h.elim, ?_⟩
 ·intro k hk hn
  rw [d5 k (by omega) (fun h => hn ((hO k).2 (.inr h))), hw1 k hk (fun h => hn ((hO k).2 (.inl h)))]
 ·simp only [RepW, RepC]; exact ⟨trivial, emp_false⟩
 ·simp only [List.length_cons, List.length_nil, List.take_succ_cons, List.take_zero, RepWs]
  refine ⟨.agg cells, [], fun k => P1 k ∨ P2 k, fun _ => False, rfl, by simp, by simp, ?_, rfl, emp_false⟩
  simp only [mkTop, eRex, RepW]
  refine ⟨cells, rfl, ?_⟩
  simp only [RepC]
  rw [← hcells]
  refine rl_int.2 ⟨_, rfl, rl_sl.2 ⟨s1, _, P1, P2, rfl, fun k => Iff.rfl, q2, ?_, rl_sl.2 ⟨s8, _, P2, fun _ => False, rfl, by simp, by simp, ?_, rl_nil.2 ⟨rfl, emp_false⟩⟩⟩⟩
  ·exact repC_closed _ (repC_mono (S' := fun _ => False) _ (repC_closed (S' := fun _ => False) _ g4 (by simp [closed, fls])) ⟨fun k hk => hk.elim, fun k hk => d5 k (l1 k hk) (q1 k hk)⟩) (by simp [closed, fls])
  ·exact repC_closed _ k4 (by simp [closed, rx])
 ·rintro k (h | h | h)
  ·exact h.elim
  ·exact (p1 k h).imp (fun h => (hO k).2 (.inl h)) (fun h => by omega)
  ·exact (p2 k h).imp (fun h => (hO k).2 (.inr h)) (fun h => by omega)
theorem szR_ok2 {n : Int} {b : Nat} (h : ¬ (if n - b < 0 then (-1 : Int) else n - b) < 0) : (b : Int) ≤ n := by
 split at h <;> omega
theorem law_TurnHead (r : Rex) (hl : Lens r) : Fits prog 3 [eRex false r] (.bool true) [] := by
 have cZ := fits_szRex r 1048576 hl (by omega) (by omega)
 by_cases h : (if (1048576 : Int) - bd r < 0 then (-1 : Int) else 1048576 - bd r) < 0
 ·rw [eRex_eq] at *
  refine fits_of_code [2] [] [0, 1, 2, 3, 4, 5, 6, 7, 8, 9, 10, 11, 12, 13, 18, 40, 45, 61, 69, 72, 87, 92, 95] func3 rfl rfl rfl (by rfl) (by show 1 ≤ 96; decide) (by rfl) (by rfl) (by show 0 ≤ 1; decide) (by rfl) (run_of ?_)
  (repeat (first | refine Zo (Z3 tis @h Zi) ?_ | refine .inl ⟨by kernel_rfl, ?_⟩ | exact .inl (by show _ = _; kernel_rfl) | exact Zc (Z3 tis @h Zi)); try ((first | refine callL cZ ?_ | refine callB cZ ?_); repeat (first | refine Zo (Z3 tis @h Zi) ?_ | refine .inl ⟨by kernel_rfl, ?_⟩ | exact .inl (by show _ = _; kernel_rfl) | exact Zc (Z3 tis @h Zi))))
 have hb := szR_ok2 h
 have hb : bd r ≤ 1048576 := by omega
 have hg := thR_bd r
 have hgb := bd_eq (thR r)
 have hbb := bd_eq r
 have hc1 := ctL_le r.kids
 have hc2 := ctL_le (thR r).kids
 have cI := fits_toRex r hb
 have cO := fits_sTurnHead r hb
 have cP := fits_turnHead r hb
 have cE := fits_eqRex (thR r) (by omega)
 have cL := fits_eqRex r hb
 have cM := fits_markRex r 1 hb (by omega) (by omega)
 have cF := fits_markRex (thR r) 1 (by omega) (by omega) (by omega)
 have cH := fits_heldRex (thR r) 1 (by omega) (by omega) (by omega)
 generalize thR r = g at *
 generalize (rexB r && hpR r) = B at *
 simp only [eRex_eq] at *
 refine fits_of_code [2] [] [0, 1, 2, 3, 4, 5, 6, 7, 8, 9, 10, 11, 12, 13, 18, 40, 45, 61, 69, 72, 87, 92, 95] func3 rfl rfl rfl (by rfl) (by show 1 ≤ 96; decide) (by rfl) (by rfl) (by show 0 ≤ 1; decide) (by rfl) (run_of ?_)
 (first | refine Zo tis ?_ | exact Zc tis)
 refine callB cZ ?_
 (first | refine Zo (Z2 tis @h) ?_ | exact Zc (Z2 tis @h))
 refine callB cI ?_
 (first | refine Zo (Z3 tis fls rx) ?_ | exact Zc (Z3 tis fls rx))
 refine callB cO ?_
 simp -implicitDefEqProofs (disch := first | (intros; contradiction) | omega) only [am0, am1, am2, am3, am4, am5, Nat.reduceSub, ↓reduceIte, reduceCtorEq, Nat.reduceEqDiff, Nat.reduceBEq, Nat.reduceAdd, Nat.reduceLT, Nat.reduceBNe, Nat.reduceMul, ↓reduceIte, tis, fls, rx, ex_eq, exGo_tup, plain, plainL]
 refine callB cI ?_
 (first | refine Zo (Z3 tis fls rx) ?_ | exact Zc (Z3 tis fls rx))
 refine callB cP ?_
 simp -implicitDefEqProofs (disch := first | (intros; contradiction) | omega) only [am0, am1, am2, am3, am4, am5, Nat.reduceSub, ↓reduceIte, reduceCtorEq, Nat.reduceEqDiff, Nat.reduceBEq, Nat.reduceAdd, Nat.reduceLT, Nat.reduceBNe, Nat.reduceMul, ↓reduceIte, tis, fls, rx, ex_eq, exGo_tup, plain, plainL]
 refine callB cE ?_
 (first | refine Zo (Z3 tis fls rx) ?_ | exact Zc (Z3 tis fls rx))
 refine .inl ⟨by kernel_rfl, ?_⟩
 refine callL cI ?_
 (first | refine Zo (Z3 tis fls rx) ?_ | exact Zc (Z3 tis fls rx))
 refine callL cL ?_
 (first | refine Zo (Z3 tis fls rx) ?_ | exact Zc (Z3 tis fls rx))
 refine callM 0 cM ?_
 (first | refine Zo (Z3 tis fls rx) ?_ | exact Zc (Z3 tis fls rx))
 refine callB cE ?_
 (first | refine Zo (Z3 tis fls rx) ?_ | exact Zc (Z3 tis fls rx))
 refine callM 0 cF ?_
 (first | refine Zo (Z3 tis fls rx) ?_ | exact Zc (Z3 tis fls rx))
 refine callB cH ?_
 (first | refine Zo (Z3 tis fls rx) ?_ | exact Zc (Z3 tis fls rx))
 refine callB cI ?_
 (first | refine Zo (Z3 tis fls rx) ?_ | exact Zc (Z3 tis fls rx))
 refine callB cP ?_
 simp -implicitDefEqProofs (disch := first | (intros; contradiction) | omega) only [am0, am1, am2, am3, am4, am5, Nat.reduceSub, ↓reduceIte, reduceCtorEq, Nat.reduceEqDiff, Nat.reduceBEq, Nat.reduceAdd, Nat.reduceLT, Nat.reduceBNe, Nat.reduceMul, ↓reduceIte, tis, fls, rx, ex_eq, exGo_tup, plain, plainL]
 refine callB cE ?_
 (first | refine Zo (Z3 tis fls rx) ?_ | exact Zc (Z3 tis fls rx))
 refine callB cH ?_
 (first | refine Zo (Z3 tis fls rx) ?_ | exact Zc (Z3 tis fls rx))
theorem own : ownKnob prog.godebug = none := by kernel_rfl
theorem laidOut : laidOutB prog = true := by kernel_rfl
theorem typ_int {n : Nat} {x : AV} (h : Typed prog n 3 x) : ∃ v, x = .int .i64 v ∧ -9223372036854775808 ≤ v ∧ v ≤ 9223372036854775807 := by
 cases n with
 | zero => exact h.elim
 | succ n =>
  simp only [Typed, underlying3] at h
  obtain ⟨v, rfl, hw⟩ := h
  refine ⟨v, rfl, ?_⟩
  simp [Lit.wf, IntKind.min, IntKind.max, IntKind.bits, IntKind.signed] at hw
  omega
theorem all_map {α : Type} (f : α → AV) : ∀ xs : List AV, (∀ y ∈ xs, ∃ i, y = f i) → ∃ is : List α, xs = is.map f
 | [], _ => ⟨[], rfl⟩
 | y :: r, h => by
  obtain ⟨i, rfl⟩ := h y (List.mem_cons_self ..)
  obtain ⟨is, rfl⟩ := all_map f r (fun z hz => h z (List.mem_cons_of_mem _ hz))
  exact ⟨i :: is, rfl⟩
theorem co_span : prog.cellsOf 84 = 2 := by kernel_rfl
theorem co_rex : prog.cellsOf 25 = 3 := by kernel_rfl
theorem typ_span {n : Nat} {x : AV} (h : Typed prog n 84 x) : ∃ i, x = eSpan i := by
 cases n with
 | zero => exact h.elim
 | succ n =>
  simp only [Typed, underlying84] at h
  obtain ⟨ys, rfl, hl, hf⟩ := h
  match ys, hl, hf with
  | [a, b], _, hf =>
   obtain ⟨a', rfl, _⟩ := typ_int (hf 0 _ a rfl rfl)
   obtain ⟨b', rfl, _⟩ := typ_int (hf 1 _ b rfl rfl)
   exact ⟨⟨a', b'⟩, rfl⟩
theorem typ_spans {n : Nat} {x : AV} (h : Typed prog n 22 x) : ∃ p : List Span, x = .sl false 2 (p.map eSpan) ∧ p.length ≤ 9223372036854775807 := by
 cases n with
 | zero => exact h.elim
 | succ n =>
  simp only [Typed, underlying22, co_span] at h
  obtain ⟨xs, rfl, hl, hf⟩ := h
  obtain ⟨p, rfl⟩ := all_map eSpan xs (fun y hy => typ_span (hf y hy))
  exact ⟨p, rfl, by simpa [maxLen] using hl⟩
theorem all_mapP {α : Type} (f : α → AV) (Q : α → Prop) : ∀ xs : List AV, (∀ y ∈ xs, ∃ i, y = f i ∧ Q i) → ∃ is : List α, xs = is.map f ∧ ∀ i ∈ is, Q i
 | [], _ => ⟨[], rfl, by simp⟩
 | y :: r, h => by
  obtain ⟨i, rfl, hi⟩ := h y (List.mem_cons_self ..)
  obtain ⟨is, rfl, hr⟩ := all_mapP f Q r (fun z hz => h z (List.mem_cons_of_mem _ hz))
  exact ⟨i :: is, rfl, fun j hj => (List.mem_cons.1 hj).elim (fun e => e ▸ hi) (hr j)⟩
theorem typ_rex : ∀ {n : Nat} {x : AV}, Typed prog n 25 x → ∃ r, x = eRex false r ∧ Lens r
 | 0, x, h => h.elim
 | n + 1, x, h => by
  simp only [Typed, underlying25] at h
  obtain ⟨ys, rfl, hl, hf⟩ := h
  match ys, hl, hf with
  | [a, b, c], _, hf =>
   obtain ⟨k, rfl, _⟩ := typ_int (hf 0 _ a rfl rfl)
   obtain ⟨s, rfl, hs⟩ := typ_spans (hf 1 _ b rfl rfl)
   have hc := hf 2 _ c rfl rfl
   cases n with
   | zero => exact hc.elim
   | succ n =>
    simp only [Typed, underlying23, co_rex] at hc
    obtain ⟨xs, rfl, hl2, hf2⟩ := hc
    obtain ⟨p, rfl, hp⟩ := all_mapP (eRex false) Lens xs (fun y hy => typ_rex (hf2 y hy))
    have hl3 : p.length ≤ 9223372036854775807 := by simpa [maxLen] using hl2
    refine ⟨.mk k s p, by rw [eRex, show prog.cellsOf 25 = 3 from co_rex], .mk _ hs hl3 hp⟩
end Go.Proofs.YtpffgegfjpdncaaGreatDoor.U
