/- What functions of the program answer, on values without memory (part 2): conditions stand at each theorem. -/
import Derived.Test.YtpffgegfjpdncaaGreatDoorRows
import Derived.Test.YtpffgegfjpdncaaGreatDoorLDerivNoU1
import Derived.Shelf.Strings.OnBuilder
import Derived.Shelf.LaysM
import Derived.Shelf.Strconv.Itoa3
import Derived.Shelf.Sort.Plain
import Derived.Shelf.Slices.In.SortNone2
set_option linter.unusedVariables false
set_option linter.unusedSimpArgs false
set_option maxRecDepth 100000
set_option maxHeartbeats 4000000
namespace Go.Proofs.YtpffgegfjpdncaaGreatDoor.U
open Go Go.RowKit Go.Proofs Go.Proofs.YtpffgegfjpdncaaGreatDoor.Am AV Go.Proofs.Tryz
theorem fits_normOr (a b : Rex) (ha : Okr a) (hb : Okr b) (hB : bd a + bd b ≤ 900000000) : Fits prog 77 [eRex false a, eRex false b] (eRex false (orN a b)) [] := by
 have cB := fits_bag 4 (.inl rfl) a b ha hb (by omega)
 obtain ⟨h1, h2, h3⟩ := bagR_ok 4 (.inl rfl) ha hb
 have cC := fits_chain 4 (bagR 4 a b) h3 (by omega)
 have hm := fun x hx => bd_mem (L := bagR 4 a b) (x := x) hx
 unfold orN
 generalize bagR 4 a b = L at *
 rw [eRex_eq false a, eRex_eq false b] at cB ⊢
 refine fits_of_cell 4 30 [] [0, 1, 2, 3, 4, 5, 7, 11, 12, 13, 14, 18] func77 rfl rfl rfl (by show 4 < 23; decide) (by show 2 ≤ 23; decide) (by rfl) (by rfl) (by show 0 ≤ 2; decide) (by rfl) (run_of ?_)
 refine Zo (Z3 tis rx fls) ?_
 refine callB cB ?_
 refine Zo (Z3 tis rx fls) ?_
 refine ⟨by split <;> trivial, ?_⟩
 refine run_loop (α := Nat) (fun i => i ≤ L.length ∧ ∀ j (h : j < L.length), j < i → allR L[j] = false) (fun i => [(4, .box (.agg [.int .i64 0, .sl true 2 [], .sl true 3 []])), (5, .sl (decide (i < L.length)) 3 (L.map (eRex false))), (11, if decide (i < L.length) = true then .vref 5 [] else .undef), (12, .int .i64 L.length), (13, .int .i64 i)]) (fun i => L.length - i) 0 ⟨Nat.zero_le _, fun j _ h => by omega⟩ ?_ ?_
 ·have d0 : decide (0 < L.length) = true := by simp [h3]
  exact Zc (Z4 tis rx fls @d0)
  done
 ·rintro i ⟨hi', hh⟩
  by_cases hi : i < L.length
  ·have hx := List.getElem_mem hi
   have bx := hm _ hx
   have cA := fits_isAll L[i] (by omega) (okr_7 (h1 _ hx))
   have fa := find_at hi hh
   have ex := eRex_eq false L[i]
   have dI : decide (i < L.length) = true := by simp [hi]
   rw [dI]
   rw [ex] at cA
   cases hA : allR L[i] with
   | true =>
    rw [hA] at cA
    rw [fa hA]
    simp only
    rw [ex]
    refine Zo (Z4 tis rx fls @eRex_eq) ?_
    refine callB cA ?_
    exact Zc (Z4 tis rx fls @eRex_eq)
    done
   | false =>
    rw [hA] at cA
    refine Zo (Z4 tis rx fls @eRex_eq) ?_
    refine callB cA ?_
    refine Zo (Z4 tis rx fls @eRex_eq) ?_
    have nx : ∀ j (h : j < L.length), j < i + 1 → allR L[j] = false := by
     intro j hj hji
     by_cases e : j = i
     ·subst e; exact hA
     ·exact hh j hj (by omega)
    by_cases hl : i + 1 < L.length
    ·have dn : decide (i + 1 < L.length) = true := by simp [hl]
     refine round_normal (i + 1) ⟨by omega, nx⟩ ?_ (by show L.length - (i + 1) < L.length - i; omega)
     rw [dn]
     exact Zc (Z4 tis rx fls @eRex_eq)
     done
    ·have dn : decide (i + 1 < L.length) = false := by simp [hl]
     refine round_frz [(5, [])] (i + 1) ⟨by omega, nx⟩ ?_ (by show L.length - (i + 1) < L.length - i; omega)
     rw [dn]
     have el := erL_rexL L
     exact Zc (Z5 tis rx fls @eRex_eq @el)
     done
  ·obtain rfl : i = L.length := by omega
   have fn : L.find? allR = none := by
    rw [List.find?_eq_none]
    intro x hx
    obtain ⟨j, hj, rfl⟩ := List.getElem_of_mem hx
    rw [hh j hj hj]; simp
   rw [fn]
   simp only
   generalize chainR 4 L = C at *
   rw [eRex_eq false C] at cC ⊢
   have dE : decide (L.length < L.length) = false := by simp
   rw [dE]
   refine Zo (Z4 tis rx fls @eRex_eq) ?_
   refine callB cC ?_
   exact Zc (Z4 tis rx fls @eRex_eq)
   done
theorem fits_normAnd (a b : Rex) (ha : Okr a) (hb : Okr b) (hB : bd a + bd b ≤ 900000000) : Fits prog 88 [eRex false a, eRex false b] (eRex false (andN a b)) [] := by
 have cB := fits_bag 6 (.inr rfl) a b ha hb (by omega)
 obtain ⟨h1, h2, h3⟩ := bagR_ok 6 (.inr rfl) ha hb
 have hm := fun x hx => bd_mem (L := bagR 6 a b) (x := x) hx
 have c0 := fits_nothingR
 unfold andN
 generalize bagR 6 a b = L at *
 rw [eRex_eq false a, eRex_eq false b] at cB ⊢
 have eN : eRex false (.mk 1 [] []) = .agg [.int .i64 1, .sl false 2 [], .sl false 3 []] := by rw [eRex_eq]; rfl
 rw [eN] at c0
 have fle : ∀ i, ((L.take i).filter nAll).length ≤ L.length := fun i => Nat.le_trans (List.length_filter_le _ _) (by rw [List.length_take]; omega)
 have ft : ∀ i (hi : i < L.length), (L.take (i + 1)).filter nAll = (L.take i).filter nAll ++ (if allR L[i] = true then [] else [L[i]]) := by
  intro i hi
  rw [List.take_succ_eq_append_getElem hi, List.filter_append]
  unfold nAll
  cases h : allR L[i] with
  | true => simp [h]
  | false => simp [h]
 obtain ⟨R, hR⟩ : ∃ R, (if L.any noR = true then Rex.mk 1 [] [] else if (L.filter nAll).length = 0 then L.getD 0 default else chainR 6 (L.filter nAll)) = R := ⟨_, rfl⟩
 rw [hR]
 refine fits_of_cell 4 30 [] [0, 1, 2, 3, 4, 5, 6, 8, 12, 13, 14, 15, 19, 23, 31] func88 rfl rfl rfl (by show 4 < 37; decide) (by show 2 ≤ 37; decide) (by rfl) (by rfl) (by show 0 ≤ 2; decide) (by rfl) (run_of ?_)
 refine Zo (Z3 tis rx fls) ?_
 refine callB cB ?_
 refine Zo (Z3 tis rx fls) ?_
 refine ⟨by split <;> trivial, ?_⟩
 refine run_loop (α := Nat) (fun i => i ≤ L.length ∧ ∀ j (h : j < L.length), j < i → noR L[j] = false) (fun i => [(4, .box (.agg [.int .i64 0, .sl true 2 [], .sl true 3 []])), (5, .sl true 3 (L.map (eRex false))), (6, .sl (decide (i < L.length)) 3 (((L.take i).filter nAll).map (eRex false))), (12, .vref 5 []), (13, .int .i64 L.length), (14, .int .i64 i)]) (fun i => L.length - i) 0 ⟨Nat.zero_le _, fun j _ h => by omega⟩ ?_ ?_
 ·rw [List.take_zero, List.filter_nil]
  have d0 : decide (0 < L.length) = true := by simp [h3]
  exact Zc (Z5 tis rx fls @LLmapnil @d0)
  done
 ·rintro i ⟨hi', hh⟩
  by_cases hi : i < L.length
  ·have hx := List.getElem_mem hi
   have bx := hm _ hx
   have cN := fits_isNothing L[i] (by omega)
   have cA := fits_isAll L[i] (by omega) (okr_7 (h1 _ hx))
   have ex := eRex_eq false L[i]
   have ft := ft i hi
   have fl := fle i
   have dI : decide (i < L.length) = true := by simp [hi]
   rw [dI]
   rw [ex] at cA cN
   cases hN : noR L[i] with
   | true =>
    rw [hN] at cN
    rw [if_pos (List.any_eq_true.2 ⟨_, hx, hN⟩)] at hR
    subst hR
    rw [eN]
    refine Zo (Z4 tis rx fls @eRex_eq) ?_
    refine callB cN ?_
    refine Zo (Z4 tis rx fls @eRex_eq) ?_
    refine callB c0 ?_
    exact Zc (Z4 tis rx fls @eRex_eq)
    done
   | false =>
    rw [hN] at cN
    have nx : ∀ j (h : j < L.length), j < i + 1 → noR L[j] = false := by
     intro j hj hji
     by_cases e : j = i
     ·subst e; exact hN
     ·exact hh j hj (by omega)
    generalize hF : (L.take i).filter nAll = F at *
    cases hA : allR L[i] with
    | true =>
     rw [hA] at ft cA
     simp only [if_true, List.append_nil] at ft
     refine Zo (Z4 tis rx fls @eRex_eq) ?_
     refine callB cN ?_
     refine Zo (Z4 tis rx fls @eRex_eq) ?_
     refine callB cA ?_
     refine Zo (Z4 tis rx fls @eRex_eq) ?_
     by_cases hl : i + 1 < L.length
     ·have dn : decide (i + 1 < L.length) = true := by simp [hl]
      refine round_normal (i + 1) ⟨by omega, nx⟩ ?_ (by show L.length - (i + 1) < L.length - i; omega)
      rw [dn, ft]
      exact Zc (Z4 tis rx fls @eRex_eq)
      done
     ·have dn : decide (i + 1 < L.length) = false := by simp [hl]
      refine round_frz [(6, [])] (i + 1) ⟨by omega, nx⟩ ?_ (by show L.length - (i + 1) < L.length - i; omega)
      rw [dn, ft]
      have el := erL_rexL F
      exact Zc (Z5 tis rx fls @eRex_eq @el)
      done
    | false =>
     rw [hA] at ft cA
     simp only [Bool.false_eq_true, if_false] at ft
     refine Zo (Z4 tis rx fls @eRex_eq) ?_
     refine callB cN ?_
     refine Zo (Z4 tis rx fls @eRex_eq) ?_
     refine callB cA ?_
     refine Zo (Z4 tis rx fls @eRex_eq) ?_
     by_cases hl : i + 1 < L.length
     ·have dn : decide (i + 1 < L.length) = true := by simp [hl]
      refine round_normal (i + 1) ⟨by omega, nx⟩ ?_ (by show L.length - (i + 1) < L.length - i; omega)
      rw [dn, ft, List.map_append]
      exact Zc (Z6 tis rx fls @eRex_eq @LLmapcon @LLmapnil)
      done
     ·have dn : decide (i + 1 < L.length) = false := by simp [hl]
      refine round_frz [(6, [])] (i + 1) ⟨by omega, nx⟩ ?_ (by show L.length - (i + 1) < L.length - i; omega)
      rw [dn, ft, List.map_append]
      refine Zo (Z6 tis rx fls @eRex_eq @LLmapcon @LLmapnil) ?_
      refine .inl ?_
      rw [← eRex_eq false L[i]]
      have := erL_rexL (F ++ [L[i]])
      rwa [List.map_append] at this
  ·obtain rfl : i = L.length := by omega
   have dE : decide (L.length < L.length) = false := by simp
   rw [List.take_of_length_le (Nat.le_refl _), dE]
   have fl := fle L.length
   rw [List.take_of_length_le (Nat.le_refl _)] at fl
   have hn : ¬ L.any noR = true := by
    intro hn
    obtain ⟨x, hx, hnx⟩ := List.any_eq_true.1 hn
    obtain ⟨j, hj, rfl⟩ := List.getElem_of_mem hx
    rw [hh j hj hj] at hnx; cases hnx
   rw [if_neg hn] at hR
   by_cases h0 : (L.filter nAll).length = 0
   ·rw [if_pos h0] at hR
    have e0 : L.getD 0 default = L[0] := by simp [List.getD, h3]
    rw [e0] at hR
    subst hR
    rw [List.eq_nil_of_length_eq_zero h0, eRex_eq false L[0]]
    exact Zc (Z5 tis rx fls @eRex_eq @LLmapnil)
    done
   ·rw [if_neg h0] at hR
    have cC := fits_chain 6 (L.filter nAll) (by omega) (by omega)
    rw [hR] at cC
    generalize L.filter nAll = F at *
    rw [eRex_eq false R] at cC ⊢
    refine Zo (Z4 tis rx fls @eRex_eq) ?_
    refine callB cC ?_
    exact Zc (Z4 tis rx fls @eRex_eq)
    done
theorem fits_l4Star (r : Rex) (hr : Okr r) (hb : bd r ≤ 1000000000) : Fits prog 70 [eRex false r] (eRex false (starN r)) [] := by
 have cN := fits_l4No r (by omega)
 have er := eRex_eq false r
 unfold starN
 by_cases k5 : r.kind = 5
 ·rw [if_pos k5, er]
  refine fits_of_cell 2 30 [] [0, 1, 2, 3, 8] func70 rfl rfl rfl (by show 2 < 20; decide) (by show 1 ≤ 20; decide) (by rfl) (by rfl) (by show 0 ≤ 1; decide) (by rfl) (run_of ?_)
  exact Zc (Z3 tis rx fls)
 ·rw [if_neg k5]
  by_cases k2 : r.kind = 2
  ·rw [if_pos (.inl k2)]
   refine fits_as (res := .agg [.int .i64 2, .sl true 2 [], .sl true 3 []]) ?_ (by rw [eRex_eq]; rfl)
   rw [er]
   refine fits_of_cell 2 30 [] [0, 1, 2, 3, 8] func70 rfl rfl rfl (by show 2 < 20; decide) (by show 1 ≤ 20; decide) (by rfl) (by rfl) (by show 0 ≤ 1; decide) (by rfl) (run_of ?_)
   exact Zc (Z3 tis rx fls)
  ·rw [er] at cN
   cases n : noR r with
   | true =>
    rw [n] at cN
    rw [if_pos (.inr rfl)]
    refine fits_as (res := .agg [.int .i64 2, .sl true 2 [], .sl true 3 []]) ?_ (by rw [eRex_eq]; rfl)
    rw [er]
    refine fits_of_cell 2 30 [] [0, 1, 2, 3, 8] func70 rfl rfl rfl (by show 2 < 20; decide) (by show 1 ≤ 20; decide) (by rfl) (by rfl) (by show 0 ≤ 1; decide) (by rfl) (run_of ?_)
    refine Zo (Z3 tis rx fls) ?_
    refine callB cN ?_
    exact Zc (Z3 tis rx fls)
   | false =>
    rw [n] at cN
    rw [if_neg (by simp [k2])]
    refine fits_as (res := .agg [.int .i64 5, .sl true 2 [], .sl true 3 [eRex false r]]) ?_ (by rw [eRex_eq false (.mk 5 [] [r])]; simp [erase, eraseL, Rex.kind, Rex.set, Rex.kids, er_rex])
    rw [er]
    refine fits_of_cell 2 30 [] [0, 1, 2, 3, 8] func70 rfl rfl rfl (by show 2 < 20; decide) (by show 1 ≤ 20; decide) (by rfl) (by rfl) (by show 0 ≤ 1; decide) (by rfl) (run_of ?_)
    refine Zo (Z3 tis rx fls) ?_
    refine callB cN ?_
    exact Zc (Z3 tis rx fls)
theorem fits_l4Not (r : Rex) (hr : Okr r) (hb : bd r ≤ 1000000000) : Fits prog 92 [eRex false r] (eRex false (notN r)) [] := by
 have er := eRex_eq false r
 unfold notN
 by_cases k7 : r.kind = 7
 ·obtain ⟨x, e1, hx, _⟩ := okr_kids1 hr (.inr k7)
  rw [if_pos k7, er, e1]
  simp only [List.map_cons, List.map_nil, List.getD_cons_zero]
  rw [eRex_eq false x]
  refine fits_of_cell 2 30 [] [0, 1, 2, 5] func92 rfl rfl rfl (by show 2 < 13; decide) (by show 1 ≤ 13; decide) (by rfl) (by rfl) (by show 0 ≤ 1; decide) (by rfl) (run_of ?_)
  exact Zc (Z6 tis rx fls @LLmapcon @LLmapnil @eRex_eq)
 ·rw [if_neg k7]
  refine fits_as (res := .agg [.int .i64 7, .sl true 2 [], .sl true 3 [eRex false r]]) ?_ (by rw [eRex_eq false (.mk 7 [] [r])]; simp [erase, eraseL, Rex.kind, Rex.set, Rex.kids, er_rex])
  rw [er]
  refine fits_of_cell 2 30 [] [0, 1, 2, 5] func92 rfl rfl rfl (by show 2 < 13; decide) (by show 1 ≤ 13; decide) (by rfl) (by rfl) (by show 0 ≤ 1; decide) (by rfl) (run_of ?_)
  exact Zc (Z3 tis rx fls)
theorem fits_l4Norm (r : Rex) : Okr r → bd r ≤ 2000000 → Fits prog 51 [eRex false r] (eRex false (normR r)) [] := by
 induction r using Rex.ind' with
 | h r ih =>
  intro hr hb
  have er := eRex_eq false r
  rw [normR_eq]
  by_cases h2 : r.kind = 3 ∨ r.kind = 4 ∨ r.kind = 6
  ·obtain ⟨a, b, e, ha, hb2, hl⟩ := okr_kids2 hr h2
   have c1 := ih a (by rw [e]; simp) ha (by omega)
   have c2 := ih b (by rw [e]; simp) hb2 (by omega)
   obtain ⟨p1, p2⟩ := normR_ok a ha
   obtain ⟨q1, q2⟩ := normR_ok b hb2
   have g1 := fits_l4Cat (normR a) (normR b) p1 q1 (by omega)
   have g2 := fits_l4Or (normR a) (normR b) p1 q1 (by omega)
   have g3 := fits_l4And (normR a) (normR b) p1 q1 (by omega)
   rw [er, e]
   simp only [List.map_cons, List.map_nil, List.getD_cons_zero, List.getD_cons_succ]
   generalize normR a = A at *
   generalize normR b = B at *
   generalize catN A B = Rc at *
   generalize orN A B = Ro at *
   generalize andN A B = Ra at *
   rw [eRex_eq false a, eRex_eq false A] at c1
   rw [eRex_eq false b, eRex_eq false B] at c2
   rw [eRex_eq false A, eRex_eq false B, eRex_eq false Rc] at g1
   rw [eRex_eq false A, eRex_eq false B, eRex_eq false Ro] at g2
   rw [eRex_eq false A, eRex_eq false B, eRex_eq false Ra] at g3
   rcases h2 with h | h | h
   ·rw [if_pos h, eRex_eq false Rc]
    refine fits_of_cell 2 30 [] [0, 1, 2, 4, 5, 18, 31, 44, 52] func51 rfl rfl rfl (by show 2 < 61; decide) (by show 1 ≤ 61; decide) (by rfl) (by rfl) (by show 0 ≤ 1; decide) (by rfl) (run_of ?_)
    refine Zo (Z6 tis rx fls @LLmapcon @LLmapnil @eRex_eq) ?_
    refine .inl ⟨by kernel_rfl, ?_⟩
    refine callL c1 ?_
    refine Zo (Z6 tis rx fls @LLmapcon @LLmapnil @eRex_eq) ?_
    refine callL c2 ?_
    refine Zo (Z6 tis rx fls @LLmapcon @LLmapnil @eRex_eq) ?_
    refine callL g1 ?_
    exact Zc (Z6 tis rx fls @LLmapcon @LLmapnil @eRex_eq)
   ·rw [if_neg (by omega), if_pos h, eRex_eq false Ro]
    refine fits_of_cell 2 30 [] [0, 1, 2, 4, 5, 18, 31, 44, 52] func51 rfl rfl rfl (by show 2 < 61; decide) (by show 1 ≤ 61; decide) (by rfl) (by rfl) (by show 0 ≤ 1; decide) (by rfl) (run_of ?_)
    refine Zo (Z6 tis rx fls @LLmapcon @LLmapnil @eRex_eq) ?_
    refine .inl ⟨by kernel_rfl, ?_⟩
    refine callL c1 ?_
    refine Zo (Z6 tis rx fls @LLmapcon @LLmapnil @eRex_eq) ?_
    refine callL c2 ?_
    refine Zo (Z6 tis rx fls @LLmapcon @LLmapnil @eRex_eq) ?_
    refine callL g2 ?_
    exact Zc (Z6 tis rx fls @LLmapcon @LLmapnil @eRex_eq)
   ·rw [if_neg (by omega), if_neg (by omega), if_pos h, eRex_eq false Ra]
    refine fits_of_cell 2 30 [] [0, 1, 2, 4, 5, 18, 31, 44, 52] func51 rfl rfl rfl (by show 2 < 61; decide) (by show 1 ≤ 61; decide) (by rfl) (by rfl) (by show 0 ≤ 1; decide) (by rfl) (run_of ?_)
    refine Zo (Z6 tis rx fls @LLmapcon @LLmapnil @eRex_eq) ?_
    refine .inl ⟨by kernel_rfl, ?_⟩
    refine callL c1 ?_
    refine Zo (Z6 tis rx fls @LLmapcon @LLmapnil @eRex_eq) ?_
    refine callL c2 ?_
    refine Zo (Z6 tis rx fls @LLmapcon @LLmapnil @eRex_eq) ?_
    refine callL g3 ?_
    exact Zc (Z6 tis rx fls @LLmapcon @LLmapnil @eRex_eq)
  ·simp only [not_or] at h2
   rw [if_neg h2.1, if_neg h2.2.1, if_neg h2.2.2]
   by_cases h1 : r.kind = 5 ∨ r.kind = 7
   ·obtain ⟨a, e, ha, hl⟩ := okr_kids1 hr h1
    have c1 := ih a (by rw [e]; simp) ha (by omega)
    obtain ⟨p1, p2⟩ := normR_ok a ha
    have g1 := fits_l4Star (normR a) p1 (by omega)
    have g2 := fits_l4Not (normR a) p1 (by omega)
    rw [er, e]
    simp only [List.map_cons, List.map_nil, List.getD_cons_zero]
    generalize normR a = A at *
    generalize starN A = Rs at *
    generalize notN A = Rn at *
    rw [eRex_eq false a, eRex_eq false A] at c1
    rw [eRex_eq false A, eRex_eq false Rs] at g1
    rw [eRex_eq false A, eRex_eq false Rn] at g2
    rcases h1 with h | h
    ·rw [if_pos h, eRex_eq false Rs]
     refine fits_of_cell 2 30 [] [0, 1, 2, 4, 5, 18, 31, 44, 52] func51 rfl rfl rfl (by show 2 < 61; decide) (by show 1 ≤ 61; decide) (by rfl) (by rfl) (by show 0 ≤ 1; decide) (by rfl) (run_of ?_)
     refine Zo (Z6 tis rx fls @LLmapcon @LLmapnil @eRex_eq) ?_
     refine callB c1 ?_
     refine Zo (Z6 tis rx fls @LLmapcon @LLmapnil @eRex_eq) ?_
     refine callB g1 ?_
     exact Zc (Z6 tis rx fls @LLmapcon @LLmapnil @eRex_eq)
    ·rw [if_neg (by omega), if_pos h, eRex_eq false Rn]
     refine fits_of_cell 2 30 [] [0, 1, 2, 4, 5, 18, 31, 44, 52] func51 rfl rfl rfl (by show 2 < 61; decide) (by show 1 ≤ 61; decide) (by rfl) (by rfl) (by show 0 ≤ 1; decide) (by rfl) (run_of ?_)
     refine Zo (Z6 tis rx fls @LLmapcon @LLmapnil @eRex_eq) ?_
     refine callB c1 ?_
     refine Zo (Z6 tis rx fls @LLmapcon @LLmapnil @eRex_eq) ?_
     refine callB g2 ?_
     exact Zc (Z6 tis rx fls @LLmapcon @LLmapnil @eRex_eq)
   ·simp only [not_or] at h1
    rw [if_neg h1.1, if_neg h1.2, er]
    refine fits_of_cell 2 30 [] [0, 1, 2, 4, 5, 18, 31, 44, 52] func51 rfl rfl rfl (by show 2 < 61; decide) (by show 1 ≤ 61; decide) (by rfl) (by rfl) (by show 0 ≤ 1; decide) (by rfl) (run_of ?_)
    exact Zc (Z5 tis rx fls @LLmapcon @LLmapnil)
theorem okr_kid {r x : Rex} (h : Okr r) (hx : x ∈ r.kids) : Okr x := by
 obtain ⟨d, hd⟩ := h
 cases d with
 | zero => simp [fm] at hd
 | succ d => exact ⟨d, (fm_ok hd).2.2.2 x hx⟩
theorem okr_kidl {r : Rex} (h : Okr r) : r.kids.length ≤ 2 := by
 obtain ⟨d, hd⟩ := h
 cases d with
 | zero => simp [fm] at hd
 | succ d =>
  have := (fm_ok hd).1
  unfold kidsN at this
  split at this
  ·omega
  ·split at this
   ·omega
   ·split at this <;> omega
theorem fits_norm (r : Rex) : Okr r → bd r ≤ 1000000 → Fits prog 46 [eRex false r] (eRex false (normR r)) [] := by
 induction r using Rex.ind' with
 | h r ih =>
  intro hr hb
  have er := eRex_eq false r
  have kl := okr_kidl hr
  have hkid : ∀ x ∈ r.kids, Fits prog 46 [eRex false x] (eRex false (normR x)) [] := fun x hx => ih x hx (okr_kid hr hx) (by have := bd_kid hx; omega)
  obtain ⟨N, hN⟩ : ∃ N, normR r = N := ⟨_, rfl⟩
  rw [hN, eRex_eq false N, er]
  refine fits_of_cell 2 30 [] [0, 1, 2, 3, 5, 7, 8, 9, 10, 20, 21, 30, 39, 48, 54] func46 rfl rfl rfl (by show 2 < 61; decide) (by show 1 ≤ 61; decide) (by rfl) (by rfl) (by show 0 ≤ 1; decide) (by rfl) (run_of ?_)
  refine Zo (Z3 tis rx fls) ?_
  refine run_loop (α := Nat) (fun i => i ≤ r.kids.length) (fun i => [(1, .box (.agg [.int .i64 r.kind, .sl false 2 (r.set.map eSpan), .sl false 3 (r.kids.map (eRex false))])), (2, .box (.agg [.int .i64 0, .sl true 2 [], .sl true 3 []])), (3, .sl true 3 (((r.kids.take i).map normR).map (eRex false))), (7, .sl false 3 (r.kids.map (eRex false))), (8, .int .i64 r.kids.length), (9, .int .i64 i)]) (fun i => r.kids.length - i) 0 (Nat.zero_le _) ?_ ?_
  ·rw [List.take_zero, List.map_nil]
   exact Zc (Z4 tis rx fls @LLmapnil)
   done
  ·intro i hi'
   by_cases hi : i < r.kids.length
   ·have hx := List.getElem_mem hi
    have c := hkid _ hx
    have tl : (r.kids.take i).length = i := by rw [List.length_take]; omega
    have et : ((r.kids.take (i + 1)).map normR).map (eRex false) = ((r.kids.take i).map normR).map (eRex false) ++ [eRex false (normR r.kids[i])] := by
     rw [List.take_succ_eq_append_getElem hi, List.map_append, List.map_append]; rfl
    generalize normR r.kids[i] = X at *
    rw [eRex_eq, eRex_eq false X] at c
    refine Zo (Z4 tis rx fls @eRex_eq) ?_
    refine callB c ?_
    refine Zo (Z5 tis rx fls @eRex_eq @tl) ?_
    refine round_normal (i + 1) (by omega) ?_ (by show r.kids.length - (i + 1) < r.kids.length - i; omega)
    rw [et]
    exact Zc (Z4 tis rx fls @eRex_eq)
    done
   ·obtain rfl : i = r.kids.length := by omega
    rw [List.take_length]
    rw [normR_eq] at hN
    by_cases h2 : r.kind = 3 ∨ r.kind = 4 ∨ r.kind = 6
    ·obtain ⟨a, b, e, ha, hb2, hl⟩ := okr_kids2 hr h2
     obtain ⟨p1, p2⟩ := normR_ok a ha
     obtain ⟨q1, q2⟩ := normR_ok b hb2
     have g1 := fits_normCat (normR a) (normR b) p1 q1 (by omega)
     have g2 := fits_normOr (normR a) (normR b) p1 q1 (by omega)
     have g3 := fits_normAnd (normR a) (normR b) p1 q1 (by omega)
     rw [e] at hN ⊢
     simp only [List.map_cons, List.map_nil, List.getD_cons_zero, List.getD_cons_succ] at hN ⊢
     generalize normR a = A at *
     generalize normR b = B at *
     rw [eRex_eq false A, eRex_eq false B] at g1 g2 g3 ⊢
     rcases h2 with h | h | h
     ·rw [if_pos h] at hN
      rw [hN, eRex_eq false N] at g1
      (repeat (first | refine callL g1 ?_ | refine callB g1 ?_ | refine Zo (Z6 tis rx fls @eRex_eq @h Zi) ?_ | refine .inl ⟨by kernel_rfl, ?_⟩ | exact .inl (by show _ = _; kernel_rfl) | exact Zc (Z6 tis rx fls @eRex_eq @h Zi)))
      done
     ·rw [if_neg (by omega), if_pos h] at hN
      rw [hN, eRex_eq false N] at g2
      (repeat (first | refine callL g2 ?_ | refine callB g2 ?_ | refine Zo (Z6 tis rx fls @eRex_eq @h Zi) ?_ | refine .inl ⟨by kernel_rfl, ?_⟩ | exact .inl (by show _ = _; kernel_rfl) | exact Zc (Z6 tis rx fls @eRex_eq @h Zi)))
      done
     ·rw [if_neg (by omega), if_neg (by omega), if_pos h] at hN
      rw [hN, eRex_eq false N] at g3
      (repeat (first | refine callL g3 ?_ | refine callB g3 ?_ | refine Zo (Z6 tis rx fls @eRex_eq @h Zi) ?_ | refine .inl ⟨by kernel_rfl, ?_⟩ | exact .inl (by show _ = _; kernel_rfl) | exact Zc (Z6 tis rx fls @eRex_eq @h Zi)))
      done
    ·simp only [not_or] at h2
     rw [if_neg h2.1, if_neg h2.2.1, if_neg h2.2.2] at hN
     by_cases h1 : r.kind = 5 ∨ r.kind = 7
     ·obtain ⟨a, e, ha, hl⟩ := okr_kids1 hr h1
      obtain ⟨p1, p2⟩ := normR_ok a ha
      have g1 := fits_normStar (normR a) p1 (by omega)
      have g2 := fits_normNot (normR a) p1 (by omega)
      rw [e] at hN ⊢
      simp only [List.map_cons, List.map_nil, List.getD_cons_zero] at hN ⊢
      generalize normR a = A at *
      rw [eRex_eq false A] at g1 g2 ⊢
      rcases h1 with h | h
      ·rw [if_pos h] at hN
       rw [hN, eRex_eq false N] at g1
       (repeat (first | refine callL g1 ?_ | refine callB g1 ?_ | refine Zo (Z6 tis rx fls @eRex_eq @h Zi) ?_ | refine .inl ⟨by kernel_rfl, ?_⟩ | exact .inl (by show _ = _; kernel_rfl) | exact Zc (Z6 tis rx fls @eRex_eq @h Zi)))
       done
      ·rw [if_neg (by omega), if_pos h] at hN
       rw [hN, eRex_eq false N] at g2
       (repeat (first | refine callL g2 ?_ | refine callB g2 ?_ | refine Zo (Z6 tis rx fls @eRex_eq @h Zi) ?_ | refine .inl ⟨by kernel_rfl, ?_⟩ | exact .inl (by show _ = _; kernel_rfl) | exact Zc (Z6 tis rx fls @eRex_eq @h Zi)))
       done
     ·simp only [not_or] at h1
      rw [if_neg h1.1, if_neg h1.2] at hN
      subst hN
      exact Zc (Z4 tis rx fls @eRex_eq)
      done
def nulN : Rex → Bool
 | .mk k s ks => if k = 2 ∨ k = 5 then true else if k = 3 ∨ k = 6 then (ks.map nulN).getD 0 false && (ks.map nulN).getD 1 false else if k = 4 then (ks.map nulN).getD 0 false || (ks.map nulN).getD 1 false else if k = 7 then !(ks.map nulN).getD 0 false else false
theorem nulN_eq (r : Rex) : nulN r = if r.kind = 2 ∨ r.kind = 5 then true else if r.kind = 3 ∨ r.kind = 6 then (r.kids.map nulN).getD 0 false && (r.kids.map nulN).getD 1 false else if r.kind = 4 then (r.kids.map nulN).getD 0 false || (r.kids.map nulN).getD 1 false else if r.kind = 7 then !(r.kids.map nulN).getD 0 false else false := by
 cases r; rw [nulN]; rfl
def derR (b : Int) : Rex → Rex
 | .mk k s ks => if k = 1 then (if hasB s b = true then .mk 2 [] [] else .mk 1 [] [])
  else if k = 3 then (if nulN (ks.getD 0 default) = true then orN (catN ((ks.map (derR b)).getD 0 default) (ks.getD 1 default)) ((ks.map (derR b)).getD 1 default) else catN ((ks.map (derR b)).getD 0 default) (ks.getD 1 default))
  else if k = 4 then orN ((ks.map (derR b)).getD 0 default) ((ks.map (derR b)).getD 1 default)
  else if k = 6 then andN ((ks.map (derR b)).getD 0 default) ((ks.map (derR b)).getD 1 default)
  else if k = 5 then catN ((ks.map (derR b)).getD 0 default) (.mk k s ks)
  else if k = 7 then notN ((ks.map (derR b)).getD 0 default) else .mk 1 [] []
theorem derR_eq (b : Int) (r : Rex) : derR b r = if r.kind = 1 then (if hasB r.set b = true then .mk 2 [] [] else .mk 1 [] [])
  else if r.kind = 3 then (if nulN (r.kids.getD 0 default) = true then orN (catN ((r.kids.map (derR b)).getD 0 default) (r.kids.getD 1 default)) ((r.kids.map (derR b)).getD 1 default) else catN ((r.kids.map (derR b)).getD 0 default) (r.kids.getD 1 default))
  else if r.kind = 4 then orN ((r.kids.map (derR b)).getD 0 default) ((r.kids.map (derR b)).getD 1 default)
  else if r.kind = 6 then andN ((r.kids.map (derR b)).getD 0 default) ((r.kids.map (derR b)).getD 1 default)
  else if r.kind = 5 then catN ((r.kids.map (derR b)).getD 0 default) r
  else if r.kind = 7 then notN ((r.kids.map (derR b)).getD 0 default) else .mk 1 [] [] := by
 cases r; rw [derR]; rfl
theorem okr_no : Okr (.mk 1 [] []) ∧ bd (.mk 1 [] []) = 0 := ⟨okr_set setB_nil, by rw [bd_eq]; simp [Rex.set, Rex.kids]⟩
theorem okr_em : Okr (.mk 2 [] []) ∧ bd (.mk 2 [] []) = 0 := ⟨okr_emp, by rw [bd_eq]; simp [Rex.set, Rex.kids]⟩
def gB (n : Nat) : Nat := (n + 1) * (n + 600)
theorem gB_eq (a : Nat) : gB a = a * a + 601 * a + 600 := by unfold gB; simp only [Nat.add_mul, Nat.mul_add]; omega
theorem gB_two (a b n : Nat) (h : a + b + 2 ≤ n) : gB a + gB b + b + 520 ≤ gB n := by
 have h1 : (a + b + 2) * (a + b + 2) ≤ n * n := Nat.mul_le_mul h h
 have e : (a + b + 2) * (a + b + 2) = a * a + b * b + a * b + b * a + 4 * a + 4 * b + 4 := by
  simp only [Nat.add_mul, Nat.mul_add]; omega
 rw [gB_eq a, gB_eq b, gB_eq n]; omega
theorem gB_one (a n : Nat) (h : a + 1 ≤ n) : gB a + n + 2 ≤ gB n := by
 have h1 : (a + 1) * (a + 1) ≤ n * n := Nat.mul_le_mul h h
 have e : (a + 1) * (a + 1) = a * a + a + a + 1 := by simp only [Nat.add_mul, Nat.mul_add]; omega
 rw [gB_eq a, gB_eq n]; omega
theorem gB_mono {a b : Nat} (h : a ≤ b) : gB a ≤ gB b := Nat.mul_le_mul (by omega) (by omega)
theorem derR_ok (b : Int) (r : Rex) : Okr r → Okr (derR b r) ∧ bd (derR b r) ≤ gB (bd r) := by
 induction r using Rex.ind' with
 | h r ih =>
  intro hr
  have h0 : 600 ≤ gB (bd r) := by unfold gB; exact Nat.le_trans (by omega) (Nat.le_mul_of_pos_left (bd r + 600) (by omega))
  rw [derR_eq]
  by_cases h2 : r.kind = 3 ∨ r.kind = 4 ∨ r.kind = 6
  ·obtain ⟨x, y, e, hx, hy, hl⟩ := okr_kids2 hr h2
   obtain ⟨p1, p2⟩ := ih x (by rw [e]; simp) hx
   obtain ⟨q1, q2⟩ := ih y (by rw [e]; simp) hy
   rw [e]
   simp only [List.map_cons, List.map_nil, List.getD_cons_zero, List.getD_cons_succ]
   have g := gB_two (bd x) (bd y) (bd r) (by omega)
   have c1 := catN_ok (derR b x) y p1 hy
   have c2 := orN_ok p1 q1
   have c3 := andN_ok p1 q1
   have c4 := orN_ok c1.1 q1
   rcases h2 with h | h | h
   ·rw [if_neg (by omega), if_pos h]
    split
    ·exact ⟨c4.1, by omega⟩
    ·exact ⟨c1.1, by omega⟩
   ·rw [if_neg (by omega), if_neg (by omega), if_pos h]; exact ⟨c2.1, by omega⟩
   ·rw [if_neg (by omega), if_neg (by omega), if_neg (by omega), if_pos h]; exact ⟨c3.1, by omega⟩
  ·simp only [not_or] at h2
   by_cases h1 : r.kind = 5 ∨ r.kind = 7
   ·obtain ⟨x, e, hx, hl⟩ := okr_kids1 hr h1
    obtain ⟨p1, p2⟩ := ih x (by rw [e]; simp) hx
    have g := gB_one (bd x) (bd r) (by omega)
    have c1 := catN_ok (derR b x) r p1 hr
    have c2 := notN_ok p1
    rw [e]
    simp only [List.map_cons, List.map_nil, List.getD_cons_zero]
    rcases h1 with h | h
    ·rw [if_neg (by omega), if_neg (by omega), if_neg (by omega), if_neg (by omega), if_pos h]; exact ⟨c1.1, by omega⟩
    ·rw [if_neg (by omega), if_neg (by omega), if_neg (by omega), if_neg (by omega), if_neg (by omega), if_pos h]; exact ⟨c2.1, by omega⟩
   ·simp only [not_or] at h1
    have a := okr_no
    have c := okr_em
    by_cases k1 : r.kind = 1
    ·rw [if_pos k1]
     split
     ·exact ⟨c.1, by omega⟩
     ·exact ⟨a.1, by omega⟩
    ·rw [if_neg k1, if_neg h2.1, if_neg h2.2.1, if_neg h2.2.2, if_neg h1.1, if_neg h1.2]
     exact ⟨a.1, by omega⟩
def sumQ (l : List Rex) : Nat := (l.map ps).sum
theorem sumQ_app (a b : List Rex) : sumQ (a ++ b) = sumQ a + sumQ b := by simp [sumQ]
theorem psm (k : Int) (s : List Span) (ks : List Rex) : ps (.mk k s ks) = 1 + (ks.map ps).sum := by rw [ps]
theorem ps_pos (r : Rex) : 1 ≤ ps r := by rw [ps_eq]; omega
theorem listR_ps (k : Int) (hk : k = 4 ∨ k = 6) (r : Rex) : Okr r → sumQ (listR k r) + (listR k r).length ≤ ps r + 1 := by
 induction r using Rex.ind' with
 | h r ih =>
  intro hr
  rw [listR_eq]
  split
  ·rename_i e
   obtain ⟨a, b, e1, ha, hb, _⟩ := okr_kids2 hr (by omega)
   rw [ps_eq, e1]
   simp only [List.map_cons, List.map_nil, List.getD_cons_zero, List.getD_cons_succ, List.sum_cons, List.sum_nil]
   have h1 := ih a (by rw [e1]; simp) ha
   have h2 := ih b (by rw [e1]; simp) hb
   rw [sumQ_app, List.length_append]; omega
  ·simp [sumQ]
theorem putR_ps : ∀ (L : List Rex) (r : Rex), sumQ (putR L r) + (putR L r).length ≤ sumQ L + L.length + ps r + 1
 | [], r => by simp [putR, sumQ]
 | y :: l, r => by
  have ih := putR_ps l r
  rw [putR]
  split
  ·simp [sumQ] at *; omega
  ·split
   ·omega
   ·simp [sumQ]; omega
theorem bag_ps {k : Int} {all : List Rex} : ∀ i, i ≤ all.length → sumQ (bagA k all i).o + (bagA k all i).o.length + (if (bagA k all i).f = true then 2 else 0) ≤ sumQ (all.take i) + i
 | 0, _ => by simp [bagA, sumQ]
 | i + 1, hi => by
  have h3 := bag_ps (k := k) (all := all) i (by omega)
  rw [bagA_s (by omega), List.take_succ_eq_append_getElem (by omega), sumQ_app]
  have e : sumQ [all[i]] = ps all[i] := by simp [sumQ]
  have hp := ps_pos all[i]
  rw [e]
  unfold bagS
  split
  ·simp only [if_true]
   split at h3 <;> omega
  ·have := putR_ps (bagA k all i).o all[i]
   simp only
   omega
theorem bagR_ps (k : Int) (hk : k = 4 ∨ k = 6) {a b : Rex} (ha : Okr a) (hb : Okr b) : sumQ (bagR k a b) + (bagR k a b).length ≤ ps a + ps b + 2 := by
 have p := listR_ps k hk a ha
 have q := listR_ps k hk b hb
 have h3 := bag_ps (k := k) (all := listR k a ++ listR k b) _ (Nat.le_refl _)
 rw [List.take_of_length_le (Nat.le_refl _), sumQ_app] at h3
 unfold bagR
 simp only
 have hl : (listR k a ++ listR k b).length = (listR k a).length + (listR k b).length := List.length_append ..
 generalize bagA k (listR k a ++ listR k b) (listR k a ++ listR k b).length = z at *
 split
 ·rename_i c
  have := putR_ps z.o (.mk 1 z.t [])
  rw [psm] at this
  simp only [List.map_nil, List.sum_nil] at this
  rw [if_pos c.1] at h3
  omega
 ·split at h3 <;> omega
theorem chainR_ps (k : Int) : ∀ l : List Rex, l ≠ [] → ps (chainR k l) + 1 = sumQ l + l.length
 | [], h => absurd rfl h
 | [x], _ => by simp [chainR, sumQ]
 | x :: y :: l, _ => by
  have h2 := chainR_ps k (y :: l) (by simp)
  rw [chainR, psm]
  simp only [List.length_cons, List.map_cons, List.map_nil, List.sum_cons, List.sum_nil, sumQ] at *
  omega
theorem ps_mem {L : List Rex} {x : Rex} (h : x ∈ L) : ps x + 1 ≤ sumQ L + L.length := by
 have := le_sum (List.mem_map_of_mem (f := ps) h)
 have := List.length_pos_of_mem h
 unfold sumQ; omega
theorem filt_ps (p : Rex → Bool) : ∀ L : List Rex, sumQ (L.filter p) + (L.filter p).length ≤ sumQ L + L.length
 | [] => by simp
 | x :: l => by
  have ih := filt_ps p l
  simp only [List.filter_cons]
  split <;> simp [sumQ] at * <;> omega
theorem ps_no : ps (.mk 1 [] []) = 1 := by rw [psm]; rfl
theorem ps_em : ps (.mk 2 [] []) = 1 := by rw [psm]; rfl
theorem orN_ps {a b : Rex} (ha : Okr a) (hb : Okr b) : ps (orN a b) ≤ ps a + ps b + 1 := by
 obtain ⟨h1, h2, h3⟩ := bagR_ok 4 (.inl rfl) ha hb
 have h := bagR_ps 4 (.inl rfl) ha hb
 unfold orN
 split
 ·rename_i x e
  have := ps_mem (List.mem_of_find?_eq_some e); omega
 ·have := chainR_ps 4 _ (List.ne_nil_of_length_pos h3); omega
theorem andN_ps {a b : Rex} (ha : Okr a) (hb : Okr b) : ps (andN a b) ≤ ps a + ps b + 1 := by
 obtain ⟨h1, h2, h3⟩ := bagR_ok 6 (.inr rfl) ha hb
 have h := bagR_ps 6 (.inr rfl) ha hb
 have hp := ps_pos a
 unfold andN
 split
 ·rw [ps_no]; omega
 ·split
  ·have hx : (bagR 6 a b).getD 0 default ∈ bagR 6 a b := by
    rw [List.getD_eq_getElem?_getD, List.getElem?_eq_getElem h3]; exact List.getElem_mem h3
   have := ps_mem hx; omega
  ·rename_i hl
   have g := chainR_ps 6 ((bagR 6 a b).filter nAll) (List.ne_nil_of_length_pos (by omega))
   have := filt_ps nAll (bagR 6 a b)
   omega
theorem starN_ps (a : Rex) : ps (starN a) ≤ ps a + 1 := by
 unfold starN
 split
 ·omega
 ·split
  ·rw [ps_em]; omega
  ·rw [psm]; simp; omega
theorem notN_ps {a : Rex} (ha : Okr a) : ps (notN a) ≤ ps a + 1 := by
 unfold notN
 split
 ·rename_i e
  obtain ⟨x, e1, hx, hl⟩ := okr_kids1 ha (.inr e)
  have h : ps a = 1 + ps x := by rw [ps_eq, e1]; simp
  rw [e1]
  show ps x ≤ _; omega
 ·rw [psm]; simp; omega
theorem catN_ps (a : Rex) : ∀ b, Okr a → Okr b → ps (catN a b) ≤ ps a + ps b + 1 := by
 induction a using Rex.ind' with
 | h a ih =>
  intro b ha hb
  have hp := ps_pos a
  rw [catN_eq]
  split
  ·rw [ps_no]; omega
  ·split
   ·omega
   ·split
    ·omega
    ·split
     ·rename_i hk
      obtain ⟨x, y, e, hx, hy, hl⟩ := okr_kids2 ha (.inl hk)
      have h : ps a = 1 + ps x + ps y := by rw [ps_eq, e]; simp; omega
      rw [e]
      simp only [List.map_cons, List.map_nil, List.getD_cons_zero, List.getD_cons_succ]
      obtain ⟨g1, g2⟩ := catN_ok y b hy hb
      have q1 := ih y (by rw [e]; simp) b hy hb
      have q2 := ih x (by rw [e]; simp) _ hx g1
      omega
     ·rw [psm]; simp; omega
theorem ps_two {r a b : Rex} (e : r.kids = [a, b]) : ps r = 1 + ps a + ps b := by rw [ps_eq, e]; simp; omega
theorem ps_one {r a : Rex} (e : r.kids = [a]) : ps r = 1 + ps a := by rw [ps_eq, e]; simp
theorem normR_ps (r : Rex) : Okr r → ps (normR r) ≤ ps r := by
 induction r using Rex.ind' with
 | h r ih =>
  intro hr
  rw [normR_eq]
  by_cases h2 : r.kind = 3 ∨ r.kind = 4 ∨ r.kind = 6
  ·obtain ⟨a, b, e, ha, hb, hl⟩ := okr_kids2 hr h2
   have p2 := ih a (by rw [e]; simp) ha
   have q2 := ih b (by rw [e]; simp) hb
   have hp := ps_two e
   rw [e]
   simp only [List.map_cons, List.map_nil, List.getD_cons_zero, List.getD_cons_succ]
   have c1 := catN_ps (normR a) (normR b) (normR_ok a ha).1 (normR_ok b hb).1
   have c2 := orN_ps (normR_ok a ha).1 (normR_ok b hb).1
   have c3 := andN_ps (normR_ok a ha).1 (normR_ok b hb).1
   rcases h2 with h | h | h
   ·rw [if_pos h]; omega
   ·rw [if_neg (by omega), if_pos h]; omega
   ·rw [if_neg (by omega), if_neg (by omega), if_pos h]; omega
  ·simp only [not_or] at h2
   rw [if_neg h2.1, if_neg h2.2.1, if_neg h2.2.2]
   by_cases h1 : r.kind = 5 ∨ r.kind = 7
   ·obtain ⟨a, e, ha, hl⟩ := okr_kids1 hr h1
    have p2 := ih a (by rw [e]; simp) ha
    have hp := ps_one e
    rw [e]
    simp only [List.map_cons, List.map_nil, List.getD_cons_zero]
    have c1 := starN_ps (normR a)
    have c2 := notN_ps (normR_ok a ha).1
    rcases h1 with h | h
    ·rw [if_pos h]; omega
    ·rw [if_neg (by omega), if_pos h]; omega
   ·simp only [not_or] at h1
    rw [if_neg h1.1, if_neg h1.2]; exact Nat.le_refl _
def pB (n : Nat) : Nat := n * (n + 3)
theorem pB_eq (a : Nat) : pB a = a * a + 3 * a := by unfold pB; rw [Nat.mul_add, Nat.mul_comm a 3]
theorem pB_two (a b n : Nat) (h : n = 1 + a + b) : pB a + pB b + a + b + 2 ≤ pB n := by
 subst h
 rw [pB_eq, pB_eq, pB_eq]
 have e : (1 + a + b) * (1 + a + b) = a * a + b * b + 1 + 2 * a + 2 * b + a * b + b * a := by simp only [Nat.add_mul, Nat.mul_add]; omega
 have h1 := Nat.zero_le (a * b)
 have h2 := Nat.zero_le (b * a)
 omega
theorem pB_one (a n : Nat) (h : n = 1 + a) : pB a + n + 2 ≤ pB n := by
 subst h
 rw [pB_eq, pB_eq]
 have e : (1 + a) * (1 + a) = a * a + 1 + 2 * a := by simp only [Nat.add_mul, Nat.mul_add]; omega
 omega
theorem pB_pos {n : Nat} (h : 1 ≤ n) : 4 ≤ pB n := by
 rw [pB_eq]
 have : 1 * 1 ≤ n * n := Nat.mul_le_mul h h
 omega
theorem derR_ps (b : Int) (r : Rex) : Okr r → ps (derR b r) ≤ pB (ps r) := by
 induction r using Rex.ind' with
 | h r ih =>
  intro hr
  have h0 := pB_pos (ps_pos r)
  rw [derR_eq]
  by_cases h2 : r.kind = 3 ∨ r.kind = 4 ∨ r.kind = 6
  ·obtain ⟨x, y, e, hx, hy, hl⟩ := okr_kids2 hr h2
   have p2 := ih x (by rw [e]; simp) hx
   have q2 := ih y (by rw [e]; simp) hy
   have hp := pB_two (ps x) (ps y) (ps r) (ps_two e)
   rw [e]
   simp only [List.map_cons, List.map_nil, List.getD_cons_zero, List.getD_cons_succ]
   have ox := (derR_ok b x hx).1
   have oy := (derR_ok b y hy).1
   have oc := (catN_ok (derR b x) y ox hy).1
   have c1 := catN_ps (derR b x) y ox hy
   have c2 := orN_ps ox oy
   have c3 := andN_ps ox oy
   have c4 := orN_ps oc oy
   rcases h2 with h | h | h
   ·rw [if_neg (by omega), if_pos h]
    split <;> omega
   ·rw [if_neg (by omega), if_neg (by omega), if_pos h]; omega
   ·rw [if_neg (by omega), if_neg (by omega), if_neg (by omega), if_pos h]; omega
  ·simp only [not_or] at h2
   by_cases h1 : r.kind = 5 ∨ r.kind = 7
   ·obtain ⟨x, e, hx, hl⟩ := okr_kids1 hr h1
    have p2 := ih x (by rw [e]; simp) hx
    have hp := pB_one (ps x) (ps r) (ps_one e)
    rw [e]
    simp only [List.map_cons, List.map_nil, List.getD_cons_zero]
    have ox := (derR_ok b x hx).1
    have c1 := catN_ps (derR b x) r ox hr
    have c2 := notN_ps ox
    rcases h1 with h | h
    ·rw [if_neg (by omega), if_neg (by omega), if_neg (by omega), if_neg (by omega), if_pos h]; omega
    ·rw [if_neg (by omega), if_neg (by omega), if_neg (by omega), if_neg (by omega), if_neg (by omega), if_pos h]; omega
   ·simp only [not_or] at h1
    obtain ⟨n1, n2, n3⟩ := h2
    obtain ⟨n4, n5⟩ := h1
    by_cases k1 : r.kind = 1
    ·rw [if_pos k1]; split
     ·rw [ps_em]; omega
     ·rw [ps_no]; omega
    ·rw [if_neg k1, if_neg n1, if_neg n2, if_neg n3, if_neg n4, if_neg n5, ps_no]; omega
def someN : Rex → Bool
 | .mk k s ks => if k = 1 then decide (0 < s.length) else if k = 3 then (ks.map someN).getD 0 false && (ks.map someN).getD 1 false else if k = 4 then (ks.map someN).getD 0 false || (ks.map someN).getD 1 false else true
theorem someN_eq (r : Rex) : someN r = if r.kind = 1 then decide (0 < r.set.length) else if r.kind = 3 then (r.kids.map someN).getD 0 false && (r.kids.map someN).getD 1 false else if r.kind = 4 then (r.kids.map someN).getD 0 false || (r.kids.map someN).getD 1 false else true := by
 cases r; rw [someN]; rfl
def headR : Rex → Rex
 | .mk k s ks => if k = 1 then (if s.length = 0 then .mk 1 [] [] else orN (.mk 2 [] []) (.mk k s ks))
  else if k = 3 then (if someN (.mk k s ks) = true then orN ((ks.map headR).getD 0 default) (catN (normR (ks.getD 0 default)) ((ks.map headR).getD 1 default)) else .mk 1 [] [])
  else if k = 4 then orN ((ks.map headR).getD 0 default) ((ks.map headR).getD 1 default)
  else if k = 5 then orN (.mk 2 [] []) (catN (starN (normR (ks.getD 0 default))) ((ks.map headR).getD 0 default)) else .mk 2 [] []
theorem headR_eq (r : Rex) : headR r = if r.kind = 1 then (if r.set.length = 0 then .mk 1 [] [] else orN (.mk 2 [] []) r)
  else if r.kind = 3 then (if someN r = true then orN ((r.kids.map headR).getD 0 default) (catN (normR (r.kids.getD 0 default)) ((r.kids.map headR).getD 1 default)) else .mk 1 [] [])
  else if r.kind = 4 then orN ((r.kids.map headR).getD 0 default) ((r.kids.map headR).getD 1 default)
  else if r.kind = 5 then orN (.mk 2 [] []) (catN (starN (normR (r.kids.getD 0 default))) ((r.kids.map headR).getD 0 default)) else .mk 2 [] [] := by
 cases r; rw [headR]; rfl
def qB (n : Nat) : Nat := n * (n + 5)
theorem qB_eq (a : Nat) : qB a = a * a + 5 * a := by unfold qB; rw [Nat.mul_add, Nat.mul_comm a 5]
theorem qB_two (a b n : Nat) (h : n = 1 + a + b) : qB a + qB b + a + b + 3 ≤ qB n := by
 subst h
 rw [qB_eq, qB_eq, qB_eq]
 have e : (1 + a + b) * (1 + a + b) = a * a + b * b + 1 + 2 * a + 2 * b + a * b + b * a := by simp only [Nat.add_mul, Nat.mul_add]; omega
 have h1 := Nat.zero_le (a * b)
 have h2 := Nat.zero_le (b * a)
 omega
theorem qB_one (a n : Nat) (h : n = 1 + a) : qB a + a + 4 ≤ qB n := by
 subst h
 rw [qB_eq, qB_eq]
 have e : (1 + a) * (1 + a) = a * a + 1 + 2 * a := by simp only [Nat.add_mul, Nat.mul_add]; omega
 omega
theorem qB_pos {n : Nat} (h : 1 ≤ n) : 6 ≤ qB n := by
 rw [qB_eq]
 have : 1 * 1 ≤ n * n := Nat.mul_le_mul h h
 omega
theorem headR_ok (r : Rex) : Okr r → Okr (headR r) ∧ ps (headR r) ≤ qB (ps r) := by
 induction r using Rex.ind' with
 | h r ih =>
  intro hr
  have h0 := qB_pos (ps_pos r)
  have oe := okr_em.1
  rw [headR_eq]
  by_cases k1 : r.kind = 1
  ·rw [if_pos k1]
   split
   ·exact ⟨okr_no.1, by rw [ps_no]; omega⟩
   ·have c := orN_ps oe hr
    have c2 := qB_eq (ps r)
    have c3 := Nat.mul_le_mul (ps_pos r) (ps_pos r)
    rw [ps_em] at c
    exact ⟨(orN_ok oe hr).1, by omega⟩
  ·rw [if_neg k1]
   by_cases k3 : r.kind = 3
   ·obtain ⟨x, y, e, hx, hy, _⟩ := okr_kids2 hr (.inl k3)
    obtain ⟨p1, p2⟩ := ih x (by rw [e]; simp) hx
    obtain ⟨q1, q2⟩ := ih y (by rw [e]; simp) hy
    have hp := qB_two (ps x) (ps y) (ps r) (ps_two e)
    rw [if_pos k3]
    split
    ·rw [e]
     simp only [List.map_cons, List.map_nil, List.getD_cons_zero, List.getD_cons_succ]
     have n1 := (normR_ok x hx).1
     have n2 := normR_ps x hx
     have c1 := (catN_ok (normR x) (headR y) n1 q1).1
     have c2 := catN_ps (normR x) (headR y) n1 q1
     have c3 := orN_ps p1 c1
     exact ⟨(orN_ok p1 c1).1, by omega⟩
    ·exact ⟨okr_no.1, by rw [ps_no]; omega⟩
   ·rw [if_neg k3]
    by_cases k4 : r.kind = 4
    ·obtain ⟨x, y, e, hx, hy, _⟩ := okr_kids2 hr (.inr (.inl k4))
     obtain ⟨p1, p2⟩ := ih x (by rw [e]; simp) hx
     obtain ⟨q1, q2⟩ := ih y (by rw [e]; simp) hy
     have hp := qB_two (ps x) (ps y) (ps r) (ps_two e)
     rw [if_pos k4, e]
     simp only [List.map_cons, List.map_nil, List.getD_cons_zero, List.getD_cons_succ]
     have c3 := orN_ps p1 q1
     exact ⟨(orN_ok p1 q1).1, by omega⟩
    ·rw [if_neg k4]
     by_cases k5 : r.kind = 5
     ·obtain ⟨x, e, hx, _⟩ := okr_kids1 hr (.inl k5)
      obtain ⟨p1, p2⟩ := ih x (by rw [e]; simp) hx
      have hp := qB_one (ps x) (ps r) (ps_one e)
      rw [if_pos k5, e]
      simp only [List.map_cons, List.map_nil, List.getD_cons_zero]
      have n1 := (starN_ok (normR_ok x hx).1).1
      have n2 := normR_ps x hx
      have n3 := starN_ps (normR x)
      have c1 := (catN_ok (starN (normR x)) (headR x) n1 p1).1
      have c2 := catN_ps (starN (normR x)) (headR x) n1 p1
      have c3 := orN_ps oe c1
      rw [ps_em] at c3
      exact ⟨(orN_ok oe c1).1, by omega⟩
     ·rw [if_neg k5]; exact ⟨oe, by rw [ps_em]; omega⟩
def eRd (b : List UInt8) (p : Nat) : AV := .agg [.sl false 1 (bytesA b), .int .i64 p]
theorem xor_nn {x y : Nat} (hx : x < 4611686018427387904) (hy : y < 4611686018427387904) : IntKind.wrap .i64 ((BitVec.ofInt (IntKind.bits .i64) (x : Int) ^^^ BitVec.ofInt (IntKind.bits .i64) (y : Int)).toNat) = ((x ^^^ y : Nat) : Int) ∧ x ^^^ y < 4611686018427387904 := by
 have hx' : x < 2 ^ 62 := by omega
 have hy' : y < 2 ^ 62 := by omega
 have h := Nat.xor_lt_two_pow hx' hy'
 have e : (BitVec.ofInt (IntKind.bits .i64) (x : Int) ^^^ BitVec.ofInt (IntKind.bits .i64) (y : Int)).toNat = x ^^^ y := by
  show (BitVec.ofInt 64 (x : Int) ^^^ BitVec.ofInt 64 (y : Int)).toNat = x ^^^ y
  rw [BitVec.toNat_xor, BitVec.toNat_ofInt, BitVec.toNat_ofInt]
  congr 1 <;> omega
 rw [e]
 exact ⟨wrap_i64 (by omega) (by omega), by omega⟩
theorem tmod_nn (a n : Nat) : Int.tmod (a : Int) n = ((a % n : Nat) : Int) := by
 rw [Int.tmod_eq_emod_of_nonneg (by omega)]; rfl
theorem tdiv_nn (a n : Nat) : Int.tdiv (a : Int) n = ((a / n : Nat) : Int) := by
 rw [Int.tdiv_eq_ediv_of_nonneg (by omega)]; rfl
theorem bytes_getD (b : List UInt8) (i : Nat) (h : i < b.length) : (bytesA b).getD i .undef = .int .u8 b[i].toNat := by
 have := get_bytesA b i h
 simp [List.getD, this]
def mixV (b : List UInt8) (p : Nat) : Nat := (b.getD (p % b.length) 0).toNat * 131 + (b.getD ((p * 7 + 3) % b.length) 0).toNat * 1117 + p * 29 + p / b.length * 53
def pickV (b : List UInt8) (p n : Nat) : Nat :=
 if b.length = 0 then 0 else if p < b.length then (b.getD p 0).toNat % n else (mixV b p ^^^ mixV b p / 64) % n
theorem pickV_lt (b : List UInt8) (p : Nat) {n : Nat} (hn : 0 < n) : pickV b p n < n := by
 unfold pickV
 split
 ·exact hn
 ·split <;> exact Nat.mod_lt _ hn
theorem getD_of (b : List UInt8) (i : Nat) (h : i < b.length) : b.getD i 0 = b[i] := by simp [List.getD, h]
theorem fits_pick (b : List UInt8) (hb : b.length ≤ 2000) (p : Nat) (hp : p ≤ 1048576) (n : Nat) (hn : 0 < n) (hn2 : n ≤ 1048576) : Fits prog 84 [.box (eRd b p), .int .i64 n] (.int .i64 (pickV b p n)) [.box (eRd b (p + 1))] := by
 have c0 : ¬ ((n : Int) = 0) := by omega
 unfold eRd pickV
 by_cases h0 : b.length = 0
 ·obtain rfl := List.eq_nil_of_length_eq_zero h0
  refine fits_of_code [4] [0] [0, 1, 4, 5, 6, 24, 36] func84 rfl rfl rfl (by rfl) (by show 2 ≤ 99; decide) (by rfl) (by rfl) (by show 1 ≤ 2; decide) (by rfl) (run_of ?_)
  exact Zc (Z2 tis fls)
 rw [if_neg h0]
 have e0 : (p : Int) + 1 - 1 = p := by omega
 by_cases h1 : p < b.length
 ·rw [if_pos h1]
  have g0 := bytes_getD b p h1
  rw [getD_of b p h1]
  have hk := tmod_nn b[p].toNat n
  have hbl := b[p].toNat_lt
  refine fits_of_code [4] [0] [0, 1, 4, 5, 6, 24, 36] func84 rfl rfl rfl (by rfl) (by show 2 ≤ 99; decide) (by rfl) (by rfl) (by show 1 ≤ 2; decide) (by rfl) (run_of ?_)
  exact Zc (Z6 tis fls @e0 @g0 @hk @c0)
 ·rw [if_neg h1]
  have k1 := tmod_nn p b.length
  have k2 : Int.tmod ((p : Int) * 7 + 3) b.length = (((p * 7 + 3) % b.length : Nat) : Int) := tmod_nn (p * 7 + 3) b.length
  have l1 : p % b.length < b.length := Nat.mod_lt _ (by omega)
  have l2 : (p * 7 + 3) % b.length < b.length := Nat.mod_lt _ (by omega)
  have kq := tdiv_nn p b.length
  have lq : p / b.length ≤ p := Nat.div_le_self _ _
  have hM : mixV b p = (b[p % b.length]).toNat * 131 + (b[(p * 7 + 3) % b.length]).toNat * 1117 + p * 29 + p / b.length * 53 := by unfold mixV; rw [getD_of b _ l1, getD_of b _ l2]
  generalize p % b.length = j1 at *
  generalize (p * 7 + 3) % b.length = j2 at *
  generalize p / b.length = q at *
  have g1 := bytes_getD b j1 l1
  have g2 := bytes_getD b j2 l2
  have hb1 := b[j1].toNat_lt
  have hb2 := b[j2].toNat_lt
  have hX : (b[j1].toNat : Int) * 131 + (b[j2].toNat : Int) * 1117 + (p : Int) * 29 + (q : Int) * 53 = (mixV b p : Nat) := by omega
  have hX2 : mixV b p < 4294967296 := by omega
  generalize mixV b p = X at *
  have hY : Int.tdiv (X : Int) 64 = ((X / 64 : Nat) : Int) := tdiv_nn X 64
  have lY : X / 64 ≤ X := Nat.div_le_self _ _
  generalize X / 64 = Y at *
  obtain ⟨hZ, hZ2⟩ := xor_nn (x := X) (y := Y) (by omega) (by omega)
  have hk := tmod_nn (X ^^^ Y) n
  generalize X ^^^ Y = Z at *
  have hkl : Z % n < n := Nat.mod_lt _ hn
  generalize Z % n = k at *
  have c1 : ¬ ((64 : Int) = 0) := by omega
  have c2 : ¬ ((b.length : Int) = 0) := by omega
  refine fits_of_code [4] [0] [0, 1, 4, 5, 6, 24, 36] func84 rfl rfl rfl (by rfl) (by show 2 ≤ 99; decide) (by rfl) (by rfl) (by show 1 ≤ 2; decide) (by rfl) (run_of ?_)
  refine Zo (Z3 tis fls @e0) ?_
  refine .inl ⟨by kernel_rfl, ?_⟩
  (first | refine Zo (Z15 tis fls @e0 @k1 @k2 @kq @g1 @g2 @hX @hY @hZ @hk @c0 @c1 @c2) ?_ | exact Zc (Z15 tis fls @e0 @k1 @k2 @kq @g1 @g2 @hX @hY @hZ @hk @c0 @c1 @c2))
def numV (b : List UInt8) (p : Nat) (l : List Int) : Int := l.getD (pickV b p l.length) 0
def ofV (b : List UInt8) (p : Nat) (l : List (List UInt8)) : List UInt8 := l.getD (pickV b p l.length) []
theorem numV_mem (b : List UInt8) (p : Nat) {l : List Int} (hl : 0 < l.length) : numV b p l ∈ l := by
 have := pickV_lt b p hl
 unfold numV
 simp [List.getD, this]
theorem ofV_mem (b : List UInt8) (p : Nat) {l : List (List UInt8)} (hl : 0 < l.length) : ofV b p l ∈ l := by
 have := pickV_lt b p hl
 unfold ofV
 simp [List.getD, this]
theorem fits_num (b : List UInt8) (hb : b.length ≤ 2000) (p : Nat) (hp : p ≤ 1048576) (l : List Int) (hl : 0 < l.length) (hl2 : l.length ≤ 1048576) : Fits prog 86 [.box (eRd b p), .sl false 1 (l.map eInt)] (.int .i64 (numV b p l)) [.box (eRd b (p + 1))] := by
 have cP := fits_pick b hb p hp l.length hl hl2
 have hk := pickV_lt b p hl
 have e : numV b p l = l[pickV b p l.length] := by unfold numV; simp [List.getD, hk]
 rw [e]
 generalize pickV b p l.length = k at *
 unfold eRd at *
 refine fits_of_code [4] [0] [0, 1, 4] func86 rfl rfl rfl (by rfl) (by show 2 ≤ 12; decide) (by rfl) (by rfl) (by show 1 ≤ 2; decide) (by rfl) (run_of ?_)
 refine Zo (Z2 tis fls) ?_
 refine callM 0 cP ?_
 exact Zc (Z4 tis fls @LLdrosin eInt.eq_1)
theorem fits_of (b : List UInt8) (hb : b.length ≤ 2000) (p : Nat) (hp : p ≤ 1048576) (l : List (List UInt8)) (hl : 0 < l.length) (hl2 : l.length ≤ 1048576) : Fits prog 113 [.box (eRd b p), .sl false 1 (l.map eStr)] (.str (ofV b p l)) [.box (eRd b (p + 1))] := by
 have cP := fits_pick b hb p hp l.length hl hl2
 have hk := pickV_lt b p hl
 have e : ofV b p l = l[pickV b p l.length] := by unfold ofV; simp [List.getD, hk]
 rw [e]
 generalize pickV b p l.length = k at *
 unfold eRd at *
 refine fits_of_code [4] [0] [0, 1, 4] func113 rfl rfl rfl (by rfl) (by show 2 ≤ 12; decide) (by rfl) (by rfl) (by show 1 ≤ 2; decide) (by rfl) (run_of ?_)
 refine Zo (Z2 tis fls) ?_
 refine callM 0 cP ?_
 exact Zc (Z4 tis fls @LLdrosin eStr.eq_1)
theorem fits_open (c : List UInt8) (hc : c.length ≤ 9223372036854775807) : Fits prog 82 [.sl false 1 (bytesA c)] (.box (eRd (c.take 2000) 0)) [] := by
 unfold eRd
 by_cases h : (2000 : Int) < c.length
 ·refine fits_of_code [2] [] [0, 2, 5] func82 rfl rfl rfl (by rfl) (by show 1 ≤ 11; decide) (by rfl) (by rfl) (by show 0 ≤ 1; decide) (by rfl) (run_of ?_)
  refine Zo (Z3 tis fls @h) ?_
  exact .inl (by unfold bytesA; rw [show Int.toNat 2000 = 2000 from rfl, List.map_take])
 ·have e : c.take 2000 = c := List.take_of_length_le (by omega)
  rw [e]
  refine fits_of_code [2] [] [0, 2, 5] func82 rfl rfl rfl (by rfl) (by show 1 ≤ 11; decide) (by rfl) (by rfl) (by show 0 ≤ 1; decide) (by rfl) (run_of ?_)
  exact Zc (Z3 tis fls @h)
theorem fits_copiedRex (p : List Rex) (hp : p.length ≤ 1099511627776) : Fits prog 74 [.sl false 3 (p.map (eRex false))] (.sl true 3 (p.map (eRex false))) [] := by
 refine fits_of_code [2] [] [0, 2, 3, 6] func74 rfl rfl rfl (by rfl) (by show 1 ≤ 14; decide) (by rfl) (by rfl) (by show 0 ≤ 1; decide) (by rfl) (run_of ?_)
 cases p with
 | nil => exact Zc tis
 | cons x r =>
  have hl : ((x :: r).length : Int) ≠ 0 := by simp; omega
  generalize (x :: r) = p at *
  refine Zo tis ?_
  refine Zo (Z3 tis @LLlenrep rx) ?_
  simp [List.take_of_length_le]
theorem fits_rexCopy (r : Rex) (hb : bd r ≤ 1048576) : Fits prog 36 [eRex false r] (eRex true r) [] := by
 induction r using Rex.ind' with
 | h r ih =>
  have hb' := bd_eq r
  have cS := fits_copiedSpan r.set (by omega)
  have cK := fits_copiedRex r.kids (by omega)
  rw [eRex_eq, eRex_eq]
  refine fits_of_cell 2 30 [] [0, 1, 2, 3, 4, 16, 17, 18] func36 rfl rfl rfl (by show 2 < 32; decide) (by show 1 ≤ 32; decide) (by rfl) (by rfl) (by show 0 ≤ 1; decide) (by rfl) (run_of ?_)
  refine Zo tis ?_
  refine .inl ⟨by kernel_rfl, ?_⟩
  refine callL cS ?_
  refine Zo (Z3 tis fls rx) ?_
  refine callL cK ?_
  simp -implicitDefEqProofs (disch := first | (intros; contradiction) | omega) only [am0, am1, am2, am3, am4, am5, am6, Nat.reduceSub, ↓reduceIte, reduceCtorEq, Nat.reduceEqDiff, Nat.reduceBEq, Nat.reduceAdd, Nat.reduceLT, Nat.reduceBNe, Nat.reduceMul, ↓reduceIte, tis, fls, rx, ite_self]
  refine run_loop (α := Nat) (fun i => i ≤ r.kids.length) (fun i => [(2, .box (.agg [.int .i64 0, .sl true 2 [], .sl true 3 []])), (3, .box (.agg [.int .i64 r.kind, .sl true 2 (r.set.map eSpan), .sl true 3 ((r.kids.take i).map (eRex true) ++ (r.kids.drop i).map (eRex false))])), (16, .int .i64 r.kids.length), (17, .int .i64 i)]) (fun i => r.kids.length - i) 0 (Nat.zero_le _) ?_ ?_
  ·exact Zc tis
  ·intro i hi'
   by_cases hi : i < r.kids.length
   ·have hA : ((r.kids.take i).map (eRex true)).length = i := by simp; omega
    have hL : ((r.kids.take i).map (eRex true) ++ (r.kids.drop i).map (eRex false)).length = r.kids.length := by simp; omega
    have g1 := turn_get _ (eRex false) r.kids i hA hi
    have g2 := fun y => turn_set _ (eRex false) r.kids i y hA hi
    have hm := List.getElem_mem hi
    have cF := ih r.kids[i] hm (Nat.le_trans (bd_kid hm) hb)
    refine Zo (Z7 tis rx fls @g1 @g2 @hL (eRex_eq false r.kids[i])) ?_
    refine .inl ⟨by kernel_rfl, ?_⟩
    rw [eRex_eq false r.kids[i], eRex_eq true r.kids[i]] at cF
    refine callL cF ?_
    refine Zo (Z7 tis rx fls @g1 @g2 @hL (eRex_eq false r.kids[i])) ?_
    refine round_normal (i + 1) (by omega) ?_ (by show r.kids.length - (i + 1) < r.kids.length - i; omega)
    rw [List.take_succ_eq_append_getElem hi, List.map_append, List.map_cons, List.map_nil, eRex_eq true r.kids[i]]
    exact Zc tis
   ·obtain rfl : i = r.kids.length := by omega
    exact Zc (Z3 tis @LLdrolen @LLtaklen)
theorem fits_sForm (r : Rex) (d : Nat) (hd : d ≤ 8) (hb : bd r ≤ 1048576) : Fits prog 56 [eRex false r, .int .i64 d] (.bool (fm d r)) [] := by
 induction d generalizing r with
 | zero =>
  rw [eRex_eq]
  refine fits_of_code [4] [] [0, 1, 2, 4, 5, 33, 38, 49] func56 rfl rfl rfl (by rfl) (by show 2 ≤ 50; decide) (by rfl) (by rfl) (by show 0 ≤ 2; decide) (by rfl) (run_of ?_)
  refine Zo (Z2 tis @fm_0) ?_
  refine .inl ?_
  show _ = _
  kernel_rfl
 | succ d ih =>
  have hb' := bd_eq r
  have cK := fits_sKids r.kind
  have cS := fits_sSetOk r.set (by omega)
  rw [eRex_eq]
  refine fits_of_code [4] [] [0, 1, 2, 4, 5, 33, 38, 49] func56 rfl rfl rfl (by rfl) (by show 2 ≤ 50; decide) (by rfl) (by rfl) (by show 0 ≤ 2; decide) (by rfl) (run_of ?_)
  refine Zo tis ?_
  refine .inl ⟨by kernel_rfl, ?_⟩
  refine callL cK ?_
  by_cases h1 : kidsN r.kind = r.kids.length
  case neg => simp -implicitDefEqProofs (disch := first | (intros; contradiction) | omega) only [am0, am1, am2, am3, am4, am5, am6, Nat.reduceSub, ↓reduceIte, reduceCtorEq, Nat.reduceEqDiff, Nat.reduceBEq, Nat.reduceAdd, Nat.reduceLT, Nat.reduceBNe, Nat.reduceMul, ↓reduceIte, tis, fm_f1 h1]
  by_cases h2 : r.kind = 1 ∨ r.set.length = 0
  case neg =>
   have h2a : r.kind ≠ 1 := fun h => h2 (.inl h)
   have h2b : 0 < (r.set.length : Int) := by omega
   simp -implicitDefEqProofs (disch := first | (intros; contradiction) | omega) only [am0, am1, am2, am3, am4, am5, am6, Nat.reduceSub, ↓reduceIte, reduceCtorEq, Nat.reduceEqDiff, Nat.reduceBEq, Nat.reduceAdd, Nat.reduceLT, Nat.reduceBNe, Nat.reduceMul, ↓reduceIte, tis, fm_f2 h2]
  have h2c : r.kind = 1 ∨ (r.kind ≠ 1 ∧ (r.set.length : Int) = 0) := by omega
  cases h3 : setB r.set with
  | false =>
   rcases h2c with h2c | ⟨h2c, h2d⟩
   all_goals
    refine Zo tis ?_
    refine callL cS ?_
    simp -implicitDefEqProofs (disch := first | (intros; contradiction) | omega) only [am0, am1, am2, am3, am4, am5, am6, Nat.reduceSub, ↓reduceIte, reduceCtorEq, Nat.reduceEqDiff, Nat.reduceBEq, Nat.reduceAdd, Nat.reduceLT, Nat.reduceBNe, Nat.reduceMul, ↓reduceIte, tis, h3, fm_f3 h3]
  | true =>
   rcases h2c with h2c | ⟨h2c, h2d⟩
   all_goals
    refine Zo tis ?_
    refine callL cS ?_
    refine Zo (Z2 tis @h3) ?_
    refine run_loop (α := Nat) (fun i => i ≤ r.kids.length ∧ ∀ j (hj : j < r.kids.length), j < i → fm d r.kids[j] = true) (fun i => [(1, .int .i64 ((d : Int) + 1)), (2, .box (.agg [.int .i64 r.kind, .sl false 2 (r.set.map eSpan), .sl false 3 (r.kids.map (eRex false))])), (5, .int .i64 i)]) (fun i => r.kids.length - i) 0 ⟨Nat.zero_le _, by intros; omega⟩ ?_ ?_
    ·exact Zc tis
    ·rintro i ⟨hi', hb2⟩
     by_cases hi : i < r.kids.length
     ·have e1 : ((d : Int) + 1 - 1) = d := by omega
      have cF := ih r.kids[i] (by omega) (Nat.le_trans (bd_kid (List.getElem_mem hi)) hb)
      refine Zo (Z3 tis rx @eRex_eq) ?_
      refine callB cF ?_
      cases h5 : fm d r.kids[i] with
      | false => simp -implicitDefEqProofs (disch := first | (intros; contradiction) | omega) only [am0, am1, am2, am3, am4, am5, am6, Nat.reduceSub, ↓reduceIte, reduceCtorEq, Nat.reduceEqDiff, Nat.reduceBEq, Nat.reduceAdd, Nat.reduceLT, Nat.reduceBNe, Nat.reduceMul, ↓reduceIte, tis, rx, eRex_eq, e1, fm_f hi h5]
      | true =>
       refine Zo (Z4 tis rx @eRex_eq @e1) ?_
       refine round_normal (i + 1) ⟨by omega, ?_⟩ ?_ (by show r.kids.length - (i + 1) < r.kids.length - i; omega)
       ·intro j hj hj2
        by_cases hji : j < i
        ·exact hb2 j hj hji
        ·obtain rfl : j = i := by omega
         exact h5
       ·exact Zc tis
     ·obtain rfl : i = r.kids.length := by omega
      simp -implicitDefEqProofs (disch := first | (intros; contradiction) | omega) only [am0, am1, am2, am3, am4, am5, am6, Nat.reduceSub, ↓reduceIte, reduceCtorEq, Nat.reduceEqDiff, Nat.reduceBEq, Nat.reduceAdd, Nat.reduceLT, Nat.reduceBNe, Nat.reduceMul, ↓reduceIte, tis, fm_t h1 h2 h3 (fun i hi => hb2 i hi hi)]
theorem fits_manyParts2 (r : Rex) (hb : bd r ≤ 1099511627776) (h2 : ps r ≤ 1099511627777) : Fits prog 48 [eRex false r] (.int .i64 (ps r)) [] := by
 induction r using Rex.ind' with
 | h r ih =>
  have hb' := bd_eq r
  have hp := ps_eq r
  rw [eRex_eq]
  refine fits_of_code [2] [] [0, 1, 2, 3, 5, 7, 8, 9, 10] func48 rfl rfl rfl (by rfl) (by show 1 ≤ 19; decide) (by rfl) (by rfl) (by show 0 ≤ 1; decide) (by rfl) (run_of ?_)
  refine Zo tis ?_
  refine run_loop (α := Nat) (fun i => i ≤ r.kids.length) (fun i => [(3, .int .i64 ((1 + ((r.kids.map ps).take i).sum : Nat) : Int)), (7, .sl false 3 (r.kids.map (eRex false))), (8, .int .i64 r.kids.length), (9, .int .i64 i)]) (fun i => r.kids.length - i) 0 (Nat.zero_le _) ?_ ?_
  ·simp -implicitDefEqProofs (disch := first | (intros; contradiction) | omega) only [am0, am1, am2, am3, am4, am5, am6, Nat.reduceSub, ↓reduceIte, reduceCtorEq, Nat.reduceEqDiff, Nat.reduceBEq, Nat.reduceAdd, Nat.reduceLT, Nat.reduceBNe, Nat.reduceMul, ↓reduceIte, tis, List.sum_nil]
  ·intro i hi'
   by_cases hi : i < r.kids.length
   ·have e := take_sum (l := r.kids.map ps) (i := i) (by simpa using hi)
    have e' := take_sum_le (r.kids.map ps) (i + 1)
    rw [List.getElem_map] at e
    have hm := List.getElem_mem hi
    have hk : ps r.kids[i] ≤ (r.kids.map ps).sum := le_sum (List.mem_map_of_mem hm)
    have cF := ih r.kids[i] hm (Nat.le_trans (bd_kid hm) hb) (by omega)
    refine Zo (Z3 tis rx @eRex_eq) ?_
    refine callB cF ?_
    refine Zo (Z3 tis rx @eRex_eq) ?_
    refine round_normal (i + 1) (by omega) ?_ (by show r.kids.length - (i + 1) < r.kids.length - i; omega)
    refine Zo (Z2 tis @e) ?_
    omega
   ·obtain rfl : i = r.kids.length := by omega
    have e : (r.kids.map ps).take r.kids.length = r.kids.map ps := List.take_of_length_le (by simp)
    exact Zc (Z3 tis @e @hp)
theorem fits_manyParts (r : Rex) (hb : bd r ≤ 1048576) (h2 : ps r ≤ 1048576) : Fits prog 48 [eRex false r] (.int .i64 (ps r)) [] := fits_manyParts2 r (by omega) (by omega)
theorem fits_sMany (r : Rex) (d : Nat) (hd : d ≤ 8) (hf : fm d r = true) (hb : bd r ≤ 1048576) : Fits prog 57 [eRex false r, .int .i64 d] (.int .i64 (ps r)) [] := by
 induction d generalizing r with
 | zero => simp [fm] at hf
 | succ d ih =>
  have hb' := bd_eq r
  have hp := ps_eq r
  have h4 := (fm_ok hf).2.2.2
  have hps := ps_le (d + 1) r hf
  have h2p : 2 ^ (d + 1) ≤ 2 ^ 8 := Nat.pow_le_pow_right (by omega) hd
  have e1 : ((d : Int) + 1 - 1) = d := by omega
  rw [eRex_eq]
  refine fits_of_code [4] [] [0, 1, 2, 4, 5, 6, 15] func57 rfl rfl rfl (by rfl) (by show 2 ≤ 29; decide) (by rfl) (by rfl) (by show 0 ≤ 2; decide) (by rfl) (run_of ?_)
  refine Zo tis ?_
  refine run_loop (α := Nat) (fun i => i ≤ r.kids.length) (fun i => [(1, .int .i64 ((d : Int) + 1)), (2, .box (.agg [.int .i64 r.kind, .sl false 2 (r.set.map eSpan), .sl false 3 (r.kids.map (eRex false))])), (5, .int .i64 ((1 + ((r.kids.map ps).take i).sum : Nat) : Int)), (6, .int .i64 i)]) (fun i => r.kids.length - i) 0 (Nat.zero_le _) ?_ ?_
  ·simp -implicitDefEqProofs (disch := first | (intros; contradiction) | omega) only [am0, am1, am2, am3, am4, am5, am6, Nat.reduceSub, ↓reduceIte, reduceCtorEq, Nat.reduceEqDiff, Nat.reduceBEq, Nat.reduceAdd, Nat.reduceLT, Nat.reduceBNe, Nat.reduceMul, ↓reduceIte, tis, List.sum_nil]
  ·intro i hi'
   by_cases hi : i < r.kids.length
   ·have e := take_sum (l := r.kids.map ps) (i := i) (by simpa using hi)
    have e' := take_sum_le (r.kids.map ps) (i + 1)
    rw [List.getElem_map] at e
    have hm := List.getElem_mem hi
    have hk : ps r.kids[i] ≤ (r.kids.map ps).sum := le_sum (List.mem_map_of_mem hm)
    have cF := ih r.kids[i] (by omega) (h4 _ hm) (Nat.le_trans (bd_kid hm) hb)
    refine Zo (Z3 tis rx @eRex_eq) ?_
    refine callB cF ?_
    refine Zo (Z4 tis rx @eRex_eq @e1) ?_
    refine round_normal (i + 1) (by omega) ?_ (by show r.kids.length - (i + 1) < r.kids.length - i; omega)
    refine Zo (Z2 tis @e) ?_
    omega
   ·obtain rfl : i = r.kids.length := by omega
    have e : (r.kids.map ps).take r.kids.length = r.kids.map ps := List.take_of_length_le (by simp)
    exact Zc (Z3 tis @e @hp)
def rexB (r : Rex) : Bool := fm 8 r && decide (ps r ≤ 24)
theorem fits_rexOk (r : Rex) (hb : bd r ≤ 1048576) : Fits prog 34 [eRex false r] (.bool (rexB r)) [] := by
 have cF : Fits prog 72 [eRex false r, .int .i64 8] (.bool (fm 8 r)) [] := fits_formed r 8 (by omega) hb
 cases h : fm 8 r with
 | false =>
  have hx : rexB r = false := by simp [rexB, h]
  rw [h] at cF
  rw [eRex_eq] at *
  refine fits_of_code [2] [] [0, 1, 2] func34 rfl rfl rfl (by rfl) (by show 1 ≤ 10; decide) (by rfl) (by rfl) (by show 0 ≤ 1; decide) (by rfl) (run_of ?_)
  refine Zo tis ?_
  refine callB cF ?_
  exact Zc (Z2 tis @hx)
 | true =>
  have hp := ps_le 8 r h
  have cM := fits_manyParts r hb (by omega)
  rw [h] at cF
  rw [eRex_eq] at *
  by_cases h2 : (ps r : Int) ≤ 24
  ·have hx : rexB r = true := by simp only [rexB, h, Bool.true_and, decide_eq_true_eq]; omega
   refine fits_of_code [2] [] [0, 1, 2] func34 rfl rfl rfl (by rfl) (by show 1 ≤ 10; decide) (by rfl) (by rfl) (by show 0 ≤ 1; decide) (by rfl) (run_of ?_)
   refine Zo tis ?_
   refine callB cF ?_
   refine Zo tis ?_
   refine callB cM ?_
   exact Zc (Z2 tis @hx)
  ·have hx : rexB r = false := by simp only [rexB, h, Bool.true_and, decide_eq_false_iff_not]; omega
   refine fits_of_code [2] [] [0, 1, 2] func34 rfl rfl rfl (by rfl) (by show 1 ≤ 10; decide) (by rfl) (by rfl) (by show 0 ≤ 1; decide) (by rfl) (run_of ?_)
   refine Zo tis ?_
   refine callB cF ?_
   refine Zo tis ?_
   refine callB cM ?_
   exact Zc (Z2 tis @hx)
theorem fits_sRexOk (r : Rex) (hb : bd r ≤ 1048576) : Fits prog 20 [eRex false r] (.bool (rexB r)) [] := by
 have cF : Fits prog 56 [eRex false r, .int .i64 8] (.bool (fm 8 r)) [] := fits_sForm r 8 (by omega) hb
 cases h : fm 8 r with
 | false =>
  have hx : rexB r = false := by simp [rexB, h]
  rw [h] at cF
  rw [eRex_eq] at *
  refine fits_of_code [2] [] [0, 1, 2] func20 rfl rfl rfl (by rfl) (by show 1 ≤ 10; decide) (by rfl) (by rfl) (by show 0 ≤ 1; decide) (by rfl) (run_of ?_)
  refine Zo tis ?_
  refine callB cF ?_
  exact Zc (Z2 tis @hx)
 | true =>
  have hp := ps_le 8 r h
  have cM : Fits prog 57 [eRex false r, .int .i64 8] (.int .i64 (ps r)) [] := fits_sMany r 8 (by omega) h hb
  rw [h] at cF
  rw [eRex_eq] at *
  by_cases h2 : (ps r : Int) ≤ 24
  ·have hx : rexB r = true := by simp only [rexB, h, Bool.true_and, decide_eq_true_eq]; omega
   refine fits_of_code [2] [] [0, 1, 2] func20 rfl rfl rfl (by rfl) (by show 1 ≤ 10; decide) (by rfl) (by rfl) (by show 0 ≤ 1; decide) (by rfl) (run_of ?_)
   refine Zo tis ?_
   refine callB cF ?_
   refine Zo tis ?_
   refine callB cM ?_
   exact Zc (Z2 tis @hx)
  ·have hx : rexB r = false := by simp only [rexB, h, Bool.true_and, decide_eq_false_iff_not]; omega
   refine fits_of_code [2] [] [0, 1, 2] func20 rfl rfl rfl (by rfl) (by show 1 ≤ 10; decide) (by rfl) (by rfl) (by show 0 ≤ 1; decide) (by rfl) (run_of ?_)
   refine Zo tis ?_
   refine callB cF ?_
   refine Zo tis ?_
   refine callB cM ?_
   exact Zc (Z2 tis @hx)



def zRex : Rex := .mk 0 [] []

theorem fits_l1Min (a b : Int) : Fits prog 64 [.int .i64 a, .int .i64 b] (.int .i64 (if a < b then a else b)) [] := by
 by_cases h : a < b
 ·refine fits_of_code [4] [] [0, 1, 4, 7] func64 rfl rfl rfl (by rfl) (by show 2 ≤ 10; decide) (by rfl) (by rfl) (by show 0 ≤ 2; decide) (by rfl) (run_of ?_)
  exact Zc (Z2 tis @h)
 ·refine fits_of_code [4] [] [0, 1, 4, 7] func64 rfl rfl rfl (by rfl) (by show 2 ≤ 10; decide) (by rfl) (by rfl) (by show 0 ≤ 2; decide) (by rfl) (run_of ?_)
  exact Zc (Z2 tis @h)
def lo9 : List Int := [0, 48, 97, 97, 98, 99, 120, 254, 255]
def by7 : List Int := [0, 0, 1, 2, 9, 25, 200]
def fillR (bs : List Bool) (a : Nat) : Nat → List Bool
 | 0 => bs
 | n + 1 => (fillR bs a n).set (a + n) true
theorem fillR_len (bs : List Bool) (a : Nat) : ∀ n, (fillR bs a n).length = bs.length
 | 0 => rfl
 | n + 1 => by simp [fillR, fillR_len bs a n]
def loV (b : List UInt8) (p : Nat) : Int := numV b p lo9
def hiV (b : List UInt8) (p : Nat) : Int := if 255 < loV b p + numV b (p + 1) by7 then 255 else loV b p + numV b (p + 1) by7
theorem loV_b (b : List UInt8) (p : Nat) : 0 ≤ loV b p ∧ loV b p ≤ 255 := by
 have h := numV_mem b p (l := lo9) (by decide)
 unfold loV
 generalize numV b p lo9 = x at *
 simp only [lo9, List.mem_cons, List.not_mem_nil, or_false] at h
 omega
theorem by7_b (b : List UInt8) (p : Nat) : 0 ≤ numV b p by7 ∧ numV b p by7 ≤ 200 := by
 have h := numV_mem b p (l := by7) (by decide)
 generalize numV b p by7 = x at *
 simp only [by7, List.mem_cons, List.not_mem_nil, or_false] at h
 omega
theorem hiV_b (b : List UInt8) (p : Nat) : loV b p ≤ hiV b p ∧ hiV b p ≤ 255 := by
 have h1 := loV_b b p
 have h2 := by7_b b (p + 1)
 unfold hiV
 split <;> omega
def setStep (b : List UInt8) (p : Nat) (bs : List Bool) : List Bool := fillR bs (loV b p).toNat ((hiV b p).toNat + 1 - (loV b p).toNat)
def setIt (b : List UInt8) (p : Nat) : Nat → List Bool
 | 0 => List.replicate 256 false
 | j + 1 => setStep b (p + 2 * j) (setIt b p j)
theorem setIt_len (b : List UInt8) (p : Nat) : ∀ j, (setIt b p j).length = 256
 | 0 => by simp [setIt]
 | j + 1 => by simp [setIt, setStep, fillR_len, setIt_len b p j]
def setV (b : List UInt8) (p : Nat) : List Span := spansL (setIt b (p + 1) (1 + pickV b p 3))
def setQ (b : List UInt8) (p : Nat) : Nat := p + 1 + 2 * (1 + pickV b p 3)
theorem setQ_le (b : List UInt8) (p : Nat) : p ≤ setQ b p ∧ setQ b p ≤ p + 7 := by
 have := pickV_lt b p (n := 3) (by omega)
 unfold setQ
 omega
theorem setV_len (b : List UInt8) (p : Nat) : (setV b p).length ≤ 256 := spN_len _ 256
theorem repFalse (n : Nat) : (List.replicate n false).map eBool = List.replicate n (.bool false) := by simp [eBool]
theorem fits_l1Set (b : List UInt8) (hb : b.length ≤ 2000) (p : Nat) (hp : p ≤ 1000000) : Fits prog 147 [.box (eRd b p)] (.sl true 2 ((setV b p).map eSpan)) [.box (eRd b (setQ b p))] := by
 have hk := pickV_lt b p (n := 3) (by omega)
 have cP : Fits prog 84 [.box (eRd b p), .int .i64 3] (.int .i64 (pickV b p 3)) [.box (eRd b (p + 1))] := fits_pick b hb p (by omega) 3 (by omega) (by omega)
 unfold setV setQ
 generalize pickV b p 3 = m at *
 have cO := fits_l1Of (setIt b (p + 1) (1 + m)) (setIt_len b (p + 1) (1 + m))
 have cN1 := fun j (hj : j ≤ 3) => fits_num b hb (p + 1 + 2 * j) (by omega) lo9 (by decide) (by decide)
 have cN2 := fun j (hj : j ≤ 3) => fits_num b hb (p + 1 + 2 * j + 1) (by omega) by7 (by decide) (by decide)
 have e0 : (setIt b (p + 1) 0).map eBool = List.replicate (Int.toNat 256) (.bool false) := repFalse 256
 unfold eRd at *
 refine fits_of_code [2] [0] [0, 2, 3, 4, 5, 6, 7, 13, 28] func147 rfl rfl rfl (by rfl) (by show 1 ≤ 36; decide) (by rfl) (by rfl) (by show 1 ≤ 1; decide) (by rfl) (run_of ?_)
 refine Zo (Z2 tis fls) ?_
 refine callM 0 cP ?_
 refine Zo (Z3 tis fls @LLdrosin) ?_
 refine run_loop (α := Nat) (fun j => j ≤ 1 + m) (fun j => [(0, .box (.agg [.sl false 1 (bytesA b), .int .i64 (p + 1 + 2 * j : Nat)])), (3, .sl true 1 ((setIt b (p + 1) j).map eBool)), (4, .int .i64 ((1 + m : Nat) - (j : Int)))]) (fun j => 1 + m - j) 0 (Nat.zero_le _) ?_ ?_
 ·exact Zc (Z3 tis fls @e0)
 ·intro j hj'
  by_cases hj : j < 1 + m
  ·have hl := setIt_len b (p + 1) j
   have c1 := cN1 j (by omega)
   have c2 := cN2 j (by omega)
   have h1 := loV_b b (p + 1 + 2 * j)
   have h2 := by7_b b (p + 1 + 2 * j + 1)
   have h3 := hiV_b b (p + 1 + 2 * j)
   have e3 : hiV b (p + 1 + 2 * j) = if 255 < loV b (p + 1 + 2 * j) + numV b (p + 1 + 2 * j + 1) by7 then 255 else loV b (p + 1 + 2 * j) + numV b (p + 1 + 2 * j + 1) by7 := rfl
   have eS : setIt b (p + 1) (j + 1) = fillR (setIt b (p + 1) j) (loV b (p + 1 + 2 * j)).toNat ((hiV b (p + 1 + 2 * j)).toNat + 1 - (loV b (p + 1 + 2 * j)).toNat) := rfl
   have cM := fits_l1Min 255 (loV b (p + 1 + 2 * j) + numV b (p + 1 + 2 * j + 1) by7)
   rw [← e3] at cM
   rw [show numV b (p + 1 + 2 * j) lo9 = loV b (p + 1 + 2 * j) from rfl] at c1
   generalize hiV b (p + 1 + 2 * j) = hi at *
   generalize loV b (p + 1 + 2 * j) = lo at *
   generalize numV b (p + 1 + 2 * j + 1) by7 = dl at *
   generalize setIt b (p + 1) j = bs at *
   obtain ⟨lo, rfl⟩ : ∃ n : Nat, lo = n := ⟨lo.toNat, by omega⟩
   obtain ⟨hi, rfl⟩ : ∃ n : Nat, hi = n := ⟨hi.toNat, by omega⟩
   rw [Int.toNat_natCast, Int.toNat_natCast] at eS
   refine Zo (Z2 tis fls) ?_
   refine callMF [(17, [])] 0 c1 ?_
   simp -implicitDefEqProofs (disch := first | (intros; contradiction) | omega) only [am0, am1, am2, am3, am4, am5, am6, Nat.reduceSub, ↓reduceIte, reduceCtorEq, Nat.reduceEqDiff, Nat.reduceBEq, Nat.reduceAdd, Nat.reduceLT, Nat.reduceBNe, Nat.reduceMul, ↓reduceIte, tis, fls, List.dropLast_singleton, lo9, eInt]
   refine callMF [(21, [])] 0 c2 ?_
   simp -implicitDefEqProofs (disch := first | (intros; contradiction) | omega) only [am0, am1, am2, am3, am4, am5, am6, Nat.reduceSub, ↓reduceIte, reduceCtorEq, Nat.reduceEqDiff, Nat.reduceBEq, Nat.reduceAdd, Nat.reduceLT, Nat.reduceBNe, Nat.reduceMul, ↓reduceIte, tis, fls, List.dropLast_singleton, by7, eInt]
   refine callB cM ?_
   refine Zo (Z2 tis fls) ?_
   refine run_loop (α := Nat) (fun i => i ≤ hi + 1 - lo) (fun i => [(0, .box (.agg [.sl false 1 (bytesA b), .int .i64 (p + 1 + 2 * (j + 1) : Nat)])), (3, .sl true 1 ((fillR bs lo i).map eBool)), (4, .int .i64 ((1 + m : Nat) - (j : Int))), (6, .int .i64 hi), (7, .int .i64 ((lo : Int) + i))]) (fun i => hi + 1 - lo - i) 0 (Nat.zero_le _) ?_ ?_
   ·simp -implicitDefEqProofs (disch := first | (intros; contradiction) | omega) only [am0, am1, am2, am3, am4, am5, am6, Nat.reduceSub, ↓reduceIte, reduceCtorEq, Nat.reduceEqDiff, Nat.reduceBEq, Nat.reduceAdd, Nat.reduceLT, Nat.reduceBNe, Nat.reduceMul, ↓reduceIte, tis, fls, fillR]
    try omega
   ·intro i hi'
    have hfl := fillR_len bs lo i
    by_cases hi2 : i < hi + 1 - lo
    ·have ei : ((lo : Int) + i).toNat = lo + i := by omega
     have eB : ∀ x, ncells (eBool x) = 1 := fun _ => rfl
     have eB2 := setBool (fillR bs lo i) (lo + i) true
     refine Zo (Z7 tis fls @ei @hl @hfl @eB @eB2) ?_
     refine round_normal (i + 1) (by omega) ?_ (by show hi + 1 - lo - (i + 1) < hi + 1 - lo - i; omega)
     simp -implicitDefEqProofs (disch := first | (intros; contradiction) | omega) only [am0, am1, am2, am3, am4, am5, am6, Nat.reduceSub, ↓reduceIte, reduceCtorEq, Nat.reduceEqDiff, Nat.reduceBEq, Nat.reduceAdd, Nat.reduceLT, Nat.reduceBNe, Nat.reduceMul, ↓reduceIte, tis, fillR]
     omega
    ·obtain rfl : i = hi + 1 - lo := by omega
     refine Zo (Z2 tis fls) ?_
     refine round_normal (j + 1) (by omega) ?_ (by show 1 + m - (j + 1) < 1 + m - j; omega)
     refine Zo (Z2 tis @eS) ?_
     try omega
  ·obtain rfl : j = 1 + m := by omega
   refine Zo (Z2 tis fls) ?_
   refine callB cO ?_
   exact Zc (Z2 tis fls)
theorem fits_l2Copy (r : Rex) (hb : bd r ≤ 1048576) : Fits prog 30 [eRex false r] (eRex true r) [] := by
 induction r using Rex.ind' with
 | h r ih =>
  have hb' := bd_eq r
  rw [eRex_eq, eRex_eq]
  refine fits_of_cell 2 30 [] [0, 1, 2, 3, 4, 16] func30 rfl rfl rfl (by show 2 < 31; decide) (by show 1 ≤ 31; decide) (by rfl) (by rfl) (by show 0 ≤ 1; decide) (by rfl) (run_of ?_)
  refine Zo tis ?_
  refine .inl ⟨by kernel_rfl, ?_⟩
  refine run_loop (α := Nat) (fun i => i ≤ r.kids.length) (fun i => [(1, .box (.agg [.int .i64 r.kind, .sl false 2 (r.set.map eSpan), .sl false 3 (r.kids.map (eRex false))])), (2, .box (.agg [.int .i64 0, .sl true 2 [], .sl true 3 []])), (3, .box (.agg [.int .i64 r.kind, .sl true 2 (r.set.map eSpan), .sl true 3 ((r.kids.take i).map (eRex true))])), (4, .int .i64 i)]) (fun i => r.kids.length - i) 0 (Nat.zero_le _) ?_ ?_
  ·exact Zc (Z2 tis @LLmapnil)
  ·intro i hi'
   by_cases hi : i < r.kids.length
   ·have hm := List.getElem_mem hi
    have cF := ih r.kids[i] hm (Nat.le_trans (bd_kid hm) hb)
    rw [eRex_eq false r.kids[i], eRex_eq true r.kids[i]] at cF
    refine Zo (Z4 tis rx fls (eRex_eq false r.kids[i])) ?_
    refine .inl ⟨by kernel_rfl, ?_⟩
    refine callL cF ?_
    have hlt : (r.kids.take i).length = i := by simp; omega
    refine Zo (Z4 tis rx fls @hlt) ?_
    refine round_normal (i + 1) (by omega) ?_ (by show r.kids.length - (i + 1) < r.kids.length - i; omega)
    rw [List.take_succ_eq_append_getElem hi, List.map_append, List.map_cons, List.map_nil, eRex_eq true r.kids[i]]
    exact Zc tis
   ·obtain rfl : i = r.kids.length := by omega
    exact Zc (Z3 tis rx fls)
def byteR (c : Int) : Rex := .mk 1 [⟨c, c⟩] []
theorem fits_l2Byte (c : Int) : Fits prog 148 [.int .i64 c] (eRex true (byteR c)) [] := by
 unfold byteR
 rw [eRex_eq]
 refine fits_of_cell 2 30 [] [0, 2] func148 rfl rfl rfl (by show 2 < 8; decide) (by show 1 ≤ 8; decide) (by rfl) (by rfl) (by show 0 ≤ 1; decide) (by rfl) (run_of ?_)
 exact Zc (Z8 tis fls Rex.kind.eq_1 Rex.set.eq_1 Rex.kids.eq_1 @LLmapnil @LLmapcon eSpan.eq_1)
def leafV (b : List UInt8) (p : Nat) : Rex × Nat :=
 if pickV b p 9 = 0 then (.mk 2 [] [], p + 1)
 else if pickV b p 9 = 1 then (.mk 1 [⟨97, 98⟩] [], p + 1)
 else if pickV b p 9 = 2 then (.mk 1 (setV b (p + 1)) [], setQ b (p + 1))
 else if pickV b p 9 = 3 then (if pickV b (p + 1) 3 = 0 then (.mk 1 [] [], p + 1 + 1) else (byteR (97 + pickV b (p + 1 + 1) 3), p + 1 + 1 + 1))
 else (byteR (97 + pickV b (p + 1) 3), p + 1 + 1)
theorem leafV_le (b : List UInt8) (p : Nat) : (leafV b p).2 ≤ p + 8 ∧ bd (leafV b p).1 ≤ 256 := by
 have h1 := setQ_le b (p + 1)
 have h2 := setV_len b (p + 1)
 unfold leafV
 split
 ·exact ⟨by simp, by simp [bd]⟩
 ·split
  ·exact ⟨by simp, by simp [bd]⟩
  ·split
   ·exact ⟨by simp only; omega, by simp only [bd, List.map_nil, List.sum_nil, List.length_nil]; omega⟩
   ·split
    ·split
     ·exact ⟨by simp, by simp [bd]⟩
     ·exact ⟨by simp, by simp [bd, byteR]⟩
    ·exact ⟨by simp, by simp [bd, byteR]⟩
theorem fits_l2Leaf (b : List UInt8) (hb : b.length ≤ 2000) (p : Nat) (hp : p ≤ 900000) : Fits prog 135 [.box (eRd b p)] (eRex true (leafV b p).1) [.box (eRd b (leafV b p).2)] := by
 have c1 : Fits prog 84 [.box (eRd b p), .int .i64 9] (.int .i64 (pickV b p 9)) [.box (eRd b (p + 1))] := fits_pick b hb p (by omega) 9 (by omega) (by omega)
 have cS := fits_l1Set b hb (p + 1) (by omega)
 have c2 : Fits prog 84 [.box (eRd b (p + 1)), .int .i64 3] (.int .i64 (pickV b (p + 1) 3)) [.box (eRd b (p + 1 + 1))] := fits_pick b hb (p + 1) (by omega) 3 (by omega) (by omega)
 have c3 : Fits prog 84 [.box (eRd b (p + 1 + 1)), .int .i64 3] (.int .i64 (pickV b (p + 1 + 1) 3)) [.box (eRd b (p + 1 + 1 + 1))] := fits_pick b hb (p + 1 + 1) (by omega) 3 (by omega) (by omega)
 have cB2 := fits_l2Byte (97 + pickV b (p + 1) 3)
 have cB3 := fits_l2Byte (97 + pickV b (p + 1 + 1) 3)
 have h2 := pickV_lt b (p + 1) (n := 3) (by omega)
 have h3 := pickV_lt b (p + 1 + 1) (n := 3) (by omega)
 unfold leafV
 generalize pickV b (p + 1) 3 = k2 at *
 generalize pickV b (p + 1 + 1) 3 = k3 at *
 generalize pickV b p 9 = k at *
 generalize setQ b (p + 1) = q at *
 generalize setV b (p + 1) = s at *
 unfold eRd at *
 by_cases g0 : k = 0
 ·subst g0
  rw [if_pos rfl, eRex_eq]
  refine fits_of_cell 2 30 [0] [0, 2, 4, 5, 8, 13, 18, 22] func135 rfl rfl rfl (by show 2 < 28; decide) (by show 1 ≤ 28; decide) (by rfl) (by rfl) (by show 1 ≤ 1; decide) (by rfl) (run_of ?_)
  refine Zo (Z6 tis fls Rex.kind.eq_1 Rex.set.eq_1 Rex.kids.eq_1 @LLmapnil) ?_
  refine callM 0 c1 ?_
  exact Zc (Z3 tis fls @LLdrosin)
 rw [if_neg g0]
 by_cases g1 : k = 1
 ·subst g1
  rw [if_pos rfl, eRex_eq]
  refine fits_of_cell 2 30 [0] [0, 2, 4, 5, 8, 13, 18, 22] func135 rfl rfl rfl (by show 2 < 28; decide) (by show 1 ≤ 28; decide) (by rfl) (by rfl) (by show 1 ≤ 1; decide) (by rfl) (run_of ?_)
  refine Zo (Z8 tis fls Rex.kind.eq_1 Rex.set.eq_1 Rex.kids.eq_1 @LLmapnil @LLmapcon eSpan.eq_1) ?_
  refine callM 0 c1 ?_
  exact Zc (Z9 tis fls @LLdrosin Rex.kind.eq_1 Rex.set.eq_1 Rex.kids.eq_1 @LLmapnil @LLmapcon eSpan.eq_1)
 rw [if_neg g1]
 by_cases g2 : k = 2
 ·subst g2
  rw [if_pos rfl, eRex_eq]
  refine fits_of_cell 2 30 [0] [0, 2, 4, 5, 8, 13, 18, 22] func135 rfl rfl rfl (by show 2 < 28; decide) (by show 1 ≤ 28; decide) (by rfl) (by rfl) (by show 1 ≤ 1; decide) (by rfl) (run_of ?_)
  refine Zo (Z6 tis fls Rex.kind.eq_1 Rex.set.eq_1 Rex.kids.eq_1 @LLmapnil) ?_
  refine callM 0 c1 ?_
  refine Zo (Z3 tis fls @LLdrosin) ?_
  refine callM 0 cS ?_
  exact Zc (Z3 tis fls @LLdrosin)
 rw [if_neg g2]
 have i0 : ¬ ((k : Int) = 0) := by omega
 have i1 : ¬ ((k : Int) = 1) := by omega
 have i2 : ¬ ((k : Int) = 2) := by omega
 by_cases g3 : k = 3
 ·subst g3
  rw [if_pos rfl]
  by_cases g4 : k2 = 0
  ·subst g4
   rw [if_pos rfl, eRex_eq]
   refine fits_of_cell 2 30 [0] [0, 2, 4, 5, 8, 13, 18, 22] func135 rfl rfl rfl (by show 2 < 28; decide) (by show 1 ≤ 28; decide) (by rfl) (by rfl) (by show 1 ≤ 1; decide) (by rfl) (run_of ?_)
   refine Zo (Z6 tis fls Rex.kind.eq_1 Rex.set.eq_1 Rex.kids.eq_1 @LLmapnil) ?_
   refine callM 0 c1 ?_
   refine Zo (Z3 tis fls @LLdrosin) ?_
   refine callM 0 c2 ?_
   exact Zc (Z4 tis fls @LLdrosin @LLmapnil)
  ·have i4 : ¬ ((k2 : Int) = 0) := by omega
   rw [if_neg g4]
   simp only [eRex_eq] at *
   refine fits_of_cell 2 30 [0] [0, 2, 4, 5, 8, 13, 18, 22] func135 rfl rfl rfl (by show 2 < 28; decide) (by show 1 ≤ 28; decide) (by rfl) (by rfl) (by show 1 ≤ 1; decide) (by rfl) (run_of ?_)
   refine Zo (Z2 tis fls) ?_
   refine callM 0 c1 ?_
   refine Zo (Z3 tis fls @LLdrosin) ?_
   refine callM 0 c2 ?_
   refine Zo (Z4 tis fls @LLdrosin @i4) ?_
   refine callM 0 c3 ?_
   refine Zo (Z3 tis fls @LLdrosin) ?_
   refine callB cB3 ?_
   exact Zc (Z3 tis fls rx)
 ·rw [if_neg g3]
  have i3 : ¬ ((k : Int) = 3) := by omega
  simp only [eRex_eq] at *
  refine fits_of_cell 2 30 [0] [0, 2, 4, 5, 8, 13, 18, 22] func135 rfl rfl rfl (by show 2 < 28; decide) (by show 1 ≤ 28; decide) (by rfl) (by rfl) (by show 1 ≤ 1; decide) (by rfl) (run_of ?_)
  refine Zo (Z2 tis fls) ?_
  refine callM 0 c1 ?_
  refine Zo (Z7 tis fls @LLdrosin @i0 @i1 @i2 @i3) ?_
  refine callM 0 c2 ?_
  refine Zo (Z3 tis fls @LLdrosin) ?_
  refine callB cB2 ?_
  exact Zc (Z3 tis fls rx)
def Upto {α : Type} (s t : List α) (i : Nat) : Prop := s.take i = t.take i
theorem upto_0 {α : Type} (s t : List α) : Upto s t 0 := by simp [Upto]
theorem upto_s {α : Type} {s t : List α} {i : Nat} (h : Upto s t i) (h1 : i < s.length) (h2 : i < t.length) (e : s[i] = t[i]) : Upto s t (i + 1) := by
 unfold Upto at *
 rw [List.take_succ_eq_append_getElem h1, List.take_succ_eq_append_getElem h2, h, e]
theorem upto_e {α : Type} {s t : List α} (h : Upto s t s.length) (hl : s.length = t.length) : s = t := by
 unfold Upto at h
 rwa [List.take_length, hl, List.take_length] at h
noncomputable instance : DecidableEq Rex := fun a b => Classical.propDecidable _
theorem rex_eq_iff (a b : Rex) : a = b ↔ a.kind = b.kind ∧ a.set = b.set ∧ a.kids = b.kids := by
 cases a; cases b; simp [Rex.kind, Rex.set, Rex.kids]
def setsR : Rex → List (List Span)
 | .mk k s ks => (if k = 1 then [s] else []) ++ (ks.map setsR).flatten
theorem setsR_eq (r : Rex) : setsR r = (if r.kind = 1 then [r.set] else []) ++ (r.kids.map setsR).flatten := by cases r; rw [setsR]; rfl
def kidS (r : Rex) (i : Nat) : List (List Span) := (if r.kind = 1 then [r.set] else []) ++ ((r.kids.map setsR).take i).flatten
theorem kidS_s {r : Rex} {i : Nat} (h : i < r.kids.length) : kidS r (i + 1) = kidS r i ++ setsR r.kids[i] := by
 unfold kidS
 rw [List.take_succ_eq_append_getElem (by simpa using h)]
 simp
theorem kidS_e (r : Rex) : kidS r r.kids.length = setsR r := by
 rw [setsR_eq]; unfold kidS; rw [List.take_of_length_le (by simp)]
theorem setsR_len (r : Rex) : (setsR r).length ≤ bd r + 1 := by
 induction r using Rex.ind' with
 | h r ih =>
  rw [setsR_eq, bd_eq]
  have key : ∀ l : List Rex, (∀ x ∈ l, (setsR x).length ≤ bd x + 1) → ((l.map setsR).flatten).length ≤ l.length + (l.map bd).sum := by
   intro l
   induction l with
   | nil => simp
   | cons x l ih2 =>
    intro hl
    have a := hl x (List.mem_cons_self ..)
    have b := ih2 (fun y hy => hl y (List.mem_cons_of_mem _ hy))
    simp only [List.map_cons, List.flatten_cons, List.length_append, List.length_cons, List.sum_cons] at *
    omega
  have := key r.kids ih
  rw [List.length_append]
  split
  ·simp only [List.length_singleton]; omega
  ·simp only [List.length_nil]; omega
theorem setsR_mem (r : Rex) : ∀ s ∈ setsR r, s.length ≤ bd r := by
 induction r using Rex.ind' with
 | h r ih =>
  intro s hs
  rw [setsR_eq, List.mem_append] at hs
  have hb := bd_eq r
  rcases hs with hs | hs
  ·split at hs
   ·simp at hs; subst hs; omega
   ·simp at hs
  ·obtain ⟨l, hl, hs⟩ := List.mem_flatten.1 hs
   obtain ⟨x, hx, rfl⟩ := List.mem_map.1 hl
   exact Nat.le_trans (ih x hx s hs) (bd_kid hx)
theorem setB_lo2 {s : List Span} (h : setB s = true) : ∀ (i : Nat) (hi : i < s.length), (2 * i : Int) ≤ s[i].lo
 | 0, hi => by have := (setB_at h 0 hi).1.1; omega
 | i + 1, hi => by
  have a := setB_lo2 h i (by omega)
  have b := setB_at h i (by omega)
  have c := (setB_at h (i + 1) hi).2 (by omega)
  simp only [Nat.add_sub_cancel] at c
  have := b.1.2.1
  omega
theorem setB_128 {s : List Span} (h : setB s = true) : s.length ≤ 128 := by
 by_cases h0 : s.length = 0
 ·omega
 ·have a := setB_lo2 h (s.length - 1) (by omega)
  have b := (setB_at h (s.length - 1) (by omega)).1
  omega
theorem bd_ps (r : Rex) : Okr r → bd r + 1 ≤ 129 * ps r := by
 induction r using Rex.ind' with
 | h r ih =>
  intro hr
  obtain ⟨d, hd⟩ := hr
  rw [ps_eq, bd_eq]
  cases d with
  | zero => simp [fm] at hd
  | succ d =>
   obtain ⟨h1, h2, h3, h4⟩ := fm_ok hd
   have hs := setB_128 h3
   have key : ∀ l : List Rex, (∀ x ∈ l, bd x + 1 ≤ 129 * ps x) → l.length + (l.map bd).sum ≤ 129 * (l.map ps).sum := by
    intro l
    induction l with
    | nil => simp
    | cons x l ih2 =>
     intro hl
     have a := hl x (List.mem_cons_self ..)
     have b := ih2 (fun y hy => hl y (List.mem_cons_of_mem _ hy))
     simp only [List.map_cons, List.sum_cons, List.length_cons]; omega
   have := key r.kids (fun x hx => ih x hx ⟨d, h4 x hx⟩)
   omega
def hpR : Rex → Bool
 | .mk k _ ks => (!decide (k = 6 ∨ k = 7)) && (ks.map hpR).all id
theorem hpR_eq (r : Rex) : hpR r = ((!decide (r.kind = 6 ∨ r.kind = 7)) && r.kids.all hpR) := by
 cases r; rw [hpR, List.all_map]; rfl
theorem hpR_kid {r x : Rex} (h : hpR r = true) (hx : x ∈ r.kids) : hpR x = true := by
 rw [hpR_eq] at h
 simp only [Bool.and_eq_true] at h
 exact (List.all_eq_true.1 h.2) x hx
theorem fits_has (r : Rex) : bd r ≤ 1099511627776 → Fits prog 35 [eRex false r, .int .i64 6, .int .i64 7] (.bool (!hpR r)) [] := by
 induction r using Rex.ind' with
 | h r ih =>
  intro hb
  have hbb := bd_eq r
  rw [hpR_eq, eRex_eq]
  by_cases h6 : r.kind = 6 ∨ r.kind = 7
  ·rw [decide_eq_true h6]
   simp only [Bool.not_true, Bool.false_and, Bool.not_false]
   rcases h6 with h | h
   ·refine fits_of_code [6] [] [0, 1, 2, 3, 6, 8, 18, 20, 21, 22, 23, 29] func35 rfl rfl rfl (by rfl) (by show 3 ≤ 31; decide) (by rfl) (by rfl) (by show 0 ≤ 3; decide) (by rfl) (run_of ?_)
    exact Zc (Z4 tis rx fls @h)
   ·refine fits_of_code [6] [] [0, 1, 2, 3, 6, 8, 18, 20, 21, 22, 23, 29] func35 rfl rfl rfl (by rfl) (by show 3 ≤ 31; decide) (by rfl) (by rfl) (by show 0 ≤ 3; decide) (by rfl) (run_of ?_)
    exact Zc (Z4 tis rx fls @h)
  ·rw [decide_eq_false h6]
   simp only [Bool.not_false, Bool.true_and]
   obtain ⟨n6, n7⟩ := not_or.1 h6
   have hk : ∀ x ∈ r.kids, Fits prog 35 [eRex false x, .int .i64 6, .int .i64 7] (.bool (!hpR x)) [] := fun x hx => ih x hx (Nat.le_trans (bd_kid hx) hb)
   refine fits_of_code [6] [] [0, 1, 2, 3, 6, 8, 18, 20, 21, 22, 23, 29] func35 rfl rfl rfl (by rfl) (by show 3 ≤ 31; decide) (by rfl) (by rfl) (by show 0 ≤ 3; decide) (by rfl) (run_of ?_)
   refine Zo (Z5 tis rx fls @n6 @n7) ?_
   refine run_loop (α := Nat) (fun i => i ≤ r.kids.length ∧ (r.kids.take i).all hpR = true) (fun i => [(1, .int .i64 6), (2, .int .i64 7), (3, .box (.agg [.int .i64 r.kind, .sl false 2 (r.set.map eSpan), .sl false 3 (r.kids.map (eRex false))])), (20, .sl false 3 (r.kids.map (eRex false))), (21, .int .i64 r.kids.length), (22, .int .i64 i)]) (fun i => r.kids.length - i) 0 ⟨Nat.zero_le _, rfl⟩ ?_ ?_
   ·exact Zc tis
    done
   ·rintro i ⟨hi', ha⟩
    by_cases hi : i < r.kids.length
    ·have c := hk _ (List.getElem_mem hi)
     rw [eRex_eq] at c
     cases hp : hpR r.kids[i] with
     | true =>
      rw [hp] at c
      have a2 : (r.kids.take (i + 1)).all hpR = true := by rw [List.take_succ_eq_append_getElem hi, List.all_append, ha]; simp [hp]
      refine Zo (Z4 tis rx fls @eRex_eq) ?_
      refine callB c ?_
      refine Zo (Z4 tis rx fls @eRex_eq) ?_
      refine round_normal (i + 1) ⟨by omega, a2⟩ ?_ (by show r.kids.length - (i + 1) < r.kids.length - i; omega)
      exact Zc (Z3 tis rx fls)
      done
     | false =>
      rw [hp] at c
      have a2 : r.kids.all hpR = false := by
       cases h : r.kids.all hpR with
       | false => rfl
       | true => have := (List.all_eq_true.1 h) _ (List.getElem_mem hi); rw [hp] at this; cases this
      rw [a2]
      refine Zo (Z4 tis rx fls @eRex_eq) ?_
      refine callB c ?_
      exact Zc (Z4 tis rx fls @eRex_eq)
      done
    ·obtain rfl : i = r.kids.length := by omega
     rw [List.take_length] at ha
     rw [ha]
     exact Zc (Z3 tis rx fls)
     done
theorem fits_some (r : Rex) : Okr r → bd r ≤ 1099511627776 → Fits prog 78 [eRex false r] (.bool (someN r)) [] := by
 induction r using Rex.ind' with
 | h r ih =>
  intro hr hb
  have hbb := bd_eq r
  rw [someN_eq]
  by_cases h2 : r.kind = 3 ∨ r.kind = 4
  ·obtain ⟨a, b, e, ha, hb2, hl⟩ := okr_kids2 hr (h2.elim .inl fun h => .inr (.inl h))
   have ca := ih a (by rw [e]; simp) ha (by omega)
   have cb := ih b (by rw [e]; simp) hb2 (by omega)
   rw [eRex_eq false r, e]
   simp only [List.map_cons, List.map_nil, List.getD_cons_zero, List.getD_cons_succ]
   rw [eRex_eq] at ca cb
   rw [eRex_eq false a, eRex_eq false b]
   generalize someN a = A at *
   generalize someN b = B at *
   rcases h2 with h | h
   ·rw [if_neg (by omega), if_pos h]
    cases A with
    | true =>
     rw [Bool.true_and]
     refine fits_of_code [2] [] [0, 1, 2, 4, 5, 11, 25] func78 rfl rfl rfl (by rfl) (by show 1 ≤ 39; decide) (by rfl) (by rfl) (by show 0 ≤ 1; decide) (by rfl) (run_of ?_)
     (repeat (first | refine Zo (Z5 tis rx fls @h Zi) ?_ | refine .inl ⟨by kernel_rfl, ?_⟩ | exact .inl (by show _ = _; kernel_rfl) | exact Zc (Z5 tis rx fls @h Zi)); try ((first | refine callL ca ?_ | refine callB ca ?_); repeat (first | refine Zo (Z5 tis rx fls @h Zi) ?_ | refine .inl ⟨by kernel_rfl, ?_⟩ | exact .inl (by show _ = _; kernel_rfl) | exact Zc (Z5 tis rx fls @h Zi))); try ((first | refine callL cb ?_ | refine callB cb ?_); repeat (first | refine Zo (Z5 tis rx fls @h Zi) ?_ | refine .inl ⟨by kernel_rfl, ?_⟩ | exact .inl (by show _ = _; kernel_rfl) | exact Zc (Z5 tis rx fls @h Zi))))
    | false =>
     rw [Bool.false_and]
     refine fits_of_code [2] [] [0, 1, 2, 4, 5, 11, 25] func78 rfl rfl rfl (by rfl) (by show 1 ≤ 39; decide) (by rfl) (by rfl) (by show 0 ≤ 1; decide) (by rfl) (run_of ?_)
     (repeat (first | refine Zo (Z5 tis rx fls @h Zi) ?_ | refine .inl ⟨by kernel_rfl, ?_⟩ | exact .inl (by show _ = _; kernel_rfl) | exact Zc (Z5 tis rx fls @h Zi)); try ((first | refine callL ca ?_ | refine callB ca ?_); repeat (first | refine Zo (Z5 tis rx fls @h Zi) ?_ | refine .inl ⟨by kernel_rfl, ?_⟩ | exact .inl (by show _ = _; kernel_rfl) | exact Zc (Z5 tis rx fls @h Zi))))
   ·rw [if_neg (by omega), if_neg (by omega), if_pos h]
    cases A with
    | true =>
     rw [Bool.true_or]
     refine fits_of_code [2] [] [0, 1, 2, 4, 5, 11, 25] func78 rfl rfl rfl (by rfl) (by show 1 ≤ 39; decide) (by rfl) (by rfl) (by show 0 ≤ 1; decide) (by rfl) (run_of ?_)
     (repeat (first | refine Zo (Z5 tis rx fls @h Zi) ?_ | refine .inl ⟨by kernel_rfl, ?_⟩ | exact .inl (by show _ = _; kernel_rfl) | exact Zc (Z5 tis rx fls @h Zi)); try ((first | refine callL ca ?_ | refine callB ca ?_); repeat (first | refine Zo (Z5 tis rx fls @h Zi) ?_ | refine .inl ⟨by kernel_rfl, ?_⟩ | exact .inl (by show _ = _; kernel_rfl) | exact Zc (Z5 tis rx fls @h Zi))))
    | false =>
     rw [Bool.false_or]
     refine fits_of_code [2] [] [0, 1, 2, 4, 5, 11, 25] func78 rfl rfl rfl (by rfl) (by show 1 ≤ 39; decide) (by rfl) (by rfl) (by show 0 ≤ 1; decide) (by rfl) (run_of ?_)
     (repeat (first | refine Zo (Z5 tis rx fls @h Zi) ?_ | refine .inl ⟨by kernel_rfl, ?_⟩ | exact .inl (by show _ = _; kernel_rfl) | exact Zc (Z5 tis rx fls @h Zi)); try ((first | refine callL ca ?_ | refine callB ca ?_); repeat (first | refine Zo (Z5 tis rx fls @h Zi) ?_ | refine .inl ⟨by kernel_rfl, ?_⟩ | exact .inl (by show _ = _; kernel_rfl) | exact Zc (Z5 tis rx fls @h Zi))); try ((first | refine callL cb ?_ | refine callB cb ?_); repeat (first | refine Zo (Z5 tis rx fls @h Zi) ?_ | refine .inl ⟨by kernel_rfl, ?_⟩ | exact .inl (by show _ = _; kernel_rfl) | exact Zc (Z5 tis rx fls @h Zi))))
  ·obtain ⟨n3, n4⟩ := not_or.1 h2
   rw [eRex_eq]
   by_cases k1 : r.kind = 1
   ·rw [if_pos k1]
    by_cases h0 : 0 < r.set.length
    ·rw [decide_eq_true h0]
     refine fits_of_code [2] [] [0, 1, 2, 4, 5, 11, 25] func78 rfl rfl rfl (by rfl) (by show 1 ≤ 39; decide) (by rfl) (by rfl) (by show 0 ≤ 1; decide) (by rfl) (run_of ?_)
     exact Zc (Z4 tis rx fls @k1)
    ·rw [decide_eq_false h0]
     refine fits_of_code [2] [] [0, 1, 2, 4, 5, 11, 25] func78 rfl rfl rfl (by rfl) (by show 1 ≤ 39; decide) (by rfl) (by rfl) (by show 0 ≤ 1; decide) (by rfl) (run_of ?_)
     exact Zc (Z4 tis rx fls @k1)
   ·rw [if_neg k1, if_neg n3, if_neg n4]
    refine fits_of_code [2] [] [0, 1, 2, 4, 5, 11, 25] func78 rfl rfl rfl (by rfl) (by show 1 ≤ 39; decide) (by rfl) (by rfl) (by show 0 ≤ 1; decide) (by rfl) (run_of ?_)
    exact Zc (Z6 tis rx fls @k1 @n3 @n4)
theorem fits_copyS (r : Rex) (hb : bd r ≤ 1048576) : Fits prog 30 [eRex false r] (eRex false r) [] := fits_as (fits_l2Copy r hb) (er_rex true r)
theorem bd_p {r : Rex} (hr : Okr r) {n : Nat} (h : ps r ≤ n) : bd r ≤ 129 * n := by
 have := bd_ps r hr
 have := Nat.mul_le_mul_left 129 h
 omega
theorem qB_mono {a b : Nat} (h : a ≤ b) : qB a ≤ qB b := Nat.mul_le_mul h (by omega)
theorem okr_k2 {r : Rex} (hr : Okr r) (h : r.kind = 2) : r = .mk 2 [] [] := by
 obtain ⟨d, hd⟩ := hr
 cases d with
 | zero => simp [fm] at hd
 | succ d =>
  obtain ⟨h1, h2, _, _⟩ := fm_ok hd
  obtain ⟨k, s, ks⟩ := r
  simp only [Rex.kind, Rex.set, Rex.kids] at *
  subst h
  have hs : s = [] := List.eq_nil_of_length_eq_zero (by omega)
  have hk : ks = [] := by
   have : (ks.length : Int) = 0 := by rw [← h1]; rfl
   exact List.eq_nil_of_length_eq_zero (by omega)
  rw [hs, hk]
def frR (b : Int) : Rex → Bool
 | .mk k s ks => (!decide (k = 6 ∨ k = 7)) && (!(decide (k = 1) && hasB s b)) && (ks.map (frR b)).all id
theorem frR_eq (b : Int) (r : Rex) : frR b r = ((!decide (r.kind = 6 ∨ r.kind = 7)) && (!(decide (r.kind = 1) && hasB r.set b)) && r.kids.all (frR b)) := by
 cases r; rw [frR, List.all_map]; rfl
theorem frR_i {b : Int} {r : Rex} : frR b r = true ↔ (r.kind ≠ 6 ∧ r.kind ≠ 7) ∧ (r.kind = 1 → hasB r.set b = false) ∧ ∀ x ∈ r.kids, frR b x = true := by
 rw [frR_eq]
 simp only [Bool.and_eq_true, List.all_eq_true, Bool.not_eq_true', decide_eq_false_iff_not, not_or, Bool.and_eq_false_iff]
 constructor
 ·rintro ⟨⟨h1, h2⟩, h3⟩
  refine ⟨h1, fun h => ?_, h3⟩
  rcases h2 with h2 | h2
  ·exact absurd h h2
  ·exact h2
 ·rintro ⟨h1, h2, h3⟩
  refine ⟨⟨h1, ?_⟩, h3⟩
  by_cases h : r.kind = 1
  ·exact .inr (h2 h)
  ·exact .inl h
theorem fr_of (b : Int) (r : Rex) : hpR r = true → (∀ s ∈ setsR r, hasB s b = false) → frR b r = true := by
 induction r using Rex.ind' with
 | h r ih =>
  intro h1 h2
  rw [setsR_eq] at h2
  rw [hpR_eq] at h1
  simp only [Bool.and_eq_true, Bool.not_eq_true', decide_eq_false_iff_not, not_or, List.all_eq_true] at h1
  refine frR_i.2 ⟨h1.1, fun h => h2 _ (by rw [if_pos h]; simp), fun x hx => ih x hx (h1.2 x hx) fun s hs => h2 s ?_⟩
  exact List.mem_append_right _ (List.mem_flatten.2 ⟨_, List.mem_map_of_mem hx, hs⟩)
theorem fr_nil (b : Int) : frR b (.mk 1 [] []) = true := by
 rw [frR_i]; simp [Rex.kind, Rex.set, Rex.kids, hasB]
theorem fr_empty (b : Int) : frR b (.mk 2 [] []) = true := by
 rw [frR_i]; simp [Rex.kind, Rex.set, Rex.kids]
theorem fr_dfl (b : Int) : frR b default = true := by
 rw [frR_i]
 refine ⟨⟨by decide, by decide⟩, fun h => absurd h (by decide), fun x hx => ?_⟩
 have : (default : Rex).kids = [] := rfl
 rw [this] at hx; simp at hx
theorem fr_getD {b : Int} {l : List Rex} (h : ∀ x ∈ l, frR b x = true) (i : Nat) : frR b (l.getD i default) = true := by
 by_cases hi : i < l.length
 ·have e : l.getD i default = l[i] := by simp [List.getD, hi]
  rw [e]; exact h _ (List.getElem_mem hi)
 ·have e : l.getD i default = default := by simp [List.getD, List.getElem?_eq_none (show l.length ≤ i by omega)]
  rw [e]; exact fr_dfl b
theorem fr_list {b : Int} (k : Int) (r : Rex) : frR b r = true → ∀ x ∈ listR k r, frR b x = true := by
 induction r using Rex.ind' with
 | h r ih =>
  intro h x hx
  rw [listR_eq] at hx
  split at hx
  ·have hk := (frR_i.1 h).2.2
   have key : ∀ i, x ∈ (r.kids.map (listR k)).getD i [] → frR b x = true := by
    intro i hi
    by_cases hl : i < r.kids.length
    ·have e : (r.kids.map (listR k)).getD i [] = listR k r.kids[i] := by simp [List.getD, hl]
     rw [e] at hi
     exact ih _ (List.getElem_mem hl) (hk _ (List.getElem_mem hl)) x hi
    ·have e : (r.kids.map (listR k)).getD i [] = [] := by simp [List.getD, List.getElem?_eq_none (show r.kids.length ≤ i by omega)]
     rw [e] at hi; simp at hi
   rcases List.mem_append.1 hx with hx | hx
   ·exact key 0 hx
   ·exact key 1 hx
  ·simp at hx; subst hx; exact h
theorem join_no {s t : List Span} {b : Nat} (hb : b < 256) (h1 : hasB s (b : Int) = false) (h2 : hasB t (b : Int) = false) : hasB (joinL s t) (b : Int) = false := by
 unfold joinL
 split
 ·rw [spansL_has (joinB_len s t)]
  have h : b < (joinB s t).length := by rw [joinB_len]; exact hb
  have := joinB_get s t b h
  simp [List.getD, h, this, h1, h2]
 ·simp [hasB]
theorem bag_fr {b : Nat} (hb : b < 256) : ∀ (l : List Rex) (z : Bag), (∀ x ∈ l, frR b x = true) → (∀ x ∈ z.o, frR b x = true) → hasB z.t (b : Int) = false → (∀ x ∈ (l.foldl (bagS 4) z).o, frR b x = true) ∧ hasB (l.foldl (bagS 4) z).t (b : Int) = false
 | [], z, _, h2, h3 => ⟨h2, h3⟩
 | x :: l, z, h1, h2, h3 => by
  rw [List.foldl_cons]
  have hx := h1 x (List.mem_cons_self ..)
  refine bag_fr hb l _ (fun y hy => h1 y (List.mem_cons_of_mem _ hy)) ?_ ?_
  ·unfold bagS
   split
   ·exact h2
   ·intro y hy
    rcases putR_mem hy with hy | hy
    ·exact h2 y hy
    ·rw [hy]; exact hx
  ·unfold bagS
   split
   ·rename_i hk
    have hs := (frR_i.1 hx).2.1 hk
    simp only
    split
    ·exact join_no hb h3 hs
    ·exact hs
   ·exact h3
theorem fr_bag {b : Nat} (hb : b < 256) {x y : Rex} (hx : frR b x = true) (hy : frR b y = true) : ∀ z ∈ bagR 4 x y, frR b z = true := by
 have hall : ∀ z ∈ listR 4 x ++ listR 4 y, frR b z = true := fun z hz => by
  rcases List.mem_append.1 hz with hz | hz
  ·exact fr_list 4 x hx z hz
  ·exact fr_list 4 y hy z hz
 intro z hz
 unfold bagR at hz
 simp only at hz
 have hB : bagA 4 (listR 4 x ++ listR 4 y) (listR 4 x ++ listR 4 y).length = (listR 4 x ++ listR 4 y).foldl (bagS 4) ⟨[], false, []⟩ := by unfold bagA; rw [List.take_length]
 obtain ⟨g1, g2⟩ := bag_fr hb (listR 4 x ++ listR 4 y) ⟨[], false, []⟩ hall (by simp) (by simp [hasB])
 rw [hB] at hz
 split at hz
 ·rcases putR_mem hz with hz | hz
  ·exact g1 z hz
  ·rw [hz, frR_i]
   exact ⟨⟨(by decide : (1 : Int) ≠ 6), (by decide : (1 : Int) ≠ 7)⟩, fun _ => g2, fun w hw => by simp [Rex.kids] at hw⟩
 ·exact g1 z hz
theorem fr_chain {b : Int} (k : Int) (hk : k = 3 ∨ k = 4) : ∀ l : List Rex, (∀ x ∈ l, frR b x = true) → frR b (chainR k l) = true
 | [], _ => fr_dfl b
 | [x], h => h x (by simp)
 | x :: y :: l, h => by
  have ih := fr_chain k hk (y :: l) (fun z hz => h z (List.mem_cons_of_mem _ hz))
  rw [chainR, frR_i]
  refine ⟨by simp only [Rex.kind]; omega, fun e => by simp only [Rex.kind] at e; omega, fun z hz => ?_⟩
  simp only [Rex.kids, List.mem_cons, List.not_mem_nil, or_false] at hz
  rcases hz with rfl | rfl
  ·exact h _ (by simp)
  ·exact ih
theorem fr_or {b : Nat} (hb : b < 256) {x y : Rex} (hx : frR b x = true) (hy : frR b y = true) : frR b (orN x y) = true := by
 have h := fr_bag hb hx hy
 unfold orN
 split
 ·rename_i z hz; exact h z (List.mem_of_find?_eq_some hz)
 ·exact fr_chain 4 (.inr rfl) _ h
theorem fr_cat {b : Int} (a : Rex) : ∀ c, frR b a = true → frR b c = true → frR b (catN a c) = true := by
 induction a using Rex.ind' with
 | h a ih =>
  intro c ha hc
  rw [catN_eq]
  split
  ·exact fr_nil b
  ·split
   ·exact hc
   ·split
    ·exact ha
    ·have hk := (frR_i.1 ha).2.2
     have key : ∀ i c', frR b c' = true → frR b ((a.kids.map catN).getD i id c') = true := by
      intro i c' hc'
      by_cases hl : i < a.kids.length
      ·have e : (a.kids.map catN).getD i id = catN a.kids[i] := by simp [List.getD, hl]
       rw [e]
       exact ih _ (List.getElem_mem hl) c' (hk _ (List.getElem_mem hl)) hc'
      ·have e : (a.kids.map catN).getD i id = id := by simp [List.getD, List.getElem?_eq_none (show a.kids.length ≤ i by omega)]
       rw [e]; exact hc'
     split
     ·exact key 0 _ (key 1 c hc)
     ·rw [frR_i]
      refine ⟨by simp only [Rex.kind]; omega, fun e => by simp only [Rex.kind] at e; omega, fun z hz => ?_⟩
      simp only [Rex.kids, List.mem_cons, List.not_mem_nil, or_false] at hz
      rcases hz with rfl | rfl
      ·exact ha
      ·exact hc
theorem fr_star {b : Int} {r : Rex} (h : frR b r = true) : frR b (starN r) = true := by
 unfold starN
 split
 ·exact h
 ·split
  ·exact fr_empty b
  ·rw [frR_i]
   refine ⟨by simp only [Rex.kind]; omega, fun e => by simp only [Rex.kind] at e; omega, fun z hz => ?_⟩
   simp only [Rex.kids, List.mem_cons, List.not_mem_nil, or_false] at hz
   rw [hz]; exact h
theorem fr_norm {b : Nat} (hb : b < 256) (r : Rex) : frR b r = true → frR b (normR r) = true := by
 induction r using Rex.ind' with
 | h r ih =>
  intro h
  obtain ⟨h1, h2, h3⟩ := frR_i.1 h
  have hk : ∀ i, frR b ((r.kids.map normR).getD i default) = true := fun i => fr_getD (fun x hx => by
   obtain ⟨y, hy, rfl⟩ := List.mem_map.1 hx
   exact ih y hy (h3 y hy)) i
  rw [normR_eq]
  split
  ·exact fr_cat _ _ (hk 0) (hk 1)
  ·split
   ·exact fr_or hb (hk 0) (hk 1)
   ·split
    ·rename_i e; exact absurd e h1.1
    ·split
     ·exact fr_star (hk 0)
     ·split
      ·rename_i e; exact absurd e h1.2
      ·exact h
theorem cat_nil (y : Rex) : catN (.mk 1 [] []) y = .mk 1 [] [] := by
 rw [catN_eq, if_pos (.inl rfl)]
theorem or_nil : orN (.mk 1 [] []) (.mk 1 [] []) = .mk 1 [] [] := by
 have hj : joinL [] [] = [] := set_ext (joinL_ok _ _) rfl fun c hc => by
  rw [join_no hc (by simp [hasB]) (by simp [hasB])]; simp [hasB]
 have hl : listR 4 (.mk 1 [] []) = [.mk 1 [] []] := by rw [listR_eq]; rfl
 have hb : bagR 4 (.mk 1 [] []) (.mk 1 [] []) = [.mk 1 [] []] := by
  unfold bagR
  rw [hl]
  simp [bagA, bagS, Rex.kind, Rex.set, hj, putR]
 unfold orN
 rw [hb]
 simp [allR, Rex.kind, chainR]
theorem der_none (b : Int) (r : Rex) : Okr r → frR b r = true → derR b r = .mk 1 [] [] := by
 induction r using Rex.ind' with
 | h r ih =>
  intro ho h
  obtain ⟨h1, h2, h3⟩ := frR_i.1 h
  rw [derR_eq]
  by_cases k1 : r.kind = 1
  ·rw [if_pos k1, if_neg (by rw [h2 k1]; decide)]
  rw [if_neg k1]
  by_cases k2 : r.kind = 3 ∨ r.kind = 4 ∨ r.kind = 6
  ·obtain ⟨x, y, e, hx, hy, _⟩ := okr_kids2 ho k2
   have e1 := ih x (by rw [e]; simp) hx (h3 x (by rw [e]; simp))
   have e2 := ih y (by rw [e]; simp) hy (h3 y (by rw [e]; simp))
   rw [e]
   simp only [List.map_cons, List.map_nil, List.getD_cons_zero, List.getD_cons_succ, e1, e2, cat_nil, or_nil]
   rcases k2 with k | k | k
   ·rw [if_pos k]; split <;> rfl
   ·rw [if_neg (by omega), if_pos k]
   ·exact absurd k h1.1
  ·simp only [not_or] at k2
   rw [if_neg k2.1, if_neg k2.2.1, if_neg k2.2.2]
   by_cases k5 : r.kind = 5
   ·obtain ⟨x, e, hx, _⟩ := okr_kids1 ho (.inl k5)
    have e1 := ih x (by rw [e]; simp) hx (h3 x (by rw [e]; simp))
    rw [if_pos k5, e]
    simp only [List.map_cons, List.map_nil, List.getD_cons_zero, e1, cat_nil]
   ·rw [if_neg k5, if_neg h1.2]
theorem der_no {b : Nat} (hb : b < 256) {r : Rex} (ho : Okr r) (hp : hpR r = true) (hs : ∀ s ∈ setsR r, hasB s (b : Int) = false) : derR b (normR r) = .mk 1 [] [] :=
 der_none b (normR r) (normR_ok r ho).1 (fr_norm hb r (fr_of b r hp hs))
def anyU (f : Nat → Bool) : Nat → Bool
 | 0 => false
 | n + 1 => anyU f n || f n
theorem anyU_iff (f : Nat → Bool) : ∀ n, anyU f n = true ↔ ∃ i, i < n ∧ f i = true
 | 0 => by simp [anyU]
 | n + 1 => by
  simp only [anyU, Bool.or_eq_true, anyU_iff f n]
  constructor
  ·rintro (⟨i, h1, h2⟩ | h)
   ·exact ⟨i, by omega, h2⟩
   ·exact ⟨n, by omega, h⟩
  ·rintro ⟨i, h1, h2⟩
   by_cases h : i = n
   ·subst h; exact .inr h2
   ·exact .inl ⟨i, by omega, h2⟩
theorem anyU_ext {f g : Nat → Bool} : ∀ n, (∀ i, i < n → f i = g i) → anyU f n = anyU g n
 | 0, _ => rfl
 | n + 1, h => by simp only [anyU]; rw [anyU_ext n (fun i hi => h i (by omega)), h n (by omega)]
def sub (t : Txt) (i j : Nat) : Txt := (t.take j).drop i
theorem sub_len {t : Txt} {i j : Nat} (h : j ≤ t.length) : (sub t i j).length = j - i := by simp [sub]; omega
theorem sub_take {t : Txt} {i j x : Nat} (h : i + x ≤ j) : (sub t i j).take x = sub t i (i + x) := by
 unfold sub
 rw [List.take_drop, List.take_take]
 congr 2
 omega
theorem sub_drop {t : Txt} {i j x : Nat} : (sub t i j).drop x = sub t (i + x) j := by
 unfold sub; rw [List.drop_drop]
theorem sub_app {t : Txt} {i k j : Nat} (h1 : i ≤ k) (h2 : k ≤ j) : sub t i k ++ sub t k j = sub t i j := by
 have e1 : (sub t i j).take (k - i) = sub t i k := by rw [sub_take (by omega)]; congr 1; omega
 have e2 : (sub t i j).drop (k - i) = sub t k j := by rw [sub_drop]; congr 1; omega
 rw [← e1, ← e2, List.take_append_drop]
def catB (f g : Txt → Bool) (t : Txt) : Bool := anyU (fun k => f (t.take k) && g (t.drop k)) (t.length + 1)
def okL (f : Txt → Bool) (t : Txt) : Nat → List Bool
 | 0 => [true]
 | k + 1 => okL f t k ++ [anyU (fun i => (okL f t k).getD i false && f (sub t i (k + 1))) (k + 1)]
def starB (f : Txt → Bool) (t : Txt) : Bool := (okL f t t.length).getD t.length false
inductive StarP (f : Txt → Bool) : Txt → Prop
 | nil : StarP f []
 | cons (u v : Txt) : u ≠ [] → f u = true → StarP f v → StarP f (u ++ v)
theorem StarP.one {f : Txt → Bool} {u : Txt} (h : u ≠ []) (hf : f u = true) : StarP f u := by
 have := StarP.cons u [] h hf .nil
 rwa [List.append_nil] at this
theorem StarP.app {f : Txt → Bool} {u v : Txt} (hu : StarP f u) (hv : StarP f v) : StarP f (u ++ v) := by
 induction hu with
 | nil => exact hv
 | cons a b h1 h2 _ ih => rw [List.append_assoc]; exact .cons a _ h1 h2 ih
theorem StarP.snoc {f : Txt → Bool} {w : Txt} (h : StarP f w) : w = [] ∨ ∃ v u, w = v ++ u ∧ u ≠ [] ∧ f u = true ∧ StarP f v := by
 induction h with
 | nil => exact .inl rfl
 | cons a b h1 h2 hb ih =>
  right
  rcases ih with rfl | ⟨v, u, rfl, g1, g2, g3⟩
  ·exact ⟨[], a, by simp, h1, h2, .nil⟩
  ·exact ⟨a ++ v, u, by simp, g1, g2, .cons a v h1 h2 g3⟩
theorem okL_len (f : Txt → Bool) (t : Txt) : ∀ k, (okL f t k).length = k + 1
 | 0 => rfl
 | k + 1 => by simp [okL, okL_len f t k]
def okAt (f : Txt → Bool) (t : Txt) (k : Nat) : Bool := (okL f t k).getD k false
theorem okL_get (f : Txt → Bool) (t : Txt) : ∀ k i, i ≤ k → (okL f t k).getD i false = okAt f t i
  | 0, i, h => by obtain rfl : i = 0 := by omega
                  rfl
  | k + 1, i, h => by
    by_cases hi : i = k + 1
    · subst hi; rfl
    · have hl := okL_len f t k
      have : (okL f t (k + 1)).getD i false = (okL f t k).getD i false := by
        simp only [okL, List.getD]
        rw [List.getElem?_append_left (by omega)]
      rw [this, okL_get f t k i (by omega)]
theorem okAt_0 (f : Txt → Bool) (t : Txt) : okAt f t 0 = true := rfl
theorem okAt_s (f : Txt → Bool) (t : Txt) (k : Nat) : okAt f t (k + 1) = anyU (fun i => okAt f t i && f (sub t i (k + 1))) (k + 1) := by
 have hl := okL_len f t k
 unfold okAt
 simp only [okL, List.getD]
 rw [List.getElem?_append_right (by omega)]
 simp only [hl, Nat.sub_self, List.getElem?_cons_zero, Option.getD_some]
 refine anyU_ext _ fun i hi => ?_
 have := okL_get f t k i (by omega)
 simp only [List.getD] at this
 rw [this]; rfl
theorem okAt_iff (f : Txt → Bool) (t : Txt) : ∀ (n k : Nat), k ≤ n → k ≤ t.length → (okAt f t k = true ↔ StarP f (t.take k))
 | n, 0, _, _ => by simp [okAt_0, StarP.nil]
 | 0, k + 1, h, _ => by omega
 | n + 1, k + 1, h, hk => by
  rw [okAt_s, anyU_iff]
  constructor
  ·rintro ⟨i, hi, hh⟩
   simp only [Bool.and_eq_true] at hh
   have h1 := (okAt_iff f t n i (by omega) (by omega)).1 hh.1
   have e : t.take (k + 1) = t.take i ++ sub t i (k + 1) := by
    have := sub_app (t := t) (i := 0) (k := i) (j := k + 1) (by omega) (by omega)
    simpa [sub] using this.symm
   rw [e]
   refine h1.app (StarP.one ?_ hh.2)
   intro he
   have := sub_len (t := t) (i := i) hk
   rw [he] at this
   simp at this; omega
  ·intro hs
   rcases hs.snoc with he | ⟨v, u, he, hu, hf, hv⟩
   ·have := congrArg List.length he
    rw [List.length_take, List.length_nil] at this; omega
   ·have hl := congrArg List.length he
    simp only [List.length_take, List.length_append] at hl
    have hul : 0 < u.length := List.length_pos_iff.2 hu
    have hvt : t.take v.length = v := by
     have := congrArg (List.take v.length) he
     rw [List.take_take, List.take_left] at this
     rwa [show min v.length (k + 1) = v.length by omega] at this
    have hut : sub t v.length (k + 1) = u := by
     have := congrArg (List.drop v.length) he
     rwa [List.drop_left] at this
    refine ⟨v.length, by omega, ?_⟩
    simp only [Bool.and_eq_true]
    exact ⟨(okAt_iff f t n v.length (by omega) (by omega)).2 (by rw [hvt]; exact hv), by rw [hut]; exact hf⟩
theorem starB_iff (f : Txt → Bool) (t : Txt) : starB f t = true ↔ StarP f t := by
 have := okAt_iff f t t.length t.length (Nat.le_refl _) (Nat.le_refl _)
 rw [List.take_length] at this
 exact this
def mtK (k : Int) (s : List Span) (fs : List (Txt → Bool)) (t : Txt) : Bool :=
 let f0 := fs.getD 0 (fun _ => false)
 let f1 := fs.getD 1 (fun _ => false)
 if k = 1 then (match t with | [c] => hasB s c.toNat | _ => false)
 else if k = 2 then decide (t.length = 0)
 else if k = 3 then catB f0 f1 t
 else if k = 4 then f0 t || f1 t
 else if k = 5 then starB f0 t
 else if k = 6 then f0 t && f1 t
 else !f0 t
def mt : Rex → Txt → Bool
 | .mk k s ks => mtK k s (ks.map mt)
theorem mt_eq (r : Rex) : mt r = mtK r.kind r.set (r.kids.map mt) := by cases r; rw [mt]; rfl

def tb (f : Txt → Bool) (t : Txt) (k : Nat) (cur : Bool) (j : Nat) : AV := .bool (if j < k then okAt f t j else if j = k then cur else false)

def part (r : Rex) (t : Txt) (size i0 i j : Nat) : Bool := decide (i ≤ j ∧ j ≤ t.length ∧ (j - i < size ∨ (j - i = size ∧ i < i0))) && mt r (sub t i j)

theorem fits_matchWord (t : Txt) : Fits prog 45 [.str t] (.bool (decide ((t.length : Int) ≤ 12))) [] := by
 refine fits_of_code [2] [] [0, 2] func45 rfl rfl rfl (by rfl) (by show 1 ≤ 6; decide) (by rfl) (by rfl) (by show 0 ≤ 1; decide) (by rfl) (run_of ?_)
 exact Zc tis
theorem kids_0 {r : Rex} (h : r.kids.length = 0) : r.kids = [] := List.eq_nil_of_length_eq_zero h
theorem kids_1 {r : Rex} (h : r.kids.length = 1) : ∃ a, r.kids = [a] := List.length_eq_one_iff.1 h
theorem kids_2 {r : Rex} (h : r.kids.length = 2) : ∃ a b, r.kids = [a, b] := by
 match r.kids, h with
 | [a, b], _ => exact ⟨a, b, rfl⟩
theorem fm_cases {d : Nat} {r : Rex} (h : fm (d + 1) r = true) : (r.kind = 1 ∧ r.kids = []) ∨ (r.kind = 2 ∧ r.kids = []) ∨ (∃ a b, r.kind = 3 ∧ r.kids = [a, b]) ∨ (∃ a b, r.kind = 4 ∧ r.kids = [a, b]) ∨ (∃ a, r.kind = 5 ∧ r.kids = [a]) ∨ (∃ a b, r.kind = 6 ∧ r.kids = [a, b]) ∨ (∃ a, r.kind = 7 ∧ r.kids = [a]) := by
 have h1 := (fm_ok h).1
 unfold kidsN at h1
 split at h1
 ·rename_i hk
  have := kids_0 (r := r) (by omega)
  rcases hk with hk | hk
  ·exact .inl ⟨hk, this⟩
  ·exact .inr (.inl ⟨hk, this⟩)
 ·split at h1
  ·rename_i hk
   obtain ⟨a, ha⟩ := kids_1 (r := r) (by omega)
   rcases hk with hk | hk
   ·exact .inr (.inr (.inr (.inr (.inl ⟨a, hk, ha⟩))))
   ·exact .inr (.inr (.inr (.inr (.inr (.inr ⟨a, hk, ha⟩)))))
  ·split at h1
   ·rename_i hk
    obtain ⟨a, b, ha⟩ := kids_2 (r := r) (by omega)
    rcases hk with hk | hk | hk
    ·exact .inr (.inr (.inl ⟨a, b, hk, ha⟩))
    ·exact .inr (.inr (.inr (.inl ⟨a, b, hk, ha⟩)))
    ·exact .inr (.inr (.inr (.inr (.inr (.inl ⟨a, b, hk, ha⟩)))))
   ·omega
theorem mtK_1 (s : List Span) (fs : List (Txt → Bool)) (t : Txt) : mtK 1 s fs t = (match t with | [c] => hasB s c.toNat | _ => false) := rfl
theorem mtK_2 (s : List Span) (fs : List (Txt → Bool)) (t : Txt) : mtK 2 s fs t = decide (t.length = 0) := rfl
theorem mtK_3 (s : List Span) (f g : Txt → Bool) (t : Txt) : mtK 3 s [f, g] t = catB f g t := rfl
theorem mtK_4 (s : List Span) (f g : Txt → Bool) (t : Txt) : mtK 4 s [f, g] t = (f t || g t) := rfl
theorem mtK_5 (s : List Span) (f : Txt → Bool) (t : Txt) : mtK 5 s [f] t = starB f t := rfl
theorem mtK_6 (s : List Span) (f g : Txt → Bool) (t : Txt) : mtK 6 s [f, g] t = (f t && g t) := rfl
theorem mtK_7 (s : List Span) (f : Txt → Bool) (t : Txt) : mtK 7 s [f] t = !f t := rfl


theorem catB_0 (f g : Txt → Bool) : catB f g [] = (f [] && g []) := by simp [catB, anyU]
theorem starB_0 (f : Txt → Bool) : starB f [] = true := (starB_iff f []).2 .nil
theorem fits_null (r : Rex) (d : Nat) (hf : fm d r = true) (hb : bd r ≤ 1048576) : Fits prog 90 [eRex false r] (.bool (mt r [])) [] := by
 induction d generalizing r with
 | zero => simp [fm] at hf
 | succ d ih =>
  have hk := (fm_ok hf).2.2.2
  have cF : ∀ x ∈ r.kids, Fits prog 90 [eRex false x] (.bool (mt x [])) [] := fun x hx => ih x (hk x hx) (Nat.le_trans (bd_kid hx) hb)
  rw [mt_eq, eRex_eq]
  rcases fm_cases hf with ⟨k, e⟩ | ⟨k, e⟩ | ⟨a, b, k, e⟩ | ⟨a, b, k, e⟩ | ⟨a, k, e⟩ | ⟨a, b, k, e⟩ | ⟨a, k, e⟩
  ·rw [k, e]
   refine fits_of_code [2] [] [0, 1, 2, 4, 5, 8, 23, 37] func90 rfl rfl rfl (by rfl) (by show 1 ≤ 45; decide) (by rfl) (by rfl) (by show 0 ≤ 1; decide) (by rfl) (run_of ?_)
   exact Zc (Z4 tis fls @mtK_1 @LLmapnil)
  ·rw [k, e]
   refine fits_of_code [2] [] [0, 1, 2, 4, 5, 8, 23, 37] func90 rfl rfl rfl (by rfl) (by show 1 ≤ 45; decide) (by rfl) (by rfl) (by show 0 ≤ 1; decide) (by rfl) (run_of ?_)
   exact Zc (Z5 tis fls @mtK_2 @LLmapnil @LLlennil)
  ·rw [e] at cF
   have ca := cF a (by simp)
   have cb := cF b (by simp)
   rw [k, e]
   simp only [List.map_cons, List.map_nil, mtK_3, catB_0]
   simp only [eRex_eq] at *
   cases ha : mt a [] with
   | true =>
    rw [ha] at ca
    refine fits_of_code [2] [] [0, 1, 2, 4, 5, 8, 23, 37] func90 rfl rfl rfl (by rfl) (by show 1 ≤ 45; decide) (by rfl) (by rfl) (by show 0 ≤ 1; decide) (by rfl) (run_of ?_)
    refine Zo (Z3 tis fls rx) ?_
    refine callB ca ?_
    refine Zo (Z3 tis fls rx) ?_
    refine callB cb ?_
    exact Zc (Z3 tis fls rx)
   | false =>
    rw [ha] at ca
    refine fits_of_code [2] [] [0, 1, 2, 4, 5, 8, 23, 37] func90 rfl rfl rfl (by rfl) (by show 1 ≤ 45; decide) (by rfl) (by rfl) (by show 0 ≤ 1; decide) (by rfl) (run_of ?_)
    refine Zo (Z3 tis fls rx) ?_
    refine callB ca ?_
    exact Zc (Z3 tis fls rx)
  ·rw [e] at cF
   have ca := cF a (by simp)
   have cb := cF b (by simp)
   rw [k, e]
   simp only [List.map_cons, List.map_nil, mtK_4]
   simp only [eRex_eq] at *
   cases ha : mt a [] with
   | true =>
    rw [ha] at ca
    refine fits_of_code [2] [] [0, 1, 2, 4, 5, 8, 23, 37] func90 rfl rfl rfl (by rfl) (by show 1 ≤ 45; decide) (by rfl) (by rfl) (by show 0 ≤ 1; decide) (by rfl) (run_of ?_)
    refine Zo (Z3 tis fls rx) ?_
    refine callB ca ?_
    exact Zc (Z3 tis fls rx)
   | false =>
    rw [ha] at ca
    refine fits_of_code [2] [] [0, 1, 2, 4, 5, 8, 23, 37] func90 rfl rfl rfl (by rfl) (by show 1 ≤ 45; decide) (by rfl) (by rfl) (by show 0 ≤ 1; decide) (by rfl) (run_of ?_)
    refine Zo (Z3 tis fls rx) ?_
    refine callB ca ?_
    refine Zo (Z3 tis fls rx) ?_
    refine callB cb ?_
    exact Zc (Z3 tis fls rx)
  ·rw [k, e]
   simp only [List.map_cons, List.map_nil, mtK_5, starB_0]
   refine fits_of_code [2] [] [0, 1, 2, 4, 5, 8, 23, 37] func90 rfl rfl rfl (by rfl) (by show 1 ≤ 45; decide) (by rfl) (by rfl) (by show 0 ≤ 1; decide) (by rfl) (run_of ?_)
   exact Zc (Z3 tis fls rx)
  ·rw [e] at cF
   have ca := cF a (by simp)
   have cb := cF b (by simp)
   rw [k, e]
   simp only [List.map_cons, List.map_nil, mtK_6]
   simp only [eRex_eq] at *
   cases ha : mt a [] with
   | true =>
    rw [ha] at ca
    refine fits_of_code [2] [] [0, 1, 2, 4, 5, 8, 23, 37] func90 rfl rfl rfl (by rfl) (by show 1 ≤ 45; decide) (by rfl) (by rfl) (by show 0 ≤ 1; decide) (by rfl) (run_of ?_)
    refine Zo (Z3 tis fls rx) ?_
    refine callB ca ?_
    refine Zo (Z3 tis fls rx) ?_
    refine callB cb ?_
    exact Zc (Z3 tis fls rx)
   | false =>
    rw [ha] at ca
    refine fits_of_code [2] [] [0, 1, 2, 4, 5, 8, 23, 37] func90 rfl rfl rfl (by rfl) (by show 1 ≤ 45; decide) (by rfl) (by rfl) (by show 0 ≤ 1; decide) (by rfl) (run_of ?_)
    refine Zo (Z3 tis fls rx) ?_
    refine callB ca ?_
    exact Zc (Z3 tis fls rx)
  ·rw [e] at cF
   have ca := cF a (by simp)
   rw [k, e]
   simp only [List.map_cons, List.map_nil, mtK_7]
   simp only [eRex_eq] at *
   refine fits_of_code [2] [] [0, 1, 2, 4, 5, 8, 23, 37] func90 rfl rfl rfl (by rfl) (by show 1 ≤ 45; decide) (by rfl) (by rfl) (by show 0 ≤ 1; decide) (by rfl) (run_of ?_)
   refine Zo (Z3 tis fls rx) ?_
   refine callB ca ?_
   exact Zc (Z3 tis fls rx)
theorem nul_mt (r : Rex) : Okr r → nulN r = mt r [] := by
 induction r using Rex.ind' with
 | h r ih =>
  rintro ⟨d, hd⟩
  cases d with
  | zero => simp [fm] at hd
  | succ d =>
   have hk := (fm_ok hd).2.2.2
   have ih : ∀ x ∈ r.kids, nulN x = mt x [] := fun x hx => ih x hx ⟨d, hk x hx⟩
   rw [mt_eq, nulN_eq]
   rcases fm_cases hd with ⟨k, e⟩ | ⟨k, e⟩ | ⟨a, b, k, e⟩ | ⟨a, b, k, e⟩ | ⟨a, k, e⟩ | ⟨a, b, k, e⟩ | ⟨a, k, e⟩
   ·rw [k, e]; simp [mtK_1]
   ·rw [k, e]; simp [mtK_2]
   ·rw [e] at ih; have ha := ih a (by simp); have hb := ih b (by simp)
    rw [k, e]; simp [mtK_3, catB_0, ha, hb]
   ·rw [e] at ih; have ha := ih a (by simp); have hb := ih b (by simp)
    rw [k, e]; simp [mtK_4, ha, hb]
   ·rw [k, e]; simp [mtK_5, starB_0]
   ·rw [e] at ih; have ha := ih a (by simp); have hb := ih b (by simp)
    rw [k, e]; simp [mtK_6, ha, hb]
   ·rw [e] at ih; have ha := ih a (by simp)
    rw [k, e]; simp [mtK_7, ha]
theorem fits_nul (r : Rex) (hr : Okr r) (hb : bd r ≤ 1048576) : Fits prog 90 [eRex false r] (.bool (nulN r)) [] := by
 rw [nul_mt r hr]
 obtain ⟨d, hd⟩ := hr
 exact fits_null r d hd hb
theorem fits_deriv (b : Int) (r : Rex) : Okr r → gB (bd r) ≤ 500000000 → Fits prog 47 [eRex false r, .int .i64 b] (eRex false (derR b r)) [] := by
 induction r using Rex.ind' with
 | h r ih =>
  intro hr hb
  have er := eRex_eq false r
  have hB : bd r ≤ gB (bd r) := by rw [gB_eq]; omega
  have hB2 : bd r ≤ 1048576 := by
   rcases Nat.lt_or_ge 1048576 (bd r) with h | h
   ·have h1 : 1048576 * 1048576 ≤ bd r * bd r := Nat.mul_le_mul (by omega) (by omega)
    rw [gB_eq] at hb; omega
   ·exact h
  have eN : eRex false (.mk 1 [] []) = .agg [.int .i64 1, .sl false 2 [], .sl false 3 []] := by rw [eRex_eq]; rfl
  have eE : eRex false (.mk 2 [] []) = .agg [.int .i64 2, .sl false 2 [], .sl false 3 []] := by rw [eRex_eq]; rfl
  have c0 := fits_nothingR
  rw [eN] at c0
  rw [derR_eq]
  by_cases h2 : r.kind = 3 ∨ r.kind = 4 ∨ r.kind = 6
  ·obtain ⟨x, y, e, hx, hy, hl⟩ := okr_kids2 hr h2
   have g := gB_two (bd x) (bd y) (bd r) (by omega)
   have c1 := ih x (by rw [e]; simp) hx (by omega)
   have c2 := ih y (by rw [e]; simp) hy (by omega)
   obtain ⟨p1, p2⟩ := derR_ok b x hx
   obtain ⟨q1, q2⟩ := derR_ok b y hy
   have hc := catN_ok (derR b x) y p1 hy
   have d1 := fits_normCat (derR b x) y p1 hy (by omega)
   have d2 := fits_normOr (catN (derR b x) y) (derR b y) hc.1 q1 (by omega)
   have d3 := fits_normOr (derR b x) (derR b y) p1 q1 (by omega)
   have d4 := fits_normAnd (derR b x) (derR b y) p1 q1 (by omega)
   have cN := fits_nul x hx (by omega)
   rw [er, e]
   simp only [List.map_cons, List.map_nil, List.getD_cons_zero, List.getD_cons_succ]
   clear ih p2 q2 hc g
   generalize derR b x = X at *
   generalize derR b y = Y at *
   generalize catN X y = C at *
   generalize orN C Y = O at *
   generalize orN X Y = P at *
   generalize andN X Y = A at *
   rw [eRex_eq false x, eRex_eq false X] at c1
   rw [eRex_eq false y, eRex_eq false Y] at c2
   rw [eRex_eq false X, eRex_eq false y, eRex_eq false C] at d1
   rw [eRex_eq false C, eRex_eq false Y, eRex_eq false O] at d2
   rw [eRex_eq false X, eRex_eq false Y, eRex_eq false P] at d3
   rw [eRex_eq false X, eRex_eq false Y, eRex_eq false A] at d4
   rw [eRex_eq false x] at cN
   rcases h2 with h | h | h
   ·rw [if_neg (by omega), if_pos h]
    generalize nulN x = nx at *
    cases nx with
    | true =>
     rw [if_pos rfl, eRex_eq false O]
     refine fits_of_cell 4 30 [] [0, 1, 2, 4, 5, 7, 8, 13, 15, 32, 42, 57, 72, 82] func47 rfl rfl rfl (by show 4 < 92; decide) (by show 2 ≤ 92; decide) (by rfl) (by rfl) (by show 0 ≤ 2; decide) (by rfl) (run_of ?_)
     (repeat (first | refine Zo (Z6 tis rx fls @eRex_eq @h Zi) ?_ | refine .inl ⟨by kernel_rfl, ?_⟩ | exact .inl (by show _ = _; kernel_rfl) | exact Zc (Z6 tis rx fls @eRex_eq @h Zi)); try ((first | refine callL c1 ?_ | refine callB c1 ?_); repeat (first | refine Zo (Z6 tis rx fls @eRex_eq @h Zi) ?_ | refine .inl ⟨by kernel_rfl, ?_⟩ | exact .inl (by show _ = _; kernel_rfl) | exact Zc (Z6 tis rx fls @eRex_eq @h Zi))); try ((first | refine callL d1 ?_ | refine callB d1 ?_); repeat (first | refine Zo (Z6 tis rx fls @eRex_eq @h Zi) ?_ | refine .inl ⟨by kernel_rfl, ?_⟩ | exact .inl (by show _ = _; kernel_rfl) | exact Zc (Z6 tis rx fls @eRex_eq @h Zi))); try ((first | refine callL cN ?_ | refine callB cN ?_); repeat (first | refine Zo (Z6 tis rx fls @eRex_eq @h Zi) ?_ | refine .inl ⟨by kernel_rfl, ?_⟩ | exact .inl (by show _ = _; kernel_rfl) | exact Zc (Z6 tis rx fls @eRex_eq @h Zi))); try ((first | refine callL c2 ?_ | refine callB c2 ?_); repeat (first | refine Zo (Z6 tis rx fls @eRex_eq @h Zi) ?_ | refine .inl ⟨by kernel_rfl, ?_⟩ | exact .inl (by show _ = _; kernel_rfl) | exact Zc (Z6 tis rx fls @eRex_eq @h Zi))); try ((first | refine callL d2 ?_ | refine callB d2 ?_); repeat (first | refine Zo (Z6 tis rx fls @eRex_eq @h Zi) ?_ | refine .inl ⟨by kernel_rfl, ?_⟩ | exact .inl (by show _ = _; kernel_rfl) | exact Zc (Z6 tis rx fls @eRex_eq @h Zi))))
    | false =>
     rw [if_neg (by decide), eRex_eq false C]
     refine fits_of_cell 4 30 [] [0, 1, 2, 4, 5, 7, 8, 13, 15, 32, 42, 57, 72, 82] func47 rfl rfl rfl (by show 4 < 92; decide) (by show 2 ≤ 92; decide) (by rfl) (by rfl) (by show 0 ≤ 2; decide) (by rfl) (run_of ?_)
     (repeat (first | refine Zo (Z6 tis rx fls @eRex_eq @h Zi) ?_ | refine .inl ⟨by kernel_rfl, ?_⟩ | exact .inl (by show _ = _; kernel_rfl) | exact Zc (Z6 tis rx fls @eRex_eq @h Zi)); try ((first | refine callL c1 ?_ | refine callB c1 ?_); repeat (first | refine Zo (Z6 tis rx fls @eRex_eq @h Zi) ?_ | refine .inl ⟨by kernel_rfl, ?_⟩ | exact .inl (by show _ = _; kernel_rfl) | exact Zc (Z6 tis rx fls @eRex_eq @h Zi))); try ((first | refine callL d1 ?_ | refine callB d1 ?_); repeat (first | refine Zo (Z6 tis rx fls @eRex_eq @h Zi) ?_ | refine .inl ⟨by kernel_rfl, ?_⟩ | exact .inl (by show _ = _; kernel_rfl) | exact Zc (Z6 tis rx fls @eRex_eq @h Zi))); try ((first | refine callL cN ?_ | refine callB cN ?_); repeat (first | refine Zo (Z6 tis rx fls @eRex_eq @h Zi) ?_ | refine .inl ⟨by kernel_rfl, ?_⟩ | exact .inl (by show _ = _; kernel_rfl) | exact Zc (Z6 tis rx fls @eRex_eq @h Zi))))
   ·rw [if_neg (by omega), if_neg (by omega), if_pos h, eRex_eq false P]
    refine fits_of_cell 4 30 [] [0, 1, 2, 4, 5, 7, 8, 13, 15, 32, 42, 57, 72, 82] func47 rfl rfl rfl (by show 4 < 92; decide) (by show 2 ≤ 92; decide) (by rfl) (by rfl) (by show 0 ≤ 2; decide) (by rfl) (run_of ?_)
    (repeat (first | refine Zo (Z6 tis rx fls @eRex_eq @h Zi) ?_ | refine .inl ⟨by kernel_rfl, ?_⟩ | exact .inl (by show _ = _; kernel_rfl) | exact Zc (Z6 tis rx fls @eRex_eq @h Zi)); try ((first | refine callL c1 ?_ | refine callB c1 ?_); repeat (first | refine Zo (Z6 tis rx fls @eRex_eq @h Zi) ?_ | refine .inl ⟨by kernel_rfl, ?_⟩ | exact .inl (by show _ = _; kernel_rfl) | exact Zc (Z6 tis rx fls @eRex_eq @h Zi))); try ((first | refine callL c2 ?_ | refine callB c2 ?_); repeat (first | refine Zo (Z6 tis rx fls @eRex_eq @h Zi) ?_ | refine .inl ⟨by kernel_rfl, ?_⟩ | exact .inl (by show _ = _; kernel_rfl) | exact Zc (Z6 tis rx fls @eRex_eq @h Zi))); try ((first | refine callL d3 ?_ | refine callB d3 ?_); repeat (first | refine Zo (Z6 tis rx fls @eRex_eq @h Zi) ?_ | refine .inl ⟨by kernel_rfl, ?_⟩ | exact .inl (by show _ = _; kernel_rfl) | exact Zc (Z6 tis rx fls @eRex_eq @h Zi))))
   ·rw [if_neg (by omega), if_neg (by omega), if_neg (by omega), if_pos h, eRex_eq false A]
    refine fits_of_cell 4 30 [] [0, 1, 2, 4, 5, 7, 8, 13, 15, 32, 42, 57, 72, 82] func47 rfl rfl rfl (by show 4 < 92; decide) (by show 2 ≤ 92; decide) (by rfl) (by rfl) (by show 0 ≤ 2; decide) (by rfl) (run_of ?_)
    (repeat (first | refine Zo (Z6 tis rx fls @eRex_eq @h Zi) ?_ | refine .inl ⟨by kernel_rfl, ?_⟩ | exact .inl (by show _ = _; kernel_rfl) | exact Zc (Z6 tis rx fls @eRex_eq @h Zi)); try ((first | refine callL c1 ?_ | refine callB c1 ?_); repeat (first | refine Zo (Z6 tis rx fls @eRex_eq @h Zi) ?_ | refine .inl ⟨by kernel_rfl, ?_⟩ | exact .inl (by show _ = _; kernel_rfl) | exact Zc (Z6 tis rx fls @eRex_eq @h Zi))); try ((first | refine callL c2 ?_ | refine callB c2 ?_); repeat (first | refine Zo (Z6 tis rx fls @eRex_eq @h Zi) ?_ | refine .inl ⟨by kernel_rfl, ?_⟩ | exact .inl (by show _ = _; kernel_rfl) | exact Zc (Z6 tis rx fls @eRex_eq @h Zi))); try ((first | refine callL d4 ?_ | refine callB d4 ?_); repeat (first | refine Zo (Z6 tis rx fls @eRex_eq @h Zi) ?_ | refine .inl ⟨by kernel_rfl, ?_⟩ | exact .inl (by show _ = _; kernel_rfl) | exact Zc (Z6 tis rx fls @eRex_eq @h Zi))))
  ·simp only [not_or] at h2
   by_cases h1 : r.kind = 5 ∨ r.kind = 7
   ·obtain ⟨x, e, hx, hl⟩ := okr_kids1 hr h1
    have g := gB_one (bd x) (bd r) (by omega)
    have c1 := ih x (by rw [e]; simp) hx (by omega)
    obtain ⟨p1, p2⟩ := derR_ok b x hx
    have d1 := fits_normCat (derR b x) r p1 hr (by omega)
    have d2 := fits_normNot (derR b x) p1 (by omega)
    have er2 := er
    rw [e] at er2 ⊢
    simp only [List.map_cons, List.map_nil, List.getD_cons_zero] at er2 ⊢
    clear ih p2 g
    generalize derR b x = X at *
    generalize catN X r = C at *
    generalize notN X = N at *
    rw [eRex_eq false x, eRex_eq false X] at c1
    rw [eRex_eq false X, er2, eRex_eq false C] at d1
    rw [eRex_eq false X, eRex_eq false N] at d2
    rw [er2]
    rcases h1 with h | h
    ·rw [if_neg (by omega), if_neg (by omega), if_neg (by omega), if_neg (by omega), if_pos h, eRex_eq false C]
     rw [h] at d1
     refine fits_of_cell 4 30 [] [0, 1, 2, 4, 5, 7, 8, 13, 15, 32, 42, 57, 72, 82] func47 rfl rfl rfl (by show 4 < 92; decide) (by show 2 ≤ 92; decide) (by rfl) (by rfl) (by show 0 ≤ 2; decide) (by rfl) (run_of ?_)
     (repeat (first | refine Zo (Z6 tis rx fls @eRex_eq @h Zi) ?_ | refine .inl ⟨by kernel_rfl, ?_⟩ | exact .inl (by show _ = _; kernel_rfl) | exact Zc (Z6 tis rx fls @eRex_eq @h Zi)); try ((first | refine callL c1 ?_ | refine callB c1 ?_); repeat (first | refine Zo (Z6 tis rx fls @eRex_eq @h Zi) ?_ | refine .inl ⟨by kernel_rfl, ?_⟩ | exact .inl (by show _ = _; kernel_rfl) | exact Zc (Z6 tis rx fls @eRex_eq @h Zi))); try ((first | refine callL d1 ?_ | refine callB d1 ?_); repeat (first | refine Zo (Z6 tis rx fls @eRex_eq @h Zi) ?_ | refine .inl ⟨by kernel_rfl, ?_⟩ | exact .inl (by show _ = _; kernel_rfl) | exact Zc (Z6 tis rx fls @eRex_eq @h Zi))))
    ·rw [if_neg (by omega), if_neg (by omega), if_neg (by omega), if_neg (by omega), if_neg (by omega), if_pos h, eRex_eq false N]
     refine fits_of_cell 4 30 [] [0, 1, 2, 4, 5, 7, 8, 13, 15, 32, 42, 57, 72, 82] func47 rfl rfl rfl (by show 4 < 92; decide) (by show 2 ≤ 92; decide) (by rfl) (by rfl) (by show 0 ≤ 2; decide) (by rfl) (run_of ?_)
     (repeat (first | refine Zo (Z6 tis rx fls @eRex_eq @h Zi) ?_ | refine .inl ⟨by kernel_rfl, ?_⟩ | exact .inl (by show _ = _; kernel_rfl) | exact Zc (Z6 tis rx fls @eRex_eq @h Zi)); try ((first | refine callL c1 ?_ | refine callB c1 ?_); repeat (first | refine Zo (Z6 tis rx fls @eRex_eq @h Zi) ?_ | refine .inl ⟨by kernel_rfl, ?_⟩ | exact .inl (by show _ = _; kernel_rfl) | exact Zc (Z6 tis rx fls @eRex_eq @h Zi))); try ((first | refine callL d2 ?_ | refine callB d2 ?_); repeat (first | refine Zo (Z6 tis rx fls @eRex_eq @h Zi) ?_ | refine .inl ⟨by kernel_rfl, ?_⟩ | exact .inl (by show _ = _; kernel_rfl) | exact Zc (Z6 tis rx fls @eRex_eq @h Zi))))
   ·simp only [not_or] at h1
    obtain ⟨n1, n2, n3⟩ := h2
    obtain ⟨n4, n5⟩ := h1
    by_cases k1 : r.kind = 1
    ·have cS := fits_setHas r.set b (by have := bd_eq r; omega)
     rw [if_pos k1, er]
     cases hb2 : hasB r.set b with
     | true =>
      rw [hb2] at cS
      rw [if_pos rfl, eE]
      refine fits_as (res := .agg [.int .i64 2, .sl true 2 [], .sl true 3 []]) ?_ rfl
      refine fits_of_cell 4 30 [] [0, 1, 2, 4, 5, 7, 8, 13, 15, 32, 42, 57, 72, 82] func47 rfl rfl rfl (by show 4 < 92; decide) (by show 2 ≤ 92; decide) (by rfl) (by rfl) (by show 0 ≤ 2; decide) (by rfl) (run_of ?_)
      (repeat (first | refine Zo (Z5 tis rx fls @k1 Zi) ?_ | refine .inl ⟨by kernel_rfl, ?_⟩ | exact .inl (by show _ = _; kernel_rfl) | exact Zc (Z5 tis rx fls @k1 Zi)); try ((first | refine callL cS ?_ | refine callB cS ?_); repeat (first | refine Zo (Z5 tis rx fls @k1 Zi) ?_ | refine .inl ⟨by kernel_rfl, ?_⟩ | exact .inl (by show _ = _; kernel_rfl) | exact Zc (Z5 tis rx fls @k1 Zi))))
     | false =>
      rw [hb2] at cS
      rw [if_neg (by decide), eN]
      refine fits_of_cell 4 30 [] [0, 1, 2, 4, 5, 7, 8, 13, 15, 32, 42, 57, 72, 82] func47 rfl rfl rfl (by show 4 < 92; decide) (by show 2 ≤ 92; decide) (by rfl) (by rfl) (by show 0 ≤ 2; decide) (by rfl) (run_of ?_)
      (repeat (first | refine Zo (Z5 tis rx fls @k1 Zi) ?_ | refine .inl ⟨by kernel_rfl, ?_⟩ | exact .inl (by show _ = _; kernel_rfl) | exact Zc (Z5 tis rx fls @k1 Zi)); try ((first | refine callL cS ?_ | refine callB cS ?_); repeat (first | refine Zo (Z5 tis rx fls @k1 Zi) ?_ | refine .inl ⟨by kernel_rfl, ?_⟩ | exact .inl (by show _ = _; kernel_rfl) | exact Zc (Z5 tis rx fls @k1 Zi))); try ((first | refine callL c0 ?_ | refine callB c0 ?_); repeat (first | refine Zo (Z5 tis rx fls @k1 Zi) ?_ | refine .inl ⟨by kernel_rfl, ?_⟩ | exact .inl (by show _ = _; kernel_rfl) | exact Zc (Z5 tis rx fls @k1 Zi))))
    ·rw [if_neg k1, if_neg n1, if_neg n2, if_neg n3, if_neg n4, if_neg n5, er, eN]
     refine fits_of_cell 4 30 [] [0, 1, 2, 4, 5, 7, 8, 13, 15, 32, 42, 57, 72, 82] func47 rfl rfl rfl (by show 4 < 92; decide) (by show 2 ≤ 92; decide) (by rfl) (by rfl) (by show 0 ≤ 2; decide) (by rfl) (run_of ?_)
     (repeat (first | refine callL c0 ?_ | refine callB c0 ?_ | refine Zo (Z10 tis rx fls @k1 @n1 @n2 @n3 @n4 @n5 Zi) ?_ | refine .inl ⟨by kernel_rfl, ?_⟩ | exact .inl (by show _ = _; kernel_rfl) | exact Zc (Z10 tis rx fls @k1 @n1 @n2 @n3 @n4 @n5 Zi)))
theorem fits_setsOf (r : Rex) : bd r ≤ 1099511627776 → ∀ out : List (List Span), out.length + (setsR r).length ≤ 1099511627776 → Fits prog 55 [eRex false r, .sl true 1 (out.map (eSpans false))] (.sl true 1 ((out ++ setsR r).map (eSpans false))) [] := by
 induction r using Rex.ind' with
 | h r ih =>
  intro hb out ho
  have hbd := bd_eq r
  have hE := kidS_e r
  have e0 : kidS r 0 = if r.kind = 1 then [r.set] else [] := by unfold kidS; split <;> simp
  have cC : Fits prog 73 [.sl false 2 (r.set.map eSpan)] (.sl false 2 (r.set.map eSpan)) [] := fits_as (fits_copiedSpan r.set (by omega)) (by simp [erase, fls])
  rw [eRex_eq]
  refine fits_of_code [4] [] [0, 1, 2, 4, 6, 9, 17, 18, 19, 20] func55 rfl rfl rfl (by rfl) (by show 2 ≤ 28; decide) (by rfl) (by rfl) (by show 0 ≤ 2; decide) (by rfl) (run_of ?_)
  generalize hk : r.kind = k at *
  have e1 : (out ++ [r.set]).map (eSpans false) = out.map (eSpans false) ++ [.sl false 2 (r.set.map eSpan)] := by simp [eSpans]
  have go : ∀ i, i ≤ r.kids.length → out.length + (kidS r i).length ≤ 1099511627776 := by
   intro i hi
   have h1 : (setsR r).length = (kidS r r.kids.length).length := by rw [hE]
   have h2 : (kidS r i).length ≤ (kidS r r.kids.length).length := by
    unfold kidS
    have := congrArg List.length (congrArg List.flatten (List.take_append_drop i (r.kids.map setsR)))
    rw [List.take_of_length_le (i := r.kids.length) (by simp)]
    simp only [List.flatten_append, List.length_append] at this ⊢
    omega
   omega
  rcases Bool.eq_false_or_eq_true (k == 1) with h1 | h1
  ·rw [if_pos (by simpa using h1)] at e0
   (first | refine Zo (Z4 tis rx fls @h1) ?_ | exact Zc (Z4 tis rx fls @h1))
   refine callB cC ?_
   (first | refine Zo (Z4 tis rx fls @h1) ?_ | exact Zc (Z4 tis rx fls @h1))
   refine run_loop (α := Nat) (fun i => i ≤ r.kids.length) (fun i => [(1, .sl true 1 ((out ++ kidS r i).map (eSpans false))), (17, .sl false 3 (r.kids.map (eRex false))), (18, .int .i64 r.kids.length), (19, .int .i64 i)]) (fun i => r.kids.length - i) 0 (Nat.zero_le _) ?_ ?_
   ·rw [e0, e1]
    (first | refine Zo (Z3 tis rx fls) ?_ | exact Zc (Z3 tis rx fls))
   ·intro i hi'
    have hkl := go i hi'
    by_cases hi : i < r.kids.length
    ·have hm := List.getElem_mem hi
     have hk1 := go (i + 1) (by omega)
     rw [kidS_s hi, List.length_append] at hk1
     have cK := ih r.kids[i] hm (Nat.le_trans (bd_kid hm) hb) (out ++ kidS r i) (by have := go (i + 1) (by omega); rw [kidS_s hi, List.length_append] at this; rw [List.length_append]; omega)
     rw [eRex_eq] at cK
     (repeat (first | refine callV cK ?_ | refine Zo (Z6 tis rx fls @dx @eRex_eq Zi) ?_ | refine .inl ⟨by kernel_rfl, ?_⟩ | exact .inl (by show _ = _; kernel_rfl) | exact Zc (Z6 tis rx fls @dx @eRex_eq Zi)))
     refine round_normal (i + 1) (by omega) ?_ (by show r.kids.length - (i + 1) < r.kids.length - i; omega)
     rw [kidS_s hi, ← List.append_assoc]
     (first | refine Zo tis ?_ | exact Zc tis)
    ·obtain rfl : i = r.kids.length := by omega
     rw [hE]
     (repeat (first | refine Zo (Z5 tis rx fls @dx Zi) ?_ | refine .inl ⟨by kernel_rfl, ?_⟩ | exact .inl (by show _ = _; kernel_rfl) | exact Zc (Z5 tis rx fls @dx Zi)))
  ·rw [if_neg (by simpa using h1)] at e0
   (first | refine Zo (Z4 tis rx fls @h1) ?_ | exact Zc (Z4 tis rx fls @h1))
   refine run_loop (α := Nat) (fun i => i ≤ r.kids.length) (fun i => [(1, .sl true 1 ((out ++ kidS r i).map (eSpans false))), (17, .sl false 3 (r.kids.map (eRex false))), (18, .int .i64 r.kids.length), (19, .int .i64 i)]) (fun i => r.kids.length - i) 0 (Nat.zero_le _) ?_ ?_
   ·rw [e0, List.append_nil]
    (first | refine Zo (Z3 tis rx fls) ?_ | exact Zc (Z3 tis rx fls))
   ·intro i hi'
    have hkl := go i hi'
    by_cases hi : i < r.kids.length
    ·have hm := List.getElem_mem hi
     have hk1 := go (i + 1) (by omega)
     rw [kidS_s hi, List.length_append] at hk1
     have cK := ih r.kids[i] hm (Nat.le_trans (bd_kid hm) hb) (out ++ kidS r i) (by have := go (i + 1) (by omega); rw [kidS_s hi, List.length_append] at this; rw [List.length_append]; omega)
     rw [eRex_eq] at cK
     (repeat (first | refine callV cK ?_ | refine Zo (Z6 tis rx fls @dx @eRex_eq Zi) ?_ | refine .inl ⟨by kernel_rfl, ?_⟩ | exact .inl (by show _ = _; kernel_rfl) | exact Zc (Z6 tis rx fls @dx @eRex_eq Zi)))
     refine round_normal (i + 1) (by omega) ?_ (by show r.kids.length - (i + 1) < r.kids.length - i; omega)
     rw [kidS_s hi, ← List.append_assoc]
     (first | refine Zo tis ?_ | exact Zc tis)
    ·obtain rfl : i = r.kids.length := by omega
     rw [hE]
     (repeat (first | refine Zo (Z5 tis rx fls @dx Zi) ?_ | refine .inl ⟨by kernel_rfl, ?_⟩ | exact .inl (by show _ = _; kernel_rfl) | exact Zc (Z5 tis rx fls @dx Zi)))
theorem fits_copiedSpans (p : List (List Span)) (hp : p.length ≤ 1099511627776) : Fits prog 54 [.sl false 1 (p.map (eSpans false))] (.sl true 1 (p.map (eSpans false))) [] := by
 refine fits_of_code [2] [] [0, 2, 3, 6] func54 rfl rfl rfl (by rfl) (by show 1 ≤ 14; decide) (by rfl) (by rfl) (by show 0 ≤ 1; decide) (by rfl) (run_of ?_)
 cases p with
 | nil => exact Zc tis
 | cons x r =>
  have hl : ((x :: r).length : Int) ≠ 0 := by simp; omega
  generalize (x :: r) = p at *
  refine Zo tis ?_
  refine Zo (Z3 tis @LLlenrep @dx) ?_
  simp [List.take_of_length_le]
noncomputable def normP (r : Rex) : Rex := if rexB r = true then normR r else zRex
theorem normP_t {r : Rex} (h : rexB r = true) : normP r = normR r := if_pos h
theorem normP_f {r : Rex} (h : rexB r = false) : normP r = zRex := if_neg (by rw [h]; decide)
theorem rexB_oks {r : Rex} (h : rexB r = true) : Okr r ∧ ps r ≤ 24 := by
 simp only [rexB, Bool.and_eq_true, decide_eq_true_eq] at h
 exact ⟨⟨8, h.1⟩, h.2⟩
theorem norm_bds {r : Rex} (h : rexB r = true) : bd r ≤ 3095 ∧ Okr (normR r) ∧ bd (normR r) ≤ 3095 ∧ gB (bd (normR r)) ≤ 500000000 ∧ ∀ b, Okr (derR b (normR r)) ∧ bd (derR b (normR r)) ≤ 83591 := by
 obtain ⟨ho, hp⟩ := rexB_oks h
 have h0 := bd_ps r ho
 have h1 := (normR_ok r ho).1
 have h2 := normR_ps r ho
 have h3 := bd_ps _ h1
 have h4 : bd (normR r) ≤ 3095 := by omega
 refine ⟨by omega, h1, h4, Nat.le_trans (gB_mono h4) (by decide), fun b => ?_⟩
 have h5 := (derR_ok b _ h1).1
 have h6 := derR_ps b _ h1
 have h7 := bd_ps _ h5
 have h8 : pB (ps (normR r)) ≤ 648 := by
  unfold pB
  have : ps (normR r) * (ps (normR r) + 3) ≤ 24 * 27 := Nat.mul_le_mul (by omega) (by omega)
  omega
 exact ⟨h5, by omega⟩
theorem eZ (o : Bool) : eRex o zRex = .agg [.int .i64 0, .sl o 2 [], .sl o 3 []] := by rw [eRex_eq]; rfl
theorem fits_Norm (r : Rex) (hb : bd r ≤ 1048576) : Fits prog 18 [eRex false r] (eRex true (normP r)) [] := by
 have cO := fits_rexOk r hb
 cases h : rexB r with
 | false =>
  rw [normP_f h, eZ]; rw [h, eRex_eq] at cO; rw [eRex_eq]
  refine fits_of_cell 2 30 [] [0, 1, 2, 5] func18 rfl rfl rfl (by show 2 < 10; decide) (by show 1 ≤ 10; decide) (by rfl) (by rfl) (by show 0 ≤ 1; decide) (by rfl) (run_of ?_)
  (repeat (first | refine Zo (Z4 tis rx fls Zi) ?_ | refine .inl ⟨by kernel_rfl, ?_⟩ | exact .inl (by show _ = _; kernel_rfl) | exact Zc (Z4 tis rx fls Zi)); try ((first | refine callL cO ?_ | refine callB cO ?_); repeat (first | refine Zo (Z4 tis rx fls Zi) ?_ | refine .inl ⟨by kernel_rfl, ?_⟩ | exact .inl (by show _ = _; kernel_rfl) | exact Zc (Z4 tis rx fls Zi))))
 | true =>
  obtain ⟨b1, b2, b3, b4, b5⟩ := norm_bds h
  have cN := fits_norm r (rexB_oks h).1 (by omega)
  have cC := fits_rexCopy (normR r) (by omega)
  rw [normP_t h]; rw [h] at cO
  generalize normR r = N at *
  rw [eRex_eq false r] at cO cN ⊢
  rw [eRex_eq false N, eRex_eq true N] at cC
  rw [eRex_eq false N] at cN
  rw [eRex_eq true N]
  refine fits_of_cell 2 30 [] [0, 1, 2, 5] func18 rfl rfl rfl (by show 2 < 10; decide) (by show 1 ≤ 10; decide) (by rfl) (by rfl) (by show 0 ≤ 1; decide) (by rfl) (run_of ?_)
  (repeat (first | refine Zo (Z4 tis rx fls Zi) ?_ | refine .inl ⟨by kernel_rfl, ?_⟩ | exact .inl (by show _ = _; kernel_rfl) | exact Zc (Z4 tis rx fls Zi)); try ((first | refine callL cO ?_ | refine callB cO ?_); repeat (first | refine Zo (Z4 tis rx fls Zi) ?_ | refine .inl ⟨by kernel_rfl, ?_⟩ | exact .inl (by show _ = _; kernel_rfl) | exact Zc (Z4 tis rx fls Zi))); try ((first | refine callL cN ?_ | refine callB cN ?_); repeat (first | refine Zo (Z4 tis rx fls Zi) ?_ | refine .inl ⟨by kernel_rfl, ?_⟩ | exact .inl (by show _ = _; kernel_rfl) | exact Zc (Z4 tis rx fls Zi))); try ((first | refine callL cC ?_ | refine callB cC ?_); repeat (first | refine Zo (Z4 tis rx fls Zi) ?_ | refine .inl ⟨by kernel_rfl, ?_⟩ | exact .inl (by show _ = _; kernel_rfl) | exact Zc (Z4 tis rx fls Zi))))
theorem fits_derivText0 (r : Rex) (hb : bd r ≤ 1048576) : Fits prog 15 [eRex false r, .str []] (eRex true (normP r)) [] := by
 have cO := fits_rexOk r hb
 cases h : rexB r with
 | false =>
  rw [normP_f h, eZ]; rw [h, eRex_eq] at cO; rw [eRex_eq]
  refine fits_of_cell 4 30 [] [0, 1, 2, 4, 5, 6, 14, 21, 32] func15 rfl rfl rfl (by show 4 < 36; decide) (by show 2 ≤ 36; decide) (by rfl) (by rfl) (by show 0 ≤ 2; decide) (by rfl) (run_of ?_)
  (repeat (first | refine Zo (Z4 tis rx fls Zi) ?_ | refine .inl ⟨by kernel_rfl, ?_⟩ | exact .inl (by show _ = _; kernel_rfl) | exact Zc (Z4 tis rx fls Zi)); try ((first | refine callL cO ?_ | refine callB cO ?_); repeat (first | refine Zo (Z4 tis rx fls Zi) ?_ | refine .inl ⟨by kernel_rfl, ?_⟩ | exact .inl (by show _ = _; kernel_rfl) | exact Zc (Z4 tis rx fls Zi))))
 | true =>
  obtain ⟨b1, b2, b3, b4, b5⟩ := norm_bds h
  have cN := fits_norm r (rexB_oks h).1 (by omega)
  have cC := fits_rexCopy (normR r) (by omega)
  have cW := fits_matchWord []
  rw [decide_eq_true (show ((([] : Txt).length : Nat) : Int) ≤ 12 by decide)] at cW
  rw [normP_t h]; rw [h] at cO
  generalize normR r = N at *
  rw [eRex_eq false r] at cO cN ⊢
  rw [eRex_eq false N, eRex_eq true N] at cC
  rw [eRex_eq false N] at cN
  rw [eRex_eq true N]
  refine fits_of_cell 4 30 [] [0, 1, 2, 4, 5, 6, 14, 21, 32] func15 rfl rfl rfl (by show 4 < 36; decide) (by show 2 ≤ 36; decide) (by rfl) (by rfl) (by show 0 ≤ 2; decide) (by rfl) (run_of ?_)
  (repeat (first | refine Zo (Z4 tis rx fls Zi) ?_ | refine .inl ⟨by kernel_rfl, ?_⟩ | exact .inl (by show _ = _; kernel_rfl) | exact Zc (Z4 tis rx fls Zi)); try ((first | refine callL cO ?_ | refine callB cO ?_); repeat (first | refine Zo (Z4 tis rx fls Zi) ?_ | refine .inl ⟨by kernel_rfl, ?_⟩ | exact .inl (by show _ = _; kernel_rfl) | exact Zc (Z4 tis rx fls Zi))); try ((first | refine callL cW ?_ | refine callB cW ?_); repeat (first | refine Zo (Z4 tis rx fls Zi) ?_ | refine .inl ⟨by kernel_rfl, ?_⟩ | exact .inl (by show _ = _; kernel_rfl) | exact Zc (Z4 tis rx fls Zi))); try ((first | refine callL cN ?_ | refine callB cN ?_); repeat (first | refine Zo (Z4 tis rx fls Zi) ?_ | refine .inl ⟨by kernel_rfl, ?_⟩ | exact .inl (by show _ = _; kernel_rfl) | exact Zc (Z4 tis rx fls Zi))))
  refine run_loop (α := Nat) (fun i => i = 0) (fun i => [(1, .str []), (4, .box (.agg [.int .i64 0, .sl true 2 [], .sl true 3 []])), (5, .box (.agg [.int .i64 N.kind, .sl false 2 (N.set.map eSpan), .sl false 3 (N.kids.map (eRex false))])), (6, .int .i64 0)]) (fun i => i) 0 rfl ?_ ?_
  ·(first | refine Zo (Z3 tis rx fls) ?_ | exact Zc (Z3 tis rx fls))
  ·rintro i rfl
   (repeat (first | refine Zo (Z4 tis rx fls Zi) ?_ | refine .inl ⟨by kernel_rfl, ?_⟩ | exact .inl (by show _ = _; kernel_rfl) | exact Zc (Z4 tis rx fls Zi)); try ((first | refine callL cC ?_ | refine callB cC ?_); repeat (first | refine Zo (Z4 tis rx fls Zi) ?_ | refine .inl ⟨by kernel_rfl, ?_⟩ | exact .inl (by show _ = _; kernel_rfl) | exact Zc (Z4 tis rx fls Zi))))
theorem fits_sMatchWord0 : Fits prog 50 [.str []] (.bool true) [] := by
 refine fits_of_code [2] [] [0, 2] func50 rfl rfl rfl (by rfl) (by show 1 ≤ 6; decide) (by rfl) (by rfl) (by show 0 ≤ 1; decide) (by rfl) (run_of ?_)
 (repeat (first | refine Zo (Z3 tis fls Zi) ?_ | refine .inl ⟨by kernel_rfl, ?_⟩ | exact .inl (by show _ = _; kernel_rfl) | exact Zc (Z3 tis fls Zi)))
theorem fits_sDerivText0 (r : Rex) (hb : bd r ≤ 1048576) : Fits prog 17 [eRex false r, .str []] (eRex true (normP r)) [] := by
 have cO := fits_sRexOk r hb
 cases h : rexB r with
 | false =>
  rw [normP_f h, eZ]; rw [h, eRex_eq] at cO; rw [eRex_eq]
  refine fits_of_cell 4 30 [] [0, 1, 2, 4, 5, 6, 14, 22, 32] func17 rfl rfl rfl (by show 4 < 36; decide) (by show 2 ≤ 36; decide) (by rfl) (by rfl) (by show 0 ≤ 2; decide) (by rfl) (run_of ?_)
  (repeat (first | refine Zo (Z4 tis rx fls Zi) ?_ | refine .inl ⟨by kernel_rfl, ?_⟩ | exact .inl (by show _ = _; kernel_rfl) | exact Zc (Z4 tis rx fls Zi)); try ((first | refine callL cO ?_ | refine callB cO ?_); repeat (first | refine Zo (Z4 tis rx fls Zi) ?_ | refine .inl ⟨by kernel_rfl, ?_⟩ | exact .inl (by show _ = _; kernel_rfl) | exact Zc (Z4 tis rx fls Zi))))
 | true =>
  obtain ⟨b1, b2, b3, b4, b5⟩ := norm_bds h
  have cP : Fits prog 30 [eRex false r] (eRex false r) [] := fits_as (fits_l2Copy r hb) (by rw [er_rex])
  have cN := fits_l4Norm r (rexB_oks h).1 (by omega)
  have cC := fits_l2Copy (normR r) (by omega)
  have cW := fits_sMatchWord0
  rw [normP_t h]; rw [h] at cO
  generalize normR r = N at *
  rw [eRex_eq false r] at cO cN cP ⊢
  rw [eRex_eq false N, eRex_eq true N] at cC
  rw [eRex_eq false N] at cN
  rw [eRex_eq true N]
  refine fits_of_cell 4 30 [] [0, 1, 2, 4, 5, 6, 14, 22, 32] func17 rfl rfl rfl (by show 4 < 36; decide) (by show 2 ≤ 36; decide) (by rfl) (by rfl) (by show 0 ≤ 2; decide) (by rfl) (run_of ?_)
  (repeat (first | refine Zo (Z4 tis rx fls Zi) ?_ | refine .inl ⟨by kernel_rfl, ?_⟩ | exact .inl (by show _ = _; kernel_rfl) | exact Zc (Z4 tis rx fls Zi)); try ((first | refine callL cO ?_ | refine callB cO ?_); repeat (first | refine Zo (Z4 tis rx fls Zi) ?_ | refine .inl ⟨by kernel_rfl, ?_⟩ | exact .inl (by show _ = _; kernel_rfl) | exact Zc (Z4 tis rx fls Zi))); try ((first | refine callL cW ?_ | refine callB cW ?_); repeat (first | refine Zo (Z4 tis rx fls Zi) ?_ | refine .inl ⟨by kernel_rfl, ?_⟩ | exact .inl (by show _ = _; kernel_rfl) | exact Zc (Z4 tis rx fls Zi))); try ((first | refine callL cP ?_ | refine callB cP ?_); repeat (first | refine Zo (Z4 tis rx fls Zi) ?_ | refine .inl ⟨by kernel_rfl, ?_⟩ | exact .inl (by show _ = _; kernel_rfl) | exact Zc (Z4 tis rx fls Zi))); try ((first | refine callL cN ?_ | refine callB cN ?_); repeat (first | refine Zo (Z4 tis rx fls Zi) ?_ | refine .inl ⟨by kernel_rfl, ?_⟩ | exact .inl (by show _ = _; kernel_rfl) | exact Zc (Z4 tis rx fls Zi))))
  refine run_loop (α := Nat) (fun i => i = 0) (fun i => [(1, .str []), (4, .box (.agg [.int .i64 0, .sl true 2 [], .sl true 3 []])), (5, .box (.agg [.int .i64 N.kind, .sl false 2 (N.set.map eSpan), .sl false 3 (N.kids.map (eRex false))])), (6, .int .i64 0)]) (fun i => i) 0 rfl ?_ ?_
  ·(first | refine Zo (Z3 tis rx fls) ?_ | exact Zc (Z3 tis rx fls))
  ·rintro i rfl
   (repeat (first | refine Zo (Z4 tis rx fls Zi) ?_ | refine .inl ⟨by kernel_rfl, ?_⟩ | exact .inl (by show _ = _; kernel_rfl) | exact Zc (Z4 tis rx fls Zi)); try ((first | refine callL cC ?_ | refine callB cC ?_); repeat (first | refine Zo (Z4 tis rx fls Zi) ?_ | refine .inl ⟨by kernel_rfl, ?_⟩ | exact .inl (by show _ = _; kernel_rfl) | exact Zc (Z4 tis rx fls Zi))))
theorem fits_rexSets (r : Rex) (h : rexB r = true) : Fits prog 19 [eRex false r] (.sl true 1 ((setsR r).map (eSpans false))) [] := by
 obtain ⟨b1, _⟩ := norm_bds h
 have cO := fits_rexOk r (by omega)
 have lS := setsR_len r
 have cS : Fits prog 55 [eRex false r, .sl true 1 []] (.sl true 1 ((setsR r).map (eSpans false))) [] := by
  have := fits_setsOf r (by omega) [] (by simp only [List.length_nil]; omega)
  simpa using this
 have cC := fits_copiedSpans (setsR r) (by omega)
 rw [h] at cO
 generalize setsR r = Z at *
 rw [eRex_eq] at cO cS ⊢
 refine fits_of_code [2] [] [0, 1, 2, 5] func19 rfl rfl rfl (by rfl) (by show 1 ≤ 9; decide) (by rfl) (by rfl) (by show 0 ≤ 1; decide) (by rfl) (run_of ?_)
 (repeat (first | refine Zo (Z5 tis rx fls @dx Zi) ?_ | refine .inl ⟨by kernel_rfl, ?_⟩ | exact .inl (by show _ = _; kernel_rfl) | exact Zc (Z5 tis rx fls @dx Zi)); try ((first | refine callL cO ?_ | refine callB cO ?_); repeat (first | refine Zo (Z5 tis rx fls @dx Zi) ?_ | refine .inl ⟨by kernel_rfl, ?_⟩ | exact .inl (by show _ = _; kernel_rfl) | exact Zc (Z5 tis rx fls @dx Zi))); try ((first | refine callL cS ?_ | refine callB cS ?_); repeat (first | refine Zo (Z5 tis rx fls @dx Zi) ?_ | refine .inl ⟨by kernel_rfl, ?_⟩ | exact .inl (by show _ = _; kernel_rfl) | exact Zc (Z5 tis rx fls @dx Zi))); try (refine callF [(7, [])] cC ?_; repeat (first | refine Zo (Z5 tis rx fls @dx Zi) ?_ | refine .inl ⟨by kernel_rfl, ?_⟩ | exact .inl (by show _ = _; kernel_rfl) | exact Zc (Z5 tis rx fls @dx Zi))))
theorem fits_rexSets0 (r : Rex) (hb : bd r ≤ 1048576) (h : rexB r = false) : Fits prog 19 [eRex false r] (.sl true 1 []) [] := by
 have cO := fits_rexOk r hb
 rw [h] at cO
 rw [eRex_eq] at cO ⊢
 refine fits_of_code [2] [] [0, 1, 2, 5] func19 rfl rfl rfl (by rfl) (by show 1 ≤ 9; decide) (by rfl) (by rfl) (by show 0 ≤ 1; decide) (by rfl) (run_of ?_)
 (repeat (first | refine Zo (Z5 tis rx fls @dx Zi) ?_ | refine .inl ⟨by kernel_rfl, ?_⟩ | exact .inl (by show _ = _; kernel_rfl) | exact Zc (Z5 tis rx fls @dx Zi)); try ((first | refine callL cO ?_ | refine callB cO ?_); repeat (first | refine Zo (Z5 tis rx fls @dx Zi) ?_ | refine .inl ⟨by kernel_rfl, ?_⟩ | exact .inl (by show _ = _; kernel_rfl) | exact Zc (Z5 tis rx fls @dx Zi))))
theorem fits_derivBy (r : Rex) (h : rexB r = true) (b : Int) (hb : 0 ≤ b ∧ b ≤ 255) : Fits prog 22 [eRex false r, .int .i64 b] (eRex true (derR b (normR r))) [] := by
 obtain ⟨b1, b2, b3, b4, b5⟩ := norm_bds h
 have cO := fits_rexOk r (by omega)
 have cI := fits_in b 0 255
 rw [decide_eq_true hb] at cI
 have cN := fits_norm r (rexB_oks h).1 (by omega)
 have cD := fits_deriv b (normR r) b2 b4
 have cC := fits_rexCopy (derR b (normR r)) (by have := (b5 b).2; omega)
 rw [h] at cO
 generalize derR b (normR r) = D at *
 generalize normR r = N at *
 rw [eRex_eq false r] at cO cN ⊢
 rw [eRex_eq false N] at cN cD
 rw [eRex_eq false D] at cD cC
 rw [eRex_eq true D] at cC ⊢
 refine fits_of_cell 4 30 [] [0, 1, 2, 4, 12] func22 rfl rfl rfl (by show 4 < 19; decide) (by show 2 ≤ 19; decide) (by rfl) (by rfl) (by show 0 ≤ 2; decide) (by rfl) (run_of ?_)
 (repeat (first | refine Zo (Z4 tis rx fls Zi) ?_ | refine .inl ⟨by kernel_rfl, ?_⟩ | exact .inl (by show _ = _; kernel_rfl) | exact Zc (Z4 tis rx fls Zi)); try ((first | refine callL cO ?_ | refine callB cO ?_); repeat (first | refine Zo (Z4 tis rx fls Zi) ?_ | refine .inl ⟨by kernel_rfl, ?_⟩ | exact .inl (by show _ = _; kernel_rfl) | exact Zc (Z4 tis rx fls Zi))); try ((first | refine callL cI ?_ | refine callB cI ?_); repeat (first | refine Zo (Z4 tis rx fls Zi) ?_ | refine .inl ⟨by kernel_rfl, ?_⟩ | exact .inl (by show _ = _; kernel_rfl) | exact Zc (Z4 tis rx fls Zi))); try ((first | refine callL cN ?_ | refine callB cN ?_); repeat (first | refine Zo (Z4 tis rx fls Zi) ?_ | refine .inl ⟨by kernel_rfl, ?_⟩ | exact .inl (by show _ = _; kernel_rfl) | exact Zc (Z4 tis rx fls Zi))); try ((first | refine callL cD ?_ | refine callB cD ?_); repeat (first | refine Zo (Z4 tis rx fls Zi) ?_ | refine .inl ⟨by kernel_rfl, ?_⟩ | exact .inl (by show _ = _; kernel_rfl) | exact Zc (Z4 tis rx fls Zi))); try ((first | refine callL cC ?_ | refine callB cC ?_); repeat (first | refine Zo (Z4 tis rx fls Zi) ?_ | refine .inl ⟨by kernel_rfl, ?_⟩ | exact .inl (by show _ = _; kernel_rfl) | exact Zc (Z4 tis rx fls Zi))))
def kin9 : List Int := [3, 3, 3, 4, 4, 5, 5, 6, 7]
def kidsV (f : Nat → Rex × Nat) (p : Nat) : Nat → List Rex × Nat
 | 0 => ([], p)
 | i + 1 => ((kidsV f p i).1 ++ [(f (kidsV f p i).2).1], (f (kidsV f p i).2).2)
def rexV (b : List UInt8) : Nat → Nat → Rex × Nat
 | 0, p => leafV b p
 | d + 1, p => if pickV b p 4 = 0 then leafV b (p + 1) else (.mk (numV b (p + 1) kin9) [] (kidsV (rexV b d) (p + 1 + 1) (kidsN (numV b (p + 1) kin9)).toNat).1, (kidsV (rexV b d) (p + 1 + 1) (kidsN (numV b (p + 1) kin9)).toNat).2)
theorem kidsV_len (f : Nat → Rex × Nat) (p : Nat) : ∀ i, (kidsV f p i).1.length = i
 | 0 => rfl
 | i + 1 => by simp [kidsV, kidsV_len f p i]
theorem kidsV_le (f : Nat → Rex × Nat) (c m : Nat) (hf : ∀ q, (f q).2 ≤ q + c ∧ bd (f q).1 ≤ m) (p : Nat) : ∀ i, (kidsV f p i).2 ≤ p + i * c ∧ ((kidsV f p i).1.map bd).sum ≤ i * m
 | 0 => by simp [kidsV]
 | i + 1 => by
  obtain ⟨h1, h2⟩ := kidsV_le f c m hf p i
  obtain ⟨h3, h4⟩ := hf (kidsV f p i).2
  have e1 : (i + 1) * c = i * c + c := Nat.succ_mul i c
  have e2 : (i + 1) * m = i * m + m := Nat.succ_mul i m
  simp only [kidsV, List.map_append, List.map_cons, List.map_nil, List.sum_append, List.sum_cons, List.sum_nil]
  omega
theorem kin9_k (b : List UInt8) (p : Nat) : (kidsN (numV b p kin9)).toNat ≤ 2 ∧ ((kidsN (numV b p kin9)).toNat : Int) = kidsN (numV b p kin9) ∧ 0 < (kidsN (numV b p kin9)).toNat := by
 have h := numV_mem b p (l := kin9) (by decide)
 generalize numV b p kin9 = x at *
 simp only [kin9, List.mem_cons, List.not_mem_nil, or_false] at h
 rcases h with rfl | rfl | rfl | rfl | rfl | rfl | rfl | rfl | rfl <;> decide
theorem rexV_le (b : List UInt8) : ∀ (d p : Nat), (rexV b d p).2 ≤ p + 8 * 4 ^ d ∧ bd (rexV b d p).1 ≤ 256 * 4 ^ d
 | 0, p => by have := leafV_le b p; simp only [rexV]; omega
 | d + 1, p => by
  have h1 := leafV_le b (p + 1)
  have h2 := kidsV_le (rexV b d) _ _ (rexV_le b d) (p + 1 + 1) (kidsN (numV b (p + 1) kin9)).toNat
  have h3 := (kin9_k b (p + 1)).1
  have h4 := kidsV_len (rexV b d) (p + 1 + 1) (kidsN (numV b (p + 1) kin9)).toNat
  have h5 : 0 < 4 ^ d := Nat.pow_pos (by omega)
  have h6 : 4 ^ (d + 1) = 4 * 4 ^ d := by rw [Nat.pow_succ]; omega
  simp only [rexV]
  split
  ·omega
  ·simp only [bd]
   generalize (kidsN (numV b (p + 1) kin9)).toNat = n at *
   have a1 : n * (8 * 4 ^ d) ≤ 2 * (8 * 4 ^ d) := Nat.mul_le_mul_right _ h3
   have a2 : n * (256 * 4 ^ d) ≤ 2 * (256 * 4 ^ d) := Nat.mul_le_mul_right _ h3
   constructor
   ·omega
   ·simp only [List.length_nil]; omega
theorem fits_l2Rex (b : List UInt8) (hb : b.length ≤ 2000) (d : Nat) (hd : d ≤ 3) : ∀ (p : Nat), p ≤ 800000 + 2000 * (3 - d) → Fits prog 134 [.box (eRd b p), .int .i64 ((d : Int) + 1)] (eRex true (rexV b d p).1) [.box (eRd b (rexV b d p).2)] := by
 induction d with
 | zero =>
  intro p hp
  have cL := fits_l2Leaf b hb p (by omega)
  simp only [rexV]
  generalize leafV b p = x at *
  rw [eRex_eq] at *
  unfold eRd at *
  refine fits_of_cell 4 30 [0] [0, 1, 4, 5, 6, 7, 14, 25] func134 rfl rfl rfl (by show 4 < 38; decide) (by show 2 ≤ 38; decide) (by rfl) (by rfl) (by show 1 ≤ 2; decide) (by rfl) (run_of ?_)
  refine Zo (Z3 tis fls rx) ?_
  refine callM 0 cL ?_
  exact Zc (Z4 tis fls rx @LLdrosin)
 | succ d ih =>
  intro p hp
  have ih := ih (by omega)
  have h5 : 4 ^ d ≤ 4 ^ 2 := Nat.pow_le_pow_right (by omega) (by omega)
  have c1 : Fits prog 84 [.box (eRd b p), .int .i64 4] (.int .i64 (pickV b p 4)) [.box (eRd b (p + 1))] := fits_pick b hb p (by omega) 4 (by omega) (by omega)
  have hd1 : ¬ ((d : Int) + 1 + 1 ≤ 1) := by omega
  have hd2 : (d : Int) + 1 + 1 - 1 = d + 1 := by omega
  simp only [rexV]
  generalize pickV b p 4 = k at *
  by_cases hk : k = 0
  ·subst hk
   rw [if_pos rfl]
   have cL := fits_l2Leaf b hb (p + 1) (by omega)
   generalize leafV b (p + 1) = x at *
   rw [eRex_eq] at *
   unfold eRd at *
   refine fits_of_cell 4 30 [0] [0, 1, 4, 5, 6, 7, 14, 25] func134 rfl rfl rfl (by show 4 < 38; decide) (by show 2 ≤ 38; decide) (by rfl) (by rfl) (by show 1 ≤ 2; decide) (by rfl) (run_of ?_)
   refine Zo (Z4 tis fls rx @hd1) ?_
   refine callM 0 c1 ?_
   refine Zo (Z4 tis fls rx @LLdrosin) ?_
   refine callM 0 cL ?_
   exact Zc (Z4 tis fls rx @LLdrosin)
  ·rw [if_neg hk]
   have hk0 : ¬ ((k : Int) = 0) := by omega
   have cN := fits_num b hb (p + 1) (by omega) kin9 (by decide) (by decide)
   obtain ⟨q1, q2, q3⟩ := kin9_k b (p + 1)
   generalize numV b (p + 1) kin9 = kk at *
   have cK := fits_sKids kk
   rw [← q2] at cK
   generalize (kidsN kk).toNat = n at *
   have hle := fun i => kidsV_le (rexV b d) _ _ (rexV_le b d) (p + 1 + 1) i
   have hln := fun i => kidsV_len (rexV b d) (p + 1 + 1) i
   have cF := fun i (hi : i < n) => ih (kidsV (rexV b d) (p + 1 + 1) i).2 (by
    have := (hle i).1
    have : i * (8 * 4 ^ d) ≤ 1 * (8 * 4 ^ d) := Nat.mul_le_mul_right _ (by omega)
    omega)
   have hS : ∀ i, kidsV (rexV b d) (p + 1 + 1) (i + 1) = ((kidsV (rexV b d) (p + 1 + 1) i).1 ++ [(rexV b d (kidsV (rexV b d) (p + 1 + 1) i).2).1], (rexV b d (kidsV (rexV b d) (p + 1 + 1) i).2).2) := fun i => rfl
   have hZ : kidsV (rexV b d) (p + 1 + 1) 0 = ([], p + 1 + 1) := rfl
   generalize kidsV (rexV b d) (p + 1 + 1) = V at *
   rw [eRex_eq]
   show Fits prog _ _ (.agg [.int .i64 kk, .sl true 2 [], .sl true 3 ((V n).1.map (eRex true))]) _
   unfold eRd at *
   refine fits_of_cell 4 30 [0] [0, 1, 4, 5, 6, 7, 14, 25] func134 rfl rfl rfl (by show 4 < 38; decide) (by show 2 ≤ 38; decide) (by rfl) (by rfl) (by show 1 ≤ 2; decide) (by rfl) (run_of ?_)
   refine Zo (Z4 tis fls rx @hd1) ?_
   refine callM 0 c1 ?_
   refine Zo (Z5 tis fls rx @LLdrosin @hk0) ?_
   refine callMF [(18, [])] 0 cN ?_
   simp -implicitDefEqProofs (disch := first | (intros; contradiction) | omega) only [am0, am1, am2, am3, am4, am5, am6, Nat.reduceSub, ↓reduceIte, reduceCtorEq, Nat.reduceEqDiff, Nat.reduceBEq, Nat.reduceAdd, Nat.reduceLT, Nat.reduceBNe, Nat.reduceMul, ↓reduceIte, tis, fls, rx, List.dropLast_singleton, kin9, eInt]
   refine callB cK ?_
   refine Zo (Z3 tis fls rx) ?_
   refine run_loop (α := Nat) (fun j => j ≤ n) (fun j => [(0, .box (.agg [.sl false 1 (bytesA b), .int .i64 (V j).2])), (1, .int .i64 ((d : Int) + 1 + 1)), (4, .box (.agg [.int .i64 0, .sl true 2 [], .sl true 3 []])), (6, .box (.agg [.int .i64 kk, .sl true 2 [], .sl true 3 ((V j).1.map (eRex true))])), (7, .int .i64 ((n : Int) - j))]) (fun j => n - j) 0 (Nat.zero_le _) ?_ ?_
   ·exact Zc (Z5 tis fls rx @hZ @LLmapnil)
   ·intro j hj'
    by_cases hj : j < n
    ·have cR := cF j hj
     have hl := hln j
     have hS := hS j
     generalize rexV b d (V j).2 = x at *
     rw [eRex_eq] at cR
     refine Zo (Z3 tis fls rx) ?_
     refine .inr (run_mix 33 [] [0] (by kernel_rfl) ?_)
     refine Zo (Z3 tis fls rx) ?_
     refine callG 0 cR ?_
     refine Zo (Z5 tis fls rx @LLdrosin @hd2) ?_
     refine round_normal (j + 1) (by omega) ?_ (by show n - (j + 1) < n - j; omega)
     rw [hS]
     refine Zo (Z7 tis fls rx @LLmapapp @LLmapcon @LLmapnil (eRex_eq true x.1)) ?_
     omega
    ·obtain rfl : j = n := by omega
     exact Zc (Z3 tis fls rx)
def someV (b : List UInt8) (p : Nat) : Rex × Nat := if rexB (rexV b (1 + pickV b p 3) (p + 1)).1 = true then rexV b (1 + pickV b p 3) (p + 1) else leafV b (rexV b (1 + pickV b p 3) (p + 1)).2
theorem someV_le (b : List UInt8) (p : Nat) : (someV b p).2 ≤ p + 600 ∧ bd (someV b p).1 ≤ 16384 := by
 have h1 := pickV_lt b p (n := 3) (by omega)
 have h2 := rexV_le b (1 + pickV b p 3) (p + 1)
 have h3 := leafV_le b (rexV b (1 + pickV b p 3) (p + 1)).2
 have h4 : 4 ^ (1 + pickV b p 3) ≤ 4 ^ 3 := Nat.pow_le_pow_right (by omega) (by omega)
 unfold someV
 split <;> omega
theorem fits_l2Some (b : List UInt8) (hb : b.length ≤ 2000) (p : Nat) (hp : p ≤ 700000) : Fits prog 112 [.box (eRd b p)] (eRex true (someV b p).1) [.box (eRd b (someV b p).2)] := by
 have c1 : Fits prog 84 [.box (eRd b p), .int .i64 3] (.int .i64 (pickV b p 3)) [.box (eRd b (p + 1))] := fits_pick b hb p (by omega) 3 (by omega) (by omega)
 have h1 := pickV_lt b p (n := 3) (by omega)
 unfold someV
 generalize pickV b p 3 = k at *
 have cR := fits_l2Rex b hb (1 + k) (by omega) (p + 1) (by omega)
 have hl := rexV_le b (1 + k) (p + 1)
 have h4 : 4 ^ (1 + k) ≤ 4 ^ 3 := Nat.pow_le_pow_right (by omega) (by omega)
 have cL := fits_l2Leaf b hb (rexV b (1 + k) (p + 1)).2 (by omega)
 have cO := fits_sRexOk (rexV b (1 + k) (p + 1)).1 (by omega)
 generalize rexV b (1 + k) (p + 1) = x at *
 have e1 : (2 : Int) + k = ((1 + k : Nat) : Int) + 1 := by omega
 rw [← e1] at cR
 cases h : rexB x.1 with
 | true =>
  rw [if_pos rfl]
  rw [h] at cO
  unfold eRd at *
  rw [eRex_eq] at *
  refine fits_of_cell 2 30 [0] [0, 2, 3, 11] func112 rfl rfl rfl (by show 2 < 15; decide) (by show 1 ≤ 15; decide) (by rfl) (by rfl) (by show 1 ≤ 1; decide) (by rfl) (run_of ?_)
  refine Zo (Z3 tis fls rx) ?_
  refine callK 4 0 0 c1 ?_
  refine Zo (Z4 tis fls rx @LLdrosin) ?_
  refine callM 0 cR ?_
  refine Zo (Z4 tis fls rx @LLdrosin) ?_
  refine callB cO ?_
  exact Zc (Z3 tis fls rx)
 | false =>
  rw [if_neg (by simp)]
  rw [h] at cO
  generalize leafV b x.2 = y at *
  unfold eRd at *
  simp only [eRex_eq] at *
  refine fits_of_cell 2 30 [0] [0, 2, 3, 11] func112 rfl rfl rfl (by show 2 < 15; decide) (by show 1 ≤ 15; decide) (by rfl) (by rfl) (by show 1 ≤ 1; decide) (by rfl) (run_of ?_)
  refine Zo (Z3 tis fls rx) ?_
  refine callK 4 0 0 c1 ?_
  refine Zo (Z4 tis fls rx @LLdrosin) ?_
  refine callM 0 cR ?_
  refine Zo (Z4 tis fls rx @LLdrosin) ?_
  refine callB cO ?_
  refine Zo (Z3 tis fls rx) ?_
  refine callM 0 cL ?_
  exact Zc (Z4 tis fls rx @LLdrosin)
def kin4 : List Int := [0, 8, 3, 5]
def wrapN (f : Rex → Rex) (x : Rex) : Nat → Rex
 | 0 => x
 | n + 1 => f (wrapN f x n)
def starR (x : Rex) : Rex := .mk 5 [] [x]
def catR (x : Rex) : Rex := .mk 3 [] [x, x]
theorem star_bd (x : Rex) : ∀ n, bd (wrapN starR x n) = bd x + n
 | 0 => rfl
 | n + 1 => by simp only [wrapN, starR, bd, star_bd x n, List.map_cons, List.map_nil, List.sum_cons, List.sum_nil, List.length_cons, List.length_nil]; omega
theorem cat_bd (x : Rex) : ∀ n, bd (wrapN catR x n) + 2 = (bd x + 2) * 2 ^ n
 | 0 => by simp [wrapN]
 | n + 1 => by
  have := cat_bd x n
  simp only [wrapN, catR, bd, List.map_cons, List.map_nil, List.sum_cons, List.sum_nil, List.length_cons, List.length_nil]
  rw [Nat.pow_succ, ← Nat.mul_assoc, ← this]
  omega
def bentV (b : List UInt8) (p : Nat) : Rex × Nat :=
 if pickV b (someV b p).2 48 = 0 then (.mk (numV b ((someV b p).2 + 1) kin4) (someV b p).1.set (someV b p).1.kids, (someV b p).2 + 1 + 1)
 else if pickV b (someV b p).2 48 = 1 then (.mk (someV b p).1.kind [⟨5, 4⟩] (someV b p).1.kids, (someV b p).2 + 1)
 else if pickV b (someV b p).2 48 = 2 then (wrapN starR (someV b p).1 9, (someV b p).2 + 1)
 else if pickV b (someV b p).2 48 = 3 then (wrapN catR (someV b p).1 5, (someV b p).2 + 1)
 else ((someV b p).1, (someV b p).2 + 1)
theorem bentV_le (b : List UInt8) (p : Nat) : (bentV b p).2 ≤ p + 700 ∧ bd (bentV b p).1 ≤ 1048576 := by
 have h := someV_le b p
 unfold bentV
 generalize someV b p = x at *
 have h2 := bd_eq x.1
 split
 ·exact ⟨by simp only; omega, by simp only [bd]; omega⟩
 ·split
  ·exact ⟨by simp only; omega, by simp only [bd, List.length_singleton]; omega⟩
  ·split
   ·exact ⟨by simp only; omega, by simp only [star_bd]; omega⟩
   ·split
    ·have := cat_bd x.1 5
     exact ⟨by simp only; omega, by simp only; omega⟩
    ·exact ⟨by simp only; omega, by simp only; omega⟩
theorem fits_l2Bent (b : List UInt8) (hb : b.length ≤ 2000) (p : Nat) (hp : p ≤ 600000) : Fits prog 83 [.box (eRd b p)] (eRex true (bentV b p).1) [.box (eRd b (bentV b p).2)] := by
 have cS := fits_l2Some b hb p (by omega)
 have hl := someV_le b p
 unfold bentV
 generalize someV b p = x at *
 have c1 : Fits prog 84 [.box (eRd b x.2), .int .i64 48] (.int .i64 (pickV b x.2 48)) [.box (eRd b (x.2 + 1))] := fits_pick b hb x.2 (by omega) 48 (by omega) (by omega)
 have cN := fits_num b hb (x.2 + 1) (by omega) kin4 (by decide) (by decide)
 generalize pickV b x.2 48 = k at *
 generalize numV b (x.2 + 1) kin4 = kk at *
 have cC := fun n (hn : n ≤ 5) => fits_l2Copy (wrapN catR x.1 n) (by
  have h1 := cat_bd x.1 n
  have h2 : 2 ^ n ≤ 2 ^ 5 := Nat.pow_le_pow_right (by omega) hn
  have h3 : (bd x.1 + 2) * 2 ^ n ≤ 16386 * 2 ^ 5 := Nat.mul_le_mul (by omega) h2
  omega)
 by_cases g0 : k = 0
 ·subst g0
  rw [if_pos rfl, eRex_eq]
  show Fits prog _ _ (.agg [.int .i64 kk, .sl true 2 (x.1.set.map eSpan), .sl true 3 (x.1.kids.map (eRex true))]) _
  rw [eRex_eq] at cS
  unfold eRd at *
  refine fits_of_cell 2 30 [0] [0, 2, 3, 4, 5, 9, 10, 16, 21, 24, 30, 33] func83 rfl rfl rfl (by show 2 < 42; decide) (by show 1 ≤ 42; decide) (by rfl) (by rfl) (by show 1 ≤ 1; decide) (by rfl) (run_of ?_)
  refine Zo (Z3 tis fls rx) ?_
  refine callM 0 cS ?_
  refine Zo (Z4 tis fls rx @LLdrosin) ?_
  refine callM 0 c1 ?_
  refine Zo (Z4 tis fls rx @LLdrosin) ?_
  refine callMF [(13, [])] 0 cN ?_
  simp -implicitDefEqProofs (disch := first | (intros; contradiction) | omega) only [am0, am1, am2, am3, am4, am5, am6, Nat.reduceSub, ↓reduceIte, reduceCtorEq, Nat.reduceEqDiff, Nat.reduceBEq, Nat.reduceAdd, Nat.reduceLT, Nat.reduceBNe, Nat.reduceMul, ↓reduceIte, tis, fls, rx, List.dropLast_singleton, kin4, eInt]
 rw [if_neg g0]
 have i0 : ¬ ((k : Int) = 0) := by omega
 by_cases g1 : k = 1
 ·subst g1
  rw [if_pos rfl, eRex_eq]
  show Fits prog _ _ (.agg [.int .i64 x.1.kind, .sl true 2 ([⟨5, 4⟩].map eSpan), .sl true 3 (x.1.kids.map (eRex true))]) _
  rw [eRex_eq] at cS
  unfold eRd at *
  refine fits_of_cell 2 30 [0] [0, 2, 3, 4, 5, 9, 10, 16, 21, 24, 30, 33] func83 rfl rfl rfl (by show 2 < 42; decide) (by show 1 ≤ 42; decide) (by rfl) (by rfl) (by show 1 ≤ 1; decide) (by rfl) (run_of ?_)
  refine Zo (Z4 tis fls rx eSpan.eq_1) ?_
  refine callM 0 cS ?_
  refine Zo (Z4 tis fls rx @LLdrosin) ?_
  refine callM 0 c1 ?_
  exact Zc (Z4 tis fls rx @LLdrosin)
 rw [if_neg g1]
 have i1 : ¬ ((k : Int) = 1) := by omega
 by_cases g2 : k = 2
 ·subst g2
  rw [if_pos rfl]
  have hW : ∀ n, eRex true (wrapN starR x.1 (n + 1)) = .agg [.int .i64 5, .sl true 2 [], .sl true 3 [eRex true (wrapN starR x.1 n)]] := fun n => by rw [eRex_eq]; rfl
  have hW0 : wrapN starR x.1 0 = x.1 := rfl
  rw [eRex_eq] at *
  unfold eRd at *
  refine fits_of_cell 2 30 [0] [0, 2, 3, 4, 5, 9, 10, 16, 21, 24, 30, 33] func83 rfl rfl rfl (by show 2 < 42; decide) (by show 1 ≤ 42; decide) (by rfl) (by rfl) (by show 1 ≤ 1; decide) (by rfl) (run_of ?_)
  refine Zo (Z3 tis fls rx) ?_
  refine callM 0 cS ?_
  refine Zo (Z4 tis fls rx @LLdrosin) ?_
  refine callM 0 c1 ?_
  refine Zo (Z4 tis fls rx @LLdrosin) ?_
  refine run_loop (α := Nat) (fun j => j ≤ 9) (fun j => [(0, .box (.agg [.sl false 1 (bytesA b), .int .i64 (x.2 + 1 : Nat)])), (2, .box (.agg [.int .i64 0, .sl true 2 [], .sl true 3 []])), (3, .box (.agg [.int .i64 (wrapN starR x.1 j).kind, .sl true 2 ((wrapN starR x.1 j).set.map eSpan), .sl true 3 ((wrapN starR x.1 j).kids.map (eRex true))])), (4, .int .i64 j)]) (fun j => 9 - j) 0 (Nat.zero_le _) ?_ ?_
  ·exact Zc (Z4 tis fls rx @hW0)
  ·intro j hj'
   by_cases hj : j < 9
   ·refine Zo (Z3 tis fls rx) ?_
    refine round_normal (j + 1) (by omega) ?_ (by show 9 - (j + 1) < 9 - j; omega)
    refine Zo (Z3 tis fls rx) ?_
    refine ⟨rfl, rfl, ?_⟩
    show _ = [eRex true (wrapN starR x.1 j)]
    rw [eRex_eq]
   ·obtain rfl : j = 9 := by omega
    exact Zc (Z3 tis fls rx)
 rw [if_neg g2]
 have i2 : ¬ ((k : Int) = 2) := by omega
 by_cases g3 : k = 3
 ·subst g3
  rw [if_pos rfl]
  have hW0 : wrapN catR x.1 0 = x.1 := rfl
  rw [eRex_eq] at *
  unfold eRd at *
  refine fits_of_cell 2 30 [0] [0, 2, 3, 4, 5, 9, 10, 16, 21, 24, 30, 33] func83 rfl rfl rfl (by show 2 < 42; decide) (by show 1 ≤ 42; decide) (by rfl) (by rfl) (by show 1 ≤ 1; decide) (by rfl) (run_of ?_)
  refine Zo (Z3 tis fls rx) ?_
  refine callM 0 cS ?_
  refine Zo (Z4 tis fls rx @LLdrosin) ?_
  refine callM 0 c1 ?_
  refine Zo (Z4 tis fls rx @LLdrosin) ?_
  refine run_loop (α := Nat) (fun j => j ≤ 5) (fun j => [(0, .box (.agg [.sl false 1 (bytesA b), .int .i64 (x.2 + 1 : Nat)])), (2, .box (.agg [.int .i64 0, .sl true 2 [], .sl true 3 []])), (3, .box (.agg [.int .i64 (wrapN catR x.1 j).kind, .sl true 2 ((wrapN catR x.1 j).set.map eSpan), .sl true 3 ((wrapN catR x.1 j).kids.map (eRex true))])), (5, .int .i64 j)]) (fun j => 5 - j) 0 (Nat.zero_le _) ?_ ?_
  ·exact Zc (Z4 tis fls rx @hW0)
  ·intro j hj'
   by_cases hj : j < 5
   ·have cC := cC j (by omega)
    rw [eRex_eq, eRex_eq] at cC
    refine Zo (Z3 tis fls rx) ?_
    refine .inr (run_mix 999999 [39] [999999] (by kernel_rfl) ?_)
    refine Zo (Z3 tis fls rx) ?_
    refine callL cC ?_
    refine Zo (Z3 tis fls rx) ?_
    refine round_normal (j + 1) (by omega) ?_ (by show 5 - (j + 1) < 5 - j; omega)
    refine Zo (Z3 tis fls rx) ?_
    refine ⟨rfl, rfl, ?_⟩
    show _ = [eRex true (wrapN catR x.1 j), eRex true (wrapN catR x.1 j)]
    rw [eRex_eq]
   ·obtain rfl : j = 5 := by omega
    exact Zc (Z3 tis fls rx)
 rw [if_neg g3]
 have i3 : ¬ ((k : Int) = 3) := by omega
 rw [eRex_eq] at *
 unfold eRd at *
 refine fits_of_cell 2 30 [0] [0, 2, 3, 4, 5, 9, 10, 16, 21, 24, 30, 33] func83 rfl rfl rfl (by show 2 < 42; decide) (by show 1 ≤ 42; decide) (by rfl) (by rfl) (by show 1 ≤ 1; decide) (by rfl) (run_of ?_)
 refine Zo (Z3 tis fls rx) ?_
 refine callM 0 cS ?_
 refine Zo (Z4 tis fls rx @LLdrosin) ?_
 refine callM 0 c1 ?_
 exact Zc (Z8 tis fls rx @LLdrosin @i0 @i1 @i2 @i3)
def manyL (s out : List UInt8) (n : Nat) : List UInt8 := if n = 0 then out else manyL (s ++ s) (if n % 2 = 1 then out ++ s else out) (n / 2)
termination_by n
decreasing_by omega
theorem manyL_0 (s out : List UInt8) : manyL s out 0 = out := by rw [manyL, if_pos rfl]
theorem manyL_s (s out : List UInt8) {n : Nat} (h : 0 < n) : manyL s out n = manyL (s ++ s) (if n % 2 = 1 then out ++ s else out) (n / 2) := by rw [manyL, if_neg (by omega)]
theorem half_len (a o n : Nat) : (if n % 2 = 1 then o + a else o) + (a + a) * (n / 2) = o + a * n := by
 have h := Nat.div_add_mod n 2
 have h2 : n % 2 = 0 ∨ n % 2 = 1 := by omega
 have e : a * n = (a + a) * (n / 2) + a * (n % 2) := by
  conv => lhs; rw [← h, Nat.mul_add, ← Nat.mul_assoc, Nat.mul_two]
 rcases h2 with h2 | h2 <;> rw [h2] at e ⊢ <;> simp at e ⊢ <;> omega
theorem fits_l15Many (s : List UInt8) (n : Nat) (hn : s.length * n ≤ 1048576) (hs : s.length ≤ 1048576) (hn2 : n ≤ 1048576) : Fits prog 85 [.str s, .int .i64 n] (.str (manyL s [] n)) [] := by
 have c2 : ¬ ((2 : Int) = 0) := by omega
 refine fits_of_code [4] [] [0, 1, 4, 5, 7, 10] func85 rfl rfl rfl (by rfl) (by show 2 ≤ 20; decide) (by rfl) (by rfl) (by show 0 ≤ 2; decide) (by rfl) (run_of ?_)
 refine Zo (Z2 tis fls) ?_
 refine run_loop (α := List UInt8 × List UInt8 × Nat) (fun g => manyL g.1 g.2.1 g.2.2 = manyL s [] n ∧ g.2.1.length + g.1.length * g.2.2 ≤ 1048576 ∧ g.1.length ≤ 2097152 ∧ g.2.2 ≤ 1048576) (fun g => [(0, .str g.1), (1, .int .i64 g.2.2), (5, .str g.2.1)]) (fun g => g.2.2) (s, [], n) ⟨rfl, by simpa using hn, by simp only; omega, hn2⟩ ?_ ?_
 ·exact Zc (Z2 tis fls)
 ·rintro ⟨x, o, m⟩ ⟨h1, h2, h3, h4⟩
  simp only at h1 h2 h3 h4
  by_cases hm : 0 < m
  ·have hx : x.length ≤ 1048576 := by
    have : x.length * 1 ≤ x.length * m := Nat.mul_le_mul_left _ hm
    omega
   have e := half_len x.length o.length m
   have e1 : Int.tmod (m : Int) 2 = ((m % 2 : Nat) : Int) := tmod_nn m 2
   have e2 : Int.tdiv (m : Int) 2 = ((m / 2 : Nat) : Int) := tdiv_nn m 2
   have hs := manyL_s x o hm
   by_cases hp : m % 2 = 1
   ·rw [if_pos hp] at hs e
    rw [hp] at e1
    refine Zo (Z5 tis fls @e1 @e2 @c2) ?_
    refine round_normal (x ++ x, o ++ x, m / 2) ⟨by simp only; rw [← hs]; exact h1, by simp only [List.length_append]; omega, by simp only [List.length_append]; omega, by simp only; omega⟩ ?_ (by show m / 2 < m; omega)
    exact Zc (Z2 tis fls)
   ·rw [if_neg hp] at hs e
    have hp0 : m % 2 = 0 := by omega
    rw [hp0] at e1
    refine Zo (Z5 tis fls @e1 @e2 @c2) ?_
    refine round_normal (x ++ x, o, m / 2) ⟨by simp only; rw [← hs]; exact h1, by simp only [List.length_append]; omega, by simp only [List.length_append]; omega, by simp only; omega⟩ ?_ (by show m / 2 < m; omega)
    exact Zc (Z2 tis fls)
  ·obtain rfl : m = 0 := by omega
   rw [manyL_0] at h1
   exact Zc (Z3 tis fls @h1)
def w13 : List (List UInt8) := [[97], [98], [97], [98], [99], [120], [48], [97], [98], [97], [98], [255], [0]]
def wordL (b : List UInt8) (p : Nat) : Nat → List UInt8
 | 0 => []
 | j + 1 => wordL b p j ++ ofV b (p + j) w13
theorem w13_len (b : List UInt8) (p : Nat) : (ofV b p w13).length = 1 := by
 have h := ofV_mem b p (l := w13) (by decide)
 generalize ofV b p w13 = x at *
 simp only [w13, List.mem_cons, List.not_mem_nil, or_false] at h
 rcases h with rfl | rfl | rfl | rfl | rfl | rfl | rfl | rfl | rfl | rfl | rfl | rfl | rfl <;> rfl
theorem wordL_len (b : List UInt8) (p : Nat) : ∀ j, (wordL b p j).length = j
 | 0 => rfl
 | j + 1 => by simp [wordL, wordL_len b p j, w13_len]
def wordV (b : List UInt8) (p most : Nat) : List UInt8 := wordL b (p + 1) (pickV b p (most + 1))
def wordQ (b : List UInt8) (p most : Nat) : Nat := p + 1 + pickV b p (most + 1)
theorem fits_l3Word (b : List UInt8) (hb : b.length ≤ 2000) (p : Nat) (hp : p ≤ 900000) (most : Nat) (hm : most ≤ 1000) : Fits prog 87 [.box (eRd b p), .int .i64 most] (.str (wordV b p most)) [.box (eRd b (wordQ b p most))] := by
 have c1 := fits_pick b hb p (by omega) (most + 1) (by omega) (by omega)
 have hk := pickV_lt b p (n := most + 1) (by omega)
 unfold wordV wordQ
 generalize pickV b p (most + 1) = m at *
 have cO := fun j (hj : j < m) => fits_of b hb (p + 1 + j) (by omega) w13 (by decide) (by decide)
 unfold eRd at *
 refine fits_of_code [4] [0] [0, 1, 4, 5, 6, 12] func87 rfl rfl rfl (by rfl) (by show 2 ≤ 21; decide) (by rfl) (by rfl) (by show 1 ≤ 2; decide) (by rfl) (run_of ?_)
 refine Zo (Z2 tis fls) ?_
 refine callM 0 c1 ?_
 refine Zo (Z3 tis fls @LLdrosin) ?_
 refine run_loop (α := Nat) (fun j => j ≤ m) (fun j => [(0, .box (.agg [.sl false 1 (bytesA b), .int .i64 (p + 1 + j : Nat)])), (5, .str (wordL b (p + 1) j)), (6, .int .i64 ((m : Int) - j))]) (fun j => m - j) 0 (Nat.zero_le _) ?_ ?_
 ·simp -implicitDefEqProofs (disch := first | (intros; contradiction) | omega) only [am0, am1, am2, am3, am4, am5, am6, Nat.reduceSub, ↓reduceIte, reduceCtorEq, Nat.reduceEqDiff, Nat.reduceBEq, Nat.reduceAdd, Nat.reduceLT, Nat.reduceBNe, Nat.reduceMul, ↓reduceIte, tis, fls, wordL]
 ·intro j hj'
  have hl := wordL_len b (p + 1) j
  by_cases hj : j < m
  ·have cO := cO j hj
   have hl2 := w13_len b (p + 1 + j)
   have hS : wordL b (p + 1) (j + 1) = wordL b (p + 1) j ++ ofV b (p + 1 + j) w13 := rfl
   generalize ofV b (p + 1 + j) w13 = x at *
   generalize wordL b (p + 1) j = y at *
   refine Zo (Z2 tis fls) ?_
   refine callMF [(17, [])] 0 cO ?_
   simp -implicitDefEqProofs (disch := first | (intros; contradiction) | omega) only [am0, am1, am2, am3, am4, am5, am6, Nat.reduceSub, ↓reduceIte, reduceCtorEq, Nat.reduceEqDiff, Nat.reduceBEq, Nat.reduceAdd, Nat.reduceLT, Nat.reduceBNe, Nat.reduceMul, ↓reduceIte, tis, fls, List.dropLast_singleton, w13, eStr]
   refine round_normal (j + 1) (by omega) ?_ (by show m - (j + 1) < m - j; omega)
   refine Zo (Z3 tis fls @hS) ?_
   try omega
  ·obtain rfl : j = m := by omega
   exact Zc (Z2 tis fls)
theorem take_len (c : List UInt8) : (c.take 2000).length ≤ 2000 := by simp; omega
def m1213 : List Int := [12, 13]
def dmT (b : List UInt8) : List UInt8 := if pickV b (bentV b 0).2 30 = 0 then manyL [97] [] (numV b ((bentV b 0).2 + 1) m1213).toNat else wordV b ((bentV b 0).2 + 1) 6
theorem m1213_k (b : List UInt8) (p : Nat) : ((numV b p m1213).toNat : Int) = numV b p m1213 ∧ (numV b p m1213).toNat ≤ 13 := by
 have h := numV_mem b p (l := m1213) (by decide)
 generalize numV b p m1213 = x at *
 simp only [m1213, List.mem_cons, List.not_mem_nil, or_false] at h
 omega
theorem fits_drawMatchIs (c : List UInt8) (hc : c.length ≤ 9223372036854775807) : Fits prog 44 [.sl false 1 (bytesA c)] (.tup [eRex true (bentV (c.take 2000) 0).1, .str (dmT (c.take 2000))]) [] := by
 have cO := fits_open c hc
 have hb := take_len c
 generalize c.take 2000 = b at *
 have cB := fits_l2Bent b hb 0 (by omega)
 have hl := bentV_le b 0
 unfold dmT
 generalize bentV b 0 = x at *
 have c1 : Fits prog 84 [.box (eRd b x.2), .int .i64 30] (.int .i64 (pickV b x.2 30)) [.box (eRd b (x.2 + 1))] := fits_pick b hb x.2 (by omega) 30 (by omega) (by omega)
 generalize pickV b x.2 30 = k at *
 rw [eRex_eq] at *
 by_cases hk : k = 0
 ·subst hk
  rw [if_pos rfl]
  have cN := fits_num b hb (x.2 + 1) (by omega) m1213 (by decide) (by decide)
  obtain ⟨q1, q2⟩ := m1213_k b (x.2 + 1)
  rw [← q1] at cN
  generalize (numV b (x.2 + 1) m1213).toNat = n at *
  have cM := fits_l15Many [97] n (by simp only [List.length_cons, List.length_nil]; omega) (by simp) (by omega)
  unfold eRd at *
  refine fits_of_two 2 30 3 [] [0, 2, 3, 4, 5, 12] func44 rfl rfl rfl (by show 2 < 21; decide) (by show 3 < 21; decide) (by show 1 ≤ 21; decide) (by rfl) (by rfl) (by show 0 ≤ 1; decide) (by rfl) (run_of ?_)
  refine Zo (Z3 tis fls rx) ?_
  refine callB cO ?_
  refine Zo (Z3 tis fls rx) ?_
  refine callM 0 cB ?_
  refine Zo (Z4 tis fls rx @LLdrosin) ?_
  refine callM 0 c1 ?_
  refine Zo (Z4 tis fls rx @LLdrosin) ?_
  refine .inr (run_mix 16 [] [4, 15] (by kernel_rfl) ?_)
  refine Zo (Z3 tis fls rx) ?_
  refine callGF 0 cN ?_
  simp -implicitDefEqProofs (disch := first | (intros; contradiction) | omega) only [am0, am1, am2, am3, am4, am5, am6, Nat.reduceSub, ↓reduceIte, reduceCtorEq, Nat.reduceEqDiff, Nat.reduceBEq, Nat.reduceAdd, Nat.reduceLT, Nat.reduceBNe, Nat.reduceMul, ↓reduceIte, tis, fls, rx, List.dropLast_singleton, m1213, eInt]
  refine callL cM ?_
  exact Zc (Z5 tis fls rx retCTwo.eq_1 (Z3 scalA.eq_1 scalA.eq_2 scalA.eq_3))
 ·rw [if_neg hk]
  have hk0 : ¬ ((k : Int) = 0) := by omega
  have cW : Fits prog 87 [.box (eRd b (x.2 + 1)), .int .i64 6] (.str (wordV b (x.2 + 1) 6)) [.box (eRd b (wordQ b (x.2 + 1) 6))] := fits_l3Word b hb (x.2 + 1) (by omega) 6 (by omega)
  unfold eRd at *
  refine fits_of_two 2 30 3 [] [0, 2, 3, 4, 5, 12] func44 rfl rfl rfl (by show 2 < 21; decide) (by show 3 < 21; decide) (by show 1 ≤ 21; decide) (by rfl) (by rfl) (by show 0 ≤ 1; decide) (by rfl) (run_of ?_)
  refine Zo (Z3 tis fls rx) ?_
  refine callB cO ?_
  refine Zo (Z3 tis fls rx) ?_
  refine callM 0 cB ?_
  refine Zo (Z4 tis fls rx @LLdrosin) ?_
  refine callM 0 c1 ?_
  refine Zo (Z5 tis fls rx @LLdrosin @hk0) ?_
  refine .inr (run_mix 20 [] [4] (by kernel_rfl) ?_)
  refine Zo (Z3 tis fls rx) ?_
  refine callG 0 cW ?_
  exact Zc (Z6 tis fls rx @LLdrosin retCTwo.eq_1 (Z3 scalA.eq_1 scalA.eq_2 scalA.eq_3))
theorem fits_head (r : Rex) : Okr r → hpR r = true → ps r ≤ 24 → Fits prog 37 [eRex false r] (eRex false (headR r)) [] := by
 induction r using Rex.ind' with
 | h r ih =>
  intro hr hp hps
  have eN : eRex false (.mk 1 [] []) = .agg [.int .i64 1, .sl false 2 [], .sl false 3 []] := by rw [eRex_eq]; rfl
  have eE : eRex false (.mk 2 [] []) = .agg [.int .i64 2, .sl false 2 [], .sl false 3 []] := by rw [eRex_eq]; rfl
  have hbr := bd_p hr hps
  have cS := fits_some r hr (by omega)
  have oe := okr_em
  have c0 := fits_nothingR
  rw [eN] at c0
  obtain ⟨R, hR⟩ : ∃ R, headR r = R := ⟨_, rfl⟩
  rw [hR]
  rw [headR_eq] at hR
  by_cases k1 : r.kind = 1
  ·rw [if_pos k1] at hR
   have n0 : noR r = decide (r.set.length = 0) := by simp [noR, k1]
   have cN := fits_isNothing r (by omega)
   rw [n0, eRex_eq] at cN
   by_cases h0 : r.set.length = 0
   ·rw [if_pos h0] at hR
    subst hR
    rw [eN]
    rw [decide_eq_true h0] at cN
    rw [eRex_eq]
    refine fits_of_cell 2 30 [] [0, 1, 2, 3, 6, 7, 10, 15, 19, 38, 51] func37 rfl rfl rfl (by show 2 < 68; decide) (by show 1 ≤ 68; decide) (by rfl) (by rfl) (by show 0 ≤ 1; decide) (by rfl) (run_of ?_)
    (repeat (first | refine Zo (Z5 tis rx fls @k1 Zi) ?_ | refine .inl ⟨by kernel_rfl, ?_⟩ | exact .inl (by show _ = _; kernel_rfl) | exact Zc (Z5 tis rx fls @k1 Zi)); try ((first | refine callL cN ?_ | refine callB cN ?_); repeat (first | refine Zo (Z5 tis rx fls @k1 Zi) ?_ | refine .inl ⟨by kernel_rfl, ?_⟩ | exact .inl (by show _ = _; kernel_rfl) | exact Zc (Z5 tis rx fls @k1 Zi))); try ((first | refine callL c0 ?_ | refine callB c0 ?_); repeat (first | refine Zo (Z5 tis rx fls @k1 Zi) ?_ | refine .inl ⟨by kernel_rfl, ?_⟩ | exact .inl (by show _ = _; kernel_rfl) | exact Zc (Z5 tis rx fls @k1 Zi))))
   ·rw [if_neg h0] at hR
    have c1 := fits_normOr (.mk 2 [] []) r oe.1 hr (by omega)
    rw [hR, eE, eRex_eq false r, eRex_eq false R] at c1
    rw [decide_eq_false h0] at cN
    rw [eRex_eq false r, eRex_eq false R]
    refine fits_of_cell 2 30 [] [0, 1, 2, 3, 6, 7, 10, 15, 19, 38, 51] func37 rfl rfl rfl (by show 2 < 68; decide) (by show 1 ≤ 68; decide) (by rfl) (by rfl) (by show 0 ≤ 1; decide) (by rfl) (run_of ?_)
    refine Zo (Z4 tis rx fls @k1) ?_
    refine callF [(3, [0, 1]), (3, [0, 2])] cN ?_
    (repeat (first | refine Zo (Z5 tis rx fls @k1 Zi) ?_ | refine .inl ⟨by kernel_rfl, ?_⟩ | exact .inl (by show _ = _; kernel_rfl) | exact Zc (Z5 tis rx fls @k1 Zi)); try ((first | refine callL c1 ?_ | refine callB c1 ?_); repeat (first | refine Zo (Z5 tis rx fls @k1 Zi) ?_ | refine .inl ⟨by kernel_rfl, ?_⟩ | exact .inl (by show _ = _; kernel_rfl) | exact Zc (Z5 tis rx fls @k1 Zi))))
  ·rw [if_neg k1] at hR
   by_cases k3 : r.kind = 3
   ·rw [if_pos k3] at hR
    obtain ⟨x, y, e, hx, hy, hl⟩ := okr_kids2 hr (.inl k3)
    have px := ps_two e
    cases hs : someN r with
    | false =>
     rw [hs] at cS hR
     rw [if_neg (by simp)] at hR
     subst hR
     rw [eN]
     rw [eRex_eq] at cS ⊢
     refine fits_of_cell 2 30 [] [0, 1, 2, 3, 6, 7, 10, 15, 19, 38, 51] func37 rfl rfl rfl (by show 2 < 68; decide) (by show 1 ≤ 68; decide) (by rfl) (by rfl) (by show 0 ≤ 1; decide) (by rfl) (run_of ?_)
     (repeat (first | refine Zo (Z5 tis rx fls @k3 Zi) ?_ | refine .inl ⟨by kernel_rfl, ?_⟩ | exact .inl (by show _ = _; kernel_rfl) | exact Zc (Z5 tis rx fls @k3 Zi)); try ((first | refine callL cS ?_ | refine callB cS ?_); repeat (first | refine Zo (Z5 tis rx fls @k3 Zi) ?_ | refine .inl ⟨by kernel_rfl, ?_⟩ | exact .inl (by show _ = _; kernel_rfl) | exact Zc (Z5 tis rx fls @k3 Zi))); try ((first | refine callL c0 ?_ | refine callB c0 ?_); repeat (first | refine Zo (Z5 tis rx fls @k3 Zi) ?_ | refine .inl ⟨by kernel_rfl, ?_⟩ | exact .inl (by show _ = _; kernel_rfl) | exact Zc (Z5 tis rx fls @k3 Zi))))
    | true =>
     rw [hs] at cS hR
     rw [if_pos rfl, e] at hR
     simp only [List.map_cons, List.map_nil, List.getD_cons_zero, List.getD_cons_succ] at hR
     have c1 := ih x (by rw [e]; simp) hx (hpR_kid hp (by rw [e]; simp)) (by omega)
     have c2 := ih y (by rw [e]; simp) hy (hpR_kid hp (by rw [e]; simp)) (by omega)
     have bx := bd_p hx (n := 24) (by omega)
     have cC := fits_copyS x (by omega)
     have c3 := fits_norm x hx (by omega)
     obtain ⟨u1, u2⟩ := headR_ok x hx
     obtain ⟨v1, v2⟩ := headR_ok y hy
     have w1 := (normR_ok x hx).1
     have w2 := bd_p w1 (n := 24) (by have := normR_ps x hx; omega)
     have q1 : qB (ps x) ≤ 696 := Nat.le_trans (qB_mono (b := 24) (by omega)) (by decide)
     have q2 : qB (ps y) ≤ 696 := Nat.le_trans (qB_mono (b := 24) (by omega)) (by decide)
     have u3 := bd_p u1 (n := 696) (by omega)
     have v3 := bd_p v1 (n := 696) (by omega)
     have c4 := fits_normCat (normR x) (headR y) w1 v1 (by omega)
     obtain ⟨z1, z2⟩ := catN_ok (normR x) (headR y) w1 v1
     have c5 := fits_normOr (headR x) (catN (normR x) (headR y)) u1 z1 (by omega)
     rw [hR] at c5
     clear ih u2 v2 z2 hR
     rw [eRex_eq false r, e] at cS ⊢
     simp only [List.map_cons, List.map_nil] at cS ⊢
     generalize headR x = X at *
     generalize headR y = Y at *
     generalize normR x = N at *
     generalize catN N Y = C at *
     rw [eRex_eq false x] at cC c1 c3
     rw [eRex_eq false y] at c2
     rw [eRex_eq false X] at c1
     rw [eRex_eq false Y] at c2
     rw [eRex_eq false N] at c3
     rw [eRex_eq false N, eRex_eq false Y, eRex_eq false C] at c4
     rw [eRex_eq false X, eRex_eq false C, eRex_eq false R] at c5
     rw [eRex_eq false x, eRex_eq false y] at cS ⊢
     rw [eRex_eq false R]
     refine fits_of_cell 2 30 [] [0, 1, 2, 3, 6, 7, 10, 15, 19, 38, 51] func37 rfl rfl rfl (by show 2 < 68; decide) (by show 1 ≤ 68; decide) (by rfl) (by rfl) (by show 0 ≤ 1; decide) (by rfl) (run_of ?_)
     (repeat (first | refine Zo (Z6 tis rx fls @eRex_eq @k3 Zi) ?_ | refine .inl ⟨by kernel_rfl, ?_⟩ | exact .inl (by show _ = _; kernel_rfl) | exact Zc (Z6 tis rx fls @eRex_eq @k3 Zi)); try ((first | refine callL cS ?_ | refine callB cS ?_); repeat (first | refine Zo (Z6 tis rx fls @eRex_eq @k3 Zi) ?_ | refine .inl ⟨by kernel_rfl, ?_⟩ | exact .inl (by show _ = _; kernel_rfl) | exact Zc (Z6 tis rx fls @eRex_eq @k3 Zi))); try ((first | refine callL c1 ?_ | refine callB c1 ?_); repeat (first | refine Zo (Z6 tis rx fls @eRex_eq @k3 Zi) ?_ | refine .inl ⟨by kernel_rfl, ?_⟩ | exact .inl (by show _ = _; kernel_rfl) | exact Zc (Z6 tis rx fls @eRex_eq @k3 Zi))); try ((first | refine callL c3 ?_ | refine callB c3 ?_); repeat (first | refine Zo (Z6 tis rx fls @eRex_eq @k3 Zi) ?_ | refine .inl ⟨by kernel_rfl, ?_⟩ | exact .inl (by show _ = _; kernel_rfl) | exact Zc (Z6 tis rx fls @eRex_eq @k3 Zi))); try ((first | refine callL c2 ?_ | refine callB c2 ?_); repeat (first | refine Zo (Z6 tis rx fls @eRex_eq @k3 Zi) ?_ | refine .inl ⟨by kernel_rfl, ?_⟩ | exact .inl (by show _ = _; kernel_rfl) | exact Zc (Z6 tis rx fls @eRex_eq @k3 Zi))); try ((first | refine callL c4 ?_ | refine callB c4 ?_); repeat (first | refine Zo (Z6 tis rx fls @eRex_eq @k3 Zi) ?_ | refine .inl ⟨by kernel_rfl, ?_⟩ | exact .inl (by show _ = _; kernel_rfl) | exact Zc (Z6 tis rx fls @eRex_eq @k3 Zi))); try ((first | refine callL c5 ?_ | refine callB c5 ?_); repeat (first | refine Zo (Z6 tis rx fls @eRex_eq @k3 Zi) ?_ | refine .inl ⟨by kernel_rfl, ?_⟩ | exact .inl (by show _ = _; kernel_rfl) | exact Zc (Z6 tis rx fls @eRex_eq @k3 Zi))))
   ·rw [if_neg k3] at hR
    by_cases k4 : r.kind = 4
    ·rw [if_pos k4] at hR
     obtain ⟨x, y, e, hx, hy, hl⟩ := okr_kids2 hr (.inr (.inl k4))
     have px := ps_two e
     rw [e] at hR
     simp only [List.map_cons, List.map_nil, List.getD_cons_zero, List.getD_cons_succ] at hR
     have c1 := ih x (by rw [e]; simp) hx (hpR_kid hp (by rw [e]; simp)) (by omega)
     have c2 := ih y (by rw [e]; simp) hy (hpR_kid hp (by rw [e]; simp)) (by omega)
     obtain ⟨u1, u2⟩ := headR_ok x hx
     obtain ⟨v1, v2⟩ := headR_ok y hy
     have q1 : qB (ps x) ≤ 696 := Nat.le_trans (qB_mono (b := 24) (by omega)) (by decide)
     have q2 : qB (ps y) ≤ 696 := Nat.le_trans (qB_mono (b := 24) (by omega)) (by decide)
     have u3 := bd_p u1 (n := 696) (by omega)
     have v3 := bd_p v1 (n := 696) (by omega)
     have c5 := fits_normOr (headR x) (headR y) u1 v1 (by omega)
     rw [hR] at c5
     clear ih u2 v2 hR
     rw [eRex_eq false r, e]
     simp only [List.map_cons, List.map_nil]
     generalize headR x = X at *
     generalize headR y = Y at *
     rw [eRex_eq false x, eRex_eq false X] at c1
     rw [eRex_eq false y, eRex_eq false Y] at c2
     rw [eRex_eq false X, eRex_eq false Y, eRex_eq false R] at c5
     rw [eRex_eq false x, eRex_eq false y, eRex_eq false R]
     refine fits_of_cell 2 30 [] [0, 1, 2, 3, 6, 7, 10, 15, 19, 38, 51] func37 rfl rfl rfl (by show 2 < 68; decide) (by show 1 ≤ 68; decide) (by rfl) (by rfl) (by show 0 ≤ 1; decide) (by rfl) (run_of ?_)
     (repeat (first | refine Zo (Z6 tis rx fls @eRex_eq @k4 Zi) ?_ | refine .inl ⟨by kernel_rfl, ?_⟩ | exact .inl (by show _ = _; kernel_rfl) | exact Zc (Z6 tis rx fls @eRex_eq @k4 Zi)); try ((first | refine callL c1 ?_ | refine callB c1 ?_); repeat (first | refine Zo (Z6 tis rx fls @eRex_eq @k4 Zi) ?_ | refine .inl ⟨by kernel_rfl, ?_⟩ | exact .inl (by show _ = _; kernel_rfl) | exact Zc (Z6 tis rx fls @eRex_eq @k4 Zi))); try ((first | refine callL c2 ?_ | refine callB c2 ?_); repeat (first | refine Zo (Z6 tis rx fls @eRex_eq @k4 Zi) ?_ | refine .inl ⟨by kernel_rfl, ?_⟩ | exact .inl (by show _ = _; kernel_rfl) | exact Zc (Z6 tis rx fls @eRex_eq @k4 Zi))); try ((first | refine callL c5 ?_ | refine callB c5 ?_); repeat (first | refine Zo (Z6 tis rx fls @eRex_eq @k4 Zi) ?_ | refine .inl ⟨by kernel_rfl, ?_⟩ | exact .inl (by show _ = _; kernel_rfl) | exact Zc (Z6 tis rx fls @eRex_eq @k4 Zi))))
    ·rw [if_neg k4] at hR
     by_cases k5 : r.kind = 5
     ·rw [if_pos k5] at hR
      obtain ⟨x, e, hx, hl⟩ := okr_kids1 hr (.inl k5)
      have px := ps_one e
      rw [e] at hR
      simp only [List.map_cons, List.map_nil, List.getD_cons_zero] at hR
      have c1 := ih x (by rw [e]; simp) hx (hpR_kid hp (by rw [e]; simp)) (by omega)
      have bx := bd_p hx (n := 24) (by omega)
      have cC := fits_copyS x (by omega)
      have c3 := fits_norm x hx (by omega)
      obtain ⟨u1, u2⟩ := headR_ok x hx
      have w1 := (normR_ok x hx).1
      have w2 := bd_p w1 (n := 24) (by have := normR_ps x hx; omega)
      obtain ⟨s1, s2⟩ := starN_ok w1
      have c4 := fits_normStar (normR x) w1 (by omega)
      have q1 : qB (ps x) ≤ 696 := Nat.le_trans (qB_mono (b := 24) (by omega)) (by decide)
      have u3 := bd_p u1 (n := 696) (by omega)
      have c5 := fits_normCat (starN (normR x)) (headR x) s1 u1 (by omega)
      obtain ⟨z1, z2⟩ := catN_ok (starN (normR x)) (headR x) s1 u1
      have c6 := fits_normOr (.mk 2 [] []) (catN (starN (normR x)) (headR x)) oe.1 z1 (by omega)
      rw [hR, eE] at c6
      clear ih u2 z2 hR
      rw [eRex_eq false r, e]
      simp only [List.map_cons, List.map_nil]
      generalize headR x = X at *
      generalize normR x = N at *
      generalize starN N = S at *
      generalize catN S X = C at *
      rw [eRex_eq false x] at cC c1 c3
      rw [eRex_eq false X] at c1
      rw [eRex_eq false N] at c3
      rw [eRex_eq false N, eRex_eq false S] at c4
      rw [eRex_eq false S, eRex_eq false X, eRex_eq false C] at c5
      rw [eRex_eq false C, eRex_eq false R] at c6
      rw [eRex_eq false x, eRex_eq false R]
      refine fits_of_cell 2 30 [] [0, 1, 2, 3, 6, 7, 10, 15, 19, 38, 51] func37 rfl rfl rfl (by show 2 < 68; decide) (by show 1 ≤ 68; decide) (by rfl) (by rfl) (by show 0 ≤ 1; decide) (by rfl) (run_of ?_)
      refine Zo (Z5 tis rx fls @eRex_eq @k5) ?_
      refine .inr (run_frzd [(3, [0, 1]), (3, [0, 2])] (by kernel_rfl) ?_)
      (repeat (first | refine Zo (Z6 tis rx fls @eRex_eq @k5 Zi) ?_ | refine .inl ⟨by kernel_rfl, ?_⟩ | exact .inl (by show _ = _; kernel_rfl) | exact Zc (Z6 tis rx fls @eRex_eq @k5 Zi)); try ((first | refine callL c3 ?_ | refine callB c3 ?_); repeat (first | refine Zo (Z6 tis rx fls @eRex_eq @k5 Zi) ?_ | refine .inl ⟨by kernel_rfl, ?_⟩ | exact .inl (by show _ = _; kernel_rfl) | exact Zc (Z6 tis rx fls @eRex_eq @k5 Zi))); try ((first | refine callL c4 ?_ | refine callB c4 ?_); repeat (first | refine Zo (Z6 tis rx fls @eRex_eq @k5 Zi) ?_ | refine .inl ⟨by kernel_rfl, ?_⟩ | exact .inl (by show _ = _; kernel_rfl) | exact Zc (Z6 tis rx fls @eRex_eq @k5 Zi))); try ((first | refine callL c1 ?_ | refine callB c1 ?_); repeat (first | refine Zo (Z6 tis rx fls @eRex_eq @k5 Zi) ?_ | refine .inl ⟨by kernel_rfl, ?_⟩ | exact .inl (by show _ = _; kernel_rfl) | exact Zc (Z6 tis rx fls @eRex_eq @k5 Zi))); try ((first | refine callL c5 ?_ | refine callB c5 ?_); repeat (first | refine Zo (Z6 tis rx fls @eRex_eq @k5 Zi) ?_ | refine .inl ⟨by kernel_rfl, ?_⟩ | exact .inl (by show _ = _; kernel_rfl) | exact Zc (Z6 tis rx fls @eRex_eq @k5 Zi))); try ((first | refine callL c6 ?_ | refine callB c6 ?_); repeat (first | refine Zo (Z6 tis rx fls @eRex_eq @k5 Zi) ?_ | refine .inl ⟨by kernel_rfl, ?_⟩ | exact .inl (by show _ = _; kernel_rfl) | exact Zc (Z6 tis rx fls @eRex_eq @k5 Zi))))
     ·rw [if_neg k5] at hR
      subst hR
      have k2 : r.kind = 2 := by
       have := okr_kind hr
       rw [hpR_eq] at hp
       simp only [Bool.and_eq_true, Bool.not_eq_true', decide_eq_false_iff_not, not_or] at hp
       omega
      rw [okr_k2 hr k2, eE]
      refine fits_of_cell 2 30 [] [0, 1, 2, 3, 6, 7, 10, 15, 19, 38, 51] func37 rfl rfl rfl (by show 2 < 68; decide) (by show 1 ≤ 68; decide) (by rfl) (by rfl) (by show 0 ≤ 1; decide) (by rfl) (run_of ?_)
      exact Zc (Z3 tis rx fls)
def thR (r : Rex) : Rex := if rexB r = true then (if hpR r = true then headR r else zRex) else zRex
theorem rexB_ok {r : Rex} (h : rexB r = true) : Okr r ∧ ps r ≤ 24 := by
 simp only [rexB, Bool.and_eq_true, decide_eq_true_eq] at h
 exact ⟨⟨8, h.1⟩, h.2⟩
theorem headR_bd {r : Rex} (h : rexB r = true) : bd (headR r) ≤ 129 * 696 := by
 obtain ⟨h1, h2⟩ := rexB_ok h
 obtain ⟨u1, u2⟩ := headR_ok r h1
 exact bd_p u1 (Nat.le_trans u2 (Nat.le_trans (qB_mono (b := 24) h2) (by decide)))
theorem fits_turnHead (r : Rex) (hb : bd r ≤ 1048576) : Fits prog 10 [eRex false r] (.tup [eRex true (thR r), .bool (rexB r && hpR r)]) [] := by
 have cO := fits_rexOk r hb
 have cH := fits_has r (by omega)
 have eZ : eRex true zRex = .agg [.int .i64 0, .sl true 2 [], .sl true 3 []] := by rw [eRex_eq]; rfl
 unfold thR
 cases h : rexB r with
 | false =>
  rw [h] at cO
  rw [if_neg (by simp), eZ, Bool.false_and]
  rw [eRex_eq] at *
  refine fits_of_pair 2 30 3 [] [0, 1, 2, 3, 10] func10 rfl rfl rfl (by show 2 < 15; decide) (by show 3 < 15; decide) (by show 1 ≤ 15; decide) (by rfl) (by rfl) (by show 0 ≤ 1; decide) (by rfl) (run_of ?_)
  (repeat (first | refine Zo (Z5 retCB.eq_1 tis fls rx Zi) ?_ | refine .inl ⟨by kernel_rfl, ?_⟩ | exact .inl (by show _ = _; kernel_rfl) | exact Zc (Z5 retCB.eq_1 tis fls rx Zi)); try ((first | refine callL cO ?_ | refine callB cO ?_); repeat (first | refine Zo (Z5 retCB.eq_1 tis fls rx Zi) ?_ | refine .inl ⟨by kernel_rfl, ?_⟩ | exact .inl (by show _ = _; kernel_rfl) | exact Zc (Z5 retCB.eq_1 tis fls rx Zi))))
 | true =>
  rw [h] at cO
  rw [if_pos rfl, Bool.true_and]
  obtain ⟨o1, o2⟩ := rexB_ok h
  cases h2 : hpR r with
  | false =>
   rw [h2] at cH
   rw [if_neg (by simp), eZ]
   rw [eRex_eq] at *
   refine fits_of_pair 2 30 3 [] [0, 1, 2, 3, 10] func10 rfl rfl rfl (by show 2 < 15; decide) (by show 3 < 15; decide) (by show 1 ≤ 15; decide) (by rfl) (by rfl) (by show 0 ≤ 1; decide) (by rfl) (run_of ?_)
   (repeat (first | refine Zo (Z5 retCB.eq_1 tis fls rx Zi) ?_ | refine .inl ⟨by kernel_rfl, ?_⟩ | exact .inl (by show _ = _; kernel_rfl) | exact Zc (Z5 retCB.eq_1 tis fls rx Zi)); try ((first | refine callL cO ?_ | refine callB cO ?_); repeat (first | refine Zo (Z5 retCB.eq_1 tis fls rx Zi) ?_ | refine .inl ⟨by kernel_rfl, ?_⟩ | exact .inl (by show _ = _; kernel_rfl) | exact Zc (Z5 retCB.eq_1 tis fls rx Zi))); try ((first | refine callL cH ?_ | refine callB cH ?_); repeat (first | refine Zo (Z5 retCB.eq_1 tis fls rx Zi) ?_ | refine .inl ⟨by kernel_rfl, ?_⟩ | exact .inl (by show _ = _; kernel_rfl) | exact Zc (Z5 retCB.eq_1 tis fls rx Zi))))
  | true =>
   rw [h2] at cH
   rw [if_pos rfl]
   have hhb := headR_bd h
   have cT := fits_head r o1 h2 o2
   have cC := fits_rexCopy (headR r) (by omega)
   generalize headR r = X at *
   rw [eRex_eq false r] at *
   rw [eRex_eq false X] at *
   rw [eRex_eq true X] at *
   refine fits_of_pair 2 30 3 [] [0, 1, 2, 3, 10] func10 rfl rfl rfl (by show 2 < 15; decide) (by show 3 < 15; decide) (by show 1 ≤ 15; decide) (by rfl) (by rfl) (by show 0 ≤ 1; decide) (by rfl) (run_of ?_)
   (repeat (first | refine Zo (Z5 retCB.eq_1 tis fls rx Zi) ?_ | refine .inl ⟨by kernel_rfl, ?_⟩ | exact .inl (by show _ = _; kernel_rfl) | exact Zc (Z5 retCB.eq_1 tis fls rx Zi)); try ((first | refine callL cO ?_ | refine callB cO ?_); repeat (first | refine Zo (Z5 retCB.eq_1 tis fls rx Zi) ?_ | refine .inl ⟨by kernel_rfl, ?_⟩ | exact .inl (by show _ = _; kernel_rfl) | exact Zc (Z5 retCB.eq_1 tis fls rx Zi))); try ((first | refine callL cH ?_ | refine callB cH ?_); repeat (first | refine Zo (Z5 retCB.eq_1 tis fls rx Zi) ?_ | refine .inl ⟨by kernel_rfl, ?_⟩ | exact .inl (by show _ = _; kernel_rfl) | exact Zc (Z5 retCB.eq_1 tis fls rx Zi))); try ((first | refine callL cT ?_ | refine callB cT ?_); repeat (first | refine Zo (Z5 retCB.eq_1 tis fls rx Zi) ?_ | refine .inl ⟨by kernel_rfl, ?_⟩ | exact .inl (by show _ = _; kernel_rfl) | exact Zc (Z5 retCB.eq_1 tis fls rx Zi))); try ((first | refine callL cC ?_ | refine callB cC ?_); repeat (first | refine Zo (Z5 retCB.eq_1 tis fls rx Zi) ?_ | refine .inl ⟨by kernel_rfl, ?_⟩ | exact .inl (by show _ = _; kernel_rfl) | exact Zc (Z5 retCB.eq_1 tis fls rx Zi))))
theorem fits_sameSpans (s t : List Span) (hs : s.length ≤ 1099511627776) : Fits prog 49 [.sl false 2 (s.map eSpan), .sl false 2 (t.map eSpan)] (.bool (decide (s = t))) [] := by
 refine fits_of_code [4] [] [0, 1, 4, 5, 10, 12, 13, 14, 24] func49 rfl rfl rfl (by rfl) (by show 2 ≤ 26; decide) (by rfl) (by rfl) (by show 0 ≤ 2; decide) (by rfl) (run_of ?_)
 by_cases hl : s.length = t.length
 case neg =>
  have h1 : ¬ (s.length : Int) = t.length := by omega
  have h2 : decide (s = t) = false := decide_eq_false (fun e => hl (by rw [e]))
  (repeat (first | refine Zo (Z4 tis @h1 @h2 Zi) ?_ | refine .inl ⟨by kernel_rfl, ?_⟩ | exact .inl (by show _ = _; kernel_rfl) | exact Zc (Z4 tis @h1 @h2 Zi)))
 have h1 : (s.length : Int) = t.length := by omega
 (first | refine Zo (Z2 tis @h1) ?_ | exact Zc (Z2 tis @h1))
 refine run_loop (α := Nat) (fun i => i ≤ s.length ∧ Upto s t i) (fun i => [(0, .sl false 2 (s.map eSpan)), (1, .sl false 2 (t.map eSpan)), (12, .int .i64 s.length), (13, .int .i64 i)]) (fun i => s.length - i) 0 ⟨Nat.zero_le _, upto_0 _ _⟩ ?_ ?_
 ·(first | refine Zo (Z2 tis @h1) ?_ | exact Zc (Z2 tis @h1))
 ·rintro i ⟨hi', hb⟩
  by_cases hi : i < s.length
  ·have hi2 : i < t.length := by omega
   have key : ∀ x y : Span, (x.lo = y.lo ∧ x.hi = y.hi) ↔ x = y := fun x y => by cases x; cases y; simp
   by_cases he : s[i] = t[i]
   ·have e1 : s[i].lo = t[i].lo := by rw [he]
    have e2 : s[i].hi = t[i].hi := by rw [he]
    (repeat (first | refine Zo (Z6 tis fls eSpan.eq_1 @e1 @e2 Zi) ?_ | refine .inl ⟨by kernel_rfl, ?_⟩ | exact .inl (by show _ = _; kernel_rfl) | exact Zc (Z6 tis fls eSpan.eq_1 @e1 @e2 Zi)))
    refine round_normal (i + 1) ⟨by omega, upto_s hb hi hi2 he⟩ (by (first | refine Zo tis ?_ | exact Zc tis)) (by show s.length - (i + 1) < s.length - i; omega)
   ·have h2 : decide (s = t) = false := decide_eq_false (fun e => he (by subst e; rfl))
    by_cases e1 : s[i].lo = t[i].lo
    ·have e2 : ¬ s[i].hi = t[i].hi := fun e2 => he ((key _ _).1 ⟨e1, e2⟩)
     (repeat (first | refine Zo (Z7 tis fls eSpan.eq_1 @e1 @e2 @h2 Zi) ?_ | refine .inl ⟨by kernel_rfl, ?_⟩ | exact .inl (by show _ = _; kernel_rfl) | exact Zc (Z7 tis fls eSpan.eq_1 @e1 @e2 @h2 Zi)))
    ·(repeat (first | refine Zo (Z6 tis fls eSpan.eq_1 @e1 @h2 Zi) ?_ | refine .inl ⟨by kernel_rfl, ?_⟩ | exact .inl (by show _ = _; kernel_rfl) | exact Zc (Z6 tis fls eSpan.eq_1 @e1 @h2 Zi)))
  ·obtain rfl : i = s.length := by omega
   have h2 : decide (s = t) = true := decide_eq_true (upto_e hb hl)
   (repeat (first | refine Zo (Z4 tis fls @h2 Zi) ?_ | refine .inl ⟨by kernel_rfl, ?_⟩ | exact .inl (by show _ = _; kernel_rfl) | exact Zc (Z4 tis fls @h2 Zi)))
theorem fits_rexSames (a : Rex) : ∀ b, bd a ≤ 1099511627776 → Fits prog 16 [eRex false a, eRex false b] (.bool (decide (a = b))) [] := by
 induction a using Rex.ind' with
 | h a ih =>
  intro b ha
  have hba := bd_eq a
  have cS := fits_sameSpans a.set b.set (by omega)
  have hI := rex_eq_iff a b
  rw [eRex_eq false a, eRex_eq false b]
  refine fits_of_code [4] [] [0, 1, 2, 3, 4, 5, 27, 30, 31, 32, 45] func16 rfl rfl rfl (by rfl) (by show 2 ≤ 47; decide) (by rfl) (by rfl) (by show 0 ≤ 2; decide) (by rfl) (run_of ?_)
  by_cases h1 : a.kind = b.kind
  case neg =>
   have h2 : decide (a = b) = false := decide_eq_false (fun e => h1 (by rw [e]))
   (repeat (first | refine callL cS ?_ | refine callB cS ?_ | refine Zo (Z6 tis rx fls @h1 @h2 Zi) ?_ | refine .inl ⟨by kernel_rfl, ?_⟩ | exact .inl (by show _ = _; kernel_rfl) | exact Zc (Z6 tis rx fls @h1 @h2 Zi)))
  by_cases h3 : a.set = b.set
  case neg =>
   have h2 : decide (a = b) = false := decide_eq_false (fun e => h3 (by rw [e]))
   have h4 : decide (a.set = b.set) = false := decide_eq_false h3
   rw [h4] at cS
   (repeat (first | refine callL cS ?_ | refine callB cS ?_ | refine Zo (Z6 tis rx fls @h1 @h2 Zi) ?_ | refine .inl ⟨by kernel_rfl, ?_⟩ | exact .inl (by show _ = _; kernel_rfl) | exact Zc (Z6 tis rx fls @h1 @h2 Zi)))
  have h4 : decide (a.set = b.set) = true := decide_eq_true h3
  rw [h4] at cS
  by_cases h5 : a.kids.length = b.kids.length
  case neg =>
   have h2 : decide (a = b) = false := decide_eq_false (fun e => h5 (by rw [e]))
   have h6 : ¬ (a.kids.length : Int) = b.kids.length := by omega
   (repeat (first | refine callL cS ?_ | refine callB cS ?_ | refine Zo (Z7 tis rx fls @h1 @h2 @h6 Zi) ?_ | refine .inl ⟨by kernel_rfl, ?_⟩ | exact .inl (by show _ = _; kernel_rfl) | exact Zc (Z7 tis rx fls @h1 @h2 @h6 Zi)))
  have h6 : (a.kids.length : Int) = b.kids.length := by omega
  (repeat (first | refine callL cS ?_ | refine callB cS ?_ | refine Zo (Z6 tis rx fls @h1 @h6 Zi) ?_ | refine .inl ⟨by kernel_rfl, ?_⟩ | exact .inl (by show _ = _; kernel_rfl) | exact Zc (Z6 tis rx fls @h1 @h6 Zi)))
  refine run_loop (α := Nat) (fun i => i ≤ a.kids.length ∧ Upto a.kids b.kids i) (fun i => [(2, .box (.agg [.int .i64 a.kind, .sl false 2 (a.set.map eSpan), .sl false 3 (a.kids.map (eRex false))])), (3, .box (.agg [.int .i64 b.kind, .sl false 2 (b.set.map eSpan), .sl false 3 (b.kids.map (eRex false))])), (30, .int .i64 a.kids.length), (31, .int .i64 i)]) (fun i => a.kids.length - i) 0 ⟨Nat.zero_le _, upto_0 _ _⟩ ?_ ?_
  ·(first | refine Zo (Z3 tis @h1 @h6) ?_ | exact Zc (Z3 tis @h1 @h6))
  ·rintro i ⟨hi', hb⟩
   by_cases hi : i < a.kids.length
   ·have hi2 : i < b.kids.length := by omega
    have hm := List.getElem_mem hi
    have cK := ih a.kids[i] hm b.kids[i] (Nat.le_trans (bd_kid hm) ha)
    rw [eRex_eq, eRex_eq] at cK
    by_cases he : a.kids[i] = b.kids[i]
    ·have h4 : decide (a.kids[i] = b.kids[i]) = true := decide_eq_true he
     rw [h4] at cK
     (repeat (first | refine callL cK ?_ | refine callB cK ?_ | refine Zo (Z5 tis rx fls @eRex_eq Zi) ?_ | refine .inl ⟨by kernel_rfl, ?_⟩ | exact .inl (by show _ = _; kernel_rfl) | exact Zc (Z5 tis rx fls @eRex_eq Zi)))
     refine round_normal (i + 1) ⟨by omega, upto_s hb hi hi2 he⟩ (by (first | refine Zo tis ?_ | exact Zc tis)) (by show a.kids.length - (i + 1) < a.kids.length - i; omega)
    ·have h4 : decide (a.kids[i] = b.kids[i]) = false := decide_eq_false he
     rw [h4] at cK
     have h2 : decide (a = b) = false := decide_eq_false (fun e => he (by subst e; rfl))
     (repeat (first | refine callL cK ?_ | refine callB cK ?_ | refine Zo (Z6 tis rx fls @eRex_eq @h2 Zi) ?_ | refine .inl ⟨by kernel_rfl, ?_⟩ | exact .inl (by show _ = _; kernel_rfl) | exact Zc (Z6 tis rx fls @eRex_eq @h2 Zi)))
   ·obtain rfl : i = a.kids.length := by omega
    have h2 : decide (a = b) = true := decide_eq_true (hI.2 ⟨h1, h3, upto_e hb h5⟩)
    (repeat (first | refine Zo (Z5 tis rx fls @h2 Zi) ?_ | refine .inl ⟨by kernel_rfl, ?_⟩ | exact .inl (by show _ = _; kernel_rfl) | exact Zc (Z5 tis rx fls @h2 Zi)))
theorem fits_drawDerivText (c : List UInt8) (hc : c.length ≤ 9223372036854775807) : Fits prog 14 [.sl false 1 (bytesA c)] (.tup [eRex true (bentV (c.take 2000) 0).1, .str (dmT (c.take 2000))]) [] := by
 have cD := fits_drawMatchIs c hc
 generalize (bentV (c.take 2000) 0).1 = r at *
 generalize dmT (c.take 2000) = t at *
 rw [eRex_eq] at cD ⊢
 refine fits_of_two 2 30 3 [] [0, 2, 3] func14 rfl rfl rfl (by show 2 < 8; decide) (by show 3 < 8; decide) (by show 1 ≤ 8; decide) (by rfl) (by rfl) (by show 0 ≤ 1; decide) (by rfl) (run_of ?_)
 (repeat (first | refine Zo (Z8 tis fls rx @ex_eq @exGo_tup retCTwo.eq_1 (Z3 scalA.eq_1 scalA.eq_2 scalA.eq_3) Zi) ?_ | refine .inl ⟨by kernel_rfl, ?_⟩ | exact .inl (by show _ = _; kernel_rfl) | exact Zc (Z8 tis fls rx @ex_eq @exGo_tup retCTwo.eq_1 (Z3 scalA.eq_1 scalA.eq_2 scalA.eq_3) Zi)); try ((first | refine callL cD ?_ | refine callB cD ?_); repeat (first | refine Zo (Z8 tis fls rx @ex_eq @exGo_tup retCTwo.eq_1 (Z3 scalA.eq_1 scalA.eq_2 scalA.eq_3) Zi) ?_ | refine .inl ⟨by kernel_rfl, ?_⟩ | exact .inl (by show _ = _; kernel_rfl) | exact Zc (Z8 tis fls rx @ex_eq @exGo_tup retCTwo.eq_1 (Z3 scalA.eq_1 scalA.eq_2 scalA.eq_3) Zi))))
theorem law_LDerivNo (c : List UInt8) (hc : c.length ≤ 9223372036854775807) : Fits prog 4 [.sl false 1 (bytesA c)] (.bool true) [] := by
 by_cases h0 : (1048576 : Int) < c.length
 ·refine fits_of_code [2] [] [0, 2, 3, 5, 6, 8, 9, 10, 11, 12, 15, 34, 48, 50, 56, 83] func4 rfl rfl rfl (by rfl) (by show 1 ≤ 84; decide) (by rfl) (by rfl) (by show 0 ≤ 1; decide) (by rfl) (run_of ?_)
  (first | refine Zo (Z2 tis @h0) ?_ | exact Zc (Z2 tis @h0))
 have cD : Fits prog 14 [.sl false 1 (bytesA c)] (.tup [eRex false (bentV (c.take 2000) 0).1, .str (dmT (c.take 2000))]) [] := fits_as (fits_drawDerivText c hc) (by simp [erase, eraseL, er_rex])
 have hb := (bentV_le (c.take 2000) 0).2
 generalize (bentV (c.take 2000) 0).1 = r at *
 generalize dmT (c.take 2000) = t at *
 have cT := fits_derivText0 r hb
 have cT2 := fits_sDerivText0 r hb
 have cN := fits_Norm r hb
 have hnb : bd (normP r) ≤ 1048576 := by
  unfold normP
  split
  ·rename_i h; obtain ⟨_, _, h2, _⟩ := norm_bds h; omega
  ·simp [zRex, bd]
 have cS := fits_rexSames (normP r) (normP r) (by omega)
 rw [decide_eq_true rfl] at cS
 have cH := fits_turnHead r hb
 have cO := fits_sRexOk r hb
 have hrb := bd_eq r
 generalize normP r = N at *
 generalize thR r = H at *
 cases hr : rexB r with
 | false =>
  have cR := fits_rexSets0 r hb hr
  rw [hr] at cO cH
  rw [Bool.false_and] at cH
  simp only [eRex_eq] at *
  refine fits_of_code [2] [] [0, 2, 3, 5, 6, 8, 9, 10, 11, 12, 15, 34, 48, 50, 56, 83] func4 rfl rfl rfl (by rfl) (by show 1 ≤ 84; decide) (by rfl) (by rfl) (by show 0 ≤ 1; decide) (by rfl) (run_of ?_)
  (repeat (first | refine Zo (Z7 tis @h0 fls rx @ex_eq @exGo_tup Zi) ?_ | refine .inl ⟨by kernel_rfl, ?_⟩ | exact .inl (by show _ = _; kernel_rfl) | exact Zc (Z7 tis @h0 fls rx @ex_eq @exGo_tup Zi)); try ((first | refine callL cD ?_ | refine callB cD ?_); repeat (first | refine Zo (Z7 tis @h0 fls rx @ex_eq @exGo_tup Zi) ?_ | refine .inl ⟨by kernel_rfl, ?_⟩ | exact .inl (by show _ = _; kernel_rfl) | exact Zc (Z7 tis @h0 fls rx @ex_eq @exGo_tup Zi))); try ((first | refine callL cT ?_ | refine callB cT ?_); repeat (first | refine Zo (Z7 tis @h0 fls rx @ex_eq @exGo_tup Zi) ?_ | refine .inl ⟨by kernel_rfl, ?_⟩ | exact .inl (by show _ = _; kernel_rfl) | exact Zc (Z7 tis @h0 fls rx @ex_eq @exGo_tup Zi))); try ((first | refine callL cT2 ?_ | refine callB cT2 ?_); repeat (first | refine Zo (Z7 tis @h0 fls rx @ex_eq @exGo_tup Zi) ?_ | refine .inl ⟨by kernel_rfl, ?_⟩ | exact .inl (by show _ = _; kernel_rfl) | exact Zc (Z7 tis @h0 fls rx @ex_eq @exGo_tup Zi))); try ((first | refine callL cS ?_ | refine callB cS ?_); repeat (first | refine Zo (Z7 tis @h0 fls rx @ex_eq @exGo_tup Zi) ?_ | refine .inl ⟨by kernel_rfl, ?_⟩ | exact .inl (by show _ = _; kernel_rfl) | exact Zc (Z7 tis @h0 fls rx @ex_eq @exGo_tup Zi))); try ((first | refine callL cN ?_ | refine callB cN ?_); repeat (first | refine Zo (Z7 tis @h0 fls rx @ex_eq @exGo_tup Zi) ?_ | refine .inl ⟨by kernel_rfl, ?_⟩ | exact .inl (by show _ = _; kernel_rfl) | exact Zc (Z7 tis @h0 fls rx @ex_eq @exGo_tup Zi))); try ((first | refine callL cS ?_ | refine callB cS ?_); repeat (first | refine Zo (Z7 tis @h0 fls rx @ex_eq @exGo_tup Zi) ?_ | refine .inl ⟨by kernel_rfl, ?_⟩ | exact .inl (by show _ = _; kernel_rfl) | exact Zc (Z7 tis @h0 fls rx @ex_eq @exGo_tup Zi))); try ((first | refine callL cR ?_ | refine callB cR ?_); repeat (first | refine Zo (Z7 tis @h0 fls rx @ex_eq @exGo_tup Zi) ?_ | refine .inl ⟨by kernel_rfl, ?_⟩ | exact .inl (by show _ = _; kernel_rfl) | exact Zc (Z7 tis @h0 fls rx @ex_eq @exGo_tup Zi))); try ((first | refine callL cH ?_ | refine callB cH ?_); repeat (first | refine Zo (Z7 tis @h0 fls rx @ex_eq @exGo_tup Zi) ?_ | refine .inl ⟨by kernel_rfl, ?_⟩ | exact .inl (by show _ = _; kernel_rfl) | exact Zc (Z7 tis @h0 fls rx @ex_eq @exGo_tup Zi))))
 | true =>
  have cR := fits_rexSets r hr
  rw [hr] at cO cH
  rw [Bool.true_and] at cH
  cases hp : hpR r with
  | false =>
   rw [hp] at cH
   simp only [eRex_eq] at *
   refine fits_of_code [2] [] [0, 2, 3, 5, 6, 8, 9, 10, 11, 12, 15, 34, 48, 50, 56, 83] func4 rfl rfl rfl (by rfl) (by show 1 ≤ 84; decide) (by rfl) (by rfl) (by show 0 ≤ 1; decide) (by rfl) (run_of ?_)
   (repeat (first | refine Zo (Z8 tis @h0 fls rx @dx @ex_eq @exGo_tup Zi) ?_ | refine .inl ⟨by kernel_rfl, ?_⟩ | exact .inl (by show _ = _; kernel_rfl) | exact Zc (Z8 tis @h0 fls rx @dx @ex_eq @exGo_tup Zi)); try ((first | refine callL cD ?_ | refine callB cD ?_); repeat (first | refine Zo (Z8 tis @h0 fls rx @dx @ex_eq @exGo_tup Zi) ?_ | refine .inl ⟨by kernel_rfl, ?_⟩ | exact .inl (by show _ = _; kernel_rfl) | exact Zc (Z8 tis @h0 fls rx @dx @ex_eq @exGo_tup Zi))); try ((first | refine callL cT ?_ | refine callB cT ?_); repeat (first | refine Zo (Z8 tis @h0 fls rx @dx @ex_eq @exGo_tup Zi) ?_ | refine .inl ⟨by kernel_rfl, ?_⟩ | exact .inl (by show _ = _; kernel_rfl) | exact Zc (Z8 tis @h0 fls rx @dx @ex_eq @exGo_tup Zi))); try ((first | refine callL cT2 ?_ | refine callB cT2 ?_); repeat (first | refine Zo (Z8 tis @h0 fls rx @dx @ex_eq @exGo_tup Zi) ?_ | refine .inl ⟨by kernel_rfl, ?_⟩ | exact .inl (by show _ = _; kernel_rfl) | exact Zc (Z8 tis @h0 fls rx @dx @ex_eq @exGo_tup Zi))); try ((first | refine callL cS ?_ | refine callB cS ?_); repeat (first | refine Zo (Z8 tis @h0 fls rx @dx @ex_eq @exGo_tup Zi) ?_ | refine .inl ⟨by kernel_rfl, ?_⟩ | exact .inl (by show _ = _; kernel_rfl) | exact Zc (Z8 tis @h0 fls rx @dx @ex_eq @exGo_tup Zi))); try ((first | refine callL cN ?_ | refine callB cN ?_); repeat (first | refine Zo (Z8 tis @h0 fls rx @dx @ex_eq @exGo_tup Zi) ?_ | refine .inl ⟨by kernel_rfl, ?_⟩ | exact .inl (by show _ = _; kernel_rfl) | exact Zc (Z8 tis @h0 fls rx @dx @ex_eq @exGo_tup Zi))); try ((first | refine callL cS ?_ | refine callB cS ?_); repeat (first | refine Zo (Z8 tis @h0 fls rx @dx @ex_eq @exGo_tup Zi) ?_ | refine .inl ⟨by kernel_rfl, ?_⟩ | exact .inl (by show _ = _; kernel_rfl) | exact Zc (Z8 tis @h0 fls rx @dx @ex_eq @exGo_tup Zi))); try ((first | refine callL cR ?_ | refine callB cR ?_); repeat (first | refine Zo (Z8 tis @h0 fls rx @dx @ex_eq @exGo_tup Zi) ?_ | refine .inl ⟨by kernel_rfl, ?_⟩ | exact .inl (by show _ = _; kernel_rfl) | exact Zc (Z8 tis @h0 fls rx @dx @ex_eq @exGo_tup Zi))); try ((first | refine callL cH ?_ | refine callB cH ?_); repeat (first | refine Zo (Z8 tis @h0 fls rx @dx @ex_eq @exGo_tup Zi) ?_ | refine .inl ⟨by kernel_rfl, ?_⟩ | exact .inl (by show _ = _; kernel_rfl) | exact Zc (Z8 tis @h0 fls rx @dx @ex_eq @exGo_tup Zi))))
  | true =>
   rw [hp] at cH
   have hZl := setsR_len r
   have hZm := setsR_mem r
   have cB : ∀ b : Nat, b < 256 → Fits prog 22 [eRex false r, .int .i64 b] (eRex true (derR b (normR r))) [] := fun b hb2 => fits_derivBy r hr b (by omega)
   have hno : ∀ b : Nat, b < 256 → (∀ s ∈ setsR r, hasB s (b : Int) = false) → derR b (normR r) = .mk 1 [] [] := fun b hb2 h => der_no hb2 (rexB_oks hr).1 hp h
   generalize setsR r = Z at *
   have hZL : (Z.map (eSpans false)).length = Z.length := by simp
   simp only [eRex_eq false r, eRex_eq true r, eRex_eq false N, eRex_eq true N, eRex_eq true H] at *
   refine fits_of_code [2] [] [0, 2, 3, 5, 6, 8, 9, 10, 11, 12, 15, 34, 48, 50, 56, 83] func4 rfl rfl rfl (by rfl) (by show 1 ≤ 84; decide) (by rfl) (by rfl) (by show 0 ≤ 1; decide) (by rfl) (run_of ?_)
   (repeat (first | refine Zo (Z8 tis @h0 fls rx @dx @ex_eq @exGo_tup Zi) ?_ | refine .inl ⟨by kernel_rfl, ?_⟩ | exact .inl (by show _ = _; kernel_rfl) | exact Zc (Z8 tis @h0 fls rx @dx @ex_eq @exGo_tup Zi)); try ((first | refine callL cD ?_ | refine callB cD ?_); repeat (first | refine Zo (Z8 tis @h0 fls rx @dx @ex_eq @exGo_tup Zi) ?_ | refine .inl ⟨by kernel_rfl, ?_⟩ | exact .inl (by show _ = _; kernel_rfl) | exact Zc (Z8 tis @h0 fls rx @dx @ex_eq @exGo_tup Zi))); try ((first | refine callL cT ?_ | refine callB cT ?_); repeat (first | refine Zo (Z8 tis @h0 fls rx @dx @ex_eq @exGo_tup Zi) ?_ | refine .inl ⟨by kernel_rfl, ?_⟩ | exact .inl (by show _ = _; kernel_rfl) | exact Zc (Z8 tis @h0 fls rx @dx @ex_eq @exGo_tup Zi))); try ((first | refine callL cT2 ?_ | refine callB cT2 ?_); repeat (first | refine Zo (Z8 tis @h0 fls rx @dx @ex_eq @exGo_tup Zi) ?_ | refine .inl ⟨by kernel_rfl, ?_⟩ | exact .inl (by show _ = _; kernel_rfl) | exact Zc (Z8 tis @h0 fls rx @dx @ex_eq @exGo_tup Zi))); try ((first | refine callL cS ?_ | refine callB cS ?_); repeat (first | refine Zo (Z8 tis @h0 fls rx @dx @ex_eq @exGo_tup Zi) ?_ | refine .inl ⟨by kernel_rfl, ?_⟩ | exact .inl (by show _ = _; kernel_rfl) | exact Zc (Z8 tis @h0 fls rx @dx @ex_eq @exGo_tup Zi))); try ((first | refine callL cN ?_ | refine callB cN ?_); repeat (first | refine Zo (Z8 tis @h0 fls rx @dx @ex_eq @exGo_tup Zi) ?_ | refine .inl ⟨by kernel_rfl, ?_⟩ | exact .inl (by show _ = _; kernel_rfl) | exact Zc (Z8 tis @h0 fls rx @dx @ex_eq @exGo_tup Zi))); try ((first | refine callL cS ?_ | refine callB cS ?_); repeat (first | refine Zo (Z8 tis @h0 fls rx @dx @ex_eq @exGo_tup Zi) ?_ | refine .inl ⟨by kernel_rfl, ?_⟩ | exact .inl (by show _ = _; kernel_rfl) | exact Zc (Z8 tis @h0 fls rx @dx @ex_eq @exGo_tup Zi))); try ((first | refine callL cR ?_ | refine callB cR ?_); repeat (first | refine Zo (Z8 tis @h0 fls rx @dx @ex_eq @exGo_tup Zi) ?_ | refine .inl ⟨by kernel_rfl, ?_⟩ | exact .inl (by show _ = _; kernel_rfl) | exact Zc (Z8 tis @h0 fls rx @dx @ex_eq @exGo_tup Zi))); try ((first | refine callL cH ?_ | refine callB cH ?_); repeat (first | refine Zo (Z8 tis @h0 fls rx @dx @ex_eq @exGo_tup Zi) ?_ | refine .inl ⟨by kernel_rfl, ?_⟩ | exact .inl (by show _ = _; kernel_rfl) | exact Zc (Z8 tis @h0 fls rx @dx @ex_eq @exGo_tup Zi))); try ((first | refine callL cO ?_ | refine callB cO ?_); repeat (first | refine Zo (Z8 tis @h0 fls rx @dx @ex_eq @exGo_tup Zi) ?_ | refine .inl ⟨by kernel_rfl, ?_⟩ | exact .inl (by show _ = _; kernel_rfl) | exact Zc (Z8 tis @h0 fls rx @dx @ex_eq @exGo_tup Zi))))
   refine run_loop (α := Nat) (fun i => i ≤ 52) (fun i => [(3, .box (.agg [.int .i64 r.kind, .sl false 2 (r.set.map eSpan), .sl false 3 (r.kids.map (eRex false))])), (6, .sl true 1 (Z.map (eSpans false))), (9, .int .i64 ((5 * i : Nat) : Int))]) (fun i => 52 - i) 0 (Nat.zero_le _) ?_ ?_
   ·(first | refine Zo (Z3 tis fls rx) ?_ | exact Zc (Z3 tis fls rx))
   ·intro i hi'
    by_cases hi : i < 52
    ·have hb5 : 5 * i < 256 := by omega
     have cB2 := cB (5 * i) hb5
     have hno2 := hno (5 * i) hb5
     have eS : ((5 * i : Nat) : Int) + 5 = ((5 * (i + 1) : Nat) : Int) := by omega
     generalize 5 * i = b at *
     have hlt : (b : Int) < 256 := by omega
     (first | refine Zo (Z5 tis fls rx @dx @hlt) ?_ | exact Zc (Z5 tis fls rx @dx @hlt))
     refine run_loop (α := Nat) (fun j => j ≤ Z.length) (fun j => [(3, .box (.agg [.int .i64 r.kind, .sl false 2 (r.set.map eSpan), .sl false 3 (r.kids.map (eRex false))])), (6, .sl true 1 (Z.map (eSpans false))), (9, .int .i64 b), (10, .bool ((Z.take j).any fun s => hasB s (b : Int))), (11, .int .i64 j)]) (fun j => Z.length - j) 0 (Nat.zero_le _) ?_ ?_
     ·rw [List.take_zero, List.any_nil]
      (first | refine Zo (Z3 tis fls rx) ?_ | exact Zc (Z3 tis fls rx))
     ·intro j hj'
      by_cases hj : j < Z.length
      ·have gi2 : (Z.map (eSpans false))[j]? = some (.sl false 2 (Z[j].map eSpan)) := by simp [hj, eSpans]
       have gi : (Z.map (eSpans false)).getD j .undef = .sl false 2 (Z[j].map eSpan) := by simp [List.getD, hj, eSpans]
       have cX := fits_setHas Z[j] b (by have := hZm _ (List.getElem_mem hj); omega)
       have es : ((Z.take (j + 1)).any fun s => hasB s (b : Int)) = (((Z.take j).any fun s => hasB s (b : Int)) || hasB Z[j] (b : Int)) := by rw [List.take_succ_eq_append_getElem hj, List.any_append, List.any_cons, List.any_nil, Bool.or_false]
       generalize hasB Z[j] (b : Int) = q at *
       generalize ((Z.take j).any fun s => hasB s (b : Int)) = A at *
       cases A with
       | true =>
        rw [Bool.true_or] at es
        (repeat (first | refine Zo (Z8 tis fls rx @dx @gi @gi2 @hZL Zi) ?_ | refine .inl ⟨by kernel_rfl, ?_⟩ | exact .inl (by show _ = _; kernel_rfl) | exact Zc (Z8 tis fls rx @dx @gi @gi2 @hZL Zi)); try ((first | refine callL cX ?_ | refine callB cX ?_); repeat (first | refine Zo (Z8 tis fls rx @dx @gi @gi2 @hZL Zi) ?_ | refine .inl ⟨by kernel_rfl, ?_⟩ | exact .inl (by show _ = _; kernel_rfl) | exact Zc (Z8 tis fls rx @dx @gi @gi2 @hZL Zi))))
        refine round_normal (j + 1) (by omega) ?_ (by show Z.length - (j + 1) < Z.length - j; omega)
        rw [es]
        (first | refine Zo tis ?_ | exact Zc tis)
       | false =>
        rw [Bool.false_or] at es
        (repeat (first | refine Zo (Z8 tis fls rx @dx @gi @gi2 @hZL Zi) ?_ | refine .inl ⟨by kernel_rfl, ?_⟩ | exact .inl (by show _ = _; kernel_rfl) | exact Zc (Z8 tis fls rx @dx @gi @gi2 @hZL Zi)); try ((first | refine callL cX ?_ | refine callB cX ?_); repeat (first | refine Zo (Z8 tis fls rx @dx @gi @gi2 @hZL Zi) ?_ | refine .inl ⟨by kernel_rfl, ?_⟩ | exact .inl (by show _ = _; kernel_rfl) | exact Zc (Z8 tis fls rx @dx @gi @gi2 @hZL Zi))))
        refine round_normal (j + 1) (by omega) ?_ (by show Z.length - (j + 1) < Z.length - j; omega)
        rw [es]
        (first | refine Zo tis ?_ | exact Zc tis)
      ·obtain rfl : j = Z.length := by omega
       rw [List.take_length]
       cases hA : (Z.any fun s => hasB s (b : Int)) with
       | true =>
        generalize derR (b : Int) (normR r) = D at *
        rw [eRex_eq true D] at cB2
        (repeat (first | refine Zo (Z6 tis fls rx @dx @hZL Zi) ?_ | refine .inl ⟨by kernel_rfl, ?_⟩ | exact .inl (by show _ = _; kernel_rfl) | exact Zc (Z6 tis fls rx @dx @hZL Zi)); try ((first | refine callL cB2 ?_ | refine callB cB2 ?_); repeat (first | refine Zo (Z6 tis fls rx @dx @hZL Zi) ?_ | refine .inl ⟨by kernel_rfl, ?_⟩ | exact .inl (by show _ = _; kernel_rfl) | exact Zc (Z6 tis fls rx @dx @hZL Zi))))
        refine round_normal (i + 1) (by omega) ?_ (by show 52 - (i + 1) < 52 - i; omega)
        rw [← eS]
        (first | refine Zo tis ?_ | exact Zc tis)
       | false =>
        rw [hno2 (fun s hs => by have := List.any_eq_false.1 hA s hs; simpa using this), show eRex true (.mk 1 [] []) = .agg [.int .i64 1, .sl true 2 [], .sl true 3 []] by rw [eRex_eq]; rfl] at cB2
        (repeat (first | refine Zo (Z6 tis fls rx @dx @hZL Zi) ?_ | refine .inl ⟨by kernel_rfl, ?_⟩ | exact .inl (by show _ = _; kernel_rfl) | exact Zc (Z6 tis fls rx @dx @hZL Zi)); try ((first | refine callL cB2 ?_ | refine callB cB2 ?_); repeat (first | refine Zo (Z6 tis fls rx @dx @hZL Zi) ?_ | refine .inl ⟨by kernel_rfl, ?_⟩ | exact .inl (by show _ = _; kernel_rfl) | exact Zc (Z6 tis fls rx @dx @hZL Zi))))
        refine round_normal (i + 1) (by omega) ?_ (by show 52 - (i + 1) < 52 - i; omega)
        rw [← eS]
        (first | refine Zo tis ?_ | exact Zc tis)
    ·obtain rfl : i = 52 := by omega
     (repeat (first | refine Zo (Z5 tis fls rx @dx Zi) ?_ | refine .inl ⟨by kernel_rfl, ?_⟩ | exact .inl (by show _ = _; kernel_rfl) | exact Zc (Z5 tis fls rx @dx Zi)))
theorem own : ownKnob prog.godebug = none := by kernel_rfl
theorem laidOut : laidOutB prog = true := by kernel_rfl
theorem all_map {α : Type} (f : α → AV) : ∀ xs : List AV, (∀ y ∈ xs, ∃ i, y = f i) → ∃ is : List α, xs = is.map f
 | [], _ => ⟨[], rfl⟩
 | y :: r, h => by
  obtain ⟨i, rfl⟩ := h y (List.mem_cons_self ..)
  obtain ⟨is, rfl⟩ := all_map f r (fun z hz => h z (List.mem_cons_of_mem _ hz))
  exact ⟨i :: is, rfl⟩
theorem typ_byte {n : Nat} {x : AV} (h : Typed prog n 5 x) : ∃ v : UInt8, x = .int .u8 v.toNat := by
 cases n with
 | zero => exact h.elim
 | succ n =>
  simp only [Typed, underlying5] at h
  obtain ⟨v, rfl, hw⟩ := h
  simp [Lit.wf, IntKind.min, IntKind.max, IntKind.bits, IntKind.signed] at hw
  refine ⟨UInt8.ofNat v.toNat, ?_⟩
  rw [UInt8.toNat_ofNat']
  congr 1
  omega
theorem typ_code {n : Nat} {x : AV} (h : Typed prog n 37 x) : ∃ c : List UInt8, x = .sl false 1 (bytesA c) ∧ c.length ≤ 9223372036854775807 := by
 cases n with
 | zero => exact h.elim
 | succ n =>
  have co : prog.cellsOf 5 = 1 := by kernel_rfl
  simp only [Typed, underlying37, co] at h
  obtain ⟨xs, rfl, hl, hf⟩ := h
  obtain ⟨p, rfl⟩ := all_map (fun v : UInt8 => AV.int .u8 v.toNat) xs (fun y hy => typ_byte (hf y hy))
  exact ⟨p, rfl, by simpa [maxLen] using hl⟩
end Go.Proofs.YtpffgegfjpdncaaGreatDoor.U
