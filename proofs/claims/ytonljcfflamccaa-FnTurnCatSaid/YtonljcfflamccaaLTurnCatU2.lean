/- What functions of the program answer, on values without memory (part 2): conditions stand at each theorem. -/
import Derived.Test.YtonljcfflamccaaRows
import Derived.Test.YtonljcfflamccaaLTurnCatU1
set_option linter.unusedVariables false
set_option linter.unusedSimpArgs false
set_option maxRecDepth 100000
set_option maxHeartbeats 4000000
namespace Go.Proofs.Ytonljcfflamccaa.U
open Go Go.RowKit Go.Proofs Go.Proofs.Ytonljcfflamccaa.Am AV Go.Proofs.Try
/-- spec.l4Star -/
theorem fits_l4Star (r : Rex) (hr : Okr r) (hb : bd r ≤ 1000000000) : Fits prog 168 [eRex false r] (eRex false (starN r)) [] := by
  have cN := fits_l4No r (by omega)
  have er := eRex_eq false r
  unfold starN
  by_cases k5 : r.kind = 5
  · rw [if_pos k5, er]
    refine fits_of_cell 2 26 [] [0, 1, 2, 3, 8] func168 rfl rfl rfl (by show 2 < 20; decide) (by show 1 ≤ 20; decide) (by rfl) (by rfl) (by show 0 ≤ 1; decide) (by rfl) (run_of ?_)
    simp -implicitDefEqProofs (maxSteps := 100000) (disch := first | (intros; contradiction) | omega) only [am0, am1, am2, am3, am4, am5, am6, am7, am8, am9, Nat.reduceSub, ↓reduceIte, reduceCtorEq, Nat.reduceEqDiff, Nat.reduceBEq, Nat.reduceAdd, Nat.reduceLT, Nat.reduceBNe, Nat.reduceMul, ↓reduceIte, tis, rx, fls]
  · rw [if_neg k5]
    by_cases k2 : r.kind = 2
    · rw [if_pos (.inl k2)]
      refine fits_as (res := .agg [.int .i64 2, .sl true 2 [], .sl true 3 []]) ?_ (by rw [eRex_eq]; rfl)
      rw [er]
      refine fits_of_cell 2 26 [] [0, 1, 2, 3, 8] func168 rfl rfl rfl (by show 2 < 20; decide) (by show 1 ≤ 20; decide) (by rfl) (by rfl) (by show 0 ≤ 1; decide) (by rfl) (run_of ?_)
      simp -implicitDefEqProofs (maxSteps := 100000) (disch := first | (intros; contradiction) | omega) only [am0, am1, am2, am3, am4, am5, am6, am7, am8, am9, Nat.reduceSub, ↓reduceIte, reduceCtorEq, Nat.reduceEqDiff, Nat.reduceBEq, Nat.reduceAdd, Nat.reduceLT, Nat.reduceBNe, Nat.reduceMul, ↓reduceIte, tis, rx, fls]
    · rw [er] at cN
      cases n : noR r with
      | true =>
        rw [n] at cN
        rw [if_pos (.inr rfl)]
        refine fits_as (res := .agg [.int .i64 2, .sl true 2 [], .sl true 3 []]) ?_ (by rw [eRex_eq]; rfl)
        rw [er]
        refine fits_of_cell 2 26 [] [0, 1, 2, 3, 8] func168 rfl rfl rfl (by show 2 < 20; decide) (by show 1 ≤ 20; decide) (by rfl) (by rfl) (by show 0 ≤ 1; decide) (by rfl) (run_of ?_)
        simp -implicitDefEqProofs (maxSteps := 100000) (disch := first | (intros; contradiction) | omega) only [am0, am1, am2, am3, am4, am5, am6, am7, am8, am9, Nat.reduceSub, ↓reduceIte, reduceCtorEq, Nat.reduceEqDiff, Nat.reduceBEq, Nat.reduceAdd, Nat.reduceLT, Nat.reduceBNe, Nat.reduceMul, ↓reduceIte, tis, rx, fls]
        refine callB cN ?_
        simp -implicitDefEqProofs (maxSteps := 100000) (disch := first | (intros; contradiction) | omega) only [am0, am1, am2, am3, am4, am5, am6, am7, am8, am9, Nat.reduceSub, ↓reduceIte, reduceCtorEq, Nat.reduceEqDiff, Nat.reduceBEq, Nat.reduceAdd, Nat.reduceLT, Nat.reduceBNe, Nat.reduceMul, ↓reduceIte, tis, rx, fls]
      | false =>
        rw [n] at cN
        rw [if_neg (by simp [k2])]
        refine fits_as (res := .agg [.int .i64 5, .sl true 2 [], .sl true 3 [eRex false r]]) ?_ (by rw [eRex_eq false (.mk 5 [] [r])]; simp [erase, eraseL, Rex.kind, Rex.set, Rex.kids, er_rex])
        rw [er]
        refine fits_of_cell 2 26 [] [0, 1, 2, 3, 8] func168 rfl rfl rfl (by show 2 < 20; decide) (by show 1 ≤ 20; decide) (by rfl) (by rfl) (by show 0 ≤ 1; decide) (by rfl) (run_of ?_)
        simp -implicitDefEqProofs (maxSteps := 100000) (disch := first | (intros; contradiction) | omega) only [am0, am1, am2, am3, am4, am5, am6, am7, am8, am9, Nat.reduceSub, ↓reduceIte, reduceCtorEq, Nat.reduceEqDiff, Nat.reduceBEq, Nat.reduceAdd, Nat.reduceLT, Nat.reduceBNe, Nat.reduceMul, ↓reduceIte, tis, rx, fls]
        refine callB cN ?_
        simp -implicitDefEqProofs (maxSteps := 100000) (disch := first | (intros; contradiction) | omega) only [am0, am1, am2, am3, am4, am5, am6, am7, am8, am9, Nat.reduceSub, ↓reduceIte, reduceCtorEq, Nat.reduceEqDiff, Nat.reduceBEq, Nat.reduceAdd, Nat.reduceLT, Nat.reduceBNe, Nat.reduceMul, ↓reduceIte, tis, rx, fls]
/-- spec.l4Not -/
theorem fits_l4Not (r : Rex) (hr : Okr r) (hb : bd r ≤ 1000000000) : Fits prog 169 [eRex false r] (eRex false (notN r)) [] := by
  have er := eRex_eq false r
  unfold notN
  by_cases k7 : r.kind = 7
  · obtain ⟨x, e1, hx, _⟩ := okr_kids1 hr (.inr k7)
    rw [if_pos k7, er, e1]
    simp only [List.map_cons, List.map_nil, List.getD_cons_zero]
    rw [eRex_eq false x]
    refine fits_of_cell 2 26 [] [0, 1, 2, 5] func169 rfl rfl rfl (by show 2 < 13; decide) (by show 1 ≤ 13; decide) (by rfl) (by rfl) (by show 0 ≤ 1; decide) (by rfl) (run_of ?_)
    simp -implicitDefEqProofs (maxSteps := 100000) (disch := first | (intros; contradiction) | omega) only [am0, am1, am2, am3, am4, am5, am6, am7, am8, am9, Nat.reduceSub, ↓reduceIte, reduceCtorEq, Nat.reduceEqDiff, Nat.reduceBEq, Nat.reduceAdd, Nat.reduceLT, Nat.reduceBNe, Nat.reduceMul, ↓reduceIte, tis, rx, fls, List.map_cons, List.map_nil, eRex_eq]
  · rw [if_neg k7]
    refine fits_as (res := .agg [.int .i64 7, .sl true 2 [], .sl true 3 [eRex false r]]) ?_ (by rw [eRex_eq false (.mk 7 [] [r])]; simp [erase, eraseL, Rex.kind, Rex.set, Rex.kids, er_rex])
    rw [er]
    refine fits_of_cell 2 26 [] [0, 1, 2, 5] func169 rfl rfl rfl (by show 2 < 13; decide) (by show 1 ≤ 13; decide) (by rfl) (by rfl) (by show 0 ≤ 1; decide) (by rfl) (run_of ?_)
    simp -implicitDefEqProofs (maxSteps := 100000) (disch := first | (intros; contradiction) | omega) only [am0, am1, am2, am3, am4, am5, am6, am7, am8, am9, Nat.reduceSub, ↓reduceIte, reduceCtorEq, Nat.reduceEqDiff, Nat.reduceBEq, Nat.reduceAdd, Nat.reduceLT, Nat.reduceBNe, Nat.reduceMul, ↓reduceIte, tis, rx, fls]
/-- spec.l4Norm -/
theorem fits_l4Norm (r : Rex) : Okr r → bd r ≤ 2000000 → Fits prog 159 [eRex false r] (eRex false (normR r)) [] := by
  induction r using Rex.ind' with
  | h r ih =>
    intro hr hb
    have er := eRex_eq false r
    rw [normR_eq]
    by_cases h2 : r.kind = 3 ∨ r.kind = 4 ∨ r.kind = 6
    · obtain ⟨a, b, e, ha, hb2, hl⟩ := okr_kids2 hr h2
      have c1 := ih a (by rw [e]; simp) ha (by omega)
      have c2 := ih b (by rw [e]; simp) hb2 (by omega)
      obtain ⟨p1, p2⟩ := normR_ok a ha
      obtain ⟨q1, q2⟩ := normR_ok b hb2
      have g1 := fits_l4Cat (normR a) (normR b) p1 q1 (by omega)
      have g2 := fits_l4Or (normR a) (normR b) p1 q1 (by omega)
      have g3 := fits_l4And (normR a) (normR b) p1 q1 (by omega)
      rw [er, e]
      simp only [List.map_cons, List.map_nil, List.getD_cons_zero, List.getD_cons_succ]
      generalize normR a = A at *
      generalize normR b = B at *
      generalize catN A B = Rc at *
      generalize orN A B = Ro at *
      generalize andN A B = Ra at *
      rw [eRex_eq false a, eRex_eq false A] at c1
      rw [eRex_eq false b, eRex_eq false B] at c2
      rw [eRex_eq false A, eRex_eq false B, eRex_eq false Rc] at g1
      rw [eRex_eq false A, eRex_eq false B, eRex_eq false Ro] at g2
      rw [eRex_eq false A, eRex_eq false B, eRex_eq false Ra] at g3
      rcases h2 with h | h | h
      · rw [if_pos h, eRex_eq false Rc]
        refine fits_of_cell 2 26 [] [0, 1, 2, 4, 5, 18, 31, 44, 52] func159 rfl rfl rfl (by show 2 < 61; decide) (by show 1 ≤ 61; decide) (by rfl) (by rfl) (by show 0 ≤ 1; decide) (by rfl) (run_of ?_)
        simp -implicitDefEqProofs (maxSteps := 100000) (disch := first | (intros; contradiction) | omega) only [am0, am1, am2, am3, am4, am5, am6, am7, am8, am9, Nat.reduceSub, ↓reduceIte, reduceCtorEq, Nat.reduceEqDiff, Nat.reduceBEq, Nat.reduceAdd, Nat.reduceLT, Nat.reduceBNe, Nat.reduceMul, ↓reduceIte, tis, rx, fls, List.map_cons, List.map_nil, eRex_eq]
        refine .inl ⟨by kernel_rfl, ?_⟩
        refine callL c1 ?_
        simp -implicitDefEqProofs (maxSteps := 100000) (disch := first | (intros; contradiction) | omega) only [am0, am1, am2, am3, am4, am5, am6, am7, am8, am9, Nat.reduceSub, ↓reduceIte, reduceCtorEq, Nat.reduceEqDiff, Nat.reduceBEq, Nat.reduceAdd, Nat.reduceLT, Nat.reduceBNe, Nat.reduceMul, ↓reduceIte, tis, rx, fls, List.map_cons, List.map_nil, eRex_eq]
        refine callL c2 ?_
        simp -implicitDefEqProofs (maxSteps := 100000) (disch := first | (intros; contradiction) | omega) only [am0, am1, am2, am3, am4, am5, am6, am7, am8, am9, Nat.reduceSub, ↓reduceIte, reduceCtorEq, Nat.reduceEqDiff, Nat.reduceBEq, Nat.reduceAdd, Nat.reduceLT, Nat.reduceBNe, Nat.reduceMul, ↓reduceIte, tis, rx, fls, List.map_cons, List.map_nil, eRex_eq]
        refine callL g1 ?_
        simp -implicitDefEqProofs (maxSteps := 100000) (disch := first | (intros; contradiction) | omega) only [am0, am1, am2, am3, am4, am5, am6, am7, am8, am9, Nat.reduceSub, ↓reduceIte, reduceCtorEq, Nat.reduceEqDiff, Nat.reduceBEq, Nat.reduceAdd, Nat.reduceLT, Nat.reduceBNe, Nat.reduceMul, ↓reduceIte, tis, rx, fls, List.map_cons, List.map_nil, eRex_eq]
      · rw [if_neg (by omega), if_pos h, eRex_eq false Ro]
        refine fits_of_cell 2 26 [] [0, 1, 2, 4, 5, 18, 31, 44, 52] func159 rfl rfl rfl (by show 2 < 61; decide) (by show 1 ≤ 61; decide) (by rfl) (by rfl) (by show 0 ≤ 1; decide) (by rfl) (run_of ?_)
        simp -implicitDefEqProofs (maxSteps := 100000) (disch := first | (intros; contradiction) | omega) only [am0, am1, am2, am3, am4, am5, am6, am7, am8, am9, Nat.reduceSub, ↓reduceIte, reduceCtorEq, Nat.reduceEqDiff, Nat.reduceBEq, Nat.reduceAdd, Nat.reduceLT, Nat.reduceBNe, Nat.reduceMul, ↓reduceIte, tis, rx, fls, List.map_cons, List.map_nil, eRex_eq]
        refine .inl ⟨by kernel_rfl, ?_⟩
        refine callL c1 ?_
        simp -implicitDefEqProofs (maxSteps := 100000) (disch := first | (intros; contradiction) | omega) only [am0, am1, am2, am3, am4, am5, am6, am7, am8, am9, Nat.reduceSub, ↓reduceIte, reduceCtorEq, Nat.reduceEqDiff, Nat.reduceBEq, Nat.reduceAdd, Nat.reduceLT, Nat.reduceBNe, Nat.reduceMul, ↓reduceIte, tis, rx, fls, List.map_cons, List.map_nil, eRex_eq]
        refine callL c2 ?_
        simp -implicitDefEqProofs (maxSteps := 100000) (disch := first | (intros; contradiction) | omega) only [am0, am1, am2, am3, am4, am5, am6, am7, am8, am9, Nat.reduceSub, ↓reduceIte, reduceCtorEq, Nat.reduceEqDiff, Nat.reduceBEq, Nat.reduceAdd, Nat.reduceLT, Nat.reduceBNe, Nat.reduceMul, ↓reduceIte, tis, rx, fls, List.map_cons, List.map_nil, eRex_eq]
        refine callL g2 ?_
        simp -implicitDefEqProofs (maxSteps := 100000) (disch := first | (intros; contradiction) | omega) only [am0, am1, am2, am3, am4, am5, am6, am7, am8, am9, Nat.reduceSub, ↓reduceIte, reduceCtorEq, Nat.reduceEqDiff, Nat.reduceBEq, Nat.reduceAdd, Nat.reduceLT, Nat.reduceBNe, Nat.reduceMul, ↓reduceIte, tis, rx, fls, List.map_cons, List.map_nil, eRex_eq]
      · rw [if_neg (by omega), if_neg (by omega), if_pos h, eRex_eq false Ra]
        refine fits_of_cell 2 26 [] [0, 1, 2, 4, 5, 18, 31, 44, 52] func159 rfl rfl rfl (by show 2 < 61; decide) (by show 1 ≤ 61; decide) (by rfl) (by rfl) (by show 0 ≤ 1; decide) (by rfl) (run_of ?_)
        simp -implicitDefEqProofs (maxSteps := 100000) (disch := first | (intros; contradiction) | omega) only [am0, am1, am2, am3, am4, am5, am6, am7, am8, am9, Nat.reduceSub, ↓reduceIte, reduceCtorEq, Nat.reduceEqDiff, Nat.reduceBEq, Nat.reduceAdd, Nat.reduceLT, Nat.reduceBNe, Nat.reduceMul, ↓reduceIte, tis, rx, fls, List.map_cons, List.map_nil, eRex_eq]
        refine .inl ⟨by kernel_rfl, ?_⟩
        refine callL c1 ?_
        simp -implicitDefEqProofs (maxSteps := 100000) (disch := first | (intros; contradiction) | omega) only [am0, am1, am2, am3, am4, am5, am6, am7, am8, am9, Nat.reduceSub, ↓reduceIte, reduceCtorEq, Nat.reduceEqDiff, Nat.reduceBEq, Nat.reduceAdd, Nat.reduceLT, Nat.reduceBNe, Nat.reduceMul, ↓reduceIte, tis, rx, fls, List.map_cons, List.map_nil, eRex_eq]
        refine callL c2 ?_
        simp -implicitDefEqProofs (maxSteps := 100000) (disch := first | (intros; contradiction) | omega) only [am0, am1, am2, am3, am4, am5, am6, am7, am8, am9, Nat.reduceSub, ↓reduceIte, reduceCtorEq, Nat.reduceEqDiff, Nat.reduceBEq, Nat.reduceAdd, Nat.reduceLT, Nat.reduceBNe, Nat.reduceMul, ↓reduceIte, tis, rx, fls, List.map_cons, List.map_nil, eRex_eq]
        refine callL g3 ?_
        simp -implicitDefEqProofs (maxSteps := 100000) (disch := first | (intros; contradiction) | omega) only [am0, am1, am2, am3, am4, am5, am6, am7, am8, am9, Nat.reduceSub, ↓reduceIte, reduceCtorEq, Nat.reduceEqDiff, Nat.reduceBEq, Nat.reduceAdd, Nat.reduceLT, Nat.reduceBNe, Nat.reduceMul, ↓reduceIte, tis, rx, fls, List.map_cons, List.map_nil, eRex_eq]
    · simp only [not_or] at h2
      rw [if_neg h2.1, if_neg h2.2.1, if_neg h2.2.2]
      by_cases h1 : r.kind = 5 ∨ r.kind = 7
      · obtain ⟨a, e, ha, hl⟩ := okr_kids1 hr h1
        have c1 := ih a (by rw [e]; simp) ha (by omega)
        obtain ⟨p1, p2⟩ := normR_ok a ha
        have g1 := fits_l4Star (normR a) p1 (by omega)
        have g2 := fits_l4Not (normR a) p1 (by omega)
        rw [er, e]
        simp only [List.map_cons, List.map_nil, List.getD_cons_zero]
        generalize normR a = A at *
        generalize starN A = Rs at *
        generalize notN A = Rn at *
        rw [eRex_eq false a, eRex_eq false A] at c1
        rw [eRex_eq false A, eRex_eq false Rs] at g1
        rw [eRex_eq false A, eRex_eq false Rn] at g2
        rcases h1 with h | h
        · rw [if_pos h, eRex_eq false Rs]
          refine fits_of_cell 2 26 [] [0, 1, 2, 4, 5, 18, 31, 44, 52] func159 rfl rfl rfl (by show 2 < 61; decide) (by show 1 ≤ 61; decide) (by rfl) (by rfl) (by show 0 ≤ 1; decide) (by rfl) (run_of ?_)
          simp -implicitDefEqProofs (maxSteps := 100000) (disch := first | (intros; contradiction) | omega) only [am0, am1, am2, am3, am4, am5, am6, am7, am8, am9, Nat.reduceSub, ↓reduceIte, reduceCtorEq, Nat.reduceEqDiff, Nat.reduceBEq, Nat.reduceAdd, Nat.reduceLT, Nat.reduceBNe, Nat.reduceMul, ↓reduceIte, tis, rx, fls, List.map_cons, List.map_nil, eRex_eq]
          refine callB c1 ?_
          simp -implicitDefEqProofs (maxSteps := 100000) (disch := first | (intros; contradiction) | omega) only [am0, am1, am2, am3, am4, am5, am6, am7, am8, am9, Nat.reduceSub, ↓reduceIte, reduceCtorEq, Nat.reduceEqDiff, Nat.reduceBEq, Nat.reduceAdd, Nat.reduceLT, Nat.reduceBNe, Nat.reduceMul, ↓reduceIte, tis, rx, fls, List.map_cons, List.map_nil, eRex_eq]
          refine callB g1 ?_
          simp -implicitDefEqProofs (maxSteps := 100000) (disch := first | (intros; contradiction) | omega) only [am0, am1, am2, am3, am4, am5, am6, am7, am8, am9, Nat.reduceSub, ↓reduceIte, reduceCtorEq, Nat.reduceEqDiff, Nat.reduceBEq, Nat.reduceAdd, Nat.reduceLT, Nat.reduceBNe, Nat.reduceMul, ↓reduceIte, tis, rx, fls, List.map_cons, List.map_nil, eRex_eq]
        · rw [if_neg (by omega), if_pos h, eRex_eq false Rn]
          refine fits_of_cell 2 26 [] [0, 1, 2, 4, 5, 18, 31, 44, 52] func159 rfl rfl rfl (by show 2 < 61; decide) (by show 1 ≤ 61; decide) (by rfl) (by rfl) (by show 0 ≤ 1; decide) (by rfl) (run_of ?_)
          simp -implicitDefEqProofs (maxSteps := 100000) (disch := first | (intros; contradiction) | omega) only [am0, am1, am2, am3, am4, am5, am6, am7, am8, am9, Nat.reduceSub, ↓reduceIte, reduceCtorEq, Nat.reduceEqDiff, Nat.reduceBEq, Nat.reduceAdd, Nat.reduceLT, Nat.reduceBNe, Nat.reduceMul, ↓reduceIte, tis, rx, fls, List.map_cons, List.map_nil, eRex_eq]
          refine callB c1 ?_
          simp -implicitDefEqProofs (maxSteps := 100000) (disch := first | (intros; contradiction) | omega) only [am0, am1, am2, am3, am4, am5, am6, am7, am8, am9, Nat.reduceSub, ↓reduceIte, reduceCtorEq, Nat.reduceEqDiff, Nat.reduceBEq, Nat.reduceAdd, Nat.reduceLT, Nat.reduceBNe, Nat.reduceMul, ↓reduceIte, tis, rx, fls, List.map_cons, List.map_nil, eRex_eq]
          refine callB g2 ?_
          simp -implicitDefEqProofs (maxSteps := 100000) (disch := first | (intros; contradiction) | omega) only [am0, am1, am2, am3, am4, am5, am6, am7, am8, am9, Nat.reduceSub, ↓reduceIte, reduceCtorEq, Nat.reduceEqDiff, Nat.reduceBEq, Nat.reduceAdd, Nat.reduceLT, Nat.reduceBNe, Nat.reduceMul, ↓reduceIte, tis, rx, fls, List.map_cons, List.map_nil, eRex_eq]
      · simp only [not_or] at h1
        rw [if_neg h1.1, if_neg h1.2, er]
        refine fits_of_cell 2 26 [] [0, 1, 2, 4, 5, 18, 31, 44, 52] func159 rfl rfl rfl (by show 2 < 61; decide) (by show 1 ≤ 61; decide) (by rfl) (by rfl) (by show 0 ≤ 1; decide) (by rfl) (run_of ?_)
        simp -implicitDefEqProofs (maxSteps := 100000) (disch := first | (intros; contradiction) | omega) only [am0, am1, am2, am3, am4, am5, am6, am7, am8, am9, Nat.reduceSub, ↓reduceIte, reduceCtorEq, Nat.reduceEqDiff, Nat.reduceBEq, Nat.reduceAdd, Nat.reduceLT, Nat.reduceBNe, Nat.reduceMul, ↓reduceIte, tis, rx, fls, List.map_cons, List.map_nil]
/-! The reader of a code. -/
def eRd (b : List UInt8) (p : Nat) : AV := .agg [.sl false 1 (bytesA b), .int .i64 p]
theorem xor_nn {x y : Nat} (hx : x < 4611686018427387904) (hy : y < 4611686018427387904) : IntKind.wrap .i64 ((BitVec.ofInt (IntKind.bits .i64) (x : Int) ^^^ BitVec.ofInt (IntKind.bits .i64) (y : Int)).toNat) = ((x ^^^ y : Nat) : Int) ∧ x ^^^ y < 4611686018427387904 := by
  have hx' : x < 2 ^ 62 := by omega
  have hy' : y < 2 ^ 62 := by omega
  have h := Nat.xor_lt_two_pow hx' hy'
  have e : (BitVec.ofInt (IntKind.bits .i64) (x : Int) ^^^ BitVec.ofInt (IntKind.bits .i64) (y : Int)).toNat = x ^^^ y := by
    show (BitVec.ofInt 64 (x : Int) ^^^ BitVec.ofInt 64 (y : Int)).toNat = x ^^^ y
    rw [BitVec.toNat_xor, BitVec.toNat_ofInt, BitVec.toNat_ofInt]
    congr 1 <;> omega
  rw [e]
  exact ⟨wrap_i64 (by omega) (by omega), by omega⟩
theorem tmod_nn (a n : Nat) : Int.tmod (a : Int) n = ((a % n : Nat) : Int) := by
  rw [Int.tmod_eq_emod_of_nonneg (by omega)]; rfl
theorem tdiv_nn (a n : Nat) : Int.tdiv (a : Int) n = ((a / n : Nat) : Int) := by
  rw [Int.tdiv_eq_ediv_of_nonneg (by omega)]; rfl
theorem bytes_getD (b : List UInt8) (i : Nat) (h : i < b.length) : (bytesA b).getD i .undef = .int .u8 b[i].toNat := by
  have := get_bytesA b i h
  simp [List.getD, this]
/-- What pick tells. -/
def mixV (b : List UInt8) (p : Nat) : Nat := (b.getD (p % b.length) 0).toNat * 131 + (b.getD ((p * 7 + 3) % b.length) 0).toNat * 1117 + p * 29 + p / b.length * 53
def pickV (b : List UInt8) (p n : Nat) : Nat :=
  if b.length = 0 then 0 else if p < b.length then (b.getD p 0).toNat % n else (mixV b p ^^^ mixV b p / 64) % n
theorem pickV_lt (b : List UInt8) (p : Nat) {n : Nat} (hn : 0 < n) : pickV b p n < n := by
  unfold pickV
  split
  · exact hn
  · split <;> exact Nat.mod_lt _ hn
theorem getD_of (b : List UInt8) (i : Nat) (h : i < b.length) : b.getD i 0 = b[i] := by simp [List.getD, h]
/-- pick -/
theorem fits_pick (b : List UInt8) (hb : b.length ≤ 2000) (p : Nat) (hp : p ≤ 1048576) (n : Nat) (hn : 0 < n) (hn2 : n ≤ 1048576) : Fits prog 75 [.box (eRd b p), .int .i64 n] (.int .i64 (pickV b p n)) [.box (eRd b (p + 1))] := by
  have c0 : ¬ ((n : Int) = 0) := by omega
  unfold eRd pickV
  by_cases h0 : b.length = 0
  · obtain rfl := List.eq_nil_of_length_eq_zero h0
    refine fits_of_code [4] [0] [0, 1, 4, 5, 6, 24, 36] func75 rfl rfl rfl (by rfl) (by show 2 ≤ 99; decide) (by rfl) (by rfl) (by show 1 ≤ 2; decide) (by rfl) (run_of ?_)
    simp -implicitDefEqProofs (maxSteps := 100000) (disch := first | (intros; contradiction) | omega) only [am0, am1, am2, am3, am4, am5, am6, am7, am8, am9, Nat.reduceSub, ↓reduceIte, reduceCtorEq, Nat.reduceEqDiff, Nat.reduceBEq, Nat.reduceAdd, Nat.reduceLT, Nat.reduceBNe, Nat.reduceMul, ↓reduceIte, tis, fls]
  rw [if_neg h0]
  have e0 : (p : Int) + 1 - 1 = p := by omega
  by_cases h1 : p < b.length
  · rw [if_pos h1]
    have g0 := bytes_getD b p h1
    rw [getD_of b p h1]
    have hk := tmod_nn b[p].toNat n
    have hbl := b[p].toNat_lt
    refine fits_of_code [4] [0] [0, 1, 4, 5, 6, 24, 36] func75 rfl rfl rfl (by rfl) (by show 2 ≤ 99; decide) (by rfl) (by rfl) (by show 1 ≤ 2; decide) (by rfl) (run_of ?_)
    simp -implicitDefEqProofs (maxSteps := 100000) (disch := first | (intros; contradiction) | omega) only [am0, am1, am2, am3, am4, am5, am6, am7, am8, am9, Nat.reduceSub, ↓reduceIte, reduceCtorEq, Nat.reduceEqDiff, Nat.reduceBEq, Nat.reduceAdd, Nat.reduceLT, Nat.reduceBNe, Nat.reduceMul, ↓reduceIte, tis, fls, e0, g0, hk, c0]
  · rw [if_neg h1]
    have k1 := tmod_nn p b.length
    have k2 : Int.tmod ((p : Int) * 7 + 3) b.length = (((p * 7 + 3) % b.length : Nat) : Int) := tmod_nn (p * 7 + 3) b.length
    have l1 : p % b.length < b.length := Nat.mod_lt _ (by omega)
    have l2 : (p * 7 + 3) % b.length < b.length := Nat.mod_lt _ (by omega)
    have kq := tdiv_nn p b.length
    have lq : p / b.length ≤ p := Nat.div_le_self _ _
    have hM : mixV b p = (b[p % b.length]).toNat * 131 + (b[(p * 7 + 3) % b.length]).toNat * 1117 + p * 29 + p / b.length * 53 := by unfold mixV; rw [getD_of b _ l1, getD_of b _ l2]
    generalize p % b.length = j1 at *
    generalize (p * 7 + 3) % b.length = j2 at *
    generalize p / b.length = q at *
    have g1 := bytes_getD b j1 l1
    have g2 := bytes_getD b j2 l2
    have hb1 := b[j1].toNat_lt
    have hb2 := b[j2].toNat_lt
    have hX : (b[j1].toNat : Int) * 131 + (b[j2].toNat : Int) * 1117 + (p : Int) * 29 + (q : Int) * 53 = (mixV b p : Nat) := by omega
    have hX2 : mixV b p < 4294967296 := by omega
    generalize mixV b p = X at *
    have hY : Int.tdiv (X : Int) 64 = ((X / 64 : Nat) : Int) := tdiv_nn X 64
    have lY : X / 64 ≤ X := Nat.div_le_self _ _
    generalize X / 64 = Y at *
    obtain ⟨hZ, hZ2⟩ := xor_nn (x := X) (y := Y) (by omega) (by omega)
    have hk := tmod_nn (X ^^^ Y) n
    generalize X ^^^ Y = Z at *
    have hkl : Z % n < n := Nat.mod_lt _ hn
    generalize Z % n = k at *
    have c1 : ¬ ((64 : Int) = 0) := by omega
    have c2 : ¬ ((b.length : Int) = 0) := by omega
    refine fits_of_code [4] [0] [0, 1, 4, 5, 6, 24, 36] func75 rfl rfl rfl (by rfl) (by show 2 ≤ 99; decide) (by rfl) (by rfl) (by show 1 ≤ 2; decide) (by rfl) (run_of ?_)
    simp -implicitDefEqProofs (maxSteps := 100000) (disch := first | (intros; contradiction) | omega) only [am0, am1, am2, am3, am4, am5, am6, am7, am8, am9, Nat.reduceSub, ↓reduceIte, reduceCtorEq, Nat.reduceEqDiff, Nat.reduceBEq, Nat.reduceAdd, Nat.reduceLT, Nat.reduceBNe, Nat.reduceMul, ↓reduceIte, tis, fls, e0]
    refine .inl ⟨by kernel_rfl, ?_⟩
    simp -implicitDefEqProofs (maxSteps := 100000) (disch := first | (intros; contradiction) | omega) only [am0, am1, am2, am3, am4, am5, am6, am7, am8, am9, Nat.reduceSub, ↓reduceIte, reduceCtorEq, Nat.reduceEqDiff, Nat.reduceBEq, Nat.reduceAdd, Nat.reduceLT, Nat.reduceBNe, Nat.reduceMul, ↓reduceIte, tis, fls, e0, k1, k2, kq, g1, g2, hX, hY, hZ, hk, c0, c1, c2]
def numV (b : List UInt8) (p : Nat) (l : List Int) : Int := l.getD (pickV b p l.length) 0
def ofV (b : List UInt8) (p : Nat) (l : List (List UInt8)) : List UInt8 := l.getD (pickV b p l.length) []
theorem numV_mem (b : List UInt8) (p : Nat) {l : List Int} (hl : 0 < l.length) : numV b p l ∈ l := by
  have := pickV_lt b p hl
  unfold numV
  simp [List.getD, this]
theorem ofV_mem (b : List UInt8) (p : Nat) {l : List (List UInt8)} (hl : 0 < l.length) : ofV b p l ∈ l := by
  have := pickV_lt b p hl
  unfold ofV
  simp [List.getD, this]
/-- num -/
theorem fits_num (b : List UInt8) (hb : b.length ≤ 2000) (p : Nat) (hp : p ≤ 1048576) (l : List Int) (hl : 0 < l.length) (hl2 : l.length ≤ 1048576) : Fits prog 71 [.box (eRd b p), .sl false 1 (l.map eInt)] (.int .i64 (numV b p l)) [.box (eRd b (p + 1))] := by
  have cP := fits_pick b hb p hp l.length hl hl2
  have hk := pickV_lt b p hl
  have e : numV b p l = l[pickV b p l.length] := by unfold numV; simp [List.getD, hk]
  rw [e]
  generalize pickV b p l.length = k at *
  unfold eRd at *
  refine fits_of_code [4] [0] [0, 1, 4] func71 rfl rfl rfl (by rfl) (by show 2 ≤ 12; decide) (by rfl) (by rfl) (by show 1 ≤ 2; decide) (by rfl) (run_of ?_)
  simp -implicitDefEqProofs (maxSteps := 100000) (disch := first | (intros; contradiction) | omega) only [am0, am1, am2, am3, am4, am5, am6, am7, am8, am9, Nat.reduceSub, ↓reduceIte, reduceCtorEq, Nat.reduceEqDiff, Nat.reduceBEq, Nat.reduceAdd, Nat.reduceLT, Nat.reduceBNe, Nat.reduceMul, ↓reduceIte, tis, fls]
  refine callM 0 cP ?_
  simp -implicitDefEqProofs (maxSteps := 100000) (disch := first | (intros; contradiction) | omega) only [am0, am1, am2, am3, am4, am5, am6, am7, am8, am9, Nat.reduceSub, ↓reduceIte, reduceCtorEq, Nat.reduceEqDiff, Nat.reduceBEq, Nat.reduceAdd, Nat.reduceLT, Nat.reduceBNe, Nat.reduceMul, ↓reduceIte, tis, fls, List.dropLast_singleton, eInt]
/-- of -/
theorem fits_of (b : List UInt8) (hb : b.length ≤ 2000) (p : Nat) (hp : p ≤ 1048576) (l : List (List UInt8)) (hl : 0 < l.length) (hl2 : l.length ≤ 1048576) : Fits prog 70 [.box (eRd b p), .sl false 1 (l.map eStr)] (.str (ofV b p l)) [.box (eRd b (p + 1))] := by
  have cP := fits_pick b hb p hp l.length hl hl2
  have hk := pickV_lt b p hl
  have e : ofV b p l = l[pickV b p l.length] := by unfold ofV; simp [List.getD, hk]
  rw [e]
  generalize pickV b p l.length = k at *
  unfold eRd at *
  refine fits_of_code [4] [0] [0, 1, 4] func70 rfl rfl rfl (by rfl) (by show 2 ≤ 12; decide) (by rfl) (by rfl) (by show 1 ≤ 2; decide) (by rfl) (run_of ?_)
  simp -implicitDefEqProofs (maxSteps := 100000) (disch := first | (intros; contradiction) | omega) only [am0, am1, am2, am3, am4, am5, am6, am7, am8, am9, Nat.reduceSub, ↓reduceIte, reduceCtorEq, Nat.reduceEqDiff, Nat.reduceBEq, Nat.reduceAdd, Nat.reduceLT, Nat.reduceBNe, Nat.reduceMul, ↓reduceIte, tis, fls]
  refine callM 0 cP ?_
  simp -implicitDefEqProofs (maxSteps := 100000) (disch := first | (intros; contradiction) | omega) only [am0, am1, am2, am3, am4, am5, am6, am7, am8, am9, Nat.reduceSub, ↓reduceIte, reduceCtorEq, Nat.reduceEqDiff, Nat.reduceBEq, Nat.reduceAdd, Nat.reduceLT, Nat.reduceBNe, Nat.reduceMul, ↓reduceIte, tis, fls, List.dropLast_singleton, eStr]
/-- l15Open -/
theorem fits_open (c : List UInt8) (hc : c.length ≤ 9223372036854775807) : Fits prog 68 [.sl false 1 (bytesA c)] (.box (eRd (c.take 2000) 0)) [] := by
  unfold eRd
  by_cases h : (2000 : Int) < c.length
  · refine fits_of_code [2] [] [0, 2, 5] func68 rfl rfl rfl (by rfl) (by show 1 ≤ 11; decide) (by rfl) (by rfl) (by show 0 ≤ 1; decide) (by rfl) (run_of ?_)
    simp -implicitDefEqProofs (maxSteps := 100000) (disch := first | (intros; contradiction) | omega) only [am0, am1, am2, am3, am4, am5, am6, am7, am8, am9, Nat.reduceSub, ↓reduceIte, reduceCtorEq, Nat.reduceEqDiff, Nat.reduceBEq, Nat.reduceAdd, Nat.reduceLT, Nat.reduceBNe, Nat.reduceMul, ↓reduceIte, tis, fls, h]
    exact .inl (by unfold bytesA; rw [show Int.toNat 2000 = 2000 from rfl, List.map_take])
  · have e : c.take 2000 = c := List.take_of_length_le (by omega)
    rw [e]
    refine fits_of_code [2] [] [0, 2, 5] func68 rfl rfl rfl (by rfl) (by show 1 ≤ 11; decide) (by rfl) (by rfl) (by show 0 ≤ 1; decide) (by rfl) (run_of ?_)
    simp -implicitDefEqProofs (maxSteps := 100000) (disch := first | (intros; contradiction) | omega) only [am0, am1, am2, am3, am4, am5, am6, am7, am8, am9, Nat.reduceSub, ↓reduceIte, reduceCtorEq, Nat.reduceEqDiff, Nat.reduceBEq, Nat.reduceAdd, Nat.reduceLT, Nat.reduceBNe, Nat.reduceMul, ↓reduceIte, tis, fls, h]
/-- impl.copied of Rex -/
theorem fits_copiedRex (p : List Rex) (hp : p.length ≤ 1099511627776) : Fits prog 142 [.sl false 3 (p.map (eRex false))] (.sl true 3 (p.map (eRex false))) [] := by
  refine fits_of_code [2] [] [0, 2, 3, 6] func142 rfl rfl rfl (by rfl) (by show 1 ≤ 14; decide) (by rfl) (by rfl) (by show 0 ≤ 1; decide) (by rfl) (run_of ?_)
  cases p with
  | nil => simp -implicitDefEqProofs (maxSteps := 100000) (disch := first | (intros; contradiction) | omega) only [am0, am1, am2, am3, am4, am5, am6, am7, am8, am9, Nat.reduceSub, ↓reduceIte, reduceCtorEq, Nat.reduceEqDiff, Nat.reduceBEq, Nat.reduceAdd, Nat.reduceLT, Nat.reduceBNe, Nat.reduceMul, ↓reduceIte, tis]
  | cons x r =>
    have hl : ((x :: r).length : Int) ≠ 0 := by simp; omega
    generalize (x :: r) = p at *
    simp -implicitDefEqProofs (maxSteps := 100000) (disch := first | (intros; contradiction) | omega) only [am0, am1, am2, am3, am4, am5, am6, am7, am8, am9, Nat.reduceSub, ↓reduceIte, reduceCtorEq, Nat.reduceEqDiff, Nat.reduceBEq, Nat.reduceAdd, Nat.reduceLT, Nat.reduceBNe, Nat.reduceMul, ↓reduceIte, tis]
    simp -implicitDefEqProofs (maxSteps := 100000) (disch := first | (intros; contradiction) | omega) only [am0, am1, am2, am3, am4, am5, am6, am7, am8, am9, Nat.reduceSub, ↓reduceIte, reduceCtorEq, Nat.reduceEqDiff, Nat.reduceBEq, Nat.reduceAdd, Nat.reduceLT, Nat.reduceBNe, Nat.reduceMul, ↓reduceIte, tis, List.length_replicate, rx]
    simp [List.take_of_length_le]
/-- impl.rexCopy -/
theorem fits_rexCopy (r : Rex) (hb : bd r ≤ 1048576) : Fits prog 80 [eRex false r] (eRex true r) [] := by
  induction r using Rex.ind' with
  | h r ih =>
    have hb' := bd_eq r
    have cS := fits_copiedSpan r.set (by omega)
    have cK := fits_copiedRex r.kids (by omega)
    rw [eRex_eq, eRex_eq]
    refine fits_of_cell 2 26 [] [0, 1, 2, 3, 4, 16, 17, 18] func80 rfl rfl rfl (by show 2 < 32; decide) (by show 1 ≤ 32; decide) (by rfl) (by rfl) (by show 0 ≤ 1; decide) (by rfl) (run_of ?_)
    simp -implicitDefEqProofs (maxSteps := 100000) (disch := first | (intros; contradiction) | omega) only [am0, am1, am2, am3, am4, am5, am6, am7, am8, am9, Nat.reduceSub, ↓reduceIte, reduceCtorEq, Nat.reduceEqDiff, Nat.reduceBEq, Nat.reduceAdd, Nat.reduceLT, Nat.reduceBNe, Nat.reduceMul, ↓reduceIte, tis]
    refine .inl ⟨by kernel_rfl, ?_⟩
    refine callL cS ?_
    simp -implicitDefEqProofs (maxSteps := 100000) (disch := first | (intros; contradiction) | omega) only [am0, am1, am2, am3, am4, am5, am6, am7, am8, am9, Nat.reduceSub, ↓reduceIte, reduceCtorEq, Nat.reduceEqDiff, Nat.reduceBEq, Nat.reduceAdd, Nat.reduceLT, Nat.reduceBNe, Nat.reduceMul, ↓reduceIte, tis, fls, rx]
    refine callL cK ?_
    simp -implicitDefEqProofs (maxSteps := 100000) (disch := first | (intros; contradiction) | omega) only [am0, am1, am2, am3, am4, am5, am6, am7, am8, am9, Nat.reduceSub, ↓reduceIte, reduceCtorEq, Nat.reduceEqDiff, Nat.reduceBEq, Nat.reduceAdd, Nat.reduceLT, Nat.reduceBNe, Nat.reduceMul, ↓reduceIte, tis, fls, rx, ite_self]
    refine run_loop (α := Nat) (fun i => i ≤ r.kids.length) (fun i => [(2, .box (.agg [.int .i64 0, .sl true 0 [], .sl true 0 []])), (3, .box (.agg [.int .i64 r.kind, .sl true 2 (r.set.map eSpan), .sl true 3 ((r.kids.take i).map (eRex true) ++ (r.kids.drop i).map (eRex false))])), (16, .int .i64 r.kids.length), (17, .int .i64 i)]) (fun i => r.kids.length - i) 0 (Nat.zero_le _) ?_ ?_
    · simp -implicitDefEqProofs (maxSteps := 100000) (disch := first | (intros; contradiction) | omega) only [am0, am1, am2, am3, am4, am5, am6, am7, am8, am9, Nat.reduceSub, ↓reduceIte, reduceCtorEq, Nat.reduceEqDiff, Nat.reduceBEq, Nat.reduceAdd, Nat.reduceLT, Nat.reduceBNe, Nat.reduceMul, ↓reduceIte, tis]
    · intro i hi'
      by_cases hi : i < r.kids.length
      · have hA : ((r.kids.take i).map (eRex true)).length = i := by simp; omega
        have hL : ((r.kids.take i).map (eRex true) ++ (r.kids.drop i).map (eRex false)).length = r.kids.length := by simp; omega
        have g1 := turn_get _ (eRex false) r.kids i hA hi
        have g2 := fun y => turn_set _ (eRex false) r.kids i y hA hi
        have hm := List.getElem_mem hi
        have cF := ih r.kids[i] hm (Nat.le_trans (bd_kid hm) hb)
        simp -implicitDefEqProofs (maxSteps := 100000) (disch := first | (intros; contradiction) | omega) only [am0, am1, am2, am3, am4, am5, am6, am7, am8, am9, Nat.reduceSub, ↓reduceIte, reduceCtorEq, Nat.reduceEqDiff, Nat.reduceBEq, Nat.reduceAdd, Nat.reduceLT, Nat.reduceBNe, Nat.reduceMul, ↓reduceIte, tis, rx, fls, g1, g2, hL, eRex_eq false r.kids[i]]
        refine .inl ⟨by kernel_rfl, ?_⟩
        rw [eRex_eq false r.kids[i], eRex_eq true r.kids[i]] at cF
        refine callL cF ?_
        simp -implicitDefEqProofs (maxSteps := 100000) (disch := first | (intros; contradiction) | omega) only [am0, am1, am2, am3, am4, am5, am6, am7, am8, am9, Nat.reduceSub, ↓reduceIte, reduceCtorEq, Nat.reduceEqDiff, Nat.reduceBEq, Nat.reduceAdd, Nat.reduceLT, Nat.reduceBNe, Nat.reduceMul, ↓reduceIte, tis, rx, fls, g1, g2, hL, eRex_eq false r.kids[i]]
        refine round_normal (i + 1) (by omega) ?_ (by show r.kids.length - (i + 1) < r.kids.length - i; omega)
        rw [List.take_succ_eq_append_getElem hi, List.map_append, List.map_cons, List.map_nil, eRex_eq true r.kids[i]]
        simp -implicitDefEqProofs (maxSteps := 100000) (disch := first | (intros; contradiction) | omega) only [am0, am1, am2, am3, am4, am5, am6, am7, am8, am9, Nat.reduceSub, ↓reduceIte, reduceCtorEq, Nat.reduceEqDiff, Nat.reduceBEq, Nat.reduceAdd, Nat.reduceLT, Nat.reduceBNe, Nat.reduceMul, ↓reduceIte, tis]
      · obtain rfl : i = r.kids.length := by omega
        simp -implicitDefEqProofs (maxSteps := 100000) (disch := first | (intros; contradiction) | omega) only [am0, am1, am2, am3, am4, am5, am6, am7, am8, am9, Nat.reduceSub, ↓reduceIte, reduceCtorEq, Nat.reduceEqDiff, Nat.reduceBEq, Nat.reduceAdd, Nat.reduceLT, Nat.reduceBNe, Nat.reduceMul, ↓reduceIte, tis, List.drop_length, List.take_length]
/-- spec.l2Form -/
theorem fits_sForm (r : Rex) (d : Nat) (hd : d ≤ 8) (hb : bd r ≤ 1048576) : Fits prog 84 [eRex false r, .int .i64 d] (.bool (fm d r)) [] := by
  induction d generalizing r with
  | zero =>
    rw [eRex_eq]
    refine fits_of_code [4] [] [0, 1, 2, 4, 5, 33, 38, 49] func84 rfl rfl rfl (by rfl) (by show 2 ≤ 50; decide) (by rfl) (by rfl) (by show 0 ≤ 2; decide) (by rfl) (run_of ?_)
    simp -implicitDefEqProofs (maxSteps := 100000) (disch := first | (intros; contradiction) | omega) only [am0, am1, am2, am3, am4, am5, am6, am7, am8, am9, Nat.reduceSub, ↓reduceIte, reduceCtorEq, Nat.reduceEqDiff, Nat.reduceBEq, Nat.reduceAdd, Nat.reduceLT, Nat.reduceBNe, Nat.reduceMul, ↓reduceIte, tis, fm_0]
    refine .inl ?_
    show _ = _
    kernel_rfl
  | succ d ih =>
    have hb' := bd_eq r
    have cK := fits_sKids r.kind
    have cS := fits_sSetOk r.set (by omega)
    rw [eRex_eq]
    refine fits_of_code [4] [] [0, 1, 2, 4, 5, 33, 38, 49] func84 rfl rfl rfl (by rfl) (by show 2 ≤ 50; decide) (by rfl) (by rfl) (by show 0 ≤ 2; decide) (by rfl) (run_of ?_)
    simp -implicitDefEqProofs (maxSteps := 100000) (disch := first | (intros; contradiction) | omega) only [am0, am1, am2, am3, am4, am5, am6, am7, am8, am9, Nat.reduceSub, ↓reduceIte, reduceCtorEq, Nat.reduceEqDiff, Nat.reduceBEq, Nat.reduceAdd, Nat.reduceLT, Nat.reduceBNe, Nat.reduceMul, ↓reduceIte, tis]
    refine .inl ⟨by kernel_rfl, ?_⟩
    refine callL cK ?_
    by_cases h1 : kidsN r.kind = r.kids.length
    case neg => simp -implicitDefEqProofs (maxSteps := 100000) (disch := first | (intros; contradiction) | omega) only [am0, am1, am2, am3, am4, am5, am6, am7, am8, am9, Nat.reduceSub, ↓reduceIte, reduceCtorEq, Nat.reduceEqDiff, Nat.reduceBEq, Nat.reduceAdd, Nat.reduceLT, Nat.reduceBNe, Nat.reduceMul, ↓reduceIte, tis, fm_f1 h1]
    by_cases h2 : r.kind = 1 ∨ r.set.length = 0
    case neg =>
      have h2a : r.kind ≠ 1 := fun h => h2 (.inl h)
      have h2b : 0 < (r.set.length : Int) := by omega
      simp -implicitDefEqProofs (maxSteps := 100000) (disch := first | (intros; contradiction) | omega) only [am0, am1, am2, am3, am4, am5, am6, am7, am8, am9, Nat.reduceSub, ↓reduceIte, reduceCtorEq, Nat.reduceEqDiff, Nat.reduceBEq, Nat.reduceAdd, Nat.reduceLT, Nat.reduceBNe, Nat.reduceMul, ↓reduceIte, tis, fm_f2 h2]
    have h2c : r.kind = 1 ∨ (r.kind ≠ 1 ∧ (r.set.length : Int) = 0) := by omega
    cases h3 : setB r.set with
    | false =>
      rcases h2c with h2c | ⟨h2c, h2d⟩
      all_goals
        simp -implicitDefEqProofs (maxSteps := 100000) (disch := first | (intros; contradiction) | omega) only [am0, am1, am2, am3, am4, am5, am6, am7, am8, am9, Nat.reduceSub, ↓reduceIte, reduceCtorEq, Nat.reduceEqDiff, Nat.reduceBEq, Nat.reduceAdd, Nat.reduceLT, Nat.reduceBNe, Nat.reduceMul, ↓reduceIte, tis]
        refine callL cS ?_
        simp -implicitDefEqProofs (maxSteps := 100000) (disch := first | (intros; contradiction) | omega) only [am0, am1, am2, am3, am4, am5, am6, am7, am8, am9, Nat.reduceSub, ↓reduceIte, reduceCtorEq, Nat.reduceEqDiff, Nat.reduceBEq, Nat.reduceAdd, Nat.reduceLT, Nat.reduceBNe, Nat.reduceMul, ↓reduceIte, tis, h3, fm_f3 h3]
    | true =>
      rcases h2c with h2c | ⟨h2c, h2d⟩
      all_goals
        simp -implicitDefEqProofs (maxSteps := 100000) (disch := first | (intros; contradiction) | omega) only [am0, am1, am2, am3, am4, am5, am6, am7, am8, am9, Nat.reduceSub, ↓reduceIte, reduceCtorEq, Nat.reduceEqDiff, Nat.reduceBEq, Nat.reduceAdd, Nat.reduceLT, Nat.reduceBNe, Nat.reduceMul, ↓reduceIte, tis]
        refine callL cS ?_
        simp -implicitDefEqProofs (maxSteps := 100000) (disch := first | (intros; contradiction) | omega) only [am0, am1, am2, am3, am4, am5, am6, am7, am8, am9, Nat.reduceSub, ↓reduceIte, reduceCtorEq, Nat.reduceEqDiff, Nat.reduceBEq, Nat.reduceAdd, Nat.reduceLT, Nat.reduceBNe, Nat.reduceMul, ↓reduceIte, tis, h3]
        refine run_loop (α := Nat) (fun i => i ≤ r.kids.length ∧ ∀ j (hj : j < r.kids.length), j < i → fm d r.kids[j] = true) (fun i => [(1, .int .i64 ((d : Int) + 1)), (2, .box (.agg [.int .i64 r.kind, .sl false 2 (r.set.map eSpan), .sl false 3 (r.kids.map (eRex false))])), (5, .int .i64 i)]) (fun i => r.kids.length - i) 0 ⟨Nat.zero_le _, by intros; omega⟩ ?_ ?_
        · simp -implicitDefEqProofs (maxSteps := 100000) (disch := first | (intros; contradiction) | omega) only [am0, am1, am2, am3, am4, am5, am6, am7, am8, am9, Nat.reduceSub, ↓reduceIte, reduceCtorEq, Nat.reduceEqDiff, Nat.reduceBEq, Nat.reduceAdd, Nat.reduceLT, Nat.reduceBNe, Nat.reduceMul, ↓reduceIte, tis]
        · rintro i ⟨hi', hb2⟩
          by_cases hi : i < r.kids.length
          · have e1 : ((d : Int) + 1 - 1) = d := by omega
            have cF := ih r.kids[i] (by omega) (Nat.le_trans (bd_kid (List.getElem_mem hi)) hb)
            simp -implicitDefEqProofs (maxSteps := 100000) (disch := first | (intros; contradiction) | omega) only [am0, am1, am2, am3, am4, am5, am6, am7, am8, am9, Nat.reduceSub, ↓reduceIte, reduceCtorEq, Nat.reduceEqDiff, Nat.reduceBEq, Nat.reduceAdd, Nat.reduceLT, Nat.reduceBNe, Nat.reduceMul, ↓reduceIte, tis, rx, eRex_eq]
            refine callB cF ?_
            cases h5 : fm d r.kids[i] with
            | false => simp -implicitDefEqProofs (maxSteps := 100000) (disch := first | (intros; contradiction) | omega) only [am0, am1, am2, am3, am4, am5, am6, am7, am8, am9, Nat.reduceSub, ↓reduceIte, reduceCtorEq, Nat.reduceEqDiff, Nat.reduceBEq, Nat.reduceAdd, Nat.reduceLT, Nat.reduceBNe, Nat.reduceMul, ↓reduceIte, tis, rx, eRex_eq, e1, fm_f hi h5]
            | true =>
              simp -implicitDefEqProofs (maxSteps := 100000) (disch := first | (intros; contradiction) | omega) only [am0, am1, am2, am3, am4, am5, am6, am7, am8, am9, Nat.reduceSub, ↓reduceIte, reduceCtorEq, Nat.reduceEqDiff, Nat.reduceBEq, Nat.reduceAdd, Nat.reduceLT, Nat.reduceBNe, Nat.reduceMul, ↓reduceIte, tis, rx, eRex_eq, e1]
              refine round_normal (i + 1) ⟨by omega, ?_⟩ ?_ (by show r.kids.length - (i + 1) < r.kids.length - i; omega)
              · intro j hj hj2
                by_cases hji : j < i
                · exact hb2 j hj hji
                · obtain rfl : j = i := by omega
                  exact h5
              · simp -implicitDefEqProofs (maxSteps := 100000) (disch := first | (intros; contradiction) | omega) only [am0, am1, am2, am3, am4, am5, am6, am7, am8, am9, Nat.reduceSub, ↓reduceIte, reduceCtorEq, Nat.reduceEqDiff, Nat.reduceBEq, Nat.reduceAdd, Nat.reduceLT, Nat.reduceBNe, Nat.reduceMul, ↓reduceIte, tis]
          · obtain rfl : i = r.kids.length := by omega
            simp -implicitDefEqProofs (maxSteps := 100000) (disch := first | (intros; contradiction) | omega) only [am0, am1, am2, am3, am4, am5, am6, am7, am8, am9, Nat.reduceSub, ↓reduceIte, reduceCtorEq, Nat.reduceEqDiff, Nat.reduceBEq, Nat.reduceAdd, Nat.reduceLT, Nat.reduceBNe, Nat.reduceMul, ↓reduceIte, tis, fm_t h1 h2 h3 (fun i hi => hb2 i hi hi)]
/-- impl.manyParts -/
theorem fits_manyParts (r : Rex) (hb : bd r ≤ 1048576) (h2 : ps r ≤ 1048576) : Fits prog 87 [eRex false r] (.int .i64 (ps r)) [] := by
  induction r using Rex.ind' with
  | h r ih =>
    have hb' := bd_eq r
    have hp := ps_eq r
    rw [eRex_eq]
    refine fits_of_code [2] [] [0, 1, 2, 3, 5, 7, 8, 9, 10] func87 rfl rfl rfl (by rfl) (by show 1 ≤ 19; decide) (by rfl) (by rfl) (by show 0 ≤ 1; decide) (by rfl) (run_of ?_)
    simp -implicitDefEqProofs (maxSteps := 100000) (disch := first | (intros; contradiction) | omega) only [am0, am1, am2, am3, am4, am5, am6, am7, am8, am9, Nat.reduceSub, ↓reduceIte, reduceCtorEq, Nat.reduceEqDiff, Nat.reduceBEq, Nat.reduceAdd, Nat.reduceLT, Nat.reduceBNe, Nat.reduceMul, ↓reduceIte, tis]
    refine run_loop (α := Nat) (fun i => i ≤ r.kids.length) (fun i => [(3, .int .i64 ((1 + ((r.kids.map ps).take i).sum : Nat) : Int)), (7, .sl false 3 (r.kids.map (eRex false))), (8, .int .i64 r.kids.length), (9, .int .i64 i)]) (fun i => r.kids.length - i) 0 (Nat.zero_le _) ?_ ?_
    · simp -implicitDefEqProofs (maxSteps := 100000) (disch := first | (intros; contradiction) | omega) only [am0, am1, am2, am3, am4, am5, am6, am7, am8, am9, Nat.reduceSub, ↓reduceIte, reduceCtorEq, Nat.reduceEqDiff, Nat.reduceBEq, Nat.reduceAdd, Nat.reduceLT, Nat.reduceBNe, Nat.reduceMul, ↓reduceIte, tis, List.sum_nil]
    · intro i hi'
      by_cases hi : i < r.kids.length
      · have e := take_sum (l := r.kids.map ps) (i := i) (by simpa using hi)
        have e' := take_sum_le (r.kids.map ps) (i + 1)
        rw [List.getElem_map] at e
        have hm := List.getElem_mem hi
        have hk : ps r.kids[i] ≤ (r.kids.map ps).sum := le_sum (List.mem_map_of_mem hm)
        have cF := ih r.kids[i] hm (Nat.le_trans (bd_kid hm) hb) (by omega)
        simp -implicitDefEqProofs (maxSteps := 100000) (disch := first | (intros; contradiction) | omega) only [am0, am1, am2, am3, am4, am5, am6, am7, am8, am9, Nat.reduceSub, ↓reduceIte, reduceCtorEq, Nat.reduceEqDiff, Nat.reduceBEq, Nat.reduceAdd, Nat.reduceLT, Nat.reduceBNe, Nat.reduceMul, ↓reduceIte, tis, rx, eRex_eq]
        refine callB cF ?_
        simp -implicitDefEqProofs (maxSteps := 100000) (disch := first | (intros; contradiction) | omega) only [am0, am1, am2, am3, am4, am5, am6, am7, am8, am9, Nat.reduceSub, ↓reduceIte, reduceCtorEq, Nat.reduceEqDiff, Nat.reduceBEq, Nat.reduceAdd, Nat.reduceLT, Nat.reduceBNe, Nat.reduceMul, ↓reduceIte, tis, rx, eRex_eq]
        refine round_normal (i + 1) (by omega) ?_ (by show r.kids.length - (i + 1) < r.kids.length - i; omega)
        simp -implicitDefEqProofs (maxSteps := 100000) (disch := first | (intros; contradiction) | omega) only [am0, am1, am2, am3, am4, am5, am6, am7, am8, am9, Nat.reduceSub, ↓reduceIte, reduceCtorEq, Nat.reduceEqDiff, Nat.reduceBEq, Nat.reduceAdd, Nat.reduceLT, Nat.reduceBNe, Nat.reduceMul, ↓reduceIte, tis, e]
        omega
      · obtain rfl : i = r.kids.length := by omega
        have e : (r.kids.map ps).take r.kids.length = r.kids.map ps := List.take_of_length_le (by simp)
        simp -implicitDefEqProofs (maxSteps := 100000) (disch := first | (intros; contradiction) | omega) only [am0, am1, am2, am3, am4, am5, am6, am7, am8, am9, Nat.reduceSub, ↓reduceIte, reduceCtorEq, Nat.reduceEqDiff, Nat.reduceBEq, Nat.reduceAdd, Nat.reduceLT, Nat.reduceBNe, Nat.reduceMul, ↓reduceIte, tis, e, hp]
/-- spec.l2Many -/
theorem fits_sMany (r : Rex) (d : Nat) (hd : d ≤ 8) (hf : fm d r = true) (hb : bd r ≤ 1048576) : Fits prog 85 [eRex false r, .int .i64 d] (.int .i64 (ps r)) [] := by
  induction d generalizing r with
  | zero => simp [fm] at hf
  | succ d ih =>
    have hb' := bd_eq r
    have hp := ps_eq r
    have h4 := (fm_ok hf).2.2.2
    have hps := ps_le (d + 1) r hf
    have h2p : 2 ^ (d + 1) ≤ 2 ^ 8 := Nat.pow_le_pow_right (by omega) hd
    have e1 : ((d : Int) + 1 - 1) = d := by omega
    rw [eRex_eq]
    refine fits_of_code [4] [] [0, 1, 2, 4, 5, 6, 15] func85 rfl rfl rfl (by rfl) (by show 2 ≤ 29; decide) (by rfl) (by rfl) (by show 0 ≤ 2; decide) (by rfl) (run_of ?_)
    simp -implicitDefEqProofs (maxSteps := 100000) (disch := first | (intros; contradiction) | omega) only [am0, am1, am2, am3, am4, am5, am6, am7, am8, am9, Nat.reduceSub, ↓reduceIte, reduceCtorEq, Nat.reduceEqDiff, Nat.reduceBEq, Nat.reduceAdd, Nat.reduceLT, Nat.reduceBNe, Nat.reduceMul, ↓reduceIte, tis]
    refine run_loop (α := Nat) (fun i => i ≤ r.kids.length) (fun i => [(1, .int .i64 ((d : Int) + 1)), (2, .box (.agg [.int .i64 r.kind, .sl false 2 (r.set.map eSpan), .sl false 3 (r.kids.map (eRex false))])), (5, .int .i64 ((1 + ((r.kids.map ps).take i).sum : Nat) : Int)), (6, .int .i64 i)]) (fun i => r.kids.length - i) 0 (Nat.zero_le _) ?_ ?_
    · simp -implicitDefEqProofs (maxSteps := 100000) (disch := first | (intros; contradiction) | omega) only [am0, am1, am2, am3, am4, am5, am6, am7, am8, am9, Nat.reduceSub, ↓reduceIte, reduceCtorEq, Nat.reduceEqDiff, Nat.reduceBEq, Nat.reduceAdd, Nat.reduceLT, Nat.reduceBNe, Nat.reduceMul, ↓reduceIte, tis, List.sum_nil]
    · intro i hi'
      by_cases hi : i < r.kids.length
      · have e := take_sum (l := r.kids.map ps) (i := i) (by simpa using hi)
        have e' := take_sum_le (r.kids.map ps) (i + 1)
        rw [List.getElem_map] at e
        have hm := List.getElem_mem hi
        have hk : ps r.kids[i] ≤ (r.kids.map ps).sum := le_sum (List.mem_map_of_mem hm)
        have cF := ih r.kids[i] (by omega) (h4 _ hm) (Nat.le_trans (bd_kid hm) hb)
        simp -implicitDefEqProofs (maxSteps := 100000) (disch := first | (intros; contradiction) | omega) only [am0, am1, am2, am3, am4, am5, am6, am7, am8, am9, Nat.reduceSub, ↓reduceIte, reduceCtorEq, Nat.reduceEqDiff, Nat.reduceBEq, Nat.reduceAdd, Nat.reduceLT, Nat.reduceBNe, Nat.reduceMul, ↓reduceIte, tis, rx, eRex_eq]
        refine callB cF ?_
        simp -implicitDefEqProofs (maxSteps := 100000) (disch := first | (intros; contradiction) | omega) only [am0, am1, am2, am3, am4, am5, am6, am7, am8, am9, Nat.reduceSub, ↓reduceIte, reduceCtorEq, Nat.reduceEqDiff, Nat.reduceBEq, Nat.reduceAdd, Nat.reduceLT, Nat.reduceBNe, Nat.reduceMul, ↓reduceIte, tis, rx, eRex_eq, e1]
        refine round_normal (i + 1) (by omega) ?_ (by show r.kids.length - (i + 1) < r.kids.length - i; omega)
        simp -implicitDefEqProofs (maxSteps := 100000) (disch := first | (intros; contradiction) | omega) only [am0, am1, am2, am3, am4, am5, am6, am7, am8, am9, Nat.reduceSub, ↓reduceIte, reduceCtorEq, Nat.reduceEqDiff, Nat.reduceBEq, Nat.reduceAdd, Nat.reduceLT, Nat.reduceBNe, Nat.reduceMul, ↓reduceIte, tis, e]
        omega
      · obtain rfl : i = r.kids.length := by omega
        have e : (r.kids.map ps).take r.kids.length = r.kids.map ps := List.take_of_length_le (by simp)
        simp -implicitDefEqProofs (maxSteps := 100000) (disch := first | (intros; contradiction) | omega) only [am0, am1, am2, am3, am4, am5, am6, am7, am8, am9, Nat.reduceSub, ↓reduceIte, reduceCtorEq, Nat.reduceEqDiff, Nat.reduceBEq, Nat.reduceAdd, Nat.reduceLT, Nat.reduceBNe, Nat.reduceMul, ↓reduceIte, tis, e, hp]
def rexB (r : Rex) : Bool := fm 8 r && decide (ps r ≤ 24)
/-- impl.RexOk -/
theorem fits_rexOk (r : Rex) (hb : bd r ≤ 1048576) : Fits prog 25 [eRex false r] (.bool (rexB r)) [] := by
  have cF : Fits prog 86 [eRex false r, .int .i64 8] (.bool (fm 8 r)) [] := fits_formed r 8 (by omega) hb
  cases h : fm 8 r with
  | false =>
    have hx : rexB r = false := by simp [rexB, h]
    rw [h] at cF
    rw [eRex_eq] at *
    refine fits_of_code [2] [] [0, 1, 2] func25 rfl rfl rfl (by rfl) (by show 1 ≤ 10; decide) (by rfl) (by rfl) (by show 0 ≤ 1; decide) (by rfl) (run_of ?_)
    simp -implicitDefEqProofs (maxSteps := 100000) (disch := first | (intros; contradiction) | omega) only [am0, am1, am2, am3, am4, am5, am6, am7, am8, am9, Nat.reduceSub, ↓reduceIte, reduceCtorEq, Nat.reduceEqDiff, Nat.reduceBEq, Nat.reduceAdd, Nat.reduceLT, Nat.reduceBNe, Nat.reduceMul, ↓reduceIte, tis]
    refine callB cF ?_
    simp -implicitDefEqProofs (maxSteps := 100000) (disch := first | (intros; contradiction) | omega) only [am0, am1, am2, am3, am4, am5, am6, am7, am8, am9, Nat.reduceSub, ↓reduceIte, reduceCtorEq, Nat.reduceEqDiff, Nat.reduceBEq, Nat.reduceAdd, Nat.reduceLT, Nat.reduceBNe, Nat.reduceMul, ↓reduceIte, tis, hx]
  | true =>
    have hp := ps_le 8 r h
    have cM := fits_manyParts r hb (by omega)
    rw [h] at cF
    rw [eRex_eq] at *
    by_cases h2 : (ps r : Int) ≤ 24
    · have hx : rexB r = true := by simp only [rexB, h, Bool.true_and, decide_eq_true_eq]; omega
      refine fits_of_code [2] [] [0, 1, 2] func25 rfl rfl rfl (by rfl) (by show 1 ≤ 10; decide) (by rfl) (by rfl) (by show 0 ≤ 1; decide) (by rfl) (run_of ?_)
      simp -implicitDefEqProofs (maxSteps := 100000) (disch := first | (intros; contradiction) | omega) only [am0, am1, am2, am3, am4, am5, am6, am7, am8, am9, Nat.reduceSub, ↓reduceIte, reduceCtorEq, Nat.reduceEqDiff, Nat.reduceBEq, Nat.reduceAdd, Nat.reduceLT, Nat.reduceBNe, Nat.reduceMul, ↓reduceIte, tis]
      refine callB cF ?_
      simp -implicitDefEqProofs (maxSteps := 100000) (disch := first | (intros; contradiction) | omega) only [am0, am1, am2, am3, am4, am5, am6, am7, am8, am9, Nat.reduceSub, ↓reduceIte, reduceCtorEq, Nat.reduceEqDiff, Nat.reduceBEq, Nat.reduceAdd, Nat.reduceLT, Nat.reduceBNe, Nat.reduceMul, ↓reduceIte, tis]
      refine callB cM ?_
      simp -implicitDefEqProofs (maxSteps := 100000) (disch := first | (intros; contradiction) | omega) only [am0, am1, am2, am3, am4, am5, am6, am7, am8, am9, Nat.reduceSub, ↓reduceIte, reduceCtorEq, Nat.reduceEqDiff, Nat.reduceBEq, Nat.reduceAdd, Nat.reduceLT, Nat.reduceBNe, Nat.reduceMul, ↓reduceIte, tis, hx]
    · have hx : rexB r = false := by simp only [rexB, h, Bool.true_and, decide_eq_false_iff_not]; omega
      refine fits_of_code [2] [] [0, 1, 2] func25 rfl rfl rfl (by rfl) (by show 1 ≤ 10; decide) (by rfl) (by rfl) (by show 0 ≤ 1; decide) (by rfl) (run_of ?_)
      simp -implicitDefEqProofs (maxSteps := 100000) (disch := first | (intros; contradiction) | omega) only [am0, am1, am2, am3, am4, am5, am6, am7, am8, am9, Nat.reduceSub, ↓reduceIte, reduceCtorEq, Nat.reduceEqDiff, Nat.reduceBEq, Nat.reduceAdd, Nat.reduceLT, Nat.reduceBNe, Nat.reduceMul, ↓reduceIte, tis]
      refine callB cF ?_
      simp -implicitDefEqProofs (maxSteps := 100000) (disch := first | (intros; contradiction) | omega) only [am0, am1, am2, am3, am4, am5, am6, am7, am8, am9, Nat.reduceSub, ↓reduceIte, reduceCtorEq, Nat.reduceEqDiff, Nat.reduceBEq, Nat.reduceAdd, Nat.reduceLT, Nat.reduceBNe, Nat.reduceMul, ↓reduceIte, tis]
      refine callB cM ?_
      simp -implicitDefEqProofs (maxSteps := 100000) (disch := first | (intros; contradiction) | omega) only [am0, am1, am2, am3, am4, am5, am6, am7, am8, am9, Nat.reduceSub, ↓reduceIte, reduceCtorEq, Nat.reduceEqDiff, Nat.reduceBEq, Nat.reduceAdd, Nat.reduceLT, Nat.reduceBNe, Nat.reduceMul, ↓reduceIte, tis, hx]
/-- spec.RexOk -/
theorem fits_sRexOk (r : Rex) (hb : bd r ≤ 1048576) : Fits prog 24 [eRex false r] (.bool (rexB r)) [] := by
  have cF : Fits prog 84 [eRex false r, .int .i64 8] (.bool (fm 8 r)) [] := fits_sForm r 8 (by omega) hb
  cases h : fm 8 r with
  | false =>
    have hx : rexB r = false := by simp [rexB, h]
    rw [h] at cF
    rw [eRex_eq] at *
    refine fits_of_code [2] [] [0, 1, 2] func24 rfl rfl rfl (by rfl) (by show 1 ≤ 10; decide) (by rfl) (by rfl) (by show 0 ≤ 1; decide) (by rfl) (run_of ?_)
    simp -implicitDefEqProofs (maxSteps := 100000) (disch := first | (intros; contradiction) | omega) only [am0, am1, am2, am3, am4, am5, am6, am7, am8, am9, Nat.reduceSub, ↓reduceIte, reduceCtorEq, Nat.reduceEqDiff, Nat.reduceBEq, Nat.reduceAdd, Nat.reduceLT, Nat.reduceBNe, Nat.reduceMul, ↓reduceIte, tis]
    refine callB cF ?_
    simp -implicitDefEqProofs (maxSteps := 100000) (disch := first | (intros; contradiction) | omega) only [am0, am1, am2, am3, am4, am5, am6, am7, am8, am9, Nat.reduceSub, ↓reduceIte, reduceCtorEq, Nat.reduceEqDiff, Nat.reduceBEq, Nat.reduceAdd, Nat.reduceLT, Nat.reduceBNe, Nat.reduceMul, ↓reduceIte, tis, hx]
  | true =>
    have hp := ps_le 8 r h
    have cM : Fits prog 85 [eRex false r, .int .i64 8] (.int .i64 (ps r)) [] := fits_sMany r 8 (by omega) h hb
    rw [h] at cF
    rw [eRex_eq] at *
    by_cases h2 : (ps r : Int) ≤ 24
    · have hx : rexB r = true := by simp only [rexB, h, Bool.true_and, decide_eq_true_eq]; omega
      refine fits_of_code [2] [] [0, 1, 2] func24 rfl rfl rfl (by rfl) (by show 1 ≤ 10; decide) (by rfl) (by rfl) (by show 0 ≤ 1; decide) (by rfl) (run_of ?_)
      simp -implicitDefEqProofs (maxSteps := 100000) (disch := first | (intros; contradiction) | omega) only [am0, am1, am2, am3, am4, am5, am6, am7, am8, am9, Nat.reduceSub, ↓reduceIte, reduceCtorEq, Nat.reduceEqDiff, Nat.reduceBEq, Nat.reduceAdd, Nat.reduceLT, Nat.reduceBNe, Nat.reduceMul, ↓reduceIte, tis]
      refine callB cF ?_
      simp -implicitDefEqProofs (maxSteps := 100000) (disch := first | (intros; contradiction) | omega) only [am0, am1, am2, am3, am4, am5, am6, am7, am8, am9, Nat.reduceSub, ↓reduceIte, reduceCtorEq, Nat.reduceEqDiff, Nat.reduceBEq, Nat.reduceAdd, Nat.reduceLT, Nat.reduceBNe, Nat.reduceMul, ↓reduceIte, tis]
      refine callB cM ?_
      simp -implicitDefEqProofs (maxSteps := 100000) (disch := first | (intros; contradiction) | omega) only [am0, am1, am2, am3, am4, am5, am6, am7, am8, am9, Nat.reduceSub, ↓reduceIte, reduceCtorEq, Nat.reduceEqDiff, Nat.reduceBEq, Nat.reduceAdd, Nat.reduceLT, Nat.reduceBNe, Nat.reduceMul, ↓reduceIte, tis, hx]
    · have hx : rexB r = false := by simp only [rexB, h, Bool.true_and, decide_eq_false_iff_not]; omega
      refine fits_of_code [2] [] [0, 1, 2] func24 rfl rfl rfl (by rfl) (by show 1 ≤ 10; decide) (by rfl) (by rfl) (by show 0 ≤ 1; decide) (by rfl) (run_of ?_)
      simp -implicitDefEqProofs (maxSteps := 100000) (disch := first | (intros; contradiction) | omega) only [am0, am1, am2, am3, am4, am5, am6, am7, am8, am9, Nat.reduceSub, ↓reduceIte, reduceCtorEq, Nat.reduceEqDiff, Nat.reduceBEq, Nat.reduceAdd, Nat.reduceLT, Nat.reduceBNe, Nat.reduceMul, ↓reduceIte, tis]
      refine callB cF ?_
      simp -implicitDefEqProofs (maxSteps := 100000) (disch := first | (intros; contradiction) | omega) only [am0, am1, am2, am3, am4, am5, am6, am7, am8, am9, Nat.reduceSub, ↓reduceIte, reduceCtorEq, Nat.reduceEqDiff, Nat.reduceBEq, Nat.reduceAdd, Nat.reduceLT, Nat.reduceBNe, Nat.reduceMul, ↓reduceIte, tis]
      refine callB cM ?_
      simp -implicitDefEqProofs (maxSteps := 100000) (disch := first | (intros; contradiction) | omega) only [am0, am1, am2, am3, am4, am5, am6, am7, am8, am9, Nat.reduceSub, ↓reduceIte, reduceCtorEq, Nat.reduceEqDiff, Nat.reduceBEq, Nat.reduceAdd, Nat.reduceLT, Nat.reduceBNe, Nat.reduceMul, ↓reduceIte, tis, hx]
/-- What is read backwards. -/
def turnR : Rex → Rex
  | .mk k s ks => .mk k s (if k = 3 then (ks.map turnR).reverse else ks.map turnR)
theorem turnR_eq (r : Rex) : turnR r = .mk r.kind r.set (if r.kind = 3 then (r.kids.map turnR).reverse else r.kids.map turnR) := by cases r; rw [turnR]; rfl
theorem bd_turn (r : Rex) : bd (turnR r) = bd r := by
  induction r using Rex.ind' with
  | h r ih =>
    rw [turnR_eq, bd_eq, bd_eq r]
    have e : (r.kids.map turnR).map bd = r.kids.map bd := by rw [List.map_map]; exact List.map_congr_left ih
    show r.set.length + ((if r.kind = 3 then (r.kids.map turnR).reverse else r.kids.map turnR).length + ((if r.kind = 3 then (r.kids.map turnR).reverse else r.kids.map turnR).map bd).sum) = _
    by_cases h : r.kind = 3
    · rw [if_pos h, List.map_reverse, e, List.sum_reverse]; simp
    · rw [if_neg h, e]; simp
theorem fm_cat {d : Nat} {r : Rex} (h : fm d r = true) (h3 : r.kind = 3) : r.kids.length = 2 := by
  cases d with
  | zero => simp [fm] at h
  | succ d => have := (fm_ok h).1; rw [h3] at this; simp [kidsN] at this; omega
/-- impl.turned, its result as shared -/
theorem fits_turned (r : Rex) (d : Nat) (hf : fm d r = true) (hb : bd r ≤ 1048576) : Fits prog 81 [eRex false r] (eRex false (turnR r)) [] := by
  induction d generalizing r with
  | zero => simp [fm] at hf
  | succ d ih =>
    have hb' := bd_eq r
    have h4 := (fm_ok hf).2.2.2
    have cS := fits_copiedSpan r.set (by omega)
    have key : Fits prog 81 [eRex false r] (.agg [.int .i64 r.kind, .sl true 2 (r.set.map eSpan), .sl true 3 ((turnR r).kids.map (eRex false))]) [] := by
      rw [eRex_eq]
      refine fits_of_cell 2 26 [] [0, 1, 2, 3, 5, 13, 14, 15, 16, 29] func81 rfl rfl rfl (by show 2 < 45; decide) (by show 1 ≤ 45; decide) (by rfl) (by rfl) (by show 0 ≤ 1; decide) (by rfl) (run_of ?_)
      simp -implicitDefEqProofs (maxSteps := 100000) (disch := first | (intros; contradiction) | omega) only [am0, am1, am2, am3, am4, am5, am6, am7, am8, am9, Nat.reduceSub, ↓reduceIte, reduceCtorEq, Nat.reduceEqDiff, Nat.reduceBEq, Nat.reduceAdd, Nat.reduceLT, Nat.reduceBNe, Nat.reduceMul, ↓reduceIte, tis]
      refine .inl ⟨by kernel_rfl, ?_⟩
      refine callL cS ?_
      simp -implicitDefEqProofs (maxSteps := 100000) (disch := first | (intros; contradiction) | omega) only [am0, am1, am2, am3, am4, am5, am6, am7, am8, am9, Nat.reduceSub, ↓reduceIte, reduceCtorEq, Nat.reduceEqDiff, Nat.reduceBEq, Nat.reduceAdd, Nat.reduceLT, Nat.reduceBNe, Nat.reduceMul, ↓reduceIte, tis, fls, rx, ite_self]
      refine run_loop (α := Nat) (fun i => i ≤ r.kids.length) (fun i => [(1, .box (.agg [.int .i64 r.kind, .sl false 2 (r.set.map eSpan), .sl false 3 (r.kids.map (eRex false))])), (2, .box (.agg [.int .i64 0, .sl true 0 [], .sl true 0 []])), (3, .box (.agg [.int .i64 r.kind, .sl true 2 (r.set.map eSpan), .sl true 3 ((r.kids.take i).map (fun x => eRex false (turnR x)))])), (13, .sl false 3 (r.kids.map (eRex false))), (14, .int .i64 r.kids.length), (15, .int .i64 i)]) (fun i => r.kids.length - i) 0 (Nat.zero_le _) ?_ ?_
      · simp -implicitDefEqProofs (maxSteps := 100000) (disch := first | (intros; contradiction) | omega) only [am0, am1, am2, am3, am4, am5, am6, am7, am8, am9, Nat.reduceSub, ↓reduceIte, reduceCtorEq, Nat.reduceEqDiff, Nat.reduceBEq, Nat.reduceAdd, Nat.reduceLT, Nat.reduceBNe, Nat.reduceMul, ↓reduceIte, tis]
      · intro i hi'
        by_cases hi : i < r.kids.length
        · have hm := List.getElem_mem hi
          have cF := ih r.kids[i] (h4 _ hm) (Nat.le_trans (bd_kid hm) hb)
          rw [eRex_eq false r.kids[i]] at cF
          simp -implicitDefEqProofs (maxSteps := 100000) (disch := first | (intros; contradiction) | omega) only [am0, am1, am2, am3, am4, am5, am6, am7, am8, am9, Nat.reduceSub, ↓reduceIte, reduceCtorEq, Nat.reduceEqDiff, Nat.reduceBEq, Nat.reduceAdd, Nat.reduceLT, Nat.reduceBNe, Nat.reduceMul, ↓reduceIte, tis, rx, fls, eRex_eq false r.kids[i]]
          refine .inl ⟨by kernel_rfl, ?_⟩
          refine callL cF ?_
          rw [eRex_eq false (turnR r.kids[i])]
          have hlt : (r.kids.take i).length = i := by simp; omega
          simp -implicitDefEqProofs (maxSteps := 100000) (disch := first | (intros; contradiction) | omega) only [am0, am1, am2, am3, am4, am5, am6, am7, am8, am9, Nat.reduceSub, ↓reduceIte, reduceCtorEq, Nat.reduceEqDiff, Nat.reduceBEq, Nat.reduceAdd, Nat.reduceLT, Nat.reduceBNe, Nat.reduceMul, ↓reduceIte, tis, rx, fls, hlt]
          refine round_normal (i + 1) (by omega) ?_ (by show r.kids.length - (i + 1) < r.kids.length - i; omega)
          rw [List.take_succ_eq_append_getElem hi, List.map_append, List.map_cons, List.map_nil, eRex_eq false (turnR r.kids[i])]
          simp -implicitDefEqProofs (maxSteps := 100000) (disch := first | (intros; contradiction) | omega) only [am0, am1, am2, am3, am4, am5, am6, am7, am8, am9, Nat.reduceSub, ↓reduceIte, reduceCtorEq, Nat.reduceEqDiff, Nat.reduceBEq, Nat.reduceAdd, Nat.reduceLT, Nat.reduceBNe, Nat.reduceMul, ↓reduceIte, tis]
        · obtain rfl : i = r.kids.length := by omega
          by_cases h3 : r.kind = 3
          · have h2 := fm_cat hf h3
            obtain ⟨a, b, hab⟩ : ∃ a b, r.kids = [a, b] := by
              match hk : r.kids, h2 with
              | [a, b], _ => exact ⟨a, b, rfl⟩
            have ht : (turnR r).kids.map (eRex false) = [eRex false (turnR b), eRex false (turnR a)] := by
              rw [turnR_eq, if_pos h3, hab]; rfl
            rw [ht]
            simp only [hab, List.map_cons, List.map_nil, List.take_succ_cons, List.take_zero, List.length_cons, List.length_nil, eRex_eq false (turnR a), eRex_eq false (turnR b)]
            have t1 : Int.toNat 1 = 1 := rfl
            have t0 : Int.toNat 0 = 0 := rfl
            simp -implicitDefEqProofs (maxSteps := 100000) (disch := first | (intros; contradiction) | omega) only [am0, am1, am2, am3, am4, am5, am6, am7, am8, am9, Nat.reduceSub, ↓reduceIte, reduceCtorEq, Nat.reduceEqDiff, Nat.reduceBEq, Nat.reduceAdd, Nat.reduceLT, Nat.reduceBNe, Nat.reduceMul, ↓reduceIte, tis, h3, hab, t1, t0]
            refine .inr (run_late 13 [[2, 3], []] (by kernel_rfl) ?_)
            simp -implicitDefEqProofs (maxSteps := 100000) (disch := first | (intros; contradiction) | omega) only [am0, am1, am2, am3, am4, am5, am6, am7, am8, am9, Nat.reduceSub, ↓reduceIte, reduceCtorEq, Nat.reduceEqDiff, Nat.reduceBEq, Nat.reduceAdd, Nat.reduceLT, Nat.reduceBNe, Nat.reduceMul, ↓reduceIte, tis, h3, hab, t1, t0, rx]
          · have ht : (turnR r).kids.map (eRex false) = r.kids.map (fun x => eRex false (turnR x)) := by
              rw [turnR_eq, if_neg h3]; simp [Rex.kids]
            rw [ht]
            simp -implicitDefEqProofs (maxSteps := 100000) (disch := first | (intros; contradiction) | omega) only [am0, am1, am2, am3, am4, am5, am6, am7, am8, am9, Nat.reduceSub, ↓reduceIte, reduceCtorEq, Nat.reduceEqDiff, Nat.reduceBEq, Nat.reduceAdd, Nat.reduceLT, Nat.reduceBNe, Nat.reduceMul, ↓reduceIte, tis, h3]
    have := fits_shared key
    rw [eRex_eq false (turnR r)]
    simp only [erase, eraseL, fls, rx] at this
    rw [turnR_eq] at this ⊢
    exact this
/-- spec.l13Rex -/
theorem fits_l13Rex (r : Rex) (d : Nat) (hf : fm d r = true) (hb : bd r ≤ 1048576) : Fits prog 83 [eRex false r] (eRex true (turnR r)) [] := by
  induction d generalizing r with
  | zero => simp [fm] at hf
  | succ d ih =>
    have hb' := bd_eq r
    have h4 := (fm_ok hf).2.2.2
    have hlen : (turnR r).kids.length = r.kids.length := by rw [turnR_eq]; show (if r.kind = 3 then (r.kids.map turnR).reverse else r.kids.map turnR).length = _; split <;> simp
    have hset : (turnR r).set = r.set := by rw [turnR_eq]; rfl
    have hkind : (turnR r).kind = r.kind := by rw [turnR_eq]; rfl
    have step : ∀ i (hi : i < r.kids.length), ∃ k : Nat, ∃ hk : k < r.kids.length, (turnR r).kids[i]? = some (turnR r.kids[k]) ∧ (k : Int) = if r.kind = 3 then 1 - (i : Int) else i := by
      intro i hi
      by_cases h3 : r.kind = 3
      · have h2 := fm_cat hf h3
        refine ⟨1 - i, by omega, ?_, by rw [if_pos h3]; omega⟩
        rw [turnR_eq, if_pos h3]
        show (r.kids.map turnR).reverse[i]? = _
        rw [List.getElem?_reverse (by simpa using hi)]
        have e : (r.kids.map turnR).length - 1 - i = 1 - i := by simp [h2]
        rw [e, List.getElem?_map, List.getElem?_eq_getElem (by omega : 1 - i < r.kids.length)]; rfl
      · refine ⟨i, hi, ?_, by rw [if_neg h3]⟩
        rw [turnR_eq, if_neg h3]
        show (r.kids.map turnR)[i]? = _
        rw [List.getElem?_map, List.getElem?_eq_getElem hi]; rfl
    rw [eRex_eq, eRex_eq, hset, hkind]
    refine fits_of_cell 2 26 [] [0, 1, 2, 3, 4, 5, 17, 23] func83 rfl rfl rfl (by show 2 < 38; decide) (by show 1 ≤ 38; decide) (by rfl) (by rfl) (by show 0 ≤ 1; decide) (by rfl) (run_of ?_)
    simp -implicitDefEqProofs (maxSteps := 100000) (disch := first | (intros; contradiction) | omega) only [am0, am1, am2, am3, am4, am5, am6, am7, am8, am9, Nat.reduceSub, ↓reduceIte, reduceCtorEq, Nat.reduceEqDiff, Nat.reduceBEq, Nat.reduceAdd, Nat.reduceLT, Nat.reduceBNe, Nat.reduceMul, ↓reduceIte, tis]
    refine .inl ⟨by kernel_rfl, ?_⟩
    refine run_loop (α := Nat) (fun i => i ≤ r.kids.length) (fun i => [(1, .box (.agg [.int .i64 r.kind, .sl false 2 (r.set.map eSpan), .sl false 3 (r.kids.map (eRex false))])), (2, .box (.agg [.int .i64 0, .sl true 0 [], .sl true 0 []])), (3, .box (.agg [.int .i64 r.kind, .sl true 2 (r.set.map eSpan), .sl true 3 (((turnR r).kids.take i).map (eRex true))])), (4, .int .i64 i)]) (fun i => r.kids.length - i) 0 (Nat.zero_le _) ?_ ?_
    · simp -implicitDefEqProofs (maxSteps := 100000) (disch := first | (intros; contradiction) | omega) only [am0, am1, am2, am3, am4, am5, am6, am7, am8, am9, Nat.reduceSub, ↓reduceIte, reduceCtorEq, Nat.reduceEqDiff, Nat.reduceBEq, Nat.reduceAdd, Nat.reduceLT, Nat.reduceBNe, Nat.reduceMul, ↓reduceIte, tis]
    · intro i hi'
      by_cases hi : i < r.kids.length
      · obtain ⟨k, hk, hg, hkk⟩ := step i hi
        have hm := List.getElem_mem hk
        have cF := ih r.kids[k] (h4 _ hm) (Nat.le_trans (bd_kid hm) hb)
        rw [eRex_eq false r.kids[k], eRex_eq true (turnR r.kids[k])] at cF
        have hlt : ((turnR r).kids.take i).length = i := by simp; omega
        have hnext : (turnR r).kids.take (i + 1) = (turnR r).kids.take i ++ [turnR r.kids[k]] := by
          rw [List.take_add_one, hg]; rfl
        by_cases h3 : r.kind = 3
        · rw [if_pos h3] at hkk
          have e1 : (1 : Int) - i = k := hkk.symm
          simp -implicitDefEqProofs (maxSteps := 100000) (disch := first | (intros; contradiction) | omega) only [am0, am1, am2, am3, am4, am5, am6, am7, am8, am9, Nat.reduceSub, ↓reduceIte, reduceCtorEq, Nat.reduceEqDiff, Nat.reduceBEq, Nat.reduceAdd, Nat.reduceLT, Nat.reduceBNe, Nat.reduceMul, ↓reduceIte, tis, rx, fls, e1, eRex_eq false r.kids[k]]
          refine .inl ⟨by kernel_rfl, ?_⟩
          refine callL cF ?_
          simp -implicitDefEqProofs (maxSteps := 100000) (disch := first | (intros; contradiction) | omega) only [am0, am1, am2, am3, am4, am5, am6, am7, am8, am9, Nat.reduceSub, ↓reduceIte, reduceCtorEq, Nat.reduceEqDiff, Nat.reduceBEq, Nat.reduceAdd, Nat.reduceLT, Nat.reduceBNe, Nat.reduceMul, ↓reduceIte, tis, rx, fls, hlt]
          refine round_normal (i + 1) (by omega) ?_ (by show r.kids.length - (i + 1) < r.kids.length - i; omega)
          rw [hnext, List.map_append, List.map_cons, List.map_nil, eRex_eq true (turnR r.kids[k])]
          simp -implicitDefEqProofs (maxSteps := 100000) (disch := first | (intros; contradiction) | omega) only [am0, am1, am2, am3, am4, am5, am6, am7, am8, am9, Nat.reduceSub, ↓reduceIte, reduceCtorEq, Nat.reduceEqDiff, Nat.reduceBEq, Nat.reduceAdd, Nat.reduceLT, Nat.reduceBNe, Nat.reduceMul, ↓reduceIte, tis]
        · rw [if_neg h3] at hkk
          obtain rfl : k = i := by omega
          simp -implicitDefEqProofs (maxSteps := 100000) (disch := first | (intros; contradiction) | omega) only [am0, am1, am2, am3, am4, am5, am6, am7, am8, am9, Nat.reduceSub, ↓reduceIte, reduceCtorEq, Nat.reduceEqDiff, Nat.reduceBEq, Nat.reduceAdd, Nat.reduceLT, Nat.reduceBNe, Nat.reduceMul, ↓reduceIte, tis, rx, fls, eRex_eq false r.kids[k]]
          refine .inl ⟨by kernel_rfl, ?_⟩
          refine callL cF ?_
          simp -implicitDefEqProofs (maxSteps := 100000) (disch := first | (intros; contradiction) | omega) only [am0, am1, am2, am3, am4, am5, am6, am7, am8, am9, Nat.reduceSub, ↓reduceIte, reduceCtorEq, Nat.reduceEqDiff, Nat.reduceBEq, Nat.reduceAdd, Nat.reduceLT, Nat.reduceBNe, Nat.reduceMul, ↓reduceIte, tis, rx, fls, hlt]
          refine round_normal (k + 1) (by omega) ?_ (by show r.kids.length - (k + 1) < r.kids.length - k; omega)
          rw [hnext, List.map_append, List.map_cons, List.map_nil, eRex_eq true (turnR r.kids[k])]
          simp -implicitDefEqProofs (maxSteps := 100000) (disch := first | (intros; contradiction) | omega) only [am0, am1, am2, am3, am4, am5, am6, am7, am8, am9, Nat.reduceSub, ↓reduceIte, reduceCtorEq, Nat.reduceEqDiff, Nat.reduceBEq, Nat.reduceAdd, Nat.reduceLT, Nat.reduceBNe, Nat.reduceMul, ↓reduceIte, tis]
      · obtain rfl : i = r.kids.length := by omega
        have e : (turnR r).kids.take r.kids.length = (turnR r).kids := List.take_of_length_le (by omega)
        simp -implicitDefEqProofs (maxSteps := 100000) (disch := first | (intros; contradiction) | omega) only [am0, am1, am2, am3, am4, am5, am6, am7, am8, am9, Nat.reduceSub, ↓reduceIte, reduceCtorEq, Nat.reduceEqDiff, Nat.reduceBEq, Nat.reduceAdd, Nat.reduceLT, Nat.reduceBNe, Nat.reduceMul, ↓reduceIte, tis, e]
def zRex : Rex := .mk 0 [] []
def turnP (r : Rex) : Rex := if rexB r then turnR r else zRex
theorem rexB_fm {r : Rex} (h : rexB r = true) : fm 8 r = true := by simp only [rexB, Bool.and_eq_true] at h; exact h.1
/-- impl.TurnRex -/
theorem fits_turnRex (r : Rex) (hb : bd r ≤ 1048576) : Fits prog 18 [eRex false r] (eRex true (turnP r)) [] := by
  have cO := fits_rexOk r hb
  cases h : rexB r with
  | false =>
    have e : turnP r = zRex := by simp [turnP, h]
    rw [h] at cO
    rw [e, eRex_eq, eRex_eq] at *
    refine fits_of_cell 2 26 [] [0, 1, 2, 5] func18 rfl rfl rfl (by show 2 < 10; decide) (by show 1 ≤ 10; decide) (by rfl) (by rfl) (by show 0 ≤ 1; decide) (by rfl) (run_of ?_)
    simp -implicitDefEqProofs (maxSteps := 100000) (disch := first | (intros; contradiction) | omega) only [am0, am1, am2, am3, am4, am5, am6, am7, am8, am9, Nat.reduceSub, ↓reduceIte, reduceCtorEq, Nat.reduceEqDiff, Nat.reduceBEq, Nat.reduceAdd, Nat.reduceLT, Nat.reduceBNe, Nat.reduceMul, ↓reduceIte, tis, fls, rx]
    refine callB cO ?_
    simp -implicitDefEqProofs (maxSteps := 100000) (disch := first | (intros; contradiction) | omega) only [am0, am1, am2, am3, am4, am5, am6, am7, am8, am9, Nat.reduceSub, ↓reduceIte, reduceCtorEq, Nat.reduceEqDiff, Nat.reduceBEq, Nat.reduceAdd, Nat.reduceLT, Nat.reduceBNe, Nat.reduceMul, ↓reduceIte, tis, zRex, Rex.kind, Rex.set, Rex.kids, List.map_nil]
  | true =>
    have e : turnP r = turnR r := by simp [turnP, h]
    have cT := fits_turned r 8 (rexB_fm h) hb
    have cC := fits_rexCopy (turnR r) (by rw [bd_turn]; exact hb)
    rw [h] at cO
    rw [e]
    rw [eRex_eq false r] at *
    rw [eRex_eq] at cT
    rw [eRex_eq, eRex_eq] at cC
    rw [eRex_eq]
    refine fits_of_cell 2 26 [] [0, 1, 2, 5] func18 rfl rfl rfl (by show 2 < 10; decide) (by show 1 ≤ 10; decide) (by rfl) (by rfl) (by show 0 ≤ 1; decide) (by rfl) (run_of ?_)
    simp -implicitDefEqProofs (maxSteps := 100000) (disch := first | (intros; contradiction) | omega) only [am0, am1, am2, am3, am4, am5, am6, am7, am8, am9, Nat.reduceSub, ↓reduceIte, reduceCtorEq, Nat.reduceEqDiff, Nat.reduceBEq, Nat.reduceAdd, Nat.reduceLT, Nat.reduceBNe, Nat.reduceMul, ↓reduceIte, tis, fls, rx]
    refine callB cO ?_
    simp -implicitDefEqProofs (maxSteps := 100000) (disch := first | (intros; contradiction) | omega) only [am0, am1, am2, am3, am4, am5, am6, am7, am8, am9, Nat.reduceSub, ↓reduceIte, reduceCtorEq, Nat.reduceEqDiff, Nat.reduceBEq, Nat.reduceAdd, Nat.reduceLT, Nat.reduceBNe, Nat.reduceMul, ↓reduceIte, tis, fls, rx]
    refine callB cT ?_
    simp -implicitDefEqProofs (maxSteps := 100000) (disch := first | (intros; contradiction) | omega) only [am0, am1, am2, am3, am4, am5, am6, am7, am8, am9, Nat.reduceSub, ↓reduceIte, reduceCtorEq, Nat.reduceEqDiff, Nat.reduceBEq, Nat.reduceAdd, Nat.reduceLT, Nat.reduceBNe, Nat.reduceMul, ↓reduceIte, tis, fls, rx]
    refine callB cC ?_
    simp -implicitDefEqProofs (maxSteps := 100000) (disch := first | (intros; contradiction) | omega) only [am0, am1, am2, am3, am4, am5, am6, am7, am8, am9, Nat.reduceSub, ↓reduceIte, reduceCtorEq, Nat.reduceEqDiff, Nat.reduceBEq, Nat.reduceAdd, Nat.reduceLT, Nat.reduceBNe, Nat.reduceMul, ↓reduceIte, tis, fls, rx]
/-- spec.TurnRex -/
theorem fits_sTurnRex (r : Rex) (hb : bd r ≤ 1048576) : Fits prog 22 [eRex false r] (eRex true (turnP r)) [] := by
  have cO := fits_sRexOk r hb
  cases h : rexB r with
  | false =>
    have e : turnP r = zRex := by simp [turnP, h]
    rw [h] at cO
    rw [e, eRex_eq, eRex_eq] at *
    refine fits_of_cell 2 26 [] [0, 1, 2, 5] func22 rfl rfl rfl (by show 2 < 9; decide) (by show 1 ≤ 9; decide) (by rfl) (by rfl) (by show 0 ≤ 1; decide) (by rfl) (run_of ?_)
    simp -implicitDefEqProofs (maxSteps := 100000) (disch := first | (intros; contradiction) | omega) only [am0, am1, am2, am3, am4, am5, am6, am7, am8, am9, Nat.reduceSub, ↓reduceIte, reduceCtorEq, Nat.reduceEqDiff, Nat.reduceBEq, Nat.reduceAdd, Nat.reduceLT, Nat.reduceBNe, Nat.reduceMul, ↓reduceIte, tis, fls, rx]
    refine callB cO ?_
    simp -implicitDefEqProofs (maxSteps := 100000) (disch := first | (intros; contradiction) | omega) only [am0, am1, am2, am3, am4, am5, am6, am7, am8, am9, Nat.reduceSub, ↓reduceIte, reduceCtorEq, Nat.reduceEqDiff, Nat.reduceBEq, Nat.reduceAdd, Nat.reduceLT, Nat.reduceBNe, Nat.reduceMul, ↓reduceIte, tis, zRex, Rex.kind, Rex.set, Rex.kids, List.map_nil]
  | true =>
    have e : turnP r = turnR r := by simp [turnP, h]
    have cT := fits_l13Rex r 8 (rexB_fm h) hb
    rw [h] at cO
    rw [e]
    rw [eRex_eq false r] at *
    rw [eRex_eq] at cT
    rw [eRex_eq]
    refine fits_of_cell 2 26 [] [0, 1, 2, 5] func22 rfl rfl rfl (by show 2 < 9; decide) (by show 1 ≤ 9; decide) (by rfl) (by rfl) (by show 0 ≤ 1; decide) (by rfl) (run_of ?_)
    simp -implicitDefEqProofs (maxSteps := 100000) (disch := first | (intros; contradiction) | omega) only [am0, am1, am2, am3, am4, am5, am6, am7, am8, am9, Nat.reduceSub, ↓reduceIte, reduceCtorEq, Nat.reduceEqDiff, Nat.reduceBEq, Nat.reduceAdd, Nat.reduceLT, Nat.reduceBNe, Nat.reduceMul, ↓reduceIte, tis, fls, rx]
    refine callB cO ?_
    simp -implicitDefEqProofs (maxSteps := 100000) (disch := first | (intros; contradiction) | omega) only [am0, am1, am2, am3, am4, am5, am6, am7, am8, am9, Nat.reduceSub, ↓reduceIte, reduceCtorEq, Nat.reduceEqDiff, Nat.reduceBEq, Nat.reduceAdd, Nat.reduceLT, Nat.reduceBNe, Nat.reduceMul, ↓reduceIte, tis, fls, rx]
    refine callB cT ?_
    simp -implicitDefEqProofs (maxSteps := 100000) (disch := first | (intros; contradiction) | omega) only [am0, am1, am2, am3, am4, am5, am6, am7, am8, am9, Nat.reduceSub, ↓reduceIte, reduceCtorEq, Nat.reduceEqDiff, Nat.reduceBEq, Nat.reduceAdd, Nat.reduceLT, Nat.reduceBNe, Nat.reduceMul, ↓reduceIte, tis, fls, rx]
/-- Two bytes in each other's place. -/
def swapR (a b : Nat) : Rex → Rex
  | .mk k s ks => .mk k (if k = 1 then spansL (swapB (bitsL s) a b) else []) (ks.map (swapR a b))
theorem swapR_eq (a b : Nat) (r : Rex) : swapR a b r = .mk r.kind (if r.kind = 1 then spansL (swapB (bitsL r.set) a b) else []) (r.kids.map (swapR a b)) := by cases r; rw [swapR]; rfl
theorem bd_swap (a b : Nat) (r : Rex) : bd (swapR a b r) + 1 ≤ 257 * ps r := by
  induction r using Rex.ind' with
  | h r ih =>
    rw [swapR_eq, bd_eq, ps_eq r]
    show (if r.kind = 1 then spansL (swapB (bitsL r.set) a b) else []).length + ((r.kids.map (swapR a b)).length + ((r.kids.map (swapR a b)).map bd).sum) + 1 ≤ _
    have h1 : (if r.kind = 1 then spansL (swapB (bitsL r.set) a b) else []).length ≤ 256 := by
      split
      · exact spN_len _ 256
      · simp
    have h2 : (r.kids.map (swapR a b)).length + ((r.kids.map (swapR a b)).map bd).sum ≤ 257 * (r.kids.map ps).sum := by
      generalize r.kids = l at ih
      induction l with
      | nil => simp
      | cons x l ihl =>
        have h1 := ih x (List.mem_cons_self ..)
        have h2 := ihl (fun y hy => ih y (List.mem_cons_of_mem _ hy))
        simp only [List.map_cons, List.sum_cons, List.length_cons]
        omega
    omega
def swap1 (r : Rex) (a b : Nat) : List Span := if r.kind = 1 then spansL (swapB (bitsL r.set) a b) else []
/-- impl.swapped -/
theorem fits_swapped (r : Rex) (d : Nat) (hf : fm d r = true) (hb : bd r ≤ 1048576) (a b : Nat) (ha : a < 256) (hbb : b < 256) : Fits prog 98 [eRex false r, .int .i64 a, .int .i64 b] (eRex true (swapR a b r)) [] := by
  induction d generalizing r with
  | zero => simp [fm] at hf
  | succ d ih =>
    have hb' := bd_eq r
    have h4 := (fm_ok hf).2.2.2
    have cB := fits_bitsOf r.set (by omega)
    have hl := bitsL_len r.set
    have cS := fits_spans (swapB (bitsL r.set) a b) (by rw [swapB_len]; exact hl)
    have g5 : ((bitsL r.set).map eBool).length = 256 := by simp [hl]
    have ga := getBool (bitsL r.set) a (by omega)
    have gb := getBool (bitsL r.set) b (by omega)
    have gc := getBool ((bitsL r.set).set a ((bitsL r.set).getD b false)) b (by simp [hl]; omega)
    have hSl : (swap1 r a b).length ≤ 256 := by
      unfold swap1; split
      · exact spN_len _ 256
      · simp
    have hS : (r.kind = 1 → swap1 r a b = spansL (swapB (bitsL r.set) a b)) ∧ (r.kind ≠ 1 → swap1 r a b = []) := ⟨fun h => by simp [swap1, h], fun h => by simp [swap1, h]⟩
    rw [eRex_eq, swapR_eq, eRex]
    rw [show (if r.kind = 1 then spansL (swapB (bitsL r.set) a b) else []) = swap1 r a b from rfl]
    generalize swap1 r a b = S1 at *
    refine fits_of_cell 6 26 [] [0, 1, 2, 3, 6, 7, 8, 10, 16, 34, 35, 36, 37] func98 rfl rfl rfl (by show 6 < 51; decide) (by show 3 ≤ 51; decide) (by rfl) (by rfl) (by show 0 ≤ 3; decide) (by rfl) (run_of ?_)
    by_cases h1 : r.kind = 1
    · have hS := hS.1 h1
      rw [← hS] at cS
      unfold swapB at cS
      simp -implicitDefEqProofs (maxSteps := 100000) (disch := first | (intros; contradiction) | omega) only [am0, am1, am2, am3, am4, am5, am6, am7, am8, am9, Nat.reduceSub, ↓reduceIte, reduceCtorEq, Nat.reduceEqDiff, Nat.reduceBEq, Nat.reduceAdd, Nat.reduceLT, Nat.reduceBNe, Nat.reduceMul, ↓reduceIte, tis, h1]
      refine callB cB ?_
      simp -implicitDefEqProofs (maxSteps := 100000) (disch := first | (intros; contradiction) | omega) only [am0, am1, am2, am3, am4, am5, am6, am7, am8, am9, Nat.reduceSub, ↓reduceIte, reduceCtorEq, Nat.reduceEqDiff, Nat.reduceBEq, Nat.reduceAdd, Nat.reduceLT, Nat.reduceBNe, Nat.reduceMul, ↓reduceIte, tis, h1, fls, hl]
      refine .inr (run_late 9 [[1], []] (by kernel_rfl) ?_)
      simp -implicitDefEqProofs (maxSteps := 100000) (disch := first | (intros; contradiction) | omega) only [am0, am1, am2, am3, am4, am5, am6, am7, am8, am9, Nat.reduceSub, ↓reduceIte, reduceCtorEq, Nat.reduceEqDiff, Nat.reduceBEq, Nat.reduceAdd, Nat.reduceLT, Nat.reduceBNe, Nat.reduceMul, ↓reduceIte, tis, h1, fls, g5, ga, gb, setBool, gc, List.length_map, List.length_set, hl]
      refine callB cS ?_
      simp -implicitDefEqProofs (maxSteps := 100000) (disch := first | (intros; contradiction) | omega) only [am0, am1, am2, am3, am4, am5, am6, am7, am8, am9, Nat.reduceSub, ↓reduceIte, reduceCtorEq, Nat.reduceEqDiff, Nat.reduceBEq, Nat.reduceAdd, Nat.reduceLT, Nat.reduceBNe, Nat.reduceMul, ↓reduceIte, tis, h1, fls]
      refine run_loop (α := Nat) (fun i => i ≤ r.kids.length) (fun i => [(1, .int .i64 a), (2, .int .i64 b), (6, .box (.agg [.int .i64 0, .sl true 0 [], .sl true 0 []])), (7, .box (.agg [.int .i64 r.kind, .sl true 2 (S1.map eSpan), .sl true 3 ((r.kids.take i).map (fun x => eRex true (swapR a b x)))])), (34, .sl false 3 (r.kids.map (eRex false))), (35, .int .i64 r.kids.length), (36, .int .i64 i)]) (fun i => r.kids.length - i) 0 (Nat.zero_le _) ?_ ?_
      · simp -implicitDefEqProofs (maxSteps := 100000) (disch := first | (intros; contradiction) | omega) only [am0, am1, am2, am3, am4, am5, am6, am7, am8, am9, Nat.reduceSub, ↓reduceIte, reduceCtorEq, Nat.reduceEqDiff, Nat.reduceBEq, Nat.reduceAdd, Nat.reduceLT, Nat.reduceBNe, Nat.reduceMul, ↓reduceIte, tis, h1, List.map_nil]
      · intro i hi'
        by_cases hi : i < r.kids.length
        · have hm := List.getElem_mem hi
          have cF := ih r.kids[i] (h4 _ hm) (Nat.le_trans (bd_kid hm) hb)
          rw [eRex_eq false r.kids[i], eRex_eq true (swapR a b r.kids[i])] at cF
          simp -implicitDefEqProofs (maxSteps := 100000) (disch := first | (intros; contradiction) | omega) only [am0, am1, am2, am3, am4, am5, am6, am7, am8, am9, Nat.reduceSub, ↓reduceIte, reduceCtorEq, Nat.reduceEqDiff, Nat.reduceBEq, Nat.reduceAdd, Nat.reduceLT, Nat.reduceBNe, Nat.reduceMul, ↓reduceIte, tis, rx, fls, eRex_eq false r.kids[i]]
          refine .inl ⟨by kernel_rfl, ?_⟩
          refine callL cF ?_
          have hlt : (r.kids.take i).length = i := by simp; omega
          simp -implicitDefEqProofs (maxSteps := 100000) (disch := first | (intros; contradiction) | omega) only [am0, am1, am2, am3, am4, am5, am6, am7, am8, am9, Nat.reduceSub, ↓reduceIte, reduceCtorEq, Nat.reduceEqDiff, Nat.reduceBEq, Nat.reduceAdd, Nat.reduceLT, Nat.reduceBNe, Nat.reduceMul, ↓reduceIte, tis, rx, fls, hlt]
          refine round_normal (i + 1) (by omega) ?_ (by show r.kids.length - (i + 1) < r.kids.length - i; omega)
          rw [List.take_succ_eq_append_getElem hi, List.map_append, List.map_cons, List.map_nil, eRex_eq true (swapR a b r.kids[i])]
          simp -implicitDefEqProofs (maxSteps := 100000) (disch := first | (intros; contradiction) | omega) only [am0, am1, am2, am3, am4, am5, am6, am7, am8, am9, Nat.reduceSub, ↓reduceIte, reduceCtorEq, Nat.reduceEqDiff, Nat.reduceBEq, Nat.reduceAdd, Nat.reduceLT, Nat.reduceBNe, Nat.reduceMul, ↓reduceIte, tis]
        · obtain rfl : i = r.kids.length := by omega
          have e : (r.kids.map (swapR a b)).map (eRex true) = r.kids.map (fun x => eRex true (swapR a b x)) := by rw [List.map_map]; rfl
          simp -implicitDefEqProofs (maxSteps := 100000) (disch := first | (intros; contradiction) | omega) only [am0, am1, am2, am3, am4, am5, am6, am7, am8, am9, Nat.reduceSub, ↓reduceIte, reduceCtorEq, Nat.reduceEqDiff, Nat.reduceBEq, Nat.reduceAdd, Nat.reduceLT, Nat.reduceBNe, Nat.reduceMul, ↓reduceIte, tis, h1, e, rx, fls]
    · have hS := hS.2 h1
      simp -implicitDefEqProofs (maxSteps := 100000) (disch := first | (intros; contradiction) | omega) only [am0, am1, am2, am3, am4, am5, am6, am7, am8, am9, Nat.reduceSub, ↓reduceIte, reduceCtorEq, Nat.reduceEqDiff, Nat.reduceBEq, Nat.reduceAdd, Nat.reduceLT, Nat.reduceBNe, Nat.reduceMul, ↓reduceIte, tis, h1]
      refine run_loop (α := Nat) (fun i => i ≤ r.kids.length) (fun i => [(1, .int .i64 a), (2, .int .i64 b), (6, .box (.agg [.int .i64 0, .sl true 0 [], .sl true 0 []])), (7, .box (.agg [.int .i64 r.kind, .sl true 2 (S1.map eSpan), .sl true 3 ((r.kids.take i).map (fun x => eRex true (swapR a b x)))])), (34, .sl false 3 (r.kids.map (eRex false))), (35, .int .i64 r.kids.length), (36, .int .i64 i)]) (fun i => r.kids.length - i) 0 (Nat.zero_le _) ?_ ?_
      · simp -implicitDefEqProofs (maxSteps := 100000) (disch := first | (intros; contradiction) | omega) only [am0, am1, am2, am3, am4, am5, am6, am7, am8, am9, Nat.reduceSub, ↓reduceIte, reduceCtorEq, Nat.reduceEqDiff, Nat.reduceBEq, Nat.reduceAdd, Nat.reduceLT, Nat.reduceBNe, Nat.reduceMul, ↓reduceIte, tis, h1, hS, List.map_nil]
      · intro i hi'
        by_cases hi : i < r.kids.length
        · have hm := List.getElem_mem hi
          have cF := ih r.kids[i] (h4 _ hm) (Nat.le_trans (bd_kid hm) hb)
          rw [eRex_eq false r.kids[i], eRex_eq true (swapR a b r.kids[i])] at cF
          simp -implicitDefEqProofs (maxSteps := 100000) (disch := first | (intros; contradiction) | omega) only [am0, am1, am2, am3, am4, am5, am6, am7, am8, am9, Nat.reduceSub, ↓reduceIte, reduceCtorEq, Nat.reduceEqDiff, Nat.reduceBEq, Nat.reduceAdd, Nat.reduceLT, Nat.reduceBNe, Nat.reduceMul, ↓reduceIte, tis, rx, fls, eRex_eq false r.kids[i]]
          refine .inl ⟨by kernel_rfl, ?_⟩
          refine callL cF ?_
          have hlt : (r.kids.take i).length = i := by simp; omega
          simp -implicitDefEqProofs (maxSteps := 100000) (disch := first | (intros; contradiction) | omega) only [am0, am1, am2, am3, am4, am5, am6, am7, am8, am9, Nat.reduceSub, ↓reduceIte, reduceCtorEq, Nat.reduceEqDiff, Nat.reduceBEq, Nat.reduceAdd, Nat.reduceLT, Nat.reduceBNe, Nat.reduceMul, ↓reduceIte, tis, rx, fls, hlt]
          refine round_normal (i + 1) (by omega) ?_ (by show r.kids.length - (i + 1) < r.kids.length - i; omega)
          rw [List.take_succ_eq_append_getElem hi, List.map_append, List.map_cons, List.map_nil, eRex_eq true (swapR a b r.kids[i])]
          simp -implicitDefEqProofs (maxSteps := 100000) (disch := first | (intros; contradiction) | omega) only [am0, am1, am2, am3, am4, am5, am6, am7, am8, am9, Nat.reduceSub, ↓reduceIte, reduceCtorEq, Nat.reduceEqDiff, Nat.reduceBEq, Nat.reduceAdd, Nat.reduceLT, Nat.reduceBNe, Nat.reduceMul, ↓reduceIte, tis]
        · obtain rfl : i = r.kids.length := by omega
          have e : (r.kids.map (swapR a b)).map (eRex true) = r.kids.map (fun x => eRex true (swapR a b x)) := by rw [List.map_map]; rfl
          simp -implicitDefEqProofs (maxSteps := 100000) (disch := first | (intros; contradiction) | omega) only [am0, am1, am2, am3, am4, am5, am6, am7, am8, am9, Nat.reduceSub, ↓reduceIte, reduceCtorEq, Nat.reduceEqDiff, Nat.reduceBEq, Nat.reduceAdd, Nat.reduceLT, Nat.reduceBNe, Nat.reduceMul, ↓reduceIte, tis, h1, e, rx, fls]
/-- spec.l1Min -/
theorem fits_l1Min (a b : Int) : Fits prog 181 [.int .i64 a, .int .i64 b] (.int .i64 (if a < b then a else b)) [] := by
  by_cases h : a < b
  · refine fits_of_code [4] [] [0, 1, 4, 7] func181 rfl rfl rfl (by rfl) (by show 2 ≤ 10; decide) (by rfl) (by rfl) (by show 0 ≤ 2; decide) (by rfl) (run_of ?_)
    simp -implicitDefEqProofs (maxSteps := 100000) (disch := first | (intros; contradiction) | omega) only [am0, am1, am2, am3, am4, am5, am6, am7, am8, am9, Nat.reduceSub, ↓reduceIte, reduceCtorEq, Nat.reduceEqDiff, Nat.reduceBEq, Nat.reduceAdd, Nat.reduceLT, Nat.reduceBNe, Nat.reduceMul, ↓reduceIte, tis, h]
  · refine fits_of_code [4] [] [0, 1, 4, 7] func181 rfl rfl rfl (by rfl) (by show 2 ≤ 10; decide) (by rfl) (by rfl) (by show 0 ≤ 2; decide) (by rfl) (run_of ?_)
    simp -implicitDefEqProofs (maxSteps := 100000) (disch := first | (intros; contradiction) | omega) only [am0, am1, am2, am3, am4, am5, am6, am7, am8, am9, Nat.reduceSub, ↓reduceIte, reduceCtorEq, Nat.reduceEqDiff, Nat.reduceBEq, Nat.reduceAdd, Nat.reduceLT, Nat.reduceBNe, Nat.reduceMul, ↓reduceIte, tis, h]
def lo9 : List Int := [0, 48, 97, 97, 98, 99, 120, 254, 255]
def by7 : List Int := [0, 0, 1, 2, 9, 25, 200]
def fillR (bs : List Bool) (a : Nat) : Nat → List Bool
  | 0 => bs
  | n + 1 => (fillR bs a n).set (a + n) true
theorem fillR_len (bs : List Bool) (a : Nat) : ∀ n, (fillR bs a n).length = bs.length
  | 0 => rfl
  | n + 1 => by simp [fillR, fillR_len bs a n]
def loV (b : List UInt8) (p : Nat) : Int := numV b p lo9
def hiV (b : List UInt8) (p : Nat) : Int := if 255 < loV b p + numV b (p + 1) by7 then 255 else loV b p + numV b (p + 1) by7
theorem loV_b (b : List UInt8) (p : Nat) : 0 ≤ loV b p ∧ loV b p ≤ 255 := by
  have h := numV_mem b p (l := lo9) (by decide)
  unfold loV
  generalize numV b p lo9 = x at *
  simp only [lo9, List.mem_cons, List.not_mem_nil, or_false] at h
  omega
theorem by7_b (b : List UInt8) (p : Nat) : 0 ≤ numV b p by7 ∧ numV b p by7 ≤ 200 := by
  have h := numV_mem b p (l := by7) (by decide)
  generalize numV b p by7 = x at *
  simp only [by7, List.mem_cons, List.not_mem_nil, or_false] at h
  omega
theorem hiV_b (b : List UInt8) (p : Nat) : loV b p ≤ hiV b p ∧ hiV b p ≤ 255 := by
  have h1 := loV_b b p
  have h2 := by7_b b (p + 1)
  unfold hiV
  split <;> omega
def setStep (b : List UInt8) (p : Nat) (bs : List Bool) : List Bool := fillR bs (loV b p).toNat ((hiV b p).toNat + 1 - (loV b p).toNat)
def setIt (b : List UInt8) (p : Nat) : Nat → List Bool
  | 0 => List.replicate 256 false
  | j + 1 => setStep b (p + 2 * j) (setIt b p j)
theorem setIt_len (b : List UInt8) (p : Nat) : ∀ j, (setIt b p j).length = 256
  | 0 => by simp [setIt]
  | j + 1 => by simp [setIt, setStep, fillR_len, setIt_len b p j]
def setV (b : List UInt8) (p : Nat) : List Span := spansL (setIt b (p + 1) (1 + pickV b p 3))
def setQ (b : List UInt8) (p : Nat) : Nat := p + 1 + 2 * (1 + pickV b p 3)
theorem setQ_le (b : List UInt8) (p : Nat) : p ≤ setQ b p ∧ setQ b p ≤ p + 7 := by
  have := pickV_lt b p (n := 3) (by omega)
  unfold setQ
  omega
theorem setV_len (b : List UInt8) (p : Nat) : (setV b p).length ≤ 256 := spN_len _ 256
theorem repFalse (n : Nat) : (List.replicate n false).map eBool = List.replicate n (.bool false) := by simp [eBool]
/-- spec.l1Set -/
theorem fits_l1Set (b : List UInt8) (hb : b.length ≤ 2000) (p : Nat) (hp : p ≤ 1000000) : Fits prog 174 [.box (eRd b p)] (.sl true 2 ((setV b p).map eSpan)) [.box (eRd b (setQ b p))] := by
  have hk := pickV_lt b p (n := 3) (by omega)
  have cP : Fits prog 75 [.box (eRd b p), .int .i64 3] (.int .i64 (pickV b p 3)) [.box (eRd b (p + 1))] := fits_pick b hb p (by omega) 3 (by omega) (by omega)
  unfold setV setQ
  generalize pickV b p 3 = m at *
  have cO := fits_l1Of (setIt b (p + 1) (1 + m)) (setIt_len b (p + 1) (1 + m))
  have cN1 := fun j (hj : j ≤ 3) => fits_num b hb (p + 1 + 2 * j) (by omega) lo9 (by decide) (by decide)
  have cN2 := fun j (hj : j ≤ 3) => fits_num b hb (p + 1 + 2 * j + 1) (by omega) by7 (by decide) (by decide)
  have e0 : (setIt b (p + 1) 0).map eBool = List.replicate (Int.toNat 256) (.bool false) := repFalse 256
  unfold eRd at *
  refine fits_of_code [2] [0] [0, 2, 3, 4, 5, 6, 7, 13, 28] func174 rfl rfl rfl (by rfl) (by show 1 ≤ 36; decide) (by rfl) (by rfl) (by show 1 ≤ 1; decide) (by rfl) (run_of ?_)
  simp -implicitDefEqProofs (maxSteps := 100000) (disch := first | (intros; contradiction) | omega) only [am0, am1, am2, am3, am4, am5, am6, am7, am8, am9, Nat.reduceSub, ↓reduceIte, reduceCtorEq, Nat.reduceEqDiff, Nat.reduceBEq, Nat.reduceAdd, Nat.reduceLT, Nat.reduceBNe, Nat.reduceMul, ↓reduceIte, tis, fls]
  refine callM 0 cP ?_
  simp -implicitDefEqProofs (maxSteps := 100000) (disch := first | (intros; contradiction) | omega) only [am0, am1, am2, am3, am4, am5, am6, am7, am8, am9, Nat.reduceSub, ↓reduceIte, reduceCtorEq, Nat.reduceEqDiff, Nat.reduceBEq, Nat.reduceAdd, Nat.reduceLT, Nat.reduceBNe, Nat.reduceMul, ↓reduceIte, tis, fls, List.dropLast_singleton]
  refine run_loop (α := Nat) (fun j => j ≤ 1 + m) (fun j => [(0, .box (.agg [.sl false 1 (bytesA b), .int .i64 (p + 1 + 2 * j : Nat)])), (3, .sl true 1 ((setIt b (p + 1) j).map eBool)), (4, .int .i64 ((1 + m : Nat) - (j : Int)))]) (fun j => 1 + m - j) 0 (Nat.zero_le _) ?_ ?_
  · simp -implicitDefEqProofs (maxSteps := 100000) (disch := first | (intros; contradiction) | omega) only [am0, am1, am2, am3, am4, am5, am6, am7, am8, am9, Nat.reduceSub, ↓reduceIte, reduceCtorEq, Nat.reduceEqDiff, Nat.reduceBEq, Nat.reduceAdd, Nat.reduceLT, Nat.reduceBNe, Nat.reduceMul, ↓reduceIte, tis, fls, e0]
  · intro j hj'
    by_cases hj : j < 1 + m
    · have hl := setIt_len b (p + 1) j
      have c1 := cN1 j (by omega)
      have c2 := cN2 j (by omega)
      have h1 := loV_b b (p + 1 + 2 * j)
      have h2 := by7_b b (p + 1 + 2 * j + 1)
      have h3 := hiV_b b (p + 1 + 2 * j)
      have e3 : hiV b (p + 1 + 2 * j) = if 255 < loV b (p + 1 + 2 * j) + numV b (p + 1 + 2 * j + 1) by7 then 255 else loV b (p + 1 + 2 * j) + numV b (p + 1 + 2 * j + 1) by7 := rfl
      have eS : setIt b (p + 1) (j + 1) = fillR (setIt b (p + 1) j) (loV b (p + 1 + 2 * j)).toNat ((hiV b (p + 1 + 2 * j)).toNat + 1 - (loV b (p + 1 + 2 * j)).toNat) := rfl
      have cM := fits_l1Min 255 (loV b (p + 1 + 2 * j) + numV b (p + 1 + 2 * j + 1) by7)
      rw [← e3] at cM
      rw [show numV b (p + 1 + 2 * j) lo9 = loV b (p + 1 + 2 * j) from rfl] at c1
      generalize hiV b (p + 1 + 2 * j) = hi at *
      generalize loV b (p + 1 + 2 * j) = lo at *
      generalize numV b (p + 1 + 2 * j + 1) by7 = dl at *
      generalize setIt b (p + 1) j = bs at *
      obtain ⟨lo, rfl⟩ : ∃ n : Nat, lo = n := ⟨lo.toNat, by omega⟩
      obtain ⟨hi, rfl⟩ : ∃ n : Nat, hi = n := ⟨hi.toNat, by omega⟩
      rw [Int.toNat_natCast, Int.toNat_natCast] at eS
      simp -implicitDefEqProofs (maxSteps := 100000) (disch := first | (intros; contradiction) | omega) only [am0, am1, am2, am3, am4, am5, am6, am7, am8, am9, Nat.reduceSub, ↓reduceIte, reduceCtorEq, Nat.reduceEqDiff, Nat.reduceBEq, Nat.reduceAdd, Nat.reduceLT, Nat.reduceBNe, Nat.reduceMul, ↓reduceIte, tis, fls]
      refine callMF [(17, [])] 0 c1 ?_
      simp -implicitDefEqProofs (maxSteps := 100000) (disch := first | (intros; contradiction) | omega) only [am0, am1, am2, am3, am4, am5, am6, am7, am8, am9, Nat.reduceSub, ↓reduceIte, reduceCtorEq, Nat.reduceEqDiff, Nat.reduceBEq, Nat.reduceAdd, Nat.reduceLT, Nat.reduceBNe, Nat.reduceMul, ↓reduceIte, tis, fls, List.dropLast_singleton, lo9, eInt]
      refine callMF [(21, [])] 0 c2 ?_
      simp -implicitDefEqProofs (maxSteps := 100000) (disch := first | (intros; contradiction) | omega) only [am0, am1, am2, am3, am4, am5, am6, am7, am8, am9, Nat.reduceSub, ↓reduceIte, reduceCtorEq, Nat.reduceEqDiff, Nat.reduceBEq, Nat.reduceAdd, Nat.reduceLT, Nat.reduceBNe, Nat.reduceMul, ↓reduceIte, tis, fls, List.dropLast_singleton, by7, eInt]
      refine callB cM ?_
      simp -implicitDefEqProofs (maxSteps := 100000) (disch := first | (intros; contradiction) | omega) only [am0, am1, am2, am3, am4, am5, am6, am7, am8, am9, Nat.reduceSub, ↓reduceIte, reduceCtorEq, Nat.reduceEqDiff, Nat.reduceBEq, Nat.reduceAdd, Nat.reduceLT, Nat.reduceBNe, Nat.reduceMul, ↓reduceIte, tis, fls]
      refine run_loop (α := Nat) (fun i => i ≤ hi + 1 - lo) (fun i => [(0, .box (.agg [.sl false 1 (bytesA b), .int .i64 (p + 1 + 2 * (j + 1) : Nat)])), (3, .sl true 1 ((fillR bs lo i).map eBool)), (4, .int .i64 ((1 + m : Nat) - (j : Int))), (6, .int .i64 hi), (7, .int .i64 ((lo : Int) + i))]) (fun i => hi + 1 - lo - i) 0 (Nat.zero_le _) ?_ ?_
      · simp -implicitDefEqProofs (maxSteps := 100000) (disch := first | (intros; contradiction) | omega) only [am0, am1, am2, am3, am4, am5, am6, am7, am8, am9, Nat.reduceSub, ↓reduceIte, reduceCtorEq, Nat.reduceEqDiff, Nat.reduceBEq, Nat.reduceAdd, Nat.reduceLT, Nat.reduceBNe, Nat.reduceMul, ↓reduceIte, tis, fls, fillR]
        try omega
      · intro i hi'
        have hfl := fillR_len bs lo i
        by_cases hi2 : i < hi + 1 - lo
        · have ei : ((lo : Int) + i).toNat = lo + i := by omega
          have eB : ∀ x, ncells (eBool x) = 1 := fun _ => rfl
          have eB2 := setBool (fillR bs lo i) (lo + i) true
          simp -implicitDefEqProofs (maxSteps := 100000) (disch := first | (intros; contradiction) | omega) only [am0, am1, am2, am3, am4, am5, am6, am7, am8, am9, Nat.reduceSub, ↓reduceIte, reduceCtorEq, Nat.reduceEqDiff, Nat.reduceBEq, Nat.reduceAdd, Nat.reduceLT, Nat.reduceBNe, Nat.reduceMul, ↓reduceIte, tis, fls, ei, hl, hfl, eB, eB2]
          refine round_normal (i + 1) (by omega) ?_ (by show hi + 1 - lo - (i + 1) < hi + 1 - lo - i; omega)
          simp -implicitDefEqProofs (maxSteps := 100000) (disch := first | (intros; contradiction) | omega) only [am0, am1, am2, am3, am4, am5, am6, am7, am8, am9, Nat.reduceSub, ↓reduceIte, reduceCtorEq, Nat.reduceEqDiff, Nat.reduceBEq, Nat.reduceAdd, Nat.reduceLT, Nat.reduceBNe, Nat.reduceMul, ↓reduceIte, tis, fillR]
          omega
        · obtain rfl : i = hi + 1 - lo := by omega
          simp -implicitDefEqProofs (maxSteps := 100000) (disch := first | (intros; contradiction) | omega) only [am0, am1, am2, am3, am4, am5, am6, am7, am8, am9, Nat.reduceSub, ↓reduceIte, reduceCtorEq, Nat.reduceEqDiff, Nat.reduceBEq, Nat.reduceAdd, Nat.reduceLT, Nat.reduceBNe, Nat.reduceMul, ↓reduceIte, tis, fls]
          refine round_normal (j + 1) (by omega) ?_ (by show 1 + m - (j + 1) < 1 + m - j; omega)
          simp -implicitDefEqProofs (maxSteps := 100000) (disch := first | (intros; contradiction) | omega) only [am0, am1, am2, am3, am4, am5, am6, am7, am8, am9, Nat.reduceSub, ↓reduceIte, reduceCtorEq, Nat.reduceEqDiff, Nat.reduceBEq, Nat.reduceAdd, Nat.reduceLT, Nat.reduceBNe, Nat.reduceMul, ↓reduceIte, tis, eS]
          try omega
    · obtain rfl : j = 1 + m := by omega
      simp -implicitDefEqProofs (maxSteps := 100000) (disch := first | (intros; contradiction) | omega) only [am0, am1, am2, am3, am4, am5, am6, am7, am8, am9, Nat.reduceSub, ↓reduceIte, reduceCtorEq, Nat.reduceEqDiff, Nat.reduceBEq, Nat.reduceAdd, Nat.reduceLT, Nat.reduceBNe, Nat.reduceMul, ↓reduceIte, tis, fls]
      refine callB cO ?_
      simp -implicitDefEqProofs (maxSteps := 100000) (disch := first | (intros; contradiction) | omega) only [am0, am1, am2, am3, am4, am5, am6, am7, am8, am9, Nat.reduceSub, ↓reduceIte, reduceCtorEq, Nat.reduceEqDiff, Nat.reduceBEq, Nat.reduceAdd, Nat.reduceLT, Nat.reduceBNe, Nat.reduceMul, ↓reduceIte, tis, fls]
/-- spec.l2Copy -/
theorem fits_l2Copy (r : Rex) (hb : bd r ≤ 1048576) : Fits prog 136 [eRex false r] (eRex true r) [] := by
  induction r using Rex.ind' with
  | h r ih =>
    have hb' := bd_eq r
    rw [eRex_eq, eRex_eq]
    refine fits_of_cell 2 26 [] [0, 1, 2, 3, 4, 16] func136 rfl rfl rfl (by show 2 < 31; decide) (by show 1 ≤ 31; decide) (by rfl) (by rfl) (by show 0 ≤ 1; decide) (by rfl) (run_of ?_)
    simp -implicitDefEqProofs (maxSteps := 100000) (disch := first | (intros; contradiction) | omega) only [am0, am1, am2, am3, am4, am5, am6, am7, am8, am9, Nat.reduceSub, ↓reduceIte, reduceCtorEq, Nat.reduceEqDiff, Nat.reduceBEq, Nat.reduceAdd, Nat.reduceLT, Nat.reduceBNe, Nat.reduceMul, ↓reduceIte, tis]
    refine .inl ⟨by kernel_rfl, ?_⟩
    refine run_loop (α := Nat) (fun i => i ≤ r.kids.length) (fun i => [(1, .box (.agg [.int .i64 r.kind, .sl false 2 (r.set.map eSpan), .sl false 3 (r.kids.map (eRex false))])), (2, .box (.agg [.int .i64 0, .sl true 0 [], .sl true 0 []])), (3, .box (.agg [.int .i64 r.kind, .sl true 2 (r.set.map eSpan), .sl true 3 ((r.kids.take i).map (eRex true))])), (4, .int .i64 i)]) (fun i => r.kids.length - i) 0 (Nat.zero_le _) ?_ ?_
    · simp -implicitDefEqProofs (maxSteps := 100000) (disch := first | (intros; contradiction) | omega) only [am0, am1, am2, am3, am4, am5, am6, am7, am8, am9, Nat.reduceSub, ↓reduceIte, reduceCtorEq, Nat.reduceEqDiff, Nat.reduceBEq, Nat.reduceAdd, Nat.reduceLT, Nat.reduceBNe, Nat.reduceMul, ↓reduceIte, tis, List.map_nil]
    · intro i hi'
      by_cases hi : i < r.kids.length
      · have hm := List.getElem_mem hi
        have cF := ih r.kids[i] hm (Nat.le_trans (bd_kid hm) hb)
        rw [eRex_eq false r.kids[i], eRex_eq true r.kids[i]] at cF
        simp -implicitDefEqProofs (maxSteps := 100000) (disch := first | (intros; contradiction) | omega) only [am0, am1, am2, am3, am4, am5, am6, am7, am8, am9, Nat.reduceSub, ↓reduceIte, reduceCtorEq, Nat.reduceEqDiff, Nat.reduceBEq, Nat.reduceAdd, Nat.reduceLT, Nat.reduceBNe, Nat.reduceMul, ↓reduceIte, tis, rx, fls, eRex_eq false r.kids[i]]
        refine .inl ⟨by kernel_rfl, ?_⟩
        refine callL cF ?_
        have hlt : (r.kids.take i).length = i := by simp; omega
        simp -implicitDefEqProofs (maxSteps := 100000) (disch := first | (intros; contradiction) | omega) only [am0, am1, am2, am3, am4, am5, am6, am7, am8, am9, Nat.reduceSub, ↓reduceIte, reduceCtorEq, Nat.reduceEqDiff, Nat.reduceBEq, Nat.reduceAdd, Nat.reduceLT, Nat.reduceBNe, Nat.reduceMul, ↓reduceIte, tis, rx, fls, hlt]
        refine round_normal (i + 1) (by omega) ?_ (by show r.kids.length - (i + 1) < r.kids.length - i; omega)
        rw [List.take_succ_eq_append_getElem hi, List.map_append, List.map_cons, List.map_nil, eRex_eq true r.kids[i]]
        simp -implicitDefEqProofs (maxSteps := 100000) (disch := first | (intros; contradiction) | omega) only [am0, am1, am2, am3, am4, am5, am6, am7, am8, am9, Nat.reduceSub, ↓reduceIte, reduceCtorEq, Nat.reduceEqDiff, Nat.reduceBEq, Nat.reduceAdd, Nat.reduceLT, Nat.reduceBNe, Nat.reduceMul, ↓reduceIte, tis]
      · obtain rfl : i = r.kids.length := by omega
        simp -implicitDefEqProofs (maxSteps := 100000) (disch := first | (intros; contradiction) | omega) only [am0, am1, am2, am3, am4, am5, am6, am7, am8, am9, Nat.reduceSub, ↓reduceIte, reduceCtorEq, Nat.reduceEqDiff, Nat.reduceBEq, Nat.reduceAdd, Nat.reduceLT, Nat.reduceBNe, Nat.reduceMul, ↓reduceIte, tis, rx, fls]
def byteR (c : Int) : Rex := .mk 1 [⟨c, c⟩] []
/-- spec.l2Byte -/
theorem fits_l2Byte (c : Int) : Fits prog 175 [.int .i64 c] (eRex true (byteR c)) [] := by
  unfold byteR
  rw [eRex_eq]
  refine fits_of_cell 2 26 [] [0, 2] func175 rfl rfl rfl (by show 2 < 8; decide) (by show 1 ≤ 8; decide) (by rfl) (by rfl) (by show 0 ≤ 1; decide) (by rfl) (run_of ?_)
  simp -implicitDefEqProofs (maxSteps := 100000) (disch := first | (intros; contradiction) | omega) only [am0, am1, am2, am3, am4, am5, am6, am7, am8, am9, Nat.reduceSub, ↓reduceIte, reduceCtorEq, Nat.reduceEqDiff, Nat.reduceBEq, Nat.reduceAdd, Nat.reduceLT, Nat.reduceBNe, Nat.reduceMul, ↓reduceIte, tis, fls, Rex.kind, Rex.set, Rex.kids, List.map_nil, List.map_cons, eSpan]
def leafV (b : List UInt8) (p : Nat) : Rex × Nat :=
  if pickV b p 9 = 0 then (.mk 2 [] [], p + 1)
  else if pickV b p 9 = 1 then (.mk 1 [⟨97, 98⟩] [], p + 1)
  else if pickV b p 9 = 2 then (.mk 1 (setV b (p + 1)) [], setQ b (p + 1))
  else if pickV b p 9 = 3 then (if pickV b (p + 1) 3 = 0 then (.mk 1 [] [], p + 1 + 1) else (byteR (97 + pickV b (p + 1 + 1) 3), p + 1 + 1 + 1))
  else (byteR (97 + pickV b (p + 1) 3), p + 1 + 1)
theorem leafV_le (b : List UInt8) (p : Nat) : (leafV b p).2 ≤ p + 8 ∧ bd (leafV b p).1 ≤ 256 := by
  have h1 := setQ_le b (p + 1)
  have h2 := setV_len b (p + 1)
  unfold leafV
  split
  · exact ⟨by simp, by simp [bd]⟩
  · split
    · exact ⟨by simp, by simp [bd]⟩
    · split
      · exact ⟨by simp only; omega, by simp only [bd, List.map_nil, List.sum_nil, List.length_nil]; omega⟩
      · split
        · split
          · exact ⟨by simp, by simp [bd]⟩
          · exact ⟨by simp, by simp [bd, byteR]⟩
        · exact ⟨by simp, by simp [bd, byteR]⟩
/-- spec.l2Leaf -/
theorem fits_l2Leaf (b : List UInt8) (hb : b.length ≤ 2000) (p : Nat) (hp : p ≤ 900000) : Fits prog 163 [.box (eRd b p)] (eRex true (leafV b p).1) [.box (eRd b (leafV b p).2)] := by
  have c1 : Fits prog 75 [.box (eRd b p), .int .i64 9] (.int .i64 (pickV b p 9)) [.box (eRd b (p + 1))] := fits_pick b hb p (by omega) 9 (by omega) (by omega)
  have cS := fits_l1Set b hb (p + 1) (by omega)
  have c2 : Fits prog 75 [.box (eRd b (p + 1)), .int .i64 3] (.int .i64 (pickV b (p + 1) 3)) [.box (eRd b (p + 1 + 1))] := fits_pick b hb (p + 1) (by omega) 3 (by omega) (by omega)
  have c3 : Fits prog 75 [.box (eRd b (p + 1 + 1)), .int .i64 3] (.int .i64 (pickV b (p + 1 + 1) 3)) [.box (eRd b (p + 1 + 1 + 1))] := fits_pick b hb (p + 1 + 1) (by omega) 3 (by omega) (by omega)
  have cB2 := fits_l2Byte (97 + pickV b (p + 1) 3)
  have cB3 := fits_l2Byte (97 + pickV b (p + 1 + 1) 3)
  have h2 := pickV_lt b (p + 1) (n := 3) (by omega)
  have h3 := pickV_lt b (p + 1 + 1) (n := 3) (by omega)
  unfold leafV
  generalize pickV b (p + 1) 3 = k2 at *
  generalize pickV b (p + 1 + 1) 3 = k3 at *
  generalize pickV b p 9 = k at *
  generalize setQ b (p + 1) = q at *
  generalize setV b (p + 1) = s at *
  unfold eRd at *
  by_cases g0 : k = 0
  · subst g0
    rw [if_pos rfl, eRex_eq]
    refine fits_of_cell 2 26 [0] [0, 2, 4, 5, 8, 13, 18, 22] func163 rfl rfl rfl (by show 2 < 28; decide) (by show 1 ≤ 28; decide) (by rfl) (by rfl) (by show 1 ≤ 1; decide) (by rfl) (run_of ?_)
    simp -implicitDefEqProofs (maxSteps := 100000) (disch := first | (intros; contradiction) | omega) only [am0, am1, am2, am3, am4, am5, am6, am7, am8, am9, Nat.reduceSub, ↓reduceIte, reduceCtorEq, Nat.reduceEqDiff, Nat.reduceBEq, Nat.reduceAdd, Nat.reduceLT, Nat.reduceBNe, Nat.reduceMul, ↓reduceIte, tis, fls, Rex.kind, Rex.set, Rex.kids, List.map_nil]
    refine callM 0 c1 ?_
    simp -implicitDefEqProofs (maxSteps := 100000) (disch := first | (intros; contradiction) | omega) only [am0, am1, am2, am3, am4, am5, am6, am7, am8, am9, Nat.reduceSub, ↓reduceIte, reduceCtorEq, Nat.reduceEqDiff, Nat.reduceBEq, Nat.reduceAdd, Nat.reduceLT, Nat.reduceBNe, Nat.reduceMul, ↓reduceIte, tis, fls, List.dropLast_singleton]
  rw [if_neg g0]
  by_cases g1 : k = 1
  · subst g1
    rw [if_pos rfl, eRex_eq]
    refine fits_of_cell 2 26 [0] [0, 2, 4, 5, 8, 13, 18, 22] func163 rfl rfl rfl (by show 2 < 28; decide) (by show 1 ≤ 28; decide) (by rfl) (by rfl) (by show 1 ≤ 1; decide) (by rfl) (run_of ?_)
    simp -implicitDefEqProofs (maxSteps := 100000) (disch := first | (intros; contradiction) | omega) only [am0, am1, am2, am3, am4, am5, am6, am7, am8, am9, Nat.reduceSub, ↓reduceIte, reduceCtorEq, Nat.reduceEqDiff, Nat.reduceBEq, Nat.reduceAdd, Nat.reduceLT, Nat.reduceBNe, Nat.reduceMul, ↓reduceIte, tis, fls, Rex.kind, Rex.set, Rex.kids, List.map_nil, List.map_cons, eSpan]
    refine callM 0 c1 ?_
    simp -implicitDefEqProofs (maxSteps := 100000) (disch := first | (intros; contradiction) | omega) only [am0, am1, am2, am3, am4, am5, am6, am7, am8, am9, Nat.reduceSub, ↓reduceIte, reduceCtorEq, Nat.reduceEqDiff, Nat.reduceBEq, Nat.reduceAdd, Nat.reduceLT, Nat.reduceBNe, Nat.reduceMul, ↓reduceIte, tis, fls, List.dropLast_singleton, Rex.kind, Rex.set, Rex.kids, List.map_nil, List.map_cons, eSpan]
  rw [if_neg g1]
  by_cases g2 : k = 2
  · subst g2
    rw [if_pos rfl, eRex_eq]
    refine fits_of_cell 2 26 [0] [0, 2, 4, 5, 8, 13, 18, 22] func163 rfl rfl rfl (by show 2 < 28; decide) (by show 1 ≤ 28; decide) (by rfl) (by rfl) (by show 1 ≤ 1; decide) (by rfl) (run_of ?_)
    simp -implicitDefEqProofs (maxSteps := 100000) (disch := first | (intros; contradiction) | omega) only [am0, am1, am2, am3, am4, am5, am6, am7, am8, am9, Nat.reduceSub, ↓reduceIte, reduceCtorEq, Nat.reduceEqDiff, Nat.reduceBEq, Nat.reduceAdd, Nat.reduceLT, Nat.reduceBNe, Nat.reduceMul, ↓reduceIte, tis, fls, Rex.kind, Rex.set, Rex.kids, List.map_nil]
    refine callM 0 c1 ?_
    simp -implicitDefEqProofs (maxSteps := 100000) (disch := first | (intros; contradiction) | omega) only [am0, am1, am2, am3, am4, am5, am6, am7, am8, am9, Nat.reduceSub, ↓reduceIte, reduceCtorEq, Nat.reduceEqDiff, Nat.reduceBEq, Nat.reduceAdd, Nat.reduceLT, Nat.reduceBNe, Nat.reduceMul, ↓reduceIte, tis, fls, List.dropLast_singleton]
    refine callM 0 cS ?_
    simp -implicitDefEqProofs (maxSteps := 100000) (disch := first | (intros; contradiction) | omega) only [am0, am1, am2, am3, am4, am5, am6, am7, am8, am9, Nat.reduceSub, ↓reduceIte, reduceCtorEq, Nat.reduceEqDiff, Nat.reduceBEq, Nat.reduceAdd, Nat.reduceLT, Nat.reduceBNe, Nat.reduceMul, ↓reduceIte, tis, fls, List.dropLast_singleton]
  rw [if_neg g2]
  have i0 : ¬ ((k : Int) = 0) := by omega
  have i1 : ¬ ((k : Int) = 1) := by omega
  have i2 : ¬ ((k : Int) = 2) := by omega
  by_cases g3 : k = 3
  · subst g3
    rw [if_pos rfl]
    by_cases g4 : k2 = 0
    · subst g4
      rw [if_pos rfl, eRex_eq]
      refine fits_of_cell 2 26 [0] [0, 2, 4, 5, 8, 13, 18, 22] func163 rfl rfl rfl (by show 2 < 28; decide) (by show 1 ≤ 28; decide) (by rfl) (by rfl) (by show 1 ≤ 1; decide) (by rfl) (run_of ?_)
      simp -implicitDefEqProofs (maxSteps := 100000) (disch := first | (intros; contradiction) | omega) only [am0, am1, am2, am3, am4, am5, am6, am7, am8, am9, Nat.reduceSub, ↓reduceIte, reduceCtorEq, Nat.reduceEqDiff, Nat.reduceBEq, Nat.reduceAdd, Nat.reduceLT, Nat.reduceBNe, Nat.reduceMul, ↓reduceIte, tis, fls, Rex.kind, Rex.set, Rex.kids, List.map_nil]
      refine callM 0 c1 ?_
      simp -implicitDefEqProofs (maxSteps := 100000) (disch := first | (intros; contradiction) | omega) only [am0, am1, am2, am3, am4, am5, am6, am7, am8, am9, Nat.reduceSub, ↓reduceIte, reduceCtorEq, Nat.reduceEqDiff, Nat.reduceBEq, Nat.reduceAdd, Nat.reduceLT, Nat.reduceBNe, Nat.reduceMul, ↓reduceIte, tis, fls, List.dropLast_singleton]
      refine callM 0 c2 ?_
      simp -implicitDefEqProofs (maxSteps := 100000) (disch := first | (intros; contradiction) | omega) only [am0, am1, am2, am3, am4, am5, am6, am7, am8, am9, Nat.reduceSub, ↓reduceIte, reduceCtorEq, Nat.reduceEqDiff, Nat.reduceBEq, Nat.reduceAdd, Nat.reduceLT, Nat.reduceBNe, Nat.reduceMul, ↓reduceIte, tis, fls, List.dropLast_singleton, List.map_nil]
    · have i4 : ¬ ((k2 : Int) = 0) := by omega
      rw [if_neg g4]
      simp only [eRex_eq] at *
      refine fits_of_cell 2 26 [0] [0, 2, 4, 5, 8, 13, 18, 22] func163 rfl rfl rfl (by show 2 < 28; decide) (by show 1 ≤ 28; decide) (by rfl) (by rfl) (by show 1 ≤ 1; decide) (by rfl) (run_of ?_)
      simp -implicitDefEqProofs (maxSteps := 100000) (disch := first | (intros; contradiction) | omega) only [am0, am1, am2, am3, am4, am5, am6, am7, am8, am9, Nat.reduceSub, ↓reduceIte, reduceCtorEq, Nat.reduceEqDiff, Nat.reduceBEq, Nat.reduceAdd, Nat.reduceLT, Nat.reduceBNe, Nat.reduceMul, ↓reduceIte, tis, fls]
      refine callM 0 c1 ?_
      simp -implicitDefEqProofs (maxSteps := 100000) (disch := first | (intros; contradiction) | omega) only [am0, am1, am2, am3, am4, am5, am6, am7, am8, am9, Nat.reduceSub, ↓reduceIte, reduceCtorEq, Nat.reduceEqDiff, Nat.reduceBEq, Nat.reduceAdd, Nat.reduceLT, Nat.reduceBNe, Nat.reduceMul, ↓reduceIte, tis, fls, List.dropLast_singleton]
      refine callM 0 c2 ?_
      simp -implicitDefEqProofs (maxSteps := 100000) (disch := first | (intros; contradiction) | omega) only [am0, am1, am2, am3, am4, am5, am6, am7, am8, am9, Nat.reduceSub, ↓reduceIte, reduceCtorEq, Nat.reduceEqDiff, Nat.reduceBEq, Nat.reduceAdd, Nat.reduceLT, Nat.reduceBNe, Nat.reduceMul, ↓reduceIte, tis, fls, List.dropLast_singleton, i4]
      refine callM 0 c3 ?_
      simp -implicitDefEqProofs (maxSteps := 100000) (disch := first | (intros; contradiction) | omega) only [am0, am1, am2, am3, am4, am5, am6, am7, am8, am9, Nat.reduceSub, ↓reduceIte, reduceCtorEq, Nat.reduceEqDiff, Nat.reduceBEq, Nat.reduceAdd, Nat.reduceLT, Nat.reduceBNe, Nat.reduceMul, ↓reduceIte, tis, fls, List.dropLast_singleton]
      refine callB cB3 ?_
      simp -implicitDefEqProofs (maxSteps := 100000) (disch := first | (intros; contradiction) | omega) only [am0, am1, am2, am3, am4, am5, am6, am7, am8, am9, Nat.reduceSub, ↓reduceIte, reduceCtorEq, Nat.reduceEqDiff, Nat.reduceBEq, Nat.reduceAdd, Nat.reduceLT, Nat.reduceBNe, Nat.reduceMul, ↓reduceIte, tis, fls, rx]
  · rw [if_neg g3]
    have i3 : ¬ ((k : Int) = 3) := by omega
    simp only [eRex_eq] at *
    refine fits_of_cell 2 26 [0] [0, 2, 4, 5, 8, 13, 18, 22] func163 rfl rfl rfl (by show 2 < 28; decide) (by show 1 ≤ 28; decide) (by rfl) (by rfl) (by show 1 ≤ 1; decide) (by rfl) (run_of ?_)
    simp -implicitDefEqProofs (maxSteps := 100000) (disch := first | (intros; contradiction) | omega) only [am0, am1, am2, am3, am4, am5, am6, am7, am8, am9, Nat.reduceSub, ↓reduceIte, reduceCtorEq, Nat.reduceEqDiff, Nat.reduceBEq, Nat.reduceAdd, Nat.reduceLT, Nat.reduceBNe, Nat.reduceMul, ↓reduceIte, tis, fls]
    refine callM 0 c1 ?_
    simp -implicitDefEqProofs (maxSteps := 100000) (disch := first | (intros; contradiction) | omega) only [am0, am1, am2, am3, am4, am5, am6, am7, am8, am9, Nat.reduceSub, ↓reduceIte, reduceCtorEq, Nat.reduceEqDiff, Nat.reduceBEq, Nat.reduceAdd, Nat.reduceLT, Nat.reduceBNe, Nat.reduceMul, ↓reduceIte, tis, fls, List.dropLast_singleton, i0, i1, i2, i3]
    refine callM 0 c2 ?_
    simp -implicitDefEqProofs (maxSteps := 100000) (disch := first | (intros; contradiction) | omega) only [am0, am1, am2, am3, am4, am5, am6, am7, am8, am9, Nat.reduceSub, ↓reduceIte, reduceCtorEq, Nat.reduceEqDiff, Nat.reduceBEq, Nat.reduceAdd, Nat.reduceLT, Nat.reduceBNe, Nat.reduceMul, ↓reduceIte, tis, fls, List.dropLast_singleton]
    refine callB cB2 ?_
    simp -implicitDefEqProofs (maxSteps := 100000) (disch := first | (intros; contradiction) | omega) only [am0, am1, am2, am3, am4, am5, am6, am7, am8, am9, Nat.reduceSub, ↓reduceIte, reduceCtorEq, Nat.reduceEqDiff, Nat.reduceBEq, Nat.reduceAdd, Nat.reduceLT, Nat.reduceBNe, Nat.reduceMul, ↓reduceIte, tis, fls, rx]
def kin9 : List Int := [3, 3, 3, 4, 4, 5, 5, 6, 7]
def kidsV (f : Nat → Rex × Nat) (p : Nat) : Nat → List Rex × Nat
  | 0 => ([], p)
  | i + 1 => ((kidsV f p i).1 ++ [(f (kidsV f p i).2).1], (f (kidsV f p i).2).2)
def rexV (b : List UInt8) : Nat → Nat → Rex × Nat
  | 0, p => leafV b p
  | d + 1, p => if pickV b p 4 = 0 then leafV b (p + 1) else (.mk (numV b (p + 1) kin9) [] (kidsV (rexV b d) (p + 1 + 1) (kidsN (numV b (p + 1) kin9)).toNat).1, (kidsV (rexV b d) (p + 1 + 1) (kidsN (numV b (p + 1) kin9)).toNat).2)
theorem kidsV_len (f : Nat → Rex × Nat) (p : Nat) : ∀ i, (kidsV f p i).1.length = i
  | 0 => rfl
  | i + 1 => by simp [kidsV, kidsV_len f p i]
theorem kidsV_le (f : Nat → Rex × Nat) (c m : Nat) (hf : ∀ q, (f q).2 ≤ q + c ∧ bd (f q).1 ≤ m) (p : Nat) : ∀ i, (kidsV f p i).2 ≤ p + i * c ∧ ((kidsV f p i).1.map bd).sum ≤ i * m
  | 0 => by simp [kidsV]
  | i + 1 => by
    obtain ⟨h1, h2⟩ := kidsV_le f c m hf p i
    obtain ⟨h3, h4⟩ := hf (kidsV f p i).2
    have e1 : (i + 1) * c = i * c + c := Nat.succ_mul i c
    have e2 : (i + 1) * m = i * m + m := Nat.succ_mul i m
    simp only [kidsV, List.map_append, List.map_cons, List.map_nil, List.sum_append, List.sum_cons, List.sum_nil]
    omega
theorem kin9_k (b : List UInt8) (p : Nat) : (kidsN (numV b p kin9)).toNat ≤ 2 ∧ ((kidsN (numV b p kin9)).toNat : Int) = kidsN (numV b p kin9) ∧ 0 < (kidsN (numV b p kin9)).toNat := by
  have h := numV_mem b p (l := kin9) (by decide)
  generalize numV b p kin9 = x at *
  simp only [kin9, List.mem_cons, List.not_mem_nil, or_false] at h
  rcases h with rfl | rfl | rfl | rfl | rfl | rfl | rfl | rfl | rfl <;> decide
theorem rexV_le (b : List UInt8) : ∀ (d p : Nat), (rexV b d p).2 ≤ p + 8 * 4 ^ d ∧ bd (rexV b d p).1 ≤ 256 * 4 ^ d
  | 0, p => by have := leafV_le b p; simp only [rexV]; omega
  | d + 1, p => by
    have h1 := leafV_le b (p + 1)
    have h2 := kidsV_le (rexV b d) _ _ (rexV_le b d) (p + 1 + 1) (kidsN (numV b (p + 1) kin9)).toNat
    have h3 := (kin9_k b (p + 1)).1
    have h4 := kidsV_len (rexV b d) (p + 1 + 1) (kidsN (numV b (p + 1) kin9)).toNat
    have h5 : 0 < 4 ^ d := Nat.pow_pos (by omega)
    have h6 : 4 ^ (d + 1) = 4 * 4 ^ d := by rw [Nat.pow_succ]; omega
    simp only [rexV]
    split
    · omega
    · simp only [bd]
      generalize (kidsN (numV b (p + 1) kin9)).toNat = n at *
      have a1 : n * (8 * 4 ^ d) ≤ 2 * (8 * 4 ^ d) := Nat.mul_le_mul_right _ h3
      have a2 : n * (256 * 4 ^ d) ≤ 2 * (256 * 4 ^ d) := Nat.mul_le_mul_right _ h3
      constructor
      · omega
      · simp only [List.length_nil]; omega
/-- spec.l2Rex -/
theorem fits_l2Rex (b : List UInt8) (hb : b.length ≤ 2000) (d : Nat) (hd : d ≤ 3) : ∀ (p : Nat), p ≤ 800000 + 2000 * (3 - d) → Fits prog 162 [.box (eRd b p), .int .i64 ((d : Int) + 1)] (eRex true (rexV b d p).1) [.box (eRd b (rexV b d p).2)] := by
  induction d with
  | zero =>
    intro p hp
    have cL := fits_l2Leaf b hb p (by omega)
    simp only [rexV]
    generalize leafV b p = x at *
    rw [eRex_eq] at *
    unfold eRd at *
    refine fits_of_cell 4 26 [0] [0, 1, 4, 5, 6, 7, 14, 25] func162 rfl rfl rfl (by show 4 < 38; decide) (by show 2 ≤ 38; decide) (by rfl) (by rfl) (by show 1 ≤ 2; decide) (by rfl) (run_of ?_)
    simp -implicitDefEqProofs (maxSteps := 100000) (disch := first | (intros; contradiction) | omega) only [am0, am1, am2, am3, am4, am5, am6, am7, am8, am9, Nat.reduceSub, ↓reduceIte, reduceCtorEq, Nat.reduceEqDiff, Nat.reduceBEq, Nat.reduceAdd, Nat.reduceLT, Nat.reduceBNe, Nat.reduceMul, ↓reduceIte, tis, fls, rx]
    refine callM 0 cL ?_
    simp -implicitDefEqProofs (maxSteps := 100000) (disch := first | (intros; contradiction) | omega) only [am0, am1, am2, am3, am4, am5, am6, am7, am8, am9, Nat.reduceSub, ↓reduceIte, reduceCtorEq, Nat.reduceEqDiff, Nat.reduceBEq, Nat.reduceAdd, Nat.reduceLT, Nat.reduceBNe, Nat.reduceMul, ↓reduceIte, tis, fls, rx, List.dropLast_singleton]
  | succ d ih =>
    intro p hp
    have ih := ih (by omega)
    have h5 : 4 ^ d ≤ 4 ^ 2 := Nat.pow_le_pow_right (by omega) (by omega)
    have c1 : Fits prog 75 [.box (eRd b p), .int .i64 4] (.int .i64 (pickV b p 4)) [.box (eRd b (p + 1))] := fits_pick b hb p (by omega) 4 (by omega) (by omega)
    have hd1 : ¬ ((d : Int) + 1 + 1 ≤ 1) := by omega
    have hd2 : (d : Int) + 1 + 1 - 1 = d + 1 := by omega
    simp only [rexV]
    generalize pickV b p 4 = k at *
    by_cases hk : k = 0
    · subst hk
      rw [if_pos rfl]
      have cL := fits_l2Leaf b hb (p + 1) (by omega)
      generalize leafV b (p + 1) = x at *
      rw [eRex_eq] at *
      unfold eRd at *
      refine fits_of_cell 4 26 [0] [0, 1, 4, 5, 6, 7, 14, 25] func162 rfl rfl rfl (by show 4 < 38; decide) (by show 2 ≤ 38; decide) (by rfl) (by rfl) (by show 1 ≤ 2; decide) (by rfl) (run_of ?_)
      simp -implicitDefEqProofs (maxSteps := 100000) (disch := first | (intros; contradiction) | omega) only [am0, am1, am2, am3, am4, am5, am6, am7, am8, am9, Nat.reduceSub, ↓reduceIte, reduceCtorEq, Nat.reduceEqDiff, Nat.reduceBEq, Nat.reduceAdd, Nat.reduceLT, Nat.reduceBNe, Nat.reduceMul, ↓reduceIte, tis, fls, rx, hd1]
      refine callM 0 c1 ?_
      simp -implicitDefEqProofs (maxSteps := 100000) (disch := first | (intros; contradiction) | omega) only [am0, am1, am2, am3, am4, am5, am6, am7, am8, am9, Nat.reduceSub, ↓reduceIte, reduceCtorEq, Nat.reduceEqDiff, Nat.reduceBEq, Nat.reduceAdd, Nat.reduceLT, Nat.reduceBNe, Nat.reduceMul, ↓reduceIte, tis, fls, rx, List.dropLast_singleton]
      refine callM 0 cL ?_
      simp -implicitDefEqProofs (maxSteps := 100000) (disch := first | (intros; contradiction) | omega) only [am0, am1, am2, am3, am4, am5, am6, am7, am8, am9, Nat.reduceSub, ↓reduceIte, reduceCtorEq, Nat.reduceEqDiff, Nat.reduceBEq, Nat.reduceAdd, Nat.reduceLT, Nat.reduceBNe, Nat.reduceMul, ↓reduceIte, tis, fls, rx, List.dropLast_singleton]
    · rw [if_neg hk]
      have hk0 : ¬ ((k : Int) = 0) := by omega
      have cN := fits_num b hb (p + 1) (by omega) kin9 (by decide) (by decide)
      obtain ⟨q1, q2, q3⟩ := kin9_k b (p + 1)
      generalize numV b (p + 1) kin9 = kk at *
      have cK := fits_sKids kk
      rw [← q2] at cK
      generalize (kidsN kk).toNat = n at *
      have hle := fun i => kidsV_le (rexV b d) _ _ (rexV_le b d) (p + 1 + 1) i
      have hln := fun i => kidsV_len (rexV b d) (p + 1 + 1) i
      have cF := fun i (hi : i < n) => ih (kidsV (rexV b d) (p + 1 + 1) i).2 (by
        have := (hle i).1
        have : i * (8 * 4 ^ d) ≤ 1 * (8 * 4 ^ d) := Nat.mul_le_mul_right _ (by omega)
        omega)
      have hS : ∀ i, kidsV (rexV b d) (p + 1 + 1) (i + 1) = ((kidsV (rexV b d) (p + 1 + 1) i).1 ++ [(rexV b d (kidsV (rexV b d) (p + 1 + 1) i).2).1], (rexV b d (kidsV (rexV b d) (p + 1 + 1) i).2).2) := fun i => rfl
      have hZ : kidsV (rexV b d) (p + 1 + 1) 0 = ([], p + 1 + 1) := rfl
      generalize kidsV (rexV b d) (p + 1 + 1) = V at *
      rw [eRex_eq]
      show Fits prog _ _ (.agg [.int .i64 kk, .sl true 2 [], .sl true 3 ((V n).1.map (eRex true))]) _
      unfold eRd at *
      refine fits_of_cell 4 26 [0] [0, 1, 4, 5, 6, 7, 14, 25] func162 rfl rfl rfl (by show 4 < 38; decide) (by show 2 ≤ 38; decide) (by rfl) (by rfl) (by show 1 ≤ 2; decide) (by rfl) (run_of ?_)
      simp -implicitDefEqProofs (maxSteps := 100000) (disch := first | (intros; contradiction) | omega) only [am0, am1, am2, am3, am4, am5, am6, am7, am8, am9, Nat.reduceSub, ↓reduceIte, reduceCtorEq, Nat.reduceEqDiff, Nat.reduceBEq, Nat.reduceAdd, Nat.reduceLT, Nat.reduceBNe, Nat.reduceMul, ↓reduceIte, tis, fls, rx, hd1]
      refine callM 0 c1 ?_
      simp -implicitDefEqProofs (maxSteps := 100000) (disch := first | (intros; contradiction) | omega) only [am0, am1, am2, am3, am4, am5, am6, am7, am8, am9, Nat.reduceSub, ↓reduceIte, reduceCtorEq, Nat.reduceEqDiff, Nat.reduceBEq, Nat.reduceAdd, Nat.reduceLT, Nat.reduceBNe, Nat.reduceMul, ↓reduceIte, tis, fls, rx, List.dropLast_singleton, hk0]
      refine callMF [(18, [])] 0 cN ?_
      simp -implicitDefEqProofs (maxSteps := 100000) (disch := first | (intros; contradiction) | omega) only [am0, am1, am2, am3, am4, am5, am6, am7, am8, am9, Nat.reduceSub, ↓reduceIte, reduceCtorEq, Nat.reduceEqDiff, Nat.reduceBEq, Nat.reduceAdd, Nat.reduceLT, Nat.reduceBNe, Nat.reduceMul, ↓reduceIte, tis, fls, rx, List.dropLast_singleton, kin9, eInt]
      refine callB cK ?_
      simp -implicitDefEqProofs (maxSteps := 100000) (disch := first | (intros; contradiction) | omega) only [am0, am1, am2, am3, am4, am5, am6, am7, am8, am9, Nat.reduceSub, ↓reduceIte, reduceCtorEq, Nat.reduceEqDiff, Nat.reduceBEq, Nat.reduceAdd, Nat.reduceLT, Nat.reduceBNe, Nat.reduceMul, ↓reduceIte, tis, fls, rx]
      refine run_loop (α := Nat) (fun j => j ≤ n) (fun j => [(0, .box (.agg [.sl false 1 (bytesA b), .int .i64 (V j).2])), (1, .int .i64 ((d : Int) + 1 + 1)), (4, .box (.agg [.int .i64 0, .sl true 0 [], .sl true 0 []])), (6, .box (.agg [.int .i64 kk, .sl true 0 [], .sl true 3 ((V j).1.map (eRex true))])), (7, .int .i64 ((n : Int) - j))]) (fun j => n - j) 0 (Nat.zero_le _) ?_ ?_
      · simp -implicitDefEqProofs (maxSteps := 100000) (disch := first | (intros; contradiction) | omega) only [am0, am1, am2, am3, am4, am5, am6, am7, am8, am9, Nat.reduceSub, ↓reduceIte, reduceCtorEq, Nat.reduceEqDiff, Nat.reduceBEq, Nat.reduceAdd, Nat.reduceLT, Nat.reduceBNe, Nat.reduceMul, ↓reduceIte, tis, fls, rx, hZ, List.map_nil]
      · intro j hj'
        by_cases hj : j < n
        · have cR := cF j hj
          have hl := hln j
          have hS := hS j
          generalize rexV b d (V j).2 = x at *
          rw [eRex_eq] at cR
          simp -implicitDefEqProofs (maxSteps := 100000) (disch := first | (intros; contradiction) | omega) only [am0, am1, am2, am3, am4, am5, am6, am7, am8, am9, Nat.reduceSub, ↓reduceIte, reduceCtorEq, Nat.reduceEqDiff, Nat.reduceBEq, Nat.reduceAdd, Nat.reduceLT, Nat.reduceBNe, Nat.reduceMul, ↓reduceIte, tis, fls, rx]
          refine .inr (run_mix 33 [] [0] (by kernel_rfl) ?_)
          simp -implicitDefEqProofs (maxSteps := 100000) (disch := first | (intros; contradiction) | omega) only [am0, am1, am2, am3, am4, am5, am6, am7, am8, am9, Nat.reduceSub, ↓reduceIte, reduceCtorEq, Nat.reduceEqDiff, Nat.reduceBEq, Nat.reduceAdd, Nat.reduceLT, Nat.reduceBNe, Nat.reduceMul, ↓reduceIte, tis, fls, rx]
          refine callG 0 cR ?_
          simp -implicitDefEqProofs (maxSteps := 100000) (disch := first | (intros; contradiction) | omega) only [am0, am1, am2, am3, am4, am5, am6, am7, am8, am9, Nat.reduceSub, ↓reduceIte, reduceCtorEq, Nat.reduceEqDiff, Nat.reduceBEq, Nat.reduceAdd, Nat.reduceLT, Nat.reduceBNe, Nat.reduceMul, ↓reduceIte, tis, fls, rx, List.dropLast_singleton, hd2]
          refine round_normal (j + 1) (by omega) ?_ (by show n - (j + 1) < n - j; omega)
          rw [hS]
          simp -implicitDefEqProofs (maxSteps := 100000) (disch := first | (intros; contradiction) | omega) only [am0, am1, am2, am3, am4, am5, am6, am7, am8, am9, Nat.reduceSub, ↓reduceIte, reduceCtorEq, Nat.reduceEqDiff, Nat.reduceBEq, Nat.reduceAdd, Nat.reduceLT, Nat.reduceBNe, Nat.reduceMul, ↓reduceIte, tis, fls, rx, List.map_append, List.map_cons, List.map_nil, eRex_eq true x.1]
          omega
        · obtain rfl : j = n := by omega
          simp -implicitDefEqProofs (maxSteps := 100000) (disch := first | (intros; contradiction) | omega) only [am0, am1, am2, am3, am4, am5, am6, am7, am8, am9, Nat.reduceSub, ↓reduceIte, reduceCtorEq, Nat.reduceEqDiff, Nat.reduceBEq, Nat.reduceAdd, Nat.reduceLT, Nat.reduceBNe, Nat.reduceMul, ↓reduceIte, tis, fls, rx]
/-- One that is ok. -/
def someV (b : List UInt8) (p : Nat) : Rex × Nat := if rexB (rexV b (1 + pickV b p 3) (p + 1)).1 = true then rexV b (1 + pickV b p 3) (p + 1) else leafV b (rexV b (1 + pickV b p 3) (p + 1)).2
theorem someV_le (b : List UInt8) (p : Nat) : (someV b p).2 ≤ p + 600 ∧ bd (someV b p).1 ≤ 16384 := by
  have h1 := pickV_lt b p (n := 3) (by omega)
  have h2 := rexV_le b (1 + pickV b p 3) (p + 1)
  have h3 := leafV_le b (rexV b (1 + pickV b p 3) (p + 1)).2
  have h4 : 4 ^ (1 + pickV b p 3) ≤ 4 ^ 3 := Nat.pow_le_pow_right (by omega) (by omega)
  unfold someV
  split <;> omega
/-- spec.l2Some -/
theorem fits_l2Some (b : List UInt8) (hb : b.length ≤ 2000) (p : Nat) (hp : p ≤ 700000) : Fits prog 135 [.box (eRd b p)] (eRex true (someV b p).1) [.box (eRd b (someV b p).2)] := by
  have c1 : Fits prog 75 [.box (eRd b p), .int .i64 3] (.int .i64 (pickV b p 3)) [.box (eRd b (p + 1))] := fits_pick b hb p (by omega) 3 (by omega) (by omega)
  have h1 := pickV_lt b p (n := 3) (by omega)
  unfold someV
  generalize pickV b p 3 = k at *
  have cR := fits_l2Rex b hb (1 + k) (by omega) (p + 1) (by omega)
  have hl := rexV_le b (1 + k) (p + 1)
  have h4 : 4 ^ (1 + k) ≤ 4 ^ 3 := Nat.pow_le_pow_right (by omega) (by omega)
  have cL := fits_l2Leaf b hb (rexV b (1 + k) (p + 1)).2 (by omega)
  have cO := fits_sRexOk (rexV b (1 + k) (p + 1)).1 (by omega)
  generalize rexV b (1 + k) (p + 1) = x at *
  have e1 : (2 : Int) + k = ((1 + k : Nat) : Int) + 1 := by omega
  rw [← e1] at cR
  cases h : rexB x.1 with
  | true =>
    rw [if_pos rfl]
    rw [h] at cO
    unfold eRd at *
    rw [eRex_eq] at *
    refine fits_of_cell 2 26 [0] [0, 2, 3, 11] func135 rfl rfl rfl (by show 2 < 15; decide) (by show 1 ≤ 15; decide) (by rfl) (by rfl) (by show 1 ≤ 1; decide) (by rfl) (run_of ?_)
    simp -implicitDefEqProofs (maxSteps := 100000) (disch := first | (intros; contradiction) | omega) only [am0, am1, am2, am3, am4, am5, am6, am7, am8, am9, Nat.reduceSub, ↓reduceIte, reduceCtorEq, Nat.reduceEqDiff, Nat.reduceBEq, Nat.reduceAdd, Nat.reduceLT, Nat.reduceBNe, Nat.reduceMul, ↓reduceIte, tis, fls, rx]
    refine callK 4 0 0 c1 ?_
    simp -implicitDefEqProofs (maxSteps := 100000) (disch := first | (intros; contradiction) | omega) only [am0, am1, am2, am3, am4, am5, am6, am7, am8, am9, Nat.reduceSub, ↓reduceIte, reduceCtorEq, Nat.reduceEqDiff, Nat.reduceBEq, Nat.reduceAdd, Nat.reduceLT, Nat.reduceBNe, Nat.reduceMul, ↓reduceIte, tis, fls, rx, List.dropLast_singleton]
    refine callM 0 cR ?_
    simp -implicitDefEqProofs (maxSteps := 100000) (disch := first | (intros; contradiction) | omega) only [am0, am1, am2, am3, am4, am5, am6, am7, am8, am9, Nat.reduceSub, ↓reduceIte, reduceCtorEq, Nat.reduceEqDiff, Nat.reduceBEq, Nat.reduceAdd, Nat.reduceLT, Nat.reduceBNe, Nat.reduceMul, ↓reduceIte, tis, fls, rx, List.dropLast_singleton]
    refine callB cO ?_
    simp -implicitDefEqProofs (maxSteps := 100000) (disch := first | (intros; contradiction) | omega) only [am0, am1, am2, am3, am4, am5, am6, am7, am8, am9, Nat.reduceSub, ↓reduceIte, reduceCtorEq, Nat.reduceEqDiff, Nat.reduceBEq, Nat.reduceAdd, Nat.reduceLT, Nat.reduceBNe, Nat.reduceMul, ↓reduceIte, tis, fls, rx]
  | false =>
    rw [if_neg (by simp)]
    rw [h] at cO
    generalize leafV b x.2 = y at *
    unfold eRd at *
    simp only [eRex_eq] at *
    refine fits_of_cell 2 26 [0] [0, 2, 3, 11] func135 rfl rfl rfl (by show 2 < 15; decide) (by show 1 ≤ 15; decide) (by rfl) (by rfl) (by show 1 ≤ 1; decide) (by rfl) (run_of ?_)
    simp -implicitDefEqProofs (maxSteps := 100000) (disch := first | (intros; contradiction) | omega) only [am0, am1, am2, am3, am4, am5, am6, am7, am8, am9, Nat.reduceSub, ↓reduceIte, reduceCtorEq, Nat.reduceEqDiff, Nat.reduceBEq, Nat.reduceAdd, Nat.reduceLT, Nat.reduceBNe, Nat.reduceMul, ↓reduceIte, tis, fls, rx]
    refine callK 4 0 0 c1 ?_
    simp -implicitDefEqProofs (maxSteps := 100000) (disch := first | (intros; contradiction) | omega) only [am0, am1, am2, am3, am4, am5, am6, am7, am8, am9, Nat.reduceSub, ↓reduceIte, reduceCtorEq, Nat.reduceEqDiff, Nat.reduceBEq, Nat.reduceAdd, Nat.reduceLT, Nat.reduceBNe, Nat.reduceMul, ↓reduceIte, tis, fls, rx, List.dropLast_singleton]
    refine callM 0 cR ?_
    simp -implicitDefEqProofs (maxSteps := 100000) (disch := first | (intros; contradiction) | omega) only [am0, am1, am2, am3, am4, am5, am6, am7, am8, am9, Nat.reduceSub, ↓reduceIte, reduceCtorEq, Nat.reduceEqDiff, Nat.reduceBEq, Nat.reduceAdd, Nat.reduceLT, Nat.reduceBNe, Nat.reduceMul, ↓reduceIte, tis, fls, rx, List.dropLast_singleton]
    refine callB cO ?_
    simp -implicitDefEqProofs (maxSteps := 100000) (disch := first | (intros; contradiction) | omega) only [am0, am1, am2, am3, am4, am5, am6, am7, am8, am9, Nat.reduceSub, ↓reduceIte, reduceCtorEq, Nat.reduceEqDiff, Nat.reduceBEq, Nat.reduceAdd, Nat.reduceLT, Nat.reduceBNe, Nat.reduceMul, ↓reduceIte, tis, fls, rx]
    refine callM 0 cL ?_
    simp -implicitDefEqProofs (maxSteps := 100000) (disch := first | (intros; contradiction) | omega) only [am0, am1, am2, am3, am4, am5, am6, am7, am8, am9, Nat.reduceSub, ↓reduceIte, reduceCtorEq, Nat.reduceEqDiff, Nat.reduceBEq, Nat.reduceAdd, Nat.reduceLT, Nat.reduceBNe, Nat.reduceMul, ↓reduceIte, tis, fls, rx, List.dropLast_singleton]
def kin4 : List Int := [0, 8, 3, 5]
def wrapN (f : Rex → Rex) (x : Rex) : Nat → Rex
  | 0 => x
  | n + 1 => f (wrapN f x n)
def starR (x : Rex) : Rex := .mk 5 [] [x]
def catR (x : Rex) : Rex := .mk 3 [] [x, x]
theorem star_bd (x : Rex) : ∀ n, bd (wrapN starR x n) = bd x + n
  | 0 => rfl
  | n + 1 => by simp only [wrapN, starR, bd, star_bd x n, List.map_cons, List.map_nil, List.sum_cons, List.sum_nil, List.length_cons, List.length_nil]; omega
theorem cat_bd (x : Rex) : ∀ n, bd (wrapN catR x n) + 2 = (bd x + 2) * 2 ^ n
  | 0 => by simp [wrapN]
  | n + 1 => by
    have := cat_bd x n
    simp only [wrapN, catR, bd, List.map_cons, List.map_nil, List.sum_cons, List.sum_nil, List.length_cons, List.length_nil]
    rw [Nat.pow_succ, ← Nat.mul_assoc, ← this]
    omega
/-- One, sometimes bent. -/
def bentV (b : List UInt8) (p : Nat) : Rex × Nat :=
  if pickV b (someV b p).2 48 = 0 then (.mk (numV b ((someV b p).2 + 1) kin4) (someV b p).1.set (someV b p).1.kids, (someV b p).2 + 1 + 1)
  else if pickV b (someV b p).2 48 = 1 then (.mk (someV b p).1.kind [⟨5, 4⟩] (someV b p).1.kids, (someV b p).2 + 1)
  else if pickV b (someV b p).2 48 = 2 then (wrapN starR (someV b p).1 9, (someV b p).2 + 1)
  else if pickV b (someV b p).2 48 = 3 then (wrapN catR (someV b p).1 5, (someV b p).2 + 1)
  else ((someV b p).1, (someV b p).2 + 1)
theorem bentV_le (b : List UInt8) (p : Nat) : (bentV b p).2 ≤ p + 700 ∧ bd (bentV b p).1 ≤ 1048576 := by
  have h := someV_le b p
  unfold bentV
  generalize someV b p = x at *
  have h2 := bd_eq x.1
  split
  · exact ⟨by simp only; omega, by simp only [bd]; omega⟩
  · split
    · exact ⟨by simp only; omega, by simp only [bd, List.length_singleton]; omega⟩
    · split
      · exact ⟨by simp only; omega, by simp only [star_bd]; omega⟩
      · split
        · have := cat_bd x.1 5
          exact ⟨by simp only; omega, by simp only; omega⟩
        · exact ⟨by simp only; omega, by simp only; omega⟩
/-- spec.l2Bent -/
theorem fits_l2Bent (b : List UInt8) (hb : b.length ≤ 2000) (p : Nat) (hp : p ≤ 600000) : Fits prog 69 [.box (eRd b p)] (eRex true (bentV b p).1) [.box (eRd b (bentV b p).2)] := by
  have cS := fits_l2Some b hb p (by omega)
  have hl := someV_le b p
  unfold bentV
  generalize someV b p = x at *
  have c1 : Fits prog 75 [.box (eRd b x.2), .int .i64 48] (.int .i64 (pickV b x.2 48)) [.box (eRd b (x.2 + 1))] := fits_pick b hb x.2 (by omega) 48 (by omega) (by omega)
  have cN := fits_num b hb (x.2 + 1) (by omega) kin4 (by decide) (by decide)
  generalize pickV b x.2 48 = k at *
  generalize numV b (x.2 + 1) kin4 = kk at *
  have cC := fun n (hn : n ≤ 5) => fits_l2Copy (wrapN catR x.1 n) (by
    have h1 := cat_bd x.1 n
    have h2 : 2 ^ n ≤ 2 ^ 5 := Nat.pow_le_pow_right (by omega) hn
    have h3 : (bd x.1 + 2) * 2 ^ n ≤ 16386 * 2 ^ 5 := Nat.mul_le_mul (by omega) h2
    omega)
  by_cases g0 : k = 0
  · subst g0
    rw [if_pos rfl, eRex_eq]
    show Fits prog _ _ (.agg [.int .i64 kk, .sl true 2 (x.1.set.map eSpan), .sl true 3 (x.1.kids.map (eRex true))]) _
    rw [eRex_eq] at cS
    unfold eRd at *
    refine fits_of_cell 2 26 [0] [0, 2, 3, 4, 5, 9, 10, 16, 21, 24, 30, 33] func69 rfl rfl rfl (by show 2 < 42; decide) (by show 1 ≤ 42; decide) (by rfl) (by rfl) (by show 1 ≤ 1; decide) (by rfl) (run_of ?_)
    simp -implicitDefEqProofs (maxSteps := 100000) (disch := first | (intros; contradiction) | omega) only [am0, am1, am2, am3, am4, am5, am6, am7, am8, am9, Nat.reduceSub, ↓reduceIte, reduceCtorEq, Nat.reduceEqDiff, Nat.reduceBEq, Nat.reduceAdd, Nat.reduceLT, Nat.reduceBNe, Nat.reduceMul, ↓reduceIte, tis, fls, rx]
    refine callM 0 cS ?_
    simp -implicitDefEqProofs (maxSteps := 100000) (disch := first | (intros; contradiction) | omega) only [am0, am1, am2, am3, am4, am5, am6, am7, am8, am9, Nat.reduceSub, ↓reduceIte, reduceCtorEq, Nat.reduceEqDiff, Nat.reduceBEq, Nat.reduceAdd, Nat.reduceLT, Nat.reduceBNe, Nat.reduceMul, ↓reduceIte, tis, fls, rx, List.dropLast_singleton]
    refine callM 0 c1 ?_
    simp -implicitDefEqProofs (maxSteps := 100000) (disch := first | (intros; contradiction) | omega) only [am0, am1, am2, am3, am4, am5, am6, am7, am8, am9, Nat.reduceSub, ↓reduceIte, reduceCtorEq, Nat.reduceEqDiff, Nat.reduceBEq, Nat.reduceAdd, Nat.reduceLT, Nat.reduceBNe, Nat.reduceMul, ↓reduceIte, tis, fls, rx, List.dropLast_singleton]
    refine callMF [(13, [])] 0 cN ?_
    simp -implicitDefEqProofs (maxSteps := 100000) (disch := first | (intros; contradiction) | omega) only [am0, am1, am2, am3, am4, am5, am6, am7, am8, am9, Nat.reduceSub, ↓reduceIte, reduceCtorEq, Nat.reduceEqDiff, Nat.reduceBEq, Nat.reduceAdd, Nat.reduceLT, Nat.reduceBNe, Nat.reduceMul, ↓reduceIte, tis, fls, rx, List.dropLast_singleton, kin4, eInt]
  rw [if_neg g0]
  have i0 : ¬ ((k : Int) = 0) := by omega
  by_cases g1 : k = 1
  · subst g1
    rw [if_pos rfl, eRex_eq]
    show Fits prog _ _ (.agg [.int .i64 x.1.kind, .sl true 2 ([⟨5, 4⟩].map eSpan), .sl true 3 (x.1.kids.map (eRex true))]) _
    rw [eRex_eq] at cS
    unfold eRd at *
    refine fits_of_cell 2 26 [0] [0, 2, 3, 4, 5, 9, 10, 16, 21, 24, 30, 33] func69 rfl rfl rfl (by show 2 < 42; decide) (by show 1 ≤ 42; decide) (by rfl) (by rfl) (by show 1 ≤ 1; decide) (by rfl) (run_of ?_)
    simp -implicitDefEqProofs (maxSteps := 100000) (disch := first | (intros; contradiction) | omega) only [am0, am1, am2, am3, am4, am5, am6, am7, am8, am9, Nat.reduceSub, ↓reduceIte, reduceCtorEq, Nat.reduceEqDiff, Nat.reduceBEq, Nat.reduceAdd, Nat.reduceLT, Nat.reduceBNe, Nat.reduceMul, ↓reduceIte, tis, fls, rx, eSpan]
    refine callM 0 cS ?_
    simp -implicitDefEqProofs (maxSteps := 100000) (disch := first | (intros; contradiction) | omega) only [am0, am1, am2, am3, am4, am5, am6, am7, am8, am9, Nat.reduceSub, ↓reduceIte, reduceCtorEq, Nat.reduceEqDiff, Nat.reduceBEq, Nat.reduceAdd, Nat.reduceLT, Nat.reduceBNe, Nat.reduceMul, ↓reduceIte, tis, fls, rx, List.dropLast_singleton]
    refine callM 0 c1 ?_
    simp -implicitDefEqProofs (maxSteps := 100000) (disch := first | (intros; contradiction) | omega) only [am0, am1, am2, am3, am4, am5, am6, am7, am8, am9, Nat.reduceSub, ↓reduceIte, reduceCtorEq, Nat.reduceEqDiff, Nat.reduceBEq, Nat.reduceAdd, Nat.reduceLT, Nat.reduceBNe, Nat.reduceMul, ↓reduceIte, tis, fls, rx, List.dropLast_singleton]
  rw [if_neg g1]
  have i1 : ¬ ((k : Int) = 1) := by omega
  by_cases g2 : k = 2
  · subst g2
    rw [if_pos rfl]
    have hW : ∀ n, eRex true (wrapN starR x.1 (n + 1)) = .agg [.int .i64 5, .sl true 2 [], .sl true 3 [eRex true (wrapN starR x.1 n)]] := fun n => by rw [eRex_eq]; rfl
    have hW0 : wrapN starR x.1 0 = x.1 := rfl
    rw [eRex_eq] at *
    unfold eRd at *
    refine fits_of_cell 2 26 [0] [0, 2, 3, 4, 5, 9, 10, 16, 21, 24, 30, 33] func69 rfl rfl rfl (by show 2 < 42; decide) (by show 1 ≤ 42; decide) (by rfl) (by rfl) (by show 1 ≤ 1; decide) (by rfl) (run_of ?_)
    simp -implicitDefEqProofs (maxSteps := 100000) (disch := first | (intros; contradiction) | omega) only [am0, am1, am2, am3, am4, am5, am6, am7, am8, am9, Nat.reduceSub, ↓reduceIte, reduceCtorEq, Nat.reduceEqDiff, Nat.reduceBEq, Nat.reduceAdd, Nat.reduceLT, Nat.reduceBNe, Nat.reduceMul, ↓reduceIte, tis, fls, rx]
    refine callM 0 cS ?_
    simp -implicitDefEqProofs (maxSteps := 100000) (disch := first | (intros; contradiction) | omega) only [am0, am1, am2, am3, am4, am5, am6, am7, am8, am9, Nat.reduceSub, ↓reduceIte, reduceCtorEq, Nat.reduceEqDiff, Nat.reduceBEq, Nat.reduceAdd, Nat.reduceLT, Nat.reduceBNe, Nat.reduceMul, ↓reduceIte, tis, fls, rx, List.dropLast_singleton]
    refine callM 0 c1 ?_
    simp -implicitDefEqProofs (maxSteps := 100000) (disch := first | (intros; contradiction) | omega) only [am0, am1, am2, am3, am4, am5, am6, am7, am8, am9, Nat.reduceSub, ↓reduceIte, reduceCtorEq, Nat.reduceEqDiff, Nat.reduceBEq, Nat.reduceAdd, Nat.reduceLT, Nat.reduceBNe, Nat.reduceMul, ↓reduceIte, tis, fls, rx, List.dropLast_singleton]
    refine run_loop (α := Nat) (fun j => j ≤ 9) (fun j => [(0, .box (.agg [.sl false 1 (bytesA b), .int .i64 (x.2 + 1 : Nat)])), (2, .box (.agg [.int .i64 0, .sl true 0 [], .sl true 0 []])), (3, .box (.agg [.int .i64 (wrapN starR x.1 j).kind, .sl true 2 ((wrapN starR x.1 j).set.map eSpan), .sl true 3 ((wrapN starR x.1 j).kids.map (eRex true))])), (4, .int .i64 j)]) (fun j => 9 - j) 0 (Nat.zero_le _) ?_ ?_
    · simp -implicitDefEqProofs (maxSteps := 100000) (disch := first | (intros; contradiction) | omega) only [am0, am1, am2, am3, am4, am5, am6, am7, am8, am9, Nat.reduceSub, ↓reduceIte, reduceCtorEq, Nat.reduceEqDiff, Nat.reduceBEq, Nat.reduceAdd, Nat.reduceLT, Nat.reduceBNe, Nat.reduceMul, ↓reduceIte, tis, fls, rx, hW0]
    · intro j hj'
      by_cases hj : j < 9
      · simp -implicitDefEqProofs (maxSteps := 100000) (disch := first | (intros; contradiction) | omega) only [am0, am1, am2, am3, am4, am5, am6, am7, am8, am9, Nat.reduceSub, ↓reduceIte, reduceCtorEq, Nat.reduceEqDiff, Nat.reduceBEq, Nat.reduceAdd, Nat.reduceLT, Nat.reduceBNe, Nat.reduceMul, ↓reduceIte, tis, fls, rx]
        refine round_normal (j + 1) (by omega) ?_ (by show 9 - (j + 1) < 9 - j; omega)
        simp -implicitDefEqProofs (maxSteps := 100000) (disch := first | (intros; contradiction) | omega) only [am0, am1, am2, am3, am4, am5, am6, am7, am8, am9, Nat.reduceSub, ↓reduceIte, reduceCtorEq, Nat.reduceEqDiff, Nat.reduceBEq, Nat.reduceAdd, Nat.reduceLT, Nat.reduceBNe, Nat.reduceMul, ↓reduceIte, tis, fls, rx]
        refine ⟨rfl, rfl, ?_⟩
        show _ = [eRex true (wrapN starR x.1 j)]
        rw [eRex_eq]
      · obtain rfl : j = 9 := by omega
        simp -implicitDefEqProofs (maxSteps := 100000) (disch := first | (intros; contradiction) | omega) only [am0, am1, am2, am3, am4, am5, am6, am7, am8, am9, Nat.reduceSub, ↓reduceIte, reduceCtorEq, Nat.reduceEqDiff, Nat.reduceBEq, Nat.reduceAdd, Nat.reduceLT, Nat.reduceBNe, Nat.reduceMul, ↓reduceIte, tis, fls, rx]
  rw [if_neg g2]
  have i2 : ¬ ((k : Int) = 2) := by omega
  by_cases g3 : k = 3
  · subst g3
    rw [if_pos rfl]
    have hW0 : wrapN catR x.1 0 = x.1 := rfl
    rw [eRex_eq] at *
    unfold eRd at *
    refine fits_of_cell 2 26 [0] [0, 2, 3, 4, 5, 9, 10, 16, 21, 24, 30, 33] func69 rfl rfl rfl (by show 2 < 42; decide) (by show 1 ≤ 42; decide) (by rfl) (by rfl) (by show 1 ≤ 1; decide) (by rfl) (run_of ?_)
    simp -implicitDefEqProofs (maxSteps := 100000) (disch := first | (intros; contradiction) | omega) only [am0, am1, am2, am3, am4, am5, am6, am7, am8, am9, Nat.reduceSub, ↓reduceIte, reduceCtorEq, Nat.reduceEqDiff, Nat.reduceBEq, Nat.reduceAdd, Nat.reduceLT, Nat.reduceBNe, Nat.reduceMul, ↓reduceIte, tis, fls, rx]
    refine callM 0 cS ?_
    simp -implicitDefEqProofs (maxSteps := 100000) (disch := first | (intros; contradiction) | omega) only [am0, am1, am2, am3, am4, am5, am6, am7, am8, am9, Nat.reduceSub, ↓reduceIte, reduceCtorEq, Nat.reduceEqDiff, Nat.reduceBEq, Nat.reduceAdd, Nat.reduceLT, Nat.reduceBNe, Nat.reduceMul, ↓reduceIte, tis, fls, rx, List.dropLast_singleton]
    refine callM 0 c1 ?_
    simp -implicitDefEqProofs (maxSteps := 100000) (disch := first | (intros; contradiction) | omega) only [am0, am1, am2, am3, am4, am5, am6, am7, am8, am9, Nat.reduceSub, ↓reduceIte, reduceCtorEq, Nat.reduceEqDiff, Nat.reduceBEq, Nat.reduceAdd, Nat.reduceLT, Nat.reduceBNe, Nat.reduceMul, ↓reduceIte, tis, fls, rx, List.dropLast_singleton]
    refine run_loop (α := Nat) (fun j => j ≤ 5) (fun j => [(0, .box (.agg [.sl false 1 (bytesA b), .int .i64 (x.2 + 1 : Nat)])), (2, .box (.agg [.int .i64 0, .sl true 0 [], .sl true 0 []])), (3, .box (.agg [.int .i64 (wrapN catR x.1 j).kind, .sl true 2 ((wrapN catR x.1 j).set.map eSpan), .sl true 3 ((wrapN catR x.1 j).kids.map (eRex true))])), (5, .int .i64 j)]) (fun j => 5 - j) 0 (Nat.zero_le _) ?_ ?_
    · simp -implicitDefEqProofs (maxSteps := 100000) (disch := first | (intros; contradiction) | omega) only [am0, am1, am2, am3, am4, am5, am6, am7, am8, am9, Nat.reduceSub, ↓reduceIte, reduceCtorEq, Nat.reduceEqDiff, Nat.reduceBEq, Nat.reduceAdd, Nat.reduceLT, Nat.reduceBNe, Nat.reduceMul, ↓reduceIte, tis, fls, rx, hW0]
    · intro j hj'
      by_cases hj : j < 5
      · have cC := cC j (by omega)
        rw [eRex_eq, eRex_eq] at cC
        simp -implicitDefEqProofs (maxSteps := 100000) (disch := first | (intros; contradiction) | omega) only [am0, am1, am2, am3, am4, am5, am6, am7, am8, am9, Nat.reduceSub, ↓reduceIte, reduceCtorEq, Nat.reduceEqDiff, Nat.reduceBEq, Nat.reduceAdd, Nat.reduceLT, Nat.reduceBNe, Nat.reduceMul, ↓reduceIte, tis, fls, rx]
        refine .inr (run_mix 999999 [39] [999999] (by kernel_rfl) ?_)
        simp -implicitDefEqProofs (maxSteps := 100000) (disch := first | (intros; contradiction) | omega) only [am0, am1, am2, am3, am4, am5, am6, am7, am8, am9, Nat.reduceSub, ↓reduceIte, reduceCtorEq, Nat.reduceEqDiff, Nat.reduceBEq, Nat.reduceAdd, Nat.reduceLT, Nat.reduceBNe, Nat.reduceMul, ↓reduceIte, tis, fls, rx]
        refine callL cC ?_
        simp -implicitDefEqProofs (maxSteps := 100000) (disch := first | (intros; contradiction) | omega) only [am0, am1, am2, am3, am4, am5, am6, am7, am8, am9, Nat.reduceSub, ↓reduceIte, reduceCtorEq, Nat.reduceEqDiff, Nat.reduceBEq, Nat.reduceAdd, Nat.reduceLT, Nat.reduceBNe, Nat.reduceMul, ↓reduceIte, tis, fls, rx]
        refine round_normal (j + 1) (by omega) ?_ (by show 5 - (j + 1) < 5 - j; omega)
        simp -implicitDefEqProofs (maxSteps := 100000) (disch := first | (intros; contradiction) | omega) only [am0, am1, am2, am3, am4, am5, am6, am7, am8, am9, Nat.reduceSub, ↓reduceIte, reduceCtorEq, Nat.reduceEqDiff, Nat.reduceBEq, Nat.reduceAdd, Nat.reduceLT, Nat.reduceBNe, Nat.reduceMul, ↓reduceIte, tis, fls, rx]
        refine ⟨rfl, rfl, ?_⟩
        show _ = [eRex true (wrapN catR x.1 j), eRex true (wrapN catR x.1 j)]
        rw [eRex_eq]
      · obtain rfl : j = 5 := by omega
        simp -implicitDefEqProofs (maxSteps := 100000) (disch := first | (intros; contradiction) | omega) only [am0, am1, am2, am3, am4, am5, am6, am7, am8, am9, Nat.reduceSub, ↓reduceIte, reduceCtorEq, Nat.reduceEqDiff, Nat.reduceBEq, Nat.reduceAdd, Nat.reduceLT, Nat.reduceBNe, Nat.reduceMul, ↓reduceIte, tis, fls, rx]
  rw [if_neg g3]
  have i3 : ¬ ((k : Int) = 3) := by omega
  rw [eRex_eq] at *
  unfold eRd at *
  refine fits_of_cell 2 26 [0] [0, 2, 3, 4, 5, 9, 10, 16, 21, 24, 30, 33] func69 rfl rfl rfl (by show 2 < 42; decide) (by show 1 ≤ 42; decide) (by rfl) (by rfl) (by show 1 ≤ 1; decide) (by rfl) (run_of ?_)
  simp -implicitDefEqProofs (maxSteps := 100000) (disch := first | (intros; contradiction) | omega) only [am0, am1, am2, am3, am4, am5, am6, am7, am8, am9, Nat.reduceSub, ↓reduceIte, reduceCtorEq, Nat.reduceEqDiff, Nat.reduceBEq, Nat.reduceAdd, Nat.reduceLT, Nat.reduceBNe, Nat.reduceMul, ↓reduceIte, tis, fls, rx]
  refine callM 0 cS ?_
  simp -implicitDefEqProofs (maxSteps := 100000) (disch := first | (intros; contradiction) | omega) only [am0, am1, am2, am3, am4, am5, am6, am7, am8, am9, Nat.reduceSub, ↓reduceIte, reduceCtorEq, Nat.reduceEqDiff, Nat.reduceBEq, Nat.reduceAdd, Nat.reduceLT, Nat.reduceBNe, Nat.reduceMul, ↓reduceIte, tis, fls, rx, List.dropLast_singleton]
  refine callM 0 c1 ?_
  simp -implicitDefEqProofs (maxSteps := 100000) (disch := first | (intros; contradiction) | omega) only [am0, am1, am2, am3, am4, am5, am6, am7, am8, am9, Nat.reduceSub, ↓reduceIte, reduceCtorEq, Nat.reduceEqDiff, Nat.reduceBEq, Nat.reduceAdd, Nat.reduceLT, Nat.reduceBNe, Nat.reduceMul, ↓reduceIte, tis, fls, rx, List.dropLast_singleton, i0, i1, i2, i3]
theorem take_len (c : List UInt8) : (c.take 2000).length ≤ 2000 := by simp; omega
/-- What is drawn is right. -/
theorem leafV_ok (b : List UInt8) (p : Nat) : Okr (leafV b p).1 ∧ ps (leafV b p).1 = 1 := by
  have hby : ∀ n : Int, 0 ≤ n ∧ n ≤ 255 → Okr (byteR n) ∧ ps (byteR n) = 1 := fun n hn => by
    have hs : setB [⟨n, n⟩] = true := by
      refine setB_true (fun i hi => ?_)
      have h0 : i = 0 := by simp at hi; exact hi
      subst h0
      rw [setN_0 hi rfl]; simp; omega
    unfold byteR
    exact ⟨okr_set hs, by rw [ps_eq]; rfl⟩
  unfold leafV
  split
  · exact ⟨okr_emp, by rw [ps_eq]; rfl⟩
  · split
    · exact ⟨okr_set (by decide), by rw [ps_eq]; rfl⟩
    · split
      · exact ⟨okr_set (setB_spansL _), by rw [ps_eq]; rfl⟩
      · split
        · split
          · exact ⟨okr_set rfl, by rw [ps_eq]; rfl⟩
          · have := pickV_lt b (p + 1 + 1) (n := 3) (by omega)
            exact hby _ (by omega)
        · have := pickV_lt b (p + 1) (n := 3) (by omega)
          exact hby _ (by omega)
theorem someV_ok (b : List UInt8) (p : Nat) : Okr (someV b p).1 ∧ ps (someV b p).1 ≤ 24 := by
  unfold someV
  split
  · rename_i h
    simp only [rexB, Bool.and_eq_true, decide_eq_true_eq] at h
    exact ⟨⟨8, h.1⟩, h.2⟩
  · have := leafV_ok b (rexV b (1 + pickV b p 3) (p + 1)).2
    exact ⟨this.1, by omega⟩
theorem normR_bd (r : Rex) : Okr r → bd (normR r) ≤ bd r + 260 * ps r := by
  induction r using Rex.ind' with
  | h r ih =>
    intro hr
    rw [normR_eq]
    have hps := ps_eq r
    by_cases h2 : r.kind = 3 ∨ r.kind = 4 ∨ r.kind = 6
    · obtain ⟨a, b, e, ha, hb, hl⟩ := okr_kids2 hr h2
      have p1 := (normR_ok a ha).1
      have p2 := ih a (by rw [e]; simp) ha
      have q1 := (normR_ok b hb).1
      have q2 := ih b (by rw [e]; simp) hb
      rw [e] at hps ⊢
      simp only [List.map_cons, List.map_nil, List.getD_cons_zero, List.getD_cons_succ, List.sum_cons, List.sum_nil] at *
      have c1 := (catN_ok (normR a) (normR b) p1 q1).2
      have c2 := (orN_ok p1 q1).2
      have c3 := (andN_ok p1 q1).2
      rcases h2 with h | h | h
      · rw [if_pos h]; omega
      · rw [if_neg (by omega), if_pos h]; omega
      · rw [if_neg (by omega), if_neg (by omega), if_pos h]; omega
    · simp only [not_or] at h2
      rw [if_neg h2.1, if_neg h2.2.1, if_neg h2.2.2]
      by_cases h1 : r.kind = 5 ∨ r.kind = 7
      · obtain ⟨a, e, ha, hl⟩ := okr_kids1 hr h1
        have p1 := (normR_ok a ha).1
        have p2 := ih a (by rw [e]; simp) ha
        rw [e] at hps ⊢
        simp only [List.map_cons, List.map_nil, List.getD_cons_zero, List.sum_cons, List.sum_nil] at *
        have c1 := (starN_ok p1).2
        have c2 := (notN_ok p1).2
        rcases h1 with h | h
        · rw [if_pos h]; omega
        · rw [if_neg (by omega), if_pos h]; omega
      · simp only [not_or] at h1
        rw [if_neg h1.1, if_neg h1.2]
        omega
/-- Two, as they are drawn. -/
def twoV (b : List UInt8) : Rex × Rex :=
  let x := someV b 0
  let y := someV b x.2
  let m := pickV b y.2 6
  if m = 0 then (x.1, normR x.1) else if m = 1 then (x.1, .mk 4 [] [x.1, x.1]) else if m = 2 then (x.1, .mk 5 [] [x.1]) else if m = 3 ∧ pickV b (y.2 + 1) 4 = 0 then ((bentV b (y.2 + 1 + 1)).1, y.1) else (x.1, y.1)
theorem twoV_bd (b : List UInt8) : bd (twoV b).1 + bd (twoV b).2 ≤ 1048576 + 16384 + 2 ∧ (bd (twoV b).1 ≤ 1048576) ∧ bd (twoV b).2 ≤ 100000 := by
  have h1 := (someV_le b 0).2
  have h2 := (someV_le b (someV b 0).2).2
  have h3 := (bentV_le b ((someV b (someV b 0).2).2 + 1 + 1)).2
  obtain ⟨k1, k2⟩ := someV_ok b 0
  have h4 := normR_bd _ k1
  have e4 : bd (.mk 4 [] [(someV b 0).1, (someV b 0).1]) = 2 + (bd (someV b 0).1 + bd (someV b 0).1) := by rw [bd_eq]; simp [Rex.set, Rex.kids]
  have e5 : bd (.mk 5 [] [(someV b 0).1]) = 1 + bd (someV b 0).1 := by rw [bd_eq]; simp [Rex.set, Rex.kids]
  unfold twoV
  simp only
  split
  · simp only; omega
  · split
    · simp only; omega
    · split
      · simp only; omega
      · split
        · simp only; omega
        · simp only; omega
/-- spec.l12Two -/
theorem fits_l12Two (c : List UInt8) (hc : c.length ≤ 9223372036854775807) : Fits prog 118 [.sl false 1 (bytesA c)] (.tup [eRex false (twoV (c.take 2000)).1, eRex false (twoV (c.take 2000)).2]) [] := by
  have cO := fits_open c hc
  have hb := take_len c
  generalize c.take 2000 = b at *
  have c1 := fits_l2Some b hb 0 (by omega)
  have h1 := someV_le b 0
  obtain ⟨k1, k2⟩ := someV_ok b 0
  unfold twoV
  simp only
  generalize hx : someV b 0 = x at *
  have c2 := fits_l2Some b hb x.2 (by omega)
  have h2 := someV_le b x.2
  generalize hy : someV b x.2 = y at *
  have cP : Fits prog 75 [.box (eRd b y.2), .int .i64 6] (.int .i64 (pickV b y.2 6)) [.box (eRd b (y.2 + 1))] := fits_pick b hb y.2 (by omega) 6 (by omega) (by omega)
  have hP := pickV_lt b y.2 (n := 6) (by omega)
  have cC := fits_l2Copy x.1 (by omega)
  have cN := fits_l4Norm x.1 k1 (by omega)
  have cQ : Fits prog 75 [.box (eRd b (y.2 + 1)), .int .i64 4] (.int .i64 (pickV b (y.2 + 1) 4)) [.box (eRd b (y.2 + 1 + 1))] := fits_pick b hb (y.2 + 1) (by omega) 4 (by omega) (by omega)
  have cB := fits_l2Bent b hb (y.2 + 1 + 1) (by omega)
  generalize pickV b y.2 6 = m at *
  generalize pickV b (y.2 + 1) 4 = q at *
  generalize bentV b (y.2 + 1 + 1) = z at *
  obtain ⟨x1, x2⟩ := x
  obtain ⟨y1, y2⟩ := y
  obtain ⟨z1, z2⟩ := z
  simp only at *
  rw [eRex_eq true x1] at c1
  rw [eRex_eq true y1] at c2
  rw [eRex_eq false x1, eRex_eq true x1] at cC
  by_cases m0 : m = 0
  · rw [if_pos m0]
    generalize normR x1 = n1 at *
    rw [eRex_eq false x1, eRex_eq false n1] at cN
    simp only
    rw [eRex_eq false x1, eRex_eq false n1]
    unfold eRd at *
    refine fits_of_cc 2 26 3 26 (by decide) [] [0, 2, 3, 4, 5, 6, 14, 15, 20, 27, 33, 37] func118 rfl rfl rfl (by show 2 < 43; decide) (by show 3 < 43; decide) (by show 1 ≤ 43; decide) (by rfl) (by rfl) (by show 0 ≤ 1; decide) (by rfl) (run_of ?_)
    simp -implicitDefEqProofs (maxSteps := 100000) (disch := first | (intros; contradiction) | omega) only [am0, am1, am2, am3, am4, am5, am6, am7, am8, am9, Nat.reduceSub, ↓reduceIte, reduceCtorEq, Nat.reduceEqDiff, Nat.reduceBEq, Nat.reduceAdd, Nat.reduceLT, Nat.reduceBNe, Nat.reduceMul, ↓reduceIte, tis, fls, rx]
    refine callB cO ?_
    simp -implicitDefEqProofs (maxSteps := 100000) (disch := first | (intros; contradiction) | omega) only [am0, am1, am2, am3, am4, am5, am6, am7, am8, am9, Nat.reduceSub, ↓reduceIte, reduceCtorEq, Nat.reduceEqDiff, Nat.reduceBEq, Nat.reduceAdd, Nat.reduceLT, Nat.reduceBNe, Nat.reduceMul, ↓reduceIte, tis, fls, rx]
    refine callM 0 c1 ?_
    simp -implicitDefEqProofs (maxSteps := 100000) (disch := first | (intros; contradiction) | omega) only [am0, am1, am2, am3, am4, am5, am6, am7, am8, am9, Nat.reduceSub, ↓reduceIte, reduceCtorEq, Nat.reduceEqDiff, Nat.reduceBEq, Nat.reduceAdd, Nat.reduceLT, Nat.reduceBNe, Nat.reduceMul, ↓reduceIte, tis, fls, rx, List.dropLast_singleton]
    refine callM 0 c2 ?_
    simp -implicitDefEqProofs (maxSteps := 100000) (disch := first | (intros; contradiction) | omega) only [am0, am1, am2, am3, am4, am5, am6, am7, am8, am9, Nat.reduceSub, ↓reduceIte, reduceCtorEq, Nat.reduceEqDiff, Nat.reduceBEq, Nat.reduceAdd, Nat.reduceLT, Nat.reduceBNe, Nat.reduceMul, ↓reduceIte, tis, fls, rx, List.dropLast_singleton]
    refine callMF [(5, [0]), (6, [0])] 0 cP ?_
    simp -implicitDefEqProofs (maxSteps := 100000) (disch := first | (intros; contradiction) | omega) only [am0, am1, am2, am3, am4, am5, am6, am7, am8, am9, Nat.reduceSub, ↓reduceIte, reduceCtorEq, Nat.reduceEqDiff, Nat.reduceBEq, Nat.reduceAdd, Nat.reduceLT, Nat.reduceBNe, Nat.reduceMul, ↓reduceIte, tis, fls, rx, List.dropLast_singleton, m0]
    refine callB cC ?_
    simp -implicitDefEqProofs (maxSteps := 100000) (disch := first | (intros; contradiction) | omega) only [am0, am1, am2, am3, am4, am5, am6, am7, am8, am9, Nat.reduceSub, ↓reduceIte, reduceCtorEq, Nat.reduceEqDiff, Nat.reduceBEq, Nat.reduceAdd, Nat.reduceLT, Nat.reduceBNe, Nat.reduceMul, ↓reduceIte, tis, fls, rx, List.dropLast_singleton]
    refine callF [(18, [])] cN ?_
    simp -implicitDefEqProofs (maxSteps := 100000) (disch := first | (intros; contradiction) | omega) only [am0, am1, am2, am3, am4, am5, am6, am7, am8, am9, Nat.reduceSub, ↓reduceIte, reduceCtorEq, Nat.reduceEqDiff, Nat.reduceBEq, Nat.reduceAdd, Nat.reduceLT, Nat.reduceBNe, Nat.reduceMul, ↓reduceIte, tis, fls, rx, List.dropLast_singleton]
    refine .inr (run_mixl 6999999 [] [2] 3 [[]] (by kernel_rfl) ?_)
    simp -implicitDefEqProofs (maxSteps := 100000) (disch := first | (intros; contradiction) | omega) only [am0, am1, am2, am3, am4, am5, am6, am7, am8, am9, Nat.reduceSub, ↓reduceIte, reduceCtorEq, Nat.reduceEqDiff, Nat.reduceBEq, Nat.reduceAdd, Nat.reduceLT, Nat.reduceBNe, Nat.reduceMul, ↓reduceIte, tis, fls, rx, retCC]
    done
  rw [if_neg m0]
  have n0 : ¬ ((m : Int) = 0) := by omega
  by_cases m1 : m = 1
  · rw [if_pos m1]
    simp only
    refine fits_as (res := .tup [.agg [.int .i64 x1.kind, .sl false 2 (x1.set.map eSpan), .sl false 3 (x1.kids.map (eRex false))], .agg [.int .i64 4, .sl true 2 [], .sl true 3 [.agg [.int .i64 x1.kind, .sl false 2 (x1.set.map eSpan), .sl false 3 (x1.kids.map (eRex false))], .agg [.int .i64 x1.kind, .sl true 2 (x1.set.map eSpan), .sl true 3 (x1.kids.map (eRex true))]]]]) ?_ (by
      rw [eRex_eq false (.mk 4 [] [x1, x1]), ← eRex_eq true, ← eRex_eq false x1]
      simp [erase, eraseL, mk_kind, mk_set, mk_kids, er_rex])
    unfold eRd at *
    refine fits_of_cc 2 26 3 26 (by decide) [] [0, 2, 3, 4, 5, 6, 14, 15, 20, 27, 33, 37] func118 rfl rfl rfl (by show 2 < 43; decide) (by show 3 < 43; decide) (by show 1 ≤ 43; decide) (by rfl) (by rfl) (by show 0 ≤ 1; decide) (by rfl) (run_of ?_)
    simp -implicitDefEqProofs (maxSteps := 100000) (disch := first | (intros; contradiction) | omega) only [am0, am1, am2, am3, am4, am5, am6, am7, am8, am9, Nat.reduceSub, ↓reduceIte, reduceCtorEq, Nat.reduceEqDiff, Nat.reduceBEq, Nat.reduceAdd, Nat.reduceLT, Nat.reduceBNe, Nat.reduceMul, ↓reduceIte, tis, fls, rx]
    refine callB cO ?_
    simp -implicitDefEqProofs (maxSteps := 100000) (disch := first | (intros; contradiction) | omega) only [am0, am1, am2, am3, am4, am5, am6, am7, am8, am9, Nat.reduceSub, ↓reduceIte, reduceCtorEq, Nat.reduceEqDiff, Nat.reduceBEq, Nat.reduceAdd, Nat.reduceLT, Nat.reduceBNe, Nat.reduceMul, ↓reduceIte, tis, fls, rx]
    refine callM 0 c1 ?_
    simp -implicitDefEqProofs (maxSteps := 100000) (disch := first | (intros; contradiction) | omega) only [am0, am1, am2, am3, am4, am5, am6, am7, am8, am9, Nat.reduceSub, ↓reduceIte, reduceCtorEq, Nat.reduceEqDiff, Nat.reduceBEq, Nat.reduceAdd, Nat.reduceLT, Nat.reduceBNe, Nat.reduceMul, ↓reduceIte, tis, fls, rx, List.dropLast_singleton]
    refine callM 0 c2 ?_
    simp -implicitDefEqProofs (maxSteps := 100000) (disch := first | (intros; contradiction) | omega) only [am0, am1, am2, am3, am4, am5, am6, am7, am8, am9, Nat.reduceSub, ↓reduceIte, reduceCtorEq, Nat.reduceEqDiff, Nat.reduceBEq, Nat.reduceAdd, Nat.reduceLT, Nat.reduceBNe, Nat.reduceMul, ↓reduceIte, tis, fls, rx, List.dropLast_singleton]
    refine callMF [(5, [0]), (6, [0])] 0 cP ?_
    simp -implicitDefEqProofs (maxSteps := 100000) (disch := first | (intros; contradiction) | omega) only [am0, am1, am2, am3, am4, am5, am6, am7, am8, am9, Nat.reduceSub, ↓reduceIte, reduceCtorEq, Nat.reduceEqDiff, Nat.reduceBEq, Nat.reduceAdd, Nat.reduceLT, Nat.reduceBNe, Nat.reduceMul, ↓reduceIte, tis, fls, rx, List.dropLast_singleton, m1]
    refine .inl ⟨by kernel_rfl, ?_⟩
    refine callL cC ?_
    simp -implicitDefEqProofs (maxSteps := 100000) (disch := first | (intros; contradiction) | omega) only [am0, am1, am2, am3, am4, am5, am6, am7, am8, am9, Nat.reduceSub, ↓reduceIte, reduceCtorEq, Nat.reduceEqDiff, Nat.reduceBEq, Nat.reduceAdd, Nat.reduceLT, Nat.reduceBNe, Nat.reduceMul, ↓reduceIte, tis, fls, rx, List.dropLast_singleton]
    refine .inr (run_mixl 6999999 [] [2] 3 [[]] (by kernel_rfl) ?_)
    simp -implicitDefEqProofs (maxSteps := 100000) (disch := first | (intros; contradiction) | omega) only [am0, am1, am2, am3, am4, am5, am6, am7, am8, am9, Nat.reduceSub, ↓reduceIte, reduceCtorEq, Nat.reduceEqDiff, Nat.reduceBEq, Nat.reduceAdd, Nat.reduceLT, Nat.reduceBNe, Nat.reduceMul, ↓reduceIte, tis, fls, rx, retCC]
    done
  rw [if_neg m1]
  have n1 : ¬ ((m : Int) = 1) := by omega
  by_cases m2 : m = 2
  · rw [if_pos m2]
    simp only
    refine fits_as (res := .tup [.agg [.int .i64 x1.kind, .sl false 2 (x1.set.map eSpan), .sl false 3 (x1.kids.map (eRex false))], .agg [.int .i64 5, .sl true 2 [], .sl true 3 [.agg [.int .i64 x1.kind, .sl true 2 (x1.set.map eSpan), .sl true 3 (x1.kids.map (eRex true))]]]]) ?_ (by
      rw [eRex_eq false (.mk 5 [] [x1]), ← eRex_eq true, ← eRex_eq false x1]
      simp [erase, eraseL, mk_kind, mk_set, mk_kids, er_rex])
    unfold eRd at *
    refine fits_of_cc 2 26 3 26 (by decide) [] [0, 2, 3, 4, 5, 6, 14, 15, 20, 27, 33, 37] func118 rfl rfl rfl (by show 2 < 43; decide) (by show 3 < 43; decide) (by show 1 ≤ 43; decide) (by rfl) (by rfl) (by show 0 ≤ 1; decide) (by rfl) (run_of ?_)
    simp -implicitDefEqProofs (maxSteps := 100000) (disch := first | (intros; contradiction) | omega) only [am0, am1, am2, am3, am4, am5, am6, am7, am8, am9, Nat.reduceSub, ↓reduceIte, reduceCtorEq, Nat.reduceEqDiff, Nat.reduceBEq, Nat.reduceAdd, Nat.reduceLT, Nat.reduceBNe, Nat.reduceMul, ↓reduceIte, tis, fls, rx]
    refine callB cO ?_
    simp -implicitDefEqProofs (maxSteps := 100000) (disch := first | (intros; contradiction) | omega) only [am0, am1, am2, am3, am4, am5, am6, am7, am8, am9, Nat.reduceSub, ↓reduceIte, reduceCtorEq, Nat.reduceEqDiff, Nat.reduceBEq, Nat.reduceAdd, Nat.reduceLT, Nat.reduceBNe, Nat.reduceMul, ↓reduceIte, tis, fls, rx]
    refine callM 0 c1 ?_
    simp -implicitDefEqProofs (maxSteps := 100000) (disch := first | (intros; contradiction) | omega) only [am0, am1, am2, am3, am4, am5, am6, am7, am8, am9, Nat.reduceSub, ↓reduceIte, reduceCtorEq, Nat.reduceEqDiff, Nat.reduceBEq, Nat.reduceAdd, Nat.reduceLT, Nat.reduceBNe, Nat.reduceMul, ↓reduceIte, tis, fls, rx, List.dropLast_singleton]
    refine callM 0 c2 ?_
    simp -implicitDefEqProofs (maxSteps := 100000) (disch := first | (intros; contradiction) | omega) only [am0, am1, am2, am3, am4, am5, am6, am7, am8, am9, Nat.reduceSub, ↓reduceIte, reduceCtorEq, Nat.reduceEqDiff, Nat.reduceBEq, Nat.reduceAdd, Nat.reduceLT, Nat.reduceBNe, Nat.reduceMul, ↓reduceIte, tis, fls, rx, List.dropLast_singleton]
    refine callMF [(5, [0]), (6, [0])] 0 cP ?_
    simp -implicitDefEqProofs (maxSteps := 100000) (disch := first | (intros; contradiction) | omega) only [am0, am1, am2, am3, am4, am5, am6, am7, am8, am9, Nat.reduceSub, ↓reduceIte, reduceCtorEq, Nat.reduceEqDiff, Nat.reduceBEq, Nat.reduceAdd, Nat.reduceLT, Nat.reduceBNe, Nat.reduceMul, ↓reduceIte, tis, fls, rx, List.dropLast_singleton, m2]
    refine callB cC ?_
    simp -implicitDefEqProofs (maxSteps := 100000) (disch := first | (intros; contradiction) | omega) only [am0, am1, am2, am3, am4, am5, am6, am7, am8, am9, Nat.reduceSub, ↓reduceIte, reduceCtorEq, Nat.reduceEqDiff, Nat.reduceBEq, Nat.reduceAdd, Nat.reduceLT, Nat.reduceBNe, Nat.reduceMul, ↓reduceIte, tis, fls, rx, List.dropLast_singleton]
    refine .inr (run_mixl 6999999 [] [2] 3 [[]] (by kernel_rfl) ?_)
    simp -implicitDefEqProofs (maxSteps := 100000) (disch := first | (intros; contradiction) | omega) only [am0, am1, am2, am3, am4, am5, am6, am7, am8, am9, Nat.reduceSub, ↓reduceIte, reduceCtorEq, Nat.reduceEqDiff, Nat.reduceBEq, Nat.reduceAdd, Nat.reduceLT, Nat.reduceBNe, Nat.reduceMul, ↓reduceIte, tis, fls, rx, retCC]
    done
  rw [if_neg m2]
  have n2 : ¬ ((m : Int) = 2) := by omega
  by_cases m3 : m = 3
  · by_cases q0 : q = 0
    · rw [if_pos ⟨m3, q0⟩]
      simp only
      refine fits_as (res := .tup [eRex true z1, eRex false y1]) ?_ (by simp [erase, eraseL, er_rex])
      rw [eRex_eq false y1, eRex_eq true z1]
      rw [eRex_eq true z1] at cB
      unfold eRd at *
      refine fits_of_cc 2 26 3 26 (by decide) [] [0, 2, 3, 4, 5, 6, 14, 15, 20, 27, 33, 37] func118 rfl rfl rfl (by show 2 < 43; decide) (by show 3 < 43; decide) (by show 1 ≤ 43; decide) (by rfl) (by rfl) (by show 0 ≤ 1; decide) (by rfl) (run_of ?_)
      simp -implicitDefEqProofs (maxSteps := 100000) (disch := first | (intros; contradiction) | omega) only [am0, am1, am2, am3, am4, am5, am6, am7, am8, am9, Nat.reduceSub, ↓reduceIte, reduceCtorEq, Nat.reduceEqDiff, Nat.reduceBEq, Nat.reduceAdd, Nat.reduceLT, Nat.reduceBNe, Nat.reduceMul, ↓reduceIte, tis, fls, rx]
      refine callB cO ?_
      simp -implicitDefEqProofs (maxSteps := 100000) (disch := first | (intros; contradiction) | omega) only [am0, am1, am2, am3, am4, am5, am6, am7, am8, am9, Nat.reduceSub, ↓reduceIte, reduceCtorEq, Nat.reduceEqDiff, Nat.reduceBEq, Nat.reduceAdd, Nat.reduceLT, Nat.reduceBNe, Nat.reduceMul, ↓reduceIte, tis, fls, rx]
      refine callM 0 c1 ?_
      simp -implicitDefEqProofs (maxSteps := 100000) (disch := first | (intros; contradiction) | omega) only [am0, am1, am2, am3, am4, am5, am6, am7, am8, am9, Nat.reduceSub, ↓reduceIte, reduceCtorEq, Nat.reduceEqDiff, Nat.reduceBEq, Nat.reduceAdd, Nat.reduceLT, Nat.reduceBNe, Nat.reduceMul, ↓reduceIte, tis, fls, rx, List.dropLast_singleton]
      refine callM 0 c2 ?_
      simp -implicitDefEqProofs (maxSteps := 100000) (disch := first | (intros; contradiction) | omega) only [am0, am1, am2, am3, am4, am5, am6, am7, am8, am9, Nat.reduceSub, ↓reduceIte, reduceCtorEq, Nat.reduceEqDiff, Nat.reduceBEq, Nat.reduceAdd, Nat.reduceLT, Nat.reduceBNe, Nat.reduceMul, ↓reduceIte, tis, fls, rx, List.dropLast_singleton]
      refine callMF [(5, [0]), (6, [0])] 0 cP ?_
      simp -implicitDefEqProofs (maxSteps := 100000) (disch := first | (intros; contradiction) | omega) only [am0, am1, am2, am3, am4, am5, am6, am7, am8, am9, Nat.reduceSub, ↓reduceIte, reduceCtorEq, Nat.reduceEqDiff, Nat.reduceBEq, Nat.reduceAdd, Nat.reduceLT, Nat.reduceBNe, Nat.reduceMul, ↓reduceIte, tis, fls, rx, List.dropLast_singleton, m3]
      refine callM 0 cQ ?_
      simp -implicitDefEqProofs (maxSteps := 100000) (disch := first | (intros; contradiction) | omega) only [am0, am1, am2, am3, am4, am5, am6, am7, am8, am9, Nat.reduceSub, ↓reduceIte, reduceCtorEq, Nat.reduceEqDiff, Nat.reduceBEq, Nat.reduceAdd, Nat.reduceLT, Nat.reduceBNe, Nat.reduceMul, ↓reduceIte, tis, fls, rx, List.dropLast_singleton, q0]
      refine .inr (run_mixl 6000039 [] [4, 2, 39] 4 [[]] (by kernel_rfl) ?_)
      simp -implicitDefEqProofs (maxSteps := 100000) (disch := first | (intros; contradiction) | omega) only [am0, am1, am2, am3, am4, am5, am6, am7, am8, am9, Nat.reduceSub, ↓reduceIte, reduceCtorEq, Nat.reduceEqDiff, Nat.reduceBEq, Nat.reduceAdd, Nat.reduceLT, Nat.reduceBNe, Nat.reduceMul, ↓reduceIte, tis, fls, rx]
      refine callG2 0 cB ?_
      simp -implicitDefEqProofs (maxSteps := 100000) (disch := first | (intros; contradiction) | omega) only [am0, am1, am2, am3, am4, am5, am6, am7, am8, am9, Nat.reduceSub, ↓reduceIte, reduceCtorEq, Nat.reduceEqDiff, Nat.reduceBEq, Nat.reduceAdd, Nat.reduceLT, Nat.reduceBNe, Nat.reduceMul, ↓reduceIte, tis, fls, rx, List.dropLast_singleton, retCC]
      done
    · rw [if_neg (by simp [q0])]
      simp only
      have nq : ¬ ((q : Int) = 0) := by omega
      rw [eRex_eq false x1, eRex_eq false y1]
      unfold eRd at *
      refine fits_of_cc 2 26 3 26 (by decide) [] [0, 2, 3, 4, 5, 6, 14, 15, 20, 27, 33, 37] func118 rfl rfl rfl (by show 2 < 43; decide) (by show 3 < 43; decide) (by show 1 ≤ 43; decide) (by rfl) (by rfl) (by show 0 ≤ 1; decide) (by rfl) (run_of ?_)
      simp -implicitDefEqProofs (maxSteps := 100000) (disch := first | (intros; contradiction) | omega) only [am0, am1, am2, am3, am4, am5, am6, am7, am8, am9, Nat.reduceSub, ↓reduceIte, reduceCtorEq, Nat.reduceEqDiff, Nat.reduceBEq, Nat.reduceAdd, Nat.reduceLT, Nat.reduceBNe, Nat.reduceMul, ↓reduceIte, tis, fls, rx]
      refine callB cO ?_
      simp -implicitDefEqProofs (maxSteps := 100000) (disch := first | (intros; contradiction) | omega) only [am0, am1, am2, am3, am4, am5, am6, am7, am8, am9, Nat.reduceSub, ↓reduceIte, reduceCtorEq, Nat.reduceEqDiff, Nat.reduceBEq, Nat.reduceAdd, Nat.reduceLT, Nat.reduceBNe, Nat.reduceMul, ↓reduceIte, tis, fls, rx]
      refine callM 0 c1 ?_
      simp -implicitDefEqProofs (maxSteps := 100000) (disch := first | (intros; contradiction) | omega) only [am0, am1, am2, am3, am4, am5, am6, am7, am8, am9, Nat.reduceSub, ↓reduceIte, reduceCtorEq, Nat.reduceEqDiff, Nat.reduceBEq, Nat.reduceAdd, Nat.reduceLT, Nat.reduceBNe, Nat.reduceMul, ↓reduceIte, tis, fls, rx, List.dropLast_singleton]
      refine callM 0 c2 ?_
      simp -implicitDefEqProofs (maxSteps := 100000) (disch := first | (intros; contradiction) | omega) only [am0, am1, am2, am3, am4, am5, am6, am7, am8, am9, Nat.reduceSub, ↓reduceIte, reduceCtorEq, Nat.reduceEqDiff, Nat.reduceBEq, Nat.reduceAdd, Nat.reduceLT, Nat.reduceBNe, Nat.reduceMul, ↓reduceIte, tis, fls, rx, List.dropLast_singleton]
      refine callMF [(5, [0]), (6, [0])] 0 cP ?_
      simp -implicitDefEqProofs (maxSteps := 100000) (disch := first | (intros; contradiction) | omega) only [am0, am1, am2, am3, am4, am5, am6, am7, am8, am9, Nat.reduceSub, ↓reduceIte, reduceCtorEq, Nat.reduceEqDiff, Nat.reduceBEq, Nat.reduceAdd, Nat.reduceLT, Nat.reduceBNe, Nat.reduceMul, ↓reduceIte, tis, fls, rx, List.dropLast_singleton, m3]
      refine callM 0 cQ ?_
      simp -implicitDefEqProofs (maxSteps := 100000) (disch := first | (intros; contradiction) | omega) only [am0, am1, am2, am3, am4, am5, am6, am7, am8, am9, Nat.reduceSub, ↓reduceIte, reduceCtorEq, Nat.reduceEqDiff, Nat.reduceBEq, Nat.reduceAdd, Nat.reduceLT, Nat.reduceBNe, Nat.reduceMul, ↓reduceIte, tis, fls, rx, List.dropLast_singleton, nq]
      refine .inr (run_mixl 6999999 [] [2] 3 [[]] (by kernel_rfl) ?_)
      simp -implicitDefEqProofs (maxSteps := 100000) (disch := first | (intros; contradiction) | omega) only [am0, am1, am2, am3, am4, am5, am6, am7, am8, am9, Nat.reduceSub, ↓reduceIte, reduceCtorEq, Nat.reduceEqDiff, Nat.reduceBEq, Nat.reduceAdd, Nat.reduceLT, Nat.reduceBNe, Nat.reduceMul, ↓reduceIte, tis, fls, rx, retCC]
      done
  · rw [if_neg (by simp [m3])]
    simp only
    have n3 : ¬ ((m : Int) = 3) := by omega
    rw [eRex_eq false x1, eRex_eq false y1]
    unfold eRd at *
    refine fits_of_cc 2 26 3 26 (by decide) [] [0, 2, 3, 4, 5, 6, 14, 15, 20, 27, 33, 37] func118 rfl rfl rfl (by show 2 < 43; decide) (by show 3 < 43; decide) (by show 1 ≤ 43; decide) (by rfl) (by rfl) (by show 0 ≤ 1; decide) (by rfl) (run_of ?_)
    simp -implicitDefEqProofs (maxSteps := 100000) (disch := first | (intros; contradiction) | omega) only [am0, am1, am2, am3, am4, am5, am6, am7, am8, am9, Nat.reduceSub, ↓reduceIte, reduceCtorEq, Nat.reduceEqDiff, Nat.reduceBEq, Nat.reduceAdd, Nat.reduceLT, Nat.reduceBNe, Nat.reduceMul, ↓reduceIte, tis, fls, rx]
    refine callB cO ?_
    simp -implicitDefEqProofs (maxSteps := 100000) (disch := first | (intros; contradiction) | omega) only [am0, am1, am2, am3, am4, am5, am6, am7, am8, am9, Nat.reduceSub, ↓reduceIte, reduceCtorEq, Nat.reduceEqDiff, Nat.reduceBEq, Nat.reduceAdd, Nat.reduceLT, Nat.reduceBNe, Nat.reduceMul, ↓reduceIte, tis, fls, rx]
    refine callM 0 c1 ?_
    simp -implicitDefEqProofs (maxSteps := 100000) (disch := first | (intros; contradiction) | omega) only [am0, am1, am2, am3, am4, am5, am6, am7, am8, am9, Nat.reduceSub, ↓reduceIte, reduceCtorEq, Nat.reduceEqDiff, Nat.reduceBEq, Nat.reduceAdd, Nat.reduceLT, Nat.reduceBNe, Nat.reduceMul, ↓reduceIte, tis, fls, rx, List.dropLast_singleton]
    refine callM 0 c2 ?_
    simp -implicitDefEqProofs (maxSteps := 100000) (disch := first | (intros; contradiction) | omega) only [am0, am1, am2, am3, am4, am5, am6, am7, am8, am9, Nat.reduceSub, ↓reduceIte, reduceCtorEq, Nat.reduceEqDiff, Nat.reduceBEq, Nat.reduceAdd, Nat.reduceLT, Nat.reduceBNe, Nat.reduceMul, ↓reduceIte, tis, fls, rx, List.dropLast_singleton]
    refine callMF [(5, [0]), (6, [0])] 0 cP ?_
    simp -implicitDefEqProofs (maxSteps := 100000) (disch := first | (intros; contradiction) | omega) only [am0, am1, am2, am3, am4, am5, am6, am7, am8, am9, Nat.reduceSub, ↓reduceIte, reduceCtorEq, Nat.reduceEqDiff, Nat.reduceBEq, Nat.reduceAdd, Nat.reduceLT, Nat.reduceBNe, Nat.reduceMul, ↓reduceIte, tis, fls, rx, List.dropLast_singleton, n0, n1, n2, n3]
    refine .inr (run_mixl 6999999 [] [2] 3 [[]] (by kernel_rfl) ?_)
    simp -implicitDefEqProofs (maxSteps := 100000) (disch := first | (intros; contradiction) | omega) only [am0, am1, am2, am3, am4, am5, am6, am7, am8, am9, Nat.reduceSub, ↓reduceIte, reduceCtorEq, Nat.reduceEqDiff, Nat.reduceBEq, Nat.reduceAdd, Nat.reduceLT, Nat.reduceBNe, Nat.reduceMul, ↓reduceIte, tis, fls, rx, retCC]
    done
/-- A reading out of a tuple, by what the tuple is. -/
def exGo (σ : St) (t i d : Nat) (K : St → Prop) : AV → Prop
  | .tup vs => i < vs.length ∧ t ≠ d ∧ (vs.getD i .undef).target = none ∧ (if plain (vs.getD i .undef) then K (put σ d (vs.getD i .undef) []) else K (upd (put σ d .undef []) [(d, vs.getD i .undef), (t, .tup (vs.set i .undef))]))
  | _ => False
theorem ex_eq (σ : St) (t i d : Nat) (K : St → Prop) : extractW σ (.tmp t) i d K = exGo σ t i d K (ev σ (.tmp t)) := by
  unfold extractW exGo
  cases ev σ (.tmp t) <;> rfl
theorem exGo_tup (σ : St) (t i d : Nat) (K : St → Prop) (vs : List AV) : exGo σ t i d K (.tup vs) = (i < vs.length ∧ t ≠ d ∧ (vs.getD i .undef).target = none ∧ (if plain (vs.getD i .undef) then K (put σ d (vs.getD i .undef) []) else K (upd (put σ d .undef []) [(d, vs.getD i .undef), (t, .tup (vs.set i .undef))]))) := rfl
theorem retW2 (a b : Nat) (ks : List Nat) (res : AV) (outs : List AV) (σ : St) : retW [a, b] ks res outs σ = ((usedOf (pulls σ [.tmp a, .tmp b]) [.tmp a, .tmp b]).Nodup ∧ leV (.tup [Am.look (pulls σ [.tmp a, .tmp b]) a, Am.look (pulls σ [.tmp a, .tmp b]) b]) res ∧ outsW (pulls σ [.tmp a, .tmp b]) (usedOf (pulls σ [.tmp a, .tmp b]) [.tmp a, .tmp b]) ks 0 outs) := rfl
theorem fits_own {P : Program} {f : FuncId} {args : List AV} {res res' : AV} (h : Fits P f args res []) (e : erase res = res') : Fits P f args res' [] := e ▸ fits_shared h
/-- laws.wkCat -/
theorem fits_wkCat (a b : Rex) : Fits prog 58 [eRex false a, eRex false b] (eRex false (.mk 3 [] [a, b])) [] := by
  refine fits_own (res := .agg [.int .i64 3, .sl true 2 [], .sl true 3 [eRex false a, eRex false b]]) ?_ (by rw [eRex_eq false (.mk 3 [] [a, b])]; simp [erase, eraseL, Rex.kind, Rex.set, Rex.kids, er_rex])
  rw [eRex_eq false a, eRex_eq false b]
  refine fits_of_cell 4 26 [] [0, 1, 2, 3, 4] func58 rfl rfl rfl (by show 4 < 9; decide) (by show 2 ≤ 9; decide) (by rfl) (by rfl) (by show 0 ≤ 2; decide) (by rfl) (run_of ?_)
  simp -implicitDefEqProofs (maxSteps := 100000) (disch := first | (intros; contradiction) | omega) only [am0, am1, am2, am3, am4, am5, am6, am7, am8, am9, Nat.reduceSub, ↓reduceIte, reduceCtorEq, Nat.reduceEqDiff, Nat.reduceBEq, Nat.reduceAdd, Nat.reduceLT, Nat.reduceBNe, Nat.reduceMul, ↓reduceIte, tis, rx, fls]
/-- laws.wkStar -/
theorem fits_wkStar (a : Rex) : Fits prog 59 [eRex false a] (eRex false (.mk 5 [] [a])) [] := by
  refine fits_own (res := .agg [.int .i64 5, .sl true 2 [], .sl true 3 [eRex false a]]) ?_ (by rw [eRex_eq false (.mk 5 [] [a])]; simp [erase, eraseL, Rex.kind, Rex.set, Rex.kids, er_rex])
  rw [eRex_eq false a]
  refine fits_of_cell 2 26 [] [0, 1, 2] func59 rfl rfl rfl (by show 2 < 6; decide) (by show 1 ≤ 6; decide) (by rfl) (by rfl) (by show 0 ≤ 1; decide) (by rfl) (run_of ?_)
  simp -implicitDefEqProofs (maxSteps := 100000) (disch := first | (intros; contradiction) | omega) only [am0, am1, am2, am3, am4, am5, am6, am7, am8, am9, Nat.reduceSub, ↓reduceIte, reduceCtorEq, Nat.reduceEqDiff, Nat.reduceBEq, Nat.reduceAdd, Nat.reduceLT, Nat.reduceBNe, Nat.reduceMul, ↓reduceIte, tis, rx, fls]
/-- laws.wkNot -/
theorem fits_wkNot (a : Rex) : Fits prog 60 [eRex false a] (eRex false (.mk 7 [] [a])) [] := by
  refine fits_own (res := .agg [.int .i64 7, .sl true 2 [], .sl true 3 [eRex false a]]) ?_ (by rw [eRex_eq false (.mk 7 [] [a])]; simp [erase, eraseL, Rex.kind, Rex.set, Rex.kids, er_rex])
  rw [eRex_eq false a]
  refine fits_of_cell 2 26 [] [0, 1, 2] func60 rfl rfl rfl (by show 2 < 6; decide) (by show 1 ≤ 6; decide) (by rfl) (by rfl) (by show 0 ≤ 1; decide) (by rfl) (run_of ?_)
  simp -implicitDefEqProofs (maxSteps := 100000) (disch := first | (intros; contradiction) | omega) only [am0, am1, am2, am3, am4, am5, am6, am7, am8, am9, Nat.reduceSub, ↓reduceIte, reduceCtorEq, Nat.reduceEqDiff, Nat.reduceBEq, Nat.reduceAdd, Nat.reduceLT, Nat.reduceBNe, Nat.reduceMul, ↓reduceIte, tis, rx, fls]
/-! What is read backwards. -/
theorem turnR_mk (k : Int) (hk : k ≠ 3) (a : Rex) : turnR (.mk k [] [a]) = .mk k [] [turnR a] := by rw [turnR]; simp [hk]
theorem turnR_cat (a b : Rex) : turnR (.mk 3 [] [a, b]) = .mk 3 [] [turnR b, turnR a] := by rw [turnR]; simp
theorem fm_8 {d : Nat} : ∀ {r : Rex}, fm d r = true → fm (d + 1) r = true := by
  induction d with
  | zero => intro r h; simp [fm] at h
  | succ d ih =>
    intro r h
    obtain ⟨h1, h2, h3, h4⟩ := fm_ok h
    exact fm_t h1 h2 h3 (fun i hi => ih (h4 _ (List.getElem_mem hi)))
theorem rexB_cat {a b : Rex} (h : rexB (.mk 3 [] [a, b]) = true) : rexB a = true ∧ rexB b = true ∧ rexB (.mk 5 [] [a]) = true ∧ rexB (.mk 7 [] [b]) = true := by
  simp only [rexB, Bool.and_eq_true, decide_eq_true_eq] at *
  obtain ⟨h1, h2⟩ := h
  obtain ⟨q1, q2, q3, q4⟩ := fm_ok h1
  have ea : fm 7 a = true := q4 a (by simp [Rex.kids])
  have eb : fm 7 b = true := q4 b (by simp [Rex.kids])
  have pc : ps (.mk 3 [] [a, b]) = 1 + (ps a + ps b) := by rw [ps_eq]; simp [Rex.kids]
  have pa : ps (.mk 5 [] [a]) = 1 + ps a := by rw [ps_eq]; simp [Rex.kids]
  have pb : ps (.mk 7 [] [b]) = 1 + ps b := by rw [ps_eq]; simp [Rex.kids]
  refine ⟨⟨fm_8 ea, by omega⟩, ⟨fm_8 eb, by omega⟩, ⟨fm_t (r := .mk 5 [] [a]) rfl (.inr rfl) q3 ?_, by omega⟩, ⟨fm_t (r := .mk 7 [] [b]) rfl (.inr rfl) q3 ?_, by omega⟩⟩
  · intro i hi
    have : i = 0 := by simp [Rex.kids] at hi; exact hi
    subst this; exact ea
  · intro i hi
    have : i = 0 := by simp [Rex.kids] at hi; exact hi
    subst this; exact eb
theorem turnP_cat {a b : Rex} (h : rexB (.mk 3 [] [a, b]) = true) : turnP (.mk 3 [] [a, b]) = .mk 3 [] [turnP b, turnP a] ∧ turnP (.mk 5 [] [a]) = .mk 5 [] [turnP a] ∧ turnP (.mk 7 [] [b]) = .mk 7 [] [turnP b] := by
  obtain ⟨h1, h2, h3, h4⟩ := rexB_cat h
  unfold turnP
  rw [h, h1, h2, h3, h4]
  simp only [if_true]
  exact ⟨turnR_cat a b, turnR_mk 5 (by decide) a, turnR_mk 7 (by decide) b⟩
/-- laws.eqRexS, of equals -/
theorem fits_eqRexS_of (p : List Rex) (hp : p.length ≤ 1048576) (H : ∀ x ∈ p, Fits prog 30 [eRex false x, eRex false x] (.bool true) []) : Fits prog 94 [.sl false 3 (p.map (eRex false)), .sl false 3 (p.map (eRex false))] (.bool true) [] := by
  refine fits_of_code [4] [] [0, 1, 4, 5, 10, 14, 26] func94 rfl rfl rfl (by rfl) (by show 2 ≤ 27; decide) (by rfl) (by rfl) (by show 0 ≤ 2; decide) (by rfl) (run_of ?_)
  simp -implicitDefEqProofs (maxSteps := 100000) (disch := first | (intros; contradiction) | omega) only [am0, am1, am2, am3, am4, am5, am6, am7, am8, am9, Nat.reduceSub, ↓reduceIte, reduceCtorEq, Nat.reduceEqDiff, Nat.reduceBEq, Nat.reduceAdd, Nat.reduceLT, Nat.reduceBNe, Nat.reduceMul, ↓reduceIte, tis]
  refine run_loop (α := Nat) (fun i => i ≤ p.length) (fun i => [(0, .sl false 3 (p.map (eRex false))), (1, .sl false 3 (p.map (eRex false))), (5, .int .i64 i)]) (fun i => p.length - i) 0 (Nat.zero_le _) ?_ ?_
  · simp -implicitDefEqProofs (maxSteps := 100000) (disch := first | (intros; contradiction) | omega) only [am0, am1, am2, am3, am4, am5, am6, am7, am8, am9, Nat.reduceSub, ↓reduceIte, reduceCtorEq, Nat.reduceEqDiff, Nat.reduceBEq, Nat.reduceAdd, Nat.reduceLT, Nat.reduceBNe, Nat.reduceMul, ↓reduceIte, tis]
  · intro i hi'
    by_cases hi : i < p.length
    · simp -implicitDefEqProofs (maxSteps := 100000) (disch := first | (intros; contradiction) | omega) only [am0, am1, am2, am3, am4, am5, am6, am7, am8, am9, Nat.reduceSub, ↓reduceIte, reduceCtorEq, Nat.reduceEqDiff, Nat.reduceBEq, Nat.reduceAdd, Nat.reduceLT, Nat.reduceBNe, Nat.reduceMul, ↓reduceIte, tis, rx, eRex_eq]
      refine .inl ⟨by kernel_rfl, ?_⟩
      refine callL (H p[i] (List.getElem_mem hi)) ?_
      simp -implicitDefEqProofs (maxSteps := 100000) (disch := first | (intros; contradiction) | omega) only [am0, am1, am2, am3, am4, am5, am6, am7, am8, am9, Nat.reduceSub, ↓reduceIte, reduceCtorEq, Nat.reduceEqDiff, Nat.reduceBEq, Nat.reduceAdd, Nat.reduceLT, Nat.reduceBNe, Nat.reduceMul, ↓reduceIte, tis, rx, eRex_eq]
      refine round_normal (i + 1) (by omega) ?_ (by show p.length - (i + 1) < p.length - i; omega)
      simp -implicitDefEqProofs (maxSteps := 100000) (disch := first | (intros; contradiction) | omega) only [am0, am1, am2, am3, am4, am5, am6, am7, am8, am9, Nat.reduceSub, ↓reduceIte, reduceCtorEq, Nat.reduceEqDiff, Nat.reduceBEq, Nat.reduceAdd, Nat.reduceLT, Nat.reduceBNe, Nat.reduceMul, ↓reduceIte, tis]
    · obtain rfl : i = p.length := by omega
      simp -implicitDefEqProofs (maxSteps := 100000) (disch := first | (intros; contradiction) | omega) only [am0, am1, am2, am3, am4, am5, am6, am7, am8, am9, Nat.reduceSub, ↓reduceIte, reduceCtorEq, Nat.reduceEqDiff, Nat.reduceBEq, Nat.reduceAdd, Nat.reduceLT, Nat.reduceBNe, Nat.reduceMul, ↓reduceIte, tis]
/-- laws.eqRex, of equals -/
theorem fits_eqRex (r : Rex) (hb : bd r ≤ 1048576) : Fits prog 30 [eRex false r, eRex false r] (.bool true) [] := by
  induction r using Rex.ind' with
  | h r ih =>
    have hb' := bd_eq r
    have HS := fits_eqRexS_of r.kids (by omega) (fun x hx => ih x hx (Nat.le_trans (bd_kid hx) hb))
    have HT := fits_eqSpanS r.set r.set (by omega) (by omega)
    rw [eRex_eq]
    refine fits_of_code [4] [] [0, 1, 2, 3, 4, 9, 15, 21] func30 rfl rfl rfl (by rfl) (by show 2 ≤ 22; decide) (by rfl) (by rfl) (by show 0 ≤ 2; decide) (by rfl) (run_of ?_)
    simp -implicitDefEqProofs (maxSteps := 100000) (disch := first | (intros; contradiction) | omega) only [am0, am1, am2, am3, am4, am5, am6, am7, am8, am9, Nat.reduceSub, ↓reduceIte, reduceCtorEq, Nat.reduceEqDiff, Nat.reduceBEq, Nat.reduceAdd, Nat.reduceLT, Nat.reduceBNe, Nat.reduceMul, ↓reduceIte, tis]
    refine callB HT ?_
    simp -implicitDefEqProofs (maxSteps := 100000) (disch := first | (intros; contradiction) | omega) only [am0, am1, am2, am3, am4, am5, am6, am7, am8, am9, Nat.reduceSub, ↓reduceIte, reduceCtorEq, Nat.reduceEqDiff, Nat.reduceBEq, Nat.reduceAdd, Nat.reduceLT, Nat.reduceBNe, Nat.reduceMul, ↓reduceIte, tis, fls, rx]
    refine callB HS ?_
    simp -implicitDefEqProofs (maxSteps := 100000) (disch := first | (intros; contradiction) | omega) only [am0, am1, am2, am3, am4, am5, am6, am7, am8, am9, Nat.reduceSub, ↓reduceIte, reduceCtorEq, Nat.reduceEqDiff, Nat.reduceBEq, Nat.reduceAdd, Nat.reduceLT, Nat.reduceBNe, Nat.reduceMul, ↓reduceIte, tis, fls, rx]
/-- How many marks there are. -/
def ct : Rex → Nat
  | .mk _ s ks => 1 + (2 * s.length + (ks.map ct).sum)
theorem ct_eq (r : Rex) : ct r = 1 + (2 * r.set.length + (r.kids.map ct).sum) := by cases r; rw [ct]; rfl
mutual
def mkR : Rex → Int → Rex
  | .mk _ s ks, k => .mk k (mkSpans s.length (k + 1)) (mkL ks (k + 1 + 2 * s.length))
def mkL : List Rex → Int → List Rex
  | [], _ => []
  | x :: xs, k => mkR x k :: mkL xs (k + ct x)
end
theorem mkR_eq (r : Rex) (k : Int) : mkR r k = .mk k (mkSpans r.set.length (k + 1)) (mkL r.kids (k + 1 + 2 * r.set.length)) := by cases r; rw [mkR]; rfl
theorem mkL_len : ∀ (l : List Rex) (k : Int), (mkL l k).length = l.length
  | [], k => by simp [mkL]
  | x :: l, k => by simp [mkL, mkL_len l]
theorem mkL_app : ∀ (l : List Rex) (x : Rex) (k : Int), mkL (l ++ [x]) k = mkL l k ++ [mkR x (k + ((l.map ct).sum : Nat))]
  | [], x, k => by simp [mkL]
  | y :: l, x, k => by
    simp only [List.cons_append, mkL, mkL_app l x, List.map_cons, List.sum_cons]
    congr 3
    congr 1
    omega
theorem ct_le (r : Rex) : ct r ≤ 1 + 2 * bd r := by
  induction r using Rex.ind' with
  | h r ih =>
    rw [ct_eq, bd_eq]
    have : (r.kids.map ct).sum ≤ r.kids.length + 2 * (r.kids.map bd).sum := by
      generalize r.kids = l at ih
      induction l with
      | nil => simp
      | cons x l ihl =>
        have h1 := ih x (List.mem_cons_self ..)
        have h2 := ihl (fun y hy => ih y (List.mem_cons_of_mem _ hy))
        simp only [List.map_cons, List.sum_cons, List.length_cons]
        omega
    omega
theorem ctL_le (l : List Rex) : (l.map ct).sum ≤ l.length + 2 * (l.map bd).sum := by
  induction l with
  | nil => simp
  | cons x l ih =>
    have := ct_le x
    simp only [List.map_cons, List.sum_cons, List.length_cons]
    omega
/-- laws.markRexS -/
theorem fits_markRexS_of (p : List Rex) (k : Int) (hp : p.length ≤ 1048576) (hb : (p.map bd).sum ≤ 1048576) (h0 : 0 ≤ k) (hk : k + (p.map ct).sum ≤ 1152921504606846976)
    (hs : ∀ x ∈ p, x.set.length ≤ 1048576)
    (H : ∀ x ∈ p, ∀ m : Int, 0 ≤ m → m + (x.kids.map ct).sum ≤ 1152921504606846976 → Fits prog 96 [.sl true 3 (x.kids.map (eRex true)), .int .i64 m] (.int .i64 (m + (x.kids.map ct).sum)) [.sl true 3 ((mkL x.kids m).map (eRex true))]) :
    Fits prog 96 [.sl true 3 (p.map (eRex true)), .int .i64 k] (.int .i64 (k + (p.map ct).sum)) [.sl true 3 ((mkL p k).map (eRex true))] := by
  refine fits_of_code [4] [0] [0, 1, 4, 5, 9] func96 rfl rfl rfl (by rfl) (by show 2 ≤ 34; decide) (by rfl) (by rfl) (by show 1 ≤ 2; decide) (by rfl) (run_of ?_)
  simp -implicitDefEqProofs (maxSteps := 100000) (disch := first | (intros; contradiction) | omega) only [am0, am1, am2, am3, am4, am5, am6, am7, am8, am9, Nat.reduceSub, ↓reduceIte, reduceCtorEq, Nat.reduceEqDiff, Nat.reduceBEq, Nat.reduceAdd, Nat.reduceLT, Nat.reduceBNe, Nat.reduceMul, ↓reduceIte, tis]
  refine run_loop (α := Nat) (fun i => i ≤ p.length) (fun i => [(0, .sl true 3 ((mkL (p.take i) k).map (eRex true) ++ (p.drop i).map (eRex true))), (1, .int .i64 (k + ((p.take i).map ct).sum)), (5, .int .i64 i)]) (fun i => p.length - i) 0 (Nat.zero_le _) ?_ ?_
  · simp -implicitDefEqProofs (maxSteps := 100000) (disch := first | (intros; contradiction) | omega) only [am0, am1, am2, am3, am4, am5, am6, am7, am8, am9, Nat.reduceSub, ↓reduceIte, reduceCtorEq, Nat.reduceEqDiff, Nat.reduceBEq, Nat.reduceAdd, Nat.reduceLT, Nat.reduceBNe, Nat.reduceMul, ↓reduceIte, tis, mkL, List.sum_nil]
  · intro i hi'
    have hA : ((mkL (p.take i) k).map (eRex true)).length = i := by simp [mkL_len]; omega
    have hL : ((mkL (p.take i) k).map (eRex true) ++ (p.drop i).map (eRex true)).length = p.length := by simp [mkL_len]; omega
    by_cases hi : i < p.length
    · have g1 := turn_get _ (eRex true) p i hA hi
      have g2 := fun y => turn_set _ (eRex true) p i y hA hi
      generalize hAA : (mkL (p.take i) k).map (eRex true) = A at *
      have g3 : ∀ y, (A ++ [y] ++ (p.drop (i + 1)).map (eRex true))[i]? = some y := fun y => by
        rw [List.append_assoc, List.getElem?_append_right (by omega), hA, Nat.sub_self]; rfl
      have g4 : ∀ y z, (A ++ [y] ++ (p.drop (i + 1)).map (eRex true)).set i z = A ++ [z] ++ (p.drop (i + 1)).map (eRex true) := fun y z => by
        rw [List.append_assoc, List.set_append_right _ _ (by omega), hA, Nat.sub_self]; simp
      have g5 : ∀ y, (A ++ [y] ++ (p.drop (i + 1)).map (eRex true)).length = p.length := fun y => by simp; omega
      rw [eRex_eq] at g1
      have es := take_sum (l := p.map ct) (i := i) (by simpa using hi)
      rw [List.getElem_map, ct_eq] at es
      have ele := take_sum_le (p.map ct) (i + 1)
      rw [← List.map_take, ← List.map_take] at es
      rw [← List.map_take] at ele
      generalize hK : k + (((p.take i).map ct).sum : Nat) = K at *
      have hK0 : 0 ≤ K := by omega
      have hx := List.getElem_mem hi
      have HT := fits_markSpanS p[i].set (K + 1) (hs _ hx) (by omega) (by have := hs _ hx; omega)
      have HR := H p[i] hx (K + 1 + 2 * p[i].set.length) (by omega) (by omega)
      simp -implicitDefEqProofs (maxSteps := 100000) (disch := first | (intros; contradiction) | omega) only [am0, am1, am2, am3, am4, am5, am6, am7, am8, am9, Nat.reduceSub, ↓reduceIte, reduceCtorEq, Nat.reduceEqDiff, Nat.reduceBEq, Nat.reduceAdd, Nat.reduceLT, Nat.reduceBNe, Nat.reduceMul, ↓reduceIte, tis, hL, g1, g2, g3, g4, g5]
      refine callM 0 HT ?_
      simp -implicitDefEqProofs (maxSteps := 100000) (disch := first | (intros; contradiction) | omega) only [am0, am1, am2, am3, am4, am5, am6, am7, am8, am9, Nat.reduceSub, ↓reduceIte, reduceCtorEq, Nat.reduceEqDiff, Nat.reduceBEq, Nat.reduceAdd, Nat.reduceLT, Nat.reduceBNe, Nat.reduceMul, ↓reduceIte, tis, hL, g1, g2, g3, g4, g5, fls]
      refine callM 0 HR ?_
      simp -implicitDefEqProofs (maxSteps := 100000) (disch := first | (intros; contradiction) | omega) only [am0, am1, am2, am3, am4, am5, am6, am7, am8, am9, Nat.reduceSub, ↓reduceIte, reduceCtorEq, Nat.reduceEqDiff, Nat.reduceBEq, Nat.reduceAdd, Nat.reduceLT, Nat.reduceBNe, Nat.reduceMul, ↓reduceIte, tis, hL, g1, g2, g3, g4, g5, fls, rx]
      refine round_normal (i + 1) (by omega) ?_ (by show p.length - (i + 1) < p.length - i; omega)
      have e1 : mkL (p.take (i + 1)) k = mkL (p.take i) k ++ [mkR p[i] K] := by
        rw [List.take_succ_eq_append_getElem hi, mkL_app, hK]
      simp -implicitDefEqProofs (maxSteps := 100000) (disch := first | (intros; contradiction) | omega) only [am0, am1, am2, am3, am4, am5, am6, am7, am8, am9, Nat.reduceSub, ↓reduceIte, reduceCtorEq, Nat.reduceEqDiff, Nat.reduceBEq, Nat.reduceAdd, Nat.reduceLT, Nat.reduceBNe, Nat.reduceMul, ↓reduceIte, tis, e1, List.map_append, hAA, mkR_eq, eRex]
      omega
    · obtain rfl : i = p.length := by omega
      simp -implicitDefEqProofs (maxSteps := 100000) (disch := first | (intros; contradiction) | omega) only [am0, am1, am2, am3, am4, am5, am6, am7, am8, am9, Nat.reduceSub, ↓reduceIte, reduceCtorEq, Nat.reduceEqDiff, Nat.reduceBEq, Nat.reduceAdd, Nat.reduceLT, Nat.reduceBNe, Nat.reduceMul, ↓reduceIte, tis, mkL_len]
/-- laws.markRexS -/
theorem fits_markKids (r : Rex) (hb : bd r ≤ 1048576) : ∀ m : Int, 0 ≤ m → m + (r.kids.map ct).sum ≤ 1152921504606846976 → Fits prog 96 [.sl true 3 (r.kids.map (eRex true)), .int .i64 m] (.int .i64 (m + (r.kids.map ct).sum)) [.sl true 3 ((mkL r.kids m).map (eRex true))] := by
  induction r using Rex.ind' with
  | h r ih =>
    intro m h0 h1
    have hb' := bd_eq r
    exact fits_markRexS_of r.kids m (by omega) (by omega) h0 h1 (fun x hx => by have := bd_kid hx; have := bd_eq x; omega) (fun x hx => ih x hx (Nat.le_trans (bd_kid hx) hb))
theorem mkL_get (l : List Rex) (k : Int) (i : Nat) (h : i < l.length) : ((mkL l k).map (eRex false)).getD i .undef = eRex false (mkR l[i] (k + ((l.take i).map ct).sum)) := by
  induction l generalizing k i with
  | nil => simp at h
  | cons x l ih =>
    cases i with
    | zero => simp [mkL]
    | succ i =>
      have := ih (k + ct x) i (by simpa using h)
      simp only [mkL, List.map_cons, List.getD_cons_succ, this, List.getElem_cons_succ, List.take_succ_cons, List.sum_cons]
      congr 2
      omega
/-- What is marked of one as a whole. -/
def mkTop (r : Rex) (k : Int) : Rex := .mk r.kind (mkSpans r.set.length k) (mkL r.kids (k + 2 * r.set.length))
/-- impl.same, of equals -/
theorem fits_sameSpan (s : List Span) (hp : s.length ≤ 1048576) : Fits prog 82 [.sl false 2 (s.map eSpan), .sl false 2 (s.map eSpan)] (.bool true) [] := by
  refine fits_of_code [4] [] [0, 1, 4, 5, 10, 12, 13, 14, 24] func82 rfl rfl rfl (by rfl) (by show 2 ≤ 26; decide) (by rfl) (by rfl) (by show 0 ≤ 2; decide) (by rfl) (run_of ?_)
  simp -implicitDefEqProofs (maxSteps := 100000) (disch := first | (intros; contradiction) | omega) only [am0, am1, am2, am3, am4, am5, am6, am7, am8, am9, Nat.reduceSub, ↓reduceIte, reduceCtorEq, Nat.reduceEqDiff, Nat.reduceBEq, Nat.reduceAdd, Nat.reduceLT, Nat.reduceBNe, Nat.reduceMul, ↓reduceIte, tis]
  refine run_loop (α := Nat) (fun i => i ≤ s.length) (fun i => [(0, .sl false 2 (s.map eSpan)), (1, .sl false 2 (s.map eSpan)), (12, .int .i64 s.length), (13, .int .i64 i)]) (fun i => s.length - i) 0 (Nat.zero_le _) ?_ ?_
  · simp -implicitDefEqProofs (maxSteps := 100000) (disch := first | (intros; contradiction) | omega) only [am0, am1, am2, am3, am4, am5, am6, am7, am8, am9, Nat.reduceSub, ↓reduceIte, reduceCtorEq, Nat.reduceEqDiff, Nat.reduceBEq, Nat.reduceAdd, Nat.reduceLT, Nat.reduceBNe, Nat.reduceMul, ↓reduceIte, tis]
  · intro i hi'
    by_cases hi : i < s.length
    · simp -implicitDefEqProofs (maxSteps := 100000) (disch := first | (intros; contradiction) | omega) only [am0, am1, am2, am3, am4, am5, am6, am7, am8, am9, Nat.reduceSub, ↓reduceIte, reduceCtorEq, Nat.reduceEqDiff, Nat.reduceBEq, Nat.reduceAdd, Nat.reduceLT, Nat.reduceBNe, Nat.reduceMul, ↓reduceIte, tis, eSpan, fls]
      refine .inl ⟨by kernel_rfl, ?_⟩
      refine round_normal (i + 1) (by omega) ?_ (by show s.length - (i + 1) < s.length - i; omega)
      simp -implicitDefEqProofs (maxSteps := 100000) (disch := first | (intros; contradiction) | omega) only [am0, am1, am2, am3, am4, am5, am6, am7, am8, am9, Nat.reduceSub, ↓reduceIte, reduceCtorEq, Nat.reduceEqDiff, Nat.reduceBEq, Nat.reduceAdd, Nat.reduceLT, Nat.reduceBNe, Nat.reduceMul, ↓reduceIte, tis]
    · obtain rfl : i = s.length := by omega
      simp -implicitDefEqProofs (maxSteps := 100000) (disch := first | (intros; contradiction) | omega) only [am0, am1, am2, am3, am4, am5, am6, am7, am8, am9, Nat.reduceSub, ↓reduceIte, reduceCtorEq, Nat.reduceEqDiff, Nat.reduceBEq, Nat.reduceAdd, Nat.reduceLT, Nat.reduceBNe, Nat.reduceMul, ↓reduceIte, tis]
/-- impl.RexSame, of equals -/
theorem fits_rexSame (r : Rex) (hb : bd r ≤ 1048576) : Fits prog 21 [eRex false r, eRex false r] (.bool true) [] := by
  induction r using Rex.ind' with
  | h r ih =>
    have hb' := bd_eq r
    have cS := fits_sameSpan r.set (by omega)
    rw [eRex_eq]
    refine fits_of_code [4] [] [0, 1, 2, 3, 4, 5, 27, 30, 31, 32, 45] func21 rfl rfl rfl (by rfl) (by show 2 ≤ 47; decide) (by rfl) (by rfl) (by show 0 ≤ 2; decide) (by rfl) (run_of ?_)
    simp -implicitDefEqProofs (maxSteps := 100000) (disch := first | (intros; contradiction) | omega) only [am0, am1, am2, am3, am4, am5, am6, am7, am8, am9, Nat.reduceSub, ↓reduceIte, reduceCtorEq, Nat.reduceEqDiff, Nat.reduceBEq, Nat.reduceAdd, Nat.reduceLT, Nat.reduceBNe, Nat.reduceMul, ↓reduceIte, tis, fls, rx]
    refine callB cS ?_
    simp -implicitDefEqProofs (maxSteps := 100000) (disch := first | (intros; contradiction) | omega) only [am0, am1, am2, am3, am4, am5, am6, am7, am8, am9, Nat.reduceSub, ↓reduceIte, reduceCtorEq, Nat.reduceEqDiff, Nat.reduceBEq, Nat.reduceAdd, Nat.reduceLT, Nat.reduceBNe, Nat.reduceMul, ↓reduceIte, tis, fls, rx]
    refine run_loop (α := Nat) (fun i => i ≤ r.kids.length) (fun i => [(2, .box (.agg [.int .i64 r.kind, .sl false 2 (r.set.map eSpan), .sl false 3 (r.kids.map (eRex false))])), (3, .box (.agg [.int .i64 r.kind, .sl false 2 (r.set.map eSpan), .sl false 3 (r.kids.map (eRex false))])), (30, .int .i64 r.kids.length), (31, .int .i64 i)]) (fun i => r.kids.length - i) 0 (Nat.zero_le _) ?_ ?_
    · simp -implicitDefEqProofs (maxSteps := 100000) (disch := first | (intros; contradiction) | omega) only [am0, am1, am2, am3, am4, am5, am6, am7, am8, am9, Nat.reduceSub, ↓reduceIte, reduceCtorEq, Nat.reduceEqDiff, Nat.reduceBEq, Nat.reduceAdd, Nat.reduceLT, Nat.reduceBNe, Nat.reduceMul, ↓reduceIte, tis]
    · intro i hi'
      by_cases hi : i < r.kids.length
      · have hm := List.getElem_mem hi
        have cF := ih r.kids[i] hm (Nat.le_trans (bd_kid hm) hb)
        rw [eRex_eq false r.kids[i]] at cF
        simp -implicitDefEqProofs (maxSteps := 100000) (disch := first | (intros; contradiction) | omega) only [am0, am1, am2, am3, am4, am5, am6, am7, am8, am9, Nat.reduceSub, ↓reduceIte, reduceCtorEq, Nat.reduceEqDiff, Nat.reduceBEq, Nat.reduceAdd, Nat.reduceLT, Nat.reduceBNe, Nat.reduceMul, ↓reduceIte, tis, rx, fls, eRex_eq false r.kids[i]]
        refine .inl ⟨by kernel_rfl, ?_⟩
        refine callL cF ?_
        simp -implicitDefEqProofs (maxSteps := 100000) (disch := first | (intros; contradiction) | omega) only [am0, am1, am2, am3, am4, am5, am6, am7, am8, am9, Nat.reduceSub, ↓reduceIte, reduceCtorEq, Nat.reduceEqDiff, Nat.reduceBEq, Nat.reduceAdd, Nat.reduceLT, Nat.reduceBNe, Nat.reduceMul, ↓reduceIte, tis, rx, fls]
        refine round_normal (i + 1) (by omega) ?_ (by show r.kids.length - (i + 1) < r.kids.length - i; omega)
        simp -implicitDefEqProofs (maxSteps := 100000) (disch := first | (intros; contradiction) | omega) only [am0, am1, am2, am3, am4, am5, am6, am7, am8, am9, Nat.reduceSub, ↓reduceIte, reduceCtorEq, Nat.reduceEqDiff, Nat.reduceBEq, Nat.reduceAdd, Nat.reduceLT, Nat.reduceBNe, Nat.reduceMul, ↓reduceIte, tis]
      · obtain rfl : i = r.kids.length := by omega
        simp -implicitDefEqProofs (maxSteps := 100000) (disch := first | (intros; contradiction) | omega) only [am0, am1, am2, am3, am4, am5, am6, am7, am8, am9, Nat.reduceSub, ↓reduceIte, reduceCtorEq, Nat.reduceEqDiff, Nat.reduceBEq, Nat.reduceAdd, Nat.reduceLT, Nat.reduceBNe, Nat.reduceMul, ↓reduceIte, tis, rx, fls]
theorem bentV_le2 (b : List UInt8) (p : Nat) : bd (bentV b p).1 ≤ 600000 := by
  have h := someV_le b p
  unfold bentV
  generalize someV b p = x at *
  have h2 := bd_eq x.1
  split
  · simp only [bd]; omega
  · split
    · simp only [bd, List.length_singleton]; omega
    · split
      · simp only [star_bd]; omega
      · split
        · have := cat_bd x.1 5
          simp only; omega
        · simp only; omega
theorem twoV_bd2 (b : List UInt8) : bd (twoV b).1 ≤ 600000 ∧ bd (twoV b).2 ≤ 100000 := by
  refine ⟨?_, (twoV_bd b).2.2⟩
  have h1 := (someV_le b 0).2
  have h3 := bentV_le2 b ((someV b (someV b 0).2).2 + 1 + 1)
  unfold twoV
  simp only
  split
  · simp only; omega
  · split
    · simp only; omega
    · split
      · simp only; omega
      · split
        · exact h3
        · simp only; omega
/-- spec.DrawAskSame -/
theorem fits_drawAskSame (c : List UInt8) (hc : c.length ≤ 9223372036854775807) : Fits prog 57 [.sl false 1 (bytesA c)] (.tup [eRex false (twoV (c.take 2000)).1, eRex false (twoV (c.take 2000)).2]) [] := by
  have cT := fits_l12Two c hc
  generalize twoV (c.take 2000) = x at *
  obtain ⟨a, b⟩ := x
  simp only at *
  rw [eRex_eq false a, eRex_eq false b] at *
  refine fits_of_cc 2 26 3 26 (by decide) [] [0, 2, 3] func57 rfl rfl rfl (by show 2 < 8; decide) (by show 3 < 8; decide) (by show 1 ≤ 8; decide) (by rfl) (by rfl) (by show 0 ≤ 1; decide) (by rfl) (run_of ?_)
  simp -implicitDefEqProofs (maxSteps := 100000) (disch := first | (intros; contradiction) | omega) only [am0, am1, am2, am3, am4, am5, am6, am7, am8, am9, Nat.reduceSub, ↓reduceIte, reduceCtorEq, Nat.reduceEqDiff, Nat.reduceBEq, Nat.reduceAdd, Nat.reduceLT, Nat.reduceBNe, Nat.reduceMul, ↓reduceIte, tis, fls, rx]
  refine callB cT ?_
  simp -implicitDefEqProofs (maxSteps := 100000) (disch := first | (intros; contradiction) | omega) only [am0, am1, am2, am3, am4, am5, am6, am7, am8, am9, Nat.reduceSub, ↓reduceIte, reduceCtorEq, Nat.reduceEqDiff, Nat.reduceBEq, Nat.reduceAdd, Nat.reduceLT, Nat.reduceBNe, Nat.reduceMul, ↓reduceIte, tis, fls, rx, ex_eq, exGo_tup, plain, plainL, retCC]
theorem bd_turnP (r : Rex) : bd (turnP r) ≤ bd r := by
  unfold turnP; split
  · rw [bd_turn]; exact Nat.le_refl _
  · simp [zRex, bd]
/-- laws.FnTurnCat -/
theorem law_LTurnCat (c : List UInt8) (hc : c.length ≤ 9223372036854775807) : Fits prog 10 [.sl false 1 (bytesA c)] (.bool true) [] := by
  by_cases h0 : (1048576 : Int) < c.length
  · refine fits_of_code [2] [] [0, 2, 3, 4, 5, 8, 24, 29] func10 rfl rfl rfl (by rfl) (by show 1 ≤ 70; decide) (by rfl) (by rfl) (by show 0 ≤ 1; decide) (by rfl) (run_of ?_)
    simp -implicitDefEqProofs (maxSteps := 100000) (disch := first | (intros; contradiction) | omega) only [am0, am1, am2, am3, am4, am5, am6, am7, am8, am9, Nat.reduceSub, ↓reduceIte, reduceCtorEq, Nat.reduceEqDiff, Nat.reduceBEq, Nat.reduceAdd, Nat.reduceLT, Nat.reduceBNe, Nat.reduceMul, ↓reduceIte, tis, h0]
  have cD := fits_drawAskSame c hc
  obtain ⟨b1, b2⟩ := twoV_bd2 (c.take 2000)
  generalize twoV (c.take 2000) = x at *
  obtain ⟨a, b⟩ := x
  simp only at *
  have bC : bd (.mk 3 [] [a, b]) = 2 + (bd a + bd b) := by rw [bd_eq]; simp [Rex.set, Rex.kids]
  have bS : bd (.mk 5 [] [a]) = 1 + bd a := by rw [bd_eq]; simp [Rex.set, Rex.kids]
  have bN : bd (.mk 7 [] [b]) = 1 + bd b := by rw [bd_eq]; simp [Rex.set, Rex.kids]
  have shT : ∀ r, bd r ≤ 1048576 → Fits prog 18 [eRex false r] (eRex false (turnP r)) [] := fun r h => fits_own (fits_turnRex r h) (er_rex true _)
  have cW := fits_wkCat a b
  have cT := shT (.mk 3 [] [a, b]) (by omega)
  have cT2 := fits_own (fits_sTurnRex (.mk 3 [] [a, b]) (by omega)) (er_rex true _)
  have hP := bd_turnP (.mk 3 [] [a, b])
  have cS := fits_rexSame (turnP (.mk 3 [] [a, b])) (by omega)
  have cO := fits_sRexOk (.mk 3 [] [a, b]) (by omega)
  cases hr : rexB (.mk 3 [] [a, b]) with
  | false =>
    have e : turnP (.mk 3 [] [a, b]) = zRex := by unfold turnP; rw [hr]; rfl
    have k0 : (turnP (.mk 3 [] [a, b])).kind = 0 := by rw [e]; rfl
    rw [hr] at cO
    clear shT e hr hP bC bS bN
    generalize turnP (.mk 3 [] [a, b]) = t at *
    generalize Rex.mk 3 [] [a, b] = C at *
    rw [eRex_eq false a, eRex_eq false b] at *
    rw [eRex_eq false C, eRex_eq false t] at *
    refine fits_of_code [2] [] [0, 2, 3, 4, 5, 8, 24, 29] func10 rfl rfl rfl (by rfl) (by show 1 ≤ 70; decide) (by rfl) (by rfl) (by show 0 ≤ 1; decide) (by rfl) (run_of ?_)
    simp -implicitDefEqProofs (maxSteps := 100000) (disch := first | (intros; contradiction) | omega) only [am0, am1, am2, am3, am4, am5, am6, am7, am8, am9, Nat.reduceSub, ↓reduceIte, reduceCtorEq, Nat.reduceEqDiff, Nat.reduceBEq, Nat.reduceAdd, Nat.reduceLT, Nat.reduceBNe, Nat.reduceMul, ↓reduceIte, tis, h0]
    refine callB cD ?_
    simp -implicitDefEqProofs (maxSteps := 100000) (disch := first | (intros; contradiction) | omega) only [am0, am1, am2, am3, am4, am5, am6, am7, am8, am9, Nat.reduceSub, ↓reduceIte, reduceCtorEq, Nat.reduceEqDiff, Nat.reduceBEq, Nat.reduceAdd, Nat.reduceLT, Nat.reduceBNe, Nat.reduceMul, ↓reduceIte, tis, fls, rx, ex_eq, exGo_tup, plain, plainL]
    refine callB cW ?_
    simp -implicitDefEqProofs (maxSteps := 100000) (disch := first | (intros; contradiction) | omega) only [am0, am1, am2, am3, am4, am5, am6, am7, am8, am9, Nat.reduceSub, ↓reduceIte, reduceCtorEq, Nat.reduceEqDiff, Nat.reduceBEq, Nat.reduceAdd, Nat.reduceLT, Nat.reduceBNe, Nat.reduceMul, ↓reduceIte, tis, fls, rx]
    refine callB cT ?_
    simp -implicitDefEqProofs (maxSteps := 100000) (disch := first | (intros; contradiction) | omega) only [am0, am1, am2, am3, am4, am5, am6, am7, am8, am9, Nat.reduceSub, ↓reduceIte, reduceCtorEq, Nat.reduceEqDiff, Nat.reduceBEq, Nat.reduceAdd, Nat.reduceLT, Nat.reduceBNe, Nat.reduceMul, ↓reduceIte, tis, fls, rx]
    refine .inl ⟨by kernel_rfl, ?_⟩
    refine callL cW ?_
    simp -implicitDefEqProofs (maxSteps := 100000) (disch := first | (intros; contradiction) | omega) only [am0, am1, am2, am3, am4, am5, am6, am7, am8, am9, Nat.reduceSub, ↓reduceIte, reduceCtorEq, Nat.reduceEqDiff, Nat.reduceBEq, Nat.reduceAdd, Nat.reduceLT, Nat.reduceBNe, Nat.reduceMul, ↓reduceIte, tis, fls, rx]
    refine callL cT2 ?_
    simp -implicitDefEqProofs (maxSteps := 100000) (disch := first | (intros; contradiction) | omega) only [am0, am1, am2, am3, am4, am5, am6, am7, am8, am9, Nat.reduceSub, ↓reduceIte, reduceCtorEq, Nat.reduceEqDiff, Nat.reduceBEq, Nat.reduceAdd, Nat.reduceLT, Nat.reduceBNe, Nat.reduceMul, ↓reduceIte, tis, fls, rx]
    refine callL cS ?_
    simp -implicitDefEqProofs (maxSteps := 100000) (disch := first | (intros; contradiction) | omega) only [am0, am1, am2, am3, am4, am5, am6, am7, am8, am9, Nat.reduceSub, ↓reduceIte, reduceCtorEq, Nat.reduceEqDiff, Nat.reduceBEq, Nat.reduceAdd, Nat.reduceLT, Nat.reduceBNe, Nat.reduceMul, ↓reduceIte, tis, fls, rx]
    refine callB cW ?_
    simp -implicitDefEqProofs (maxSteps := 100000) (disch := first | (intros; contradiction) | omega) only [am0, am1, am2, am3, am4, am5, am6, am7, am8, am9, Nat.reduceSub, ↓reduceIte, reduceCtorEq, Nat.reduceEqDiff, Nat.reduceBEq, Nat.reduceAdd, Nat.reduceLT, Nat.reduceBNe, Nat.reduceMul, ↓reduceIte, tis, fls, rx]
    refine callB cO ?_
    simp -implicitDefEqProofs (maxSteps := 100000) (disch := first | (intros; contradiction) | omega) only [am0, am1, am2, am3, am4, am5, am6, am7, am8, am9, Nat.reduceSub, ↓reduceIte, reduceCtorEq, Nat.reduceEqDiff, Nat.reduceBEq, Nat.reduceAdd, Nat.reduceLT, Nat.reduceBNe, Nat.reduceMul, ↓reduceIte, tis, fls, rx, k0]
  | true =>
    obtain ⟨e1, e2, e3⟩ := turnP_cat hr
    have pa := bd_turnP a
    have pb := bd_turnP b
    have cTa := shT a (by omega)
    have cTb := shT b (by omega)
    have cW2 := fits_wkCat (turnP b) (turnP a)
    rw [← e1] at cW2
    have cSt := fits_wkStar a
    have cNo := fits_wkNot b
    have cTs := shT (.mk 5 [] [a]) (by omega)
    have cTn := shT (.mk 7 [] [b]) (by omega)
    have cSt2 := fits_wkStar (turnP a)
    rw [← e2] at cSt2
    have cNo2 := fits_wkNot (turnP b)
    rw [← e3] at cNo2
    have hPs := bd_turnP (.mk 5 [] [a])
    have hPn := bd_turnP (.mk 7 [] [b])
    have cSs := fits_rexSame (turnP (.mk 5 [] [a])) (by omega)
    have cSn := fits_rexSame (turnP (.mk 7 [] [b])) (by omega)
    rw [hr] at cO
    clear shT e1 e2 e3 hr hP bC bS bN pa pb hPs hPn
    generalize turnP (.mk 3 [] [a, b]) = t at *
    generalize Rex.mk 3 [] [a, b] = C at *
    generalize turnP (.mk 5 [] [a]) = ts at *
    generalize Rex.mk 5 [] [a] = S at *
    generalize turnP (.mk 7 [] [b]) = tn at *
    generalize Rex.mk 7 [] [b] = N at *
    generalize turnP a = ta at *
    generalize turnP b = tb at *
    rw [eRex_eq false a, eRex_eq false b] at cD cW
    rw [eRex_eq false a] at cTa cSt
    rw [eRex_eq false b] at cTb cNo
    rw [eRex_eq false C] at cW cT cT2 cO
    rw [eRex_eq false t] at cT cT2 cS cW2
    rw [eRex_eq false ta] at cTa cW2 cSt2
    rw [eRex_eq false tb] at cTb cW2 cNo2
    rw [eRex_eq false S] at cSt cTs
    rw [eRex_eq false N] at cNo cTn
    rw [eRex_eq false ts] at cTs cSt2 cSs
    rw [eRex_eq false tn] at cTn cNo2 cSn
    refine fits_of_code [2] [] [0, 2, 3, 4, 5, 8, 24, 29] func10 rfl rfl rfl (by rfl) (by show 1 ≤ 70; decide) (by rfl) (by rfl) (by show 0 ≤ 1; decide) (by rfl) (run_of ?_)
    simp -implicitDefEqProofs (maxSteps := 100000) (disch := first | (intros; contradiction) | omega) only [am0, am1, am2, am3, am4, am5, am6, am7, am8, am9, Nat.reduceSub, ↓reduceIte, reduceCtorEq, Nat.reduceEqDiff, Nat.reduceBEq, Nat.reduceAdd, Nat.reduceLT, Nat.reduceBNe, Nat.reduceMul, ↓reduceIte, tis, h0]
    refine callB cD ?_
    simp -implicitDefEqProofs (maxSteps := 100000) (disch := first | (intros; contradiction) | omega) only [am0, am1, am2, am3, am4, am5, am6, am7, am8, am9, Nat.reduceSub, ↓reduceIte, reduceCtorEq, Nat.reduceEqDiff, Nat.reduceBEq, Nat.reduceAdd, Nat.reduceLT, Nat.reduceBNe, Nat.reduceMul, ↓reduceIte, tis, fls, rx, ex_eq, exGo_tup, plain, plainL]
    refine callB cW ?_
    simp -implicitDefEqProofs (maxSteps := 100000) (disch := first | (intros; contradiction) | omega) only [am0, am1, am2, am3, am4, am5, am6, am7, am8, am9, Nat.reduceSub, ↓reduceIte, reduceCtorEq, Nat.reduceEqDiff, Nat.reduceBEq, Nat.reduceAdd, Nat.reduceLT, Nat.reduceBNe, Nat.reduceMul, ↓reduceIte, tis, fls, rx]
    refine callB cT ?_
    simp -implicitDefEqProofs (maxSteps := 100000) (disch := first | (intros; contradiction) | omega) only [am0, am1, am2, am3, am4, am5, am6, am7, am8, am9, Nat.reduceSub, ↓reduceIte, reduceCtorEq, Nat.reduceEqDiff, Nat.reduceBEq, Nat.reduceAdd, Nat.reduceLT, Nat.reduceBNe, Nat.reduceMul, ↓reduceIte, tis, fls, rx]
    refine .inl ⟨by kernel_rfl, ?_⟩
    refine callL cW ?_
    simp -implicitDefEqProofs (maxSteps := 100000) (disch := first | (intros; contradiction) | omega) only [am0, am1, am2, am3, am4, am5, am6, am7, am8, am9, Nat.reduceSub, ↓reduceIte, reduceCtorEq, Nat.reduceEqDiff, Nat.reduceBEq, Nat.reduceAdd, Nat.reduceLT, Nat.reduceBNe, Nat.reduceMul, ↓reduceIte, tis, fls, rx]
    refine callL cT2 ?_
    simp -implicitDefEqProofs (maxSteps := 100000) (disch := first | (intros; contradiction) | omega) only [am0, am1, am2, am3, am4, am5, am6, am7, am8, am9, Nat.reduceSub, ↓reduceIte, reduceCtorEq, Nat.reduceEqDiff, Nat.reduceBEq, Nat.reduceAdd, Nat.reduceLT, Nat.reduceBNe, Nat.reduceMul, ↓reduceIte, tis, fls, rx]
    refine callL cS ?_
    simp -implicitDefEqProofs (maxSteps := 100000) (disch := first | (intros; contradiction) | omega) only [am0, am1, am2, am3, am4, am5, am6, am7, am8, am9, Nat.reduceSub, ↓reduceIte, reduceCtorEq, Nat.reduceEqDiff, Nat.reduceBEq, Nat.reduceAdd, Nat.reduceLT, Nat.reduceBNe, Nat.reduceMul, ↓reduceIte, tis, fls, rx]
    refine callB cW ?_
    simp -implicitDefEqProofs (maxSteps := 100000) (disch := first | (intros; contradiction) | omega) only [am0, am1, am2, am3, am4, am5, am6, am7, am8, am9, Nat.reduceSub, ↓reduceIte, reduceCtorEq, Nat.reduceEqDiff, Nat.reduceBEq, Nat.reduceAdd, Nat.reduceLT, Nat.reduceBNe, Nat.reduceMul, ↓reduceIte, tis, fls, rx]
    refine callB cO ?_
    simp -implicitDefEqProofs (maxSteps := 100000) (disch := first | (intros; contradiction) | omega) only [am0, am1, am2, am3, am4, am5, am6, am7, am8, am9, Nat.reduceSub, ↓reduceIte, reduceCtorEq, Nat.reduceEqDiff, Nat.reduceBEq, Nat.reduceAdd, Nat.reduceLT, Nat.reduceBNe, Nat.reduceMul, ↓reduceIte, tis, fls, rx]
    refine .inl ⟨by kernel_rfl, ?_⟩
    refine callL cTb ?_
    simp -implicitDefEqProofs (maxSteps := 100000) (disch := first | (intros; contradiction) | omega) only [am0, am1, am2, am3, am4, am5, am6, am7, am8, am9, Nat.reduceSub, ↓reduceIte, reduceCtorEq, Nat.reduceEqDiff, Nat.reduceBEq, Nat.reduceAdd, Nat.reduceLT, Nat.reduceBNe, Nat.reduceMul, ↓reduceIte, tis, fls, rx]
    refine callL cTa ?_
    simp -implicitDefEqProofs (maxSteps := 100000) (disch := first | (intros; contradiction) | omega) only [am0, am1, am2, am3, am4, am5, am6, am7, am8, am9, Nat.reduceSub, ↓reduceIte, reduceCtorEq, Nat.reduceEqDiff, Nat.reduceBEq, Nat.reduceAdd, Nat.reduceLT, Nat.reduceBNe, Nat.reduceMul, ↓reduceIte, tis, fls, rx]
    refine callL cW2 ?_
    simp -implicitDefEqProofs (maxSteps := 100000) (disch := first | (intros; contradiction) | omega) only [am0, am1, am2, am3, am4, am5, am6, am7, am8, am9, Nat.reduceSub, ↓reduceIte, reduceCtorEq, Nat.reduceEqDiff, Nat.reduceBEq, Nat.reduceAdd, Nat.reduceLT, Nat.reduceBNe, Nat.reduceMul, ↓reduceIte, tis, fls, rx]
    refine callL cS ?_
    simp -implicitDefEqProofs (maxSteps := 100000) (disch := first | (intros; contradiction) | omega) only [am0, am1, am2, am3, am4, am5, am6, am7, am8, am9, Nat.reduceSub, ↓reduceIte, reduceCtorEq, Nat.reduceEqDiff, Nat.reduceBEq, Nat.reduceAdd, Nat.reduceLT, Nat.reduceBNe, Nat.reduceMul, ↓reduceIte, tis, fls, rx]
    refine callL cSt ?_
    simp -implicitDefEqProofs (maxSteps := 100000) (disch := first | (intros; contradiction) | omega) only [am0, am1, am2, am3, am4, am5, am6, am7, am8, am9, Nat.reduceSub, ↓reduceIte, reduceCtorEq, Nat.reduceEqDiff, Nat.reduceBEq, Nat.reduceAdd, Nat.reduceLT, Nat.reduceBNe, Nat.reduceMul, ↓reduceIte, tis, fls, rx]
    refine callL cTs ?_
    simp -implicitDefEqProofs (maxSteps := 100000) (disch := first | (intros; contradiction) | omega) only [am0, am1, am2, am3, am4, am5, am6, am7, am8, am9, Nat.reduceSub, ↓reduceIte, reduceCtorEq, Nat.reduceEqDiff, Nat.reduceBEq, Nat.reduceAdd, Nat.reduceLT, Nat.reduceBNe, Nat.reduceMul, ↓reduceIte, tis, fls, rx]
    refine callL cTa ?_
    simp -implicitDefEqProofs (maxSteps := 100000) (disch := first | (intros; contradiction) | omega) only [am0, am1, am2, am3, am4, am5, am6, am7, am8, am9, Nat.reduceSub, ↓reduceIte, reduceCtorEq, Nat.reduceEqDiff, Nat.reduceBEq, Nat.reduceAdd, Nat.reduceLT, Nat.reduceBNe, Nat.reduceMul, ↓reduceIte, tis, fls, rx]
    refine callL cSt2 ?_
    simp -implicitDefEqProofs (maxSteps := 100000) (disch := first | (intros; contradiction) | omega) only [am0, am1, am2, am3, am4, am5, am6, am7, am8, am9, Nat.reduceSub, ↓reduceIte, reduceCtorEq, Nat.reduceEqDiff, Nat.reduceBEq, Nat.reduceAdd, Nat.reduceLT, Nat.reduceBNe, Nat.reduceMul, ↓reduceIte, tis, fls, rx]
    refine callL cSs ?_
    simp -implicitDefEqProofs (maxSteps := 100000) (disch := first | (intros; contradiction) | omega) only [am0, am1, am2, am3, am4, am5, am6, am7, am8, am9, Nat.reduceSub, ↓reduceIte, reduceCtorEq, Nat.reduceEqDiff, Nat.reduceBEq, Nat.reduceAdd, Nat.reduceLT, Nat.reduceBNe, Nat.reduceMul, ↓reduceIte, tis, fls, rx]
    refine callL cNo ?_
    simp -implicitDefEqProofs (maxSteps := 100000) (disch := first | (intros; contradiction) | omega) only [am0, am1, am2, am3, am4, am5, am6, am7, am8, am9, Nat.reduceSub, ↓reduceIte, reduceCtorEq, Nat.reduceEqDiff, Nat.reduceBEq, Nat.reduceAdd, Nat.reduceLT, Nat.reduceBNe, Nat.reduceMul, ↓reduceIte, tis, fls, rx]
    refine callL cTn ?_
    simp -implicitDefEqProofs (maxSteps := 100000) (disch := first | (intros; contradiction) | omega) only [am0, am1, am2, am3, am4, am5, am6, am7, am8, am9, Nat.reduceSub, ↓reduceIte, reduceCtorEq, Nat.reduceEqDiff, Nat.reduceBEq, Nat.reduceAdd, Nat.reduceLT, Nat.reduceBNe, Nat.reduceMul, ↓reduceIte, tis, fls, rx]
    refine callL cTb ?_
    simp -implicitDefEqProofs (maxSteps := 100000) (disch := first | (intros; contradiction) | omega) only [am0, am1, am2, am3, am4, am5, am6, am7, am8, am9, Nat.reduceSub, ↓reduceIte, reduceCtorEq, Nat.reduceEqDiff, Nat.reduceBEq, Nat.reduceAdd, Nat.reduceLT, Nat.reduceBNe, Nat.reduceMul, ↓reduceIte, tis, fls, rx]
    refine callL cNo2 ?_
    simp -implicitDefEqProofs (maxSteps := 100000) (disch := first | (intros; contradiction) | omega) only [am0, am1, am2, am3, am4, am5, am6, am7, am8, am9, Nat.reduceSub, ↓reduceIte, reduceCtorEq, Nat.reduceEqDiff, Nat.reduceBEq, Nat.reduceAdd, Nat.reduceLT, Nat.reduceBNe, Nat.reduceMul, ↓reduceIte, tis, fls, rx]
    refine callL cSn ?_
    simp -implicitDefEqProofs (maxSteps := 100000) (disch := first | (intros; contradiction) | omega) only [am0, am1, am2, am3, am4, am5, am6, am7, am8, am9, Nat.reduceSub, ↓reduceIte, reduceCtorEq, Nat.reduceEqDiff, Nat.reduceBEq, Nat.reduceAdd, Nat.reduceLT, Nat.reduceBNe, Nat.reduceMul, ↓reduceIte, tis, fls, rx]
theorem own : ownKnob prog.godebug = none := by kernel_rfl
theorem laidOut : laidOutB prog = true := by kernel_rfl
theorem typ_int {n : Nat} {x : AV} (h : Typed prog n 3 x) : ∃ v, x = .int .i64 v ∧ -9223372036854775808 ≤ v ∧ v ≤ 9223372036854775807 := by
  cases n with
  | zero => exact h.elim
  | succ n =>
    simp only [Typed, underlying3] at h
    obtain ⟨v, rfl, hw⟩ := h
    refine ⟨v, rfl, ?_⟩
    simp [Lit.wf, IntKind.min, IntKind.max, IntKind.bits, IntKind.signed] at hw
    omega
theorem typ_str {n : Nat} {x : AV} (h : Typed prog n 9 x) : ∃ s, x = .str s ∧ s.length ≤ 9223372036854775807 := by
  cases n with
  | zero => exact h.elim
  | succ n => simp only [Typed, underlying9] at h; exact h
theorem typ_bool {n : Nat} {x : AV} (h : Typed prog n 4 x) : ∃ b, x = .bool b := by
  cases n with
  | zero => exact h.elim
  | succ n => simp only [Typed, underlying4] at h; exact h
theorem all_map {α : Type} (f : α → AV) : ∀ xs : List AV, (∀ y ∈ xs, ∃ i, y = f i) → ∃ is : List α, xs = is.map f
  | [], _ => ⟨[], rfl⟩
  | y :: r, h => by
    obtain ⟨i, rfl⟩ := h y (List.mem_cons_self ..)
    obtain ⟨is, rfl⟩ := all_map f r (fun z hz => h z (List.mem_cons_of_mem _ hz))
    exact ⟨i :: is, rfl⟩
theorem typ_byte {n : Nat} {x : AV} (h : Typed prog n 5 x) : ∃ v : UInt8, x = .int .u8 v.toNat := by
  cases n with
  | zero => exact h.elim
  | succ n =>
    simp only [Typed, underlying5] at h
    obtain ⟨v, rfl, hw⟩ := h
    simp [Lit.wf, IntKind.min, IntKind.max, IntKind.bits, IntKind.signed] at hw
    refine ⟨UInt8.ofNat v.toNat, ?_⟩
    rw [UInt8.toNat_ofNat']
    congr 1
    omega
theorem typ_code {n : Nat} {x : AV} (h : Typed prog n 22 x) : ∃ c : List UInt8, x = .sl false 1 (bytesA c) ∧ c.length ≤ 9223372036854775807 := by
  cases n with
  | zero => exact h.elim
  | succ n =>
    have co : prog.cellsOf 5 = 1 := by kernel_rfl
    simp only [Typed, underlying22, co] at h
    obtain ⟨xs, rfl, hl, hf⟩ := h
    obtain ⟨p, rfl⟩ := all_map (fun v : UInt8 => AV.int .u8 v.toNat) xs (fun y hy => typ_byte (hf y hy))
    exact ⟨p, rfl, by simpa [maxLen] using hl⟩
end Go.Proofs.Ytonljcfflamccaa.U
