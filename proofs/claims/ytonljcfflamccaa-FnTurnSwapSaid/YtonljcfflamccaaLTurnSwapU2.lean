/- What functions of the program answer, on values without memory (part 2): conditions stand at each theorem. -/
import Derived.Test.YtonljcfflamccaaRows
import Derived.Test.YtonljcfflamccaaLTurnSwapU1
set_option linter.unusedVariables false
set_option linter.unusedSimpArgs false
set_option maxRecDepth 100000
set_option maxHeartbeats 4000000
namespace Go.Proofs.Ytonljcfflamccaa.U
open Go Go.RowKit Go.Proofs Go.Proofs.Ytonljcfflamccaa.Am AV Go.Proofs.Try
/-- Two bytes in each other's place. -/
def swapR (a b : Nat) : Rex → Rex
  | .mk k s ks => .mk k (if k = 1 then spansL (swapB (bitsL s) a b) else []) (ks.map (swapR a b))
theorem swapR_eq (a b : Nat) (r : Rex) : swapR a b r = .mk r.kind (if r.kind = 1 then spansL (swapB (bitsL r.set) a b) else []) (r.kids.map (swapR a b)) := by cases r; rw [swapR]; rfl
theorem bd_swap (a b : Nat) (r : Rex) : bd (swapR a b r) + 1 ≤ 257 * ps r := by
  induction r using Rex.ind' with
  | h r ih =>
    rw [swapR_eq, bd_eq, ps_eq r]
    show (if r.kind = 1 then spansL (swapB (bitsL r.set) a b) else []).length + ((r.kids.map (swapR a b)).length + ((r.kids.map (swapR a b)).map bd).sum) + 1 ≤ _
    have h1 : (if r.kind = 1 then spansL (swapB (bitsL r.set) a b) else []).length ≤ 256 := by
      split
      · exact spN_len _ 256
      · simp
    have h2 : (r.kids.map (swapR a b)).length + ((r.kids.map (swapR a b)).map bd).sum ≤ 257 * (r.kids.map ps).sum := by
      generalize r.kids = l at ih
      induction l with
      | nil => simp
      | cons x l ihl =>
        have h1 := ih x (List.mem_cons_self ..)
        have h2 := ihl (fun y hy => ih y (List.mem_cons_of_mem _ hy))
        simp only [List.map_cons, List.sum_cons, List.length_cons]
        omega
    omega
def swap1 (r : Rex) (a b : Nat) : List Span := if r.kind = 1 then spansL (swapB (bitsL r.set) a b) else []
/-- impl.swapped -/
theorem fits_swapped (r : Rex) (d : Nat) (hf : fm d r = true) (hb : bd r ≤ 1048576) (a b : Nat) (ha : a < 256) (hbb : b < 256) : Fits prog 98 [eRex false r, .int .i64 a, .int .i64 b] (eRex true (swapR a b r)) [] := by
  induction d generalizing r with
  | zero => simp [fm] at hf
  | succ d ih =>
    have hb' := bd_eq r
    have h4 := (fm_ok hf).2.2.2
    have cB := fits_bitsOf r.set (by omega)
    have hl := bitsL_len r.set
    have cS := fits_spans (swapB (bitsL r.set) a b) (by rw [swapB_len]; exact hl)
    have g5 : ((bitsL r.set).map eBool).length = 256 := by simp [hl]
    have ga := getBool (bitsL r.set) a (by omega)
    have gb := getBool (bitsL r.set) b (by omega)
    have gc := getBool ((bitsL r.set).set a ((bitsL r.set).getD b false)) b (by simp [hl]; omega)
    have hSl : (swap1 r a b).length ≤ 256 := by
      unfold swap1; split
      · exact spN_len _ 256
      · simp
    have hS : (r.kind = 1 → swap1 r a b = spansL (swapB (bitsL r.set) a b)) ∧ (r.kind ≠ 1 → swap1 r a b = []) := ⟨fun h => by simp [swap1, h], fun h => by simp [swap1, h]⟩
    rw [eRex_eq, swapR_eq, eRex]
    rw [show (if r.kind = 1 then spansL (swapB (bitsL r.set) a b) else []) = swap1 r a b from rfl]
    generalize swap1 r a b = S1 at *
    refine fits_of_cell 6 26 [] [0, 1, 2, 3, 6, 7, 8, 10, 16, 34, 35, 36, 37] func98 rfl rfl rfl (by show 6 < 51; decide) (by show 3 ≤ 51; decide) (by rfl) (by rfl) (by show 0 ≤ 3; decide) (by rfl) (run_of ?_)
    by_cases h1 : r.kind = 1
    · have hS := hS.1 h1
      rw [← hS] at cS
      unfold swapB at cS
      simp -implicitDefEqProofs (maxSteps := 100000) (disch := first | (intros; contradiction) | omega) only [am0, am1, am2, am3, am4, am5, am6, am7, am8, am9, Nat.reduceSub, ↓reduceIte, reduceCtorEq, Nat.reduceEqDiff, Nat.reduceBEq, Nat.reduceAdd, Nat.reduceLT, Nat.reduceBNe, Nat.reduceMul, ↓reduceIte, tis, h1]
      refine callB cB ?_
      simp -implicitDefEqProofs (maxSteps := 100000) (disch := first | (intros; contradiction) | omega) only [am0, am1, am2, am3, am4, am5, am6, am7, am8, am9, Nat.reduceSub, ↓reduceIte, reduceCtorEq, Nat.reduceEqDiff, Nat.reduceBEq, Nat.reduceAdd, Nat.reduceLT, Nat.reduceBNe, Nat.reduceMul, ↓reduceIte, tis, h1, fls, hl]
      refine .inr (run_late 9 [[1], []] (by kernel_rfl) ?_)
      simp -implicitDefEqProofs (maxSteps := 100000) (disch := first | (intros; contradiction) | omega) only [am0, am1, am2, am3, am4, am5, am6, am7, am8, am9, Nat.reduceSub, ↓reduceIte, reduceCtorEq, Nat.reduceEqDiff, Nat.reduceBEq, Nat.reduceAdd, Nat.reduceLT, Nat.reduceBNe, Nat.reduceMul, ↓reduceIte, tis, h1, fls, g5, ga, gb, setBool, gc, List.length_map, List.length_set, hl]
      refine callB cS ?_
      simp -implicitDefEqProofs (maxSteps := 100000) (disch := first | (intros; contradiction) | omega) only [am0, am1, am2, am3, am4, am5, am6, am7, am8, am9, Nat.reduceSub, ↓reduceIte, reduceCtorEq, Nat.reduceEqDiff, Nat.reduceBEq, Nat.reduceAdd, Nat.reduceLT, Nat.reduceBNe, Nat.reduceMul, ↓reduceIte, tis, h1, fls]
      refine run_loop (α := Nat) (fun i => i ≤ r.kids.length) (fun i => [(1, .int .i64 a), (2, .int .i64 b), (6, .box (.agg [.int .i64 0, .sl true 0 [], .sl true 0 []])), (7, .box (.agg [.int .i64 r.kind, .sl true 2 (S1.map eSpan), .sl true 3 ((r.kids.take i).map (fun x => eRex true (swapR a b x)))])), (34, .sl false 3 (r.kids.map (eRex false))), (35, .int .i64 r.kids.length), (36, .int .i64 i)]) (fun i => r.kids.length - i) 0 (Nat.zero_le _) ?_ ?_
      · simp -implicitDefEqProofs (maxSteps := 100000) (disch := first | (intros; contradiction) | omega) only [am0, am1, am2, am3, am4, am5, am6, am7, am8, am9, Nat.reduceSub, ↓reduceIte, reduceCtorEq, Nat.reduceEqDiff, Nat.reduceBEq, Nat.reduceAdd, Nat.reduceLT, Nat.reduceBNe, Nat.reduceMul, ↓reduceIte, tis, h1, List.map_nil]
      · intro i hi'
        by_cases hi : i < r.kids.length
        · have hm := List.getElem_mem hi
          have cF := ih r.kids[i] (h4 _ hm) (Nat.le_trans (bd_kid hm) hb)
          rw [eRex_eq false r.kids[i], eRex_eq true (swapR a b r.kids[i])] at cF
          simp -implicitDefEqProofs (maxSteps := 100000) (disch := first | (intros; contradiction) | omega) only [am0, am1, am2, am3, am4, am5, am6, am7, am8, am9, Nat.reduceSub, ↓reduceIte, reduceCtorEq, Nat.reduceEqDiff, Nat.reduceBEq, Nat.reduceAdd, Nat.reduceLT, Nat.reduceBNe, Nat.reduceMul, ↓reduceIte, tis, rx, fls, eRex_eq false r.kids[i]]
          refine .inl ⟨by kernel_rfl, ?_⟩
          refine callL cF ?_
          have hlt : (r.kids.take i).length = i := by simp; omega
          simp -implicitDefEqProofs (maxSteps := 100000) (disch := first | (intros; contradiction) | omega) only [am0, am1, am2, am3, am4, am5, am6, am7, am8, am9, Nat.reduceSub, ↓reduceIte, reduceCtorEq, Nat.reduceEqDiff, Nat.reduceBEq, Nat.reduceAdd, Nat.reduceLT, Nat.reduceBNe, Nat.reduceMul, ↓reduceIte, tis, rx, fls, hlt]
          refine round_normal (i + 1) (by omega) ?_ (by show r.kids.length - (i + 1) < r.kids.length - i; omega)
          rw [List.take_succ_eq_append_getElem hi, List.map_append, List.map_cons, List.map_nil, eRex_eq true (swapR a b r.kids[i])]
          simp -implicitDefEqProofs (maxSteps := 100000) (disch := first | (intros; contradiction) | omega) only [am0, am1, am2, am3, am4, am5, am6, am7, am8, am9, Nat.reduceSub, ↓reduceIte, reduceCtorEq, Nat.reduceEqDiff, Nat.reduceBEq, Nat.reduceAdd, Nat.reduceLT, Nat.reduceBNe, Nat.reduceMul, ↓reduceIte, tis]
        · obtain rfl : i = r.kids.length := by omega
          have e : (r.kids.map (swapR a b)).map (eRex true) = r.kids.map (fun x => eRex true (swapR a b x)) := by rw [List.map_map]; rfl
          simp -implicitDefEqProofs (maxSteps := 100000) (disch := first | (intros; contradiction) | omega) only [am0, am1, am2, am3, am4, am5, am6, am7, am8, am9, Nat.reduceSub, ↓reduceIte, reduceCtorEq, Nat.reduceEqDiff, Nat.reduceBEq, Nat.reduceAdd, Nat.reduceLT, Nat.reduceBNe, Nat.reduceMul, ↓reduceIte, tis, h1, e, rx, fls]
    · have hS := hS.2 h1
      simp -implicitDefEqProofs (maxSteps := 100000) (disch := first | (intros; contradiction) | omega) only [am0, am1, am2, am3, am4, am5, am6, am7, am8, am9, Nat.reduceSub, ↓reduceIte, reduceCtorEq, Nat.reduceEqDiff, Nat.reduceBEq, Nat.reduceAdd, Nat.reduceLT, Nat.reduceBNe, Nat.reduceMul, ↓reduceIte, tis, h1]
      refine run_loop (α := Nat) (fun i => i ≤ r.kids.length) (fun i => [(1, .int .i64 a), (2, .int .i64 b), (6, .box (.agg [.int .i64 0, .sl true 0 [], .sl true 0 []])), (7, .box (.agg [.int .i64 r.kind, .sl true 2 (S1.map eSpan), .sl true 3 ((r.kids.take i).map (fun x => eRex true (swapR a b x)))])), (34, .sl false 3 (r.kids.map (eRex false))), (35, .int .i64 r.kids.length), (36, .int .i64 i)]) (fun i => r.kids.length - i) 0 (Nat.zero_le _) ?_ ?_
      · simp -implicitDefEqProofs (maxSteps := 100000) (disch := first | (intros; contradiction) | omega) only [am0, am1, am2, am3, am4, am5, am6, am7, am8, am9, Nat.reduceSub, ↓reduceIte, reduceCtorEq, Nat.reduceEqDiff, Nat.reduceBEq, Nat.reduceAdd, Nat.reduceLT, Nat.reduceBNe, Nat.reduceMul, ↓reduceIte, tis, h1, hS, List.map_nil]
      · intro i hi'
        by_cases hi : i < r.kids.length
        · have hm := List.getElem_mem hi
          have cF := ih r.kids[i] (h4 _ hm) (Nat.le_trans (bd_kid hm) hb)
          rw [eRex_eq false r.kids[i], eRex_eq true (swapR a b r.kids[i])] at cF
          simp -implicitDefEqProofs (maxSteps := 100000) (disch := first | (intros; contradiction) | omega) only [am0, am1, am2, am3, am4, am5, am6, am7, am8, am9, Nat.reduceSub, ↓reduceIte, reduceCtorEq, Nat.reduceEqDiff, Nat.reduceBEq, Nat.reduceAdd, Nat.reduceLT, Nat.reduceBNe, Nat.reduceMul, ↓reduceIte, tis, rx, fls, eRex_eq false r.kids[i]]
          refine .inl ⟨by kernel_rfl, ?_⟩
          refine callL cF ?_
          have hlt : (r.kids.take i).length = i := by simp; omega
          simp -implicitDefEqProofs (maxSteps := 100000) (disch := first | (intros; contradiction) | omega) only [am0, am1, am2, am3, am4, am5, am6, am7, am8, am9, Nat.reduceSub, ↓reduceIte, reduceCtorEq, Nat.reduceEqDiff, Nat.reduceBEq, Nat.reduceAdd, Nat.reduceLT, Nat.reduceBNe, Nat.reduceMul, ↓reduceIte, tis, rx, fls, hlt]
          refine round_normal (i + 1) (by omega) ?_ (by show r.kids.length - (i + 1) < r.kids.length - i; omega)
          rw [List.take_succ_eq_append_getElem hi, List.map_append, List.map_cons, List.map_nil, eRex_eq true (swapR a b r.kids[i])]
          simp -implicitDefEqProofs (maxSteps := 100000) (disch := first | (intros; contradiction) | omega) only [am0, am1, am2, am3, am4, am5, am6, am7, am8, am9, Nat.reduceSub, ↓reduceIte, reduceCtorEq, Nat.reduceEqDiff, Nat.reduceBEq, Nat.reduceAdd, Nat.reduceLT, Nat.reduceBNe, Nat.reduceMul, ↓reduceIte, tis]
        · obtain rfl : i = r.kids.length := by omega
          have e : (r.kids.map (swapR a b)).map (eRex true) = r.kids.map (fun x => eRex true (swapR a b x)) := by rw [List.map_map]; rfl
          simp -implicitDefEqProofs (maxSteps := 100000) (disch := first | (intros; contradiction) | omega) only [am0, am1, am2, am3, am4, am5, am6, am7, am8, am9, Nat.reduceSub, ↓reduceIte, reduceCtorEq, Nat.reduceEqDiff, Nat.reduceBEq, Nat.reduceAdd, Nat.reduceLT, Nat.reduceBNe, Nat.reduceMul, ↓reduceIte, tis, h1, e, rx, fls]
/-- spec.l13Swap -/
theorem fits_l13Swap (r : Rex) (d : Nat) (hf : fm d r = true) (hb : bd r ≤ 1048576) (a b : Nat) (ha : a < 256) (hbb : b < 256) : Fits prog 99 [eRex false r, .int .i64 a, .int .i64 b] (eRex true (swapR a b r)) [] := by
  induction d generalizing r with
  | zero => simp [fm] at hf
  | succ d ih =>
    have hb' := bd_eq r
    have h4 := (fm_ok hf).2.2.2
    have cS := fits_l13Set r.set a b ha hbb (by omega)
    have hSl : (swap1 r a b).length ≤ 256 := by
      unfold swap1; split
      · exact spN_len _ 256
      · simp
    have hS : (r.kind = 1 → swap1 r a b = spansL (swapB (bitsL r.set) a b)) ∧ (r.kind ≠ 1 → swap1 r a b = []) := ⟨fun h => by simp [swap1, h], fun h => by simp [swap1, h]⟩
    rw [eRex_eq, swapR_eq, eRex]
    rw [show (if r.kind = 1 then spansL (swapB (bitsL r.set) a b) else []) = swap1 r a b from rfl]
    generalize swap1 r a b = S1 at *
    refine fits_of_cell 6 26 [] [0, 1, 2, 3, 6, 7, 8, 14, 25] func99 rfl rfl rfl (by show 6 < 42; decide) (by show 3 ≤ 42; decide) (by rfl) (by rfl) (by show 0 ≤ 3; decide) (by rfl) (run_of ?_)
    by_cases h1 : r.kind = 1
    · have hS := hS.1 h1
      rw [← hS] at cS
      simp -implicitDefEqProofs (maxSteps := 100000) (disch := first | (intros; contradiction) | omega) only [am0, am1, am2, am3, am4, am5, am6, am7, am8, am9, Nat.reduceSub, ↓reduceIte, reduceCtorEq, Nat.reduceEqDiff, Nat.reduceBEq, Nat.reduceAdd, Nat.reduceLT, Nat.reduceBNe, Nat.reduceMul, ↓reduceIte, tis, h1]
      refine callB cS ?_
      simp -implicitDefEqProofs (maxSteps := 100000) (disch := first | (intros; contradiction) | omega) only [am0, am1, am2, am3, am4, am5, am6, am7, am8, am9, Nat.reduceSub, ↓reduceIte, reduceCtorEq, Nat.reduceEqDiff, Nat.reduceBEq, Nat.reduceAdd, Nat.reduceLT, Nat.reduceBNe, Nat.reduceMul, ↓reduceIte, tis, h1, fls]
      refine run_loop (α := Nat) (fun i => i ≤ r.kids.length) (fun i => [(1, .int .i64 a), (2, .int .i64 b), (3, .box (.agg [.int .i64 r.kind, .sl false 2 (r.set.map eSpan), .sl false 3 (r.kids.map (eRex false))])), (6, .box (.agg [.int .i64 0, .sl true 0 [], .sl true 0 []])), (7, .box (.agg [.int .i64 r.kind, .sl true 2 (S1.map eSpan), .sl true 3 ((r.kids.take i).map (fun x => eRex true (swapR a b x)))])), (8, .int .i64 i)]) (fun i => r.kids.length - i) 0 (Nat.zero_le _) ?_ ?_
      · simp -implicitDefEqProofs (maxSteps := 100000) (disch := first | (intros; contradiction) | omega) only [am0, am1, am2, am3, am4, am5, am6, am7, am8, am9, Nat.reduceSub, ↓reduceIte, reduceCtorEq, Nat.reduceEqDiff, Nat.reduceBEq, Nat.reduceAdd, Nat.reduceLT, Nat.reduceBNe, Nat.reduceMul, ↓reduceIte, tis, h1, List.map_nil]
      · intro i hi'
        by_cases hi : i < r.kids.length
        · have hm := List.getElem_mem hi
          have cF := ih r.kids[i] (h4 _ hm) (Nat.le_trans (bd_kid hm) hb)
          rw [eRex_eq false r.kids[i], eRex_eq true (swapR a b r.kids[i])] at cF
          simp -implicitDefEqProofs (maxSteps := 100000) (disch := first | (intros; contradiction) | omega) only [am0, am1, am2, am3, am4, am5, am6, am7, am8, am9, Nat.reduceSub, ↓reduceIte, reduceCtorEq, Nat.reduceEqDiff, Nat.reduceBEq, Nat.reduceAdd, Nat.reduceLT, Nat.reduceBNe, Nat.reduceMul, ↓reduceIte, tis, rx, fls, eRex_eq false r.kids[i]]
          refine .inl ⟨by kernel_rfl, ?_⟩
          refine callL cF ?_
          have hlt : (r.kids.take i).length = i := by simp; omega
          simp -implicitDefEqProofs (maxSteps := 100000) (disch := first | (intros; contradiction) | omega) only [am0, am1, am2, am3, am4, am5, am6, am7, am8, am9, Nat.reduceSub, ↓reduceIte, reduceCtorEq, Nat.reduceEqDiff, Nat.reduceBEq, Nat.reduceAdd, Nat.reduceLT, Nat.reduceBNe, Nat.reduceMul, ↓reduceIte, tis, rx, fls, hlt]
          refine round_normal (i + 1) (by omega) ?_ (by show r.kids.length - (i + 1) < r.kids.length - i; omega)
          rw [List.take_succ_eq_append_getElem hi, List.map_append, List.map_cons, List.map_nil, eRex_eq true (swapR a b r.kids[i])]
          simp -implicitDefEqProofs (maxSteps := 100000) (disch := first | (intros; contradiction) | omega) only [am0, am1, am2, am3, am4, am5, am6, am7, am8, am9, Nat.reduceSub, ↓reduceIte, reduceCtorEq, Nat.reduceEqDiff, Nat.reduceBEq, Nat.reduceAdd, Nat.reduceLT, Nat.reduceBNe, Nat.reduceMul, ↓reduceIte, tis]
        · obtain rfl : i = r.kids.length := by omega
          have e : (r.kids.map (swapR a b)).map (eRex true) = r.kids.map (fun x => eRex true (swapR a b x)) := by rw [List.map_map]; rfl
          simp -implicitDefEqProofs (maxSteps := 100000) (disch := first | (intros; contradiction) | omega) only [am0, am1, am2, am3, am4, am5, am6, am7, am8, am9, Nat.reduceSub, ↓reduceIte, reduceCtorEq, Nat.reduceEqDiff, Nat.reduceBEq, Nat.reduceAdd, Nat.reduceLT, Nat.reduceBNe, Nat.reduceMul, ↓reduceIte, tis, h1, e, rx, fls]
    · have hS := hS.2 h1
      simp -implicitDefEqProofs (maxSteps := 100000) (disch := first | (intros; contradiction) | omega) only [am0, am1, am2, am3, am4, am5, am6, am7, am8, am9, Nat.reduceSub, ↓reduceIte, reduceCtorEq, Nat.reduceEqDiff, Nat.reduceBEq, Nat.reduceAdd, Nat.reduceLT, Nat.reduceBNe, Nat.reduceMul, ↓reduceIte, tis, h1]
      refine run_loop (α := Nat) (fun i => i ≤ r.kids.length) (fun i => [(1, .int .i64 a), (2, .int .i64 b), (3, .box (.agg [.int .i64 r.kind, .sl false 2 (r.set.map eSpan), .sl false 3 (r.kids.map (eRex false))])), (6, .box (.agg [.int .i64 0, .sl true 0 [], .sl true 0 []])), (7, .box (.agg [.int .i64 r.kind, .sl true 2 (S1.map eSpan), .sl true 3 ((r.kids.take i).map (fun x => eRex true (swapR a b x)))])), (8, .int .i64 i)]) (fun i => r.kids.length - i) 0 (Nat.zero_le _) ?_ ?_
      · simp -implicitDefEqProofs (maxSteps := 100000) (disch := first | (intros; contradiction) | omega) only [am0, am1, am2, am3, am4, am5, am6, am7, am8, am9, Nat.reduceSub, ↓reduceIte, reduceCtorEq, Nat.reduceEqDiff, Nat.reduceBEq, Nat.reduceAdd, Nat.reduceLT, Nat.reduceBNe, Nat.reduceMul, ↓reduceIte, tis, h1, hS, List.map_nil]
      · intro i hi'
        by_cases hi : i < r.kids.length
        · have hm := List.getElem_mem hi
          have cF := ih r.kids[i] (h4 _ hm) (Nat.le_trans (bd_kid hm) hb)
          rw [eRex_eq false r.kids[i], eRex_eq true (swapR a b r.kids[i])] at cF
          simp -implicitDefEqProofs (maxSteps := 100000) (disch := first | (intros; contradiction) | omega) only [am0, am1, am2, am3, am4, am5, am6, am7, am8, am9, Nat.reduceSub, ↓reduceIte, reduceCtorEq, Nat.reduceEqDiff, Nat.reduceBEq, Nat.reduceAdd, Nat.reduceLT, Nat.reduceBNe, Nat.reduceMul, ↓reduceIte, tis, rx, fls, eRex_eq false r.kids[i]]
          refine .inl ⟨by kernel_rfl, ?_⟩
          refine callL cF ?_
          have hlt : (r.kids.take i).length = i := by simp; omega
          simp -implicitDefEqProofs (maxSteps := 100000) (disch := first | (intros; contradiction) | omega) only [am0, am1, am2, am3, am4, am5, am6, am7, am8, am9, Nat.reduceSub, ↓reduceIte, reduceCtorEq, Nat.reduceEqDiff, Nat.reduceBEq, Nat.reduceAdd, Nat.reduceLT, Nat.reduceBNe, Nat.reduceMul, ↓reduceIte, tis, rx, fls, hlt]
          refine round_normal (i + 1) (by omega) ?_ (by show r.kids.length - (i + 1) < r.kids.length - i; omega)
          rw [List.take_succ_eq_append_getElem hi, List.map_append, List.map_cons, List.map_nil, eRex_eq true (swapR a b r.kids[i])]
          simp -implicitDefEqProofs (maxSteps := 100000) (disch := first | (intros; contradiction) | omega) only [am0, am1, am2, am3, am4, am5, am6, am7, am8, am9, Nat.reduceSub, ↓reduceIte, reduceCtorEq, Nat.reduceEqDiff, Nat.reduceBEq, Nat.reduceAdd, Nat.reduceLT, Nat.reduceBNe, Nat.reduceMul, ↓reduceIte, tis]
        · obtain rfl : i = r.kids.length := by omega
          have e : (r.kids.map (swapR a b)).map (eRex true) = r.kids.map (fun x => eRex true (swapR a b x)) := by rw [List.map_map]; rfl
          simp -implicitDefEqProofs (maxSteps := 100000) (disch := first | (intros; contradiction) | omega) only [am0, am1, am2, am3, am4, am5, am6, am7, am8, am9, Nat.reduceSub, ↓reduceIte, reduceCtorEq, Nat.reduceEqDiff, Nat.reduceBEq, Nat.reduceAdd, Nat.reduceLT, Nat.reduceBNe, Nat.reduceMul, ↓reduceIte, tis, h1, e, rx, fls]
def swapP (r : Rex) (a b : Int) : Rex := if rexB r = true ∧ (0 ≤ a ∧ a ≤ 255) ∧ (0 ≤ b ∧ b ≤ 255) then swapR a.toNat b.toNat r else zRex
/-- impl.TurnSwap -/
theorem fits_turnSwap (r : Rex) (hb : bd r ≤ 1048576) (a b : Int) : Fits prog 35 [eRex false r, .int .i64 a, .int .i64 b] (eRex true (swapP r a b)) [] := by
  have cO := fits_rexOk r hb
  have cA := fits_in a 0 255
  have cB := fits_in b 0 255
  by_cases hg : rexB r = true ∧ (0 ≤ a ∧ a ≤ 255) ∧ (0 ≤ b ∧ b ≤ 255)
  · obtain ⟨h, ha, hbb⟩ := id hg
    have e : swapP r a b = swapR a.toNat b.toNat r := by simp only [swapP, if_pos hg]
    obtain ⟨a, rfl⟩ : ∃ n : Nat, a = n := ⟨a.toNat, by omega⟩
    obtain ⟨b, rfl⟩ : ∃ n : Nat, b = n := ⟨b.toNat, by omega⟩
    rw [h] at cO
    rw [decide_eq_true ha] at cA
    rw [decide_eq_true hbb] at cB
    rw [e, show Int.toNat (a : Int) = a from rfl, show Int.toNat (b : Int) = b from rfl]
    have hps : ps r ≤ 24 := by simp only [rexB, Bool.and_eq_true, decide_eq_true_eq] at h; exact h.2
    have hbs := bd_swap a b r
    have cT := fits_swapped r 8 (rexB_fm h) hb a b (by omega) (by omega)
    have cC := fits_rexCopy (swapR a b r) (by omega)
    simp only [eRex_eq] at *
    refine fits_of_cell 6 26 [] [0, 1, 2, 3, 6, 19] func35 rfl rfl rfl (by show 6 < 26; decide) (by show 3 ≤ 26; decide) (by rfl) (by rfl) (by show 0 ≤ 3; decide) (by rfl) (run_of ?_)
    simp -implicitDefEqProofs (maxSteps := 100000) (disch := first | (intros; contradiction) | omega) only [am0, am1, am2, am3, am4, am5, am6, am7, am8, am9, Nat.reduceSub, ↓reduceIte, reduceCtorEq, Nat.reduceEqDiff, Nat.reduceBEq, Nat.reduceAdd, Nat.reduceLT, Nat.reduceBNe, Nat.reduceMul, ↓reduceIte, tis, fls, rx]
    refine callB cO ?_
    simp -implicitDefEqProofs (maxSteps := 100000) (disch := first | (intros; contradiction) | omega) only [am0, am1, am2, am3, am4, am5, am6, am7, am8, am9, Nat.reduceSub, ↓reduceIte, reduceCtorEq, Nat.reduceEqDiff, Nat.reduceBEq, Nat.reduceAdd, Nat.reduceLT, Nat.reduceBNe, Nat.reduceMul, ↓reduceIte, tis, fls, rx]
    refine callB cA ?_
    simp -implicitDefEqProofs (maxSteps := 100000) (disch := first | (intros; contradiction) | omega) only [am0, am1, am2, am3, am4, am5, am6, am7, am8, am9, Nat.reduceSub, ↓reduceIte, reduceCtorEq, Nat.reduceEqDiff, Nat.reduceBEq, Nat.reduceAdd, Nat.reduceLT, Nat.reduceBNe, Nat.reduceMul, ↓reduceIte, tis, fls, rx]
    refine callB cB ?_
    simp -implicitDefEqProofs (maxSteps := 100000) (disch := first | (intros; contradiction) | omega) only [am0, am1, am2, am3, am4, am5, am6, am7, am8, am9, Nat.reduceSub, ↓reduceIte, reduceCtorEq, Nat.reduceEqDiff, Nat.reduceBEq, Nat.reduceAdd, Nat.reduceLT, Nat.reduceBNe, Nat.reduceMul, ↓reduceIte, tis, fls, rx]
    refine callB cT ?_
    simp -implicitDefEqProofs (maxSteps := 100000) (disch := first | (intros; contradiction) | omega) only [am0, am1, am2, am3, am4, am5, am6, am7, am8, am9, Nat.reduceSub, ↓reduceIte, reduceCtorEq, Nat.reduceEqDiff, Nat.reduceBEq, Nat.reduceAdd, Nat.reduceLT, Nat.reduceBNe, Nat.reduceMul, ↓reduceIte, tis, fls, rx]
    refine callB cC ?_
    simp -implicitDefEqProofs (maxSteps := 100000) (disch := first | (intros; contradiction) | omega) only [am0, am1, am2, am3, am4, am5, am6, am7, am8, am9, Nat.reduceSub, ↓reduceIte, reduceCtorEq, Nat.reduceEqDiff, Nat.reduceBEq, Nat.reduceAdd, Nat.reduceLT, Nat.reduceBNe, Nat.reduceMul, ↓reduceIte, tis, fls, rx]
  · have e : swapP r a b = zRex := by simp only [swapP, if_neg hg]
    rw [e, eRex_eq, eRex_eq] at *
    cases h : rexB r with
    | false =>
      rw [h] at cO
      refine fits_of_cell 6 26 [] [0, 1, 2, 3, 6, 19] func35 rfl rfl rfl (by show 6 < 26; decide) (by show 3 ≤ 26; decide) (by rfl) (by rfl) (by show 0 ≤ 3; decide) (by rfl) (run_of ?_)
      simp -implicitDefEqProofs (maxSteps := 100000) (disch := first | (intros; contradiction) | omega) only [am0, am1, am2, am3, am4, am5, am6, am7, am8, am9, Nat.reduceSub, ↓reduceIte, reduceCtorEq, Nat.reduceEqDiff, Nat.reduceBEq, Nat.reduceAdd, Nat.reduceLT, Nat.reduceBNe, Nat.reduceMul, ↓reduceIte, tis]
      refine callB cO ?_
      simp -implicitDefEqProofs (maxSteps := 100000) (disch := first | (intros; contradiction) | omega) only [am0, am1, am2, am3, am4, am5, am6, am7, am8, am9, Nat.reduceSub, ↓reduceIte, reduceCtorEq, Nat.reduceEqDiff, Nat.reduceBEq, Nat.reduceAdd, Nat.reduceLT, Nat.reduceBNe, Nat.reduceMul, ↓reduceIte, tis, zRex, Rex.kind, Rex.set, Rex.kids, List.map_nil]
    | true =>
      rw [h] at cO
      by_cases ha : 0 ≤ a ∧ a ≤ 255
      · by_cases hbb : 0 ≤ b ∧ b ≤ 255
        · exact absurd ⟨h, ha, hbb⟩ hg
        · rw [decide_eq_true ha] at cA
          rw [decide_eq_false hbb] at cB
          refine fits_of_cell 6 26 [] [0, 1, 2, 3, 6, 19] func35 rfl rfl rfl (by show 6 < 26; decide) (by show 3 ≤ 26; decide) (by rfl) (by rfl) (by show 0 ≤ 3; decide) (by rfl) (run_of ?_)
          simp -implicitDefEqProofs (maxSteps := 100000) (disch := first | (intros; contradiction) | omega) only [am0, am1, am2, am3, am4, am5, am6, am7, am8, am9, Nat.reduceSub, ↓reduceIte, reduceCtorEq, Nat.reduceEqDiff, Nat.reduceBEq, Nat.reduceAdd, Nat.reduceLT, Nat.reduceBNe, Nat.reduceMul, ↓reduceIte, tis]
          refine callB cO ?_
          simp -implicitDefEqProofs (maxSteps := 100000) (disch := first | (intros; contradiction) | omega) only [am0, am1, am2, am3, am4, am5, am6, am7, am8, am9, Nat.reduceSub, ↓reduceIte, reduceCtorEq, Nat.reduceEqDiff, Nat.reduceBEq, Nat.reduceAdd, Nat.reduceLT, Nat.reduceBNe, Nat.reduceMul, ↓reduceIte, tis]
          refine callB cA ?_
          simp -implicitDefEqProofs (maxSteps := 100000) (disch := first | (intros; contradiction) | omega) only [am0, am1, am2, am3, am4, am5, am6, am7, am8, am9, Nat.reduceSub, ↓reduceIte, reduceCtorEq, Nat.reduceEqDiff, Nat.reduceBEq, Nat.reduceAdd, Nat.reduceLT, Nat.reduceBNe, Nat.reduceMul, ↓reduceIte, tis]
          refine callB cB ?_
          simp -implicitDefEqProofs (maxSteps := 100000) (disch := first | (intros; contradiction) | omega) only [am0, am1, am2, am3, am4, am5, am6, am7, am8, am9, Nat.reduceSub, ↓reduceIte, reduceCtorEq, Nat.reduceEqDiff, Nat.reduceBEq, Nat.reduceAdd, Nat.reduceLT, Nat.reduceBNe, Nat.reduceMul, ↓reduceIte, tis, zRex, Rex.kind, Rex.set, Rex.kids, List.map_nil]
      · rw [decide_eq_false ha] at cA
        refine fits_of_cell 6 26 [] [0, 1, 2, 3, 6, 19] func35 rfl rfl rfl (by show 6 < 26; decide) (by show 3 ≤ 26; decide) (by rfl) (by rfl) (by show 0 ≤ 3; decide) (by rfl) (run_of ?_)
        simp -implicitDefEqProofs (maxSteps := 100000) (disch := first | (intros; contradiction) | omega) only [am0, am1, am2, am3, am4, am5, am6, am7, am8, am9, Nat.reduceSub, ↓reduceIte, reduceCtorEq, Nat.reduceEqDiff, Nat.reduceBEq, Nat.reduceAdd, Nat.reduceLT, Nat.reduceBNe, Nat.reduceMul, ↓reduceIte, tis]
        refine callB cO ?_
        simp -implicitDefEqProofs (maxSteps := 100000) (disch := first | (intros; contradiction) | omega) only [am0, am1, am2, am3, am4, am5, am6, am7, am8, am9, Nat.reduceSub, ↓reduceIte, reduceCtorEq, Nat.reduceEqDiff, Nat.reduceBEq, Nat.reduceAdd, Nat.reduceLT, Nat.reduceBNe, Nat.reduceMul, ↓reduceIte, tis]
        refine callB cA ?_
        simp -implicitDefEqProofs (maxSteps := 100000) (disch := first | (intros; contradiction) | omega) only [am0, am1, am2, am3, am4, am5, am6, am7, am8, am9, Nat.reduceSub, ↓reduceIte, reduceCtorEq, Nat.reduceEqDiff, Nat.reduceBEq, Nat.reduceAdd, Nat.reduceLT, Nat.reduceBNe, Nat.reduceMul, ↓reduceIte, tis, zRex, Rex.kind, Rex.set, Rex.kids, List.map_nil]
/-- spec.TurnSwap -/
theorem fits_sTurnSwap (r : Rex) (hb : bd r ≤ 1048576) (a b : Int) : Fits prog 36 [eRex false r, .int .i64 a, .int .i64 b] (eRex true (swapP r a b)) [] := by
  have cO := fits_sRexOk r hb
  by_cases hg : rexB r = true ∧ (0 ≤ a ∧ a ≤ 255) ∧ (0 ≤ b ∧ b ≤ 255)
  · obtain ⟨h, ha, hbb⟩ := id hg
    have e : swapP r a b = swapR a.toNat b.toNat r := by simp only [swapP, if_pos hg]
    obtain ⟨a, rfl⟩ : ∃ n : Nat, a = n := ⟨a.toNat, by omega⟩
    obtain ⟨b, rfl⟩ : ∃ n : Nat, b = n := ⟨b.toNat, by omega⟩
    rw [h] at cO
    rw [e, show Int.toNat (a : Int) = a from rfl, show Int.toNat (b : Int) = b from rfl]
    have cT := fits_l13Swap r 8 (rexB_fm h) hb a b (by omega) (by omega)
    simp only [eRex_eq] at *
    refine fits_of_cell 6 26 [] [0, 1, 2, 3, 6, 25] func36 rfl rfl rfl (by show 6 < 31; decide) (by show 3 ≤ 31; decide) (by rfl) (by rfl) (by show 0 ≤ 3; decide) (by rfl) (run_of ?_)
    simp -implicitDefEqProofs (maxSteps := 100000) (disch := first | (intros; contradiction) | omega) only [am0, am1, am2, am3, am4, am5, am6, am7, am8, am9, Nat.reduceSub, ↓reduceIte, reduceCtorEq, Nat.reduceEqDiff, Nat.reduceBEq, Nat.reduceAdd, Nat.reduceLT, Nat.reduceBNe, Nat.reduceMul, ↓reduceIte, tis, fls, rx]
    refine callB cO ?_
    simp -implicitDefEqProofs (maxSteps := 100000) (disch := first | (intros; contradiction) | omega) only [am0, am1, am2, am3, am4, am5, am6, am7, am8, am9, Nat.reduceSub, ↓reduceIte, reduceCtorEq, Nat.reduceEqDiff, Nat.reduceBEq, Nat.reduceAdd, Nat.reduceLT, Nat.reduceBNe, Nat.reduceMul, ↓reduceIte, tis, fls, rx]
    refine callB cT ?_
    simp -implicitDefEqProofs (maxSteps := 100000) (disch := first | (intros; contradiction) | omega) only [am0, am1, am2, am3, am4, am5, am6, am7, am8, am9, Nat.reduceSub, ↓reduceIte, reduceCtorEq, Nat.reduceEqDiff, Nat.reduceBEq, Nat.reduceAdd, Nat.reduceLT, Nat.reduceBNe, Nat.reduceMul, ↓reduceIte, tis, fls, rx]
  · have e : swapP r a b = zRex := by simp only [swapP, if_neg hg]
    rw [e, eRex_eq, eRex_eq] at *
    cases h : rexB r with
    | false =>
      rw [h] at cO
      refine fits_of_cell 6 26 [] [0, 1, 2, 3, 6, 25] func36 rfl rfl rfl (by show 6 < 31; decide) (by show 3 ≤ 31; decide) (by rfl) (by rfl) (by show 0 ≤ 3; decide) (by rfl) (run_of ?_)
      simp -implicitDefEqProofs (maxSteps := 100000) (disch := first | (intros; contradiction) | omega) only [am0, am1, am2, am3, am4, am5, am6, am7, am8, am9, Nat.reduceSub, ↓reduceIte, reduceCtorEq, Nat.reduceEqDiff, Nat.reduceBEq, Nat.reduceAdd, Nat.reduceLT, Nat.reduceBNe, Nat.reduceMul, ↓reduceIte, tis]
      refine callB cO ?_
      simp -implicitDefEqProofs (maxSteps := 100000) (disch := first | (intros; contradiction) | omega) only [am0, am1, am2, am3, am4, am5, am6, am7, am8, am9, Nat.reduceSub, ↓reduceIte, reduceCtorEq, Nat.reduceEqDiff, Nat.reduceBEq, Nat.reduceAdd, Nat.reduceLT, Nat.reduceBNe, Nat.reduceMul, ↓reduceIte, tis, zRex, Rex.kind, Rex.set, Rex.kids, List.map_nil]
    | true =>
      rw [h] at cO
      have hg : ¬ ((0 ≤ a ∧ a ≤ 255) ∧ (0 ≤ b ∧ b ≤ 255)) := fun hh => hg ⟨h, hh⟩
      by_cases a1 : a < 0
      · refine fits_of_cell 6 26 [] [0, 1, 2, 3, 6, 25] func36 rfl rfl rfl (by show 6 < 31; decide) (by show 3 ≤ 31; decide) (by rfl) (by rfl) (by show 0 ≤ 3; decide) (by rfl) (run_of ?_)
        simp -implicitDefEqProofs (maxSteps := 100000) (disch := first | (intros; contradiction) | omega) only [am0, am1, am2, am3, am4, am5, am6, am7, am8, am9, Nat.reduceSub, ↓reduceIte, reduceCtorEq, Nat.reduceEqDiff, Nat.reduceBEq, Nat.reduceAdd, Nat.reduceLT, Nat.reduceBNe, Nat.reduceMul, ↓reduceIte, tis]
        refine callB cO ?_
        simp -implicitDefEqProofs (maxSteps := 100000) (disch := first | (intros; contradiction) | omega) only [am0, am1, am2, am3, am4, am5, am6, am7, am8, am9, Nat.reduceSub, ↓reduceIte, reduceCtorEq, Nat.reduceEqDiff, Nat.reduceBEq, Nat.reduceAdd, Nat.reduceLT, Nat.reduceBNe, Nat.reduceMul, ↓reduceIte, tis, zRex, Rex.kind, Rex.set, Rex.kids, List.map_nil]
      by_cases a2 : 255 < a
      · refine fits_of_cell 6 26 [] [0, 1, 2, 3, 6, 25] func36 rfl rfl rfl (by show 6 < 31; decide) (by show 3 ≤ 31; decide) (by rfl) (by rfl) (by show 0 ≤ 3; decide) (by rfl) (run_of ?_)
        simp -implicitDefEqProofs (maxSteps := 100000) (disch := first | (intros; contradiction) | omega) only [am0, am1, am2, am3, am4, am5, am6, am7, am8, am9, Nat.reduceSub, ↓reduceIte, reduceCtorEq, Nat.reduceEqDiff, Nat.reduceBEq, Nat.reduceAdd, Nat.reduceLT, Nat.reduceBNe, Nat.reduceMul, ↓reduceIte, tis]
        refine callB cO ?_
        simp -implicitDefEqProofs (maxSteps := 100000) (disch := first | (intros; contradiction) | omega) only [am0, am1, am2, am3, am4, am5, am6, am7, am8, am9, Nat.reduceSub, ↓reduceIte, reduceCtorEq, Nat.reduceEqDiff, Nat.reduceBEq, Nat.reduceAdd, Nat.reduceLT, Nat.reduceBNe, Nat.reduceMul, ↓reduceIte, tis, zRex, Rex.kind, Rex.set, Rex.kids, List.map_nil]
      by_cases a3 : b < 0
      · refine fits_of_cell 6 26 [] [0, 1, 2, 3, 6, 25] func36 rfl rfl rfl (by show 6 < 31; decide) (by show 3 ≤ 31; decide) (by rfl) (by rfl) (by show 0 ≤ 3; decide) (by rfl) (run_of ?_)
        simp -implicitDefEqProofs (maxSteps := 100000) (disch := first | (intros; contradiction) | omega) only [am0, am1, am2, am3, am4, am5, am6, am7, am8, am9, Nat.reduceSub, ↓reduceIte, reduceCtorEq, Nat.reduceEqDiff, Nat.reduceBEq, Nat.reduceAdd, Nat.reduceLT, Nat.reduceBNe, Nat.reduceMul, ↓reduceIte, tis]
        refine callB cO ?_
        simp -implicitDefEqProofs (maxSteps := 100000) (disch := first | (intros; contradiction) | omega) only [am0, am1, am2, am3, am4, am5, am6, am7, am8, am9, Nat.reduceSub, ↓reduceIte, reduceCtorEq, Nat.reduceEqDiff, Nat.reduceBEq, Nat.reduceAdd, Nat.reduceLT, Nat.reduceBNe, Nat.reduceMul, ↓reduceIte, tis, zRex, Rex.kind, Rex.set, Rex.kids, List.map_nil]
      have a4 : 255 < b := by omega
      refine fits_of_cell 6 26 [] [0, 1, 2, 3, 6, 25] func36 rfl rfl rfl (by show 6 < 31; decide) (by show 3 ≤ 31; decide) (by rfl) (by rfl) (by show 0 ≤ 3; decide) (by rfl) (run_of ?_)
      simp -implicitDefEqProofs (maxSteps := 100000) (disch := first | (intros; contradiction) | omega) only [am0, am1, am2, am3, am4, am5, am6, am7, am8, am9, Nat.reduceSub, ↓reduceIte, reduceCtorEq, Nat.reduceEqDiff, Nat.reduceBEq, Nat.reduceAdd, Nat.reduceLT, Nat.reduceBNe, Nat.reduceMul, ↓reduceIte, tis]
      refine callB cO ?_
      simp -implicitDefEqProofs (maxSteps := 100000) (disch := first | (intros; contradiction) | omega) only [am0, am1, am2, am3, am4, am5, am6, am7, am8, am9, Nat.reduceSub, ↓reduceIte, reduceCtorEq, Nat.reduceEqDiff, Nat.reduceBEq, Nat.reduceAdd, Nat.reduceLT, Nat.reduceBNe, Nat.reduceMul, ↓reduceIte, tis, zRex, Rex.kind, Rex.set, Rex.kids, List.map_nil]
/-! What has two bytes in each other's place is like a text that has them so. -/
def swN (a b n : Nat) : Nat := if n = a then b else if n = b then a else n
def swC (a b : Nat) (c : UInt8) : UInt8 := if c.toNat = a then UInt8.ofNat b else if c.toNat = b then UInt8.ofNat a else c
theorem swC_toNat {a b : Nat} (ha : a < 256) (hb : b < 256) (c : UInt8) : (swC a b c).toNat = swN a b c.toNat := by
  have hc := c.toNat_lt
  unfold swC swN
  split
  · rw [UInt8.toNat_ofNat']; omega
  · split
    · rw [UInt8.toNat_ofNat']; omega
    · rfl
theorem swN_lt {a b n : Nat} (ha : a < 256) (hb : b < 256) (h : n < 256) : swN a b n < 256 := by unfold swN; split <;> (try split) <;> omega
theorem swN_swN (a b n : Nat) : swN a b (swN a b n) = n := by
  unfold swN
  by_cases h1 : n = a
  · subst h1
    rw [if_pos rfl]
    by_cases h2 : b = n
    · rw [if_pos h2, h2]
    · rw [if_neg h2, if_pos rfl]
  · rw [if_neg h1]
    by_cases h2 : n = b
    · subst h2; rw [if_pos rfl, if_pos rfl]
    · rw [if_neg h2, if_neg h1, if_neg h2]
theorem swC_swC {a b : Nat} (ha : a < 256) (hb : b < 256) (c : UInt8) : swC a b (swC a b c) = c := by
  apply UInt8.toNat_inj.1
  rw [swC_toNat ha hb, swC_toNat ha hb, swN_swN]
theorem swapB_get (bs : List Bool) {a b : Nat} (ha : a < bs.length) (hb : b < bs.length) (n : Nat) : (swapB bs a b).getD (swN a b n) false = bs.getD n false := by
  unfold swapB swN
  simp only [List.getD]
  by_cases h1 : n = a
  · subst h1
    rw [if_pos rfl, List.getElem?_set_self (by simpa using hb)]
    simp
  · rw [if_neg h1]
    by_cases h2 : n = b
    · subst h2
      rw [if_pos rfl, List.getElem?_set_ne h1, List.getElem?_set_self ha]
      simp
    · rw [if_neg h2, List.getElem?_set_ne (Ne.symm h2), List.getElem?_set_ne (Ne.symm h1)]
theorem swapB_swapB (bs : List Bool) {a b : Nat} (ha : a < bs.length) (hb : b < bs.length) : swapB (swapB bs a b) a b = bs := by
  apply List.ext_getElem
  · rw [swapB_len, swapB_len]
  · intro i h1 h2
    have e1 := swapB_get (swapB bs a b) (by rw [swapB_len]; exact ha) (by rw [swapB_len]; exact hb) (swN a b i)
    rw [swN_swN] at e1
    have e2 := swapB_get bs ha hb i
    rw [e2] at e1
    simpa [List.getD, h1, h2] using e1
theorem has_swap (s : List Span) {a b : Nat} (ha : a < 256) (hb : b < 256) {n : Nat} (hn : n < 256) : hasB (spansL (swapB (bitsL s) a b)) (swN a b n : Nat) = hasB s n := by
  have hl := bitsL_len s
  rw [spansL_has (by rw [swapB_len]; exact hl), swapB_get _ (by omega) (by omega), bitsL_getD s n hn]
/-- The set, swapped twice. -/
theorem set_swap2 {s : List Span} (h : setB s = true) {a b : Nat} (ha : a < 256) (hb : b < 256) : spansL (swapB (bitsL (spansL (swapB (bitsL s) a b))) a b) = s := by
  have hl := bitsL_len s
  rw [bits_spans (by rw [swapB_len]; exact hl), swapB_swapB _ (by omega) (by omega), spans_bits h]
theorem catB_map {f g f' g' : Txt → Bool} {h : UInt8 → UInt8} (hf : ∀ u, f' (u.map h) = f u) (hg : ∀ u, g' (u.map h) = g u) (t : Txt) : catB f' g' (t.map h) = catB f g t := by
  unfold catB
  rw [List.length_map]
  refine anyU_ext _ fun k _ => ?_
  rw [← List.map_take, ← List.map_drop, hf, hg]
theorem starP_map {f f' : Txt → Bool} {h : UInt8 → UInt8} (hf : ∀ u, f' (u.map h) = f u) {t : Txt} (ht : StarP f t) : StarP f' (t.map h) := by
  induction ht with
  | nil => exact .nil
  | cons u v h1 h2 _ ih =>
    rw [List.map_append]
    exact .cons _ _ (by simpa using h1) (by rw [hf]; exact h2) ih
theorem starB_map {f f' : Txt → Bool} {h : UInt8 → UInt8} (hh : ∀ c, h (h c) = c) (hf : ∀ u, f' (u.map h) = f u) (t : Txt) : starB f' (t.map h) = starB f t := by
  have hm : ∀ u : Txt, (u.map h).map h = u := fun u => by
    rw [List.map_map]
    conv => rhs; rw [← List.map_id u]
    exact List.map_congr_left fun c _ => hh c
  rw [Bool.eq_iff_iff, starB_iff, starB_iff]
  constructor
  · intro hs
    have := starP_map (f := f') (f' := f) (h := h) (fun u => by rw [← hf, hm]) hs
    rwa [hm] at this
  · exact starP_map hf
theorem mt_swap {a b : Nat} (ha : a < 256) (hb : b < 256) : ∀ (d : Nat) (r : Rex), fm d r = true → ∀ t : Txt, mt (swapR a b r) (t.map (swC a b)) = mt r t
  | 0, r, h, t => by simp [fm] at h
  | d + 1, r, h, t => by
    have hk := (fm_ok h).2.2.2
    rw [swapR_eq, mt_eq, mt_eq r]
    show mtK r.kind (if r.kind = 1 then spansL (swapB (bitsL r.set) a b) else []) (List.map mt (r.kids.map (swapR a b))) (t.map (swC a b)) = _
    rcases fm_cases h with ⟨k, e⟩ | ⟨k, e⟩ | ⟨x, y, k, e⟩ | ⟨x, y, k, e⟩ | ⟨x, k, e⟩ | ⟨x, y, k, e⟩ | ⟨x, k, e⟩
    · rw [k, e, if_pos rfl]
      simp only [mtK_1]
      have key : ∀ c : UInt8, hasB (spansL (swapB (bitsL r.set) a b)) (swC a b c).toNat = hasB r.set c.toNat := fun c => by
        rw [swC_toNat ha hb]; exact has_swap r.set ha hb c.toNat_lt
      match t with
      | [] => rfl
      | [c] => exact key c
      | _ :: _ :: _ => rfl
    · rw [k, e]
      simp only [mtK_2, List.length_map]
    · rw [e] at hk
      have hx := mt_swap ha hb d x (hk x (by simp))
      have hy := mt_swap ha hb d y (hk y (by simp))
      rw [k, e]
      simp only [List.map_cons, List.map_nil, mtK_3]
      exact catB_map hx hy t
    · rw [e] at hk
      have hx := mt_swap ha hb d x (hk x (by simp))
      have hy := mt_swap ha hb d y (hk y (by simp))
      rw [k, e]
      simp only [List.map_cons, List.map_nil, mtK_4, hx, hy]
    · rw [e] at hk
      have hx := mt_swap ha hb d x (hk x (by simp))
      rw [k, e]
      simp only [List.map_cons, List.map_nil, mtK_5]
      exact starB_map (swC_swC ha hb) hx t
    · rw [e] at hk
      have hx := mt_swap ha hb d x (hk x (by simp))
      have hy := mt_swap ha hb d y (hk y (by simp))
      rw [k, e]
      simp only [List.map_cons, List.map_nil, mtK_6, hx, hy]
    · rw [e] at hk
      have hx := mt_swap ha hb d x (hk x (by simp))
      rw [k, e]
      simp only [List.map_cons, List.map_nil, mtK_7, hx]
theorem swap_swap {a b : Nat} (ha : a < 256) (hb : b < 256) : ∀ (d : Nat) (r : Rex), fm d r = true → swapR a b (swapR a b r) = r
  | 0, r, h => by simp [fm] at h
  | d + 1, r, h => by
    obtain ⟨_, h2, h3, hk⟩ := fm_ok h
    have e : (r.kids.map (swapR a b)).map (swapR a b) = r.kids := by
      rw [List.map_map]
      conv => rhs; rw [← List.map_id r.kids]
      exact List.map_congr_left fun x hx => swap_swap ha hb d x (hk x hx)
    rw [swapR_eq, swapR_eq a b r]
    show Rex.mk r.kind (if r.kind = 1 then spansL (swapB (bitsL (if r.kind = 1 then spansL (swapB (bitsL r.set) a b) else [])) a b) else []) ((r.kids.map (swapR a b)).map (swapR a b)) = r
    rw [e]
    by_cases h1 : r.kind = 1
    · rw [if_pos h1, if_pos h1, set_swap2 h3 ha hb, Rex.eta]
    · rw [if_neg h1]
      have := List.eq_nil_of_length_eq_zero (h2.resolve_left h1)
      rw [← this, Rex.eta]
theorem fm_swap (a b : Nat) : ∀ (d : Nat) (r : Rex), fm d r = true → fm d (swapR a b r) = true
  | 0, r, h => by simp [fm] at h
  | d + 1, r, h => by
    obtain ⟨h1, h2, h3, hk⟩ := fm_ok h
    rw [swapR_eq]
    have ek : Rex.kind (.mk r.kind (if r.kind = 1 then spansL (swapB (bitsL r.set) a b) else []) (r.kids.map (swapR a b))) = r.kind := rfl
    show (decide (kidsN r.kind = (r.kids.map (swapR a b)).length) && (decide (r.kind = 1 ∨ (if r.kind = 1 then spansL (swapB (bitsL r.set) a b) else []).length = 0) && (setB (if r.kind = 1 then spansL (swapB (bitsL r.set) a b) else []) && (r.kids.map (swapR a b)).all (fm d)))) = true
    rw [List.length_map, decide_eq_true h1, Bool.true_and]
    have h4 : (r.kids.map (swapR a b)).all (fm d) = true := by
      rw [List.all_eq_true]
      intro x hx
      obtain ⟨y, hy, rfl⟩ := List.mem_map.1 hx
      exact fm_swap a b d y (hk y hy)
    rw [h4, Bool.and_true]
    by_cases hk1 : r.kind = 1
    · rw [if_pos hk1, setB_spansL, decide_eq_true (.inl hk1)]; rfl
    · rw [if_neg hk1]
      simp [setB]
theorem ps_swap (a b : Nat) (r : Rex) : ps (swapR a b r) = ps r := by
  induction r using Rex.ind' with
  | h r ih =>
    have e : (r.kids.map (swapR a b)).map ps = r.kids.map ps := by rw [List.map_map]; exact List.map_congr_left ih
    rw [swapR_eq, ps_eq, ps_eq r]
    show 1 + ((r.kids.map (swapR a b)).map ps).sum = _
    rw [e]
theorem rexB_swap (a b : Nat) {r : Rex} (h : rexB r = true) : rexB (swapR a b r) = true := by
  unfold rexB at h ⊢
  rw [Bool.and_eq_true] at h ⊢
  exact ⟨fm_swap a b 8 r h.1, by rw [ps_swap]; exact h.2⟩
/-- A reading out of a tuple, by what the tuple is. -/
def exGo (σ : St) (t i d : Nat) (K : St → Prop) : AV → Prop
  | .tup vs => i < vs.length ∧ t ≠ d ∧ (vs.getD i .undef).target = none ∧ (if plain (vs.getD i .undef) then K (put σ d (vs.getD i .undef) []) else K (upd (put σ d .undef []) [(d, vs.getD i .undef), (t, .tup (vs.set i .undef))]))
  | _ => False
theorem ex_eq (σ : St) (t i d : Nat) (K : St → Prop) : extractW σ (.tmp t) i d K = exGo σ t i d K (ev σ (.tmp t)) := by
  unfold extractW exGo
  cases ev σ (.tmp t) <;> rfl
theorem exGo_tup (σ : St) (t i d : Nat) (K : St → Prop) (vs : List AV) : exGo σ t i d K (.tup vs) = (i < vs.length ∧ t ≠ d ∧ (vs.getD i .undef).target = none ∧ (if plain (vs.getD i .undef) then K (put σ d (vs.getD i .undef) []) else K (upd (put σ d .undef []) [(d, vs.getD i .undef), (t, .tup (vs.set i .undef))]))) := rfl
/-! The reader of a code. -/
def eRd (b : List UInt8) (p : Nat) : AV := .agg [.sl false 1 (bytesA b), .int .i64 p]
theorem xor_nn {x y : Nat} (hx : x < 4611686018427387904) (hy : y < 4611686018427387904) : IntKind.wrap .i64 ((BitVec.ofInt (IntKind.bits .i64) (x : Int) ^^^ BitVec.ofInt (IntKind.bits .i64) (y : Int)).toNat) = ((x ^^^ y : Nat) : Int) ∧ x ^^^ y < 4611686018427387904 := by
  have hx' : x < 2 ^ 62 := by omega
  have hy' : y < 2 ^ 62 := by omega
  have h := Nat.xor_lt_two_pow hx' hy'
  have e : (BitVec.ofInt (IntKind.bits .i64) (x : Int) ^^^ BitVec.ofInt (IntKind.bits .i64) (y : Int)).toNat = x ^^^ y := by
    show (BitVec.ofInt 64 (x : Int) ^^^ BitVec.ofInt 64 (y : Int)).toNat = x ^^^ y
    rw [BitVec.toNat_xor, BitVec.toNat_ofInt, BitVec.toNat_ofInt]
    congr 1 <;> omega
  rw [e]
  exact ⟨wrap_i64 (by omega) (by omega), by omega⟩
theorem tmod_nn (a n : Nat) : Int.tmod (a : Int) n = ((a % n : Nat) : Int) := by
  rw [Int.tmod_eq_emod_of_nonneg (by omega)]; rfl
theorem tdiv_nn (a n : Nat) : Int.tdiv (a : Int) n = ((a / n : Nat) : Int) := by
  rw [Int.tdiv_eq_ediv_of_nonneg (by omega)]; rfl
theorem bytes_getD (b : List UInt8) (i : Nat) (h : i < b.length) : (bytesA b).getD i .undef = .int .u8 b[i].toNat := by
  have := get_bytesA b i h
  simp [List.getD, this]
/-- What pick tells. -/
def mixV (b : List UInt8) (p : Nat) : Nat := (b.getD (p % b.length) 0).toNat * 131 + (b.getD ((p * 7 + 3) % b.length) 0).toNat * 1117 + p * 29 + p / b.length * 53
def pickV (b : List UInt8) (p n : Nat) : Nat :=
  if b.length = 0 then 0 else if p < b.length then (b.getD p 0).toNat % n else (mixV b p ^^^ mixV b p / 64) % n
theorem pickV_lt (b : List UInt8) (p : Nat) {n : Nat} (hn : 0 < n) : pickV b p n < n := by
  unfold pickV
  split
  · exact hn
  · split <;> exact Nat.mod_lt _ hn
theorem getD_of (b : List UInt8) (i : Nat) (h : i < b.length) : b.getD i 0 = b[i] := by simp [List.getD, h]
/-- pick -/
theorem fits_pick (b : List UInt8) (hb : b.length ≤ 2000) (p : Nat) (hp : p ≤ 1048576) (n : Nat) (hn : 0 < n) (hn2 : n ≤ 1048576) : Fits prog 75 [.box (eRd b p), .int .i64 n] (.int .i64 (pickV b p n)) [.box (eRd b (p + 1))] := by
  have c0 : ¬ ((n : Int) = 0) := by omega
  unfold eRd pickV
  by_cases h0 : b.length = 0
  · obtain rfl := List.eq_nil_of_length_eq_zero h0
    refine fits_of_code [4] [0] [0, 1, 4, 5, 6, 24, 36] func75 rfl rfl rfl (by rfl) (by show 2 ≤ 99; decide) (by rfl) (by rfl) (by show 1 ≤ 2; decide) (by rfl) (run_of ?_)
    simp -implicitDefEqProofs (maxSteps := 100000) (disch := first | (intros; contradiction) | omega) only [am0, am1, am2, am3, am4, am5, am6, am7, am8, am9, Nat.reduceSub, ↓reduceIte, reduceCtorEq, Nat.reduceEqDiff, Nat.reduceBEq, Nat.reduceAdd, Nat.reduceLT, Nat.reduceBNe, Nat.reduceMul, ↓reduceIte, tis, fls]
  rw [if_neg h0]
  have e0 : (p : Int) + 1 - 1 = p := by omega
  by_cases h1 : p < b.length
  · rw [if_pos h1]
    have g0 := bytes_getD b p h1
    rw [getD_of b p h1]
    have hk := tmod_nn b[p].toNat n
    have hbl := b[p].toNat_lt
    refine fits_of_code [4] [0] [0, 1, 4, 5, 6, 24, 36] func75 rfl rfl rfl (by rfl) (by show 2 ≤ 99; decide) (by rfl) (by rfl) (by show 1 ≤ 2; decide) (by rfl) (run_of ?_)
    simp -implicitDefEqProofs (maxSteps := 100000) (disch := first | (intros; contradiction) | omega) only [am0, am1, am2, am3, am4, am5, am6, am7, am8, am9, Nat.reduceSub, ↓reduceIte, reduceCtorEq, Nat.reduceEqDiff, Nat.reduceBEq, Nat.reduceAdd, Nat.reduceLT, Nat.reduceBNe, Nat.reduceMul, ↓reduceIte, tis, fls, e0, g0, hk, c0]
  · rw [if_neg h1]
    have k1 := tmod_nn p b.length
    have k2 : Int.tmod ((p : Int) * 7 + 3) b.length = (((p * 7 + 3) % b.length : Nat) : Int) := tmod_nn (p * 7 + 3) b.length
    have l1 : p % b.length < b.length := Nat.mod_lt _ (by omega)
    have l2 : (p * 7 + 3) % b.length < b.length := Nat.mod_lt _ (by omega)
    have kq := tdiv_nn p b.length
    have lq : p / b.length ≤ p := Nat.div_le_self _ _
    have hM : mixV b p = (b[p % b.length]).toNat * 131 + (b[(p * 7 + 3) % b.length]).toNat * 1117 + p * 29 + p / b.length * 53 := by unfold mixV; rw [getD_of b _ l1, getD_of b _ l2]
    generalize p % b.length = j1 at *
    generalize (p * 7 + 3) % b.length = j2 at *
    generalize p / b.length = q at *
    have g1 := bytes_getD b j1 l1
    have g2 := bytes_getD b j2 l2
    have hb1 := b[j1].toNat_lt
    have hb2 := b[j2].toNat_lt
    have hX : (b[j1].toNat : Int) * 131 + (b[j2].toNat : Int) * 1117 + (p : Int) * 29 + (q : Int) * 53 = (mixV b p : Nat) := by omega
    have hX2 : mixV b p < 4294967296 := by omega
    generalize mixV b p = X at *
    have hY : Int.tdiv (X : Int) 64 = ((X / 64 : Nat) : Int) := tdiv_nn X 64
    have lY : X / 64 ≤ X := Nat.div_le_self _ _
    generalize X / 64 = Y at *
    obtain ⟨hZ, hZ2⟩ := xor_nn (x := X) (y := Y) (by omega) (by omega)
    have hk := tmod_nn (X ^^^ Y) n
    generalize X ^^^ Y = Z at *
    have hkl : Z % n < n := Nat.mod_lt _ hn
    generalize Z % n = k at *
    have c1 : ¬ ((64 : Int) = 0) := by omega
    have c2 : ¬ ((b.length : Int) = 0) := by omega
    refine fits_of_code [4] [0] [0, 1, 4, 5, 6, 24, 36] func75 rfl rfl rfl (by rfl) (by show 2 ≤ 99; decide) (by rfl) (by rfl) (by show 1 ≤ 2; decide) (by rfl) (run_of ?_)
    simp -implicitDefEqProofs (maxSteps := 100000) (disch := first | (intros; contradiction) | omega) only [am0, am1, am2, am3, am4, am5, am6, am7, am8, am9, Nat.reduceSub, ↓reduceIte, reduceCtorEq, Nat.reduceEqDiff, Nat.reduceBEq, Nat.reduceAdd, Nat.reduceLT, Nat.reduceBNe, Nat.reduceMul, ↓reduceIte, tis, fls, e0]
    refine .inl ⟨by kernel_rfl, ?_⟩
    simp -implicitDefEqProofs (maxSteps := 100000) (disch := first | (intros; contradiction) | omega) only [am0, am1, am2, am3, am4, am5, am6, am7, am8, am9, Nat.reduceSub, ↓reduceIte, reduceCtorEq, Nat.reduceEqDiff, Nat.reduceBEq, Nat.reduceAdd, Nat.reduceLT, Nat.reduceBNe, Nat.reduceMul, ↓reduceIte, tis, fls, e0, k1, k2, kq, g1, g2, hX, hY, hZ, hk, c0, c1, c2]
def numV (b : List UInt8) (p : Nat) (l : List Int) : Int := l.getD (pickV b p l.length) 0
def ofV (b : List UInt8) (p : Nat) (l : List (List UInt8)) : List UInt8 := l.getD (pickV b p l.length) []
theorem numV_mem (b : List UInt8) (p : Nat) {l : List Int} (hl : 0 < l.length) : numV b p l ∈ l := by
  have := pickV_lt b p hl
  unfold numV
  simp [List.getD, this]
theorem ofV_mem (b : List UInt8) (p : Nat) {l : List (List UInt8)} (hl : 0 < l.length) : ofV b p l ∈ l := by
  have := pickV_lt b p hl
  unfold ofV
  simp [List.getD, this]
/-- num -/
theorem fits_num (b : List UInt8) (hb : b.length ≤ 2000) (p : Nat) (hp : p ≤ 1048576) (l : List Int) (hl : 0 < l.length) (hl2 : l.length ≤ 1048576) : Fits prog 71 [.box (eRd b p), .sl false 1 (l.map eInt)] (.int .i64 (numV b p l)) [.box (eRd b (p + 1))] := by
  have cP := fits_pick b hb p hp l.length hl hl2
  have hk := pickV_lt b p hl
  have e : numV b p l = l[pickV b p l.length] := by unfold numV; simp [List.getD, hk]
  rw [e]
  generalize pickV b p l.length = k at *
  unfold eRd at *
  refine fits_of_code [4] [0] [0, 1, 4] func71 rfl rfl rfl (by rfl) (by show 2 ≤ 12; decide) (by rfl) (by rfl) (by show 1 ≤ 2; decide) (by rfl) (run_of ?_)
  simp -implicitDefEqProofs (maxSteps := 100000) (disch := first | (intros; contradiction) | omega) only [am0, am1, am2, am3, am4, am5, am6, am7, am8, am9, Nat.reduceSub, ↓reduceIte, reduceCtorEq, Nat.reduceEqDiff, Nat.reduceBEq, Nat.reduceAdd, Nat.reduceLT, Nat.reduceBNe, Nat.reduceMul, ↓reduceIte, tis, fls]
  refine callM 0 cP ?_
  simp -implicitDefEqProofs (maxSteps := 100000) (disch := first | (intros; contradiction) | omega) only [am0, am1, am2, am3, am4, am5, am6, am7, am8, am9, Nat.reduceSub, ↓reduceIte, reduceCtorEq, Nat.reduceEqDiff, Nat.reduceBEq, Nat.reduceAdd, Nat.reduceLT, Nat.reduceBNe, Nat.reduceMul, ↓reduceIte, tis, fls, List.dropLast_singleton, eInt]
/-- of -/
theorem fits_of (b : List UInt8) (hb : b.length ≤ 2000) (p : Nat) (hp : p ≤ 1048576) (l : List (List UInt8)) (hl : 0 < l.length) (hl2 : l.length ≤ 1048576) : Fits prog 70 [.box (eRd b p), .sl false 1 (l.map eStr)] (.str (ofV b p l)) [.box (eRd b (p + 1))] := by
  have cP := fits_pick b hb p hp l.length hl hl2
  have hk := pickV_lt b p hl
  have e : ofV b p l = l[pickV b p l.length] := by unfold ofV; simp [List.getD, hk]
  rw [e]
  generalize pickV b p l.length = k at *
  unfold eRd at *
  refine fits_of_code [4] [0] [0, 1, 4] func70 rfl rfl rfl (by rfl) (by show 2 ≤ 12; decide) (by rfl) (by rfl) (by show 1 ≤ 2; decide) (by rfl) (run_of ?_)
  simp -implicitDefEqProofs (maxSteps := 100000) (disch := first | (intros; contradiction) | omega) only [am0, am1, am2, am3, am4, am5, am6, am7, am8, am9, Nat.reduceSub, ↓reduceIte, reduceCtorEq, Nat.reduceEqDiff, Nat.reduceBEq, Nat.reduceAdd, Nat.reduceLT, Nat.reduceBNe, Nat.reduceMul, ↓reduceIte, tis, fls]
  refine callM 0 cP ?_
  simp -implicitDefEqProofs (maxSteps := 100000) (disch := first | (intros; contradiction) | omega) only [am0, am1, am2, am3, am4, am5, am6, am7, am8, am9, Nat.reduceSub, ↓reduceIte, reduceCtorEq, Nat.reduceEqDiff, Nat.reduceBEq, Nat.reduceAdd, Nat.reduceLT, Nat.reduceBNe, Nat.reduceMul, ↓reduceIte, tis, fls, List.dropLast_singleton, eStr]
/-- l15Open -/
theorem fits_open (c : List UInt8) (hc : c.length ≤ 9223372036854775807) : Fits prog 68 [.sl false 1 (bytesA c)] (.box (eRd (c.take 2000) 0)) [] := by
  unfold eRd
  by_cases h : (2000 : Int) < c.length
  · refine fits_of_code [2] [] [0, 2, 5] func68 rfl rfl rfl (by rfl) (by show 1 ≤ 11; decide) (by rfl) (by rfl) (by show 0 ≤ 1; decide) (by rfl) (run_of ?_)
    simp -implicitDefEqProofs (maxSteps := 100000) (disch := first | (intros; contradiction) | omega) only [am0, am1, am2, am3, am4, am5, am6, am7, am8, am9, Nat.reduceSub, ↓reduceIte, reduceCtorEq, Nat.reduceEqDiff, Nat.reduceBEq, Nat.reduceAdd, Nat.reduceLT, Nat.reduceBNe, Nat.reduceMul, ↓reduceIte, tis, fls, h]
    exact .inl (by unfold bytesA; rw [show Int.toNat 2000 = 2000 from rfl, List.map_take])
  · have e : c.take 2000 = c := List.take_of_length_le (by omega)
    rw [e]
    refine fits_of_code [2] [] [0, 2, 5] func68 rfl rfl rfl (by rfl) (by show 1 ≤ 11; decide) (by rfl) (by rfl) (by show 0 ≤ 1; decide) (by rfl) (run_of ?_)
    simp -implicitDefEqProofs (maxSteps := 100000) (disch := first | (intros; contradiction) | omega) only [am0, am1, am2, am3, am4, am5, am6, am7, am8, am9, Nat.reduceSub, ↓reduceIte, reduceCtorEq, Nat.reduceEqDiff, Nat.reduceBEq, Nat.reduceAdd, Nat.reduceLT, Nat.reduceBNe, Nat.reduceMul, ↓reduceIte, tis, fls, h]
/-- spec.l1Min -/
theorem fits_l1Min (a b : Int) : Fits prog 181 [.int .i64 a, .int .i64 b] (.int .i64 (if a < b then a else b)) [] := by
  by_cases h : a < b
  · refine fits_of_code [4] [] [0, 1, 4, 7] func181 rfl rfl rfl (by rfl) (by show 2 ≤ 10; decide) (by rfl) (by rfl) (by show 0 ≤ 2; decide) (by rfl) (run_of ?_)
    simp -implicitDefEqProofs (maxSteps := 100000) (disch := first | (intros; contradiction) | omega) only [am0, am1, am2, am3, am4, am5, am6, am7, am8, am9, Nat.reduceSub, ↓reduceIte, reduceCtorEq, Nat.reduceEqDiff, Nat.reduceBEq, Nat.reduceAdd, Nat.reduceLT, Nat.reduceBNe, Nat.reduceMul, ↓reduceIte, tis, h]
  · refine fits_of_code [4] [] [0, 1, 4, 7] func181 rfl rfl rfl (by rfl) (by show 2 ≤ 10; decide) (by rfl) (by rfl) (by show 0 ≤ 2; decide) (by rfl) (run_of ?_)
    simp -implicitDefEqProofs (maxSteps := 100000) (disch := first | (intros; contradiction) | omega) only [am0, am1, am2, am3, am4, am5, am6, am7, am8, am9, Nat.reduceSub, ↓reduceIte, reduceCtorEq, Nat.reduceEqDiff, Nat.reduceBEq, Nat.reduceAdd, Nat.reduceLT, Nat.reduceBNe, Nat.reduceMul, ↓reduceIte, tis, h]
def lo9 : List Int := [0, 48, 97, 97, 98, 99, 120, 254, 255]
def by7 : List Int := [0, 0, 1, 2, 9, 25, 200]
def fillR (bs : List Bool) (a : Nat) : Nat → List Bool
  | 0 => bs
  | n + 1 => (fillR bs a n).set (a + n) true
theorem fillR_len (bs : List Bool) (a : Nat) : ∀ n, (fillR bs a n).length = bs.length
  | 0 => rfl
  | n + 1 => by simp [fillR, fillR_len bs a n]
def loV (b : List UInt8) (p : Nat) : Int := numV b p lo9
def hiV (b : List UInt8) (p : Nat) : Int := if 255 < loV b p + numV b (p + 1) by7 then 255 else loV b p + numV b (p + 1) by7
theorem loV_b (b : List UInt8) (p : Nat) : 0 ≤ loV b p ∧ loV b p ≤ 255 := by
  have h := numV_mem b p (l := lo9) (by decide)
  unfold loV
  generalize numV b p lo9 = x at *
  simp only [lo9, List.mem_cons, List.not_mem_nil, or_false] at h
  omega
theorem by7_b (b : List UInt8) (p : Nat) : 0 ≤ numV b p by7 ∧ numV b p by7 ≤ 200 := by
  have h := numV_mem b p (l := by7) (by decide)
  generalize numV b p by7 = x at *
  simp only [by7, List.mem_cons, List.not_mem_nil, or_false] at h
  omega
theorem hiV_b (b : List UInt8) (p : Nat) : loV b p ≤ hiV b p ∧ hiV b p ≤ 255 := by
  have h1 := loV_b b p
  have h2 := by7_b b (p + 1)
  unfold hiV
  split <;> omega
def setStep (b : List UInt8) (p : Nat) (bs : List Bool) : List Bool := fillR bs (loV b p).toNat ((hiV b p).toNat + 1 - (loV b p).toNat)
def setIt (b : List UInt8) (p : Nat) : Nat → List Bool
  | 0 => List.replicate 256 false
  | j + 1 => setStep b (p + 2 * j) (setIt b p j)
theorem setIt_len (b : List UInt8) (p : Nat) : ∀ j, (setIt b p j).length = 256
  | 0 => by simp [setIt]
  | j + 1 => by simp [setIt, setStep, fillR_len, setIt_len b p j]
def setV (b : List UInt8) (p : Nat) : List Span := spansL (setIt b (p + 1) (1 + pickV b p 3))
def setQ (b : List UInt8) (p : Nat) : Nat := p + 1 + 2 * (1 + pickV b p 3)
theorem setQ_le (b : List UInt8) (p : Nat) : p ≤ setQ b p ∧ setQ b p ≤ p + 7 := by
  have := pickV_lt b p (n := 3) (by omega)
  unfold setQ
  omega
theorem setV_len (b : List UInt8) (p : Nat) : (setV b p).length ≤ 256 := spN_len _ 256
theorem repFalse (n : Nat) : (List.replicate n false).map eBool = List.replicate n (.bool false) := by simp [eBool]
/-- spec.l1Set -/
theorem fits_l1Set (b : List UInt8) (hb : b.length ≤ 2000) (p : Nat) (hp : p ≤ 1000000) : Fits prog 174 [.box (eRd b p)] (.sl true 2 ((setV b p).map eSpan)) [.box (eRd b (setQ b p))] := by
  have hk := pickV_lt b p (n := 3) (by omega)
  have cP : Fits prog 75 [.box (eRd b p), .int .i64 3] (.int .i64 (pickV b p 3)) [.box (eRd b (p + 1))] := fits_pick b hb p (by omega) 3 (by omega) (by omega)
  unfold setV setQ
  generalize pickV b p 3 = m at *
  have cO := fits_l1Of (setIt b (p + 1) (1 + m)) (setIt_len b (p + 1) (1 + m))
  have cN1 := fun j (hj : j ≤ 3) => fits_num b hb (p + 1 + 2 * j) (by omega) lo9 (by decide) (by decide)
  have cN2 := fun j (hj : j ≤ 3) => fits_num b hb (p + 1 + 2 * j + 1) (by omega) by7 (by decide) (by decide)
  have e0 : (setIt b (p + 1) 0).map eBool = List.replicate (Int.toNat 256) (.bool false) := repFalse 256
  unfold eRd at *
  refine fits_of_code [2] [0] [0, 2, 3, 4, 5, 6, 7, 13, 28] func174 rfl rfl rfl (by rfl) (by show 1 ≤ 36; decide) (by rfl) (by rfl) (by show 1 ≤ 1; decide) (by rfl) (run_of ?_)
  simp -implicitDefEqProofs (maxSteps := 100000) (disch := first | (intros; contradiction) | omega) only [am0, am1, am2, am3, am4, am5, am6, am7, am8, am9, Nat.reduceSub, ↓reduceIte, reduceCtorEq, Nat.reduceEqDiff, Nat.reduceBEq, Nat.reduceAdd, Nat.reduceLT, Nat.reduceBNe, Nat.reduceMul, ↓reduceIte, tis, fls]
  refine callM 0 cP ?_
  simp -implicitDefEqProofs (maxSteps := 100000) (disch := first | (intros; contradiction) | omega) only [am0, am1, am2, am3, am4, am5, am6, am7, am8, am9, Nat.reduceSub, ↓reduceIte, reduceCtorEq, Nat.reduceEqDiff, Nat.reduceBEq, Nat.reduceAdd, Nat.reduceLT, Nat.reduceBNe, Nat.reduceMul, ↓reduceIte, tis, fls, List.dropLast_singleton]
  refine run_loop (α := Nat) (fun j => j ≤ 1 + m) (fun j => [(0, .box (.agg [.sl false 1 (bytesA b), .int .i64 (p + 1 + 2 * j : Nat)])), (3, .sl true 1 ((setIt b (p + 1) j).map eBool)), (4, .int .i64 ((1 + m : Nat) - (j : Int)))]) (fun j => 1 + m - j) 0 (Nat.zero_le _) ?_ ?_
  · simp -implicitDefEqProofs (maxSteps := 100000) (disch := first | (intros; contradiction) | omega) only [am0, am1, am2, am3, am4, am5, am6, am7, am8, am9, Nat.reduceSub, ↓reduceIte, reduceCtorEq, Nat.reduceEqDiff, Nat.reduceBEq, Nat.reduceAdd, Nat.reduceLT, Nat.reduceBNe, Nat.reduceMul, ↓reduceIte, tis, fls, e0]
  · intro j hj'
    by_cases hj : j < 1 + m
    · have hl := setIt_len b (p + 1) j
      have c1 := cN1 j (by omega)
      have c2 := cN2 j (by omega)
      have h1 := loV_b b (p + 1 + 2 * j)
      have h2 := by7_b b (p + 1 + 2 * j + 1)
      have h3 := hiV_b b (p + 1 + 2 * j)
      have e3 : hiV b (p + 1 + 2 * j) = if 255 < loV b (p + 1 + 2 * j) + numV b (p + 1 + 2 * j + 1) by7 then 255 else loV b (p + 1 + 2 * j) + numV b (p + 1 + 2 * j + 1) by7 := rfl
      have eS : setIt b (p + 1) (j + 1) = fillR (setIt b (p + 1) j) (loV b (p + 1 + 2 * j)).toNat ((hiV b (p + 1 + 2 * j)).toNat + 1 - (loV b (p + 1 + 2 * j)).toNat) := rfl
      have cM := fits_l1Min 255 (loV b (p + 1 + 2 * j) + numV b (p + 1 + 2 * j + 1) by7)
      rw [← e3] at cM
      rw [show numV b (p + 1 + 2 * j) lo9 = loV b (p + 1 + 2 * j) from rfl] at c1
      generalize hiV b (p + 1 + 2 * j) = hi at *
      generalize loV b (p + 1 + 2 * j) = lo at *
      generalize numV b (p + 1 + 2 * j + 1) by7 = dl at *
      generalize setIt b (p + 1) j = bs at *
      obtain ⟨lo, rfl⟩ : ∃ n : Nat, lo = n := ⟨lo.toNat, by omega⟩
      obtain ⟨hi, rfl⟩ : ∃ n : Nat, hi = n := ⟨hi.toNat, by omega⟩
      rw [Int.toNat_natCast, Int.toNat_natCast] at eS
      simp -implicitDefEqProofs (maxSteps := 100000) (disch := first | (intros; contradiction) | omega) only [am0, am1, am2, am3, am4, am5, am6, am7, am8, am9, Nat.reduceSub, ↓reduceIte, reduceCtorEq, Nat.reduceEqDiff, Nat.reduceBEq, Nat.reduceAdd, Nat.reduceLT, Nat.reduceBNe, Nat.reduceMul, ↓reduceIte, tis, fls]
      refine callMF [(17, [])] 0 c1 ?_
      simp -implicitDefEqProofs (maxSteps := 100000) (disch := first | (intros; contradiction) | omega) only [am0, am1, am2, am3, am4, am5, am6, am7, am8, am9, Nat.reduceSub, ↓reduceIte, reduceCtorEq, Nat.reduceEqDiff, Nat.reduceBEq, Nat.reduceAdd, Nat.reduceLT, Nat.reduceBNe, Nat.reduceMul, ↓reduceIte, tis, fls, List.dropLast_singleton, lo9, eInt]
      refine callMF [(21, [])] 0 c2 ?_
      simp -implicitDefEqProofs (maxSteps := 100000) (disch := first | (intros; contradiction) | omega) only [am0, am1, am2, am3, am4, am5, am6, am7, am8, am9, Nat.reduceSub, ↓reduceIte, reduceCtorEq, Nat.reduceEqDiff, Nat.reduceBEq, Nat.reduceAdd, Nat.reduceLT, Nat.reduceBNe, Nat.reduceMul, ↓reduceIte, tis, fls, List.dropLast_singleton, by7, eInt]
      refine callB cM ?_
      simp -implicitDefEqProofs (maxSteps := 100000) (disch := first | (intros; contradiction) | omega) only [am0, am1, am2, am3, am4, am5, am6, am7, am8, am9, Nat.reduceSub, ↓reduceIte, reduceCtorEq, Nat.reduceEqDiff, Nat.reduceBEq, Nat.reduceAdd, Nat.reduceLT, Nat.reduceBNe, Nat.reduceMul, ↓reduceIte, tis, fls]
      refine run_loop (α := Nat) (fun i => i ≤ hi + 1 - lo) (fun i => [(0, .box (.agg [.sl false 1 (bytesA b), .int .i64 (p + 1 + 2 * (j + 1) : Nat)])), (3, .sl true 1 ((fillR bs lo i).map eBool)), (4, .int .i64 ((1 + m : Nat) - (j : Int))), (6, .int .i64 hi), (7, .int .i64 ((lo : Int) + i))]) (fun i => hi + 1 - lo - i) 0 (Nat.zero_le _) ?_ ?_
      · simp -implicitDefEqProofs (maxSteps := 100000) (disch := first | (intros; contradiction) | omega) only [am0, am1, am2, am3, am4, am5, am6, am7, am8, am9, Nat.reduceSub, ↓reduceIte, reduceCtorEq, Nat.reduceEqDiff, Nat.reduceBEq, Nat.reduceAdd, Nat.reduceLT, Nat.reduceBNe, Nat.reduceMul, ↓reduceIte, tis, fls, fillR]
        try omega
      · intro i hi'
        have hfl := fillR_len bs lo i
        by_cases hi2 : i < hi + 1 - lo
        · have ei : ((lo : Int) + i).toNat = lo + i := by omega
          have eB : ∀ x, ncells (eBool x) = 1 := fun _ => rfl
          have eB2 := setBool (fillR bs lo i) (lo + i) true
          simp -implicitDefEqProofs (maxSteps := 100000) (disch := first | (intros; contradiction) | omega) only [am0, am1, am2, am3, am4, am5, am6, am7, am8, am9, Nat.reduceSub, ↓reduceIte, reduceCtorEq, Nat.reduceEqDiff, Nat.reduceBEq, Nat.reduceAdd, Nat.reduceLT, Nat.reduceBNe, Nat.reduceMul, ↓reduceIte, tis, fls, ei, hl, hfl, eB, eB2]
          refine round_normal (i + 1) (by omega) ?_ (by show hi + 1 - lo - (i + 1) < hi + 1 - lo - i; omega)
          simp -implicitDefEqProofs (maxSteps := 100000) (disch := first | (intros; contradiction) | omega) only [am0, am1, am2, am3, am4, am5, am6, am7, am8, am9, Nat.reduceSub, ↓reduceIte, reduceCtorEq, Nat.reduceEqDiff, Nat.reduceBEq, Nat.reduceAdd, Nat.reduceLT, Nat.reduceBNe, Nat.reduceMul, ↓reduceIte, tis, fillR]
          omega
        · obtain rfl : i = hi + 1 - lo := by omega
          simp -implicitDefEqProofs (maxSteps := 100000) (disch := first | (intros; contradiction) | omega) only [am0, am1, am2, am3, am4, am5, am6, am7, am8, am9, Nat.reduceSub, ↓reduceIte, reduceCtorEq, Nat.reduceEqDiff, Nat.reduceBEq, Nat.reduceAdd, Nat.reduceLT, Nat.reduceBNe, Nat.reduceMul, ↓reduceIte, tis, fls]
          refine round_normal (j + 1) (by omega) ?_ (by show 1 + m - (j + 1) < 1 + m - j; omega)
          simp -implicitDefEqProofs (maxSteps := 100000) (disch := first | (intros; contradiction) | omega) only [am0, am1, am2, am3, am4, am5, am6, am7, am8, am9, Nat.reduceSub, ↓reduceIte, reduceCtorEq, Nat.reduceEqDiff, Nat.reduceBEq, Nat.reduceAdd, Nat.reduceLT, Nat.reduceBNe, Nat.reduceMul, ↓reduceIte, tis, eS]
          try omega
    · obtain rfl : j = 1 + m := by omega
      simp -implicitDefEqProofs (maxSteps := 100000) (disch := first | (intros; contradiction) | omega) only [am0, am1, am2, am3, am4, am5, am6, am7, am8, am9, Nat.reduceSub, ↓reduceIte, reduceCtorEq, Nat.reduceEqDiff, Nat.reduceBEq, Nat.reduceAdd, Nat.reduceLT, Nat.reduceBNe, Nat.reduceMul, ↓reduceIte, tis, fls]
      refine callB cO ?_
      simp -implicitDefEqProofs (maxSteps := 100000) (disch := first | (intros; contradiction) | omega) only [am0, am1, am2, am3, am4, am5, am6, am7, am8, am9, Nat.reduceSub, ↓reduceIte, reduceCtorEq, Nat.reduceEqDiff, Nat.reduceBEq, Nat.reduceAdd, Nat.reduceLT, Nat.reduceBNe, Nat.reduceMul, ↓reduceIte, tis, fls]
/-- spec.l2Copy -/
theorem fits_l2Copy (r : Rex) (hb : bd r ≤ 1048576) : Fits prog 136 [eRex false r] (eRex true r) [] := by
  induction r using Rex.ind' with
  | h r ih =>
    have hb' := bd_eq r
    rw [eRex_eq, eRex_eq]
    refine fits_of_cell 2 26 [] [0, 1, 2, 3, 4, 16] func136 rfl rfl rfl (by show 2 < 31; decide) (by show 1 ≤ 31; decide) (by rfl) (by rfl) (by show 0 ≤ 1; decide) (by rfl) (run_of ?_)
    simp -implicitDefEqProofs (maxSteps := 100000) (disch := first | (intros; contradiction) | omega) only [am0, am1, am2, am3, am4, am5, am6, am7, am8, am9, Nat.reduceSub, ↓reduceIte, reduceCtorEq, Nat.reduceEqDiff, Nat.reduceBEq, Nat.reduceAdd, Nat.reduceLT, Nat.reduceBNe, Nat.reduceMul, ↓reduceIte, tis]
    refine .inl ⟨by kernel_rfl, ?_⟩
    refine run_loop (α := Nat) (fun i => i ≤ r.kids.length) (fun i => [(1, .box (.agg [.int .i64 r.kind, .sl false 2 (r.set.map eSpan), .sl false 3 (r.kids.map (eRex false))])), (2, .box (.agg [.int .i64 0, .sl true 0 [], .sl true 0 []])), (3, .box (.agg [.int .i64 r.kind, .sl true 2 (r.set.map eSpan), .sl true 3 ((r.kids.take i).map (eRex true))])), (4, .int .i64 i)]) (fun i => r.kids.length - i) 0 (Nat.zero_le _) ?_ ?_
    · simp -implicitDefEqProofs (maxSteps := 100000) (disch := first | (intros; contradiction) | omega) only [am0, am1, am2, am3, am4, am5, am6, am7, am8, am9, Nat.reduceSub, ↓reduceIte, reduceCtorEq, Nat.reduceEqDiff, Nat.reduceBEq, Nat.reduceAdd, Nat.reduceLT, Nat.reduceBNe, Nat.reduceMul, ↓reduceIte, tis, List.map_nil]
    · intro i hi'
      by_cases hi : i < r.kids.length
      · have hm := List.getElem_mem hi
        have cF := ih r.kids[i] hm (Nat.le_trans (bd_kid hm) hb)
        rw [eRex_eq false r.kids[i], eRex_eq true r.kids[i]] at cF
        simp -implicitDefEqProofs (maxSteps := 100000) (disch := first | (intros; contradiction) | omega) only [am0, am1, am2, am3, am4, am5, am6, am7, am8, am9, Nat.reduceSub, ↓reduceIte, reduceCtorEq, Nat.reduceEqDiff, Nat.reduceBEq, Nat.reduceAdd, Nat.reduceLT, Nat.reduceBNe, Nat.reduceMul, ↓reduceIte, tis, rx, fls, eRex_eq false r.kids[i]]
        refine .inl ⟨by kernel_rfl, ?_⟩
        refine callL cF ?_
        have hlt : (r.kids.take i).length = i := by simp; omega
        simp -implicitDefEqProofs (maxSteps := 100000) (disch := first | (intros; contradiction) | omega) only [am0, am1, am2, am3, am4, am5, am6, am7, am8, am9, Nat.reduceSub, ↓reduceIte, reduceCtorEq, Nat.reduceEqDiff, Nat.reduceBEq, Nat.reduceAdd, Nat.reduceLT, Nat.reduceBNe, Nat.reduceMul, ↓reduceIte, tis, rx, fls, hlt]
        refine round_normal (i + 1) (by omega) ?_ (by show r.kids.length - (i + 1) < r.kids.length - i; omega)
        rw [List.take_succ_eq_append_getElem hi, List.map_append, List.map_cons, List.map_nil, eRex_eq true r.kids[i]]
        simp -implicitDefEqProofs (maxSteps := 100000) (disch := first | (intros; contradiction) | omega) only [am0, am1, am2, am3, am4, am5, am6, am7, am8, am9, Nat.reduceSub, ↓reduceIte, reduceCtorEq, Nat.reduceEqDiff, Nat.reduceBEq, Nat.reduceAdd, Nat.reduceLT, Nat.reduceBNe, Nat.reduceMul, ↓reduceIte, tis]
      · obtain rfl : i = r.kids.length := by omega
        simp -implicitDefEqProofs (maxSteps := 100000) (disch := first | (intros; contradiction) | omega) only [am0, am1, am2, am3, am4, am5, am6, am7, am8, am9, Nat.reduceSub, ↓reduceIte, reduceCtorEq, Nat.reduceEqDiff, Nat.reduceBEq, Nat.reduceAdd, Nat.reduceLT, Nat.reduceBNe, Nat.reduceMul, ↓reduceIte, tis, rx, fls]
def byteR (c : Int) : Rex := .mk 1 [⟨c, c⟩] []
/-- spec.l2Byte -/
theorem fits_l2Byte (c : Int) : Fits prog 175 [.int .i64 c] (eRex true (byteR c)) [] := by
  unfold byteR
  rw [eRex_eq]
  refine fits_of_cell 2 26 [] [0, 2] func175 rfl rfl rfl (by show 2 < 8; decide) (by show 1 ≤ 8; decide) (by rfl) (by rfl) (by show 0 ≤ 1; decide) (by rfl) (run_of ?_)
  simp -implicitDefEqProofs (maxSteps := 100000) (disch := first | (intros; contradiction) | omega) only [am0, am1, am2, am3, am4, am5, am6, am7, am8, am9, Nat.reduceSub, ↓reduceIte, reduceCtorEq, Nat.reduceEqDiff, Nat.reduceBEq, Nat.reduceAdd, Nat.reduceLT, Nat.reduceBNe, Nat.reduceMul, ↓reduceIte, tis, fls, Rex.kind, Rex.set, Rex.kids, List.map_nil, List.map_cons, eSpan]
def leafV (b : List UInt8) (p : Nat) : Rex × Nat :=
  if pickV b p 9 = 0 then (.mk 2 [] [], p + 1)
  else if pickV b p 9 = 1 then (.mk 1 [⟨97, 98⟩] [], p + 1)
  else if pickV b p 9 = 2 then (.mk 1 (setV b (p + 1)) [], setQ b (p + 1))
  else if pickV b p 9 = 3 then (if pickV b (p + 1) 3 = 0 then (.mk 1 [] [], p + 1 + 1) else (byteR (97 + pickV b (p + 1 + 1) 3), p + 1 + 1 + 1))
  else (byteR (97 + pickV b (p + 1) 3), p + 1 + 1)
theorem leafV_le (b : List UInt8) (p : Nat) : (leafV b p).2 ≤ p + 8 ∧ bd (leafV b p).1 ≤ 256 := by
  have h1 := setQ_le b (p + 1)
  have h2 := setV_len b (p + 1)
  unfold leafV
  split
  · exact ⟨by simp, by simp [bd]⟩
  · split
    · exact ⟨by simp, by simp [bd]⟩
    · split
      · exact ⟨by simp only; omega, by simp only [bd, List.map_nil, List.sum_nil, List.length_nil]; omega⟩
      · split
        · split
          · exact ⟨by simp, by simp [bd]⟩
          · exact ⟨by simp, by simp [bd, byteR]⟩
        · exact ⟨by simp, by simp [bd, byteR]⟩
/-- spec.l2Leaf -/
theorem fits_l2Leaf (b : List UInt8) (hb : b.length ≤ 2000) (p : Nat) (hp : p ≤ 900000) : Fits prog 163 [.box (eRd b p)] (eRex true (leafV b p).1) [.box (eRd b (leafV b p).2)] := by
  have c1 : Fits prog 75 [.box (eRd b p), .int .i64 9] (.int .i64 (pickV b p 9)) [.box (eRd b (p + 1))] := fits_pick b hb p (by omega) 9 (by omega) (by omega)
  have cS := fits_l1Set b hb (p + 1) (by omega)
  have c2 : Fits prog 75 [.box (eRd b (p + 1)), .int .i64 3] (.int .i64 (pickV b (p + 1) 3)) [.box (eRd b (p + 1 + 1))] := fits_pick b hb (p + 1) (by omega) 3 (by omega) (by omega)
  have c3 : Fits prog 75 [.box (eRd b (p + 1 + 1)), .int .i64 3] (.int .i64 (pickV b (p + 1 + 1) 3)) [.box (eRd b (p + 1 + 1 + 1))] := fits_pick b hb (p + 1 + 1) (by omega) 3 (by omega) (by omega)
  have cB2 := fits_l2Byte (97 + pickV b (p + 1) 3)
  have cB3 := fits_l2Byte (97 + pickV b (p + 1 + 1) 3)
  have h2 := pickV_lt b (p + 1) (n := 3) (by omega)
  have h3 := pickV_lt b (p + 1 + 1) (n := 3) (by omega)
  unfold leafV
  generalize pickV b (p + 1) 3 = k2 at *
  generalize pickV b (p + 1 + 1) 3 = k3 at *
  generalize pickV b p 9 = k at *
  generalize setQ b (p + 1) = q at *
  generalize setV b (p + 1) = s at *
  unfold eRd at *
  by_cases g0 : k = 0
  · subst g0
    rw [if_pos rfl, eRex_eq]
    refine fits_of_cell 2 26 [0] [0, 2, 4, 5, 8, 13, 18, 22] func163 rfl rfl rfl (by show 2 < 28; decide) (by show 1 ≤ 28; decide) (by rfl) (by rfl) (by show 1 ≤ 1; decide) (by rfl) (run_of ?_)
    simp -implicitDefEqProofs (maxSteps := 100000) (disch := first | (intros; contradiction) | omega) only [am0, am1, am2, am3, am4, am5, am6, am7, am8, am9, Nat.reduceSub, ↓reduceIte, reduceCtorEq, Nat.reduceEqDiff, Nat.reduceBEq, Nat.reduceAdd, Nat.reduceLT, Nat.reduceBNe, Nat.reduceMul, ↓reduceIte, tis, fls, Rex.kind, Rex.set, Rex.kids, List.map_nil]
    refine callM 0 c1 ?_
    simp -implicitDefEqProofs (maxSteps := 100000) (disch := first | (intros; contradiction) | omega) only [am0, am1, am2, am3, am4, am5, am6, am7, am8, am9, Nat.reduceSub, ↓reduceIte, reduceCtorEq, Nat.reduceEqDiff, Nat.reduceBEq, Nat.reduceAdd, Nat.reduceLT, Nat.reduceBNe, Nat.reduceMul, ↓reduceIte, tis, fls, List.dropLast_singleton]
  rw [if_neg g0]
  by_cases g1 : k = 1
  · subst g1
    rw [if_pos rfl, eRex_eq]
    refine fits_of_cell 2 26 [0] [0, 2, 4, 5, 8, 13, 18, 22] func163 rfl rfl rfl (by show 2 < 28; decide) (by show 1 ≤ 28; decide) (by rfl) (by rfl) (by show 1 ≤ 1; decide) (by rfl) (run_of ?_)
    simp -implicitDefEqProofs (maxSteps := 100000) (disch := first | (intros; contradiction) | omega) only [am0, am1, am2, am3, am4, am5, am6, am7, am8, am9, Nat.reduceSub, ↓reduceIte, reduceCtorEq, Nat.reduceEqDiff, Nat.reduceBEq, Nat.reduceAdd, Nat.reduceLT, Nat.reduceBNe, Nat.reduceMul, ↓reduceIte, tis, fls, Rex.kind, Rex.set, Rex.kids, List.map_nil, List.map_cons, eSpan]
    refine callM 0 c1 ?_
    simp -implicitDefEqProofs (maxSteps := 100000) (disch := first | (intros; contradiction) | omega) only [am0, am1, am2, am3, am4, am5, am6, am7, am8, am9, Nat.reduceSub, ↓reduceIte, reduceCtorEq, Nat.reduceEqDiff, Nat.reduceBEq, Nat.reduceAdd, Nat.reduceLT, Nat.reduceBNe, Nat.reduceMul, ↓reduceIte, tis, fls, List.dropLast_singleton, Rex.kind, Rex.set, Rex.kids, List.map_nil, List.map_cons, eSpan]
  rw [if_neg g1]
  by_cases g2 : k = 2
  · subst g2
    rw [if_pos rfl, eRex_eq]
    refine fits_of_cell 2 26 [0] [0, 2, 4, 5, 8, 13, 18, 22] func163 rfl rfl rfl (by show 2 < 28; decide) (by show 1 ≤ 28; decide) (by rfl) (by rfl) (by show 1 ≤ 1; decide) (by rfl) (run_of ?_)
    simp -implicitDefEqProofs (maxSteps := 100000) (disch := first | (intros; contradiction) | omega) only [am0, am1, am2, am3, am4, am5, am6, am7, am8, am9, Nat.reduceSub, ↓reduceIte, reduceCtorEq, Nat.reduceEqDiff, Nat.reduceBEq, Nat.reduceAdd, Nat.reduceLT, Nat.reduceBNe, Nat.reduceMul, ↓reduceIte, tis, fls, Rex.kind, Rex.set, Rex.kids, List.map_nil]
    refine callM 0 c1 ?_
    simp -implicitDefEqProofs (maxSteps := 100000) (disch := first | (intros; contradiction) | omega) only [am0, am1, am2, am3, am4, am5, am6, am7, am8, am9, Nat.reduceSub, ↓reduceIte, reduceCtorEq, Nat.reduceEqDiff, Nat.reduceBEq, Nat.reduceAdd, Nat.reduceLT, Nat.reduceBNe, Nat.reduceMul, ↓reduceIte, tis, fls, List.dropLast_singleton]
    refine callM 0 cS ?_
    simp -implicitDefEqProofs (maxSteps := 100000) (disch := first | (intros; contradiction) | omega) only [am0, am1, am2, am3, am4, am5, am6, am7, am8, am9, Nat.reduceSub, ↓reduceIte, reduceCtorEq, Nat.reduceEqDiff, Nat.reduceBEq, Nat.reduceAdd, Nat.reduceLT, Nat.reduceBNe, Nat.reduceMul, ↓reduceIte, tis, fls, List.dropLast_singleton]
  rw [if_neg g2]
  have i0 : ¬ ((k : Int) = 0) := by omega
  have i1 : ¬ ((k : Int) = 1) := by omega
  have i2 : ¬ ((k : Int) = 2) := by omega
  by_cases g3 : k = 3
  · subst g3
    rw [if_pos rfl]
    by_cases g4 : k2 = 0
    · subst g4
      rw [if_pos rfl, eRex_eq]
      refine fits_of_cell 2 26 [0] [0, 2, 4, 5, 8, 13, 18, 22] func163 rfl rfl rfl (by show 2 < 28; decide) (by show 1 ≤ 28; decide) (by rfl) (by rfl) (by show 1 ≤ 1; decide) (by rfl) (run_of ?_)
      simp -implicitDefEqProofs (maxSteps := 100000) (disch := first | (intros; contradiction) | omega) only [am0, am1, am2, am3, am4, am5, am6, am7, am8, am9, Nat.reduceSub, ↓reduceIte, reduceCtorEq, Nat.reduceEqDiff, Nat.reduceBEq, Nat.reduceAdd, Nat.reduceLT, Nat.reduceBNe, Nat.reduceMul, ↓reduceIte, tis, fls, Rex.kind, Rex.set, Rex.kids, List.map_nil]
      refine callM 0 c1 ?_
      simp -implicitDefEqProofs (maxSteps := 100000) (disch := first | (intros; contradiction) | omega) only [am0, am1, am2, am3, am4, am5, am6, am7, am8, am9, Nat.reduceSub, ↓reduceIte, reduceCtorEq, Nat.reduceEqDiff, Nat.reduceBEq, Nat.reduceAdd, Nat.reduceLT, Nat.reduceBNe, Nat.reduceMul, ↓reduceIte, tis, fls, List.dropLast_singleton]
      refine callM 0 c2 ?_
      simp -implicitDefEqProofs (maxSteps := 100000) (disch := first | (intros; contradiction) | omega) only [am0, am1, am2, am3, am4, am5, am6, am7, am8, am9, Nat.reduceSub, ↓reduceIte, reduceCtorEq, Nat.reduceEqDiff, Nat.reduceBEq, Nat.reduceAdd, Nat.reduceLT, Nat.reduceBNe, Nat.reduceMul, ↓reduceIte, tis, fls, List.dropLast_singleton, List.map_nil]
    · have i4 : ¬ ((k2 : Int) = 0) := by omega
      rw [if_neg g4]
      simp only [eRex_eq] at *
      refine fits_of_cell 2 26 [0] [0, 2, 4, 5, 8, 13, 18, 22] func163 rfl rfl rfl (by show 2 < 28; decide) (by show 1 ≤ 28; decide) (by rfl) (by rfl) (by show 1 ≤ 1; decide) (by rfl) (run_of ?_)
      simp -implicitDefEqProofs (maxSteps := 100000) (disch := first | (intros; contradiction) | omega) only [am0, am1, am2, am3, am4, am5, am6, am7, am8, am9, Nat.reduceSub, ↓reduceIte, reduceCtorEq, Nat.reduceEqDiff, Nat.reduceBEq, Nat.reduceAdd, Nat.reduceLT, Nat.reduceBNe, Nat.reduceMul, ↓reduceIte, tis, fls]
      refine callM 0 c1 ?_
      simp -implicitDefEqProofs (maxSteps := 100000) (disch := first | (intros; contradiction) | omega) only [am0, am1, am2, am3, am4, am5, am6, am7, am8, am9, Nat.reduceSub, ↓reduceIte, reduceCtorEq, Nat.reduceEqDiff, Nat.reduceBEq, Nat.reduceAdd, Nat.reduceLT, Nat.reduceBNe, Nat.reduceMul, ↓reduceIte, tis, fls, List.dropLast_singleton]
      refine callM 0 c2 ?_
      simp -implicitDefEqProofs (maxSteps := 100000) (disch := first | (intros; contradiction) | omega) only [am0, am1, am2, am3, am4, am5, am6, am7, am8, am9, Nat.reduceSub, ↓reduceIte, reduceCtorEq, Nat.reduceEqDiff, Nat.reduceBEq, Nat.reduceAdd, Nat.reduceLT, Nat.reduceBNe, Nat.reduceMul, ↓reduceIte, tis, fls, List.dropLast_singleton, i4]
      refine callM 0 c3 ?_
      simp -implicitDefEqProofs (maxSteps := 100000) (disch := first | (intros; contradiction) | omega) only [am0, am1, am2, am3, am4, am5, am6, am7, am8, am9, Nat.reduceSub, ↓reduceIte, reduceCtorEq, Nat.reduceEqDiff, Nat.reduceBEq, Nat.reduceAdd, Nat.reduceLT, Nat.reduceBNe, Nat.reduceMul, ↓reduceIte, tis, fls, List.dropLast_singleton]
      refine callB cB3 ?_
      simp -implicitDefEqProofs (maxSteps := 100000) (disch := first | (intros; contradiction) | omega) only [am0, am1, am2, am3, am4, am5, am6, am7, am8, am9, Nat.reduceSub, ↓reduceIte, reduceCtorEq, Nat.reduceEqDiff, Nat.reduceBEq, Nat.reduceAdd, Nat.reduceLT, Nat.reduceBNe, Nat.reduceMul, ↓reduceIte, tis, fls, rx]
  · rw [if_neg g3]
    have i3 : ¬ ((k : Int) = 3) := by omega
    simp only [eRex_eq] at *
    refine fits_of_cell 2 26 [0] [0, 2, 4, 5, 8, 13, 18, 22] func163 rfl rfl rfl (by show 2 < 28; decide) (by show 1 ≤ 28; decide) (by rfl) (by rfl) (by show 1 ≤ 1; decide) (by rfl) (run_of ?_)
    simp -implicitDefEqProofs (maxSteps := 100000) (disch := first | (intros; contradiction) | omega) only [am0, am1, am2, am3, am4, am5, am6, am7, am8, am9, Nat.reduceSub, ↓reduceIte, reduceCtorEq, Nat.reduceEqDiff, Nat.reduceBEq, Nat.reduceAdd, Nat.reduceLT, Nat.reduceBNe, Nat.reduceMul, ↓reduceIte, tis, fls]
    refine callM 0 c1 ?_
    simp -implicitDefEqProofs (maxSteps := 100000) (disch := first | (intros; contradiction) | omega) only [am0, am1, am2, am3, am4, am5, am6, am7, am8, am9, Nat.reduceSub, ↓reduceIte, reduceCtorEq, Nat.reduceEqDiff, Nat.reduceBEq, Nat.reduceAdd, Nat.reduceLT, Nat.reduceBNe, Nat.reduceMul, ↓reduceIte, tis, fls, List.dropLast_singleton, i0, i1, i2, i3]
    refine callM 0 c2 ?_
    simp -implicitDefEqProofs (maxSteps := 100000) (disch := first | (intros; contradiction) | omega) only [am0, am1, am2, am3, am4, am5, am6, am7, am8, am9, Nat.reduceSub, ↓reduceIte, reduceCtorEq, Nat.reduceEqDiff, Nat.reduceBEq, Nat.reduceAdd, Nat.reduceLT, Nat.reduceBNe, Nat.reduceMul, ↓reduceIte, tis, fls, List.dropLast_singleton]
    refine callB cB2 ?_
    simp -implicitDefEqProofs (maxSteps := 100000) (disch := first | (intros; contradiction) | omega) only [am0, am1, am2, am3, am4, am5, am6, am7, am8, am9, Nat.reduceSub, ↓reduceIte, reduceCtorEq, Nat.reduceEqDiff, Nat.reduceBEq, Nat.reduceAdd, Nat.reduceLT, Nat.reduceBNe, Nat.reduceMul, ↓reduceIte, tis, fls, rx]
def kin9 : List Int := [3, 3, 3, 4, 4, 5, 5, 6, 7]
def kidsV (f : Nat → Rex × Nat) (p : Nat) : Nat → List Rex × Nat
  | 0 => ([], p)
  | i + 1 => ((kidsV f p i).1 ++ [(f (kidsV f p i).2).1], (f (kidsV f p i).2).2)
def rexV (b : List UInt8) : Nat → Nat → Rex × Nat
  | 0, p => leafV b p
  | d + 1, p => if pickV b p 4 = 0 then leafV b (p + 1) else (.mk (numV b (p + 1) kin9) [] (kidsV (rexV b d) (p + 1 + 1) (kidsN (numV b (p + 1) kin9)).toNat).1, (kidsV (rexV b d) (p + 1 + 1) (kidsN (numV b (p + 1) kin9)).toNat).2)
theorem kidsV_len (f : Nat → Rex × Nat) (p : Nat) : ∀ i, (kidsV f p i).1.length = i
  | 0 => rfl
  | i + 1 => by simp [kidsV, kidsV_len f p i]
theorem kidsV_le (f : Nat → Rex × Nat) (c m : Nat) (hf : ∀ q, (f q).2 ≤ q + c ∧ bd (f q).1 ≤ m) (p : Nat) : ∀ i, (kidsV f p i).2 ≤ p + i * c ∧ ((kidsV f p i).1.map bd).sum ≤ i * m
  | 0 => by simp [kidsV]
  | i + 1 => by
    obtain ⟨h1, h2⟩ := kidsV_le f c m hf p i
    obtain ⟨h3, h4⟩ := hf (kidsV f p i).2
    have e1 : (i + 1) * c = i * c + c := Nat.succ_mul i c
    have e2 : (i + 1) * m = i * m + m := Nat.succ_mul i m
    simp only [kidsV, List.map_append, List.map_cons, List.map_nil, List.sum_append, List.sum_cons, List.sum_nil]
    omega
theorem kin9_k (b : List UInt8) (p : Nat) : (kidsN (numV b p kin9)).toNat ≤ 2 ∧ ((kidsN (numV b p kin9)).toNat : Int) = kidsN (numV b p kin9) ∧ 0 < (kidsN (numV b p kin9)).toNat := by
  have h := numV_mem b p (l := kin9) (by decide)
  generalize numV b p kin9 = x at *
  simp only [kin9, List.mem_cons, List.not_mem_nil, or_false] at h
  rcases h with rfl | rfl | rfl | rfl | rfl | rfl | rfl | rfl | rfl <;> decide
theorem rexV_le (b : List UInt8) : ∀ (d p : Nat), (rexV b d p).2 ≤ p + 8 * 4 ^ d ∧ bd (rexV b d p).1 ≤ 256 * 4 ^ d
  | 0, p => by have := leafV_le b p; simp only [rexV]; omega
  | d + 1, p => by
    have h1 := leafV_le b (p + 1)
    have h2 := kidsV_le (rexV b d) _ _ (rexV_le b d) (p + 1 + 1) (kidsN (numV b (p + 1) kin9)).toNat
    have h3 := (kin9_k b (p + 1)).1
    have h4 := kidsV_len (rexV b d) (p + 1 + 1) (kidsN (numV b (p + 1) kin9)).toNat
    have h5 : 0 < 4 ^ d := Nat.pow_pos (by omega)
    have h6 : 4 ^ (d + 1) = 4 * 4 ^ d := by rw [Nat.pow_succ]; omega
    simp only [rexV]
    split
    · omega
    · simp only [bd]
      generalize (kidsN (numV b (p + 1) kin9)).toNat = n at *
      have a1 : n * (8 * 4 ^ d) ≤ 2 * (8 * 4 ^ d) := Nat.mul_le_mul_right _ h3
      have a2 : n * (256 * 4 ^ d) ≤ 2 * (256 * 4 ^ d) := Nat.mul_le_mul_right _ h3
      constructor
      · omega
      · simp only [List.length_nil]; omega
/-- spec.l2Rex -/
theorem fits_l2Rex (b : List UInt8) (hb : b.length ≤ 2000) (d : Nat) (hd : d ≤ 3) : ∀ (p : Nat), p ≤ 800000 + 2000 * (3 - d) → Fits prog 162 [.box (eRd b p), .int .i64 ((d : Int) + 1)] (eRex true (rexV b d p).1) [.box (eRd b (rexV b d p).2)] := by
  induction d with
  | zero =>
    intro p hp
    have cL := fits_l2Leaf b hb p (by omega)
    simp only [rexV]
    generalize leafV b p = x at *
    rw [eRex_eq] at *
    unfold eRd at *
    refine fits_of_cell 4 26 [0] [0, 1, 4, 5, 6, 7, 14, 25] func162 rfl rfl rfl (by show 4 < 38; decide) (by show 2 ≤ 38; decide) (by rfl) (by rfl) (by show 1 ≤ 2; decide) (by rfl) (run_of ?_)
    simp -implicitDefEqProofs (maxSteps := 100000) (disch := first | (intros; contradiction) | omega) only [am0, am1, am2, am3, am4, am5, am6, am7, am8, am9, Nat.reduceSub, ↓reduceIte, reduceCtorEq, Nat.reduceEqDiff, Nat.reduceBEq, Nat.reduceAdd, Nat.reduceLT, Nat.reduceBNe, Nat.reduceMul, ↓reduceIte, tis, fls, rx]
    refine callM 0 cL ?_
    simp -implicitDefEqProofs (maxSteps := 100000) (disch := first | (intros; contradiction) | omega) only [am0, am1, am2, am3, am4, am5, am6, am7, am8, am9, Nat.reduceSub, ↓reduceIte, reduceCtorEq, Nat.reduceEqDiff, Nat.reduceBEq, Nat.reduceAdd, Nat.reduceLT, Nat.reduceBNe, Nat.reduceMul, ↓reduceIte, tis, fls, rx, List.dropLast_singleton]
  | succ d ih =>
    intro p hp
    have ih := ih (by omega)
    have h5 : 4 ^ d ≤ 4 ^ 2 := Nat.pow_le_pow_right (by omega) (by omega)
    have c1 : Fits prog 75 [.box (eRd b p), .int .i64 4] (.int .i64 (pickV b p 4)) [.box (eRd b (p + 1))] := fits_pick b hb p (by omega) 4 (by omega) (by omega)
    have hd1 : ¬ ((d : Int) + 1 + 1 ≤ 1) := by omega
    have hd2 : (d : Int) + 1 + 1 - 1 = d + 1 := by omega
    simp only [rexV]
    generalize pickV b p 4 = k at *
    by_cases hk : k = 0
    · subst hk
      rw [if_pos rfl]
      have cL := fits_l2Leaf b hb (p + 1) (by omega)
      generalize leafV b (p + 1) = x at *
      rw [eRex_eq] at *
      unfold eRd at *
      refine fits_of_cell 4 26 [0] [0, 1, 4, 5, 6, 7, 14, 25] func162 rfl rfl rfl (by show 4 < 38; decide) (by show 2 ≤ 38; decide) (by rfl) (by rfl) (by show 1 ≤ 2; decide) (by rfl) (run_of ?_)
      simp -implicitDefEqProofs (maxSteps := 100000) (disch := first | (intros; contradiction) | omega) only [am0, am1, am2, am3, am4, am5, am6, am7, am8, am9, Nat.reduceSub, ↓reduceIte, reduceCtorEq, Nat.reduceEqDiff, Nat.reduceBEq, Nat.reduceAdd, Nat.reduceLT, Nat.reduceBNe, Nat.reduceMul, ↓reduceIte, tis, fls, rx, hd1]
      refine callM 0 c1 ?_
      simp -implicitDefEqProofs (maxSteps := 100000) (disch := first | (intros; contradiction) | omega) only [am0, am1, am2, am3, am4, am5, am6, am7, am8, am9, Nat.reduceSub, ↓reduceIte, reduceCtorEq, Nat.reduceEqDiff, Nat.reduceBEq, Nat.reduceAdd, Nat.reduceLT, Nat.reduceBNe, Nat.reduceMul, ↓reduceIte, tis, fls, rx, List.dropLast_singleton]
      refine callM 0 cL ?_
      simp -implicitDefEqProofs (maxSteps := 100000) (disch := first | (intros; contradiction) | omega) only [am0, am1, am2, am3, am4, am5, am6, am7, am8, am9, Nat.reduceSub, ↓reduceIte, reduceCtorEq, Nat.reduceEqDiff, Nat.reduceBEq, Nat.reduceAdd, Nat.reduceLT, Nat.reduceBNe, Nat.reduceMul, ↓reduceIte, tis, fls, rx, List.dropLast_singleton]
    · rw [if_neg hk]
      have hk0 : ¬ ((k : Int) = 0) := by omega
      have cN := fits_num b hb (p + 1) (by omega) kin9 (by decide) (by decide)
      obtain ⟨q1, q2, q3⟩ := kin9_k b (p + 1)
      generalize numV b (p + 1) kin9 = kk at *
      have cK := fits_sKids kk
      rw [← q2] at cK
      generalize (kidsN kk).toNat = n at *
      have hle := fun i => kidsV_le (rexV b d) _ _ (rexV_le b d) (p + 1 + 1) i
      have hln := fun i => kidsV_len (rexV b d) (p + 1 + 1) i
      have cF := fun i (hi : i < n) => ih (kidsV (rexV b d) (p + 1 + 1) i).2 (by
        have := (hle i).1
        have : i * (8 * 4 ^ d) ≤ 1 * (8 * 4 ^ d) := Nat.mul_le_mul_right _ (by omega)
        omega)
      have hS : ∀ i, kidsV (rexV b d) (p + 1 + 1) (i + 1) = ((kidsV (rexV b d) (p + 1 + 1) i).1 ++ [(rexV b d (kidsV (rexV b d) (p + 1 + 1) i).2).1], (rexV b d (kidsV (rexV b d) (p + 1 + 1) i).2).2) := fun i => rfl
      have hZ : kidsV (rexV b d) (p + 1 + 1) 0 = ([], p + 1 + 1) := rfl
      generalize kidsV (rexV b d) (p + 1 + 1) = V at *
      rw [eRex_eq]
      show Fits prog _ _ (.agg [.int .i64 kk, .sl true 2 [], .sl true 3 ((V n).1.map (eRex true))]) _
      unfold eRd at *
      refine fits_of_cell 4 26 [0] [0, 1, 4, 5, 6, 7, 14, 25] func162 rfl rfl rfl (by show 4 < 38; decide) (by show 2 ≤ 38; decide) (by rfl) (by rfl) (by show 1 ≤ 2; decide) (by rfl) (run_of ?_)
      simp -implicitDefEqProofs (maxSteps := 100000) (disch := first | (intros; contradiction) | omega) only [am0, am1, am2, am3, am4, am5, am6, am7, am8, am9, Nat.reduceSub, ↓reduceIte, reduceCtorEq, Nat.reduceEqDiff, Nat.reduceBEq, Nat.reduceAdd, Nat.reduceLT, Nat.reduceBNe, Nat.reduceMul, ↓reduceIte, tis, fls, rx, hd1]
      refine callM 0 c1 ?_
      simp -implicitDefEqProofs (maxSteps := 100000) (disch := first | (intros; contradiction) | omega) only [am0, am1, am2, am3, am4, am5, am6, am7, am8, am9, Nat.reduceSub, ↓reduceIte, reduceCtorEq, Nat.reduceEqDiff, Nat.reduceBEq, Nat.reduceAdd, Nat.reduceLT, Nat.reduceBNe, Nat.reduceMul, ↓reduceIte, tis, fls, rx, List.dropLast_singleton, hk0]
      refine callMF [(18, [])] 0 cN ?_
      simp -implicitDefEqProofs (maxSteps := 100000) (disch := first | (intros; contradiction) | omega) only [am0, am1, am2, am3, am4, am5, am6, am7, am8, am9, Nat.reduceSub, ↓reduceIte, reduceCtorEq, Nat.reduceEqDiff, Nat.reduceBEq, Nat.reduceAdd, Nat.reduceLT, Nat.reduceBNe, Nat.reduceMul, ↓reduceIte, tis, fls, rx, List.dropLast_singleton, kin9, eInt]
      refine callB cK ?_
      simp -implicitDefEqProofs (maxSteps := 100000) (disch := first | (intros; contradiction) | omega) only [am0, am1, am2, am3, am4, am5, am6, am7, am8, am9, Nat.reduceSub, ↓reduceIte, reduceCtorEq, Nat.reduceEqDiff, Nat.reduceBEq, Nat.reduceAdd, Nat.reduceLT, Nat.reduceBNe, Nat.reduceMul, ↓reduceIte, tis, fls, rx]
      refine run_loop (α := Nat) (fun j => j ≤ n) (fun j => [(0, .box (.agg [.sl false 1 (bytesA b), .int .i64 (V j).2])), (1, .int .i64 ((d : Int) + 1 + 1)), (4, .box (.agg [.int .i64 0, .sl true 0 [], .sl true 0 []])), (6, .box (.agg [.int .i64 kk, .sl true 0 [], .sl true 3 ((V j).1.map (eRex true))])), (7, .int .i64 ((n : Int) - j))]) (fun j => n - j) 0 (Nat.zero_le _) ?_ ?_
      · simp -implicitDefEqProofs (maxSteps := 100000) (disch := first | (intros; contradiction) | omega) only [am0, am1, am2, am3, am4, am5, am6, am7, am8, am9, Nat.reduceSub, ↓reduceIte, reduceCtorEq, Nat.reduceEqDiff, Nat.reduceBEq, Nat.reduceAdd, Nat.reduceLT, Nat.reduceBNe, Nat.reduceMul, ↓reduceIte, tis, fls, rx, hZ, List.map_nil]
      · intro j hj'
        by_cases hj : j < n
        · have cR := cF j hj
          have hl := hln j
          have hS := hS j
          generalize rexV b d (V j).2 = x at *
          rw [eRex_eq] at cR
          simp -implicitDefEqProofs (maxSteps := 100000) (disch := first | (intros; contradiction) | omega) only [am0, am1, am2, am3, am4, am5, am6, am7, am8, am9, Nat.reduceSub, ↓reduceIte, reduceCtorEq, Nat.reduceEqDiff, Nat.reduceBEq, Nat.reduceAdd, Nat.reduceLT, Nat.reduceBNe, Nat.reduceMul, ↓reduceIte, tis, fls, rx]
          refine .inr (run_mix 33 [] [0] (by kernel_rfl) ?_)
          simp -implicitDefEqProofs (maxSteps := 100000) (disch := first | (intros; contradiction) | omega) only [am0, am1, am2, am3, am4, am5, am6, am7, am8, am9, Nat.reduceSub, ↓reduceIte, reduceCtorEq, Nat.reduceEqDiff, Nat.reduceBEq, Nat.reduceAdd, Nat.reduceLT, Nat.reduceBNe, Nat.reduceMul, ↓reduceIte, tis, fls, rx]
          refine callG 0 cR ?_
          simp -implicitDefEqProofs (maxSteps := 100000) (disch := first | (intros; contradiction) | omega) only [am0, am1, am2, am3, am4, am5, am6, am7, am8, am9, Nat.reduceSub, ↓reduceIte, reduceCtorEq, Nat.reduceEqDiff, Nat.reduceBEq, Nat.reduceAdd, Nat.reduceLT, Nat.reduceBNe, Nat.reduceMul, ↓reduceIte, tis, fls, rx, List.dropLast_singleton, hd2]
          refine round_normal (j + 1) (by omega) ?_ (by show n - (j + 1) < n - j; omega)
          rw [hS]
          simp -implicitDefEqProofs (maxSteps := 100000) (disch := first | (intros; contradiction) | omega) only [am0, am1, am2, am3, am4, am5, am6, am7, am8, am9, Nat.reduceSub, ↓reduceIte, reduceCtorEq, Nat.reduceEqDiff, Nat.reduceBEq, Nat.reduceAdd, Nat.reduceLT, Nat.reduceBNe, Nat.reduceMul, ↓reduceIte, tis, fls, rx, List.map_append, List.map_cons, List.map_nil, eRex_eq true x.1]
          omega
        · obtain rfl : j = n := by omega
          simp -implicitDefEqProofs (maxSteps := 100000) (disch := first | (intros; contradiction) | omega) only [am0, am1, am2, am3, am4, am5, am6, am7, am8, am9, Nat.reduceSub, ↓reduceIte, reduceCtorEq, Nat.reduceEqDiff, Nat.reduceBEq, Nat.reduceAdd, Nat.reduceLT, Nat.reduceBNe, Nat.reduceMul, ↓reduceIte, tis, fls, rx]
/-- One that is ok. -/
def someV (b : List UInt8) (p : Nat) : Rex × Nat := if rexB (rexV b (1 + pickV b p 3) (p + 1)).1 = true then rexV b (1 + pickV b p 3) (p + 1) else leafV b (rexV b (1 + pickV b p 3) (p + 1)).2
theorem someV_le (b : List UInt8) (p : Nat) : (someV b p).2 ≤ p + 600 ∧ bd (someV b p).1 ≤ 16384 := by
  have h1 := pickV_lt b p (n := 3) (by omega)
  have h2 := rexV_le b (1 + pickV b p 3) (p + 1)
  have h3 := leafV_le b (rexV b (1 + pickV b p 3) (p + 1)).2
  have h4 : 4 ^ (1 + pickV b p 3) ≤ 4 ^ 3 := Nat.pow_le_pow_right (by omega) (by omega)
  unfold someV
  split <;> omega
/-- spec.l2Some -/
theorem fits_l2Some (b : List UInt8) (hb : b.length ≤ 2000) (p : Nat) (hp : p ≤ 700000) : Fits prog 135 [.box (eRd b p)] (eRex true (someV b p).1) [.box (eRd b (someV b p).2)] := by
  have c1 : Fits prog 75 [.box (eRd b p), .int .i64 3] (.int .i64 (pickV b p 3)) [.box (eRd b (p + 1))] := fits_pick b hb p (by omega) 3 (by omega) (by omega)
  have h1 := pickV_lt b p (n := 3) (by omega)
  unfold someV
  generalize pickV b p 3 = k at *
  have cR := fits_l2Rex b hb (1 + k) (by omega) (p + 1) (by omega)
  have hl := rexV_le b (1 + k) (p + 1)
  have h4 : 4 ^ (1 + k) ≤ 4 ^ 3 := Nat.pow_le_pow_right (by omega) (by omega)
  have cL := fits_l2Leaf b hb (rexV b (1 + k) (p + 1)).2 (by omega)
  have cO := fits_sRexOk (rexV b (1 + k) (p + 1)).1 (by omega)
  generalize rexV b (1 + k) (p + 1) = x at *
  have e1 : (2 : Int) + k = ((1 + k : Nat) : Int) + 1 := by omega
  rw [← e1] at cR
  cases h : rexB x.1 with
  | true =>
    rw [if_pos rfl]
    rw [h] at cO
    unfold eRd at *
    rw [eRex_eq] at *
    refine fits_of_cell 2 26 [0] [0, 2, 3, 11] func135 rfl rfl rfl (by show 2 < 15; decide) (by show 1 ≤ 15; decide) (by rfl) (by rfl) (by show 1 ≤ 1; decide) (by rfl) (run_of ?_)
    simp -implicitDefEqProofs (maxSteps := 100000) (disch := first | (intros; contradiction) | omega) only [am0, am1, am2, am3, am4, am5, am6, am7, am8, am9, Nat.reduceSub, ↓reduceIte, reduceCtorEq, Nat.reduceEqDiff, Nat.reduceBEq, Nat.reduceAdd, Nat.reduceLT, Nat.reduceBNe, Nat.reduceMul, ↓reduceIte, tis, fls, rx]
    refine callK 4 0 0 c1 ?_
    simp -implicitDefEqProofs (maxSteps := 100000) (disch := first | (intros; contradiction) | omega) only [am0, am1, am2, am3, am4, am5, am6, am7, am8, am9, Nat.reduceSub, ↓reduceIte, reduceCtorEq, Nat.reduceEqDiff, Nat.reduceBEq, Nat.reduceAdd, Nat.reduceLT, Nat.reduceBNe, Nat.reduceMul, ↓reduceIte, tis, fls, rx, List.dropLast_singleton]
    refine callM 0 cR ?_
    simp -implicitDefEqProofs (maxSteps := 100000) (disch := first | (intros; contradiction) | omega) only [am0, am1, am2, am3, am4, am5, am6, am7, am8, am9, Nat.reduceSub, ↓reduceIte, reduceCtorEq, Nat.reduceEqDiff, Nat.reduceBEq, Nat.reduceAdd, Nat.reduceLT, Nat.reduceBNe, Nat.reduceMul, ↓reduceIte, tis, fls, rx, List.dropLast_singleton]
    refine callB cO ?_
    simp -implicitDefEqProofs (maxSteps := 100000) (disch := first | (intros; contradiction) | omega) only [am0, am1, am2, am3, am4, am5, am6, am7, am8, am9, Nat.reduceSub, ↓reduceIte, reduceCtorEq, Nat.reduceEqDiff, Nat.reduceBEq, Nat.reduceAdd, Nat.reduceLT, Nat.reduceBNe, Nat.reduceMul, ↓reduceIte, tis, fls, rx]
  | false =>
    rw [if_neg (by simp)]
    rw [h] at cO
    generalize leafV b x.2 = y at *
    unfold eRd at *
    simp only [eRex_eq] at *
    refine fits_of_cell 2 26 [0] [0, 2, 3, 11] func135 rfl rfl rfl (by show 2 < 15; decide) (by show 1 ≤ 15; decide) (by rfl) (by rfl) (by show 1 ≤ 1; decide) (by rfl) (run_of ?_)
    simp -implicitDefEqProofs (maxSteps := 100000) (disch := first | (intros; contradiction) | omega) only [am0, am1, am2, am3, am4, am5, am6, am7, am8, am9, Nat.reduceSub, ↓reduceIte, reduceCtorEq, Nat.reduceEqDiff, Nat.reduceBEq, Nat.reduceAdd, Nat.reduceLT, Nat.reduceBNe, Nat.reduceMul, ↓reduceIte, tis, fls, rx]
    refine callK 4 0 0 c1 ?_
    simp -implicitDefEqProofs (maxSteps := 100000) (disch := first | (intros; contradiction) | omega) only [am0, am1, am2, am3, am4, am5, am6, am7, am8, am9, Nat.reduceSub, ↓reduceIte, reduceCtorEq, Nat.reduceEqDiff, Nat.reduceBEq, Nat.reduceAdd, Nat.reduceLT, Nat.reduceBNe, Nat.reduceMul, ↓reduceIte, tis, fls, rx, List.dropLast_singleton]
    refine callM 0 cR ?_
    simp -implicitDefEqProofs (maxSteps := 100000) (disch := first | (intros; contradiction) | omega) only [am0, am1, am2, am3, am4, am5, am6, am7, am8, am9, Nat.reduceSub, ↓reduceIte, reduceCtorEq, Nat.reduceEqDiff, Nat.reduceBEq, Nat.reduceAdd, Nat.reduceLT, Nat.reduceBNe, Nat.reduceMul, ↓reduceIte, tis, fls, rx, List.dropLast_singleton]
    refine callB cO ?_
    simp -implicitDefEqProofs (maxSteps := 100000) (disch := first | (intros; contradiction) | omega) only [am0, am1, am2, am3, am4, am5, am6, am7, am8, am9, Nat.reduceSub, ↓reduceIte, reduceCtorEq, Nat.reduceEqDiff, Nat.reduceBEq, Nat.reduceAdd, Nat.reduceLT, Nat.reduceBNe, Nat.reduceMul, ↓reduceIte, tis, fls, rx]
    refine callM 0 cL ?_
    simp -implicitDefEqProofs (maxSteps := 100000) (disch := first | (intros; contradiction) | omega) only [am0, am1, am2, am3, am4, am5, am6, am7, am8, am9, Nat.reduceSub, ↓reduceIte, reduceCtorEq, Nat.reduceEqDiff, Nat.reduceBEq, Nat.reduceAdd, Nat.reduceLT, Nat.reduceBNe, Nat.reduceMul, ↓reduceIte, tis, fls, rx, List.dropLast_singleton]
def kin4 : List Int := [0, 8, 3, 5]
def wrapN (f : Rex → Rex) (x : Rex) : Nat → Rex
  | 0 => x
  | n + 1 => f (wrapN f x n)
def starR (x : Rex) : Rex := .mk 5 [] [x]
def catR (x : Rex) : Rex := .mk 3 [] [x, x]
theorem star_bd (x : Rex) : ∀ n, bd (wrapN starR x n) = bd x + n
  | 0 => rfl
  | n + 1 => by simp only [wrapN, starR, bd, star_bd x n, List.map_cons, List.map_nil, List.sum_cons, List.sum_nil, List.length_cons, List.length_nil]; omega
theorem cat_bd (x : Rex) : ∀ n, bd (wrapN catR x n) + 2 = (bd x + 2) * 2 ^ n
  | 0 => by simp [wrapN]
  | n + 1 => by
    have := cat_bd x n
    simp only [wrapN, catR, bd, List.map_cons, List.map_nil, List.sum_cons, List.sum_nil, List.length_cons, List.length_nil]
    rw [Nat.pow_succ, ← Nat.mul_assoc, ← this]
    omega
/-- One, sometimes bent. -/
def bentV (b : List UInt8) (p : Nat) : Rex × Nat :=
  if pickV b (someV b p).2 48 = 0 then (.mk (numV b ((someV b p).2 + 1) kin4) (someV b p).1.set (someV b p).1.kids, (someV b p).2 + 1 + 1)
  else if pickV b (someV b p).2 48 = 1 then (.mk (someV b p).1.kind [⟨5, 4⟩] (someV b p).1.kids, (someV b p).2 + 1)
  else if pickV b (someV b p).2 48 = 2 then (wrapN starR (someV b p).1 9, (someV b p).2 + 1)
  else if pickV b (someV b p).2 48 = 3 then (wrapN catR (someV b p).1 5, (someV b p).2 + 1)
  else ((someV b p).1, (someV b p).2 + 1)
theorem bentV_le (b : List UInt8) (p : Nat) : (bentV b p).2 ≤ p + 700 ∧ bd (bentV b p).1 ≤ 1048576 := by
  have h := someV_le b p
  unfold bentV
  generalize someV b p = x at *
  have h2 := bd_eq x.1
  split
  · exact ⟨by simp only; omega, by simp only [bd]; omega⟩
  · split
    · exact ⟨by simp only; omega, by simp only [bd, List.length_singleton]; omega⟩
    · split
      · exact ⟨by simp only; omega, by simp only [star_bd]; omega⟩
      · split
        · have := cat_bd x.1 5
          exact ⟨by simp only; omega, by simp only; omega⟩
        · exact ⟨by simp only; omega, by simp only; omega⟩
/-- spec.l2Bent -/
theorem fits_l2Bent (b : List UInt8) (hb : b.length ≤ 2000) (p : Nat) (hp : p ≤ 600000) : Fits prog 69 [.box (eRd b p)] (eRex true (bentV b p).1) [.box (eRd b (bentV b p).2)] := by
  have cS := fits_l2Some b hb p (by omega)
  have hl := someV_le b p
  unfold bentV
  generalize someV b p = x at *
  have c1 : Fits prog 75 [.box (eRd b x.2), .int .i64 48] (.int .i64 (pickV b x.2 48)) [.box (eRd b (x.2 + 1))] := fits_pick b hb x.2 (by omega) 48 (by omega) (by omega)
  have cN := fits_num b hb (x.2 + 1) (by omega) kin4 (by decide) (by decide)
  generalize pickV b x.2 48 = k at *
  generalize numV b (x.2 + 1) kin4 = kk at *
  have cC := fun n (hn : n ≤ 5) => fits_l2Copy (wrapN catR x.1 n) (by
    have h1 := cat_bd x.1 n
    have h2 : 2 ^ n ≤ 2 ^ 5 := Nat.pow_le_pow_right (by omega) hn
    have h3 : (bd x.1 + 2) * 2 ^ n ≤ 16386 * 2 ^ 5 := Nat.mul_le_mul (by omega) h2
    omega)
  by_cases g0 : k = 0
  · subst g0
    rw [if_pos rfl, eRex_eq]
    show Fits prog _ _ (.agg [.int .i64 kk, .sl true 2 (x.1.set.map eSpan), .sl true 3 (x.1.kids.map (eRex true))]) _
    rw [eRex_eq] at cS
    unfold eRd at *
    refine fits_of_cell 2 26 [0] [0, 2, 3, 4, 5, 9, 10, 16, 21, 24, 30, 33] func69 rfl rfl rfl (by show 2 < 42; decide) (by show 1 ≤ 42; decide) (by rfl) (by rfl) (by show 1 ≤ 1; decide) (by rfl) (run_of ?_)
    simp -implicitDefEqProofs (maxSteps := 100000) (disch := first | (intros; contradiction) | omega) only [am0, am1, am2, am3, am4, am5, am6, am7, am8, am9, Nat.reduceSub, ↓reduceIte, reduceCtorEq, Nat.reduceEqDiff, Nat.reduceBEq, Nat.reduceAdd, Nat.reduceLT, Nat.reduceBNe, Nat.reduceMul, ↓reduceIte, tis, fls, rx]
    refine callM 0 cS ?_
    simp -implicitDefEqProofs (maxSteps := 100000) (disch := first | (intros; contradiction) | omega) only [am0, am1, am2, am3, am4, am5, am6, am7, am8, am9, Nat.reduceSub, ↓reduceIte, reduceCtorEq, Nat.reduceEqDiff, Nat.reduceBEq, Nat.reduceAdd, Nat.reduceLT, Nat.reduceBNe, Nat.reduceMul, ↓reduceIte, tis, fls, rx, List.dropLast_singleton]
    refine callM 0 c1 ?_
    simp -implicitDefEqProofs (maxSteps := 100000) (disch := first | (intros; contradiction) | omega) only [am0, am1, am2, am3, am4, am5, am6, am7, am8, am9, Nat.reduceSub, ↓reduceIte, reduceCtorEq, Nat.reduceEqDiff, Nat.reduceBEq, Nat.reduceAdd, Nat.reduceLT, Nat.reduceBNe, Nat.reduceMul, ↓reduceIte, tis, fls, rx, List.dropLast_singleton]
    refine callMF [(13, [])] 0 cN ?_
    simp -implicitDefEqProofs (maxSteps := 100000) (disch := first | (intros; contradiction) | omega) only [am0, am1, am2, am3, am4, am5, am6, am7, am8, am9, Nat.reduceSub, ↓reduceIte, reduceCtorEq, Nat.reduceEqDiff, Nat.reduceBEq, Nat.reduceAdd, Nat.reduceLT, Nat.reduceBNe, Nat.reduceMul, ↓reduceIte, tis, fls, rx, List.dropLast_singleton, kin4, eInt]
  rw [if_neg g0]
  have i0 : ¬ ((k : Int) = 0) := by omega
  by_cases g1 : k = 1
  · subst g1
    rw [if_pos rfl, eRex_eq]
    show Fits prog _ _ (.agg [.int .i64 x.1.kind, .sl true 2 ([⟨5, 4⟩].map eSpan), .sl true 3 (x.1.kids.map (eRex true))]) _
    rw [eRex_eq] at cS
    unfold eRd at *
    refine fits_of_cell 2 26 [0] [0, 2, 3, 4, 5, 9, 10, 16, 21, 24, 30, 33] func69 rfl rfl rfl (by show 2 < 42; decide) (by show 1 ≤ 42; decide) (by rfl) (by rfl) (by show 1 ≤ 1; decide) (by rfl) (run_of ?_)
    simp -implicitDefEqProofs (maxSteps := 100000) (disch := first | (intros; contradiction) | omega) only [am0, am1, am2, am3, am4, am5, am6, am7, am8, am9, Nat.reduceSub, ↓reduceIte, reduceCtorEq, Nat.reduceEqDiff, Nat.reduceBEq, Nat.reduceAdd, Nat.reduceLT, Nat.reduceBNe, Nat.reduceMul, ↓reduceIte, tis, fls, rx, eSpan]
    refine callM 0 cS ?_
    simp -implicitDefEqProofs (maxSteps := 100000) (disch := first | (intros; contradiction) | omega) only [am0, am1, am2, am3, am4, am5, am6, am7, am8, am9, Nat.reduceSub, ↓reduceIte, reduceCtorEq, Nat.reduceEqDiff, Nat.reduceBEq, Nat.reduceAdd, Nat.reduceLT, Nat.reduceBNe, Nat.reduceMul, ↓reduceIte, tis, fls, rx, List.dropLast_singleton]
    refine callM 0 c1 ?_
    simp -implicitDefEqProofs (maxSteps := 100000) (disch := first | (intros; contradiction) | omega) only [am0, am1, am2, am3, am4, am5, am6, am7, am8, am9, Nat.reduceSub, ↓reduceIte, reduceCtorEq, Nat.reduceEqDiff, Nat.reduceBEq, Nat.reduceAdd, Nat.reduceLT, Nat.reduceBNe, Nat.reduceMul, ↓reduceIte, tis, fls, rx, List.dropLast_singleton]
  rw [if_neg g1]
  have i1 : ¬ ((k : Int) = 1) := by omega
  by_cases g2 : k = 2
  · subst g2
    rw [if_pos rfl]
    have hW : ∀ n, eRex true (wrapN starR x.1 (n + 1)) = .agg [.int .i64 5, .sl true 2 [], .sl true 3 [eRex true (wrapN starR x.1 n)]] := fun n => by rw [eRex_eq]; rfl
    have hW0 : wrapN starR x.1 0 = x.1 := rfl
    rw [eRex_eq] at *
    unfold eRd at *
    refine fits_of_cell 2 26 [0] [0, 2, 3, 4, 5, 9, 10, 16, 21, 24, 30, 33] func69 rfl rfl rfl (by show 2 < 42; decide) (by show 1 ≤ 42; decide) (by rfl) (by rfl) (by show 1 ≤ 1; decide) (by rfl) (run_of ?_)
    simp -implicitDefEqProofs (maxSteps := 100000) (disch := first | (intros; contradiction) | omega) only [am0, am1, am2, am3, am4, am5, am6, am7, am8, am9, Nat.reduceSub, ↓reduceIte, reduceCtorEq, Nat.reduceEqDiff, Nat.reduceBEq, Nat.reduceAdd, Nat.reduceLT, Nat.reduceBNe, Nat.reduceMul, ↓reduceIte, tis, fls, rx]
    refine callM 0 cS ?_
    simp -implicitDefEqProofs (maxSteps := 100000) (disch := first | (intros; contradiction) | omega) only [am0, am1, am2, am3, am4, am5, am6, am7, am8, am9, Nat.reduceSub, ↓reduceIte, reduceCtorEq, Nat.reduceEqDiff, Nat.reduceBEq, Nat.reduceAdd, Nat.reduceLT, Nat.reduceBNe, Nat.reduceMul, ↓reduceIte, tis, fls, rx, List.dropLast_singleton]
    refine callM 0 c1 ?_
    simp -implicitDefEqProofs (maxSteps := 100000) (disch := first | (intros; contradiction) | omega) only [am0, am1, am2, am3, am4, am5, am6, am7, am8, am9, Nat.reduceSub, ↓reduceIte, reduceCtorEq, Nat.reduceEqDiff, Nat.reduceBEq, Nat.reduceAdd, Nat.reduceLT, Nat.reduceBNe, Nat.reduceMul, ↓reduceIte, tis, fls, rx, List.dropLast_singleton]
    refine run_loop (α := Nat) (fun j => j ≤ 9) (fun j => [(0, .box (.agg [.sl false 1 (bytesA b), .int .i64 (x.2 + 1 : Nat)])), (2, .box (.agg [.int .i64 0, .sl true 0 [], .sl true 0 []])), (3, .box (.agg [.int .i64 (wrapN starR x.1 j).kind, .sl true 2 ((wrapN starR x.1 j).set.map eSpan), .sl true 3 ((wrapN starR x.1 j).kids.map (eRex true))])), (4, .int .i64 j)]) (fun j => 9 - j) 0 (Nat.zero_le _) ?_ ?_
    · simp -implicitDefEqProofs (maxSteps := 100000) (disch := first | (intros; contradiction) | omega) only [am0, am1, am2, am3, am4, am5, am6, am7, am8, am9, Nat.reduceSub, ↓reduceIte, reduceCtorEq, Nat.reduceEqDiff, Nat.reduceBEq, Nat.reduceAdd, Nat.reduceLT, Nat.reduceBNe, Nat.reduceMul, ↓reduceIte, tis, fls, rx, hW0]
    · intro j hj'
      by_cases hj : j < 9
      · simp -implicitDefEqProofs (maxSteps := 100000) (disch := first | (intros; contradiction) | omega) only [am0, am1, am2, am3, am4, am5, am6, am7, am8, am9, Nat.reduceSub, ↓reduceIte, reduceCtorEq, Nat.reduceEqDiff, Nat.reduceBEq, Nat.reduceAdd, Nat.reduceLT, Nat.reduceBNe, Nat.reduceMul, ↓reduceIte, tis, fls, rx]
        refine round_normal (j + 1) (by omega) ?_ (by show 9 - (j + 1) < 9 - j; omega)
        simp -implicitDefEqProofs (maxSteps := 100000) (disch := first | (intros; contradiction) | omega) only [am0, am1, am2, am3, am4, am5, am6, am7, am8, am9, Nat.reduceSub, ↓reduceIte, reduceCtorEq, Nat.reduceEqDiff, Nat.reduceBEq, Nat.reduceAdd, Nat.reduceLT, Nat.reduceBNe, Nat.reduceMul, ↓reduceIte, tis, fls, rx]
        refine ⟨rfl, rfl, ?_⟩
        show _ = [eRex true (wrapN starR x.1 j)]
        rw [eRex_eq]
      · obtain rfl : j = 9 := by omega
        simp -implicitDefEqProofs (maxSteps := 100000) (disch := first | (intros; contradiction) | omega) only [am0, am1, am2, am3, am4, am5, am6, am7, am8, am9, Nat.reduceSub, ↓reduceIte, reduceCtorEq, Nat.reduceEqDiff, Nat.reduceBEq, Nat.reduceAdd, Nat.reduceLT, Nat.reduceBNe, Nat.reduceMul, ↓reduceIte, tis, fls, rx]
  rw [if_neg g2]
  have i2 : ¬ ((k : Int) = 2) := by omega
  by_cases g3 : k = 3
  · subst g3
    rw [if_pos rfl]
    have hW0 : wrapN catR x.1 0 = x.1 := rfl
    rw [eRex_eq] at *
    unfold eRd at *
    refine fits_of_cell 2 26 [0] [0, 2, 3, 4, 5, 9, 10, 16, 21, 24, 30, 33] func69 rfl rfl rfl (by show 2 < 42; decide) (by show 1 ≤ 42; decide) (by rfl) (by rfl) (by show 1 ≤ 1; decide) (by rfl) (run_of ?_)
    simp -implicitDefEqProofs (maxSteps := 100000) (disch := first | (intros; contradiction) | omega) only [am0, am1, am2, am3, am4, am5, am6, am7, am8, am9, Nat.reduceSub, ↓reduceIte, reduceCtorEq, Nat.reduceEqDiff, Nat.reduceBEq, Nat.reduceAdd, Nat.reduceLT, Nat.reduceBNe, Nat.reduceMul, ↓reduceIte, tis, fls, rx]
    refine callM 0 cS ?_
    simp -implicitDefEqProofs (maxSteps := 100000) (disch := first | (intros; contradiction) | omega) only [am0, am1, am2, am3, am4, am5, am6, am7, am8, am9, Nat.reduceSub, ↓reduceIte, reduceCtorEq, Nat.reduceEqDiff, Nat.reduceBEq, Nat.reduceAdd, Nat.reduceLT, Nat.reduceBNe, Nat.reduceMul, ↓reduceIte, tis, fls, rx, List.dropLast_singleton]
    refine callM 0 c1 ?_
    simp -implicitDefEqProofs (maxSteps := 100000) (disch := first | (intros; contradiction) | omega) only [am0, am1, am2, am3, am4, am5, am6, am7, am8, am9, Nat.reduceSub, ↓reduceIte, reduceCtorEq, Nat.reduceEqDiff, Nat.reduceBEq, Nat.reduceAdd, Nat.reduceLT, Nat.reduceBNe, Nat.reduceMul, ↓reduceIte, tis, fls, rx, List.dropLast_singleton]
    refine run_loop (α := Nat) (fun j => j ≤ 5) (fun j => [(0, .box (.agg [.sl false 1 (bytesA b), .int .i64 (x.2 + 1 : Nat)])), (2, .box (.agg [.int .i64 0, .sl true 0 [], .sl true 0 []])), (3, .box (.agg [.int .i64 (wrapN catR x.1 j).kind, .sl true 2 ((wrapN catR x.1 j).set.map eSpan), .sl true 3 ((wrapN catR x.1 j).kids.map (eRex true))])), (5, .int .i64 j)]) (fun j => 5 - j) 0 (Nat.zero_le _) ?_ ?_
    · simp -implicitDefEqProofs (maxSteps := 100000) (disch := first | (intros; contradiction) | omega) only [am0, am1, am2, am3, am4, am5, am6, am7, am8, am9, Nat.reduceSub, ↓reduceIte, reduceCtorEq, Nat.reduceEqDiff, Nat.reduceBEq, Nat.reduceAdd, Nat.reduceLT, Nat.reduceBNe, Nat.reduceMul, ↓reduceIte, tis, fls, rx, hW0]
    · intro j hj'
      by_cases hj : j < 5
      · have cC := cC j (by omega)
        rw [eRex_eq, eRex_eq] at cC
        simp -implicitDefEqProofs (maxSteps := 100000) (disch := first | (intros; contradiction) | omega) only [am0, am1, am2, am3, am4, am5, am6, am7, am8, am9, Nat.reduceSub, ↓reduceIte, reduceCtorEq, Nat.reduceEqDiff, Nat.reduceBEq, Nat.reduceAdd, Nat.reduceLT, Nat.reduceBNe, Nat.reduceMul, ↓reduceIte, tis, fls, rx]
        refine .inr (run_mix 999999 [39] [999999] (by kernel_rfl) ?_)
        simp -implicitDefEqProofs (maxSteps := 100000) (disch := first | (intros; contradiction) | omega) only [am0, am1, am2, am3, am4, am5, am6, am7, am8, am9, Nat.reduceSub, ↓reduceIte, reduceCtorEq, Nat.reduceEqDiff, Nat.reduceBEq, Nat.reduceAdd, Nat.reduceLT, Nat.reduceBNe, Nat.reduceMul, ↓reduceIte, tis, fls, rx]
        refine callL cC ?_
        simp -implicitDefEqProofs (maxSteps := 100000) (disch := first | (intros; contradiction) | omega) only [am0, am1, am2, am3, am4, am5, am6, am7, am8, am9, Nat.reduceSub, ↓reduceIte, reduceCtorEq, Nat.reduceEqDiff, Nat.reduceBEq, Nat.reduceAdd, Nat.reduceLT, Nat.reduceBNe, Nat.reduceMul, ↓reduceIte, tis, fls, rx]
        refine round_normal (j + 1) (by omega) ?_ (by show 5 - (j + 1) < 5 - j; omega)
        simp -implicitDefEqProofs (maxSteps := 100000) (disch := first | (intros; contradiction) | omega) only [am0, am1, am2, am3, am4, am5, am6, am7, am8, am9, Nat.reduceSub, ↓reduceIte, reduceCtorEq, Nat.reduceEqDiff, Nat.reduceBEq, Nat.reduceAdd, Nat.reduceLT, Nat.reduceBNe, Nat.reduceMul, ↓reduceIte, tis, fls, rx]
        refine ⟨rfl, rfl, ?_⟩
        show _ = [eRex true (wrapN catR x.1 j), eRex true (wrapN catR x.1 j)]
        rw [eRex_eq]
      · obtain rfl : j = 5 := by omega
        simp -implicitDefEqProofs (maxSteps := 100000) (disch := first | (intros; contradiction) | omega) only [am0, am1, am2, am3, am4, am5, am6, am7, am8, am9, Nat.reduceSub, ↓reduceIte, reduceCtorEq, Nat.reduceEqDiff, Nat.reduceBEq, Nat.reduceAdd, Nat.reduceLT, Nat.reduceBNe, Nat.reduceMul, ↓reduceIte, tis, fls, rx]
  rw [if_neg g3]
  have i3 : ¬ ((k : Int) = 3) := by omega
  rw [eRex_eq] at *
  unfold eRd at *
  refine fits_of_cell 2 26 [0] [0, 2, 3, 4, 5, 9, 10, 16, 21, 24, 30, 33] func69 rfl rfl rfl (by show 2 < 42; decide) (by show 1 ≤ 42; decide) (by rfl) (by rfl) (by show 1 ≤ 1; decide) (by rfl) (run_of ?_)
  simp -implicitDefEqProofs (maxSteps := 100000) (disch := first | (intros; contradiction) | omega) only [am0, am1, am2, am3, am4, am5, am6, am7, am8, am9, Nat.reduceSub, ↓reduceIte, reduceCtorEq, Nat.reduceEqDiff, Nat.reduceBEq, Nat.reduceAdd, Nat.reduceLT, Nat.reduceBNe, Nat.reduceMul, ↓reduceIte, tis, fls, rx]
  refine callM 0 cS ?_
  simp -implicitDefEqProofs (maxSteps := 100000) (disch := first | (intros; contradiction) | omega) only [am0, am1, am2, am3, am4, am5, am6, am7, am8, am9, Nat.reduceSub, ↓reduceIte, reduceCtorEq, Nat.reduceEqDiff, Nat.reduceBEq, Nat.reduceAdd, Nat.reduceLT, Nat.reduceBNe, Nat.reduceMul, ↓reduceIte, tis, fls, rx, List.dropLast_singleton]
  refine callM 0 c1 ?_
  simp -implicitDefEqProofs (maxSteps := 100000) (disch := first | (intros; contradiction) | omega) only [am0, am1, am2, am3, am4, am5, am6, am7, am8, am9, Nat.reduceSub, ↓reduceIte, reduceCtorEq, Nat.reduceEqDiff, Nat.reduceBEq, Nat.reduceAdd, Nat.reduceLT, Nat.reduceBNe, Nat.reduceMul, ↓reduceIte, tis, fls, rx, List.dropLast_singleton, i0, i1, i2, i3]
def manyL (s out : List UInt8) (n : Nat) : List UInt8 := if n = 0 then out else manyL (s ++ s) (if n % 2 = 1 then out ++ s else out) (n / 2)
termination_by n
decreasing_by omega
theorem manyL_0 (s out : List UInt8) : manyL s out 0 = out := by rw [manyL, if_pos rfl]
theorem manyL_s (s out : List UInt8) {n : Nat} (h : 0 < n) : manyL s out n = manyL (s ++ s) (if n % 2 = 1 then out ++ s else out) (n / 2) := by rw [manyL, if_neg (by omega)]
theorem half_len (a o n : Nat) : (if n % 2 = 1 then o + a else o) + (a + a) * (n / 2) = o + a * n := by
  have h := Nat.div_add_mod n 2
  have h2 : n % 2 = 0 ∨ n % 2 = 1 := by omega
  have e : a * n = (a + a) * (n / 2) + a * (n % 2) := by
    conv => lhs; rw [← h, Nat.mul_add, ← Nat.mul_assoc, Nat.mul_two]
  rcases h2 with h2 | h2 <;> rw [h2] at e ⊢ <;> simp at e ⊢ <;> omega
/-- spec.l15Many -/
theorem fits_l15Many (s : List UInt8) (n : Nat) (hn : s.length * n ≤ 1048576) (hs : s.length ≤ 1048576) (hn2 : n ≤ 1048576) : Fits prog 76 [.str s, .int .i64 n] (.str (manyL s [] n)) [] := by
  have c2 : ¬ ((2 : Int) = 0) := by omega
  refine fits_of_code [4] [] [0, 1, 4, 5, 7, 10] func76 rfl rfl rfl (by rfl) (by show 2 ≤ 20; decide) (by rfl) (by rfl) (by show 0 ≤ 2; decide) (by rfl) (run_of ?_)
  simp -implicitDefEqProofs (maxSteps := 100000) (disch := first | (intros; contradiction) | omega) only [am0, am1, am2, am3, am4, am5, am6, am7, am8, am9, Nat.reduceSub, ↓reduceIte, reduceCtorEq, Nat.reduceEqDiff, Nat.reduceBEq, Nat.reduceAdd, Nat.reduceLT, Nat.reduceBNe, Nat.reduceMul, ↓reduceIte, tis, fls]
  refine run_loop (α := List UInt8 × List UInt8 × Nat) (fun g => manyL g.1 g.2.1 g.2.2 = manyL s [] n ∧ g.2.1.length + g.1.length * g.2.2 ≤ 1048576 ∧ g.1.length ≤ 2097152 ∧ g.2.2 ≤ 1048576) (fun g => [(0, .str g.1), (1, .int .i64 g.2.2), (5, .str g.2.1)]) (fun g => g.2.2) (s, [], n) ⟨rfl, by simpa using hn, by simp only; omega, hn2⟩ ?_ ?_
  · simp -implicitDefEqProofs (maxSteps := 100000) (disch := first | (intros; contradiction) | omega) only [am0, am1, am2, am3, am4, am5, am6, am7, am8, am9, Nat.reduceSub, ↓reduceIte, reduceCtorEq, Nat.reduceEqDiff, Nat.reduceBEq, Nat.reduceAdd, Nat.reduceLT, Nat.reduceBNe, Nat.reduceMul, ↓reduceIte, tis, fls]
  · rintro ⟨x, o, m⟩ ⟨h1, h2, h3, h4⟩
    simp only at h1 h2 h3 h4
    by_cases hm : 0 < m
    · have hx : x.length ≤ 1048576 := by
        have : x.length * 1 ≤ x.length * m := Nat.mul_le_mul_left _ hm
        omega
      have e := half_len x.length o.length m
      have e1 : Int.tmod (m : Int) 2 = ((m % 2 : Nat) : Int) := tmod_nn m 2
      have e2 : Int.tdiv (m : Int) 2 = ((m / 2 : Nat) : Int) := tdiv_nn m 2
      have hs := manyL_s x o hm
      by_cases hp : m % 2 = 1
      · rw [if_pos hp] at hs e
        rw [hp] at e1
        simp -implicitDefEqProofs (maxSteps := 100000) (disch := first | (intros; contradiction) | omega) only [am0, am1, am2, am3, am4, am5, am6, am7, am8, am9, Nat.reduceSub, ↓reduceIte, reduceCtorEq, Nat.reduceEqDiff, Nat.reduceBEq, Nat.reduceAdd, Nat.reduceLT, Nat.reduceBNe, Nat.reduceMul, ↓reduceIte, tis, fls, e1, e2, c2]
        refine round_normal (x ++ x, o ++ x, m / 2) ⟨by simp only; rw [← hs]; exact h1, by simp only [List.length_append]; omega, by simp only [List.length_append]; omega, by simp only; omega⟩ ?_ (by show m / 2 < m; omega)
        simp -implicitDefEqProofs (maxSteps := 100000) (disch := first | (intros; contradiction) | omega) only [am0, am1, am2, am3, am4, am5, am6, am7, am8, am9, Nat.reduceSub, ↓reduceIte, reduceCtorEq, Nat.reduceEqDiff, Nat.reduceBEq, Nat.reduceAdd, Nat.reduceLT, Nat.reduceBNe, Nat.reduceMul, ↓reduceIte, tis, fls]
      · rw [if_neg hp] at hs e
        have hp0 : m % 2 = 0 := by omega
        rw [hp0] at e1
        simp -implicitDefEqProofs (maxSteps := 100000) (disch := first | (intros; contradiction) | omega) only [am0, am1, am2, am3, am4, am5, am6, am7, am8, am9, Nat.reduceSub, ↓reduceIte, reduceCtorEq, Nat.reduceEqDiff, Nat.reduceBEq, Nat.reduceAdd, Nat.reduceLT, Nat.reduceBNe, Nat.reduceMul, ↓reduceIte, tis, fls, e1, e2, c2]
        refine round_normal (x ++ x, o, m / 2) ⟨by simp only; rw [← hs]; exact h1, by simp only [List.length_append]; omega, by simp only [List.length_append]; omega, by simp only; omega⟩ ?_ (by show m / 2 < m; omega)
        simp -implicitDefEqProofs (maxSteps := 100000) (disch := first | (intros; contradiction) | omega) only [am0, am1, am2, am3, am4, am5, am6, am7, am8, am9, Nat.reduceSub, ↓reduceIte, reduceCtorEq, Nat.reduceEqDiff, Nat.reduceBEq, Nat.reduceAdd, Nat.reduceLT, Nat.reduceBNe, Nat.reduceMul, ↓reduceIte, tis, fls]
    · obtain rfl : m = 0 := by omega
      rw [manyL_0] at h1
      simp -implicitDefEqProofs (maxSteps := 100000) (disch := first | (intros; contradiction) | omega) only [am0, am1, am2, am3, am4, am5, am6, am7, am8, am9, Nat.reduceSub, ↓reduceIte, reduceCtorEq, Nat.reduceEqDiff, Nat.reduceBEq, Nat.reduceAdd, Nat.reduceLT, Nat.reduceBNe, Nat.reduceMul, ↓reduceIte, tis, fls, h1]
theorem manyL_len (n : Nat) : ∀ (s out : List UInt8), (manyL s out n).length = out.length + s.length * n := by
  induction n using Nat.strongRecOn with
  | ind n ih =>
    intro s out
    by_cases h : 0 < n
    · rw [manyL_s s out h, ih (n / 2) (by omega)]
      have e := half_len s.length out.length n
      rw [List.length_append, ← e]
      congr 1
      split <;> simp
    · obtain rfl : n = 0 := by omega
      rw [manyL_0]; simp
def w13 : List (List UInt8) := [[97], [98], [97], [98], [99], [120], [48], [97], [98], [97], [98], [255], [0]]
def wordL (b : List UInt8) (p : Nat) : Nat → List UInt8
  | 0 => []
  | j + 1 => wordL b p j ++ ofV b (p + j) w13
theorem w13_len (b : List UInt8) (p : Nat) : (ofV b p w13).length = 1 := by
  have h := ofV_mem b p (l := w13) (by decide)
  generalize ofV b p w13 = x at *
  simp only [w13, List.mem_cons, List.not_mem_nil, or_false] at h
  rcases h with rfl | rfl | rfl | rfl | rfl | rfl | rfl | rfl | rfl | rfl | rfl | rfl | rfl <;> rfl
theorem wordL_len (b : List UInt8) (p : Nat) : ∀ j, (wordL b p j).length = j
  | 0 => rfl
  | j + 1 => by simp [wordL, wordL_len b p j, w13_len]
def wordV (b : List UInt8) (p most : Nat) : List UInt8 := wordL b (p + 1) (pickV b p (most + 1))
def wordQ (b : List UInt8) (p most : Nat) : Nat := p + 1 + pickV b p (most + 1)
theorem wordV_len (b : List UInt8) (p most : Nat) : (wordV b p most).length ≤ most := by
  have := pickV_lt b p (n := most + 1) (by omega)
  unfold wordV; rw [wordL_len]; omega
/-- spec.l3Word -/
theorem fits_l3Word (b : List UInt8) (hb : b.length ≤ 2000) (p : Nat) (hp : p ≤ 900000) (most : Nat) (hm : most ≤ 1000) : Fits prog 77 [.box (eRd b p), .int .i64 most] (.str (wordV b p most)) [.box (eRd b (wordQ b p most))] := by
  have c1 := fits_pick b hb p (by omega) (most + 1) (by omega) (by omega)
  have hk := pickV_lt b p (n := most + 1) (by omega)
  unfold wordV wordQ
  generalize pickV b p (most + 1) = m at *
  have cO := fun j (hj : j < m) => fits_of b hb (p + 1 + j) (by omega) w13 (by decide) (by decide)
  unfold eRd at *
  refine fits_of_code [4] [0] [0, 1, 4, 5, 6, 12] func77 rfl rfl rfl (by rfl) (by show 2 ≤ 21; decide) (by rfl) (by rfl) (by show 1 ≤ 2; decide) (by rfl) (run_of ?_)
  simp -implicitDefEqProofs (maxSteps := 100000) (disch := first | (intros; contradiction) | omega) only [am0, am1, am2, am3, am4, am5, am6, am7, am8, am9, Nat.reduceSub, ↓reduceIte, reduceCtorEq, Nat.reduceEqDiff, Nat.reduceBEq, Nat.reduceAdd, Nat.reduceLT, Nat.reduceBNe, Nat.reduceMul, ↓reduceIte, tis, fls]
  refine callM 0 c1 ?_
  simp -implicitDefEqProofs (maxSteps := 100000) (disch := first | (intros; contradiction) | omega) only [am0, am1, am2, am3, am4, am5, am6, am7, am8, am9, Nat.reduceSub, ↓reduceIte, reduceCtorEq, Nat.reduceEqDiff, Nat.reduceBEq, Nat.reduceAdd, Nat.reduceLT, Nat.reduceBNe, Nat.reduceMul, ↓reduceIte, tis, fls, List.dropLast_singleton]
  refine run_loop (α := Nat) (fun j => j ≤ m) (fun j => [(0, .box (.agg [.sl false 1 (bytesA b), .int .i64 (p + 1 + j : Nat)])), (5, .str (wordL b (p + 1) j)), (6, .int .i64 ((m : Int) - j))]) (fun j => m - j) 0 (Nat.zero_le _) ?_ ?_
  · simp -implicitDefEqProofs (maxSteps := 100000) (disch := first | (intros; contradiction) | omega) only [am0, am1, am2, am3, am4, am5, am6, am7, am8, am9, Nat.reduceSub, ↓reduceIte, reduceCtorEq, Nat.reduceEqDiff, Nat.reduceBEq, Nat.reduceAdd, Nat.reduceLT, Nat.reduceBNe, Nat.reduceMul, ↓reduceIte, tis, fls, wordL]
  · intro j hj'
    have hl := wordL_len b (p + 1) j
    by_cases hj : j < m
    · have cO := cO j hj
      have hl2 := w13_len b (p + 1 + j)
      have hS : wordL b (p + 1) (j + 1) = wordL b (p + 1) j ++ ofV b (p + 1 + j) w13 := rfl
      generalize ofV b (p + 1 + j) w13 = x at *
      generalize wordL b (p + 1) j = y at *
      simp -implicitDefEqProofs (maxSteps := 100000) (disch := first | (intros; contradiction) | omega) only [am0, am1, am2, am3, am4, am5, am6, am7, am8, am9, Nat.reduceSub, ↓reduceIte, reduceCtorEq, Nat.reduceEqDiff, Nat.reduceBEq, Nat.reduceAdd, Nat.reduceLT, Nat.reduceBNe, Nat.reduceMul, ↓reduceIte, tis, fls]
      refine callMF [(17, [])] 0 cO ?_
      simp -implicitDefEqProofs (maxSteps := 100000) (disch := first | (intros; contradiction) | omega) only [am0, am1, am2, am3, am4, am5, am6, am7, am8, am9, Nat.reduceSub, ↓reduceIte, reduceCtorEq, Nat.reduceEqDiff, Nat.reduceBEq, Nat.reduceAdd, Nat.reduceLT, Nat.reduceBNe, Nat.reduceMul, ↓reduceIte, tis, fls, List.dropLast_singleton, w13, eStr]
      refine round_normal (j + 1) (by omega) ?_ (by show m - (j + 1) < m - j; omega)
      simp -implicitDefEqProofs (maxSteps := 100000) (disch := first | (intros; contradiction) | omega) only [am0, am1, am2, am3, am4, am5, am6, am7, am8, am9, Nat.reduceSub, ↓reduceIte, reduceCtorEq, Nat.reduceEqDiff, Nat.reduceBEq, Nat.reduceAdd, Nat.reduceLT, Nat.reduceBNe, Nat.reduceMul, ↓reduceIte, tis, fls, hS]
      try omega
    · obtain rfl : j = m := by omega
      simp -implicitDefEqProofs (maxSteps := 100000) (disch := first | (intros; contradiction) | omega) only [am0, am1, am2, am3, am4, am5, am6, am7, am8, am9, Nat.reduceSub, ↓reduceIte, reduceCtorEq, Nat.reduceEqDiff, Nat.reduceBEq, Nat.reduceAdd, Nat.reduceLT, Nat.reduceBNe, Nat.reduceMul, ↓reduceIte, tis, fls]
theorem take_len (c : List UInt8) : (c.take 2000).length ≤ 2000 := by simp; omega
/-- spec.DrawTurnRex -/
theorem fits_drawTurnRex (c : List UInt8) (hc : c.length ≤ 9223372036854775807) : Fits prog 17 [.sl false 1 (bytesA c)] (eRex true (bentV (c.take 2000) 0).1) [] := by
  have cO := fits_open c hc
  have cB := fits_l2Bent (c.take 2000) (take_len c) 0 (by omega)
  generalize c.take 2000 = b at *
  generalize bentV b 0 = x at *
  rw [eRex_eq] at *
  unfold eRd at *
  refine fits_of_cell 2 26 [] [0, 2] func17 rfl rfl rfl (by show 2 < 6; decide) (by show 1 ≤ 6; decide) (by rfl) (by rfl) (by show 0 ≤ 1; decide) (by rfl) (run_of ?_)
  simp -implicitDefEqProofs (maxSteps := 100000) (disch := first | (intros; contradiction) | omega) only [am0, am1, am2, am3, am4, am5, am6, am7, am8, am9, Nat.reduceSub, ↓reduceIte, reduceCtorEq, Nat.reduceEqDiff, Nat.reduceBEq, Nat.reduceAdd, Nat.reduceLT, Nat.reduceBNe, Nat.reduceMul, ↓reduceIte, tis, fls, rx]
  refine callB cO ?_
  simp -implicitDefEqProofs (maxSteps := 100000) (disch := first | (intros; contradiction) | omega) only [am0, am1, am2, am3, am4, am5, am6, am7, am8, am9, Nat.reduceSub, ↓reduceIte, reduceCtorEq, Nat.reduceEqDiff, Nat.reduceBEq, Nat.reduceAdd, Nat.reduceLT, Nat.reduceBNe, Nat.reduceMul, ↓reduceIte, tis, fls, rx]
  refine callM 0 cB ?_
  simp -implicitDefEqProofs (maxSteps := 100000) (disch := first | (intros; contradiction) | omega) only [am0, am1, am2, am3, am4, am5, am6, am7, am8, am9, Nat.reduceSub, ↓reduceIte, reduceCtorEq, Nat.reduceEqDiff, Nat.reduceBEq, Nat.reduceAdd, Nat.reduceLT, Nat.reduceBNe, Nat.reduceMul, ↓reduceIte, tis, fls, rx, List.dropLast_singleton]
def ab2 : List Int := [100, 101]
def ttV (b : List UInt8) : List UInt8 := if pickV b 0 12 = 0 then manyL [97, 98] [] (numV b 1 ab2).toNat else wordV b 1 9
theorem ab2_k (b : List UInt8) (p : Nat) : ((numV b p ab2).toNat : Int) = numV b p ab2 ∧ (numV b p ab2).toNat ≤ 101 := by
  have h := numV_mem b p (l := ab2) (by decide)
  generalize numV b p ab2 = x at *
  simp only [ab2, List.mem_cons, List.not_mem_nil, or_false] at h
  omega
theorem ttV_len (b : List UInt8) : (ttV b).length ≤ 1000 := by
  unfold ttV
  split
  · rw [manyL_len]
    have := (ab2_k b 1).2
    simp; omega
  · have := wordV_len b 1 9; omega
/-- spec.DrawTurnText -/
theorem fits_drawTurnText (c : List UInt8) (hc : c.length ≤ 9223372036854775807) : Fits prog 19 [.sl false 1 (bytesA c)] (.str (ttV (c.take 2000))) [] := by
  have cO := fits_open c hc
  have hb := take_len c
  generalize c.take 2000 = b at *
  have c1 : Fits prog 75 [.box (eRd b 0), .int .i64 12] (.int .i64 (pickV b 0 12)) [.box (eRd b 1)] := fits_pick b hb 0 (by omega) 12 (by omega) (by omega)
  unfold ttV
  generalize pickV b 0 12 = k at *
  by_cases hk : k = 0
  · subst hk
    rw [if_pos rfl]
    have cN := fits_num b hb 1 (by omega) ab2 (by decide) (by decide)
    obtain ⟨q1, q2⟩ := ab2_k b 1
    rw [← q1] at cN
    generalize (numV b 1 ab2).toNat = n at *
    have cM := fits_l15Many [97, 98] n (by simp only [List.length_cons, List.length_nil]; omega) (by simp) (by omega)
    unfold eRd at *
    refine fits_of_code [2] [] [0, 2, 3, 8] func19 rfl rfl rfl (by rfl) (by show 1 ≤ 15; decide) (by rfl) (by rfl) (by show 0 ≤ 1; decide) (by rfl) (run_of ?_)
    simp -implicitDefEqProofs (maxSteps := 100000) (disch := first | (intros; contradiction) | omega) only [am0, am1, am2, am3, am4, am5, am6, am7, am8, am9, Nat.reduceSub, ↓reduceIte, reduceCtorEq, Nat.reduceEqDiff, Nat.reduceBEq, Nat.reduceAdd, Nat.reduceLT, Nat.reduceBNe, Nat.reduceMul, ↓reduceIte, tis, fls, rx]
    refine callB cO ?_
    simp -implicitDefEqProofs (maxSteps := 100000) (disch := first | (intros; contradiction) | omega) only [am0, am1, am2, am3, am4, am5, am6, am7, am8, am9, Nat.reduceSub, ↓reduceIte, reduceCtorEq, Nat.reduceEqDiff, Nat.reduceBEq, Nat.reduceAdd, Nat.reduceLT, Nat.reduceBNe, Nat.reduceMul, ↓reduceIte, tis, fls, rx]
    refine callM 0 c1 ?_
    simp -implicitDefEqProofs (maxSteps := 100000) (disch := first | (intros; contradiction) | omega) only [am0, am1, am2, am3, am4, am5, am6, am7, am8, am9, Nat.reduceSub, ↓reduceIte, reduceCtorEq, Nat.reduceEqDiff, Nat.reduceBEq, Nat.reduceAdd, Nat.reduceLT, Nat.reduceBNe, Nat.reduceMul, ↓reduceIte, tis, fls, rx, List.dropLast_singleton]
    refine callMF [(10, [])] 0 cN ?_
    simp -implicitDefEqProofs (maxSteps := 100000) (disch := first | (intros; contradiction) | omega) only [am0, am1, am2, am3, am4, am5, am6, am7, am8, am9, Nat.reduceSub, ↓reduceIte, reduceCtorEq, Nat.reduceEqDiff, Nat.reduceBEq, Nat.reduceAdd, Nat.reduceLT, Nat.reduceBNe, Nat.reduceMul, ↓reduceIte, tis, fls, rx, List.dropLast_singleton, ab2, eInt]
    refine callB cM ?_
    simp -implicitDefEqProofs (maxSteps := 100000) (disch := first | (intros; contradiction) | omega) only [am0, am1, am2, am3, am4, am5, am6, am7, am8, am9, Nat.reduceSub, ↓reduceIte, reduceCtorEq, Nat.reduceEqDiff, Nat.reduceBEq, Nat.reduceAdd, Nat.reduceLT, Nat.reduceBNe, Nat.reduceMul, ↓reduceIte, tis, fls, rx]
  · rw [if_neg hk]
    have hk0 : ¬ ((k : Int) = 0) := by omega
    have cW : Fits prog 77 [.box (eRd b 1), .int .i64 9] (.str (wordV b 1 9)) [.box (eRd b (wordQ b 1 9))] := fits_l3Word b hb 1 (by omega) 9 (by omega)
    unfold eRd at *
    refine fits_of_code [2] [] [0, 2, 3, 8] func19 rfl rfl rfl (by rfl) (by show 1 ≤ 15; decide) (by rfl) (by rfl) (by show 0 ≤ 1; decide) (by rfl) (run_of ?_)
    simp -implicitDefEqProofs (maxSteps := 100000) (disch := first | (intros; contradiction) | omega) only [am0, am1, am2, am3, am4, am5, am6, am7, am8, am9, Nat.reduceSub, ↓reduceIte, reduceCtorEq, Nat.reduceEqDiff, Nat.reduceBEq, Nat.reduceAdd, Nat.reduceLT, Nat.reduceBNe, Nat.reduceMul, ↓reduceIte, tis, fls, rx]
    refine callB cO ?_
    simp -implicitDefEqProofs (maxSteps := 100000) (disch := first | (intros; contradiction) | omega) only [am0, am1, am2, am3, am4, am5, am6, am7, am8, am9, Nat.reduceSub, ↓reduceIte, reduceCtorEq, Nat.reduceEqDiff, Nat.reduceBEq, Nat.reduceAdd, Nat.reduceLT, Nat.reduceBNe, Nat.reduceMul, ↓reduceIte, tis, fls, rx]
    refine callM 0 c1 ?_
    simp -implicitDefEqProofs (maxSteps := 100000) (disch := first | (intros; contradiction) | omega) only [am0, am1, am2, am3, am4, am5, am6, am7, am8, am9, Nat.reduceSub, ↓reduceIte, reduceCtorEq, Nat.reduceEqDiff, Nat.reduceBEq, Nat.reduceAdd, Nat.reduceLT, Nat.reduceBNe, Nat.reduceMul, ↓reduceIte, tis, fls, rx, List.dropLast_singleton, hk0]
    refine callM 0 cW ?_
    simp -implicitDefEqProofs (maxSteps := 100000) (disch := first | (intros; contradiction) | omega) only [am0, am1, am2, am3, am4, am5, am6, am7, am8, am9, Nat.reduceSub, ↓reduceIte, reduceCtorEq, Nat.reduceEqDiff, Nat.reduceBEq, Nat.reduceAdd, Nat.reduceLT, Nat.reduceBNe, Nat.reduceMul, ↓reduceIte, tis, fls, rx, List.dropLast_singleton]
def m1213 : List Int := [12, 13]
def dmT (b : List UInt8) : List UInt8 := if pickV b (bentV b 0).2 30 = 0 then manyL [97] [] (numV b ((bentV b 0).2 + 1) m1213).toNat else wordV b ((bentV b 0).2 + 1) 6
theorem m1213_k (b : List UInt8) (p : Nat) : ((numV b p m1213).toNat : Int) = numV b p m1213 ∧ (numV b p m1213).toNat ≤ 13 := by
  have h := numV_mem b p (l := m1213) (by decide)
  generalize numV b p m1213 = x at *
  simp only [m1213, List.mem_cons, List.not_mem_nil, or_false] at h
  omega
theorem dmT_len (b : List UInt8) : (dmT b).length ≤ 1000 := by
  unfold dmT
  split
  · rw [manyL_len]
    have := (m1213_k b ((bentV b 0).2 + 1)).2
    simp; omega
  · have := wordV_len b ((bentV b 0).2 + 1) 6; omega
/-- spec.DrawMatchIs -/
theorem fits_drawMatchIs (c : List UInt8) (hc : c.length ≤ 9223372036854775807) : Fits prog 15 [.sl false 1 (bytesA c)] (.tup [eRex true (bentV (c.take 2000) 0).1, .str (dmT (c.take 2000))]) [] := by
  have cO := fits_open c hc
  have hb := take_len c
  generalize c.take 2000 = b at *
  have cB := fits_l2Bent b hb 0 (by omega)
  have hl := bentV_le b 0
  unfold dmT
  generalize bentV b 0 = x at *
  have c1 : Fits prog 75 [.box (eRd b x.2), .int .i64 30] (.int .i64 (pickV b x.2 30)) [.box (eRd b (x.2 + 1))] := fits_pick b hb x.2 (by omega) 30 (by omega) (by omega)
  generalize pickV b x.2 30 = k at *
  rw [eRex_eq] at *
  by_cases hk : k = 0
  · subst hk
    rw [if_pos rfl]
    have cN := fits_num b hb (x.2 + 1) (by omega) m1213 (by decide) (by decide)
    obtain ⟨q1, q2⟩ := m1213_k b (x.2 + 1)
    rw [← q1] at cN
    generalize (numV b (x.2 + 1) m1213).toNat = n at *
    have cM := fits_l15Many [97] n (by simp only [List.length_cons, List.length_nil]; omega) (by simp) (by omega)
    unfold eRd at *
    refine fits_of_two 2 26 3 [] [0, 2, 3, 4, 5, 12] func15 rfl rfl rfl (by show 2 < 21; decide) (by show 3 < 21; decide) (by show 1 ≤ 21; decide) (by rfl) (by rfl) (by show 0 ≤ 1; decide) (by rfl) (run_of ?_)
    simp -implicitDefEqProofs (maxSteps := 100000) (disch := first | (intros; contradiction) | omega) only [am0, am1, am2, am3, am4, am5, am6, am7, am8, am9, Nat.reduceSub, ↓reduceIte, reduceCtorEq, Nat.reduceEqDiff, Nat.reduceBEq, Nat.reduceAdd, Nat.reduceLT, Nat.reduceBNe, Nat.reduceMul, ↓reduceIte, tis, fls, rx]
    refine callB cO ?_
    simp -implicitDefEqProofs (maxSteps := 100000) (disch := first | (intros; contradiction) | omega) only [am0, am1, am2, am3, am4, am5, am6, am7, am8, am9, Nat.reduceSub, ↓reduceIte, reduceCtorEq, Nat.reduceEqDiff, Nat.reduceBEq, Nat.reduceAdd, Nat.reduceLT, Nat.reduceBNe, Nat.reduceMul, ↓reduceIte, tis, fls, rx]
    refine callM 0 cB ?_
    simp -implicitDefEqProofs (maxSteps := 100000) (disch := first | (intros; contradiction) | omega) only [am0, am1, am2, am3, am4, am5, am6, am7, am8, am9, Nat.reduceSub, ↓reduceIte, reduceCtorEq, Nat.reduceEqDiff, Nat.reduceBEq, Nat.reduceAdd, Nat.reduceLT, Nat.reduceBNe, Nat.reduceMul, ↓reduceIte, tis, fls, rx, List.dropLast_singleton]
    refine callM 0 c1 ?_
    simp -implicitDefEqProofs (maxSteps := 100000) (disch := first | (intros; contradiction) | omega) only [am0, am1, am2, am3, am4, am5, am6, am7, am8, am9, Nat.reduceSub, ↓reduceIte, reduceCtorEq, Nat.reduceEqDiff, Nat.reduceBEq, Nat.reduceAdd, Nat.reduceLT, Nat.reduceBNe, Nat.reduceMul, ↓reduceIte, tis, fls, rx, List.dropLast_singleton]
    refine .inr (run_mix 16 [] [4, 15] (by kernel_rfl) ?_)
    simp -implicitDefEqProofs (maxSteps := 100000) (disch := first | (intros; contradiction) | omega) only [am0, am1, am2, am3, am4, am5, am6, am7, am8, am9, Nat.reduceSub, ↓reduceIte, reduceCtorEq, Nat.reduceEqDiff, Nat.reduceBEq, Nat.reduceAdd, Nat.reduceLT, Nat.reduceBNe, Nat.reduceMul, ↓reduceIte, tis, fls, rx]
    refine callGF 0 cN ?_
    simp -implicitDefEqProofs (maxSteps := 100000) (disch := first | (intros; contradiction) | omega) only [am0, am1, am2, am3, am4, am5, am6, am7, am8, am9, Nat.reduceSub, ↓reduceIte, reduceCtorEq, Nat.reduceEqDiff, Nat.reduceBEq, Nat.reduceAdd, Nat.reduceLT, Nat.reduceBNe, Nat.reduceMul, ↓reduceIte, tis, fls, rx, List.dropLast_singleton, m1213, eInt]
    refine callL cM ?_
    simp -implicitDefEqProofs (maxSteps := 100000) (disch := first | (intros; contradiction) | omega) only [am0, am1, am2, am3, am4, am5, am6, am7, am8, am9, Nat.reduceSub, ↓reduceIte, reduceCtorEq, Nat.reduceEqDiff, Nat.reduceBEq, Nat.reduceAdd, Nat.reduceLT, Nat.reduceBNe, Nat.reduceMul, ↓reduceIte, tis, fls, rx, retCTwo, scalA]
  · rw [if_neg hk]
    have hk0 : ¬ ((k : Int) = 0) := by omega
    have cW : Fits prog 77 [.box (eRd b (x.2 + 1)), .int .i64 6] (.str (wordV b (x.2 + 1) 6)) [.box (eRd b (wordQ b (x.2 + 1) 6))] := fits_l3Word b hb (x.2 + 1) (by omega) 6 (by omega)
    unfold eRd at *
    refine fits_of_two 2 26 3 [] [0, 2, 3, 4, 5, 12] func15 rfl rfl rfl (by show 2 < 21; decide) (by show 3 < 21; decide) (by show 1 ≤ 21; decide) (by rfl) (by rfl) (by show 0 ≤ 1; decide) (by rfl) (run_of ?_)
    simp -implicitDefEqProofs (maxSteps := 100000) (disch := first | (intros; contradiction) | omega) only [am0, am1, am2, am3, am4, am5, am6, am7, am8, am9, Nat.reduceSub, ↓reduceIte, reduceCtorEq, Nat.reduceEqDiff, Nat.reduceBEq, Nat.reduceAdd, Nat.reduceLT, Nat.reduceBNe, Nat.reduceMul, ↓reduceIte, tis, fls, rx]
    refine callB cO ?_
    simp -implicitDefEqProofs (maxSteps := 100000) (disch := first | (intros; contradiction) | omega) only [am0, am1, am2, am3, am4, am5, am6, am7, am8, am9, Nat.reduceSub, ↓reduceIte, reduceCtorEq, Nat.reduceEqDiff, Nat.reduceBEq, Nat.reduceAdd, Nat.reduceLT, Nat.reduceBNe, Nat.reduceMul, ↓reduceIte, tis, fls, rx]
    refine callM 0 cB ?_
    simp -implicitDefEqProofs (maxSteps := 100000) (disch := first | (intros; contradiction) | omega) only [am0, am1, am2, am3, am4, am5, am6, am7, am8, am9, Nat.reduceSub, ↓reduceIte, reduceCtorEq, Nat.reduceEqDiff, Nat.reduceBEq, Nat.reduceAdd, Nat.reduceLT, Nat.reduceBNe, Nat.reduceMul, ↓reduceIte, tis, fls, rx, List.dropLast_singleton]
    refine callM 0 c1 ?_
    simp -implicitDefEqProofs (maxSteps := 100000) (disch := first | (intros; contradiction) | omega) only [am0, am1, am2, am3, am4, am5, am6, am7, am8, am9, Nat.reduceSub, ↓reduceIte, reduceCtorEq, Nat.reduceEqDiff, Nat.reduceBEq, Nat.reduceAdd, Nat.reduceLT, Nat.reduceBNe, Nat.reduceMul, ↓reduceIte, tis, fls, rx, List.dropLast_singleton, hk0]
    refine .inr (run_mix 20 [] [4] (by kernel_rfl) ?_)
    simp -implicitDefEqProofs (maxSteps := 100000) (disch := first | (intros; contradiction) | omega) only [am0, am1, am2, am3, am4, am5, am6, am7, am8, am9, Nat.reduceSub, ↓reduceIte, reduceCtorEq, Nat.reduceEqDiff, Nat.reduceBEq, Nat.reduceAdd, Nat.reduceLT, Nat.reduceBNe, Nat.reduceMul, ↓reduceIte, tis, fls, rx]
    refine callG 0 cW ?_
    simp -implicitDefEqProofs (maxSteps := 100000) (disch := first | (intros; contradiction) | omega) only [am0, am1, am2, am3, am4, am5, am6, am7, am8, am9, Nat.reduceSub, ↓reduceIte, reduceCtorEq, Nat.reduceEqDiff, Nat.reduceBEq, Nat.reduceAdd, Nat.reduceLT, Nat.reduceBNe, Nat.reduceMul, ↓reduceIte, tis, fls, rx, List.dropLast_singleton, retCTwo, scalA]
def l5 : List (List UInt8) := [[97, 98], [97, 98, 99], [97], [], [97, 98, 99, 100]]
def m7 : List Int := [0, 1, 2, 3, 4, -1, 7]
def s6 : List Int := [97, 98, 0, 255, 97, -1]
def t6 : List Int := [98, 99, 97, 255, 120, 256]
def daL (b : List UInt8) : List UInt8 := ofV b (bentV b 0).2 l5
def daM (b : List UInt8) : Int := numV b ((bentV b 0).2 + 1) m7
def dsA (b : List UInt8) : Int := numV b (bentV b 0).2 s6
def dsB (b : List UInt8) : Int := numV b ((bentV b 0).2 + 1) t6
/-- spec.DrawAskAll -/
theorem fits_drawAskAll (c : List UInt8) (hc : c.length ≤ 9223372036854775807) : Fits prog 12 [.sl false 1 (bytesA c)] (.tup [eRex true (bentV (c.take 2000) 0).1, .str (daL (c.take 2000)), .int .i64 (daM (c.take 2000))]) [] := by
  have cO := fits_open c hc
  have hb := take_len c
  generalize c.take 2000 = b at *
  have cB := fits_l2Bent b hb 0 (by omega)
  have hl := bentV_le b 0
  unfold daL daM
  generalize bentV b 0 = x at *
  have cF := fits_of b hb x.2 (by omega) l5 (by decide) (by decide)
  have cN := fits_num b hb (x.2 + 1) (by omega) m7 (by decide) (by decide)
  generalize ofV b x.2 l5 = u at *
  generalize numV b (x.2 + 1) m7 = v at *
  rw [eRex_eq] at *
  unfold eRd at *
  refine fits_of_three 2 26 3 4 [] [0, 2, 3, 4, 5, 6, 7] func12 rfl rfl rfl (by show 2 < 20; decide) (by show 3 < 20; decide) (by show 4 < 20; decide) (by show 1 ≤ 20; decide) (by rfl) (by rfl) (by show 0 ≤ 1; decide) (by rfl) (run_of ?_)
  simp -implicitDefEqProofs (maxSteps := 100000) (disch := first | (intros; contradiction) | omega) only [am0, am1, am2, am3, am4, am5, am6, am7, am8, am9, Nat.reduceSub, ↓reduceIte, reduceCtorEq, Nat.reduceEqDiff, Nat.reduceBEq, Nat.reduceAdd, Nat.reduceLT, Nat.reduceBNe, Nat.reduceMul, ↓reduceIte, tis, fls, rx]
  refine callB cO ?_
  simp -implicitDefEqProofs (maxSteps := 100000) (disch := first | (intros; contradiction) | omega) only [am0, am1, am2, am3, am4, am5, am6, am7, am8, am9, Nat.reduceSub, ↓reduceIte, reduceCtorEq, Nat.reduceEqDiff, Nat.reduceBEq, Nat.reduceAdd, Nat.reduceLT, Nat.reduceBNe, Nat.reduceMul, ↓reduceIte, tis, fls, rx]
  refine callM 0 cB ?_
  simp -implicitDefEqProofs (maxSteps := 100000) (disch := first | (intros; contradiction) | omega) only [am0, am1, am2, am3, am4, am5, am6, am7, am8, am9, Nat.reduceSub, ↓reduceIte, reduceCtorEq, Nat.reduceEqDiff, Nat.reduceBEq, Nat.reduceAdd, Nat.reduceLT, Nat.reduceBNe, Nat.reduceMul, ↓reduceIte, tis, fls, rx, List.dropLast_singleton]
  refine callMF [(13, [])] 0 cF ?_
  simp -implicitDefEqProofs (maxSteps := 100000) (disch := first | (intros; contradiction) | omega) only [am0, am1, am2, am3, am4, am5, am6, am7, am8, am9, Nat.reduceSub, ↓reduceIte, reduceCtorEq, Nat.reduceEqDiff, Nat.reduceBEq, Nat.reduceAdd, Nat.reduceLT, Nat.reduceBNe, Nat.reduceMul, ↓reduceIte, tis, fls, rx, List.dropLast_singleton, l5, eStr]
  refine .inr (run_mixl 19 [] [5, 18] 5 [[1], [], []] (by kernel_rfl) ?_)
  simp -implicitDefEqProofs (maxSteps := 100000) (disch := first | (intros; contradiction) | omega) only [am0, am1, am2, am3, am4, am5, am6, am7, am8, am9, Nat.reduceSub, ↓reduceIte, reduceCtorEq, Nat.reduceEqDiff, Nat.reduceBEq, Nat.reduceAdd, Nat.reduceLT, Nat.reduceBNe, Nat.reduceMul, ↓reduceIte, tis, fls, rx]
  refine callGF 0 cN ?_
  simp -implicitDefEqProofs (maxSteps := 100000) (disch := first | (intros; contradiction) | omega) only [am0, am1, am2, am3, am4, am5, am6, am7, am8, am9, Nat.reduceSub, ↓reduceIte, reduceCtorEq, Nat.reduceEqDiff, Nat.reduceBEq, Nat.reduceAdd, Nat.reduceLT, Nat.reduceBNe, Nat.reduceMul, ↓reduceIte, tis, fls, rx, List.dropLast_singleton, m7, eInt, retCThree, scalA]
/-- spec.DrawTurnSwap -/
theorem fits_drawTurnSwap (c : List UInt8) (hc : c.length ≤ 9223372036854775807) : Fits prog 34 [.sl false 1 (bytesA c)] (.tup [eRex true (bentV (c.take 2000) 0).1, .int .i64 (dsA (c.take 2000)), .int .i64 (dsB (c.take 2000))]) [] := by
  have cO := fits_open c hc
  have hb := take_len c
  generalize c.take 2000 = b at *
  have cB := fits_l2Bent b hb 0 (by omega)
  have hl := bentV_le b 0
  unfold dsA dsB
  generalize bentV b 0 = x at *
  have cF := fits_num b hb x.2 (by omega) s6 (by decide) (by decide)
  have cN := fits_num b hb (x.2 + 1) (by omega) t6 (by decide) (by decide)
  generalize numV b x.2 s6 = u at *
  generalize numV b (x.2 + 1) t6 = v at *
  rw [eRex_eq] at *
  unfold eRd at *
  refine fits_of_three 2 26 3 4 [] [0, 2, 3, 4, 5, 6, 7] func34 rfl rfl rfl (by show 2 < 20; decide) (by show 3 < 20; decide) (by show 4 < 20; decide) (by show 1 ≤ 20; decide) (by rfl) (by rfl) (by show 0 ≤ 1; decide) (by rfl) (run_of ?_)
  simp -implicitDefEqProofs (maxSteps := 100000) (disch := first | (intros; contradiction) | omega) only [am0, am1, am2, am3, am4, am5, am6, am7, am8, am9, Nat.reduceSub, ↓reduceIte, reduceCtorEq, Nat.reduceEqDiff, Nat.reduceBEq, Nat.reduceAdd, Nat.reduceLT, Nat.reduceBNe, Nat.reduceMul, ↓reduceIte, tis, fls, rx]
  refine callB cO ?_
  simp -implicitDefEqProofs (maxSteps := 100000) (disch := first | (intros; contradiction) | omega) only [am0, am1, am2, am3, am4, am5, am6, am7, am8, am9, Nat.reduceSub, ↓reduceIte, reduceCtorEq, Nat.reduceEqDiff, Nat.reduceBEq, Nat.reduceAdd, Nat.reduceLT, Nat.reduceBNe, Nat.reduceMul, ↓reduceIte, tis, fls, rx]
  refine callM 0 cB ?_
  simp -implicitDefEqProofs (maxSteps := 100000) (disch := first | (intros; contradiction) | omega) only [am0, am1, am2, am3, am4, am5, am6, am7, am8, am9, Nat.reduceSub, ↓reduceIte, reduceCtorEq, Nat.reduceEqDiff, Nat.reduceBEq, Nat.reduceAdd, Nat.reduceLT, Nat.reduceBNe, Nat.reduceMul, ↓reduceIte, tis, fls, rx, List.dropLast_singleton]
  refine callMF [(13, [])] 0 cF ?_
  simp -implicitDefEqProofs (maxSteps := 100000) (disch := first | (intros; contradiction) | omega) only [am0, am1, am2, am3, am4, am5, am6, am7, am8, am9, Nat.reduceSub, ↓reduceIte, reduceCtorEq, Nat.reduceEqDiff, Nat.reduceBEq, Nat.reduceAdd, Nat.reduceLT, Nat.reduceBNe, Nat.reduceMul, ↓reduceIte, tis, fls, rx, List.dropLast_singleton, s6, eInt]
  refine .inr (run_mixl 19 [] [5, 18] 5 [[1], [], []] (by kernel_rfl) ?_)
  simp -implicitDefEqProofs (maxSteps := 100000) (disch := first | (intros; contradiction) | omega) only [am0, am1, am2, am3, am4, am5, am6, am7, am8, am9, Nat.reduceSub, ↓reduceIte, reduceCtorEq, Nat.reduceEqDiff, Nat.reduceBEq, Nat.reduceAdd, Nat.reduceLT, Nat.reduceBNe, Nat.reduceMul, ↓reduceIte, tis, fls, rx]
  refine callGF 0 cN ?_
  simp -implicitDefEqProofs (maxSteps := 100000) (disch := first | (intros; contradiction) | omega) only [am0, am1, am2, am3, am4, am5, am6, am7, am8, am9, Nat.reduceSub, ↓reduceIte, reduceCtorEq, Nat.reduceEqDiff, Nat.reduceBEq, Nat.reduceAdd, Nat.reduceLT, Nat.reduceBNe, Nat.reduceMul, ↓reduceIte, tis, fls, rx, List.dropLast_singleton, t6, eInt, retCThree, scalA]
/-- laws.eqRexS, of equals -/
theorem fits_eqRexS_of (p : List Rex) (hp : p.length ≤ 1048576) (H : ∀ x ∈ p, Fits prog 30 [eRex false x, eRex false x] (.bool true) []) : Fits prog 94 [.sl false 3 (p.map (eRex false)), .sl false 3 (p.map (eRex false))] (.bool true) [] := by
  refine fits_of_code [4] [] [0, 1, 4, 5, 10, 14, 26] func94 rfl rfl rfl (by rfl) (by show 2 ≤ 27; decide) (by rfl) (by rfl) (by show 0 ≤ 2; decide) (by rfl) (run_of ?_)
  simp -implicitDefEqProofs (maxSteps := 100000) (disch := first | (intros; contradiction) | omega) only [am0, am1, am2, am3, am4, am5, am6, am7, am8, am9, Nat.reduceSub, ↓reduceIte, reduceCtorEq, Nat.reduceEqDiff, Nat.reduceBEq, Nat.reduceAdd, Nat.reduceLT, Nat.reduceBNe, Nat.reduceMul, ↓reduceIte, tis]
  refine run_loop (α := Nat) (fun i => i ≤ p.length) (fun i => [(0, .sl false 3 (p.map (eRex false))), (1, .sl false 3 (p.map (eRex false))), (5, .int .i64 i)]) (fun i => p.length - i) 0 (Nat.zero_le _) ?_ ?_
  · simp -implicitDefEqProofs (maxSteps := 100000) (disch := first | (intros; contradiction) | omega) only [am0, am1, am2, am3, am4, am5, am6, am7, am8, am9, Nat.reduceSub, ↓reduceIte, reduceCtorEq, Nat.reduceEqDiff, Nat.reduceBEq, Nat.reduceAdd, Nat.reduceLT, Nat.reduceBNe, Nat.reduceMul, ↓reduceIte, tis]
  · intro i hi'
    by_cases hi : i < p.length
    · simp -implicitDefEqProofs (maxSteps := 100000) (disch := first | (intros; contradiction) | omega) only [am0, am1, am2, am3, am4, am5, am6, am7, am8, am9, Nat.reduceSub, ↓reduceIte, reduceCtorEq, Nat.reduceEqDiff, Nat.reduceBEq, Nat.reduceAdd, Nat.reduceLT, Nat.reduceBNe, Nat.reduceMul, ↓reduceIte, tis, rx, eRex_eq]
      refine .inl ⟨by kernel_rfl, ?_⟩
      refine callL (H p[i] (List.getElem_mem hi)) ?_
      simp -implicitDefEqProofs (maxSteps := 100000) (disch := first | (intros; contradiction) | omega) only [am0, am1, am2, am3, am4, am5, am6, am7, am8, am9, Nat.reduceSub, ↓reduceIte, reduceCtorEq, Nat.reduceEqDiff, Nat.reduceBEq, Nat.reduceAdd, Nat.reduceLT, Nat.reduceBNe, Nat.reduceMul, ↓reduceIte, tis, rx, eRex_eq]
      refine round_normal (i + 1) (by omega) ?_ (by show p.length - (i + 1) < p.length - i; omega)
      simp -implicitDefEqProofs (maxSteps := 100000) (disch := first | (intros; contradiction) | omega) only [am0, am1, am2, am3, am4, am5, am6, am7, am8, am9, Nat.reduceSub, ↓reduceIte, reduceCtorEq, Nat.reduceEqDiff, Nat.reduceBEq, Nat.reduceAdd, Nat.reduceLT, Nat.reduceBNe, Nat.reduceMul, ↓reduceIte, tis]
    · obtain rfl : i = p.length := by omega
      simp -implicitDefEqProofs (maxSteps := 100000) (disch := first | (intros; contradiction) | omega) only [am0, am1, am2, am3, am4, am5, am6, am7, am8, am9, Nat.reduceSub, ↓reduceIte, reduceCtorEq, Nat.reduceEqDiff, Nat.reduceBEq, Nat.reduceAdd, Nat.reduceLT, Nat.reduceBNe, Nat.reduceMul, ↓reduceIte, tis]
/-- laws.eqRex, of equals -/
theorem fits_eqRex (r : Rex) (hb : bd r ≤ 1048576) : Fits prog 30 [eRex false r, eRex false r] (.bool true) [] := by
  induction r using Rex.ind' with
  | h r ih =>
    have hb' := bd_eq r
    have HS := fits_eqRexS_of r.kids (by omega) (fun x hx => ih x hx (Nat.le_trans (bd_kid hx) hb))
    have HT := fits_eqSpanS r.set r.set (by omega) (by omega)
    rw [eRex_eq]
    refine fits_of_code [4] [] [0, 1, 2, 3, 4, 9, 15, 21] func30 rfl rfl rfl (by rfl) (by show 2 ≤ 22; decide) (by rfl) (by rfl) (by show 0 ≤ 2; decide) (by rfl) (run_of ?_)
    simp -implicitDefEqProofs (maxSteps := 100000) (disch := first | (intros; contradiction) | omega) only [am0, am1, am2, am3, am4, am5, am6, am7, am8, am9, Nat.reduceSub, ↓reduceIte, reduceCtorEq, Nat.reduceEqDiff, Nat.reduceBEq, Nat.reduceAdd, Nat.reduceLT, Nat.reduceBNe, Nat.reduceMul, ↓reduceIte, tis]
    refine callB HT ?_
    simp -implicitDefEqProofs (maxSteps := 100000) (disch := first | (intros; contradiction) | omega) only [am0, am1, am2, am3, am4, am5, am6, am7, am8, am9, Nat.reduceSub, ↓reduceIte, reduceCtorEq, Nat.reduceEqDiff, Nat.reduceBEq, Nat.reduceAdd, Nat.reduceLT, Nat.reduceBNe, Nat.reduceMul, ↓reduceIte, tis, fls, rx]
    refine callB HS ?_
    simp -implicitDefEqProofs (maxSteps := 100000) (disch := first | (intros; contradiction) | omega) only [am0, am1, am2, am3, am4, am5, am6, am7, am8, am9, Nat.reduceSub, ↓reduceIte, reduceCtorEq, Nat.reduceEqDiff, Nat.reduceBEq, Nat.reduceAdd, Nat.reduceLT, Nat.reduceBNe, Nat.reduceMul, ↓reduceIte, tis, fls, rx]
/-- How many marks there are. -/
def ct : Rex → Nat
  | .mk _ s ks => 1 + (2 * s.length + (ks.map ct).sum)
theorem ct_eq (r : Rex) : ct r = 1 + (2 * r.set.length + (r.kids.map ct).sum) := by cases r; rw [ct]; rfl
mutual
def mkR : Rex → Int → Rex
  | .mk _ s ks, k => .mk k (mkSpans s.length (k + 1)) (mkL ks (k + 1 + 2 * s.length))
def mkL : List Rex → Int → List Rex
  | [], _ => []
  | x :: xs, k => mkR x k :: mkL xs (k + ct x)
end
theorem mkR_eq (r : Rex) (k : Int) : mkR r k = .mk k (mkSpans r.set.length (k + 1)) (mkL r.kids (k + 1 + 2 * r.set.length)) := by cases r; rw [mkR]; rfl
theorem mkL_len : ∀ (l : List Rex) (k : Int), (mkL l k).length = l.length
  | [], k => by simp [mkL]
  | x :: l, k => by simp [mkL, mkL_len l]
theorem mkL_app : ∀ (l : List Rex) (x : Rex) (k : Int), mkL (l ++ [x]) k = mkL l k ++ [mkR x (k + ((l.map ct).sum : Nat))]
  | [], x, k => by simp [mkL]
  | y :: l, x, k => by
    simp only [List.cons_append, mkL, mkL_app l x, List.map_cons, List.sum_cons]
    congr 3
    congr 1
    omega
theorem ct_le (r : Rex) : ct r ≤ 1 + 2 * bd r := by
  induction r using Rex.ind' with
  | h r ih =>
    rw [ct_eq, bd_eq]
    have : (r.kids.map ct).sum ≤ r.kids.length + 2 * (r.kids.map bd).sum := by
      generalize r.kids = l at ih
      induction l with
      | nil => simp
      | cons x l ihl =>
        have h1 := ih x (List.mem_cons_self ..)
        have h2 := ihl (fun y hy => ih y (List.mem_cons_of_mem _ hy))
        simp only [List.map_cons, List.sum_cons, List.length_cons]
        omega
    omega
theorem ctL_le (l : List Rex) : (l.map ct).sum ≤ l.length + 2 * (l.map bd).sum := by
  induction l with
  | nil => simp
  | cons x l ih =>
    have := ct_le x
    simp only [List.map_cons, List.sum_cons, List.length_cons]
    omega
/-- laws.markRexS -/
theorem fits_markRexS_of (p : List Rex) (k : Int) (hp : p.length ≤ 1048576) (hb : (p.map bd).sum ≤ 1048576) (h0 : 0 ≤ k) (hk : k + (p.map ct).sum ≤ 1152921504606846976)
    (hs : ∀ x ∈ p, x.set.length ≤ 1048576)
    (H : ∀ x ∈ p, ∀ m : Int, 0 ≤ m → m + (x.kids.map ct).sum ≤ 1152921504606846976 → Fits prog 96 [.sl true 3 (x.kids.map (eRex true)), .int .i64 m] (.int .i64 (m + (x.kids.map ct).sum)) [.sl true 3 ((mkL x.kids m).map (eRex true))]) :
    Fits prog 96 [.sl true 3 (p.map (eRex true)), .int .i64 k] (.int .i64 (k + (p.map ct).sum)) [.sl true 3 ((mkL p k).map (eRex true))] := by
  refine fits_of_code [4] [0] [0, 1, 4, 5, 9] func96 rfl rfl rfl (by rfl) (by show 2 ≤ 34; decide) (by rfl) (by rfl) (by show 1 ≤ 2; decide) (by rfl) (run_of ?_)
  simp -implicitDefEqProofs (maxSteps := 100000) (disch := first | (intros; contradiction) | omega) only [am0, am1, am2, am3, am4, am5, am6, am7, am8, am9, Nat.reduceSub, ↓reduceIte, reduceCtorEq, Nat.reduceEqDiff, Nat.reduceBEq, Nat.reduceAdd, Nat.reduceLT, Nat.reduceBNe, Nat.reduceMul, ↓reduceIte, tis]
  refine run_loop (α := Nat) (fun i => i ≤ p.length) (fun i => [(0, .sl true 3 ((mkL (p.take i) k).map (eRex true) ++ (p.drop i).map (eRex true))), (1, .int .i64 (k + ((p.take i).map ct).sum)), (5, .int .i64 i)]) (fun i => p.length - i) 0 (Nat.zero_le _) ?_ ?_
  · simp -implicitDefEqProofs (maxSteps := 100000) (disch := first | (intros; contradiction) | omega) only [am0, am1, am2, am3, am4, am5, am6, am7, am8, am9, Nat.reduceSub, ↓reduceIte, reduceCtorEq, Nat.reduceEqDiff, Nat.reduceBEq, Nat.reduceAdd, Nat.reduceLT, Nat.reduceBNe, Nat.reduceMul, ↓reduceIte, tis, mkL, List.sum_nil]
  · intro i hi'
    have hA : ((mkL (p.take i) k).map (eRex true)).length = i := by simp [mkL_len]; omega
    have hL : ((mkL (p.take i) k).map (eRex true) ++ (p.drop i).map (eRex true)).length = p.length := by simp [mkL_len]; omega
    by_cases hi : i < p.length
    · have g1 := turn_get _ (eRex true) p i hA hi
      have g2 := fun y => turn_set _ (eRex true) p i y hA hi
      generalize hAA : (mkL (p.take i) k).map (eRex true) = A at *
      have g3 : ∀ y, (A ++ [y] ++ (p.drop (i + 1)).map (eRex true))[i]? = some y := fun y => by
        rw [List.append_assoc, List.getElem?_append_right (by omega), hA, Nat.sub_self]; rfl
      have g4 : ∀ y z, (A ++ [y] ++ (p.drop (i + 1)).map (eRex true)).set i z = A ++ [z] ++ (p.drop (i + 1)).map (eRex true) := fun y z => by
        rw [List.append_assoc, List.set_append_right _ _ (by omega), hA, Nat.sub_self]; simp
      have g5 : ∀ y, (A ++ [y] ++ (p.drop (i + 1)).map (eRex true)).length = p.length := fun y => by simp; omega
      rw [eRex_eq] at g1
      have es := take_sum (l := p.map ct) (i := i) (by simpa using hi)
      rw [List.getElem_map, ct_eq] at es
      have ele := take_sum_le (p.map ct) (i + 1)
      rw [← List.map_take, ← List.map_take] at es
      rw [← List.map_take] at ele
      generalize hK : k + (((p.take i).map ct).sum : Nat) = K at *
      have hK0 : 0 ≤ K := by omega
      have hx := List.getElem_mem hi
      have HT := fits_markSpanS p[i].set (K + 1) (hs _ hx) (by omega) (by have := hs _ hx; omega)
      have HR := H p[i] hx (K + 1 + 2 * p[i].set.length) (by omega) (by omega)
      simp -implicitDefEqProofs (maxSteps := 100000) (disch := first | (intros; contradiction) | omega) only [am0, am1, am2, am3, am4, am5, am6, am7, am8, am9, Nat.reduceSub, ↓reduceIte, reduceCtorEq, Nat.reduceEqDiff, Nat.reduceBEq, Nat.reduceAdd, Nat.reduceLT, Nat.reduceBNe, Nat.reduceMul, ↓reduceIte, tis, hL, g1, g2, g3, g4, g5]
      refine callM 0 HT ?_
      simp -implicitDefEqProofs (maxSteps := 100000) (disch := first | (intros; contradiction) | omega) only [am0, am1, am2, am3, am4, am5, am6, am7, am8, am9, Nat.reduceSub, ↓reduceIte, reduceCtorEq, Nat.reduceEqDiff, Nat.reduceBEq, Nat.reduceAdd, Nat.reduceLT, Nat.reduceBNe, Nat.reduceMul, ↓reduceIte, tis, hL, g1, g2, g3, g4, g5, fls]
      refine callM 0 HR ?_
      simp -implicitDefEqProofs (maxSteps := 100000) (disch := first | (intros; contradiction) | omega) only [am0, am1, am2, am3, am4, am5, am6, am7, am8, am9, Nat.reduceSub, ↓reduceIte, reduceCtorEq, Nat.reduceEqDiff, Nat.reduceBEq, Nat.reduceAdd, Nat.reduceLT, Nat.reduceBNe, Nat.reduceMul, ↓reduceIte, tis, hL, g1, g2, g3, g4, g5, fls, rx]
      refine round_normal (i + 1) (by omega) ?_ (by show p.length - (i + 1) < p.length - i; omega)
      have e1 : mkL (p.take (i + 1)) k = mkL (p.take i) k ++ [mkR p[i] K] := by
        rw [List.take_succ_eq_append_getElem hi, mkL_app, hK]
      simp -implicitDefEqProofs (maxSteps := 100000) (disch := first | (intros; contradiction) | omega) only [am0, am1, am2, am3, am4, am5, am6, am7, am8, am9, Nat.reduceSub, ↓reduceIte, reduceCtorEq, Nat.reduceEqDiff, Nat.reduceBEq, Nat.reduceAdd, Nat.reduceLT, Nat.reduceBNe, Nat.reduceMul, ↓reduceIte, tis, e1, List.map_append, hAA, mkR_eq, eRex]
      omega
    · obtain rfl : i = p.length := by omega
      simp -implicitDefEqProofs (maxSteps := 100000) (disch := first | (intros; contradiction) | omega) only [am0, am1, am2, am3, am4, am5, am6, am7, am8, am9, Nat.reduceSub, ↓reduceIte, reduceCtorEq, Nat.reduceEqDiff, Nat.reduceBEq, Nat.reduceAdd, Nat.reduceLT, Nat.reduceBNe, Nat.reduceMul, ↓reduceIte, tis, mkL_len]
/-- laws.markRexS -/
theorem fits_markKids (r : Rex) (hb : bd r ≤ 1048576) : ∀ m : Int, 0 ≤ m → m + (r.kids.map ct).sum ≤ 1152921504606846976 → Fits prog 96 [.sl true 3 (r.kids.map (eRex true)), .int .i64 m] (.int .i64 (m + (r.kids.map ct).sum)) [.sl true 3 ((mkL r.kids m).map (eRex true))] := by
  induction r using Rex.ind' with
  | h r ih =>
    intro m h0 h1
    have hb' := bd_eq r
    exact fits_markRexS_of r.kids m (by omega) (by omega) h0 h1 (fun x hx => by have := bd_kid hx; have := bd_eq x; omega) (fun x hx => ih x hx (Nat.le_trans (bd_kid hx) hb))
theorem mkL_get (l : List Rex) (k : Int) (i : Nat) (h : i < l.length) : ((mkL l k).map (eRex false)).getD i .undef = eRex false (mkR l[i] (k + ((l.take i).map ct).sum)) := by
  induction l generalizing k i with
  | nil => simp at h
  | cons x l ih =>
    cases i with
    | zero => simp [mkL]
    | succ i =>
      have := ih (k + ct x) i (by simpa using h)
      simp only [mkL, List.map_cons, List.getD_cons_succ, this, List.getElem_cons_succ, List.take_succ_cons, List.sum_cons]
      congr 2
      omega
/-- What is marked of one as a whole. -/
def mkTop (r : Rex) (k : Int) : Rex := .mk r.kind (mkSpans r.set.length k) (mkL r.kids (k + 2 * r.set.length))
/-- impl.same, of equals -/
theorem fits_sameSpan (s : List Span) (hp : s.length ≤ 1048576) : Fits prog 82 [.sl false 2 (s.map eSpan), .sl false 2 (s.map eSpan)] (.bool true) [] := by
  refine fits_of_code [4] [] [0, 1, 4, 5, 10, 12, 13, 14, 24] func82 rfl rfl rfl (by rfl) (by show 2 ≤ 26; decide) (by rfl) (by rfl) (by show 0 ≤ 2; decide) (by rfl) (run_of ?_)
  simp -implicitDefEqProofs (maxSteps := 100000) (disch := first | (intros; contradiction) | omega) only [am0, am1, am2, am3, am4, am5, am6, am7, am8, am9, Nat.reduceSub, ↓reduceIte, reduceCtorEq, Nat.reduceEqDiff, Nat.reduceBEq, Nat.reduceAdd, Nat.reduceLT, Nat.reduceBNe, Nat.reduceMul, ↓reduceIte, tis]
  refine run_loop (α := Nat) (fun i => i ≤ s.length) (fun i => [(0, .sl false 2 (s.map eSpan)), (1, .sl false 2 (s.map eSpan)), (12, .int .i64 s.length), (13, .int .i64 i)]) (fun i => s.length - i) 0 (Nat.zero_le _) ?_ ?_
  · simp -implicitDefEqProofs (maxSteps := 100000) (disch := first | (intros; contradiction) | omega) only [am0, am1, am2, am3, am4, am5, am6, am7, am8, am9, Nat.reduceSub, ↓reduceIte, reduceCtorEq, Nat.reduceEqDiff, Nat.reduceBEq, Nat.reduceAdd, Nat.reduceLT, Nat.reduceBNe, Nat.reduceMul, ↓reduceIte, tis]
  · intro i hi'
    by_cases hi : i < s.length
    · simp -implicitDefEqProofs (maxSteps := 100000) (disch := first | (intros; contradiction) | omega) only [am0, am1, am2, am3, am4, am5, am6, am7, am8, am9, Nat.reduceSub, ↓reduceIte, reduceCtorEq, Nat.reduceEqDiff, Nat.reduceBEq, Nat.reduceAdd, Nat.reduceLT, Nat.reduceBNe, Nat.reduceMul, ↓reduceIte, tis, eSpan, fls]
      refine .inl ⟨by kernel_rfl, ?_⟩
      refine round_normal (i + 1) (by omega) ?_ (by show s.length - (i + 1) < s.length - i; omega)
      simp -implicitDefEqProofs (maxSteps := 100000) (disch := first | (intros; contradiction) | omega) only [am0, am1, am2, am3, am4, am5, am6, am7, am8, am9, Nat.reduceSub, ↓reduceIte, reduceCtorEq, Nat.reduceEqDiff, Nat.reduceBEq, Nat.reduceAdd, Nat.reduceLT, Nat.reduceBNe, Nat.reduceMul, ↓reduceIte, tis]
    · obtain rfl : i = s.length := by omega
      simp -implicitDefEqProofs (maxSteps := 100000) (disch := first | (intros; contradiction) | omega) only [am0, am1, am2, am3, am4, am5, am6, am7, am8, am9, Nat.reduceSub, ↓reduceIte, reduceCtorEq, Nat.reduceEqDiff, Nat.reduceBEq, Nat.reduceAdd, Nat.reduceLT, Nat.reduceBNe, Nat.reduceMul, ↓reduceIte, tis]
/-- impl.RexSame, of equals -/
theorem fits_rexSame (r : Rex) (hb : bd r ≤ 1048576) : Fits prog 21 [eRex false r, eRex false r] (.bool true) [] := by
  induction r using Rex.ind' with
  | h r ih =>
    have hb' := bd_eq r
    have cS := fits_sameSpan r.set (by omega)
    rw [eRex_eq]
    refine fits_of_code [4] [] [0, 1, 2, 3, 4, 5, 27, 30, 31, 32, 45] func21 rfl rfl rfl (by rfl) (by show 2 ≤ 47; decide) (by rfl) (by rfl) (by show 0 ≤ 2; decide) (by rfl) (run_of ?_)
    simp -implicitDefEqProofs (maxSteps := 100000) (disch := first | (intros; contradiction) | omega) only [am0, am1, am2, am3, am4, am5, am6, am7, am8, am9, Nat.reduceSub, ↓reduceIte, reduceCtorEq, Nat.reduceEqDiff, Nat.reduceBEq, Nat.reduceAdd, Nat.reduceLT, Nat.reduceBNe, Nat.reduceMul, ↓reduceIte, tis, fls, rx]
    refine callB cS ?_
    simp -implicitDefEqProofs (maxSteps := 100000) (disch := first | (intros; contradiction) | omega) only [am0, am1, am2, am3, am4, am5, am6, am7, am8, am9, Nat.reduceSub, ↓reduceIte, reduceCtorEq, Nat.reduceEqDiff, Nat.reduceBEq, Nat.reduceAdd, Nat.reduceLT, Nat.reduceBNe, Nat.reduceMul, ↓reduceIte, tis, fls, rx]
    refine run_loop (α := Nat) (fun i => i ≤ r.kids.length) (fun i => [(2, .box (.agg [.int .i64 r.kind, .sl false 2 (r.set.map eSpan), .sl false 3 (r.kids.map (eRex false))])), (3, .box (.agg [.int .i64 r.kind, .sl false 2 (r.set.map eSpan), .sl false 3 (r.kids.map (eRex false))])), (30, .int .i64 r.kids.length), (31, .int .i64 i)]) (fun i => r.kids.length - i) 0 (Nat.zero_le _) ?_ ?_
    · simp -implicitDefEqProofs (maxSteps := 100000) (disch := first | (intros; contradiction) | omega) only [am0, am1, am2, am3, am4, am5, am6, am7, am8, am9, Nat.reduceSub, ↓reduceIte, reduceCtorEq, Nat.reduceEqDiff, Nat.reduceBEq, Nat.reduceAdd, Nat.reduceLT, Nat.reduceBNe, Nat.reduceMul, ↓reduceIte, tis]
    · intro i hi'
      by_cases hi : i < r.kids.length
      · have hm := List.getElem_mem hi
        have cF := ih r.kids[i] hm (Nat.le_trans (bd_kid hm) hb)
        rw [eRex_eq false r.kids[i]] at cF
        simp -implicitDefEqProofs (maxSteps := 100000) (disch := first | (intros; contradiction) | omega) only [am0, am1, am2, am3, am4, am5, am6, am7, am8, am9, Nat.reduceSub, ↓reduceIte, reduceCtorEq, Nat.reduceEqDiff, Nat.reduceBEq, Nat.reduceAdd, Nat.reduceLT, Nat.reduceBNe, Nat.reduceMul, ↓reduceIte, tis, rx, fls, eRex_eq false r.kids[i]]
        refine .inl ⟨by kernel_rfl, ?_⟩
        refine callL cF ?_
        simp -implicitDefEqProofs (maxSteps := 100000) (disch := first | (intros; contradiction) | omega) only [am0, am1, am2, am3, am4, am5, am6, am7, am8, am9, Nat.reduceSub, ↓reduceIte, reduceCtorEq, Nat.reduceEqDiff, Nat.reduceBEq, Nat.reduceAdd, Nat.reduceLT, Nat.reduceBNe, Nat.reduceMul, ↓reduceIte, tis, rx, fls]
        refine round_normal (i + 1) (by omega) ?_ (by show r.kids.length - (i + 1) < r.kids.length - i; omega)
        simp -implicitDefEqProofs (maxSteps := 100000) (disch := first | (intros; contradiction) | omega) only [am0, am1, am2, am3, am4, am5, am6, am7, am8, am9, Nat.reduceSub, ↓reduceIte, reduceCtorEq, Nat.reduceEqDiff, Nat.reduceBEq, Nat.reduceAdd, Nat.reduceLT, Nat.reduceBNe, Nat.reduceMul, ↓reduceIte, tis]
      · obtain rfl : i = r.kids.length := by omega
        simp -implicitDefEqProofs (maxSteps := 100000) (disch := first | (intros; contradiction) | omega) only [am0, am1, am2, am3, am4, am5, am6, am7, am8, am9, Nat.reduceSub, ↓reduceIte, reduceCtorEq, Nat.reduceEqDiff, Nat.reduceBEq, Nat.reduceAdd, Nat.reduceLT, Nat.reduceBNe, Nat.reduceMul, ↓reduceIte, tis, rx, fls]
theorem catB_0 (f g : Txt → Bool) : catB f g [] = (f [] && g []) := by simp [catB, anyU]
theorem starB_0 (f : Txt → Bool) : starB f [] = true := (starB_iff f []).2 .nil
/-- impl.null -/
theorem fits_null (r : Rex) (d : Nat) (hf : fm d r = true) (hb : bd r ≤ 1048576) : Fits prog 88 [eRex false r] (.bool (mt r [])) [] := by
  induction d generalizing r with
  | zero => simp [fm] at hf
  | succ d ih =>
    have hk := (fm_ok hf).2.2.2
    have cF : ∀ x ∈ r.kids, Fits prog 88 [eRex false x] (.bool (mt x [])) [] := fun x hx => ih x (hk x hx) (Nat.le_trans (bd_kid hx) hb)
    rw [mt_eq, eRex_eq]
    rcases fm_cases hf with ⟨k, e⟩ | ⟨k, e⟩ | ⟨a, b, k, e⟩ | ⟨a, b, k, e⟩ | ⟨a, k, e⟩ | ⟨a, b, k, e⟩ | ⟨a, k, e⟩
    · rw [k, e]
      refine fits_of_code [2] [] [0, 1, 2, 4, 5, 8, 23, 37] func88 rfl rfl rfl (by rfl) (by show 1 ≤ 45; decide) (by rfl) (by rfl) (by show 0 ≤ 1; decide) (by rfl) (run_of ?_)
      simp -implicitDefEqProofs (maxSteps := 100000) (disch := first | (intros; contradiction) | omega) only [am0, am1, am2, am3, am4, am5, am6, am7, am8, am9, Nat.reduceSub, ↓reduceIte, reduceCtorEq, Nat.reduceEqDiff, Nat.reduceBEq, Nat.reduceAdd, Nat.reduceLT, Nat.reduceBNe, Nat.reduceMul, ↓reduceIte, tis, fls, mtK_1, List.map_nil]
    · rw [k, e]
      refine fits_of_code [2] [] [0, 1, 2, 4, 5, 8, 23, 37] func88 rfl rfl rfl (by rfl) (by show 1 ≤ 45; decide) (by rfl) (by rfl) (by show 0 ≤ 1; decide) (by rfl) (run_of ?_)
      simp -implicitDefEqProofs (maxSteps := 100000) (disch := first | (intros; contradiction) | omega) only [am0, am1, am2, am3, am4, am5, am6, am7, am8, am9, Nat.reduceSub, ↓reduceIte, reduceCtorEq, Nat.reduceEqDiff, Nat.reduceBEq, Nat.reduceAdd, Nat.reduceLT, Nat.reduceBNe, Nat.reduceMul, ↓reduceIte, tis, fls, mtK_2, List.map_nil, List.length_nil]
    · rw [e] at cF
      have ca := cF a (by simp)
      have cb := cF b (by simp)
      rw [k, e]
      simp only [List.map_cons, List.map_nil, mtK_3, catB_0]
      simp only [eRex_eq] at *
      cases ha : mt a [] with
      | true =>
        rw [ha] at ca
        refine fits_of_code [2] [] [0, 1, 2, 4, 5, 8, 23, 37] func88 rfl rfl rfl (by rfl) (by show 1 ≤ 45; decide) (by rfl) (by rfl) (by show 0 ≤ 1; decide) (by rfl) (run_of ?_)
        simp -implicitDefEqProofs (maxSteps := 100000) (disch := first | (intros; contradiction) | omega) only [am0, am1, am2, am3, am4, am5, am6, am7, am8, am9, Nat.reduceSub, ↓reduceIte, reduceCtorEq, Nat.reduceEqDiff, Nat.reduceBEq, Nat.reduceAdd, Nat.reduceLT, Nat.reduceBNe, Nat.reduceMul, ↓reduceIte, tis, fls, rx]
        refine callB ca ?_
        simp -implicitDefEqProofs (maxSteps := 100000) (disch := first | (intros; contradiction) | omega) only [am0, am1, am2, am3, am4, am5, am6, am7, am8, am9, Nat.reduceSub, ↓reduceIte, reduceCtorEq, Nat.reduceEqDiff, Nat.reduceBEq, Nat.reduceAdd, Nat.reduceLT, Nat.reduceBNe, Nat.reduceMul, ↓reduceIte, tis, fls, rx]
        refine callB cb ?_
        simp -implicitDefEqProofs (maxSteps := 100000) (disch := first | (intros; contradiction) | omega) only [am0, am1, am2, am3, am4, am5, am6, am7, am8, am9, Nat.reduceSub, ↓reduceIte, reduceCtorEq, Nat.reduceEqDiff, Nat.reduceBEq, Nat.reduceAdd, Nat.reduceLT, Nat.reduceBNe, Nat.reduceMul, ↓reduceIte, tis, fls, rx]
      | false =>
        rw [ha] at ca
        refine fits_of_code [2] [] [0, 1, 2, 4, 5, 8, 23, 37] func88 rfl rfl rfl (by rfl) (by show 1 ≤ 45; decide) (by rfl) (by rfl) (by show 0 ≤ 1; decide) (by rfl) (run_of ?_)
        simp -implicitDefEqProofs (maxSteps := 100000) (disch := first | (intros; contradiction) | omega) only [am0, am1, am2, am3, am4, am5, am6, am7, am8, am9, Nat.reduceSub, ↓reduceIte, reduceCtorEq, Nat.reduceEqDiff, Nat.reduceBEq, Nat.reduceAdd, Nat.reduceLT, Nat.reduceBNe, Nat.reduceMul, ↓reduceIte, tis, fls, rx]
        refine callB ca ?_
        simp -implicitDefEqProofs (maxSteps := 100000) (disch := first | (intros; contradiction) | omega) only [am0, am1, am2, am3, am4, am5, am6, am7, am8, am9, Nat.reduceSub, ↓reduceIte, reduceCtorEq, Nat.reduceEqDiff, Nat.reduceBEq, Nat.reduceAdd, Nat.reduceLT, Nat.reduceBNe, Nat.reduceMul, ↓reduceIte, tis, fls, rx]
    · rw [e] at cF
      have ca := cF a (by simp)
      have cb := cF b (by simp)
      rw [k, e]
      simp only [List.map_cons, List.map_nil, mtK_4]
      simp only [eRex_eq] at *
      cases ha : mt a [] with
      | true =>
        rw [ha] at ca
        refine fits_of_code [2] [] [0, 1, 2, 4, 5, 8, 23, 37] func88 rfl rfl rfl (by rfl) (by show 1 ≤ 45; decide) (by rfl) (by rfl) (by show 0 ≤ 1; decide) (by rfl) (run_of ?_)
        simp -implicitDefEqProofs (maxSteps := 100000) (disch := first | (intros; contradiction) | omega) only [am0, am1, am2, am3, am4, am5, am6, am7, am8, am9, Nat.reduceSub, ↓reduceIte, reduceCtorEq, Nat.reduceEqDiff, Nat.reduceBEq, Nat.reduceAdd, Nat.reduceLT, Nat.reduceBNe, Nat.reduceMul, ↓reduceIte, tis, fls, rx]
        refine callB ca ?_
        simp -implicitDefEqProofs (maxSteps := 100000) (disch := first | (intros; contradiction) | omega) only [am0, am1, am2, am3, am4, am5, am6, am7, am8, am9, Nat.reduceSub, ↓reduceIte, reduceCtorEq, Nat.reduceEqDiff, Nat.reduceBEq, Nat.reduceAdd, Nat.reduceLT, Nat.reduceBNe, Nat.reduceMul, ↓reduceIte, tis, fls, rx]
      | false =>
        rw [ha] at ca
        refine fits_of_code [2] [] [0, 1, 2, 4, 5, 8, 23, 37] func88 rfl rfl rfl (by rfl) (by show 1 ≤ 45; decide) (by rfl) (by rfl) (by show 0 ≤ 1; decide) (by rfl) (run_of ?_)
        simp -implicitDefEqProofs (maxSteps := 100000) (disch := first | (intros; contradiction) | omega) only [am0, am1, am2, am3, am4, am5, am6, am7, am8, am9, Nat.reduceSub, ↓reduceIte, reduceCtorEq, Nat.reduceEqDiff, Nat.reduceBEq, Nat.reduceAdd, Nat.reduceLT, Nat.reduceBNe, Nat.reduceMul, ↓reduceIte, tis, fls, rx]
        refine callB ca ?_
        simp -implicitDefEqProofs (maxSteps := 100000) (disch := first | (intros; contradiction) | omega) only [am0, am1, am2, am3, am4, am5, am6, am7, am8, am9, Nat.reduceSub, ↓reduceIte, reduceCtorEq, Nat.reduceEqDiff, Nat.reduceBEq, Nat.reduceAdd, Nat.reduceLT, Nat.reduceBNe, Nat.reduceMul, ↓reduceIte, tis, fls, rx]
        refine callB cb ?_
        simp -implicitDefEqProofs (maxSteps := 100000) (disch := first | (intros; contradiction) | omega) only [am0, am1, am2, am3, am4, am5, am6, am7, am8, am9, Nat.reduceSub, ↓reduceIte, reduceCtorEq, Nat.reduceEqDiff, Nat.reduceBEq, Nat.reduceAdd, Nat.reduceLT, Nat.reduceBNe, Nat.reduceMul, ↓reduceIte, tis, fls, rx]
    · rw [k, e]
      simp only [List.map_cons, List.map_nil, mtK_5, starB_0]
      refine fits_of_code [2] [] [0, 1, 2, 4, 5, 8, 23, 37] func88 rfl rfl rfl (by rfl) (by show 1 ≤ 45; decide) (by rfl) (by rfl) (by show 0 ≤ 1; decide) (by rfl) (run_of ?_)
      simp -implicitDefEqProofs (maxSteps := 100000) (disch := first | (intros; contradiction) | omega) only [am0, am1, am2, am3, am4, am5, am6, am7, am8, am9, Nat.reduceSub, ↓reduceIte, reduceCtorEq, Nat.reduceEqDiff, Nat.reduceBEq, Nat.reduceAdd, Nat.reduceLT, Nat.reduceBNe, Nat.reduceMul, ↓reduceIte, tis, fls, rx]
    · rw [e] at cF
      have ca := cF a (by simp)
      have cb := cF b (by simp)
      rw [k, e]
      simp only [List.map_cons, List.map_nil, mtK_6]
      simp only [eRex_eq] at *
      cases ha : mt a [] with
      | true =>
        rw [ha] at ca
        refine fits_of_code [2] [] [0, 1, 2, 4, 5, 8, 23, 37] func88 rfl rfl rfl (by rfl) (by show 1 ≤ 45; decide) (by rfl) (by rfl) (by show 0 ≤ 1; decide) (by rfl) (run_of ?_)
        simp -implicitDefEqProofs (maxSteps := 100000) (disch := first | (intros; contradiction) | omega) only [am0, am1, am2, am3, am4, am5, am6, am7, am8, am9, Nat.reduceSub, ↓reduceIte, reduceCtorEq, Nat.reduceEqDiff, Nat.reduceBEq, Nat.reduceAdd, Nat.reduceLT, Nat.reduceBNe, Nat.reduceMul, ↓reduceIte, tis, fls, rx]
        refine callB ca ?_
        simp -implicitDefEqProofs (maxSteps := 100000) (disch := first | (intros; contradiction) | omega) only [am0, am1, am2, am3, am4, am5, am6, am7, am8, am9, Nat.reduceSub, ↓reduceIte, reduceCtorEq, Nat.reduceEqDiff, Nat.reduceBEq, Nat.reduceAdd, Nat.reduceLT, Nat.reduceBNe, Nat.reduceMul, ↓reduceIte, tis, fls, rx]
        refine callB cb ?_
        simp -implicitDefEqProofs (maxSteps := 100000) (disch := first | (intros; contradiction) | omega) only [am0, am1, am2, am3, am4, am5, am6, am7, am8, am9, Nat.reduceSub, ↓reduceIte, reduceCtorEq, Nat.reduceEqDiff, Nat.reduceBEq, Nat.reduceAdd, Nat.reduceLT, Nat.reduceBNe, Nat.reduceMul, ↓reduceIte, tis, fls, rx]
      | false =>
        rw [ha] at ca
        refine fits_of_code [2] [] [0, 1, 2, 4, 5, 8, 23, 37] func88 rfl rfl rfl (by rfl) (by show 1 ≤ 45; decide) (by rfl) (by rfl) (by show 0 ≤ 1; decide) (by rfl) (run_of ?_)
        simp -implicitDefEqProofs (maxSteps := 100000) (disch := first | (intros; contradiction) | omega) only [am0, am1, am2, am3, am4, am5, am6, am7, am8, am9, Nat.reduceSub, ↓reduceIte, reduceCtorEq, Nat.reduceEqDiff, Nat.reduceBEq, Nat.reduceAdd, Nat.reduceLT, Nat.reduceBNe, Nat.reduceMul, ↓reduceIte, tis, fls, rx]
        refine callB ca ?_
        simp -implicitDefEqProofs (maxSteps := 100000) (disch := first | (intros; contradiction) | omega) only [am0, am1, am2, am3, am4, am5, am6, am7, am8, am9, Nat.reduceSub, ↓reduceIte, reduceCtorEq, Nat.reduceEqDiff, Nat.reduceBEq, Nat.reduceAdd, Nat.reduceLT, Nat.reduceBNe, Nat.reduceMul, ↓reduceIte, tis, fls, rx]
    · rw [e] at cF
      have ca := cF a (by simp)
      rw [k, e]
      simp only [List.map_cons, List.map_nil, mtK_7]
      simp only [eRex_eq] at *
      refine fits_of_code [2] [] [0, 1, 2, 4, 5, 8, 23, 37] func88 rfl rfl rfl (by rfl) (by show 1 ≤ 45; decide) (by rfl) (by rfl) (by show 0 ≤ 1; decide) (by rfl) (run_of ?_)
      simp -implicitDefEqProofs (maxSteps := 100000) (disch := first | (intros; contradiction) | omega) only [am0, am1, am2, am3, am4, am5, am6, am7, am8, am9, Nat.reduceSub, ↓reduceIte, reduceCtorEq, Nat.reduceEqDiff, Nat.reduceBEq, Nat.reduceAdd, Nat.reduceLT, Nat.reduceBNe, Nat.reduceMul, ↓reduceIte, tis, fls, rx]
      refine callB ca ?_
      simp -implicitDefEqProofs (maxSteps := 100000) (disch := first | (intros; contradiction) | omega) only [am0, am1, am2, am3, am4, am5, am6, am7, am8, am9, Nat.reduceSub, ↓reduceIte, reduceCtorEq, Nat.reduceEqDiff, Nat.reduceBEq, Nat.reduceAdd, Nat.reduceLT, Nat.reduceBNe, Nat.reduceMul, ↓reduceIte, tis, fls, rx]
/-- impl.RexNull -/
theorem fits_rexNull (r : Rex) (hb : bd r ≤ 1048576) : Fits prog 26 [eRex false r] (.bool (nulB r)) [] := by
  have cO := fits_rexOk r hb
  unfold nulB
  cases h : rexB r with
  | false =>
    rw [h] at cO
    simp only [eRex_eq] at *
    refine fits_of_code [2] [] [0, 1, 2] func26 rfl rfl rfl (by rfl) (by show 1 ≤ 9; decide) (by rfl) (by rfl) (by show 0 ≤ 1; decide) (by rfl) (run_of ?_)
    simp -implicitDefEqProofs (maxSteps := 100000) (disch := first | (intros; contradiction) | omega) only [am0, am1, am2, am3, am4, am5, am6, am7, am8, am9, Nat.reduceSub, ↓reduceIte, reduceCtorEq, Nat.reduceEqDiff, Nat.reduceBEq, Nat.reduceAdd, Nat.reduceLT, Nat.reduceBNe, Nat.reduceMul, ↓reduceIte, tis, rx, fls]
    refine callB cO ?_
    simp -implicitDefEqProofs (maxSteps := 100000) (disch := first | (intros; contradiction) | omega) only [am0, am1, am2, am3, am4, am5, am6, am7, am8, am9, Nat.reduceSub, ↓reduceIte, reduceCtorEq, Nat.reduceEqDiff, Nat.reduceBEq, Nat.reduceAdd, Nat.reduceLT, Nat.reduceBNe, Nat.reduceMul, ↓reduceIte, tis, rx, fls]
  | true =>
    have cN := fits_null r 8 (rexB_fm h) hb
    rw [h] at cO
    simp only [eRex_eq] at *
    refine fits_of_code [2] [] [0, 1, 2] func26 rfl rfl rfl (by rfl) (by show 1 ≤ 9; decide) (by rfl) (by rfl) (by show 0 ≤ 1; decide) (by rfl) (run_of ?_)
    simp -implicitDefEqProofs (maxSteps := 100000) (disch := first | (intros; contradiction) | omega) only [am0, am1, am2, am3, am4, am5, am6, am7, am8, am9, Nat.reduceSub, ↓reduceIte, reduceCtorEq, Nat.reduceEqDiff, Nat.reduceBEq, Nat.reduceAdd, Nat.reduceLT, Nat.reduceBNe, Nat.reduceMul, ↓reduceIte, tis, rx, fls]
    refine callB cO ?_
    simp -implicitDefEqProofs (maxSteps := 100000) (disch := first | (intros; contradiction) | omega) only [am0, am1, am2, am3, am4, am5, am6, am7, am8, am9, Nat.reduceSub, ↓reduceIte, reduceCtorEq, Nat.reduceEqDiff, Nat.reduceBEq, Nat.reduceAdd, Nat.reduceLT, Nat.reduceBNe, Nat.reduceMul, ↓reduceIte, tis, rx, fls]
    refine callB cN ?_
    simp -implicitDefEqProofs (maxSteps := 100000) (disch := first | (intros; contradiction) | omega) only [am0, am1, am2, am3, am4, am5, am6, am7, am8, am9, Nat.reduceSub, ↓reduceIte, reduceCtorEq, Nat.reduceEqDiff, Nat.reduceBEq, Nat.reduceAdd, Nat.reduceLT, Nat.reduceBNe, Nat.reduceMul, ↓reduceIte, tis, rx, fls]
def turnT (t : Txt) : Txt := if t.length ≤ 200 then t.reverse else []
theorem rev_at (t : Txt) (i : Nat) (h : i < t.length) : (t.reverse.take i ++ t.drop i).set i (t[t.length - 1 - i]'(by omega)) = t.reverse.take (i + 1) ++ t.drop (i + 1) := by
  have h1 : (t.reverse.take i).length = i := by simp; omega
  rw [List.set_append_right _ _ (by omega), h1, Nat.sub_self, List.drop_eq_getElem_cons h, List.set_cons_zero, List.take_succ_eq_append_getElem (by simpa using h), List.getElem_reverse, List.append_assoc]
  rfl
/-- impl.TurnText -/
theorem fits_turnText (t : Txt) (ht : t.length ≤ 1048576) : Fits prog 20 [.str t] (.str (turnT t)) [] := by
  unfold turnT
  by_cases h : t.length ≤ 200
  · rw [if_pos h]
    have h2 : ¬ ((200 : Int) < t.length) := by omega
    refine fits_of_code [2] [] [0, 2, 3, 4, 7, 11, 12, 13] func20 rfl rfl rfl (by rfl) (by show 1 ≤ 28; decide) (by rfl) (by rfl) (by show 0 ≤ 1; decide) (by rfl) (run_of ?_)
    simp -implicitDefEqProofs (maxSteps := 100000) (disch := first | (intros; contradiction) | omega) only [am0, am1, am2, am3, am4, am5, am6, am7, am8, am9, Nat.reduceSub, ↓reduceIte, reduceCtorEq, Nat.reduceEqDiff, Nat.reduceBEq, Nat.reduceAdd, Nat.reduceLT, Nat.reduceBNe, Nat.reduceMul, ↓reduceIte, tis, fls, h2]
    refine run_loop (α := Nat) (fun i => i ≤ t.length) (fun i => [(0, .str t), (3, .sl true 1 (bytesA (t.reverse.take i ++ t.drop i))), (11, .int .i64 t.length), (12, .int .i64 i)]) (fun i => t.length - i) 0 (Nat.zero_le _) ?_ ?_
    · simp -implicitDefEqProofs (maxSteps := 100000) (disch := first | (intros; contradiction) | omega) only [am0, am1, am2, am3, am4, am5, am6, am7, am8, am9, Nat.reduceSub, ↓reduceIte, reduceCtorEq, Nat.reduceEqDiff, Nat.reduceBEq, Nat.reduceAdd, Nat.reduceLT, Nat.reduceBNe, Nat.reduceMul, ↓reduceIte, tis, fls]
    · intro i hi'
      have hl : (t.reverse.take i ++ t.drop i).length = t.length := by simp; omega
      by_cases hi : i < t.length
      · have hr := rev_at t i hi
        have ei : ((t.length : Int) - 1 - i).toNat = t.length - 1 - i := by omega
        have hb1 := get_bytesA (t.reverse.take i ++ t.drop i) i (by omega)
        have hlt : t.length - 1 - i < t.length := by omega
        have hg : t.getD (t.length - 1 - i) 0 = t[t.length - 1 - i] := by simp [List.getD, hlt]
        rw [← hg] at hr
        simp -implicitDefEqProofs (maxSteps := 100000) (disch := first | (intros; contradiction) | omega) only [am0, am1, am2, am3, am4, am5, am6, am7, am8, am9, Nat.reduceSub, ↓reduceIte, reduceCtorEq, Nat.reduceEqDiff, Nat.reduceBEq, Nat.reduceAdd, Nat.reduceLT, Nat.reduceBNe, Nat.reduceMul, ↓reduceIte, tis, fls, ei, hl, hb1]
        refine round_normal (i + 1) (by omega) ?_ (by show t.length - (i + 1) < t.length - i; omega)
        simp -implicitDefEqProofs (maxSteps := 100000) (disch := first | (intros; contradiction) | omega) only [am0, am1, am2, am3, am4, am5, am6, am7, am8, am9, Nat.reduceSub, ↓reduceIte, reduceCtorEq, Nat.reduceEqDiff, Nat.reduceBEq, Nat.reduceAdd, Nat.reduceLT, Nat.reduceBNe, Nat.reduceMul, ↓reduceIte, tis, fls, hr]
      · obtain rfl : i = t.length := by omega
        have e : t.reverse.take t.length ++ t.drop t.length = t.reverse := by simp [List.take_of_length_le]
        rw [e]
        simp -implicitDefEqProofs (maxSteps := 100000) (disch := first | (intros; contradiction) | omega) only [am0, am1, am2, am3, am4, am5, am6, am7, am8, am9, Nat.reduceSub, ↓reduceIte, reduceCtorEq, Nat.reduceEqDiff, Nat.reduceBEq, Nat.reduceAdd, Nat.reduceLT, Nat.reduceBNe, Nat.reduceMul, ↓reduceIte, tis, fls]
  · rw [if_neg h]
    have h2 : (200 : Int) < t.length := by omega
    refine fits_of_code [2] [] [0, 2, 3, 4, 7, 11, 12, 13] func20 rfl rfl rfl (by rfl) (by show 1 ≤ 28; decide) (by rfl) (by rfl) (by show 0 ≤ 1; decide) (by rfl) (run_of ?_)
    simp -implicitDefEqProofs (maxSteps := 100000) (disch := first | (intros; contradiction) | omega) only [am0, am1, am2, am3, am4, am5, am6, am7, am8, am9, Nat.reduceSub, ↓reduceIte, reduceCtorEq, Nat.reduceEqDiff, Nat.reduceBEq, Nat.reduceAdd, Nat.reduceLT, Nat.reduceBNe, Nat.reduceMul, ↓reduceIte, tis, fls, h2]
/-- spec.TurnText -/
theorem fits_sTurnText (t : Txt) (ht : t.length ≤ 1048576) : Fits prog 23 [.str t] (.str (turnT t)) [] := by
  unfold turnT
  by_cases h : t.length ≤ 200
  · rw [if_pos h]
    have h2 : (t.length : Int) ≤ 200 := by omega
    refine fits_of_code [2] [] [0, 2, 3, 4, 14] func23 rfl rfl rfl (by rfl) (by show 1 ≤ 25; decide) (by rfl) (by rfl) (by show 0 ≤ 1; decide) (by rfl) (run_of ?_)
    simp -implicitDefEqProofs (maxSteps := 100000) (disch := first | (intros; contradiction) | omega) only [am0, am1, am2, am3, am4, am5, am6, am7, am8, am9, Nat.reduceSub, ↓reduceIte, reduceCtorEq, Nat.reduceEqDiff, Nat.reduceBEq, Nat.reduceAdd, Nat.reduceLT, Nat.reduceBNe, Nat.reduceMul, ↓reduceIte, tis, fls]
    refine run_loop (α := Nat) (fun i => i ≤ t.length) (fun i => [(0, .str t), (3, .str (t.reverse.take i)), (4, .int .i64 ((t.length : Int) - 1 - i))]) (fun i => t.length - i) 0 (Nat.zero_le _) ?_ ?_
    · simp -implicitDefEqProofs (maxSteps := 100000) (disch := first | (intros; contradiction) | omega) only [am0, am1, am2, am3, am4, am5, am6, am7, am8, am9, Nat.reduceSub, ↓reduceIte, reduceCtorEq, Nat.reduceEqDiff, Nat.reduceBEq, Nat.reduceAdd, Nat.reduceLT, Nat.reduceBNe, Nat.reduceMul, ↓reduceIte, tis, fls]
    · intro i hi'
      have hl : (t.reverse.take i).length = i := by simp; omega
      by_cases hi : i < t.length
      · have ei : ((t.length : Int) - 1 - i).toNat = t.length - 1 - i := by omega
        have ei2 : ((t.length : Int) - 1 - i + 1).toNat = t.length - 1 - i + 1 := by omega
        have es : (t.take (t.length - 1 - i + 1)).drop (t.length - 1 - i) = [t[t.length - 1 - i]] := by
          rw [List.drop_take, List.drop_eq_getElem_cons (by omega : t.length - 1 - i < t.length), show t.length - 1 - i + 1 - (t.length - 1 - i) = 1 by omega]; rfl
        have hr : t.reverse.take (i + 1) = t.reverse.take i ++ [t[t.length - 1 - i]] := by
          rw [List.take_succ_eq_append_getElem (by simpa using hi), List.getElem_reverse]
        simp -implicitDefEqProofs (maxSteps := 100000) (disch := first | (intros; contradiction) | omega) only [am0, am1, am2, am3, am4, am5, am6, am7, am8, am9, Nat.reduceSub, ↓reduceIte, reduceCtorEq, Nat.reduceEqDiff, Nat.reduceBEq, Nat.reduceAdd, Nat.reduceLT, Nat.reduceBNe, Nat.reduceMul, ↓reduceIte, tis, fls, ei, ei2, es, hl, h2]
        refine round_normal (i + 1) (by omega) ?_ (by show t.length - (i + 1) < t.length - i; omega)
        simp -implicitDefEqProofs (maxSteps := 100000) (disch := first | (intros; contradiction) | omega) only [am0, am1, am2, am3, am4, am5, am6, am7, am8, am9, Nat.reduceSub, ↓reduceIte, reduceCtorEq, Nat.reduceEqDiff, Nat.reduceBEq, Nat.reduceAdd, Nat.reduceLT, Nat.reduceBNe, Nat.reduceMul, ↓reduceIte, tis, fls, hr]
        try omega
      · obtain rfl : i = t.length := by omega
        have e : t.reverse.take t.length = t.reverse := by simp [List.take_of_length_le]
        have h3 : ¬ (0 : Int) ≤ (t.length : Int) - 1 - t.length := by omega
        simp -implicitDefEqProofs (maxSteps := 100000) (disch := first | (intros; contradiction) | omega) only [am0, am1, am2, am3, am4, am5, am6, am7, am8, am9, Nat.reduceSub, ↓reduceIte, reduceCtorEq, Nat.reduceEqDiff, Nat.reduceBEq, Nat.reduceAdd, Nat.reduceLT, Nat.reduceBNe, Nat.reduceMul, ↓reduceIte, tis, fls, e, h3]
  · rw [if_neg h]
    have h2 : ¬ (t.length : Int) ≤ 200 := by omega
    refine fits_of_code [2] [] [0, 2, 3, 4, 14] func23 rfl rfl rfl (by rfl) (by show 1 ≤ 25; decide) (by rfl) (by rfl) (by show 0 ≤ 1; decide) (by rfl) (run_of ?_)
    simp -implicitDefEqProofs (maxSteps := 100000) (disch := first | (intros; contradiction) | omega) only [am0, am1, am2, am3, am4, am5, am6, am7, am8, am9, Nat.reduceSub, ↓reduceIte, reduceCtorEq, Nat.reduceEqDiff, Nat.reduceBEq, Nat.reduceAdd, Nat.reduceLT, Nat.reduceBNe, Nat.reduceMul, ↓reduceIte, tis, fls]
    refine run_loop (α := Nat) (fun i => i = 0) (fun i => [(0, .str t), (3, .str []), (4, .int .i64 ((t.length : Int) - 1))]) (fun i => i) 0 rfl ?_ ?_
    · simp -implicitDefEqProofs (maxSteps := 100000) (disch := first | (intros; contradiction) | omega) only [am0, am1, am2, am3, am4, am5, am6, am7, am8, am9, Nat.reduceSub, ↓reduceIte, reduceCtorEq, Nat.reduceEqDiff, Nat.reduceBEq, Nat.reduceAdd, Nat.reduceLT, Nat.reduceBNe, Nat.reduceMul, ↓reduceIte, tis, fls]
    · intro i hi'
      have h3 : (0 : Int) ≤ (t.length : Int) - 1 := by omega
      simp -implicitDefEqProofs (maxSteps := 100000) (disch := first | (intros; contradiction) | omega) only [am0, am1, am2, am3, am4, am5, am6, am7, am8, am9, Nat.reduceSub, ↓reduceIte, reduceCtorEq, Nat.reduceEqDiff, Nat.reduceBEq, Nat.reduceAdd, Nat.reduceLT, Nat.reduceBNe, Nat.reduceMul, ↓reduceIte, tis, fls, h2, h3]
theorem swC_conv {a b : Nat} (ha : a < 256) (hb : b < 256) (c : UInt8) : (if c.toNat = a then (b : Int) else if c.toNat = b then (a : Int) else c.toNat) = (swC a b c).toNat := by
  rw [swC_toNat ha hb]; unfold swN; split <;> (try split) <;> rfl
theorem sw_set (t : Txt) (h : UInt8 → UInt8) (i : Nat) (hi : i < t.length) : ((t.take i).map h ++ t.drop i).set i (h t[i]) = (t.take (i + 1)).map h ++ t.drop (i + 1) := by
  have h1 : ((t.take i).map h).length = i := by simp; omega
  rw [List.set_append_right _ _ (by omega), h1, Nat.sub_self, List.drop_eq_getElem_cons hi, List.set_cons_zero, List.take_succ_eq_append_getElem hi, List.map_append, List.append_assoc]
  rfl
theorem sw_get (t : Txt) (h : UInt8 → UInt8) (i : Nat) (hi : i < t.length) : ((t.take i).map h ++ t.drop i)[i]? = some t[i] := by
  have h1 : ((t.take i).map h).length = i := by simp; omega
  rw [List.getElem?_append_right (by omega), h1, Nat.sub_self, List.drop_eq_getElem_cons hi]; rfl
/-- laws.FnTurnSwap -/
theorem law_LTurnSwap (c : List UInt8) (hc : c.length ≤ 9223372036854775807) (m : List UInt8) (hm : m.length ≤ 9223372036854775807) : Fits prog 6 [.sl false 1 (bytesA c), .sl false 1 (bytesA m)] (.bool true) [] := by
  by_cases h0 : (1048576 : Int) < c.length
  · refine fits_of_code [4] [] [0, 1, 4, 5, 6, 7, 8, 10, 11, 12, 20, 37, 56, 70, 77, 84, 90] func6 rfl rfl rfl (by rfl) (by show 2 ≤ 119; decide) (by rfl) (by rfl) (by show 0 ≤ 2; decide) (by rfl) (run_of ?_)
    simp -implicitDefEqProofs (maxSteps := 100000) (disch := first | (intros; contradiction) | omega) only [am0, am1, am2, am3, am4, am5, am6, am7, am8, am9, Nat.reduceSub, ↓reduceIte, reduceCtorEq, Nat.reduceEqDiff, Nat.reduceBEq, Nat.reduceAdd, Nat.reduceLT, Nat.reduceBNe, Nat.reduceMul, ↓reduceIte, tis, h0]
  by_cases h1 : (1048576 : Int) < m.length
  · refine fits_of_code [4] [] [0, 1, 4, 5, 6, 7, 8, 10, 11, 12, 20, 37, 56, 70, 77, 84, 90] func6 rfl rfl rfl (by rfl) (by show 2 ≤ 119; decide) (by rfl) (by rfl) (by show 0 ≤ 2; decide) (by rfl) (run_of ?_)
    simp -implicitDefEqProofs (maxSteps := 100000) (disch := first | (intros; contradiction) | omega) only [am0, am1, am2, am3, am4, am5, am6, am7, am8, am9, Nat.reduceSub, ↓reduceIte, reduceCtorEq, Nat.reduceEqDiff, Nat.reduceBEq, Nat.reduceAdd, Nat.reduceLT, Nat.reduceBNe, Nat.reduceMul, ↓reduceIte, tis, h0, h1]
  have cD := fits_drawTurnSwap c hc
  have hb := (bentV_le (c.take 2000) 0).2
  generalize (bentV (c.take 2000) 0).1 = r at *
  generalize dsA (c.take 2000) = a at *
  generalize dsB (c.take 2000) = b at *
  have cX := fits_drawMatchIs m hm
  have hq := (bentV_le (m.take 2000) 0).2
  have hl := dmT_len (m.take 2000)
  generalize dmT (m.take 2000) = t at *
  generalize (bentV (m.take 2000) 0).1 = q at *
  have cT := fits_turnSwap r hb a b
  have cT2 := fits_sTurnSwap r hb a b
  have cO := fits_sRexOk r hb
  have hS : bd (swapP r a b) ≤ 1048576 := by
    unfold swapP; split
    · rename_i h
      have h2 := bd_swap a.toNat b.toNat r
      have h3 : ps r ≤ 24 := by have := h.1; unfold rexB at this; simp at this; exact this.2
      omega
    · simp [zRex, bd]
  have cS := fits_rexSame (swapP r a b) hS
  cases hr : rexB r with
  | false =>
    have e : swapP r a b = zRex := by unfold swapP; rw [if_neg (by rw [hr]; simp)]
    rw [hr] at cO
    rw [e] at cT cT2 cS
    simp only [eRex_eq] at *
    refine fits_of_code [4] [] [0, 1, 4, 5, 6, 7, 8, 10, 11, 12, 20, 37, 56, 70, 77, 84, 90] func6 rfl rfl rfl (by rfl) (by show 2 ≤ 119; decide) (by rfl) (by rfl) (by show 0 ≤ 2; decide) (by rfl) (run_of ?_)
    simp -implicitDefEqProofs (maxSteps := 100000) (disch := first | (intros; contradiction) | omega) only [am0, am1, am2, am3, am4, am5, am6, am7, am8, am9, Nat.reduceSub, ↓reduceIte, reduceCtorEq, Nat.reduceEqDiff, Nat.reduceBEq, Nat.reduceAdd, Nat.reduceLT, Nat.reduceBNe, Nat.reduceMul, ↓reduceIte, tis, h0, h1]
    refine callB cD ?_
    simp -implicitDefEqProofs (maxSteps := 100000) (disch := first | (intros; contradiction) | omega) only [am0, am1, am2, am3, am4, am5, am6, am7, am8, am9, Nat.reduceSub, ↓reduceIte, reduceCtorEq, Nat.reduceEqDiff, Nat.reduceBEq, Nat.reduceAdd, Nat.reduceLT, Nat.reduceBNe, Nat.reduceMul, ↓reduceIte, tis, fls, rx, ex_eq, exGo_tup, plain, plainL]
    refine callB cT ?_
    simp -implicitDefEqProofs (maxSteps := 100000) (disch := first | (intros; contradiction) | omega) only [am0, am1, am2, am3, am4, am5, am6, am7, am8, am9, Nat.reduceSub, ↓reduceIte, reduceCtorEq, Nat.reduceEqDiff, Nat.reduceBEq, Nat.reduceAdd, Nat.reduceLT, Nat.reduceBNe, Nat.reduceMul, ↓reduceIte, tis, fls, rx]
    refine .inl ⟨by kernel_rfl, ?_⟩
    refine callL cT2 ?_
    simp -implicitDefEqProofs (maxSteps := 100000) (disch := first | (intros; contradiction) | omega) only [am0, am1, am2, am3, am4, am5, am6, am7, am8, am9, Nat.reduceSub, ↓reduceIte, reduceCtorEq, Nat.reduceEqDiff, Nat.reduceBEq, Nat.reduceAdd, Nat.reduceLT, Nat.reduceBNe, Nat.reduceMul, ↓reduceIte, tis, fls, rx]
    refine callL cS ?_
    simp -implicitDefEqProofs (maxSteps := 100000) (disch := first | (intros; contradiction) | omega) only [am0, am1, am2, am3, am4, am5, am6, am7, am8, am9, Nat.reduceSub, ↓reduceIte, reduceCtorEq, Nat.reduceEqDiff, Nat.reduceBEq, Nat.reduceAdd, Nat.reduceLT, Nat.reduceBNe, Nat.reduceMul, ↓reduceIte, tis, fls, rx]
    refine callB cO ?_
    simp -implicitDefEqProofs (maxSteps := 100000) (disch := first | (intros; contradiction) | omega) only [am0, am1, am2, am3, am4, am5, am6, am7, am8, am9, Nat.reduceSub, ↓reduceIte, reduceCtorEq, Nat.reduceEqDiff, Nat.reduceBEq, Nat.reduceAdd, Nat.reduceLT, Nat.reduceBNe, Nat.reduceMul, ↓reduceIte, tis, fls, rx, zRex, Rex.kind]
  | true =>
    by_cases hab : (0 ≤ a ∧ a ≤ 255) ∧ (0 ≤ b ∧ b ≤ 255)
    · obtain ⟨a, rfl⟩ : ∃ n : Nat, a = n := ⟨a.toNat, by omega⟩
      obtain ⟨b, rfl⟩ : ∃ n : Nat, b = n := ⟨b.toNat, by omega⟩
      have ha : a < 256 := by omega
      have hbb : b < 256 := by omega
      have e : swapP r a b = swapR a b r := by unfold swapP; rw [if_pos ⟨hr, hab⟩]; rfl
      have hx := rexB_swap a b hr
      have e2 : swapP (swapR a b r) a b = r := by
        unfold swapP; rw [if_pos ⟨hx, hab⟩]
        exact swap_swap ha hbb 8 r (rexB_fm hr)
      rw [hr] at cO
      rw [e] at cT cT2 cS hS
      have cT3 := fits_turnSwap (swapR a b r) hS a b
      rw [e2] at cT3
      have cS2 := fits_rexSame r hb
      have cM := fits_matchIs r hb t
      have cM2 := fits_matchIs (swapR a b r) hS (t.map (swC a b))
      have e4 : isB' (swapR a b r) (t.map (swC a b)) = isB' r t := by
        unfold isB'; rw [hx, hr, List.length_map, mt_swap ha hbb 8 r (rexB_fm hr)]
      rw [e4] at cM2
      have n1 : ¬ (a : Int) < 0 := by omega
      have n2 : ¬ (b : Int) < 0 := by omega
      have n3 : ¬ (255 : Int) < a := by omega
      have n4 : ¬ (255 : Int) < b := by omega
      generalize swapR a b r = x at *
      simp only [eRex_eq] at *
      refine fits_of_code [4] [] [0, 1, 4, 5, 6, 7, 8, 10, 11, 12, 20, 37, 56, 70, 77, 84, 90] func6 rfl rfl rfl (by rfl) (by show 2 ≤ 119; decide) (by rfl) (by rfl) (by show 0 ≤ 2; decide) (by rfl) (run_of ?_)
      simp -implicitDefEqProofs (maxSteps := 100000) (disch := first | (intros; contradiction) | omega) only [am0, am1, am2, am3, am4, am5, am6, am7, am8, am9, Nat.reduceSub, ↓reduceIte, reduceCtorEq, Nat.reduceEqDiff, Nat.reduceBEq, Nat.reduceAdd, Nat.reduceLT, Nat.reduceBNe, Nat.reduceMul, ↓reduceIte, tis, h0, h1]
      refine callB cD ?_
      simp -implicitDefEqProofs (maxSteps := 100000) (disch := first | (intros; contradiction) | omega) only [am0, am1, am2, am3, am4, am5, am6, am7, am8, am9, Nat.reduceSub, ↓reduceIte, reduceCtorEq, Nat.reduceEqDiff, Nat.reduceBEq, Nat.reduceAdd, Nat.reduceLT, Nat.reduceBNe, Nat.reduceMul, ↓reduceIte, tis, fls, rx, ex_eq, exGo_tup, plain, plainL]
      refine callB cT ?_
      simp -implicitDefEqProofs (maxSteps := 100000) (disch := first | (intros; contradiction) | omega) only [am0, am1, am2, am3, am4, am5, am6, am7, am8, am9, Nat.reduceSub, ↓reduceIte, reduceCtorEq, Nat.reduceEqDiff, Nat.reduceBEq, Nat.reduceAdd, Nat.reduceLT, Nat.reduceBNe, Nat.reduceMul, ↓reduceIte, tis, fls, rx]
      refine .inl ⟨by kernel_rfl, ?_⟩
      refine callL cT2 ?_
      simp -implicitDefEqProofs (maxSteps := 100000) (disch := first | (intros; contradiction) | omega) only [am0, am1, am2, am3, am4, am5, am6, am7, am8, am9, Nat.reduceSub, ↓reduceIte, reduceCtorEq, Nat.reduceEqDiff, Nat.reduceBEq, Nat.reduceAdd, Nat.reduceLT, Nat.reduceBNe, Nat.reduceMul, ↓reduceIte, tis, fls, rx]
      refine callL cS ?_
      simp -implicitDefEqProofs (maxSteps := 100000) (disch := first | (intros; contradiction) | omega) only [am0, am1, am2, am3, am4, am5, am6, am7, am8, am9, Nat.reduceSub, ↓reduceIte, reduceCtorEq, Nat.reduceEqDiff, Nat.reduceBEq, Nat.reduceAdd, Nat.reduceLT, Nat.reduceBNe, Nat.reduceMul, ↓reduceIte, tis, fls, rx]
      refine callB cO ?_
      simp -implicitDefEqProofs (maxSteps := 100000) (disch := first | (intros; contradiction) | omega) only [am0, am1, am2, am3, am4, am5, am6, am7, am8, am9, Nat.reduceSub, ↓reduceIte, reduceCtorEq, Nat.reduceEqDiff, Nat.reduceBEq, Nat.reduceAdd, Nat.reduceLT, Nat.reduceBNe, Nat.reduceMul, ↓reduceIte, tis, fls, rx, n1, n2, n3, n4]
      refine callB cX ?_
      simp -implicitDefEqProofs (maxSteps := 100000) (disch := first | (intros; contradiction) | omega) only [am0, am1, am2, am3, am4, am5, am6, am7, am8, am9, Nat.reduceSub, ↓reduceIte, reduceCtorEq, Nat.reduceEqDiff, Nat.reduceBEq, Nat.reduceAdd, Nat.reduceLT, Nat.reduceBNe, Nat.reduceMul, ↓reduceIte, tis, fls, rx, ex_eq, exGo_tup, plain, plainL]
      refine run_loop (α := Nat) (fun i => i ≤ t.length) (fun i => [(5, .box (.agg [.int .i64 r.kind, .sl true 2 (r.set.map eSpan), .sl true 3 (r.kids.map (eRex true))])), (6, .int .i64 a), (7, .int .i64 b), (8, .box (.agg [.int .i64 x.kind, .sl true 2 (x.set.map eSpan), .sl true 3 (x.kids.map (eRex true))])), (10, .str t), (11, .sl true 1 (bytesA ((t.take i).map (swC a b) ++ t.drop i))), (12, .int .i64 i)]) (fun i => t.length - i) 0 (Nat.zero_le _) ?_ ?_
      · simp -implicitDefEqProofs (maxSteps := 100000) (disch := first | (intros; contradiction) | omega) only [am0, am1, am2, am3, am4, am5, am6, am7, am8, am9, Nat.reduceSub, ↓reduceIte, reduceCtorEq, Nat.reduceEqDiff, Nat.reduceBEq, Nat.reduceAdd, Nat.reduceLT, Nat.reduceBNe, Nat.reduceMul, ↓reduceIte, tis, fls]
      · intro i hi'
        have hL : ((t.take i).map (swC a b) ++ t.drop i).length = t.length := by simp; omega
        by_cases hi : i < t.length
        · have hsw := sw_set t (swC a b) i hi
          have hgt := sw_get t (swC a b) i hi
          have hdrop : (t.take (i + 1)).map (swC a b) ++ t.drop (i + 1) = ((t.take i).map (swC a b) ++ t.drop i).set i (swC a b t[i]) := hsw.symm
          generalize (t.take i).map (swC a b) ++ t.drop i = L at *
          have hiL : i < L.length := by omega
          have hLi : L[i] = t[i] := by rw [List.getElem?_eq_getElem hiL] at hgt; exact Option.some.inj hgt
          have hg1 : (bytesA L)[i]? = some (.int .u8 t[i].toNat) := by rw [get_bytesA L i hiL, hLi]
          have hg2 : (bytesA L).getD i .undef = .int .u8 t[i].toNat := by simp [List.getD, hg1]
          have hlt := t[i].toNat_lt
          have hset : ∀ n : Nat, n < 256 → (bytesA L).set i (.int .u8 (n : Int)) = bytesA (L.set i (UInt8.ofNat n)) := fun n hn => by
            have e : ((UInt8.ofNat n).toNat : Int) = n := by rw [UInt8.toNat_ofNat']; omega
            rw [← set_bytesA, e]
          by_cases ha1 : t[i].toNat = a
          · have hC : swC a b t[i] = UInt8.ofNat b := by unfold swC; rw [if_pos ha1]
            have hs := hset b hbb
            rw [hC] at hdrop
            simp -implicitDefEqProofs (maxSteps := 100000) (disch := first | (intros; contradiction) | omega) only [am0, am1, am2, am3, am4, am5, am6, am7, am8, am9, Nat.reduceSub, ↓reduceIte, reduceCtorEq, Nat.reduceEqDiff, Nat.reduceBEq, Nat.reduceAdd, Nat.reduceLT, Nat.reduceBNe, Nat.reduceMul, ↓reduceIte, tis, fls, hL, hg1, hg2, hs]
            refine round_normal (i + 1) (by omega) ?_ (by show t.length - (i + 1) < t.length - i; omega)
            simp -implicitDefEqProofs (maxSteps := 100000) (disch := first | (intros; contradiction) | omega) only [am0, am1, am2, am3, am4, am5, am6, am7, am8, am9, Nat.reduceSub, ↓reduceIte, reduceCtorEq, Nat.reduceEqDiff, Nat.reduceBEq, Nat.reduceAdd, Nat.reduceLT, Nat.reduceBNe, Nat.reduceMul, ↓reduceIte, tis, fls, hdrop]
          · by_cases hb1 : t[i].toNat = b
            · have hC : swC a b t[i] = UInt8.ofNat a := by unfold swC; rw [if_neg ha1, if_pos hb1]
              have hs := hset a ha
              rw [hC] at hdrop
              simp -implicitDefEqProofs (maxSteps := 100000) (disch := first | (intros; contradiction) | omega) only [am0, am1, am2, am3, am4, am5, am6, am7, am8, am9, Nat.reduceSub, ↓reduceIte, reduceCtorEq, Nat.reduceEqDiff, Nat.reduceBEq, Nat.reduceAdd, Nat.reduceLT, Nat.reduceBNe, Nat.reduceMul, ↓reduceIte, tis, fls, hL, hg1, hg2, hs]
              refine round_normal (i + 1) (by omega) ?_ (by show t.length - (i + 1) < t.length - i; omega)
              simp -implicitDefEqProofs (maxSteps := 100000) (disch := first | (intros; contradiction) | omega) only [am0, am1, am2, am3, am4, am5, am6, am7, am8, am9, Nat.reduceSub, ↓reduceIte, reduceCtorEq, Nat.reduceEqDiff, Nat.reduceBEq, Nat.reduceAdd, Nat.reduceLT, Nat.reduceBNe, Nat.reduceMul, ↓reduceIte, tis, fls, hdrop]
            · have hC : swC a b t[i] = t[i] := by unfold swC; rw [if_neg ha1, if_neg hb1]
              rw [hC, ← hLi, List.set_getElem_self] at hdrop
              simp -implicitDefEqProofs (maxSteps := 100000) (disch := first | (intros; contradiction) | omega) only [am0, am1, am2, am3, am4, am5, am6, am7, am8, am9, Nat.reduceSub, ↓reduceIte, reduceCtorEq, Nat.reduceEqDiff, Nat.reduceBEq, Nat.reduceAdd, Nat.reduceLT, Nat.reduceBNe, Nat.reduceMul, ↓reduceIte, tis, fls, hL, hg1, hg2]
              refine round_normal (i + 1) (by omega) ?_ (by show t.length - (i + 1) < t.length - i; omega)
              simp -implicitDefEqProofs (maxSteps := 100000) (disch := first | (intros; contradiction) | omega) only [am0, am1, am2, am3, am4, am5, am6, am7, am8, am9, Nat.reduceSub, ↓reduceIte, reduceCtorEq, Nat.reduceEqDiff, Nat.reduceBEq, Nat.reduceAdd, Nat.reduceLT, Nat.reduceBNe, Nat.reduceMul, ↓reduceIte, tis, fls, hdrop]
        · obtain rfl : i = t.length := by omega
          have e5 : (t.take t.length).map (swC a b) ++ t.drop t.length = t.map (swC a b) := by simp
          rw [e5]
          simp -implicitDefEqProofs (maxSteps := 100000) (disch := first | (intros; contradiction) | omega) only [am0, am1, am2, am3, am4, am5, am6, am7, am8, am9, Nat.reduceSub, ↓reduceIte, reduceCtorEq, Nat.reduceEqDiff, Nat.reduceBEq, Nat.reduceAdd, Nat.reduceLT, Nat.reduceBNe, Nat.reduceMul, ↓reduceIte, tis, fls, rx]
          refine .inl ⟨by kernel_rfl, ?_⟩
          refine callL cT3 ?_
          simp -implicitDefEqProofs (maxSteps := 100000) (disch := first | (intros; contradiction) | omega) only [am0, am1, am2, am3, am4, am5, am6, am7, am8, am9, Nat.reduceSub, ↓reduceIte, reduceCtorEq, Nat.reduceEqDiff, Nat.reduceBEq, Nat.reduceAdd, Nat.reduceLT, Nat.reduceBNe, Nat.reduceMul, ↓reduceIte, tis, fls, rx]
          refine callL cS2 ?_
          simp -implicitDefEqProofs (maxSteps := 100000) (disch := first | (intros; contradiction) | omega) only [am0, am1, am2, am3, am4, am5, am6, am7, am8, am9, Nat.reduceSub, ↓reduceIte, reduceCtorEq, Nat.reduceEqDiff, Nat.reduceBEq, Nat.reduceAdd, Nat.reduceLT, Nat.reduceBNe, Nat.reduceMul, ↓reduceIte, tis, fls, rx]
          by_cases h3 : (12 : Int) < t.length
          · simp -implicitDefEqProofs (maxSteps := 100000) (disch := first | (intros; contradiction) | omega) only [am0, am1, am2, am3, am4, am5, am6, am7, am8, am9, Nat.reduceSub, ↓reduceIte, reduceCtorEq, Nat.reduceEqDiff, Nat.reduceBEq, Nat.reduceAdd, Nat.reduceLT, Nat.reduceBNe, Nat.reduceMul, ↓reduceIte, tis, fls, rx, h3]
          · simp -implicitDefEqProofs (maxSteps := 100000) (disch := first | (intros; contradiction) | omega) only [am0, am1, am2, am3, am4, am5, am6, am7, am8, am9, Nat.reduceSub, ↓reduceIte, reduceCtorEq, Nat.reduceEqDiff, Nat.reduceBEq, Nat.reduceAdd, Nat.reduceLT, Nat.reduceBNe, Nat.reduceMul, ↓reduceIte, tis, fls, rx, h3]
            refine callL cM2 ?_
            simp -implicitDefEqProofs (maxSteps := 100000) (disch := first | (intros; contradiction) | omega) only [am0, am1, am2, am3, am4, am5, am6, am7, am8, am9, Nat.reduceSub, ↓reduceIte, reduceCtorEq, Nat.reduceEqDiff, Nat.reduceBEq, Nat.reduceAdd, Nat.reduceLT, Nat.reduceBNe, Nat.reduceMul, ↓reduceIte, tis, fls, rx]
            refine callL cM ?_
            simp -implicitDefEqProofs (maxSteps := 100000) (disch := first | (intros; contradiction) | omega) only [am0, am1, am2, am3, am4, am5, am6, am7, am8, am9, Nat.reduceSub, ↓reduceIte, reduceCtorEq, Nat.reduceEqDiff, Nat.reduceBEq, Nat.reduceAdd, Nat.reduceLT, Nat.reduceBNe, Nat.reduceMul, ↓reduceIte, tis, fls, rx]
    · have e : swapP r a b = zRex := by unfold swapP; rw [if_neg (fun h => hab h.2)]
      rw [hr] at cO
      rw [e] at cT cT2 cS
      simp only [eRex_eq] at *
      refine fits_of_code [4] [] [0, 1, 4, 5, 6, 7, 8, 10, 11, 12, 20, 37, 56, 70, 77, 84, 90] func6 rfl rfl rfl (by rfl) (by show 2 ≤ 119; decide) (by rfl) (by rfl) (by show 0 ≤ 2; decide) (by rfl) (run_of ?_)
      simp -implicitDefEqProofs (maxSteps := 100000) (disch := first | (intros; contradiction) | omega) only [am0, am1, am2, am3, am4, am5, am6, am7, am8, am9, Nat.reduceSub, ↓reduceIte, reduceCtorEq, Nat.reduceEqDiff, Nat.reduceBEq, Nat.reduceAdd, Nat.reduceLT, Nat.reduceBNe, Nat.reduceMul, ↓reduceIte, tis, h0, h1]
      refine callB cD ?_
      simp -implicitDefEqProofs (maxSteps := 100000) (disch := first | (intros; contradiction) | omega) only [am0, am1, am2, am3, am4, am5, am6, am7, am8, am9, Nat.reduceSub, ↓reduceIte, reduceCtorEq, Nat.reduceEqDiff, Nat.reduceBEq, Nat.reduceAdd, Nat.reduceLT, Nat.reduceBNe, Nat.reduceMul, ↓reduceIte, tis, fls, rx, ex_eq, exGo_tup, plain, plainL]
      refine callB cT ?_
      simp -implicitDefEqProofs (maxSteps := 100000) (disch := first | (intros; contradiction) | omega) only [am0, am1, am2, am3, am4, am5, am6, am7, am8, am9, Nat.reduceSub, ↓reduceIte, reduceCtorEq, Nat.reduceEqDiff, Nat.reduceBEq, Nat.reduceAdd, Nat.reduceLT, Nat.reduceBNe, Nat.reduceMul, ↓reduceIte, tis, fls, rx]
      refine .inl ⟨by kernel_rfl, ?_⟩
      refine callL cT2 ?_
      simp -implicitDefEqProofs (maxSteps := 100000) (disch := first | (intros; contradiction) | omega) only [am0, am1, am2, am3, am4, am5, am6, am7, am8, am9, Nat.reduceSub, ↓reduceIte, reduceCtorEq, Nat.reduceEqDiff, Nat.reduceBEq, Nat.reduceAdd, Nat.reduceLT, Nat.reduceBNe, Nat.reduceMul, ↓reduceIte, tis, fls, rx]
      refine callL cS ?_
      simp -implicitDefEqProofs (maxSteps := 100000) (disch := first | (intros; contradiction) | omega) only [am0, am1, am2, am3, am4, am5, am6, am7, am8, am9, Nat.reduceSub, ↓reduceIte, reduceCtorEq, Nat.reduceEqDiff, Nat.reduceBEq, Nat.reduceAdd, Nat.reduceLT, Nat.reduceBNe, Nat.reduceMul, ↓reduceIte, tis, fls, rx]
      refine callB cO ?_
      by_cases n1 : a < 0
      · simp -implicitDefEqProofs (maxSteps := 100000) (disch := first | (intros; contradiction) | omega) only [am0, am1, am2, am3, am4, am5, am6, am7, am8, am9, Nat.reduceSub, ↓reduceIte, reduceCtorEq, Nat.reduceEqDiff, Nat.reduceBEq, Nat.reduceAdd, Nat.reduceLT, Nat.reduceBNe, Nat.reduceMul, ↓reduceIte, tis, fls, rx, n1, zRex, Rex.kind]
      by_cases n2 : b < 0
      · simp -implicitDefEqProofs (maxSteps := 100000) (disch := first | (intros; contradiction) | omega) only [am0, am1, am2, am3, am4, am5, am6, am7, am8, am9, Nat.reduceSub, ↓reduceIte, reduceCtorEq, Nat.reduceEqDiff, Nat.reduceBEq, Nat.reduceAdd, Nat.reduceLT, Nat.reduceBNe, Nat.reduceMul, ↓reduceIte, tis, fls, rx, n1, n2, zRex, Rex.kind]
      by_cases n3 : 255 < a
      · simp -implicitDefEqProofs (maxSteps := 100000) (disch := first | (intros; contradiction) | omega) only [am0, am1, am2, am3, am4, am5, am6, am7, am8, am9, Nat.reduceSub, ↓reduceIte, reduceCtorEq, Nat.reduceEqDiff, Nat.reduceBEq, Nat.reduceAdd, Nat.reduceLT, Nat.reduceBNe, Nat.reduceMul, ↓reduceIte, tis, fls, rx, n1, n2, n3, zRex, Rex.kind]
      have n4 : 255 < b := by omega
      simp -implicitDefEqProofs (maxSteps := 100000) (disch := first | (intros; contradiction) | omega) only [am0, am1, am2, am3, am4, am5, am6, am7, am8, am9, Nat.reduceSub, ↓reduceIte, reduceCtorEq, Nat.reduceEqDiff, Nat.reduceBEq, Nat.reduceAdd, Nat.reduceLT, Nat.reduceBNe, Nat.reduceMul, ↓reduceIte, tis, fls, rx, n1, n2, n3, n4, zRex, Rex.kind]
theorem own : ownKnob prog.godebug = none := by kernel_rfl
theorem laidOut : laidOutB prog = true := by kernel_rfl
theorem typ_int {n : Nat} {x : AV} (h : Typed prog n 3 x) : ∃ v, x = .int .i64 v ∧ -9223372036854775808 ≤ v ∧ v ≤ 9223372036854775807 := by
  cases n with
  | zero => exact h.elim
  | succ n =>
    simp only [Typed, underlying3] at h
    obtain ⟨v, rfl, hw⟩ := h
    refine ⟨v, rfl, ?_⟩
    simp [Lit.wf, IntKind.min, IntKind.max, IntKind.bits, IntKind.signed] at hw
    omega
theorem typ_str {n : Nat} {x : AV} (h : Typed prog n 9 x) : ∃ s, x = .str s ∧ s.length ≤ 9223372036854775807 := by
  cases n with
  | zero => exact h.elim
  | succ n => simp only [Typed, underlying9] at h; exact h
theorem typ_bool {n : Nat} {x : AV} (h : Typed prog n 4 x) : ∃ b, x = .bool b := by
  cases n with
  | zero => exact h.elim
  | succ n => simp only [Typed, underlying4] at h; exact h
theorem all_map {α : Type} (f : α → AV) : ∀ xs : List AV, (∀ y ∈ xs, ∃ i, y = f i) → ∃ is : List α, xs = is.map f
  | [], _ => ⟨[], rfl⟩
  | y :: r, h => by
    obtain ⟨i, rfl⟩ := h y (List.mem_cons_self ..)
    obtain ⟨is, rfl⟩ := all_map f r (fun z hz => h z (List.mem_cons_of_mem _ hz))
    exact ⟨i :: is, rfl⟩
theorem typ_byte {n : Nat} {x : AV} (h : Typed prog n 5 x) : ∃ v : UInt8, x = .int .u8 v.toNat := by
  cases n with
  | zero => exact h.elim
  | succ n =>
    simp only [Typed, underlying5] at h
    obtain ⟨v, rfl, hw⟩ := h
    simp [Lit.wf, IntKind.min, IntKind.max, IntKind.bits, IntKind.signed] at hw
    refine ⟨UInt8.ofNat v.toNat, ?_⟩
    rw [UInt8.toNat_ofNat']
    congr 1
    omega
theorem typ_code {n : Nat} {x : AV} (h : Typed prog n 22 x) : ∃ c : List UInt8, x = .sl false 1 (bytesA c) ∧ c.length ≤ 9223372036854775807 := by
  cases n with
  | zero => exact h.elim
  | succ n =>
    have co : prog.cellsOf 5 = 1 := by kernel_rfl
    simp only [Typed, underlying22, co] at h
    obtain ⟨xs, rfl, hl, hf⟩ := h
    obtain ⟨p, rfl⟩ := all_map (fun v : UInt8 => AV.int .u8 v.toNat) xs (fun y hy => typ_byte (hf y hy))
    exact ⟨p, rfl, by simpa [maxLen] using hl⟩
end Go.Proofs.Ytonljcfflamccaa.U
