/- What functions of the program answer, on values without memory (part 2): conditions stand at each theorem. -/
import Derived.Test.YtonljcfflamccaaRows
import Derived.Test.YtonljcfflamccaaAskAllU1
set_option linter.unusedVariables false
set_option linter.unusedSimpArgs false
set_option maxRecDepth 100000
set_option maxHeartbeats 4000000
namespace Go.Proofs.Ytonljcfflamccaa.U
open Go Go.RowKit Go.Proofs Go.Proofs.Ytonljcfflamccaa.Am AV Go.Proofs.Try
/-- spec.AskAll -/
theorem fits_sAskAll (r : Rex) (hb : bd r ≤ 1048576) (ls : Txt) (hls : ls.length ≤ 1048576) (most : Int) : Fits prog 14 [eRex false r, .str ls, .int .i64 most] (.sl true 1 ((askP r ls most).map eStr)) [] := by
  have cO := fits_sRexOk r hb
  by_cases hg : rexB r = true ∧ ls.length ≤ 3 ∧ (0 ≤ most ∧ most ≤ 6)
  · obtain ⟨h, hl, hm⟩ := id hg
    have e : askP r ls most = askN r ls (most.toNat + 1) := if_pos hg
    obtain ⟨m, rfl⟩ : ∃ n : Nat, most = n := ⟨most.toNat, by omega⟩
    rw [h] at cO
    rw [e, show Int.toNat (m : Int) = m from rfl]
    have hfin := askN_le r hl (m + 1) (by omega)
    have cM := fun t ht => fits_l3Is r 8 (rexB_fm h) hb t ht
    simp only [eRex_eq] at *
    refine fits_of_code [6] [] [0, 1, 2, 3, 6, 7, 8, 9, 10, 11, 12, 29, 34, 41, 49, 60] func14 rfl rfl rfl (by rfl) (by show 3 ≤ 78; decide) (by rfl) (by rfl) (by show 0 ≤ 3; decide) (by rfl) (run_of ?_)
    simp -implicitDefEqProofs (maxSteps := 100000) (disch := first | (intros; contradiction) | omega) only [am0, am1, am2, am3, am4, am5, am6, am7, am8, Nat.reduceSub, ↓reduceIte, reduceCtorEq, Nat.reduceEqDiff, Nat.reduceBEq, Nat.reduceAdd, Nat.reduceLT, Nat.reduceBNe, Nat.reduceMul, ↓reduceIte, tis, rx, fls]
    refine callB cO ?_
    simp -implicitDefEqProofs (maxSteps := 100000) (disch := first | (intros; contradiction) | omega) only [am0, am1, am2, am3, am4, am5, am6, am7, am8, Nat.reduceSub, ↓reduceIte, reduceCtorEq, Nat.reduceEqDiff, Nat.reduceBEq, Nat.reduceAdd, Nat.reduceLT, Nat.reduceBNe, Nat.reduceMul, ↓reduceIte, tis, rx, fls]
    refine run_loop (α := Nat) (fun n => n ≤ m + 1) (fun n => [(1, .str ls), (2, .int .i64 m), (3, .box (.agg [.int .i64 r.kind, .sl false 2 (r.set.map eSpan), .sl false 3 (r.kids.map (eRex false))])), (7, .sl true 1 ((askN r ls n).map eStr)), (8, .sl true 1 ((level ls n).map eStr)), (9, .int .i64 n)]) (fun n => m + 1 - n) 0 (Nat.zero_le _) ?_ ?_
    · simp -implicitDefEqProofs (maxSteps := 100000) (disch := first | (intros; contradiction) | omega) only [am0, am1, am2, am3, am4, am5, am6, am7, am8, Nat.reduceSub, ↓reduceIte, reduceCtorEq, Nat.reduceEqDiff, Nat.reduceBEq, Nat.reduceAdd, Nat.reduceLT, Nat.reduceBNe, Nat.reduceMul, ↓reduceIte, tis, askN, level, eStr]
    · intro n hn'
      by_cases hn : n ≤ m
      · have hle := level_le hl (n := n) (by omega)
        have hae := askN_le r hl n (by omega)
        simp -implicitDefEqProofs (maxSteps := 100000) (disch := first | (intros; contradiction) | omega) only [am0, am1, am2, am3, am4, am5, am6, am7, am8, Nat.reduceSub, ↓reduceIte, reduceCtorEq, Nat.reduceEqDiff, Nat.reduceBEq, Nat.reduceAdd, Nat.reduceLT, Nat.reduceBNe, Nat.reduceMul, ↓reduceIte, tis, rx, fls]
        refine run_loop (α := Nat) (fun j => j ≤ (level ls n).length) (fun j => [(1, .str ls), (2, .int .i64 m), (3, .box (.agg [.int .i64 r.kind, .sl false 2 (r.set.map eSpan), .sl false 3 (r.kids.map (eRex false))])), (7, .sl true 1 ((askN r ls n ++ ((level ls n).take j).filter (mt r)).map eStr)), (8, .sl true 1 ((level ls n).map eStr)), (9, .int .i64 n), (10, .sl true 1 ((((level ls n).take j).flatMap (extW ls)).map eStr)), (11, .int .i64 j)]) (fun j => (level ls n).length - j) 0 (Nat.zero_le _) ?_ ?_
        · simp -implicitDefEqProofs (maxSteps := 100000) (disch := first | (intros; contradiction) | omega) only [am0, am1, am2, am3, am4, am5, am6, am7, am8, Nat.reduceSub, ↓reduceIte, reduceCtorEq, Nat.reduceEqDiff, Nat.reduceBEq, Nat.reduceAdd, Nat.reduceLT, Nat.reduceBNe, Nat.reduceMul, ↓reduceIte, tis, List.filter_nil, List.append_nil, List.flatMap_nil]
        · intro j hj'
          have hfl : (((level ls n).take j).filter (mt r)).length ≤ 729 := Nat.le_trans (List.length_filter_le _ _) (by simp; omega)
          have hx := flat_le hl ((level ls n).take j)
          have hx2 : ((level ls n).take j).length ≤ 729 := by simp; omega
          by_cases hj : j < (level ls n).length
          · have hw : ((level ls n)[j]).length = n := level_word ls n _ (List.getElem_mem hj)
            have cMj := cM (level ls n)[j] (by omega)
            have et := List.take_succ_eq_append_getElem hj
            have eF : ((level ls n).take (j + 1)).filter (mt r) = ((level ls n).take j).filter (mt r) ++ (if mt r (level ls n)[j] = true then [(level ls n)[j]] else []) := by
              rw [et, List.filter_append]; congr 1
              by_cases hq : mt r (level ls n)[j] = true <;> simp [hq]
            have eX : ((level ls n).take (j + 1)).flatMap (extW ls) = ((level ls n).take j).flatMap (extW ls) ++ extW ls (level ls n)[j] := by
              rw [et, List.flatMap_append]; simp
            have gw : ((level ls n).map eStr)[j]? = some (.str (level ls n)[j]) := by rw [List.getElem?_map, List.getElem?_eq_getElem hj]; rfl
            have gl : ((level ls n).map eStr).length = (level ls n).length := by simp
            have hYl : (askN r ls n ++ ((level ls n).take j).filter (mt r)).length ≤ 8192 := by simp only [List.length_append]; omega
            have eF2 : askN r ls n ++ ((level ls n).take (j + 1)).filter (mt r) = (askN r ls n ++ ((level ls n).take j).filter (mt r)) ++ (if mt r (level ls n)[j] = true then [(level ls n)[j]] else []) := by rw [eF, List.append_assoc]
            clear eF
            have eF := eF2
            generalize (level ls n)[j] = w at *
            generalize ((level ls n).take j).flatMap (extW ls) = X at *
            generalize askN r ls n ++ ((level ls n).take j).filter (mt r) = Y at *
            simp -implicitDefEqProofs (maxSteps := 100000) (disch := first | (intros; contradiction) | omega) only [am0, am1, am2, am3, am4, am5, am6, am7, am8, Nat.reduceSub, ↓reduceIte, reduceCtorEq, Nat.reduceEqDiff, Nat.reduceBEq, Nat.reduceAdd, Nat.reduceLT, Nat.reduceBNe, Nat.reduceMul, ↓reduceIte, tis, rx, fls, gw, gl]
            refine .inl ⟨by kernel_rfl, ?_⟩
            refine callL cMj ?_
            cases hq : mt r w with
            | true =>
              simp -implicitDefEqProofs (maxSteps := 100000) (disch := first | (intros; contradiction) | omega) only [am0, am1, am2, am3, am4, am5, am6, am7, am8, Nat.reduceSub, ↓reduceIte, reduceCtorEq, Nat.reduceEqDiff, Nat.reduceBEq, Nat.reduceAdd, Nat.reduceLT, Nat.reduceBNe, Nat.reduceMul, ↓reduceIte, tis, rx, fls, gw, gl]
              refine run_loop (α := Nat) (fun i => i ≤ ls.length) (fun i => [(1, .str ls), (2, .int .i64 m), (3, .box (.agg [.int .i64 r.kind, .sl false 2 (r.set.map eSpan), .sl false 3 (r.kids.map (eRex false))])), (7, .sl true 1 ((Y ++ [w]).map eStr)), (8, .sl true 1 ((level ls n).map eStr)), (9, .int .i64 n), (10, .sl true 1 ((X ++ (ls.take i).map fun c => w ++ [c]).map eStr)), (11, .int .i64 j), (12, .int .i64 i)]) (fun i => ls.length - i) 0 (Nat.zero_le _) ?_ ?_
              · simp -implicitDefEqProofs (maxSteps := 100000) (disch := first | (intros; contradiction) | omega) only [am0, am1, am2, am3, am4, am5, am6, am7, am8, Nat.reduceSub, ↓reduceIte, reduceCtorEq, Nat.reduceEqDiff, Nat.reduceBEq, Nat.reduceAdd, Nat.reduceLT, Nat.reduceBNe, Nat.reduceMul, ↓reduceIte, tis, List.append_nil, hq, eStr, List.map_append, List.map_cons, List.map_nil]
              · intro i hi'
                by_cases hi : i < ls.length
                · have es : (ls.take (i + 1)).drop i = [ls[i]] := by rw [List.drop_take, List.drop_eq_getElem_cons hi, show i + 1 - i = 1 by omega]; rfl
                  have ei : ((i : Int) + 1).toNat = i + 1 := by omega
                  have hXl : (X ++ (ls.take i).map fun c => w ++ [c]).length ≤ 8192 := by simp; omega
                  have eN : (X ++ (ls.take (i + 1)).map fun c => w ++ [c]) = (X ++ (ls.take i).map fun c => w ++ [c]) ++ [w ++ [ls[i]]] := by
                    rw [List.take_succ_eq_append_getElem hi, List.map_append, List.append_assoc]; rfl
                  have hti : (ls.take i).length = i := by simp; omega
                  simp -implicitDefEqProofs (maxSteps := 100000) (disch := first | (intros; contradiction) | omega) only [am0, am1, am2, am3, am4, am5, am6, am7, am8, Nat.reduceSub, ↓reduceIte, reduceCtorEq, Nat.reduceEqDiff, Nat.reduceBEq, Nat.reduceAdd, Nat.reduceLT, Nat.reduceBNe, Nat.reduceMul, ↓reduceIte, tis, rx, fls, es, ei, hw, hti, gw, gl]
                  refine .inl ⟨by kernel_rfl, ?_⟩
                  refine round_normal (i + 1) (by omega) ?_ (by show ls.length - (i + 1) < ls.length - i; omega)
                  simp -implicitDefEqProofs (maxSteps := 100000) (disch := first | (intros; contradiction) | omega) only [am0, am1, am2, am3, am4, am5, am6, am7, am8, Nat.reduceSub, ↓reduceIte, reduceCtorEq, Nat.reduceEqDiff, Nat.reduceBEq, Nat.reduceAdd, Nat.reduceLT, Nat.reduceBNe, Nat.reduceMul, ↓reduceIte, tis, eN, eStr, List.map_append, List.map_cons, List.map_nil]
                · obtain rfl : i = ls.length := by omega
                  have eT : ls.take ls.length = ls := List.take_length
                  simp -implicitDefEqProofs (maxSteps := 100000) (disch := first | (intros; contradiction) | omega) only [am0, am1, am2, am3, am4, am5, am6, am7, am8, Nat.reduceSub, ↓reduceIte, reduceCtorEq, Nat.reduceEqDiff, Nat.reduceBEq, Nat.reduceAdd, Nat.reduceLT, Nat.reduceBNe, Nat.reduceMul, ↓reduceIte, tis, rx, fls]
                  refine round_normal (j + 1) (by omega) ?_ (by show (level ls n).length - (j + 1) < (level ls n).length - j; omega)
                  simp -implicitDefEqProofs (maxSteps := 100000) (disch := first | (intros; contradiction) | omega) only [am0, am1, am2, am3, am4, am5, am6, am7, am8, Nat.reduceSub, ↓reduceIte, reduceCtorEq, Nat.reduceEqDiff, Nat.reduceBEq, Nat.reduceAdd, Nat.reduceLT, Nat.reduceBNe, Nat.reduceMul, ↓reduceIte, tis, eF, eX, hq, eT, extW, List.append_nil]
            | false =>
              simp -implicitDefEqProofs (maxSteps := 100000) (disch := first | (intros; contradiction) | omega) only [am0, am1, am2, am3, am4, am5, am6, am7, am8, Nat.reduceSub, ↓reduceIte, reduceCtorEq, Nat.reduceEqDiff, Nat.reduceBEq, Nat.reduceAdd, Nat.reduceLT, Nat.reduceBNe, Nat.reduceMul, ↓reduceIte, tis, rx, fls, gw, gl]
              refine run_loop (α := Nat) (fun i => i ≤ ls.length) (fun i => [(1, .str ls), (2, .int .i64 m), (3, .box (.agg [.int .i64 r.kind, .sl false 2 (r.set.map eSpan), .sl false 3 (r.kids.map (eRex false))])), (7, .sl true 1 (Y.map eStr)), (8, .sl true 1 ((level ls n).map eStr)), (9, .int .i64 n), (10, .sl true 1 ((X ++ (ls.take i).map fun c => w ++ [c]).map eStr)), (11, .int .i64 j), (12, .int .i64 i)]) (fun i => ls.length - i) 0 (Nat.zero_le _) ?_ ?_
              · simp -implicitDefEqProofs (maxSteps := 100000) (disch := first | (intros; contradiction) | omega) only [am0, am1, am2, am3, am4, am5, am6, am7, am8, Nat.reduceSub, ↓reduceIte, reduceCtorEq, Nat.reduceEqDiff, Nat.reduceBEq, Nat.reduceAdd, Nat.reduceLT, Nat.reduceBNe, Nat.reduceMul, ↓reduceIte, tis, List.append_nil, hq, eStr, List.map_append, List.map_cons, List.map_nil]
              · intro i hi'
                by_cases hi : i < ls.length
                · have es : (ls.take (i + 1)).drop i = [ls[i]] := by rw [List.drop_take, List.drop_eq_getElem_cons hi, show i + 1 - i = 1 by omega]; rfl
                  have ei : ((i : Int) + 1).toNat = i + 1 := by omega
                  have hXl : (X ++ (ls.take i).map fun c => w ++ [c]).length ≤ 8192 := by simp; omega
                  have eN : (X ++ (ls.take (i + 1)).map fun c => w ++ [c]) = (X ++ (ls.take i).map fun c => w ++ [c]) ++ [w ++ [ls[i]]] := by
                    rw [List.take_succ_eq_append_getElem hi, List.map_append, List.append_assoc]; rfl
                  have hti : (ls.take i).length = i := by simp; omega
                  simp -implicitDefEqProofs (maxSteps := 100000) (disch := first | (intros; contradiction) | omega) only [am0, am1, am2, am3, am4, am5, am6, am7, am8, Nat.reduceSub, ↓reduceIte, reduceCtorEq, Nat.reduceEqDiff, Nat.reduceBEq, Nat.reduceAdd, Nat.reduceLT, Nat.reduceBNe, Nat.reduceMul, ↓reduceIte, tis, rx, fls, es, ei, hw, hti, gw, gl]
                  refine .inl ⟨by kernel_rfl, ?_⟩
                  refine round_normal (i + 1) (by omega) ?_ (by show ls.length - (i + 1) < ls.length - i; omega)
                  simp -implicitDefEqProofs (maxSteps := 100000) (disch := first | (intros; contradiction) | omega) only [am0, am1, am2, am3, am4, am5, am6, am7, am8, Nat.reduceSub, ↓reduceIte, reduceCtorEq, Nat.reduceEqDiff, Nat.reduceBEq, Nat.reduceAdd, Nat.reduceLT, Nat.reduceBNe, Nat.reduceMul, ↓reduceIte, tis, eN, eStr, List.map_append, List.map_cons, List.map_nil]
                · obtain rfl : i = ls.length := by omega
                  have eT : ls.take ls.length = ls := List.take_length
                  simp -implicitDefEqProofs (maxSteps := 100000) (disch := first | (intros; contradiction) | omega) only [am0, am1, am2, am3, am4, am5, am6, am7, am8, Nat.reduceSub, ↓reduceIte, reduceCtorEq, Nat.reduceEqDiff, Nat.reduceBEq, Nat.reduceAdd, Nat.reduceLT, Nat.reduceBNe, Nat.reduceMul, ↓reduceIte, tis, rx, fls]
                  refine round_normal (j + 1) (by omega) ?_ (by show (level ls n).length - (j + 1) < (level ls n).length - j; omega)
                  simp -implicitDefEqProofs (maxSteps := 100000) (disch := first | (intros; contradiction) | omega) only [am0, am1, am2, am3, am4, am5, am6, am7, am8, Nat.reduceSub, ↓reduceIte, reduceCtorEq, Nat.reduceEqDiff, Nat.reduceBEq, Nat.reduceAdd, Nat.reduceLT, Nat.reduceBNe, Nat.reduceMul, ↓reduceIte, tis, eF, eX, hq, Bool.false_eq_true, eT, extW, List.append_nil]
          · obtain rfl : j = (level ls n).length := by omega
            have eF : (level ls n).take (level ls n).length = level ls n := List.take_length
            simp -implicitDefEqProofs (maxSteps := 100000) (disch := first | (intros; contradiction) | omega) only [am0, am1, am2, am3, am4, am5, am6, am7, am8, Nat.reduceSub, ↓reduceIte, reduceCtorEq, Nat.reduceEqDiff, Nat.reduceBEq, Nat.reduceAdd, Nat.reduceLT, Nat.reduceBNe, Nat.reduceMul, ↓reduceIte, tis, rx, fls, eF]
            refine round_normal (n + 1) (by omega) ?_ (by show m + 1 - (n + 1) < m + 1 - n; omega)
            simp -implicitDefEqProofs (maxSteps := 100000) (disch := first | (intros; contradiction) | omega) only [am0, am1, am2, am3, am4, am5, am6, am7, am8, Nat.reduceSub, ↓reduceIte, reduceCtorEq, Nat.reduceEqDiff, Nat.reduceBEq, Nat.reduceAdd, Nat.reduceLT, Nat.reduceBNe, Nat.reduceMul, ↓reduceIte, tis, askN, level]
      · obtain rfl : n = m + 1 := by omega
        simp -implicitDefEqProofs (maxSteps := 100000) (disch := first | (intros; contradiction) | omega) only [am0, am1, am2, am3, am4, am5, am6, am7, am8, Nat.reduceSub, ↓reduceIte, reduceCtorEq, Nat.reduceEqDiff, Nat.reduceBEq, Nat.reduceAdd, Nat.reduceLT, Nat.reduceBNe, Nat.reduceMul, ↓reduceIte, tis, rx, fls]
  · have e : askP r ls most = [] := if_neg hg
    rw [e]
    simp only [eRex_eq] at *
    cases h : rexB r with
    | false =>
      rw [h] at cO
      refine fits_of_code [6] [] [0, 1, 2, 3, 6, 7, 8, 9, 10, 11, 12, 29, 34, 41, 49, 60] func14 rfl rfl rfl (by rfl) (by show 3 ≤ 78; decide) (by rfl) (by rfl) (by show 0 ≤ 3; decide) (by rfl) (run_of ?_)
      simp -implicitDefEqProofs (maxSteps := 100000) (disch := first | (intros; contradiction) | omega) only [am0, am1, am2, am3, am4, am5, am6, am7, am8, Nat.reduceSub, ↓reduceIte, reduceCtorEq, Nat.reduceEqDiff, Nat.reduceBEq, Nat.reduceAdd, Nat.reduceLT, Nat.reduceBNe, Nat.reduceMul, ↓reduceIte, tis, rx, fls]
      refine callB cO ?_
      simp -implicitDefEqProofs (maxSteps := 100000) (disch := first | (intros; contradiction) | omega) only [am0, am1, am2, am3, am4, am5, am6, am7, am8, Nat.reduceSub, ↓reduceIte, reduceCtorEq, Nat.reduceEqDiff, Nat.reduceBEq, Nat.reduceAdd, Nat.reduceLT, Nat.reduceBNe, Nat.reduceMul, ↓reduceIte, tis, List.map_nil]
    | true =>
      rw [h] at cO
      by_cases hl : (3 : Int) < ls.length
      · refine fits_of_code [6] [] [0, 1, 2, 3, 6, 7, 8, 9, 10, 11, 12, 29, 34, 41, 49, 60] func14 rfl rfl rfl (by rfl) (by show 3 ≤ 78; decide) (by rfl) (by rfl) (by show 0 ≤ 3; decide) (by rfl) (run_of ?_)
        simp -implicitDefEqProofs (maxSteps := 100000) (disch := first | (intros; contradiction) | omega) only [am0, am1, am2, am3, am4, am5, am6, am7, am8, Nat.reduceSub, ↓reduceIte, reduceCtorEq, Nat.reduceEqDiff, Nat.reduceBEq, Nat.reduceAdd, Nat.reduceLT, Nat.reduceBNe, Nat.reduceMul, ↓reduceIte, tis, rx, fls]
        refine callB cO ?_
        simp -implicitDefEqProofs (maxSteps := 100000) (disch := first | (intros; contradiction) | omega) only [am0, am1, am2, am3, am4, am5, am6, am7, am8, Nat.reduceSub, ↓reduceIte, reduceCtorEq, Nat.reduceEqDiff, Nat.reduceBEq, Nat.reduceAdd, Nat.reduceLT, Nat.reduceBNe, Nat.reduceMul, ↓reduceIte, tis, List.map_nil, hl]
      · have hI : ¬ (0 ≤ most ∧ most ≤ 6) := fun hm => hg ⟨h, by omega, hm⟩
        by_cases h1 : most < 0
        · refine fits_of_code [6] [] [0, 1, 2, 3, 6, 7, 8, 9, 10, 11, 12, 29, 34, 41, 49, 60] func14 rfl rfl rfl (by rfl) (by show 3 ≤ 78; decide) (by rfl) (by rfl) (by show 0 ≤ 3; decide) (by rfl) (run_of ?_)
          simp -implicitDefEqProofs (maxSteps := 100000) (disch := first | (intros; contradiction) | omega) only [am0, am1, am2, am3, am4, am5, am6, am7, am8, Nat.reduceSub, ↓reduceIte, reduceCtorEq, Nat.reduceEqDiff, Nat.reduceBEq, Nat.reduceAdd, Nat.reduceLT, Nat.reduceBNe, Nat.reduceMul, ↓reduceIte, tis, rx, fls]
          refine callB cO ?_
          simp -implicitDefEqProofs (maxSteps := 100000) (disch := first | (intros; contradiction) | omega) only [am0, am1, am2, am3, am4, am5, am6, am7, am8, Nat.reduceSub, ↓reduceIte, reduceCtorEq, Nat.reduceEqDiff, Nat.reduceBEq, Nat.reduceAdd, Nat.reduceLT, Nat.reduceBNe, Nat.reduceMul, ↓reduceIte, tis, List.map_nil, hl, h1]
        · have h2 : 6 < most := by omega
          refine fits_of_code [6] [] [0, 1, 2, 3, 6, 7, 8, 9, 10, 11, 12, 29, 34, 41, 49, 60] func14 rfl rfl rfl (by rfl) (by show 3 ≤ 78; decide) (by rfl) (by rfl) (by show 0 ≤ 3; decide) (by rfl) (run_of ?_)
          simp -implicitDefEqProofs (maxSteps := 100000) (disch := first | (intros; contradiction) | omega) only [am0, am1, am2, am3, am4, am5, am6, am7, am8, Nat.reduceSub, ↓reduceIte, reduceCtorEq, Nat.reduceEqDiff, Nat.reduceBEq, Nat.reduceAdd, Nat.reduceLT, Nat.reduceBNe, Nat.reduceMul, ↓reduceIte, tis, rx, fls]
          refine callB cO ?_
          simp -implicitDefEqProofs (maxSteps := 100000) (disch := first | (intros; contradiction) | omega) only [am0, am1, am2, am3, am4, am5, am6, am7, am8, Nat.reduceSub, ↓reduceIte, reduceCtorEq, Nat.reduceEqDiff, Nat.reduceBEq, Nat.reduceAdd, Nat.reduceLT, Nat.reduceBNe, Nat.reduceMul, ↓reduceIte, tis, List.map_nil, hl, h1, h2]
section
variable {h h' : Array Obj} {S : Nat → Prop}
theorem rl_int {k : IntKind} {n : Int} {xs : List AV} {cs : List Value} {O : Nat → Prop} : RepL h S (.int k n :: xs) cs O ↔ ∃ c2, cs = .int k n :: c2 ∧ RepL h S xs c2 O := by
  simp only [RepL, RepC]
  constructor
  · rintro ⟨c1, c2, O1, O2, rfl, h2, h3, ⟨rfl, h4⟩, h5⟩
    exact ⟨c2, rfl, repL_cong _ h5 (fun k => by rw [h2 k]; exact ⟨fun h => h.resolve_left (h4 k), .inr⟩)⟩
  · rintro ⟨c2, rfl, h5⟩
    exact ⟨[_], c2, fun _ => False, O, rfl, by simp, by simp, ⟨rfl, emp_false⟩, h5⟩
theorem rl_bool {b : Bool} {xs : List AV} {cs : List Value} {O : Nat → Prop} : RepL h S (.bool b :: xs) cs O ↔ ∃ c2, cs = .bool b :: c2 ∧ RepL h S xs c2 O := by
  simp only [RepL, RepC]
  constructor
  · rintro ⟨c1, c2, O1, O2, rfl, h2, h3, ⟨rfl, h4⟩, h5⟩
    exact ⟨c2, rfl, repL_cong _ h5 (fun k => by rw [h2 k]; exact ⟨fun h => h.resolve_left (h4 k), .inr⟩)⟩
  · rintro ⟨c2, rfl, h5⟩
    exact ⟨[_], c2, fun _ => False, O, rfl, by simp, by simp, ⟨rfl, emp_false⟩, h5⟩
theorem rl_str {s : List UInt8} {xs : List AV} {cs : List Value} {O : Nat → Prop} : RepL h S (.str s :: xs) cs O ↔ ∃ c2, cs = .string ⟨s.toArray⟩ :: c2 ∧ RepL h S xs c2 O := by
  simp only [RepL, RepC]
  constructor
  · rintro ⟨c1, c2, O1, O2, rfl, h2, h3, ⟨rfl, h4⟩, h5⟩
    exact ⟨c2, rfl, repL_cong _ h5 (fun k => by rw [h2 k]; exact ⟨fun h => h.resolve_left (h4 k), .inr⟩)⟩
  · rintro ⟨c2, rfl, h5⟩
    exact ⟨[_], c2, fun _ => False, O, rfl, by simp, by simp, ⟨rfl, emp_false⟩, h5⟩
theorem rl_sl {o : Bool} {z : Nat} {l xs : List AV} {cs : List Value} {O : Nat → Prop} : RepL h S (.sl o z l :: xs) cs O ↔ ∃ v c2 O1 O2, cs = v :: c2 ∧ (∀ k, O k ↔ O1 k ∨ O2 k) ∧ (∀ k, O1 k → ¬ O2 k) ∧ RepC h S (.sl o z l) [v] O1 ∧ RepL h S xs c2 O2 := by
  constructor
  · intro r
    simp only [RepL] at r
    obtain ⟨c1, c2, O1, O2, rfl, h2, h3, h4, h5⟩ := r
    have hl := repC_len _ h4
    obtain ⟨v, rfl⟩ := List.length_eq_one_iff.1 (by simpa [ncells] using hl)
    exact ⟨v, c2, O1, O2, rfl, h2, h3, h4, h5⟩
  · rintro ⟨v, c2, O1, O2, rfl, h2, h3, h4, h5⟩
    simp only [RepL]
    exact ⟨[v], c2, O1, O2, rfl, h2, h3, h4, h5⟩
theorem rl_nil {cs : List Value} {O : Nat → Prop} : RepL h S [] cs O ↔ cs = [] ∧ Emp O := by simp only [RepL]
end
/-- laws.eqRexS, of equals -/
theorem fits_eqRexS_of (p : List Rex) (hp : p.length ≤ 1048576) (H : ∀ x ∈ p, Fits prog 30 [eRex false x, eRex false x] (.bool true) []) : Fits prog 94 [.sl false 3 (p.map (eRex false)), .sl false 3 (p.map (eRex false))] (.bool true) [] := by
  refine fits_of_code [4] [] [0, 1, 4, 5, 10, 14, 26] func94 rfl rfl rfl (by rfl) (by show 2 ≤ 27; decide) (by rfl) (by rfl) (by show 0 ≤ 2; decide) (by rfl) (run_of ?_)
  simp -implicitDefEqProofs (maxSteps := 100000) (disch := first | (intros; contradiction) | omega) only [am0, am1, am2, am3, am4, am5, am6, am7, am8, Nat.reduceSub, ↓reduceIte, reduceCtorEq, Nat.reduceEqDiff, Nat.reduceBEq, Nat.reduceAdd, Nat.reduceLT, Nat.reduceBNe, Nat.reduceMul, ↓reduceIte, tis]
  refine run_loop (α := Nat) (fun i => i ≤ p.length) (fun i => [(0, .sl false 3 (p.map (eRex false))), (1, .sl false 3 (p.map (eRex false))), (5, .int .i64 i)]) (fun i => p.length - i) 0 (Nat.zero_le _) ?_ ?_
  · simp -implicitDefEqProofs (maxSteps := 100000) (disch := first | (intros; contradiction) | omega) only [am0, am1, am2, am3, am4, am5, am6, am7, am8, Nat.reduceSub, ↓reduceIte, reduceCtorEq, Nat.reduceEqDiff, Nat.reduceBEq, Nat.reduceAdd, Nat.reduceLT, Nat.reduceBNe, Nat.reduceMul, ↓reduceIte, tis]
  · intro i hi'
    by_cases hi : i < p.length
    · simp -implicitDefEqProofs (maxSteps := 100000) (disch := first | (intros; contradiction) | omega) only [am0, am1, am2, am3, am4, am5, am6, am7, am8, Nat.reduceSub, ↓reduceIte, reduceCtorEq, Nat.reduceEqDiff, Nat.reduceBEq, Nat.reduceAdd, Nat.reduceLT, Nat.reduceBNe, Nat.reduceMul, ↓reduceIte, tis, rx, eRex_eq]
      refine .inl ⟨by kernel_rfl, ?_⟩
      refine callL (H p[i] (List.getElem_mem hi)) ?_
      simp -implicitDefEqProofs (maxSteps := 100000) (disch := first | (intros; contradiction) | omega) only [am0, am1, am2, am3, am4, am5, am6, am7, am8, Nat.reduceSub, ↓reduceIte, reduceCtorEq, Nat.reduceEqDiff, Nat.reduceBEq, Nat.reduceAdd, Nat.reduceLT, Nat.reduceBNe, Nat.reduceMul, ↓reduceIte, tis, rx, eRex_eq]
      refine round_normal (i + 1) (by omega) ?_ (by show p.length - (i + 1) < p.length - i; omega)
      simp -implicitDefEqProofs (maxSteps := 100000) (disch := first | (intros; contradiction) | omega) only [am0, am1, am2, am3, am4, am5, am6, am7, am8, Nat.reduceSub, ↓reduceIte, reduceCtorEq, Nat.reduceEqDiff, Nat.reduceBEq, Nat.reduceAdd, Nat.reduceLT, Nat.reduceBNe, Nat.reduceMul, ↓reduceIte, tis]
    · obtain rfl : i = p.length := by omega
      simp -implicitDefEqProofs (maxSteps := 100000) (disch := first | (intros; contradiction) | omega) only [am0, am1, am2, am3, am4, am5, am6, am7, am8, Nat.reduceSub, ↓reduceIte, reduceCtorEq, Nat.reduceEqDiff, Nat.reduceBEq, Nat.reduceAdd, Nat.reduceLT, Nat.reduceBNe, Nat.reduceMul, ↓reduceIte, tis]
/-- laws.eqRex, of equals -/
theorem fits_eqRex (r : Rex) (hb : bd r ≤ 1048576) : Fits prog 30 [eRex false r, eRex false r] (.bool true) [] := by
  induction r using Rex.ind' with
  | h r ih =>
    have hb' := bd_eq r
    have HS := fits_eqRexS_of r.kids (by omega) (fun x hx => ih x hx (Nat.le_trans (bd_kid hx) hb))
    have HT := fits_eqSpanS r.set r.set (by omega) (by omega)
    rw [eRex_eq]
    refine fits_of_code [4] [] [0, 1, 2, 3, 4, 9, 15, 21] func30 rfl rfl rfl (by rfl) (by show 2 ≤ 22; decide) (by rfl) (by rfl) (by show 0 ≤ 2; decide) (by rfl) (run_of ?_)
    simp -implicitDefEqProofs (maxSteps := 100000) (disch := first | (intros; contradiction) | omega) only [am0, am1, am2, am3, am4, am5, am6, am7, am8, Nat.reduceSub, ↓reduceIte, reduceCtorEq, Nat.reduceEqDiff, Nat.reduceBEq, Nat.reduceAdd, Nat.reduceLT, Nat.reduceBNe, Nat.reduceMul, ↓reduceIte, tis]
    refine callB HT ?_
    simp -implicitDefEqProofs (maxSteps := 100000) (disch := first | (intros; contradiction) | omega) only [am0, am1, am2, am3, am4, am5, am6, am7, am8, Nat.reduceSub, ↓reduceIte, reduceCtorEq, Nat.reduceEqDiff, Nat.reduceBEq, Nat.reduceAdd, Nat.reduceLT, Nat.reduceBNe, Nat.reduceMul, ↓reduceIte, tis, fls, rx]
    refine callB HS ?_
    simp -implicitDefEqProofs (maxSteps := 100000) (disch := first | (intros; contradiction) | omega) only [am0, am1, am2, am3, am4, am5, am6, am7, am8, Nat.reduceSub, ↓reduceIte, reduceCtorEq, Nat.reduceEqDiff, Nat.reduceBEq, Nat.reduceAdd, Nat.reduceLT, Nat.reduceBNe, Nat.reduceMul, ↓reduceIte, tis, fls, rx]
/-- How many marks there are. -/
def ct : Rex → Nat
  | .mk _ s ks => 1 + (2 * s.length + (ks.map ct).sum)
theorem ct_eq (r : Rex) : ct r = 1 + (2 * r.set.length + (r.kids.map ct).sum) := by cases r; rw [ct]; rfl
mutual
def mkR : Rex → Int → Rex
  | .mk _ s ks, k => .mk k (mkSpans s.length (k + 1)) (mkL ks (k + 1 + 2 * s.length))
def mkL : List Rex → Int → List Rex
  | [], _ => []
  | x :: xs, k => mkR x k :: mkL xs (k + ct x)
end
theorem mkR_eq (r : Rex) (k : Int) : mkR r k = .mk k (mkSpans r.set.length (k + 1)) (mkL r.kids (k + 1 + 2 * r.set.length)) := by cases r; rw [mkR]; rfl
theorem mkL_len : ∀ (l : List Rex) (k : Int), (mkL l k).length = l.length
  | [], k => by simp [mkL]
  | x :: l, k => by simp [mkL, mkL_len l]
theorem mkL_app : ∀ (l : List Rex) (x : Rex) (k : Int), mkL (l ++ [x]) k = mkL l k ++ [mkR x (k + ((l.map ct).sum : Nat))]
  | [], x, k => by simp [mkL]
  | y :: l, x, k => by
    simp only [List.cons_append, mkL, mkL_app l x, List.map_cons, List.sum_cons]
    congr 3
    congr 1
    omega
theorem ct_le (r : Rex) : ct r ≤ 1 + 2 * bd r := by
  induction r using Rex.ind' with
  | h r ih =>
    rw [ct_eq, bd_eq]
    have : (r.kids.map ct).sum ≤ r.kids.length + 2 * (r.kids.map bd).sum := by
      generalize r.kids = l at ih
      induction l with
      | nil => simp
      | cons x l ihl =>
        have h1 := ih x (List.mem_cons_self ..)
        have h2 := ihl (fun y hy => ih y (List.mem_cons_of_mem _ hy))
        simp only [List.map_cons, List.sum_cons, List.length_cons]
        omega
    omega
theorem ctL_le (l : List Rex) : (l.map ct).sum ≤ l.length + 2 * (l.map bd).sum := by
  induction l with
  | nil => simp
  | cons x l ih =>
    have := ct_le x
    simp only [List.map_cons, List.sum_cons, List.length_cons]
    omega
/-- laws.markRexS -/
theorem fits_markRexS_of (p : List Rex) (k : Int) (hp : p.length ≤ 1048576) (hb : (p.map bd).sum ≤ 1048576) (h0 : 0 ≤ k) (hk : k + (p.map ct).sum ≤ 1152921504606846976)
    (hs : ∀ x ∈ p, x.set.length ≤ 1048576)
    (H : ∀ x ∈ p, ∀ m : Int, 0 ≤ m → m + (x.kids.map ct).sum ≤ 1152921504606846976 → Fits prog 96 [.sl true 3 (x.kids.map (eRex true)), .int .i64 m] (.int .i64 (m + (x.kids.map ct).sum)) [.sl true 3 ((mkL x.kids m).map (eRex true))]) :
    Fits prog 96 [.sl true 3 (p.map (eRex true)), .int .i64 k] (.int .i64 (k + (p.map ct).sum)) [.sl true 3 ((mkL p k).map (eRex true))] := by
  refine fits_of_code [4] [0] [0, 1, 4, 5, 9] func96 rfl rfl rfl (by rfl) (by show 2 ≤ 34; decide) (by rfl) (by rfl) (by show 1 ≤ 2; decide) (by rfl) (run_of ?_)
  simp -implicitDefEqProofs (maxSteps := 100000) (disch := first | (intros; contradiction) | omega) only [am0, am1, am2, am3, am4, am5, am6, am7, am8, Nat.reduceSub, ↓reduceIte, reduceCtorEq, Nat.reduceEqDiff, Nat.reduceBEq, Nat.reduceAdd, Nat.reduceLT, Nat.reduceBNe, Nat.reduceMul, ↓reduceIte, tis]
  refine run_loop (α := Nat) (fun i => i ≤ p.length) (fun i => [(0, .sl true 3 ((mkL (p.take i) k).map (eRex true) ++ (p.drop i).map (eRex true))), (1, .int .i64 (k + ((p.take i).map ct).sum)), (5, .int .i64 i)]) (fun i => p.length - i) 0 (Nat.zero_le _) ?_ ?_
  · simp -implicitDefEqProofs (maxSteps := 100000) (disch := first | (intros; contradiction) | omega) only [am0, am1, am2, am3, am4, am5, am6, am7, am8, Nat.reduceSub, ↓reduceIte, reduceCtorEq, Nat.reduceEqDiff, Nat.reduceBEq, Nat.reduceAdd, Nat.reduceLT, Nat.reduceBNe, Nat.reduceMul, ↓reduceIte, tis, mkL, List.sum_nil]
  · intro i hi'
    have hA : ((mkL (p.take i) k).map (eRex true)).length = i := by simp [mkL_len]; omega
    have hL : ((mkL (p.take i) k).map (eRex true) ++ (p.drop i).map (eRex true)).length = p.length := by simp [mkL_len]; omega
    by_cases hi : i < p.length
    · have g1 := turn_get _ (eRex true) p i hA hi
      have g2 := fun y => turn_set _ (eRex true) p i y hA hi
      generalize hAA : (mkL (p.take i) k).map (eRex true) = A at *
      have g3 : ∀ y, (A ++ [y] ++ (p.drop (i + 1)).map (eRex true))[i]? = some y := fun y => by
        rw [List.append_assoc, List.getElem?_append_right (by omega), hA, Nat.sub_self]; rfl
      have g4 : ∀ y z, (A ++ [y] ++ (p.drop (i + 1)).map (eRex true)).set i z = A ++ [z] ++ (p.drop (i + 1)).map (eRex true) := fun y z => by
        rw [List.append_assoc, List.set_append_right _ _ (by omega), hA, Nat.sub_self]; simp
      have g5 : ∀ y, (A ++ [y] ++ (p.drop (i + 1)).map (eRex true)).length = p.length := fun y => by simp; omega
      rw [eRex_eq] at g1
      have es := take_sum (l := p.map ct) (i := i) (by simpa using hi)
      rw [List.getElem_map, ct_eq] at es
      have ele := take_sum_le (p.map ct) (i + 1)
      rw [← List.map_take, ← List.map_take] at es
      rw [← List.map_take] at ele
      generalize hK : k + (((p.take i).map ct).sum : Nat) = K at *
      have hK0 : 0 ≤ K := by omega
      have hx := List.getElem_mem hi
      have HT := fits_markSpanS p[i].set (K + 1) (hs _ hx) (by omega) (by have := hs _ hx; omega)
      have HR := H p[i] hx (K + 1 + 2 * p[i].set.length) (by omega) (by omega)
      simp -implicitDefEqProofs (maxSteps := 100000) (disch := first | (intros; contradiction) | omega) only [am0, am1, am2, am3, am4, am5, am6, am7, am8, Nat.reduceSub, ↓reduceIte, reduceCtorEq, Nat.reduceEqDiff, Nat.reduceBEq, Nat.reduceAdd, Nat.reduceLT, Nat.reduceBNe, Nat.reduceMul, ↓reduceIte, tis, hL, g1, g2, g3, g4, g5]
      refine callM 0 HT ?_
      simp -implicitDefEqProofs (maxSteps := 100000) (disch := first | (intros; contradiction) | omega) only [am0, am1, am2, am3, am4, am5, am6, am7, am8, Nat.reduceSub, ↓reduceIte, reduceCtorEq, Nat.reduceEqDiff, Nat.reduceBEq, Nat.reduceAdd, Nat.reduceLT, Nat.reduceBNe, Nat.reduceMul, ↓reduceIte, tis, hL, g1, g2, g3, g4, g5, fls]
      refine callM 0 HR ?_
      simp -implicitDefEqProofs (maxSteps := 100000) (disch := first | (intros; contradiction) | omega) only [am0, am1, am2, am3, am4, am5, am6, am7, am8, Nat.reduceSub, ↓reduceIte, reduceCtorEq, Nat.reduceEqDiff, Nat.reduceBEq, Nat.reduceAdd, Nat.reduceLT, Nat.reduceBNe, Nat.reduceMul, ↓reduceIte, tis, hL, g1, g2, g3, g4, g5, fls, rx]
      refine round_normal (i + 1) (by omega) ?_ (by show p.length - (i + 1) < p.length - i; omega)
      have e1 : mkL (p.take (i + 1)) k = mkL (p.take i) k ++ [mkR p[i] K] := by
        rw [List.take_succ_eq_append_getElem hi, mkL_app, hK]
      simp -implicitDefEqProofs (maxSteps := 100000) (disch := first | (intros; contradiction) | omega) only [am0, am1, am2, am3, am4, am5, am6, am7, am8, Nat.reduceSub, ↓reduceIte, reduceCtorEq, Nat.reduceEqDiff, Nat.reduceBEq, Nat.reduceAdd, Nat.reduceLT, Nat.reduceBNe, Nat.reduceMul, ↓reduceIte, tis, e1, List.map_append, hAA, mkR_eq, eRex]
      omega
    · obtain rfl : i = p.length := by omega
      simp -implicitDefEqProofs (maxSteps := 100000) (disch := first | (intros; contradiction) | omega) only [am0, am1, am2, am3, am4, am5, am6, am7, am8, Nat.reduceSub, ↓reduceIte, reduceCtorEq, Nat.reduceEqDiff, Nat.reduceBEq, Nat.reduceAdd, Nat.reduceLT, Nat.reduceBNe, Nat.reduceMul, ↓reduceIte, tis, mkL_len]
/-- laws.markRexS -/
theorem fits_markKids (r : Rex) (hb : bd r ≤ 1048576) : ∀ m : Int, 0 ≤ m → m + (r.kids.map ct).sum ≤ 1152921504606846976 → Fits prog 96 [.sl true 3 (r.kids.map (eRex true)), .int .i64 m] (.int .i64 (m + (r.kids.map ct).sum)) [.sl true 3 ((mkL r.kids m).map (eRex true))] := by
  induction r using Rex.ind' with
  | h r ih =>
    intro m h0 h1
    have hb' := bd_eq r
    exact fits_markRexS_of r.kids m (by omega) (by omega) h0 h1 (fun x hx => by have := bd_kid hx; have := bd_eq x; omega) (fun x hx => ih x hx (Nat.le_trans (bd_kid hx) hb))
theorem mkL_get (l : List Rex) (k : Int) (i : Nat) (h : i < l.length) : ((mkL l k).map (eRex false)).getD i .undef = eRex false (mkR l[i] (k + ((l.take i).map ct).sum)) := by
  induction l generalizing k i with
  | nil => simp at h
  | cons x l ih =>
    cases i with
    | zero => simp [mkL]
    | succ i =>
      have := ih (k + ct x) i (by simpa using h)
      simp only [mkL, List.map_cons, List.getD_cons_succ, this, List.getElem_cons_succ, List.take_succ_cons, List.sum_cons]
      congr 2
      omega
/-- What is marked of one as a whole. -/
def mkTop (r : Rex) (k : Int) : Rex := .mk r.kind (mkSpans r.set.length k) (mkL r.kids (k + 2 * r.set.length))
/-- laws.markRex -/
theorem fits_markRex (r : Rex) (k : Int) (hb : bd r ≤ 1048576) (h0 : 0 ≤ k) (hk : k ≤ 1048576) :
    Fits prog 31 [eRex true r, .int .i64 k] (.int .i64 (k + 2 * r.set.length + (r.kids.map ct).sum)) [eRex true (mkTop r k)] := by
  have hb' := bd_eq r
  have hct := ctL_le r.kids
  refine ⟨⟨_, func31, by rfl, by rfl⟩, ?_⟩
  intro w vs ok O hall hrep
  simp only [RepWs, eRex_eq] at hrep
  obtain ⟨v0, vs1, Oa, Ob, rfl, e1, e2, r0, v1, vs2, Oc, Od, rfl, e3, e4, r1, rfl, e5⟩ := hrep
  simp only [RepW] at r0 r1
  obtain ⟨cs, rfl, r0⟩ := r0
  simp only [RepC] at r0
  obtain ⟨c1, d1', q1⟩ := rl_int.1 r0
  obtain ⟨s1, c2, O1, O1', d2', a1, a2, rs1, q2⟩ := rl_sl.1 q1
  obtain ⟨s8, c3, O8, O8', d3', a3, a4, rs8, q3⟩ := rl_sl.1 q2
  obtain ⟨d4', q10⟩ := rl_nil.1 q3
  subst d4' d3' d2'
  have hc1 := d1'
  simp only [RepC] at r1
  obtain ⟨r1, r1'⟩ := r1
  have r1 : v1 = .int .i64 k := by simpa using r1
  subst r1
  have hcs : cs = #[.int .i64 r.kind, s1, s8] := by
    apply Array.ext'; rw [hc1]
  subst hcs
  show Calls prog 31 #[.agg #[.int .i64 r.kind, s1, s8], .int .i64 k] w _
  clear q1 q2 q3 r0
  have hO : ∀ k, O k ↔ O1 k ∨ O8 k := by
    intro k
    rw [e1, a1, a3, e3]
    constructor
    · rintro ((h | h | h) | h | h)
      · exact .inl h
      · exact .inr h
      · exact (q10 k h).elim
      · exact (r1' k h).elim
      · exact (e5 k h).elim
    · rintro (h | h)
      · exact .inl (.inl h)
      · exact .inl (.inr (.inl h))
  have hd18 : ∀ k, O1 k → ¬ O8 k := fun k h1 h8 => a2 k h1 ((a3 k).2 (.inl h8))
  have lt1 := repC_lt _ rs1
  have lt8 := repC_lt _ rs8
  clear a1 a2 a3 a4 e1 e2 e3 e4 e5 r1' q10
  generalize hcells : #[.int .i64 r.kind, s1, s8] = cells
  have hc0 : cells[1]? = some s1 := by rw [← hcells]; rfl
  have hc7 : cells[2]? = some s8 := by rw [← hcells]; rfl
  have hag : ∀ {h' : Array Obj} {S' Oz : Nat → Prop}, (∀ k, (ok k ∧ ¬ O k) → k < w.heap.size → S' k ∧ h'[k]? = w.heap[k]?) → (∀ k, Oz k → h'[k]? = w.heap[k]?) → Agree w.heap h' (fun k => ok k ∧ ¬ O k) S' Oz := fun h1 h2 => ⟨h1, h2⟩
  have push : ∀ k, k < w.heap.size → (w.alloc (.cells cells 26)).heap[k]? = w.heap[k]? := fun k hk => push_old _ _ hk
  have hsz : w.heap.size < (w.alloc (.cells cells 26)).heap.size := by show _ < (w.heap.push _).size; rw [Array.size_push]; omega
  have hA := (fits_markSpanS r.set k (by omega) h0 (by omega)).2 (w.alloc (.cells cells 26)) [s1, .int .i64 k] ok O1
    (fun k hk => hk.elim (fun h => hall k (.inl ((hO k).2 (.inl h)))) (fun h => hall k (.inr (Nat.le_trans (Nat.le_of_lt hsz) h))))
    (by
      simp only [RepWs, RepW]
      refine ⟨s1, _, O1, fun _ => False, rfl, by simp, by simp, repC_mono _ rs1 (hag (fun k hk hlt => ⟨⟨hk.1, fun h => hk.2 ((hO k).2 (.inl h))⟩, push k hlt⟩) (fun k hk => push k (lt1 k hk))), .int .i64 k, [], fun _ => False, fun _ => False, rfl, by simp, by simp, ?_, rfl, emp_false⟩
      simp only [RepC]; exact ⟨trivial, emp_false⟩)
  generalize hQ : (fun e w' => _) = Q
  go_enter func31, ntmps31
  go_wp2_with fail
  refine Calls.mono hA ?_
  rintro e w1 ⟨v1, Or1, Oo1, rfl, b1, b2, b3, b4, b5, b6, b7, b8, b9⟩
  have hB : (w.alloc (.cells cells 26)).heap[w.heap.size]? = some (.cells cells 26 (0, 0)) := push_new _ _
  have hB1 : w1.heap[w.heap.size]? = some (.cells cells 26 (0, 0)) := by rw [b5 _ hsz (fun h => absurd (lt1 _ h) (Nat.lt_irrefl _)), hB]
  have hcell : w1.cell? ⟨w.heap.size, 2, none⟩ = some s8 := by rw [cell_eq]; simp [cellH, hB1, hc7]
  have hv1 : v1 = .int .i64 (k + 2 * r.set.length) := by simp only [RepW, RepC] at b6; simpa using b6.1
  subst hv1
  have hOr1 : Emp Or1 := by simp only [RepW, RepC] at b6; exact b6.2
  go_wp2_with fail
  have hw1 : ∀ k, k < w.heap.size → ¬ O1 k → w1.heap[k]? = w.heap[k]? := fun k hk h1 => (b5 k (by omega) h1).trans (push k hk)
  have hA2 := (fits_markKids r hb (k + 2 * r.set.length) (by omega) (by omega)).2 w1 [s8, .int .i64 (k + 2 * r.set.length)] ok O8
    (fun k hk => hk.elim (fun h => hall k (.inl ((hO k).2 (.inr h)))) (fun h => hall k (.inr (by omega))))
    (by
      simp only [RepWs, RepW]
      refine ⟨s8, _, O8, fun _ => False, rfl, by simp, by simp, repC_mono _ rs8 (hag (fun k hk hlt => ⟨⟨hk.1, fun h => hk.2 ((hO k).2 (.inr h))⟩, hw1 k hlt (fun h => hk.2 ((hO k).2 (.inl h)))⟩) (fun k hk => hw1 k (lt8 k hk) (fun h => hd18 k h hk))), .int .i64 (k + 2 * r.set.length), [], fun _ => False, fun _ => False, rfl, by simp, by simp, ?_, rfl, emp_false⟩
      simp only [RepC]; exact ⟨trivial, emp_false⟩)
  refine Calls.mono hA2 ?_
  rintro e w2 ⟨v2, Or2, Oo2, rfl, d1, d2, d3, d4, d5, d6, d7, d8, d9⟩
  have hv2 : v2 = .int .i64 (k + 2 * r.set.length + (r.kids.map ct).sum) := by simp only [RepW, RepC] at d6; simpa using d6.1
  subst hv2
  have hOr2 : Emp Or2 := by simp only [RepW, RepC] at d6; exact d6.2
  go_wp2_with fail
  rw [← hQ]
  simp only [List.take_succ_cons, List.take_zero, List.length_cons, List.length_nil] at b7 d7
  simp only [RepWs, RepW] at b7 d7
  obtain ⟨x1, y1, P1, P1', g1, g2, g3, g4, g5, g6⟩ := b7
  obtain ⟨x2, y2, P2, P2', k1, k2, k3, k4, k5, k6⟩ := d7
  obtain ⟨rfl, rfl⟩ : s1 = x1 ∧ [] = y1 := by simpa using g1
  obtain ⟨rfl, rfl⟩ : s8 = x2 ∧ [] = y2 := by simpa using k1
  have p1 : ∀ k, P1 k → O1 k ∨ (w.alloc (.cells cells 26)).heap.size ≤ k := fun k hk => b9 k (.inr ((g2 k).2 (.inl hk)))
  have p2 : ∀ k, P2 k → O8 k ∨ w1.heap.size ≤ k := fun k hk => d9 k (.inr ((k2 k).2 (.inl hk)))
  have l1 := repC_lt _ g4
  have q1 : ∀ k, P1 k → ¬ O8 k := fun k hk h8 => by
    rcases p1 k hk with h | h
    · exact hd18 k h h8
    · have := lt8 k h8; omega
  have q2 : ∀ k, P1 k → ¬ P2 k := fun k hk hk2 => by
    rcases p2 k hk2 with h | h
    · exact q1 k hk h
    · have := l1 k hk; omega
  refine ⟨.int .i64 (k + 2 * r.set.length + (r.kids.map ct).sum), fun _ => False, fun k => P1 k ∨ P2 k, rfl, d1.trans b1, d2.trans b2, d3.trans b3, by omega, ?_, ?_, ?_, fun _ h => h.elim, ?_⟩
  · intro k hk hn
    rw [d5 k (by omega) (fun h => hn ((hO k).2 (.inr h))), hw1 k hk (fun h => hn ((hO k).2 (.inl h)))]
  · simp only [RepW, RepC]; exact ⟨trivial, emp_false⟩
  · simp only [List.length_cons, List.length_nil, List.take_succ_cons, List.take_zero, RepWs]
    refine ⟨.agg cells, [], fun k => P1 k ∨ P2 k, fun _ => False, rfl, by simp, by simp, ?_, rfl, emp_false⟩
    simp only [mkTop, eRex, RepW]
    refine ⟨cells, rfl, ?_⟩
    simp only [RepC]
    rw [← hcells]
    refine rl_int.2 ⟨_, rfl, rl_sl.2 ⟨s1, _, P1, P2, rfl, fun k => Iff.rfl, q2, ?_, rl_sl.2 ⟨s8, _, P2, fun _ => False, rfl, by simp, by simp, ?_, rl_nil.2 ⟨rfl, emp_false⟩⟩⟩⟩
    · exact repC_closed _ (repC_mono (S' := fun _ => False) _ (repC_closed (S' := fun _ => False) _ g4 (by simp [closed, fls])) ⟨fun k hk => hk.elim, fun k hk => d5 k (l1 k hk) (q1 k hk)⟩) (by simp [closed, fls])
    · exact repC_closed _ k4 (by simp [closed, rx])
  · rintro k (h | h | h)
    · exact h.elim
    · exact (p1 k h).imp (fun h => (hO k).2 (.inl h)) (fun h => by omega)
    · exact (p2 k h).imp (fun h => (hO k).2 (.inr h)) (fun h => by omega)
theorem szA_ok {n : Int} {b : Nat} (h : ¬ (if n - b < 0 then (-1 : Int) else n - b) < 0) : (b : Int) ≤ n := by
  split at h <;> omega
theorem askP_le (r : Rex) (ls : Txt) (m : Int) : (askP r ls m).length ≤ 8192 := by
  unfold askP
  split
  · rename_i h
    have := askN_le r h.2.1 (m.toNat + 1) (by omega)
    omega
  · simp
/-- laws.FnExactAskAll -/
theorem law_AskAll (r : Rex) (hl : Lens r) (ls : Txt) (hls : ls.length ≤ 9223372036854775807) (m : Int) (_ : -9223372036854775808 ≤ m) (_ : m ≤ 9223372036854775807) : Fits prog 5 [eRex false r, .str ls, .int .i64 m] (.bool true) [] := by
  have cZ := fits_szRex r 1048576 hl (by omega) (by omega)
  by_cases h0 : (1048576 : Int) < ls.length
  · rw [eRex_eq] at *
    refine fits_of_code [6] [] [0, 1, 2, 3, 6, 7, 8, 9, 10, 11, 12, 13, 14, 17, 22, 37, 42, 53, 61, 64, 73, 78, 81] func5 rfl rfl rfl (by rfl) (by show 3 ≤ 82; decide) (by rfl) (by rfl) (by show 0 ≤ 3; decide) (by rfl) (run_of ?_)
    simp -implicitDefEqProofs (maxSteps := 100000) (disch := first | (intros; contradiction) | omega) only [am0, am1, am2, am3, am4, am5, am6, am7, am8, Nat.reduceSub, ↓reduceIte, reduceCtorEq, Nat.reduceEqDiff, Nat.reduceBEq, Nat.reduceAdd, Nat.reduceLT, Nat.reduceBNe, Nat.reduceMul, ↓reduceIte, tis, h0]
  by_cases h : (if (1048576 : Int) - bd r < 0 then (-1 : Int) else 1048576 - bd r) < 0
  · rw [eRex_eq] at *
    refine fits_of_code [6] [] [0, 1, 2, 3, 6, 7, 8, 9, 10, 11, 12, 13, 14, 17, 22, 37, 42, 53, 61, 64, 73, 78, 81] func5 rfl rfl rfl (by rfl) (by show 3 ≤ 82; decide) (by rfl) (by rfl) (by show 0 ≤ 3; decide) (by rfl) (run_of ?_)
    simp -implicitDefEqProofs (maxSteps := 100000) (disch := first | (intros; contradiction) | omega) only [am0, am1, am2, am3, am4, am5, am6, am7, am8, Nat.reduceSub, ↓reduceIte, reduceCtorEq, Nat.reduceEqDiff, Nat.reduceBEq, Nat.reduceAdd, Nat.reduceLT, Nat.reduceBNe, Nat.reduceMul, ↓reduceIte, tis, h0]
    refine callB cZ ?_
    simp -implicitDefEqProofs (maxSteps := 100000) (disch := first | (intros; contradiction) | omega) only [am0, am1, am2, am3, am4, am5, am6, am7, am8, Nat.reduceSub, ↓reduceIte, reduceCtorEq, Nat.reduceEqDiff, Nat.reduceBEq, Nat.reduceAdd, Nat.reduceLT, Nat.reduceBNe, Nat.reduceMul, ↓reduceIte, tis, h]
  have hb := szA_ok h
  have hb : bd r ≤ 1048576 := by omega
  have hbb := bd_eq r
  have hc1 := ctL_le r.kids
  have hg := askP_le r ls m
  have cI := fits_toRex r hb
  have cO := fits_sAskAll r hb ls (by omega) m
  have cP := fits_askAll r hb ls (by omega) m
  generalize askP r ls m = g at *
  have cE := fits_eqStringS g g (by omega) (by omega)
  have cL := fits_eqRex r hb
  have cM := fits_markRex r 1 hb (by omega) (by omega)
  have cF := fits_markStringS g 1 (by omega) (by omega) (by omega)
  have cH := fits_heldStringS g.length 1 (by omega) (by omega) (by omega)
  rw [decide_eq_true rfl] at cE
  have cE2 : g = g ↔ True := by simp
  simp only [eRex_eq] at *
  refine fits_of_code [6] [] [0, 1, 2, 3, 6, 7, 8, 9, 10, 11, 12, 13, 14, 17, 22, 37, 42, 53, 61, 64, 73, 78, 81] func5 rfl rfl rfl (by rfl) (by show 3 ≤ 82; decide) (by rfl) (by rfl) (by show 0 ≤ 3; decide) (by rfl) (run_of ?_)
  simp -implicitDefEqProofs (maxSteps := 100000) (disch := first | (intros; contradiction) | omega) only [am0, am1, am2, am3, am4, am5, am6, am7, am8, Nat.reduceSub, ↓reduceIte, reduceCtorEq, Nat.reduceEqDiff, Nat.reduceBEq, Nat.reduceAdd, Nat.reduceLT, Nat.reduceBNe, Nat.reduceMul, ↓reduceIte, tis, h0]
  refine callB cZ ?_
  simp -implicitDefEqProofs (maxSteps := 100000) (disch := first | (intros; contradiction) | omega) only [am0, am1, am2, am3, am4, am5, am6, am7, am8, Nat.reduceSub, ↓reduceIte, reduceCtorEq, Nat.reduceEqDiff, Nat.reduceBEq, Nat.reduceAdd, Nat.reduceLT, Nat.reduceBNe, Nat.reduceMul, ↓reduceIte, tis, h]
  refine callB cI ?_
  simp -implicitDefEqProofs (maxSteps := 100000) (disch := first | (intros; contradiction) | omega) only [am0, am1, am2, am3, am4, am5, am6, am7, am8, Nat.reduceSub, ↓reduceIte, reduceCtorEq, Nat.reduceEqDiff, Nat.reduceBEq, Nat.reduceAdd, Nat.reduceLT, Nat.reduceBNe, Nat.reduceMul, ↓reduceIte, tis, fls, rx]
  refine callB cO ?_
  simp -implicitDefEqProofs (maxSteps := 100000) (disch := first | (intros; contradiction) | omega) only [am0, am1, am2, am3, am4, am5, am6, am7, am8, Nat.reduceSub, ↓reduceIte, reduceCtorEq, Nat.reduceEqDiff, Nat.reduceBEq, Nat.reduceAdd, Nat.reduceLT, Nat.reduceBNe, Nat.reduceMul, ↓reduceIte, tis, fls, rx]
  refine callB cI ?_
  simp -implicitDefEqProofs (maxSteps := 100000) (disch := first | (intros; contradiction) | omega) only [am0, am1, am2, am3, am4, am5, am6, am7, am8, Nat.reduceSub, ↓reduceIte, reduceCtorEq, Nat.reduceEqDiff, Nat.reduceBEq, Nat.reduceAdd, Nat.reduceLT, Nat.reduceBNe, Nat.reduceMul, ↓reduceIte, tis, fls, rx]
  refine callB cP ?_
  simp -implicitDefEqProofs (maxSteps := 100000) (disch := first | (intros; contradiction) | omega) only [am0, am1, am2, am3, am4, am5, am6, am7, am8, Nat.reduceSub, ↓reduceIte, reduceCtorEq, Nat.reduceEqDiff, Nat.reduceBEq, Nat.reduceAdd, Nat.reduceLT, Nat.reduceBNe, Nat.reduceMul, ↓reduceIte, tis, fls, rx]
  refine callB cE ?_
  simp -implicitDefEqProofs (maxSteps := 100000) (disch := first | (intros; contradiction) | omega) only [am0, am1, am2, am3, am4, am5, am6, am7, am8, Nat.reduceSub, ↓reduceIte, reduceCtorEq, Nat.reduceEqDiff, Nat.reduceBEq, Nat.reduceAdd, Nat.reduceLT, Nat.reduceBNe, Nat.reduceMul, ↓reduceIte, tis, fls, rx]
  refine .inl ⟨by kernel_rfl, ?_⟩
  refine callL cI ?_
  simp -implicitDefEqProofs (maxSteps := 100000) (disch := first | (intros; contradiction) | omega) only [am0, am1, am2, am3, am4, am5, am6, am7, am8, Nat.reduceSub, ↓reduceIte, reduceCtorEq, Nat.reduceEqDiff, Nat.reduceBEq, Nat.reduceAdd, Nat.reduceLT, Nat.reduceBNe, Nat.reduceMul, ↓reduceIte, tis, fls, rx]
  refine callL cL ?_
  simp -implicitDefEqProofs (maxSteps := 100000) (disch := first | (intros; contradiction) | omega) only [am0, am1, am2, am3, am4, am5, am6, am7, am8, Nat.reduceSub, ↓reduceIte, reduceCtorEq, Nat.reduceEqDiff, Nat.reduceBEq, Nat.reduceAdd, Nat.reduceLT, Nat.reduceBNe, Nat.reduceMul, ↓reduceIte, tis, fls, rx]
  refine callM 0 cM ?_
  simp -implicitDefEqProofs (maxSteps := 100000) (disch := first | (intros; contradiction) | omega) only [am0, am1, am2, am3, am4, am5, am6, am7, am8, Nat.reduceSub, ↓reduceIte, reduceCtorEq, Nat.reduceEqDiff, Nat.reduceBEq, Nat.reduceAdd, Nat.reduceLT, Nat.reduceBNe, Nat.reduceMul, ↓reduceIte, tis, fls, rx]
  refine callB cE ?_
  simp -implicitDefEqProofs (maxSteps := 100000) (disch := first | (intros; contradiction) | omega) only [am0, am1, am2, am3, am4, am5, am6, am7, am8, Nat.reduceSub, ↓reduceIte, reduceCtorEq, Nat.reduceEqDiff, Nat.reduceBEq, Nat.reduceAdd, Nat.reduceLT, Nat.reduceBNe, Nat.reduceMul, ↓reduceIte, tis, fls, rx]
  refine callM 0 cF ?_
  simp -implicitDefEqProofs (maxSteps := 100000) (disch := first | (intros; contradiction) | omega) only [am0, am1, am2, am3, am4, am5, am6, am7, am8, Nat.reduceSub, ↓reduceIte, reduceCtorEq, Nat.reduceEqDiff, Nat.reduceBEq, Nat.reduceAdd, Nat.reduceLT, Nat.reduceBNe, Nat.reduceMul, ↓reduceIte, tis, fls, rx]
  refine callB cH ?_
  simp -implicitDefEqProofs (maxSteps := 100000) (disch := first | (intros; contradiction) | omega) only [am0, am1, am2, am3, am4, am5, am6, am7, am8, Nat.reduceSub, ↓reduceIte, reduceCtorEq, Nat.reduceEqDiff, Nat.reduceBEq, Nat.reduceAdd, Nat.reduceLT, Nat.reduceBNe, Nat.reduceMul, ↓reduceIte, tis, fls, rx]
  refine callB cI ?_
  simp -implicitDefEqProofs (maxSteps := 100000) (disch := first | (intros; contradiction) | omega) only [am0, am1, am2, am3, am4, am5, am6, am7, am8, Nat.reduceSub, ↓reduceIte, reduceCtorEq, Nat.reduceEqDiff, Nat.reduceBEq, Nat.reduceAdd, Nat.reduceLT, Nat.reduceBNe, Nat.reduceMul, ↓reduceIte, tis, fls, rx]
  refine callB cP ?_
  simp -implicitDefEqProofs (maxSteps := 100000) (disch := first | (intros; contradiction) | omega) only [am0, am1, am2, am3, am4, am5, am6, am7, am8, Nat.reduceSub, ↓reduceIte, reduceCtorEq, Nat.reduceEqDiff, Nat.reduceBEq, Nat.reduceAdd, Nat.reduceLT, Nat.reduceBNe, Nat.reduceMul, ↓reduceIte, tis, fls, rx]
  refine callB cE ?_
  simp -implicitDefEqProofs (maxSteps := 100000) (disch := first | (intros; contradiction) | omega) only [am0, am1, am2, am3, am4, am5, am6, am7, am8, Nat.reduceSub, ↓reduceIte, reduceCtorEq, Nat.reduceEqDiff, Nat.reduceBEq, Nat.reduceAdd, Nat.reduceLT, Nat.reduceBNe, Nat.reduceMul, ↓reduceIte, tis, fls, rx]
  refine callB cH ?_
  simp -implicitDefEqProofs (maxSteps := 100000) (disch := first | (intros; contradiction) | omega) only [am0, am1, am2, am3, am4, am5, am6, am7, am8, Nat.reduceSub, ↓reduceIte, reduceCtorEq, Nat.reduceEqDiff, Nat.reduceBEq, Nat.reduceAdd, Nat.reduceLT, Nat.reduceBNe, Nat.reduceMul, ↓reduceIte, tis, fls, rx]
theorem own : ownKnob prog.godebug = none := by kernel_rfl
theorem laidOut : laidOutB prog = true := by kernel_rfl
theorem typ_int {n : Nat} {x : AV} (h : Typed prog n 3 x) : ∃ v, x = .int .i64 v ∧ -9223372036854775808 ≤ v ∧ v ≤ 9223372036854775807 := by
  cases n with
  | zero => exact h.elim
  | succ n =>
    simp only [Typed, underlying3] at h
    obtain ⟨v, rfl, hw⟩ := h
    refine ⟨v, rfl, ?_⟩
    simp [Lit.wf, IntKind.min, IntKind.max, IntKind.bits, IntKind.signed] at hw
    omega
theorem typ_str {n : Nat} {x : AV} (h : Typed prog n 9 x) : ∃ s, x = .str s ∧ s.length ≤ 9223372036854775807 := by
  cases n with
  | zero => exact h.elim
  | succ n => simp only [Typed, underlying9] at h; exact h
theorem typ_bool {n : Nat} {x : AV} (h : Typed prog n 4 x) : ∃ b, x = .bool b := by
  cases n with
  | zero => exact h.elim
  | succ n => simp only [Typed, underlying4] at h; exact h
theorem all_map {α : Type} (f : α → AV) : ∀ xs : List AV, (∀ y ∈ xs, ∃ i, y = f i) → ∃ is : List α, xs = is.map f
  | [], _ => ⟨[], rfl⟩
  | y :: r, h => by
    obtain ⟨i, rfl⟩ := h y (List.mem_cons_self ..)
    obtain ⟨is, rfl⟩ := all_map f r (fun z hz => h z (List.mem_cons_of_mem _ hz))
    exact ⟨i :: is, rfl⟩
theorem co_span : prog.cellsOf 162 = 2 := by kernel_rfl
theorem co_rex : prog.cellsOf 44 = 3 := by kernel_rfl
theorem typ_span {n : Nat} {x : AV} (h : Typed prog n 162 x) : ∃ i, x = eSpan i := by
  cases n with
  | zero => exact h.elim
  | succ n =>
    simp only [Typed, underlying162] at h
    obtain ⟨ys, rfl, hl, hf⟩ := h
    match ys, hl, hf with
    | [a, b], _, hf =>
      obtain ⟨a', rfl, _⟩ := typ_int (hf 0 _ a rfl rfl)
      obtain ⟨b', rfl, _⟩ := typ_int (hf 1 _ b rfl rfl)
      exact ⟨⟨a', b'⟩, rfl⟩
theorem typ_spans {n : Nat} {x : AV} (h : Typed prog n 41 x) : ∃ p : List Span, x = .sl false 2 (p.map eSpan) ∧ p.length ≤ 9223372036854775807 := by
  cases n with
  | zero => exact h.elim
  | succ n =>
    simp only [Typed, underlying41, co_span] at h
    obtain ⟨xs, rfl, hl, hf⟩ := h
    obtain ⟨p, rfl⟩ := all_map eSpan xs (fun y hy => typ_span (hf y hy))
    exact ⟨p, rfl, by simpa [maxLen] using hl⟩
theorem all_mapP {α : Type} (f : α → AV) (Q : α → Prop) : ∀ xs : List AV, (∀ y ∈ xs, ∃ i, y = f i ∧ Q i) → ∃ is : List α, xs = is.map f ∧ ∀ i ∈ is, Q i
  | [], _ => ⟨[], rfl, by simp⟩
  | y :: r, h => by
    obtain ⟨i, rfl, hi⟩ := h y (List.mem_cons_self ..)
    obtain ⟨is, rfl, hr⟩ := all_mapP f Q r (fun z hz => h z (List.mem_cons_of_mem _ hz))
    exact ⟨i :: is, rfl, fun j hj => (List.mem_cons.1 hj).elim (fun e => e ▸ hi) (hr j)⟩
theorem typ_rex : ∀ {n : Nat} {x : AV}, Typed prog n 44 x → ∃ r, x = eRex false r ∧ Lens r
  | 0, x, h => h.elim
  | n + 1, x, h => by
    simp only [Typed, underlying44] at h
    obtain ⟨ys, rfl, hl, hf⟩ := h
    match ys, hl, hf with
    | [a, b, c], _, hf =>
      obtain ⟨k, rfl, _⟩ := typ_int (hf 0 _ a rfl rfl)
      obtain ⟨s, rfl, hs⟩ := typ_spans (hf 1 _ b rfl rfl)
      have hc := hf 2 _ c rfl rfl
      cases n with
      | zero => exact hc.elim
      | succ n =>
        simp only [Typed, underlying42, co_rex] at hc
        obtain ⟨xs, rfl, hl2, hf2⟩ := hc
        obtain ⟨p, rfl, hp⟩ := all_mapP (eRex false) Lens xs (fun y hy => typ_rex (hf2 y hy))
        have hl3 : p.length ≤ 9223372036854775807 := by simpa [maxLen] using hl2
        refine ⟨.mk k s p, by rw [eRex, show prog.cellsOf 44 = 3 from co_rex], .mk _ hs hl3 hp⟩
end Go.Proofs.Ytonljcfflamccaa.U
