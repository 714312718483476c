/- What functions of the program answer, on values without memory (part 2): conditions stand at each theorem. -/
import Derived.Test.YtonljcfflamccaaRows
import Derived.Test.YtonljcfflamccaaProgOfU1
set_option linter.unusedVariables false
set_option linter.unusedSimpArgs false
set_option maxRecDepth 100000
set_option maxHeartbeats 4000000
namespace Go.Proofs.Ytonljcfflamccaa.U
open Go Go.RowKit Go.Proofs Go.Proofs.Ytonljcfflamccaa.Am AV Go.Proofs.Try
def uni (L : List (List Span)) (i c : Nat) : Bool := (L.take i).any (fun p => hasB p (c : Nat))
def uB (L : List (List Span)) (i : Nat) (p : List Span) (b : Nat) : List Bool := (List.range 256).map fun c => uni L i c || (decide (c < b) && hasB p (c : Nat))
def uT (L : List (List Span)) (i : Nat) : List Bool := (List.range 256).map fun c => uni L i c
theorem uB_len (L : List (List Span)) (i : Nat) (p : List Span) (b : Nat) : (uB L i p b).length = 256 := by simp [uB]
theorem uB_0 (L : List (List Span)) (i : Nat) (p : List Span) : uB L i p 0 = uT L i := by simp [uB, uT]
theorem uT_0 (L : List (List Span)) : uT L 0 = List.replicate 256 false := by
  unfold uT uni
  simp only [List.take_zero, List.any_nil]
  exact List.map_const' ..
theorem uB_getD (L : List (List Span)) (i : Nat) (p : List Span) {b : Nat} (hb : b < 256) : (uB L i p b).getD b false = uni L i b := by
  have h1 : b < (uB L i p b).length := by rw [uB_len]; exact hb
  simp only [List.getD, List.getElem?_eq_getElem h1, Option.getD_some]
  simp [uB]
theorem uB_set (L : List (List Span)) (i : Nat) (p : List Span) {b : Nat} (hb : b < 256) (h : hasB p (b : Nat) = true) : (uB L i p b).set b true = uB L i p (b + 1) := by
  apply List.ext_getElem
  · simp [uB_len]
  · intro c h1 h2
    rw [List.getElem_set]
    by_cases e : b = c
    · subst e; simp [uB, h]
    · rw [if_neg e]
      simp only [uB, List.getElem_map, List.getElem_range]
      congr 2
      rw [decide_eq_decide]; omega
theorem uB_skip (L : List (List Span)) (i : Nat) (p : List Span) {b : Nat} (h : hasB p (b : Nat) = false) : uB L i p (b + 1) = uB L i p b := by
  unfold uB
  refine List.map_congr_left fun c _ => ?_
  by_cases e : c = b
  · subst e; simp [h]
  · congr 2
    rw [decide_eq_decide]; omega
theorem uB_end (L : List (List Span)) (i : Nat) (hi : i < L.length) : uB L i L[i] 256 = uT L (i + 1) := by
  unfold uB uT
  refine List.map_congr_left fun c hc => ?_
  have hc : c < 256 := by simpa using hc
  unfold uni
  rw [decide_eq_true hc, Bool.true_and, List.take_succ_eq_append_getElem hi, List.any_append]
  simp
def lastV (L : List (List Span)) (i : Nat) : Int := if i = 0 then -1 else firstB (L.getD (i - 1) [])
theorem lastV_s (L : List (List Span)) (i : Nat) (hi : i < L.length) : lastV L (i + 1) = firstB L[i] := by
  unfold lastV
  rw [if_neg (by omega)]
  simp [List.getD, hi]
theorem uni_f {L : List (List Span)} {i k c : Nat} (hk : k < i) (hi : i < L.length) (h : uni L i c = false) : hasB (L.getD k []) (c : Nat) = false := by
  unfold uni at h
  rw [List.any_eq_false] at h
  have hkl : k < L.length := by omega
  have : L[k] ∈ L.take i := List.mem_take_iff_getElem.2 ⟨k, by omega, rfl⟩
  have := h _ this
  simp only [List.getD, List.getElem?_eq_getElem hkl, Option.getD_some]
  simpa using this
theorem uni_t {L : List (List Span)} {i c : Nat} (hi : i < L.length) (h : uni L i c = true) : ∃ k, k < i ∧ hasB (L.getD k []) (c : Nat) = true := by
  unfold uni at h
  rw [List.any_eq_true] at h
  obtain ⟨p, hp, hh⟩ := h
  obtain ⟨k, hk, rfl⟩ := List.mem_take_iff_getElem.1 hp
  refine ⟨k, by omega, ?_⟩
  have hkl : k < L.length := by omega
  simp only [List.getD, List.getElem?_eq_getElem hkl, Option.getD_some]
  exact hh
/-- impl.DfaOk -/
theorem fits_dfaOk (d : Dfa) (h : Small d) : Fits prog 127 [eDfa false d] (.bool (dfaB d)) [] := by
  have hr := h.r
  have ha := h.a
  have hp := h.p
  have hpc := h.pc
  have dp : partsB d.parts = false → dfaB d = false := fun e => by unfold dfaB; rw [e]; rfl
  have e0 : (uT d.parts 0).map eBool = List.replicate 256 (.bool false) := by rw [uT_0]; simp [eBool]
  unfold eDfa
  refine fits_of_code [2] [] [0, 1, 2, 3, 4, 5, 7, 8, 9, 10, 11, 13, 15, 16, 17, 18, 36, 42, 43, 44, 52, 53, 77, 79, 80, 81, 82, 100, 101, 102, 103, 104, 113] func127 rfl rfl rfl (by rfl) (by show 1 ≤ 116; decide) (by rfl) (by rfl) (by show 0 ≤ 1; decide) (by rfl) (run_of ?_)
  simp -implicitDefEqProofs (maxSteps := 100000) (disch := first | (intros; contradiction) | omega) only [am0, am1, am2, am3, am4, am5, am6, am7, am8, am9, Nat.reduceSub, ↓reduceIte, reduceCtorEq, Nat.reduceEqDiff, Nat.reduceBEq, Nat.reduceAdd, Nat.reduceLT, Nat.reduceBNe, Nat.reduceMul, ↓reduceIte, tis, fls, dx]
  refine run_loop (α := Nat) (fun i => i ≤ d.parts.length ∧ ∀ j, j < i → partN d.parts j = true) (fun i => [(1, .box (.agg [.sl false 1 (d.parts.map (eSpans false)), .sl false 1 (d.rows.map (eInts false)), .sl false 1 (d.acc.map eInt)])), (3, .box (.arr 1 ((uT d.parts i).map eBool))), (4, .int .i64 (lastV d.parts i)), (5, .int .i64 ((((d.parts.take i).map cntB).sum : Nat))), (15, .sl false 1 (d.parts.map (eSpans false))), (16, .int .i64 d.parts.length), (17, .int .i64 i)]) (fun i => d.parts.length - i) 0 ⟨Nat.zero_le _, by intros; omega⟩ ?_ ?_
  · simp -implicitDefEqProofs (maxSteps := 100000) (disch := first | (intros; contradiction) | omega) only [am0, am1, am2, am3, am4, am5, am6, am7, am8, am9, Nat.reduceSub, ↓reduceIte, reduceCtorEq, Nat.reduceEqDiff, Nat.reduceBEq, Nat.reduceAdd, Nat.reduceLT, Nat.reduceBNe, Nat.reduceMul, ↓reduceIte, tis, e0, List.map_nil, List.sum_nil, lastV]
  · rintro i ⟨hi', hb⟩
    by_cases hi : i < d.parts.length
    · have hci := hpc _ (List.getElem_mem hi)
      have hP := partN_at hi
      have hS := sum_take hi
      have hsl := sum_le (d.parts.take i)
      have hcl : cntB d.parts[i] ≤ 256 := cntN_le d.parts[i] 256
      have htl : (d.parts.take i).length = i := by simp; omega
      have c1 := fits_setOk d.parts[i] (by omega)
      have cB := fits_bitsOf d.parts[i] (by omega)
      have gi : (d.parts.map (eSpans false)).getD i .undef = .sl false 2 (d.parts[i].map eSpan) := by simp [List.getD, hi, eSpans]
      have gi2 : (d.parts.map (eSpans false))[i]? = some (.sl false 2 (d.parts[i].map eSpan)) := by simp [hi, eSpans]
      have hU := uB_end d.parts i hi
      have hLs := lastV_s d.parts i hi
      have hset : ∀ k, k < i → setB (d.parts.getD k []) = true := fun k hk => by
        have hkl : k < d.parts.length := by omega
        simp only [List.getD, List.getElem?_eq_getElem hkl, Option.getD_some]
        exact (partN_set hkl (hb k hk)).1
      generalize hpe : d.parts[i] = p at *
      by_cases g1 : setB p = true
      case neg =>
        have g1 : setB p = false := by simpa using g1
        have hf := dp (partsB_f hi (by rw [hP, g1]; rfl))
        rw [g1] at c1
        simp -implicitDefEqProofs (maxSteps := 100000) (disch := first | (intros; contradiction) | omega) only [am0, am1, am2, am3, am4, am5, am6, am7, am8, am9, Nat.reduceSub, ↓reduceIte, reduceCtorEq, Nat.reduceEqDiff, Nat.reduceBEq, Nat.reduceAdd, Nat.reduceLT, Nat.reduceBNe, Nat.reduceMul, ↓reduceIte, tis, fls, gi, gi2]
        refine callB c1 ?_
        simp -implicitDefEqProofs (maxSteps := 100000) (disch := first | (intros; contradiction) | omega) only [am0, am1, am2, am3, am4, am5, am6, am7, am8, am9, Nat.reduceSub, ↓reduceIte, reduceCtorEq, Nat.reduceEqDiff, Nat.reduceBEq, Nat.reduceAdd, Nat.reduceLT, Nat.reduceBNe, Nat.reduceMul, ↓reduceIte, tis, fls, hf]
      rw [g1] at c1
      by_cases g2 : p.length = 0
      · have hf := dp (partsB_f hi (by rw [hP, g1, decide_eq_false (by omega)]; rfl))
        have g2' : (p.length : Int) = 0 := by omega
        simp -implicitDefEqProofs (maxSteps := 100000) (disch := first | (intros; contradiction) | omega) only [am0, am1, am2, am3, am4, am5, am6, am7, am8, am9, Nat.reduceSub, ↓reduceIte, reduceCtorEq, Nat.reduceEqDiff, Nat.reduceBEq, Nat.reduceAdd, Nat.reduceLT, Nat.reduceBNe, Nat.reduceMul, ↓reduceIte, tis, fls, gi, gi2]
        refine callB c1 ?_
        simp -implicitDefEqProofs (maxSteps := 100000) (disch := first | (intros; contradiction) | omega) only [am0, am1, am2, am3, am4, am5, am6, am7, am8, am9, Nat.reduceSub, ↓reduceIte, reduceCtorEq, Nat.reduceEqDiff, Nat.reduceBEq, Nat.reduceAdd, Nat.reduceLT, Nat.reduceBNe, Nat.reduceMul, ↓reduceIte, tis, fls, g2', hf]
      have g2' : ¬ (p.length : Int) = 0 := by omega
      have hp0 : 0 < p.length := by omega
      have hfp := firstB_set g1 hp0
      have hlo := (setB_at g1 0 hp0).1
      by_cases g3 : p[0].lo ≤ lastV d.parts i
      · have hf := dp (partsB_f hi (by
          unfold lastV at g3
          by_cases e : i = 0
          · rw [if_pos e] at g3; omega
          · rw [if_neg e] at g3
            rw [hP, decide_eq_false e, decide_eq_false (show ¬ firstB (d.parts.getD (i - 1) []) < firstB p by omega)]; simp))
        simp -implicitDefEqProofs (maxSteps := 100000) (disch := first | (intros; contradiction) | omega) only [am0, am1, am2, am3, am4, am5, am6, am7, am8, am9, Nat.reduceSub, ↓reduceIte, reduceCtorEq, Nat.reduceEqDiff, Nat.reduceBEq, Nat.reduceAdd, Nat.reduceLT, Nat.reduceBNe, Nat.reduceMul, ↓reduceIte, tis, fls, gi, gi2]
        refine callB c1 ?_
        simp -implicitDefEqProofs (maxSteps := 100000) (disch := first | (intros; contradiction) | omega) only [am0, am1, am2, am3, am4, am5, am6, am7, am8, am9, Nat.reduceSub, ↓reduceIte, reduceCtorEq, Nat.reduceEqDiff, Nat.reduceBEq, Nat.reduceAdd, Nat.reduceLT, Nat.reduceBNe, Nat.reduceMul, ↓reduceIte, tis, fls, g2', eSpan, g3, hf]
      have hP2 : partN d.parts i = (List.range i).all (fun k => disjB p (d.parts.getD k [])) := by
        rw [hP, g1, decide_eq_true hp0]
        have : (decide (i = 0) || decide (firstB (d.parts.getD (i - 1) []) < firstB p)) = true := by
          unfold lastV at g3
          by_cases e : i = 0
          · simp [e]
          · rw [if_neg e] at g3
            rw [decide_eq_true (show firstB (d.parts.getD (i - 1) []) < firstB p by omega)]; simp
        rw [this]; simp
      have hU0 := uB_0 d.parts i p
      rw [← hU0]
      simp -implicitDefEqProofs (maxSteps := 100000) (disch := first | (intros; contradiction) | omega) only [am0, am1, am2, am3, am4, am5, am6, am7, am8, am9, Nat.reduceSub, ↓reduceIte, reduceCtorEq, Nat.reduceEqDiff, Nat.reduceBEq, Nat.reduceAdd, Nat.reduceLT, Nat.reduceBNe, Nat.reduceMul, ↓reduceIte, tis, fls, gi, gi2]
      refine callB c1 ?_
      simp -implicitDefEqProofs (maxSteps := 100000) (disch := first | (intros; contradiction) | omega) only [am0, am1, am2, am3, am4, am5, am6, am7, am8, am9, Nat.reduceSub, ↓reduceIte, reduceCtorEq, Nat.reduceEqDiff, Nat.reduceBEq, Nat.reduceAdd, Nat.reduceLT, Nat.reduceBNe, Nat.reduceMul, ↓reduceIte, tis, fls, g2', eSpan, g3]
      refine callB cB ?_
      simp -implicitDefEqProofs (maxSteps := 100000) (disch := first | (intros; contradiction) | omega) only [am0, am1, am2, am3, am4, am5, am6, am7, am8, am9, Nat.reduceSub, ↓reduceIte, reduceCtorEq, Nat.reduceEqDiff, Nat.reduceBEq, Nat.reduceAdd, Nat.reduceLT, Nat.reduceBNe, Nat.reduceMul, ↓reduceIte, tis, fls]
      refine run_loop (α := Nat) (fun b => b ≤ 256 ∧ ∀ c, c < b → hasB p (c : Nat) = true → uni d.parts i c = false) (fun b => [(1, .box (.agg [.sl false 1 (d.parts.map (eSpans false)), .sl false 1 (d.rows.map (eInts false)), .sl false 1 (d.acc.map eInt)])), (3, .box (.arr 1 ((uB d.parts i p b).map eBool))), (4, .int .i64 p[0].lo), (5, .int .i64 (((((d.parts.take i).map cntB).sum + cntN p b : Nat)))), (15, .sl false 1 (d.parts.map (eSpans false))), (16, .int .i64 d.parts.length), (17, .int .i64 i), (42, .arr 1 ((bitsL p).map eBool)), (43, .int .i64 b)]) (fun b => 256 - b) 0 ⟨Nat.zero_le _, by intros; omega⟩ ?_ ?_
      · simp -implicitDefEqProofs (maxSteps := 100000) (disch := first | (intros; contradiction) | omega) only [am0, am1, am2, am3, am4, am5, am6, am7, am8, am9, Nat.reduceSub, ↓reduceIte, reduceCtorEq, Nat.reduceEqDiff, Nat.reduceBEq, Nat.reduceAdd, Nat.reduceLT, Nat.reduceBNe, Nat.reduceMul, ↓reduceIte, tis, cntN, List.range_zero, List.filter_nil, List.length_nil]
      · rintro b ⟨hb', hbb⟩
        have hcn := cntN_le p b
        have hul := uB_len d.parts i p b
        have hbl := bitsL_len p
        by_cases hb1 : b < 256
        · have gB := getBool (bitsL p) b (by omega)
          rw [bitsL_getD p b hb1] at gB
          have gB2 : ((bitsL p).map eBool).getD b .undef = .bool (hasB p b) := by simp [List.getD, gB]
          have gU := getBool (uB d.parts i p b) b (by omega)
          rw [uB_getD d.parts i p hb1] at gU
          have hub : b < (uB d.parts i p b).length := by omega
          have gU2 : eBool (uB d.parts i p b)[b] = .bool (uni d.parts i b) := by
            have := uB_getD d.parts i p hb1
            simp only [List.getD, List.getElem?_eq_getElem hub, Option.getD_some] at this
            rw [this]; rfl
          have bl : ∀ x, x ∈ List.map eBool (bitsL p) → false = x.isAgg ∧ x.stor = true := by
            intro x hx; obtain ⟨y, _, rfl⟩ := List.mem_map.1 hx; exact ⟨rfl, rfl⟩
          have hcs := cntN_s p b
          cases hpb : hasB p (b : Nat) with
          | false =>
            rw [hpb] at gB gB2 hcs
            rw [if_neg (by simp), Nat.add_zero] at hcs
            have hsk := uB_skip d.parts i p hpb
            simp -implicitDefEqProofs (maxSteps := 100000) (disch := first | (intros; contradiction) | omega) only [am0, am1, am2, am3, am4, am5, am6, am7, am8, am9, Nat.reduceSub, ↓reduceIte, reduceCtorEq, Nat.reduceEqDiff, Nat.reduceBEq, Nat.reduceAdd, Nat.reduceLT, Nat.reduceBNe, Nat.reduceMul, ↓reduceIte, tis, fls, gB, gB2, hbl]
            refine ⟨bl, ?_⟩
            refine round_normal (b + 1) ⟨by omega, fun c hc hh => ?_⟩ ?_ (by show 256 - (b + 1) < 256 - b; omega)
            · by_cases e : c = b
              · subst e; rw [hpb] at hh; cases hh
              · exact hbb c (by omega) hh
            · simp -implicitDefEqProofs (maxSteps := 100000) (disch := first | (intros; contradiction) | omega) only [am0, am1, am2, am3, am4, am5, am6, am7, am8, am9, Nat.reduceSub, ↓reduceIte, reduceCtorEq, Nat.reduceEqDiff, Nat.reduceBEq, Nat.reduceAdd, Nat.reduceLT, Nat.reduceBNe, Nat.reduceMul, ↓reduceIte, tis, hsk, hcs]
          | true =>
            rw [hpb] at gB gB2 hcs
            rw [if_pos rfl] at hcs
            cases hu : uni d.parts i b with
            | true =>
              obtain ⟨k, hk, hkh⟩ := uni_t hi hu
              have hd : disjB p (d.parts.getD k []) = false := by
                cases hx : disjB p (d.parts.getD k []) with
                | false => rfl
                | true =>
                  have := (disjB_iff g1 (hset k hk)).1 hx b hb1 hpb
                  rw [hkh] at this; cases this
              have hf := dp (partsB_f hi (by rw [hP2, List.all_eq_false]; exact ⟨k, by simpa using hk, by rw [hd]; simp⟩))
              rw [hu] at gU gU2
              simp -implicitDefEqProofs (maxSteps := 100000) (disch := first | (intros; contradiction) | omega) only [am0, am1, am2, am3, am4, am5, am6, am7, am8, am9, Nat.reduceSub, ↓reduceIte, reduceCtorEq, Nat.reduceEqDiff, Nat.reduceBEq, Nat.reduceAdd, Nat.reduceLT, Nat.reduceBNe, Nat.reduceMul, ↓reduceIte, tis, fls, gB, gB2, hbl]
              refine ⟨bl, ?_⟩
              simp -implicitDefEqProofs (maxSteps := 100000) (disch := first | (intros; contradiction) | omega) only [am0, am1, am2, am3, am4, am5, am6, am7, am8, am9, Nat.reduceSub, ↓reduceIte, reduceCtorEq, Nat.reduceEqDiff, Nat.reduceBEq, Nat.reduceAdd, Nat.reduceLT, Nat.reduceBNe, Nat.reduceMul, ↓reduceIte, tis, fls, gU, gU2, hul, hf]
            | false =>
              rw [hu] at gU gU2
              have hse := uB_set d.parts i p hb1 hpb
              have hsb := setBool (uB d.parts i p b) b true
              rw [hse] at hsb
              simp -implicitDefEqProofs (maxSteps := 100000) (disch := first | (intros; contradiction) | omega) only [am0, am1, am2, am3, am4, am5, am6, am7, am8, am9, Nat.reduceSub, ↓reduceIte, reduceCtorEq, Nat.reduceEqDiff, Nat.reduceBEq, Nat.reduceAdd, Nat.reduceLT, Nat.reduceBNe, Nat.reduceMul, ↓reduceIte, tis, fls, gB, gB2, hbl]
              refine ⟨bl, ?_⟩
              simp -implicitDefEqProofs (maxSteps := 100000) (disch := first | (intros; contradiction) | omega) only [am0, am1, am2, am3, am4, am5, am6, am7, am8, am9, Nat.reduceSub, ↓reduceIte, reduceCtorEq, Nat.reduceEqDiff, Nat.reduceBEq, Nat.reduceAdd, Nat.reduceLT, Nat.reduceBNe, Nat.reduceMul, ↓reduceIte, tis, fls, gU, gU2, hul, hsb]
              refine round_normal (b + 1) ⟨by omega, fun c hc hh => ?_⟩ ?_ (by show 256 - (b + 1) < 256 - b; omega)
              · by_cases e : c = b
                · subst e; exact hu
                · exact hbb c (by omega) hh
              · simp -implicitDefEqProofs (maxSteps := 100000) (disch := first | (intros; contradiction) | omega) only [am0, am1, am2, am3, am4, am5, am6, am7, am8, am9, Nat.reduceSub, ↓reduceIte, reduceCtorEq, Nat.reduceEqDiff, Nat.reduceBEq, Nat.reduceAdd, Nat.reduceLT, Nat.reduceBNe, Nat.reduceMul, ↓reduceIte, tis, hcs]
                omega
        · obtain rfl : b = 256 := by omega
          have hc256 : cntN p 256 = cntB p := rfl
          rw [hU, hc256, ← hS, ← hfp, ← hLs]
          simp -implicitDefEqProofs (maxSteps := 100000) (disch := first | (intros; contradiction) | omega) only [am0, am1, am2, am3, am4, am5, am6, am7, am8, am9, Nat.reduceSub, ↓reduceIte, reduceCtorEq, Nat.reduceEqDiff, Nat.reduceBEq, Nat.reduceAdd, Nat.reduceLT, Nat.reduceBNe, Nat.reduceMul, ↓reduceIte, tis, fls]
          refine round_normal (i + 1) ⟨by omega, fun j hj => ?_⟩ ?_ (by show d.parts.length - (i + 1) < d.parts.length - i; omega)
          · by_cases e : j = i
            · subst e
              rw [hP2, List.all_eq_true]
              intro k hk
              have hk : k < j := by simpa using hk
              exact (disjB_iff g1 (hset k hk)).2 fun c hc hh => uni_f hk hi (hbb c hc hh)
            · exact hb j (by omega)
          · simp -implicitDefEqProofs (maxSteps := 100000) (disch := first | (intros; contradiction) | omega) only [am0, am1, am2, am3, am4, am5, am6, am7, am8, am9, Nat.reduceSub, ↓reduceIte, reduceCtorEq, Nat.reduceEqDiff, Nat.reduceBEq, Nat.reduceAdd, Nat.reduceLT, Nat.reduceBNe, Nat.reduceMul, ↓reduceIte, tis]
    · obtain rfl : i = d.parts.length := by omega
      rw [List.take_length]
      have ht := partsB_t hb
      by_cases m1 : (d.parts.map cntB).sum = 256
      case neg =>
        have hf := dp (by rw [ht, decide_eq_false m1])
        have m1' : ¬ (((d.parts.map cntB).sum : Nat) : Int) = 256 := by omega
        simp -implicitDefEqProofs (maxSteps := 100000) (disch := first | (intros; contradiction) | omega) only [am0, am1, am2, am3, am4, am5, am6, am7, am8, am9, Nat.reduceSub, ↓reduceIte, reduceCtorEq, Nat.reduceEqDiff, Nat.reduceBEq, Nat.reduceAdd, Nat.reduceLT, Nat.reduceBNe, Nat.reduceMul, ↓reduceIte, tis, fls, m1', hf]
      have m1' : (((d.parts.map cntB).sum : Nat) : Int) = 256 := by omega
      have hpt : partsB d.parts = true := by rw [ht, decide_eq_true m1]
      have cI := fits_in d.rows.length 1 40
      by_cases r1 : (1 : Int) ≤ d.rows.length ∧ (d.rows.length : Int) ≤ 40
      case neg =>
        have e : dfaB d = false := by unfold dfaB; rw [decide_eq_false (show ¬ (1 ≤ d.rows.length ∧ d.rows.length ≤ 40) by omega)]; simp
        rw [decide_eq_false r1] at cI
        simp -implicitDefEqProofs (maxSteps := 100000) (disch := first | (intros; contradiction) | omega) only [am0, am1, am2, am3, am4, am5, am6, am7, am8, am9, Nat.reduceSub, ↓reduceIte, reduceCtorEq, Nat.reduceEqDiff, Nat.reduceBEq, Nat.reduceAdd, Nat.reduceLT, Nat.reduceBNe, Nat.reduceMul, ↓reduceIte, tis, fls, dx, m1']
        refine callB cI ?_
        simp -implicitDefEqProofs (maxSteps := 100000) (disch := first | (intros; contradiction) | omega) only [am0, am1, am2, am3, am4, am5, am6, am7, am8, am9, Nat.reduceSub, ↓reduceIte, reduceCtorEq, Nat.reduceEqDiff, Nat.reduceBEq, Nat.reduceAdd, Nat.reduceLT, Nat.reduceBNe, Nat.reduceMul, ↓reduceIte, tis, fls, e]
      rw [decide_eq_true r1] at cI
      by_cases r3 : d.acc.length = d.rows.length
      case neg =>
        have e : dfaB d = false := by unfold dfaB; rw [decide_eq_false r3]; simp
        have r3' : ¬ (d.acc.length : Int) = d.rows.length := by omega
        simp -implicitDefEqProofs (maxSteps := 100000) (disch := first | (intros; contradiction) | omega) only [am0, am1, am2, am3, am4, am5, am6, am7, am8, am9, Nat.reduceSub, ↓reduceIte, reduceCtorEq, Nat.reduceEqDiff, Nat.reduceBEq, Nat.reduceAdd, Nat.reduceLT, Nat.reduceBNe, Nat.reduceMul, ↓reduceIte, tis, fls, dx, m1']
        refine callB cI ?_
        simp -implicitDefEqProofs (maxSteps := 100000) (disch := first | (intros; contradiction) | omega) only [am0, am1, am2, am3, am4, am5, am6, am7, am8, am9, Nat.reduceSub, ↓reduceIte, reduceCtorEq, Nat.reduceEqDiff, Nat.reduceBEq, Nat.reduceAdd, Nat.reduceLT, Nat.reduceBNe, Nat.reduceMul, ↓reduceIte, tis, fls, dx, r3', e]
      have r3' : (d.acc.length : Int) = d.rows.length := by omega
      simp -implicitDefEqProofs (maxSteps := 100000) (disch := first | (intros; contradiction) | omega) only [am0, am1, am2, am3, am4, am5, am6, am7, am8, am9, Nat.reduceSub, ↓reduceIte, reduceCtorEq, Nat.reduceEqDiff, Nat.reduceBEq, Nat.reduceAdd, Nat.reduceLT, Nat.reduceBNe, Nat.reduceMul, ↓reduceIte, tis, fls, dx, m1']
      refine callB cI ?_
      simp -implicitDefEqProofs (maxSteps := 100000) (disch := first | (intros; contradiction) | omega) only [am0, am1, am2, am3, am4, am5, am6, am7, am8, am9, Nat.reduceSub, ↓reduceIte, reduceCtorEq, Nat.reduceEqDiff, Nat.reduceBEq, Nat.reduceAdd, Nat.reduceLT, Nat.reduceBNe, Nat.reduceMul, ↓reduceIte, tis, fls, dx, r3']
      refine run_loop (α := Nat) (fun i => i ≤ d.rows.length ∧ ∀ j, j < i → rowN d j = true) (fun i => [(1, .box (.agg [.sl false 1 (d.parts.map (eSpans false)), .sl false 1 (d.rows.map (eInts false)), .sl false 1 (d.acc.map eInt)])), (79, .sl false 1 (d.rows.map (eInts false))), (80, .int .i64 d.rows.length), (81, .int .i64 i)]) (fun i => d.rows.length - i) 0 ⟨Nat.zero_le _, by intros; omega⟩ ?_ ?_
      · simp -implicitDefEqProofs (maxSteps := 100000) (disch := first | (intros; contradiction) | omega) only [am0, am1, am2, am3, am4, am5, am6, am7, am8, am9, Nat.reduceSub, ↓reduceIte, reduceCtorEq, Nat.reduceEqDiff, Nat.reduceBEq, Nat.reduceAdd, Nat.reduceLT, Nat.reduceBNe, Nat.reduceMul, ↓reduceIte, tis]
      · rintro i ⟨hi', hb⟩
        by_cases hi : i < d.rows.length
        · have hi2 : i < d.acc.length := by omega
          have hN := rowN_at hi hi2
          have hrl := h.rc _ (List.getElem_mem hi)
          have gr : (d.rows.map (eInts false)).getD i .undef = .sl false 1 (d.rows[i].map eInt) := by simp [List.getD, hi, eInts]
          have gr2 : (d.rows.map (eInts false))[i]? = some (.sl false 1 (d.rows[i].map eInt)) := by simp [hi, eInts]
          have ga2 : (d.acc.map eInt)[i]? = some (.int .i64 d.acc[i]) := by simp [hi2, eInt]
          generalize d.rows[i] = row at *
          generalize hae : d.acc[i] = a at *
          have ea : eInt d.acc[i] = .int .i64 a := by rw [hae]; rfl
          by_cases b1 : row.length = d.parts.length
          case neg =>
            have hf : rowN d i = false := by rw [hN, decide_eq_false b1]; rfl
            have hf := rows_f hi hf
            have b1' : ¬ (row.length : Int) = d.parts.length := by omega
            simp -implicitDefEqProofs (maxSteps := 100000) (disch := first | (intros; contradiction) | omega) only [am0, am1, am2, am3, am4, am5, am6, am7, am8, am9, Nat.reduceSub, ↓reduceIte, reduceCtorEq, Nat.reduceEqDiff, Nat.reduceBEq, Nat.reduceAdd, Nat.reduceLT, Nat.reduceBNe, Nat.reduceMul, ↓reduceIte, tis, fls, gr, gr2, dx, b1', hf]
          have b1' : (row.length : Int) = d.parts.length := by omega
          have cI2 := fits_in a (-1) 4
          by_cases b2 : -1 ≤ a ∧ a ≤ 4
          case neg =>
            have hf : rowN d i = false := by rw [hN, decide_eq_false b2]; simp
            have hf := rows_f hi hf
            rw [decide_eq_false b2] at cI2
            simp -implicitDefEqProofs (maxSteps := 100000) (disch := first | (intros; contradiction) | omega) only [am0, am1, am2, am3, am4, am5, am6, am7, am8, am9, Nat.reduceSub, ↓reduceIte, reduceCtorEq, Nat.reduceEqDiff, Nat.reduceBEq, Nat.reduceAdd, Nat.reduceLT, Nat.reduceBNe, Nat.reduceMul, ↓reduceIte, tis, fls, gr, gr2, dx, b1', ea, ga2]
            refine callB cI2 ?_
            simp -implicitDefEqProofs (maxSteps := 100000) (disch := first | (intros; contradiction) | omega) only [am0, am1, am2, am3, am4, am5, am6, am7, am8, am9, Nat.reduceSub, ↓reduceIte, reduceCtorEq, Nat.reduceEqDiff, Nat.reduceBEq, Nat.reduceAdd, Nat.reduceLT, Nat.reduceBNe, Nat.reduceMul, ↓reduceIte, tis, fls, hf]
          rw [decide_eq_true b2] at cI2
          have hN2 : rowN d i = row.all (fun s => decide (-1 ≤ s ∧ s ≤ (d.rows.length : Int) - 1)) := by
            rw [hN, decide_eq_true b1, decide_eq_true b2]; rfl
          simp -implicitDefEqProofs (maxSteps := 100000) (disch := first | (intros; contradiction) | omega) only [am0, am1, am2, am3, am4, am5, am6, am7, am8, am9, Nat.reduceSub, ↓reduceIte, reduceCtorEq, Nat.reduceEqDiff, Nat.reduceBEq, Nat.reduceAdd, Nat.reduceLT, Nat.reduceBNe, Nat.reduceMul, ↓reduceIte, tis, fls, gr, gr2, dx, b1', ea, ga2]
          refine callB cI2 ?_
          simp -implicitDefEqProofs (maxSteps := 100000) (disch := first | (intros; contradiction) | omega) only [am0, am1, am2, am3, am4, am5, am6, am7, am8, am9, Nat.reduceSub, ↓reduceIte, reduceCtorEq, Nat.reduceEqDiff, Nat.reduceBEq, Nat.reduceAdd, Nat.reduceLT, Nat.reduceBNe, Nat.reduceMul, ↓reduceIte, tis, fls]
          refine run_loop (α := Nat) (fun k => k ≤ row.length ∧ ∀ k' (hk : k' < row.length), k' < k → (-1 ≤ row[k'] ∧ row[k'] ≤ (d.rows.length : Int) - 1)) (fun k => [(1, .box (.agg [.sl false 1 (d.parts.map (eSpans false)), .sl false 1 (d.rows.map (eInts false)), .sl false 1 (d.acc.map eInt)])), (79, .sl false 1 (d.rows.map (eInts false))), (80, .int .i64 d.rows.length), (81, .int .i64 i), (101, .sl false 1 (row.map eInt)), (102, .int .i64 row.length), (103, .int .i64 k)]) (fun k => row.length - k) 0 ⟨Nat.zero_le _, by intros; omega⟩ ?_ ?_
          · simp -implicitDefEqProofs (maxSteps := 100000) (disch := first | (intros; contradiction) | omega) only [am0, am1, am2, am3, am4, am5, am6, am7, am8, am9, Nat.reduceSub, ↓reduceIte, reduceCtorEq, Nat.reduceEqDiff, Nat.reduceBEq, Nat.reduceAdd, Nat.reduceLT, Nat.reduceBNe, Nat.reduceMul, ↓reduceIte, tis]
          · rintro k ⟨hk', hkb⟩
            by_cases hk : k < row.length
            · have gk2 : (row.map eInt)[k]? = some (.int .i64 row[k]) := by simp [hk, eInt]
              have bad : ¬ (-1 ≤ row[k] ∧ row[k] ≤ (d.rows.length : Int) - 1) → dfaB d = false := fun hx => rows_f hi (by
                rw [hN2, List.all_eq_false]; exact ⟨row[k], List.getElem_mem hk, by simpa using hx⟩)
              have good : (-1 ≤ row[k] ∧ row[k] ≤ (d.rows.length : Int) - 1) → ∀ k' (hk3 : k' < row.length), k' < k + 1 → (-1 ≤ row[k'] ∧ row[k'] ≤ (d.rows.length : Int) - 1) := fun hx k' hk3 hk4 => by
                by_cases e : k' = k
                · subst e; exact hx
                · exact hkb k' hk3 (by omega)
              generalize hse : row[k] = s at *
              have ek : eInt row[k] = .int .i64 s := by rw [hse]; rfl
              have cI3 := fits_in s (-1) ((d.rows.length : Int) - 1)
              by_cases s1 : -1 ≤ s ∧ s ≤ (d.rows.length : Int) - 1
              case neg =>
                have hf := bad s1
                rw [decide_eq_false s1] at cI3
                simp -implicitDefEqProofs (maxSteps := 100000) (disch := first | (intros; contradiction) | omega) only [am0, am1, am2, am3, am4, am5, am6, am7, am8, am9, Nat.reduceSub, ↓reduceIte, reduceCtorEq, Nat.reduceEqDiff, Nat.reduceBEq, Nat.reduceAdd, Nat.reduceLT, Nat.reduceBNe, Nat.reduceMul, ↓reduceIte, tis, fls, ek, gk2, dx]
                refine callB cI3 ?_
                simp -implicitDefEqProofs (maxSteps := 100000) (disch := first | (intros; contradiction) | omega) only [am0, am1, am2, am3, am4, am5, am6, am7, am8, am9, Nat.reduceSub, ↓reduceIte, reduceCtorEq, Nat.reduceEqDiff, Nat.reduceBEq, Nat.reduceAdd, Nat.reduceLT, Nat.reduceBNe, Nat.reduceMul, ↓reduceIte, tis, fls, hf]
              rw [decide_eq_true s1] at cI3
              simp -implicitDefEqProofs (maxSteps := 100000) (disch := first | (intros; contradiction) | omega) only [am0, am1, am2, am3, am4, am5, am6, am7, am8, am9, Nat.reduceSub, ↓reduceIte, reduceCtorEq, Nat.reduceEqDiff, Nat.reduceBEq, Nat.reduceAdd, Nat.reduceLT, Nat.reduceBNe, Nat.reduceMul, ↓reduceIte, tis, fls, ek, gk2, dx]
              refine callB cI3 ?_
              simp -implicitDefEqProofs (maxSteps := 100000) (disch := first | (intros; contradiction) | omega) only [am0, am1, am2, am3, am4, am5, am6, am7, am8, am9, Nat.reduceSub, ↓reduceIte, reduceCtorEq, Nat.reduceEqDiff, Nat.reduceBEq, Nat.reduceAdd, Nat.reduceLT, Nat.reduceBNe, Nat.reduceMul, ↓reduceIte, tis, fls]
              refine round_normal (k + 1) ⟨by omega, good s1⟩ ?_ (by show row.length - (k + 1) < row.length - k; omega)
              simp -implicitDefEqProofs (maxSteps := 100000) (disch := first | (intros; contradiction) | omega) only [am0, am1, am2, am3, am4, am5, am6, am7, am8, am9, Nat.reduceSub, ↓reduceIte, reduceCtorEq, Nat.reduceEqDiff, Nat.reduceBEq, Nat.reduceAdd, Nat.reduceLT, Nat.reduceBNe, Nat.reduceMul, ↓reduceIte, tis]
            · obtain rfl : k = row.length := by omega
              simp -implicitDefEqProofs (maxSteps := 100000) (disch := first | (intros; contradiction) | omega) only [am0, am1, am2, am3, am4, am5, am6, am7, am8, am9, Nat.reduceSub, ↓reduceIte, reduceCtorEq, Nat.reduceEqDiff, Nat.reduceBEq, Nat.reduceAdd, Nat.reduceLT, Nat.reduceBNe, Nat.reduceMul, ↓reduceIte, tis, fls]
              refine round_normal (i + 1) ⟨by omega, fun j hj => ?_⟩ ?_ (by show d.rows.length - (i + 1) < d.rows.length - i; omega)
              · by_cases e : j = i
                · subst e
                  rw [hN2, List.all_eq_true]
                  intro x hx
                  obtain ⟨k', hk3, rfl⟩ := List.getElem_of_mem hx
                  simpa using hkb k' hk3 hk3
                · exact hb j (by omega)
              · simp -implicitDefEqProofs (maxSteps := 100000) (disch := first | (intros; contradiction) | omega) only [am0, am1, am2, am3, am4, am5, am6, am7, am8, am9, Nat.reduceSub, ↓reduceIte, reduceCtorEq, Nat.reduceEqDiff, Nat.reduceBEq, Nat.reduceAdd, Nat.reduceLT, Nat.reduceBNe, Nat.reduceMul, ↓reduceIte, tis]
        · obtain rfl : i = d.rows.length := by omega
          have e : dfaB d = true := rows_t hpt (by omega) r3 hb
          simp -implicitDefEqProofs (maxSteps := 100000) (disch := first | (intros; contradiction) | omega) only [am0, am1, am2, am3, am4, am5, am6, am7, am8, am9, Nat.reduceSub, ↓reduceIte, reduceCtorEq, Nat.reduceEqDiff, Nat.reduceBEq, Nat.reduceAdd, Nat.reduceLT, Nat.reduceBNe, Nat.reduceMul, ↓reduceIte, tis, fls, e]
/-- A reading out of a tuple, by what the tuple is. -/
def exGo (σ : St) (t i d : Nat) (K : St → Prop) : AV → Prop
  | .tup vs => i < vs.length ∧ t ≠ d ∧ (vs.getD i .undef).target = none ∧ (if plain (vs.getD i .undef) then K (put σ d (vs.getD i .undef) []) else K (upd (put σ d .undef []) [(d, vs.getD i .undef), (t, .tup (vs.set i .undef))]))
  | _ => False
theorem ex_eq (σ : St) (t i d : Nat) (K : St → Prop) : extractW σ (.tmp t) i d K = exGo σ t i d K (ev σ (.tmp t)) := by
  unfold extractW exGo
  cases ev σ (.tmp t) <;> rfl
theorem exGo_tup (σ : St) (t i d : Nat) (K : St → Prop) (vs : List AV) : exGo σ t i d K (.tup vs) = (i < vs.length ∧ t ≠ d ∧ (vs.getD i .undef).target = none ∧ (if plain (vs.getD i .undef) then K (put σ d (vs.getD i .undef) []) else K (upd (put σ d .undef []) [(d, vs.getD i .undef), (t, .tup (vs.set i .undef))]))) := rfl
theorem retW2 (a b : Nat) (ks : List Nat) (res : AV) (outs : List AV) (σ : St) : retW [a, b] ks res outs σ = ((usedOf (pulls σ [.tmp a, .tmp b]) [.tmp a, .tmp b]).Nodup ∧ leV (.tup [Am.look (pulls σ [.tmp a, .tmp b]) a, Am.look (pulls σ [.tmp a, .tmp b]) b]) res ∧ outsW (pulls σ [.tmp a, .tmp b]) (usedOf (pulls σ [.tmp a, .tmp b]) [.tmp a, .tmp b]) ks 0 outs) := rfl
theorem map_take_s {α β : Type} (f : α → β) (l : List α) (i : Nat) (h : i < l.length) : (l.take (i + 1)).map f = (l.take i).map f ++ [f l[i]] := by
  rw [List.take_succ_eq_append_getElem h, List.map_append]; rfl
/-- spec.l10State -/
theorem fits_l10State (d : Dfa) (h : DOk d) (s : Nat) (hs : s < d.rows.length) : Fits prog 161 [eDfa false d, .int .i64 s] (.sl true 4 ((stL d (labI d) s).map eIns)) [] := by
  have hp := h.sm.p
  have hr := h.sm.r
  have hn := h.n
  have ha := h.a
  have hal := h.sm.a
  have hps := h.sm.ps
  have hrl := h.sm.rc _ (List.getElem_mem hs)
  have hl := h.l s hs
  have hbb := h.b s hs
  have hsa : s < d.acc.length := by omega
  have gr2 : (d.rows.map (eInts false))[s]? = some (.sl false 1 (d.rows[s].map eInt)) := by simp [hs, eInts]
  have gr : (d.rows.map (eInts false)).getD s .undef = .sl false 1 (d.rows[s].map eInt) := by simp [List.getD, hs, eInts]
  have eg : ∀ k, glV d s k = d.rows[s].getD k 0 := fun k => by simp [glV, List.getD, hs]
  generalize d.rows[s] = row at *
  have eac : acV d s = d.acc[s] := by simp [acV, List.getD, hsa]
  have ga2 : (d.acc.map eInt)[s]? = some (.int .i64 d.acc[s]) := by simp [hsa, eInt]
  have cL := fun x (hx : x ≤ d.rows.length) => fits_l10Label d h x hx
  have hH : headL d s = (if 0 ≤ d.acc[s] then [⟨1, d.acc[s], 0, 0⟩] else []) ++ [⟨2, 0, 0, 0⟩] := by unfold headL; rw [eac]
  generalize hae : d.acc[s] = a at *
  have ea : eInt d.acc[s] = .int .i64 a := by rw [hae]; rfl
  have hhl := headL_len d s
  have body : ∀ (Hd : List Ins), Hd = headL d s → Hd.length ≤ 2 → True := fun _ _ _ => trivial
  unfold eDfa at *
  unfold stL
  by_cases h0 : 0 ≤ a
  all_goals (
    first
      | (rw [if_pos h0] at hH)
      | (rw [if_neg h0] at hH)
    have hHm := congrArg (List.map eIns) hH
    simp only [List.cons_append, List.nil_append, List.map_cons, List.map_nil, eIns] at hHm
    generalize headL d s = Hd at *
    refine fits_of_code [4] [] [0, 1, 2, 4, 5, 6, 7, 14, 32, 53] func161 rfl rfl rfl (by rfl) (by show 2 ≤ 92; decide) (by rfl) (by rfl) (by show 0 ≤ 2; decide) (by rfl) (run_of ?_)
    simp -implicitDefEqProofs (maxSteps := 100000) (disch := first | (intros; contradiction) | omega) only [am0, am1, am2, am3, am4, am5, am6, am7, am8, am9, Nat.reduceSub, ↓reduceIte, reduceCtorEq, Nat.reduceEqDiff, Nat.reduceBEq, Nat.reduceAdd, Nat.reduceLT, Nat.reduceBNe, Nat.reduceMul, ↓reduceIte, tis, fls, dx, ea, ga2, h0]
    refine run_loop (α := Nat) (fun k => k ≤ d.parts.length) (fun k => [(1, .int .i64 s), (2, .box (.agg [.sl false 1 (d.parts.map (eSpans false)), .sl false 1 (d.rows.map (eInts false)), .sl false 1 (d.acc.map eInt)])), (5, .sl true 4 ((Hd ++ ifsN d s (labI d) k).map eIns)), (6, .int .i64 k)]) (fun k => d.parts.length - k) 0 (Nat.zero_le _) ?_ ?_
    · simp -implicitDefEqProofs (maxSteps := 100000) (disch := first | (intros; contradiction) | omega) only [am0, am1, am2, am3, am4, am5, am6, am7, am8, am9, Nat.reduceSub, ↓reduceIte, reduceCtorEq, Nat.reduceEqDiff, Nat.reduceBEq, Nat.reduceAdd, Nat.reduceLT, Nat.reduceBNe, Nat.reduceMul, ↓reduceIte, tis, ifsN, List.append_nil, hHm]
    · intro k hk'
      have hle := ifsN_le d s (labI d) k hk'
      have hle2 := sumS_mono d.parts k
      by_cases hk : k < d.parts.length
      · have hkr : k < row.length := by omega
        have hS : ifsN d s (labI d) (k + 1) = ifsN d s (labI d) k ++ (if 0 ≤ glV d s k then (d.parts.getD k []).map (ifI (labI d (glV d s k))) else []) := rfl
        have e1 : glV d s k = row[k] := by rw [eg]; simp [List.getD, hkr]
        have e2 : d.parts.getD k [] = d.parts[k] := by simp [List.getD, hk]
        have hpl := h.sm.pc _ (List.getElem_mem hk)
        have hbk := hbb k hkr
        have gp2 : (d.parts.map (eSpans false))[k]? = some (.sl false 2 (d.parts[k].map eSpan)) := by simp [hk, eSpans]
        have gp : (d.parts.map (eSpans false)).getD k .undef = .sl false 2 (d.parts[k].map eSpan) := by simp [List.getD, hk, eSpans]
        have gk2 : (row.map eInt)[k]? = some (.int .i64 row[k]) := by simp [hkr, eInt]
        rw [e1, e2] at hS
        generalize hse : row[k] = x at *
        have ek : eInt row[k] = .int .i64 x := by rw [hse]; rfl
        generalize d.parts[k] = p at *
        generalize ifsN d s (labI d) k = F at *
        by_cases hx0 : 0 ≤ x
        · rw [if_pos hx0] at hS
          obtain ⟨x, rfl⟩ : ∃ n : Nat, x = n := ⟨x.toNat, by omega⟩
          have cL := cL x (by omega)
          have eL : labI d (x : Int) = (outN d id x).length := rfl
          have hbd := h.bnd id x (by omega)
          simp -implicitDefEqProofs (maxSteps := 100000) (disch := first | (intros; contradiction) | omega) only [am0, am1, am2, am3, am4, am5, am6, am7, am8, am9, Nat.reduceSub, ↓reduceIte, reduceCtorEq, Nat.reduceEqDiff, Nat.reduceBEq, Nat.reduceAdd, Nat.reduceLT, Nat.reduceBNe, Nat.reduceMul, ↓reduceIte, tis, fls, dx]
          refine run_loop (α := Nat) (fun i => i ≤ p.length) (fun i => [(1, .int .i64 s), (2, .box (.agg [.sl false 1 (d.parts.map (eSpans false)), .sl false 1 (d.rows.map (eInts false)), .sl false 1 (d.acc.map eInt)])), (5, .sl true 4 ((Hd ++ F ++ (p.take i).map (ifI (labI d (x : Int)))).map eIns)), (6, .int .i64 k), (7, .int .i64 i)]) (fun i => p.length - i) 0 (Nat.zero_le _) ?_ ?_
          · simp -implicitDefEqProofs (maxSteps := 100000) (disch := first | (intros; contradiction) | omega) only [am0, am1, am2, am3, am4, am5, am6, am7, am8, am9, Nat.reduceSub, ↓reduceIte, reduceCtorEq, Nat.reduceEqDiff, Nat.reduceBEq, Nat.reduceAdd, Nat.reduceLT, Nat.reduceBNe, Nat.reduceMul, ↓reduceIte, tis, List.map_nil, List.append_nil]
          · intro i hi'
            by_cases hi : i < p.length
            · have hT := map_take_s (ifI (labI d (x : Int))) p i hi
              have hti : (p.take i).length = i := by simp; omega
              simp -implicitDefEqProofs (maxSteps := 100000) (disch := first | (intros; contradiction) | omega) only [am0, am1, am2, am3, am4, am5, am6, am7, am8, am9, Nat.reduceSub, ↓reduceIte, reduceCtorEq, Nat.reduceEqDiff, Nat.reduceBEq, Nat.reduceAdd, Nat.reduceLT, Nat.reduceBNe, Nat.reduceMul, ↓reduceIte, tis, fls, dx, gr, gr2, ek, gk2, hx0, gp, gp2, eSpan, plain, plainL]
              refine .inl ⟨by kernel_rfl, ?_⟩
              refine callL cL ?_
              simp -implicitDefEqProofs (maxSteps := 100000) (disch := first | (intros; contradiction) | omega) only [am0, am1, am2, am3, am4, am5, am6, am7, am8, am9, Nat.reduceSub, ↓reduceIte, reduceCtorEq, Nat.reduceEqDiff, Nat.reduceBEq, Nat.reduceAdd, Nat.reduceLT, Nat.reduceBNe, Nat.reduceMul, ↓reduceIte, tis, fls, dx, hti]
              refine round_normal (i + 1) (by omega) ?_ (by show p.length - (i + 1) < p.length - i; omega)
              have hT2 : (Hd ++ F ++ (p.take (i + 1)).map (ifI (labI d (x : Int)))).map eIns = (Hd ++ F ++ (p.take i).map (ifI (labI d (x : Int)))).map eIns ++ [.agg [.int .i64 3, .int .i64 p[i].lo, .int .i64 p[i].hi, .int .i64 (outN d id x).length]] := by
                rw [hT, eL, ← List.append_assoc, List.map_append]; rfl
              rw [hT2]
              simp -implicitDefEqProofs (maxSteps := 100000) (disch := first | (intros; contradiction) | omega) only [am0, am1, am2, am3, am4, am5, am6, am7, am8, am9, Nat.reduceSub, ↓reduceIte, reduceCtorEq, Nat.reduceEqDiff, Nat.reduceBEq, Nat.reduceAdd, Nat.reduceLT, Nat.reduceBNe, Nat.reduceMul, ↓reduceIte, tis]
            · obtain rfl : i = p.length := by omega
              rw [List.take_length]
              simp -implicitDefEqProofs (maxSteps := 100000) (disch := first | (intros; contradiction) | omega) only [am0, am1, am2, am3, am4, am5, am6, am7, am8, am9, Nat.reduceSub, ↓reduceIte, reduceCtorEq, Nat.reduceEqDiff, Nat.reduceBEq, Nat.reduceAdd, Nat.reduceLT, Nat.reduceBNe, Nat.reduceMul, ↓reduceIte, tis, fls, dx, gr, gr2, ek, gk2, hx0, gp, gp2]
              refine round_normal (k + 1) (by omega) ?_ (by show d.parts.length - (k + 1) < d.parts.length - k; omega)
              rw [hS]
              simp -implicitDefEqProofs (maxSteps := 100000) (disch := first | (intros; contradiction) | omega) only [am0, am1, am2, am3, am4, am5, am6, am7, am8, am9, Nat.reduceSub, ↓reduceIte, reduceCtorEq, Nat.reduceEqDiff, Nat.reduceBEq, Nat.reduceAdd, Nat.reduceLT, Nat.reduceBNe, Nat.reduceMul, ↓reduceIte, tis, List.append_assoc]
        · rw [if_neg hx0, List.append_nil] at hS
          simp -implicitDefEqProofs (maxSteps := 100000) (disch := first | (intros; contradiction) | omega) only [am0, am1, am2, am3, am4, am5, am6, am7, am8, am9, Nat.reduceSub, ↓reduceIte, reduceCtorEq, Nat.reduceEqDiff, Nat.reduceBEq, Nat.reduceAdd, Nat.reduceLT, Nat.reduceBNe, Nat.reduceMul, ↓reduceIte, tis, fls, dx]
          refine run_loop (α := Nat) (fun i => i = 0) (fun i => [(1, .int .i64 s), (2, .box (.agg [.sl false 1 (d.parts.map (eSpans false)), .sl false 1 (d.rows.map (eInts false)), .sl false 1 (d.acc.map eInt)])), (5, .sl true 4 ((Hd ++ F).map eIns)), (6, .int .i64 k), (7, .int .i64 0)]) (fun i => i) 0 rfl ?_ ?_
          · simp -implicitDefEqProofs (maxSteps := 100000) (disch := first | (intros; contradiction) | omega) only [am0, am1, am2, am3, am4, am5, am6, am7, am8, am9, Nat.reduceSub, ↓reduceIte, reduceCtorEq, Nat.reduceEqDiff, Nat.reduceBEq, Nat.reduceAdd, Nat.reduceLT, Nat.reduceBNe, Nat.reduceMul, ↓reduceIte, tis]
          · intro i hi0
            subst hi0
            by_cases hpl0 : (0 : Int) < p.length
            · simp -implicitDefEqProofs (maxSteps := 100000) (disch := first | (intros; contradiction) | omega) only [am0, am1, am2, am3, am4, am5, am6, am7, am8, am9, Nat.reduceSub, ↓reduceIte, reduceCtorEq, Nat.reduceEqDiff, Nat.reduceBEq, Nat.reduceAdd, Nat.reduceLT, Nat.reduceBNe, Nat.reduceMul, ↓reduceIte, tis, fls, dx, gr, gr2, ek, gk2, hx0, gp, gp2, hpl0]
              refine round_normal (k + 1) (by omega) ?_ (by show d.parts.length - (k + 1) < d.parts.length - k; omega)
              rw [hS]
              simp -implicitDefEqProofs (maxSteps := 100000) (disch := first | (intros; contradiction) | omega) only [am0, am1, am2, am3, am4, am5, am6, am7, am8, am9, Nat.reduceSub, ↓reduceIte, reduceCtorEq, Nat.reduceEqDiff, Nat.reduceBEq, Nat.reduceAdd, Nat.reduceLT, Nat.reduceBNe, Nat.reduceMul, ↓reduceIte, tis]
            · simp -implicitDefEqProofs (maxSteps := 100000) (disch := first | (intros; contradiction) | omega) only [am0, am1, am2, am3, am4, am5, am6, am7, am8, am9, Nat.reduceSub, ↓reduceIte, reduceCtorEq, Nat.reduceEqDiff, Nat.reduceBEq, Nat.reduceAdd, Nat.reduceLT, Nat.reduceBNe, Nat.reduceMul, ↓reduceIte, tis, fls, dx, gr, gr2, ek, gk2, hx0, gp, gp2, hpl0]
              refine round_normal (k + 1) (by omega) ?_ (by show d.parts.length - (k + 1) < d.parts.length - k; omega)
              rw [hS]
              simp -implicitDefEqProofs (maxSteps := 100000) (disch := first | (intros; contradiction) | omega) only [am0, am1, am2, am3, am4, am5, am6, am7, am8, am9, Nat.reduceSub, ↓reduceIte, reduceCtorEq, Nat.reduceEqDiff, Nat.reduceBEq, Nat.reduceAdd, Nat.reduceLT, Nat.reduceBNe, Nat.reduceMul, ↓reduceIte, tis]
      · obtain rfl : k = d.parts.length := by omega
        rw [List.take_length] at hle
        generalize ifsN d s (labI d) d.parts.length = F at *
        simp -implicitDefEqProofs (maxSteps := 100000) (disch := first | (intros; contradiction) | omega) only [am0, am1, am2, am3, am4, am5, am6, am7, am8, am9, Nat.reduceSub, ↓reduceIte, reduceCtorEq, Nat.reduceEqDiff, Nat.reduceBEq, Nat.reduceAdd, Nat.reduceLT, Nat.reduceBNe, Nat.reduceMul, ↓reduceIte, tis, fls, dx, List.map_append, eIns])
/-- spec.l10Of -/
theorem fits_l10Of (d : Dfa) (h : DOk d) : Fits prog 123 [eDfa false d] (.sl true 4 ((outN d (labI d) d.rows.length).map eIns)) [] := by
  have hn := h.n
  have hr := h.sm.r
  have cS := fun i (hi : i < d.rows.length) => fits_l10State d h i hi
  unfold eDfa at *
  refine fits_of_code [2] [] [0, 1, 2, 3, 4, 10] func123 rfl rfl rfl (by rfl) (by show 1 ≤ 19; decide) (by rfl) (by rfl) (by show 0 ≤ 1; decide) (by rfl) (run_of ?_)
  simp -implicitDefEqProofs (maxSteps := 100000) (disch := first | (intros; contradiction) | omega) only [am0, am1, am2, am3, am4, am5, am6, am7, am8, am9, Nat.reduceSub, ↓reduceIte, reduceCtorEq, Nat.reduceEqDiff, Nat.reduceBEq, Nat.reduceAdd, Nat.reduceLT, Nat.reduceBNe, Nat.reduceMul, ↓reduceIte, tis, fls, dx]
  refine run_loop (α := Nat) (fun i => i ≤ d.rows.length) (fun i => [(1, .box (.agg [.sl false 1 (d.parts.map (eSpans false)), .sl false 1 (d.rows.map (eInts false)), .sl false 1 (d.acc.map eInt)])), (3, .sl true 4 ((outN d (labI d) i).map eIns)), (4, .int .i64 i)]) (fun i => d.rows.length - i) 0 (Nat.zero_le _) ?_ ?_
  · simp -implicitDefEqProofs (maxSteps := 100000) (disch := first | (intros; contradiction) | omega) only [am0, am1, am2, am3, am4, am5, am6, am7, am8, am9, Nat.reduceSub, ↓reduceIte, reduceCtorEq, Nat.reduceEqDiff, Nat.reduceBEq, Nat.reduceAdd, Nat.reduceLT, Nat.reduceBNe, Nat.reduceMul, ↓reduceIte, tis, outN, List.map_nil]
  · intro i hi'
    have hbd := h.bnd (labI d) i (by omega)
    by_cases hi : i < d.rows.length
    · have cS := cS i hi
      have hsl := stL_le d (labI d) i
      have hps := h.sm.ps
      have hS : outN d (labI d) (i + 1) = outN d (labI d) i ++ stL d (labI d) i := rfl
      generalize stL d (labI d) i = X at *
      generalize outN d (labI d) i = Y at *
      simp -implicitDefEqProofs (maxSteps := 100000) (disch := first | (intros; contradiction) | omega) only [am0, am1, am2, am3, am4, am5, am6, am7, am8, am9, Nat.reduceSub, ↓reduceIte, reduceCtorEq, Nat.reduceEqDiff, Nat.reduceBEq, Nat.reduceAdd, Nat.reduceLT, Nat.reduceBNe, Nat.reduceMul, ↓reduceIte, tis, fls, dx, plain, plainL]
      refine callB cS ?_
      simp -implicitDefEqProofs (maxSteps := 100000) (disch := first | (intros; contradiction) | omega) only [am0, am1, am2, am3, am4, am5, am6, am7, am8, am9, Nat.reduceSub, ↓reduceIte, reduceCtorEq, Nat.reduceEqDiff, Nat.reduceBEq, Nat.reduceAdd, Nat.reduceLT, Nat.reduceBNe, Nat.reduceMul, ↓reduceIte, tis, fls, dx]
      refine round_normal (i + 1) (by omega) ?_ (by show d.rows.length - (i + 1) < d.rows.length - i; omega)
      rw [hS]
      simp -implicitDefEqProofs (maxSteps := 100000) (disch := first | (intros; contradiction) | omega) only [am0, am1, am2, am3, am4, am5, am6, am7, am8, am9, Nat.reduceSub, ↓reduceIte, reduceCtorEq, Nat.reduceEqDiff, Nat.reduceBEq, Nat.reduceAdd, Nat.reduceLT, Nat.reduceBNe, Nat.reduceMul, ↓reduceIte, tis, List.map_append]
    · obtain rfl : i = d.rows.length := by omega
      simp -implicitDefEqProofs (maxSteps := 100000) (disch := first | (intros; contradiction) | omega) only [am0, am1, am2, am3, am4, am5, am6, am7, am8, am9, Nat.reduceSub, ↓reduceIte, reduceCtorEq, Nat.reduceEqDiff, Nat.reduceBEq, Nat.reduceAdd, Nat.reduceLT, Nat.reduceBNe, Nat.reduceMul, ↓reduceIte, tis, fls, dx]
def progL (d : Dfa) : List Ins := if dfaB d = true then (if (outN d id d.rows.length).length ≤ 1500 then outN d (labI d) d.rows.length else []) else []
def progOkB (d : Dfa) : Bool := dfaB d && decide ((outN d id d.rows.length).length ≤ 1500)
/-- spec.ProgOf -/
theorem fits_sProgOf (d : Dfa) (h : Small d) : Fits prog 62 [eDfa false d] (.tup [.sl true 4 ((progL d).map eIns), .bool (progOkB d)]) [] := by
  have cO := fits_sDfaOk d h
  unfold progL progOkB
  cases hb : dfaB d with
  | false =>
    rw [hb] at cO
    unfold eDfa at *
    refine fits_of_code [2, 3] [] [0, 1, 2, 3, 4, 7, 13] func62 rfl rfl rfl (by rfl) (by show 1 ≤ 16; decide) (by rfl) (by rfl) (by show 0 ≤ 1; decide) (by rfl) (run_of ?_)
    simp -implicitDefEqProofs (maxSteps := 100000) (disch := first | (intros; contradiction) | omega) only [am0, am1, am2, am3, am4, am5, am6, am7, am8, am9, Nat.reduceSub, ↓reduceIte, reduceCtorEq, Nat.reduceEqDiff, Nat.reduceBEq, Nat.reduceAdd, Nat.reduceLT, Nat.reduceBNe, Nat.reduceMul, ↓reduceIte, tis, fls, dx, plain, plainL]
    refine callB cO ?_
    simp -implicitDefEqProofs (maxSteps := 100000) (disch := first | (intros; contradiction) | omega) only [am0, am1, am2, am3, am4, am5, am6, am7, am8, am9, Nat.reduceSub, ↓reduceIte, reduceCtorEq, Nat.reduceEqDiff, Nat.reduceBEq, Nat.reduceAdd, Nat.reduceLT, Nat.reduceBNe, Nat.reduceMul, ↓reduceIte, tis, fls, dx, retW2, List.map_nil]
  | true =>
    have hk := dok_of h hb
    have cP := fits_l10Of d hk
    have hbd := hk.bnd (labI d) d.rows.length hk.n
    rw [hb] at cO
    rw [if_pos rfl, outN_len d id (labI d)]
    generalize outN d (labI d) d.rows.length = X at *
    unfold eDfa at *
    by_cases h0 : (1500 : Int) < X.length
    · rw [if_neg (by omega), decide_eq_false (by omega)]
      refine fits_of_code [2, 3] [] [0, 1, 2, 3, 4, 7, 13] func62 rfl rfl rfl (by rfl) (by show 1 ≤ 16; decide) (by rfl) (by rfl) (by show 0 ≤ 1; decide) (by rfl) (run_of ?_)
      simp -implicitDefEqProofs (maxSteps := 100000) (disch := first | (intros; contradiction) | omega) only [am0, am1, am2, am3, am4, am5, am6, am7, am8, am9, Nat.reduceSub, ↓reduceIte, reduceCtorEq, Nat.reduceEqDiff, Nat.reduceBEq, Nat.reduceAdd, Nat.reduceLT, Nat.reduceBNe, Nat.reduceMul, ↓reduceIte, tis, fls, dx, plain, plainL]
      refine callB cO ?_
      simp -implicitDefEqProofs (maxSteps := 100000) (disch := first | (intros; contradiction) | omega) only [am0, am1, am2, am3, am4, am5, am6, am7, am8, am9, Nat.reduceSub, ↓reduceIte, reduceCtorEq, Nat.reduceEqDiff, Nat.reduceBEq, Nat.reduceAdd, Nat.reduceLT, Nat.reduceBNe, Nat.reduceMul, ↓reduceIte, tis, fls, dx, plain, plainL]
      refine callB cP ?_
      simp -implicitDefEqProofs (maxSteps := 100000) (disch := first | (intros; contradiction) | omega) only [am0, am1, am2, am3, am4, am5, am6, am7, am8, am9, Nat.reduceSub, ↓reduceIte, reduceCtorEq, Nat.reduceEqDiff, Nat.reduceBEq, Nat.reduceAdd, Nat.reduceLT, Nat.reduceBNe, Nat.reduceMul, ↓reduceIte, tis, fls, dx, h0, retW2, List.map_nil]
    · rw [if_pos (by omega), decide_eq_true (by omega)]
      refine fits_of_code [2, 3] [] [0, 1, 2, 3, 4, 7, 13] func62 rfl rfl rfl (by rfl) (by show 1 ≤ 16; decide) (by rfl) (by rfl) (by show 0 ≤ 1; decide) (by rfl) (run_of ?_)
      simp -implicitDefEqProofs (maxSteps := 100000) (disch := first | (intros; contradiction) | omega) only [am0, am1, am2, am3, am4, am5, am6, am7, am8, am9, Nat.reduceSub, ↓reduceIte, reduceCtorEq, Nat.reduceEqDiff, Nat.reduceBEq, Nat.reduceAdd, Nat.reduceLT, Nat.reduceBNe, Nat.reduceMul, ↓reduceIte, tis, fls, dx, plain, plainL]
      refine callB cO ?_
      simp -implicitDefEqProofs (maxSteps := 100000) (disch := first | (intros; contradiction) | omega) only [am0, am1, am2, am3, am4, am5, am6, am7, am8, am9, Nat.reduceSub, ↓reduceIte, reduceCtorEq, Nat.reduceEqDiff, Nat.reduceBEq, Nat.reduceAdd, Nat.reduceLT, Nat.reduceBNe, Nat.reduceMul, ↓reduceIte, tis, fls, dx, plain, plainL]
      refine callB cP ?_
      simp -implicitDefEqProofs (maxSteps := 100000) (disch := first | (intros; contradiction) | omega) only [am0, am1, am2, am3, am4, am5, am6, am7, am8, am9, Nat.reduceSub, ↓reduceIte, reduceCtorEq, Nat.reduceEqDiff, Nat.reduceBEq, Nat.reduceAdd, Nat.reduceLT, Nat.reduceBNe, Nat.reduceMul, ↓reduceIte, tis, fls, dx, h0, retW2]
/-- impl.copied of instructions -/
theorem fits_copiedIns (p : List Ins) (hp : p.length ≤ 1099511627776) : Fits prog 128 [.sl false 4 (p.map eIns)] (.sl true 4 (p.map eIns)) [] := by
  refine fits_of_code [2] [] [0, 2, 3, 6] func128 rfl rfl rfl (by rfl) (by show 1 ≤ 14; decide) (by rfl) (by rfl) (by show 0 ≤ 1; decide) (by rfl) (run_of ?_)
  cases p with
  | nil => simp -implicitDefEqProofs (maxSteps := 100000) (disch := first | (intros; contradiction) | omega) only [am0, am1, am2, am3, am4, am5, am6, am7, am8, am9, Nat.reduceSub, ↓reduceIte, reduceCtorEq, Nat.reduceEqDiff, Nat.reduceBEq, Nat.reduceAdd, Nat.reduceLT, Nat.reduceBNe, Nat.reduceMul, ↓reduceIte, tis]
  | cons x r =>
    have hl : ((x :: r).length : Int) ≠ 0 := by simp; omega
    generalize (x :: r) = p at *
    simp -implicitDefEqProofs (maxSteps := 100000) (disch := first | (intros; contradiction) | omega) only [am0, am1, am2, am3, am4, am5, am6, am7, am8, am9, Nat.reduceSub, ↓reduceIte, reduceCtorEq, Nat.reduceEqDiff, Nat.reduceBEq, Nat.reduceAdd, Nat.reduceLT, Nat.reduceBNe, Nat.reduceMul, ↓reduceIte, tis]
    simp -implicitDefEqProofs (maxSteps := 100000) (disch := first | (intros; contradiction) | omega) only [am0, am1, am2, am3, am4, am5, am6, am7, am8, am9, Nat.reduceSub, ↓reduceIte, reduceCtorEq, Nat.reduceEqDiff, Nat.reduceBEq, Nat.reduceAdd, Nat.reduceLT, Nat.reduceBNe, Nat.reduceMul, ↓reduceIte, tis, List.length_replicate, fls]
    simp [List.take_of_length_le]
def fixI (d : Dfa) (x : Ins) : Ins := if x.op = 3 then ⟨x.op, x.a, x.b, labI d x.to⟩ else x
theorem fix_ifs (d : Dfa) (s : Nat) : ∀ k, (ifsN d s id k).map (fixI d) = ifsN d s (labI d) k
  | 0 => rfl
  | k + 1 => by
    simp only [ifsN, List.map_append, fix_ifs d s k]
    congr 1
    split
    · rw [List.map_map]; rfl
    · rfl
theorem fix_head (d : Dfa) (s : Nat) : (headL d s).map (fixI d) = headL d s := by
  unfold headL; split <;> rfl
theorem fix_out (d : Dfa) : ∀ n, (outN d id n).map (fixI d) = outN d (labI d) n
  | 0 => rfl
  | n + 1 => by
    simp only [outN, stL, List.map_append, fix_out d n, fix_ifs, fix_head]
    rfl
theorem to_ifs {d : Dfa} (h : DOk d) {s : Nat} (hs : s < d.rows.length) : ∀ k, k ≤ d.parts.length → ∀ x ∈ ifsN d s id k, 0 ≤ x.to ∧ x.to < d.rows.length
  | 0, _, x, hx => by simp [ifsN] at hx
  | k + 1, hk, x, hx => by
    simp only [ifsN, List.mem_append] at hx
    rcases hx with hx | hx
    · exact to_ifs h hs k (by omega) x hx
    · split at hx
      · rename_i h0
        obtain ⟨y, _, rfl⟩ := List.mem_map.1 hx
        have hl := h.l s hs
        have hk2 : k < d.rows[s].length := by omega
        have hb := h.b s hs k hk2
        have e : glV d s k = d.rows[s][k] := by simp [glV, List.getD, hs, hk2]
        show 0 ≤ glV d s k ∧ glV d s k < d.rows.length
        omega
      · simp at hx
theorem to_out {d : Dfa} (h : DOk d) : ∀ n, n ≤ d.rows.length → ∀ x ∈ outN d id n, x.op = 3 → 0 ≤ x.to ∧ x.to < d.rows.length
  | 0, _, x, hx => by simp [outN] at hx
  | n + 1, hn, x, hx => by
    intro h3
    simp only [outN, stL, List.mem_append] at hx
    rcases hx with hx | (hx | hx) | hx
    · exact to_out h n (by omega) x hx h3
    · exfalso
      unfold headL at hx
      simp only [List.mem_append] at hx
      rcases hx with hx | hx
      · split at hx
        · rw [List.mem_singleton] at hx; subst hx; simp at h3
        · simp at hx
      · rw [List.mem_singleton] at hx; subst hx; simp at h3
    · exact to_ifs h (by omega) d.parts.length (Nat.le_refl _) x hx
    · rw [List.mem_singleton] at hx; subst hx; simp at h3
def labL (d : Dfa) : List Int := (List.range d.rows.length).map fun i => ((outN d id i).length : Int)
theorem labL_len (d : Dfa) : (labL d).length = d.rows.length := by simp [labL]
theorem labL_get (d : Dfa) (i : Nat) (h : i < (labL d).length) : (labL d)[i] = (outN d id i).length := by simp [labL]
/-- impl.ProgOf -/
theorem fits_progOf (d : Dfa) (h : Small d) : Fits prog 64 [eDfa false d] (.tup [.sl true 4 ((progL d).map eIns), .bool (progOkB d)]) [] := by
  have cO := fits_dfaOk d h
  unfold progL progOkB
  cases hb : dfaB d with
  | false =>
    rw [hb] at cO
    unfold eDfa at *
    refine fits_of_code [2, 3] [] [0, 1, 2, 3, 4, 5, 6, 7, 8, 9, 11, 12, 15, 21, 22, 23, 24, 38, 53, 54, 55, 56, 64, 65, 66, 67, 68, 92, 94, 95, 96, 103] func64 rfl rfl rfl (by rfl) (by show 1 ≤ 119; decide) (by rfl) (by rfl) (by show 0 ≤ 1; decide) (by rfl) (run_of ?_)
    simp -implicitDefEqProofs (maxSteps := 100000) (disch := first | (intros; contradiction) | omega) only [am0, am1, am2, am3, am4, am5, am6, am7, am8, am9, Nat.reduceSub, ↓reduceIte, reduceCtorEq, Nat.reduceEqDiff, Nat.reduceBEq, Nat.reduceAdd, Nat.reduceLT, Nat.reduceBNe, Nat.reduceMul, ↓reduceIte, tis, fls, dx, plain, plainL]
    refine callB cO ?_
    simp -implicitDefEqProofs (maxSteps := 100000) (disch := first | (intros; contradiction) | omega) only [am0, am1, am2, am3, am4, am5, am6, am7, am8, am9, Nat.reduceSub, ↓reduceIte, reduceCtorEq, Nat.reduceEqDiff, Nat.reduceBEq, Nat.reduceAdd, Nat.reduceLT, Nat.reduceBNe, Nat.reduceMul, ↓reduceIte, tis, fls, dx, retW2, List.map_nil]
  | true =>
    have hk := dok_of h hb
    have hn := hk.n
    have hr := h.r
    have hp := h.p
    have hps := h.ps
    have ha := hk.a
    have hal := h.a
    have hbd := hk.bnd id d.rows.length hk.n
    have hLl := labL_len d
    have hfix := fix_out d d.rows.length
    have hto := to_out hk d.rows.length (Nat.le_refl _)
    rw [hb] at cO
    rw [if_pos rfl]
    unfold eDfa at *
    refine fits_of_code [2, 3] [] [0, 1, 2, 3, 4, 5, 6, 7, 8, 9, 11, 12, 15, 21, 22, 23, 24, 38, 53, 54, 55, 56, 64, 65, 66, 67, 68, 92, 94, 95, 96, 103] func64 rfl rfl rfl (by rfl) (by show 1 ≤ 119; decide) (by rfl) (by rfl) (by show 0 ≤ 1; decide) (by rfl) (run_of ?_)
    simp -implicitDefEqProofs (maxSteps := 100000) (disch := first | (intros; contradiction) | omega) only [am0, am1, am2, am3, am4, am5, am6, am7, am8, am9, Nat.reduceSub, ↓reduceIte, reduceCtorEq, Nat.reduceEqDiff, Nat.reduceBEq, Nat.reduceAdd, Nat.reduceLT, Nat.reduceBNe, Nat.reduceMul, ↓reduceIte, tis, fls, dx, plain, plainL]
    refine callB cO ?_
    simp -implicitDefEqProofs (maxSteps := 100000) (disch := first | (intros; contradiction) | omega) only [am0, am1, am2, am3, am4, am5, am6, am7, am8, am9, Nat.reduceSub, ↓reduceIte, reduceCtorEq, Nat.reduceEqDiff, Nat.reduceBEq, Nat.reduceAdd, Nat.reduceLT, Nat.reduceBNe, Nat.reduceMul, ↓reduceIte, tis, fls, dx, plain, plainL]
    refine run_loop (α := Nat) (fun s => s ≤ d.rows.length) (fun s => [(1, .box (.agg [.sl false 1 (d.parts.map (eSpans false)), .sl false 1 (d.rows.map (eInts false)), .sl false 1 (d.acc.map eInt)])), (4, .sl true 4 ((outN d id s).map eIns)), (5, .sl true 1 (((labL d).take s).map eInt ++ List.replicate ((labL d).length - s) (eInt 0))), (21, .sl false 1 (d.rows.map (eInts false))), (22, .int .i64 d.rows.length), (23, .int .i64 s)]) (fun s => d.rows.length - s) 0 (Nat.zero_le _) ?_ ?_
    · simp -implicitDefEqProofs (maxSteps := 100000) (disch := first | (intros; contradiction) | omega) only [am0, am1, am2, am3, am4, am5, am6, am7, am8, am9, Nat.reduceSub, ↓reduceIte, reduceCtorEq, Nat.reduceEqDiff, Nat.reduceBEq, Nat.reduceAdd, Nat.reduceLT, Nat.reduceBNe, Nat.reduceMul, ↓reduceIte, tis, outN, List.map_nil, hLl, eInt]
    · intro s hs'
      have hbs := hk.bnd id s (by omega)
      by_cases hs : s < d.rows.length
      · have hrl := h.rc _ (List.getElem_mem hs)
        have hl := hk.l s hs
        have hsa : s < d.acc.length := by omega
        have hsl := stL_le d id s
        have gr2 : (d.rows.map (eInts false))[s]? = some (.sl false 1 (d.rows[s].map eInt)) := by simp [hs, eInts]
        have gr : (d.rows.map (eInts false)).getD s .undef = .sl false 1 (d.rows[s].map eInt) := by simp [List.getD, hs, eInts]
        have eg : ∀ k, glV d s k = d.rows[s].getD k 0 := fun k => by simp [glV, List.getD, hs]
        generalize d.rows[s] = row at *
        have eac : acV d s = d.acc[s] := by simp [acV, List.getD, hsa]
        have ga2 : (d.acc.map eInt)[s]? = some (.int .i64 d.acc[s]) := by simp [hsa, eInt]
        have hH : headL d s = (if 0 ≤ d.acc[s] then [⟨1, d.acc[s], 0, 0⟩] else []) ++ [⟨2, 0, 0, 0⟩] := by unfold headL; rw [eac]
        generalize hae : d.acc[s] = a at *
        have ea : eInt d.acc[s] = .int .i64 a := by rw [hae]; rfl
        have hhl := headL_len d s
        have b1 := build_get eInt (eInt 0) (labL d) s (by omega)
        have b2 := build_set eInt (eInt 0) (labL d) s (by omega)
        have b3 := build_len eInt (eInt 0) (labL d) s (by omega)
        rw [labL_get d s (by omega)] at b2
        have b2 : (((labL d).take s).map eInt ++ List.replicate ((labL d).length - s) (eInt 0)).set s (.int .i64 (outN d id s).length) = ((labL d).take (s + 1)).map eInt ++ List.replicate ((labL d).length - (s + 1)) (eInt 0) := b2
        have b1 : (((labL d).take s).map eInt ++ List.replicate ((labL d).length - s) (eInt 0))[s]? = some (.int .i64 0) := b1
        have hO : outN d id (s + 1) = outN d id s ++ (headL d s ++ ifsN d s id d.parts.length ++ [⟨4, 0, 0, 0⟩]) := rfl
        generalize ((labL d).take s).map eInt ++ List.replicate ((labL d).length - s) (eInt 0) = A at *
        generalize hB : ((labL d).take (s + 1)).map eInt ++ List.replicate ((labL d).length - (s + 1)) (eInt 0) = B at *
        generalize outN d id s = O at *
        by_cases h0 : 0 ≤ a
        all_goals (
          first
            | (rw [if_pos h0] at hH)
            | (rw [if_neg h0] at hH)
          have hHm := congrArg (List.map eIns) hH
          simp only [List.cons_append, List.nil_append, List.map_cons, List.map_nil, eIns] at hHm
          generalize headL d s = Hd at *
          simp -implicitDefEqProofs (maxSteps := 100000) (disch := first | (intros; contradiction) | omega) only [am0, am1, am2, am3, am4, am5, am6, am7, am8, am9, Nat.reduceSub, ↓reduceIte, reduceCtorEq, Nat.reduceEqDiff, Nat.reduceBEq, Nat.reduceAdd, Nat.reduceLT, Nat.reduceBNe, Nat.reduceMul, ↓reduceIte, tis, fls, dx, gr, gr2, ea, ga2, h0, b1, b2, b3, hLl]
          refine run_loop (α := Nat) (fun k => k ≤ d.parts.length) (fun k => [(1, .box (.agg [.sl false 1 (d.parts.map (eSpans false)), .sl false 1 (d.rows.map (eInts false)), .sl false 1 (d.acc.map eInt)])), (4, .sl true 4 ((O ++ Hd ++ ifsN d s id k).map eIns)), (5, .sl true 1 B), (7, .sl false 1 (row.map eInt)), (21, .sl false 1 (d.rows.map (eInts false))), (22, .int .i64 d.rows.length), (23, .int .i64 s), (53, .sl false 1 (d.parts.map (eSpans false))), (54, .int .i64 d.parts.length), (55, .int .i64 k)]) (fun k => d.parts.length - k) 0 (Nat.zero_le _) ?_ ?_
          · simp -implicitDefEqProofs (maxSteps := 100000) (disch := first | (intros; contradiction) | omega) only [am0, am1, am2, am3, am4, am5, am6, am7, am8, am9, Nat.reduceSub, ↓reduceIte, reduceCtorEq, Nat.reduceEqDiff, Nat.reduceBEq, Nat.reduceAdd, Nat.reduceLT, Nat.reduceBNe, Nat.reduceMul, ↓reduceIte, tis, ifsN, List.append_nil, List.map_append, hHm]
            try simp
          · intro k hk'
            have hle := ifsN_le d s id k hk'
            have hle2 := sumS_mono d.parts k
            by_cases hkk : k < d.parts.length
            · have hkr : k < row.length := by omega
              have hS : ifsN d s id (k + 1) = ifsN d s id k ++ (if 0 ≤ glV d s k then (d.parts.getD k []).map (ifI (glV d s k)) else []) := rfl
              have e1 : glV d s k = row[k] := by rw [eg]; simp [List.getD, hkr]
              have e2 : d.parts.getD k [] = d.parts[k] := by simp [List.getD, hkk]
              have hpl := h.pc _ (List.getElem_mem hkk)
              have gp2 : (d.parts.map (eSpans false))[k]? = some (.sl false 2 (d.parts[k].map eSpan)) := by simp [hkk, eSpans]
              have gp : (d.parts.map (eSpans false)).getD k .undef = .sl false 2 (d.parts[k].map eSpan) := by simp [List.getD, hkk, eSpans]
              have gk2 : (row.map eInt)[k]? = some (.int .i64 row[k]) := by simp [hkr, eInt]
              rw [e1, e2] at hS
              generalize hse : row[k] = x at *
              have ek : eInt row[k] = .int .i64 x := by rw [hse]; rfl
              generalize d.parts[k] = p at *
              generalize ifsN d s id k = F at *
              by_cases hx0 : x < 0
              · rw [if_neg (by omega), List.append_nil] at hS
                simp -implicitDefEqProofs (maxSteps := 100000) (disch := first | (intros; contradiction) | omega) only [am0, am1, am2, am3, am4, am5, am6, am7, am8, am9, Nat.reduceSub, ↓reduceIte, reduceCtorEq, Nat.reduceEqDiff, Nat.reduceBEq, Nat.reduceAdd, Nat.reduceLT, Nat.reduceBNe, Nat.reduceMul, ↓reduceIte, tis, fls, dx, gp, gp2, ek, gk2, hx0]
                refine round_normal (k + 1) (by omega) ?_ (by show d.parts.length - (k + 1) < d.parts.length - k; omega)
                rw [hS]
                simp -implicitDefEqProofs (maxSteps := 100000) (disch := first | (intros; contradiction) | omega) only [am0, am1, am2, am3, am4, am5, am6, am7, am8, am9, Nat.reduceSub, ↓reduceIte, reduceCtorEq, Nat.reduceEqDiff, Nat.reduceBEq, Nat.reduceAdd, Nat.reduceLT, Nat.reduceBNe, Nat.reduceMul, ↓reduceIte, tis]
              · rw [if_pos (by omega)] at hS
                simp -implicitDefEqProofs (maxSteps := 100000) (disch := first | (intros; contradiction) | omega) only [am0, am1, am2, am3, am4, am5, am6, am7, am8, am9, Nat.reduceSub, ↓reduceIte, reduceCtorEq, Nat.reduceEqDiff, Nat.reduceBEq, Nat.reduceAdd, Nat.reduceLT, Nat.reduceBNe, Nat.reduceMul, ↓reduceIte, tis, fls, dx, gp, gp2, ek, gk2, hx0]
                refine run_loop (α := Nat) (fun i => i ≤ p.length) (fun i => [(1, .box (.agg [.sl false 1 (d.parts.map (eSpans false)), .sl false 1 (d.rows.map (eInts false)), .sl false 1 (d.acc.map eInt)])), (4, .sl true 4 ((O ++ Hd ++ F ++ (p.take i).map (ifI x)).map eIns)), (5, .sl true 1 B), (7, .sl false 1 (row.map eInt)), (8, .int .i64 k), (21, .sl false 1 (d.rows.map (eInts false))), (22, .int .i64 d.rows.length), (23, .int .i64 s), (53, .sl false 1 (d.parts.map (eSpans false))), (54, .int .i64 d.parts.length), (55, .int .i64 k), (65, .sl false 2 (p.map eSpan)), (66, .int .i64 p.length), (67, .int .i64 i)]) (fun i => p.length - i) 0 (Nat.zero_le _) ?_ ?_
                · simp -implicitDefEqProofs (maxSteps := 100000) (disch := first | (intros; contradiction) | omega) only [am0, am1, am2, am3, am4, am5, am6, am7, am8, am9, Nat.reduceSub, ↓reduceIte, reduceCtorEq, Nat.reduceEqDiff, Nat.reduceBEq, Nat.reduceAdd, Nat.reduceLT, Nat.reduceBNe, Nat.reduceMul, ↓reduceIte, tis, List.map_nil, List.append_nil]
                · intro i hi'
                  by_cases hi : i < p.length
                  · have hT := map_take_s (ifI x) p i hi
                    have hti : (p.take i).length = i := by simp; omega
                    simp -implicitDefEqProofs (maxSteps := 100000) (disch := first | (intros; contradiction) | omega) only [am0, am1, am2, am3, am4, am5, am6, am7, am8, am9, Nat.reduceSub, ↓reduceIte, reduceCtorEq, Nat.reduceEqDiff, Nat.reduceBEq, Nat.reduceAdd, Nat.reduceLT, Nat.reduceBNe, Nat.reduceMul, ↓reduceIte, tis, fls, dx, ek, gk2, eSpan, plain, plainL, hti]
                    refine .inl ⟨by kernel_rfl, ?_⟩
                    refine round_normal (i + 1) (by omega) ?_ (by show p.length - (i + 1) < p.length - i; omega)
                    have hT2 : (O ++ Hd ++ F ++ (p.take (i + 1)).map (ifI x)).map eIns = (O ++ Hd ++ F ++ (p.take i).map (ifI x)).map eIns ++ [.agg [.int .i64 3, .int .i64 p[i].lo, .int .i64 p[i].hi, .int .i64 x]] := by
                      rw [hT, ← List.append_assoc, List.map_append]; rfl
                    rw [hT2]
                    simp -implicitDefEqProofs (maxSteps := 100000) (disch := first | (intros; contradiction) | omega) only [am0, am1, am2, am3, am4, am5, am6, am7, am8, am9, Nat.reduceSub, ↓reduceIte, reduceCtorEq, Nat.reduceEqDiff, Nat.reduceBEq, Nat.reduceAdd, Nat.reduceLT, Nat.reduceBNe, Nat.reduceMul, ↓reduceIte, tis]
                  · obtain rfl : i = p.length := by omega
                    rw [List.take_length]
                    simp -implicitDefEqProofs (maxSteps := 100000) (disch := first | (intros; contradiction) | omega) only [am0, am1, am2, am3, am4, am5, am6, am7, am8, am9, Nat.reduceSub, ↓reduceIte, reduceCtorEq, Nat.reduceEqDiff, Nat.reduceBEq, Nat.reduceAdd, Nat.reduceLT, Nat.reduceBNe, Nat.reduceMul, ↓reduceIte, tis, fls, dx]
                    refine round_normal (k + 1) (by omega) ?_ (by show d.parts.length - (k + 1) < d.parts.length - k; omega)
                    rw [hS]
                    simp -implicitDefEqProofs (maxSteps := 100000) (disch := first | (intros; contradiction) | omega) only [am0, am1, am2, am3, am4, am5, am6, am7, am8, am9, Nat.reduceSub, ↓reduceIte, reduceCtorEq, Nat.reduceEqDiff, Nat.reduceBEq, Nat.reduceAdd, Nat.reduceLT, Nat.reduceBNe, Nat.reduceMul, ↓reduceIte, tis, List.append_assoc]
            · obtain rfl : k = d.parts.length := by omega
              rw [List.take_length] at hle
              have hO2 : (outN d id (s + 1)).map eIns = (O ++ Hd ++ ifsN d s id d.parts.length).map eIns ++ [.agg [.int .i64 4, .int .i64 0, .int .i64 0, .int .i64 0]] := by
                rw [hO]; simp [eIns]
              generalize ifsN d s id d.parts.length = F at *
              simp -implicitDefEqProofs (maxSteps := 100000) (disch := first | (intros; contradiction) | omega) only [am0, am1, am2, am3, am4, am5, am6, am7, am8, am9, Nat.reduceSub, ↓reduceIte, reduceCtorEq, Nat.reduceEqDiff, Nat.reduceBEq, Nat.reduceAdd, Nat.reduceLT, Nat.reduceBNe, Nat.reduceMul, ↓reduceIte, tis, fls, dx]
              refine round_normal (s + 1) (by omega) ?_ (by show d.rows.length - (s + 1) < d.rows.length - s; omega)
              rw [hO2]
              simp -implicitDefEqProofs (maxSteps := 100000) (disch := first | (intros; contradiction) | omega) only [am0, am1, am2, am3, am4, am5, am6, am7, am8, am9, Nat.reduceSub, ↓reduceIte, reduceCtorEq, Nat.reduceEqDiff, Nat.reduceBEq, Nat.reduceAdd, Nat.reduceLT, Nat.reduceBNe, Nat.reduceMul, ↓reduceIte, tis]
              rw [← hLl]; exact hB.symm)
      · obtain rfl : s = d.rows.length := by omega
        have hend : ((labL d).take d.rows.length).map eInt ++ List.replicate ((labL d).length - d.rows.length) (eInt 0) = (labL d).map eInt := by
          rw [hLl, Nat.sub_self, List.replicate_zero, List.append_nil, List.take_of_length_le (by omega)]
        rw [hend]
        rw [← hfix]
        generalize outN d id d.rows.length = X at *
        by_cases h15 : (1500 : Int) < X.length
        · rw [if_neg (by omega), decide_eq_false (by omega)]
          simp -implicitDefEqProofs (maxSteps := 100000) (disch := first | (intros; contradiction) | omega) only [am0, am1, am2, am3, am4, am5, am6, am7, am8, am9, Nat.reduceSub, ↓reduceIte, reduceCtorEq, Nat.reduceEqDiff, Nat.reduceBEq, Nat.reduceAdd, Nat.reduceLT, Nat.reduceBNe, Nat.reduceMul, ↓reduceIte, tis, fls, dx, h15, retW2, List.map_nil]
        · rw [if_pos (by omega), decide_eq_true (by omega)]
          have cC := fits_copiedIns (X.map (fixI d)) (by rw [List.length_map]; omega)
          simp -implicitDefEqProofs (maxSteps := 100000) (disch := first | (intros; contradiction) | omega) only [am0, am1, am2, am3, am4, am5, am6, am7, am8, am9, Nat.reduceSub, ↓reduceIte, reduceCtorEq, Nat.reduceEqDiff, Nat.reduceBEq, Nat.reduceAdd, Nat.reduceLT, Nat.reduceBNe, Nat.reduceMul, ↓reduceIte, tis, fls, dx, h15]
          refine run_loop (α := Nat) (fun i => i ≤ X.length) (fun i => [(4, .sl true 4 (((X.take i).map (fixI d)).map eIns ++ (X.drop i).map eIns)), (5, .sl true 1 ((labL d).map eInt)), (94, .int .i64 X.length), (95, .int .i64 i)]) (fun i => X.length - i) 0 (Nat.zero_le _) ?_ ?_
          · simp -implicitDefEqProofs (maxSteps := 100000) (disch := first | (intros; contradiction) | omega) only [am0, am1, am2, am3, am4, am5, am6, am7, am8, am9, Nat.reduceSub, ↓reduceIte, reduceCtorEq, Nat.reduceEqDiff, Nat.reduceBEq, Nat.reduceAdd, Nat.reduceLT, Nat.reduceBNe, Nat.reduceMul, ↓reduceIte, tis, List.map_nil]
          · intro i hi'
            have hA : (((X.take i).map (fixI d)).map eIns).length = i := by simp; omega
            have hL : (((X.take i).map (fixI d)).map eIns ++ (X.drop i).map eIns).length = X.length := by simp; omega
            by_cases hi : i < X.length
            · have g1 := turn_get _ eIns X i hA hi
              have g2 := fun y => turn_set _ eIns X i y hA hi
              have hx := hto X[i] (List.getElem_mem hi)
              have hT : ((X.take (i + 1)).map (fixI d)).map eIns = ((X.take i).map (fixI d)).map eIns ++ [eIns (fixI d X[i])] := by
                rw [map_take_s (fixI d) X i hi, List.map_append]; rfl
              have hD : (X.drop i).map eIns = eIns X[i] :: (X.drop (i + 1)).map eIns := by rw [List.drop_eq_getElem_cons hi]; rfl
              generalize ((X.take i).map (fixI d)).map eIns = A at *
              generalize X[i] = x at *
              by_cases h3 : x.op = 3
              · obtain ⟨t0, t1⟩ := hx h3
                obtain ⟨n, hn2⟩ := Int.eq_ofNat_of_zero_le t0
                have hnl : n < (labL d).length := by omega
                have hlg := labL_get d n hnl
                have el : eInt (labL d)[n] = .int .i64 (outN d id n).length := by rw [hlg]; rfl
                have gl2 : ((labL d).map eInt)[n]? = some (.int .i64 (outN d id n).length) := by rw [List.getElem?_map, List.getElem?_eq_getElem hnl]; simp [el]
                have hf : eIns (fixI d x) = .agg [.int .i64 x.op, .int .i64 x.a, .int .i64 x.b, .int .i64 (outN d id n).length] := by
                  unfold fixI; rw [if_pos h3, hn2]; rfl
                simp only [eIns] at g1
                simp -implicitDefEqProofs (maxSteps := 100000) (disch := first | (intros; contradiction) | omega) only [am0, am1, am2, am3, am4, am5, am6, am7, am8, am9, Nat.reduceSub, ↓reduceIte, reduceCtorEq, Nat.reduceEqDiff, Nat.reduceBEq, Nat.reduceAdd, Nat.reduceLT, Nat.reduceBNe, Nat.reduceMul, ↓reduceIte, tis, fls, hL, g1, g2, h3, hn2, el, gl2, hLl]
                refine round_normal (i + 1) (by omega) ?_ (by show X.length - (i + 1) < X.length - i; omega)
                rw [hT, hf]
                simp -implicitDefEqProofs (maxSteps := 100000) (disch := first | (intros; contradiction) | omega) only [am0, am1, am2, am3, am4, am5, am6, am7, am8, am9, Nat.reduceSub, ↓reduceIte, reduceCtorEq, Nat.reduceEqDiff, Nat.reduceBEq, Nat.reduceAdd, Nat.reduceLT, Nat.reduceBNe, Nat.reduceMul, ↓reduceIte, tis, h3]
              · have hf : fixI d x = x := by unfold fixI; rw [if_neg h3]
                have g1' := g1
                simp only [eIns] at g1
                simp -implicitDefEqProofs (maxSteps := 100000) (disch := first | (intros; contradiction) | omega) only [am0, am1, am2, am3, am4, am5, am6, am7, am8, am9, Nat.reduceSub, ↓reduceIte, reduceCtorEq, Nat.reduceEqDiff, Nat.reduceBEq, Nat.reduceAdd, Nat.reduceLT, Nat.reduceBNe, Nat.reduceMul, ↓reduceIte, tis, fls, hL, g1, g2, h3]
                refine round_normal (i + 1) (by omega) ?_ (by show X.length - (i + 1) < X.length - i; omega)
                rw [hT, hf, List.append_assoc, List.cons_append, List.nil_append, ← hD]
                simp -implicitDefEqProofs (maxSteps := 100000) (disch := first | (intros; contradiction) | omega) only [am0, am1, am2, am3, am4, am5, am6, am7, am8, am9, Nat.reduceSub, ↓reduceIte, reduceCtorEq, Nat.reduceEqDiff, Nat.reduceBEq, Nat.reduceAdd, Nat.reduceLT, Nat.reduceBNe, Nat.reduceMul, ↓reduceIte, tis]
            · obtain rfl : i = X.length := by omega
              rw [List.take_length, List.drop_length, List.map_nil, List.append_nil]
              simp -implicitDefEqProofs (maxSteps := 100000) (disch := first | (intros; contradiction) | omega) only [am0, am1, am2, am3, am4, am5, am6, am7, am8, am9, Nat.reduceSub, ↓reduceIte, reduceCtorEq, Nat.reduceEqDiff, Nat.reduceBEq, Nat.reduceAdd, Nat.reduceLT, Nat.reduceBNe, Nat.reduceMul, ↓reduceIte, tis, fls]
              refine callB cC ?_
              simp -implicitDefEqProofs (maxSteps := 100000) (disch := first | (intros; contradiction) | omega) only [am0, am1, am2, am3, am4, am5, am6, am7, am8, am9, Nat.reduceSub, ↓reduceIte, reduceCtorEq, Nat.reduceEqDiff, Nat.reduceBEq, Nat.reduceAdd, Nat.reduceLT, Nat.reduceBNe, Nat.reduceMul, ↓reduceIte, tis, fls, retW2]
theorem szD_ok {n : Int} {b : Nat} (h : ¬ (if n - b < 0 then (-1 : Int) else n - b) < 0) : (b : Int) ≤ n := by
  split at h <;> omega
theorem progL_le (d : Dfa) : (progL d).length ≤ 1500 := by
  unfold progL
  split
  · split
    · rename_i h; rw [outN_len d (labI d) id]; exact h
    · simp
  · simp
/-- laws.FnExactProgOf -/
theorem law_ProgOf (d : Dfa) (hl : LensD d) : Fits prog 11 [eDfa false d] (.bool true) [] := by
  have cZ := fits_szDfa d 1048576 hl (by omega) (by omega)
  by_cases h : (if (1048576 : Int) - bdD d < 0 then (-1 : Int) else 1048576 - bdD d) < 0
  · unfold eDfa at *
    refine fits_of_code [2] [] [0, 1, 2, 3, 4, 5, 6, 7, 8, 9, 10, 11, 12, 13, 18, 40, 45, 61, 69, 72, 87, 92, 95] func11 rfl rfl rfl (by rfl) (by show 1 ≤ 96; decide) (by rfl) (by rfl) (by show 0 ≤ 1; decide) (by rfl) (run_of ?_)
    simp -implicitDefEqProofs (maxSteps := 100000) (disch := first | (intros; contradiction) | omega) only [am0, am1, am2, am3, am4, am5, am6, am7, am8, am9, Nat.reduceSub, ↓reduceIte, reduceCtorEq, Nat.reduceEqDiff, Nat.reduceBEq, Nat.reduceAdd, Nat.reduceLT, Nat.reduceBNe, Nat.reduceMul, ↓reduceIte, tis]
    refine callB cZ ?_
    simp -implicitDefEqProofs (maxSteps := 100000) (disch := first | (intros; contradiction) | omega) only [am0, am1, am2, am3, am4, am5, am6, am7, am8, am9, Nat.reduceSub, ↓reduceIte, reduceCtorEq, Nat.reduceEqDiff, Nat.reduceBEq, Nat.reduceAdd, Nat.reduceLT, Nat.reduceBNe, Nat.reduceMul, ↓reduceIte, tis, h]
  have hb := szD_ok h
  have hs := small_of (d := d) (by omega)
  have hps := hs.ps
  have hrs := hs.rs
  have has := hs.a
  have cI := fits_toDfa d hs
  have cO := fits_sProgOf d hs
  have cP := fits_progOf d hs
  have hg := progL_le d
  generalize progL d = g at *
  generalize progOkB d = q at *
  have cE := fits_eqInsS g g (by omega) (by omega)
  rw [decide_eq_true rfl] at cE
  have cL := fits_eqDfa d hs
  have cM := fits_markDfa d hs 1 (by omega) (by omega)
  have cF := fits_markInsS g 1 (by omega) (by omega) (by omega)
  have cH := fits_heldInsS g.length 1 (by omega) (by omega) (by omega)
  unfold eDfa at *
  refine fits_of_code [2] [] [0, 1, 2, 3, 4, 5, 6, 7, 8, 9, 10, 11, 12, 13, 18, 40, 45, 61, 69, 72, 87, 92, 95] func11 rfl rfl rfl (by rfl) (by show 1 ≤ 96; decide) (by rfl) (by rfl) (by show 0 ≤ 1; decide) (by rfl) (run_of ?_)
  simp -implicitDefEqProofs (maxSteps := 100000) (disch := first | (intros; contradiction) | omega) only [am0, am1, am2, am3, am4, am5, am6, am7, am8, am9, Nat.reduceSub, ↓reduceIte, reduceCtorEq, Nat.reduceEqDiff, Nat.reduceBEq, Nat.reduceAdd, Nat.reduceLT, Nat.reduceBNe, Nat.reduceMul, ↓reduceIte, tis]
  refine callB cZ ?_
  simp -implicitDefEqProofs (maxSteps := 100000) (disch := first | (intros; contradiction) | omega) only [am0, am1, am2, am3, am4, am5, am6, am7, am8, am9, Nat.reduceSub, ↓reduceIte, reduceCtorEq, Nat.reduceEqDiff, Nat.reduceBEq, Nat.reduceAdd, Nat.reduceLT, Nat.reduceBNe, Nat.reduceMul, ↓reduceIte, tis, h]
  refine callB cI ?_
  simp -implicitDefEqProofs (maxSteps := 100000) (disch := first | (intros; contradiction) | omega) only [am0, am1, am2, am3, am4, am5, am6, am7, am8, am9, Nat.reduceSub, ↓reduceIte, reduceCtorEq, Nat.reduceEqDiff, Nat.reduceBEq, Nat.reduceAdd, Nat.reduceLT, Nat.reduceBNe, Nat.reduceMul, ↓reduceIte, tis, fls, dx]
  refine callB cO ?_
  simp -implicitDefEqProofs (maxSteps := 100000) (disch := first | (intros; contradiction) | omega) only [am0, am1, am2, am3, am4, am5, am6, am7, am8, am9, Nat.reduceSub, ↓reduceIte, reduceCtorEq, Nat.reduceEqDiff, Nat.reduceBEq, Nat.reduceAdd, Nat.reduceLT, Nat.reduceBNe, Nat.reduceMul, ↓reduceIte, tis, fls, dx, ex_eq, exGo_tup, plain, plainL]
  refine callB cI ?_
  simp -implicitDefEqProofs (maxSteps := 100000) (disch := first | (intros; contradiction) | omega) only [am0, am1, am2, am3, am4, am5, am6, am7, am8, am9, Nat.reduceSub, ↓reduceIte, reduceCtorEq, Nat.reduceEqDiff, Nat.reduceBEq, Nat.reduceAdd, Nat.reduceLT, Nat.reduceBNe, Nat.reduceMul, ↓reduceIte, tis, fls, dx]
  refine callB cP ?_
  simp -implicitDefEqProofs (maxSteps := 100000) (disch := first | (intros; contradiction) | omega) only [am0, am1, am2, am3, am4, am5, am6, am7, am8, am9, Nat.reduceSub, ↓reduceIte, reduceCtorEq, Nat.reduceEqDiff, Nat.reduceBEq, Nat.reduceAdd, Nat.reduceLT, Nat.reduceBNe, Nat.reduceMul, ↓reduceIte, tis, fls, dx, ex_eq, exGo_tup, plain, plainL]
  refine callB cE ?_
  simp -implicitDefEqProofs (maxSteps := 100000) (disch := first | (intros; contradiction) | omega) only [am0, am1, am2, am3, am4, am5, am6, am7, am8, am9, Nat.reduceSub, ↓reduceIte, reduceCtorEq, Nat.reduceEqDiff, Nat.reduceBEq, Nat.reduceAdd, Nat.reduceLT, Nat.reduceBNe, Nat.reduceMul, ↓reduceIte, tis, fls, dx]
  refine .inl ⟨by kernel_rfl, ?_⟩
  refine callL cI ?_
  simp -implicitDefEqProofs (maxSteps := 100000) (disch := first | (intros; contradiction) | omega) only [am0, am1, am2, am3, am4, am5, am6, am7, am8, am9, Nat.reduceSub, ↓reduceIte, reduceCtorEq, Nat.reduceEqDiff, Nat.reduceBEq, Nat.reduceAdd, Nat.reduceLT, Nat.reduceBNe, Nat.reduceMul, ↓reduceIte, tis, fls, dx]
  refine callL cL ?_
  simp -implicitDefEqProofs (maxSteps := 100000) (disch := first | (intros; contradiction) | omega) only [am0, am1, am2, am3, am4, am5, am6, am7, am8, am9, Nat.reduceSub, ↓reduceIte, reduceCtorEq, Nat.reduceEqDiff, Nat.reduceBEq, Nat.reduceAdd, Nat.reduceLT, Nat.reduceBNe, Nat.reduceMul, ↓reduceIte, tis, fls, dx]
  refine callV cM ?_
  simp -implicitDefEqProofs (maxSteps := 100000) (disch := first | (intros; contradiction) | omega) only [am0, am1, am2, am3, am4, am5, am6, am7, am8, am9, Nat.reduceSub, ↓reduceIte, reduceCtorEq, Nat.reduceEqDiff, Nat.reduceBEq, Nat.reduceAdd, Nat.reduceLT, Nat.reduceBNe, Nat.reduceMul, ↓reduceIte, tis, fls, dx]
  refine callB cE ?_
  simp -implicitDefEqProofs (maxSteps := 100000) (disch := first | (intros; contradiction) | omega) only [am0, am1, am2, am3, am4, am5, am6, am7, am8, am9, Nat.reduceSub, ↓reduceIte, reduceCtorEq, Nat.reduceEqDiff, Nat.reduceBEq, Nat.reduceAdd, Nat.reduceLT, Nat.reduceBNe, Nat.reduceMul, ↓reduceIte, tis, fls, dx]
  refine callM 0 cF ?_
  simp -implicitDefEqProofs (maxSteps := 100000) (disch := first | (intros; contradiction) | omega) only [am0, am1, am2, am3, am4, am5, am6, am7, am8, am9, Nat.reduceSub, ↓reduceIte, reduceCtorEq, Nat.reduceEqDiff, Nat.reduceBEq, Nat.reduceAdd, Nat.reduceLT, Nat.reduceBNe, Nat.reduceMul, ↓reduceIte, tis, fls, dx]
  refine callB cH ?_
  simp -implicitDefEqProofs (maxSteps := 100000) (disch := first | (intros; contradiction) | omega) only [am0, am1, am2, am3, am4, am5, am6, am7, am8, am9, Nat.reduceSub, ↓reduceIte, reduceCtorEq, Nat.reduceEqDiff, Nat.reduceBEq, Nat.reduceAdd, Nat.reduceLT, Nat.reduceBNe, Nat.reduceMul, ↓reduceIte, tis, fls, dx]
  refine callB cI ?_
  simp -implicitDefEqProofs (maxSteps := 100000) (disch := first | (intros; contradiction) | omega) only [am0, am1, am2, am3, am4, am5, am6, am7, am8, am9, Nat.reduceSub, ↓reduceIte, reduceCtorEq, Nat.reduceEqDiff, Nat.reduceBEq, Nat.reduceAdd, Nat.reduceLT, Nat.reduceBNe, Nat.reduceMul, ↓reduceIte, tis, fls, dx]
  refine callB cP ?_
  simp -implicitDefEqProofs (maxSteps := 100000) (disch := first | (intros; contradiction) | omega) only [am0, am1, am2, am3, am4, am5, am6, am7, am8, am9, Nat.reduceSub, ↓reduceIte, reduceCtorEq, Nat.reduceEqDiff, Nat.reduceBEq, Nat.reduceAdd, Nat.reduceLT, Nat.reduceBNe, Nat.reduceMul, ↓reduceIte, tis, fls, dx, ex_eq, exGo_tup, plain, plainL]
  refine callB cE ?_
  simp -implicitDefEqProofs (maxSteps := 100000) (disch := first | (intros; contradiction) | omega) only [am0, am1, am2, am3, am4, am5, am6, am7, am8, am9, Nat.reduceSub, ↓reduceIte, reduceCtorEq, Nat.reduceEqDiff, Nat.reduceBEq, Nat.reduceAdd, Nat.reduceLT, Nat.reduceBNe, Nat.reduceMul, ↓reduceIte, tis, fls, dx]
  refine callB cH ?_
  simp -implicitDefEqProofs (maxSteps := 100000) (disch := first | (intros; contradiction) | omega) only [am0, am1, am2, am3, am4, am5, am6, am7, am8, am9, Nat.reduceSub, ↓reduceIte, reduceCtorEq, Nat.reduceEqDiff, Nat.reduceBEq, Nat.reduceAdd, Nat.reduceLT, Nat.reduceBNe, Nat.reduceMul, ↓reduceIte, tis, fls, dx]
theorem own : ownKnob prog.godebug = none := by kernel_rfl
theorem laidOut : laidOutB prog = true := by kernel_rfl
theorem typ_int {n : Nat} {x : AV} (h : Typed prog n 3 x) : ∃ v, x = .int .i64 v ∧ -9223372036854775808 ≤ v ∧ v ≤ 9223372036854775807 := by
  cases n with
  | zero => exact h.elim
  | succ n =>
    simp only [Typed, underlying3] at h
    obtain ⟨v, rfl, hw⟩ := h
    refine ⟨v, rfl, ?_⟩
    simp [Lit.wf, IntKind.min, IntKind.max, IntKind.bits, IntKind.signed] at hw
    omega
theorem typ_str {n : Nat} {x : AV} (h : Typed prog n 9 x) : ∃ s, x = .str s ∧ s.length ≤ 9223372036854775807 := by
  cases n with
  | zero => exact h.elim
  | succ n => simp only [Typed, underlying9] at h; exact h
theorem typ_bool {n : Nat} {x : AV} (h : Typed prog n 4 x) : ∃ b, x = .bool b := by
  cases n with
  | zero => exact h.elim
  | succ n => simp only [Typed, underlying4] at h; exact h
theorem all_map {α : Type} (f : α → AV) : ∀ xs : List AV, (∀ y ∈ xs, ∃ i, y = f i) → ∃ is : List α, xs = is.map f
  | [], _ => ⟨[], rfl⟩
  | y :: r, h => by
    obtain ⟨i, rfl⟩ := h y (List.mem_cons_self ..)
    obtain ⟨is, rfl⟩ := all_map f r (fun z hz => h z (List.mem_cons_of_mem _ hz))
    exact ⟨i :: is, rfl⟩
theorem co_spanD : prog.cellsOf 162 = 2 := by kernel_rfl
theorem co_spansD : prog.cellsOf 41 = 1 := by kernel_rfl
theorem co_intD : prog.cellsOf 3 = 1 := by kernel_rfl
theorem co_intsD : prog.cellsOf 86 = 1 := by kernel_rfl
theorem typ_spanD {n : Nat} {x : AV} (h : Typed prog n 162 x) : ∃ i, x = eSpan i := by
  cases n with
  | zero => exact h.elim
  | succ n =>
    simp only [Typed, underlying162] at h
    obtain ⟨ys, rfl, hl, hf⟩ := h
    match ys, hl, hf with
    | [a, b], _, hf =>
      obtain ⟨a', rfl, _⟩ := typ_int (hf 0 _ a rfl rfl)
      obtain ⟨b', rfl, _⟩ := typ_int (hf 1 _ b rfl rfl)
      exact ⟨⟨a', b'⟩, rfl⟩
theorem typ_spansD {n : Nat} {x : AV} (h : Typed prog n 41 x) : ∃ p : List Span, x = eSpans false p ∧ p.length ≤ 9223372036854775807 := by
  cases n with
  | zero => exact h.elim
  | succ n =>
    simp only [Typed, underlying41, co_spanD] at h
    obtain ⟨xs, rfl, hl, hf⟩ := h
    obtain ⟨p, rfl⟩ := all_map eSpan xs (fun y hy => typ_spanD (hf y hy))
    exact ⟨p, rfl, by simpa [maxLen] using hl⟩
theorem typ_intsD {n : Nat} {x : AV} (h : Typed prog n 86 x) : ∃ p : List Int, x = eInts false p ∧ p.length ≤ 9223372036854775807 := by
  cases n with
  | zero => exact h.elim
  | succ n =>
    simp only [Typed, underlying86, co_intD] at h
    obtain ⟨xs, rfl, hl, hf⟩ := h
    obtain ⟨p, rfl⟩ := all_map eInt xs (fun y hy => by obtain ⟨v, rfl, _⟩ := typ_int (hf y hy); exact ⟨v, rfl⟩)
    exact ⟨p, rfl, by simpa [maxLen] using hl⟩
theorem all_mapQ {α : Type} (f : α → AV) (Q : α → Prop) : ∀ xs : List AV, (∀ y ∈ xs, ∃ i, y = f i ∧ Q i) → ∃ is : List α, xs = is.map f ∧ ∀ i ∈ is, Q i
  | [], _ => ⟨[], rfl, by simp⟩
  | y :: r, h => by
    obtain ⟨i, rfl, hi⟩ := h y (List.mem_cons_self ..)
    obtain ⟨is, rfl, hr⟩ := all_mapQ f Q r (fun z hz => h z (List.mem_cons_of_mem _ hz))
    exact ⟨i :: is, rfl, fun j hj => (List.mem_cons.1 hj).elim (fun e => e ▸ hi) (hr j)⟩
theorem typ_dfa {n : Nat} {x : AV} (h : Typed prog n 88 x) : ∃ d : Dfa, x = eDfa false d ∧ LensD d := by
  cases n with
  | zero => exact h.elim
  | succ n =>
    simp only [Typed, underlying88] at h
    obtain ⟨ys, rfl, hl, hf⟩ := h
    match ys, hl, hf with
    | [a, b, c], _, hf =>
      have ha := hf 0 _ a rfl rfl
      have hb := hf 1 _ b rfl rfl
      obtain ⟨acc, rfl, hacc⟩ := typ_intsD (hf 2 _ c rfl rfl)
      cases n with
      | zero => exact ha.elim
      | succ n =>
        simp only [Typed, underlying84, co_spansD] at ha
        obtain ⟨xs, rfl, hxl, hxf⟩ := ha
        obtain ⟨P, rfl, hP⟩ := all_mapQ (eSpans false) (fun p => p.length ≤ 9223372036854775807) xs (fun y hy => typ_spansD (hxf y hy))
        simp only [Typed, underlying85, co_intsD] at hb
        obtain ⟨zs, rfl, hzl, hzf⟩ := hb
        obtain ⟨R, rfl, hR⟩ := all_mapQ (eInts false) (fun p => p.length ≤ 9223372036854775807) zs (fun y hy => typ_intsD (hzf y hy))
        exact ⟨⟨P, R, acc⟩, rfl, ⟨by simpa [maxLen] using hxl, hP, by simpa [maxLen] using hzl, hR, hacc⟩⟩
end Go.Proofs.Ytonljcfflamccaa.U
