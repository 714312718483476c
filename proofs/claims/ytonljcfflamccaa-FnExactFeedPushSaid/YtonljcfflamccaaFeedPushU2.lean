/- What functions of the program answer, on values without memory (part 2): conditions stand at each theorem. -/
import Derived.Test.YtonljcfflamccaaRows
import Derived.Test.YtonljcfflamccaaFeedPushU1
set_option linter.unusedVariables false
set_option linter.unusedSimpArgs false
set_option maxRecDepth 100000
set_option maxHeartbeats 4000000
namespace Go.Proofs.Ytonljcfflamccaa.U
open Go Go.RowKit Go.Proofs Go.Proofs.Ytonljcfflamccaa.Am AV Go.Proofs.Try
theorem pushP_len (f : Feed) (w : List UInt8) (hp0 : f.prog.length ≤ 1048576) (ho0 : f.out.length ≤ 1048576) : (pushP f w).prog.length ≤ 1048576 ∧ (pushP f w).out.length ≤ 1048576 := by
  unfold pushP; split
  · rename_i h
    split
    · exact ⟨hp0, ho0⟩
    · rename_i h2
      have hf0 := feedB_FI h
      have hf := goF_FI (hf0.more w (by have := Int.not_lt.1 (fun x => h2 (.inr x)); omega))
      have h1 := (progB_parts hf.prog).1
      have h2 := hf.base
      have h3 := hf.out
      constructor <;> omega
  · simp [feedZ]
/-- laws.FnExactFeedPush -/
theorem law_FeedPush (f : Feed) (hp : f.prog.length ≤ 9223372036854775807) (hb : f.buf.length ≤ 9223372036854775807) (ho : f.out.length ≤ 9223372036854775807) (w : List UInt8) (hw : w.length ≤ 9223372036854775807) : Fits prog 9 [eFeed false f, .str w] (.bool true) [] := by
  refine fits_of_code [4] [] [0, 1, 2, 4, 5, 6, 7, 8, 9, 10, 11, 12, 15, 20, 33, 38, 49, 57, 60, 68, 73, 76] func9 rfl rfl rfl (by rfl) (by show 2 ≤ 77; decide) (by rfl) (by rfl) (by show 0 ≤ 2; decide) (by rfl) (run_of ?_)
  by_cases hw2 : (1048576 : Int) < w.length
  · simp -implicitDefEqProofs (maxSteps := 100000) (disch := first | (intros; contradiction) | omega) only [am0, am1, am2, am3, am4, am5, am6, am7, am8, Nat.reduceSub, ↓reduceIte, reduceCtorEq, Nat.reduceEqDiff, Nat.reduceBEq, Nat.reduceAdd, Nat.reduceLT, Nat.reduceBNe, Nat.reduceMul, ↓reduceIte, tis, eFeed, hw2]
  simp -implicitDefEqProofs (maxSteps := 100000) (disch := first | (intros; contradiction) | omega) only [am0, am1, am2, am3, am4, am5, am6, am7, am8, Nat.reduceSub, ↓reduceIte, reduceCtorEq, Nat.reduceEqDiff, Nat.reduceBEq, Nat.reduceAdd, Nat.reduceLT, Nat.reduceBNe, Nat.reduceMul, ↓reduceIte, tis, eFeed, hw2]
  refine callB (fits_szFeed f 1048576 hp hb ho (by omega) (by omega)) ?_
  by_cases h : szFeed f 1048576 < 0
  · simp -implicitDefEqProofs (maxSteps := 100000) (disch := first | (intros; contradiction) | omega) only [am0, am1, am2, am3, am4, am5, am6, am7, am8, Nat.reduceSub, ↓reduceIte, reduceCtorEq, Nat.reduceEqDiff, Nat.reduceBEq, Nat.reduceAdd, Nat.reduceLT, Nat.reduceBNe, Nat.reduceMul, ↓reduceIte, tis, eFeed, h]
  have hs := szFeed_ok h
  simp -implicitDefEqProofs (maxSteps := 100000) (disch := first | (intros; contradiction) | omega) only [am0, am1, am2, am3, am4, am5, am6, am7, am8, Nat.reduceSub, ↓reduceIte, reduceCtorEq, Nat.reduceEqDiff, Nat.reduceBEq, Nat.reduceAdd, Nat.reduceLT, Nat.reduceBNe, Nat.reduceMul, ↓reduceIte, tis, eFeed, h]
  obtain ⟨q1, q2⟩ := pushP_len f w (by omega) (by omega)
  have cT := fits_toFeed f (by omega) (by omega)
  have cO := fits_sFeedPush f w (by omega) (by omega) (by omega) (by omega)
  have cP := fits_feedPush f w (by omega) (by omega) (by omega) (by omega)
  generalize hg : pushP f w = g at *
  have cE := fits_eqFeed g g (by omega) (by omega) (by omega) (by omega)
  have cL := fits_eqFeed f f (by omega) (by omega) (by omega) (by omega)
  have cM := fits_markFeed f 1 (by omega) (by omega) (by omega) (by omega)
  have cF := fits_markFeed g 1 (by omega) (by omega) (by omega) (by omega)
  have cH := fits_heldFeed g 1 (by omega) (by omega) (by omega) (by omega)
  unfold eFeed at cT cO cP cE cL cM cF cH
  refine callB cT ?_
  simp -implicitDefEqProofs (maxSteps := 100000) (disch := first | (intros; contradiction) | omega) only [am0, am1, am2, am3, am4, am5, am6, am7, am8, Nat.reduceSub, ↓reduceIte, reduceCtorEq, Nat.reduceEqDiff, Nat.reduceBEq, Nat.reduceAdd, Nat.reduceLT, Nat.reduceBNe, Nat.reduceMul, ↓reduceIte, tis, fls]
  refine callB cO ?_
  simp -implicitDefEqProofs (maxSteps := 100000) (disch := first | (intros; contradiction) | omega) only [am0, am1, am2, am3, am4, am5, am6, am7, am8, Nat.reduceSub, ↓reduceIte, reduceCtorEq, Nat.reduceEqDiff, Nat.reduceBEq, Nat.reduceAdd, Nat.reduceLT, Nat.reduceBNe, Nat.reduceMul, ↓reduceIte, tis, fls]
  refine callB cT ?_
  simp -implicitDefEqProofs (maxSteps := 100000) (disch := first | (intros; contradiction) | omega) only [am0, am1, am2, am3, am4, am5, am6, am7, am8, Nat.reduceSub, ↓reduceIte, reduceCtorEq, Nat.reduceEqDiff, Nat.reduceBEq, Nat.reduceAdd, Nat.reduceLT, Nat.reduceBNe, Nat.reduceMul, ↓reduceIte, tis, fls]
  refine callB cP ?_
  simp -implicitDefEqProofs (maxSteps := 100000) (disch := first | (intros; contradiction) | omega) only [am0, am1, am2, am3, am4, am5, am6, am7, am8, Nat.reduceSub, ↓reduceIte, reduceCtorEq, Nat.reduceEqDiff, Nat.reduceBEq, Nat.reduceAdd, Nat.reduceLT, Nat.reduceBNe, Nat.reduceMul, ↓reduceIte, tis, fls]
  refine callB cE ?_
  simp -implicitDefEqProofs (maxSteps := 100000) (disch := first | (intros; contradiction) | omega) only [am0, am1, am2, am3, am4, am5, am6, am7, am8, Nat.reduceSub, ↓reduceIte, reduceCtorEq, Nat.reduceEqDiff, Nat.reduceBEq, Nat.reduceAdd, Nat.reduceLT, Nat.reduceBNe, Nat.reduceMul, ↓reduceIte, tis, fls]
  refine .inl ⟨by kernel_rfl, ?_⟩
  refine callL cT ?_
  simp -implicitDefEqProofs (maxSteps := 100000) (disch := first | (intros; contradiction) | omega) only [am0, am1, am2, am3, am4, am5, am6, am7, am8, Nat.reduceSub, ↓reduceIte, reduceCtorEq, Nat.reduceEqDiff, Nat.reduceBEq, Nat.reduceAdd, Nat.reduceLT, Nat.reduceBNe, Nat.reduceMul, ↓reduceIte, tis, fls]
  refine callL cL ?_
  simp -implicitDefEqProofs (maxSteps := 100000) (disch := first | (intros; contradiction) | omega) only [am0, am1, am2, am3, am4, am5, am6, am7, am8, Nat.reduceSub, ↓reduceIte, reduceCtorEq, Nat.reduceEqDiff, Nat.reduceBEq, Nat.reduceAdd, Nat.reduceLT, Nat.reduceBNe, Nat.reduceMul, ↓reduceIte, tis, fls]
  refine callM 0 cM ?_
  simp -implicitDefEqProofs (maxSteps := 100000) (disch := first | (intros; contradiction) | omega) only [am0, am1, am2, am3, am4, am5, am6, am7, am8, Nat.reduceSub, ↓reduceIte, reduceCtorEq, Nat.reduceEqDiff, Nat.reduceBEq, Nat.reduceAdd, Nat.reduceLT, Nat.reduceBNe, Nat.reduceMul, ↓reduceIte, tis, fls]
  refine callB cE ?_
  simp -implicitDefEqProofs (maxSteps := 100000) (disch := first | (intros; contradiction) | omega) only [am0, am1, am2, am3, am4, am5, am6, am7, am8, Nat.reduceSub, ↓reduceIte, reduceCtorEq, Nat.reduceEqDiff, Nat.reduceBEq, Nat.reduceAdd, Nat.reduceLT, Nat.reduceBNe, Nat.reduceMul, ↓reduceIte, tis, fls]
  refine callM 0 cF ?_
  simp -implicitDefEqProofs (maxSteps := 100000) (disch := first | (intros; contradiction) | omega) only [am0, am1, am2, am3, am4, am5, am6, am7, am8, Nat.reduceSub, ↓reduceIte, reduceCtorEq, Nat.reduceEqDiff, Nat.reduceBEq, Nat.reduceAdd, Nat.reduceLT, Nat.reduceBNe, Nat.reduceMul, ↓reduceIte, tis, fls]
  refine callB cH ?_
  simp -implicitDefEqProofs (maxSteps := 100000) (disch := first | (intros; contradiction) | omega) only [am0, am1, am2, am3, am4, am5, am6, am7, am8, Nat.reduceSub, ↓reduceIte, reduceCtorEq, Nat.reduceEqDiff, Nat.reduceBEq, Nat.reduceAdd, Nat.reduceLT, Nat.reduceBNe, Nat.reduceMul, ↓reduceIte, tis, fls]
  refine callB cT ?_
  simp -implicitDefEqProofs (maxSteps := 100000) (disch := first | (intros; contradiction) | omega) only [am0, am1, am2, am3, am4, am5, am6, am7, am8, Nat.reduceSub, ↓reduceIte, reduceCtorEq, Nat.reduceEqDiff, Nat.reduceBEq, Nat.reduceAdd, Nat.reduceLT, Nat.reduceBNe, Nat.reduceMul, ↓reduceIte, tis, fls]
  refine callB cP ?_
  simp -implicitDefEqProofs (maxSteps := 100000) (disch := first | (intros; contradiction) | omega) only [am0, am1, am2, am3, am4, am5, am6, am7, am8, Nat.reduceSub, ↓reduceIte, reduceCtorEq, Nat.reduceEqDiff, Nat.reduceBEq, Nat.reduceAdd, Nat.reduceLT, Nat.reduceBNe, Nat.reduceMul, ↓reduceIte, tis, fls]
  refine callB cE ?_
  simp -implicitDefEqProofs (maxSteps := 100000) (disch := first | (intros; contradiction) | omega) only [am0, am1, am2, am3, am4, am5, am6, am7, am8, Nat.reduceSub, ↓reduceIte, reduceCtorEq, Nat.reduceEqDiff, Nat.reduceBEq, Nat.reduceAdd, Nat.reduceLT, Nat.reduceBNe, Nat.reduceMul, ↓reduceIte, tis, fls]
  refine callB cH ?_
  simp -implicitDefEqProofs (maxSteps := 100000) (disch := first | (intros; contradiction) | omega) only [am0, am1, am2, am3, am4, am5, am6, am7, am8, Nat.reduceSub, ↓reduceIte, reduceCtorEq, Nat.reduceEqDiff, Nat.reduceBEq, Nat.reduceAdd, Nat.reduceLT, Nat.reduceBNe, Nat.reduceMul, ↓reduceIte, tis, fls]
theorem own : ownKnob prog.godebug = none := by kernel_rfl
theorem laidOut : laidOutB prog = true := by kernel_rfl
theorem typ_int {n : Nat} {x : AV} (h : Typed prog n 3 x) : ∃ v, x = .int .i64 v ∧ -9223372036854775808 ≤ v ∧ v ≤ 9223372036854775807 := by
  cases n with
  | zero => exact h.elim
  | succ n =>
    simp only [Typed, underlying3] at h
    obtain ⟨v, rfl, hw⟩ := h
    refine ⟨v, rfl, ?_⟩
    simp [Lit.wf, IntKind.min, IntKind.max, IntKind.bits, IntKind.signed] at hw
    omega
theorem typ_str {n : Nat} {x : AV} (h : Typed prog n 9 x) : ∃ s, x = .str s ∧ s.length ≤ 9223372036854775807 := by
  cases n with
  | zero => exact h.elim
  | succ n => simp only [Typed, underlying9] at h; exact h
theorem typ_bool {n : Nat} {x : AV} (h : Typed prog n 4 x) : ∃ b, x = .bool b := by
  cases n with
  | zero => exact h.elim
  | succ n => simp only [Typed, underlying4] at h; exact h
theorem all_map {α : Type} (f : α → AV) : ∀ xs : List AV, (∀ y ∈ xs, ∃ i, y = f i) → ∃ is : List α, xs = is.map f
  | [], _ => ⟨[], rfl⟩
  | y :: r, h => by
    obtain ⟨i, rfl⟩ := h y (List.mem_cons_self ..)
    obtain ⟨is, rfl⟩ := all_map f r (fun z hz => h z (List.mem_cons_of_mem _ hz))
    exact ⟨i :: is, rfl⟩
theorem co_ins : prog.cellsOf 131 = 4 := by kernel_rfl
theorem co_tok : prog.cellsOf 174 = 3 := by kernel_rfl
theorem typ_ins {n : Nat} {x : AV} (h : Typed prog n 131 x) : ∃ i, x = eIns i := by
  cases n with
  | zero => exact h.elim
  | succ n =>
    simp only [Typed, underlying131] at h
    obtain ⟨ys, rfl, hl, hf⟩ := h
    match ys, hl, hf with
    | [a, b, c, d], _, hf =>
      obtain ⟨a', rfl, _⟩ := typ_int (hf 0 _ a rfl rfl)
      obtain ⟨b', rfl, _⟩ := typ_int (hf 1 _ b rfl rfl)
      obtain ⟨c', rfl, _⟩ := typ_int (hf 2 _ c rfl rfl)
      obtain ⟨d', rfl, _⟩ := typ_int (hf 3 _ d rfl rfl)
      exact ⟨⟨a', b', c', d'⟩, rfl⟩
theorem typ_tok {n : Nat} {x : AV} (h : Typed prog n 174 x) : ∃ i, x = eToken i := by
  cases n with
  | zero => exact h.elim
  | succ n =>
    simp only [Typed, underlying174] at h
    obtain ⟨ys, rfl, hl, hf⟩ := h
    match ys, hl, hf with
    | [a, b, c], _, hf =>
      obtain ⟨a', rfl, _⟩ := typ_int (hf 0 _ a rfl rfl)
      obtain ⟨b', rfl, _⟩ := typ_int (hf 1 _ b rfl rfl)
      obtain ⟨c', rfl, _⟩ := typ_int (hf 2 _ c rfl rfl)
      exact ⟨⟨a', b', c'⟩, rfl⟩
theorem typ_prog {n : Nat} {x : AV} (h : Typed prog n 54 x) : ∃ p : List Ins, x = .sl false 4 (p.map eIns) ∧ p.length ≤ 9223372036854775807 := by
  cases n with
  | zero => exact h.elim
  | succ n =>
    simp only [Typed, underlying54, co_ins] at h
    obtain ⟨xs, rfl, hl, hf⟩ := h
    obtain ⟨p, rfl⟩ := all_map eIns xs (fun y hy => typ_ins (hf y hy))
    exact ⟨p, rfl, by simpa [maxLen] using hl⟩
theorem typ_toks {n : Nat} {x : AV} (h : Typed prog n 67 x) : ∃ p : List Token, x = .sl false 3 (p.map eToken) ∧ p.length ≤ 9223372036854775807 := by
  cases n with
  | zero => exact h.elim
  | succ n =>
    simp only [Typed, underlying67, co_tok] at h
    obtain ⟨xs, rfl, hl, hf⟩ := h
    obtain ⟨p, rfl⟩ := all_map eToken xs (fun y hy => typ_tok (hf y hy))
    exact ⟨p, rfl, by simpa [maxLen] using hl⟩
theorem typ_feed {n : Nat} {x : AV} (h : Typed prog n 69 x) : ∃ f : Feed, x = eFeed false f ∧ f.prog.length ≤ 9223372036854775807 ∧ f.buf.length ≤ 9223372036854775807 ∧ f.out.length ≤ 9223372036854775807 := by
  cases n with
  | zero => exact h.elim
  | succ n =>
    simp only [Typed, underlying69] at h
    obtain ⟨ys, rfl, hl, hf⟩ := h
    match ys, hl, hf with
    | [y0, y1, y2, y3, y4, y5, y6, y7, y8], _, hf =>
      obtain ⟨p, rfl, hp⟩ := typ_prog (hf 0 _ y0 rfl rfl)
      obtain ⟨b, rfl, hb⟩ := typ_str (hf 1 _ y1 rfl rfl)
      obtain ⟨c1, rfl, _⟩ := typ_int (hf 2 _ y2 rfl rfl)
      obtain ⟨c2, rfl, _⟩ := typ_int (hf 3 _ y3 rfl rfl)
      obtain ⟨c3, rfl, _⟩ := typ_int (hf 4 _ y4 rfl rfl)
      obtain ⟨c4, rfl, _⟩ := typ_int (hf 5 _ y5 rfl rfl)
      obtain ⟨c5, rfl, _⟩ := typ_int (hf 6 _ y6 rfl rfl)
      obtain ⟨q, rfl, hq⟩ := typ_toks (hf 7 _ y7 rfl rfl)
      obtain ⟨s, rfl⟩ := typ_bool (hf 8 _ y8 rfl rfl)
      exact ⟨⟨p, b, c1, c2, c3, c4, c5, q, s⟩, rfl, hp, hb, hq⟩
end Go.Proofs.Ytonljcfflamccaa.U
