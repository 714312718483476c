/- What functions of the program answer, on values without memory (part 2): conditions stand at each theorem. -/
import Derived.Test.YtonljcfflamccaaRows
import Derived.Test.YtonljcfflamccaaFeedAllU1
set_option linter.unusedVariables false
set_option linter.unusedSimpArgs false
set_option maxRecDepth 100000
set_option maxHeartbeats 4000000
namespace Go.Proofs.Ytonljcfflamccaa.U
open Go Go.RowKit Go.Proofs Go.Proofs.Ytonljcfflamccaa.Am AV Go.Proofs.Try
/-- What is left of a measure behind a list. -/
def szl (n : Int) (k : Nat) : Int := if n - k < 0 then -1 else n - k
def szFeed (f : Feed) (n : Int) : Int := if n - f.prog.length < 0 then -1 else if n - f.prog.length - f.buf.length < 0 then -1 else szl (n - f.prog.length - f.buf.length) f.out.length
/-- laws.szFeed -/
theorem fits_szFeed (f : Feed) (n : Int) (hp : f.prog.length ≤ 9223372036854775807) (hb : f.buf.length ≤ 9223372036854775807) (ho : f.out.length ≤ 9223372036854775807) (hn : n ≤ 1048576) (hn0 : 0 ≤ n) : Fits prog 48 [eFeed false f, .int .i64 n] (.int .i64 (szFeed f n)) [] := by
  refine fits_of_code [4] [] [0, 1, 2, 4, 10, 17, 23] func48 rfl rfl rfl (by rfl) (by show 2 ≤ 25; decide) (by rfl) (by rfl) (by show 0 ≤ 2; decide) (by rfl) (run_of ?_)
  simp -implicitDefEqProofs (maxSteps := 100000) (disch := first | (intros; contradiction) | omega) only [am0, am1, am2, am3, am4, am5, am6, am7, am8, am9, Nat.reduceSub, ↓reduceIte, reduceCtorEq, Nat.reduceEqDiff, Nat.reduceBEq, Nat.reduceAdd, Nat.reduceLT, Nat.reduceBNe, Nat.reduceMul, ↓reduceIte, tis, eFeed]
  refine callb_of (fits_szInsS f.prog n hp hn hn0) (by simp -implicitDefEqProofs (maxSteps := 100000) (disch := first | (intros; contradiction) | omega) only [am0, am1, am2, am3, am4, am5, am6, am7, am8, am9, Nat.reduceSub, ↓reduceIte, reduceCtorEq, Nat.reduceEqDiff, Nat.reduceBEq, Nat.reduceAdd, Nat.reduceLT, Nat.reduceBNe, Nat.reduceMul, ↓reduceIte, tis]) (.inl rfl) rfl ?_
  by_cases h1 : n - f.prog.length < 0
  · simp -implicitDefEqProofs (maxSteps := 100000) (disch := first | (intros; contradiction) | omega) only [am0, am1, am2, am3, am4, am5, am6, am7, am8, am9, Nat.reduceSub, ↓reduceIte, reduceCtorEq, Nat.reduceEqDiff, Nat.reduceBEq, Nat.reduceAdd, Nat.reduceLT, Nat.reduceBNe, Nat.reduceMul, ↓reduceIte, tis, h1, szFeed]
  by_cases h2 : n - f.prog.length - f.buf.length < 0
  · simp -implicitDefEqProofs (maxSteps := 100000) (disch := first | (intros; contradiction) | omega) only [am0, am1, am2, am3, am4, am5, am6, am7, am8, am9, Nat.reduceSub, ↓reduceIte, reduceCtorEq, Nat.reduceEqDiff, Nat.reduceBEq, Nat.reduceAdd, Nat.reduceLT, Nat.reduceBNe, Nat.reduceMul, ↓reduceIte, tis, h1, szFeed]
  simp -implicitDefEqProofs (maxSteps := 100000) (disch := first | (intros; contradiction) | omega) only [am0, am1, am2, am3, am4, am5, am6, am7, am8, am9, Nat.reduceSub, ↓reduceIte, reduceCtorEq, Nat.reduceEqDiff, Nat.reduceBEq, Nat.reduceAdd, Nat.reduceLT, Nat.reduceBNe, Nat.reduceMul, ↓reduceIte, tis, eFeed]
  refine callb_of (fits_szTokenS f.out (n - f.prog.length - f.buf.length) ho (by omega) (by omega)) (by simp -implicitDefEqProofs (maxSteps := 100000) (disch := first | (intros; contradiction) | omega) only [am0, am1, am2, am3, am4, am5, am6, am7, am8, am9, Nat.reduceSub, ↓reduceIte, reduceCtorEq, Nat.reduceEqDiff, Nat.reduceBEq, Nat.reduceAdd, Nat.reduceLT, Nat.reduceBNe, Nat.reduceMul, ↓reduceIte, tis]) (.inl rfl) rfl ?_
  by_cases h3 : n - f.prog.length - f.buf.length - f.out.length < 0
  · simp -implicitDefEqProofs (maxSteps := 100000) (disch := first | (intros; contradiction) | omega) only [am0, am1, am2, am3, am4, am5, am6, am7, am8, am9, Nat.reduceSub, ↓reduceIte, reduceCtorEq, Nat.reduceEqDiff, Nat.reduceBEq, Nat.reduceAdd, Nat.reduceLT, Nat.reduceBNe, Nat.reduceMul, ↓reduceIte, tis, h3, szFeed, szl]
  · simp -implicitDefEqProofs (maxSteps := 100000) (disch := first | (intros; contradiction) | omega) only [am0, am1, am2, am3, am4, am5, am6, am7, am8, am9, Nat.reduceSub, ↓reduceIte, reduceCtorEq, Nat.reduceEqDiff, Nat.reduceBEq, Nat.reduceAdd, Nat.reduceLT, Nat.reduceBNe, Nat.reduceMul, ↓reduceIte, tis, h3, szFeed, szl]
/-- laws.toFeed -/
theorem fits_toFeed (f : Feed) (hp : f.prog.length ≤ 1048576) (ho : f.out.length ≤ 1048576) : Fits prog 50 [eFeed false f] (eFeed true f) [] := by
  refine fits_of_cell 2 72 [] [0, 1, 2, 3] func50 rfl rfl rfl (by show 2 < 34; decide) (by show 1 ≤ 34; decide) (by rfl) (by rfl) (by show 0 ≤ 1; decide) (by rfl) (run_of ?_)
  simp -implicitDefEqProofs (maxSteps := 100000) (disch := first | (intros; contradiction) | omega) only [am0, am1, am2, am3, am4, am5, am6, am7, am8, am9, Nat.reduceSub, ↓reduceIte, reduceCtorEq, Nat.reduceEqDiff, Nat.reduceBEq, Nat.reduceAdd, Nat.reduceLT, Nat.reduceBNe, Nat.reduceMul, ↓reduceIte, tis, eFeed]
  refine callb_of (fits_toInsS f.prog hp) (by simp -implicitDefEqProofs (maxSteps := 100000) (disch := first | (intros; contradiction) | omega) only [am0, am1, am2, am3, am4, am5, am6, am7, am8, am9, Nat.reduceSub, ↓reduceIte, reduceCtorEq, Nat.reduceEqDiff, Nat.reduceBEq, Nat.reduceAdd, Nat.reduceLT, Nat.reduceBNe, Nat.reduceMul, ↓reduceIte, tis]) (.inl (by simp -implicitDefEqProofs (maxSteps := 100000) (disch := first | (intros; contradiction) | omega) only [am0, am1, am2, am3, am4, am5, am6, am7, am8, am9, Nat.reduceSub, ↓reduceIte, reduceCtorEq, Nat.reduceEqDiff, Nat.reduceBEq, Nat.reduceAdd, Nat.reduceLT, Nat.reduceBNe, Nat.reduceMul, ↓reduceIte, fls])) rfl ?_
  simp -implicitDefEqProofs (maxSteps := 100000) (disch := first | (intros; contradiction) | omega) only [am0, am1, am2, am3, am4, am5, am6, am7, am8, am9, Nat.reduceSub, ↓reduceIte, reduceCtorEq, Nat.reduceEqDiff, Nat.reduceBEq, Nat.reduceAdd, Nat.reduceLT, Nat.reduceBNe, Nat.reduceMul, ↓reduceIte, tis, eFeed, fls]
  refine callb_of (fits_toTokenS f.out ho) (by simp -implicitDefEqProofs (maxSteps := 100000) (disch := first | (intros; contradiction) | omega) only [am0, am1, am2, am3, am4, am5, am6, am7, am8, am9, Nat.reduceSub, ↓reduceIte, reduceCtorEq, Nat.reduceEqDiff, Nat.reduceBEq, Nat.reduceAdd, Nat.reduceLT, Nat.reduceBNe, Nat.reduceMul, ↓reduceIte, tis]) (.inl (by simp -implicitDefEqProofs (maxSteps := 100000) (disch := first | (intros; contradiction) | omega) only [am0, am1, am2, am3, am4, am5, am6, am7, am8, am9, Nat.reduceSub, ↓reduceIte, reduceCtorEq, Nat.reduceEqDiff, Nat.reduceBEq, Nat.reduceAdd, Nat.reduceLT, Nat.reduceBNe, Nat.reduceMul, ↓reduceIte, fls])) rfl ?_
  simp -implicitDefEqProofs (maxSteps := 100000) (disch := first | (intros; contradiction) | omega) only [am0, am1, am2, am3, am4, am5, am6, am7, am8, am9, Nat.reduceSub, ↓reduceIte, reduceCtorEq, Nat.reduceEqDiff, Nat.reduceBEq, Nat.reduceAdd, Nat.reduceLT, Nat.reduceBNe, Nat.reduceMul, ↓reduceIte, tis, eFeed, fls]
/-- laws.eqFeed -/
theorem fits_eqFeed (f g : Feed) (hp : f.prog.length ≤ 1048576) (ho : f.out.length ≤ 1048576) (hp2 : g.prog.length ≤ 1048576) (ho2 : g.out.length ≤ 1048576) : Fits prog 52 [eFeed false f, eFeed false g] (.bool (decide (f = g))) [] := by
  refine fits_of_code [4] [] [0, 1, 2, 3, 4, 10, 15, 20, 25, 30, 35, 40, 46, 51] func52 rfl rfl rfl (by rfl) (by show 2 ≤ 52; decide) (by rfl) (by rfl) (by show 0 ≤ 2; decide) (by rfl) (run_of ?_)
  obtain ⟨a1, a2, a3, a4, a5, a6, a7, a8, a9⟩ := f
  obtain ⟨b1, b2, b3, b4, b5, b6, b7, b8, b9⟩ := g
  simp only at hp ho hp2 ho2
  by_cases h1 : a1 = b1
  case neg =>
    (simp -implicitDefEqProofs (maxSteps := 100000) (disch := first | (intros; contradiction) | omega) only [am0, am1, am2, am3, am4, am5, am6, am7, am8, am9, Nat.reduceSub, ↓reduceIte, reduceCtorEq, Nat.reduceEqDiff, Nat.reduceBEq, Nat.reduceAdd, Nat.reduceLT, Nat.reduceBNe, Nat.reduceMul, ↓reduceIte, tis, eFeed]; (repeat' ((first | (refine callb_of (fits_eqInsS a1 b1 hp hp2) (by simp -implicitDefEqProofs (maxSteps := 100000) (disch := first | (intros; contradiction) | omega) only [am0, am1, am2, am3, am4, am5, am6, am7, am8, am9, Nat.reduceSub, ↓reduceIte, reduceCtorEq, Nat.reduceEqDiff, Nat.reduceBEq, Nat.reduceAdd, Nat.reduceLT, Nat.reduceBNe, Nat.reduceMul, ↓reduceIte, tis, eFeed]; (repeat' (first | rfl | constructor))) (by first | exact .inl rfl | (right; simp -implicitDefEqProofs (maxSteps := 100000) (disch := first | (intros; contradiction) | omega) only [am0, am1, am2, am3, am4, am5, am6, am7, am8, am9, Nat.reduceSub, ↓reduceIte, reduceCtorEq, Nat.reduceEqDiff, Nat.reduceBEq, Nat.reduceAdd, Nat.reduceLT, Nat.reduceBNe, Nat.reduceMul, ↓reduceIte, tis, eFeed])) rfl ?_) | (refine call_of (fits_eqInsS a1 b1 hp hp2) (by simp -implicitDefEqProofs (maxSteps := 100000) (disch := first | (intros; contradiction) | omega) only [am0, am1, am2, am3, am4, am5, am6, am7, am8, am9, Nat.reduceSub, ↓reduceIte, reduceCtorEq, Nat.reduceEqDiff, Nat.reduceBEq, Nat.reduceAdd, Nat.reduceLT, Nat.reduceBNe, Nat.reduceMul, ↓reduceIte, tis, eFeed]; (repeat' (first | rfl | constructor))) (by first | exact .inl rfl | (right; simp -implicitDefEqProofs (maxSteps := 100000) (disch := first | (intros; contradiction) | omega) only [am0, am1, am2, am3, am4, am5, am6, am7, am8, am9, Nat.reduceSub, ↓reduceIte, reduceCtorEq, Nat.reduceEqDiff, Nat.reduceBEq, Nat.reduceAdd, Nat.reduceLT, Nat.reduceBNe, Nat.reduceMul, ↓reduceIte, tis, eFeed])) rfl ?_) | (refine Or.inl (And.intro (a := drawOk _ _ = true) (by kernel_rfl) ?_)) | (refine Or.inl (show drawOk _ _ = true from (by kernel_rfl))) | (refine cond_beq (fun _ => ?_) (fun _ => ?_)) | (refine cond_bne (fun _ => ?_) (fun _ => ?_)) | (refine cond_dec (fun _ => ?_) (fun _ => ?_)) | (refine cond_of (fun _ => ?_) (fun _ => ?_)) | (refine guard_beq (fun _ => ?_) (fun _ => ?_)) | (refine guard_bne (fun _ => ?_) (fun _ => ?_)) | (refine guard_dec (fun _ => ?_) (fun _ => ?_)) | (refine guard_of (fun _ => ?_) (fun _ => ?_)) | (refine guardD_beq (fun _ => ?_) (fun _ => ?_)) | (refine guardD_bne (fun _ => ?_) (fun _ => ?_)) | (refine guardD_dec (fun _ => ?_) (fun _ => ?_)) | (refine guardD_of (fun _ => ?_) (fun _ => ?_))) <;> (try simp -implicitDefEqProofs (maxSteps := 100000) (disch := first | (intros; contradiction) | omega) only [am0, am1, am2, am3, am4, am5, am6, am7, am8, am9, Nat.reduceSub, ↓reduceIte, reduceCtorEq, Nat.reduceEqDiff, Nat.reduceBEq, Nat.reduceAdd, Nat.reduceLT, Nat.reduceBNe, Nat.reduceMul, ↓reduceIte, tis, eFeed]))))
    all_goals simp_all
  by_cases h2 : a2 = b2
  case neg =>
    have e2 : (a2 == b2) = false := by simpa using h2
    (simp -implicitDefEqProofs (maxSteps := 100000) (disch := first | (intros; contradiction) | omega) only [am0, am1, am2, am3, am4, am5, am6, am7, am8, am9, Nat.reduceSub, ↓reduceIte, reduceCtorEq, Nat.reduceEqDiff, Nat.reduceBEq, Nat.reduceAdd, Nat.reduceLT, Nat.reduceBNe, Nat.reduceMul, ↓reduceIte, tis, eFeed, h1, e2]; (repeat' ((first | (refine callb_of (fits_eqInsS a1 b1 hp hp2) (by simp -implicitDefEqProofs (maxSteps := 100000) (disch := first | (intros; contradiction) | omega) only [am0, am1, am2, am3, am4, am5, am6, am7, am8, am9, Nat.reduceSub, ↓reduceIte, reduceCtorEq, Nat.reduceEqDiff, Nat.reduceBEq, Nat.reduceAdd, Nat.reduceLT, Nat.reduceBNe, Nat.reduceMul, ↓reduceIte, tis, eFeed, h1, e2]; (repeat' (first | rfl | constructor))) (by first | exact .inl rfl | (right; simp -implicitDefEqProofs (maxSteps := 100000) (disch := first | (intros; contradiction) | omega) only [am0, am1, am2, am3, am4, am5, am6, am7, am8, am9, Nat.reduceSub, ↓reduceIte, reduceCtorEq, Nat.reduceEqDiff, Nat.reduceBEq, Nat.reduceAdd, Nat.reduceLT, Nat.reduceBNe, Nat.reduceMul, ↓reduceIte, tis, eFeed, h1, e2])) rfl ?_) | (refine call_of (fits_eqInsS a1 b1 hp hp2) (by simp -implicitDefEqProofs (maxSteps := 100000) (disch := first | (intros; contradiction) | omega) only [am0, am1, am2, am3, am4, am5, am6, am7, am8, am9, Nat.reduceSub, ↓reduceIte, reduceCtorEq, Nat.reduceEqDiff, Nat.reduceBEq, Nat.reduceAdd, Nat.reduceLT, Nat.reduceBNe, Nat.reduceMul, ↓reduceIte, tis, eFeed, h1, e2]; (repeat' (first | rfl | constructor))) (by first | exact .inl rfl | (right; simp -implicitDefEqProofs (maxSteps := 100000) (disch := first | (intros; contradiction) | omega) only [am0, am1, am2, am3, am4, am5, am6, am7, am8, am9, Nat.reduceSub, ↓reduceIte, reduceCtorEq, Nat.reduceEqDiff, Nat.reduceBEq, Nat.reduceAdd, Nat.reduceLT, Nat.reduceBNe, Nat.reduceMul, ↓reduceIte, tis, eFeed, h1, e2])) rfl ?_) | (refine Or.inl (And.intro (a := drawOk _ _ = true) (by kernel_rfl) ?_)) | (refine Or.inl (show drawOk _ _ = true from (by kernel_rfl))) | (refine cond_beq (fun _ => ?_) (fun _ => ?_)) | (refine cond_bne (fun _ => ?_) (fun _ => ?_)) | (refine cond_dec (fun _ => ?_) (fun _ => ?_)) | (refine cond_of (fun _ => ?_) (fun _ => ?_)) | (refine guard_beq (fun _ => ?_) (fun _ => ?_)) | (refine guard_bne (fun _ => ?_) (fun _ => ?_)) | (refine guard_dec (fun _ => ?_) (fun _ => ?_)) | (refine guard_of (fun _ => ?_) (fun _ => ?_)) | (refine guardD_beq (fun _ => ?_) (fun _ => ?_)) | (refine guardD_bne (fun _ => ?_) (fun _ => ?_)) | (refine guardD_dec (fun _ => ?_) (fun _ => ?_)) | (refine guardD_of (fun _ => ?_) (fun _ => ?_))) <;> (try simp -implicitDefEqProofs (maxSteps := 100000) (disch := first | (intros; contradiction) | omega) only [am0, am1, am2, am3, am4, am5, am6, am7, am8, am9, Nat.reduceSub, ↓reduceIte, reduceCtorEq, Nat.reduceEqDiff, Nat.reduceBEq, Nat.reduceAdd, Nat.reduceLT, Nat.reduceBNe, Nat.reduceMul, ↓reduceIte, tis, eFeed, h1, e2]))))
    all_goals simp_all
  by_cases h8 : a8 = b8
  case neg =>
    subst h1; subst h2
    (simp -implicitDefEqProofs (maxSteps := 100000) (disch := first | (intros; contradiction) | omega) only [am0, am1, am2, am3, am4, am5, am6, am7, am8, am9, Nat.reduceSub, ↓reduceIte, reduceCtorEq, Nat.reduceEqDiff, Nat.reduceBEq, Nat.reduceAdd, Nat.reduceLT, Nat.reduceBNe, Nat.reduceMul, ↓reduceIte, tis, eFeed, bne]; (repeat' ((first | (refine callb_of (fits_eqInsS a1 a1 hp hp2) (by simp -implicitDefEqProofs (maxSteps := 100000) (disch := first | (intros; contradiction) | omega) only [am0, am1, am2, am3, am4, am5, am6, am7, am8, am9, Nat.reduceSub, ↓reduceIte, reduceCtorEq, Nat.reduceEqDiff, Nat.reduceBEq, Nat.reduceAdd, Nat.reduceLT, Nat.reduceBNe, Nat.reduceMul, ↓reduceIte, tis, eFeed, bne]; (repeat' (first | rfl | constructor))) (by first | exact .inl rfl | (right; simp -implicitDefEqProofs (maxSteps := 100000) (disch := first | (intros; contradiction) | omega) only [am0, am1, am2, am3, am4, am5, am6, am7, am8, am9, Nat.reduceSub, ↓reduceIte, reduceCtorEq, Nat.reduceEqDiff, Nat.reduceBEq, Nat.reduceAdd, Nat.reduceLT, Nat.reduceBNe, Nat.reduceMul, ↓reduceIte, tis, eFeed, bne])) rfl ?_) | (refine call_of (fits_eqInsS a1 a1 hp hp2) (by simp -implicitDefEqProofs (maxSteps := 100000) (disch := first | (intros; contradiction) | omega) only [am0, am1, am2, am3, am4, am5, am6, am7, am8, am9, Nat.reduceSub, ↓reduceIte, reduceCtorEq, Nat.reduceEqDiff, Nat.reduceBEq, Nat.reduceAdd, Nat.reduceLT, Nat.reduceBNe, Nat.reduceMul, ↓reduceIte, tis, eFeed, bne]; (repeat' (first | rfl | constructor))) (by first | exact .inl rfl | (right; simp -implicitDefEqProofs (maxSteps := 100000) (disch := first | (intros; contradiction) | omega) only [am0, am1, am2, am3, am4, am5, am6, am7, am8, am9, Nat.reduceSub, ↓reduceIte, reduceCtorEq, Nat.reduceEqDiff, Nat.reduceBEq, Nat.reduceAdd, Nat.reduceLT, Nat.reduceBNe, Nat.reduceMul, ↓reduceIte, tis, eFeed, bne])) rfl ?_) | (refine callb_of (fits_eqTokenS a8 b8 ho ho2) (by simp -implicitDefEqProofs (maxSteps := 100000) (disch := first | (intros; contradiction) | omega) only [am0, am1, am2, am3, am4, am5, am6, am7, am8, am9, Nat.reduceSub, ↓reduceIte, reduceCtorEq, Nat.reduceEqDiff, Nat.reduceBEq, Nat.reduceAdd, Nat.reduceLT, Nat.reduceBNe, Nat.reduceMul, ↓reduceIte, tis, eFeed, bne]; (repeat' (first | rfl | constructor))) (by first | exact .inl rfl | (right; simp -implicitDefEqProofs (maxSteps := 100000) (disch := first | (intros; contradiction) | omega) only [am0, am1, am2, am3, am4, am5, am6, am7, am8, am9, Nat.reduceSub, ↓reduceIte, reduceCtorEq, Nat.reduceEqDiff, Nat.reduceBEq, Nat.reduceAdd, Nat.reduceLT, Nat.reduceBNe, Nat.reduceMul, ↓reduceIte, tis, eFeed, bne])) rfl ?_) | (refine call_of (fits_eqTokenS a8 b8 ho ho2) (by simp -implicitDefEqProofs (maxSteps := 100000) (disch := first | (intros; contradiction) | omega) only [am0, am1, am2, am3, am4, am5, am6, am7, am8, am9, Nat.reduceSub, ↓reduceIte, reduceCtorEq, Nat.reduceEqDiff, Nat.reduceBEq, Nat.reduceAdd, Nat.reduceLT, Nat.reduceBNe, Nat.reduceMul, ↓reduceIte, tis, eFeed, bne]; (repeat' (first | rfl | constructor))) (by first | exact .inl rfl | (right; simp -implicitDefEqProofs (maxSteps := 100000) (disch := first | (intros; contradiction) | omega) only [am0, am1, am2, am3, am4, am5, am6, am7, am8, am9, Nat.reduceSub, ↓reduceIte, reduceCtorEq, Nat.reduceEqDiff, Nat.reduceBEq, Nat.reduceAdd, Nat.reduceLT, Nat.reduceBNe, Nat.reduceMul, ↓reduceIte, tis, eFeed, bne])) rfl ?_) | (refine Or.inl (And.intro (a := drawOk _ _ = true) (by kernel_rfl) ?_)) | (refine Or.inl (show drawOk _ _ = true from (by kernel_rfl))) | (refine cond_beq (fun _ => ?_) (fun _ => ?_)) | (refine cond_bne (fun _ => ?_) (fun _ => ?_)) | (refine cond_dec (fun _ => ?_) (fun _ => ?_)) | (refine cond_of (fun _ => ?_) (fun _ => ?_)) | (refine guard_beq (fun _ => ?_) (fun _ => ?_)) | (refine guard_bne (fun _ => ?_) (fun _ => ?_)) | (refine guard_dec (fun _ => ?_) (fun _ => ?_)) | (refine guard_of (fun _ => ?_) (fun _ => ?_)) | (refine guardD_beq (fun _ => ?_) (fun _ => ?_)) | (refine guardD_bne (fun _ => ?_) (fun _ => ?_)) | (refine guardD_dec (fun _ => ?_) (fun _ => ?_)) | (refine guardD_of (fun _ => ?_) (fun _ => ?_))) <;> (try simp -implicitDefEqProofs (maxSteps := 100000) (disch := first | (intros; contradiction) | omega) only [am0, am1, am2, am3, am4, am5, am6, am7, am8, am9, Nat.reduceSub, ↓reduceIte, reduceCtorEq, Nat.reduceEqDiff, Nat.reduceBEq, Nat.reduceAdd, Nat.reduceLT, Nat.reduceBNe, Nat.reduceMul, ↓reduceIte, tis, eFeed, bne]))))
    all_goals simp_all
  by_cases h9 : a9 = b9
  case neg =>
    have e9 : (a9 == b9) = false := by simpa using h9
    subst h1; subst h2; subst h8
    (simp -implicitDefEqProofs (maxSteps := 100000) (disch := first | (intros; contradiction) | omega) only [am0, am1, am2, am3, am4, am5, am6, am7, am8, am9, Nat.reduceSub, ↓reduceIte, reduceCtorEq, Nat.reduceEqDiff, Nat.reduceBEq, Nat.reduceAdd, Nat.reduceLT, Nat.reduceBNe, Nat.reduceMul, ↓reduceIte, tis, eFeed, bne, e9]; (repeat' ((first | (refine callb_of (fits_eqInsS a1 a1 hp hp2) (by simp -implicitDefEqProofs (maxSteps := 100000) (disch := first | (intros; contradiction) | omega) only [am0, am1, am2, am3, am4, am5, am6, am7, am8, am9, Nat.reduceSub, ↓reduceIte, reduceCtorEq, Nat.reduceEqDiff, Nat.reduceBEq, Nat.reduceAdd, Nat.reduceLT, Nat.reduceBNe, Nat.reduceMul, ↓reduceIte, tis, eFeed, bne, e9]; (repeat' (first | rfl | constructor))) (by first | exact .inl rfl | (right; simp -implicitDefEqProofs (maxSteps := 100000) (disch := first | (intros; contradiction) | omega) only [am0, am1, am2, am3, am4, am5, am6, am7, am8, am9, Nat.reduceSub, ↓reduceIte, reduceCtorEq, Nat.reduceEqDiff, Nat.reduceBEq, Nat.reduceAdd, Nat.reduceLT, Nat.reduceBNe, Nat.reduceMul, ↓reduceIte, tis, eFeed, bne, e9])) rfl ?_) | (refine call_of (fits_eqInsS a1 a1 hp hp2) (by simp -implicitDefEqProofs (maxSteps := 100000) (disch := first | (intros; contradiction) | omega) only [am0, am1, am2, am3, am4, am5, am6, am7, am8, am9, Nat.reduceSub, ↓reduceIte, reduceCtorEq, Nat.reduceEqDiff, Nat.reduceBEq, Nat.reduceAdd, Nat.reduceLT, Nat.reduceBNe, Nat.reduceMul, ↓reduceIte, tis, eFeed, bne, e9]; (repeat' (first | rfl | constructor))) (by first | exact .inl rfl | (right; simp -implicitDefEqProofs (maxSteps := 100000) (disch := first | (intros; contradiction) | omega) only [am0, am1, am2, am3, am4, am5, am6, am7, am8, am9, Nat.reduceSub, ↓reduceIte, reduceCtorEq, Nat.reduceEqDiff, Nat.reduceBEq, Nat.reduceAdd, Nat.reduceLT, Nat.reduceBNe, Nat.reduceMul, ↓reduceIte, tis, eFeed, bne, e9])) rfl ?_) | (refine callb_of (fits_eqTokenS a8 a8 ho ho2) (by simp -implicitDefEqProofs (maxSteps := 100000) (disch := first | (intros; contradiction) | omega) only [am0, am1, am2, am3, am4, am5, am6, am7, am8, am9, Nat.reduceSub, ↓reduceIte, reduceCtorEq, Nat.reduceEqDiff, Nat.reduceBEq, Nat.reduceAdd, Nat.reduceLT, Nat.reduceBNe, Nat.reduceMul, ↓reduceIte, tis, eFeed, bne, e9]; (repeat' (first | rfl | constructor))) (by first | exact .inl rfl | (right; simp -implicitDefEqProofs (maxSteps := 100000) (disch := first | (intros; contradiction) | omega) only [am0, am1, am2, am3, am4, am5, am6, am7, am8, am9, Nat.reduceSub, ↓reduceIte, reduceCtorEq, Nat.reduceEqDiff, Nat.reduceBEq, Nat.reduceAdd, Nat.reduceLT, Nat.reduceBNe, Nat.reduceMul, ↓reduceIte, tis, eFeed, bne, e9])) rfl ?_) | (refine call_of (fits_eqTokenS a8 a8 ho ho2) (by simp -implicitDefEqProofs (maxSteps := 100000) (disch := first | (intros; contradiction) | omega) only [am0, am1, am2, am3, am4, am5, am6, am7, am8, am9, Nat.reduceSub, ↓reduceIte, reduceCtorEq, Nat.reduceEqDiff, Nat.reduceBEq, Nat.reduceAdd, Nat.reduceLT, Nat.reduceBNe, Nat.reduceMul, ↓reduceIte, tis, eFeed, bne, e9]; (repeat' (first | rfl | constructor))) (by first | exact .inl rfl | (right; simp -implicitDefEqProofs (maxSteps := 100000) (disch := first | (intros; contradiction) | omega) only [am0, am1, am2, am3, am4, am5, am6, am7, am8, am9, Nat.reduceSub, ↓reduceIte, reduceCtorEq, Nat.reduceEqDiff, Nat.reduceBEq, Nat.reduceAdd, Nat.reduceLT, Nat.reduceBNe, Nat.reduceMul, ↓reduceIte, tis, eFeed, bne, e9])) rfl ?_) | (refine Or.inl (And.intro (a := drawOk _ _ = true) (by kernel_rfl) ?_)) | (refine Or.inl (show drawOk _ _ = true from (by kernel_rfl))) | (refine cond_beq (fun _ => ?_) (fun _ => ?_)) | (refine cond_bne (fun _ => ?_) (fun _ => ?_)) | (refine cond_dec (fun _ => ?_) (fun _ => ?_)) | (refine cond_of (fun _ => ?_) (fun _ => ?_)) | (refine guard_beq (fun _ => ?_) (fun _ => ?_)) | (refine guard_bne (fun _ => ?_) (fun _ => ?_)) | (refine guard_dec (fun _ => ?_) (fun _ => ?_)) | (refine guard_of (fun _ => ?_) (fun _ => ?_)) | (refine guardD_beq (fun _ => ?_) (fun _ => ?_)) | (refine guardD_bne (fun _ => ?_) (fun _ => ?_)) | (refine guardD_dec (fun _ => ?_) (fun _ => ?_)) | (refine guardD_of (fun _ => ?_) (fun _ => ?_))) <;> (try simp -implicitDefEqProofs (maxSteps := 100000) (disch := first | (intros; contradiction) | omega) only [am0, am1, am2, am3, am4, am5, am6, am7, am8, am9, Nat.reduceSub, ↓reduceIte, reduceCtorEq, Nat.reduceEqDiff, Nat.reduceBEq, Nat.reduceAdd, Nat.reduceLT, Nat.reduceBNe, Nat.reduceMul, ↓reduceIte, tis, eFeed, bne, e9]))))
    all_goals simp_all
  subst h1; subst h2; subst h8; subst h9
  (simp -implicitDefEqProofs (maxSteps := 100000) (disch := first | (intros; contradiction) | omega) only [am0, am1, am2, am3, am4, am5, am6, am7, am8, am9, Nat.reduceSub, ↓reduceIte, reduceCtorEq, Nat.reduceEqDiff, Nat.reduceBEq, Nat.reduceAdd, Nat.reduceLT, Nat.reduceBNe, Nat.reduceMul, ↓reduceIte, tis, eFeed, bne]; (repeat' ((first | (refine callb_of (fits_eqInsS a1 a1 hp hp2) (by simp -implicitDefEqProofs (maxSteps := 100000) (disch := first | (intros; contradiction) | omega) only [am0, am1, am2, am3, am4, am5, am6, am7, am8, am9, Nat.reduceSub, ↓reduceIte, reduceCtorEq, Nat.reduceEqDiff, Nat.reduceBEq, Nat.reduceAdd, Nat.reduceLT, Nat.reduceBNe, Nat.reduceMul, ↓reduceIte, tis, eFeed, bne]; (repeat' (first | rfl | constructor))) (by first | exact .inl rfl | (right; simp -implicitDefEqProofs (maxSteps := 100000) (disch := first | (intros; contradiction) | omega) only [am0, am1, am2, am3, am4, am5, am6, am7, am8, am9, Nat.reduceSub, ↓reduceIte, reduceCtorEq, Nat.reduceEqDiff, Nat.reduceBEq, Nat.reduceAdd, Nat.reduceLT, Nat.reduceBNe, Nat.reduceMul, ↓reduceIte, tis, eFeed, bne])) rfl ?_) | (refine call_of (fits_eqInsS a1 a1 hp hp2) (by simp -implicitDefEqProofs (maxSteps := 100000) (disch := first | (intros; contradiction) | omega) only [am0, am1, am2, am3, am4, am5, am6, am7, am8, am9, Nat.reduceSub, ↓reduceIte, reduceCtorEq, Nat.reduceEqDiff, Nat.reduceBEq, Nat.reduceAdd, Nat.reduceLT, Nat.reduceBNe, Nat.reduceMul, ↓reduceIte, tis, eFeed, bne]; (repeat' (first | rfl | constructor))) (by first | exact .inl rfl | (right; simp -implicitDefEqProofs (maxSteps := 100000) (disch := first | (intros; contradiction) | omega) only [am0, am1, am2, am3, am4, am5, am6, am7, am8, am9, Nat.reduceSub, ↓reduceIte, reduceCtorEq, Nat.reduceEqDiff, Nat.reduceBEq, Nat.reduceAdd, Nat.reduceLT, Nat.reduceBNe, Nat.reduceMul, ↓reduceIte, tis, eFeed, bne])) rfl ?_) | (refine callb_of (fits_eqTokenS a8 a8 ho ho2) (by simp -implicitDefEqProofs (maxSteps := 100000) (disch := first | (intros; contradiction) | omega) only [am0, am1, am2, am3, am4, am5, am6, am7, am8, am9, Nat.reduceSub, ↓reduceIte, reduceCtorEq, Nat.reduceEqDiff, Nat.reduceBEq, Nat.reduceAdd, Nat.reduceLT, Nat.reduceBNe, Nat.reduceMul, ↓reduceIte, tis, eFeed, bne]; (repeat' (first | rfl | constructor))) (by first | exact .inl rfl | (right; simp -implicitDefEqProofs (maxSteps := 100000) (disch := first | (intros; contradiction) | omega) only [am0, am1, am2, am3, am4, am5, am6, am7, am8, am9, Nat.reduceSub, ↓reduceIte, reduceCtorEq, Nat.reduceEqDiff, Nat.reduceBEq, Nat.reduceAdd, Nat.reduceLT, Nat.reduceBNe, Nat.reduceMul, ↓reduceIte, tis, eFeed, bne])) rfl ?_) | (refine call_of (fits_eqTokenS a8 a8 ho ho2) (by simp -implicitDefEqProofs (maxSteps := 100000) (disch := first | (intros; contradiction) | omega) only [am0, am1, am2, am3, am4, am5, am6, am7, am8, am9, Nat.reduceSub, ↓reduceIte, reduceCtorEq, Nat.reduceEqDiff, Nat.reduceBEq, Nat.reduceAdd, Nat.reduceLT, Nat.reduceBNe, Nat.reduceMul, ↓reduceIte, tis, eFeed, bne]; (repeat' (first | rfl | constructor))) (by first | exact .inl rfl | (right; simp -implicitDefEqProofs (maxSteps := 100000) (disch := first | (intros; contradiction) | omega) only [am0, am1, am2, am3, am4, am5, am6, am7, am8, am9, Nat.reduceSub, ↓reduceIte, reduceCtorEq, Nat.reduceEqDiff, Nat.reduceBEq, Nat.reduceAdd, Nat.reduceLT, Nat.reduceBNe, Nat.reduceMul, ↓reduceIte, tis, eFeed, bne])) rfl ?_) | (refine Or.inl (And.intro (a := drawOk _ _ = true) (by kernel_rfl) ?_)) | (refine Or.inl (show drawOk _ _ = true from (by kernel_rfl))) | (refine cond_beq (fun _ => ?_) (fun _ => ?_)) | (refine cond_bne (fun _ => ?_) (fun _ => ?_)) | (refine cond_dec (fun _ => ?_) (fun _ => ?_)) | (refine cond_of (fun _ => ?_) (fun _ => ?_)) | (refine guard_beq (fun _ => ?_) (fun _ => ?_)) | (refine guard_bne (fun _ => ?_) (fun _ => ?_)) | (refine guard_dec (fun _ => ?_) (fun _ => ?_)) | (refine guard_of (fun _ => ?_) (fun _ => ?_)) | (refine guardD_beq (fun _ => ?_) (fun _ => ?_)) | (refine guardD_bne (fun _ => ?_) (fun _ => ?_)) | (refine guardD_dec (fun _ => ?_) (fun _ => ?_)) | (refine guardD_of (fun _ => ?_) (fun _ => ?_))) <;> (try simp -implicitDefEqProofs (maxSteps := 100000) (disch := first | (intros; contradiction) | omega) only [am0, am1, am2, am3, am4, am5, am6, am7, am8, am9, Nat.reduceSub, ↓reduceIte, reduceCtorEq, Nat.reduceEqDiff, Nat.reduceBEq, Nat.reduceAdd, Nat.reduceLT, Nat.reduceBNe, Nat.reduceMul, ↓reduceIte, tis, eFeed, bne]))))
  all_goals simp_all
theorem szFeed_ok {f : Feed} (h : ¬ szFeed f 1048576 < 0) : f.prog.length + f.buf.length + f.out.length ≤ 1048576 := by
  unfold szFeed szl at h
  split at h
  · omega
  · split at h
    · omega
    · split at h <;> omega
theorem er_feed (f : Feed) : erase (eFeed true f) = eFeed false f := by simp [eFeed, erase, eraseL, flIns.eraseL, flToken.eraseL]
section
variable {h h' : Array Obj} {S : Nat → Prop}
theorem rl_int {k : IntKind} {n : Int} {xs : List AV} {cs : List Value} {O : Nat → Prop} : RepL h S (.int k n :: xs) cs O ↔ ∃ c2, cs = .int k n :: c2 ∧ RepL h S xs c2 O := by
  simp only [RepL, RepC]
  constructor
  · rintro ⟨c1, c2, O1, O2, rfl, h2, h3, ⟨rfl, h4⟩, h5⟩
    exact ⟨c2, rfl, repL_cong _ h5 (fun k => by rw [h2 k]; exact ⟨fun h => h.resolve_left (h4 k), .inr⟩)⟩
  · rintro ⟨c2, rfl, h5⟩
    exact ⟨[_], c2, fun _ => False, O, rfl, by simp, by simp, ⟨rfl, emp_false⟩, h5⟩
theorem rl_bool {b : Bool} {xs : List AV} {cs : List Value} {O : Nat → Prop} : RepL h S (.bool b :: xs) cs O ↔ ∃ c2, cs = .bool b :: c2 ∧ RepL h S xs c2 O := by
  simp only [RepL, RepC]
  constructor
  · rintro ⟨c1, c2, O1, O2, rfl, h2, h3, ⟨rfl, h4⟩, h5⟩
    exact ⟨c2, rfl, repL_cong _ h5 (fun k => by rw [h2 k]; exact ⟨fun h => h.resolve_left (h4 k), .inr⟩)⟩
  · rintro ⟨c2, rfl, h5⟩
    exact ⟨[_], c2, fun _ => False, O, rfl, by simp, by simp, ⟨rfl, emp_false⟩, h5⟩
theorem rl_str {s : List UInt8} {xs : List AV} {cs : List Value} {O : Nat → Prop} : RepL h S (.str s :: xs) cs O ↔ ∃ c2, cs = .string ⟨s.toArray⟩ :: c2 ∧ RepL h S xs c2 O := by
  simp only [RepL, RepC]
  constructor
  · rintro ⟨c1, c2, O1, O2, rfl, h2, h3, ⟨rfl, h4⟩, h5⟩
    exact ⟨c2, rfl, repL_cong _ h5 (fun k => by rw [h2 k]; exact ⟨fun h => h.resolve_left (h4 k), .inr⟩)⟩
  · rintro ⟨c2, rfl, h5⟩
    exact ⟨[_], c2, fun _ => False, O, rfl, by simp, by simp, ⟨rfl, emp_false⟩, h5⟩
theorem rl_sl {o : Bool} {z : Nat} {l xs : List AV} {cs : List Value} {O : Nat → Prop} : RepL h S (.sl o z l :: xs) cs O ↔ ∃ v c2 O1 O2, cs = v :: c2 ∧ (∀ k, O k ↔ O1 k ∨ O2 k) ∧ (∀ k, O1 k → ¬ O2 k) ∧ RepC h S (.sl o z l) [v] O1 ∧ RepL h S xs c2 O2 := by
  constructor
  · intro r
    simp only [RepL] at r
    obtain ⟨c1, c2, O1, O2, rfl, h2, h3, h4, h5⟩ := r
    have hl := repC_len _ h4
    obtain ⟨v, rfl⟩ := List.length_eq_one_iff.1 (by simpa [ncells] using hl)
    exact ⟨v, c2, O1, O2, rfl, h2, h3, h4, h5⟩
  · rintro ⟨v, c2, O1, O2, rfl, h2, h3, h4, h5⟩
    simp only [RepL]
    exact ⟨[v], c2, O1, O2, rfl, h2, h3, h4, h5⟩
theorem rl_nil {cs : List Value} {O : Nat → Prop} : RepL h S [] cs O ↔ cs = [] ∧ Emp O := by simp only [RepL]
end
def mkFeed (f : Feed) (k : Int) : Feed := { f with prog := mkInss f.prog.length k, out := mkTokens f.out.length (k + 4 * f.prog.length) }
/-- laws.markFeed -/
theorem fits_markFeed (f : Feed) (k : Int) (hp : f.prog.length ≤ 1048576) (ho : f.out.length ≤ 1048576) (h0 : 0 ≤ k) (hk : k ≤ 1048576) :
    Fits prog 53 [eFeed true f, .int .i64 k] (.int .i64 (k + 4 * f.prog.length + 3 * f.out.length)) [eFeed true (mkFeed f k)] := by
  refine ⟨⟨_, func53, by rfl, by rfl⟩, ?_⟩
  intro w vs ok O hall hrep
  simp only [RepWs, eFeed] at hrep
  obtain ⟨v0, vs1, Oa, Ob, rfl, e1, e2, r0, v1, vs2, Oc, Od, rfl, e3, e4, r1, rfl, e5⟩ := hrep
  simp only [RepW] at r0 r1
  obtain ⟨cs, rfl, r0⟩ := r0
  simp only [RepC] at r0
  obtain ⟨s1, c1, O1, O1', hc1, a1, a2, rs1, q1⟩ := rl_sl.1 r0
  obtain ⟨c2, d2, q2⟩ := rl_str.1 q1
  obtain ⟨c3, d3, q3⟩ := rl_int.1 q2
  obtain ⟨c4, d4, q4⟩ := rl_int.1 q3
  obtain ⟨c5, d5, q5⟩ := rl_int.1 q4
  obtain ⟨c6, d6, q6⟩ := rl_int.1 q5
  obtain ⟨c7, d7, q7⟩ := rl_int.1 q6
  obtain ⟨s8, c8, O8, O8', d8, a3, a4, rs8, q8⟩ := rl_sl.1 q7
  obtain ⟨c9, d9, q9⟩ := rl_bool.1 q8
  obtain ⟨d10, q10⟩ := rl_nil.1 q9
  subst d10 d9 d8 d7 d6 d5 d4 d3 d2
  simp only [RepC] at r1
  obtain ⟨r1, r1'⟩ := r1
  have r1 : v1 = .int .i64 k := by simpa using r1
  subst r1
  have hcs : cs = #[s1, .string ⟨f.buf.toArray⟩, .int .i64 f.base, .int .i64 f.pc, .int .i64 f.at_, .int .i64 f.rule, .int .i64 f.to, s8, .bool f.stuck] := by
    apply Array.ext'; rw [hc1]
  subst hcs
  show Calls prog 53 #[.agg #[s1, .string ⟨f.buf.toArray⟩, .int .i64 f.base, .int .i64 f.pc, .int .i64 f.at_, .int .i64 f.rule, .int .i64 f.to, s8, .bool f.stuck], .int .i64 k] w _
  clear q1 q2 q3 q4 q5 q6 q7 q8 q9 r0
  have hO : ∀ k, O k ↔ O1 k ∨ O8 k := by
    intro k
    rw [e1, a1, a3, e3]
    constructor
    · rintro ((h | h | h) | h | h)
      · exact .inl h
      · exact .inr h
      · exact (q10 k h).elim
      · exact (r1' k h).elim
      · exact (e5 k h).elim
    · rintro (h | h)
      · exact .inl (.inl h)
      · exact .inl (.inr (.inl h))
  have hd18 : ∀ k, O1 k → ¬ O8 k := fun k h1 h8 => a2 k h1 ((a3 k).2 (.inl h8))
  have lt1 := repC_lt _ rs1
  have lt8 := repC_lt _ rs8
  clear a1 a2 a3 a4 e1 e2 e3 e4 e5 r1' q10
  generalize hcells : #[s1, Value.string ⟨f.buf.toArray⟩, .int .i64 f.base, .int .i64 f.pc, .int .i64 f.at_, .int .i64 f.rule, .int .i64 f.to, s8, .bool f.stuck] = cells
  have hc0 : cells[0]? = some s1 := by rw [← hcells]; rfl
  have hc7 : cells[7]? = some s8 := by rw [← hcells]; rfl
  have hag : ∀ {h' : Array Obj} {S' Oz : Nat → Prop}, (∀ k, (ok k ∧ ¬ O k) → k < w.heap.size → S' k ∧ h'[k]? = w.heap[k]?) → (∀ k, Oz k → h'[k]? = w.heap[k]?) → Agree w.heap h' (fun k => ok k ∧ ¬ O k) S' Oz := fun h1 h2 => ⟨h1, h2⟩
  have push : ∀ k, k < w.heap.size → (w.alloc (.cells cells 72)).heap[k]? = w.heap[k]? := fun k hk => push_old _ _ hk
  have hsz : w.heap.size < (w.alloc (.cells cells 72)).heap.size := by show _ < (w.heap.push _).size; rw [Array.size_push]; omega
  have hA := (fits_markInsS f.prog k hp h0 (by omega)).2 (w.alloc (.cells cells 72)) [s1, .int .i64 k] ok O1
    (fun k hk => hk.elim (fun h => hall k (.inl ((hO k).2 (.inl h)))) (fun h => hall k (.inr (Nat.le_trans (Nat.le_of_lt hsz) h))))
    (by
      simp only [RepWs, RepW]
      refine ⟨s1, _, O1, fun _ => False, rfl, by simp, by simp, repC_mono _ rs1 (hag (fun k hk hlt => ⟨⟨hk.1, fun h => hk.2 ((hO k).2 (.inl h))⟩, push k hlt⟩) (fun k hk => push k (lt1 k hk))), .int .i64 k, [], fun _ => False, fun _ => False, rfl, by simp, by simp, ?_, rfl, emp_false⟩
      simp only [RepC]; exact ⟨trivial, emp_false⟩)
  generalize hQ : (fun e w' => _) = Q
  go_enter func53, ntmps53
  go_wp2_with fail
  refine Calls.mono hA ?_
  rintro e w1 ⟨v1, Or1, Oo1, rfl, b1, b2, b3, b4, b5, b6, b7, b8, b9⟩
  have hB : (w.alloc (.cells cells 72)).heap[w.heap.size]? = some (.cells cells 72 (0, 0)) := push_new _ _
  have hB1 : w1.heap[w.heap.size]? = some (.cells cells 72 (0, 0)) := by rw [b5 _ hsz (fun h => absurd (lt1 _ h) (Nat.lt_irrefl _)), hB]
  have hcell : w1.cell? ⟨w.heap.size, 7, none⟩ = some s8 := by rw [cell_eq]; simp [cellH, hB1, hc7]
  have hv1 : v1 = .int .i64 (k + 4 * f.prog.length) := by simp only [RepW, RepC] at b6; simpa using b6.1
  subst hv1
  have hOr1 : Emp Or1 := by simp only [RepW, RepC] at b6; exact b6.2
  go_wp2_with fail
  have hw1 : ∀ k, k < w.heap.size → ¬ O1 k → w1.heap[k]? = w.heap[k]? := fun k hk h1 => (b5 k (by omega) h1).trans (push k hk)
  have hA2 := (fits_markTokenS f.out (k + 4 * f.prog.length) ho (by omega) (by omega)).2 w1 [s8, .int .i64 (k + 4 * f.prog.length)] ok O8
    (fun k hk => hk.elim (fun h => hall k (.inl ((hO k).2 (.inr h)))) (fun h => hall k (.inr (by omega))))
    (by
      simp only [RepWs, RepW]
      refine ⟨s8, _, O8, fun _ => False, rfl, by simp, by simp, repC_mono _ rs8 (hag (fun k hk hlt => ⟨⟨hk.1, fun h => hk.2 ((hO k).2 (.inr h))⟩, hw1 k hlt (fun h => hk.2 ((hO k).2 (.inl h)))⟩) (fun k hk => hw1 k (lt8 k hk) (fun h => hd18 k h hk))), .int .i64 (k + 4 * f.prog.length), [], fun _ => False, fun _ => False, rfl, by simp, by simp, ?_, rfl, emp_false⟩
      simp only [RepC]; exact ⟨trivial, emp_false⟩)
  refine Calls.mono hA2 ?_
  rintro e w2 ⟨v2, Or2, Oo2, rfl, d1, d2, d3, d4, d5, d6, d7, d8, d9⟩
  have hv2 : v2 = .int .i64 (k + 4 * f.prog.length + 3 * f.out.length) := by simp only [RepW, RepC] at d6; simpa using d6.1
  subst hv2
  have hOr2 : Emp Or2 := by simp only [RepW, RepC] at d6; exact d6.2
  go_wp2_with fail
  rw [← hQ]
  simp only [List.take_succ_cons, List.take_zero, List.length_cons, List.length_nil] at b7 d7
  simp only [RepWs, RepW] at b7 d7
  obtain ⟨x1, y1, P1, P1', g1, g2, g3, g4, g5, g6⟩ := b7
  obtain ⟨x2, y2, P2, P2', k1, k2, k3, k4, k5, k6⟩ := d7
  obtain ⟨rfl, rfl⟩ : s1 = x1 ∧ [] = y1 := by simpa using g1
  obtain ⟨rfl, rfl⟩ : s8 = x2 ∧ [] = y2 := by simpa using k1
  have p1 : ∀ k, P1 k → O1 k ∨ (w.alloc (.cells cells 72)).heap.size ≤ k := fun k hk => b9 k (.inr ((g2 k).2 (.inl hk)))
  have p2 : ∀ k, P2 k → O8 k ∨ w1.heap.size ≤ k := fun k hk => d9 k (.inr ((k2 k).2 (.inl hk)))
  have l1 := repC_lt _ g4
  have q1 : ∀ k, P1 k → ¬ O8 k := fun k hk h8 => by
    rcases p1 k hk with h | h
    · exact hd18 k h h8
    · have := lt8 k h8; omega
  have q2 : ∀ k, P1 k → ¬ P2 k := fun k hk hk2 => by
    rcases p2 k hk2 with h | h
    · exact q1 k hk h
    · have := l1 k hk; omega
  refine ⟨.int .i64 (k + 4 * f.prog.length + 3 * f.out.length), fun _ => False, fun k => P1 k ∨ P2 k, rfl, d1.trans b1, d2.trans b2, d3.trans b3, by omega, ?_, ?_, ?_, fun _ h => h.elim, ?_⟩
  · intro k hk hn
    rw [d5 k (by omega) (fun h => hn ((hO k).2 (.inr h))), hw1 k hk (fun h => hn ((hO k).2 (.inl h)))]
  · simp only [RepW, RepC]; exact ⟨trivial, emp_false⟩
  · simp only [List.length_cons, List.length_nil, List.take_succ_cons, List.take_zero, RepWs]
    refine ⟨.agg cells, [], fun k => P1 k ∨ P2 k, fun _ => False, rfl, by simp, by simp, ?_, rfl, emp_false⟩
    simp only [eFeed, RepW]
    refine ⟨cells, rfl, ?_⟩
    simp only [RepC]
    rw [← hcells]
    refine rl_sl.2 ⟨s1, _, P1, P2, rfl, fun k => Iff.rfl, q2, ?_, rl_str.2 ⟨_, rfl, rl_int.2 ⟨_, rfl, rl_int.2 ⟨_, rfl, rl_int.2 ⟨_, rfl, rl_int.2 ⟨_, rfl, rl_int.2 ⟨_, rfl, rl_sl.2 ⟨s8, _, P2, fun _ => False, rfl, by simp, by simp, ?_, rl_bool.2 ⟨_, rfl, rl_nil.2 ⟨rfl, emp_false⟩⟩⟩⟩⟩⟩⟩⟩⟩⟩
    · exact repC_closed _ (repC_mono (S' := fun _ => False) _ (repC_closed (S' := fun _ => False) _ g4 (by simp [closed, fls])) ⟨fun k hk => hk.elim, fun k hk => d5 k (l1 k hk) (q1 k hk)⟩) (by simp [closed, fls])
    · exact repC_closed _ k4 (by simp [closed, fls])
  · rintro k (h | h | h)
    · exact h.elim
    · exact (p1 k h).imp (fun h => (hO k).2 (.inl h)) (fun h => by omega)
    · exact (p2 k h).imp (fun h => (hO k).2 (.inr h)) (fun h => by omega)
/-- laws.heldFeed -/
theorem fits_heldFeed (f : Feed) (k : Int) (hp : f.prog.length ≤ 1048576) (ho : f.out.length ≤ 1048576) (h0 : 0 ≤ k) (hk : k ≤ 1048576) :
    Fits prog 54 [eFeed false (mkFeed f k), .int .i64 k] (.int .i64 (k + 4 * f.prog.length + 3 * f.out.length)) [] := by
  refine fits_of_code [4] [] [0, 1, 2, 4, 10, 16] func54 rfl rfl rfl (by rfl) (by show 2 ≤ 18; decide) (by rfl) (by rfl) (by show 0 ≤ 2; decide) (by rfl) (run_of ?_)
  simp -implicitDefEqProofs (maxSteps := 100000) (disch := first | (intros; contradiction) | omega) only [am0, am1, am2, am3, am4, am5, am6, am7, am8, am9, Nat.reduceSub, ↓reduceIte, reduceCtorEq, Nat.reduceEqDiff, Nat.reduceBEq, Nat.reduceAdd, Nat.reduceLT, Nat.reduceBNe, Nat.reduceMul, ↓reduceIte, tis, eFeed, mkFeed]
  refine callb_of (fits_heldInsS f.prog.length k hp h0 (by omega)) (by simp -implicitDefEqProofs (maxSteps := 100000) (disch := first | (intros; contradiction) | omega) only [am0, am1, am2, am3, am4, am5, am6, am7, am8, am9, Nat.reduceSub, ↓reduceIte, reduceCtorEq, Nat.reduceEqDiff, Nat.reduceBEq, Nat.reduceAdd, Nat.reduceLT, Nat.reduceBNe, Nat.reduceMul, ↓reduceIte, tis]) (.inl rfl) rfl ?_
  simp -implicitDefEqProofs (maxSteps := 100000) (disch := first | (intros; contradiction) | omega) only [am0, am1, am2, am3, am4, am5, am6, am7, am8, am9, Nat.reduceSub, ↓reduceIte, reduceCtorEq, Nat.reduceEqDiff, Nat.reduceBEq, Nat.reduceAdd, Nat.reduceLT, Nat.reduceBNe, Nat.reduceMul, ↓reduceIte, tis, eFeed, mkFeed]
  refine callb_of (fits_heldTokenS f.out.length (k + 4 * f.prog.length) ho (by omega) (by omega)) (by simp -implicitDefEqProofs (maxSteps := 100000) (disch := first | (intros; contradiction) | omega) only [am0, am1, am2, am3, am4, am5, am6, am7, am8, am9, Nat.reduceSub, ↓reduceIte, reduceCtorEq, Nat.reduceEqDiff, Nat.reduceBEq, Nat.reduceAdd, Nat.reduceLT, Nat.reduceBNe, Nat.reduceMul, ↓reduceIte, tis]) (.inl rfl) rfl ?_
  simp -implicitDefEqProofs (maxSteps := 100000) (disch := first | (intros; contradiction) | omega) only [am0, am1, am2, am3, am4, am5, am6, am7, am8, am9, Nat.reduceSub, ↓reduceIte, reduceCtorEq, Nat.reduceEqDiff, Nat.reduceBEq, Nat.reduceAdd, Nat.reduceLT, Nat.reduceBNe, Nat.reduceMul, ↓reduceIte, tis]
theorem endF_FI {f : Feed} (h : FI f) : FI (endF f) := by
  unfold endF
  generalize muE f = n
  induction n generalizing f with
  | zero => exact h
  | succ n ih =>
    unfold endN; split
    · exact h
    · exact ih (goF_FI h.cut)
theorem endP_len (f : Feed) : (endP f).prog.length ≤ 1048576 ∧ (endP f).out.length ≤ 1048576 := by
  unfold endP; split
  · rename_i h
    have hf := endF_FI (goF_FI (feedB_FI h))
    have h1 := (progB_parts hf.prog).1
    have h2 := hf.base
    have h3 := hf.out
    constructor <;> omega
  · simp [feedZ]
/-- laws.FnExactFeedEnd -/
theorem law_FeedEnd (f : Feed) (hp : f.prog.length ≤ 9223372036854775807) (hb : f.buf.length ≤ 9223372036854775807) (ho : f.out.length ≤ 9223372036854775807) : Fits prog 8 [eFeed false f] (.bool true) [] := by
  refine fits_of_code [2] [] [0, 1, 2, 3, 4, 5, 6, 7, 8, 9, 10, 15, 26, 31, 42, 50, 53, 60, 65, 68] func8 rfl rfl rfl (by rfl) (by show 1 ≤ 69; decide) (by rfl) (by rfl) (by show 0 ≤ 1; decide) (by rfl) (run_of ?_)
  simp -implicitDefEqProofs (maxSteps := 100000) (disch := first | (intros; contradiction) | omega) only [am0, am1, am2, am3, am4, am5, am6, am7, am8, am9, Nat.reduceSub, ↓reduceIte, reduceCtorEq, Nat.reduceEqDiff, Nat.reduceBEq, Nat.reduceAdd, Nat.reduceLT, Nat.reduceBNe, Nat.reduceMul, ↓reduceIte, tis, eFeed]
  refine callB (fits_szFeed f 1048576 hp hb ho (by omega) (by omega)) ?_
  by_cases h : szFeed f 1048576 < 0
  · simp -implicitDefEqProofs (maxSteps := 100000) (disch := first | (intros; contradiction) | omega) only [am0, am1, am2, am3, am4, am5, am6, am7, am8, am9, Nat.reduceSub, ↓reduceIte, reduceCtorEq, Nat.reduceEqDiff, Nat.reduceBEq, Nat.reduceAdd, Nat.reduceLT, Nat.reduceBNe, Nat.reduceMul, ↓reduceIte, tis, eFeed, h]
  have hs := szFeed_ok h
  simp -implicitDefEqProofs (maxSteps := 100000) (disch := first | (intros; contradiction) | omega) only [am0, am1, am2, am3, am4, am5, am6, am7, am8, am9, Nat.reduceSub, ↓reduceIte, reduceCtorEq, Nat.reduceEqDiff, Nat.reduceBEq, Nat.reduceAdd, Nat.reduceLT, Nat.reduceBNe, Nat.reduceMul, ↓reduceIte, tis, eFeed, h]
  obtain ⟨q1, q2⟩ := endP_len f
  have cT := fits_toFeed f (by omega) (by omega)
  have cO := fits_sFeedEnd f (by omega) (by omega) (by omega)
  have cP := fits_feedEnd f (by omega) (by omega) (by omega)
  generalize hg : endP f = g at *
  have cE := fits_eqFeed g g (by omega) (by omega) (by omega) (by omega)
  have cL := fits_eqFeed f f (by omega) (by omega) (by omega) (by omega)
  have cM := fits_markFeed f 1 (by omega) (by omega) (by omega) (by omega)
  have cF := fits_markFeed g 1 (by omega) (by omega) (by omega) (by omega)
  have cH := fits_heldFeed g 1 (by omega) (by omega) (by omega) (by omega)
  unfold eFeed at cT cO cP cE cL cM cF cH
  refine callB cT ?_
  simp -implicitDefEqProofs (maxSteps := 100000) (disch := first | (intros; contradiction) | omega) only [am0, am1, am2, am3, am4, am5, am6, am7, am8, am9, Nat.reduceSub, ↓reduceIte, reduceCtorEq, Nat.reduceEqDiff, Nat.reduceBEq, Nat.reduceAdd, Nat.reduceLT, Nat.reduceBNe, Nat.reduceMul, ↓reduceIte, tis, fls]
  refine callB cO ?_
  simp -implicitDefEqProofs (maxSteps := 100000) (disch := first | (intros; contradiction) | omega) only [am0, am1, am2, am3, am4, am5, am6, am7, am8, am9, Nat.reduceSub, ↓reduceIte, reduceCtorEq, Nat.reduceEqDiff, Nat.reduceBEq, Nat.reduceAdd, Nat.reduceLT, Nat.reduceBNe, Nat.reduceMul, ↓reduceIte, tis, fls]
  refine callB cT ?_
  simp -implicitDefEqProofs (maxSteps := 100000) (disch := first | (intros; contradiction) | omega) only [am0, am1, am2, am3, am4, am5, am6, am7, am8, am9, Nat.reduceSub, ↓reduceIte, reduceCtorEq, Nat.reduceEqDiff, Nat.reduceBEq, Nat.reduceAdd, Nat.reduceLT, Nat.reduceBNe, Nat.reduceMul, ↓reduceIte, tis, fls]
  refine callB cP ?_
  simp -implicitDefEqProofs (maxSteps := 100000) (disch := first | (intros; contradiction) | omega) only [am0, am1, am2, am3, am4, am5, am6, am7, am8, am9, Nat.reduceSub, ↓reduceIte, reduceCtorEq, Nat.reduceEqDiff, Nat.reduceBEq, Nat.reduceAdd, Nat.reduceLT, Nat.reduceBNe, Nat.reduceMul, ↓reduceIte, tis, fls]
  refine callB cE ?_
  simp -implicitDefEqProofs (maxSteps := 100000) (disch := first | (intros; contradiction) | omega) only [am0, am1, am2, am3, am4, am5, am6, am7, am8, am9, Nat.reduceSub, ↓reduceIte, reduceCtorEq, Nat.reduceEqDiff, Nat.reduceBEq, Nat.reduceAdd, Nat.reduceLT, Nat.reduceBNe, Nat.reduceMul, ↓reduceIte, tis, fls]
  refine .inl ⟨by kernel_rfl, ?_⟩
  refine callL cT ?_
  simp -implicitDefEqProofs (maxSteps := 100000) (disch := first | (intros; contradiction) | omega) only [am0, am1, am2, am3, am4, am5, am6, am7, am8, am9, Nat.reduceSub, ↓reduceIte, reduceCtorEq, Nat.reduceEqDiff, Nat.reduceBEq, Nat.reduceAdd, Nat.reduceLT, Nat.reduceBNe, Nat.reduceMul, ↓reduceIte, tis, fls]
  refine callL cL ?_
  simp -implicitDefEqProofs (maxSteps := 100000) (disch := first | (intros; contradiction) | omega) only [am0, am1, am2, am3, am4, am5, am6, am7, am8, am9, Nat.reduceSub, ↓reduceIte, reduceCtorEq, Nat.reduceEqDiff, Nat.reduceBEq, Nat.reduceAdd, Nat.reduceLT, Nat.reduceBNe, Nat.reduceMul, ↓reduceIte, tis, fls]
  refine callM 0 cM ?_
  simp -implicitDefEqProofs (maxSteps := 100000) (disch := first | (intros; contradiction) | omega) only [am0, am1, am2, am3, am4, am5, am6, am7, am8, am9, Nat.reduceSub, ↓reduceIte, reduceCtorEq, Nat.reduceEqDiff, Nat.reduceBEq, Nat.reduceAdd, Nat.reduceLT, Nat.reduceBNe, Nat.reduceMul, ↓reduceIte, tis, fls]
  refine callB cE ?_
  simp -implicitDefEqProofs (maxSteps := 100000) (disch := first | (intros; contradiction) | omega) only [am0, am1, am2, am3, am4, am5, am6, am7, am8, am9, Nat.reduceSub, ↓reduceIte, reduceCtorEq, Nat.reduceEqDiff, Nat.reduceBEq, Nat.reduceAdd, Nat.reduceLT, Nat.reduceBNe, Nat.reduceMul, ↓reduceIte, tis, fls]
  refine callM 0 cF ?_
  simp -implicitDefEqProofs (maxSteps := 100000) (disch := first | (intros; contradiction) | omega) only [am0, am1, am2, am3, am4, am5, am6, am7, am8, am9, Nat.reduceSub, ↓reduceIte, reduceCtorEq, Nat.reduceEqDiff, Nat.reduceBEq, Nat.reduceAdd, Nat.reduceLT, Nat.reduceBNe, Nat.reduceMul, ↓reduceIte, tis, fls]
  refine callB cH ?_
  simp -implicitDefEqProofs (maxSteps := 100000) (disch := first | (intros; contradiction) | omega) only [am0, am1, am2, am3, am4, am5, am6, am7, am8, am9, Nat.reduceSub, ↓reduceIte, reduceCtorEq, Nat.reduceEqDiff, Nat.reduceBEq, Nat.reduceAdd, Nat.reduceLT, Nat.reduceBNe, Nat.reduceMul, ↓reduceIte, tis, fls]
  refine callB cT ?_
  simp -implicitDefEqProofs (maxSteps := 100000) (disch := first | (intros; contradiction) | omega) only [am0, am1, am2, am3, am4, am5, am6, am7, am8, am9, Nat.reduceSub, ↓reduceIte, reduceCtorEq, Nat.reduceEqDiff, Nat.reduceBEq, Nat.reduceAdd, Nat.reduceLT, Nat.reduceBNe, Nat.reduceMul, ↓reduceIte, tis, fls]
  refine callB cP ?_
  simp -implicitDefEqProofs (maxSteps := 100000) (disch := first | (intros; contradiction) | omega) only [am0, am1, am2, am3, am4, am5, am6, am7, am8, am9, Nat.reduceSub, ↓reduceIte, reduceCtorEq, Nat.reduceEqDiff, Nat.reduceBEq, Nat.reduceAdd, Nat.reduceLT, Nat.reduceBNe, Nat.reduceMul, ↓reduceIte, tis, fls]
  refine callB cE ?_
  simp -implicitDefEqProofs (maxSteps := 100000) (disch := first | (intros; contradiction) | omega) only [am0, am1, am2, am3, am4, am5, am6, am7, am8, am9, Nat.reduceSub, ↓reduceIte, reduceCtorEq, Nat.reduceEqDiff, Nat.reduceBEq, Nat.reduceAdd, Nat.reduceLT, Nat.reduceBNe, Nat.reduceMul, ↓reduceIte, tis, fls]
  refine callB cH ?_
  simp -implicitDefEqProofs (maxSteps := 100000) (disch := first | (intros; contradiction) | omega) only [am0, am1, am2, am3, am4, am5, am6, am7, am8, am9, Nat.reduceSub, ↓reduceIte, reduceCtorEq, Nat.reduceEqDiff, Nat.reduceBEq, Nat.reduceAdd, Nat.reduceLT, Nat.reduceBNe, Nat.reduceMul, ↓reduceIte, tis, fls]
def Bd (f : Feed) : Prop := f.prog.length ≤ 1048576 ∧ f.buf.length ≤ 1048576 ∧ f.out.length ≤ 1048576
theorem FI.bd {f : Feed} (h : FI f) : Bd f := by
  have h1 := (progB_parts h.prog).1
  have h2 := h.base
  have h3 := h.out
  refine ⟨?_, ?_, ?_⟩ <;> omega
theorem bd_push {f : Feed} (h : Bd f) (w : List UInt8) : Bd (pushP f w) := by
  unfold pushP; split
  · rename_i h1
    split
    · exact h
    · rename_i h2
      exact (goF_FI ((feedB_FI h1).more w (by have := Int.not_lt.1 (fun x => h2 (.inr x)); omega))).bd
  · simp [Bd, feedZ]
theorem bd_fold : ∀ (cs : List (List UInt8)) {f : Feed}, Bd f → Bd (cs.foldl pushP f)
  | [], _, h => h
  | c :: cs, _, h => bd_fold cs (bd_push h c)
theorem fold_at {f : Feed} {cs : List (List UInt8)} {i : Nat} (h : i < cs.length) : pushP ((cs.take i).foldl pushP f) cs[i] = (cs.take (i + 1)).foldl pushP f := by
  rw [List.take_succ_eq_append_getElem h, List.foldl_append]; rfl
/-- FeedAll. -/
def allP (p : List Ins) (cs : List (List UInt8)) : Feed := if progB p = true then endP (cs.foldl pushP (feedOpenP p)) else feedZ
theorem retW2 (a b : Nat) (ks : List Nat) (res : AV) (outs : List AV) (σ : St) : retW [a, b] ks res outs σ = ((usedOf (pulls σ [.tmp a, .tmp b]) [.tmp a, .tmp b]).Nodup ∧ leV (.tup [Am.look (pulls σ [.tmp a, .tmp b]) a, Am.look (pulls σ [.tmp a, .tmp b]) b]) res ∧ outsW (pulls σ [.tmp a, .tmp b]) (usedOf (pulls σ [.tmp a, .tmp b]) [.tmp a, .tmp b]) ks 0 outs) := rfl
/-- impl.FeedAll -/
theorem fits_feedAll (p : List Ins) (cs : List (List UInt8)) (hp : p.length ≤ 1048576) (hc : cs.length ≤ 1048576) (hcs : ∀ c ∈ cs, c.length ≤ 1048576) : Fits prog 42 [.sl false 4 (p.map eIns), .sl false 1 (cs.map eStr)] (.tup [.sl true 3 ((allP p cs).out.map eToken), .int .i64 (allP p cs).base]) [] := by
  have c1 := fits_progOk p (by omega)
  have c2 := fits_feedOpen p (by omega)
  unfold allP
  cases h1 : progB p with
  | false =>
    refine fits_of_code [4, 5] [] [0, 1, 4, 5, 6, 8, 11, 14, 15, 16, 17] func42 rfl rfl rfl (by rfl) (by show 2 ≤ 31; decide) (by rfl) (by rfl) (by show 0 ≤ 2; decide) (by rfl) (run_of ?_)
    simp -implicitDefEqProofs (maxSteps := 100000) (disch := first | (intros; contradiction) | omega) only [am0, am1, am2, am3, am4, am5, am6, am7, am8, am9, Nat.reduceSub, ↓reduceIte, reduceCtorEq, Nat.reduceEqDiff, Nat.reduceBEq, Nat.reduceAdd, Nat.reduceLT, Nat.reduceBNe, Nat.reduceMul, ↓reduceIte, tis]
    refine callB c1 ?_
    simp -implicitDefEqProofs (maxSteps := 100000) (disch := first | (intros; contradiction) | omega) only [am0, am1, am2, am3, am4, am5, am6, am7, am8, am9, Nat.reduceSub, ↓reduceIte, reduceCtorEq, Nat.reduceEqDiff, Nat.reduceBEq, Nat.reduceAdd, Nat.reduceLT, Nat.reduceBNe, Nat.reduceMul, ↓reduceIte, tis, h1, feedZ, retW2]
  | true =>
    have hb0 : Bd (feedOpenP p) := by
      unfold feedOpenP; rw [if_pos h1]; simp [Bd]; exact hp
    generalize feedOpenP p = f at *
    rw [if_pos rfl]
    unfold eFeed at c2
    refine fits_of_code [4, 5] [] [0, 1, 4, 5, 6, 8, 11, 14, 15, 16, 17] func42 rfl rfl rfl (by rfl) (by show 2 ≤ 31; decide) (by rfl) (by rfl) (by show 0 ≤ 2; decide) (by rfl) (run_of ?_)
    simp -implicitDefEqProofs (maxSteps := 100000) (disch := first | (intros; contradiction) | omega) only [am0, am1, am2, am3, am4, am5, am6, am7, am8, am9, Nat.reduceSub, ↓reduceIte, reduceCtorEq, Nat.reduceEqDiff, Nat.reduceBEq, Nat.reduceAdd, Nat.reduceLT, Nat.reduceBNe, Nat.reduceMul, ↓reduceIte, tis]
    refine callB c1 ?_
    simp -implicitDefEqProofs (maxSteps := 100000) (disch := first | (intros; contradiction) | omega) only [am0, am1, am2, am3, am4, am5, am6, am7, am8, am9, Nat.reduceSub, ↓reduceIte, reduceCtorEq, Nat.reduceEqDiff, Nat.reduceBEq, Nat.reduceAdd, Nat.reduceLT, Nat.reduceBNe, Nat.reduceMul, ↓reduceIte, tis, h1]
    refine callB c2 ?_
    simp -implicitDefEqProofs (maxSteps := 100000) (disch := first | (intros; contradiction) | omega) only [am0, am1, am2, am3, am4, am5, am6, am7, am8, am9, Nat.reduceSub, ↓reduceIte, reduceCtorEq, Nat.reduceEqDiff, Nat.reduceBEq, Nat.reduceAdd, Nat.reduceLT, Nat.reduceBNe, Nat.reduceMul, ↓reduceIte, tis, fls]
    refine run_loop (α := Nat) (fun i => i ≤ cs.length) (fun i => [(6, .box (.agg [.sl true 4 (((cs.take i).foldl pushP f).prog.map eIns), .str ((cs.take i).foldl pushP f).buf, .int .i64 ((cs.take i).foldl pushP f).base, .int .i64 ((cs.take i).foldl pushP f).pc, .int .i64 ((cs.take i).foldl pushP f).at_, .int .i64 ((cs.take i).foldl pushP f).rule, .int .i64 ((cs.take i).foldl pushP f).to, .sl true 3 (((cs.take i).foldl pushP f).out.map eToken), .bool ((cs.take i).foldl pushP f).stuck])), (14, .sl false 1 (cs.map eStr)), (15, .int .i64 cs.length), (16, .int .i64 i)]) (fun i => cs.length - i) 0 (Nat.zero_le _) ?_ ?_
    · simp -implicitDefEqProofs (maxSteps := 100000) (disch := first | (intros; contradiction) | omega) only [am0, am1, am2, am3, am4, am5, am6, am7, am8, am9, Nat.reduceSub, ↓reduceIte, reduceCtorEq, Nat.reduceEqDiff, Nat.reduceBEq, Nat.reduceAdd, Nat.reduceLT, Nat.reduceBNe, Nat.reduceMul, ↓reduceIte, tis, List.foldl_nil]
    · intro i hi'
      have hb1 := bd_fold (cs.take i) hb0
      by_cases hi : i < cs.length
      · have hw := hcs _ (List.getElem_mem hi)
        have cP := fits_feedPush ((cs.take i).foldl pushP f) cs[i] hb1.1 hb1.2.1 hb1.2.2 hw
        rw [fold_at hi] at cP
        have hn := hb1
        generalize hg : (cs.take i).foldl pushP f = g at *
        unfold eFeed at cP
        simp -implicitDefEqProofs (maxSteps := 100000) (disch := first | (intros; contradiction) | omega) only [am0, am1, am2, am3, am4, am5, am6, am7, am8, am9, Nat.reduceSub, ↓reduceIte, reduceCtorEq, Nat.reduceEqDiff, Nat.reduceBEq, Nat.reduceAdd, Nat.reduceLT, Nat.reduceBNe, Nat.reduceMul, ↓reduceIte, tis, fls, eStr]
        refine callB cP ?_
        simp -implicitDefEqProofs (maxSteps := 100000) (disch := first | (intros; contradiction) | omega) only [am0, am1, am2, am3, am4, am5, am6, am7, am8, am9, Nat.reduceSub, ↓reduceIte, reduceCtorEq, Nat.reduceEqDiff, Nat.reduceBEq, Nat.reduceAdd, Nat.reduceLT, Nat.reduceBNe, Nat.reduceMul, ↓reduceIte, tis, fls, retW2]
        refine round_normal (i + 1) hi ?_ (by show cs.length - (i + 1) < cs.length - i; omega)
        simp -implicitDefEqProofs (maxSteps := 100000) (disch := first | (intros; contradiction) | omega) only [am0, am1, am2, am3, am4, am5, am6, am7, am8, am9, Nat.reduceSub, ↓reduceIte, reduceCtorEq, Nat.reduceEqDiff, Nat.reduceBEq, Nat.reduceAdd, Nat.reduceLT, Nat.reduceBNe, Nat.reduceMul, ↓reduceIte, tis]
      · have hi2 : i = cs.length := by omega
        subst hi2
        rw [List.take_length] at *
        generalize cs.foldl pushP f = g at *
        have cE := fits_feedEnd g hb1.1 hb1.2.1 hb1.2.2
        simp -implicitDefEqProofs (maxSteps := 100000) (disch := first | (intros; contradiction) | omega) only [am0, am1, am2, am3, am4, am5, am6, am7, am8, am9, Nat.reduceSub, ↓reduceIte, reduceCtorEq, Nat.reduceEqDiff, Nat.reduceBEq, Nat.reduceAdd, Nat.reduceLT, Nat.reduceBNe, Nat.reduceMul, ↓reduceIte, tis, fls, retW2]
        unfold eFeed at cE
        refine callB cE ?_
        have hb2 : Bd (endP g) := by
          unfold endP; split
          · rename_i h; exact (endF_FI (goF_FI (feedB_FI h))).bd
          · simp [Bd, feedZ]
        generalize endP g = d at *
        have cT := fits_copiedTok d.out (by have := hb2.2.2; omega)
        simp -implicitDefEqProofs (maxSteps := 100000) (disch := first | (intros; contradiction) | omega) only [am0, am1, am2, am3, am4, am5, am6, am7, am8, am9, Nat.reduceSub, ↓reduceIte, reduceCtorEq, Nat.reduceEqDiff, Nat.reduceBEq, Nat.reduceAdd, Nat.reduceLT, Nat.reduceBNe, Nat.reduceMul, ↓reduceIte, tis, fls, retW2]
        refine .inr (run_late 5 [[3, 4], []] (by kernel_rfl) ?_)
        simp -implicitDefEqProofs (maxSteps := 100000) (disch := first | (intros; contradiction) | omega) only [am0, am1, am2, am3, am4, am5, am6, am7, am8, am9, Nat.reduceSub, ↓reduceIte, reduceCtorEq, Nat.reduceEqDiff, Nat.reduceBEq, Nat.reduceAdd, Nat.reduceLT, Nat.reduceBNe, Nat.reduceMul, ↓reduceIte, tis, fls, retW2]
        refine callL cT ?_
        simp -implicitDefEqProofs (maxSteps := 100000) (disch := first | (intros; contradiction) | omega) only [am0, am1, am2, am3, am4, am5, am6, am7, am8, am9, Nat.reduceSub, ↓reduceIte, reduceCtorEq, Nat.reduceEqDiff, Nat.reduceBEq, Nat.reduceAdd, Nat.reduceLT, Nat.reduceBNe, Nat.reduceMul, ↓reduceIte, tis, fls, retW2]
/-- spec.FeedAll -/
theorem fits_sFeedAll (p : List Ins) (cs : List (List UInt8)) (hp : p.length ≤ 1048576) (hc : cs.length ≤ 1048576) (hcs : ∀ c ∈ cs, c.length ≤ 1048576) : Fits prog 39 [.sl false 4 (p.map eIns), .sl false 1 (cs.map eStr)] (.tup [.sl true 3 ((allP p cs).out.map eToken), .int .i64 (allP p cs).base]) [] := by
  have c1 := fits_sProgOk p (by omega)
  have c2 := fits_sFeedOpen p (by omega)
  unfold allP
  cases h1 : progB p with
  | false =>
    refine fits_of_code [4, 5] [] [0, 1, 4, 5, 6, 7, 10, 17] func39 rfl rfl rfl (by rfl) (by show 2 ≤ 34; decide) (by rfl) (by rfl) (by show 0 ≤ 2; decide) (by rfl) (run_of ?_)
    simp -implicitDefEqProofs (maxSteps := 100000) (disch := first | (intros; contradiction) | omega) only [am0, am1, am2, am3, am4, am5, am6, am7, am8, am9, Nat.reduceSub, ↓reduceIte, reduceCtorEq, Nat.reduceEqDiff, Nat.reduceBEq, Nat.reduceAdd, Nat.reduceLT, Nat.reduceBNe, Nat.reduceMul, ↓reduceIte, tis]
    refine callB c1 ?_
    simp -implicitDefEqProofs (maxSteps := 100000) (disch := first | (intros; contradiction) | omega) only [am0, am1, am2, am3, am4, am5, am6, am7, am8, am9, Nat.reduceSub, ↓reduceIte, reduceCtorEq, Nat.reduceEqDiff, Nat.reduceBEq, Nat.reduceAdd, Nat.reduceLT, Nat.reduceBNe, Nat.reduceMul, ↓reduceIte, tis, h1, feedZ, retW2]
  | true =>
    have hb0 : Bd (feedOpenP p) := by
      unfold feedOpenP; rw [if_pos h1]; simp [Bd]; exact hp
    generalize feedOpenP p = f at *
    rw [if_pos rfl]
    unfold eFeed at c2
    refine fits_of_code [4, 5] [] [0, 1, 4, 5, 6, 7, 10, 17] func39 rfl rfl rfl (by rfl) (by show 2 ≤ 34; decide) (by rfl) (by rfl) (by show 0 ≤ 2; decide) (by rfl) (run_of ?_)
    simp -implicitDefEqProofs (maxSteps := 100000) (disch := first | (intros; contradiction) | omega) only [am0, am1, am2, am3, am4, am5, am6, am7, am8, am9, Nat.reduceSub, ↓reduceIte, reduceCtorEq, Nat.reduceEqDiff, Nat.reduceBEq, Nat.reduceAdd, Nat.reduceLT, Nat.reduceBNe, Nat.reduceMul, ↓reduceIte, tis]
    refine callB c1 ?_
    simp -implicitDefEqProofs (maxSteps := 100000) (disch := first | (intros; contradiction) | omega) only [am0, am1, am2, am3, am4, am5, am6, am7, am8, am9, Nat.reduceSub, ↓reduceIte, reduceCtorEq, Nat.reduceEqDiff, Nat.reduceBEq, Nat.reduceAdd, Nat.reduceLT, Nat.reduceBNe, Nat.reduceMul, ↓reduceIte, tis, h1]
    refine callB c2 ?_
    simp -implicitDefEqProofs (maxSteps := 100000) (disch := first | (intros; contradiction) | omega) only [am0, am1, am2, am3, am4, am5, am6, am7, am8, am9, Nat.reduceSub, ↓reduceIte, reduceCtorEq, Nat.reduceEqDiff, Nat.reduceBEq, Nat.reduceAdd, Nat.reduceLT, Nat.reduceBNe, Nat.reduceMul, ↓reduceIte, tis, fls]
    refine run_loop (α := Nat) (fun i => i ≤ cs.length) (fun i => [(6, .box (.agg [.sl true 4 (((cs.take i).foldl pushP f).prog.map eIns), .str ((cs.take i).foldl pushP f).buf, .int .i64 ((cs.take i).foldl pushP f).base, .int .i64 ((cs.take i).foldl pushP f).pc, .int .i64 ((cs.take i).foldl pushP f).at_, .int .i64 ((cs.take i).foldl pushP f).rule, .int .i64 ((cs.take i).foldl pushP f).to, .sl true 3 (((cs.take i).foldl pushP f).out.map eToken), .bool ((cs.take i).foldl pushP f).stuck])), (1, .sl false 1 (cs.map eStr)), (7, .int .i64 i)]) (fun i => cs.length - i) 0 (Nat.zero_le _) ?_ ?_
    · simp -implicitDefEqProofs (maxSteps := 100000) (disch := first | (intros; contradiction) | omega) only [am0, am1, am2, am3, am4, am5, am6, am7, am8, am9, Nat.reduceSub, ↓reduceIte, reduceCtorEq, Nat.reduceEqDiff, Nat.reduceBEq, Nat.reduceAdd, Nat.reduceLT, Nat.reduceBNe, Nat.reduceMul, ↓reduceIte, tis, List.foldl_nil]
    · intro i hi'
      have hb1 := bd_fold (cs.take i) hb0
      by_cases hi : i < cs.length
      · have hw := hcs _ (List.getElem_mem hi)
        have cP := fits_sFeedPush ((cs.take i).foldl pushP f) cs[i] hb1.1 hb1.2.1 hb1.2.2 hw
        rw [fold_at hi] at cP
        have hn := hb1
        generalize hg : (cs.take i).foldl pushP f = g at *
        unfold eFeed at cP
        simp -implicitDefEqProofs (maxSteps := 100000) (disch := first | (intros; contradiction) | omega) only [am0, am1, am2, am3, am4, am5, am6, am7, am8, am9, Nat.reduceSub, ↓reduceIte, reduceCtorEq, Nat.reduceEqDiff, Nat.reduceBEq, Nat.reduceAdd, Nat.reduceLT, Nat.reduceBNe, Nat.reduceMul, ↓reduceIte, tis, fls, eStr]
        refine .inl ⟨by kernel_rfl, ?_⟩
        refine callL cP ?_
        simp -implicitDefEqProofs (maxSteps := 100000) (disch := first | (intros; contradiction) | omega) only [am0, am1, am2, am3, am4, am5, am6, am7, am8, am9, Nat.reduceSub, ↓reduceIte, reduceCtorEq, Nat.reduceEqDiff, Nat.reduceBEq, Nat.reduceAdd, Nat.reduceLT, Nat.reduceBNe, Nat.reduceMul, ↓reduceIte, tis, fls, retW2]
        refine round_normal (i + 1) hi ?_ (by show cs.length - (i + 1) < cs.length - i; omega)
        simp -implicitDefEqProofs (maxSteps := 100000) (disch := first | (intros; contradiction) | omega) only [am0, am1, am2, am3, am4, am5, am6, am7, am8, am9, Nat.reduceSub, ↓reduceIte, reduceCtorEq, Nat.reduceEqDiff, Nat.reduceBEq, Nat.reduceAdd, Nat.reduceLT, Nat.reduceBNe, Nat.reduceMul, ↓reduceIte, tis]
      · have hi2 : i = cs.length := by omega
        subst hi2
        rw [List.take_length] at *
        generalize cs.foldl pushP f = g at *
        have cE := fits_sFeedEnd g hb1.1 hb1.2.1 hb1.2.2
        simp -implicitDefEqProofs (maxSteps := 100000) (disch := first | (intros; contradiction) | omega) only [am0, am1, am2, am3, am4, am5, am6, am7, am8, am9, Nat.reduceSub, ↓reduceIte, reduceCtorEq, Nat.reduceEqDiff, Nat.reduceBEq, Nat.reduceAdd, Nat.reduceLT, Nat.reduceBNe, Nat.reduceMul, ↓reduceIte, tis, fls, retW2]
        unfold eFeed at cE
        refine callB cE ?_
        have hb2 : Bd (endP g) := by
          unfold endP; split
          · rename_i h; exact (endF_FI (goF_FI (feedB_FI h))).bd
          · simp [Bd, feedZ]
        generalize endP g = d at *
        simp -implicitDefEqProofs (maxSteps := 100000) (disch := first | (intros; contradiction) | omega) only [am0, am1, am2, am3, am4, am5, am6, am7, am8, am9, Nat.reduceSub, ↓reduceIte, reduceCtorEq, Nat.reduceEqDiff, Nat.reduceBEq, Nat.reduceAdd, Nat.reduceLT, Nat.reduceBNe, Nat.reduceMul, ↓reduceIte, tis, fls, retW2]
        refine .inr (run_mixl 31 28 6 [[4, 5], []] (by kernel_rfl) ?_)
        simp -implicitDefEqProofs (maxSteps := 100000) (disch := first | (intros; contradiction) | omega) only [am0, am1, am2, am3, am4, am5, am6, am7, am8, am9, Nat.reduceSub, ↓reduceIte, reduceCtorEq, Nat.reduceEqDiff, Nat.reduceBEq, Nat.reduceAdd, Nat.reduceLT, Nat.reduceBNe, Nat.reduceMul, ↓reduceIte, tis, fls, retW2]
        have hb3 := hb2.2.2
        refine ⟨?_, ?_⟩ <;> omega
def totL (p : List (List UInt8)) : Nat := (p.map List.length).sum
theorem totL_take (p : List (List UInt8)) (i : Nat) (h : i < p.length) : totL (p.take (i + 1)) = totL (p.take i) + p[i].length := by
  unfold totL; rw [List.take_succ_eq_append_getElem h, List.map_append, List.sum_append]; rfl
theorem totL_mono (p : List (List UInt8)) (i : Nat) : totL (p.take i) ≤ totL p := by
  unfold totL
  conv => rhs; rw [← List.take_append_drop i p, List.map_append, List.sum_append]
  exact Nat.le_add_right _ _
theorem totL_mem {p : List (List UInt8)} {c : List UInt8} (h : c ∈ p) : c.length ≤ totL p := by
  unfold totL
  induction p with
  | nil => simp at h
  | cons x p ih =>
    rcases List.mem_cons.1 h with rfl | h
    · simp
    · have := ih h; simp; omega
/-- laws.szStringS -/
theorem fits_szStringS (p : List (List UInt8)) (n : Int) (hp : p.length ≤ 9223372036854775807) (hc : ∀ c ∈ p, c.length ≤ 9223372036854775807) (hn : n ≤ 1048576) (hn0 : 0 ≤ n) : Fits prog 38 [.sl false 1 (p.map eStr), .int .i64 n] (.int .i64 (if n - p.length - totL p < 0 then -1 else n - p.length - totL p)) [] := by
  refine fits_of_code [4] [] [0, 1, 4, 5, 11, 15, 26] func38 rfl rfl rfl (by rfl) (by show 2 ≤ 28; decide) (by rfl) (by rfl) (by show 0 ≤ 2; decide) (by rfl) (run_of ?_)
  by_cases hl : n - p.length < 0
  · have hr : n - p.length - totL p < 0 := by omega
    simp -implicitDefEqProofs (maxSteps := 100000) (disch := first | (intros; contradiction) | omega) only [am0, am1, am2, am3, am4, am5, am6, am7, am8, am9, Nat.reduceSub, ↓reduceIte, reduceCtorEq, Nat.reduceEqDiff, Nat.reduceBEq, Nat.reduceAdd, Nat.reduceLT, Nat.reduceBNe, Nat.reduceMul, ↓reduceIte, tis, hl, hr]
  · simp -implicitDefEqProofs (maxSteps := 100000) (disch := first | (intros; contradiction) | omega) only [am0, am1, am2, am3, am4, am5, am6, am7, am8, am9, Nat.reduceSub, ↓reduceIte, reduceCtorEq, Nat.reduceEqDiff, Nat.reduceBEq, Nat.reduceAdd, Nat.reduceLT, Nat.reduceBNe, Nat.reduceMul, ↓reduceIte, tis, hl]
    refine run_loop (α := Nat) (fun i => i ≤ p.length ∧ 0 ≤ n - p.length - totL (p.take i)) (fun i => [(0, .sl false 1 (p.map eStr)), (1, .int .i64 (n - p.length - totL (p.take i))), (5, .int .i64 i)]) (fun i => p.length - i) 0 ⟨Nat.zero_le _, by simp [totL]; omega⟩ ?_ ?_
    · simp -implicitDefEqProofs (maxSteps := 100000) (disch := first | (intros; contradiction) | omega) only [am0, am1, am2, am3, am4, am5, am6, am7, am8, am9, Nat.reduceSub, ↓reduceIte, reduceCtorEq, Nat.reduceEqDiff, Nat.reduceBEq, Nat.reduceAdd, Nat.reduceLT, Nat.reduceBNe, Nat.reduceMul, ↓reduceIte, tis, totL, List.sum_nil]
    · rintro i ⟨hi', hb⟩
      by_cases hi : i < p.length
      · have e := totL_take p i hi
        have hci := hc _ (List.getElem_mem hi)
        have hm := totL_mono p (i + 1)
        have e2 : n - p.length - (totL (p.take i) : Int) - (p[i].length : Int) = n - p.length - (totL (p.take (i + 1)) : Int) := by omega
        by_cases h2 : n - p.length - (totL (p.take (i + 1)) : Int) < 0
        · have hr : n - p.length - totL p < 0 := by omega
          simp -implicitDefEqProofs (maxSteps := 100000) (disch := first | (intros; contradiction) | omega) only [am0, am1, am2, am3, am4, am5, am6, am7, am8, am9, Nat.reduceSub, ↓reduceIte, reduceCtorEq, Nat.reduceEqDiff, Nat.reduceBEq, Nat.reduceAdd, Nat.reduceLT, Nat.reduceBNe, Nat.reduceMul, ↓reduceIte, tis, fls, eStr, e2, h2, hr]
        · simp -implicitDefEqProofs (maxSteps := 100000) (disch := first | (intros; contradiction) | omega) only [am0, am1, am2, am3, am4, am5, am6, am7, am8, am9, Nat.reduceSub, ↓reduceIte, reduceCtorEq, Nat.reduceEqDiff, Nat.reduceBEq, Nat.reduceAdd, Nat.reduceLT, Nat.reduceBNe, Nat.reduceMul, ↓reduceIte, tis, fls, eStr, e2, h2]
          refine round_normal (i + 1) ⟨by omega, by omega⟩ ?_ (by show p.length - (i + 1) < p.length - i; omega)
          simp -implicitDefEqProofs (maxSteps := 100000) (disch := first | (intros; contradiction) | omega) only [am0, am1, am2, am3, am4, am5, am6, am7, am8, am9, Nat.reduceSub, ↓reduceIte, reduceCtorEq, Nat.reduceEqDiff, Nat.reduceBEq, Nat.reduceAdd, Nat.reduceLT, Nat.reduceBNe, Nat.reduceMul, ↓reduceIte, tis]
      · obtain rfl : i = p.length := by omega
        rw [List.take_length] at *
        have hr : ¬ n - p.length - totL p < 0 := by omega
        simp -implicitDefEqProofs (maxSteps := 100000) (disch := first | (intros; contradiction) | omega) only [am0, am1, am2, am3, am4, am5, am6, am7, am8, am9, Nat.reduceSub, ↓reduceIte, reduceCtorEq, Nat.reduceEqDiff, Nat.reduceBEq, Nat.reduceAdd, Nat.reduceLT, Nat.reduceBNe, Nat.reduceMul, ↓reduceIte, tis, fls, hr]
/-- laws.toStringS -/
theorem fits_toStringS (p : List (List UInt8)) (hp : p.length ≤ 1048576) : Fits prog 41 [.sl false 1 (p.map eStr)] (.sl true 1 (p.map eStr)) [] := by
  refine fits_of_code [2] [] [0, 2, 3, 4, 11] func41 rfl rfl rfl (by rfl) (by show 1 ≤ 22; decide) (by rfl) (by rfl) (by show 0 ≤ 1; decide) (by rfl) (run_of ?_)
  simp -implicitDefEqProofs (maxSteps := 100000) (disch := first | (intros; contradiction) | omega) only [am0, am1, am2, am3, am4, am5, am6, am7, am8, am9, Nat.reduceSub, ↓reduceIte, reduceCtorEq, Nat.reduceEqDiff, Nat.reduceBEq, Nat.reduceAdd, Nat.reduceLT, Nat.reduceBNe, Nat.reduceMul, ↓reduceIte, tis]
  refine run_loop (α := Nat) (fun i => i ≤ p.length) (fun i => [(0, .sl false 1 (p.map eStr)), (3, .sl true 1 ((p.take i).map eStr ++ List.replicate (p.length - i) (eStr []))), (4, .int .i64 i)]) (fun i => p.length - i) 0 (Nat.zero_le _) ?_ ?_
  · simp -implicitDefEqProofs (maxSteps := 100000) (disch := first | (intros; contradiction) | omega) only [am0, am1, am2, am3, am4, am5, am6, am7, am8, am9, Nat.reduceSub, ↓reduceIte, reduceCtorEq, Nat.reduceEqDiff, Nat.reduceBEq, Nat.reduceAdd, Nat.reduceLT, Nat.reduceBNe, Nat.reduceMul, ↓reduceIte, eStr]
  · intro i hi'
    by_cases hi : i < p.length
    · have g2 := build_get eStr (eStr []) p i hi
      have g3 := build_set eStr (eStr []) p i hi
      have g4 := build_len eStr (eStr []) p i hi'
      simp only [eStr] at g2 g3 g4
      simp -implicitDefEqProofs (maxSteps := 100000) (disch := first | (intros; contradiction) | omega) only [am0, am1, am2, am3, am4, am5, am6, am7, am8, am9, Nat.reduceSub, ↓reduceIte, reduceCtorEq, Nat.reduceEqDiff, Nat.reduceBEq, Nat.reduceAdd, Nat.reduceLT, Nat.reduceBNe, Nat.reduceMul, ↓reduceIte, tis, eStr, g2, g3, g4]
      refine round_normal (i + 1) (by omega) ?_ (by show p.length - (i + 1) < p.length - i; omega)
      simp -implicitDefEqProofs (maxSteps := 100000) (disch := first | (intros; contradiction) | omega) only [am0, am1, am2, am3, am4, am5, am6, am7, am8, am9, Nat.reduceSub, ↓reduceIte, reduceCtorEq, Nat.reduceEqDiff, Nat.reduceBEq, Nat.reduceAdd, Nat.reduceLT, Nat.reduceBNe, Nat.reduceMul, ↓reduceIte, eStr]
    · obtain rfl : i = p.length := by omega
      simp -implicitDefEqProofs (maxSteps := 100000) (disch := first | (intros; contradiction) | omega) only [am0, am1, am2, am3, am4, am5, am6, am7, am8, am9, Nat.reduceSub, ↓reduceIte, reduceCtorEq, Nat.reduceEqDiff, Nat.reduceBEq, Nat.reduceAdd, Nat.reduceLT, Nat.reduceBNe, Nat.reduceMul, ↓reduceIte, tis]
theorem sz_ok {n : Int} {b : Nat} (h : ¬ (if n - b < 0 then (-1 : Int) else n - b) < 0) : (b : Int) ≤ n := by
  split at h <;> omega
theorem allP_out (p : List Ins) (cs : List (List UInt8)) : (allP p cs).out.length ≤ 1048576 := by
  unfold allP
  split
  · exact (endP_len _).2
  · simp [feedZ]
/-- laws.FnExactFeedAll -/
theorem law_FeedAll (p : List Ins) (hp : p.length ≤ 9223372036854775807) (cs : List (List UInt8)) (hc : cs.length ≤ 9223372036854775807) (hcs : ∀ c ∈ cs, c.length ≤ 9223372036854775807) : Fits prog 7 [.sl false 4 (p.map eIns), .sl false 1 (cs.map eStr)] (.bool true) [] := by
  have cZ := fits_szInsS p 1048576 hp (by omega) (by omega)
  refine fits_of_code [4] [] [0, 1, 4, 5, 6, 7, 8, 9, 10, 11, 12, 13, 14, 15, 16, 21, 26, 53, 58, 63, 82, 90, 93, 110, 115, 118] func7 rfl rfl rfl (by rfl) (by show 2 ≤ 119; decide) (by rfl) (by rfl) (by show 0 ≤ 2; decide) (by rfl) (run_of ?_)
  simp -implicitDefEqProofs (maxSteps := 100000) (disch := first | (intros; contradiction) | omega) only [am0, am1, am2, am3, am4, am5, am6, am7, am8, am9, Nat.reduceSub, ↓reduceIte, reduceCtorEq, Nat.reduceEqDiff, Nat.reduceBEq, Nat.reduceAdd, Nat.reduceLT, Nat.reduceBNe, Nat.reduceMul, ↓reduceIte, tis]
  refine callB cZ ?_
  by_cases h : (1048576 : Int) - p.length < 0
  · simp -implicitDefEqProofs (maxSteps := 100000) (disch := first | (intros; contradiction) | omega) only [am0, am1, am2, am3, am4, am5, am6, am7, am8, am9, Nat.reduceSub, ↓reduceIte, reduceCtorEq, Nat.reduceEqDiff, Nat.reduceBEq, Nat.reduceAdd, Nat.reduceLT, Nat.reduceBNe, Nat.reduceMul, ↓reduceIte, tis, h]
  have e : (if (1048576 : Int) - p.length < 0 then -1 else (1048576 : Int) - p.length) = 1048576 - p.length := if_neg h
  have cZ2 := fits_szStringS cs (1048576 - p.length) hc hcs (by omega) (by omega)
  simp -implicitDefEqProofs (maxSteps := 100000) (disch := first | (intros; contradiction) | omega) only [am0, am1, am2, am3, am4, am5, am6, am7, am8, am9, Nat.reduceSub, ↓reduceIte, reduceCtorEq, Nat.reduceEqDiff, Nat.reduceBEq, Nat.reduceAdd, Nat.reduceLT, Nat.reduceBNe, Nat.reduceMul, ↓reduceIte, tis, h, e]
  refine callB cZ2 ?_
  by_cases h2 : (1048576 : Int) - p.length - cs.length - totL cs < 0
  · simp -implicitDefEqProofs (maxSteps := 100000) (disch := first | (intros; contradiction) | omega) only [am0, am1, am2, am3, am4, am5, am6, am7, am8, am9, Nat.reduceSub, ↓reduceIte, reduceCtorEq, Nat.reduceEqDiff, Nat.reduceBEq, Nat.reduceAdd, Nat.reduceLT, Nat.reduceBNe, Nat.reduceMul, ↓reduceIte, tis, h, h2]
  have hcs2 : ∀ c ∈ cs, c.length ≤ 1048576 := fun c hc => by have := totL_mem hc; omega
  have cI := fits_toInsS p (by omega)
  have cS := fits_toStringS cs (by omega)
  have cO := fits_sFeedAll p cs (by omega) (by omega) hcs2
  have cP := fits_feedAll p cs (by omega) (by omega) hcs2
  have ho : (allP p cs).out.length ≤ 1048576 := by exact allP_out p cs
  generalize (allP p cs).out = o at *
  generalize (allP p cs).base = bs at *
  have cE := fits_eqTokenS o o ho ho
  have cL := fits_eqInsS p p (by omega) (by omega)
  have cX := fits_eqStringS cs cs (by omega) (by omega)
  have cM := fits_markInsS p 1 (by omega) (by omega) (by omega)
  have cN := fits_markStringS cs (1 + 4 * p.length) (by omega) (by omega) (by omega)
  have cF := fits_markTokenS o 1 (by omega) (by omega) (by omega)
  have cH := fits_heldTokenS o.length 1 (by omega) (by omega) (by omega)
  rw [decide_eq_true rfl] at cE cL cX
  simp -implicitDefEqProofs (maxSteps := 100000) (disch := first | (intros; contradiction) | omega) only [am0, am1, am2, am3, am4, am5, am6, am7, am8, am9, Nat.reduceSub, ↓reduceIte, reduceCtorEq, Nat.reduceEqDiff, Nat.reduceBEq, Nat.reduceAdd, Nat.reduceLT, Nat.reduceBNe, Nat.reduceMul, ↓reduceIte, tis, h, h2]
  refine callB cI ?_
  simp -implicitDefEqProofs (maxSteps := 100000) (disch := first | (intros; contradiction) | omega) only [am0, am1, am2, am3, am4, am5, am6, am7, am8, am9, Nat.reduceSub, ↓reduceIte, reduceCtorEq, Nat.reduceEqDiff, Nat.reduceBEq, Nat.reduceAdd, Nat.reduceLT, Nat.reduceBNe, Nat.reduceMul, ↓reduceIte, tis, fls]
  refine callB cS ?_
  simp -implicitDefEqProofs (maxSteps := 100000) (disch := first | (intros; contradiction) | omega) only [am0, am1, am2, am3, am4, am5, am6, am7, am8, am9, Nat.reduceSub, ↓reduceIte, reduceCtorEq, Nat.reduceEqDiff, Nat.reduceBEq, Nat.reduceAdd, Nat.reduceLT, Nat.reduceBNe, Nat.reduceMul, ↓reduceIte, tis, fls]
  refine callB cO ?_
  simp -implicitDefEqProofs (maxSteps := 100000) (disch := first | (intros; contradiction) | omega) only [am0, am1, am2, am3, am4, am5, am6, am7, am8, am9, Nat.reduceSub, ↓reduceIte, reduceCtorEq, Nat.reduceEqDiff, Nat.reduceBEq, Nat.reduceAdd, Nat.reduceLT, Nat.reduceBNe, Nat.reduceMul, ↓reduceIte, tis, fls, ex_eq, exGo_tup, plain, plainL]
  refine callB cI ?_
  simp -implicitDefEqProofs (maxSteps := 100000) (disch := first | (intros; contradiction) | omega) only [am0, am1, am2, am3, am4, am5, am6, am7, am8, am9, Nat.reduceSub, ↓reduceIte, reduceCtorEq, Nat.reduceEqDiff, Nat.reduceBEq, Nat.reduceAdd, Nat.reduceLT, Nat.reduceBNe, Nat.reduceMul, ↓reduceIte, tis, fls]
  refine callB cS ?_
  simp -implicitDefEqProofs (maxSteps := 100000) (disch := first | (intros; contradiction) | omega) only [am0, am1, am2, am3, am4, am5, am6, am7, am8, am9, Nat.reduceSub, ↓reduceIte, reduceCtorEq, Nat.reduceEqDiff, Nat.reduceBEq, Nat.reduceAdd, Nat.reduceLT, Nat.reduceBNe, Nat.reduceMul, ↓reduceIte, tis, fls]
  refine callB cP ?_
  simp -implicitDefEqProofs (maxSteps := 100000) (disch := first | (intros; contradiction) | omega) only [am0, am1, am2, am3, am4, am5, am6, am7, am8, am9, Nat.reduceSub, ↓reduceIte, reduceCtorEq, Nat.reduceEqDiff, Nat.reduceBEq, Nat.reduceAdd, Nat.reduceLT, Nat.reduceBNe, Nat.reduceMul, ↓reduceIte, tis, fls, ex_eq, exGo_tup, plain, plainL]
  refine callB cE ?_
  simp -implicitDefEqProofs (maxSteps := 100000) (disch := first | (intros; contradiction) | omega) only [am0, am1, am2, am3, am4, am5, am6, am7, am8, am9, Nat.reduceSub, ↓reduceIte, reduceCtorEq, Nat.reduceEqDiff, Nat.reduceBEq, Nat.reduceAdd, Nat.reduceLT, Nat.reduceBNe, Nat.reduceMul, ↓reduceIte, tis, fls]
  refine callB cI ?_
  simp -implicitDefEqProofs (maxSteps := 100000) (disch := first | (intros; contradiction) | omega) only [am0, am1, am2, am3, am4, am5, am6, am7, am8, am9, Nat.reduceSub, ↓reduceIte, reduceCtorEq, Nat.reduceEqDiff, Nat.reduceBEq, Nat.reduceAdd, Nat.reduceLT, Nat.reduceBNe, Nat.reduceMul, ↓reduceIte, tis, fls]
  refine callB cL ?_
  simp -implicitDefEqProofs (maxSteps := 100000) (disch := first | (intros; contradiction) | omega) only [am0, am1, am2, am3, am4, am5, am6, am7, am8, am9, Nat.reduceSub, ↓reduceIte, reduceCtorEq, Nat.reduceEqDiff, Nat.reduceBEq, Nat.reduceAdd, Nat.reduceLT, Nat.reduceBNe, Nat.reduceMul, ↓reduceIte, tis, fls]
  refine callB cS ?_
  simp -implicitDefEqProofs (maxSteps := 100000) (disch := first | (intros; contradiction) | omega) only [am0, am1, am2, am3, am4, am5, am6, am7, am8, am9, Nat.reduceSub, ↓reduceIte, reduceCtorEq, Nat.reduceEqDiff, Nat.reduceBEq, Nat.reduceAdd, Nat.reduceLT, Nat.reduceBNe, Nat.reduceMul, ↓reduceIte, tis, fls]
  refine callB cX ?_
  simp -implicitDefEqProofs (maxSteps := 100000) (disch := first | (intros; contradiction) | omega) only [am0, am1, am2, am3, am4, am5, am6, am7, am8, am9, Nat.reduceSub, ↓reduceIte, reduceCtorEq, Nat.reduceEqDiff, Nat.reduceBEq, Nat.reduceAdd, Nat.reduceLT, Nat.reduceBNe, Nat.reduceMul, ↓reduceIte, tis, fls]
  refine callM 0 cM ?_
  simp -implicitDefEqProofs (maxSteps := 100000) (disch := first | (intros; contradiction) | omega) only [am0, am1, am2, am3, am4, am5, am6, am7, am8, am9, Nat.reduceSub, ↓reduceIte, reduceCtorEq, Nat.reduceEqDiff, Nat.reduceBEq, Nat.reduceAdd, Nat.reduceLT, Nat.reduceBNe, Nat.reduceMul, ↓reduceIte, tis, fls]
  refine callM 0 cN ?_
  simp -implicitDefEqProofs (maxSteps := 100000) (disch := first | (intros; contradiction) | omega) only [am0, am1, am2, am3, am4, am5, am6, am7, am8, am9, Nat.reduceSub, ↓reduceIte, reduceCtorEq, Nat.reduceEqDiff, Nat.reduceBEq, Nat.reduceAdd, Nat.reduceLT, Nat.reduceBNe, Nat.reduceMul, ↓reduceIte, tis, fls]
  refine callB cE ?_
  simp -implicitDefEqProofs (maxSteps := 100000) (disch := first | (intros; contradiction) | omega) only [am0, am1, am2, am3, am4, am5, am6, am7, am8, am9, Nat.reduceSub, ↓reduceIte, reduceCtorEq, Nat.reduceEqDiff, Nat.reduceBEq, Nat.reduceAdd, Nat.reduceLT, Nat.reduceBNe, Nat.reduceMul, ↓reduceIte, tis, fls]
  refine callM 0 cF ?_
  simp -implicitDefEqProofs (maxSteps := 100000) (disch := first | (intros; contradiction) | omega) only [am0, am1, am2, am3, am4, am5, am6, am7, am8, am9, Nat.reduceSub, ↓reduceIte, reduceCtorEq, Nat.reduceEqDiff, Nat.reduceBEq, Nat.reduceAdd, Nat.reduceLT, Nat.reduceBNe, Nat.reduceMul, ↓reduceIte, tis, fls]
  refine callB cH ?_
  simp -implicitDefEqProofs (maxSteps := 100000) (disch := first | (intros; contradiction) | omega) only [am0, am1, am2, am3, am4, am5, am6, am7, am8, am9, Nat.reduceSub, ↓reduceIte, reduceCtorEq, Nat.reduceEqDiff, Nat.reduceBEq, Nat.reduceAdd, Nat.reduceLT, Nat.reduceBNe, Nat.reduceMul, ↓reduceIte, tis, fls]
  refine callB cI ?_
  simp -implicitDefEqProofs (maxSteps := 100000) (disch := first | (intros; contradiction) | omega) only [am0, am1, am2, am3, am4, am5, am6, am7, am8, am9, Nat.reduceSub, ↓reduceIte, reduceCtorEq, Nat.reduceEqDiff, Nat.reduceBEq, Nat.reduceAdd, Nat.reduceLT, Nat.reduceBNe, Nat.reduceMul, ↓reduceIte, tis, fls]
  refine callB cS ?_
  simp -implicitDefEqProofs (maxSteps := 100000) (disch := first | (intros; contradiction) | omega) only [am0, am1, am2, am3, am4, am5, am6, am7, am8, am9, Nat.reduceSub, ↓reduceIte, reduceCtorEq, Nat.reduceEqDiff, Nat.reduceBEq, Nat.reduceAdd, Nat.reduceLT, Nat.reduceBNe, Nat.reduceMul, ↓reduceIte, tis, fls]
  refine callB cP ?_
  simp -implicitDefEqProofs (maxSteps := 100000) (disch := first | (intros; contradiction) | omega) only [am0, am1, am2, am3, am4, am5, am6, am7, am8, am9, Nat.reduceSub, ↓reduceIte, reduceCtorEq, Nat.reduceEqDiff, Nat.reduceBEq, Nat.reduceAdd, Nat.reduceLT, Nat.reduceBNe, Nat.reduceMul, ↓reduceIte, tis, fls, ex_eq, exGo_tup, plain, plainL]
  refine callB cE ?_
  simp -implicitDefEqProofs (maxSteps := 100000) (disch := first | (intros; contradiction) | omega) only [am0, am1, am2, am3, am4, am5, am6, am7, am8, am9, Nat.reduceSub, ↓reduceIte, reduceCtorEq, Nat.reduceEqDiff, Nat.reduceBEq, Nat.reduceAdd, Nat.reduceLT, Nat.reduceBNe, Nat.reduceMul, ↓reduceIte, tis, fls]
  refine callB cH ?_
  simp -implicitDefEqProofs (maxSteps := 100000) (disch := first | (intros; contradiction) | omega) only [am0, am1, am2, am3, am4, am5, am6, am7, am8, am9, Nat.reduceSub, ↓reduceIte, reduceCtorEq, Nat.reduceEqDiff, Nat.reduceBEq, Nat.reduceAdd, Nat.reduceLT, Nat.reduceBNe, Nat.reduceMul, ↓reduceIte, tis, fls]
theorem own : ownKnob prog.godebug = none := by kernel_rfl
theorem laidOut : laidOutB prog = true := by kernel_rfl
theorem typ_int {n : Nat} {x : AV} (h : Typed prog n 3 x) : ∃ v, x = .int .i64 v ∧ -9223372036854775808 ≤ v ∧ v ≤ 9223372036854775807 := by
  cases n with
  | zero => exact h.elim
  | succ n =>
    simp only [Typed, underlying3] at h
    obtain ⟨v, rfl, hw⟩ := h
    refine ⟨v, rfl, ?_⟩
    simp [Lit.wf, IntKind.min, IntKind.max, IntKind.bits, IntKind.signed] at hw
    omega
theorem typ_str {n : Nat} {x : AV} (h : Typed prog n 9 x) : ∃ s, x = .str s ∧ s.length ≤ 9223372036854775807 := by
  cases n with
  | zero => exact h.elim
  | succ n => simp only [Typed, underlying9] at h; exact h
theorem typ_bool {n : Nat} {x : AV} (h : Typed prog n 4 x) : ∃ b, x = .bool b := by
  cases n with
  | zero => exact h.elim
  | succ n => simp only [Typed, underlying4] at h; exact h
theorem all_map {α : Type} (f : α → AV) : ∀ xs : List AV, (∀ y ∈ xs, ∃ i, y = f i) → ∃ is : List α, xs = is.map f
  | [], _ => ⟨[], rfl⟩
  | y :: r, h => by
    obtain ⟨i, rfl⟩ := h y (List.mem_cons_self ..)
    obtain ⟨is, rfl⟩ := all_map f r (fun z hz => h z (List.mem_cons_of_mem _ hz))
    exact ⟨i :: is, rfl⟩
theorem co_ins : prog.cellsOf 131 = 4 := by kernel_rfl
theorem co_tok : prog.cellsOf 174 = 3 := by kernel_rfl
theorem typ_ins {n : Nat} {x : AV} (h : Typed prog n 131 x) : ∃ i, x = eIns i := by
  cases n with
  | zero => exact h.elim
  | succ n =>
    simp only [Typed, underlying131] at h
    obtain ⟨ys, rfl, hl, hf⟩ := h
    match ys, hl, hf with
    | [a, b, c, d], _, hf =>
      obtain ⟨a', rfl, _⟩ := typ_int (hf 0 _ a rfl rfl)
      obtain ⟨b', rfl, _⟩ := typ_int (hf 1 _ b rfl rfl)
      obtain ⟨c', rfl, _⟩ := typ_int (hf 2 _ c rfl rfl)
      obtain ⟨d', rfl, _⟩ := typ_int (hf 3 _ d rfl rfl)
      exact ⟨⟨a', b', c', d'⟩, rfl⟩
theorem typ_tok {n : Nat} {x : AV} (h : Typed prog n 174 x) : ∃ i, x = eToken i := by
  cases n with
  | zero => exact h.elim
  | succ n =>
    simp only [Typed, underlying174] at h
    obtain ⟨ys, rfl, hl, hf⟩ := h
    match ys, hl, hf with
    | [a, b, c], _, hf =>
      obtain ⟨a', rfl, _⟩ := typ_int (hf 0 _ a rfl rfl)
      obtain ⟨b', rfl, _⟩ := typ_int (hf 1 _ b rfl rfl)
      obtain ⟨c', rfl, _⟩ := typ_int (hf 2 _ c rfl rfl)
      exact ⟨⟨a', b', c'⟩, rfl⟩
theorem typ_prog {n : Nat} {x : AV} (h : Typed prog n 54 x) : ∃ p : List Ins, x = .sl false 4 (p.map eIns) ∧ p.length ≤ 9223372036854775807 := by
  cases n with
  | zero => exact h.elim
  | succ n =>
    simp only [Typed, underlying54, co_ins] at h
    obtain ⟨xs, rfl, hl, hf⟩ := h
    obtain ⟨p, rfl⟩ := all_map eIns xs (fun y hy => typ_ins (hf y hy))
    exact ⟨p, rfl, by simpa [maxLen] using hl⟩
theorem typ_toks {n : Nat} {x : AV} (h : Typed prog n 67 x) : ∃ p : List Token, x = .sl false 3 (p.map eToken) ∧ p.length ≤ 9223372036854775807 := by
  cases n with
  | zero => exact h.elim
  | succ n =>
    simp only [Typed, underlying67, co_tok] at h
    obtain ⟨xs, rfl, hl, hf⟩ := h
    obtain ⟨p, rfl⟩ := all_map eToken xs (fun y hy => typ_tok (hf y hy))
    exact ⟨p, rfl, by simpa [maxLen] using hl⟩
theorem typ_feed {n : Nat} {x : AV} (h : Typed prog n 69 x) : ∃ f : Feed, x = eFeed false f ∧ f.prog.length ≤ 9223372036854775807 ∧ f.buf.length ≤ 9223372036854775807 ∧ f.out.length ≤ 9223372036854775807 := by
  cases n with
  | zero => exact h.elim
  | succ n =>
    simp only [Typed, underlying69] at h
    obtain ⟨ys, rfl, hl, hf⟩ := h
    match ys, hl, hf with
    | [y0, y1, y2, y3, y4, y5, y6, y7, y8], _, hf =>
      obtain ⟨p, rfl, hp⟩ := typ_prog (hf 0 _ y0 rfl rfl)
      obtain ⟨b, rfl, hb⟩ := typ_str (hf 1 _ y1 rfl rfl)
      obtain ⟨c1, rfl, _⟩ := typ_int (hf 2 _ y2 rfl rfl)
      obtain ⟨c2, rfl, _⟩ := typ_int (hf 3 _ y3 rfl rfl)
      obtain ⟨c3, rfl, _⟩ := typ_int (hf 4 _ y4 rfl rfl)
      obtain ⟨c4, rfl, _⟩ := typ_int (hf 5 _ y5 rfl rfl)
      obtain ⟨c5, rfl, _⟩ := typ_int (hf 6 _ y6 rfl rfl)
      obtain ⟨q, rfl, hq⟩ := typ_toks (hf 7 _ y7 rfl rfl)
      obtain ⟨s, rfl⟩ := typ_bool (hf 8 _ y8 rfl rfl)
      exact ⟨⟨p, b, c1, c2, c3, c4, c5, q, s⟩, rfl, hp, hb, hq⟩
theorem typ_strs {n : Nat} {x : AV} (h : Typed prog n 29 x) : ∃ p : List (List UInt8), x = .sl false 1 (p.map eStr) ∧ p.length ≤ 9223372036854775807 ∧ ∀ c ∈ p, c.length ≤ 9223372036854775807 := by
  cases n with
  | zero => exact h.elim
  | succ n =>
    have co : prog.cellsOf 9 = 1 := by kernel_rfl
    simp only [Typed, underlying29, co] at h
    obtain ⟨xs, rfl, hl, hf⟩ := h
    have : ∃ p : List (List UInt8), xs = p.map eStr ∧ ∀ c ∈ p, c.length ≤ 9223372036854775807 := by
      clear hl
      induction xs with
      | nil => exact ⟨[], rfl, by simp⟩
      | cons y r ih =>
        obtain ⟨s, rfl, hs⟩ := typ_str (hf y (List.mem_cons_self ..))
        obtain ⟨p, rfl, hp⟩ := ih (fun z hz => hf z (List.mem_cons_of_mem _ hz))
        exact ⟨s :: p, rfl, fun c hc => (List.mem_cons.1 hc).elim (fun e => e ▸ hs) (hp c)⟩
    obtain ⟨p, rfl, hp⟩ := this
    exact ⟨p, rfl, by simpa [maxLen] using hl, hp⟩
end Go.Proofs.Ytonljcfflamccaa.U
