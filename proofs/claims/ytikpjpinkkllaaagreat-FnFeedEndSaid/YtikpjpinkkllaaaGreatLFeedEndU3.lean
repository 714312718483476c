/- What functions of the program answer, on values without memory (part 3): conditions stand at each theorem. -/
import Derived.Test.YtikpjpinkkllaaaGreatRows
import Derived.Test.YtikpjpinkkllaaaGreatLFeedEndU2
set_option linter.unusedVariables false
set_option linter.unusedSimpArgs false
set_option maxRecDepth 100000
set_option maxHeartbeats 4000000
namespace Go.Proofs.YtikpjpinkkllaaaGreat.U
open Go Go.RowKit Go.Proofs Go.Proofs.YtikpjpinkkllaaaGreat.Am AV Go.Proofs.Tryz
def ext (f : Feed) (w : List UInt8) : Feed := { f with buf := f.buf ++ w }
theorem mark_mark (f : Feed) : markF (markF f) = markF f := by
 have hs := markF_same f
 unfold markF at hs ⊢
 cases h : f.prog[f.pc.toNat]? with
 | none => simp [h]
 | some x =>
  simp only [h]
  by_cases hc : x.op = 1 ∧ 0 < f.at_
  ·simp [hc, h]
  ·simp [hc, h]
structure FB (f : Feed) : Prop where
 fi : FI f
 pc0 : f.at_ = 0 → f.pc = 0
 oe : outEnd f.out 0 = some f.base
theorem feedB_iff {f : Feed} : feedB f = true ↔ FB f := by
 constructor
 ·intro h
  refine ⟨feedB_FI h, ?_, ?_⟩
  ·unfold feedB at h
   simp only [Bool.and_eq_true, decide_eq_true_eq, beq_iff_eq] at h
   exact h.2.2.2.1.2.2.1
  ·unfold feedB at h
   simp only [Bool.and_eq_true, decide_eq_true_eq, beq_iff_eq] at h
   exact h.2.2.2.2
 ·rintro ⟨⟨h1, h2, h3, h4, h5, h6, h7, h8⟩, h9, h10⟩
  unfold feedB
  simp only [Bool.and_eq_true, decide_eq_true_eq, beq_iff_eq]
  exact ⟨h1, h7, h2, ⟨h3.1, h3.2, h9, h4.1, h4.2, h5.1, h5.2, h6⟩, h10⟩
theorem FB.more {f : Feed} (h : FB f) (w : List UInt8) (hw : f.base + f.buf.length + w.length ≤ 200) : FB (ext f w) := ⟨h.fi.more w hw, h.pc0, h.oe⟩
theorem FB.mark {f : Feed} (h : FB f) : FB (markF f) := by
 have hm := markF_same f
 exact ⟨h.fi.mark, by rw [hm.2.2.2.1, hm.2.2.2.2.1]; exact h.pc0, by rw [hm.2.2.1, hm.2.2.2.2.2.1]; exact h.oe⟩
theorem FB.cut {f : Feed} (h : FB f) : FB (cutF f) := by
 refine ⟨h.fi.cut, ?_, ?_⟩
 ·unfold cutF; split
  ·exact h.pc0
  ·intro; rfl
 ·unfold cutF; split
  ·exact h.oe
  ·rename_i hr
   have ht : f.to ≠ 0 := fun e => hr (h.fi.rt.2 e)
   have h1 := h.fi.to1
   have h2 := h.fi.rule
   simp only [outEnd_app, h.oe, outEnd]
   rw [if_pos ⟨trivial, by omega, by omega, by omega⟩]
theorem FB.step {f : Feed} (h : FB f) (hl : f.at_ < f.buf.length) : FB (stepF f) := by
 have h1 := h.fi.at1
 refine ⟨h.fi.step hl, ?_, ?_⟩
 ·unfold stepF; split
  ·exact h.mark.cut.pc0
  ·intro e; simp only at e; omega
 ·unfold stepF; split
  ·exact h.mark.cut.oe
  ·have hm := markF_same f
   simp only [hm.2.2.1, hm.2.2.2.2.2.1]; exact h.oe
structure On (f g : Feed) : Prop where
 fb : FB g
 out : f.out <+: g.out
 sum : g.base + g.buf.length = f.base + f.buf.length
 prog : g.prog = f.prog
theorem On.refl {f : Feed} (h : FB f) : On f f := ⟨h, List.prefix_refl _, rfl, rfl⟩
theorem On.trans {f g h : Feed} (a : On f g) (b : On g h) : On f h := ⟨b.fb, a.out.trans b.out, b.sum.trans a.sum, b.prog.trans a.prog⟩
theorem On.mark {f g : Feed} (a : On f g) : On f (markF g) := by
 have hm := markF_same g
 exact ⟨a.fb.mark, by rw [hm.2.2.2.2.2.1]; exact a.out, by rw [hm.2.1, hm.2.2.1]; exact a.sum, by rw [hm.1]; exact a.prog⟩
theorem On.cut {f g : Feed} (a : On f g) : On f (cutF g) := by
 have h1 := a.fb.fi.to1
 have h2 := a.fb.fi.at1
 have h3 := a.sum
 refine ⟨a.fb.cut, ?_, ?_, ?_⟩ <;> unfold cutF <;> split
 ·exact a.out
 ·exact a.out.trans (List.prefix_append _ _)
 ·exact a.sum
 ·simp only [List.length_drop]; omega
 ·exact a.prog
 ·exact a.prog
theorem On.step {f g : Feed} (a : On f g) (hl : g.at_ < g.buf.length) : On f (stepF g) := by
 have hm := markF_same g
 unfold stepF
 split
 ·exact a.mark.cut
 ·rename_i ht
  have := (a.fb.step hl)
  unfold stepF at this
  rw [if_neg ht] at this
  exact ⟨this, by simp only [hm.2.2.2.2.2.1]; exact a.out, by simp only [hm.2.1, hm.2.2.1]; exact a.sum, by simp only [hm.1]; exact a.prog⟩
theorem On.run {f g : Feed} (n : Nat) (a : On f g) : On f (runF n g) := by
 induction n generalizing g with
 | zero => exact a
 | succ n ih =>
  unfold runF
  split
  ·exact a
  ·split
   ·exact a.mark
   ·exact ih (a.step (by omega))
theorem On.go {f g : Feed} (a : On f g) : On f (goF g) := a.run _
def Still (f : Feed) : Prop := f.stuck = true ∨ ((f.buf.length : Int) ≤ f.at_ ∧ markF f = f)
theorem still_go {f : Feed} (h : Still f) : goF f = f := by
 rcases h with h | ⟨h, e⟩
 ·exact goF_stuck h
 ·cases hs : f.stuck with
  | true => exact goF_stuck hs
  | false => rw [goF_end hs h, e]
theorem go_still {f : Feed} (h : FI f) : Still (goF f) := by
 generalize hn : muF f = n
 induction n using Nat.strongRecOn generalizing f with
 | ind n ih =>
  cases hs : f.stuck with
  | true => rw [goF_stuck hs]; exact .inl hs
  | false =>
   by_cases hl : (f.buf.length : Int) ≤ f.at_
   ·rw [goF_end hs hl]
    have hm := markF_same f
    exact .inr ⟨by rw [hm.2.1, hm.2.2.2.2.1]; exact hl, mark_mark f⟩
   ·rw [goF_step h hs (by omega)]
    exact ih _ (by rw [← hn]; exact muF_step h hs (by omega)) (h.step (by omega)) rfl
theorem On.end_ {f g : Feed} (n : Nat) (a : On f g) : On f (endN n g) := by
 induction n generalizing g with
 | zero => exact a
 | succ n ih =>
  unfold endN
  split
  ·exact a
  ·exact ih a.cut.go
theorem endF_still {f : Feed} (h : FI f) (hs : Still f) : Still (endF f) ∧ ((endF f).stuck = true ∨ (endF f).buf = []) := by
 generalize hn : muE f = n
 induction n using Nat.strongRecOn generalizing f with
 | ind n ih =>
  by_cases hst : f.stuck = true ∨ f.buf = []
  ·rw [endF_stop hst]; exact ⟨hs, hst⟩
  ·have h2 : f.stuck = false := by cases hh : f.stuck with | true => exact absurd (.inl hh) hst | false => rfl
   have hb : f.buf ≠ [] := fun e => hst (.inr e)
   have hmu := muE_lt h h2 hb
   rw [endF_step h h2 hb]
   exact ih _ (by omega) (goF_FI h.cut) (go_still h.cut) rfl
def Sim (f g : Feed) : Prop := f = g ∨ (f.stuck = true ∧ g.stuck = true ∧ f.out = g.out ∧ f.base = g.base)
theorem endP_stuck {f : Feed} (h : FB f) (hs : f.stuck = true) : endP f = f := by
 unfold endP; rw [if_pos (feedB_iff.2 h), goF_stuck hs, endF_stop (.inl hs)]
theorem Sim.end_ {f g : Feed} (hf : FB f) (hg : FB g) (h : Sim f g) : Sim (endP f) (endP g) := by
 rcases h with rfl | ⟨a, b, c, d⟩
 ·exact .inl rfl
 ·rw [endP_stuck hf a, endP_stuck hg b]; exact .inr ⟨a, b, c, d⟩
theorem endP_on {f : Feed} (h : FB f) : On f (endP f) ∧ Still (endP f) ∧ ((endP f).stuck = true ∨ (endP f).buf = []) := by
 have a := (On.refl h).go
 unfold endP
 rw [if_pos (feedB_iff.2 h)]
 exact ⟨a.end_ _, endF_still a.fb.fi (go_still h.fi)⟩
theorem endP_endP {f : Feed} (h : FB f) : endP (endP f) = endP f := by
 obtain ⟨a, b, c⟩ := endP_on h
 have : endP (endP f) = endF (goF (endP f)) := if_pos (feedB_iff.2 a.fb)
 rw [this, still_go b, endF_stop c]
theorem law_LFeedEnd (c : List UInt8) (hc : c.length ≤ 9223372036854775807) : Fits prog 3 [.sl false 1 (bytesA c)] (.bool true) [] := by
 by_cases h0 : (1048576 : Int) < c.length
 ·refine fits_of_code [2] [] [0, 2, 3, 4, 5, 6, 9, 38, 41] func3 rfl rfl rfl (by rfl) (by show 1 ≤ 79; decide) (by rfl) (by rfl) (by show 0 ≤ 1; decide) (by rfl) (run_of ?_)
  (repeat (first | refine Zo (Z3 tis @h0 Zi) ?_ | refine .inl ⟨by kernel_rfl, ?_⟩ | exact .inl (by show _ = _; kernel_rfl) | exact Zc (Z3 tis @h0 Zi)))
 have cD := fits_drawFeedEnd c hc
 have cS := fits_drawFeedSame c hc
 have hb := feedV_bd (c.take 2000) 0
 have hg : (tailB c (feedV (c.take 2000) 0).1).prog.length ≤ 1048576 ∧ (tailB c (feedV (c.take 2000) 0).1).out.length ≤ 1048576 := by
  unfold tailB; split
  ·exact ⟨hb.1, hb.2.2⟩
  ·exact ⟨hb.1, hb.2.2⟩
 generalize (feedV (c.take 2000) 0).1 = f at *
 generalize tailB c f = g at *
 obtain ⟨hb1, hb2, hb3⟩ := hb
 have cE := fits_feedEnd f hb1 hb2 hb3
 have cF := fits_sFeedEnd f hb1 hb2 hb3
 have cO := fits_sFeedOk f (by omega) (by omega) (by omega)
 have cX := fits_feedSame2 f g (by omega) (by omega)
 have cY := fits_sFeedSame2 f g (by omega) (by omega)
 have cZ := fits_feedSame2 f f (by omega) (by omega)
 rw [decide_eq_true rfl] at cZ
 cases hB : feedB f with
 | false =>
  have e : endP f = feedZ := by unfold endP; rw [if_neg (by rw [hB]; decide)]
  rw [e] at cE cF
  rw [hB] at cO
  have cW := fits_feedSame2 feedZ feedZ (by decide) (by decide)
  rw [decide_eq_true rfl] at cW
  refine fits_of_code [2] [] [0, 2, 3, 4, 5, 6, 9, 38, 41] func3 rfl rfl rfl (by rfl) (by show 1 ≤ 79; decide) (by rfl) (by rfl) (by show 0 ≤ 1; decide) (by rfl) (run_of ?_)
  (repeat (first | refine Zo (Z7 tis fls @h0 @eF @ex_eq @exGo_tup Zi) ?_ | refine .inl ⟨by kernel_rfl, ?_⟩ | exact .inl (by show _ = _; kernel_rfl) | exact Zc (Z7 tis fls @h0 @eF @ex_eq @exGo_tup Zi)); try ((first | refine callL cD ?_ | refine callB cD ?_); repeat (first | refine Zo (Z7 tis fls @h0 @eF @ex_eq @exGo_tup Zi) ?_ | refine .inl ⟨by kernel_rfl, ?_⟩ | exact .inl (by show _ = _; kernel_rfl) | exact Zc (Z7 tis fls @h0 @eF @ex_eq @exGo_tup Zi))); try ((first | refine callL cE ?_ | refine callB cE ?_); repeat (first | refine Zo (Z7 tis fls @h0 @eF @ex_eq @exGo_tup Zi) ?_ | refine .inl ⟨by kernel_rfl, ?_⟩ | exact .inl (by show _ = _; kernel_rfl) | exact Zc (Z7 tis fls @h0 @eF @ex_eq @exGo_tup Zi))); try ((first | refine callL cS ?_ | refine callB cS ?_); repeat (first | refine Zo (Z7 tis fls @h0 @eF @ex_eq @exGo_tup Zi) ?_ | refine .inl ⟨by kernel_rfl, ?_⟩ | exact .inl (by show _ = _; kernel_rfl) | exact Zc (Z7 tis fls @h0 @eF @ex_eq @exGo_tup Zi))); try ((first | refine callL cF ?_ | refine callB cF ?_); repeat (first | refine Zo (Z7 tis fls @h0 @eF @ex_eq @exGo_tup Zi) ?_ | refine .inl ⟨by kernel_rfl, ?_⟩ | exact .inl (by show _ = _; kernel_rfl) | exact Zc (Z7 tis fls @h0 @eF @ex_eq @exGo_tup Zi))); try ((first | refine callL cW ?_ | refine callB cW ?_); repeat (first | refine Zo (Z7 tis fls @h0 @eF @ex_eq @exGo_tup Zi) ?_ | refine .inl ⟨by kernel_rfl, ?_⟩ | exact .inl (by show _ = _; kernel_rfl) | exact Zc (Z7 tis fls @h0 @eF @ex_eq @exGo_tup Zi))); try ((first | refine callL cX ?_ | refine callB cX ?_); repeat (first | refine Zo (Z7 tis fls @h0 @eF @ex_eq @exGo_tup Zi) ?_ | refine .inl ⟨by kernel_rfl, ?_⟩ | exact .inl (by show _ = _; kernel_rfl) | exact Zc (Z7 tis fls @h0 @eF @ex_eq @exGo_tup Zi))); try ((first | refine callL cY ?_ | refine callB cY ?_); repeat (first | refine Zo (Z7 tis fls @h0 @eF @ex_eq @exGo_tup Zi) ?_ | refine .inl ⟨by kernel_rfl, ?_⟩ | exact .inl (by show _ = _; kernel_rfl) | exact Zc (Z7 tis fls @h0 @eF @ex_eq @exGo_tup Zi))); try ((first | refine callL cZ ?_ | refine callB cZ ?_); repeat (first | refine Zo (Z7 tis fls @h0 @eF @ex_eq @exGo_tup Zi) ?_ | refine .inl ⟨by kernel_rfl, ?_⟩ | exact .inl (by show _ = _; kernel_rfl) | exact Zc (Z7 tis fls @h0 @eF @ex_eq @exGo_tup Zi))); try ((first | refine callL cO ?_ | refine callB cO ?_); repeat (first | refine Zo (Z7 tis fls @h0 @eF @ex_eq @exGo_tup Zi) ?_ | refine .inl ⟨by kernel_rfl, ?_⟩ | exact .inl (by show _ = _; kernel_rfl) | exact Zc (Z7 tis fls @h0 @eF @ex_eq @exGo_tup Zi))))
  rfl
 | true =>
  have hF := feedB_iff.1 hB
  obtain ⟨on, st, sb⟩ := endP_on hF
  have ee := endP_endP hF
  have hx := on.fb.fi.bd
  have hk := feedB_iff.2 on.fb
  have hsum := on.sum
  rw [hB] at cO
  generalize endP f = x at *
  obtain ⟨hx1, hx2, hx3⟩ := hx
  have cW := fits_feedSame2 x x (by omega) (by omega)
  rw [decide_eq_true rfl] at cW
  have cK := fits_feedOk x (by omega) (by omega) (by omega)
  rw [hk] at cK
  have cL := fits_feedEnd x hx1 hx2 hx3
  rw [ee] at cL
  cases hst : x.stuck with
  | true =>
   refine fits_of_code [2] [] [0, 2, 3, 4, 5, 6, 9, 38, 41] func3 rfl rfl rfl (by rfl) (by show 1 ≤ 79; decide) (by rfl) (by rfl) (by show 0 ≤ 1; decide) (by rfl) (run_of ?_)
   (repeat (first | refine Zo (Z8 tis fls @h0 @eF @ex_eq @exGo_tup @hst Zi) ?_ | refine .inl ⟨by kernel_rfl, ?_⟩ | exact .inl (by show _ = _; kernel_rfl) | exact Zc (Z8 tis fls @h0 @eF @ex_eq @exGo_tup @hst Zi)); try ((first | refine callL cD ?_ | refine callB cD ?_); repeat (first | refine Zo (Z8 tis fls @h0 @eF @ex_eq @exGo_tup @hst Zi) ?_ | refine .inl ⟨by kernel_rfl, ?_⟩ | exact .inl (by show _ = _; kernel_rfl) | exact Zc (Z8 tis fls @h0 @eF @ex_eq @exGo_tup @hst Zi))); try ((first | refine callL cE ?_ | refine callB cE ?_); repeat (first | refine Zo (Z8 tis fls @h0 @eF @ex_eq @exGo_tup @hst Zi) ?_ | refine .inl ⟨by kernel_rfl, ?_⟩ | exact .inl (by show _ = _; kernel_rfl) | exact Zc (Z8 tis fls @h0 @eF @ex_eq @exGo_tup @hst Zi))); try ((first | refine callL cS ?_ | refine callB cS ?_); repeat (first | refine Zo (Z8 tis fls @h0 @eF @ex_eq @exGo_tup @hst Zi) ?_ | refine .inl ⟨by kernel_rfl, ?_⟩ | exact .inl (by show _ = _; kernel_rfl) | exact Zc (Z8 tis fls @h0 @eF @ex_eq @exGo_tup @hst Zi))); try ((first | refine callL cF ?_ | refine callB cF ?_); repeat (first | refine Zo (Z8 tis fls @h0 @eF @ex_eq @exGo_tup @hst Zi) ?_ | refine .inl ⟨by kernel_rfl, ?_⟩ | exact .inl (by show _ = _; kernel_rfl) | exact Zc (Z8 tis fls @h0 @eF @ex_eq @exGo_tup @hst Zi))); try ((first | refine callL cW ?_ | refine callB cW ?_); repeat (first | refine Zo (Z8 tis fls @h0 @eF @ex_eq @exGo_tup @hst Zi) ?_ | refine .inl ⟨by kernel_rfl, ?_⟩ | exact .inl (by show _ = _; kernel_rfl) | exact Zc (Z8 tis fls @h0 @eF @ex_eq @exGo_tup @hst Zi))); try ((first | refine callL cX ?_ | refine callB cX ?_); repeat (first | refine Zo (Z8 tis fls @h0 @eF @ex_eq @exGo_tup @hst Zi) ?_ | refine .inl ⟨by kernel_rfl, ?_⟩ | exact .inl (by show _ = _; kernel_rfl) | exact Zc (Z8 tis fls @h0 @eF @ex_eq @exGo_tup @hst Zi))); try ((first | refine callL cY ?_ | refine callB cY ?_); repeat (first | refine Zo (Z8 tis fls @h0 @eF @ex_eq @exGo_tup @hst Zi) ?_ | refine .inl ⟨by kernel_rfl, ?_⟩ | exact .inl (by show _ = _; kernel_rfl) | exact Zc (Z8 tis fls @h0 @eF @ex_eq @exGo_tup @hst Zi))); try ((first | refine callL cZ ?_ | refine callB cZ ?_); repeat (first | refine Zo (Z8 tis fls @h0 @eF @ex_eq @exGo_tup @hst Zi) ?_ | refine .inl ⟨by kernel_rfl, ?_⟩ | exact .inl (by show _ = _; kernel_rfl) | exact Zc (Z8 tis fls @h0 @eF @ex_eq @exGo_tup @hst Zi))); try ((first | refine callL cO ?_ | refine callB cO ?_); repeat (first | refine Zo (Z8 tis fls @h0 @eF @ex_eq @exGo_tup @hst Zi) ?_ | refine .inl ⟨by kernel_rfl, ?_⟩ | exact .inl (by show _ = _; kernel_rfl) | exact Zc (Z8 tis fls @h0 @eF @ex_eq @exGo_tup @hst Zi))); try ((first | refine callL cK ?_ | refine callB cK ?_); repeat (first | refine Zo (Z8 tis fls @h0 @eF @ex_eq @exGo_tup @hst Zi) ?_ | refine .inl ⟨by kernel_rfl, ?_⟩ | exact .inl (by show _ = _; kernel_rfl) | exact Zc (Z8 tis fls @h0 @eF @ex_eq @exGo_tup @hst Zi))); try ((first | refine callL cL ?_ | refine callB cL ?_); repeat (first | refine Zo (Z8 tis fls @h0 @eF @ex_eq @exGo_tup @hst Zi) ?_ | refine .inl ⟨by kernel_rfl, ?_⟩ | exact .inl (by show _ = _; kernel_rfl) | exact Zc (Z8 tis fls @h0 @eF @ex_eq @exGo_tup @hst Zi))); try ((first | refine callL cW ?_ | refine callB cW ?_); repeat (first | refine Zo (Z8 tis fls @h0 @eF @ex_eq @exGo_tup @hst Zi) ?_ | refine .inl ⟨by kernel_rfl, ?_⟩ | exact .inl (by show _ = _; kernel_rfl) | exact Zc (Z8 tis fls @h0 @eF @ex_eq @exGo_tup @hst Zi))))
   rw [hsum]
   exact beq_self_eq_true _
  | false =>
   have hbu : x.buf = [] := by
    rcases sb with h | h
    ·rw [hst] at h; exact absurd h (by decide)
    ·exact h
   rw [hbu] at hsum
   refine fits_of_code [2] [] [0, 2, 3, 4, 5, 6, 9, 38, 41] func3 rfl rfl rfl (by rfl) (by show 1 ≤ 79; decide) (by rfl) (by rfl) (by show 0 ≤ 1; decide) (by rfl) (run_of ?_)
   (repeat (first | refine Zo (Z9 tis fls @h0 @eF @ex_eq @exGo_tup @hst @hbu Zi) ?_ | refine .inl ⟨by kernel_rfl, ?_⟩ | exact .inl (by show _ = _; kernel_rfl) | exact Zc (Z9 tis fls @h0 @eF @ex_eq @exGo_tup @hst @hbu Zi)); try ((first | refine callL cD ?_ | refine callB cD ?_); repeat (first | refine Zo (Z9 tis fls @h0 @eF @ex_eq @exGo_tup @hst @hbu Zi) ?_ | refine .inl ⟨by kernel_rfl, ?_⟩ | exact .inl (by show _ = _; kernel_rfl) | exact Zc (Z9 tis fls @h0 @eF @ex_eq @exGo_tup @hst @hbu Zi))); try ((first | refine callL cE ?_ | refine callB cE ?_); repeat (first | refine Zo (Z9 tis fls @h0 @eF @ex_eq @exGo_tup @hst @hbu Zi) ?_ | refine .inl ⟨by kernel_rfl, ?_⟩ | exact .inl (by show _ = _; kernel_rfl) | exact Zc (Z9 tis fls @h0 @eF @ex_eq @exGo_tup @hst @hbu Zi))); try ((first | refine callL cS ?_ | refine callB cS ?_); repeat (first | refine Zo (Z9 tis fls @h0 @eF @ex_eq @exGo_tup @hst @hbu Zi) ?_ | refine .inl ⟨by kernel_rfl, ?_⟩ | exact .inl (by show _ = _; kernel_rfl) | exact Zc (Z9 tis fls @h0 @eF @ex_eq @exGo_tup @hst @hbu Zi))); try ((first | refine callL cF ?_ | refine callB cF ?_); repeat (first | refine Zo (Z9 tis fls @h0 @eF @ex_eq @exGo_tup @hst @hbu Zi) ?_ | refine .inl ⟨by kernel_rfl, ?_⟩ | exact .inl (by show _ = _; kernel_rfl) | exact Zc (Z9 tis fls @h0 @eF @ex_eq @exGo_tup @hst @hbu Zi))); try ((first | refine callL cW ?_ | refine callB cW ?_); repeat (first | refine Zo (Z9 tis fls @h0 @eF @ex_eq @exGo_tup @hst @hbu Zi) ?_ | refine .inl ⟨by kernel_rfl, ?_⟩ | exact .inl (by show _ = _; kernel_rfl) | exact Zc (Z9 tis fls @h0 @eF @ex_eq @exGo_tup @hst @hbu Zi))); try ((first | refine callL cX ?_ | refine callB cX ?_); repeat (first | refine Zo (Z9 tis fls @h0 @eF @ex_eq @exGo_tup @hst @hbu Zi) ?_ | refine .inl ⟨by kernel_rfl, ?_⟩ | exact .inl (by show _ = _; kernel_rfl) | exact Zc (Z9 tis fls @h0 @eF @ex_eq @exGo_tup @hst @hbu Zi))); try ((first | refine callL cY ?_ | refine callB cY ?_); repeat (first | refine Zo (Z9 tis fls @h0 @eF @ex_eq @exGo_tup @hst @hbu Zi) ?_ | refine .inl ⟨by kernel_rfl, ?_⟩ | exact .inl (by show _ = _; kernel_rfl) | exact Zc (Z9 tis fls @h0 @eF @ex_eq @exGo_tup @hst @hbu Zi))); try ((first | refine callL cZ ?_ | refine callB cZ ?_); repeat (first | refine Zo (Z9 tis fls @h0 @eF @ex_eq @exGo_tup @hst @hbu Zi) ?_ | refine .inl ⟨by kernel_rfl, ?_⟩ | exact .inl (by show _ = _; kernel_rfl) | exact Zc (Z9 tis fls @h0 @eF @ex_eq @exGo_tup @hst @hbu Zi))); try ((first | refine callL cO ?_ | refine callB cO ?_); repeat (first | refine Zo (Z9 tis fls @h0 @eF @ex_eq @exGo_tup @hst @hbu Zi) ?_ | refine .inl ⟨by kernel_rfl, ?_⟩ | exact .inl (by show _ = _; kernel_rfl) | exact Zc (Z9 tis fls @h0 @eF @ex_eq @exGo_tup @hst @hbu Zi))); try ((first | refine callL cK ?_ | refine callB cK ?_); repeat (first | refine Zo (Z9 tis fls @h0 @eF @ex_eq @exGo_tup @hst @hbu Zi) ?_ | refine .inl ⟨by kernel_rfl, ?_⟩ | exact .inl (by show _ = _; kernel_rfl) | exact Zc (Z9 tis fls @h0 @eF @ex_eq @exGo_tup @hst @hbu Zi))); try ((first | refine callL cL ?_ | refine callB cL ?_); repeat (first | refine Zo (Z9 tis fls @h0 @eF @ex_eq @exGo_tup @hst @hbu Zi) ?_ | refine .inl ⟨by kernel_rfl, ?_⟩ | exact .inl (by show _ = _; kernel_rfl) | exact Zc (Z9 tis fls @h0 @eF @ex_eq @exGo_tup @hst @hbu Zi))); try ((first | refine callL cW ?_ | refine callB cW ?_); repeat (first | refine Zo (Z9 tis fls @h0 @eF @ex_eq @exGo_tup @hst @hbu Zi) ?_ | refine .inl ⟨by kernel_rfl, ?_⟩ | exact .inl (by show _ = _; kernel_rfl) | exact Zc (Z9 tis fls @h0 @eF @ex_eq @exGo_tup @hst @hbu Zi))))
   have e9 : f.base + f.buf.length = x.base := by simpa using hsum.symm
   rw [e9]
   exact beq_self_eq_true _
theorem own : ownKnob prog.godebug = none := by kernel_rfl
theorem laidOut : laidOutB prog = true := by kernel_rfl
theorem all_map {α : Type} (f : α → AV) : ∀ xs : List AV, (∀ y ∈ xs, ∃ i, y = f i) → ∃ is : List α, xs = is.map f
 | [], _ => ⟨[], rfl⟩
 | y :: r, h => by
  obtain ⟨i, rfl⟩ := h y (List.mem_cons_self ..)
  obtain ⟨is, rfl⟩ := all_map f r (fun z hz => h z (List.mem_cons_of_mem _ hz))
  exact ⟨i :: is, rfl⟩
theorem typ_byte {n : Nat} {x : AV} (h : Typed prog n 5 x) : ∃ v : UInt8, x = .int .u8 v.toNat := by
 cases n with
 | zero => exact h.elim
 | succ n =>
  simp only [Typed, underlying5] at h
  obtain ⟨v, rfl, hw⟩ := h
  simp [Lit.wf, IntKind.min, IntKind.max, IntKind.bits, IntKind.signed] at hw
  refine ⟨UInt8.ofNat v.toNat, ?_⟩
  rw [UInt8.toNat_ofNat']
  congr 1
  omega
theorem typ_code {n : Nat} {x : AV} (h : Typed prog n 22 x) : ∃ c : List UInt8, x = .sl false 1 (bytesA c) ∧ c.length ≤ 9223372036854775807 := by
 cases n with
 | zero => exact h.elim
 | succ n =>
  have co : prog.cellsOf 5 = 1 := by kernel_rfl
  simp only [Typed, underlying22, co] at h
  obtain ⟨xs, rfl, hl, hf⟩ := h
  obtain ⟨p, rfl⟩ := all_map (fun v : UInt8 => AV.int .u8 v.toNat) xs (fun y hy => typ_byte (hf y hy))
  exact ⟨p, rfl, by simpa [maxLen] using hl⟩
end Go.Proofs.YtikpjpinkkllaaaGreat.U
