/- What functions of the program answer, on values without memory (part 3): conditions stand at each theorem. -/
import Derived.Test.YtikpjpinkkllaaaGreatRows
import Derived.Test.YtikpjpinkkllaaaGreatLFeedU2
set_option linter.unusedVariables false
set_option linter.unusedSimpArgs false
set_option maxRecDepth 100000
set_option maxHeartbeats 4000000
namespace Go.Proofs.YtikpjpinkkllaaaGreat.U
open Go Go.RowKit Go.Proofs Go.Proofs.YtikpjpinkkllaaaGreat.Am AV Go.Proofs.Tryz
def scan : Nat → Feed → Int × Int
 | 0, g => (g.rule, g.to)
 | k + 1, g => if (g.buf.length : Int) ≤ g.at_ ∨ toF g < 0 then ((markF g).rule, (markF g).to) else scan k (stepF g)
def withRT (g : Feed) (x : Int × Int) : Feed := { g with rule := x.1, to := x.2 }
theorem mark_with (g : Feed) : withRT g ((markF g).rule, (markF g).to) = markF g := by
 unfold markF withRT
 split
 ·split <;> rfl
 ·rfl
theorem cut_with {g h : Feed} {x : Int × Int} (hr : x.1 ≠ -1) (h1 : g.prog = h.prog) (h2 : g.buf = h.buf) (h3 : g.base = h.base) (h4 : g.out = h.out) (h5 : g.stuck = h.stuck) : cutF (withRT g x) = cutF (withRT h x) := by
 obtain ⟨a, b, c, d, e, f, k, l, m⟩ := g
 obtain ⟨a', b', c', d', e', f', k', l', m'⟩ := h
 simp only at h1 h2 h3 h4 h5
 subst h1 h2 h3 h4 h5
 unfold cutF withRT
 simp only [if_neg hr]
theorem scan_end {k : Nat} {g : Feed} (h : FI g) (hs : g.stuck = false) (hb : g.buf ≠ []) (hk : (g.buf.length : Int) - g.at_ < k) :
  ((scan k g).1 = -1 → (endF (goF g)).out = g.out ∧ (endF (goF g)).base = g.base) ∧ ((scan k g).1 ≠ -1 → endF (goF g) = endF (goF (cutF (withRT g (scan k g))))) := by
 induction k generalizing g with
 | zero => have := h.at1; omega
 | succ k ih =>
  have hm := markF_same g
  have h1 := h.at1
  by_cases hl : (g.buf.length : Int) ≤ g.at_
  ·have e : scan (k + 1) g = ((markF g).rule, (markF g).to) := if_pos (.inl hl)
   rw [e, mark_with, goF_end hs hl]
   have hst : (markF g).stuck = false := by rw [hm.2.2.2.2.2.2]; exact hs
   rw [endF_step h.mark hst (by rw [hm.2.1]; exact hb)]
   refine ⟨fun hr => ?_, fun _ => rfl⟩
   have ec : cutF (markF g) = { markF g with stuck := true } := if_pos hr
   rw [ec, goF_stuck rfl, endF_stop (.inl rfl)]
   exact ⟨hm.2.2.2.2.2.1, hm.2.2.1⟩
  ·by_cases ht : toF g < 0
   ·have e : scan (k + 1) g = ((markF g).rule, (markF g).to) := if_pos (.inr ht)
    rw [e, mark_with, goF_step h hs (by omega)]
    have e2 : stepF g = cutF (markF g) := if_pos ht
    rw [e2]
    refine ⟨fun hr => ?_, fun _ => rfl⟩
    have ec : cutF (markF g) = { markF g with stuck := true } := if_pos hr
    rw [ec, goF_stuck rfl, endF_stop (.inl rfl)]
    exact ⟨hm.2.2.2.2.2.1, hm.2.2.1⟩
   ·have e : scan (k + 1) g = scan k (stepF g) := if_neg (by rintro (h | h); exact hl h; exact ht h)
    have e2 : stepF g = { markF g with at_ := g.at_ + 1, pc := toF g } := if_neg ht
    have i := h.step (by omega)
    have := ih i (by rw [e2]; simp only; rw [hm.2.2.2.2.2.2]; exact hs) (by rw [e2]; simp only; rw [hm.2.1]; exact hb) (by rw [e2]; simp only; rw [hm.2.1]; omega)
    rw [e, goF_step h hs (by omega)]
    refine ⟨fun hr => ?_, fun hr => ?_⟩
    ·have := this.1 hr
     have q1 : (stepF g).out = g.out := by rw [e2]; exact hm.2.2.2.2.2.1
     have q2 : (stepF g).base = g.base := by rw [e2]; exact hm.2.2.1
     rw [q1, q2] at this; exact this
    ·rw [this.2 hr]
     rw [cut_with hr (g := stepF g) (h := g)] <;> rw [e2]
     ·exact hm.1
     ·exact hm.2.1
     ·exact hm.2.2.1
     ·exact hm.2.2.2.2.2.1
     ·exact hm.2.2.2.2.2.2
theorem atR_goes {p : List Ins} (hp : progB p = true) {t : List UInt8} {a : Nat} {b r : Int} {e i : Nat} : ∀ (N k q m : Nat), q < p.length → p.length ≤ N + q → Alive p t.length k q i →
  (¬ goesP p b N q < 0 → ∃ k' m', Alive p t.length k' (goesP p b N q).toNat i ∧ doorB p (goesP p b N q).toNat = true ∧ atR p t a k q i b r e m = atR p t a k' (goesP p b N q).toNat i b r e m') ∧
  (goesP p b N q < 0 → ∃ m', atR p t a k q i b r e m = (r, e, m')) := by
 intro N
 induction N with
 | zero => intro k q m h1 h2 _; omega
 | succ N ih =>
  intro k q m h1 h2 hA
  rw [goesP_at h1]
  by_cases h3 : p[q].op = 3
  ·rw [if_pos h3]
   obtain ⟨k, rfl⟩ := alive_pos hp hA
   obtain ⟨A1, d0, A2⟩ := alive_if hp hA h1 h3
   have hn := last_stop hp h1 (by omega)
   rw [atR_at h1, if_neg (show ¬ p[q].op = 1 by omega), if_neg (show ¬ p[q].op = 2 by omega), if_pos h3]
   by_cases hb : p[q].a ≤ b ∧ b ≤ p[q].b
   ·rw [if_pos hb, if_pos hb]
    have hin := (progB_parts hp).2.2.2 _ h1
    rw [insB_at h1] at hin
    simp only [h3, show ((3 : Int) == 1) = false from rfl, show ((3 : Int) == 2) = false from rfl, show ((3 : Int) == 4) = false from rfl, beq_self_eq_true, Bool.false_and, Bool.or_false, Bool.false_or, Bool.true_and, Bool.and_eq_true] at hin
    exact ⟨fun _ => ⟨k, m + 1, A2, (doorI_at hin.2).2.2, rfl⟩, fun h => absurd h (by omega)⟩
   ·rw [if_neg hb, if_neg hb]
    exact ih k (q + 1) (m + 1) hn (by omega) A1
  ·rw [if_neg h3]
   by_cases hd : doorB p q = true
   ·rw [if_pos hd]
    exact ⟨fun _ => ⟨k, m, by simpa using hA, by simpa using hd, by simp⟩, fun h => absurd h (by omega)⟩
   ·rw [if_neg hd]
    refine ⟨fun h => absurd (by decide) h, fun _ => ?_⟩
    obtain ⟨k, rfl⟩ := alive_pos hp hA
    have hin := (progB_parts hp).2.2.2 _ h1
    have hd0 : doorB p q = false := by simpa using hd
    rw [insB_at h1] at hin
    rw [doorB_at h1] at hd0
    have n2 : p[q].op ≠ 2 := fun e => by rw [e] at hd0; simp at hd0
    have n1 : p[q].op ≠ 1 := fun e => by
     rw [e] at hin
     simp only [beq_self_eq_true, Bool.true_and, show ((1 : Int) == 2) = false from rfl, Bool.false_or, show ((1 : Int) == 4) = false from rfl, show ((1 : Int) == 3) = false from rfl, Bool.false_and, Bool.or_false, Bool.and_eq_true] at hin
     exact hd hin.2
    rw [atR_at h1, if_neg n1, if_neg n2, if_neg h3]
    exact ⟨m + 1, rfl⟩
theorem atR_scan {p : List Ins} (hp : progB p = true) {t : List UInt8} {n : Nat} : ∀ (s : Nat) (g : Feed) (k K : Nat) (b : Int) (e m : Nat), FI g → g.prog = p → g.buf = t.drop n → n ≤ t.length → (e : Int) = n + g.to → (g.buf.length : Int) - g.at_ < s → (g.buf.length : Int) - g.at_ < k → Alive p t.length K g.pc.toNat (n + g.at_.toNat) →
  (atR p t n K g.pc.toNat (n + g.at_.toNat) b g.rule e m).1 = (scan k g).1 ∧ ((atR p t n K g.pc.toNat (n + g.at_.toNat) b g.rule e m).2.1 : Int) = n + (scan k g).2 := by
 intro s
 induction s with
 | zero => intro g k K b e m h _ _ _ _ h1; have := h.at1; omega
 | succ s ih =>
  intro g k K b e m h hpg hbuf hn he h1 h2 hA
  have hat := h.at1
  obtain ⟨k, rfl⟩ : ∃ j, k = j + 1 := ⟨k - 1, by omega⟩
  have hm := markF_same g
  have hbl : g.buf.length = t.length - n := by rw [hbuf]; simp
  -- the mark
  have key : ∃ (K' e' m' : Nat), Alive p t.length (K' + 1) (getP g) (n + g.at_.toNat) ∧ (e' : Int) = n + (markF g).to ∧ getP g < p.length ∧ (p.getD (getP g) default).op = 2 ∧
    atR p t n K g.pc.toNat (n + g.at_.toNat) b g.rule e m = atR p t n (K' + 1) (getP g) (n + g.at_.toNat) b (markF g).rule e' m' := by
   obtain ⟨hq, hg⟩ := h.get
   have hq' : g.pc.toNat < p.length := by rw [← hpg]; exact hq
   have ep : g.prog[g.pc.toNat] = p[g.pc.toNat] := by simp only [hpg]
   rcases hg with ⟨g1, g2, ⟨g3, g4⟩, g5⟩ | ⟨g1, g2⟩
   ·obtain ⟨K, rfl⟩ := alive_pos hp hA
    rw [ep] at g1
    have A1 := alive_mark hp hA hq' g1
    obtain ⟨K, rfl⟩ := alive_pos hp A1
    have hq2 : g.pc.toNat + 1 < p.length := by rw [← hpg]; exact g3
    have e4 : p[g.pc.toNat + 1].op = 2 := by simp only [hpg] at g4; exact g4
    rw [atR_at hq', if_pos g1, g2]
    by_cases ha : 0 < g.at_
    ·have e1 : markF g = { g with rule := p[g.pc.toNat].a, to := g.at_ } := by
      unfold markF; rw [List.getElem?_eq_getElem hq, ep]; simp [g1, ha]
     rw [if_pos (by omega), if_pos (by omega), e1]
     exact ⟨K, n + g.at_.toNat, m + 1, A1, by simp only; omega, hq2, by rw [alive_get hq2]; exact e4, rfl⟩
    ·have e1 : markF g = g := by
      unfold markF; rw [List.getElem?_eq_getElem hq, ep]; simp [ha]
     rw [if_neg (by omega), if_neg (by omega), e1]
     exact ⟨K, e, m + 1, A1, he, hq2, by rw [alive_get hq2]; exact e4, rfl⟩
   ·rw [ep] at g1
    obtain ⟨K, rfl⟩ := alive_pos hp hA
    have e1 : markF g = g := by
     unfold markF; rw [List.getElem?_eq_getElem hq, ep]; simp [g1]
    rw [e1, g2]
    exact ⟨K, e, m, hA, he, hq', by rw [alive_get hq']; exact g1, rfl⟩
  obtain ⟨K', e', m', A, he', hq, ho, ea⟩ := key
  rw [alive_get hq] at ho
  rw [ea, atR_at hq, if_neg (by omega), if_pos ho]
  by_cases hl : (g.buf.length : Int) ≤ g.at_
  ·rw [if_pos (by omega)]
   have es : scan (k + 1) g = ((markF g).rule, (markF g).to) := if_pos (.inl hl)
   rw [es]; exact ⟨rfl, he'⟩
  ·rw [if_neg (by omega)]
   have A2 := alive_byte hp A hq ho (by omega)
   have hb : t.getD (n + g.at_.toNat) 0 = g.buf.getD g.at_.toNat 0 := by
    rw [hbuf]; simp only [List.getD, List.getElem?_drop]
   have et : toF g = goesP p ((t.getD (n + g.at_.toNat) 0).toNat : Int) p.length (getP g + 1) := by
    rw [hb]; unfold toF byteF; rw [hpg]
   obtain ⟨c1, c2⟩ := atR_goes hp (t := t) (a := n) (b := ((t.getD (n + g.at_.toNat) 0).toNat : Int)) (r := (markF g).rule) (e := e') (i := n + g.at_.toNat + 1) p.length K' (getP g + 1) (m' + 1) A2.1 (by omega) A2
   rw [← et] at c1 c2
   by_cases ht : toF g < 0
   ·obtain ⟨m2, c2⟩ := c2 ht
    have es : scan (k + 1) g = ((markF g).rule, (markF g).to) := if_pos (.inr ht)
    rw [es, c2]; exact ⟨rfl, he'⟩
   ·obtain ⟨K2, m2, A3, _, c1⟩ := c1 ht
    have es : scan (k + 1) g = scan k (stepF g) := if_neg (by rintro (h | h); exact hl h; exact ht h)
    have e2 : stepF g = { markF g with at_ := g.at_ + 1, pc := toF g } := if_neg ht
    have hi := h.step (by omega)
    have ei : n + g.at_.toNat + 1 = n + (stepF g).at_.toNat := by rw [e2]; simp only; omega
    have epc : (toF g).toNat = (stepF g).pc.toNat := by rw [e2]
    have er : (markF g).rule = (stepF g).rule := by rw [e2]
    rw [c1, es, ei, epc, er]
    rw [ei, epc] at A3
    refine ih (stepF g) k K2 _ e' m2 hi (by rw [e2]; simp only; rw [hm.1]; exact hpg) (by rw [e2]; simp only; rw [hm.2.1]; exact hbuf) hn (by rw [he', e2]) ?_ ?_ A3
    ·rw [e2]; simp only; rw [hm.2.1]; omega
    ·rw [e2]; simp only; rw [hm.2.1]; omega
structure Fresh (f : Feed) : Prop where
 fb : FB f
 st : f.stuck = false
 pc : f.pc = 0
 at_ : f.at_ = 0
 r : f.rule = -1
 to : f.to = 0
theorem end_tok {p : List Ins} (hp : progB p = true) {t : List UInt8} : ∀ s n f, t.length - n < s → Fresh f → f.prog = p → n ≤ t.length → f.buf = t.drop n → f.base = n →
  (endF (goF f)).out = f.out ++ (tokR p t (t.length - n) n).1 ∧ (endF (goF f)).base = (tokR p t (t.length - n) n).2 := by
 intro s
 induction s with
 | zero => intro n f h; omega
 | succ s ih =>
  intro n f hs hf hpf hn hbuf hbase
  by_cases hl : t.length ≤ n
  ·have hb : f.buf = [] := by rw [hbuf]; exact List.drop_eq_nil_of_le hl
   have e0 : goF f = markF f := goF_end hf.st (by rw [hb, hf.at_]; simp)
   have hm := markF_same f
   rw [tokR_e (.inl hl), e0, endF_stop (.inr (by rw [hm.2.1]; exact hb)), hm.2.2.2.2.2.1, hm.2.2.1, hbase]
   simp
  ·have hbl : f.buf.length = t.length - n := by rw [hbuf]; simp
   have hb : f.buf ≠ [] := fun e => by rw [e] at hbl; simp at hbl; omega
   obtain ⟨s1, s2⟩ := scan_end (k := f.buf.length + 1) hf.fb.fi hf.st hb (by rw [hf.at_]; omega)
   have hA := alive_0 hp (T := t.length) (a := n) hn
   obtain ⟨q1, q2⟩ := atR_scan hp (t := t) (n := n) (f.buf.length + 1) f (f.buf.length + 1) ((t.length - n + 1) * p.length) (-1) n 0 hf.fb.fi hpf hbuf hn (by rw [hf.to]; omega) (by rw [hf.at_]; omega) (by rw [hf.at_]; omega) (by rw [hf.pc, hf.at_]; exact hA)
   rw [hf.pc, hf.at_, hf.r] at q1 q2
   have ea : atR p t n ((t.length - n + 1) * p.length) (0 : Int).toNat (n + (0 : Int).toNat) (-1) (-1) n 0 = atP p t n := rfl
   rw [ea] at q1 q2
   obtain ⟨hB, _⟩ := atP_b hp hn
   have hr1 := hB.r1
   by_cases hr : (atP p t n).1 < 0
   ·rw [tokR_e (.inr hr)]
    have := s1 (by omega)
    rw [this.1, this.2, hbase]; simp
   ·rw [s2 (by omega)]
    have hlt := hB.iff.1 (by omega)
    have hhi := hB.hi
    rw [tokR_s hp (by omega) (by omega)]
    generalize scan (f.buf.length + 1) f = x at *
    have ec : cutF (withRT f x) = { f with out := f.out ++ [⟨x.1, f.base, f.base + x.2⟩], base := f.base + x.2, buf := f.buf.drop x.2.toNat, pc := 0, at_ := 0, to := 0, rule := -1 } := by
     unfold cutF withRT
     simp only [if_neg (show ¬ x.1 = -1 by omega)]
    have h0 : 0 < x.2 ∧ x.2 ≤ f.buf.length := by omega
    have e1 : f.base + x.2 = ((atP p t n).2.1 : Nat) := by omega
    have e2 : f.buf.drop x.2.toNat = t.drop (atP p t n).2.1 := by
     rw [hbuf, List.drop_drop]; congr 1; omega
    have e3 : x.1 = (atP p t n).1 := q1.symm
    have hf2 : Fresh (cutF (withRT f x)) := by
     have a := hf.fb
     have hfb : FB (withRT f x) → FB (cutF (withRT f x)) := fun h => h.cut
     rw [ec]
     refine ⟨⟨⟨a.fi.prog, doorI_0 a.fi.prog, ⟨by simp, by simp⟩, ⟨by simp, by simp⟩, ⟨by simp, by simp⟩, by simp, ?_, ?_⟩, fun _ => rfl, ?_⟩, hf.st, rfl, rfl, rfl, rfl⟩
     ·have := a.fi.base; simp only [List.length_drop]; omega
     ·have := a.fi.out; simp only [List.length_append, List.length_singleton]; omega
     ·have := hB.r2
      simp only [outEnd_app, a.oe, outEnd]
      rw [if_pos ⟨trivial, by omega, by omega, by omega⟩]
    have := ih (atP p t n).2.1 (cutF (withRT f x)) (by omega) hf2 (by rw [ec]; exact hpf) hhi (by rw [ec]; exact e2) (by rw [ec]; exact e1)
    rw [this.1, this.2]
    refine ⟨?_, rfl⟩
    rw [ec]
    simp only [List.append_assoc, List.cons_append, List.nil_append]
    rw [e1, e3, hbase]
theorem all_run {p : List Ins} {cs : List (List UInt8)} (hl : cs.flatten.length ≤ 200) : (allP p cs).out = (runT p cs.flatten).1 ∧ (allP p cs).base = (runT p cs.flatten).2 := by
 unfold allP runT
 by_cases hp : progB p = true
 ·rw [if_pos hp, if_pos ⟨hp, hl⟩]
  obtain ⟨a, b⟩ := open_fb hp
  have e0 : (feedOpenP p).base + (feedOpenP p).buf.length = 0 := by unfold feedOpenP; rw [if_pos hp]; rfl
  have es : (feedOpenP p).stuck = false := by unfold feedOpenP; rw [if_pos hp]
  obtain ⟨c, d⟩ := push_all cs a b (by omega)
  have hx := (pushP_on a cs.flatten).1
  obtain ⟨o1, o2, _⟩ := (Sim.end_ c hx d).obs
  rw [o1, o2]
  rw [pushP_eq a es (by omega)]
  have hfr : Fresh (ext (feedOpenP p) cs.flatten) := by
   refine ⟨a.more _ (by omega), es, ?_, ?_, ?_, ?_⟩ <;> unfold ext feedOpenP <;> rw [if_pos hp]
  have hO := (On.refl (a.more cs.flatten (by omega))).go
  have ee : endP (goF (ext (feedOpenP p) cs.flatten)) = endF (goF (ext (feedOpenP p) cs.flatten)) := by
   have : endP (goF (ext (feedOpenP p) cs.flatten)) = endF (goF (goF (ext (feedOpenP p) cs.flatten))) := if_pos (feedB_iff.2 hO.fb)
   rw [this, go_go hfr.fb.fi]
  rw [ee]
  have := end_tok hp (t := cs.flatten) (cs.flatten.length + 1) 0 _ (by omega) hfr (by unfold ext feedOpenP; rw [if_pos hp]) (Nat.zero_le _) (by unfold ext feedOpenP; rw [if_pos hp]; simp) (by unfold ext feedOpenP; rw [if_pos hp]; rfl)
  rw [this.1, this.2]
  unfold ext feedOpenP
  rw [if_pos hp]
  exact ⟨rfl, rfl⟩
 ·rw [if_neg hp, if_neg (fun h => hp h.1)]
  exact ⟨rfl, rfl⟩
theorem allP_run {p : List Ins} {cs : List (List UInt8)} {t : List UInt8} (h : cs.flatten = t) (hl : t.length ≤ 200) : (allP p cs).out = (runT p t).1 ∧ (allP p cs).base = (runT p t).2 := by
 subst h; exact all_run hl
theorem runT_le (p : List Ins) (t : List UInt8) : (runT p t).1.length ≤ 200 ∧ (runT p t).2 ≤ 200 := by
 unfold runT
 split
 ·rename_i h
  obtain ⟨a, b, c⟩ := tokR_len h.1 (t := t) t.length 0 (Nat.zero_le _)
  omega
 ·simp
theorem fits_sameTok (p q : List Token) (hp : p.length ≤ 1099511627776) : Fits prog 42 [.sl false 3 (p.map eToken), .sl false 3 (q.map eToken)] (.bool (decide (p = q))) [] := by
 refine fits_of_code [4] [] [0, 1, 4, 5, 10, 12, 13, 14, 24] func42 rfl rfl rfl (by rfl) (by show 2 ≤ 26; decide) (by rfl) (by rfl) (by show 0 ≤ 2; decide) (by rfl) (run_of ?_)
 by_cases hl : p.length = q.length
 case neg =>
  have h1 : ¬ (p.length : Int) = q.length := by omega
  have h2 : decide (p = q) = false := decide_eq_false (fun e => hl (by rw [e]))
  (repeat (first | refine Zo (Z4 tis @h1 @h2 Zi) ?_ | refine .inl ⟨by kernel_rfl, ?_⟩ | exact .inl (by show _ = _; kernel_rfl) | exact Zc (Z4 tis @h1 @h2 Zi)))
 have h1 : (p.length : Int) = q.length := by omega
 (first | refine Zo (Z2 tis @h1) ?_ | exact Zc (Z2 tis @h1))
 refine run_loop (α := Nat) (fun i => i ≤ p.length ∧ Upto p q i) (fun i => [(0, .sl false 3 (p.map eToken)), (1, .sl false 3 (q.map eToken)), (12, .int .i64 p.length), (13, .int .i64 i)]) (fun i => p.length - i) 0 ⟨Nat.zero_le _, upto_0 _ _⟩ ?_ ?_
 ·(first | refine Zo (Z2 tis @h1) ?_ | exact Zc (Z2 tis @h1))
 ·rintro i ⟨hi', hb⟩
  by_cases hi : i < p.length
  ·have hi2 : i < q.length := by omega
   have key : ∀ x y : Token, (x.rule = y.rule ∧ x.frm = y.frm ∧ x.to = y.to) ↔ x = y := fun x y => by cases x; cases y; simp
   by_cases he : p[i] = q[i]
   ·have e1 : p[i].rule = q[i].rule := by rw [he]
    have e2 : p[i].frm = q[i].frm := by rw [he]
    have e3 : p[i].to = q[i].to := by rw [he]
    (repeat (first | refine Zo (Z7 tis fls eToken.eq_1 @e1 @e2 @e3 Zi) ?_ | refine .inl ⟨by kernel_rfl, ?_⟩ | exact .inl (by show _ = _; kernel_rfl) | exact Zc (Z7 tis fls eToken.eq_1 @e1 @e2 @e3 Zi)))
    exact round_normal (i + 1) ⟨by omega, upto_s hb hi hi2 he⟩ (by (first | refine Zo tis ?_ | exact Zc tis)) (by show p.length - (i + 1) < p.length - i; omega)
   ·have h2 : decide (p = q) = false := decide_eq_false (fun e => he (by subst e; rfl))
    by_cases e1 : p[i].rule = q[i].rule
    ·by_cases e2 : p[i].frm = q[i].frm
     ·have e3 : ¬ p[i].to = q[i].to := fun e3 => he ((key _ _).1 ⟨e1, e2, e3⟩)
      (repeat (first | refine Zo (Z8 tis fls eToken.eq_1 @e1 @e2 @e3 @h2 Zi) ?_ | refine .inl ⟨by kernel_rfl, ?_⟩ | exact .inl (by show _ = _; kernel_rfl) | exact Zc (Z8 tis fls eToken.eq_1 @e1 @e2 @e3 @h2 Zi)))
     ·(repeat (first | refine Zo (Z7 tis fls eToken.eq_1 @e1 @e2 @h2 Zi) ?_ | refine .inl ⟨by kernel_rfl, ?_⟩ | exact .inl (by show _ = _; kernel_rfl) | exact Zc (Z7 tis fls eToken.eq_1 @e1 @e2 @h2 Zi)))
    ·(repeat (first | refine Zo (Z6 tis fls eToken.eq_1 @e1 @h2 Zi) ?_ | refine .inl ⟨by kernel_rfl, ?_⟩ | exact .inl (by show _ = _; kernel_rfl) | exact Zc (Z6 tis fls eToken.eq_1 @e1 @h2 Zi)))
  ·obtain rfl : i = p.length := by omega
   have h2 : decide (p = q) = true := decide_eq_true (upto_e hb hl)
   (repeat (first | refine Zo (Z4 tis fls @h2 Zi) ?_ | refine .inl ⟨by kernel_rfl, ?_⟩ | exact .inl (by show _ = _; kernel_rfl) | exact Zc (Z4 tis fls @h2 Zi)))
theorem fits_lexSame (p q : List Token) (hp : p.length ≤ 1099511627776) : Fits prog 17 [.sl false 3 (p.map eToken), .sl false 3 (q.map eToken)] (.bool (decide (p = q))) [] := by
 have c := fits_sameTok p q hp
 refine fits_of_code [4] [] [0, 1, 4] func17 rfl rfl rfl (by rfl) (by show 2 ≤ 8; decide) (by rfl) (by rfl) (by show 0 ≤ 2; decide) (by rfl) (run_of ?_)
 (repeat (first | refine callL c ?_ | refine callB c ?_ | refine Zo (Z3 tis fls Zi) ?_ | refine .inl ⟨by kernel_rfl, ?_⟩ | exact .inl (by show _ = _; kernel_rfl) | exact Zc (Z3 tis fls Zi)))
theorem fits_sFeedAll (p : List Ins) (cs : List (List UInt8)) (hp : p.length ≤ 1048576) (hc : cs.length ≤ 1048576) (hcs : ∀ c ∈ cs, c.length ≤ 1048576) : Fits prog 20 [.sl false 4 (p.map eIns), .sl false 1 (cs.map eStr)] (.tup [.sl true 3 ((allP p cs).out.map eToken), .int .i64 (allP p cs).base]) [] := by
 have c1 := fits_sProgOk p (by omega)
 have c2 := fits_sFeedOpen p (by omega)
 unfold allP
 cases h1 : progB p with
 | false =>
  refine fits_of_code [4, 5] [] [0, 1, 4, 5, 6, 7, 10, 17] func20 rfl rfl rfl (by rfl) (by show 2 ≤ 34; decide) (by rfl) (by rfl) (by show 0 ≤ 2; decide) (by rfl) (run_of ?_)
  refine Zo tis ?_
  refine callB c1 ?_
  exact Zc (Z4 tis @h1 feedZ.eq_1 @retW2)
 | true =>
  have hb0 : Bd (feedOpenP p) := by
   unfold feedOpenP; rw [if_pos h1]; simp [Bd]; exact hp
  generalize feedOpenP p = f at *
  rw [if_pos rfl]
  unfold eFeed at c2
  refine fits_of_code [4, 5] [] [0, 1, 4, 5, 6, 7, 10, 17] func20 rfl rfl rfl (by rfl) (by show 2 ≤ 34; decide) (by rfl) (by rfl) (by show 0 ≤ 2; decide) (by rfl) (run_of ?_)
  refine Zo tis ?_
  refine callB c1 ?_
  refine Zo (Z2 tis @h1) ?_
  refine callB c2 ?_
  refine Zo (Z2 tis fls) ?_
  refine run_loop (α := Nat) (fun i => i ≤ cs.length) (fun i => [(6, .box (.agg [.sl true 4 (((cs.take i).foldl pushP f).prog.map eIns), .str ((cs.take i).foldl pushP f).buf, .int .i64 ((cs.take i).foldl pushP f).base, .int .i64 ((cs.take i).foldl pushP f).pc, .int .i64 ((cs.take i).foldl pushP f).at_, .int .i64 ((cs.take i).foldl pushP f).rule, .int .i64 ((cs.take i).foldl pushP f).to, .sl true 3 (((cs.take i).foldl pushP f).out.map eToken), .bool ((cs.take i).foldl pushP f).stuck])), (1, .sl false 1 (cs.map eStr)), (7, .int .i64 i)]) (fun i => cs.length - i) 0 (Nat.zero_le _) ?_ ?_
  ·exact Zc (Z2 tis @LLfolnil)
  ·intro i hi'
   have hb1 := bd_fold (cs.take i) hb0
   by_cases hi : i < cs.length
   ·have hw := hcs _ (List.getElem_mem hi)
    have cP := fits_sFeedPush ((cs.take i).foldl pushP f) cs[i] hb1.1 hb1.2.1 hb1.2.2 hw
    rw [fold_at hi] at cP
    have hn := hb1
    generalize hg : (cs.take i).foldl pushP f = g at *
    unfold eFeed at cP
    refine Zo (Z3 tis fls eStr.eq_1) ?_
    refine .inl ⟨by kernel_rfl, ?_⟩
    refine callL cP ?_
    refine Zo (Z3 tis fls @retW2) ?_
    refine round_normal (i + 1) hi ?_ (by show cs.length - (i + 1) < cs.length - i; omega)
    exact Zc tis
   ·have hi2 : i = cs.length := by omega
    subst hi2
    rw [List.take_length] at *
    generalize cs.foldl pushP f = g at *
    have cE := fits_sFeedEnd g hb1.1 hb1.2.1 hb1.2.2
    refine Zo (Z3 tis fls @retW2) ?_
    unfold eFeed at cE
    refine callB cE ?_
    have hb2 : Bd (endP g) := by
     unfold endP; split
     ·rename_i h; exact (endF_FI (goF_FI (feedB_FI h))).bd
     ·simp [Bd, feedZ]
    generalize endP g = d at *
    refine Zo (Z3 tis fls @retW2) ?_
    refine .inr (run_mixl 31 [] [28] 6 [[4, 5], []] (by kernel_rfl) ?_)
    refine Zo (Z3 tis fls @retW2) ?_
    have hb3 := hb2.2.2
    refine ⟨?_, ?_⟩ <;> omega
structure AG where
 k : Nat
 pc : Nat
 i : Nat
 b : Int
 r : Int
 e : Nat
 m : Nat
structure AI (p : List Ins) (t : List UInt8) (a : Nat) (F : Int × Nat × Nat) (g : AG) : Prop where
 eq : F = atR p t a g.k g.pc g.i g.b g.r g.e g.m
 al : Alive p t.length g.k g.pc g.i
 mb : g.m + g.k ≤ 301500
theorem AI.start {p : List Ins} {t : List UInt8} {a : Nat} (hp : progB p = true) (ht : t.length ≤ 200) (ha : a ≤ t.length) : AI p t a (atP p t a) ⟨(t.length - a + 1) * p.length, 0, a, -1, -1, a, 0⟩ := by
 have hl := progB_len hp
 have : (t.length - a + 1) * p.length ≤ 201 * 1500 := Nat.mul_le_mul (by omega) hl.2
 exact ⟨rfl, alive_0 hp ha, by simp only [Nat.zero_add]; exact Nat.le_trans this (by decide)⟩
theorem tmod0 (p : List Ins) (i : Nat) (h : i < p.length) : (p.map eIns)[i]? = some (.agg [.int .i64 p[i].op, .int .i64 p[i].a, .int .i64 p[i].b, .int .i64 p[i].to]) ∧ (p.map eIns).getD i .undef = .agg [.int .i64 p[i].op, .int .i64 p[i].a, .int .i64 p[i].b, .int .i64 p[i].to] := by
 constructor <;> simp [h, eIns, List.getD]
theorem fits_pAt (p : List Ins) (t : List UInt8) (a : Nat) (hp : progB p = true) (ht : t.length ≤ 200) (ha : a ≤ t.length) : Fits prog 48 [.sl false 4 (p.map eIns), .str t, .int .i64 a] (.tup [.int .i64 (atP p t a).1, .int .i64 (atP p t a).2.1, .int .i64 (atP p t a).2.2]) [] := by
 have hS := AI.start hp ht ha
 have hl := progB_len hp
 generalize atP p t a = F at *
 refine fits_of_code [6, 7, 8] [] [0, 1, 2, 6, 7, 8, 9, 10, 11, 12, 13, 14, 15, 21, 31, 32, 36, 40, 45, 55, 62, 66] func48 rfl rfl rfl (by rfl) (by show 3 ≤ 74; decide) (by rfl) (by rfl) (by show 0 ≤ 3; decide) (by rfl) (run_of ?_)
 (first | refine Zo tis ?_ | exact Zc tis)
 refine run_loop (α := AG) (AI p t a F) (fun g => [(0, .sl false 4 (p.map eIns)), (1, .str t), (2, .int .i64 a), (9, .int .i64 g.r), (10, .int .i64 g.e), (11, .int .i64 g.m), (12, .int .i64 g.i), (13, .int .i64 g.b), (14, .int .i64 g.pc)]) (fun g => g.k) _ hS ?_ ?_
 ·(first | refine Zo tis ?_ | exact Zc tis)
 ·rintro ⟨k, pc, i, b, r, e, m⟩ ⟨h1, h2, h3⟩
  simp only at h1 h2 h3
  obtain ⟨k, rfl⟩ := alive_pos hp h2
  have hpc := h2.1
  have hi := h2.2.1
  obtain ⟨g1, g2⟩ := tmod0 p pc hpc
  rw [atR_at hpc] at h1
  by_cases o1 : p[pc].op = 1
  ·rw [if_pos o1] at h1
   have A := alive_mark hp h2 hpc o1
   by_cases hai : a < i
   ·rw [if_pos hai, if_pos hai] at h1
    have hai' : (a : Int) < i := by omega
    (repeat (first | refine Zo (Z7 tis fls @g1 @g2 @o1 @hai' Zi) ?_ | refine .inl ⟨by kernel_rfl, ?_⟩ | exact .inl (by show _ = _; kernel_rfl) | exact Zc (Z7 tis fls @g1 @g2 @o1 @hai' Zi)))
    exact round_normal ⟨k, pc + 1, i, b, p[pc].a, i, m + 1⟩ ⟨h1, A, by simp only; omega⟩ (by (first | refine Zo tis ?_ | exact Zc tis)) (by show k < k + 1; omega)
   ·rw [if_neg hai, if_neg hai] at h1
    have hai' : ¬ (a : Int) < i := by omega
    (repeat (first | refine Zo (Z7 tis fls @g1 @g2 @o1 @hai' Zi) ?_ | refine .inl ⟨by kernel_rfl, ?_⟩ | exact .inl (by show _ = _; kernel_rfl) | exact Zc (Z7 tis fls @g1 @g2 @o1 @hai' Zi)))
    exact round_normal ⟨k, pc + 1, i, b, r, e, m + 1⟩ ⟨h1, A, by simp only; omega⟩ (by (first | refine Zo tis ?_ | exact Zc tis)) (by show k < k + 1; omega)
  ·rw [if_neg o1] at h1
   by_cases o2 : p[pc].op = 2
   ·rw [if_pos o2] at h1
    by_cases hT : t.length ≤ i
    ·rw [if_pos hT] at h1
     subst h1
     have hT' : (t.length : Int) ≤ i := by omega
     (repeat (first | refine Zo (Z9 tis fls @g1 @g2 @o1 @o2 @hT' @retW3 Zi) ?_ | refine .inl ⟨by kernel_rfl, ?_⟩ | exact .inl (by show _ = _; kernel_rfl) | exact Zc (Z9 tis fls @g1 @g2 @o1 @o2 @hT' @retW3 Zi)))
    ·rw [if_neg hT] at h1
     have A := alive_byte hp h2 hpc o2 (by omega)
     have hT' : ¬ (t.length : Int) ≤ i := by omega
     have hbl := (t.getD i 0).toNat_lt
     (repeat (first | refine Zo (Z8 tis fls @g1 @g2 @o1 @o2 @hT' Zi) ?_ | refine .inl ⟨by kernel_rfl, ?_⟩ | exact .inl (by show _ = _; kernel_rfl) | exact Zc (Z8 tis fls @g1 @g2 @o1 @o2 @hT' Zi)))
     exact round_normal ⟨k, pc + 1, i + 1, ((t.getD i 0).toNat : Int), r, e, m + 1⟩ ⟨h1, A, by simp only; omega⟩ (by (first | refine Zo tis ?_ | exact Zc tis)) (by show k < k + 1; omega)
   ·rw [if_neg o2] at h1
    by_cases o3 : p[pc].op = 3
    ·rw [if_pos o3] at h1
     obtain ⟨A1, A2, A3⟩ := alive_if hp h2 hpc o3
     have hto := A3.1
     have cI := fits_in b p[pc].a p[pc].b
     by_cases hb : p[pc].a ≤ b ∧ b ≤ p[pc].b
     ·rw [if_pos hb] at h1
      rw [decide_eq_true hb] at cI
      (repeat (first | refine callL cI ?_ | refine callB cI ?_ | refine Zo (Z8 tis fls @g1 @g2 @o1 @o2 @o3 Zi) ?_ | refine .inl ⟨by kernel_rfl, ?_⟩ | exact .inl (by show _ = _; kernel_rfl) | exact Zc (Z8 tis fls @g1 @g2 @o1 @o2 @o3 Zi)))
      refine round_normal ⟨k, p[pc].to.toNat, i, b, r, e, m + 1⟩ ⟨h1, A3, by simp only; omega⟩ ?_ (by show k < k + 1; omega)
      (first | refine Zo tis ?_ | exact Zc tis)
      omega
     ·rw [if_neg hb] at h1
      rw [decide_eq_false hb] at cI
      (repeat (first | refine callL cI ?_ | refine callB cI ?_ | refine Zo (Z8 tis fls @g1 @g2 @o1 @o2 @o3 Zi) ?_ | refine .inl ⟨by kernel_rfl, ?_⟩ | exact .inl (by show _ = _; kernel_rfl) | exact Zc (Z8 tis fls @g1 @g2 @o1 @o2 @o3 Zi)))
      exact round_normal ⟨k, pc + 1, i, b, r, e, m + 1⟩ ⟨h1, A1, by simp only; omega⟩ (by (first | refine Zo tis ?_ | exact Zc tis)) (by show k < k + 1; omega)
    ·rw [if_neg o3] at h1
     have o4 : p[pc].op = 4 := by
      have hin := (progB_parts hp).2.2.2 _ hpc
      rw [insB_at hpc] at hin
      simp only [Bool.or_eq_true, Bool.and_eq_true, beq_iff_eq] at hin
      omega
     subst h1
     (repeat (first | refine Zo (Z10 tis fls @g1 @g2 @o1 @o2 @o3 @o4 @retW3 Zi) ?_ | refine .inl ⟨by kernel_rfl, ?_⟩ | exact .inl (by show _ = _; kernel_rfl) | exact Zc (Z10 tis fls @g1 @g2 @o1 @o2 @o3 @o4 @retW3 Zi)))
theorem fits_progRun (p : List Ins) (t : List UInt8) (hpl : p.length ≤ 1099511627776) (htl : t.length ≤ 1099511627776) : Fits prog 21 [.sl false 4 (p.map eIns), .str t] (.tup [.sl true 3 ((runT p t).1.map eToken), .int .i64 (runT p t).2]) [] := by
 have cO := fits_progOk p hpl
 unfold runT
 cases hp : progB p with
 | false =>
  rw [hp] at cO
  rw [if_neg (by simp)]
  refine fits_of_code [4, 5] [] [0, 1, 4, 5, 6, 7, 8, 9, 18, 22, 32] func21 rfl rfl rfl (by rfl) (by show 2 ≤ 44; decide) (by rfl) (by rfl) (by show 0 ≤ 2; decide) (by rfl) (run_of ?_)
  (repeat (first | refine callL cO ?_ | refine callB cO ?_ | refine Zo (Z5 tis fls @retW2 @LLmapnil Zi) ?_ | refine .inl ⟨by kernel_rfl, ?_⟩ | exact .inl (by show _ = _; kernel_rfl) | exact Zc (Z5 tis fls @retW2 @LLmapnil Zi)))
 | true =>
  rw [hp] at cO
  by_cases h2 : (200 : Int) < t.length
  ·rw [if_neg (by rintro ⟨_, h⟩; omega)]
   refine fits_of_code [4, 5] [] [0, 1, 4, 5, 6, 7, 8, 9, 18, 22, 32] func21 rfl rfl rfl (by rfl) (by show 2 ≤ 44; decide) (by rfl) (by rfl) (by show 0 ≤ 2; decide) (by rfl) (run_of ?_)
   (repeat (first | refine callL cO ?_ | refine callB cO ?_ | refine Zo (Z6 tis fls @h2 @retW2 @LLmapnil Zi) ?_ | refine .inl ⟨by kernel_rfl, ?_⟩ | exact .inl (by show _ = _; kernel_rfl) | exact Zc (Z6 tis fls @h2 @retW2 @LLmapnil Zi)))
  ·rw [if_pos ⟨rfl, by omega⟩]
   have hl := progB_len hp
   generalize hR : tokR p t t.length 0 = R at *
   refine fits_of_code [4, 5] [] [0, 1, 4, 5, 6, 7, 8, 9, 18, 22, 32] func21 rfl rfl rfl (by rfl) (by show 2 ≤ 44; decide) (by rfl) (by rfl) (by show 0 ≤ 2; decide) (by rfl) (run_of ?_)
   (repeat (first | refine callL cO ?_ | refine callB cO ?_ | refine Zo (Z4 tis fls @h2 Zi) ?_ | refine .inl ⟨by kernel_rfl, ?_⟩ | exact .inl (by show _ = _; kernel_rfl) | exact Zc (Z4 tis fls @h2 Zi)))
   refine run_loop (α := Nat × List Token) (fun g => g.1 ≤ t.length ∧ g.2.length ≤ g.1 ∧ R = (g.2 ++ (tokR p t (t.length - g.1) g.1).1, (tokR p t (t.length - g.1) g.1).2)) (fun g => [(0, .sl false 4 (p.map eIns)), (1, .str t), (6, .sl true 3 (g.2.map eToken)), (7, .int .i64 g.1)]) (fun g => t.length - g.1) (0, []) ⟨Nat.zero_le _, Nat.le_refl _, by rw [← hR, Nat.sub_zero]; rfl⟩ ?_ ?_
   ·(first | refine Zo (Z2 tis @LLmapnil) ?_ | exact Zc (Z2 tis @LLmapnil))
   ·rintro ⟨a, out⟩ ⟨i1, i2, i3⟩
    simp only at i1 i2 i3
    have cC := fits_copiedTok out (by omega)
    by_cases ha : a < t.length
    ·have cA := fits_pAt p t a hp (by omega) (by omega)
     obtain ⟨hB, _⟩ := atP_b hp (t := t) (a := a) (by omega)
     have hm := atP_b hp (t := t) (a := a) (by omega)
     by_cases hr : (atP p t a).1 < 0
     ·rw [tokR_e (.inr hr), List.append_nil] at i3
      subst i3
      generalize atP p t a = F at *
      (repeat (first | refine callL cA ?_ | refine callB cA ?_ | refine callL cC ?_ | refine callB cC ?_ | refine Zo (Z7 tis fls @hr @ex_eq @exGo_tup @retW2 Zi) ?_ | refine .inl ⟨by kernel_rfl, ?_⟩ | exact .inl (by show _ = _; kernel_rfl) | exact Zc (Z7 tis fls @hr @ex_eq @exGo_tup @retW2 Zi)))
     ·rw [tokR_s hp ha (by omega)] at i3
      have hlt := hB.iff.1 (by omega)
      have hhi := hB.hi
      generalize atP p t a = F at *
      obtain ⟨r, e, m⟩ := F
      simp only at *
      (repeat (first | refine callL cA ?_ | refine callB cA ?_ | refine Zo (Z6 tis fls @hr @ex_eq @exGo_tup Zi) ?_ | refine .inl ⟨by kernel_rfl, ?_⟩ | exact .inl (by show _ = _; kernel_rfl) | exact Zc (Z6 tis fls @hr @ex_eq @exGo_tup Zi)))
      refine round_normal (e, out ++ [⟨r, a, e⟩]) ⟨hhi, by simp only [List.length_append, List.length_singleton]; omega, by rw [i3]; simp⟩ ?_ (by show t.length - e < t.length - a; omega)
      simp only [List.map_append, List.map_cons, List.map_nil, eToken]
      (first | refine Zo tis ?_ | exact Zc tis)
    ·obtain rfl : a = t.length := by omega
     rw [tokR_e (.inl (Nat.le_refl _)), List.append_nil] at i3
     subst i3
     (repeat (first | refine callL cC ?_ | refine callB cC ?_ | refine Zo (Z4 tis fls @retW2 Zi) ?_ | refine .inl ⟨by kernel_rfl, ?_⟩ | exact .inl (by show _ = _; kernel_rfl) | exact Zc (Z4 tis fls @retW2 Zi)))
theorem law_LFeed (c : List UInt8) (hc : c.length ≤ 9223372036854775807) : Fits prog 5 [.sl false 1 (bytesA c)] (.bool true) [] := by
 by_cases h0 : (1048576 : Int) < c.length
 ·refine fits_of_code [2] [] [0, 2, 3, 4, 5, 6, 7, 8, 9, 10, 11, 12, 15, 41, 45] func5 rfl rfl rfl (by rfl) (by show 1 ≤ 68; decide) (by rfl) (by rfl) (by show 0 ≤ 1; decide) (by rfl) (run_of ?_)
  (repeat (first | refine Zo (Z3 tis @h0 Zi) ?_ | refine .inl ⟨by kernel_rfl, ?_⟩ | exact .inl (by show _ = _; kernel_rfl) | exact Zc (Z3 tis @h0 Zi)))
 have cD := fits_drawFeedAll c hc
 obtain ⟨p1, _⟩ := progV_le (c.take 2000) 0
 obtain ⟨t1, t2, t3⟩ := fedC_len (c.take 2000)
 have tf := fedC_flat (c.take 2000)
 generalize (progV (c.take 2000) 0).1 = P at *
 generalize fedC (c.take 2000) = cs at *
 generalize fedT (c.take 2000) = t at *
 have cA := fits_feedAll P cs (by omega) (by omega) (fun x hx => by have := t3 x hx; omega)
 have cS := fits_sFeedAll P cs (by omega) (by omega) (fun x hx => by have := t3 x hx; omega)
 obtain ⟨a1, a2⟩ := allP_run (p := P) tf (by omega)
 rw [a1, a2] at cA cS
 obtain ⟨l1, l2⟩ := runT_le P t
 have cR := fits_progRun P t (by omega) (by omega)
 generalize runT P t = R at *
 obtain ⟨L, n⟩ := R
 simp only at *
 have cL := fits_lexSame L L (by omega)
 rw [decide_eq_true rfl] at cL
 refine fits_of_code [2] [] [0, 2, 3, 4, 5, 6, 7, 8, 9, 10, 11, 12, 15, 41, 45] func5 rfl rfl rfl (by rfl) (by show 1 ≤ 68; decide) (by rfl) (by rfl) (by show 0 ≤ 1; decide) (by rfl) (run_of ?_)
 (repeat (first | refine Zo (Z6 tis fls @h0 @ex_eq @exGo_tup Zi) ?_ | refine .inl ⟨by kernel_rfl, ?_⟩ | exact .inl (by show _ = _; kernel_rfl) | exact Zc (Z6 tis fls @h0 @ex_eq @exGo_tup Zi)); try ((first | refine callL cD ?_ | refine callB cD ?_); repeat (first | refine Zo (Z6 tis fls @h0 @ex_eq @exGo_tup Zi) ?_ | refine .inl ⟨by kernel_rfl, ?_⟩ | exact .inl (by show _ = _; kernel_rfl) | exact Zc (Z6 tis fls @h0 @ex_eq @exGo_tup Zi))); try ((first | refine callL cA ?_ | refine callB cA ?_); repeat (first | refine Zo (Z6 tis fls @h0 @ex_eq @exGo_tup Zi) ?_ | refine .inl ⟨by kernel_rfl, ?_⟩ | exact .inl (by show _ = _; kernel_rfl) | exact Zc (Z6 tis fls @h0 @ex_eq @exGo_tup Zi))); try ((first | refine callL cS ?_ | refine callB cS ?_); repeat (first | refine Zo (Z6 tis fls @h0 @ex_eq @exGo_tup Zi) ?_ | refine .inl ⟨by kernel_rfl, ?_⟩ | exact .inl (by show _ = _; kernel_rfl) | exact Zc (Z6 tis fls @h0 @ex_eq @exGo_tup Zi))); try ((first | refine callL cL ?_ | refine callB cL ?_); repeat (first | refine Zo (Z6 tis fls @h0 @ex_eq @exGo_tup Zi) ?_ | refine .inl ⟨by kernel_rfl, ?_⟩ | exact .inl (by show _ = _; kernel_rfl) | exact Zc (Z6 tis fls @h0 @ex_eq @exGo_tup Zi))))
 refine run_loop (α := Nat) (fun i => i ≤ cs.length) (fun i => [(3, .sl false 4 (P.map eIns)), (4, .sl true 1 (cs.map eStr)), (5, .sl true 3 (L.map eToken)), (6, .int .i64 n), (9, .str (cs.take i).flatten), (10, .int .i64 i)]) (fun i => cs.length - i) 0 (Nat.zero_le _) ?_ ?_
 ·have : (cs.take 0).flatten = [] := rfl
  rw [this]
  (first | refine Zo tis ?_ | exact Zc tis)
 ·intro i hi'
  by_cases hi : i < cs.length
  ·have e : (cs.take (i + 1)).flatten = (cs.take i).flatten ++ cs[i] := by rw [List.take_succ_eq_append_getElem hi, List.flatten_append]; simp
   have hl : ((cs.take i).flatten).length ≤ 14 := by
    have := congrArg List.length (congrArg List.flatten (List.take_append_drop i cs))
    rw [List.flatten_append, List.length_append, tf] at this; omega
   have hci := t3 _ (List.getElem_mem hi)
   (repeat (first | refine Zo (Z4 tis fls eStr.eq_1 Zi) ?_ | refine .inl ⟨by kernel_rfl, ?_⟩ | exact .inl (by show _ = _; kernel_rfl) | exact Zc (Z4 tis fls eStr.eq_1 Zi)))
   refine round_normal (i + 1) (by omega) ?_ (by show cs.length - (i + 1) < cs.length - i; omega)
   rw [e]
   (first | refine Zo tis ?_ | exact Zc tis)
  ·obtain rfl : i = cs.length := by omega
   rw [List.take_length, tf]
   (repeat (first | refine Zo (Z5 tis fls @ex_eq @exGo_tup Zi) ?_ | refine .inl ⟨by kernel_rfl, ?_⟩ | exact .inl (by show _ = _; kernel_rfl) | exact Zc (Z5 tis fls @ex_eq @exGo_tup Zi)); try ((first | refine callL cR ?_ | refine callB cR ?_); repeat (first | refine Zo (Z5 tis fls @ex_eq @exGo_tup Zi) ?_ | refine .inl ⟨by kernel_rfl, ?_⟩ | exact .inl (by show _ = _; kernel_rfl) | exact Zc (Z5 tis fls @ex_eq @exGo_tup Zi))); try ((first | refine callL cL ?_ | refine callB cL ?_); repeat (first | refine Zo (Z5 tis fls @ex_eq @exGo_tup Zi) ?_ | refine .inl ⟨by kernel_rfl, ?_⟩ | exact .inl (by show _ = _; kernel_rfl) | exact Zc (Z5 tis fls @ex_eq @exGo_tup Zi))))
theorem own : ownKnob prog.godebug = none := by kernel_rfl
theorem laidOut : laidOutB prog = true := by kernel_rfl
theorem all_map {α : Type} (f : α → AV) : ∀ xs : List AV, (∀ y ∈ xs, ∃ i, y = f i) → ∃ is : List α, xs = is.map f
 | [], _ => ⟨[], rfl⟩
 | y :: r, h => by
  obtain ⟨i, rfl⟩ := h y (List.mem_cons_self ..)
  obtain ⟨is, rfl⟩ := all_map f r (fun z hz => h z (List.mem_cons_of_mem _ hz))
  exact ⟨i :: is, rfl⟩
theorem typ_byte {n : Nat} {x : AV} (h : Typed prog n 5 x) : ∃ v : UInt8, x = .int .u8 v.toNat := by
 cases n with
 | zero => exact h.elim
 | succ n =>
  simp only [Typed, underlying5] at h
  obtain ⟨v, rfl, hw⟩ := h
  simp [Lit.wf, IntKind.min, IntKind.max, IntKind.bits, IntKind.signed] at hw
  refine ⟨UInt8.ofNat v.toNat, ?_⟩
  rw [UInt8.toNat_ofNat']
  congr 1
  omega
theorem typ_code {n : Nat} {x : AV} (h : Typed prog n 22 x) : ∃ c : List UInt8, x = .sl false 1 (bytesA c) ∧ c.length ≤ 9223372036854775807 := by
 cases n with
 | zero => exact h.elim
 | succ n =>
  have co : prog.cellsOf 5 = 1 := by kernel_rfl
  simp only [Typed, underlying22, co] at h
  obtain ⟨xs, rfl, hl, hf⟩ := h
  obtain ⟨p, rfl⟩ := all_map (fun v : UInt8 => AV.int .u8 v.toNat) xs (fun y hy => typ_byte (hf y hy))
  exact ⟨p, rfl, by simpa [maxLen] using hl⟩
end Go.Proofs.YtikpjpinkkllaaaGreat.U
