/- What functions of the program answer, on values without memory (part 3): conditions stand at each theorem. -/
import Derived.Test.YtikpjpinkkllaaaRows
import Derived.Test.YtikpjpinkkllaaaLFeedOneU2
set_option linter.unusedVariables false
set_option linter.unusedSimpArgs false
set_option maxRecDepth 100000
set_option maxHeartbeats 4000000
namespace Go.Proofs.Ytikpjpinkkllaaa.U
open Go Go.RowKit Go.Proofs Go.Proofs.Ytikpjpinkkllaaa.Am AV Go.Proofs.Try
def scan : Nat → Feed → Int × Int
 | 0, g => (g.rule, g.to)
 | k + 1, g => if (g.buf.length : Int) ≤ g.at_ ∨ toF g < 0 then ((markF g).rule, (markF g).to) else scan k (stepF g)
def withRT (g : Feed) (x : Int × Int) : Feed := { g with rule := x.1, to := x.2 }
theorem mark_with (g : Feed) : withRT g ((markF g).rule, (markF g).to) = markF g := by
 unfold markF withRT
 split
 ·split <;> rfl
 ·rfl
theorem cut_with {g h : Feed} {x : Int × Int} (hr : x.1 ≠ -1) (h1 : g.prog = h.prog) (h2 : g.buf = h.buf) (h3 : g.base = h.base) (h4 : g.out = h.out) (h5 : g.stuck = h.stuck) : cutF (withRT g x) = cutF (withRT h x) := by
 obtain ⟨a, b, c, d, e, f, k, l, m⟩ := g
 obtain ⟨a', b', c', d', e', f', k', l', m'⟩ := h
 simp only at h1 h2 h3 h4 h5
 subst h1 h2 h3 h4 h5
 unfold cutF withRT
 simp only [if_neg hr]
theorem scan_end {k : Nat} {g : Feed} (h : FI g) (hs : g.stuck = false) (hb : g.buf ≠ []) (hk : (g.buf.length : Int) - g.at_ < k) :
  ((scan k g).1 = -1 → (endF (goF g)).out = g.out ∧ (endF (goF g)).base = g.base) ∧ ((scan k g).1 ≠ -1 → endF (goF g) = endF (goF (cutF (withRT g (scan k g))))) := by
 induction k generalizing g with
 | zero => have := h.at1; omega
 | succ k ih =>
  have hm := markF_same g
  have h1 := h.at1
  by_cases hl : (g.buf.length : Int) ≤ g.at_
  ·have e : scan (k + 1) g = ((markF g).rule, (markF g).to) := if_pos (.inl hl)
   rw [e, mark_with, goF_end hs hl]
   have hst : (markF g).stuck = false := by rw [hm.2.2.2.2.2.2]; exact hs
   rw [endF_step h.mark hst (by rw [hm.2.1]; exact hb)]
   refine ⟨fun hr => ?_, fun _ => rfl⟩
   have ec : cutF (markF g) = { markF g with stuck := true } := if_pos hr
   rw [ec, goF_stuck rfl, endF_stop (.inl rfl)]
   exact ⟨hm.2.2.2.2.2.1, hm.2.2.1⟩
  ·by_cases ht : toF g < 0
   ·have e : scan (k + 1) g = ((markF g).rule, (markF g).to) := if_pos (.inr ht)
    rw [e, mark_with, goF_step h hs (by omega)]
    have e2 : stepF g = cutF (markF g) := if_pos ht
    rw [e2]
    refine ⟨fun hr => ?_, fun _ => rfl⟩
    have ec : cutF (markF g) = { markF g with stuck := true } := if_pos hr
    rw [ec, goF_stuck rfl, endF_stop (.inl rfl)]
    exact ⟨hm.2.2.2.2.2.1, hm.2.2.1⟩
   ·have e : scan (k + 1) g = scan k (stepF g) := if_neg (by rintro (h | h); exact hl h; exact ht h)
    have e2 : stepF g = { markF g with at_ := g.at_ + 1, pc := toF g } := if_neg ht
    have i := h.step (by omega)
    have := ih i (by rw [e2]; simp only; rw [hm.2.2.2.2.2.2]; exact hs) (by rw [e2]; simp only; rw [hm.2.1]; exact hb) (by rw [e2]; simp only; rw [hm.2.1]; omega)
    rw [e, goF_step h hs (by omega)]
    refine ⟨fun hr => ?_, fun hr => ?_⟩
    ·have := this.1 hr
     have q1 : (stepF g).out = g.out := by rw [e2]; exact hm.2.2.2.2.2.1
     have q2 : (stepF g).base = g.base := by rw [e2]; exact hm.2.2.1
     rw [q1, q2] at this; exact this
    ·rw [this.2 hr]
     rw [cut_with hr (g := stepF g) (h := g)] <;> rw [e2]
     ·exact hm.1
     ·exact hm.2.1
     ·exact hm.2.2.1
     ·exact hm.2.2.2.2.2.1
     ·exact hm.2.2.2.2.2.2
theorem atR_goes {p : List Ins} (hp : progB p = true) {t : List UInt8} {a : Nat} {b r : Int} {e i : Nat} : ∀ (N k q m : Nat), q < p.length → p.length ≤ N + q → Alive p t.length k q i →
  (¬ goesP p b N q < 0 → ∃ k' m', Alive p t.length k' (goesP p b N q).toNat i ∧ doorB p (goesP p b N q).toNat = true ∧ atR p t a k q i b r e m = atR p t a k' (goesP p b N q).toNat i b r e m') ∧
  (goesP p b N q < 0 → ∃ m', atR p t a k q i b r e m = (r, e, m')) := by
 intro N
 induction N with
 | zero => intro k q m h1 h2 _; omega
 | succ N ih =>
  intro k q m h1 h2 hA
  rw [goesP_at h1]
  by_cases h3 : p[q].op = 3
  ·rw [if_pos h3]
   obtain ⟨k, rfl⟩ := alive_pos hp hA
   obtain ⟨A1, d0, A2⟩ := alive_if hp hA h1 h3
   have hn := last_stop hp h1 (by omega)
   rw [atR_at h1, if_neg (show ¬ p[q].op = 1 by omega), if_neg (show ¬ p[q].op = 2 by omega), if_pos h3]
   by_cases hb : p[q].a ≤ b ∧ b ≤ p[q].b
   ·rw [if_pos hb, if_pos hb]
    have hin := (progB_parts hp).2.2.2 _ h1
    rw [insB_at h1] at hin
    simp only [h3, show ((3 : Int) == 1) = false from rfl, show ((3 : Int) == 2) = false from rfl, show ((3 : Int) == 4) = false from rfl, beq_self_eq_true, Bool.false_and, Bool.or_false, Bool.false_or, Bool.true_and, Bool.and_eq_true] at hin
    exact ⟨fun _ => ⟨k, m + 1, A2, (doorI_at hin.2).2.2, rfl⟩, fun h => absurd h (by omega)⟩
   ·rw [if_neg hb, if_neg hb]
    exact ih k (q + 1) (m + 1) hn (by omega) A1
  ·rw [if_neg h3]
   by_cases hd : doorB p q = true
   ·rw [if_pos hd]
    exact ⟨fun _ => ⟨k, m, by simpa using hA, by simpa using hd, by simp⟩, fun h => absurd h (by omega)⟩
   ·rw [if_neg hd]
    refine ⟨fun h => absurd (by decide) h, fun _ => ?_⟩
    obtain ⟨k, rfl⟩ := alive_pos hp hA
    have hin := (progB_parts hp).2.2.2 _ h1
    have hd0 : doorB p q = false := by simpa using hd
    rw [insB_at h1] at hin
    rw [doorB_at h1] at hd0
    have n2 : p[q].op ≠ 2 := fun e => by rw [e] at hd0; simp at hd0
    have n1 : p[q].op ≠ 1 := fun e => by
     rw [e] at hin
     simp only [beq_self_eq_true, Bool.true_and, show ((1 : Int) == 2) = false from rfl, Bool.false_or, show ((1 : Int) == 4) = false from rfl, show ((1 : Int) == 3) = false from rfl, Bool.false_and, Bool.or_false, Bool.and_eq_true] at hin
     exact hd hin.2
    rw [atR_at h1, if_neg n1, if_neg n2, if_neg h3]
    exact ⟨m + 1, rfl⟩
theorem atR_scan {p : List Ins} (hp : progB p = true) {t : List UInt8} {n : Nat} : ∀ (s : Nat) (g : Feed) (k K : Nat) (b : Int) (e m : Nat), FI g → g.prog = p → g.buf = t.drop n → n ≤ t.length → (e : Int) = n + g.to → (g.buf.length : Int) - g.at_ < s → (g.buf.length : Int) - g.at_ < k → Alive p t.length K g.pc.toNat (n + g.at_.toNat) →
  (atR p t n K g.pc.toNat (n + g.at_.toNat) b g.rule e m).1 = (scan k g).1 ∧ ((atR p t n K g.pc.toNat (n + g.at_.toNat) b g.rule e m).2.1 : Int) = n + (scan k g).2 := by
 intro s
 induction s with
 | zero => intro g k K b e m h _ _ _ _ h1; have := h.at1; omega
 | succ s ih =>
  intro g k K b e m h hpg hbuf hn he h1 h2 hA
  have hat := h.at1
  obtain ⟨k, rfl⟩ : ∃ j, k = j + 1 := ⟨k - 1, by omega⟩
  have hm := markF_same g
  have hbl : g.buf.length = t.length - n := by rw [hbuf]; simp
  -- the mark
  have key : ∃ (K' e' m' : Nat), Alive p t.length (K' + 1) (getP g) (n + g.at_.toNat) ∧ (e' : Int) = n + (markF g).to ∧ getP g < p.length ∧ (p.getD (getP g) default).op = 2 ∧
    atR p t n K g.pc.toNat (n + g.at_.toNat) b g.rule e m = atR p t n (K' + 1) (getP g) (n + g.at_.toNat) b (markF g).rule e' m' := by
   obtain ⟨hq, hg⟩ := h.get
   have hq' : g.pc.toNat < p.length := by rw [← hpg]; exact hq
   have ep : g.prog[g.pc.toNat] = p[g.pc.toNat] := by simp only [hpg]
   rcases hg with ⟨g1, g2, ⟨g3, g4⟩, g5⟩ | ⟨g1, g2⟩
   ·obtain ⟨K, rfl⟩ := alive_pos hp hA
    rw [ep] at g1
    have A1 := alive_mark hp hA hq' g1
    obtain ⟨K, rfl⟩ := alive_pos hp A1
    have hq2 : g.pc.toNat + 1 < p.length := by rw [← hpg]; exact g3
    have e4 : p[g.pc.toNat + 1].op = 2 := by simp only [hpg] at g4; exact g4
    rw [atR_at hq', if_pos g1, g2]
    by_cases ha : 0 < g.at_
    ·have e1 : markF g = { g with rule := p[g.pc.toNat].a, to := g.at_ } := by
      unfold markF; rw [List.getElem?_eq_getElem hq, ep]; simp [g1, ha]
     rw [if_pos (by omega), if_pos (by omega), e1]
     exact ⟨K, n + g.at_.toNat, m + 1, A1, by simp only; omega, hq2, by rw [alive_get hq2]; exact e4, rfl⟩
    ·have e1 : markF g = g := by
      unfold markF; rw [List.getElem?_eq_getElem hq, ep]; simp [ha]
     rw [if_neg (by omega), if_neg (by omega), e1]
     exact ⟨K, e, m + 1, A1, he, hq2, by rw [alive_get hq2]; exact e4, rfl⟩
   ·rw [ep] at g1
    obtain ⟨K, rfl⟩ := alive_pos hp hA
    have e1 : markF g = g := by
     unfold markF; rw [List.getElem?_eq_getElem hq, ep]; simp [g1]
    rw [e1, g2]
    exact ⟨K, e, m, hA, he, hq', by rw [alive_get hq']; exact g1, rfl⟩
  obtain ⟨K', e', m', A, he', hq, ho, ea⟩ := key
  rw [alive_get hq] at ho
  rw [ea, atR_at hq, if_neg (by omega), if_pos ho]
  by_cases hl : (g.buf.length : Int) ≤ g.at_
  ·rw [if_pos (by omega)]
   have es : scan (k + 1) g = ((markF g).rule, (markF g).to) := if_pos (.inl hl)
   rw [es]; exact ⟨rfl, he'⟩
  ·rw [if_neg (by omega)]
   have A2 := alive_byte hp A hq ho (by omega)
   have hb : t.getD (n + g.at_.toNat) 0 = g.buf.getD g.at_.toNat 0 := by
    rw [hbuf]; simp only [List.getD, List.getElem?_drop]
   have et : toF g = goesP p ((t.getD (n + g.at_.toNat) 0).toNat : Int) p.length (getP g + 1) := by
    rw [hb]; unfold toF byteF; rw [hpg]
   obtain ⟨c1, c2⟩ := atR_goes hp (t := t) (a := n) (b := ((t.getD (n + g.at_.toNat) 0).toNat : Int)) (r := (markF g).rule) (e := e') (i := n + g.at_.toNat + 1) p.length K' (getP g + 1) (m' + 1) A2.1 (by omega) A2
   rw [← et] at c1 c2
   by_cases ht : toF g < 0
   ·obtain ⟨m2, c2⟩ := c2 ht
    have es : scan (k + 1) g = ((markF g).rule, (markF g).to) := if_pos (.inr ht)
    rw [es, c2]; exact ⟨rfl, he'⟩
   ·obtain ⟨K2, m2, A3, _, c1⟩ := c1 ht
    have es : scan (k + 1) g = scan k (stepF g) := if_neg (by rintro (h | h); exact hl h; exact ht h)
    have e2 : stepF g = { markF g with at_ := g.at_ + 1, pc := toF g } := if_neg ht
    have hi := h.step (by omega)
    have ei : n + g.at_.toNat + 1 = n + (stepF g).at_.toNat := by rw [e2]; simp only; omega
    have epc : (toF g).toNat = (stepF g).pc.toNat := by rw [e2]
    have er : (markF g).rule = (stepF g).rule := by rw [e2]
    rw [c1, es, ei, epc, er]
    rw [ei, epc] at A3
    refine ih (stepF g) k K2 _ e' m2 hi (by rw [e2]; simp only; rw [hm.1]; exact hpg) (by rw [e2]; simp only; rw [hm.2.1]; exact hbuf) hn (by rw [he', e2]) ?_ ?_ A3
    ·rw [e2]; simp only; rw [hm.2.1]; omega
    ·rw [e2]; simp only; rw [hm.2.1]; omega
structure Fresh (f : Feed) : Prop where
 fb : FB f
 st : f.stuck = false
 pc : f.pc = 0
 at_ : f.at_ = 0
 r : f.rule = -1
 to : f.to = 0
theorem end_tok {p : List Ins} (hp : progB p = true) {t : List UInt8} : ∀ s n f, t.length - n < s → Fresh f → f.prog = p → n ≤ t.length → f.buf = t.drop n → f.base = n →
  (endF (goF f)).out = f.out ++ (tokR p t (t.length - n) n).1 ∧ (endF (goF f)).base = (tokR p t (t.length - n) n).2 := by
 intro s
 induction s with
 | zero => intro n f h; omega
 | succ s ih =>
  intro n f hs hf hpf hn hbuf hbase
  by_cases hl : t.length ≤ n
  ·have hb : f.buf = [] := by rw [hbuf]; exact List.drop_eq_nil_of_le hl
   have e0 : goF f = markF f := goF_end hf.st (by rw [hb, hf.at_]; simp)
   have hm := markF_same f
   rw [tokR_e (.inl hl), e0, endF_stop (.inr (by rw [hm.2.1]; exact hb)), hm.2.2.2.2.2.1, hm.2.2.1, hbase]
   simp
  ·have hbl : f.buf.length = t.length - n := by rw [hbuf]; simp
   have hb : f.buf ≠ [] := fun e => by rw [e] at hbl; simp at hbl; omega
   obtain ⟨s1, s2⟩ := scan_end (k := f.buf.length + 1) hf.fb.fi hf.st hb (by rw [hf.at_]; omega)
   have hA := alive_0 hp (T := t.length) (a := n) hn
   obtain ⟨q1, q2⟩ := atR_scan hp (t := t) (n := n) (f.buf.length + 1) f (f.buf.length + 1) ((t.length - n + 1) * p.length) (-1) n 0 hf.fb.fi hpf hbuf hn (by rw [hf.to]; omega) (by rw [hf.at_]; omega) (by rw [hf.at_]; omega) (by rw [hf.pc, hf.at_]; exact hA)
   rw [hf.pc, hf.at_, hf.r] at q1 q2
   have ea : atR p t n ((t.length - n + 1) * p.length) (0 : Int).toNat (n + (0 : Int).toNat) (-1) (-1) n 0 = atP p t n := rfl
   rw [ea] at q1 q2
   obtain ⟨hB, _⟩ := atP_b hp hn
   have hr1 := hB.r1
   by_cases hr : (atP p t n).1 < 0
   ·rw [tokR_e (.inr hr)]
    have := s1 (by omega)
    rw [this.1, this.2, hbase]; simp
   ·rw [s2 (by omega)]
    have hlt := hB.iff.1 (by omega)
    have hhi := hB.hi
    rw [tokR_s hp (by omega) (by omega)]
    generalize scan (f.buf.length + 1) f = x at *
    have ec : cutF (withRT f x) = { f with out := f.out ++ [⟨x.1, f.base, f.base + x.2⟩], base := f.base + x.2, buf := f.buf.drop x.2.toNat, pc := 0, at_ := 0, to := 0, rule := -1 } := by
     unfold cutF withRT
     simp only [if_neg (show ¬ x.1 = -1 by omega)]
    have h0 : 0 < x.2 ∧ x.2 ≤ f.buf.length := by omega
    have e1 : f.base + x.2 = ((atP p t n).2.1 : Nat) := by omega
    have e2 : f.buf.drop x.2.toNat = t.drop (atP p t n).2.1 := by
     rw [hbuf, List.drop_drop]; congr 1; omega
    have e3 : x.1 = (atP p t n).1 := q1.symm
    have hf2 : Fresh (cutF (withRT f x)) := by
     have a := hf.fb
     have hfb : FB (withRT f x) → FB (cutF (withRT f x)) := fun h => h.cut
     rw [ec]
     refine ⟨⟨⟨a.fi.prog, doorI_0 a.fi.prog, ⟨by simp, by simp⟩, ⟨by simp, by simp⟩, ⟨by simp, by simp⟩, by simp, ?_, ?_⟩, fun _ => rfl, ?_⟩, hf.st, rfl, rfl, rfl, rfl⟩
     ·have := a.fi.base; simp only [List.length_drop]; omega
     ·have := a.fi.out; simp only [List.length_append, List.length_singleton]; omega
     ·have := hB.r2
      simp only [outEnd_app, a.oe, outEnd]
      rw [if_pos ⟨trivial, by omega, by omega, by omega⟩]
    have := ih (atP p t n).2.1 (cutF (withRT f x)) (by omega) hf2 (by rw [ec]; exact hpf) hhi (by rw [ec]; exact e2) (by rw [ec]; exact e1)
    rw [this.1, this.2]
    refine ⟨?_, rfl⟩
    rw [ec]
    simp only [List.append_assoc, List.cons_append, List.nil_append]
    rw [e1, e3, hbase]
theorem all_run {p : List Ins} {cs : List (List UInt8)} (hl : cs.flatten.length ≤ 200) : (allP p cs).out = (runT p cs.flatten).1 ∧ (allP p cs).base = (runT p cs.flatten).2 := by
 unfold allP runT
 by_cases hp : progB p = true
 ·rw [if_pos hp, if_pos ⟨hp, hl⟩]
  obtain ⟨a, b⟩ := open_fb hp
  have e0 : (feedOpenP p).base + (feedOpenP p).buf.length = 0 := by unfold feedOpenP; rw [if_pos hp]; rfl
  have es : (feedOpenP p).stuck = false := by unfold feedOpenP; rw [if_pos hp]
  obtain ⟨c, d⟩ := push_all cs a b (by omega)
  have hx := (pushP_on a cs.flatten).1
  obtain ⟨o1, o2, _⟩ := (Sim.end_ c hx d).obs
  rw [o1, o2]
  rw [pushP_eq a es (by omega)]
  have hfr : Fresh (ext (feedOpenP p) cs.flatten) := by
   refine ⟨a.more _ (by omega), es, ?_, ?_, ?_, ?_⟩ <;> unfold ext feedOpenP <;> rw [if_pos hp]
  have hO := (On.refl (a.more cs.flatten (by omega))).go
  have ee : endP (goF (ext (feedOpenP p) cs.flatten)) = endF (goF (ext (feedOpenP p) cs.flatten)) := by
   have : endP (goF (ext (feedOpenP p) cs.flatten)) = endF (goF (goF (ext (feedOpenP p) cs.flatten))) := if_pos (feedB_iff.2 hO.fb)
   rw [this, go_go hfr.fb.fi]
  rw [ee]
  have := end_tok hp (t := cs.flatten) (cs.flatten.length + 1) 0 _ (by omega) hfr (by unfold ext feedOpenP; rw [if_pos hp]) (Nat.zero_le _) (by unfold ext feedOpenP; rw [if_pos hp]; simp) (by unfold ext feedOpenP; rw [if_pos hp]; rfl)
  rw [this.1, this.2]
  unfold ext feedOpenP
  rw [if_pos hp]
  exact ⟨rfl, rfl⟩
 ·rw [if_neg hp, if_neg (fun h => hp h.1)]
  exact ⟨rfl, rfl⟩
theorem allP_run {p : List Ins} {cs : List (List UInt8)} {t : List UInt8} (h : cs.flatten = t) (hl : t.length ≤ 200) : (allP p cs).out = (runT p t).1 ∧ (allP p cs).base = (runT p t).2 := by
 subst h; exact all_run hl
theorem runT_le (p : List Ins) (t : List UInt8) : (runT p t).1.length ≤ 200 ∧ (runT p t).2 ≤ 200 := by
 unfold runT
 split
 ·rename_i h
  obtain ⟨a, b, c⟩ := tokR_len h.1 (t := t) t.length 0 (Nat.zero_le _)
  omega
 ·simp
def oneP (p : List Ins) (u : List UInt8) : Feed := (u.map fun b => [b]).foldl pushP (feedOpenP p)
theorem oneP_nil (p : List Ins) : oneP p [] = feedOpenP p := rfl
theorem oneP_add (p : List Ins) (u : List UInt8) (b : UInt8) : oneP p (u ++ [b]) = pushP (oneP p u) [b] := by
 unfold oneP; rw [List.map_append, List.foldl_append]; rfl
theorem flat_one (u : List UInt8) : (u.map fun b => [b]).flatten = u := by
 induction u with
 | nil => rfl
 | cons b u ih => rw [List.map_cons, List.flatten_cons, ih]; rfl
theorem oneP_fb {p : List Ins} (hp : progB p = true) {u : List UInt8} (hu : u.length ≤ 200) : FB (oneP p u) ∧ Sim (oneP p u) (pushP (feedOpenP p) u) := by
 obtain ⟨a, b⟩ := open_fb hp
 have e0 : (feedOpenP p).base + (feedOpenP p).buf.length = 0 := by unfold feedOpenP; rw [if_pos hp]; rfl
 have := push_all (u.map fun b => [b]) a b (by rw [flat_one]; omega)
 rw [flat_one] at this
 exact this
theorem oneP_pre {p : List Ins} (hp : progB p = true) (u v : List UInt8) (h : u.length + v.length ≤ 200) : (oneP p u).out <+: (oneP p (u ++ v)).out := by
 induction v generalizing u with
 | nil => rw [List.append_nil]; exact List.prefix_refl _
 | cons b v ih =>
  have hu : u.length ≤ 200 := by rw [List.length_cons] at h; omega
  have h1 := (pushP_on (oneP_fb hp hu).1 [b]).2.1
  rw [← oneP_add] at h1
  have h2 := ih (u ++ [b]) (by rw [List.length_append, List.length_singleton]; rw [List.length_cons] at h; omega)
  rw [List.append_assoc] at h2
  exact h1.trans h2
theorem oneP_end {p : List Ins} (hp : progB p = true) {t : List UInt8} (ht : t.length ≤ 200) : (endP (oneP p t)).out = (runT p t).1 ∧ (endP (oneP p t)).base = (runT p t).2 := by
 have := all_run (p := p) (cs := t.map fun b => [b]) (by rw [flat_one]; exact ht)
 rw [flat_one] at this
 unfold allP at this
 rw [if_pos hp] at this
 exact this
theorem oneP_ok {p : List Ins} (hp : progB p = true) {u v : List UInt8} (ht : (u ++ v).length ≤ 200) : feedB (oneP p u) = true ∧ (oneP p u).out = (runT p (u ++ v)).1.take (oneP p u).out.length ∧ (oneP p u).out.length ≤ (runT p (u ++ v)).1.length := by
 rw [List.length_append] at ht
 have h1 := oneP_pre hp u v ht
 have h2 := (endP_on (oneP_fb hp (u := u ++ v) (by rw [List.length_append]; omega)).1).1.out
 rw [(oneP_end hp (by rw [List.length_append]; omega)).1] at h2
 have h3 := h1.trans h2
 exact ⟨feedB_iff.2 (oneP_fb hp (by omega)).1, List.prefix_iff_eq_take.1 h3, h3.length_le⟩
theorem fits_sameTok (p q : List Token) (hp : p.length ≤ 1099511627776) : Fits prog 43 [.sl false 3 (p.map eToken), .sl false 3 (q.map eToken)] (.bool (decide (p = q))) [] := by
 refine fits_of_code [4] [] [0, 1, 4, 5, 10, 12, 13, 14, 24] func43 rfl rfl rfl (by rfl) (by show 2 ≤ 26; decide) (by rfl) (by rfl) (by show 0 ≤ 2; decide) (by rfl) (run_of ?_)
 by_cases hl : p.length = q.length
 case neg =>
  have h1 : ¬ (p.length : Int) = q.length := by omega
  have h2 : decide (p = q) = false := decide_eq_false (fun e => hl (by rw [e]))
  (repeat (first | refine Zo (Z4 tis @h1 @h2 Zi) ?_ | refine .inl ⟨by kernel_rfl, ?_⟩ | exact .inl (by show _ = _; kernel_rfl) | exact Zc (Z4 tis @h1 @h2 Zi)))
 have h1 : (p.length : Int) = q.length := by omega
 (first | refine Zo (Z2 tis @h1) ?_ | exact Zc (Z2 tis @h1))
 refine run_loop (α := Nat) (fun i => i ≤ p.length ∧ Upto p q i) (fun i => [(0, .sl false 3 (p.map eToken)), (1, .sl false 3 (q.map eToken)), (12, .int .i64 p.length), (13, .int .i64 i)]) (fun i => p.length - i) 0 ⟨Nat.zero_le _, upto_0 _ _⟩ ?_ ?_
 ·(first | refine Zo (Z2 tis @h1) ?_ | exact Zc (Z2 tis @h1))
 ·rintro i ⟨hi', hb⟩
  by_cases hi : i < p.length
  ·have hi2 : i < q.length := by omega
   have key : ∀ x y : Token, (x.rule = y.rule ∧ x.frm = y.frm ∧ x.to = y.to) ↔ x = y := fun x y => by cases x; cases y; simp
   by_cases he : p[i] = q[i]
   ·have e1 : p[i].rule = q[i].rule := by rw [he]
    have e2 : p[i].frm = q[i].frm := by rw [he]
    have e3 : p[i].to = q[i].to := by rw [he]
    (repeat (first | refine Zo (Z7 tis fls eToken.eq_1 @e1 @e2 @e3 Zi) ?_ | refine .inl ⟨by kernel_rfl, ?_⟩ | exact .inl (by show _ = _; kernel_rfl) | exact Zc (Z7 tis fls eToken.eq_1 @e1 @e2 @e3 Zi)))
    exact round_normal (i + 1) ⟨by omega, upto_s hb hi hi2 he⟩ (by (first | refine Zo tis ?_ | exact Zc tis)) (by show p.length - (i + 1) < p.length - i; omega)
   ·have h2 : decide (p = q) = false := decide_eq_false (fun e => he (by subst e; rfl))
    by_cases e1 : p[i].rule = q[i].rule
    ·by_cases e2 : p[i].frm = q[i].frm
     ·have e3 : ¬ p[i].to = q[i].to := fun e3 => he ((key _ _).1 ⟨e1, e2, e3⟩)
      (repeat (first | refine Zo (Z8 tis fls eToken.eq_1 @e1 @e2 @e3 @h2 Zi) ?_ | refine .inl ⟨by kernel_rfl, ?_⟩ | exact .inl (by show _ = _; kernel_rfl) | exact Zc (Z8 tis fls eToken.eq_1 @e1 @e2 @e3 @h2 Zi)))
     ·(repeat (first | refine Zo (Z7 tis fls eToken.eq_1 @e1 @e2 @h2 Zi) ?_ | refine .inl ⟨by kernel_rfl, ?_⟩ | exact .inl (by show _ = _; kernel_rfl) | exact Zc (Z7 tis fls eToken.eq_1 @e1 @e2 @h2 Zi)))
    ·(repeat (first | refine Zo (Z6 tis fls eToken.eq_1 @e1 @h2 Zi) ?_ | refine .inl ⟨by kernel_rfl, ?_⟩ | exact .inl (by show _ = _; kernel_rfl) | exact Zc (Z6 tis fls eToken.eq_1 @e1 @h2 Zi)))
  ·obtain rfl : i = p.length := by omega
   have h2 : decide (p = q) = true := decide_eq_true (upto_e hb hl)
   (repeat (first | refine Zo (Z4 tis fls @h2 Zi) ?_ | refine .inl ⟨by kernel_rfl, ?_⟩ | exact .inl (by show _ = _; kernel_rfl) | exact Zc (Z4 tis fls @h2 Zi)))
theorem fits_lexSame (p q : List Token) (hp : p.length ≤ 1099511627776) : Fits prog 16 [.sl false 3 (p.map eToken), .sl false 3 (q.map eToken)] (.bool (decide (p = q))) [] := by
 have c := fits_sameTok p q hp
 refine fits_of_code [4] [] [0, 1, 4] func16 rfl rfl rfl (by rfl) (by show 2 ≤ 8; decide) (by rfl) (by rfl) (by show 0 ≤ 2; decide) (by rfl) (run_of ?_)
 (repeat (first | refine callL c ?_ | refine callB c ?_ | refine Zo (Z3 tis fls Zi) ?_ | refine .inl ⟨by kernel_rfl, ?_⟩ | exact .inl (by show _ = _; kernel_rfl) | exact Zc (Z3 tis fls Zi)))
theorem fits_sFeedAll (p : List Ins) (cs : List (List UInt8)) (hp : p.length ≤ 1048576) (hc : cs.length ≤ 1048576) (hcs : ∀ c ∈ cs, c.length ≤ 1048576) : Fits prog 19 [.sl false 4 (p.map eIns), .sl false 1 (cs.map eStr)] (.tup [.sl true 3 ((allP p cs).out.map eToken), .int .i64 (allP p cs).base]) [] := by
 have c1 := fits_sProgOk p (by omega)
 have c2 := fits_sFeedOpen p (by omega)
 unfold allP
 cases h1 : progB p with
 | false =>
  refine fits_of_code [4, 5] [] [0, 1, 4, 5, 6, 7, 10, 17] func19 rfl rfl rfl (by rfl) (by show 2 ≤ 34; decide) (by rfl) (by rfl) (by show 0 ≤ 2; decide) (by rfl) (run_of ?_)
  refine Zo tis ?_
  refine callB c1 ?_
  exact Zc (Z4 tis @h1 feedZ.eq_1 @retW2)
 | true =>
  have hb0 : Bd (feedOpenP p) := by
   unfold feedOpenP; rw [if_pos h1]; simp [Bd]; exact hp
  generalize feedOpenP p = f at *
  rw [if_pos rfl]
  unfold eFeed at c2
  refine fits_of_code [4, 5] [] [0, 1, 4, 5, 6, 7, 10, 17] func19 rfl rfl rfl (by rfl) (by show 2 ≤ 34; decide) (by rfl) (by rfl) (by show 0 ≤ 2; decide) (by rfl) (run_of ?_)
  refine Zo tis ?_
  refine callB c1 ?_
  refine Zo (Z2 tis @h1) ?_
  refine callB c2 ?_
  refine Zo (Z2 tis fls) ?_
  refine run_loop (α := Nat) (fun i => i ≤ cs.length) (fun i => [(6, .box (.agg [.sl true 4 (((cs.take i).foldl pushP f).prog.map eIns), .str ((cs.take i).foldl pushP f).buf, .int .i64 ((cs.take i).foldl pushP f).base, .int .i64 ((cs.take i).foldl pushP f).pc, .int .i64 ((cs.take i).foldl pushP f).at_, .int .i64 ((cs.take i).foldl pushP f).rule, .int .i64 ((cs.take i).foldl pushP f).to, .sl true 3 (((cs.take i).foldl pushP f).out.map eToken), .bool ((cs.take i).foldl pushP f).stuck])), (1, .sl false 1 (cs.map eStr)), (7, .int .i64 i)]) (fun i => cs.length - i) 0 (Nat.zero_le _) ?_ ?_
  ·exact Zc (Z2 tis @LLfolnil)
  ·intro i hi'
   have hb1 := bd_fold (cs.take i) hb0
   by_cases hi : i < cs.length
   ·have hw := hcs _ (List.getElem_mem hi)
    have cP := fits_sFeedPush ((cs.take i).foldl pushP f) cs[i] hb1.1 hb1.2.1 hb1.2.2 hw
    rw [fold_at hi] at cP
    have hn := hb1
    generalize hg : (cs.take i).foldl pushP f = g at *
    unfold eFeed at cP
    refine Zo (Z3 tis fls eStr.eq_1) ?_
    refine .inl ⟨by kernel_rfl, ?_⟩
    refine callL cP ?_
    refine Zo (Z3 tis fls @retW2) ?_
    refine round_normal (i + 1) hi ?_ (by show cs.length - (i + 1) < cs.length - i; omega)
    exact Zc tis
   ·have hi2 : i = cs.length := by omega
    subst hi2
    rw [List.take_length] at *
    generalize cs.foldl pushP f = g at *
    have cE := fits_sFeedEnd g hb1.1 hb1.2.1 hb1.2.2
    refine Zo (Z3 tis fls @retW2) ?_
    unfold eFeed at cE
    refine callB cE ?_
    have hb2 : Bd (endP g) := by
     unfold endP; split
     ·rename_i h; exact (endF_FI (goF_FI (feedB_FI h))).bd
     ·simp [Bd, feedZ]
    generalize endP g = d at *
    refine Zo (Z3 tis fls @retW2) ?_
    refine .inr (run_mixl 31 [] [28] 6 [[4, 5], []] (by kernel_rfl) ?_)
    refine Zo (Z3 tis fls @retW2) ?_
    have hb3 := hb2.2.2
    refine ⟨?_, ?_⟩ <;> omega
theorem eF (o : Bool) (f : Feed) : eFeed o f = .agg [.sl o 4 (f.prog.map eIns), .str f.buf, .int .i64 f.base, .int .i64 f.pc, .int .i64 f.at_, .int .i64 f.rule, .int .i64 f.to, .sl o 3 (f.out.map eToken), .bool f.stuck] := rfl
theorem law_LFeedOne (c : List UInt8) (hc : c.length ≤ 9223372036854775807) : Fits prog 5 [.sl false 1 (bytesA c)] (.bool true) [] := by
 by_cases h0 : (1048576 : Int) < c.length
 ·refine fits_of_code [2] [] [0, 2, 3, 4, 5, 6, 7, 8, 9, 10, 11, 14, 45, 58, 62, 71, 105] func5 rfl rfl rfl (by rfl) (by show 1 ≤ 118; decide) (by rfl) (by rfl) (by show 0 ≤ 1; decide) (by rfl) (run_of ?_)
  (repeat (first | refine Zo (Z3 tis @h0 Zi) ?_ | refine .inl ⟨by kernel_rfl, ?_⟩ | exact .inl (by show _ = _; kernel_rfl) | exact Zc (Z3 tis @h0 Zi)))
 have cD := fits_drawFeedAll c hc
 obtain ⟨p1, _⟩ := progV_le (c.take 2000) 0
 obtain ⟨t1, t2, t3⟩ := fedC_len (c.take 2000)
 have tf := fedC_flat (c.take 2000)
 generalize (progV (c.take 2000) 0).1 = P at *
 generalize fedC (c.take 2000) = cs at *
 generalize fedT (c.take 2000) = t at *
 have cO := fits_sProgOk P (by omega)
 have cA := fits_feedAll P cs (by omega) (by omega) (fun x hx => by have := t3 x hx; omega)
 have cS := fits_sFeedAll P cs (by omega) (by omega) (fun x hx => by have := t3 x hx; omega)
 obtain ⟨a1, a2⟩ := allP_run (p := P) tf (by omega)
 rw [a1, a2] at cA cS
 obtain ⟨l1, l2⟩ := runT_le P t
 cases hp : progB P with
 | false =>
  have e : runT P t = ([], 0) := by unfold runT; rw [if_neg (by rw [hp]; simp)]
  rw [hp] at cO
  rw [e] at cA cS
  have cL := fits_lexSame [] [] (by simp)
  rw [decide_eq_true rfl] at cL
  refine fits_of_code [2] [] [0, 2, 3, 4, 5, 6, 7, 8, 9, 10, 11, 14, 45, 58, 62, 71, 105] func5 rfl rfl rfl (by rfl) (by show 1 ≤ 118; decide) (by rfl) (by rfl) (by show 0 ≤ 1; decide) (by rfl) (run_of ?_)
  (repeat (first | refine Zo (Z6 tis fls @h0 @ex_eq @exGo_tup Zi) ?_ | refine .inl ⟨by kernel_rfl, ?_⟩ | exact .inl (by show _ = _; kernel_rfl) | exact Zc (Z6 tis fls @h0 @ex_eq @exGo_tup Zi)); try ((first | refine callL cD ?_ | refine callB cD ?_); repeat (first | refine Zo (Z6 tis fls @h0 @ex_eq @exGo_tup Zi) ?_ | refine .inl ⟨by kernel_rfl, ?_⟩ | exact .inl (by show _ = _; kernel_rfl) | exact Zc (Z6 tis fls @h0 @ex_eq @exGo_tup Zi))); try ((first | refine callL cA ?_ | refine callB cA ?_); repeat (first | refine Zo (Z6 tis fls @h0 @ex_eq @exGo_tup Zi) ?_ | refine .inl ⟨by kernel_rfl, ?_⟩ | exact .inl (by show _ = _; kernel_rfl) | exact Zc (Z6 tis fls @h0 @ex_eq @exGo_tup Zi))); try ((first | refine callL cS ?_ | refine callB cS ?_); repeat (first | refine Zo (Z6 tis fls @h0 @ex_eq @exGo_tup Zi) ?_ | refine .inl ⟨by kernel_rfl, ?_⟩ | exact .inl (by show _ = _; kernel_rfl) | exact Zc (Z6 tis fls @h0 @ex_eq @exGo_tup Zi))); try ((first | refine callL cL ?_ | refine callB cL ?_); repeat (first | refine Zo (Z6 tis fls @h0 @ex_eq @exGo_tup Zi) ?_ | refine .inl ⟨by kernel_rfl, ?_⟩ | exact .inl (by show _ = _; kernel_rfl) | exact Zc (Z6 tis fls @h0 @ex_eq @exGo_tup Zi))); try ((first | refine callL cO ?_ | refine callB cO ?_); repeat (first | refine Zo (Z6 tis fls @h0 @ex_eq @exGo_tup Zi) ?_ | refine .inl ⟨by kernel_rfl, ?_⟩ | exact .inl (by show _ = _; kernel_rfl) | exact Zc (Z6 tis fls @h0 @ex_eq @exGo_tup Zi))); try ((first | refine callL cL ?_ | refine callB cL ?_); repeat (first | refine Zo (Z6 tis fls @h0 @ex_eq @exGo_tup Zi) ?_ | refine .inl ⟨by kernel_rfl, ?_⟩ | exact .inl (by show _ = _; kernel_rfl) | exact Zc (Z6 tis fls @h0 @ex_eq @exGo_tup Zi))))
 | true =>
  rw [hp] at cO
  have hR : ∀ u v, u ++ v = t → feedB (oneP P u) = true ∧ (oneP P u).out = (runT P t).1.take (oneP P u).out.length ∧ (oneP P u).out.length ≤ (runT P t).1.length := by
   rintro u v rfl
   exact oneP_ok hp (by omega)
  obtain ⟨e1, e2⟩ := oneP_end hp (t := t) (by omega)
  have hF : ∀ u v, u ++ v = t → FB (oneP P u) := by
   rintro u v rfl
   exact (oneP_fb hp (by rw [List.length_append] at t1; omega)).1
  generalize runT P t = R at *
  obtain ⟨L, n⟩ := R
  simp only at *
  have cL := fits_lexSame L L (by omega)
  rw [decide_eq_true rfl] at cL
  have cF := fits_feedOpen P (by omega)
  have hbF : Bd (feedOpenP P) := (hF [] t rfl).fi.bd
  have cK := fits_feedOk (feedOpenP P) (by have := hbF.1; omega) (by have := hbF.2.1; omega) (by have := hbF.2.2; omega)
  have h9 := (hR [] t rfl).1
  rw [oneP_nil] at h9
  rw [h9] at cK
  unfold eFeed at cF cK
  refine fits_of_code [2] [] [0, 2, 3, 4, 5, 6, 7, 8, 9, 10, 11, 14, 45, 58, 62, 71, 105] func5 rfl rfl rfl (by rfl) (by show 1 ≤ 118; decide) (by rfl) (by rfl) (by show 0 ≤ 1; decide) (by rfl) (run_of ?_)
  (repeat (first | refine Zo (Z6 tis fls @h0 @ex_eq @exGo_tup Zi) ?_ | refine .inl ⟨by kernel_rfl, ?_⟩ | exact .inl (by show _ = _; kernel_rfl) | exact Zc (Z6 tis fls @h0 @ex_eq @exGo_tup Zi)); try ((first | refine callL cD ?_ | refine callB cD ?_); repeat (first | refine Zo (Z6 tis fls @h0 @ex_eq @exGo_tup Zi) ?_ | refine .inl ⟨by kernel_rfl, ?_⟩ | exact .inl (by show _ = _; kernel_rfl) | exact Zc (Z6 tis fls @h0 @ex_eq @exGo_tup Zi))); try ((first | refine callL cA ?_ | refine callB cA ?_); repeat (first | refine Zo (Z6 tis fls @h0 @ex_eq @exGo_tup Zi) ?_ | refine .inl ⟨by kernel_rfl, ?_⟩ | exact .inl (by show _ = _; kernel_rfl) | exact Zc (Z6 tis fls @h0 @ex_eq @exGo_tup Zi))); try ((first | refine callL cS ?_ | refine callB cS ?_); repeat (first | refine Zo (Z6 tis fls @h0 @ex_eq @exGo_tup Zi) ?_ | refine .inl ⟨by kernel_rfl, ?_⟩ | exact .inl (by show _ = _; kernel_rfl) | exact Zc (Z6 tis fls @h0 @ex_eq @exGo_tup Zi))); try ((first | refine callL cL ?_ | refine callB cL ?_); repeat (first | refine Zo (Z6 tis fls @h0 @ex_eq @exGo_tup Zi) ?_ | refine .inl ⟨by kernel_rfl, ?_⟩ | exact .inl (by show _ = _; kernel_rfl) | exact Zc (Z6 tis fls @h0 @ex_eq @exGo_tup Zi))); try ((first | refine callL cO ?_ | refine callB cO ?_); repeat (first | refine Zo (Z6 tis fls @h0 @ex_eq @exGo_tup Zi) ?_ | refine .inl ⟨by kernel_rfl, ?_⟩ | exact .inl (by show _ = _; kernel_rfl) | exact Zc (Z6 tis fls @h0 @ex_eq @exGo_tup Zi))); try ((first | refine callL cF ?_ | refine callB cF ?_); repeat (first | refine Zo (Z6 tis fls @h0 @ex_eq @exGo_tup Zi) ?_ | refine .inl ⟨by kernel_rfl, ?_⟩ | exact .inl (by show _ = _; kernel_rfl) | exact Zc (Z6 tis fls @h0 @ex_eq @exGo_tup Zi))); try ((first | refine callL cK ?_ | refine callB cK ?_); repeat (first | refine Zo (Z6 tis fls @h0 @ex_eq @exGo_tup Zi) ?_ | refine .inl ⟨by kernel_rfl, ?_⟩ | exact .inl (by show _ = _; kernel_rfl) | exact Zc (Z6 tis fls @h0 @ex_eq @exGo_tup Zi))))
  refine run_loopF [(5, [])] (α := Nat) (fun i => i ≤ cs.length) (fun i => [(3, .sl false 4 (P.map eIns)), (4, .sl true 1 (cs.map eStr)), (5, .sl false 3 (L.map eToken)), (6, .int .i64 n), (9, .box (eFeed true (oneP P (cs.take i).flatten))), (10, .int .i64 i)]) (fun i => cs.length - i) 0 (Nat.zero_le _) ?_ ?_
  ·show _
   rw [show oneP P (cs.take 0).flatten = feedOpenP P from rfl]
   (first | refine Zo (Z3 tis fls @eF) ?_ | exact Zc (Z3 tis fls @eF))
  ·intro i hi'
   by_cases hi : i < cs.length
   ·have e : (cs.take (i + 1)).flatten = (cs.take i).flatten ++ cs[i] := by rw [List.take_succ_eq_append_getElem hi, List.flatten_append]; simp
    have hci := t3 _ (List.getElem_mem hi)
    have hwh : (cs.take i).flatten ++ (cs[i] ++ (cs.drop (i + 1)).flatten) = t := by
     rw [← tf, ← List.append_assoc, ← e, ← List.flatten_append, List.take_append_drop]
    (repeat (first | refine Zo (Z5 tis fls @eF eStr.eq_1 Zi) ?_ | refine .inl ⟨by kernel_rfl, ?_⟩ | exact .inl (by show _ = _; kernel_rfl) | exact Zc (Z5 tis fls @eF eStr.eq_1 Zi)))
    generalize (cs.take i).flatten = w at *
    generalize (cs.drop (i + 1)).flatten = w2 at *
    generalize hx : cs[i] = x at *
    refine run_loop (α := Nat) (fun k => k ≤ x.length) (fun k => [(3, .sl false 4 (P.map eIns)), (4, .sl true 1 (cs.map eStr)), (5, .sl false 3 (L.map eToken)), (6, .int .i64 n), (9, .box (eFeed true (oneP P (w ++ x.take k)))), (10, .int .i64 i), (11, .int .i64 k)]) (fun k => x.length - k) 0 (Nat.zero_le _) ?_ ?_
    ·rw [List.take_zero, List.append_nil]
     (first | refine Zo (Z3 tis fls @eF) ?_ | exact Zc (Z3 tis fls @eF))
    ·intro k hk'
     by_cases hk : k < x.length
     ·have ek : (x.take (k + 1)).drop k = [x[k]] := by
       have hl : (x.take k).length = k := by rw [List.length_take]; omega
       rw [List.take_succ_eq_append_getElem hk, List.drop_left' hl]
      have eg : pushP (oneP P (w ++ x.take k)) [x[k]] = oneP P (w ++ x.take (k + 1)) := by
       rw [← oneP_add, List.append_assoc, ← List.take_succ_eq_append_getElem hk]
      have hs : ∀ j, (w ++ x.take j) ++ (x.drop j ++ w2) = t := by
       intro j; rw [List.append_assoc, ← List.append_assoc (x.take j), List.take_append_drop]; exact hwh
      obtain ⟨r1, r2, r3⟩ := hR _ _ (hs (k + 1))
      have hb := (hF _ _ (hs k)).fi.bd
      have hb2 := (hF _ _ (hs (k + 1))).fi.bd
      have cG := fits_feedPush (oneP P (w ++ x.take k)) [x[k]] hb.1 hb.2.1 hb.2.2 (by simp)
      rw [eg] at cG
      have cK2 := fits_feedOk (oneP P (w ++ x.take (k + 1))) (by have := hb2.1; omega) (by have := hb2.2.1; omega) (by have := hb2.2.2; omega)
      rw [r1] at cK2
      have cL2 := fits_lexSame (oneP P (w ++ x.take (k + 1))).out (L.take (oneP P (w ++ x.take (k + 1))).out.length) (by have := hb2.2.2; omega)
      rw [decide_eq_true r2, List.map_take] at cL2
      rw [eF, eF] at cG
      rw [eF] at cK2
      generalize hg : oneP P (w ++ x.take (k + 1)) = g' at *
      generalize oneP P (w ++ x.take k) = g at *
      have nlt : ¬ (L.length : Int) < g'.out.length := by omega
      (repeat (first | refine Zo (Z8 tis fls @eF eStr.eq_1 @hx @ek @nlt Zi) ?_ | refine .inl ⟨by kernel_rfl, ?_⟩ | exact .inl (by show _ = _; kernel_rfl) | exact Zc (Z8 tis fls @eF eStr.eq_1 @hx @ek @nlt Zi)); try ((first | refine callL cG ?_ | refine callB cG ?_); repeat (first | refine Zo (Z8 tis fls @eF eStr.eq_1 @hx @ek @nlt Zi) ?_ | refine .inl ⟨by kernel_rfl, ?_⟩ | exact .inl (by show _ = _; kernel_rfl) | exact Zc (Z8 tis fls @eF eStr.eq_1 @hx @ek @nlt Zi))); try ((first | refine callL cL2 ?_ | refine callB cL2 ?_); repeat (first | refine Zo (Z8 tis fls @eF eStr.eq_1 @hx @ek @nlt Zi) ?_ | refine .inl ⟨by kernel_rfl, ?_⟩ | exact .inl (by show _ = _; kernel_rfl) | exact Zc (Z8 tis fls @eF eStr.eq_1 @hx @ek @nlt Zi))); try ((first | refine callL cK2 ?_ | refine callB cK2 ?_); repeat (first | refine Zo (Z8 tis fls @eF eStr.eq_1 @hx @ek @nlt Zi) ?_ | refine .inl ⟨by kernel_rfl, ?_⟩ | exact .inl (by show _ = _; kernel_rfl) | exact Zc (Z8 tis fls @eF eStr.eq_1 @hx @ek @nlt Zi))))
      refine round_normal (k + 1) (by omega) ?_ (by show x.length - (k + 1) < x.length - k; omega)
      rw [hg]
      (first | refine Zo (Z3 tis fls @eF) ?_ | exact Zc (Z3 tis fls @eF))
     ·obtain rfl : k = x.length := by omega
      rw [List.take_length]
      (repeat (first | refine Zo (Z6 tis fls @eF eStr.eq_1 @hx Zi) ?_ | refine .inl ⟨by kernel_rfl, ?_⟩ | exact .inl (by show _ = _; kernel_rfl) | exact Zc (Z6 tis fls @eF eStr.eq_1 @hx Zi)))
      refine round_normal (i + 1) (by omega) ?_ (by show cs.length - (i + 1) < cs.length - i; omega)
      rw [e]
      (first | refine Zo (Z3 tis fls @eF) ?_ | exact Zc (Z3 tis fls @eF))
   ·obtain rfl : i = cs.length := by omega
    rw [List.take_length, tf]
    have hb := (hF t [] (List.append_nil t)).fi.bd
    have cE := fits_feedEnd (oneP P t) hb.1 hb.2.1 hb.2.2
    rw [eF, eF, e1, e2] at cE
    (repeat (first | refine Zo (Z6 tis fls @eF @ex_eq @exGo_tup Zi) ?_ | refine .inl ⟨by kernel_rfl, ?_⟩ | exact .inl (by show _ = _; kernel_rfl) | exact Zc (Z6 tis fls @eF @ex_eq @exGo_tup Zi)); try ((first | refine callL cE ?_ | refine callB cE ?_); repeat (first | refine Zo (Z6 tis fls @eF @ex_eq @exGo_tup Zi) ?_ | refine .inl ⟨by kernel_rfl, ?_⟩ | exact .inl (by show _ = _; kernel_rfl) | exact Zc (Z6 tis fls @eF @ex_eq @exGo_tup Zi))); try ((first | refine callL cL ?_ | refine callB cL ?_); repeat (first | refine Zo (Z6 tis fls @eF @ex_eq @exGo_tup Zi) ?_ | refine .inl ⟨by kernel_rfl, ?_⟩ | exact .inl (by show _ = _; kernel_rfl) | exact Zc (Z6 tis fls @eF @ex_eq @exGo_tup Zi))))
theorem own : ownKnob prog.godebug = none := by kernel_rfl
theorem laidOut : laidOutB prog = true := by kernel_rfl
theorem all_map {α : Type} (f : α → AV) : ∀ xs : List AV, (∀ y ∈ xs, ∃ i, y = f i) → ∃ is : List α, xs = is.map f
 | [], _ => ⟨[], rfl⟩
 | y :: r, h => by
  obtain ⟨i, rfl⟩ := h y (List.mem_cons_self ..)
  obtain ⟨is, rfl⟩ := all_map f r (fun z hz => h z (List.mem_cons_of_mem _ hz))
  exact ⟨i :: is, rfl⟩
theorem typ_byte {n : Nat} {x : AV} (h : Typed prog n 5 x) : ∃ v : UInt8, x = .int .u8 v.toNat := by
 cases n with
 | zero => exact h.elim
 | succ n =>
  simp only [Typed, underlying5] at h
  obtain ⟨v, rfl, hw⟩ := h
  simp [Lit.wf, IntKind.min, IntKind.max, IntKind.bits, IntKind.signed] at hw
  refine ⟨UInt8.ofNat v.toNat, ?_⟩
  rw [UInt8.toNat_ofNat']
  congr 1
  omega
theorem typ_code {n : Nat} {x : AV} (h : Typed prog n 22 x) : ∃ c : List UInt8, x = .sl false 1 (bytesA c) ∧ c.length ≤ 9223372036854775807 := by
 cases n with
 | zero => exact h.elim
 | succ n =>
  have co : prog.cellsOf 5 = 1 := by kernel_rfl
  simp only [Typed, underlying22, co] at h
  obtain ⟨xs, rfl, hl, hf⟩ := h
  obtain ⟨p, rfl⟩ := all_map (fun v : UInt8 => AV.int .u8 v.toNat) xs (fun y hy => typ_byte (hf y hy))
  exact ⟨p, rfl, by simpa [maxLen] using hl⟩
end Go.Proofs.Ytikpjpinkkllaaa.U
