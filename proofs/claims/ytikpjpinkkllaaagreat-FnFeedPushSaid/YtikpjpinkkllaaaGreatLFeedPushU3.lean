/- What functions of the program answer, on values without memory (part 3): conditions stand at each theorem. -/
import Derived.Test.YtikpjpinkkllaaaGreatRows
import Derived.Test.YtikpjpinkkllaaaGreatLFeedPushU2
set_option linter.unusedVariables false
set_option linter.unusedSimpArgs false
set_option maxRecDepth 100000
set_option maxHeartbeats 4000000
namespace Go.Proofs.YtikpjpinkkllaaaGreat.U
open Go Go.RowKit Go.Proofs Go.Proofs.YtikpjpinkkllaaaGreat.Am AV Go.Proofs.Tryz
theorem law_LFeedPush (c : List UInt8) (hc : c.length ≤ 9223372036854775807) (m : List UInt8) (hm : m.length ≤ 9223372036854775807) : Fits prog 4 [.sl false 1 (bytesA c), .sl false 1 (bytesA m)] (.bool true) [] := by
 by_cases h0 : (1048576 : Int) < c.length
 ·refine fits_of_code [4] [] [0, 1, 4, 5, 6, 7, 8, 9, 17, 38, 41, 84, 94] func4 rfl rfl rfl (by rfl) (by show 2 ≤ 126; decide) (by rfl) (by rfl) (by show 0 ≤ 2; decide) (by rfl) (run_of ?_)
  (repeat (first | refine Zo (Z3 tis @h0 Zi) ?_ | refine .inl ⟨by kernel_rfl, ?_⟩ | exact .inl (by show _ = _; kernel_rfl) | exact Zc (Z3 tis @h0 Zi)))
 by_cases h1 : (1048576 : Int) < m.length
 ·refine fits_of_code [4] [] [0, 1, 4, 5, 6, 7, 8, 9, 17, 38, 41, 84, 94] func4 rfl rfl rfl (by rfl) (by show 2 ≤ 126; decide) (by rfl) (by rfl) (by show 0 ≤ 2; decide) (by rfl) (run_of ?_)
  (repeat (first | refine Zo (Z4 tis @h0 @h1 Zi) ?_ | refine .inl ⟨by kernel_rfl, ?_⟩ | exact .inl (by show _ = _; kernel_rfl) | exact Zc (Z4 tis @h0 @h1 Zi)))
 have cD := fits_drawFeedPush c hc
 have hT := pushT_le (c.take 2000)
 obtain ⟨hb1, hb2, hb3⟩ := feedV_bd (c.take 2000) 0
 generalize (feedV (c.take 2000) 0).1 = f at *
 generalize pushT (c.take 2000) = t at *
 have cP := fits_feedPush f t hb1 hb2 hb3 (by omega)
 have cQ := fits_sFeedPush f t hb1 hb2 hb3 (by omega)
 have cA := fits_feedOk f (by omega) (by omega) (by omega)
 have cB := fits_sFeedOk f (by omega) (by omega) (by omega)
 cases hB : feedB f with
 | false =>
  have e : pushP f t = feedZ := by unfold pushP; rw [if_neg (by rw [hB]; decide)]
  rw [e] at cP cQ
  rw [hB] at cA cB
  have cW := fits_feedSame2 feedZ feedZ (by decide) (by decide)
  rw [decide_eq_true rfl] at cW
  refine fits_of_code [4] [] [0, 1, 4, 5, 6, 7, 8, 9, 17, 38, 41, 84, 94] func4 rfl rfl rfl (by rfl) (by show 2 ≤ 126; decide) (by rfl) (by rfl) (by show 0 ≤ 2; decide) (by rfl) (run_of ?_)
  (repeat (first | refine Zo (Z8 tis fls @h0 @h1 @eF @ex_eq @exGo_tup Zi) ?_ | refine .inl ⟨by kernel_rfl, ?_⟩ | exact .inl (by show _ = _; kernel_rfl) | exact Zc (Z8 tis fls @h0 @h1 @eF @ex_eq @exGo_tup Zi)); try ((first | refine callL cD ?_ | refine callB cD ?_); repeat (first | refine Zo (Z8 tis fls @h0 @h1 @eF @ex_eq @exGo_tup Zi) ?_ | refine .inl ⟨by kernel_rfl, ?_⟩ | exact .inl (by show _ = _; kernel_rfl) | exact Zc (Z8 tis fls @h0 @h1 @eF @ex_eq @exGo_tup Zi))); try ((first | refine callL cP ?_ | refine callB cP ?_); repeat (first | refine Zo (Z8 tis fls @h0 @h1 @eF @ex_eq @exGo_tup Zi) ?_ | refine .inl ⟨by kernel_rfl, ?_⟩ | exact .inl (by show _ = _; kernel_rfl) | exact Zc (Z8 tis fls @h0 @h1 @eF @ex_eq @exGo_tup Zi))); try ((first | refine callL cQ ?_ | refine callB cQ ?_); repeat (first | refine Zo (Z8 tis fls @h0 @h1 @eF @ex_eq @exGo_tup Zi) ?_ | refine .inl ⟨by kernel_rfl, ?_⟩ | exact .inl (by show _ = _; kernel_rfl) | exact Zc (Z8 tis fls @h0 @h1 @eF @ex_eq @exGo_tup Zi))); try ((first | refine callL cW ?_ | refine callB cW ?_); repeat (first | refine Zo (Z8 tis fls @h0 @h1 @eF @ex_eq @exGo_tup Zi) ?_ | refine .inl ⟨by kernel_rfl, ?_⟩ | exact .inl (by show _ = _; kernel_rfl) | exact Zc (Z8 tis fls @h0 @h1 @eF @ex_eq @exGo_tup Zi))); try ((first | refine callL cA ?_ | refine callB cA ?_); repeat (first | refine Zo (Z8 tis fls @h0 @h1 @eF @ex_eq @exGo_tup Zi) ?_ | refine .inl ⟨by kernel_rfl, ?_⟩ | exact .inl (by show _ = _; kernel_rfl) | exact Zc (Z8 tis fls @h0 @h1 @eF @ex_eq @exGo_tup Zi))); try ((first | refine callL cB ?_ | refine callB cB ?_); repeat (first | refine Zo (Z8 tis fls @h0 @h1 @eF @ex_eq @exGo_tup Zi) ?_ | refine .inl ⟨by kernel_rfl, ?_⟩ | exact .inl (by show _ = _; kernel_rfl) | exact Zc (Z8 tis fls @h0 @h1 @eF @ex_eq @exGo_tup Zi))); try ((first | refine callL cB ?_ | refine callB cB ?_); repeat (first | refine Zo (Z8 tis fls @h0 @h1 @eF @ex_eq @exGo_tup Zi) ?_ | refine .inl ⟨by kernel_rfl, ?_⟩ | exact .inl (by show _ = _; kernel_rfl) | exact Zc (Z8 tis fls @h0 @h1 @eF @ex_eq @exGo_tup Zi))))
  rfl
 | true =>
  have hF := feedB_iff.1 hB
  have kk : Int.tmod (m.length : Int) ((t.length : Int) + 1) = ((m.length % (t.length + 1) : Nat) : Int) := tmod_nn m.length (t.length + 1)
  have hk : m.length % (t.length + 1) ≤ t.length := by have := Nat.mod_lt m.length (show 0 < t.length + 1 by omega); omega
  generalize m.length % (t.length + 1) = k at *
  have kz : ¬ (t.length : Int) + 1 = 0 := by omega
  obtain ⟨x1, x2, x3⟩ := pushP_on hF t
  obtain ⟨y1, _, _⟩ := pushP_on hF (t.take k)
  obtain ⟨z1, _, _⟩ := pushP_on y1 (t.drop k)
  have hkx := feedB_iff.2 x1
  have hba := hF.fi.base
  obtain ⟨bx1, bx2, bx3⟩ := x1.fi.bd
  obtain ⟨by1, by2, by3⟩ := y1.fi.bd
  obtain ⟨bz1, bz2, bz3⟩ := z1.fi.bd
  have lt : (t.take k).length ≤ 300 := by rw [List.length_take]; omega
  have ld : (t.drop k).length ≤ 300 := by rw [List.length_drop]; omega
  have cU := fits_feedPush f (t.take k) hb1 hb2 hb3 (by omega)
  have cV := fits_feedPush (pushP f (t.take k)) (t.drop k) by1 by2 by3 (by omega)
  have h2 := push_two hF (t.take k) (t.drop k)
  rw [List.take_append_drop, ← List.length_append, List.take_append_drop] at h2
  have h3 : ¬ f.base + f.buf.length + t.length ≤ 200 → pushP f t = f := fun h => pushP_stuck hF (.inr (by omega))
  rw [hB] at cA cB
  generalize pushP (pushP f (t.take k)) (t.drop k) = z at *
  generalize pushP f (t.take k) = y at *
  generalize pushP f t = x at *
  have cW := fits_feedSame2 x x (by omega) (by omega)
  rw [decide_eq_true rfl] at cW
  have cX := fits_feedOk x (by omega) (by omega) (by omega)
  rw [hkx] at cX
  have ex : f.out = x.out.take f.out.length := by obtain ⟨s, hs⟩ := x2; rw [← hs, List.take_left']; rfl
  have lx : f.out.length ≤ x.out.length := x2.length_le
  have cL := fits_lexSame (x.out.take f.out.length) f.out (by rw [List.length_take]; omega)
  rw [decide_eq_true ex.symm, List.map_take] at cL
  have lxn : ¬ (x.out.length : Int) < f.out.length := by omega
  by_cases hs : f.base + f.buf.length + t.length ≤ 200
  case neg =>
   have hs2 : (200 : Int) < f.base + f.buf.length + t.length := by omega
   obtain rfl := h3 hs
   refine fits_of_code [4] [] [0, 1, 4, 5, 6, 7, 8, 9, 17, 38, 41, 84, 94] func4 rfl rfl rfl (by rfl) (by show 2 ≤ 126; decide) (by rfl) (by rfl) (by show 0 ≤ 2; decide) (by rfl) (run_of ?_)
   (repeat (first | refine Zo (Z12 tis fls @h0 @h1 @eF @ex_eq @exGo_tup @kk @kz @lxn @hs2 Zi) ?_ | refine .inl ⟨by kernel_rfl, ?_⟩ | exact .inl (by show _ = _; kernel_rfl) | exact Zc (Z12 tis fls @h0 @h1 @eF @ex_eq @exGo_tup @kk @kz @lxn @hs2 Zi)); try ((first | refine callL cD ?_ | refine callB cD ?_); repeat (first | refine Zo (Z12 tis fls @h0 @h1 @eF @ex_eq @exGo_tup @kk @kz @lxn @hs2 Zi) ?_ | refine .inl ⟨by kernel_rfl, ?_⟩ | exact .inl (by show _ = _; kernel_rfl) | exact Zc (Z12 tis fls @h0 @h1 @eF @ex_eq @exGo_tup @kk @kz @lxn @hs2 Zi))); try ((first | refine callL cP ?_ | refine callB cP ?_); repeat (first | refine Zo (Z12 tis fls @h0 @h1 @eF @ex_eq @exGo_tup @kk @kz @lxn @hs2 Zi) ?_ | refine .inl ⟨by kernel_rfl, ?_⟩ | exact .inl (by show _ = _; kernel_rfl) | exact Zc (Z12 tis fls @h0 @h1 @eF @ex_eq @exGo_tup @kk @kz @lxn @hs2 Zi))); try ((first | refine callL cQ ?_ | refine callB cQ ?_); repeat (first | refine Zo (Z12 tis fls @h0 @h1 @eF @ex_eq @exGo_tup @kk @kz @lxn @hs2 Zi) ?_ | refine .inl ⟨by kernel_rfl, ?_⟩ | exact .inl (by show _ = _; kernel_rfl) | exact Zc (Z12 tis fls @h0 @h1 @eF @ex_eq @exGo_tup @kk @kz @lxn @hs2 Zi))); try ((first | refine callL cW ?_ | refine callB cW ?_); repeat (first | refine Zo (Z12 tis fls @h0 @h1 @eF @ex_eq @exGo_tup @kk @kz @lxn @hs2 Zi) ?_ | refine .inl ⟨by kernel_rfl, ?_⟩ | exact .inl (by show _ = _; kernel_rfl) | exact Zc (Z12 tis fls @h0 @h1 @eF @ex_eq @exGo_tup @kk @kz @lxn @hs2 Zi))); try ((first | refine callL cA ?_ | refine callB cA ?_); repeat (first | refine Zo (Z12 tis fls @h0 @h1 @eF @ex_eq @exGo_tup @kk @kz @lxn @hs2 Zi) ?_ | refine .inl ⟨by kernel_rfl, ?_⟩ | exact .inl (by show _ = _; kernel_rfl) | exact Zc (Z12 tis fls @h0 @h1 @eF @ex_eq @exGo_tup @kk @kz @lxn @hs2 Zi))); try ((first | refine callL cB ?_ | refine callB cB ?_); repeat (first | refine Zo (Z12 tis fls @h0 @h1 @eF @ex_eq @exGo_tup @kk @kz @lxn @hs2 Zi) ?_ | refine .inl ⟨by kernel_rfl, ?_⟩ | exact .inl (by show _ = _; kernel_rfl) | exact Zc (Z12 tis fls @h0 @h1 @eF @ex_eq @exGo_tup @kk @kz @lxn @hs2 Zi))); try (refine callF [(7, [0])] cB ?_; repeat (first | refine Zo (Z12 tis fls @h0 @h1 @eF @ex_eq @exGo_tup @kk @kz @lxn @hs2 Zi) ?_ | refine .inl ⟨by kernel_rfl, ?_⟩ | exact .inl (by show _ = _; kernel_rfl) | exact Zc (Z12 tis fls @h0 @h1 @eF @ex_eq @exGo_tup @kk @kz @lxn @hs2 Zi))); try ((first | refine callL cU ?_ | refine callB cU ?_); repeat (first | refine Zo (Z12 tis fls @h0 @h1 @eF @ex_eq @exGo_tup @kk @kz @lxn @hs2 Zi) ?_ | refine .inl ⟨by kernel_rfl, ?_⟩ | exact .inl (by show _ = _; kernel_rfl) | exact Zc (Z12 tis fls @h0 @h1 @eF @ex_eq @exGo_tup @kk @kz @lxn @hs2 Zi))); try ((first | refine callL cV ?_ | refine callB cV ?_); repeat (first | refine Zo (Z12 tis fls @h0 @h1 @eF @ex_eq @exGo_tup @kk @kz @lxn @hs2 Zi) ?_ | refine .inl ⟨by kernel_rfl, ?_⟩ | exact .inl (by show _ = _; kernel_rfl) | exact Zc (Z12 tis fls @h0 @h1 @eF @ex_eq @exGo_tup @kk @kz @lxn @hs2 Zi))); try ((first | refine callL cX ?_ | refine callB cX ?_); repeat (first | refine Zo (Z12 tis fls @h0 @h1 @eF @ex_eq @exGo_tup @kk @kz @lxn @hs2 Zi) ?_ | refine .inl ⟨by kernel_rfl, ?_⟩ | exact .inl (by show _ = _; kernel_rfl) | exact Zc (Z12 tis fls @h0 @h1 @eF @ex_eq @exGo_tup @kk @kz @lxn @hs2 Zi))); try ((first | refine callL cL ?_ | refine callB cL ?_); repeat (first | refine Zo (Z12 tis fls @h0 @h1 @eF @ex_eq @exGo_tup @kk @kz @lxn @hs2 Zi) ?_ | refine .inl ⟨by kernel_rfl, ?_⟩ | exact .inl (by show _ = _; kernel_rfl) | exact Zc (Z12 tis fls @h0 @h1 @eF @ex_eq @exGo_tup @kk @kz @lxn @hs2 Zi))); try ((first | refine callL cW ?_ | refine callB cW ?_); repeat (first | refine Zo (Z12 tis fls @h0 @h1 @eF @ex_eq @exGo_tup @kk @kz @lxn @hs2 Zi) ?_ | refine .inl ⟨by kernel_rfl, ?_⟩ | exact .inl (by show _ = _; kernel_rfl) | exact Zc (Z12 tis fls @h0 @h1 @eF @ex_eq @exGo_tup @kk @kz @lxn @hs2 Zi))))
   done
  have hs2 : ¬ (200 : Int) < f.base + f.buf.length + t.length := by omega
  obtain ⟨o1, o2, o3⟩ := (h2 hs).obs
  have cM := fits_lexSame x.out z.out (by omega)
  rw [decide_eq_true o1] at cM
  cases hst : x.stuck with
  | true =>
   have hsz : z.stuck = true := by rw [← o3]; exact hst
   refine fits_of_code [4] [] [0, 1, 4, 5, 6, 7, 8, 9, 17, 38, 41, 84, 94] func4 rfl rfl rfl (by rfl) (by show 2 ≤ 126; decide) (by rfl) (by rfl) (by show 0 ≤ 2; decide) (by rfl) (run_of ?_)
   (repeat (first | refine Zo (Z14 tis fls @h0 @h1 @eF @ex_eq @exGo_tup @kk @kz @lxn @hs2 @hst @hsz Zi) ?_ | refine .inl ⟨by kernel_rfl, ?_⟩ | exact .inl (by show _ = _; kernel_rfl) | exact Zc (Z14 tis fls @h0 @h1 @eF @ex_eq @exGo_tup @kk @kz @lxn @hs2 @hst @hsz Zi)); try ((first | refine callL cD ?_ | refine callB cD ?_); repeat (first | refine Zo (Z14 tis fls @h0 @h1 @eF @ex_eq @exGo_tup @kk @kz @lxn @hs2 @hst @hsz Zi) ?_ | refine .inl ⟨by kernel_rfl, ?_⟩ | exact .inl (by show _ = _; kernel_rfl) | exact Zc (Z14 tis fls @h0 @h1 @eF @ex_eq @exGo_tup @kk @kz @lxn @hs2 @hst @hsz Zi))); try ((first | refine callL cP ?_ | refine callB cP ?_); repeat (first | refine Zo (Z14 tis fls @h0 @h1 @eF @ex_eq @exGo_tup @kk @kz @lxn @hs2 @hst @hsz Zi) ?_ | refine .inl ⟨by kernel_rfl, ?_⟩ | exact .inl (by show _ = _; kernel_rfl) | exact Zc (Z14 tis fls @h0 @h1 @eF @ex_eq @exGo_tup @kk @kz @lxn @hs2 @hst @hsz Zi))); try ((first | refine callL cQ ?_ | refine callB cQ ?_); repeat (first | refine Zo (Z14 tis fls @h0 @h1 @eF @ex_eq @exGo_tup @kk @kz @lxn @hs2 @hst @hsz Zi) ?_ | refine .inl ⟨by kernel_rfl, ?_⟩ | exact .inl (by show _ = _; kernel_rfl) | exact Zc (Z14 tis fls @h0 @h1 @eF @ex_eq @exGo_tup @kk @kz @lxn @hs2 @hst @hsz Zi))); try ((first | refine callL cW ?_ | refine callB cW ?_); repeat (first | refine Zo (Z14 tis fls @h0 @h1 @eF @ex_eq @exGo_tup @kk @kz @lxn @hs2 @hst @hsz Zi) ?_ | refine .inl ⟨by kernel_rfl, ?_⟩ | exact .inl (by show _ = _; kernel_rfl) | exact Zc (Z14 tis fls @h0 @h1 @eF @ex_eq @exGo_tup @kk @kz @lxn @hs2 @hst @hsz Zi))); try ((first | refine callL cA ?_ | refine callB cA ?_); repeat (first | refine Zo (Z14 tis fls @h0 @h1 @eF @ex_eq @exGo_tup @kk @kz @lxn @hs2 @hst @hsz Zi) ?_ | refine .inl ⟨by kernel_rfl, ?_⟩ | exact .inl (by show _ = _; kernel_rfl) | exact Zc (Z14 tis fls @h0 @h1 @eF @ex_eq @exGo_tup @kk @kz @lxn @hs2 @hst @hsz Zi))); try ((first | refine callL cB ?_ | refine callB cB ?_); repeat (first | refine Zo (Z14 tis fls @h0 @h1 @eF @ex_eq @exGo_tup @kk @kz @lxn @hs2 @hst @hsz Zi) ?_ | refine .inl ⟨by kernel_rfl, ?_⟩ | exact .inl (by show _ = _; kernel_rfl) | exact Zc (Z14 tis fls @h0 @h1 @eF @ex_eq @exGo_tup @kk @kz @lxn @hs2 @hst @hsz Zi))); try (refine callF [(7, [0])] cB ?_; repeat (first | refine Zo (Z14 tis fls @h0 @h1 @eF @ex_eq @exGo_tup @kk @kz @lxn @hs2 @hst @hsz Zi) ?_ | refine .inl ⟨by kernel_rfl, ?_⟩ | exact .inl (by show _ = _; kernel_rfl) | exact Zc (Z14 tis fls @h0 @h1 @eF @ex_eq @exGo_tup @kk @kz @lxn @hs2 @hst @hsz Zi))); try ((first | refine callL cU ?_ | refine callB cU ?_); repeat (first | refine Zo (Z14 tis fls @h0 @h1 @eF @ex_eq @exGo_tup @kk @kz @lxn @hs2 @hst @hsz Zi) ?_ | refine .inl ⟨by kernel_rfl, ?_⟩ | exact .inl (by show _ = _; kernel_rfl) | exact Zc (Z14 tis fls @h0 @h1 @eF @ex_eq @exGo_tup @kk @kz @lxn @hs2 @hst @hsz Zi))); try ((first | refine callL cV ?_ | refine callB cV ?_); repeat (first | refine Zo (Z14 tis fls @h0 @h1 @eF @ex_eq @exGo_tup @kk @kz @lxn @hs2 @hst @hsz Zi) ?_ | refine .inl ⟨by kernel_rfl, ?_⟩ | exact .inl (by show _ = _; kernel_rfl) | exact Zc (Z14 tis fls @h0 @h1 @eF @ex_eq @exGo_tup @kk @kz @lxn @hs2 @hst @hsz Zi))); try ((first | refine callL cX ?_ | refine callB cX ?_); repeat (first | refine Zo (Z14 tis fls @h0 @h1 @eF @ex_eq @exGo_tup @kk @kz @lxn @hs2 @hst @hsz Zi) ?_ | refine .inl ⟨by kernel_rfl, ?_⟩ | exact .inl (by show _ = _; kernel_rfl) | exact Zc (Z14 tis fls @h0 @h1 @eF @ex_eq @exGo_tup @kk @kz @lxn @hs2 @hst @hsz Zi))); try ((first | refine callL cL ?_ | refine callB cL ?_); repeat (first | refine Zo (Z14 tis fls @h0 @h1 @eF @ex_eq @exGo_tup @kk @kz @lxn @hs2 @hst @hsz Zi) ?_ | refine .inl ⟨by kernel_rfl, ?_⟩ | exact .inl (by show _ = _; kernel_rfl) | exact Zc (Z14 tis fls @h0 @h1 @eF @ex_eq @exGo_tup @kk @kz @lxn @hs2 @hst @hsz Zi))); try ((first | refine callL cM ?_ | refine callB cM ?_); repeat (first | refine Zo (Z14 tis fls @h0 @h1 @eF @ex_eq @exGo_tup @kk @kz @lxn @hs2 @hst @hsz Zi) ?_ | refine .inl ⟨by kernel_rfl, ?_⟩ | exact .inl (by show _ = _; kernel_rfl) | exact Zc (Z14 tis fls @h0 @h1 @eF @ex_eq @exGo_tup @kk @kz @lxn @hs2 @hst @hsz Zi))))
   done
  | false =>
   have exz : x = z := by
    rcases h2 hs with h | ⟨h, _⟩
    ·exact h
    ·rw [hst] at h; exact absurd h (by decide)
   subst exz
   refine fits_of_code [4] [] [0, 1, 4, 5, 6, 7, 8, 9, 17, 38, 41, 84, 94] func4 rfl rfl rfl (by rfl) (by show 2 ≤ 126; decide) (by rfl) (by rfl) (by show 0 ≤ 2; decide) (by rfl) (run_of ?_)
   (repeat (first | refine Zo (Z13 tis fls @h0 @h1 @eF @ex_eq @exGo_tup @kk @kz @lxn @hs2 @hst Zi) ?_ | refine .inl ⟨by kernel_rfl, ?_⟩ | exact .inl (by show _ = _; kernel_rfl) | exact Zc (Z13 tis fls @h0 @h1 @eF @ex_eq @exGo_tup @kk @kz @lxn @hs2 @hst Zi)); try ((first | refine callL cD ?_ | refine callB cD ?_); repeat (first | refine Zo (Z13 tis fls @h0 @h1 @eF @ex_eq @exGo_tup @kk @kz @lxn @hs2 @hst Zi) ?_ | refine .inl ⟨by kernel_rfl, ?_⟩ | exact .inl (by show _ = _; kernel_rfl) | exact Zc (Z13 tis fls @h0 @h1 @eF @ex_eq @exGo_tup @kk @kz @lxn @hs2 @hst Zi))); try ((first | refine callL cP ?_ | refine callB cP ?_); repeat (first | refine Zo (Z13 tis fls @h0 @h1 @eF @ex_eq @exGo_tup @kk @kz @lxn @hs2 @hst Zi) ?_ | refine .inl ⟨by kernel_rfl, ?_⟩ | exact .inl (by show _ = _; kernel_rfl) | exact Zc (Z13 tis fls @h0 @h1 @eF @ex_eq @exGo_tup @kk @kz @lxn @hs2 @hst Zi))); try ((first | refine callL cQ ?_ | refine callB cQ ?_); repeat (first | refine Zo (Z13 tis fls @h0 @h1 @eF @ex_eq @exGo_tup @kk @kz @lxn @hs2 @hst Zi) ?_ | refine .inl ⟨by kernel_rfl, ?_⟩ | exact .inl (by show _ = _; kernel_rfl) | exact Zc (Z13 tis fls @h0 @h1 @eF @ex_eq @exGo_tup @kk @kz @lxn @hs2 @hst Zi))); try ((first | refine callL cW ?_ | refine callB cW ?_); repeat (first | refine Zo (Z13 tis fls @h0 @h1 @eF @ex_eq @exGo_tup @kk @kz @lxn @hs2 @hst Zi) ?_ | refine .inl ⟨by kernel_rfl, ?_⟩ | exact .inl (by show _ = _; kernel_rfl) | exact Zc (Z13 tis fls @h0 @h1 @eF @ex_eq @exGo_tup @kk @kz @lxn @hs2 @hst Zi))); try ((first | refine callL cA ?_ | refine callB cA ?_); repeat (first | refine Zo (Z13 tis fls @h0 @h1 @eF @ex_eq @exGo_tup @kk @kz @lxn @hs2 @hst Zi) ?_ | refine .inl ⟨by kernel_rfl, ?_⟩ | exact .inl (by show _ = _; kernel_rfl) | exact Zc (Z13 tis fls @h0 @h1 @eF @ex_eq @exGo_tup @kk @kz @lxn @hs2 @hst Zi))); try ((first | refine callL cB ?_ | refine callB cB ?_); repeat (first | refine Zo (Z13 tis fls @h0 @h1 @eF @ex_eq @exGo_tup @kk @kz @lxn @hs2 @hst Zi) ?_ | refine .inl ⟨by kernel_rfl, ?_⟩ | exact .inl (by show _ = _; kernel_rfl) | exact Zc (Z13 tis fls @h0 @h1 @eF @ex_eq @exGo_tup @kk @kz @lxn @hs2 @hst Zi))); try (refine callF [(7, [0])] cB ?_; repeat (first | refine Zo (Z13 tis fls @h0 @h1 @eF @ex_eq @exGo_tup @kk @kz @lxn @hs2 @hst Zi) ?_ | refine .inl ⟨by kernel_rfl, ?_⟩ | exact .inl (by show _ = _; kernel_rfl) | exact Zc (Z13 tis fls @h0 @h1 @eF @ex_eq @exGo_tup @kk @kz @lxn @hs2 @hst Zi))); try ((first | refine callL cU ?_ | refine callB cU ?_); repeat (first | refine Zo (Z13 tis fls @h0 @h1 @eF @ex_eq @exGo_tup @kk @kz @lxn @hs2 @hst Zi) ?_ | refine .inl ⟨by kernel_rfl, ?_⟩ | exact .inl (by show _ = _; kernel_rfl) | exact Zc (Z13 tis fls @h0 @h1 @eF @ex_eq @exGo_tup @kk @kz @lxn @hs2 @hst Zi))); try ((first | refine callL cV ?_ | refine callB cV ?_); repeat (first | refine Zo (Z13 tis fls @h0 @h1 @eF @ex_eq @exGo_tup @kk @kz @lxn @hs2 @hst Zi) ?_ | refine .inl ⟨by kernel_rfl, ?_⟩ | exact .inl (by show _ = _; kernel_rfl) | exact Zc (Z13 tis fls @h0 @h1 @eF @ex_eq @exGo_tup @kk @kz @lxn @hs2 @hst Zi))); try ((first | refine callL cX ?_ | refine callB cX ?_); repeat (first | refine Zo (Z13 tis fls @h0 @h1 @eF @ex_eq @exGo_tup @kk @kz @lxn @hs2 @hst Zi) ?_ | refine .inl ⟨by kernel_rfl, ?_⟩ | exact .inl (by show _ = _; kernel_rfl) | exact Zc (Z13 tis fls @h0 @h1 @eF @ex_eq @exGo_tup @kk @kz @lxn @hs2 @hst Zi))); try ((first | refine callL cL ?_ | refine callB cL ?_); repeat (first | refine Zo (Z13 tis fls @h0 @h1 @eF @ex_eq @exGo_tup @kk @kz @lxn @hs2 @hst Zi) ?_ | refine .inl ⟨by kernel_rfl, ?_⟩ | exact .inl (by show _ = _; kernel_rfl) | exact Zc (Z13 tis fls @h0 @h1 @eF @ex_eq @exGo_tup @kk @kz @lxn @hs2 @hst Zi))); try ((first | refine callL cM ?_ | refine callB cM ?_); repeat (first | refine Zo (Z13 tis fls @h0 @h1 @eF @ex_eq @exGo_tup @kk @kz @lxn @hs2 @hst Zi) ?_ | refine .inl ⟨by kernel_rfl, ?_⟩ | exact .inl (by show _ = _; kernel_rfl) | exact Zc (Z13 tis fls @h0 @h1 @eF @ex_eq @exGo_tup @kk @kz @lxn @hs2 @hst Zi))); try ((first | refine callL cW ?_ | refine callB cW ?_); repeat (first | refine Zo (Z13 tis fls @h0 @h1 @eF @ex_eq @exGo_tup @kk @kz @lxn @hs2 @hst Zi) ?_ | refine .inl ⟨by kernel_rfl, ?_⟩ | exact .inl (by show _ = _; kernel_rfl) | exact Zc (Z13 tis fls @h0 @h1 @eF @ex_eq @exGo_tup @kk @kz @lxn @hs2 @hst Zi))))
   done
theorem own : ownKnob prog.godebug = none := by kernel_rfl
theorem laidOut : laidOutB prog = true := by kernel_rfl
theorem all_map {α : Type} (f : α → AV) : ∀ xs : List AV, (∀ y ∈ xs, ∃ i, y = f i) → ∃ is : List α, xs = is.map f
 | [], _ => ⟨[], rfl⟩
 | y :: r, h => by
  obtain ⟨i, rfl⟩ := h y (List.mem_cons_self ..)
  obtain ⟨is, rfl⟩ := all_map f r (fun z hz => h z (List.mem_cons_of_mem _ hz))
  exact ⟨i :: is, rfl⟩
theorem typ_byte {n : Nat} {x : AV} (h : Typed prog n 5 x) : ∃ v : UInt8, x = .int .u8 v.toNat := by
 cases n with
 | zero => exact h.elim
 | succ n =>
  simp only [Typed, underlying5] at h
  obtain ⟨v, rfl, hw⟩ := h
  simp [Lit.wf, IntKind.min, IntKind.max, IntKind.bits, IntKind.signed] at hw
  refine ⟨UInt8.ofNat v.toNat, ?_⟩
  rw [UInt8.toNat_ofNat']
  congr 1
  omega
theorem typ_code {n : Nat} {x : AV} (h : Typed prog n 22 x) : ∃ c : List UInt8, x = .sl false 1 (bytesA c) ∧ c.length ≤ 9223372036854775807 := by
 cases n with
 | zero => exact h.elim
 | succ n =>
  have co : prog.cellsOf 5 = 1 := by kernel_rfl
  simp only [Typed, underlying22, co] at h
  obtain ⟨xs, rfl, hl, hf⟩ := h
  obtain ⟨p, rfl⟩ := all_map (fun v : UInt8 => AV.int .u8 v.toNat) xs (fun y hy => typ_byte (hf y hy))
  exact ⟨p, rfl, by simpa [maxLen] using hl⟩
end Go.Proofs.YtikpjpinkkllaaaGreat.U
