/- The law FnFeedPush returns true whatever its arguments, and its arguments read as they did. No conditions. -/
import Derived.Test.YtikpjpinkkllaaaGreatRows
import Derived.Test.YtikpjpinkkllaaaGreatLFeedPushU3
set_option linter.unusedVariables false
set_option linter.unusedSimpArgs false
set_option maxRecDepth 100000
set_option maxHeartbeats 4000000
namespace Go.Proofs.YtikpjpinkkllaaaGreat.LFeedPush
open Go.Proofs.YtikpjpinkkllaaaGreat.U Go Go.RowKit Go.Proofs Go.Proofs.YtikpjpinkkllaaaGreat.Am AV Go.Proofs.Tryz
theorem typed (xs : List AV) (h : TypedL prog f4.params.toList xs) : Fits prog 4 xs (.bool true) [] := by
  rw [params4] at h
  match xs, h with
  | [x0, x1], ⟨⟨n0, h0⟩, ⟨n1, h1⟩, _⟩ =>
    obtain ⟨v0, rfl, a0⟩ := typ_code h0
    obtain ⟨v1, rfl, a1⟩ := typ_code h1
    exact law_LFeedPush v0 a0 v1 a1
theorem lifted (os : Os) (started : os.Started) (H : Type) (enc : TypeId × Value → H) :
    ReturnsInHanded {} checked os 4 .any (Go.Proofs.YtikpjpinkkllaaaGreat.Rows.fnFeedPushSpec.pre6 enc prog f4 Go.Proofs.YtikpjpinkkllaaaGreat.Rows.fnFeedPushRow.domain false) (Go.Proofs.YtikpjpinkkllaaaGreat.Rows.fnFeedPushSpec.post enc prog f4 false true false false) := by
  refine returnsInHanded_of_change (C := checked) own started (by kernel_rfl) func4
    (ChangeSpec.witness6 (enc := enc) (C := checked) false ⟨#[], #[.slice none 0 0, .slice none 0 0], []⟩ 8 (by kernel_rfl) (by kernel_rfl) (by kernel_rfl) (by kernel_rfl)) ?_
  intro W base args ds gs before hval hW _ _
  exact contract_of_fits 4 [22, 5] laidOut (by kernel_rfl) (by kernel_rfl) rfl underlying4 rfl (fun ds hl => by
    rw [params4] at hl
    match ds, hl with
    | [d0, d1], _ => rfl) typed W base args ds gs before hval hW
theorem over : Go.Proofs.YtikpjpinkkllaaaGreat.Rows.fnFeedPushRow.holds Go.Proofs.YtikpjpinkkllaaaGreat.Tryz.pinned (OpenSpec.ofChange Go.Proofs.YtikpjpinkkllaaaGreat.Rows.fnFeedPushSpec) :=
  OpenClaim.holds_of_wide 4 f4 rfl rfl rfl rfl rfl rfl rfl ⟨rfl, rfl, rfl, rfl, rfl⟩ rfl rfl rfl rfl rfl (by kernel_rfl) func4 (by kernel_rfl)
    (of_decide_eq_true (by kernel_rfl)) (by unfold Func.isWrapper; first | (rw [if_pos (by decide +kernel)]; kernel_rfl) | (rw [if_neg (by decide +kernel)]; exact ⟨rfl, rfl⟩))
    (fun os started H enc _ => lifted os started H enc)
theorem proved : Go.Proofs.YtikpjpinkkllaaaGreat.Rows.FnFeedPushSaid := over
end Go.Proofs.YtikpjpinkkllaaaGreat.LFeedPush
