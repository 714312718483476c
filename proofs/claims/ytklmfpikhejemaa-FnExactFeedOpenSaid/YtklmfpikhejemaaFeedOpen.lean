/- The law FnExactFeedOpen returns true whatever its arguments, and its arguments read as they did. No conditions. -/
import Derived.Test.YtklmfpikhejemaaRows
import Derived.Test.YtklmfpikhejemaaFeedOpenU1
set_option linter.unusedVariables false
set_option linter.unusedSimpArgs false
set_option maxRecDepth 100000
set_option maxHeartbeats 4000000
namespace Go.Proofs.Ytklmfpikhejemaa.FeedOpen
open Go.Proofs.Ytklmfpikhejemaa.U Go Go.RowKit Go.Proofs Go.Proofs.Ytklmfpikhejemaa.Am AV Go.Proofs.Try
theorem typed (xs : List AV) (h : TypedL prog f6.params.toList xs) : Fits prog 6 xs (.bool true) [] := by
  rw [params6] at h
  match xs, h with
  | [x0], ⟨⟨n0, h0⟩, _⟩ =>
    obtain ⟨v0, rfl, a0⟩ := typ_prog h0
    exact law_FeedOpen v0 a0
theorem lifted (os : Os) (started : os.Started) (H : Type) (enc : TypeId × Value → H) :
    ReturnsInHanded {} checked os 6 .any (Go.Proofs.Ytklmfpikhejemaa.Rows.fnExactFeedOpenSpec.pre6 enc prog f6 Go.Proofs.Ytklmfpikhejemaa.Rows.fnExactFeedOpenRow.domain false) (Go.Proofs.Ytklmfpikhejemaa.Rows.fnExactFeedOpenSpec.post enc prog f6 false true false false) := by
  refine returnsInHanded_of_change (C := checked) own started (by kernel_rfl) func6
    (ChangeSpec.witness6 (enc := enc) (C := checked) false ⟨#[], #[.slice none 0 0], []⟩ 8 (by kernel_rfl) (by kernel_rfl) (by kernel_rfl) (by kernel_rfl)) ?_
  intro W base args ds gs before hval hW _ _
  exact contract_of_fits 4 [24, 73, 3] laidOut (by kernel_rfl) (by kernel_rfl) rfl underlying4 rfl (fun ds hl => by
    rw [params6] at hl
    match ds, hl with
    | [d0], _ => rfl) typed W base args ds gs before hval hW
theorem over : Go.Proofs.Ytklmfpikhejemaa.Rows.fnExactFeedOpenRow.holds Go.Proofs.Ytklmfpikhejemaa.Try.pinned (OpenSpec.ofChange Go.Proofs.Ytklmfpikhejemaa.Rows.fnExactFeedOpenSpec) :=
  OpenClaim.holds_of_wide 6 f6 rfl rfl rfl rfl rfl rfl rfl ⟨rfl, rfl, rfl, rfl, rfl⟩ rfl rfl rfl rfl rfl (by kernel_rfl) func6 (by kernel_rfl)
    (of_decide_eq_true (by kernel_rfl)) (by unfold Func.isWrapper; first | (rw [if_pos (by decide +kernel)]; kernel_rfl) | (rw [if_neg (by decide +kernel)]; exact ⟨rfl, rfl⟩))
    (fun os started H enc _ => lifted os started H enc)
theorem proved : Go.Proofs.Ytklmfpikhejemaa.Rows.FnExactFeedOpenSaid := over
end Go.Proofs.Ytklmfpikhejemaa.FeedOpen
