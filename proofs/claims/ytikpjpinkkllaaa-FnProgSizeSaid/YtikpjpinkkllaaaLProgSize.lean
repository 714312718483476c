/- The law FnProgSize returns true whatever its arguments, and its arguments read as they did. No conditions. -/
import Derived.Test.YtikpjpinkkllaaaRows
import Derived.Test.YtikpjpinkkllaaaLProgSizeU2
set_option linter.unusedVariables false
set_option linter.unusedSimpArgs false
set_option maxRecDepth 100000
set_option maxHeartbeats 4000000
namespace Go.Proofs.Ytikpjpinkkllaaa.LProgSize
open Go.Proofs.Ytikpjpinkkllaaa.U Go Go.RowKit Go.Proofs Go.Proofs.Ytikpjpinkkllaaa.Am AV Go.Proofs.Try
theorem typed (xs : List AV) (h : TypedL prog f7.params.toList xs) : Fits prog 7 xs (.bool true) [] := by
  rw [params7] at h
  match xs, h with
  | [x0], ⟨⟨n0, h0⟩, _⟩ =>
    obtain ⟨v0, rfl, a0⟩ := typ_code h0
    exact law_LProgSize v0 a0
theorem lifted (os : Os) (started : os.Started) (H : Type) (enc : TypeId × Value → H) :
    ReturnsInHanded {} checked os 7 .any (Go.Proofs.Ytikpjpinkkllaaa.Rows.fnProgSizeSpec.pre6 enc prog f7 Go.Proofs.Ytikpjpinkkllaaa.Rows.fnProgSizeRow.domain false) (Go.Proofs.Ytikpjpinkkllaaa.Rows.fnProgSizeSpec.post enc prog f7 false true false false) := by
  refine returnsInHanded_of_change (C := checked) own started (by kernel_rfl) func7
    (ChangeSpec.witness6 (enc := enc) (C := checked) false ⟨#[], #[.slice none 0 0], []⟩ 8 (by kernel_rfl) (by kernel_rfl) (by kernel_rfl) (by kernel_rfl)) ?_
  intro W base args ds gs before hval hW _ _
  exact contract_of_fits 4 [22, 5] laidOut (by kernel_rfl) (by kernel_rfl) rfl underlying4 rfl (fun ds hl => by
    rw [params7] at hl
    match ds, hl with
    | [d0], _ => rfl) typed W base args ds gs before hval hW
theorem over : Go.Proofs.Ytikpjpinkkllaaa.Rows.fnProgSizeRow.holds Go.Proofs.Ytikpjpinkkllaaa.Try.pinned (OpenSpec.ofChange Go.Proofs.Ytikpjpinkkllaaa.Rows.fnProgSizeSpec) :=
  OpenClaim.holds_of_wide 7 f7 rfl rfl rfl rfl rfl rfl rfl ⟨rfl, rfl, rfl, rfl, rfl⟩ rfl rfl rfl rfl rfl (by kernel_rfl) func7 (by kernel_rfl)
    (of_decide_eq_true (by kernel_rfl)) (by unfold Func.isWrapper; first | (rw [if_pos (by decide +kernel)]; kernel_rfl) | (rw [if_neg (by decide +kernel)]; exact ⟨rfl, rfl⟩))
    (fun os started H enc _ => lifted os started H enc)
theorem proved : Go.Proofs.Ytikpjpinkkllaaa.Rows.FnProgSizeSaid := over
end Go.Proofs.Ytikpjpinkkllaaa.LProgSize
