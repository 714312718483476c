/- The law FnFeedEnd returns true whatever its arguments, and its arguments read as they did. No conditions. -/
import Derived.Test.YtikpjpinkkllaaaGreatRows
import Derived.Test.YtikpjpinkkllaaaGreatLFeedEndU3
set_option linter.unusedVariables false
set_option linter.unusedSimpArgs false
set_option maxRecDepth 100000
set_option maxHeartbeats 4000000
namespace Go.Proofs.YtikpjpinkkllaaaGreat.LFeedEnd
open Go.Proofs.YtikpjpinkkllaaaGreat.U Go Go.RowKit Go.Proofs Go.Proofs.YtikpjpinkkllaaaGreat.Am AV Go.Proofs.Tryz
theorem typed (xs : List AV) (h : TypedL prog f3.params.toList xs) : Fits prog 3 xs (.bool true) [] := by
  rw [params3] at h
  match xs, h with
  | [x0], ⟨⟨n0, h0⟩, _⟩ =>
    obtain ⟨v0, rfl, a0⟩ := typ_code h0
    exact law_LFeedEnd v0 a0
theorem lifted (os : Os) (started : os.Started) (H : Type) (enc : TypeId × Value → H) :
    ReturnsInHanded {} checked os 3 .any (Go.Proofs.YtikpjpinkkllaaaGreat.Rows.fnFeedEndSpec.pre6 enc prog f3 Go.Proofs.YtikpjpinkkllaaaGreat.Rows.fnFeedEndRow.domain false) (Go.Proofs.YtikpjpinkkllaaaGreat.Rows.fnFeedEndSpec.post enc prog f3 false true false false) := by
  refine returnsInHanded_of_change (C := checked) own started (by kernel_rfl) func3
    (ChangeSpec.witness6 (enc := enc) (C := checked) false ⟨#[], #[.slice none 0 0], []⟩ 8 (by kernel_rfl) (by kernel_rfl) (by kernel_rfl) (by kernel_rfl)) ?_
  intro W base args ds gs before hval hW _ _
  exact contract_of_fits 4 [22, 5] laidOut (by kernel_rfl) (by kernel_rfl) rfl underlying4 rfl (fun ds hl => by
    rw [params3] at hl
    match ds, hl with
    | [d0], _ => rfl) typed W base args ds gs before hval hW
theorem over : Go.Proofs.YtikpjpinkkllaaaGreat.Rows.fnFeedEndRow.holds Go.Proofs.YtikpjpinkkllaaaGreat.Tryz.pinned (OpenSpec.ofChange Go.Proofs.YtikpjpinkkllaaaGreat.Rows.fnFeedEndSpec) :=
  OpenClaim.holds_of_wide 3 f3 rfl rfl rfl rfl rfl rfl rfl ⟨rfl, rfl, rfl, rfl, rfl⟩ rfl rfl rfl rfl rfl (by kernel_rfl) func3 (by kernel_rfl)
    (of_decide_eq_true (by kernel_rfl)) (by unfold Func.isWrapper; first | (rw [if_pos (by decide +kernel)]; kernel_rfl) | (rw [if_neg (by decide +kernel)]; exact ⟨rfl, rfl⟩))
    (fun os started H enc _ => lifted os started H enc)
theorem proved : Go.Proofs.YtikpjpinkkllaaaGreat.Rows.FnFeedEndSaid := over
end Go.Proofs.YtikpjpinkkllaaaGreat.LFeedEnd
