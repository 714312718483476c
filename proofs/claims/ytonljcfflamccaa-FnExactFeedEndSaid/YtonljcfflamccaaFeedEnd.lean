/- The law FnExactFeedEnd returns true whatever its arguments, and its arguments read as they did. No conditions. -/
import Derived.Test.YtonljcfflamccaaRows
import Derived.Test.YtonljcfflamccaaFeedEndU2
set_option linter.unusedVariables false
set_option linter.unusedSimpArgs false
set_option maxRecDepth 100000
set_option maxHeartbeats 4000000
namespace Go.Proofs.Ytonljcfflamccaa.FeedEnd
open Go.Proofs.Ytonljcfflamccaa.U Go Go.RowKit Go.Proofs Go.Proofs.Ytonljcfflamccaa.Am AV Go.Proofs.Try
theorem typed (xs : List AV) (h : TypedL prog f8.params.toList xs) : Fits prog 8 xs (.bool true) [] := by
  rw [params8] at h
  match xs, h with
  | [x0], ⟨⟨n0, h0⟩, _⟩ =>
    obtain ⟨v0, rfl, a0, b0, c0⟩ := typ_feed h0
    exact law_FeedEnd v0 a0 b0 c0
theorem lifted (os : Os) (started : os.Started) (H : Type) (enc : TypeId × Value → H) :
    ReturnsInHanded {} checked os 8 .any (Go.Proofs.Ytonljcfflamccaa.Rows.fnExactFeedEndSpec.pre6 enc prog f8 Go.Proofs.Ytonljcfflamccaa.Rows.fnExactFeedEndRow.domain false) (Go.Proofs.Ytonljcfflamccaa.Rows.fnExactFeedEndSpec.post enc prog f8 false true false false) := by
  refine returnsInHanded_of_change (C := checked) own started (by kernel_rfl) func8
    (ChangeSpec.witness6 (enc := enc) (C := checked) false ⟨#[], #[.agg #[.slice none 0 0, .string ⟨#[]⟩, .int .i64 0, .int .i64 0, .int .i64 0, .int .i64 0, .int .i64 0, .slice none 0 0, .bool false]], []⟩ 8 (by kernel_rfl) (by kernel_rfl) (by kernel_rfl) (by kernel_rfl)) ?_
  intro W base args ds gs before hval hW _ _
  exact contract_of_fits 4 [69, 54, 131, 3, 9, 67, 174, 4] laidOut (by kernel_rfl) (by kernel_rfl) rfl underlying4 rfl (fun ds hl => by
    rw [params8] at hl
    match ds, hl with
    | [d0], _ => rfl) typed W base args ds gs before hval hW
theorem over : Go.Proofs.Ytonljcfflamccaa.Rows.fnExactFeedEndRow.holds Go.Proofs.Ytonljcfflamccaa.Try.pinned (OpenSpec.ofChange Go.Proofs.Ytonljcfflamccaa.Rows.fnExactFeedEndSpec) :=
  OpenClaim.holds_of_wide 8 f8 rfl rfl rfl rfl rfl rfl rfl ⟨rfl, rfl, rfl, rfl, rfl⟩ rfl rfl rfl rfl rfl (by kernel_rfl) func8 (by kernel_rfl)
    (of_decide_eq_true (by kernel_rfl)) (by unfold Func.isWrapper; first | (rw [if_pos (by decide +kernel)]; kernel_rfl) | (rw [if_neg (by decide +kernel)]; exact ⟨rfl, rfl⟩))
    (fun os started H enc _ => lifted os started H enc)
theorem proved : Go.Proofs.Ytonljcfflamccaa.Rows.FnExactFeedEndSaid := over
end Go.Proofs.Ytonljcfflamccaa.FeedEnd
