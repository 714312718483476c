/- The law FnExactFeedPush returns true whatever its arguments, and its arguments read as they did. No conditions. -/
import Derived.Test.YtonljcfflamccaaRows
import Derived.Test.YtonljcfflamccaaFeedPushU2
set_option linter.unusedVariables false
set_option linter.unusedSimpArgs false
set_option maxRecDepth 100000
set_option maxHeartbeats 4000000
namespace Go.Proofs.Ytonljcfflamccaa.FeedPush
open Go.Proofs.Ytonljcfflamccaa.U Go Go.RowKit Go.Proofs Go.Proofs.Ytonljcfflamccaa.Am AV Go.Proofs.Try
theorem typed (xs : List AV) (h : TypedL prog f9.params.toList xs) : Fits prog 9 xs (.bool true) [] := by
  rw [params9] at h
  match xs, h with
  | [x0, x1], ⟨⟨n0, h0⟩, ⟨n1, h1⟩, _⟩ =>
    obtain ⟨v0, rfl, a0, b0, c0⟩ := typ_feed h0
    obtain ⟨v1, rfl, a1⟩ := typ_str h1
    exact law_FeedPush v0 a0 b0 c0 v1 a1
theorem lifted (os : Os) (started : os.Started) (H : Type) (enc : TypeId × Value → H) :
    ReturnsInHanded {} checked os 9 .any (Go.Proofs.Ytonljcfflamccaa.Rows.fnExactFeedPushSpec.pre6 enc prog f9 Go.Proofs.Ytonljcfflamccaa.Rows.fnExactFeedPushRow.domain false) (Go.Proofs.Ytonljcfflamccaa.Rows.fnExactFeedPushSpec.post enc prog f9 false true false false) := by
  refine returnsInHanded_of_change (C := checked) own started (by kernel_rfl) func9
    (ChangeSpec.witness6 (enc := enc) (C := checked) false ⟨#[], #[.agg #[.slice none 0 0, .string ⟨#[]⟩, .int .i64 0, .int .i64 0, .int .i64 0, .int .i64 0, .int .i64 0, .slice none 0 0, .bool false], .string ⟨#[]⟩], []⟩ 8 (by kernel_rfl) (by kernel_rfl) (by kernel_rfl) (by kernel_rfl)) ?_
  intro W base args ds gs before hval hW _ _
  exact contract_of_fits 4 [69, 54, 131, 3, 9, 67, 174, 4] laidOut (by kernel_rfl) (by kernel_rfl) rfl underlying4 rfl (fun ds hl => by
    rw [params9] at hl
    match ds, hl with
    | [d0, d1], _ => rfl) typed W base args ds gs before hval hW
theorem over : Go.Proofs.Ytonljcfflamccaa.Rows.fnExactFeedPushRow.holds Go.Proofs.Ytonljcfflamccaa.Try.pinned (OpenSpec.ofChange Go.Proofs.Ytonljcfflamccaa.Rows.fnExactFeedPushSpec) :=
  OpenClaim.holds_of_wide 9 f9 rfl rfl rfl rfl rfl rfl rfl ⟨rfl, rfl, rfl, rfl, rfl⟩ rfl rfl rfl rfl rfl (by kernel_rfl) func9 (by kernel_rfl)
    (of_decide_eq_true (by kernel_rfl)) (by unfold Func.isWrapper; first | (rw [if_pos (by decide +kernel)]; kernel_rfl) | (rw [if_neg (by decide +kernel)]; exact ⟨rfl, rfl⟩))
    (fun os started H enc _ => lifted os started H enc)
theorem proved : Go.Proofs.Ytonljcfflamccaa.Rows.FnExactFeedPushSaid := over
end Go.Proofs.Ytonljcfflamccaa.FeedPush
