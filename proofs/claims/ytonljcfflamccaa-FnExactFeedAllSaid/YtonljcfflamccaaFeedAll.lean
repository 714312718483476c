/- The law FnExactFeedAll returns true whatever its arguments, and its arguments read as they did. No conditions. -/
import Derived.Test.YtonljcfflamccaaRows
import Derived.Test.YtonljcfflamccaaFeedAllU2
set_option linter.unusedVariables false
set_option linter.unusedSimpArgs false
set_option maxRecDepth 100000
set_option maxHeartbeats 4000000
namespace Go.Proofs.Ytonljcfflamccaa.FeedAll
open Go.Proofs.Ytonljcfflamccaa.U Go Go.RowKit Go.Proofs Go.Proofs.Ytonljcfflamccaa.Am AV Go.Proofs.Try
theorem typed (xs : List AV) (h : TypedL prog f7.params.toList xs) : Fits prog 7 xs (.bool true) [] := by
  rw [params7] at h
  match xs, h with
  | [x0, x1], ⟨⟨n0, h0⟩, ⟨n1, h1⟩, _⟩ =>
    obtain ⟨v0, rfl, a0⟩ := typ_prog h0
    obtain ⟨v1, rfl, a1, b1⟩ := typ_strs h1
    exact law_FeedAll v0 a0 v1 a1 b1
theorem lifted (os : Os) (started : os.Started) (H : Type) (enc : TypeId × Value → H) :
    ReturnsInHanded {} checked os 7 .any (Go.Proofs.Ytonljcfflamccaa.Rows.fnExactFeedAllSpec.pre6 enc prog f7 Go.Proofs.Ytonljcfflamccaa.Rows.fnExactFeedAllRow.domain false) (Go.Proofs.Ytonljcfflamccaa.Rows.fnExactFeedAllSpec.post enc prog f7 false true false false) := by
  refine returnsInHanded_of_change (C := checked) own started (by kernel_rfl) func7
    (ChangeSpec.witness6 (enc := enc) (C := checked) false ⟨#[], #[.slice none 0 0, .slice none 0 0], []⟩ 8 (by kernel_rfl) (by kernel_rfl) (by kernel_rfl) (by kernel_rfl)) ?_
  intro W base args ds gs before hval hW _ _
  exact contract_of_fits 4 [54, 131, 3, 29, 9] laidOut (by kernel_rfl) (by kernel_rfl) rfl underlying4 rfl (fun ds hl => by
    rw [params7] at hl
    match ds, hl with
    | [d0, d1], _ => rfl) typed W base args ds gs before hval hW
theorem over : Go.Proofs.Ytonljcfflamccaa.Rows.fnExactFeedAllRow.holds Go.Proofs.Ytonljcfflamccaa.Try.pinned (OpenSpec.ofChange Go.Proofs.Ytonljcfflamccaa.Rows.fnExactFeedAllSpec) :=
  OpenClaim.holds_of_wide 7 f7 rfl rfl rfl rfl rfl rfl rfl ⟨rfl, rfl, rfl, rfl, rfl⟩ rfl rfl rfl rfl rfl (by kernel_rfl) func7 (by kernel_rfl)
    (of_decide_eq_true (by kernel_rfl)) (by unfold Func.isWrapper; first | (rw [if_pos (by decide +kernel)]; kernel_rfl) | (rw [if_neg (by decide +kernel)]; exact ⟨rfl, rfl⟩))
    (fun os started H enc _ => lifted os started H enc)
theorem proved : Go.Proofs.Ytonljcfflamccaa.Rows.FnExactFeedAllSaid := over
end Go.Proofs.Ytonljcfflamccaa.FeedAll
