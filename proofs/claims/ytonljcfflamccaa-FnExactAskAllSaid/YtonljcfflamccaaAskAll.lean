/- The law FnExactAskAll returns true whatever its arguments, and its arguments read as they did. No conditions. -/
import Derived.Test.YtonljcfflamccaaRows
import Derived.Test.YtonljcfflamccaaAskAllU2
set_option linter.unusedVariables false
set_option linter.unusedSimpArgs false
set_option maxRecDepth 100000
set_option maxHeartbeats 4000000
namespace Go.Proofs.Ytonljcfflamccaa.AskAll
open Go.Proofs.Ytonljcfflamccaa.U Go Go.RowKit Go.Proofs Go.Proofs.Ytonljcfflamccaa.Am AV Go.Proofs.Try
theorem typed (xs : List AV) (h : TypedL prog f5.params.toList xs) : Fits prog 5 xs (.bool true) [] := by
  rw [params5] at h
  match xs, h with
  | [x0, x1, x2], ⟨⟨n0, h0⟩, ⟨n1, h1⟩, ⟨n2, h2⟩, _⟩ =>
    obtain ⟨v0, rfl, a0⟩ := typ_rex h0
    obtain ⟨v1, rfl, a1⟩ := typ_str h1
    obtain ⟨v2, rfl, a2, b2⟩ := typ_int h2
    exact law_AskAll v0 a0 v1 a1 v2 a2 b2
theorem lifted (os : Os) (started : os.Started) (H : Type) (enc : TypeId × Value → H) :
    ReturnsInHanded {} checked os 5 .any (Go.Proofs.Ytonljcfflamccaa.Rows.fnExactAskAllSpec.pre6 enc prog f5 Go.Proofs.Ytonljcfflamccaa.Rows.fnExactAskAllRow.domain false) (Go.Proofs.Ytonljcfflamccaa.Rows.fnExactAskAllSpec.post enc prog f5 false true false false) := by
  refine returnsInHanded_of_change (C := checked) own started (by kernel_rfl) func5
    (ChangeSpec.witness6 (enc := enc) (C := checked) false ⟨#[], #[.agg #[.int .i64 0, .slice none 0 0, .slice none 0 0], .string ⟨#[]⟩, .int .i64 0], []⟩ 8 (by kernel_rfl) (by kernel_rfl) (by kernel_rfl) (by kernel_rfl)) ?_
  intro W base args ds gs before hval hW _ _
  exact contract_of_fits 4 [44, 3, 41, 162, 42, 9] laidOut (by kernel_rfl) (by kernel_rfl) rfl underlying4 rfl (fun ds hl => by
    rw [params5] at hl
    match ds, hl with
    | [d0, d1, d2], _ => rfl) typed W base args ds gs before hval hW
theorem over : Go.Proofs.Ytonljcfflamccaa.Rows.fnExactAskAllRow.holds Go.Proofs.Ytonljcfflamccaa.Try.pinned (OpenSpec.ofChange Go.Proofs.Ytonljcfflamccaa.Rows.fnExactAskAllSpec) :=
  OpenClaim.holds_of_wide 5 f5 rfl rfl rfl rfl rfl rfl rfl ⟨rfl, rfl, rfl, rfl, rfl⟩ rfl rfl rfl rfl rfl (by kernel_rfl) func5 (by kernel_rfl)
    (of_decide_eq_true (by kernel_rfl)) (by unfold Func.isWrapper; first | (rw [if_pos (by decide +kernel)]; kernel_rfl) | (rw [if_neg (by decide +kernel)]; exact ⟨rfl, rfl⟩))
    (fun os started H enc _ => lifted os started H enc)
theorem proved : Go.Proofs.Ytonljcfflamccaa.Rows.FnExactAskAllSaid := over
end Go.Proofs.Ytonljcfflamccaa.AskAll
