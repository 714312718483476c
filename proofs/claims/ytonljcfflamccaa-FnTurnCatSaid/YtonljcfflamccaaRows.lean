/-
  NARROWER THAN 'FOR EVERY INPUT', by the rows' own cells (each row's printed sentence says how): FnExactAskAll: loops.
  DERIVED. THE GIVEN ROWS OF THIS SEAT. 9 by the template 'for every input the law returns true; each argument reads behind the call as it read before'; 0 by the template 'total and deterministic' (their statements: YtonljcfflamccaaTotals.lean).
  GIVEN WITH THE SEED: the statements are not yours to turn. If you find one false, say at which input.
  Laid BY PROGRAM, IN A SANDBOX (cutbox-rows.mjs): the forced cells as the released guide's own fill.sh prints them over the translation 5589a687d0bec162… (all of the seat's roots in one cut). By AI agents, Wed Nov 11 2026. No macro, syntax, notation, axiom, sorry.
-/
import Derived.Test.YtonljcfflamccaaChecked
import GoSem.Claim
import GoSem.ClaimJoined
import GoSem.ClaimMapViews
import Derived.JoinedTies
import Derived.KernelRfl
namespace Go.Proofs.Ytonljcfflamccaa
/- THE CELL 'sum', in the pinned program and in every row, IS THE sha256 OF THE DUMP (.gsa) THAT YtonljcfflamccaaProg.lean LOADS. Nothing in Lean hashes anything: it is a label: what it is worth is what the hold of that sum in a sandbox is worth. -/
noncomputable def Try.pinned : Pinned := { name := "ytonljcfflamccaa", sum := "5589a687d0bec162a2d5527a26b18accd3be8fa0f8f35e4858ae00bbbeb38bce", checked := Try.checked }
namespace Rows
def none {H : Type} : Left H := { results := [], args := [] }

/-- 'laws.FnAskAll': WHATEVER THE INPUT: true; the input reads as it did. -/
def fnAskAllSpec : ChangeSpec := { name := "fnAskAll", fn := fun _ => fun
  | [d1, d2] => { results := [.lit (.bool true)], args := [d1, d2] }
  | _ => none }
def fnAskAllRow : OpenClaim := { program := "ytonljcfflamccaa", sum := "5589a687d0bec162a2d5527a26b18accd3be8fa0f8f35e4858ae00bbbeb38bce", func := "loop.example/carding/laws.FnAskAll", spec := "fnAskAll", recurses := true, apart := false }
def FnAskAllSaid : Prop := fnAskAllRow.holds Try.pinned (OpenSpec.ofChange fnAskAllSpec)

/-- ITS FALSE NEIGHBOUR: 'it returns false'. Refute it at one input. -/
def fnAskAllWrong : ChangeSpec := { name := "fnAskAll", fn := fun _ => fun
  | [d1, d2] => { results := [.lit (.bool false)], args := [d1, d2] }
  | _ => none }
def FnAskAllWrongFalsely : Prop := fnAskAllRow.holds Try.pinned (OpenSpec.ofChange fnAskAllWrong)

/-- 'laws.FnTurn': WHATEVER THE INPUT: true; the input reads as it did. -/
def fnTurnSpec : ChangeSpec := { name := "fnTurn", fn := fun _ => fun
  | [d1, d2] => { results := [.lit (.bool true)], args := [d1, d2] }
  | _ => none }
def fnTurnRow : OpenClaim := { program := "ytonljcfflamccaa", sum := "5589a687d0bec162a2d5527a26b18accd3be8fa0f8f35e4858ae00bbbeb38bce", func := "loop.example/carding/laws.FnTurn", spec := "fnTurn", recurses := true, apart := false }
def FnTurnSaid : Prop := fnTurnRow.holds Try.pinned (OpenSpec.ofChange fnTurnSpec)

/-- ITS FALSE NEIGHBOUR: 'it returns false'. Refute it at one input. -/
def fnTurnWrong : ChangeSpec := { name := "fnTurn", fn := fun _ => fun
  | [d1, d2] => { results := [.lit (.bool false)], args := [d1, d2] }
  | _ => none }
def FnTurnWrongFalsely : Prop := fnTurnRow.holds Try.pinned (OpenSpec.ofChange fnTurnWrong)

/-- 'laws.FnExactAskAll': WHATEVER THE INPUT: true; the input reads as it did. -/
def fnExactAskAllSpec : ChangeSpec := { name := "fnExactAskAll", fn := fun _ => fun
  | [d1, d2, d3] => { results := [.lit (.bool true)], args := [d1, d2, d3] }
  | _ => none }
def fnExactAskAllRow : OpenClaim := { program := "ytonljcfflamccaa", sum := "5589a687d0bec162a2d5527a26b18accd3be8fa0f8f35e4858ae00bbbeb38bce", func := "loop.example/carding/laws.FnExactAskAll", spec := "fnExactAskAll", recurses := true, loops := true, apart := false }
def FnExactAskAllSaid : Prop := fnExactAskAllRow.holds Try.pinned (OpenSpec.ofChange fnExactAskAllSpec)

/-- ITS FALSE NEIGHBOUR: 'it returns false'. Refute it at one input. -/
def fnExactAskAllWrong : ChangeSpec := { name := "fnExactAskAll", fn := fun _ => fun
  | [d1, d2, d3] => { results := [.lit (.bool false)], args := [d1, d2, d3] }
  | _ => none }
def FnExactAskAllWrongFalsely : Prop := fnExactAskAllRow.holds Try.pinned (OpenSpec.ofChange fnExactAskAllWrong)

/-- 'laws.FnTurnSwap': WHATEVER THE INPUT: true; the input reads as it did. -/
def fnTurnSwapSpec : ChangeSpec := { name := "fnTurnSwap", fn := fun _ => fun
  | [d1, d2] => { results := [.lit (.bool true)], args := [d1, d2] }
  | _ => none }
def fnTurnSwapRow : OpenClaim := { program := "ytonljcfflamccaa", sum := "5589a687d0bec162a2d5527a26b18accd3be8fa0f8f35e4858ae00bbbeb38bce", func := "loop.example/carding/laws.FnTurnSwap", spec := "fnTurnSwap", recurses := true, apart := false }
def FnTurnSwapSaid : Prop := fnTurnSwapRow.holds Try.pinned (OpenSpec.ofChange fnTurnSwapSpec)

/-- ITS FALSE NEIGHBOUR: 'it returns false'. Refute it at one input. -/
def fnTurnSwapWrong : ChangeSpec := { name := "fnTurnSwap", fn := fun _ => fun
  | [d1, d2] => { results := [.lit (.bool false)], args := [d1, d2] }
  | _ => none }
def FnTurnSwapWrongFalsely : Prop := fnTurnSwapRow.holds Try.pinned (OpenSpec.ofChange fnTurnSwapWrong)

/-- 'laws.FnExactFeedAll': WHATEVER THE INPUT: true; the input reads as it did. -/
def fnExactFeedAllSpec : ChangeSpec := { name := "fnExactFeedAll", fn := fun _ => fun
  | [d1, d2] => { results := [.lit (.bool true)], args := [d1, d2] }
  | _ => none }
def fnExactFeedAllRow : OpenClaim := { program := "ytonljcfflamccaa", sum := "5589a687d0bec162a2d5527a26b18accd3be8fa0f8f35e4858ae00bbbeb38bce", func := "loop.example/carding/laws.FnExactFeedAll", spec := "fnExactFeedAll", apart := false }
def FnExactFeedAllSaid : Prop := fnExactFeedAllRow.holds Try.pinned (OpenSpec.ofChange fnExactFeedAllSpec)

/-- ITS FALSE NEIGHBOUR: 'it returns false'. Refute it at one input. -/
def fnExactFeedAllWrong : ChangeSpec := { name := "fnExactFeedAll", fn := fun _ => fun
  | [d1, d2] => { results := [.lit (.bool false)], args := [d1, d2] }
  | _ => none }
def FnExactFeedAllWrongFalsely : Prop := fnExactFeedAllRow.holds Try.pinned (OpenSpec.ofChange fnExactFeedAllWrong)

/-- 'laws.FnExactFeedEnd': WHATEVER THE INPUT: true; the input reads as it did. -/
def fnExactFeedEndSpec : ChangeSpec := { name := "fnExactFeedEnd", fn := fun _ => fun
  | [d] => { results := [.lit (.bool true)], args := [d] }
  | _ => none }
def fnExactFeedEndRow : OpenClaim := { program := "ytonljcfflamccaa", sum := "5589a687d0bec162a2d5527a26b18accd3be8fa0f8f35e4858ae00bbbeb38bce", func := "loop.example/carding/laws.FnExactFeedEnd", spec := "fnExactFeedEnd", apart := false }
def FnExactFeedEndSaid : Prop := fnExactFeedEndRow.holds Try.pinned (OpenSpec.ofChange fnExactFeedEndSpec)

/-- ITS FALSE NEIGHBOUR: 'it returns false'. Refute it at one input. -/
def fnExactFeedEndWrong : ChangeSpec := { name := "fnExactFeedEnd", fn := fun _ => fun
  | [d] => { results := [.lit (.bool false)], args := [d] }
  | _ => none }
def FnExactFeedEndWrongFalsely : Prop := fnExactFeedEndRow.holds Try.pinned (OpenSpec.ofChange fnExactFeedEndWrong)

/-- 'laws.FnExactFeedPush': WHATEVER THE INPUT: true; the input reads as it did. -/
def fnExactFeedPushSpec : ChangeSpec := { name := "fnExactFeedPush", fn := fun _ => fun
  | [d1, d2] => { results := [.lit (.bool true)], args := [d1, d2] }
  | _ => none }
def fnExactFeedPushRow : OpenClaim := { program := "ytonljcfflamccaa", sum := "5589a687d0bec162a2d5527a26b18accd3be8fa0f8f35e4858ae00bbbeb38bce", func := "loop.example/carding/laws.FnExactFeedPush", spec := "fnExactFeedPush", apart := false }
def FnExactFeedPushSaid : Prop := fnExactFeedPushRow.holds Try.pinned (OpenSpec.ofChange fnExactFeedPushSpec)

/-- ITS FALSE NEIGHBOUR: 'it returns false'. Refute it at one input. -/
def fnExactFeedPushWrong : ChangeSpec := { name := "fnExactFeedPush", fn := fun _ => fun
  | [d1, d2] => { results := [.lit (.bool false)], args := [d1, d2] }
  | _ => none }
def FnExactFeedPushWrongFalsely : Prop := fnExactFeedPushRow.holds Try.pinned (OpenSpec.ofChange fnExactFeedPushWrong)

/-- 'laws.FnTurnCat': WHATEVER THE INPUT: true; the input reads as it did. -/
def fnTurnCatSpec : ChangeSpec := { name := "fnTurnCat", fn := fun _ => fun
  | [d] => { results := [.lit (.bool true)], args := [d] }
  | _ => none }
def fnTurnCatRow : OpenClaim := { program := "ytonljcfflamccaa", sum := "5589a687d0bec162a2d5527a26b18accd3be8fa0f8f35e4858ae00bbbeb38bce", func := "loop.example/carding/laws.FnTurnCat", spec := "fnTurnCat", recurses := true, apart := false }
def FnTurnCatSaid : Prop := fnTurnCatRow.holds Try.pinned (OpenSpec.ofChange fnTurnCatSpec)

/-- ITS FALSE NEIGHBOUR: 'it returns false'. Refute it at one input. -/
def fnTurnCatWrong : ChangeSpec := { name := "fnTurnCat", fn := fun _ => fun
  | [d] => { results := [.lit (.bool false)], args := [d] }
  | _ => none }
def FnTurnCatWrongFalsely : Prop := fnTurnCatRow.holds Try.pinned (OpenSpec.ofChange fnTurnCatWrong)

/-- 'laws.FnExactProgOf': WHATEVER THE INPUT: true; the input reads as it did. -/
def fnExactProgOfSpec : ChangeSpec := { name := "fnExactProgOf", fn := fun _ => fun
  | [d] => { results := [.lit (.bool true)], args := [d] }
  | _ => none }
def fnExactProgOfRow : OpenClaim := { program := "ytonljcfflamccaa", sum := "5589a687d0bec162a2d5527a26b18accd3be8fa0f8f35e4858ae00bbbeb38bce", func := "loop.example/carding/laws.FnExactProgOf", spec := "fnExactProgOf", apart := false }
def FnExactProgOfSaid : Prop := fnExactProgOfRow.holds Try.pinned (OpenSpec.ofChange fnExactProgOfSpec)

/-- ITS FALSE NEIGHBOUR: 'it returns false'. Refute it at one input. -/
def fnExactProgOfWrong : ChangeSpec := { name := "fnExactProgOf", fn := fun _ => fun
  | [d] => { results := [.lit (.bool false)], args := [d] }
  | _ => none }
def FnExactProgOfWrongFalsely : Prop := fnExactProgOfRow.holds Try.pinned (OpenSpec.ofChange fnExactProgOfWrong)

/- THE SECOND FORM. 'bulk': how many values and letters a reading holds, each counted each time it is reached (what is shared counts as often as it is met; a slice's spare places count too). A statement '..UptoSaid' is the law's where the arguments, and the package variables that the reading takes, are together of bulk at most 1048576: NARROWER than '..Said'. Prove '..Said' where nothing that the law and all that it calls make is longer than what came in: it says more and counts as full. Else prove '..UptoSaid'. A law counts once. -/
mutual
def uptoBulk {H : Type} : DataW H → Nat
  | .lit (.string bytes) => bytes.length + 1
  | .lit _ => 1
  | .nil => 1
  | .ptr d => uptoBulk d + 1
  | .slice elems spare => uptoBulkAll elems + uptoBulkAll spare + 1
  | .agg parts => uptoBulkAll parts + 1
  | .iface _ d => uptoBulk d + 1
  | .map entries => uptoBulkEntries entries + 1
  | .held _ => 1
def uptoBulkAll {H : Type} : List (DataW H) → Nat
  | [] => 0
  | d :: r => uptoBulk d + uptoBulkAll r
def uptoBulkEntries {H : Type} : List (Lit × DataW H) → Nat
  | [] => 0
  | x :: r => uptoBulkEntry x + uptoBulkEntries r
def uptoBulkEntry {H : Type} : Lit × DataW H → Nat
  | (.string bytes, d) => bytes.length + uptoBulk d + 1
  | (_, d) => uptoBulk d + 1
 end
def uptoSmall : (H : Type) → List (DataW H) → Bool := fun _ ds => decide (uptoBulkAll ds ≤ 1048576)
def OpenSpec.upto (s : _root_.Go.ChangeSpec) : _root_.Go.OpenSpec := { _root_.Go.OpenSpec.ofChange s with cond := some uptoSmall }

/-- 'laws.FnAskAll', WHERE WHAT IT READS IS OF BULK AT MOST 1048576: true; the input reads as it did. -/
def fnAskAllUptoRow : OpenClaim := { program := "ytonljcfflamccaa", sum := "5589a687d0bec162a2d5527a26b18accd3be8fa0f8f35e4858ae00bbbeb38bce", func := "loop.example/carding/laws.FnAskAll", spec := "fnAskAll", recurses := true, apart := false, narrowed := true }
def FnAskAllUptoSaid : Prop := fnAskAllUptoRow.holds Try.pinned (OpenSpec.upto fnAskAllSpec)

/-- 'laws.FnTurn', WHERE WHAT IT READS IS OF BULK AT MOST 1048576: true; the input reads as it did. -/
def fnTurnUptoRow : OpenClaim := { program := "ytonljcfflamccaa", sum := "5589a687d0bec162a2d5527a26b18accd3be8fa0f8f35e4858ae00bbbeb38bce", func := "loop.example/carding/laws.FnTurn", spec := "fnTurn", recurses := true, apart := false, narrowed := true }
def FnTurnUptoSaid : Prop := fnTurnUptoRow.holds Try.pinned (OpenSpec.upto fnTurnSpec)

/-- 'laws.FnExactAskAll', WHERE WHAT IT READS IS OF BULK AT MOST 1048576: true; the input reads as it did. -/
def fnExactAskAllUptoRow : OpenClaim := { program := "ytonljcfflamccaa", sum := "5589a687d0bec162a2d5527a26b18accd3be8fa0f8f35e4858ae00bbbeb38bce", func := "loop.example/carding/laws.FnExactAskAll", spec := "fnExactAskAll", recurses := true, loops := true, apart := false, narrowed := true }
def FnExactAskAllUptoSaid : Prop := fnExactAskAllUptoRow.holds Try.pinned (OpenSpec.upto fnExactAskAllSpec)

/-- 'laws.FnTurnSwap', WHERE WHAT IT READS IS OF BULK AT MOST 1048576: true; the input reads as it did. -/
def fnTurnSwapUptoRow : OpenClaim := { program := "ytonljcfflamccaa", sum := "5589a687d0bec162a2d5527a26b18accd3be8fa0f8f35e4858ae00bbbeb38bce", func := "loop.example/carding/laws.FnTurnSwap", spec := "fnTurnSwap", recurses := true, apart := false, narrowed := true }
def FnTurnSwapUptoSaid : Prop := fnTurnSwapUptoRow.holds Try.pinned (OpenSpec.upto fnTurnSwapSpec)

/-- 'laws.FnExactFeedAll', WHERE WHAT IT READS IS OF BULK AT MOST 1048576: true; the input reads as it did. -/
def fnExactFeedAllUptoRow : OpenClaim := { program := "ytonljcfflamccaa", sum := "5589a687d0bec162a2d5527a26b18accd3be8fa0f8f35e4858ae00bbbeb38bce", func := "loop.example/carding/laws.FnExactFeedAll", spec := "fnExactFeedAll", apart := false, narrowed := true }
def FnExactFeedAllUptoSaid : Prop := fnExactFeedAllUptoRow.holds Try.pinned (OpenSpec.upto fnExactFeedAllSpec)

/-- 'laws.FnExactFeedEnd', WHERE WHAT IT READS IS OF BULK AT MOST 1048576: true; the input reads as it did. -/
def fnExactFeedEndUptoRow : OpenClaim := { program := "ytonljcfflamccaa", sum := "5589a687d0bec162a2d5527a26b18accd3be8fa0f8f35e4858ae00bbbeb38bce", func := "loop.example/carding/laws.FnExactFeedEnd", spec := "fnExactFeedEnd", apart := false, narrowed := true }
def FnExactFeedEndUptoSaid : Prop := fnExactFeedEndUptoRow.holds Try.pinned (OpenSpec.upto fnExactFeedEndSpec)

/-- 'laws.FnExactFeedPush', WHERE WHAT IT READS IS OF BULK AT MOST 1048576: true; the input reads as it did. -/
def fnExactFeedPushUptoRow : OpenClaim := { program := "ytonljcfflamccaa", sum := "5589a687d0bec162a2d5527a26b18accd3be8fa0f8f35e4858ae00bbbeb38bce", func := "loop.example/carding/laws.FnExactFeedPush", spec := "fnExactFeedPush", apart := false, narrowed := true }
def FnExactFeedPushUptoSaid : Prop := fnExactFeedPushUptoRow.holds Try.pinned (OpenSpec.upto fnExactFeedPushSpec)

/-- 'laws.FnTurnCat', WHERE WHAT IT READS IS OF BULK AT MOST 1048576: true; the input reads as it did. -/
def fnTurnCatUptoRow : OpenClaim := { program := "ytonljcfflamccaa", sum := "5589a687d0bec162a2d5527a26b18accd3be8fa0f8f35e4858ae00bbbeb38bce", func := "loop.example/carding/laws.FnTurnCat", spec := "fnTurnCat", recurses := true, apart := false, narrowed := true }
def FnTurnCatUptoSaid : Prop := fnTurnCatUptoRow.holds Try.pinned (OpenSpec.upto fnTurnCatSpec)

/-- 'laws.FnExactProgOf', WHERE WHAT IT READS IS OF BULK AT MOST 1048576: true; the input reads as it did. -/
def fnExactProgOfUptoRow : OpenClaim := { program := "ytonljcfflamccaa", sum := "5589a687d0bec162a2d5527a26b18accd3be8fa0f8f35e4858ae00bbbeb38bce", func := "loop.example/carding/laws.FnExactProgOf", spec := "fnExactProgOf", apart := false, narrowed := true }
def FnExactProgOfUptoSaid : Prop := fnExactProgOfUptoRow.holds Try.pinned (OpenSpec.upto fnExactProgOfSpec)

end Rows
end Go.Proofs.Ytonljcfflamccaa
