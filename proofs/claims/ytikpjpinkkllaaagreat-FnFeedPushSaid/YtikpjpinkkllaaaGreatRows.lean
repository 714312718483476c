/-
  No cell of these rows narrows 'for every input' (looked for: loops, veiled, ifaces, maps, wideKeys, modest, calm, conditions, laid).
  DERIVED. THE GIVEN ROWS OF THIS SEAT. 3 by the template 'for every input the law returns true; each argument reads behind the call as it read before'; 0 by the template 'total and deterministic' (their statements: YtikpjpinkkllaaaGreatTotals.lean).
  GIVEN WITH THE SEED: the statements are not yours to turn. If you find one false, say at which input.
  Laid BY PROGRAM, IN A SANDBOX (cutbox-rows.mjs): the forced cells as the released guide's own fill.sh prints them over the translation ca41139f00341f23… (all of the seat's roots in one cut). By AI agents, Wed Nov 11 2026. No macro, syntax, notation, axiom, sorry.
-/
import Derived.Test.YtikpjpinkkllaaaGreatChecked
import GoSem.Claim
import GoSem.ClaimJoined
import GoSem.ClaimMapViews
import Derived.JoinedTies
import Derived.KernelRfl
namespace Go.Proofs.YtikpjpinkkllaaaGreat
/- THE CELL 'sum', in the pinned program and in every row, IS THE sha256 OF THE DUMP (.gsa) THAT YtikpjpinkkllaaaGreatProg.lean LOADS. Nothing in Lean hashes anything: it is a label: what it is worth is what the hold of that sum in a sandbox is worth. -/
noncomputable def Tryz.pinned : Pinned := { name := "ytikpjpinkkllaaagreat", sum := "ca41139f00341f23255a62cd2a3b546f2422fa923a72d1a4d98672728e37da9e", checked := Tryz.checked }
namespace Rows
def none {H : Type} : Left H := { results := [], args := [] }

/-- 'laws.FnFeedEnd': WHATEVER THE INPUT: true; the input reads as it did. -/
def fnFeedEndSpec : ChangeSpec := { name := "fnFeedEnd", fn := fun _ => fun
  | [d] => { results := [.lit (.bool true)], args := [d] }
  | _ => none }
def fnFeedEndRow : OpenClaim := { program := "ytikpjpinkkllaaagreat", sum := "ca41139f00341f23255a62cd2a3b546f2422fa923a72d1a4d98672728e37da9e", func := "loop.example/carding/laws.FnFeedEnd", spec := "fnFeedEnd", recurses := true, apart := false }
def FnFeedEndSaid : Prop := fnFeedEndRow.holds Tryz.pinned (OpenSpec.ofChange fnFeedEndSpec)

/-- ITS FALSE NEIGHBOUR: 'it returns false'. Refute it at one input. -/
def fnFeedEndWrong : ChangeSpec := { name := "fnFeedEnd", fn := fun _ => fun
  | [d] => { results := [.lit (.bool false)], args := [d] }
  | _ => none }
def FnFeedEndWrongFalsely : Prop := fnFeedEndRow.holds Tryz.pinned (OpenSpec.ofChange fnFeedEndWrong)

/-- 'laws.FnFeedPush': WHATEVER THE INPUT: true; the input reads as it did. -/
def fnFeedPushSpec : ChangeSpec := { name := "fnFeedPush", fn := fun _ => fun
  | [d1, d2] => { results := [.lit (.bool true)], args := [d1, d2] }
  | _ => none }
def fnFeedPushRow : OpenClaim := { program := "ytikpjpinkkllaaagreat", sum := "ca41139f00341f23255a62cd2a3b546f2422fa923a72d1a4d98672728e37da9e", func := "loop.example/carding/laws.FnFeedPush", spec := "fnFeedPush", recurses := true, apart := false }
def FnFeedPushSaid : Prop := fnFeedPushRow.holds Tryz.pinned (OpenSpec.ofChange fnFeedPushSpec)

/-- ITS FALSE NEIGHBOUR: 'it returns false'. Refute it at one input. -/
def fnFeedPushWrong : ChangeSpec := { name := "fnFeedPush", fn := fun _ => fun
  | [d1, d2] => { results := [.lit (.bool false)], args := [d1, d2] }
  | _ => none }
def FnFeedPushWrongFalsely : Prop := fnFeedPushRow.holds Tryz.pinned (OpenSpec.ofChange fnFeedPushWrong)

/-- 'laws.FnFeed': WHATEVER THE INPUT: true; the input reads as it did. -/
def fnFeedSpec : ChangeSpec := { name := "fnFeed", fn := fun _ => fun
  | [d] => { results := [.lit (.bool true)], args := [d] }
  | _ => none }
def fnFeedRow : OpenClaim := { program := "ytikpjpinkkllaaagreat", sum := "ca41139f00341f23255a62cd2a3b546f2422fa923a72d1a4d98672728e37da9e", func := "loop.example/carding/laws.FnFeed", spec := "fnFeed", recurses := true, apart := false }
def FnFeedSaid : Prop := fnFeedRow.holds Tryz.pinned (OpenSpec.ofChange fnFeedSpec)

/-- ITS FALSE NEIGHBOUR: 'it returns false'. Refute it at one input. -/
def fnFeedWrong : ChangeSpec := { name := "fnFeed", fn := fun _ => fun
  | [d] => { results := [.lit (.bool false)], args := [d] }
  | _ => none }
def FnFeedWrongFalsely : Prop := fnFeedRow.holds Tryz.pinned (OpenSpec.ofChange fnFeedWrong)

/- THE SECOND FORM. 'bulk': how many values and letters a reading holds, each counted each time it is reached (what is shared counts as often as it is met; a slice's spare places count too). A statement '..UptoSaid' is the law's where the arguments, and the package variables that the reading takes, are together of bulk at most 1048576: NARROWER than '..Said'. Prove '..Said' where nothing that the law and all that it calls make is longer than what came in: it says more and counts as full. Else prove '..UptoSaid'. A law counts once. -/
mutual
def uptoBulk {H : Type} : DataW H → Nat
  | .lit (.string bytes) => bytes.length + 1
  | .lit _ => 1
  | .nil => 1
  | .ptr d => uptoBulk d + 1
  | .slice elems spare => uptoBulkAll elems + uptoBulkAll spare + 1
  | .agg parts => uptoBulkAll parts + 1
  | .iface _ d => uptoBulk d + 1
  | .map entries => uptoBulkEntries entries + 1
  | .held _ => 1
def uptoBulkAll {H : Type} : List (DataW H) → Nat
  | [] => 0
  | d :: r => uptoBulk d + uptoBulkAll r
def uptoBulkEntries {H : Type} : List (Lit × DataW H) → Nat
  | [] => 0
  | x :: r => uptoBulkEntry x + uptoBulkEntries r
def uptoBulkEntry {H : Type} : Lit × DataW H → Nat
  | (.string bytes, d) => bytes.length + uptoBulk d + 1
  | (_, d) => uptoBulk d + 1
 end
def uptoSmall : (H : Type) → List (DataW H) → Bool := fun _ ds => decide (uptoBulkAll ds ≤ 1048576)
def OpenSpec.upto (s : _root_.Go.ChangeSpec) : _root_.Go.OpenSpec := { _root_.Go.OpenSpec.ofChange s with cond := some uptoSmall }

/-- 'laws.FnFeedEnd', WHERE WHAT IT READS IS OF BULK AT MOST 1048576: true; the input reads as it did. -/
def fnFeedEndUptoRow : OpenClaim := { program := "ytikpjpinkkllaaagreat", sum := "ca41139f00341f23255a62cd2a3b546f2422fa923a72d1a4d98672728e37da9e", func := "loop.example/carding/laws.FnFeedEnd", spec := "fnFeedEnd", recurses := true, apart := false, narrowed := true }
def FnFeedEndUptoSaid : Prop := fnFeedEndUptoRow.holds Tryz.pinned (OpenSpec.upto fnFeedEndSpec)

/-- 'laws.FnFeedPush', WHERE WHAT IT READS IS OF BULK AT MOST 1048576: true; the input reads as it did. -/
def fnFeedPushUptoRow : OpenClaim := { program := "ytikpjpinkkllaaagreat", sum := "ca41139f00341f23255a62cd2a3b546f2422fa923a72d1a4d98672728e37da9e", func := "loop.example/carding/laws.FnFeedPush", spec := "fnFeedPush", recurses := true, apart := false, narrowed := true }
def FnFeedPushUptoSaid : Prop := fnFeedPushUptoRow.holds Tryz.pinned (OpenSpec.upto fnFeedPushSpec)

/-- 'laws.FnFeed', WHERE WHAT IT READS IS OF BULK AT MOST 1048576: true; the input reads as it did. -/
def fnFeedUptoRow : OpenClaim := { program := "ytikpjpinkkllaaagreat", sum := "ca41139f00341f23255a62cd2a3b546f2422fa923a72d1a4d98672728e37da9e", func := "loop.example/carding/laws.FnFeed", spec := "fnFeed", recurses := true, apart := false, narrowed := true }
def FnFeedUptoSaid : Prop := fnFeedUptoRow.holds Tryz.pinned (OpenSpec.upto fnFeedSpec)

end Rows
end Go.Proofs.YtikpjpinkkllaaaGreat
