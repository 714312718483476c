/-
  No cell of these rows narrows 'for every input' (looked for: loops, veiled, ifaces, maps, wideKeys, modest, calm, conditions, laid).
  DERIVED. THE GIVEN ROWS OF THIS SEAT. 6 by the template 'for every input the law returns true; each argument reads behind the call as it read before'; 0 by the template 'total and deterministic' (their statements: YtikpjpinkkllaaaTotals.lean).
  GIVEN WITH THE SEED: the statements are not yours to turn. If you find one false, say at which input.
  Laid BY PROGRAM, IN A SANDBOX (cutbox-rows.mjs): the forced cells as the released guide's own fill.sh prints them over the translation bcb4a6266e11c120… (all of the seat's roots in one cut). By AI agents, Wed Nov 11 2026. No macro, syntax, notation, axiom, sorry.
-/
import Derived.Test.YtikpjpinkkllaaaChecked
import GoSem.Claim
import GoSem.ClaimJoined
import GoSem.ClaimMapViews
import Derived.JoinedTies
import Derived.KernelRfl
namespace Go.Proofs.Ytikpjpinkkllaaa
/- THE CELL 'sum', in the pinned program and in every row, IS THE sha256 OF THE DUMP (.gsa) THAT YtikpjpinkkllaaaProg.lean LOADS. Nothing in Lean hashes anything: it is a label: what it is worth is what the hold of that sum in a sandbox is worth. -/
noncomputable def Try.pinned : Pinned := { name := "ytikpjpinkkllaaa", sum := "bcb4a6266e11c12042045a0eedf75e404ba5455d4f62f03bedc2b3c3f85c5331", checked := Try.checked }
namespace Rows
def none {H : Type} : Left H := { results := [], args := [] }

/-- 'laws.FnProgAt': WHATEVER THE INPUT: true; the input reads as it did. -/
def fnProgAtSpec : ChangeSpec := { name := "fnProgAt", fn := fun _ => fun
  | [d] => { results := [.lit (.bool true)], args := [d] }
  | _ => none }
def fnProgAtRow : OpenClaim := { program := "ytikpjpinkkllaaa", sum := "bcb4a6266e11c12042045a0eedf75e404ba5455d4f62f03bedc2b3c3f85c5331", func := "loop.example/carding/laws.FnProgAt", spec := "fnProgAt", recurses := true, apart := false }
def FnProgAtSaid : Prop := fnProgAtRow.holds Try.pinned (OpenSpec.ofChange fnProgAtSpec)

/-- ITS FALSE NEIGHBOUR: 'it returns false'. Refute it at one input. -/
def fnProgAtWrong : ChangeSpec := { name := "fnProgAt", fn := fun _ => fun
  | [d] => { results := [.lit (.bool false)], args := [d] }
  | _ => none }
def FnProgAtWrongFalsely : Prop := fnProgAtRow.holds Try.pinned (OpenSpec.ofChange fnProgAtWrong)

/-- 'laws.FnProgBack': WHATEVER THE INPUT: true; the input reads as it did. -/
def fnProgBackSpec : ChangeSpec := { name := "fnProgBack", fn := fun _ => fun
  | [d] => { results := [.lit (.bool true)], args := [d] }
  | _ => none }
def fnProgBackRow : OpenClaim := { program := "ytikpjpinkkllaaa", sum := "bcb4a6266e11c12042045a0eedf75e404ba5455d4f62f03bedc2b3c3f85c5331", func := "loop.example/carding/laws.FnProgBack", spec := "fnProgBack", recurses := true, apart := false }
def FnProgBackSaid : Prop := fnProgBackRow.holds Try.pinned (OpenSpec.ofChange fnProgBackSpec)

/-- ITS FALSE NEIGHBOUR: 'it returns false'. Refute it at one input. -/
def fnProgBackWrong : ChangeSpec := { name := "fnProgBack", fn := fun _ => fun
  | [d] => { results := [.lit (.bool false)], args := [d] }
  | _ => none }
def FnProgBackWrongFalsely : Prop := fnProgBackRow.holds Try.pinned (OpenSpec.ofChange fnProgBackWrong)

/-- 'laws.FnFeedOne': WHATEVER THE INPUT: true; the input reads as it did. -/
def fnFeedOneSpec : ChangeSpec := { name := "fnFeedOne", fn := fun _ => fun
  | [d] => { results := [.lit (.bool true)], args := [d] }
  | _ => none }
def fnFeedOneRow : OpenClaim := { program := "ytikpjpinkkllaaa", sum := "bcb4a6266e11c12042045a0eedf75e404ba5455d4f62f03bedc2b3c3f85c5331", func := "loop.example/carding/laws.FnFeedOne", spec := "fnFeedOne", recurses := true, apart := false }
def FnFeedOneSaid : Prop := fnFeedOneRow.holds Try.pinned (OpenSpec.ofChange fnFeedOneSpec)

/-- ITS FALSE NEIGHBOUR: 'it returns false'. Refute it at one input. -/
def fnFeedOneWrong : ChangeSpec := { name := "fnFeedOne", fn := fun _ => fun
  | [d] => { results := [.lit (.bool false)], args := [d] }
  | _ => none }
def FnFeedOneWrongFalsely : Prop := fnFeedOneRow.holds Try.pinned (OpenSpec.ofChange fnFeedOneWrong)

/-- 'laws.FnFeedCut': WHATEVER THE INPUT: true; the input reads as it did. -/
def fnFeedCutSpec : ChangeSpec := { name := "fnFeedCut", fn := fun _ => fun
  | [d1, d2] => { results := [.lit (.bool true)], args := [d1, d2] }
  | _ => none }
def fnFeedCutRow : OpenClaim := { program := "ytikpjpinkkllaaa", sum := "bcb4a6266e11c12042045a0eedf75e404ba5455d4f62f03bedc2b3c3f85c5331", func := "loop.example/carding/laws.FnFeedCut", spec := "fnFeedCut", recurses := true, apart := false }
def FnFeedCutSaid : Prop := fnFeedCutRow.holds Try.pinned (OpenSpec.ofChange fnFeedCutSpec)

/-- ITS FALSE NEIGHBOUR: 'it returns false'. Refute it at one input. -/
def fnFeedCutWrong : ChangeSpec := { name := "fnFeedCut", fn := fun _ => fun
  | [d1, d2] => { results := [.lit (.bool false)], args := [d1, d2] }
  | _ => none }
def FnFeedCutWrongFalsely : Prop := fnFeedCutRow.holds Try.pinned (OpenSpec.ofChange fnFeedCutWrong)

/-- 'laws.FnProgSize': WHATEVER THE INPUT: true; the input reads as it did. -/
def fnProgSizeSpec : ChangeSpec := { name := "fnProgSize", fn := fun _ => fun
  | [d] => { results := [.lit (.bool true)], args := [d] }
  | _ => none }
def fnProgSizeRow : OpenClaim := { program := "ytikpjpinkkllaaa", sum := "bcb4a6266e11c12042045a0eedf75e404ba5455d4f62f03bedc2b3c3f85c5331", func := "loop.example/carding/laws.FnProgSize", spec := "fnProgSize", recurses := true, apart := false }
def FnProgSizeSaid : Prop := fnProgSizeRow.holds Try.pinned (OpenSpec.ofChange fnProgSizeSpec)

/-- ITS FALSE NEIGHBOUR: 'it returns false'. Refute it at one input. -/
def fnProgSizeWrong : ChangeSpec := { name := "fnProgSize", fn := fun _ => fun
  | [d] => { results := [.lit (.bool false)], args := [d] }
  | _ => none }
def FnProgSizeWrongFalsely : Prop := fnProgSizeRow.holds Try.pinned (OpenSpec.ofChange fnProgSizeWrong)

/-- 'laws.FnProg': WHATEVER THE INPUT: true; the input reads as it did. -/
def fnProgSpec : ChangeSpec := { name := "fnProg", fn := fun _ => fun
  | [d1, d2] => { results := [.lit (.bool true)], args := [d1, d2] }
  | _ => none }
def fnProgRow : OpenClaim := { program := "ytikpjpinkkllaaa", sum := "bcb4a6266e11c12042045a0eedf75e404ba5455d4f62f03bedc2b3c3f85c5331", func := "loop.example/carding/laws.FnProg", spec := "fnProg", recurses := true, apart := false }
def FnProgSaid : Prop := fnProgRow.holds Try.pinned (OpenSpec.ofChange fnProgSpec)

/-- ITS FALSE NEIGHBOUR: 'it returns false'. Refute it at one input. -/
def fnProgWrong : ChangeSpec := { name := "fnProg", fn := fun _ => fun
  | [d1, d2] => { results := [.lit (.bool false)], args := [d1, d2] }
  | _ => none }
def FnProgWrongFalsely : Prop := fnProgRow.holds Try.pinned (OpenSpec.ofChange fnProgWrong)

/- THE SECOND FORM. 'bulk': how many values and letters a reading holds, each counted each time it is reached (what is shared counts as often as it is met; a slice's spare places count too). A statement '..UptoSaid' is the law's where the arguments, and the package variables that the reading takes, are together of bulk at most 1048576: NARROWER than '..Said'. Prove '..Said' where nothing that the law and all that it calls make is longer than what came in: it says more and counts as full. Else prove '..UptoSaid'. A law counts once. -/
mutual
def uptoBulk {H : Type} : DataW H → Nat
  | .lit (.string bytes) => bytes.length + 1
  | .lit _ => 1
  | .nil => 1
  | .ptr d => uptoBulk d + 1
  | .slice elems spare => uptoBulkAll elems + uptoBulkAll spare + 1
  | .agg parts => uptoBulkAll parts + 1
  | .iface _ d => uptoBulk d + 1
  | .map entries => uptoBulkEntries entries + 1
  | .held _ => 1
def uptoBulkAll {H : Type} : List (DataW H) → Nat
  | [] => 0
  | d :: r => uptoBulk d + uptoBulkAll r
def uptoBulkEntries {H : Type} : List (Lit × DataW H) → Nat
  | [] => 0
  | x :: r => uptoBulkEntry x + uptoBulkEntries r
def uptoBulkEntry {H : Type} : Lit × DataW H → Nat
  | (.string bytes, d) => bytes.length + uptoBulk d + 1
  | (_, d) => uptoBulk d + 1
 end
def uptoSmall : (H : Type) → List (DataW H) → Bool := fun _ ds => decide (uptoBulkAll ds ≤ 1048576)
def OpenSpec.upto (s : _root_.Go.ChangeSpec) : _root_.Go.OpenSpec := { _root_.Go.OpenSpec.ofChange s with cond := some uptoSmall }

/-- 'laws.FnProgAt', WHERE WHAT IT READS IS OF BULK AT MOST 1048576: true; the input reads as it did. -/
def fnProgAtUptoRow : OpenClaim := { program := "ytikpjpinkkllaaa", sum := "bcb4a6266e11c12042045a0eedf75e404ba5455d4f62f03bedc2b3c3f85c5331", func := "loop.example/carding/laws.FnProgAt", spec := "fnProgAt", recurses := true, apart := false, narrowed := true }
def FnProgAtUptoSaid : Prop := fnProgAtUptoRow.holds Try.pinned (OpenSpec.upto fnProgAtSpec)

/-- 'laws.FnProgBack', WHERE WHAT IT READS IS OF BULK AT MOST 1048576: true; the input reads as it did. -/
def fnProgBackUptoRow : OpenClaim := { program := "ytikpjpinkkllaaa", sum := "bcb4a6266e11c12042045a0eedf75e404ba5455d4f62f03bedc2b3c3f85c5331", func := "loop.example/carding/laws.FnProgBack", spec := "fnProgBack", recurses := true, apart := false, narrowed := true }
def FnProgBackUptoSaid : Prop := fnProgBackUptoRow.holds Try.pinned (OpenSpec.upto fnProgBackSpec)

/-- 'laws.FnFeedOne', WHERE WHAT IT READS IS OF BULK AT MOST 1048576: true; the input reads as it did. -/
def fnFeedOneUptoRow : OpenClaim := { program := "ytikpjpinkkllaaa", sum := "bcb4a6266e11c12042045a0eedf75e404ba5455d4f62f03bedc2b3c3f85c5331", func := "loop.example/carding/laws.FnFeedOne", spec := "fnFeedOne", recurses := true, apart := false, narrowed := true }
def FnFeedOneUptoSaid : Prop := fnFeedOneUptoRow.holds Try.pinned (OpenSpec.upto fnFeedOneSpec)

/-- 'laws.FnFeedCut', WHERE WHAT IT READS IS OF BULK AT MOST 1048576: true; the input reads as it did. -/
def fnFeedCutUptoRow : OpenClaim := { program := "ytikpjpinkkllaaa", sum := "bcb4a6266e11c12042045a0eedf75e404ba5455d4f62f03bedc2b3c3f85c5331", func := "loop.example/carding/laws.FnFeedCut", spec := "fnFeedCut", recurses := true, apart := false, narrowed := true }
def FnFeedCutUptoSaid : Prop := fnFeedCutUptoRow.holds Try.pinned (OpenSpec.upto fnFeedCutSpec)

/-- 'laws.FnProgSize', WHERE WHAT IT READS IS OF BULK AT MOST 1048576: true; the input reads as it did. -/
def fnProgSizeUptoRow : OpenClaim := { program := "ytikpjpinkkllaaa", sum := "bcb4a6266e11c12042045a0eedf75e404ba5455d4f62f03bedc2b3c3f85c5331", func := "loop.example/carding/laws.FnProgSize", spec := "fnProgSize", recurses := true, apart := false, narrowed := true }
def FnProgSizeUptoSaid : Prop := fnProgSizeUptoRow.holds Try.pinned (OpenSpec.upto fnProgSizeSpec)

/-- 'laws.FnProg', WHERE WHAT IT READS IS OF BULK AT MOST 1048576: true; the input reads as it did. -/
def fnProgUptoRow : OpenClaim := { program := "ytikpjpinkkllaaa", sum := "bcb4a6266e11c12042045a0eedf75e404ba5455d4f62f03bedc2b3c3f85c5331", func := "loop.example/carding/laws.FnProg", spec := "fnProg", recurses := true, apart := false, narrowed := true }
def FnProgUptoSaid : Prop := fnProgUptoRow.holds Try.pinned (OpenSpec.upto fnProgSpec)

end Rows
end Go.Proofs.Ytikpjpinkkllaaa
