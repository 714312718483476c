/-
  NARROWER THAN 'FOR EVERY INPUT', by the rows' own cells (each row's printed sentence says how): FnExactTurnRex: loops · FnExactTurnSwap: loops.
  DERIVED. THE GIVEN ROWS OF THIS SEAT. 6 by the template 'for every input the law returns true; each argument reads behind the call as it read before'; 0 by the template 'total and deterministic' (their statements: YtklmfpikhejemaaTotals.lean).
  GIVEN WITH THE SEED: the statements are not yours to turn. If you find one false, say at which input.
  Laid BY PROGRAM, IN A SANDBOX (cutbox-rows.mjs): the forced cells as the released guide's own fill.sh prints them over the translation 561aee5824b1b71a… (all of the seat's roots in one cut). By AI agents, Wed Nov 11 2026. No macro, syntax, notation, axiom, sorry.
-/
import Derived.Test.YtklmfpikhejemaaChecked
import GoSem.Claim
import GoSem.ClaimJoined
import GoSem.ClaimMapViews
import Derived.JoinedTies
import Derived.KernelRfl
namespace Go.Proofs.Ytklmfpikhejemaa
/- THE CELL 'sum', in the pinned program and in every row, IS THE sha256 OF THE DUMP (.gsa) THAT YtklmfpikhejemaaProg.lean LOADS. Nothing in Lean hashes anything: it is a label: what it is worth is what the hold of that sum in a sandbox is worth. -/
noncomputable def Try.pinned : Pinned := { name := "ytklmfpikhejemaa", sum := "561aee5824b1b71afbc1dc099bef2eb16eb1f79aecce376a23016d18dd3f7c82", checked := Try.checked }
namespace Rows
def none {H : Type} : Left H := { results := [], args := [] }

/-- 'laws.FnExactTurnText': WHATEVER THE INPUT: true; the input reads as it did. -/
def fnExactTurnTextSpec : ChangeSpec := { name := "fnExactTurnText", fn := fun _ => fun
  | [d] => { results := [.lit (.bool true)], args := [d] }
  | _ => none }
def fnExactTurnTextRow : OpenClaim := { program := "ytklmfpikhejemaa", sum := "561aee5824b1b71afbc1dc099bef2eb16eb1f79aecce376a23016d18dd3f7c82", func := "loop.example/carding/laws.FnExactTurnText", spec := "fnExactTurnText", apart := false }
def FnExactTurnTextSaid : Prop := fnExactTurnTextRow.holds Try.pinned (OpenSpec.ofChange fnExactTurnTextSpec)

/-- ITS FALSE NEIGHBOUR: 'it returns false'. Refute it at one input. -/
def fnExactTurnTextWrong : ChangeSpec := { name := "fnExactTurnText", fn := fun _ => fun
  | [d] => { results := [.lit (.bool false)], args := [d] }
  | _ => none }
def FnExactTurnTextWrongFalsely : Prop := fnExactTurnTextRow.holds Try.pinned (OpenSpec.ofChange fnExactTurnTextWrong)

/-- 'laws.FnExactFeedSame': WHATEVER THE INPUT: true; the input reads as it did. -/
def fnExactFeedSameSpec : ChangeSpec := { name := "fnExactFeedSame", fn := fun _ => fun
  | [d1, d2] => { results := [.lit (.bool true)], args := [d1, d2] }
  | _ => none }
def fnExactFeedSameRow : OpenClaim := { program := "ytklmfpikhejemaa", sum := "561aee5824b1b71afbc1dc099bef2eb16eb1f79aecce376a23016d18dd3f7c82", func := "loop.example/carding/laws.FnExactFeedSame", spec := "fnExactFeedSame", apart := false }
def FnExactFeedSameSaid : Prop := fnExactFeedSameRow.holds Try.pinned (OpenSpec.ofChange fnExactFeedSameSpec)

/-- ITS FALSE NEIGHBOUR: 'it returns false'. Refute it at one input. -/
def fnExactFeedSameWrong : ChangeSpec := { name := "fnExactFeedSame", fn := fun _ => fun
  | [d1, d2] => { results := [.lit (.bool false)], args := [d1, d2] }
  | _ => none }
def FnExactFeedSameWrongFalsely : Prop := fnExactFeedSameRow.holds Try.pinned (OpenSpec.ofChange fnExactFeedSameWrong)

/-- 'laws.FnExactFeedOk': WHATEVER THE INPUT: true; the input reads as it did. -/
def fnExactFeedOkSpec : ChangeSpec := { name := "fnExactFeedOk", fn := fun _ => fun
  | [d] => { results := [.lit (.bool true)], args := [d] }
  | _ => none }
def fnExactFeedOkRow : OpenClaim := { program := "ytklmfpikhejemaa", sum := "561aee5824b1b71afbc1dc099bef2eb16eb1f79aecce376a23016d18dd3f7c82", func := "loop.example/carding/laws.FnExactFeedOk", spec := "fnExactFeedOk", apart := false }
def FnExactFeedOkSaid : Prop := fnExactFeedOkRow.holds Try.pinned (OpenSpec.ofChange fnExactFeedOkSpec)

/-- ITS FALSE NEIGHBOUR: 'it returns false'. Refute it at one input. -/
def fnExactFeedOkWrong : ChangeSpec := { name := "fnExactFeedOk", fn := fun _ => fun
  | [d] => { results := [.lit (.bool false)], args := [d] }
  | _ => none }
def FnExactFeedOkWrongFalsely : Prop := fnExactFeedOkRow.holds Try.pinned (OpenSpec.ofChange fnExactFeedOkWrong)

/-- 'laws.FnExactFeedOpen': WHATEVER THE INPUT: true; the input reads as it did. -/
def fnExactFeedOpenSpec : ChangeSpec := { name := "fnExactFeedOpen", fn := fun _ => fun
  | [d] => { results := [.lit (.bool true)], args := [d] }
  | _ => none }
def fnExactFeedOpenRow : OpenClaim := { program := "ytklmfpikhejemaa", sum := "561aee5824b1b71afbc1dc099bef2eb16eb1f79aecce376a23016d18dd3f7c82", func := "loop.example/carding/laws.FnExactFeedOpen", spec := "fnExactFeedOpen", apart := false }
def FnExactFeedOpenSaid : Prop := fnExactFeedOpenRow.holds Try.pinned (OpenSpec.ofChange fnExactFeedOpenSpec)

/-- ITS FALSE NEIGHBOUR: 'it returns false'. Refute it at one input. -/
def fnExactFeedOpenWrong : ChangeSpec := { name := "fnExactFeedOpen", fn := fun _ => fun
  | [d] => { results := [.lit (.bool false)], args := [d] }
  | _ => none }
def FnExactFeedOpenWrongFalsely : Prop := fnExactFeedOpenRow.holds Try.pinned (OpenSpec.ofChange fnExactFeedOpenWrong)

/-- 'laws.FnExactTurnRex': WHATEVER THE INPUT: true; the input reads as it did. -/
def fnExactTurnRexSpec : ChangeSpec := { name := "fnExactTurnRex", fn := fun _ => fun
  | [d] => { results := [.lit (.bool true)], args := [d] }
  | _ => none }
def fnExactTurnRexRow : OpenClaim := { program := "ytklmfpikhejemaa", sum := "561aee5824b1b71afbc1dc099bef2eb16eb1f79aecce376a23016d18dd3f7c82", func := "loop.example/carding/laws.FnExactTurnRex", spec := "fnExactTurnRex", recurses := true, loops := true, apart := false }
def FnExactTurnRexSaid : Prop := fnExactTurnRexRow.holds Try.pinned (OpenSpec.ofChange fnExactTurnRexSpec)

/-- ITS FALSE NEIGHBOUR: 'it returns false'. Refute it at one input. -/
def fnExactTurnRexWrong : ChangeSpec := { name := "fnExactTurnRex", fn := fun _ => fun
  | [d] => { results := [.lit (.bool false)], args := [d] }
  | _ => none }
def FnExactTurnRexWrongFalsely : Prop := fnExactTurnRexRow.holds Try.pinned (OpenSpec.ofChange fnExactTurnRexWrong)

/-- 'laws.FnExactTurnSwap': WHATEVER THE INPUT: true; the input reads as it did. -/
def fnExactTurnSwapSpec : ChangeSpec := { name := "fnExactTurnSwap", fn := fun _ => fun
  | [d1, d2, d3] => { results := [.lit (.bool true)], args := [d1, d2, d3] }
  | _ => none }
def fnExactTurnSwapRow : OpenClaim := { program := "ytklmfpikhejemaa", sum := "561aee5824b1b71afbc1dc099bef2eb16eb1f79aecce376a23016d18dd3f7c82", func := "loop.example/carding/laws.FnExactTurnSwap", spec := "fnExactTurnSwap", recurses := true, loops := true, apart := false }
def FnExactTurnSwapSaid : Prop := fnExactTurnSwapRow.holds Try.pinned (OpenSpec.ofChange fnExactTurnSwapSpec)

/-- ITS FALSE NEIGHBOUR: 'it returns false'. Refute it at one input. -/
def fnExactTurnSwapWrong : ChangeSpec := { name := "fnExactTurnSwap", fn := fun _ => fun
  | [d1, d2, d3] => { results := [.lit (.bool false)], args := [d1, d2, d3] }
  | _ => none }
def FnExactTurnSwapWrongFalsely : Prop := fnExactTurnSwapRow.holds Try.pinned (OpenSpec.ofChange fnExactTurnSwapWrong)

/- THE SECOND FORM. 'bulk': how many values and letters a reading holds, each counted each time it is reached (what is shared counts as often as it is met; a slice's spare places count too). A statement '..UptoSaid' is the law's where the arguments, and the package variables that the reading takes, are together of bulk at most 1048576: NARROWER than '..Said'. Prove '..Said' where nothing that the law and all that it calls make is longer than what came in: it says more and counts as full. Else prove '..UptoSaid'. A law counts once. -/
mutual
def uptoBulk {H : Type} : DataW H → Nat
  | .lit (.string bytes) => bytes.length + 1
  | .lit _ => 1
  | .nil => 1
  | .ptr d => uptoBulk d + 1
  | .slice elems spare => uptoBulkAll elems + uptoBulkAll spare + 1
  | .agg parts => uptoBulkAll parts + 1
  | .iface _ d => uptoBulk d + 1
  | .map entries => uptoBulkEntries entries + 1
  | .held _ => 1
def uptoBulkAll {H : Type} : List (DataW H) → Nat
  | [] => 0
  | d :: r => uptoBulk d + uptoBulkAll r
def uptoBulkEntries {H : Type} : List (Lit × DataW H) → Nat
  | [] => 0
  | x :: r => uptoBulkEntry x + uptoBulkEntries r
def uptoBulkEntry {H : Type} : Lit × DataW H → Nat
  | (.string bytes, d) => bytes.length + uptoBulk d + 1
  | (_, d) => uptoBulk d + 1
 end
def uptoSmall : (H : Type) → List (DataW H) → Bool := fun _ ds => decide (uptoBulkAll ds ≤ 1048576)
def OpenSpec.upto (s : _root_.Go.ChangeSpec) : _root_.Go.OpenSpec := { _root_.Go.OpenSpec.ofChange s with cond := some uptoSmall }

/-- 'laws.FnExactTurnText', WHERE WHAT IT READS IS OF BULK AT MOST 1048576: true; the input reads as it did. -/
def fnExactTurnTextUptoRow : OpenClaim := { program := "ytklmfpikhejemaa", sum := "561aee5824b1b71afbc1dc099bef2eb16eb1f79aecce376a23016d18dd3f7c82", func := "loop.example/carding/laws.FnExactTurnText", spec := "fnExactTurnText", apart := false, narrowed := true }
def FnExactTurnTextUptoSaid : Prop := fnExactTurnTextUptoRow.holds Try.pinned (OpenSpec.upto fnExactTurnTextSpec)

/-- 'laws.FnExactFeedSame', WHERE WHAT IT READS IS OF BULK AT MOST 1048576: true; the input reads as it did. -/
def fnExactFeedSameUptoRow : OpenClaim := { program := "ytklmfpikhejemaa", sum := "561aee5824b1b71afbc1dc099bef2eb16eb1f79aecce376a23016d18dd3f7c82", func := "loop.example/carding/laws.FnExactFeedSame", spec := "fnExactFeedSame", apart := false, narrowed := true }
def FnExactFeedSameUptoSaid : Prop := fnExactFeedSameUptoRow.holds Try.pinned (OpenSpec.upto fnExactFeedSameSpec)

/-- 'laws.FnExactFeedOk', WHERE WHAT IT READS IS OF BULK AT MOST 1048576: true; the input reads as it did. -/
def fnExactFeedOkUptoRow : OpenClaim := { program := "ytklmfpikhejemaa", sum := "561aee5824b1b71afbc1dc099bef2eb16eb1f79aecce376a23016d18dd3f7c82", func := "loop.example/carding/laws.FnExactFeedOk", spec := "fnExactFeedOk", apart := false, narrowed := true }
def FnExactFeedOkUptoSaid : Prop := fnExactFeedOkUptoRow.holds Try.pinned (OpenSpec.upto fnExactFeedOkSpec)

/-- 'laws.FnExactFeedOpen', WHERE WHAT IT READS IS OF BULK AT MOST 1048576: true; the input reads as it did. -/
def fnExactFeedOpenUptoRow : OpenClaim := { program := "ytklmfpikhejemaa", sum := "561aee5824b1b71afbc1dc099bef2eb16eb1f79aecce376a23016d18dd3f7c82", func := "loop.example/carding/laws.FnExactFeedOpen", spec := "fnExactFeedOpen", apart := false, narrowed := true }
def FnExactFeedOpenUptoSaid : Prop := fnExactFeedOpenUptoRow.holds Try.pinned (OpenSpec.upto fnExactFeedOpenSpec)

/-- 'laws.FnExactTurnRex', WHERE WHAT IT READS IS OF BULK AT MOST 1048576: true; the input reads as it did. -/
def fnExactTurnRexUptoRow : OpenClaim := { program := "ytklmfpikhejemaa", sum := "561aee5824b1b71afbc1dc099bef2eb16eb1f79aecce376a23016d18dd3f7c82", func := "loop.example/carding/laws.FnExactTurnRex", spec := "fnExactTurnRex", recurses := true, loops := true, apart := false, narrowed := true }
def FnExactTurnRexUptoSaid : Prop := fnExactTurnRexUptoRow.holds Try.pinned (OpenSpec.upto fnExactTurnRexSpec)

/-- 'laws.FnExactTurnSwap', WHERE WHAT IT READS IS OF BULK AT MOST 1048576: true; the input reads as it did. -/
def fnExactTurnSwapUptoRow : OpenClaim := { program := "ytklmfpikhejemaa", sum := "561aee5824b1b71afbc1dc099bef2eb16eb1f79aecce376a23016d18dd3f7c82", func := "loop.example/carding/laws.FnExactTurnSwap", spec := "fnExactTurnSwap", recurses := true, loops := true, apart := false, narrowed := true }
def FnExactTurnSwapUptoSaid : Prop := fnExactTurnSwapUptoRow.holds Try.pinned (OpenSpec.upto fnExactTurnSwapSpec)

end Rows
end Go.Proofs.Ytklmfpikhejemaa
