/- The law FnExactAskShort returns true whatever its arguments, and its arguments read as they did. No conditions. -/
import Derived.Test.YtpffgegfjpdncaaGreatDoorRows
import Derived.Test.YtpffgegfjpdncaaGreatDoorAskShortU3
import Derived.Test.YtpffgegfjpdncaaGreatDoorCards
import Derived.Test.YtpffgegfjpdncaaGreatDoorTie
import Derived.WalkKit
import Derived.ProofKit
import Derived.OpenShut
import Derived.Deep.DeepHandedRow
import Derived.Lib.LaidTab
set_option linter.unusedVariables false
set_option linter.unusedSimpArgs false
set_option maxRecDepth 100000
set_option maxHeartbeats 4000000
namespace Go.Proofs.YtpffgegfjpdncaaGreatDoor.AskShort
open Go.ChangeShapes Go.WideShapes Go.ChangeAt Go.Proofs.YtpffgegfjpdncaaGreatDoor Go.Proofs.YtpffgegfjpdncaaGreatDoor.U Go Go.RowKit Go.Proofs Go.Proofs.YtpffgegfjpdncaaGreatDoor.Am AV Go.Proofs.Tryz
theorem typed (xs : List AV) (h : TypedL prog f5.params.toList xs) : Fits prog 5 xs (.bool true) []:=by
  rw [params5] at h
  match xs,h with
  | [x0],⟨⟨n0,h0⟩,_⟩ =>
    obtain ⟨v0,rfl,a0⟩:=typ_rex h0
    exact law_AskShort v0 a0
def setC (k : IntKind) (zs : List Int) : Obj → Obj
  | .cells _ t fr => .cells (zs.map fun z => Value.int k z).toArray t fr
  | o => o
/-- A world in which the tables hold what they hold. -/
noncomputable def laidWorld (os : Os) : World:={ World.holding prog os ⟨#[],#[],[]⟩ with heap:=((((World.holding prog os ⟨#[],#[],[]⟩).heap.modify ((prog.globalNamed "math/bits.deBruijn32tab").getD 0) (setC .u8 [0,1,28,2,29,14,24,3,30,22,20,15,25,17,4,8,31,27,13,23,21,19,16,7,26,12,18,6,11,5,10,9])).modify ((prog.globalNamed "math/bits.deBruijn64tab").getD 0) (setC .u8 [0,1,56,2,57,49,28,3,61,58,42,50,38,29,17,4,62,47,59,36,45,43,51,22,53,39,33,30,24,18,12,5,63,55,48,27,60,41,37,16,46,35,44,21,52,32,23,11,54,26,40,15,34,20,31,10,25,14,19,9,13,8,7,6])).modify ((prog.globalNamed "internal/strconv.uint64pow10").getD 0) (setC .u64 [1,10,100,1000,10000,100000,1000000,10000000,100000000,1000000000,10000000000,100000000000,1000000000000,10000000000000,100000000000000,1000000000000000,10000000000000000,100000000000000000,1000000000000000000,10000000000000000000])) }
theorem laid_met (os : Os) : laidMet prog Go.Proofs.YtpffgegfjpdncaaGreatDoor.Rows.fnExactAskShortRow.laid ((laidWorld os).forCall (fun _ _ => 0) ⟨#[],#[.agg #[.int .i64 0,.slice none 0 0,.slice none 0 0]],[]⟩).memory :=
  laidMet_of_run' 8 (by kernel_rfl) (by kernel_rfl)
theorem reads (os : Os) {H : Type} (enc : TypeId × Value → H) : ∃ places,DataW.whole enc prog ((laidWorld os).forCall (fun _ _ => 0) ⟨#[],#[.agg #[.int .i64 0,.slice none 0 0,.slice none 0 0]],[]⟩).memory f5.params.toList Go.Proofs.YtpffgegfjpdncaaGreatDoor.Rows.fnExactAskShortSpec.vars false (#[.agg #[.int .i64 0,.slice none 0 0,.slice none 0 0]] : Array Value).toList 8 = some ([.agg [.lit (.int .i64 0),.nil,.nil]],[],places) :=
  ⟨[],by kernel_rfl⟩
theorem lifted (os : Os) (started : os.Started) (H : Type) (enc : TypeId × Value → H) (F : Stop.Interp) :
    ReturnsInHanded {} checked os 5 .any ((OpenSpec.ofChange Go.Proofs.YtpffgegfjpdncaaGreatDoor.Rows.fnExactAskShortSpec).preRow enc prog f5 Go.Proofs.YtpffgegfjpdncaaGreatDoor.Rows.fnExactAskShortRow.domain false Go.Proofs.YtpffgegfjpdncaaGreatDoor.Rows.fnExactAskShortRow.laid) (((OpenSpec.ofChange Go.Proofs.YtpffgegfjpdncaaGreatDoor.Rows.fnExactAskShortSpec).at F).post enc prog f5 false true false false):=by
  obtain ⟨places,hx⟩:=reads os enc
  refine returnsInHanded_of_row (C:=checked) (s:=OpenSpec.ofChange Go.Proofs.YtpffgegfjpdncaaGreatDoor.Rows.fnExactAskShortSpec) own started (by kernel_rfl) func5
    (witness_row_at (enc:=enc) (C:=checked) false (laidWorld os) #[.agg #[.int .i64 0,.slice none 0 0,.slice none 0 0]] rfl (by kernel_rfl) (by kernel_rfl) (by kernel_rfl)
      (OpenSpec.preRow_of_cond 8 hx (by kernel_rfl) (fun k hk => by cases hk) (by kernel_rfl) (laid_met os))) ?_
  intro W base args ds gs before hval hW _ _ _ hL hsh _
  exact contract_of_fitsL 4 [25,3,22,84,23] laidOut (by kernel_rfl) (by kernel_rfl) rfl underlying4 rfl (fun ds hl => by
    rw [params5] at hl
    match ds,hl with
    | [d0],_ => rfl) typed W (laid_of_met hL 2 (by kernel_rfl) (by kernel_rfl) (by kernel_rfl) hsh (by kernel_rfl)) base args ds gs before hval hW
theorem said : Go.Proofs.YtpffgegfjpdncaaGreatDoor.Rows.FnExactAskShortSaid :=
  OpenClaim.holds_of_cond 5 f5 rfl rfl rfl rfl rfl rfl rfl ⟨rfl,rfl,rfl,rfl,rfl⟩ rfl rfl rfl rfl rfl (by kernel_rfl) func5 (by kernel_rfl)
    (of_decide_eq_true (by kernel_rfl)) (by unfold Func.isWrapper; first | (rw [if_pos (by decide +kernel)]; kernel_rfl) | (rw [if_neg (by decide +kernel)]; exact ⟨rfl,rfl⟩))
    (fun os started H enc _ F => by rw [OpenClaim.pre_eq_preRow]; exact lifted os started H enc F)
theorem bare (f : FuncId) (fn : Func) (hf : Go.Proofs.YtpffgegfjpdncaaGreatDoor.Tryz.pinned.checked.prog.funcNamed "loop.example/carding/laws.FnExactAskShort" = some f) (hfn : Go.Proofs.YtpffgegfjpdncaaGreatDoor.Tryz.pinned.checked.prog.funcs[f]? = some fn) :
    false = Go.Proofs.YtpffgegfjpdncaaGreatDoor.Tryz.pinned.checked.prog.looks [] ∧ ∀ (j : Nat) t,fn.params[j]? = some t → Go.Proofs.YtpffgegfjpdncaaGreatDoor.Tryz.pinned.checked.prog.wantsStandIn t = false:=by
  obtain rfl : f = 5:=Option.some.inj ((show prog.funcNamed "loop.example/carding/laws.FnExactAskShort" = some 5 by kernel_rfl).symm.trans hf) |>.symm
  obtain rfl : fn = f5:=(Option.some.inj (func5.symm.trans hfn)).symm
  refine ⟨by kernel_rfl,fun j t ht => ?_⟩
  rw [params5] at ht
  have hm:=Array.mem_of_getElem? ht
  simp only [List.mem_toArray,List.mem_cons,List.not_mem_nil,or_false] at hm
  subst hm
  exact (show prog.wantsStandIn 25 = false by kernel_rfl)
theorem proved : Go.Proofs.YtpffgegfjpdncaaGreatDoor.Rows.FnExactAskShortCardSaid :=
  Claim7.holds_tied_plain_at .later [] _ _ _ _ said (fun _ h => by cases h) (by kernel_rfl) (fun _ h => by cases h) fnExactAskShort_row_tie rfl ⟨rfl,rfl⟩ (by kernel_rfl) rfl bare (by kernel_rfl)
end Go.Proofs.YtpffgegfjpdncaaGreatDoor.AskShort
