/-
  No cell of these rows narrows 'for every input' (looked for: loops, veiled, ifaces, maps, wideKeys, modest, calm, conditions, laid).
  DERIVED. THE GIVEN ROWS OF THIS SEAT. 6 by the template 'for every input the law returns true; each argument reads behind the call as it read before'; 0 by the template 'total and deterministic' (their statements: YtcbckejlljcnpaaTotals.lean).
  GIVEN WITH THE SEED: the statements are not yours to turn. If you find one false, say at which input.
  Laid BY PROGRAM, IN A SANDBOX (cutbox-rows.mjs): the forced cells as the released guide's own fill.sh prints them over the translation a091d1856d155fbf… (all of the seat's roots in one cut). By AI agents, Wed Nov 11 2026. No macro, syntax, notation, axiom, sorry.
-/
import Derived.Test.YtcbckejlljcnpaaChecked
import GoSem.Claim
import GoSem.ClaimJoined
import GoSem.ClaimMapViews
import Derived.JoinedTies
import Derived.KernelRfl
namespace Go.Proofs.Ytcbckejlljcnpaa
/- THE CELL 'sum', in the pinned program and in every row, IS THE sha256 OF THE DUMP (.gsa) THAT YtcbckejlljcnpaaProg.lean LOADS. Nothing in Lean hashes anything: it is a label: what it is worth is what the hold of that sum in a sandbox is worth. -/
noncomputable def Try.pinned : Pinned := { name := "ytcbckejlljcnpaa", sum := "a091d1856d155fbfc8b3dabb3e2b6f2988af6bc9446b933d8c030d1a7d55a1ea", checked := Try.checked }
namespace Rows
def none {H : Type} : Left H := { results := [], args := [] }

/-- 'laws.FnExactPromises': WHATEVER THE INPUT: true; the input reads as it did. -/
def fnExactPromisesSpec : ChangeSpec := { name := "fnExactPromises", fn := fun _ => fun
  | [d1, d2] => { results := [.lit (.bool true)], args := [d1, d2] }
  | _ => none }
def fnExactPromisesRow : OpenClaim := { program := "ytcbckejlljcnpaa", sum := "a091d1856d155fbfc8b3dabb3e2b6f2988af6bc9446b933d8c030d1a7d55a1ea", func := "loop.example/g03006/laws.FnExactPromises", spec := "fnExactPromises", apart := false }
def FnExactPromisesSaid : Prop := fnExactPromisesRow.holds Try.pinned (OpenSpec.ofChange fnExactPromisesSpec)

/-- ITS FALSE NEIGHBOUR: 'it returns false'. Refute it at one input. -/
def fnExactPromisesWrong : ChangeSpec := { name := "fnExactPromises", fn := fun _ => fun
  | [d1, d2] => { results := [.lit (.bool false)], args := [d1, d2] }
  | _ => none }
def FnExactPromisesWrongFalsely : Prop := fnExactPromisesRow.holds Try.pinned (OpenSpec.ofChange fnExactPromisesWrong)

/-- 'laws.FnExactWaitingOn': WHATEVER THE INPUT: true; the input reads as it did. -/
def fnExactWaitingOnSpec : ChangeSpec := { name := "fnExactWaitingOn", fn := fun _ => fun
  | [d1, d2] => { results := [.lit (.bool true)], args := [d1, d2] }
  | _ => none }
def fnExactWaitingOnRow : OpenClaim := { program := "ytcbckejlljcnpaa", sum := "a091d1856d155fbfc8b3dabb3e2b6f2988af6bc9446b933d8c030d1a7d55a1ea", func := "loop.example/g03006/laws.FnExactWaitingOn", spec := "fnExactWaitingOn", apart := false }
def FnExactWaitingOnSaid : Prop := fnExactWaitingOnRow.holds Try.pinned (OpenSpec.ofChange fnExactWaitingOnSpec)

/-- ITS FALSE NEIGHBOUR: 'it returns false'. Refute it at one input. -/
def fnExactWaitingOnWrong : ChangeSpec := { name := "fnExactWaitingOn", fn := fun _ => fun
  | [d1, d2] => { results := [.lit (.bool false)], args := [d1, d2] }
  | _ => none }
def FnExactWaitingOnWrongFalsely : Prop := fnExactWaitingOnRow.holds Try.pinned (OpenSpec.ofChange fnExactWaitingOnWrong)

/-- 'laws.FnExactWorstService': WHATEVER THE INPUT: true; the input reads as it did. -/
def fnExactWorstServiceSpec : ChangeSpec := { name := "fnExactWorstService", fn := fun _ => fun
  | [d] => { results := [.lit (.bool true)], args := [d] }
  | _ => none }
def fnExactWorstServiceRow : OpenClaim := { program := "ytcbckejlljcnpaa", sum := "a091d1856d155fbfc8b3dabb3e2b6f2988af6bc9446b933d8c030d1a7d55a1ea", func := "loop.example/g03006/laws.FnExactWorstService", spec := "fnExactWorstService", apart := false }
def FnExactWorstServiceSaid : Prop := fnExactWorstServiceRow.holds Try.pinned (OpenSpec.ofChange fnExactWorstServiceSpec)

/-- ITS FALSE NEIGHBOUR: 'it returns false'. Refute it at one input. -/
def fnExactWorstServiceWrong : ChangeSpec := { name := "fnExactWorstService", fn := fun _ => fun
  | [d] => { results := [.lit (.bool false)], args := [d] }
  | _ => none }
def FnExactWorstServiceWrongFalsely : Prop := fnExactWorstServiceRow.holds Try.pinned (OpenSpec.ofChange fnExactWorstServiceWrong)

/-- 'laws.FnExactLastGreen': WHATEVER THE INPUT: true; the input reads as it did. -/
def fnExactLastGreenSpec : ChangeSpec := { name := "fnExactLastGreen", fn := fun _ => fun
  | [d1, d2] => { results := [.lit (.bool true)], args := [d1, d2] }
  | _ => none }
def fnExactLastGreenRow : OpenClaim := { program := "ytcbckejlljcnpaa", sum := "a091d1856d155fbfc8b3dabb3e2b6f2988af6bc9446b933d8c030d1a7d55a1ea", func := "loop.example/g03006/laws.FnExactLastGreen", spec := "fnExactLastGreen", apart := false }
def FnExactLastGreenSaid : Prop := fnExactLastGreenRow.holds Try.pinned (OpenSpec.ofChange fnExactLastGreenSpec)

/-- ITS FALSE NEIGHBOUR: 'it returns false'. Refute it at one input. -/
def fnExactLastGreenWrong : ChangeSpec := { name := "fnExactLastGreen", fn := fun _ => fun
  | [d1, d2] => { results := [.lit (.bool false)], args := [d1, d2] }
  | _ => none }
def FnExactLastGreenWrongFalsely : Prop := fnExactLastGreenRow.holds Try.pinned (OpenSpec.ofChange fnExactLastGreenWrong)

/-- 'laws.FnExactCanHold': WHATEVER THE INPUT: true; the input reads as it did. -/
def fnExactCanHoldSpec : ChangeSpec := { name := "fnExactCanHold", fn := fun _ => fun
  | [d1, d2, d3] => { results := [.lit (.bool true)], args := [d1, d2, d3] }
  | _ => none }
def fnExactCanHoldRow : OpenClaim := { program := "ytcbckejlljcnpaa", sum := "a091d1856d155fbfc8b3dabb3e2b6f2988af6bc9446b933d8c030d1a7d55a1ea", func := "loop.example/g03006/laws.FnExactCanHold", spec := "fnExactCanHold", apart := false }
def FnExactCanHoldSaid : Prop := fnExactCanHoldRow.holds Try.pinned (OpenSpec.ofChange fnExactCanHoldSpec)

/-- ITS FALSE NEIGHBOUR: 'it returns false'. Refute it at one input. -/
def fnExactCanHoldWrong : ChangeSpec := { name := "fnExactCanHold", fn := fun _ => fun
  | [d1, d2, d3] => { results := [.lit (.bool false)], args := [d1, d2, d3] }
  | _ => none }
def FnExactCanHoldWrongFalsely : Prop := fnExactCanHoldRow.holds Try.pinned (OpenSpec.ofChange fnExactCanHoldWrong)

/-- 'laws.FnExactTotalInside': WHATEVER THE INPUT: true; the input reads as it did. -/
def fnExactTotalInsideSpec : ChangeSpec := { name := "fnExactTotalInside", fn := fun _ => fun
  | [d] => { results := [.lit (.bool true)], args := [d] }
  | _ => none }
def fnExactTotalInsideRow : OpenClaim := { program := "ytcbckejlljcnpaa", sum := "a091d1856d155fbfc8b3dabb3e2b6f2988af6bc9446b933d8c030d1a7d55a1ea", func := "loop.example/g03006/laws.FnExactTotalInside", spec := "fnExactTotalInside", apart := false }
def FnExactTotalInsideSaid : Prop := fnExactTotalInsideRow.holds Try.pinned (OpenSpec.ofChange fnExactTotalInsideSpec)

/-- ITS FALSE NEIGHBOUR: 'it returns false'. Refute it at one input. -/
def fnExactTotalInsideWrong : ChangeSpec := { name := "fnExactTotalInside", fn := fun _ => fun
  | [d] => { results := [.lit (.bool false)], args := [d] }
  | _ => none }
def FnExactTotalInsideWrongFalsely : Prop := fnExactTotalInsideRow.holds Try.pinned (OpenSpec.ofChange fnExactTotalInsideWrong)

/- THE SECOND FORM. 'bulk': how many values and letters a reading holds, each counted each time it is reached (what is shared counts as often as it is met; a slice's spare places count too). A statement '..UptoSaid' is the law's where the arguments, and the package variables that the reading takes, are together of bulk at most 1048576: NARROWER than '..Said'. Prove '..Said' where nothing that the law and all that it calls make is longer than what came in: it says more and counts as full. Else prove '..UptoSaid'. A law counts once. -/
mutual
def uptoBulk {H : Type} : DataW H → Nat
  | .lit (.string bytes) => bytes.length + 1
  | .lit _ => 1
  | .nil => 1
  | .ptr d => uptoBulk d + 1
  | .slice elems spare => uptoBulkAll elems + uptoBulkAll spare + 1
  | .agg parts => uptoBulkAll parts + 1
  | .iface _ d => uptoBulk d + 1
  | .map entries => uptoBulkEntries entries + 1
  | .held _ => 1
def uptoBulkAll {H : Type} : List (DataW H) → Nat
  | [] => 0
  | d :: r => uptoBulk d + uptoBulkAll r
def uptoBulkEntries {H : Type} : List (Lit × DataW H) → Nat
  | [] => 0
  | x :: r => uptoBulkEntry x + uptoBulkEntries r
def uptoBulkEntry {H : Type} : Lit × DataW H → Nat
  | (.string bytes, d) => bytes.length + uptoBulk d + 1
  | (_, d) => uptoBulk d + 1
 end
def uptoSmall : (H : Type) → List (DataW H) → Bool := fun _ ds => decide (uptoBulkAll ds ≤ 1048576)
def OpenSpec.upto (s : _root_.Go.ChangeSpec) : _root_.Go.OpenSpec := { _root_.Go.OpenSpec.ofChange s with cond := some uptoSmall }

/-- 'laws.FnExactPromises', WHERE WHAT IT READS IS OF BULK AT MOST 1048576: true; the input reads as it did. -/
def fnExactPromisesUptoRow : OpenClaim := { program := "ytcbckejlljcnpaa", sum := "a091d1856d155fbfc8b3dabb3e2b6f2988af6bc9446b933d8c030d1a7d55a1ea", func := "loop.example/g03006/laws.FnExactPromises", spec := "fnExactPromises", apart := false, narrowed := true }
def FnExactPromisesUptoSaid : Prop := fnExactPromisesUptoRow.holds Try.pinned (OpenSpec.upto fnExactPromisesSpec)

/-- 'laws.FnExactWaitingOn', WHERE WHAT IT READS IS OF BULK AT MOST 1048576: true; the input reads as it did. -/
def fnExactWaitingOnUptoRow : OpenClaim := { program := "ytcbckejlljcnpaa", sum := "a091d1856d155fbfc8b3dabb3e2b6f2988af6bc9446b933d8c030d1a7d55a1ea", func := "loop.example/g03006/laws.FnExactWaitingOn", spec := "fnExactWaitingOn", apart := false, narrowed := true }
def FnExactWaitingOnUptoSaid : Prop := fnExactWaitingOnUptoRow.holds Try.pinned (OpenSpec.upto fnExactWaitingOnSpec)

/-- 'laws.FnExactWorstService', WHERE WHAT IT READS IS OF BULK AT MOST 1048576: true; the input reads as it did. -/
def fnExactWorstServiceUptoRow : OpenClaim := { program := "ytcbckejlljcnpaa", sum := "a091d1856d155fbfc8b3dabb3e2b6f2988af6bc9446b933d8c030d1a7d55a1ea", func := "loop.example/g03006/laws.FnExactWorstService", spec := "fnExactWorstService", apart := false, narrowed := true }
def FnExactWorstServiceUptoSaid : Prop := fnExactWorstServiceUptoRow.holds Try.pinned (OpenSpec.upto fnExactWorstServiceSpec)

/-- 'laws.FnExactLastGreen', WHERE WHAT IT READS IS OF BULK AT MOST 1048576: true; the input reads as it did. -/
def fnExactLastGreenUptoRow : OpenClaim := { program := "ytcbckejlljcnpaa", sum := "a091d1856d155fbfc8b3dabb3e2b6f2988af6bc9446b933d8c030d1a7d55a1ea", func := "loop.example/g03006/laws.FnExactLastGreen", spec := "fnExactLastGreen", apart := false, narrowed := true }
def FnExactLastGreenUptoSaid : Prop := fnExactLastGreenUptoRow.holds Try.pinned (OpenSpec.upto fnExactLastGreenSpec)

/-- 'laws.FnExactCanHold', WHERE WHAT IT READS IS OF BULK AT MOST 1048576: true; the input reads as it did. -/
def fnExactCanHoldUptoRow : OpenClaim := { program := "ytcbckejlljcnpaa", sum := "a091d1856d155fbfc8b3dabb3e2b6f2988af6bc9446b933d8c030d1a7d55a1ea", func := "loop.example/g03006/laws.FnExactCanHold", spec := "fnExactCanHold", apart := false, narrowed := true }
def FnExactCanHoldUptoSaid : Prop := fnExactCanHoldUptoRow.holds Try.pinned (OpenSpec.upto fnExactCanHoldSpec)

/-- 'laws.FnExactTotalInside', WHERE WHAT IT READS IS OF BULK AT MOST 1048576: true; the input reads as it did. -/
def fnExactTotalInsideUptoRow : OpenClaim := { program := "ytcbckejlljcnpaa", sum := "a091d1856d155fbfc8b3dabb3e2b6f2988af6bc9446b933d8c030d1a7d55a1ea", func := "loop.example/g03006/laws.FnExactTotalInside", spec := "fnExactTotalInside", apart := false, narrowed := true }
def FnExactTotalInsideUptoSaid : Prop := fnExactTotalInsideUptoRow.holds Try.pinned (OpenSpec.upto fnExactTotalInsideSpec)

end Rows
end Go.Proofs.Ytcbckejlljcnpaa
