/-
  No cell of these rows narrows 'for every input' (looked for: loops, veiled, ifaces, maps, wideKeys, modest, calm, conditions, laid).
  DERIVED. THE GIVEN ROWS OF THIS SEAT. 6 by the template 'for every input the law returns true; each argument reads behind the call as it read before'; 0 by the template 'total and deterministic' (their statements: YtcbckejlljcnpacTotals.lean).
  GIVEN WITH THE SEED: the statements are not yours to turn. If you find one false, say at which input.
  Laid BY PROGRAM, IN A SANDBOX (cutbox-rows.mjs): the forced cells as the released guide's own fill.sh prints them over the translation bff748c8f5b41fad… (all of the seat's roots in one cut). By AI agents, Wed Nov 11 2026. No macro, syntax, notation, axiom, sorry.
-/
import Derived.Test.YtcbckejlljcnpacChecked
import GoSem.Claim
import GoSem.ClaimJoined
import GoSem.ClaimMapViews
import Derived.JoinedTies
import Derived.KernelRfl
namespace Go.Proofs.Ytcbckejlljcnpac
/- THE CELL 'sum', in the pinned program and in every row, IS THE sha256 OF THE DUMP (.gsa) THAT YtcbckejlljcnpacProg.lean LOADS. Nothing in Lean hashes anything: it is a label: what it is worth is what the hold of that sum in a sandbox is worth. -/
noncomputable def Try.pinned : Pinned := { name := "ytcbckejlljcnpac", sum := "bff748c8f5b41fad7bdfc99dcbf8f7680a0f02b2154a832d94cdaccd20357b6a", checked := Try.checked }
namespace Rows
def none {H : Type} : Left H := { results := [], args := [] }

/-- 'laws.FnTallies': WHATEVER THE INPUT: true; the input reads as it did. -/
def fnTalliesSpec : ChangeSpec := { name := "fnTallies", fn := fun _ => fun
  | [d] => { results := [.lit (.bool true)], args := [d] }
  | _ => none }
def fnTalliesRow : OpenClaim := { program := "ytcbckejlljcnpac", sum := "bff748c8f5b41fad7bdfc99dcbf8f7680a0f02b2154a832d94cdaccd20357b6a", func := "loop.example/g03006/laws.FnTallies", spec := "fnTallies", apart := false }
def FnTalliesSaid : Prop := fnTalliesRow.holds Try.pinned (OpenSpec.ofChange fnTalliesSpec)

/-- ITS FALSE NEIGHBOUR: 'it returns false'. Refute it at one input. -/
def fnTalliesWrong : ChangeSpec := { name := "fnTallies", fn := fun _ => fun
  | [d] => { results := [.lit (.bool false)], args := [d] }
  | _ => none }
def FnTalliesWrongFalsely : Prop := fnTalliesRow.holds Try.pinned (OpenSpec.ofChange fnTalliesWrong)

/-- 'laws.FnExactPlanAfter': WHATEVER THE INPUT: true; the input reads as it did. -/
def fnExactPlanAfterSpec : ChangeSpec := { name := "fnExactPlanAfter", fn := fun _ => fun
  | [d1, d2, d3] => { results := [.lit (.bool true)], args := [d1, d2, d3] }
  | _ => none }
def fnExactPlanAfterRow : OpenClaim := { program := "ytcbckejlljcnpac", sum := "bff748c8f5b41fad7bdfc99dcbf8f7680a0f02b2154a832d94cdaccd20357b6a", func := "loop.example/g03006/laws.FnExactPlanAfter", spec := "fnExactPlanAfter", apart := false }
def FnExactPlanAfterSaid : Prop := fnExactPlanAfterRow.holds Try.pinned (OpenSpec.ofChange fnExactPlanAfterSpec)

/-- ITS FALSE NEIGHBOUR: 'it returns false'. Refute it at one input. -/
def fnExactPlanAfterWrong : ChangeSpec := { name := "fnExactPlanAfter", fn := fun _ => fun
  | [d1, d2, d3] => { results := [.lit (.bool false)], args := [d1, d2, d3] }
  | _ => none }
def FnExactPlanAfterWrongFalsely : Prop := fnExactPlanAfterRow.holds Try.pinned (OpenSpec.ofChange fnExactPlanAfterWrong)

/-- 'laws.FnExactMinutesOf': WHATEVER THE INPUT: true; the input reads as it did. -/
def fnExactMinutesOfSpec : ChangeSpec := { name := "fnExactMinutesOf", fn := fun _ => fun
  | [d1, d2] => { results := [.lit (.bool true)], args := [d1, d2] }
  | _ => none }
def fnExactMinutesOfRow : OpenClaim := { program := "ytcbckejlljcnpac", sum := "bff748c8f5b41fad7bdfc99dcbf8f7680a0f02b2154a832d94cdaccd20357b6a", func := "loop.example/g03006/laws.FnExactMinutesOf", spec := "fnExactMinutesOf", apart := false }
def FnExactMinutesOfSaid : Prop := fnExactMinutesOfRow.holds Try.pinned (OpenSpec.ofChange fnExactMinutesOfSpec)

/-- ITS FALSE NEIGHBOUR: 'it returns false'. Refute it at one input. -/
def fnExactMinutesOfWrong : ChangeSpec := { name := "fnExactMinutesOf", fn := fun _ => fun
  | [d1, d2] => { results := [.lit (.bool false)], args := [d1, d2] }
  | _ => none }
def FnExactMinutesOfWrongFalsely : Prop := fnExactMinutesOfRow.holds Try.pinned (OpenSpec.ofChange fnExactMinutesOfWrong)

/-- 'laws.FnExactNextChange': WHATEVER THE INPUT: true; the input reads as it did. -/
def fnExactNextChangeSpec : ChangeSpec := { name := "fnExactNextChange", fn := fun _ => fun
  | [d1, d2] => { results := [.lit (.bool true)], args := [d1, d2] }
  | _ => none }
def fnExactNextChangeRow : OpenClaim := { program := "ytcbckejlljcnpac", sum := "bff748c8f5b41fad7bdfc99dcbf8f7680a0f02b2154a832d94cdaccd20357b6a", func := "loop.example/g03006/laws.FnExactNextChange", spec := "fnExactNextChange", apart := false }
def FnExactNextChangeSaid : Prop := fnExactNextChangeRow.holds Try.pinned (OpenSpec.ofChange fnExactNextChangeSpec)

/-- ITS FALSE NEIGHBOUR: 'it returns false'. Refute it at one input. -/
def fnExactNextChangeWrong : ChangeSpec := { name := "fnExactNextChange", fn := fun _ => fun
  | [d1, d2] => { results := [.lit (.bool false)], args := [d1, d2] }
  | _ => none }
def FnExactNextChangeWrongFalsely : Prop := fnExactNextChangeRow.holds Try.pinned (OpenSpec.ofChange fnExactNextChangeWrong)

/-- 'laws.FnExactTotalArrivals': WHATEVER THE INPUT: true; the input reads as it did. -/
def fnExactTotalArrivalsSpec : ChangeSpec := { name := "fnExactTotalArrivals", fn := fun _ => fun
  | [d] => { results := [.lit (.bool true)], args := [d] }
  | _ => none }
def fnExactTotalArrivalsRow : OpenClaim := { program := "ytcbckejlljcnpac", sum := "bff748c8f5b41fad7bdfc99dcbf8f7680a0f02b2154a832d94cdaccd20357b6a", func := "loop.example/g03006/laws.FnExactTotalArrivals", spec := "fnExactTotalArrivals", apart := false }
def FnExactTotalArrivalsSaid : Prop := fnExactTotalArrivalsRow.holds Try.pinned (OpenSpec.ofChange fnExactTotalArrivalsSpec)

/-- ITS FALSE NEIGHBOUR: 'it returns false'. Refute it at one input. -/
def fnExactTotalArrivalsWrong : ChangeSpec := { name := "fnExactTotalArrivals", fn := fun _ => fun
  | [d] => { results := [.lit (.bool false)], args := [d] }
  | _ => none }
def FnExactTotalArrivalsWrongFalsely : Prop := fnExactTotalArrivalsRow.holds Try.pinned (OpenSpec.ofChange fnExactTotalArrivalsWrong)

/-- 'laws.FnExactVoteTurn': WHATEVER THE INPUT: true; the input reads as it did. -/
def fnExactVoteTurnSpec : ChangeSpec := { name := "fnExactVoteTurn", fn := fun _ => fun
  | [d1, d2, d3, d4] => { results := [.lit (.bool true)], args := [d1, d2, d3, d4] }
  | _ => none }
def fnExactVoteTurnRow : OpenClaim := { program := "ytcbckejlljcnpac", sum := "bff748c8f5b41fad7bdfc99dcbf8f7680a0f02b2154a832d94cdaccd20357b6a", func := "loop.example/g03006/laws.FnExactVoteTurn", spec := "fnExactVoteTurn", apart := false }
def FnExactVoteTurnSaid : Prop := fnExactVoteTurnRow.holds Try.pinned (OpenSpec.ofChange fnExactVoteTurnSpec)

/-- ITS FALSE NEIGHBOUR: 'it returns false'. Refute it at one input. -/
def fnExactVoteTurnWrong : ChangeSpec := { name := "fnExactVoteTurn", fn := fun _ => fun
  | [d1, d2, d3, d4] => { results := [.lit (.bool false)], args := [d1, d2, d3, d4] }
  | _ => none }
def FnExactVoteTurnWrongFalsely : Prop := fnExactVoteTurnRow.holds Try.pinned (OpenSpec.ofChange fnExactVoteTurnWrong)

/- THE SECOND FORM. 'bulk': how many values and letters a reading holds, each counted each time it is reached (what is shared counts as often as it is met; a slice's spare places count too). A statement '..UptoSaid' is the law's where the arguments, and the package variables that the reading takes, are together of bulk at most 1048576: NARROWER than '..Said'. Prove '..Said' where nothing that the law and all that it calls make is longer than what came in: it says more and counts as full. Else prove '..UptoSaid'. A law counts once. -/
mutual
def uptoBulk {H : Type} : DataW H → Nat
  | .lit (.string bytes) => bytes.length + 1
  | .lit _ => 1
  | .nil => 1
  | .ptr d => uptoBulk d + 1
  | .slice elems spare => uptoBulkAll elems + uptoBulkAll spare + 1
  | .agg parts => uptoBulkAll parts + 1
  | .iface _ d => uptoBulk d + 1
  | .map entries => uptoBulkEntries entries + 1
  | .held _ => 1
def uptoBulkAll {H : Type} : List (DataW H) → Nat
  | [] => 0
  | d :: r => uptoBulk d + uptoBulkAll r
def uptoBulkEntries {H : Type} : List (Lit × DataW H) → Nat
  | [] => 0
  | x :: r => uptoBulkEntry x + uptoBulkEntries r
def uptoBulkEntry {H : Type} : Lit × DataW H → Nat
  | (.string bytes, d) => bytes.length + uptoBulk d + 1
  | (_, d) => uptoBulk d + 1
 end
def uptoSmall : (H : Type) → List (DataW H) → Bool := fun _ ds => decide (uptoBulkAll ds ≤ 1048576)
def OpenSpec.upto (s : _root_.Go.ChangeSpec) : _root_.Go.OpenSpec := { _root_.Go.OpenSpec.ofChange s with cond := some uptoSmall }

/-- 'laws.FnTallies', WHERE WHAT IT READS IS OF BULK AT MOST 1048576: true; the input reads as it did. -/
def fnTalliesUptoRow : OpenClaim := { program := "ytcbckejlljcnpac", sum := "bff748c8f5b41fad7bdfc99dcbf8f7680a0f02b2154a832d94cdaccd20357b6a", func := "loop.example/g03006/laws.FnTallies", spec := "fnTallies", apart := false, narrowed := true }
def FnTalliesUptoSaid : Prop := fnTalliesUptoRow.holds Try.pinned (OpenSpec.upto fnTalliesSpec)

/-- 'laws.FnExactPlanAfter', WHERE WHAT IT READS IS OF BULK AT MOST 1048576: true; the input reads as it did. -/
def fnExactPlanAfterUptoRow : OpenClaim := { program := "ytcbckejlljcnpac", sum := "bff748c8f5b41fad7bdfc99dcbf8f7680a0f02b2154a832d94cdaccd20357b6a", func := "loop.example/g03006/laws.FnExactPlanAfter", spec := "fnExactPlanAfter", apart := false, narrowed := true }
def FnExactPlanAfterUptoSaid : Prop := fnExactPlanAfterUptoRow.holds Try.pinned (OpenSpec.upto fnExactPlanAfterSpec)

/-- 'laws.FnExactMinutesOf', WHERE WHAT IT READS IS OF BULK AT MOST 1048576: true; the input reads as it did. -/
def fnExactMinutesOfUptoRow : OpenClaim := { program := "ytcbckejlljcnpac", sum := "bff748c8f5b41fad7bdfc99dcbf8f7680a0f02b2154a832d94cdaccd20357b6a", func := "loop.example/g03006/laws.FnExactMinutesOf", spec := "fnExactMinutesOf", apart := false, narrowed := true }
def FnExactMinutesOfUptoSaid : Prop := fnExactMinutesOfUptoRow.holds Try.pinned (OpenSpec.upto fnExactMinutesOfSpec)

/-- 'laws.FnExactNextChange', WHERE WHAT IT READS IS OF BULK AT MOST 1048576: true; the input reads as it did. -/
def fnExactNextChangeUptoRow : OpenClaim := { program := "ytcbckejlljcnpac", sum := "bff748c8f5b41fad7bdfc99dcbf8f7680a0f02b2154a832d94cdaccd20357b6a", func := "loop.example/g03006/laws.FnExactNextChange", spec := "fnExactNextChange", apart := false, narrowed := true }
def FnExactNextChangeUptoSaid : Prop := fnExactNextChangeUptoRow.holds Try.pinned (OpenSpec.upto fnExactNextChangeSpec)

/-- 'laws.FnExactTotalArrivals', WHERE WHAT IT READS IS OF BULK AT MOST 1048576: true; the input reads as it did. -/
def fnExactTotalArrivalsUptoRow : OpenClaim := { program := "ytcbckejlljcnpac", sum := "bff748c8f5b41fad7bdfc99dcbf8f7680a0f02b2154a832d94cdaccd20357b6a", func := "loop.example/g03006/laws.FnExactTotalArrivals", spec := "fnExactTotalArrivals", apart := false, narrowed := true }
def FnExactTotalArrivalsUptoSaid : Prop := fnExactTotalArrivalsUptoRow.holds Try.pinned (OpenSpec.upto fnExactTotalArrivalsSpec)

/-- 'laws.FnExactVoteTurn', WHERE WHAT IT READS IS OF BULK AT MOST 1048576: true; the input reads as it did. -/
def fnExactVoteTurnUptoRow : OpenClaim := { program := "ytcbckejlljcnpac", sum := "bff748c8f5b41fad7bdfc99dcbf8f7680a0f02b2154a832d94cdaccd20357b6a", func := "loop.example/g03006/laws.FnExactVoteTurn", spec := "fnExactVoteTurn", apart := false, narrowed := true }
def FnExactVoteTurnUptoSaid : Prop := fnExactVoteTurnUptoRow.holds Try.pinned (OpenSpec.upto fnExactVoteTurnSpec)

end Rows
end Go.Proofs.Ytcbckejlljcnpac
