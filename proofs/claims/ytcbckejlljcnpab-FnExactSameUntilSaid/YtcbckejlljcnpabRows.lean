/-
  No cell of these rows narrows 'for every input' (looked for: loops, veiled, ifaces, maps, wideKeys, modest, calm, conditions, laid).
  DERIVED. THE GIVEN ROWS OF THIS SEAT. 6 by the template 'for every input the law returns true; each argument reads behind the call as it read before'; 0 by the template 'total and deterministic' (their statements: YtcbckejlljcnpabTotals.lean).
  GIVEN WITH THE SEED: the statements are not yours to turn. If you find one false, say at which input.
  Laid BY PROGRAM, IN A SANDBOX (cutbox-rows.mjs): the forced cells as the released guide's own fill.sh prints them over the translation e020e242390ca690… (all of the seat's roots in one cut). By AI agents, Wed Nov 11 2026. No macro, syntax, notation, axiom, sorry.
-/
import Derived.Test.YtcbckejlljcnpabChecked
import GoSem.Claim
import GoSem.ClaimJoined
import GoSem.ClaimMapViews
import Derived.JoinedTies
import Derived.KernelRfl
namespace Go.Proofs.Ytcbckejlljcnpab
/- THE CELL 'sum', in the pinned program and in every row, IS THE sha256 OF THE DUMP (.gsa) THAT YtcbckejlljcnpabProg.lean LOADS. Nothing in Lean hashes anything: it is a label: what it is worth is what the hold of that sum in a sandbox is worth. -/
noncomputable def Try.pinned : Pinned := { name := "ytcbckejlljcnpab", sum := "e020e242390ca690a88a14d000b44f2922393074d01982d7bebd3064868aa7ea", checked := Try.checked }
namespace Rows
def none {H : Type} : Left H := { results := [], args := [] }

/-- 'laws.FnExactNewTurn': WHATEVER THE INPUT: true; the input reads as it did. -/
def fnExactNewTurnSpec : ChangeSpec := { name := "fnExactNewTurn", fn := fun _ => fun
  | [d1, d2, d3] => { results := [.lit (.bool true)], args := [d1, d2, d3] }
  | _ => none }
def fnExactNewTurnRow : OpenClaim := { program := "ytcbckejlljcnpab", sum := "e020e242390ca690a88a14d000b44f2922393074d01982d7bebd3064868aa7ea", func := "loop.example/g03006/laws.FnExactNewTurn", spec := "fnExactNewTurn", apart := false }
def FnExactNewTurnSaid : Prop := fnExactNewTurnRow.holds Try.pinned (OpenSpec.ofChange fnExactNewTurnSpec)

/-- ITS FALSE NEIGHBOUR: 'it returns false'. Refute it at one input. -/
def fnExactNewTurnWrong : ChangeSpec := { name := "fnExactNewTurn", fn := fun _ => fun
  | [d1, d2, d3] => { results := [.lit (.bool false)], args := [d1, d2, d3] }
  | _ => none }
def FnExactNewTurnWrongFalsely : Prop := fnExactNewTurnRow.holds Try.pinned (OpenSpec.ofChange fnExactNewTurnWrong)

/-- 'laws.FnExactPlanAt': WHATEVER THE INPUT: true; the input reads as it did. -/
def fnExactPlanAtSpec : ChangeSpec := { name := "fnExactPlanAt", fn := fun _ => fun
  | [d1, d2] => { results := [.lit (.bool true)], args := [d1, d2] }
  | _ => none }
def fnExactPlanAtRow : OpenClaim := { program := "ytcbckejlljcnpab", sum := "e020e242390ca690a88a14d000b44f2922393074d01982d7bebd3064868aa7ea", func := "loop.example/g03006/laws.FnExactPlanAt", spec := "fnExactPlanAt", apart := false }
def FnExactPlanAtSaid : Prop := fnExactPlanAtRow.holds Try.pinned (OpenSpec.ofChange fnExactPlanAtSpec)

/-- ITS FALSE NEIGHBOUR: 'it returns false'. Refute it at one input. -/
def fnExactPlanAtWrong : ChangeSpec := { name := "fnExactPlanAt", fn := fun _ => fun
  | [d1, d2] => { results := [.lit (.bool false)], args := [d1, d2] }
  | _ => none }
def FnExactPlanAtWrongFalsely : Prop := fnExactPlanAtRow.holds Try.pinned (OpenSpec.ofChange fnExactPlanAtWrong)

/-- 'laws.FnExactIsAgreed': WHATEVER THE INPUT: true; the input reads as it did. -/
def fnExactIsAgreedSpec : ChangeSpec := { name := "fnExactIsAgreed", fn := fun _ => fun
  | [d] => { results := [.lit (.bool true)], args := [d] }
  | _ => none }
def fnExactIsAgreedRow : OpenClaim := { program := "ytcbckejlljcnpab", sum := "e020e242390ca690a88a14d000b44f2922393074d01982d7bebd3064868aa7ea", func := "loop.example/g03006/laws.FnExactIsAgreed", spec := "fnExactIsAgreed", apart := false }
def FnExactIsAgreedSaid : Prop := fnExactIsAgreedRow.holds Try.pinned (OpenSpec.ofChange fnExactIsAgreedSpec)

/-- ITS FALSE NEIGHBOUR: 'it returns false'. Refute it at one input. -/
def fnExactIsAgreedWrong : ChangeSpec := { name := "fnExactIsAgreed", fn := fun _ => fun
  | [d] => { results := [.lit (.bool false)], args := [d] }
  | _ => none }
def FnExactIsAgreedWrongFalsely : Prop := fnExactIsAgreedRow.holds Try.pinned (OpenSpec.ofChange fnExactIsAgreedWrong)

/-- 'laws.FnExactWaitedFor': WHATEVER THE INPUT: true; the input reads as it did. -/
def fnExactWaitedForSpec : ChangeSpec := { name := "fnExactWaitedFor", fn := fun _ => fun
  | [d1, d2] => { results := [.lit (.bool true)], args := [d1, d2] }
  | _ => none }
def fnExactWaitedForRow : OpenClaim := { program := "ytcbckejlljcnpab", sum := "e020e242390ca690a88a14d000b44f2922393074d01982d7bebd3064868aa7ea", func := "loop.example/g03006/laws.FnExactWaitedFor", spec := "fnExactWaitedFor", apart := false }
def FnExactWaitedForSaid : Prop := fnExactWaitedForRow.holds Try.pinned (OpenSpec.ofChange fnExactWaitedForSpec)

/-- ITS FALSE NEIGHBOUR: 'it returns false'. Refute it at one input. -/
def fnExactWaitedForWrong : ChangeSpec := { name := "fnExactWaitedFor", fn := fun _ => fun
  | [d1, d2] => { results := [.lit (.bool false)], args := [d1, d2] }
  | _ => none }
def FnExactWaitedForWrongFalsely : Prop := fnExactWaitedForRow.holds Try.pinned (OpenSpec.ofChange fnExactWaitedForWrong)

/-- 'laws.FnExactLastSeal': WHATEVER THE INPUT: true; the input reads as it did. -/
def fnExactLastSealSpec : ChangeSpec := { name := "fnExactLastSeal", fn := fun _ => fun
  | [d] => { results := [.lit (.bool true)], args := [d] }
  | _ => none }
def fnExactLastSealRow : OpenClaim := { program := "ytcbckejlljcnpab", sum := "e020e242390ca690a88a14d000b44f2922393074d01982d7bebd3064868aa7ea", func := "loop.example/g03006/laws.FnExactLastSeal", spec := "fnExactLastSeal", apart := false }
def FnExactLastSealSaid : Prop := fnExactLastSealRow.holds Try.pinned (OpenSpec.ofChange fnExactLastSealSpec)

/-- ITS FALSE NEIGHBOUR: 'it returns false'. Refute it at one input. -/
def fnExactLastSealWrong : ChangeSpec := { name := "fnExactLastSeal", fn := fun _ => fun
  | [d] => { results := [.lit (.bool false)], args := [d] }
  | _ => none }
def FnExactLastSealWrongFalsely : Prop := fnExactLastSealRow.holds Try.pinned (OpenSpec.ofChange fnExactLastSealWrong)

/-- 'laws.FnExactSameUntil': WHATEVER THE INPUT: true; the input reads as it did. -/
def fnExactSameUntilSpec : ChangeSpec := { name := "fnExactSameUntil", fn := fun _ => fun
  | [d1, d2] => { results := [.lit (.bool true)], args := [d1, d2] }
  | _ => none }
def fnExactSameUntilRow : OpenClaim := { program := "ytcbckejlljcnpab", sum := "e020e242390ca690a88a14d000b44f2922393074d01982d7bebd3064868aa7ea", func := "loop.example/g03006/laws.FnExactSameUntil", spec := "fnExactSameUntil", apart := false }
def FnExactSameUntilSaid : Prop := fnExactSameUntilRow.holds Try.pinned (OpenSpec.ofChange fnExactSameUntilSpec)

/-- ITS FALSE NEIGHBOUR: 'it returns false'. Refute it at one input. -/
def fnExactSameUntilWrong : ChangeSpec := { name := "fnExactSameUntil", fn := fun _ => fun
  | [d1, d2] => { results := [.lit (.bool false)], args := [d1, d2] }
  | _ => none }
def FnExactSameUntilWrongFalsely : Prop := fnExactSameUntilRow.holds Try.pinned (OpenSpec.ofChange fnExactSameUntilWrong)

/- THE SECOND FORM. 'bulk': how many values and letters a reading holds, each counted each time it is reached (what is shared counts as often as it is met; a slice's spare places count too). A statement '..UptoSaid' is the law's where the arguments, and the package variables that the reading takes, are together of bulk at most 1048576: NARROWER than '..Said'. Prove '..Said' where nothing that the law and all that it calls make is longer than what came in: it says more and counts as full. Else prove '..UptoSaid'. A law counts once. -/
mutual
def uptoBulk {H : Type} : DataW H → Nat
  | .lit (.string bytes) => bytes.length + 1
  | .lit _ => 1
  | .nil => 1
  | .ptr d => uptoBulk d + 1
  | .slice elems spare => uptoBulkAll elems + uptoBulkAll spare + 1
  | .agg parts => uptoBulkAll parts + 1
  | .iface _ d => uptoBulk d + 1
  | .map entries => uptoBulkEntries entries + 1
  | .held _ => 1
def uptoBulkAll {H : Type} : List (DataW H) → Nat
  | [] => 0
  | d :: r => uptoBulk d + uptoBulkAll r
def uptoBulkEntries {H : Type} : List (Lit × DataW H) → Nat
  | [] => 0
  | x :: r => uptoBulkEntry x + uptoBulkEntries r
def uptoBulkEntry {H : Type} : Lit × DataW H → Nat
  | (.string bytes, d) => bytes.length + uptoBulk d + 1
  | (_, d) => uptoBulk d + 1
 end
def uptoSmall : (H : Type) → List (DataW H) → Bool := fun _ ds => decide (uptoBulkAll ds ≤ 1048576)
def OpenSpec.upto (s : _root_.Go.ChangeSpec) : _root_.Go.OpenSpec := { _root_.Go.OpenSpec.ofChange s with cond := some uptoSmall }

/-- 'laws.FnExactNewTurn', WHERE WHAT IT READS IS OF BULK AT MOST 1048576: true; the input reads as it did. -/
def fnExactNewTurnUptoRow : OpenClaim := { program := "ytcbckejlljcnpab", sum := "e020e242390ca690a88a14d000b44f2922393074d01982d7bebd3064868aa7ea", func := "loop.example/g03006/laws.FnExactNewTurn", spec := "fnExactNewTurn", apart := false, narrowed := true }
def FnExactNewTurnUptoSaid : Prop := fnExactNewTurnUptoRow.holds Try.pinned (OpenSpec.upto fnExactNewTurnSpec)

/-- 'laws.FnExactPlanAt', WHERE WHAT IT READS IS OF BULK AT MOST 1048576: true; the input reads as it did. -/
def fnExactPlanAtUptoRow : OpenClaim := { program := "ytcbckejlljcnpab", sum := "e020e242390ca690a88a14d000b44f2922393074d01982d7bebd3064868aa7ea", func := "loop.example/g03006/laws.FnExactPlanAt", spec := "fnExactPlanAt", apart := false, narrowed := true }
def FnExactPlanAtUptoSaid : Prop := fnExactPlanAtUptoRow.holds Try.pinned (OpenSpec.upto fnExactPlanAtSpec)

/-- 'laws.FnExactIsAgreed', WHERE WHAT IT READS IS OF BULK AT MOST 1048576: true; the input reads as it did. -/
def fnExactIsAgreedUptoRow : OpenClaim := { program := "ytcbckejlljcnpab", sum := "e020e242390ca690a88a14d000b44f2922393074d01982d7bebd3064868aa7ea", func := "loop.example/g03006/laws.FnExactIsAgreed", spec := "fnExactIsAgreed", apart := false, narrowed := true }
def FnExactIsAgreedUptoSaid : Prop := fnExactIsAgreedUptoRow.holds Try.pinned (OpenSpec.upto fnExactIsAgreedSpec)

/-- 'laws.FnExactWaitedFor', WHERE WHAT IT READS IS OF BULK AT MOST 1048576: true; the input reads as it did. -/
def fnExactWaitedForUptoRow : OpenClaim := { program := "ytcbckejlljcnpab", sum := "e020e242390ca690a88a14d000b44f2922393074d01982d7bebd3064868aa7ea", func := "loop.example/g03006/laws.FnExactWaitedFor", spec := "fnExactWaitedFor", apart := false, narrowed := true }
def FnExactWaitedForUptoSaid : Prop := fnExactWaitedForUptoRow.holds Try.pinned (OpenSpec.upto fnExactWaitedForSpec)

/-- 'laws.FnExactLastSeal', WHERE WHAT IT READS IS OF BULK AT MOST 1048576: true; the input reads as it did. -/
def fnExactLastSealUptoRow : OpenClaim := { program := "ytcbckejlljcnpab", sum := "e020e242390ca690a88a14d000b44f2922393074d01982d7bebd3064868aa7ea", func := "loop.example/g03006/laws.FnExactLastSeal", spec := "fnExactLastSeal", apart := false, narrowed := true }
def FnExactLastSealUptoSaid : Prop := fnExactLastSealUptoRow.holds Try.pinned (OpenSpec.upto fnExactLastSealSpec)

/-- 'laws.FnExactSameUntil', WHERE WHAT IT READS IS OF BULK AT MOST 1048576: true; the input reads as it did. -/
def fnExactSameUntilUptoRow : OpenClaim := { program := "ytcbckejlljcnpab", sum := "e020e242390ca690a88a14d000b44f2922393074d01982d7bebd3064868aa7ea", func := "loop.example/g03006/laws.FnExactSameUntil", spec := "fnExactSameUntil", apart := false, narrowed := true }
def FnExactSameUntilUptoSaid : Prop := fnExactSameUntilUptoRow.holds Try.pinned (OpenSpec.upto fnExactSameUntilSpec)

end Rows
end Go.Proofs.Ytcbckejlljcnpab
