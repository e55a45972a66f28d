/-
  No cell of these rows narrows 'for every input' (looked for: loops, veiled, ifaces, maps, wideKeys, modest, calm, conditions, laid).
  DERIVED. THE GIVEN ROWS OF THIS SEAT. 6 by the template 'for every input the law returns true; each argument reads behind the call as it read before'; 0 by the template 'total and deterministic' (their statements: YtfamneflndhjpaaTotals.lean).
  GIVEN WITH THE SEED: the statements are not yours to turn. If you find one false, say at which input.
  Laid BY PROGRAM, IN A SANDBOX (cutbox-rows.mjs): the forced cells as the released guide's own fill.sh prints them over the translation 63f0b97f13dd8492… (all of the seat's roots in one cut). By AI agents, Wed Nov 11 2026. No macro, syntax, notation, axiom, sorry.
-/
import Derived.Test.YtfamneflndhjpaaChecked
import GoSem.Claim
import GoSem.ClaimJoined
import GoSem.ClaimMapViews
import Derived.JoinedTies
import Derived.KernelRfl
namespace Go.Proofs.Ytfamneflndhjpaa
/- THE CELL 'sum', in the pinned program and in every row, IS THE sha256 OF THE DUMP (.gsa) THAT YtfamneflndhjpaaProg.lean LOADS. Nothing in Lean hashes anything: it is a label: what it is worth is what the hold of that sum in a sandbox is worth. -/
noncomputable def Try.pinned : Pinned := { name := "ytfamneflndhjpaa", sum := "63f0b97f13dd8492411ca68087b9b772200776baa3adca41d1f8c115adbec4b9", checked := Try.checked }
namespace Rows
def none {H : Type} : Left H := { results := [], args := [] }

/-- 'laws.FnExactFirstUnsafe': WHATEVER THE INPUT: true; the input reads as it did. -/
def fnExactFirstUnsafeSpec : ChangeSpec := { name := "fnExactFirstUnsafe", fn := fun _ => fun
  | [d1, d2] => { results := [.lit (.bool true)], args := [d1, d2] }
  | _ => none }
def fnExactFirstUnsafeRow : OpenClaim := { program := "ytfamneflndhjpaa", sum := "63f0b97f13dd8492411ca68087b9b772200776baa3adca41d1f8c115adbec4b9", func := "loop.example/g03006/laws.FnExactFirstUnsafe", spec := "fnExactFirstUnsafe", apart := false }
def FnExactFirstUnsafeSaid : Prop := fnExactFirstUnsafeRow.holds Try.pinned (OpenSpec.ofChange fnExactFirstUnsafeSpec)

/-- ITS FALSE NEIGHBOUR: 'it returns false'. Refute it at one input. -/
def fnExactFirstUnsafeWrong : ChangeSpec := { name := "fnExactFirstUnsafe", fn := fun _ => fun
  | [d1, d2] => { results := [.lit (.bool false)], args := [d1, d2] }
  | _ => none }
def FnExactFirstUnsafeWrongFalsely : Prop := fnExactFirstUnsafeRow.holds Try.pinned (OpenSpec.ofChange fnExactFirstUnsafeWrong)

/-- 'laws.FnExactStreamWait': WHATEVER THE INPUT: true; the input reads as it did. -/
def fnExactStreamWaitSpec : ChangeSpec := { name := "fnExactStreamWait", fn := fun _ => fun
  | [d1, d2, d3] => { results := [.lit (.bool true)], args := [d1, d2, d3] }
  | _ => none }
def fnExactStreamWaitRow : OpenClaim := { program := "ytfamneflndhjpaa", sum := "63f0b97f13dd8492411ca68087b9b772200776baa3adca41d1f8c115adbec4b9", func := "loop.example/g03006/laws.FnExactStreamWait", spec := "fnExactStreamWait", unfollowed := true, recurses := true, apart := false }
def FnExactStreamWaitSaid : Prop := fnExactStreamWaitRow.holds Try.pinned (OpenSpec.ofChange fnExactStreamWaitSpec)

/-- ITS FALSE NEIGHBOUR: 'it returns false'. Refute it at one input. -/
def fnExactStreamWaitWrong : ChangeSpec := { name := "fnExactStreamWait", fn := fun _ => fun
  | [d1, d2, d3] => { results := [.lit (.bool false)], args := [d1, d2, d3] }
  | _ => none }
def FnExactStreamWaitWrongFalsely : Prop := fnExactStreamWaitRow.holds Try.pinned (OpenSpec.ofChange fnExactStreamWaitWrong)

/-- 'laws.FnExactPlanWait': WHATEVER THE INPUT: true; the input reads as it did. -/
def fnExactPlanWaitSpec : ChangeSpec := { name := "fnExactPlanWait", fn := fun _ => fun
  | [d1, d2, d3] => { results := [.lit (.bool true)], args := [d1, d2, d3] }
  | _ => none }
def fnExactPlanWaitRow : OpenClaim := { program := "ytfamneflndhjpaa", sum := "63f0b97f13dd8492411ca68087b9b772200776baa3adca41d1f8c115adbec4b9", func := "loop.example/g03006/laws.FnExactPlanWait", spec := "fnExactPlanWait", unfollowed := true, recurses := true, apart := false }
def FnExactPlanWaitSaid : Prop := fnExactPlanWaitRow.holds Try.pinned (OpenSpec.ofChange fnExactPlanWaitSpec)

/-- ITS FALSE NEIGHBOUR: 'it returns false'. Refute it at one input. -/
def fnExactPlanWaitWrong : ChangeSpec := { name := "fnExactPlanWait", fn := fun _ => fun
  | [d1, d2, d3] => { results := [.lit (.bool false)], args := [d1, d2, d3] }
  | _ => none }
def FnExactPlanWaitWrongFalsely : Prop := fnExactPlanWaitRow.holds Try.pinned (OpenSpec.ofChange fnExactPlanWaitWrong)

/-- 'laws.FnExactServiceOf': WHATEVER THE INPUT: true; the input reads as it did. -/
def fnExactServiceOfSpec : ChangeSpec := { name := "fnExactServiceOf", fn := fun _ => fun
  | [d1, d2, d3] => { results := [.lit (.bool true)], args := [d1, d2, d3] }
  | _ => none }
def fnExactServiceOfRow : OpenClaim := { program := "ytfamneflndhjpaa", sum := "63f0b97f13dd8492411ca68087b9b772200776baa3adca41d1f8c115adbec4b9", func := "loop.example/g03006/laws.FnExactServiceOf", spec := "fnExactServiceOf", unfollowed := true, recurses := true, apart := false }
def FnExactServiceOfSaid : Prop := fnExactServiceOfRow.holds Try.pinned (OpenSpec.ofChange fnExactServiceOfSpec)

/-- ITS FALSE NEIGHBOUR: 'it returns false'. Refute it at one input. -/
def fnExactServiceOfWrong : ChangeSpec := { name := "fnExactServiceOf", fn := fun _ => fun
  | [d1, d2, d3] => { results := [.lit (.bool false)], args := [d1, d2, d3] }
  | _ => none }
def FnExactServiceOfWrongFalsely : Prop := fnExactServiceOfRow.holds Try.pinned (OpenSpec.ofChange fnExactServiceOfWrong)

/-- 'laws.FnExactBetterPlan': WHATEVER THE INPUT: true; the input reads as it did. -/
def fnExactBetterPlanSpec : ChangeSpec := { name := "fnExactBetterPlan", fn := fun _ => fun
  | [d1, d2, d3] => { results := [.lit (.bool true)], args := [d1, d2, d3] }
  | _ => none }
def fnExactBetterPlanRow : OpenClaim := { program := "ytfamneflndhjpaa", sum := "63f0b97f13dd8492411ca68087b9b772200776baa3adca41d1f8c115adbec4b9", func := "loop.example/g03006/laws.FnExactBetterPlan", spec := "fnExactBetterPlan", unfollowed := true, recurses := true, apart := false }
def FnExactBetterPlanSaid : Prop := fnExactBetterPlanRow.holds Try.pinned (OpenSpec.ofChange fnExactBetterPlanSpec)

/-- ITS FALSE NEIGHBOUR: 'it returns false'. Refute it at one input. -/
def fnExactBetterPlanWrong : ChangeSpec := { name := "fnExactBetterPlan", fn := fun _ => fun
  | [d1, d2, d3] => { results := [.lit (.bool false)], args := [d1, d2, d3] }
  | _ => none }
def FnExactBetterPlanWrongFalsely : Prop := fnExactBetterPlanRow.holds Try.pinned (OpenSpec.ofChange fnExactBetterPlanWrong)

/-- 'laws.FnExactPlanHistory': WHATEVER THE INPUT: true; the input reads as it did. -/
def fnExactPlanHistorySpec : ChangeSpec := { name := "fnExactPlanHistory", fn := fun _ => fun
  | [d1, d2, d3, d4] => { results := [.lit (.bool true)], args := [d1, d2, d3, d4] }
  | _ => none }
def fnExactPlanHistoryRow : OpenClaim := { program := "ytfamneflndhjpaa", sum := "63f0b97f13dd8492411ca68087b9b772200776baa3adca41d1f8c115adbec4b9", func := "loop.example/g03006/laws.FnExactPlanHistory", spec := "fnExactPlanHistory", unfollowed := true, recurses := true, apart := false }
def FnExactPlanHistorySaid : Prop := fnExactPlanHistoryRow.holds Try.pinned (OpenSpec.ofChange fnExactPlanHistorySpec)

/-- ITS FALSE NEIGHBOUR: 'it returns false'. Refute it at one input. -/
def fnExactPlanHistoryWrong : ChangeSpec := { name := "fnExactPlanHistory", fn := fun _ => fun
  | [d1, d2, d3, d4] => { results := [.lit (.bool false)], args := [d1, d2, d3, d4] }
  | _ => none }
def FnExactPlanHistoryWrongFalsely : Prop := fnExactPlanHistoryRow.holds Try.pinned (OpenSpec.ofChange fnExactPlanHistoryWrong)

/- THE SECOND FORM. 'bulk': how many values and letters a reading holds, each counted each time it is reached (what is shared counts as often as it is met; a slice's spare places count too). A statement '..UptoSaid' is the law's where the arguments, and the package variables that the reading takes, are together of bulk at most 1048576: NARROWER than '..Said'. Prove '..Said' where nothing that the law and all that it calls make is longer than what came in: it says more and counts as full. Else prove '..UptoSaid'. A law counts once. -/
mutual
def uptoBulk {H : Type} : DataW H → Nat
  | .lit (.string bytes) => bytes.length + 1
  | .lit _ => 1
  | .nil => 1
  | .ptr d => uptoBulk d + 1
  | .slice elems spare => uptoBulkAll elems + uptoBulkAll spare + 1
  | .agg parts => uptoBulkAll parts + 1
  | .iface _ d => uptoBulk d + 1
  | .map entries => uptoBulkEntries entries + 1
  | .held _ => 1
def uptoBulkAll {H : Type} : List (DataW H) → Nat
  | [] => 0
  | d :: r => uptoBulk d + uptoBulkAll r
def uptoBulkEntries {H : Type} : List (Lit × DataW H) → Nat
  | [] => 0
  | x :: r => uptoBulkEntry x + uptoBulkEntries r
def uptoBulkEntry {H : Type} : Lit × DataW H → Nat
  | (.string bytes, d) => bytes.length + uptoBulk d + 1
  | (_, d) => uptoBulk d + 1
 end
def uptoSmall : (H : Type) → List (DataW H) → Bool := fun _ ds => decide (uptoBulkAll ds ≤ 1048576)
def OpenSpec.upto (s : _root_.Go.ChangeSpec) : _root_.Go.OpenSpec := { _root_.Go.OpenSpec.ofChange s with cond := some uptoSmall }

/-- 'laws.FnExactFirstUnsafe', WHERE WHAT IT READS IS OF BULK AT MOST 1048576: true; the input reads as it did. -/
def fnExactFirstUnsafeUptoRow : OpenClaim := { program := "ytfamneflndhjpaa", sum := "63f0b97f13dd8492411ca68087b9b772200776baa3adca41d1f8c115adbec4b9", func := "loop.example/g03006/laws.FnExactFirstUnsafe", spec := "fnExactFirstUnsafe", apart := false, narrowed := true }
def FnExactFirstUnsafeUptoSaid : Prop := fnExactFirstUnsafeUptoRow.holds Try.pinned (OpenSpec.upto fnExactFirstUnsafeSpec)

/-- 'laws.FnExactStreamWait', WHERE WHAT IT READS IS OF BULK AT MOST 1048576: true; the input reads as it did. -/
def fnExactStreamWaitUptoRow : OpenClaim := { program := "ytfamneflndhjpaa", sum := "63f0b97f13dd8492411ca68087b9b772200776baa3adca41d1f8c115adbec4b9", func := "loop.example/g03006/laws.FnExactStreamWait", spec := "fnExactStreamWait", unfollowed := true, recurses := true, apart := false, narrowed := true }
def FnExactStreamWaitUptoSaid : Prop := fnExactStreamWaitUptoRow.holds Try.pinned (OpenSpec.upto fnExactStreamWaitSpec)

/-- 'laws.FnExactPlanWait', WHERE WHAT IT READS IS OF BULK AT MOST 1048576: true; the input reads as it did. -/
def fnExactPlanWaitUptoRow : OpenClaim := { program := "ytfamneflndhjpaa", sum := "63f0b97f13dd8492411ca68087b9b772200776baa3adca41d1f8c115adbec4b9", func := "loop.example/g03006/laws.FnExactPlanWait", spec := "fnExactPlanWait", unfollowed := true, recurses := true, apart := false, narrowed := true }
def FnExactPlanWaitUptoSaid : Prop := fnExactPlanWaitUptoRow.holds Try.pinned (OpenSpec.upto fnExactPlanWaitSpec)

/-- 'laws.FnExactServiceOf', WHERE WHAT IT READS IS OF BULK AT MOST 1048576: true; the input reads as it did. -/
def fnExactServiceOfUptoRow : OpenClaim := { program := "ytfamneflndhjpaa", sum := "63f0b97f13dd8492411ca68087b9b772200776baa3adca41d1f8c115adbec4b9", func := "loop.example/g03006/laws.FnExactServiceOf", spec := "fnExactServiceOf", unfollowed := true, recurses := true, apart := false, narrowed := true }
def FnExactServiceOfUptoSaid : Prop := fnExactServiceOfUptoRow.holds Try.pinned (OpenSpec.upto fnExactServiceOfSpec)

/-- 'laws.FnExactBetterPlan', WHERE WHAT IT READS IS OF BULK AT MOST 1048576: true; the input reads as it did. -/
def fnExactBetterPlanUptoRow : OpenClaim := { program := "ytfamneflndhjpaa", sum := "63f0b97f13dd8492411ca68087b9b772200776baa3adca41d1f8c115adbec4b9", func := "loop.example/g03006/laws.FnExactBetterPlan", spec := "fnExactBetterPlan", unfollowed := true, recurses := true, apart := false, narrowed := true }
def FnExactBetterPlanUptoSaid : Prop := fnExactBetterPlanUptoRow.holds Try.pinned (OpenSpec.upto fnExactBetterPlanSpec)

/-- 'laws.FnExactPlanHistory', WHERE WHAT IT READS IS OF BULK AT MOST 1048576: true; the input reads as it did. -/
def fnExactPlanHistoryUptoRow : OpenClaim := { program := "ytfamneflndhjpaa", sum := "63f0b97f13dd8492411ca68087b9b772200776baa3adca41d1f8c115adbec4b9", func := "loop.example/g03006/laws.FnExactPlanHistory", spec := "fnExactPlanHistory", unfollowed := true, recurses := true, apart := false, narrowed := true }
def FnExactPlanHistoryUptoSaid : Prop := fnExactPlanHistoryUptoRow.holds Try.pinned (OpenSpec.upto fnExactPlanHistorySpec)

end Rows
end Go.Proofs.Ytfamneflndhjpaa
