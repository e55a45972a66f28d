/-
  No cell of these rows narrows 'for every input' (looked for: loops, veiled, ifaces, maps, wideKeys, modest, calm, conditions, laid).
  DERIVED. THE GIVEN ROWS OF THIS SEAT. 6 by the template 'for every input the law returns true; each argument reads behind the call as it read before'; 0 by the template 'total and deterministic' (their statements: YtmpncnphndafnaaTotals.lean).
  GIVEN WITH THE SEED: the statements are not yours to turn. If you find one false, say at which input.
  Laid BY PROGRAM, IN A SANDBOX (cutbox-rows.mjs): the forced cells as the released guide's own fill.sh prints them over the translation c5f5ff65c436c981… (all of the seat's roots in one cut). By AI agents, Wed Nov 11 2026. No macro, syntax, notation, axiom, sorry.
-/
import Derived.Test.YtmpncnphndafnaaChecked
import GoSem.Claim
import GoSem.ClaimJoined
import GoSem.ClaimMapViews
import Derived.JoinedTies
import Derived.KernelRfl
namespace Go.Proofs.Ytmpncnphndafnaa
/- THE CELL 'sum', in the pinned program and in every row, IS THE sha256 OF THE DUMP (.gsa) THAT YtmpncnphndafnaaProg.lean LOADS. Nothing in Lean hashes anything: it is a label: what it is worth is what the hold of that sum in a sandbox is worth. -/
noncomputable def Try.pinned : Pinned := { name := "ytmpncnphndafnaa", sum := "c5f5ff65c436c9813efaa58fd035d58375b8dbddefcd27a02217bd8c30a6c81d", checked := Try.checked }
namespace Rows
def none {H : Type} : Left H := { results := [], args := [] }

/-- 'laws.FnExactIsRecord': WHATEVER THE INPUT: true; the input reads as it did. -/
def fnExactIsRecordSpec : ChangeSpec := { name := "fnExactIsRecord", fn := fun _ => fun
  | [d] => { results := [.lit (.bool true)], args := [d] }
  | _ => none }
def fnExactIsRecordRow : OpenClaim := { program := "ytmpncnphndafnaa", sum := "c5f5ff65c436c9813efaa58fd035d58375b8dbddefcd27a02217bd8c30a6c81d", func := "loop.example/g03006/laws.FnExactIsRecord", spec := "fnExactIsRecord", apart := false }
def FnExactIsRecordSaid : Prop := fnExactIsRecordRow.holds Try.pinned (OpenSpec.ofChange fnExactIsRecordSpec)

/-- ITS FALSE NEIGHBOUR: 'it returns false'. Refute it at one input. -/
def fnExactIsRecordWrong : ChangeSpec := { name := "fnExactIsRecord", fn := fun _ => fun
  | [d] => { results := [.lit (.bool false)], args := [d] }
  | _ => none }
def FnExactIsRecordWrongFalsely : Prop := fnExactIsRecordRow.holds Try.pinned (OpenSpec.ofChange fnExactIsRecordWrong)

/-- 'laws.FnExactAreCars': WHATEVER THE INPUT: true; the input reads as it did. -/
def fnExactAreCarsSpec : ChangeSpec := { name := "fnExactAreCars", fn := fun _ => fun
  | [d1, d2] => { results := [.lit (.bool true)], args := [d1, d2] }
  | _ => none }
def fnExactAreCarsRow : OpenClaim := { program := "ytmpncnphndafnaa", sum := "c5f5ff65c436c9813efaa58fd035d58375b8dbddefcd27a02217bd8c30a6c81d", func := "loop.example/g03006/laws.FnExactAreCars", spec := "fnExactAreCars", unfollowed := true, recurses := true, apart := false }
def FnExactAreCarsSaid : Prop := fnExactAreCarsRow.holds Try.pinned (OpenSpec.ofChange fnExactAreCarsSpec)

/-- ITS FALSE NEIGHBOUR: 'it returns false'. Refute it at one input. -/
def fnExactAreCarsWrong : ChangeSpec := { name := "fnExactAreCars", fn := fun _ => fun
  | [d1, d2] => { results := [.lit (.bool false)], args := [d1, d2] }
  | _ => none }
def FnExactAreCarsWrongFalsely : Prop := fnExactAreCarsRow.holds Try.pinned (OpenSpec.ofChange fnExactAreCarsWrong)

/-- 'laws.FnTurns': WHATEVER THE INPUT: true; the input reads as it did. -/
def fnTurnsSpec : ChangeSpec := { name := "fnTurns", fn := fun _ => fun
  | [d] => { results := [.lit (.bool true)], args := [d] }
  | _ => none }
def fnTurnsRow : OpenClaim := { program := "ytmpncnphndafnaa", sum := "c5f5ff65c436c9813efaa58fd035d58375b8dbddefcd27a02217bd8c30a6c81d", func := "loop.example/g03006/laws.FnTurns", spec := "fnTurns", apart := false }
def FnTurnsSaid : Prop := fnTurnsRow.holds Try.pinned (OpenSpec.ofChange fnTurnsSpec)

/-- ITS FALSE NEIGHBOUR: 'it returns false'. Refute it at one input. -/
def fnTurnsWrong : ChangeSpec := { name := "fnTurns", fn := fun _ => fun
  | [d] => { results := [.lit (.bool false)], args := [d] }
  | _ => none }
def FnTurnsWrongFalsely : Prop := fnTurnsRow.holds Try.pinned (OpenSpec.ofChange fnTurnsWrong)

/-- 'laws.FnExactCountChanges': WHATEVER THE INPUT: true; the input reads as it did. -/
def fnExactCountChangesSpec : ChangeSpec := { name := "fnExactCountChanges", fn := fun _ => fun
  | [d1, d2] => { results := [.lit (.bool true)], args := [d1, d2] }
  | _ => none }
def fnExactCountChangesRow : OpenClaim := { program := "ytmpncnphndafnaa", sum := "c5f5ff65c436c9813efaa58fd035d58375b8dbddefcd27a02217bd8c30a6c81d", func := "loop.example/g03006/laws.FnExactCountChanges", spec := "fnExactCountChanges", apart := false }
def FnExactCountChangesSaid : Prop := fnExactCountChangesRow.holds Try.pinned (OpenSpec.ofChange fnExactCountChangesSpec)

/-- ITS FALSE NEIGHBOUR: 'it returns false'. Refute it at one input. -/
def fnExactCountChangesWrong : ChangeSpec := { name := "fnExactCountChanges", fn := fun _ => fun
  | [d1, d2] => { results := [.lit (.bool false)], args := [d1, d2] }
  | _ => none }
def FnExactCountChangesWrongFalsely : Prop := fnExactCountChangesRow.holds Try.pinned (OpenSpec.ofChange fnExactCountChangesWrong)

/-- 'laws.FnExactLightShown': WHATEVER THE INPUT: true; the input reads as it did. -/
def fnExactLightShownSpec : ChangeSpec := { name := "fnExactLightShown", fn := fun _ => fun
  | [d1, d2, d3] => { results := [.lit (.bool true)], args := [d1, d2, d3] }
  | _ => none }
def fnExactLightShownRow : OpenClaim := { program := "ytmpncnphndafnaa", sum := "c5f5ff65c436c9813efaa58fd035d58375b8dbddefcd27a02217bd8c30a6c81d", func := "loop.example/g03006/laws.FnExactLightShown", spec := "fnExactLightShown", apart := false }
def FnExactLightShownSaid : Prop := fnExactLightShownRow.holds Try.pinned (OpenSpec.ofChange fnExactLightShownSpec)

/-- ITS FALSE NEIGHBOUR: 'it returns false'. Refute it at one input. -/
def fnExactLightShownWrong : ChangeSpec := { name := "fnExactLightShown", fn := fun _ => fun
  | [d1, d2, d3] => { results := [.lit (.bool false)], args := [d1, d2, d3] }
  | _ => none }
def FnExactLightShownWrongFalsely : Prop := fnExactLightShownRow.holds Try.pinned (OpenSpec.ofChange fnExactLightShownWrong)

/-- 'laws.FnExactGreenSince': WHATEVER THE INPUT: true; the input reads as it did. -/
def fnExactGreenSinceSpec : ChangeSpec := { name := "fnExactGreenSince", fn := fun _ => fun
  | [d1, d2, d3] => { results := [.lit (.bool true)], args := [d1, d2, d3] }
  | _ => none }
def fnExactGreenSinceRow : OpenClaim := { program := "ytmpncnphndafnaa", sum := "c5f5ff65c436c9813efaa58fd035d58375b8dbddefcd27a02217bd8c30a6c81d", func := "loop.example/g03006/laws.FnExactGreenSince", spec := "fnExactGreenSince", apart := false }
def FnExactGreenSinceSaid : Prop := fnExactGreenSinceRow.holds Try.pinned (OpenSpec.ofChange fnExactGreenSinceSpec)

/-- ITS FALSE NEIGHBOUR: 'it returns false'. Refute it at one input. -/
def fnExactGreenSinceWrong : ChangeSpec := { name := "fnExactGreenSince", fn := fun _ => fun
  | [d1, d2, d3] => { results := [.lit (.bool false)], args := [d1, d2, d3] }
  | _ => none }
def FnExactGreenSinceWrongFalsely : Prop := fnExactGreenSinceRow.holds Try.pinned (OpenSpec.ofChange fnExactGreenSinceWrong)

/- THE SECOND FORM. 'bulk': how many values and letters a reading holds, each counted each time it is reached (what is shared counts as often as it is met; a slice's spare places count too). A statement '..UptoSaid' is the law's where the arguments, and the package variables that the reading takes, are together of bulk at most 1048576: NARROWER than '..Said'. Prove '..Said' where nothing that the law and all that it calls make is longer than what came in: it says more and counts as full. Else prove '..UptoSaid'. A law counts once. -/
mutual
def uptoBulk {H : Type} : DataW H → Nat
  | .lit (.string bytes) => bytes.length + 1
  | .lit _ => 1
  | .nil => 1
  | .ptr d => uptoBulk d + 1
  | .slice elems spare => uptoBulkAll elems + uptoBulkAll spare + 1
  | .agg parts => uptoBulkAll parts + 1
  | .iface _ d => uptoBulk d + 1
  | .map entries => uptoBulkEntries entries + 1
  | .held _ => 1
def uptoBulkAll {H : Type} : List (DataW H) → Nat
  | [] => 0
  | d :: r => uptoBulk d + uptoBulkAll r
def uptoBulkEntries {H : Type} : List (Lit × DataW H) → Nat
  | [] => 0
  | x :: r => uptoBulkEntry x + uptoBulkEntries r
def uptoBulkEntry {H : Type} : Lit × DataW H → Nat
  | (.string bytes, d) => bytes.length + uptoBulk d + 1
  | (_, d) => uptoBulk d + 1
 end
def uptoSmall : (H : Type) → List (DataW H) → Bool := fun _ ds => decide (uptoBulkAll ds ≤ 1048576)
def OpenSpec.upto (s : _root_.Go.ChangeSpec) : _root_.Go.OpenSpec := { _root_.Go.OpenSpec.ofChange s with cond := some uptoSmall }

/-- 'laws.FnExactIsRecord', WHERE WHAT IT READS IS OF BULK AT MOST 1048576: true; the input reads as it did. -/
def fnExactIsRecordUptoRow : OpenClaim := { program := "ytmpncnphndafnaa", sum := "c5f5ff65c436c9813efaa58fd035d58375b8dbddefcd27a02217bd8c30a6c81d", func := "loop.example/g03006/laws.FnExactIsRecord", spec := "fnExactIsRecord", apart := false, narrowed := true }
def FnExactIsRecordUptoSaid : Prop := fnExactIsRecordUptoRow.holds Try.pinned (OpenSpec.upto fnExactIsRecordSpec)

/-- 'laws.FnExactAreCars', WHERE WHAT IT READS IS OF BULK AT MOST 1048576: true; the input reads as it did. -/
def fnExactAreCarsUptoRow : OpenClaim := { program := "ytmpncnphndafnaa", sum := "c5f5ff65c436c9813efaa58fd035d58375b8dbddefcd27a02217bd8c30a6c81d", func := "loop.example/g03006/laws.FnExactAreCars", spec := "fnExactAreCars", unfollowed := true, recurses := true, apart := false, narrowed := true }
def FnExactAreCarsUptoSaid : Prop := fnExactAreCarsUptoRow.holds Try.pinned (OpenSpec.upto fnExactAreCarsSpec)

/-- 'laws.FnTurns', WHERE WHAT IT READS IS OF BULK AT MOST 1048576: true; the input reads as it did. -/
def fnTurnsUptoRow : OpenClaim := { program := "ytmpncnphndafnaa", sum := "c5f5ff65c436c9813efaa58fd035d58375b8dbddefcd27a02217bd8c30a6c81d", func := "loop.example/g03006/laws.FnTurns", spec := "fnTurns", apart := false, narrowed := true }
def FnTurnsUptoSaid : Prop := fnTurnsUptoRow.holds Try.pinned (OpenSpec.upto fnTurnsSpec)

/-- 'laws.FnExactCountChanges', WHERE WHAT IT READS IS OF BULK AT MOST 1048576: true; the input reads as it did. -/
def fnExactCountChangesUptoRow : OpenClaim := { program := "ytmpncnphndafnaa", sum := "c5f5ff65c436c9813efaa58fd035d58375b8dbddefcd27a02217bd8c30a6c81d", func := "loop.example/g03006/laws.FnExactCountChanges", spec := "fnExactCountChanges", apart := false, narrowed := true }
def FnExactCountChangesUptoSaid : Prop := fnExactCountChangesUptoRow.holds Try.pinned (OpenSpec.upto fnExactCountChangesSpec)

/-- 'laws.FnExactLightShown', WHERE WHAT IT READS IS OF BULK AT MOST 1048576: true; the input reads as it did. -/
def fnExactLightShownUptoRow : OpenClaim := { program := "ytmpncnphndafnaa", sum := "c5f5ff65c436c9813efaa58fd035d58375b8dbddefcd27a02217bd8c30a6c81d", func := "loop.example/g03006/laws.FnExactLightShown", spec := "fnExactLightShown", apart := false, narrowed := true }
def FnExactLightShownUptoSaid : Prop := fnExactLightShownUptoRow.holds Try.pinned (OpenSpec.upto fnExactLightShownSpec)

/-- 'laws.FnExactGreenSince', WHERE WHAT IT READS IS OF BULK AT MOST 1048576: true; the input reads as it did. -/
def fnExactGreenSinceUptoRow : OpenClaim := { program := "ytmpncnphndafnaa", sum := "c5f5ff65c436c9813efaa58fd035d58375b8dbddefcd27a02217bd8c30a6c81d", func := "loop.example/g03006/laws.FnExactGreenSince", spec := "fnExactGreenSince", apart := false, narrowed := true }
def FnExactGreenSinceUptoSaid : Prop := fnExactGreenSinceUptoRow.holds Try.pinned (OpenSpec.upto fnExactGreenSinceSpec)

end Rows
end Go.Proofs.Ytmpncnphndafnaa
