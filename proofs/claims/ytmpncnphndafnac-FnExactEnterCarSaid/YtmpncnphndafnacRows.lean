/-
  No cell of these rows narrows 'for every input' (looked for: loops, veiled, ifaces, maps, wideKeys, modest, calm, conditions, laid).
  DERIVED. THE GIVEN ROWS OF THIS SEAT. 6 by the template 'for every input the law returns true; each argument reads behind the call as it read before'; 0 by the template 'total and deterministic' (their statements: YtmpncnphndafnacTotals.lean).
  GIVEN WITH THE SEED: the statements are not yours to turn. If you find one false, say at which input.
  Laid BY PROGRAM, IN A SANDBOX (cutbox-rows.mjs): the forced cells as the released guide's own fill.sh prints them over the translation 232a0686540d843b… (all of the seat's roots in one cut). By AI agents, Wed Nov 11 2026. No macro, syntax, notation, axiom, sorry.
-/
import Derived.Test.YtmpncnphndafnacChecked
import GoSem.Claim
import GoSem.ClaimJoined
import GoSem.ClaimMapViews
import Derived.JoinedTies
import Derived.KernelRfl
namespace Go.Proofs.Ytmpncnphndafnac
/- THE CELL 'sum', in the pinned program and in every row, IS THE sha256 OF THE DUMP (.gsa) THAT YtmpncnphndafnacProg.lean LOADS. Nothing in Lean hashes anything: it is a label: what it is worth is what the hold of that sum in a sandbox is worth. -/
noncomputable def Try.pinned : Pinned := { name := "ytmpncnphndafnac", sum := "232a0686540d843ba238be590d762efb3acb444ec67c07a61ba3a3361907fdef", checked := Try.checked }
namespace Rows
def none {H : Type} : Left H := { results := [], args := [] }

/-- 'laws.FnExactMoveCars': WHATEVER THE INPUT: true; the input reads as it did. -/
def fnExactMoveCarsSpec : ChangeSpec := { name := "fnExactMoveCars", fn := fun _ => fun
  | [d1, d2, d3] => { results := [.lit (.bool true)], args := [d1, d2, d3] }
  | _ => none }
def fnExactMoveCarsRow : OpenClaim := { program := "ytmpncnphndafnac", sum := "232a0686540d843ba238be590d762efb3acb444ec67c07a61ba3a3361907fdef", func := "loop.example/g03006/laws.FnExactMoveCars", spec := "fnExactMoveCars", unfollowed := true, recurses := true, apart := false }
def FnExactMoveCarsSaid : Prop := fnExactMoveCarsRow.holds Try.pinned (OpenSpec.ofChange fnExactMoveCarsSpec)

/-- ITS FALSE NEIGHBOUR: 'it returns false'. Refute it at one input. -/
def fnExactMoveCarsWrong : ChangeSpec := { name := "fnExactMoveCars", fn := fun _ => fun
  | [d1, d2, d3] => { results := [.lit (.bool false)], args := [d1, d2, d3] }
  | _ => none }
def FnExactMoveCarsWrongFalsely : Prop := fnExactMoveCarsRow.holds Try.pinned (OpenSpec.ofChange fnExactMoveCarsWrong)

/-- 'laws.FnExactRunCars': WHATEVER THE INPUT: true; the input reads as it did. -/
def fnExactRunCarsSpec : ChangeSpec := { name := "fnExactRunCars", fn := fun _ => fun
  | [d1, d2, d3, d4] => { results := [.lit (.bool true)], args := [d1, d2, d3, d4] }
  | _ => none }
def fnExactRunCarsRow : OpenClaim := { program := "ytmpncnphndafnac", sum := "232a0686540d843ba238be590d762efb3acb444ec67c07a61ba3a3361907fdef", func := "loop.example/g03006/laws.FnExactRunCars", spec := "fnExactRunCars", unfollowed := true, recurses := true, apart := false }
def FnExactRunCarsSaid : Prop := fnExactRunCarsRow.holds Try.pinned (OpenSpec.ofChange fnExactRunCarsSpec)

/-- ITS FALSE NEIGHBOUR: 'it returns false'. Refute it at one input. -/
def fnExactRunCarsWrong : ChangeSpec := { name := "fnExactRunCars", fn := fun _ => fun
  | [d1, d2, d3, d4] => { results := [.lit (.bool false)], args := [d1, d2, d3, d4] }
  | _ => none }
def FnExactRunCarsWrongFalsely : Prop := fnExactRunCarsRow.holds Try.pinned (OpenSpec.ofChange fnExactRunCarsWrong)

/-- 'laws.FnExactEnterCar': WHATEVER THE INPUT: true; the input reads as it did. -/
def fnExactEnterCarSpec : ChangeSpec := { name := "fnExactEnterCar", fn := fun _ => fun
  | [d1, d2, d3, d4, d5] => { results := [.lit (.bool true)], args := [d1, d2, d3, d4, d5] }
  | _ => none }
def fnExactEnterCarRow : OpenClaim := { program := "ytmpncnphndafnac", sum := "232a0686540d843ba238be590d762efb3acb444ec67c07a61ba3a3361907fdef", func := "loop.example/g03006/laws.FnExactEnterCar", spec := "fnExactEnterCar", inPlace := ["slices.overlaps[loop.example/g03006/impl.Car]"], unfollowed := true, recurses := true, apart := false }
def FnExactEnterCarSaid : Prop := fnExactEnterCarRow.holds Try.pinned (OpenSpec.ofChange fnExactEnterCarSpec)

/-- ITS FALSE NEIGHBOUR: 'it returns false'. Refute it at one input. -/
def fnExactEnterCarWrong : ChangeSpec := { name := "fnExactEnterCar", fn := fun _ => fun
  | [d1, d2, d3, d4, d5] => { results := [.lit (.bool false)], args := [d1, d2, d3, d4, d5] }
  | _ => none }
def FnExactEnterCarWrongFalsely : Prop := fnExactEnterCarRow.holds Try.pinned (OpenSpec.ofChange fnExactEnterCarWrong)

/-- 'laws.FnCars': WHATEVER THE INPUT: true; the input reads as it did. -/
def fnCarsSpec : ChangeSpec := { name := "fnCars", fn := fun _ => fun
  | [d] => { results := [.lit (.bool true)], args := [d] }
  | _ => none }
def fnCarsRow : OpenClaim := { program := "ytmpncnphndafnac", sum := "232a0686540d843ba238be590d762efb3acb444ec67c07a61ba3a3361907fdef", func := "loop.example/g03006/laws.FnCars", spec := "fnCars", inPlace := ["slices.overlaps[loop.example/g03006/impl.Car]"], unfollowed := true, recurses := true, apart := false }
def FnCarsSaid : Prop := fnCarsRow.holds Try.pinned (OpenSpec.ofChange fnCarsSpec)

/-- ITS FALSE NEIGHBOUR: 'it returns false'. Refute it at one input. -/
def fnCarsWrong : ChangeSpec := { name := "fnCars", fn := fun _ => fun
  | [d] => { results := [.lit (.bool false)], args := [d] }
  | _ => none }
def FnCarsWrongFalsely : Prop := fnCarsRow.holds Try.pinned (OpenSpec.ofChange fnCarsWrong)

/-- 'laws.FnExactAreStreams': WHATEVER THE INPUT: true; the input reads as it did. -/
def fnExactAreStreamsSpec : ChangeSpec := { name := "fnExactAreStreams", fn := fun _ => fun
  | [d1, d2] => { results := [.lit (.bool true)], args := [d1, d2] }
  | _ => none }
def fnExactAreStreamsRow : OpenClaim := { program := "ytmpncnphndafnac", sum := "232a0686540d843ba238be590d762efb3acb444ec67c07a61ba3a3361907fdef", func := "loop.example/g03006/laws.FnExactAreStreams", spec := "fnExactAreStreams", unfollowed := true, recurses := true, apart := false }
def FnExactAreStreamsSaid : Prop := fnExactAreStreamsRow.holds Try.pinned (OpenSpec.ofChange fnExactAreStreamsSpec)

/-- ITS FALSE NEIGHBOUR: 'it returns false'. Refute it at one input. -/
def fnExactAreStreamsWrong : ChangeSpec := { name := "fnExactAreStreams", fn := fun _ => fun
  | [d1, d2] => { results := [.lit (.bool false)], args := [d1, d2] }
  | _ => none }
def FnExactAreStreamsWrongFalsely : Prop := fnExactAreStreamsRow.holds Try.pinned (OpenSpec.ofChange fnExactAreStreamsWrong)

/-- 'laws.FnExactIsSafeHistory': WHATEVER THE INPUT: true; the input reads as it did. -/
def fnExactIsSafeHistorySpec : ChangeSpec := { name := "fnExactIsSafeHistory", fn := fun _ => fun
  | [d1, d2] => { results := [.lit (.bool true)], args := [d1, d2] }
  | _ => none }
def fnExactIsSafeHistoryRow : OpenClaim := { program := "ytmpncnphndafnac", sum := "232a0686540d843ba238be590d762efb3acb444ec67c07a61ba3a3361907fdef", func := "loop.example/g03006/laws.FnExactIsSafeHistory", spec := "fnExactIsSafeHistory", apart := false }
def FnExactIsSafeHistorySaid : Prop := fnExactIsSafeHistoryRow.holds Try.pinned (OpenSpec.ofChange fnExactIsSafeHistorySpec)

/-- ITS FALSE NEIGHBOUR: 'it returns false'. Refute it at one input. -/
def fnExactIsSafeHistoryWrong : ChangeSpec := { name := "fnExactIsSafeHistory", fn := fun _ => fun
  | [d1, d2] => { results := [.lit (.bool false)], args := [d1, d2] }
  | _ => none }
def FnExactIsSafeHistoryWrongFalsely : Prop := fnExactIsSafeHistoryRow.holds Try.pinned (OpenSpec.ofChange fnExactIsSafeHistoryWrong)

/- THE SECOND FORM. 'bulk': how many values and letters a reading holds, each counted each time it is reached (what is shared counts as often as it is met; a slice's spare places count too). A statement '..UptoSaid' is the law's where the arguments, and the package variables that the reading takes, are together of bulk at most 1048576: NARROWER than '..Said'. Prove '..Said' where nothing that the law and all that it calls make is longer than what came in: it says more and counts as full. Else prove '..UptoSaid'. A law counts once. -/
mutual
def uptoBulk {H : Type} : DataW H → Nat
  | .lit (.string bytes) => bytes.length + 1
  | .lit _ => 1
  | .nil => 1
  | .ptr d => uptoBulk d + 1
  | .slice elems spare => uptoBulkAll elems + uptoBulkAll spare + 1
  | .agg parts => uptoBulkAll parts + 1
  | .iface _ d => uptoBulk d + 1
  | .map entries => uptoBulkEntries entries + 1
  | .held _ => 1
def uptoBulkAll {H : Type} : List (DataW H) → Nat
  | [] => 0
  | d :: r => uptoBulk d + uptoBulkAll r
def uptoBulkEntries {H : Type} : List (Lit × DataW H) → Nat
  | [] => 0
  | x :: r => uptoBulkEntry x + uptoBulkEntries r
def uptoBulkEntry {H : Type} : Lit × DataW H → Nat
  | (.string bytes, d) => bytes.length + uptoBulk d + 1
  | (_, d) => uptoBulk d + 1
 end
def uptoSmall : (H : Type) → List (DataW H) → Bool := fun _ ds => decide (uptoBulkAll ds ≤ 1048576)
def OpenSpec.upto (s : _root_.Go.ChangeSpec) : _root_.Go.OpenSpec := { _root_.Go.OpenSpec.ofChange s with cond := some uptoSmall }

/-- 'laws.FnExactMoveCars', WHERE WHAT IT READS IS OF BULK AT MOST 1048576: true; the input reads as it did. -/
def fnExactMoveCarsUptoRow : OpenClaim := { program := "ytmpncnphndafnac", sum := "232a0686540d843ba238be590d762efb3acb444ec67c07a61ba3a3361907fdef", func := "loop.example/g03006/laws.FnExactMoveCars", spec := "fnExactMoveCars", unfollowed := true, recurses := true, apart := false, narrowed := true }
def FnExactMoveCarsUptoSaid : Prop := fnExactMoveCarsUptoRow.holds Try.pinned (OpenSpec.upto fnExactMoveCarsSpec)

/-- 'laws.FnExactRunCars', WHERE WHAT IT READS IS OF BULK AT MOST 1048576: true; the input reads as it did. -/
def fnExactRunCarsUptoRow : OpenClaim := { program := "ytmpncnphndafnac", sum := "232a0686540d843ba238be590d762efb3acb444ec67c07a61ba3a3361907fdef", func := "loop.example/g03006/laws.FnExactRunCars", spec := "fnExactRunCars", unfollowed := true, recurses := true, apart := false, narrowed := true }
def FnExactRunCarsUptoSaid : Prop := fnExactRunCarsUptoRow.holds Try.pinned (OpenSpec.upto fnExactRunCarsSpec)

/-- 'laws.FnExactEnterCar', WHERE WHAT IT READS IS OF BULK AT MOST 1048576: true; the input reads as it did. -/
def fnExactEnterCarUptoRow : OpenClaim := { program := "ytmpncnphndafnac", sum := "232a0686540d843ba238be590d762efb3acb444ec67c07a61ba3a3361907fdef", func := "loop.example/g03006/laws.FnExactEnterCar", spec := "fnExactEnterCar", inPlace := ["slices.overlaps[loop.example/g03006/impl.Car]"], unfollowed := true, recurses := true, apart := false, narrowed := true }
def FnExactEnterCarUptoSaid : Prop := fnExactEnterCarUptoRow.holds Try.pinned (OpenSpec.upto fnExactEnterCarSpec)

/-- 'laws.FnCars', WHERE WHAT IT READS IS OF BULK AT MOST 1048576: true; the input reads as it did. -/
def fnCarsUptoRow : OpenClaim := { program := "ytmpncnphndafnac", sum := "232a0686540d843ba238be590d762efb3acb444ec67c07a61ba3a3361907fdef", func := "loop.example/g03006/laws.FnCars", spec := "fnCars", inPlace := ["slices.overlaps[loop.example/g03006/impl.Car]"], unfollowed := true, recurses := true, apart := false, narrowed := true }
def FnCarsUptoSaid : Prop := fnCarsUptoRow.holds Try.pinned (OpenSpec.upto fnCarsSpec)

/-- 'laws.FnExactAreStreams', WHERE WHAT IT READS IS OF BULK AT MOST 1048576: true; the input reads as it did. -/
def fnExactAreStreamsUptoRow : OpenClaim := { program := "ytmpncnphndafnac", sum := "232a0686540d843ba238be590d762efb3acb444ec67c07a61ba3a3361907fdef", func := "loop.example/g03006/laws.FnExactAreStreams", spec := "fnExactAreStreams", unfollowed := true, recurses := true, apart := false, narrowed := true }
def FnExactAreStreamsUptoSaid : Prop := fnExactAreStreamsUptoRow.holds Try.pinned (OpenSpec.upto fnExactAreStreamsSpec)

/-- 'laws.FnExactIsSafeHistory', WHERE WHAT IT READS IS OF BULK AT MOST 1048576: true; the input reads as it did. -/
def fnExactIsSafeHistoryUptoRow : OpenClaim := { program := "ytmpncnphndafnac", sum := "232a0686540d843ba238be590d762efb3acb444ec67c07a61ba3a3361907fdef", func := "loop.example/g03006/laws.FnExactIsSafeHistory", spec := "fnExactIsSafeHistory", apart := false, narrowed := true }
def FnExactIsSafeHistoryUptoSaid : Prop := fnExactIsSafeHistoryUptoRow.holds Try.pinned (OpenSpec.upto fnExactIsSafeHistorySpec)

end Rows
end Go.Proofs.Ytmpncnphndafnac
