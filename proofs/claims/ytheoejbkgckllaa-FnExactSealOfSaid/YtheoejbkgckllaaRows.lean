/-
  No cell of these rows narrows 'for every input' (looked for: loops, veiled, ifaces, maps, wideKeys, modest, calm, conditions, laid).
  DERIVED. THE GIVEN ROWS OF THIS SEAT. 6 by the template 'for every input the law returns true; each argument reads behind the call as it read before'; 0 by the template 'total and deterministic' (their statements: YtheoejbkgckllaaTotals.lean).
  GIVEN WITH THE SEED: the statements are not yours to turn. If you find one false, say at which input.
  Laid BY PROGRAM, IN A SANDBOX (cutbox-rows.mjs): the forced cells as the released guide's own fill.sh prints them over the translation 23d7d99b53f1cb47… (all of the seat's roots in one cut). By AI agents, Wed Nov 11 2026. No macro, syntax, notation, axiom, sorry.
-/
import Derived.Test.YtheoejbkgckllaaChecked
import GoSem.Claim
import GoSem.ClaimJoined
import GoSem.ClaimMapViews
import Derived.JoinedTies
import Derived.KernelRfl
namespace Go.Proofs.Ytheoejbkgckllaa
/- THE CELL 'sum', in the pinned program and in every row, IS THE sha256 OF THE DUMP (.gsa) THAT YtheoejbkgckllaaProg.lean LOADS. Nothing in Lean hashes anything: it is a label: what it is worth is what the hold of that sum in a sandbox is worth. -/
noncomputable def Try.pinned : Pinned := { name := "ytheoejbkgckllaa", sum := "23d7d99b53f1cb4793eee704f181199eda17119a34c7f1ba74ecb784ea2123f7", checked := Try.checked }
namespace Rows
def none {H : Type} : Left H := { results := [], args := [] }

/-- 'laws.FnExactIsTally': WHATEVER THE INPUT: true; the input reads as it did. -/
def fnExactIsTallySpec : ChangeSpec := { name := "fnExactIsTally", fn := fun _ => fun
  | [d] => { results := [.lit (.bool true)], args := [d] }
  | _ => none }
def fnExactIsTallyRow : OpenClaim := { program := "ytheoejbkgckllaa", sum := "23d7d99b53f1cb4793eee704f181199eda17119a34c7f1ba74ecb784ea2123f7", func := "loop.example/g03006/laws.FnExactIsTally", spec := "fnExactIsTally", apart := false }
def FnExactIsTallySaid : Prop := fnExactIsTallyRow.holds Try.pinned (OpenSpec.ofChange fnExactIsTallySpec)

/-- ITS FALSE NEIGHBOUR: 'it returns false'. Refute it at one input. -/
def fnExactIsTallyWrong : ChangeSpec := { name := "fnExactIsTally", fn := fun _ => fun
  | [d] => { results := [.lit (.bool false)], args := [d] }
  | _ => none }
def FnExactIsTallyWrongFalsely : Prop := fnExactIsTallyRow.holds Try.pinned (OpenSpec.ofChange fnExactIsTallyWrong)

/-- 'laws.FnExactInside': WHATEVER THE INPUT: true; the input reads as it did. -/
def fnExactInsideSpec : ChangeSpec := { name := "fnExactInside", fn := fun _ => fun
  | [d] => { results := [.lit (.bool true)], args := [d] }
  | _ => none }
def fnExactInsideRow : OpenClaim := { program := "ytheoejbkgckllaa", sum := "23d7d99b53f1cb4793eee704f181199eda17119a34c7f1ba74ecb784ea2123f7", func := "loop.example/g03006/laws.FnExactInside", spec := "fnExactInside", apart := false }
def FnExactInsideSaid : Prop := fnExactInsideRow.holds Try.pinned (OpenSpec.ofChange fnExactInsideSpec)

/-- ITS FALSE NEIGHBOUR: 'it returns false'. Refute it at one input. -/
def fnExactInsideWrong : ChangeSpec := { name := "fnExactInside", fn := fun _ => fun
  | [d] => { results := [.lit (.bool false)], args := [d] }
  | _ => none }
def FnExactInsideWrongFalsely : Prop := fnExactInsideRow.holds Try.pinned (OpenSpec.ofChange fnExactInsideWrong)

/-- 'laws.FnExactCountIn': WHATEVER THE INPUT: true; the input reads as it did. -/
def fnExactCountInSpec : ChangeSpec := { name := "fnExactCountIn", fn := fun _ => fun
  | [d1, d2] => { results := [.lit (.bool true)], args := [d1, d2] }
  | _ => none }
def fnExactCountInRow : OpenClaim := { program := "ytheoejbkgckllaa", sum := "23d7d99b53f1cb4793eee704f181199eda17119a34c7f1ba74ecb784ea2123f7", func := "loop.example/g03006/laws.FnExactCountIn", spec := "fnExactCountIn", apart := false }
def FnExactCountInSaid : Prop := fnExactCountInRow.holds Try.pinned (OpenSpec.ofChange fnExactCountInSpec)

/-- ITS FALSE NEIGHBOUR: 'it returns false'. Refute it at one input. -/
def fnExactCountInWrong : ChangeSpec := { name := "fnExactCountIn", fn := fun _ => fun
  | [d1, d2] => { results := [.lit (.bool false)], args := [d1, d2] }
  | _ => none }
def FnExactCountInWrongFalsely : Prop := fnExactCountInRow.holds Try.pinned (OpenSpec.ofChange fnExactCountInWrong)

/-- 'laws.FnExactCountOut': WHATEVER THE INPUT: true; the input reads as it did. -/
def fnExactCountOutSpec : ChangeSpec := { name := "fnExactCountOut", fn := fun _ => fun
  | [d1, d2] => { results := [.lit (.bool true)], args := [d1, d2] }
  | _ => none }
def fnExactCountOutRow : OpenClaim := { program := "ytheoejbkgckllaa", sum := "23d7d99b53f1cb4793eee704f181199eda17119a34c7f1ba74ecb784ea2123f7", func := "loop.example/g03006/laws.FnExactCountOut", spec := "fnExactCountOut", apart := false }
def FnExactCountOutSaid : Prop := fnExactCountOutRow.holds Try.pinned (OpenSpec.ofChange fnExactCountOutSpec)

/-- ITS FALSE NEIGHBOUR: 'it returns false'. Refute it at one input. -/
def fnExactCountOutWrong : ChangeSpec := { name := "fnExactCountOut", fn := fun _ => fun
  | [d1, d2] => { results := [.lit (.bool false)], args := [d1, d2] }
  | _ => none }
def FnExactCountOutWrongFalsely : Prop := fnExactCountOutRow.holds Try.pinned (OpenSpec.ofChange fnExactCountOutWrong)

/-- 'laws.FnExactSealOf': WHATEVER THE INPUT: true; the input reads as it did. -/
def fnExactSealOfSpec : ChangeSpec := { name := "fnExactSealOf", fn := fun _ => fun
  | [d1, d2, d3] => { results := [.lit (.bool true)], args := [d1, d2, d3] }
  | _ => none }
def fnExactSealOfRow : OpenClaim := { program := "ytheoejbkgckllaa", sum := "23d7d99b53f1cb4793eee704f181199eda17119a34c7f1ba74ecb784ea2123f7", func := "loop.example/g03006/laws.FnExactSealOf", spec := "fnExactSealOf", apart := false }
def FnExactSealOfSaid : Prop := fnExactSealOfRow.holds Try.pinned (OpenSpec.ofChange fnExactSealOfSpec)

/-- ITS FALSE NEIGHBOUR: 'it returns false'. Refute it at one input. -/
def fnExactSealOfWrong : ChangeSpec := { name := "fnExactSealOf", fn := fun _ => fun
  | [d1, d2, d3] => { results := [.lit (.bool false)], args := [d1, d2, d3] }
  | _ => none }
def FnExactSealOfWrongFalsely : Prop := fnExactSealOfRow.holds Try.pinned (OpenSpec.ofChange fnExactSealOfWrong)

/-- 'laws.FnExactAreSlots': WHATEVER THE INPUT: true; the input reads as it did. -/
def fnExactAreSlotsSpec : ChangeSpec := { name := "fnExactAreSlots", fn := fun _ => fun
  | [d] => { results := [.lit (.bool true)], args := [d] }
  | _ => none }
def fnExactAreSlotsRow : OpenClaim := { program := "ytheoejbkgckllaa", sum := "23d7d99b53f1cb4793eee704f181199eda17119a34c7f1ba74ecb784ea2123f7", func := "loop.example/g03006/laws.FnExactAreSlots", spec := "fnExactAreSlots", apart := false }
def FnExactAreSlotsSaid : Prop := fnExactAreSlotsRow.holds Try.pinned (OpenSpec.ofChange fnExactAreSlotsSpec)

/-- ITS FALSE NEIGHBOUR: 'it returns false'. Refute it at one input. -/
def fnExactAreSlotsWrong : ChangeSpec := { name := "fnExactAreSlots", fn := fun _ => fun
  | [d] => { results := [.lit (.bool false)], args := [d] }
  | _ => none }
def FnExactAreSlotsWrongFalsely : Prop := fnExactAreSlotsRow.holds Try.pinned (OpenSpec.ofChange fnExactAreSlotsWrong)

/- THE SECOND FORM. 'bulk': how many values and letters a reading holds, each counted each time it is reached (what is shared counts as often as it is met; a slice's spare places count too). A statement '..UptoSaid' is the law's where the arguments, and the package variables that the reading takes, are together of bulk at most 1048576: NARROWER than '..Said'. Prove '..Said' where nothing that the law and all that it calls make is longer than what came in: it says more and counts as full. Else prove '..UptoSaid'. A law counts once. -/
mutual
def uptoBulk {H : Type} : DataW H → Nat
  | .lit (.string bytes) => bytes.length + 1
  | .lit _ => 1
  | .nil => 1
  | .ptr d => uptoBulk d + 1
  | .slice elems spare => uptoBulkAll elems + uptoBulkAll spare + 1
  | .agg parts => uptoBulkAll parts + 1
  | .iface _ d => uptoBulk d + 1
  | .map entries => uptoBulkEntries entries + 1
  | .held _ => 1
def uptoBulkAll {H : Type} : List (DataW H) → Nat
  | [] => 0
  | d :: r => uptoBulk d + uptoBulkAll r
def uptoBulkEntries {H : Type} : List (Lit × DataW H) → Nat
  | [] => 0
  | x :: r => uptoBulkEntry x + uptoBulkEntries r
def uptoBulkEntry {H : Type} : Lit × DataW H → Nat
  | (.string bytes, d) => bytes.length + uptoBulk d + 1
  | (_, d) => uptoBulk d + 1
 end
def uptoSmall : (H : Type) → List (DataW H) → Bool := fun _ ds => decide (uptoBulkAll ds ≤ 1048576)
def OpenSpec.upto (s : _root_.Go.ChangeSpec) : _root_.Go.OpenSpec := { _root_.Go.OpenSpec.ofChange s with cond := some uptoSmall }

/-- 'laws.FnExactIsTally', WHERE WHAT IT READS IS OF BULK AT MOST 1048576: true; the input reads as it did. -/
def fnExactIsTallyUptoRow : OpenClaim := { program := "ytheoejbkgckllaa", sum := "23d7d99b53f1cb4793eee704f181199eda17119a34c7f1ba74ecb784ea2123f7", func := "loop.example/g03006/laws.FnExactIsTally", spec := "fnExactIsTally", apart := false, narrowed := true }
def FnExactIsTallyUptoSaid : Prop := fnExactIsTallyUptoRow.holds Try.pinned (OpenSpec.upto fnExactIsTallySpec)

/-- 'laws.FnExactInside', WHERE WHAT IT READS IS OF BULK AT MOST 1048576: true; the input reads as it did. -/
def fnExactInsideUptoRow : OpenClaim := { program := "ytheoejbkgckllaa", sum := "23d7d99b53f1cb4793eee704f181199eda17119a34c7f1ba74ecb784ea2123f7", func := "loop.example/g03006/laws.FnExactInside", spec := "fnExactInside", apart := false, narrowed := true }
def FnExactInsideUptoSaid : Prop := fnExactInsideUptoRow.holds Try.pinned (OpenSpec.upto fnExactInsideSpec)

/-- 'laws.FnExactCountIn', WHERE WHAT IT READS IS OF BULK AT MOST 1048576: true; the input reads as it did. -/
def fnExactCountInUptoRow : OpenClaim := { program := "ytheoejbkgckllaa", sum := "23d7d99b53f1cb4793eee704f181199eda17119a34c7f1ba74ecb784ea2123f7", func := "loop.example/g03006/laws.FnExactCountIn", spec := "fnExactCountIn", apart := false, narrowed := true }
def FnExactCountInUptoSaid : Prop := fnExactCountInUptoRow.holds Try.pinned (OpenSpec.upto fnExactCountInSpec)

/-- 'laws.FnExactCountOut', WHERE WHAT IT READS IS OF BULK AT MOST 1048576: true; the input reads as it did. -/
def fnExactCountOutUptoRow : OpenClaim := { program := "ytheoejbkgckllaa", sum := "23d7d99b53f1cb4793eee704f181199eda17119a34c7f1ba74ecb784ea2123f7", func := "loop.example/g03006/laws.FnExactCountOut", spec := "fnExactCountOut", apart := false, narrowed := true }
def FnExactCountOutUptoSaid : Prop := fnExactCountOutUptoRow.holds Try.pinned (OpenSpec.upto fnExactCountOutSpec)

/-- 'laws.FnExactSealOf', WHERE WHAT IT READS IS OF BULK AT MOST 1048576: true; the input reads as it did. -/
def fnExactSealOfUptoRow : OpenClaim := { program := "ytheoejbkgckllaa", sum := "23d7d99b53f1cb4793eee704f181199eda17119a34c7f1ba74ecb784ea2123f7", func := "loop.example/g03006/laws.FnExactSealOf", spec := "fnExactSealOf", apart := false, narrowed := true }
def FnExactSealOfUptoSaid : Prop := fnExactSealOfUptoRow.holds Try.pinned (OpenSpec.upto fnExactSealOfSpec)

/-- 'laws.FnExactAreSlots', WHERE WHAT IT READS IS OF BULK AT MOST 1048576: true; the input reads as it did. -/
def fnExactAreSlotsUptoRow : OpenClaim := { program := "ytheoejbkgckllaa", sum := "23d7d99b53f1cb4793eee704f181199eda17119a34c7f1ba74ecb784ea2123f7", func := "loop.example/g03006/laws.FnExactAreSlots", spec := "fnExactAreSlots", apart := false, narrowed := true }
def FnExactAreSlotsUptoSaid : Prop := fnExactAreSlotsUptoRow.holds Try.pinned (OpenSpec.upto fnExactAreSlotsSpec)

end Rows
end Go.Proofs.Ytheoejbkgckllaa
