/-
  No cell of these rows narrows 'for every input' (looked for: loops, veiled, ifaces, maps, wideKeys, modest, calm, conditions, laid).
  DERIVED. THE GIVEN ROWS OF THIS SEAT. 6 by the template 'for every input the law returns true; each argument reads behind the call as it read before'; 0 by the template 'total and deterministic' (their statements: YtmpncnphndafnabTotals.lean).
  GIVEN WITH THE SEED: the statements are not yours to turn. If you find one false, say at which input.
  Laid BY PROGRAM, IN A SANDBOX (cutbox-rows.mjs): the forced cells as the released guide's own fill.sh prints them over the translation 9602a989804914c8… (all of the seat's roots in one cut). By AI agents, Wed Nov 11 2026. No macro, syntax, notation, axiom, sorry.
-/
import Derived.Test.YtmpncnphndafnabChecked
import GoSem.Claim
import GoSem.ClaimJoined
import GoSem.ClaimMapViews
import Derived.JoinedTies
import Derived.KernelRfl
namespace Go.Proofs.Ytmpncnphndafnab
/- THE CELL 'sum', in the pinned program and in every row, IS THE sha256 OF THE DUMP (.gsa) THAT YtmpncnphndafnabProg.lean LOADS. Nothing in Lean hashes anything: it is a label: what it is worth is what the hold of that sum in a sandbox is worth. -/
noncomputable def Try.pinned : Pinned := { name := "ytmpncnphndafnab", sum := "9602a989804914c80459c985cd684a5f9784a540397c3777c064f7df43229be0", checked := Try.checked }
namespace Rows
def none {H : Type} : Left H := { results := [], args := [] }

/-- 'laws.FnExactShownAt': WHATEVER THE INPUT: true; the input reads as it did. -/
def fnExactShownAtSpec : ChangeSpec := { name := "fnExactShownAt", fn := fun _ => fun
  | [d1, d2] => { results := [.lit (.bool true)], args := [d1, d2] }
  | _ => none }
def fnExactShownAtRow : OpenClaim := { program := "ytmpncnphndafnab", sum := "9602a989804914c80459c985cd684a5f9784a540397c3777c064f7df43229be0", func := "loop.example/g03006/laws.FnExactShownAt", spec := "fnExactShownAt", apart := false }
def FnExactShownAtSaid : Prop := fnExactShownAtRow.holds Try.pinned (OpenSpec.ofChange fnExactShownAtSpec)

/-- ITS FALSE NEIGHBOUR: 'it returns false'. Refute it at one input. -/
def fnExactShownAtWrong : ChangeSpec := { name := "fnExactShownAt", fn := fun _ => fun
  | [d1, d2] => { results := [.lit (.bool false)], args := [d1, d2] }
  | _ => none }
def FnExactShownAtWrongFalsely : Prop := fnExactShownAtRow.holds Try.pinned (OpenSpec.ofChange fnExactShownAtWrong)

/-- 'laws.FnExactAddEntry': WHATEVER THE INPUT: true; the input reads as it did. -/
def fnExactAddEntrySpec : ChangeSpec := { name := "fnExactAddEntry", fn := fun _ => fun
  | [d1, d2, d3] => { results := [.lit (.bool true)], args := [d1, d2, d3] }
  | _ => none }
def fnExactAddEntryRow : OpenClaim := { program := "ytmpncnphndafnab", sum := "9602a989804914c80459c985cd684a5f9784a540397c3777c064f7df43229be0", func := "loop.example/g03006/laws.FnExactAddEntry", spec := "fnExactAddEntry", apart := false }
def FnExactAddEntrySaid : Prop := fnExactAddEntryRow.holds Try.pinned (OpenSpec.ofChange fnExactAddEntrySpec)

/-- ITS FALSE NEIGHBOUR: 'it returns false'. Refute it at one input. -/
def fnExactAddEntryWrong : ChangeSpec := { name := "fnExactAddEntry", fn := fun _ => fun
  | [d1, d2, d3] => { results := [.lit (.bool false)], args := [d1, d2, d3] }
  | _ => none }
def FnExactAddEntryWrongFalsely : Prop := fnExactAddEntryRow.holds Try.pinned (OpenSpec.ofChange fnExactAddEntryWrong)

/-- 'laws.FnExactNoteLights': WHATEVER THE INPUT: true; the input reads as it did. -/
def fnExactNoteLightsSpec : ChangeSpec := { name := "fnExactNoteLights", fn := fun _ => fun
  | [d1, d2, d3] => { results := [.lit (.bool true)], args := [d1, d2, d3] }
  | _ => none }
def fnExactNoteLightsRow : OpenClaim := { program := "ytmpncnphndafnab", sum := "9602a989804914c80459c985cd684a5f9784a540397c3777c064f7df43229be0", func := "loop.example/g03006/laws.FnExactNoteLights", spec := "fnExactNoteLights", apart := false }
def FnExactNoteLightsSaid : Prop := fnExactNoteLightsRow.holds Try.pinned (OpenSpec.ofChange fnExactNoteLightsSpec)

/-- ITS FALSE NEIGHBOUR: 'it returns false'. Refute it at one input. -/
def fnExactNoteLightsWrong : ChangeSpec := { name := "fnExactNoteLights", fn := fun _ => fun
  | [d1, d2, d3] => { results := [.lit (.bool false)], args := [d1, d2, d3] }
  | _ => none }
def FnExactNoteLightsWrongFalsely : Prop := fnExactNoteLightsRow.holds Try.pinned (OpenSpec.ofChange fnExactNoteLightsWrong)

/-- 'laws.FnRecords': WHATEVER THE INPUT: true; the input reads as it did. -/
def fnRecordsSpec : ChangeSpec := { name := "fnRecords", fn := fun _ => fun
  | [d] => { results := [.lit (.bool true)], args := [d] }
  | _ => none }
def fnRecordsRow : OpenClaim := { program := "ytmpncnphndafnab", sum := "9602a989804914c80459c985cd684a5f9784a540397c3777c064f7df43229be0", func := "loop.example/g03006/laws.FnRecords", spec := "fnRecords", apart := false }
def FnRecordsSaid : Prop := fnRecordsRow.holds Try.pinned (OpenSpec.ofChange fnRecordsSpec)

/-- ITS FALSE NEIGHBOUR: 'it returns false'. Refute it at one input. -/
def fnRecordsWrong : ChangeSpec := { name := "fnRecords", fn := fun _ => fun
  | [d] => { results := [.lit (.bool false)], args := [d] }
  | _ => none }
def FnRecordsWrongFalsely : Prop := fnRecordsRow.holds Try.pinned (OpenSpec.ofChange fnRecordsWrong)

/-- 'laws.FnDays': WHATEVER THE INPUT: true; the input reads as it did. -/
def fnDaysSpec : ChangeSpec := { name := "fnDays", fn := fun _ => fun
  | [d] => { results := [.lit (.bool true)], args := [d] }
  | _ => none }
def fnDaysRow : OpenClaim := { program := "ytmpncnphndafnab", sum := "9602a989804914c80459c985cd684a5f9784a540397c3777c064f7df43229be0", func := "loop.example/g03006/laws.FnDays", spec := "fnDays", inPlace := ["slices.overlaps[loop.example/g03006/impl.Slot]"], apart := false }
def FnDaysSaid : Prop := fnDaysRow.holds Try.pinned (OpenSpec.ofChange fnDaysSpec)

/-- ITS FALSE NEIGHBOUR: 'it returns false'. Refute it at one input. -/
def fnDaysWrong : ChangeSpec := { name := "fnDays", fn := fun _ => fun
  | [d] => { results := [.lit (.bool false)], args := [d] }
  | _ => none }
def FnDaysWrongFalsely : Prop := fnDaysRow.holds Try.pinned (OpenSpec.ofChange fnDaysWrong)

/-- 'laws.FnExactPutSlot': WHATEVER THE INPUT: true; the input reads as it did. -/
def fnExactPutSlotSpec : ChangeSpec := { name := "fnExactPutSlot", fn := fun _ => fun
  | [d1, d2] => { results := [.lit (.bool true)], args := [d1, d2] }
  | _ => none }
def fnExactPutSlotRow : OpenClaim := { program := "ytmpncnphndafnab", sum := "9602a989804914c80459c985cd684a5f9784a540397c3777c064f7df43229be0", func := "loop.example/g03006/laws.FnExactPutSlot", spec := "fnExactPutSlot", inPlace := ["slices.overlaps[loop.example/g03006/impl.Slot]"], apart := false }
def FnExactPutSlotSaid : Prop := fnExactPutSlotRow.holds Try.pinned (OpenSpec.ofChange fnExactPutSlotSpec)

/-- ITS FALSE NEIGHBOUR: 'it returns false'. Refute it at one input. -/
def fnExactPutSlotWrong : ChangeSpec := { name := "fnExactPutSlot", fn := fun _ => fun
  | [d1, d2] => { results := [.lit (.bool false)], args := [d1, d2] }
  | _ => none }
def FnExactPutSlotWrongFalsely : Prop := fnExactPutSlotRow.holds Try.pinned (OpenSpec.ofChange fnExactPutSlotWrong)

/- THE SECOND FORM. 'bulk': how many values and letters a reading holds, each counted each time it is reached (what is shared counts as often as it is met; a slice's spare places count too). A statement '..UptoSaid' is the law's where the arguments, and the package variables that the reading takes, are together of bulk at most 1048576: NARROWER than '..Said'. Prove '..Said' where nothing that the law and all that it calls make is longer than what came in: it says more and counts as full. Else prove '..UptoSaid'. A law counts once. -/
mutual
def uptoBulk {H : Type} : DataW H → Nat
  | .lit (.string bytes) => bytes.length + 1
  | .lit _ => 1
  | .nil => 1
  | .ptr d => uptoBulk d + 1
  | .slice elems spare => uptoBulkAll elems + uptoBulkAll spare + 1
  | .agg parts => uptoBulkAll parts + 1
  | .iface _ d => uptoBulk d + 1
  | .map entries => uptoBulkEntries entries + 1
  | .held _ => 1
def uptoBulkAll {H : Type} : List (DataW H) → Nat
  | [] => 0
  | d :: r => uptoBulk d + uptoBulkAll r
def uptoBulkEntries {H : Type} : List (Lit × DataW H) → Nat
  | [] => 0
  | x :: r => uptoBulkEntry x + uptoBulkEntries r
def uptoBulkEntry {H : Type} : Lit × DataW H → Nat
  | (.string bytes, d) => bytes.length + uptoBulk d + 1
  | (_, d) => uptoBulk d + 1
 end
def uptoSmall : (H : Type) → List (DataW H) → Bool := fun _ ds => decide (uptoBulkAll ds ≤ 1048576)
def OpenSpec.upto (s : _root_.Go.ChangeSpec) : _root_.Go.OpenSpec := { _root_.Go.OpenSpec.ofChange s with cond := some uptoSmall }

/-- 'laws.FnExactShownAt', WHERE WHAT IT READS IS OF BULK AT MOST 1048576: true; the input reads as it did. -/
def fnExactShownAtUptoRow : OpenClaim := { program := "ytmpncnphndafnab", sum := "9602a989804914c80459c985cd684a5f9784a540397c3777c064f7df43229be0", func := "loop.example/g03006/laws.FnExactShownAt", spec := "fnExactShownAt", apart := false, narrowed := true }
def FnExactShownAtUptoSaid : Prop := fnExactShownAtUptoRow.holds Try.pinned (OpenSpec.upto fnExactShownAtSpec)

/-- 'laws.FnExactAddEntry', WHERE WHAT IT READS IS OF BULK AT MOST 1048576: true; the input reads as it did. -/
def fnExactAddEntryUptoRow : OpenClaim := { program := "ytmpncnphndafnab", sum := "9602a989804914c80459c985cd684a5f9784a540397c3777c064f7df43229be0", func := "loop.example/g03006/laws.FnExactAddEntry", spec := "fnExactAddEntry", apart := false, narrowed := true }
def FnExactAddEntryUptoSaid : Prop := fnExactAddEntryUptoRow.holds Try.pinned (OpenSpec.upto fnExactAddEntrySpec)

/-- 'laws.FnExactNoteLights', WHERE WHAT IT READS IS OF BULK AT MOST 1048576: true; the input reads as it did. -/
def fnExactNoteLightsUptoRow : OpenClaim := { program := "ytmpncnphndafnab", sum := "9602a989804914c80459c985cd684a5f9784a540397c3777c064f7df43229be0", func := "loop.example/g03006/laws.FnExactNoteLights", spec := "fnExactNoteLights", apart := false, narrowed := true }
def FnExactNoteLightsUptoSaid : Prop := fnExactNoteLightsUptoRow.holds Try.pinned (OpenSpec.upto fnExactNoteLightsSpec)

/-- 'laws.FnRecords', WHERE WHAT IT READS IS OF BULK AT MOST 1048576: true; the input reads as it did. -/
def fnRecordsUptoRow : OpenClaim := { program := "ytmpncnphndafnab", sum := "9602a989804914c80459c985cd684a5f9784a540397c3777c064f7df43229be0", func := "loop.example/g03006/laws.FnRecords", spec := "fnRecords", apart := false, narrowed := true }
def FnRecordsUptoSaid : Prop := fnRecordsUptoRow.holds Try.pinned (OpenSpec.upto fnRecordsSpec)

/-- 'laws.FnDays', WHERE WHAT IT READS IS OF BULK AT MOST 1048576: true; the input reads as it did. -/
def fnDaysUptoRow : OpenClaim := { program := "ytmpncnphndafnab", sum := "9602a989804914c80459c985cd684a5f9784a540397c3777c064f7df43229be0", func := "loop.example/g03006/laws.FnDays", spec := "fnDays", inPlace := ["slices.overlaps[loop.example/g03006/impl.Slot]"], apart := false, narrowed := true }
def FnDaysUptoSaid : Prop := fnDaysUptoRow.holds Try.pinned (OpenSpec.upto fnDaysSpec)

/-- 'laws.FnExactPutSlot', WHERE WHAT IT READS IS OF BULK AT MOST 1048576: true; the input reads as it did. -/
def fnExactPutSlotUptoRow : OpenClaim := { program := "ytmpncnphndafnab", sum := "9602a989804914c80459c985cd684a5f9784a540397c3777c064f7df43229be0", func := "loop.example/g03006/laws.FnExactPutSlot", spec := "fnExactPutSlot", inPlace := ["slices.overlaps[loop.example/g03006/impl.Slot]"], apart := false, narrowed := true }
def FnExactPutSlotUptoSaid : Prop := fnExactPutSlotUptoRow.holds Try.pinned (OpenSpec.upto fnExactPutSlotSpec)

end Rows
end Go.Proofs.Ytmpncnphndafnab
