-- The print's words, shortened by a program of this session (wip/prune.py): what no text here uses is left out.
import Derived.Test.YtdahnapanpiooaaWInv
import Derived.Test.YtdahnapanpiooaaWFootNe
namespace Go.Proofs.YtdahnapanpiooaaW.PrintWords
open Go.RowKit
end Go.Proofs.YtdahnapanpiooaaW.PrintWords
namespace Go.Proofs.YtdahnapanpiooaaW.PrintLast
section
variable {ops : Array Oper} {a : Act} {o og : Oper} {g : Nat} {t : Tmp} {u : Bool}
end
end Go.Proofs.YtdahnapanpiooaaW.PrintLast
