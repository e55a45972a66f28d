-- The print's words, shortened by a program of this session (wip/prune.py): what no text here uses is left out.
import Derived.Test.YtgpoajmifhmboaaWInv
import Derived.Test.YtgpoajmifhmboaaWFootNe
namespace Go.Proofs.YtgpoajmifhmboaaW.PrintWords
open Go.RowKit
end Go.Proofs.YtgpoajmifhmboaaW.PrintWords
namespace Go.Proofs.YtgpoajmifhmboaaW.PrintLast
section
variable {ops : Array Oper} {a : Act} {o og : Oper} {g : Nat} {t : Tmp} {u : Bool}
end
end Go.Proofs.YtgpoajmifhmboaaW.PrintLast
