-- The print's words, shortened by a program of this session (wip/prune.py): what no text here uses is left out.
import Derived.Test.YtmpncnphndafnacWInv
import Derived.Test.YtmpncnphndafnacWFootNe
namespace Go.Proofs.YtmpncnphndafnacW.PrintWords
open Go.RowKit
end Go.Proofs.YtmpncnphndafnacW.PrintWords
namespace Go.Proofs.YtmpncnphndafnacW.PrintLast
section
variable {ops : Array Oper} {a : Act} {o og : Oper} {g : Nat} {t : Tmp} {u : Bool}
end
end Go.Proofs.YtmpncnphndafnacW.PrintLast
