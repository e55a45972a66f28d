-- The print's words, shortened by a program of this session (wip/prune.py): what no text here uses is left out.
import Derived.Test.YtfamneflndhjpaaWInv
import Derived.Test.YtfamneflndhjpaaWFootNe
namespace Go.Proofs.YtfamneflndhjpaaW.PrintWords
open Go.RowKit
end Go.Proofs.YtfamneflndhjpaaW.PrintWords
namespace Go.Proofs.YtfamneflndhjpaaW.PrintLast
section
variable {ops : Array Oper} {a : Act} {o og : Oper} {g : Nat} {t : Tmp} {u : Bool}
end
end Go.Proofs.YtfamneflndhjpaaW.PrintLast
