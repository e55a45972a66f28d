-- The print's words, shortened by a program of this session (wip/prune.py): what no text here uses is left out.
import Derived.Test.YtjcmngplpihbpaaWInv
import Derived.Test.YtjcmngplpihbpaaWFootNe
namespace Go.Proofs.YtjcmngplpihbpaaW.PrintWords
open Go.RowKit
end Go.Proofs.YtjcmngplpihbpaaW.PrintWords
namespace Go.Proofs.YtjcmngplpihbpaaW.PrintLast
section
variable {ops : Array Oper} {a : Act} {o og : Oper} {g : Nat} {t : Tmp} {u : Bool}
end
end Go.Proofs.YtjcmngplpihbpaaW.PrintLast
