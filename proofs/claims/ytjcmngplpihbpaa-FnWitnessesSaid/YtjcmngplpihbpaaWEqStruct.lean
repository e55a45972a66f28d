-- The print's words, shortened by a program of this session (wip/prune.py): what no text here uses is left out.
import Derived.Test.YtjcmngplpihbpaaWWords
import Derived.Laws.StructEq
namespace Go.Proofs.YtjcmngplpihbpaaW.PrintWords
open Go.RowKit
section
variable {P : Program} {d : Nat} {xs ys : Array Value} {f : Field} {fs : List Field} {a b : Value} {r s : Bool} {w : World}
end
end Go.Proofs.YtjcmngplpihbpaaW.PrintWords
