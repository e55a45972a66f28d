-- The print's words, shortened by a program of this session (wip/prune.py): what no text here uses is left out.
import Derived.Test.YtmpncnphndafnacWTab
namespace Go.Proofs.YtmpncnphndafnacW.PrintLast
section
variable {P : Program} {ops : Array Oper} {Q : Exit → Act → World → Prop} {md : Region.Mode} {S : World → Prop} {ds : List Nat} {T : Bool × List (List Nat × List Nat)}
end
end Go.Proofs.YtmpncnphndafnacW.PrintLast
