-- The print's words, shortened by a program of this session (wip/prune.py): what no text here uses is left out.
import Derived.Test.YtdahnapanpiooaaGreatWN
namespace Go.Proofs.YtdahnapanpiooaaGreatW.PrintWords
open Go.RowKit
namespace Kd
section
variable {α:Type} {d:Kd α} {e base n cap g:Nat} {ok ok' okp:Nat→Prop} {w w1 W:World} {v v1:Value} {xs ys:List α}
end
section
variable {P:Program} {ops:Array Oper} {rest:List Oper} {o:Oper} {a:Act} {Q:Exit→Act→World→Prop} {Kc:Act→World→Prop} {α:Type}
end
end Kd
end Go.Proofs.YtdahnapanpiooaaGreatW.PrintWords
