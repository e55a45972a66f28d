-- The print's words, shortened by a program of this session (wip/prune.py): what no text here uses is left out.
import Derived.Test.YtdahnapanpiooaaGreatWN
namespace Go.Proofs.YtdahnapanpiooaaGreatW.PrintWords
open Go.RowKit
namespace Kd
section
variable {α:Type} {d:Kd α} {W:World} {g n:Nat} {S ok:Nat→Prop} {A:Option Addr} {ad:Addr} {xs:List α}
end
end Kd
end Go.Proofs.YtdahnapanpiooaaGreatW.PrintWords
