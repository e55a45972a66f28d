import Derived.Test.YtdahnapanpiooaaGreatWInv
import Derived.Test.YtdahnapanpiooaaGreatWFootNe
namespace Go.Proofs.YtdahnapanpiooaaGreatW.PrintWords
open Go.RowKit
end Go.Proofs.YtdahnapanpiooaaGreatW.PrintWords
namespace Go.Proofs.YtdahnapanpiooaaGreatW.PrintLast
section
variable {ops:Array Oper} {a:Act} {o og:Oper} {g:Nat} {t:Tmp} {u:Bool}
end
end Go.Proofs.YtdahnapanpiooaaGreatW.PrintLast
