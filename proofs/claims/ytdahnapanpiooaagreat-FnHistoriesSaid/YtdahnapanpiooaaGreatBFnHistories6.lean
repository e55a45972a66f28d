/- Go functions that the statement reaches: each printed as a Lean function, with a proof that the Go function comes to its answer; conditions: the bounds that each states. -/
import Derived.Test.YtdahnapanpiooaaGreatBFnHistories0
namespace Go.Proofs.YtdahnapanpiooaaGreat.PHis
open Go.RowKit Go.Proofs.YtdahnapanpiooaaGreatW.PrintWords Go.Proofs.YtdahnapanpiooaaGreatW.PrintLast Go.Proofs.YtdahnapanpiooaaGreatW.PrintMore Go.Proofs.Tryz Go.Proofs.YtdahnapanpiooaaGreatW.PrintWords.Kd
attribute [local go_sem] E3 E5 Fs Ft ES ET E4 E6
set_option linter.unusedVariables false
set_option linter.unusedSimpArgs false
def IT.f (l0:List Int):Option Bool:=some (decide ((l0.length:Int)>1048576))
set_option maxHeartbeats 8000000 in
set_option maxRecDepth 100000 in
theorem IT.c (A0:Option Addr) (c0:Nat) (l0:List Int) (r:Bool) (w:World) (A:Kd.C (Kd.int .u8) w A0 l0.length l0) (hc0:l0.length<=c0) (h:IT.f l0=some r) :
 Calls prog 26 #[.slice A0 l0.length c0] w fun e w'=>e=.returned (.bool r)/\Cx w w':=by
 have D:=aK A;have B:=aK hc0;clear hc0;have H:=h;unfold IT.f at H;obtain rfl:=sI H;go_enter func26,ntmps26;go_wp2;go_ret;exact ⟨vQ,dQ⟩
end Go.Proofs.YtdahnapanpiooaaGreat.PHis
