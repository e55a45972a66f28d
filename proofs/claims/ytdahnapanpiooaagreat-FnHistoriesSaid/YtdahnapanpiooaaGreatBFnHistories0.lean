/- Go functions that the statement reaches: each printed as a Lean function, with a proof that the Go function comes to its answer; conditions: the bounds that each states. -/
import Derived.Test.YtdahnapanpiooaaGreatProg
import Derived.Lib.SliceRun
import Derived.Below
import Derived.Deep.Draws
import Derived.Deep.AppendLies
import Derived.Maps.AppendAt
import Derived.OwnWalk
import Derived.Laws.BytesArg
import Derived.Laws.MakeOwn
import Derived.Laws.OwnMore
import Derived.Deep.OwnRows
import Derived.Tactics
import Derived.Lib.ConvBytes
import Derived.Laws.Slices
import Derived.WalkKit
import Derived.KernelRfl
import Derived.RowKit3
import Derived.Deep.LoopGhost
import Derived.Deep.QuietTactic
import Derived.BigQuiet
import Derived.WideLaws
import Derived.Deep.DeepCutAuto
import Derived.Deep.CutBlock
import Derived.Deep.RegionHeld3
import Derived.Laws.Rows
import Derived.Lib.AppendStr
import Derived.ArgAppend
import Derived.Laws.IdiomCopy
import Derived.OrdersHeld
import Derived.Laws.BitsLemmas
import Derived.RowKit
import Derived.Test.YtdahnapanpiooaaGreatWWords
import Derived.Test.YtdahnapanpiooaaGreatWLast
import Derived.Test.YtdahnapanpiooaaGreatWTab
import Derived.Test.YtdahnapanpiooaaGreatWFour
import Derived.Test.YtdahnapanpiooaaGreatWQPut
import Derived.Test.YtdahnapanpiooaaGreatWApart
import Derived.Test.YtdahnapanpiooaaGreatWArr
import Derived.Test.YtdahnapanpiooaaGreatWZeros
import Derived.Test.YtdahnapanpiooaaGreatWFoot
import Derived.Test.YtdahnapanpiooaaGreatWKept
import Derived.Test.YtdahnapanpiooaaGreatWShare
import Derived.Test.YtdahnapanpiooaaGreatWN
import Derived.Test.YtdahnapanpiooaaGreatWFootNe
import Derived.Test.YtdahnapanpiooaaGreatWAt
import Derived.Test.YtdahnapanpiooaaGreatWEqStruct
import Derived.Test.YtdahnapanpiooaaGreatWRepsOne
import Derived.Test.YtdahnapanpiooaaGreatWInv
import Derived.Test.YtdahnapanpiooaaGreatWInvWords
import Derived.Test.YtdahnapanpiooaaGreatWGuard
import Derived.Test.YtdahnapanpiooaaGreatWNEv
import Derived.Test.YtdahnapanpiooaaGreatWMore
namespace Go.Proofs.YtdahnapanpiooaaGreat.PHis
open Go.RowKit Go.Proofs.YtdahnapanpiooaaGreatW.PrintWords Go.Proofs.YtdahnapanpiooaaGreatW.PrintLast Go.Proofs.YtdahnapanpiooaaGreatW.PrintMore
attribute [local go_sem] E3 E5 Fs Ft ES ET E4 E6
set_option linter.unusedVariables false
set_option linter.unusedSimpArgs false
def Sq:Option Int->Value
 | none=>.nilIface
 | some c=>.iface 0 (.int .i64 c)
theorem CE:Sq none=.nilIface:=rfl
theorem CF (c:Int):Sq (some c)=.iface 0 (.int .i64 c):=rfl
theorem De:(Tryz.prog.info? 3).map (fun i=>(i.zero,i.size,i.bytes))=some (some (.int .i64 0),1,8):=by kernel_rfl
theorem It:(Tryz.prog.info? 23).map (fun i=>(i.zero,i.size,i.bytes))=some (some (.slice none 0 0),1,24):=by kernel_rfl
theorem SZ:(Tryz.prog.info? 73).map (fun i=>(i.zero,i.size,i.bytes))=some (some (.agg #[(.int .i64 0),(.int .i64 0)]),2,16):=by kernel_rfl
theorem RE:(Tryz.prog.info? 79).map (fun i=>(i.zero,i.size,i.bytes))=some (some (.agg #[(.int .i64 0),(.int .i64 0),(.int .i64 0),(.int .i64 0)]),4,32):=by kernel_rfl
theorem Ms:(Tryz.prog.info? 84).map (fun i=>(i.zero,i.size,i.bytes))=some (some (.agg #[(.int .i64 0),(.int .i64 0)]),2,16):=by kernel_rfl
theorem J2:(Tryz.prog.info? 130).map (fun i=>(i.zero,i.size,i.bytes))=some (some (.agg #[(.slice none 0 0),(.int .i64 0)]),2,32):=by kernel_rfl
structure Ai where
 f0:Int
 f1:Int
 f2:Int
 f3:Int
def Sv:Ai:=⟨(0:Int),(0:Int),(0:Int),(0:Int)⟩
def D0:Kd Ai:=Kd.Sr (Kd.pair (Kd.int .i64) (Kd.pair (Kd.int .i64) (Kd.pair (Kd.int .i64) (Kd.int .i64)))) (fun x:Ai=>(x.f0,x.f1,x.f2,x.f3))
theorem RM:Kd.Heap D0:=Kd.Oh _ (Kd.J1 (Kd.IQ .i64) (Kd.J1 (Kd.IQ .i64) (Kd.J1 (Kd.IQ .i64) (Kd.IQ .i64))))
theorem RN {w:World} {x:Ai} {cs:List Value} (h:D0.K w x cs):cs=[.int .i64 x.f0,.int .i64 x.f1,.int .i64 x.f2,.int .i64 x.f3]:=by
 obtain ⟨_,_,rfl,rfl,⟨_,_,rfl,rfl,⟨_,_,rfl,rfl,rfl⟩⟩⟩:=h
 exact rfl
theorem Np {w:World} {base:Nat} {ok:Nat->Prop} {x:Ai} {cs:List Value} (h:D0.M w base ok x cs):cs=[.int .i64 x.f0,.int .i64 x.f1,.int .i64 x.f2,.int .i64 x.f3]:=by
 obtain ⟨_,_,rfl,rfl,⟨_,_,rfl,rfl,⟨_,_,rfl,rfl,rfl⟩⟩⟩:=h
 exact rfl
theorem P1 (w:World) (base:Nat) (ok:Nat->Prop) (x:Ai) :D0.M w base ok x [.int .i64 x.f0,.int .i64 x.f1,.int .i64 x.f2,.int .i64 x.f3]:=⟨[.int .i64 x.f0],[.int .i64 x.f1,.int .i64 x.f2,.int .i64 x.f3],rfl,rfl,⟨[.int .i64 x.f1],[.int .i64 x.f2,.int .i64 x.f3],rfl,rfl,⟨[.int .i64 x.f2],[.int .i64 x.f3],rfl,rfl,rfl⟩⟩⟩
def AA (xs:List Ai) (i:Int):Ai:=xs.getD i.toNat Sv
theorem F0 {w:World} {A:Option Addr} {n:Nat} {xs:List Ai} (h:Kd.C D0 w A n xs) (i:Int) (h0:0<=i) (h1:i<n):∃ ad ,A=some ad/\w.cell? (ad.add (i.toNat*4))=some (.int .i64 (AA xs i).f0)/\w.cell? ⟨(ad.add (i.toNat*4)).block,(ad.add (i.toNat*4)).off+1,none⟩=some (.int .i64 (AA xs i).f1)/\w.cell? ⟨(ad.add (i.toNat*4)).block,(ad.add (i.toNat*4)).off+2,none⟩=some (.int .i64 (AA xs i).f2)/\w.cell? ⟨(ad.add (i.toNat*4)).block,(ad.add (i.toNat*4)).off+3,none⟩=some (.int .i64 (AA xs i).f3):=by
 obtain ⟨ad,c,e,_,hK,hc0⟩:=Kd.Lg h Sv i h0 h1
 have hc:∀ j u,c[j]?=some u->w.cell? (ad.add (i.toNat*4+j))=some u:=hc0
 obtain rfl:=RN hK
 exact ⟨ad,e,hc 0 _ rfl,by rw [<-G7 _ _ 1 (by omega)];exact hc 1 _ rfl,by rw [<-G7 _ _ 2 (by omega)];exact hc 2 _ rfl,by rw [<-G7 _ _ 3 (by omega)];exact hc 3 _ rfl⟩
structure CR where
 f0:Int
 f1:Int
def Sg:CR:=⟨(0:Int),(0:Int)⟩
def E9:Kd CR:=Kd.Sr (Kd.pair (Kd.int .i64) (Kd.int .i64)) (fun x:CR=>(x.f0,x.f1))
theorem Oj {w:World} {x:CR} {cs:List Value} (h:E9.K w x cs):cs=[.int .i64 x.f0,.int .i64 x.f1]:=by
 obtain ⟨_,_,rfl,rfl,rfl⟩:=h
 exact rfl
theorem IS {w:World} {base:Nat} {ok:Nat->Prop} {x:CR} {cs:List Value} (h:E9.M w base ok x cs):cs=[.int .i64 x.f0,.int .i64 x.f1]:=by
 obtain ⟨_,_,rfl,rfl,rfl⟩:=h
 exact rfl
theorem Gb (w:World) (base:Nat) (ok:Nat->Prop) (x:CR) :E9.M w base ok x [.int .i64 x.f0,.int .i64 x.f1]:=⟨[.int .i64 x.f0],[.int .i64 x.f1],rfl,rfl,rfl⟩
def AR (xs:List CR) (i:Int):CR:=xs.getD i.toNat Sg
theorem LF {w:World} {A:Option Addr} {n:Nat} {xs:List CR} (h:Kd.C E9 w A n xs) (i:Int) (h0:0<=i) (h1:i<n):∃ ad ,A=some ad/\w.cell? (ad.add (i.toNat*2))=some (.int .i64 (AR xs i).f0)/\w.cell? ⟨(ad.add (i.toNat*2)).block,(ad.add (i.toNat*2)).off+1,none⟩=some (.int .i64 (AR xs i).f1):=by
 obtain ⟨ad,c,e,_,hK,hc0⟩:=Kd.Lg h Sg i h0 h1
 have hc:∀ j u,c[j]?=some u->w.cell? (ad.add (i.toNat*2+j))=some u:=hc0
 obtain rfl:=Oj hK
 exact ⟨ad,e,hc 0 _ rfl,by rw [<-G7 _ _ 1 (by omega)];exact hc 1 _ rfl⟩
structure Gh where
 f0:Int
 f1:Int
def Sw:Gh:=⟨(0:Int),(0:Int)⟩
def OR:Kd Gh:=Kd.Sr (Kd.pair (Kd.int .i64) (Kd.int .i64)) (fun x:Gh=>(x.f0,x.f1))
theorem RL {w:World} {x:Gh} {cs:List Value} (h:OR.K w x cs):cs=[.int .i64 x.f0,.int .i64 x.f1]:=by
 obtain ⟨_,_,rfl,rfl,rfl⟩:=h
 exact rfl
theorem No {w:World} {base:Nat} {ok:Nat->Prop} {x:Gh} {cs:List Value} (h:OR.M w base ok x cs):cs=[.int .i64 x.f0,.int .i64 x.f1]:=by
 obtain ⟨_,_,rfl,rfl,rfl⟩:=h
 exact rfl
theorem P0 (w:World) (base:Nat) (ok:Nat->Prop) (x:Gh) :OR.M w base ok x [.int .i64 x.f0,.int .i64 x.f1]:=⟨[.int .i64 x.f0],[.int .i64 x.f1],rfl,rfl,rfl⟩
def Es (xs:List Gh) (i:Int):Gh:=xs.getD i.toNat Sw
theorem SU {w:World} {A:Option Addr} {n:Nat} {xs:List Gh} (h:Kd.C OR w A n xs) (i:Int) (h0:0<=i) (h1:i<n):∃ ad ,A=some ad/\w.cell? (ad.add (i.toNat*2))=some (.int .i64 (Es xs i).f0)/\w.cell? ⟨(ad.add (i.toNat*2)).block,(ad.add (i.toNat*2)).off+1,none⟩=some (.int .i64 (Es xs i).f1):=by
 obtain ⟨ad,c,e,_,hK,hc0⟩:=Kd.Lg h Sw i h0 h1
 have hc:∀ j u,c[j]?=some u->w.cell? (ad.add (i.toNat*2+j))=some u:=hc0
 obtain rfl:=RL hK
 exact ⟨ad,e,hc 0 _ rfl,by rw [<-G7 _ _ 1 (by omega)];exact hc 1 _ rfl⟩
def At (xs:List (List Int)) (i:Int):(List Int):=xs.getD i.toNat ([]:List Int)
theorem GM {w:World} {A:Option Addr} {n:Nat} {xs:List (List Int)} (h:Kd.C (Kd.slice 3 (Kd.int .i64)) w A n xs) (i:Int) (h0:0<=i) (h1:i<n):∃ ad A0 c0,A=some ad/\w.cell? (ad.add i.toNat)=some (.slice A0 (At xs i).length c0)/\(At xs i).length<=c0/\(Kd.int .i64).C w A0 (At xs i).length (At xs i):=by
 obtain ⟨ad,c,e,_,hK,hc0⟩:=Kd.Lg h ([]:List Int) i h0 h1
 have hc:∀ j u,c[j]?=some u->w.cell? (ad.add (i.toNat*1+j))=some u:=hc0
 obtain ⟨A0,c0,rfl,l0,g0⟩:=hK
 exact ⟨ad,A0,c0,e,by have hq:=hc 0 _ rfl;rwa [Nat.mul_one,Nat.add_zero] at hq,l0,g0⟩
structure Ag where
 f0:(List Int)
 f1:Int
def JS:Ag:=⟨([]:List Int),(0:Int)⟩
def Cu:Kd Ag:=Kd.Sr (Kd.pair (Kd.slice 3 (Kd.int .i64)) (Kd.int .i64)) (fun x:Ag=>(x.f0,x.f1))
theorem DM:Kd.Heap Cu:=Kd.Oh _ (Kd.J1 (Kd.PP 3 (Kd.IQ .i64)) (Kd.IQ .i64))
theorem LO {w:World} {x:Ag} {cs:List Value} (h:Cu.K w x cs):∃ A0 c0,cs=[.slice A0 x.f0.length c0,.int .i64 x.f1]/\x.f0.length<=c0/\(Kd.int .i64).C w A0 x.f0.length x.f0:=by
 obtain ⟨_,_,rfl,⟨A0,c0,rfl,l0,g0⟩,rfl⟩:=h
 exact ⟨A0,c0,rfl,l0,g0⟩
theorem Rw (w:World) (x:Ag) {A0:Option Addr} {c0:Nat} (l0:x.f0.length<=c0) (g0:(Kd.int .i64).C w A0 x.f0.length x.f0):Cu.K w x [.slice A0 x.f0.length c0,.int .i64 x.f1]:=⟨[.slice A0 x.f0.length c0],[.int .i64 x.f1],rfl,⟨A0,c0,rfl,l0,g0⟩,rfl⟩
theorem RK (w:World) (base:Nat) (ok:Nat->Prop) (x:Ag) {v0:Value} (g0:(Kd.int .i64).R 3 w base ok v0 x.f0):Cu.M w base ok x [v0,.int .i64 x.f1]:=⟨[v0],[.int .i64 x.f1],rfl,⟨v0,rfl,g0⟩,rfl⟩
theorem DR {W:World} {ok:Nat->Prop} {x:Ag} {cs:List Value} (h:Kd.FK Cu W ok x cs):∃ A0 c0,cs=[.slice A0 x.f0.length c0,.int .i64 x.f1]/\x.f0.length<=c0/\Kd.F (Kd.int .i64) W ok A0 x.f0.length x.f0:=by
 obtain ⟨A0,c0,rfl,l0,_⟩:=LO (Kd.GN h)
 exact ⟨A0,c0,rfl,l0,(fun W' hW=>by obtain ⟨A0_,c0_,he,l0_,g0_⟩:=LO (h W' hW);injection (Option.some.inj (show some (Value.slice A0 x.f0.length c0)=some (Value.slice A0_ x.f0.length c0_) from congrArg (fun l=>l[0]?) he)) with ha_ _ _;rw [ha_];exact g0_)⟩
theorem Jf (W:World) (ok:Nat->Prop) (x:Ag) {A0:Option Addr} {c0:Nat} (l0:x.f0.length<=c0) (g0:Kd.F (Kd.int .i64) W ok A0 x.f0.length x.f0):Kd.FK Cu W ok x [.slice A0 x.f0.length c0,.int .i64 x.f1]:=fun W2 hW=>Rw W2 x l0 (g0 W2 hW)
def AE (xs:List Ag) (i:Int):Ag:=xs.getD i.toNat JS
theorem Cs {w:World} {A:Option Addr} {n:Nat} {xs:List Ag} (h:Kd.C Cu w A n xs) (i:Int) (h0:0<=i) (h1:i<n):∃ ad A0 c0,A=some ad/\w.cell? (ad.add (i.toNat*2))=some (.slice A0 (AE xs i).f0.length c0)/\w.cell? ⟨(ad.add (i.toNat*2)).block,(ad.add (i.toNat*2)).off+1,none⟩=some (.int .i64 (AE xs i).f1)/\(AE xs i).f0.length<=c0/\(Kd.int .i64).C w A0 (AE xs i).f0.length (AE xs i).f0:=by
 obtain ⟨ad,c,e,_,hK,hc0⟩:=Kd.Lg h JS i h0 h1
 have hc:∀ j u,c[j]?=some u->w.cell? (ad.add (i.toNat*2+j))=some u:=hc0
 obtain ⟨A0,c0,rfl,l0,g0⟩:=LO hK
 exact ⟨ad,A0,c0,e,hc 0 _ rfl,by rw [<-G7 _ _ 1 (by omega)];exact hc 1 _ rfl,l0,g0⟩
theorem bQ {n:Nat} {w W:World} (h:Below n w W:=by repeat (first|(with_reducible first|exact HB.o|apply AP|apply AJ|apply AQ|refine AU ?_ (AD.o (by assumption)))|exact HB.o)):Below n w W:=h
theorem gQ {w W:World} {g:Nat} (hg:g=W.heap.size) (h:Below w.heap.size w W:=by repeat (first|(with_reducible first|exact HB.o|apply AP|apply AJ|apply AQ|refine AU ?_ (AD.o (by assumption)))|exact HB.o)):w.heap.size<=g:=by rw [hg];exact AF h
theorem uH {w W W1:World} (hb:Below W.heap.size W W1) (h:Below w.heap.size w W:=by repeat (first|(with_reducible first|exact HB.o|apply AP|apply AJ|apply AQ|refine AU ?_ (AD.o (by assumption)))|exact HB.o)):AD (Below w.heap.size w W1):=⟨BM h hb⟩
section
variable {α:Type} {d:Kd α} {e base n j:Nat} {ok:Nat->Prop} {v:Value} {xs:List α} {A:Option Addr} {W0 W W1:World} {g:Nat} {o:Obj}
theorem sR (h:d.R e W0 base ok v xs) (hb:Below W0.heap.size W0 W:=by repeat (first|(with_reducible first|exact Below.refl _ _|apply AP|apply AJ|apply AQ)|exact Below.refl _ _)):d.R e W base ok v xs:=Kd.B9 h hb
theorem sS (h:Kd.S d e W0 base ok v xs) (hb:Below W0.heap.size W0 W:=by repeat (first|(with_reducible first|exact Below.refl _ _|apply AP|apply AJ|apply AQ)|exact Below.refl _ _)):Kd.S d e W base ok v xs:=Kd.FU h hb
theorem sC (h:d.C W0 A n xs) (hb:Below W0.heap.size W0 W:=by repeat (first|(with_reducible first|exact Below.refl _ _|apply AP|apply AJ|apply AQ)|exact Below.refl _ _)):d.C W A n xs:=Kd.CP h hb
theorem rR (h:AD (d.R e W0 base ok v xs)) (hb:Below W0.heap.size W0 W:=by repeat (first|(with_reducible first|exact Below.refl _ _|apply AP|apply AJ|apply AQ)|exact Below.refl _ _)):d.R e W base ok v xs:=Kd.B9 h.o hb
theorem rS (h:AD (Kd.S d e W0 base ok v xs)) (hb:Below W0.heap.size W0 W:=by repeat (first|(with_reducible first|exact Below.refl _ _|apply AP|apply AJ|apply AQ)|exact Below.refl _ _)):Kd.S d e W base ok v xs:=Kd.FU h.o hb
theorem rC (h:AD (d.C W0 A n xs)) (hb:Below W0.heap.size W0 W:=by repeat (first|(with_reducible first|exact Below.refl _ _|apply AP|apply AJ|apply AQ)|exact Below.refl _ _)):d.C W A n xs:=Kd.CP h.o hb
theorem rB (h:AD (W0.heap[g]?=some o)) (hb:Below W0.heap.size W0 W:=by repeat (first|(with_reducible first|exact Below.refl _ _|apply AP|apply AJ|apply AQ)|exact Below.refl _ _)):W.heap[g]?=some o:=F5 h.o hb
theorem uR (h:AD (d.R e W0 base ok v xs)) (hb:Below W.heap.size W W1) (hm:Below W0.heap.size W0 W:=by repeat (first|(with_reducible first|exact Below.refl _ _|apply AP|apply AJ|apply AQ)|exact Below.refl _ _)):AD (d.R e W1 base ok v xs):=⟨Kd.B9 (Kd.B9 h.o hm) hb⟩
theorem uS (h:AD (Kd.S d e W0 base ok v xs)) (hb:Below W.heap.size W W1) (hm:Below W0.heap.size W0 W:=by repeat (first|(with_reducible first|exact Below.refl _ _|apply AP|apply AJ|apply AQ)|exact Below.refl _ _)):AD (Kd.S d e W1 base ok v xs):=⟨Kd.FU (Kd.FU h.o hm) hb⟩
theorem uC (h:AD (d.C W0 A n xs)) (hb:Below W.heap.size W W1) (hm:Below W0.heap.size W0 W:=by repeat (first|(with_reducible first|exact Below.refl _ _|apply AP|apply AJ|apply AQ)|exact Below.refl _ _)):AD (d.C W1 A n xs):=⟨Kd.CP (Kd.CP h.o hm) hb⟩
theorem uB (h:AD (W0.heap[g]?=some o)) (hb:Below W.heap.size W W1) (hm:Below W0.heap.size W0 W:=by repeat (first|(with_reducible first|exact Below.refl _ _|apply AP|apply AJ|apply AQ)|exact Below.refl _ _)):AD (W1.heap[g]?=some o):=⟨F5 (F5 h.o hm) hb⟩
theorem sV (h:Kd.V d e W0 base ok v xs) (hb:Below W0.heap.size W0 W:=by repeat (first|(with_reducible first|exact Below.refl _ _|apply AP|apply AJ|apply AQ)|exact Below.refl _ _)):Kd.V d e W base ok v xs:=Kd.Ef h hb
theorem rV (h:AD (Kd.V d e W0 base ok v xs)) (hb:Below W0.heap.size W0 W:=by repeat (first|(with_reducible first|exact Below.refl _ _|apply AP|apply AJ|apply AQ)|exact Below.refl _ _)):Kd.V d e W base ok v xs:=Kd.Ef h.o hb
theorem uV (h:AD (Kd.V d e W0 base ok v xs)) (hb:Below W.heap.size W W1) (hm:Below W0.heap.size W0 W:=by repeat (first|(with_reducible first|exact Below.refl _ _|apply AP|apply AJ|apply AQ)|exact Below.refl _ _)):AD (Kd.V d e W1 base ok v xs):=⟨Kd.Ef (Kd.Ef h.o hm) hb⟩
theorem sN (h:Kd.N d e W0 base ok v xs) (hb:Below W0.heap.size W0 W:=by repeat (first|(with_reducible first|exact Below.refl _ _|apply AP|apply AJ|apply AQ)|exact Below.refl _ _)):Kd.N d e W base ok v xs:=Kd.Gz h hb
theorem rN (h:AD (Kd.N d e W0 base ok v xs)) (hb:Below W0.heap.size W0 W:=by repeat (first|(with_reducible first|exact Below.refl _ _|apply AP|apply AJ|apply AQ)|exact Below.refl _ _)):Kd.N d e W base ok v xs:=Kd.Gz h.o hb
theorem uN (h:AD (Kd.N d e W0 base ok v xs)) (hb:Below W.heap.size W W1) (hm:Below W0.heap.size W0 W:=by repeat (first|(with_reducible first|exact Below.refl _ _|apply AP|apply AJ|apply AQ)|exact Below.refl _ _)):AD (Kd.N d e W1 base ok v xs):=⟨Kd.Gz (Kd.Gz h.o hm) hb⟩
theorem zC {t:TypeId} {cs:Array Value} (BK:AD (W.heap[g]?=some (.cells cs t (0,0)))) (j:Nat) (u:Value) (h:cs[j]?=some u:=by exact rfl):W.cell? ⟨g,j,none⟩=some u:=(EW BK.o j).trans h
end
theorem cQ {w w1:World} (HB:AD (Below w.heap.size w w1)) {p:Addr} {v:Value} (h:w.cell? p=some v):w1.cell? p=some v:=(HB.o.cell (World.block_lt_of_cell? w _ h)).trans h
theorem eQ {α:Type} {a b:α} (h:a=b:=by first|rfl|(simp [CE,CF] <;> rfl)|(simp [*,CE,CF] <;> rfl)):a=b:=h
theorem vQ {α:Type} {a b:α} (h:a=b:=by first|rfl|(simp;done)|(simp [*];done)):a=b:=h
theorem oD {p:Prop} [Decidable p] (h:decide p=true:=by first|(with_reducible assumption)|assumption):p:=of_decide_eq_true h
section
variable {α β:Type} {r:β}
theorem nQ {p:Prop} [Decidable p] {a:Option β} (h:(if p then a else none)=some r):decide p=true/\a=some r:=by
 by_cases hp:p
 . rw [if_pos hp] at h;exact ⟨decide_eq_true hp,h⟩
 . rw [if_neg hp] at h;cases h
theorem nP {p:Prop} [Decidable p] {a:Option β} (h:(if p then a else none)=some r):p/\a=some r:=by
 by_cases hp:p
 . rw [if_pos hp] at h;exact ⟨hp,h⟩
 . rw [if_neg hp] at h;cases h
theorem nN {p:Prop} [Decidable p] {a:Option β} (h:(if p then none else a)=some r):¬ p/\a=some r:=by
 by_cases hp:p
 . rw [if_pos hp] at h;cases h
 . rw [if_neg hp] at h;exact ⟨hp,h⟩
theorem sQ {x:Option α} {f:α->Option β} (h:x.bind f=some r):∃ a,AD (x=some a)/\f a=some r:=by
 obtain ⟨a,h1,h2⟩:=Option.bind_eq_some_iff.mp h
 exact ⟨a,⟨h1⟩,h2⟩
theorem tT {a b:Option β} {r:Option β} (h:(if true=true then a else b)=r):a=r:=by rwa [if_pos rfl] at h
theorem tF {a b:Option β} {r:Option β} (h:(if false=true then a else b)=r):b=r:=by rwa [if_neg (show ¬ (false=true) by decide)] at h
end
theorem lQ {α:Type} (l:List α) (i:Nat) (a:α):l.toArray.setIfInBounds i a=(l.set i a).toArray:=by simp
theorem lZ {α:Type} (l:List α) (a b:α):(a::l).set 0 b=b::l:=rfl
theorem lS {α:Type} (l:List α) (a b:α) (n:Nat):(a::l).set (n+1) b=a::l.set n b:=rfl
section
variable {P:Program} {ops:Array Oper} {Q:Exit->Act->World->Prop} {md:Region.Mode} {S:World->Prop} {ds:List Nat} {T:Bool×List (List Nat×List Nat)} {oi:Oper} {fuel:Nat} {l:Array Bool} {a:Act} {w:World}
end
section
variable {P:Program} {ops:Array Oper} {Q:Exit->Act->World->Prop} {rest:List Oper} {oi:Oper} {a:Act} {w:World} {f:FuncId} {fn:Func} {ag:Array Operand} {ts:Array TypeId}
theorem gL (N:Option Tmp) (hf:P.funcs[f]?=some fn) (args:Array Value) (h:Calls P f args w fun e w'=>∃ v,e=.returned v/\wpList P ops Q rest (a.put N v) w') (hd:oi.dst=N:=by exact rfl) (hg:oi.guard=none:=by exact rfl) (hname:(fn.name == "runtime.NumGoroutine")=false:=by kernel_rfl) (hb:fn.body.isSome=true:=by exact rfl)
 (hop:oi.op=.call { callee:=.value (.func f),args:=ag,argTypes:=ts }:=by exact rfl) (hargs:ag.map a.eval=args:=by (try simp only [List.map_toArray,List.map_cons,List.map_nil]);first|done|rfl|(simp only [List.length_drop,List.length_take];rfl)):wpList P ops Q (oi::rest) a w:=PO N hd hg hf hname hb args hop hargs h
theorem gO {N:Option Tmp} {K:Act->World->Prop} (hf:P.funcs[f]?=some fn) (args:Array Value) (h:Calls P f args w fun e w'=>∃ v,e=.returned v/\K (a.put N v) w') (hname:(fn.name == "runtime.NumGoroutine")=false:=by kernel_rfl) (hb:fn.body.isSome=true:=by exact rfl)
 (hw:Region.wanted oi (yielded ops a.tmps)=true:=by rfl) (hN:oi.dst=N:=by exact rfl) (hop:oi.op=.call { callee:=.value (.func f),args:=ag,argTypes:=ts }:=by exact rfl)
 (hargs:ag.map a.eval=args:=by (try simp only [List.map_toArray,List.map_cons,List.map_nil]);first|done|rfl|(simp only [List.length_drop,List.length_take];rfl)):if Region.wanted oi (yielded ops a.tmps)=true then Oper.wp P oi a w K Q else K (a.put N undef) w:=Og hf hname hb args hw hN hop hargs h
theorem xE (N:Tmp) {cs:Array Value} {t:TypeId} (h:∀ g,g=w.heap.size->∀ w1,w1.heap[g]?=some (.cells cs t (0,0))->Below w.heap.size w w1->wpList P ops Q rest (a.put oi.dst (.pointer (some ⟨g,0,none⟩))) w1) (hd:oi.dst=some N:=by exact rfl) (hg:oi.guard=none:=by exact rfl)
 (hr:(execOp a.eval oi).run P w=.ok (.value (.pointer (some ⟨w.heap.size,0,none⟩))) (w.alloc (.cells cs t (0,0))):=by first|(go_simp;done)|(go_simp;rfl)):wpList P ops Q (oi::rest) a w:=QB hg hd hr h
theorem xS (t:TypeId) (p:Tmp) {v:Operand} {w1:World} (h:∀ w',w'=w1->wpList P ops Q rest a w') (ho:oi.op=.store t (.tmp p) v:=by exact rfl) (hg:oi.guard=none:=by exact rfl) (hn:oi.dst=none:=by exact rfl) (hr:(execOp a.eval oi).run P w=.ok .skip w1:=by first|(go_simp;done)|(go_simp;rfl)) :
 wpList P ops Q (oi::rest) a w:=L5 hg ho hn hr h
end
section
variable {α:Type} {d:Kd α} {e:Nat} {ok:Nat->Prop} {v:Value} {xs:List α} {w W W1:World}
end
theorem B6 {W W1:World} {g:Nat} {row:Option Nat} (h:AH W W1 g row:=by repeat (first|(with_reducible first|exact HK.o|apply AH.Fk|apply Bu|apply Bo|apply keep_alloc)|exact HK.o)):AH W W1 g row:=h
theorem Jo {W W1:World} {g:Nat} {row:Option Nat} (h:AH W W1 g row:=by repeat (first|(with_reducible first|exact HK.o|apply AH.Fk|apply Bu|apply Bo|apply keep_alloc|refine CI ?_ GW1083.o _|refine CI ?_ GW1097.o _)|exact HK.o)):AH W W1 g row:=h
theorem H9 {W W1:World} {g:Nat} {row:Option Nat} (h:AH W W1 g row:=by repeat (first|(with_reducible first|exact HK.o|apply AH.Fk|apply Bu|apply Bo|apply keep_alloc|refine CI ?_ GW1032.o _|refine CI ?_ GW1048.o _)|exact HK.o)):AH W W1 g row:=h
theorem IZ {W W1:World} {g:Nat} {row:Option Nat} (h:AH W W1 g row:=by repeat (first|(with_reducible first|exact HK.o|apply AH.Fk|apply Bu|apply Bo|apply keep_alloc|refine CI ?_ GW984.o _)|exact HK.o)):AH W W1 g row:=h
theorem JG {W W1:World} {g:Nat} {row:Option Nat} (h:AH W W1 g row:=by repeat (first|(with_reducible first|exact HK.o|apply AH.Fk|apply Bu|apply Bo|apply keep_alloc|refine CI ?_ GW984.o _|refine CI ?_ GW1004.o _)|exact HK.o)):AH W W1 g row:=h
theorem Kw {W W1:World} {g:Nat} {row:Option Nat} (h:AH W W1 g row:=by repeat (first|(with_reducible first|exact HK.o|apply AH.Fk|apply Bu|apply Bo|apply keep_alloc|refine CI ?_ GW664.o _|refine CI ?_ GW674.o _)|exact HK.o)):AH W W1 g row:=h
theorem Nx {W W1:World} {g:Nat} {row:Option Nat} (h:AH W W1 g row:=by repeat (first|(with_reducible first|exact HK.o|apply AH.Fk|apply Bu|apply Bo|apply keep_alloc|refine CI ?_ GW1032.o _)|exact HK.o)):AH W W1 g row:=h
theorem Ny {W W1:World} {g:Nat} {row:Option Nat} (h:AH W W1 g row:=by repeat (first|(with_reducible first|exact HK.o|apply AH.Fk|apply Bu|apply Bo|apply keep_alloc|refine CI ?_ GW1083.o _)|exact HK.o)):AH W W1 g row:=h
theorem gC {P:Program} {ops:Array Oper} {Q:Exit->Act->World->Prop} {o:Oper} {rest:List Oper} {a:Act} {W:World} (f:FuncId) {as_:Array Operand} {ts:Array TypeId} (_ho:o.op=.call { callee:=.value (.func f),args:=as_,argTypes:=ts }) (h:wpList P ops Q (o::rest) a W):wpList P ops Q (o::rest) a W:=h
theorem aK {p:Prop} (h:p):AD p:=⟨h⟩
section
variable {P:Program} {ops:Array Oper} {Q:Exit->Act->World->Prop} {rest:List Oper} {oi:Oper} {a:Act} {w:World} {f:FuncId} {fn:Func} {ag:Array Operand} {ts:Array TypeId} {args:Array Value} {F:Ending->World->Prop}
theorem aL (N:Tmp) (hf:P.funcs[f]?=some fn) (hc:Calls P f args w F) (h:∀ e w',F e w'->∃ v,e=.returned v/\wpList P ops Q rest (a.put (some N) v) w') (hd:oi.dst=some N:=by exact rfl) (hg:oi.guard=none:=by exact rfl) (hname:(fn.name == "runtime.NumGoroutine")=false:=by kernel_rfl) (hb:fn.body.isSome=true:=by exact rfl)
 (hop:oi.op=.call { callee:=.value (.func f),args:=ag,argTypes:=ts }:=by exact rfl) (hargs:ag.map a.eval=args:=by (try simp only [List.map_toArray,List.map_cons,List.map_nil]);first|done|rfl|(simp only [List.length_drop,List.length_take];rfl)):wpList P ops Q (oi::rest) a w:=PO (some N) hd hg hf hname hb args hop hargs (hc.mono h)
theorem aO {N:Option Tmp} {K:Act->World->Prop} (hf:P.funcs[f]?=some fn) (hc:Calls P f args w F) (h:∀ e w',F e w'->∃ v,e=.returned v/\K (a.put N v) w') (hname:(fn.name == "runtime.NumGoroutine")=false:=by kernel_rfl) (hb:fn.body.isSome=true:=by exact rfl)
 (hw:Region.wanted oi (yielded ops a.tmps)=true:=by rfl) (hN:oi.dst=N:=by exact rfl) (hop:oi.op=.call { callee:=.value (.func f),args:=ag,argTypes:=ts }:=by exact rfl)
 (hargs:ag.map a.eval=args:=by (try simp only [List.map_toArray,List.map_cons,List.map_nil]);first|done|rfl|(simp only [List.length_drop,List.length_take];rfl)):if Region.wanted oi (yielded ops a.tmps)=true then Oper.wp P oi a w K Q else K (a.put N undef) w:=Og hf hname hb args hw hN hop hargs (hc.mono h)
variable {md:Region.Mode} {S:World->Prop} {ds:List Nat} {fuel:Nat} {l:Array Bool}
theorem oK {N:Tmp} {v:Value} {a2:Act} {K:Act->World->Prop} (hK:Shut (∀ a' w',S w'->(S w'->BE P md ops Q S ds fuel l a' w')->K a' w')) (hS:S w) (h:S w->BE P md ops Q S ds fuel l a2 w) (ha:a.put (some N) v=a2:=by simp only [Act.put,lQ,lZ,lS,Ae,Aj];rfl):K (a.put (some N) v) w:=hK.out _ _ hS (fun q=>ha ▸ h q)
end
section
variable {α:Type} {d:Kd α} {e base n j:Nat} {ok:Nat->Prop} {v:Value} {xs:List α} {A:Option Addr} {w W:World} {g g':Nat} {o:Obj}
theorem cA (h:AD (d.C w A n xs)) (hb:Below w.heap.size w W:=by repeat (first|(with_reducible first|exact HB.o|apply AP|apply AJ|apply AQ|refine AU ?_ (AD.o (by assumption)))|exact HB.o)):d.C W A n xs:=Kd.CP h.o hb
theorem nB (hg:g'=W.heap.size) (h:W.heap[g]?=some o):AD (g≠g'):=⟨by rw [hg];exact Nat.ne_of_lt (ID h)⟩
theorem mB (hg:g'=W.heap.size) (h:W.heap[g]?=some o):AD (g'≠g):=⟨by rw [hg];exact Nat.ne_of_gt (ID h)⟩
variable {a0 a1 a2 a3 b0 b1 b2 b3:Value} {t:TypeId} {z:Nat×Nat} {v0 v1 v2 v3:Value}
theorem GL (BK:AD (W.heap[g]?=some (.cells #[a0,a1,a2,a3] t (0,0)))):((((W.setCell ⟨g,0,none⟩ b0).setCell ⟨g,1,none⟩ b1).setCell ⟨g,2,none⟩ b2).setCell ⟨g,3,none⟩ b3).heap[g]?=some (.cells #[b0,b1,b2,b3] t (0,0)):=by
 refine Ak (cs:=#[b0,b1,b2,a3]) ?_ 3 _ rfl;refine Ak (cs:=#[b0,b1,a2,a3]) ?_ 2 _ rfl;refine Ak (cs:=#[b0,a1,a2,a3]) ?_ 1 _ rfl;refine Ak (cs:=#[a0,a1,a2,a3]) ?_ 0 _ rfl;exact BK.o
theorem QW (BK:AD (W.heap[g]?=some (.cells #[a0,a1] t (0,0)))):((W.setCell ⟨g,0,none⟩ b0).setCell ⟨g,1,none⟩ b1).heap[g]?=some (.cells #[b0,b1] t (0,0)):=by
 refine Ak (cs:=#[b0,a1]) ?_ 1 _ rfl;refine Ak (cs:=#[a0,a1]) ?_ 0 _ rfl;exact BK.o
theorem KB {cs:Array Value} {i0 i1 i2 i3:Nat} (hn:AD (g≠g')) (BK:AD (W.heap[g]?=some (.cells cs t (0,0)))):((((W.setCell ⟨g',i0,none⟩ b0).setCell ⟨g',i1,none⟩ b1).setCell ⟨g',i2,none⟩ b2).setCell ⟨g',i3,none⟩ b3).heap[g]?=some (.cells cs t (0,0)):=by
 refine Ax ?_ hn.o _;refine Ax ?_ hn.o _;refine Ax ?_ hn.o _;refine Ax ?_ hn.o _;exact BK.o
theorem S9 {cs:Array Value} {i0 i1:Nat} (hn:AD (g≠g')) (BK:AD (W.heap[g]?=some (.cells cs t (0,0)))):((W.setCell ⟨g',i0,none⟩ b0).setCell ⟨g',i1,none⟩ b1).heap[g]?=some (.cells cs t (0,0)):=by
 refine Ax ?_ hn.o _;refine Ax ?_ hn.o _;exact BK.o
theorem bB {w1:World} (hb:Below W.heap.size W w1) (h:W.heap[g]?=some o):w1.heap[g]?=some o:=F5 h hb
theorem bG {w1:World} {row:Option Nat} (hg:W.grownBy w1 row) (h:W.heap[g]?=some o) (hne:some g≠row):w1.heap[g]?=some o:=CM h hg hne
theorem fR (g:Nat) (h:d.R e W base (fun k=>ok k/\k≠g) v xs):d.R e ((((W.setCell ⟨g,0,none⟩ b0).setCell ⟨g,1,none⟩ b1).setCell ⟨g,2,none⟩ b2).setCell ⟨g,3,none⟩ b3) base (fun k=>ok k/\k≠g) v xs:=
 Kd.C3 (p:=⟨g,3,none⟩) (Kd.C3 (p:=⟨g,2,none⟩) (Kd.C3 (p:=⟨g,1,none⟩) (Kd.C3 (p:=⟨g,0,none⟩) h (fun _ hk=>hk.2) b0) (fun _ hk=>hk.2) b1) (fun _ hk=>hk.2) b2) (fun _ hk=>hk.2) b3
theorem fS (g:Nat) (h:Kd.S d e W base (fun k=>ok k/\k≠g) v xs):Kd.S d e ((((W.setCell ⟨g,0,none⟩ b0).setCell ⟨g,1,none⟩ b1).setCell ⟨g,2,none⟩ b2).setCell ⟨g,3,none⟩ b3) base (fun k=>ok k/\k≠g) v xs:=
 Kd.Nd (p:=⟨g,3,none⟩) (Kd.Nd (p:=⟨g,2,none⟩) (Kd.Nd (p:=⟨g,1,none⟩) (Kd.Nd (p:=⟨g,0,none⟩) h (fun _ hk=>hk.2) b0) (fun _ hk=>hk.2) b1) (fun _ hk=>hk.2) b2) (fun _ hk=>hk.2) b3
theorem gR (g:Nat) (h:d.R e W base (fun k=>ok k/\k≠g) v xs):d.R e ((W.setCell ⟨g,0,none⟩ b0).setCell ⟨g,1,none⟩ b1) base (fun k=>ok k/\k≠g) v xs:=Kd.C3 (p:=⟨g,1,none⟩) (Kd.C3 (p:=⟨g,0,none⟩) h (fun _ hk=>hk.2) b0) (fun _ hk=>hk.2) b1
theorem gS (g:Nat) (h:Kd.S d e W base (fun k=>ok k/\k≠g) v xs):Kd.S d e ((W.setCell ⟨g,0,none⟩ b0).setCell ⟨g,1,none⟩ b1) base (fun k=>ok k/\k≠g) v xs:=Kd.Nd (p:=⟨g,1,none⟩) (Kd.Nd (p:=⟨g,0,none⟩) h (fun _ hk=>hk.2) b0) (fun _ hk=>hk.2) b1
theorem gV (g:Nat) (h:Kd.V d e W base (fun k=>ok k/\k≠g) v xs):Kd.V d e ((W.setCell ⟨g,0,none⟩ b0).setCell ⟨g,1,none⟩ b1) base (fun k=>ok k/\k≠g) v xs:=Kd.R7 (p:=⟨g,1,none⟩) (Kd.R7 (p:=⟨g,0,none⟩) h (fun _ hk=>hk.2) b0) (fun _ hk=>hk.2) b1
theorem Bi (BK:AD (W.heap[g]?=some (.cells #[a0,a1,a2,a3] t (0,0)))):W.cell? ⟨g,0,none⟩=some a0/\W.cell? ⟨g,1,none⟩=some a1/\W.cell? ⟨g,2,none⟩=some a2/\W.cell? ⟨g,3,none⟩=some a3:=⟨zC BK 0 _,zC BK 1 _,zC BK 2 _,zC BK 3 _⟩
theorem I9 (BK:AD (W.heap[g]?=some (.cells #[a0,a1] t (0,0)))):W.cell? ⟨g,0,none⟩=some a0/\W.cell? ⟨g,1,none⟩=some a1:=⟨zC BK 0 _,zC BK 1 _⟩
theorem DP {cs:Array Value} (BK:AD (W.heap[g]?=some (.cells cs t (0,0)))):W.frozen? ⟨g,0,none⟩=false/\W.frozen? ⟨g,1,none⟩=false/\W.frozen? ⟨g,2,none⟩=false/\W.frozen? ⟨g,3,none⟩=false:=⟨BB BK.o 0,BB BK.o 1,BB BK.o 2,BB BK.o 3⟩
theorem MP {cs:Array Value} (BK:AD (W.heap[g]?=some (.cells cs t (0,0)))):W.frozen? ⟨g,0,none⟩=false/\W.frozen? ⟨g,1,none⟩=false:=⟨BB BK.o 0,BB BK.o 1⟩
end
section
variable {α β:Type} {r:β}
theorem eX {x:α} {f:α->Option β} (h:(some x).bind f=some r):∃ y,AD (y=x)/\f y=some r:=⟨x,⟨rfl⟩,h⟩
theorem bE {a b:Int} (h:a=b):(a == b)=true:=beq_iff_eq.mpr h
theorem bN {a b:Int} (h:¬ a=b):(a == b)=false:=beq_eq_false_iff_ne.mpr h
theorem cE {a b:Int} (h:a=b):(a != b)=false:=bne_eq_false_iff_eq.mpr h
theorem cN {a b:Int} (h:¬ a=b):(a != b)=true:=bne_iff_ne.mpr h
end
section
variable {P:Program} {ops:Array Oper} {Q:Exit->Act->World->Prop} {rest:List Oper} {o:Oper} {a:Act} {α:Type} {w0 W:World} {base:Nat} {Kc:Act->World->Prop}
theorem lL (d:Kd α) (e N:Nat) (xs:List α) (inner:List Value) (hp:Bt (d.M W W.heap.size (fun _=>True)) d.sz xs inner) (h:∀ v1 w1,d.R e w1 W.heap.size (fun _=>True) v1 xs->Below W.heap.size W w1->wpList P ops Q rest (a.put o.dst v1) w1) (hgd:o.guard=none:=by rfl) (hd:o.dst=some N:=by rfl)
 (hrun:(execOp a.eval o).run P W=.ok (.value (.slice (some ⟨W.heap.size,0,none⟩) xs.length xs.length)) (W.alloc (.cells inner.toArray e)):=by first|(go_simp;done)|(go_simp;rfl)) (hm:xs.length<=9223372036854775807:=by simp):wpList P ops Q (o::rest) a W:=
 Kd.Pr d W.heap.size e hgd hd (ok:=fun _=>True) (okp:=fun _=>True) hrun hp (fun _ h=>h) trivial (Below.refl _ _) (Nat.le_refl _) hm (fun v1 w1 h1 h2 _ _=>h v1 w1 h1 h2)
theorem Ok (d:Kd α) (e N:Nat) (xs:List α) (inner:List Value) (hp:Bt (d.M W W.heap.size (fun _=>True)) d.sz xs inner) (h:∀ v1 w1,d.R e w1 W.heap.size (fun _=>True) v1 xs->Below W.heap.size W w1->Kc (a.put o.dst v1) w1) (hgd:Region.wanted o (yielded ops a.tmps)=true:=by rfl) (hd:o.dst=some N:=by rfl)
 (hrun:(execOp a.eval o).run P W=.ok (.value (.slice (some ⟨W.heap.size,0,none⟩) xs.length xs.length)) (W.alloc (.cells inner.toArray e)):=by first|(go_simp;done)|(go_simp;rfl)) (hm:xs.length<=9223372036854775807:=by simp):if Region.wanted o (yielded ops a.tmps)=true then Oper.wp P o a W Kc Q else Kc (a.put o.dst undef) W:=
 Kd.PC d W.heap.size e hgd hd (ok:=fun _=>True) (okp:=fun _=>True) hrun hp (fun _ h=>h) trivial (Below.refl _ _) (Nat.le_refl _) hm (fun v1 w1 h1 h2 _ _=>h v1 w1 h1 h2)
variable {t e bytes m c:Nat} {z:Value} {A:Option Addr}
theorem rA (d:Kd α) (s x:Nat) (ht:P.underlying t=some (.slice e)) (hinfo:(P.info? e).map (fun i=>(i.zero,i.size,i.bytes))=some (some z,d.sz,bytes)) (v:Value) (xs ys:List α) (ok:Nat->Prop) (HO:d.R e W base ok v xs) (HR:d.C W A m ys) (hF:∀ k,W.heap.size<=k->ok k) (hl:(xs.length+m)*bytes<=140737488355328)
 (h:∀ v1 w1,d.R e w1 base ok v1 (xs++ys)->Below base w0 w1->W.grownBy w1 v.ownBlock->(v1.ownBlock=v.ownBlock\/∃ b,v1.ownBlock=some b/\W.heap.size<=b)->wpList P ops Q rest (a.put o.dst v1) w1) (hgd:o.guard=none:=by rfl) (ho:o.op=.call { callee:=.builtin .append,args:=#[.tmp s,.tmp x],argTypes:=#[t,t] }:=by rfl) (hz:z.cells.size=d.sz:=by rfl) (hs0:0<d.sz:=by decide) (hb0:0<bytes:=by omega)
 (hs:a.eval (.tmp s)=v:=by rfl) (hx:a.eval (.tmp x)=.slice A m c:=by first|rfl|(go_simp;done)|(go_simp;rfl)) (HB:Below base w0 W:=by repeat (first|(with_reducible first|exact HB.o|apply AP|apply AJ|apply AQ|refine AU ?_ (AD.o (by assumption)))|exact HB.o)) (hbase:base<=W.heap.size:=by exact AF bQ) (hKM:∀ x cs,d.K W x cs->d.M W base (fun _=>False) x cs:=by exact fun _ _ h=>h):wpList P ops Q (o::rest) a W:=
 Kd.Fg d base hgd (.tmp s) (.tmp x) t e z bytes ho ht hinfo hz hs0 hb0 v xs ys A m c ok (fun _=>False) hs hx HO HR hKM (fun _ h=>h.elim) hF HB hbase hl h
theorem sA (d:Kd α) (s x:Nat) (ht:P.underlying t=some (.slice e)) (hinfo:(P.info? e).map (fun i=>(i.zero,i.size,i.bytes))=some (some z,d.sz,bytes)) (v:Value) (xs ys:List α) (ok:Nat->Prop) (HO:d.R e W base ok v xs) (HR:d.C W A m ys) (hF:∀ k,W.heap.size<=k->ok k) (hl:(xs.length+m)*bytes<=140737488355328)
 (h:∀ v1 w1,d.R e w1 base ok v1 (xs++ys)->Below base w0 w1->W.grownBy w1 v.ownBlock->(v1.ownBlock=v.ownBlock\/∃ b,v1.ownBlock=some b/\W.heap.size<=b)->Kc (a.put o.dst v1) w1) (hgd:Region.wanted o (yielded ops a.tmps)=true:=by rfl) (ho:o.op=.call { callee:=.builtin .append,args:=#[.tmp s,.tmp x],argTypes:=#[t,t] }:=by rfl) (hz:z.cells.size=d.sz:=by rfl) (hs0:0<d.sz:=by decide) (hb0:0<bytes:=by omega)
 (hs:a.eval (.tmp s)=v:=by rfl) (hx:a.eval (.tmp x)=.slice A m c:=by first|rfl|(go_simp;done)|(go_simp;rfl)) (HB:Below base w0 W:=by repeat (first|(with_reducible first|exact HB.o|apply AP|apply AJ|apply AQ|refine AU ?_ (AD.o (by assumption)))|exact HB.o)) (hbase:base<=W.heap.size:=by exact AF bQ) (hKM:∀ x cs,d.K W x cs->d.M W base (fun _=>False) x cs:=by exact fun _ _ h=>h) :
 if Region.wanted o (yielded ops a.tmps)=true then Oper.wp P o a W Kc Q else Kc (a.put o.dst undef) W:=
 Kd.HD d base hgd (.tmp s) (.tmp x) t e z bytes ho ht hinfo hz hs0 hb0 v xs ys A m c ok (fun _=>False) hs hx HO HR hKM (fun _ h=>h.elim) hF HB hbase hl h
theorem rP (d:Kd α) (s x:Nat) (ht:P.underlying t=some (.slice e)) (hinfo:(P.info? e).map (fun i=>(i.zero,i.size,i.bytes))=some (some z,d.sz,bytes)) (v:Value) (xs:List α) (p:α) (cs:List Value) (ok:Nat->Prop) (HP:d.M W base (fun _=>False) p cs) (HO:d.R e W base ok v xs) (hF:∀ k,W.heap.size<=k->ok k) (hl:(xs.length+1)*bytes<=140737488355328)
 (h:∀ v1 w1,d.R e w1 base ok v1 (xs++[p])->Below base w0 w1->W.grownBy w1 v.ownBlock->(v1.ownBlock=v.ownBlock\/∃ b,v1.ownBlock=some b/\W.heap.size<=b)->wpList P ops Q rest (a.put o.dst v1) w1) (hgd:o.guard=none:=by rfl) (ho:o.op=.call { callee:=.builtin .append,args:=#[.tmp s,.tmp x],argTypes:=#[t,t] }:=by rfl) (hz:z.cells.size=d.sz:=by rfl) (hs0:0<d.sz:=by decide) (hb0:0<bytes:=by omega)
 (hs:a.eval (.tmp s)=v:=by rfl) (hx:a.eval (.tmp x)=.slice (some ⟨W.heap.size,0,none⟩) 1 1:=by first|rfl|(go_simp;done)|(go_simp;rfl)) (HB:Below base w0 W:=by repeat (first|(with_reducible first|exact HB.o|apply AP|apply AJ|apply AQ|refine AU ?_ (AD.o (by assumption)))|exact HB.o)) (hbase:base<=W.heap.size:=by exact AF bQ):wpList P ops Q (o::rest) a (W.alloc (.cells cs.toArray e)):=
 Kd.JT d base hgd (.tmp s) (.tmp x) t e z bytes ho ht hinfo hz hs0 hb0 v xs p cs ok (fun _=>False) hs hx HP (fun _ hk=>hk.elim) hF HO HB hbase hl h
end
theorem eY {α:Type} (x:α):∃ y,AD (y=x):=⟨x,⟨rfl⟩⟩
section
variable {P:Program} {ops:Array Oper} {Q:Exit->Act->World->Prop} {md:Region.Mode} {S:World->Prop} {ds:List Nat} {T:Bool×List (List Nat×List Nat)} {oi:Oper} {fuel N:Nat} {l:Array Bool} {a:Act} {w:World}
theorem pU {v:Value} {a':Act} (i:Nat) (h:BE P md ops Q S ds fuel (l.setIfInBounds i true) a' w) (hT:AD (C9 md ops=T):=by assumption) (hi:ops[i]?=some oi:=by exact rfl) (hN:oi.dst=some N:=by exact rfl) (hc:Rm T l.toList (l.setIfInBounds i true).toList i=true:=by kernel_rfl)
 (hQ:∀ c a w,Q (.panic c) (a.put oi.dst v) w->Q (.panic c) a w:=by exact fun _ _ _ h=>h) (hw:Region.wanted oi (yielded ops a.tmps)=true:=by rfl) (hr:∀ w,(execOp a.eval oi).run P w=.ok (.value v) w:=by intro w';go_simp;with_reducible rfl)
 (ha:a.put (some N) v=a':=by simp only [Act.put,lQ,lZ,lS,Ae,Aj];rfl):BE P md ops Q S ds (fuel+1) l a w:=Jk _ hi hN (Qz hT.o hc) hQ (.inl ⟨hw,hr⟩) ha h
theorem wU {a':Act} (i:Nat) (h:BE P md ops Q S ds fuel (l.setIfInBounds i true) a' w) (hT:AD (C9 md ops=T):=by assumption) (hi:ops[i]?=some oi:=by exact rfl) (hN:oi.dst=some N:=by exact rfl) (hc:Rm T l.toList (l.setIfInBounds i true).toList i=true:=by kernel_rfl)
 (hQ:∀ c a w,Q (.panic c) (a.put oi.dst undef) w->Q (.panic c) a w:=by exact fun _ _ _ h=>h) (hw:Region.wanted oi (yielded ops a.tmps)=false:=by rfl) (ha:a.put (some N) undef=a':=by simp only [Act.put,lQ,lZ,lS,Ae,Aj];rfl) :
 BE P md ops Q S ds (fuel+1) l a w:=Jk _ hi hN (Qz hT.o hc) hQ (.inr ⟨hw,rfl⟩) ha h
theorem kU {v:Value} {a':Act} {B:List Nat} (i:Nat) (h:BE P md ops Q S ds fuel (l.setIfInBounds i true) a' w) (hT:AD (C9 md ops=T):=by assumption) (hB:AD (Br T.2 B=true):=by assumption) (hS:S w:=by exact hHeld) (hi:ops[i]?=some oi:=by exact rfl) (hN:oi.dst=some N:=by exact rfl)
 (hc:Rc T B ds l.toList (l.setIfInBounds i true).toList i=true:=by kernel_rfl) (hQ:∀ c a w,Q (.panic c) (a.put oi.dst v) w->Q (.panic c) a w:=by exact fun _ _ _ h=>h) (hw:Region.wanted oi (yielded ops a.tmps)=true:=by rfl)
 (hr:∀ w,S w->(execOp a.eval oi).run P w=.ok (.value v) w:=by intro w' hs_;revert hs_;(try simp only [and_imp]);intros;go_simp;with_reducible rfl)
 (ha:a.put (some N) v=a':=by simp only [Act.put,lQ,lZ,lS,Ae,Aj];rfl):BE P md ops Q S ds (fuel+1) l a w:=L6 _ hi hN (Rd hT.o hB.o hc) hQ (.inl ⟨hw,hr⟩) hS ha h
theorem jU (i:Nat) (h:∀ K:Act->World->Prop,Shut (∀ a' w',S w'->(S w'->BE P md ops Q S ds fuel (l.setIfInBounds i true) a' w')->K a' w')->if Region.wanted oi (yielded ops a.tmps)=true then Oper.wp P oi a w K Q else K (a.put (some N) undef) w)
 (hT:AD (C9 md ops=T):=by assumption) (hi:ops[i]?=some oi:=by exact rfl) (hN:oi.dst=some N:=by exact rfl) (hc:(II T.2 l.toList == [i] && l.toList.set i true == (l.setIfInBounds i true).toList)=true:=by kernel_rfl) (hd:i ∉ ds:=by decide) :
 BE P md ops Q S ds (fuel+1) l a w:=PY _ hi hN (F3 hT.o hc) hd h
theorem sU {id:Nat} {B:List Nat} (n:Nat) (S:World->Prop) (hT:C9 .any ops=T) (hB:Br T.2 B=true) (hS:S w.drew) (h:S w.drew->AD (C9 .any ops=T)->AD (Br T.2 B=true)->BE P .any ops Q S [] n (Array.replicate n false) a w.drew) (hm:P.follows .mixedOrders=true:=by kernel_rfl) (hn:ops.size=n:=by rfl):(Code.region id ops true).wp P Q a w:=Gx _ hm hn rfl hS (fun q=>h q ⟨hT⟩ ⟨hB⟩)
theorem nC {a':Act} {n:Nat} (h:BE P md ops Q S ds n l a' w) (ha:a=a':=by simp only [Jl,Act.put,List.setIfInBounds_toArray,List.set_cons_zero,List.set_cons_succ]):BE P md ops Q S ds n l a w:=IV ha h
theorem xU {rest:List Oper} (N:Tmp) {cs:Array Value} {t:TypeId} (h:∀ g w1,AD (w1.heap[g]?=some (.cells cs t (0,0)))->g=w.heap.size->Below w.heap.size w w1->wpList P ops Q rest (a.put oi.dst (.pointer (some ⟨g,0,none⟩))) w1) (hd:oi.dst=some N:=by exact rfl) (hg:oi.guard=none:=by exact rfl)
 (hr:(execOp a.eval oi).run P w=.ok (.value (.pointer (some ⟨w.heap.size,0,none⟩))) (w.alloc (.cells cs t (0,0))):=by first|(go_simp;done)|(go_simp;rfl)):wpList P ops Q (oi::rest) a w:=xE N (fun g e w1 hb hB=>h g w1 ⟨hb⟩ e hB) hd hg hr
theorem gW {g:Nat} {w W:World} (hg:g=W.heap.size) (h:Below w.heap.size w W:=by repeat (first|(with_reducible first|exact HB.o|apply AP|apply AJ|apply AQ|refine AU ?_ (AD.o (by assumption)))|exact HB.o)):AD (w.heap.size<=g):=⟨by rw [hg];exact AF h⟩
end
theorem Jp {w W:World} {A:Option Addr} {n:Nat} {xs:List Ai} (h:AD (Kd.C D0 w A n xs)) (HB:AD (Below w.heap.size w W)) (i:Int) (h0:decide (0<=i)=true:=by first|(with_reducible assumption)|assumption) (h1:decide (i<(n:Int))=true:=by first|(with_reducible assumption)|assumption):∃ ad,A=some ad/\(0<=i)=True/\(i<(n:Int))=True/\W.cell? (ad.add (i.toNat*4))=some (.int .i64 (AA xs i).f0)/\W.cell? ⟨(ad.add (i.toNat*4)).block,(ad.add (i.toNat*4)).off+1,none⟩=some (.int .i64 (AA xs i).f1)/\W.cell? ⟨(ad.add (i.toNat*4)).block,(ad.add (i.toNat*4)).off+2,none⟩=some (.int .i64 (AA xs i).f2)/\W.cell? ⟨(ad.add (i.toNat*4)).block,(ad.add (i.toNat*4)).off+3,none⟩=some (.int .i64 (AA xs i).f3):=by
 obtain ⟨ad,e,x0,x1,x2,x3⟩:=F0 h.o i (of_decide_eq_true h0) (of_decide_eq_true h1)
 exact ⟨ad,e,eq_true (of_decide_eq_true h0),eq_true (of_decide_eq_true h1),cQ HB x0,cQ HB x1,cQ HB x2,cQ HB x3⟩
theorem Kx {w W:World} {A:Option Addr} {n:Nat} {xs:List Ai} (h:AD (Kd.C D0 w A n xs)) (HB:AD (Below w.heap.size w W)) (i:Int) (h0:decide (0<=i)=true:=by first|(with_reducible assumption)|assumption) (h1:decide (i<(n:Int))=true:=by first|(with_reducible assumption)|assumption):∃ ad,A=some ad/\(0<=i)=True/\(i<(n:Int))=True/\w.cell? (ad.add (i.toNat*4))=some (.int .i64 (AA xs i).f0)/\w.cell? ⟨(ad.add (i.toNat*4)).block,(ad.add (i.toNat*4)).off+1,none⟩=some (.int .i64 (AA xs i).f1)/\w.cell? ⟨(ad.add (i.toNat*4)).block,(ad.add (i.toNat*4)).off+2,none⟩=some (.int .i64 (AA xs i).f2)/\w.cell? ⟨(ad.add (i.toNat*4)).block,(ad.add (i.toNat*4)).off+3,none⟩=some (.int .i64 (AA xs i).f3)/\W.cell? (ad.add (i.toNat*4))=some (.int .i64 (AA xs i).f0)/\W.cell? ⟨(ad.add (i.toNat*4)).block,(ad.add (i.toNat*4)).off+1,none⟩=some (.int .i64 (AA xs i).f1)/\W.cell? ⟨(ad.add (i.toNat*4)).block,(ad.add (i.toNat*4)).off+2,none⟩=some (.int .i64 (AA xs i).f2)/\W.cell? ⟨(ad.add (i.toNat*4)).block,(ad.add (i.toNat*4)).off+3,none⟩=some (.int .i64 (AA xs i).f3):=by
 obtain ⟨ad,e,x0,x1,x2,x3⟩:=F0 h.o i (of_decide_eq_true h0) (of_decide_eq_true h1)
 exact ⟨ad,e,eq_true (of_decide_eq_true h0),eq_true (of_decide_eq_true h1),x0,x1,x2,x3,cQ HB x0,cQ HB x1,cQ HB x2,cQ HB x3⟩
theorem Ss {w:World} {A:Option Addr} {n:Nat} {xs:List Ai} (h:Kd.C D0 w A n xs) (i:Int) (h0:decide (0<=i)=true:=by first|(with_reducible assumption)|assumption) (h1:decide (i<(n:Int))=true:=by first|(with_reducible assumption)|assumption):∃ ad,A=some ad/\(0<=i)=True/\(i<(n:Int))=True/\w.cell? (ad.add (i.toNat*4))=some (.int .i64 (AA xs i).f0)/\w.cell? ⟨(ad.add (i.toNat*4)).block,(ad.add (i.toNat*4)).off+1,none⟩=some (.int .i64 (AA xs i).f1)/\w.cell? ⟨(ad.add (i.toNat*4)).block,(ad.add (i.toNat*4)).off+2,none⟩=some (.int .i64 (AA xs i).f2)/\w.cell? ⟨(ad.add (i.toNat*4)).block,(ad.add (i.toNat*4)).off+3,none⟩=some (.int .i64 (AA xs i).f3):=by
 obtain ⟨ad,e,x0,x1,x2,x3⟩:=F0 h i (of_decide_eq_true h0) (of_decide_eq_true h1)
 exact ⟨ad,e,eq_true (of_decide_eq_true h0),eq_true (of_decide_eq_true h1),x0,x1,x2,x3⟩
theorem Pd {w W:World} {A:Option Addr} {n:Nat} {xs:List CR} (h:AD (Kd.C E9 w A n xs)) (HB:AD (Below w.heap.size w W)) (i:Int) (h0:decide (0<=i)=true:=by first|(with_reducible assumption)|assumption) (h1:decide (i<(n:Int))=true:=by first|(with_reducible assumption)|assumption):∃ ad,A=some ad/\(0<=i)=True/\(i<(n:Int))=True/\W.cell? (ad.add (i.toNat*2))=some (.int .i64 (AR xs i).f0)/\W.cell? ⟨(ad.add (i.toNat*2)).block,(ad.add (i.toNat*2)).off+1,none⟩=some (.int .i64 (AR xs i).f1):=by
 obtain ⟨ad,e,x0,x1⟩:=LF h.o i (of_decide_eq_true h0) (of_decide_eq_true h1)
 exact ⟨ad,e,eq_true (of_decide_eq_true h0),eq_true (of_decide_eq_true h1),cQ HB x0,cQ HB x1⟩
theorem S5 {w W:World} {A:Option Addr} {n:Nat} {xs:List Gh} (h:AD (Kd.C OR w A n xs)) (HB:AD (Below w.heap.size w W)) (i:Int) (h0:decide (0<=i)=true:=by first|(with_reducible assumption)|assumption) (h1:decide (i<(n:Int))=true:=by first|(with_reducible assumption)|assumption):∃ ad,A=some ad/\(0<=i)=True/\(i<(n:Int))=True/\W.cell? (ad.add (i.toNat*2))=some (.int .i64 (Es xs i).f0)/\W.cell? ⟨(ad.add (i.toNat*2)).block,(ad.add (i.toNat*2)).off+1,none⟩=some (.int .i64 (Es xs i).f1):=by
 obtain ⟨ad,e,x0,x1⟩:=SU h.o i (of_decide_eq_true h0) (of_decide_eq_true h1)
 exact ⟨ad,e,eq_true (of_decide_eq_true h0),eq_true (of_decide_eq_true h1),cQ HB x0,cQ HB x1⟩
section
variable {k:IntKind}
theorem rI {w W:World} {A:Option Addr} {n:Nat} {xs:List Int} (h:AD (Kd.C (Kd.int k) w A n xs)) (HB:AD (Below w.heap.size w W)) (i:Int) (h0:decide (0<=i)=true:=by first|(with_reducible assumption)|assumption) (h1:decide (i<(n:Int))=true:=by first|(with_reducible assumption)|assumption):∃ ad,A=some ad/\(0<=i)=True/\(i<(n:Int))=True/\W.cell? (ad.add i.toNat)=some (.int k (rd xs i)):=by
 obtain ⟨ad,e,x0⟩:=Kd.ED h.o i (of_decide_eq_true h0) (of_decide_eq_true h1)
 exact ⟨ad,e,eq_true (of_decide_eq_true h0),eq_true (of_decide_eq_true h1),cQ HB x0⟩
theorem qI {w W:World} {A:Option Addr} {n:Nat} {xs:List Int} (h:AD (Kd.C (Kd.int k) w A n xs)) (HB:AD (Below w.heap.size w W)) (i:Int) (h0:decide (0<=i)=true:=by first|(with_reducible assumption)|assumption) (h1:decide (i<(n:Int))=true:=by first|(with_reducible assumption)|assumption):∃ ad,A=some ad/\(0<=i)=True/\(i<(n:Int))=True/\w.cell? (ad.add i.toNat)=some (.int k (rd xs i))/\W.cell? (ad.add i.toNat)=some (.int k (rd xs i)):=by
 obtain ⟨ad,e,x0⟩:=Kd.ED h.o i (of_decide_eq_true h0) (of_decide_eq_true h1)
 exact ⟨ad,e,eq_true (of_decide_eq_true h0),eq_true (of_decide_eq_true h1),x0,cQ HB x0⟩
theorem oI {w:World} {A:Option Addr} {n:Nat} {xs:List Int} (h:Kd.C (Kd.int k) w A n xs) (i:Int) (h0:decide (0<=i)=true:=by first|(with_reducible assumption)|assumption) (h1:decide (i<(n:Int))=true:=by first|(with_reducible assumption)|assumption):∃ ad,A=some ad/\(0<=i)=True/\(i<(n:Int))=True/\w.cell? (ad.add i.toNat)=some (.int k (rd xs i)):=by
 obtain ⟨ad,e,x0⟩:=Kd.ED h i (of_decide_eq_true h0) (of_decide_eq_true h1)
 exact ⟨ad,e,eq_true (of_decide_eq_true h0),eq_true (of_decide_eq_true h1),x0⟩
end
theorem iT {α:Type} {P:Prop} [Decidable P] {a b r:α} (c:P) (H:(if P then a else b)=r):decide P=true/\a=r:=⟨decide_eq_true c,by rwa [if_pos c] at H⟩
theorem iF {α:Type} {P:Prop} [Decidable P] {a b r:α} (c:¬ P) (H:(if P then a else b)=r):decide P=false/\b=r:=⟨decide_eq_false c,by rwa [if_neg c] at H⟩
theorem sK {α β:Type} {x:Option α} {f:α->Option β} {r:β} (h:x.bind f=some r):∃ a,AD (x=some a)/\AD (f a=some r):=by
 obtain ⟨a,h1,h2⟩:=Option.bind_eq_some_iff.mp h
 exact ⟨a,⟨h1⟩,⟨h2⟩⟩
theorem nS {α:Type} {x:Option α} {r:α} {p:Prop} (h:AD (x=some r)) (e:x=none:=by rfl):p:=absurd h.o (by rw [e];simp)
theorem oL {a b:Nat} (h:a<=b:=by first|omega|exact Nat.le_refl _):a<=b:=h
theorem Hr {W0 W w1:World} {g g':Nat} {o:Obj} (hk:AH W w1 g none) (BK:AD (W0.heap[g']?=some o)) (NB:AD (g'≠g):=by assumption) (hb:Below W0.heap.size W0 W:=by repeat (first|(with_reducible first|exact Below.refl _ _|apply AP|apply AJ|apply AQ)|exact Below.refl _ _)):AD (w1.heap[g']?=some o):=⟨AH.Qc hk (F5 BK.o hb) NB.o (by simp)⟩
theorem Gj {w W W0 w1:World} {g:Nat} (_:AD (AH w W0 g none)) (hk:AH W w1 g none) (h:AH w W g none:=by repeat (first|(with_reducible first|exact HK.o|apply AH.Fk|apply Bu|apply Bo|apply keep_alloc|refine CI ?_ (AD.o (by assumption)) _)|exact HK.o)):AD (AH w w1 g none):=⟨AH.trans h hk (.inl rfl)⟩
theorem fC {w W:World} {gb:Nat} (GW:AD (w.heap.size<=gb)) (a b c d:Value) (HB:AD (Below w.heap.size w W)) {p:Addr} {v:Value} (h:w.cell? p=some v):((((W.setCell ⟨gb,0,none⟩ a).setCell ⟨gb,1,none⟩ b).setCell ⟨gb,2,none⟩ c).setCell ⟨gb,3,none⟩ d).cell? p=some v:=by
 have n:∀ j,p.block≠(⟨gb,j,none⟩:Addr).block:=fun j=>Nat.ne_of_lt (Nat.lt_of_lt_of_le (World.block_lt_of_cell? _ _ h) GW.o)
 exact (cell_far (p:=⟨gb,3,none⟩) (n 3) d).trans ((cell_far (p:=⟨gb,2,none⟩) (n 2) c).trans ((cell_far (p:=⟨gb,1,none⟩) (n 1) b).trans ((cell_far (p:=⟨gb,0,none⟩) (n 0) a).trans (cQ HB h))))
section
variable {P:Program} {ops:Array Oper} {Q:Exit->Act->World->Prop} {rest:List Oper} {oi:Oper} {a:Act} {w:World} {f:FuncId} {fn:Func} {ag:Array Operand} {ts:Array TypeId} {args:Array Value}
theorem aB {v:Value} {G:World->Prop} (N:Tmp) (hf:P.funcs[f]?=some fn) (hc:Calls P f args w (fun e w'=>e=.returned v/\G w')) (h:∀ w',G w'->wpList P ops Q rest (a.put (some N) v) w') (hd:oi.dst=some N:=by exact rfl) (hg:oi.guard=none:=by exact rfl) (hname:(fn.name == "runtime.NumGoroutine")=false:=by kernel_rfl) (hb:fn.body.isSome=true:=by exact rfl)
 (hop:oi.op=.call { callee:=.value (.func f),args:=ag,argTypes:=ts }:=by exact rfl) (hargs:ag.map a.eval=args:=by (try simp only [List.map_toArray,List.map_cons,List.map_nil]);first|done|rfl|(simp only [List.length_drop,List.length_take];rfl)):wpList P ops Q (oi::rest) a w:=
 aL N hf hc (by rintro e w' ⟨rfl,q⟩;exact ⟨_,rfl,h w' q⟩) hd hg hname hb hop hargs
end
theorem sI {α:Type} {a b:α} (h:some a=some b):a=b:=Option.some.inj h
theorem sE {α:Type} (a b:α):(some a=some b)=(a=b):=Option.some.injEq a b
theorem pE {α β:Type} (a:α) (b:β) (c:α) (d:β):((a,b)=(c,d))=(a=c/\b=d):=Prod.mk.injEq a b c d
theorem bR (w:World):AD (Below w.heap.size w w):=⟨Below.refl _ _⟩
theorem dB {n:Nat} {w W:World} (h:AD (Below n w W)):AD (Below n w W.drew):=⟨AQ h.o⟩
theorem dK {W:World} {g:Nat} {o:Obj} (h:AD (W.heap[g]?=some o)):AD (W.drew.heap[g]?=some o):=⟨Mc h.o⟩
theorem lR {α:Type} {d:Kd α} {e:Nat} {w W W1:World} {ok:Nat->Prop} {v:Value} {xs:List α} (h:d.R e W1 W.heap.size ok v xs) (hb:Below w.heap.size w W:=by repeat (first|(with_reducible first|exact HB.o|apply AP|apply AJ|apply AQ|refine AU ?_ (AD.o (by assumption)))|exact HB.o)):AD (d.R e W1 w.heap.size ok v xs):=⟨Kd.Am h (AF hb)⟩
theorem dC {p:Prop} (h:p:=by decide):p:=h
theorem kF {p:Prop} (h:p:=by kernel_rfl):p:=h
theorem oM {p:Prop} (h:p:=by omega):p:=h
theorem sM {p:Prop} (h:p:=by simp):p:=h
theorem dQ {w W:World} (h:Cx w W:=by repeat (first|exact Cx.refl _|apply Cx.step)):Cx w W:=h
abbrev kI:Kd Int:=Kd.int .i64
theorem eB (b:Bool):b=true\/b=false:=by cases b <;> simp
theorem iE {α:Type} {x y:Int} {a b r:α} (c:x=y) (H:(if x=y then a else b)=r):(x == y)=true/\(x != y)=false/\a=r:=⟨bE c,cE c,by rwa [if_pos c] at H⟩
theorem iN {α:Type} {x y:Int} {a b r:α} (c:¬ x=y) (H:(if x=y then a else b)=r):(x == y)=false/\(x != y)=true/\b=r:=⟨bN c,cN c,by rwa [if_neg c] at H⟩
theorem mA {p q:Prop} (h:AD p) (g:p->q:=by intro h_;first|omega|exact Nat.le_refl _):q:=g h.o
abbrev oW (w:World) (v:Value):Nat->Prop:=fun k_=>w.heap.size<=k_/\some k_≠v.ownBlock
abbrev oX (w:World) (v u:Value):Nat->Prop:=fun k_=>w.heap.size<=k_/\some k_≠v.ownBlock/\some k_≠u.ownBlock
theorem iL {W:World} {n:Nat} {ok:Nat->Prop} (xs:List Int):Bt (kI.M W n ok) kI.sz xs (xs.map (Value.int .i64)):=by
 induction xs with
 | nil=>exact Bt.none _ _
 | cons x xs ih=>exact Bt.one (show Kd.M kI _ _ _ x [.int .i64 x] from rfl) ih
section
variable {P:Program} {ops:Array Oper} {Q:Exit->Act->World->Prop} {rest:List Oper} {o:Oper} {a:Act} {W:World}
theorem lI (N:Nat) (xs:List Int) (h:∀ v1 w1,kI.R 3 w1 W.heap.size (fun _=>True) v1 xs->Below W.heap.size W w1->wpList P ops Q rest (a.put o.dst v1) w1) (hgd:o.guard=none:=by rfl) (hd:o.dst=some N:=by rfl)
 (hrun:(execOp a.eval o).run P W=.ok (.value (.slice (some ⟨W.heap.size,0,none⟩) xs.length xs.length)) (W.alloc (.cells (xs.map (Value.int .i64)).toArray 3)):=by first|(go_simp;done)|(go_simp;rfl)) (hm:xs.length<=9223372036854775807:=by simp):wpList P ops Q (o::rest) a W:=
 lL kI 3 N xs (xs.map (Value.int .i64)) (iL xs) h hgd hd hrun hm
end
end Go.Proofs.YtdahnapanpiooaaGreat.PHis
