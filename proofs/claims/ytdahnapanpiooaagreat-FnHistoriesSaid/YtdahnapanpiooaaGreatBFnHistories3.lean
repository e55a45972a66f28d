/- Go functions that the statement reaches: each printed as a Lean function, with a proof that the Go function comes to its answer; conditions: the bounds that each states. -/
import Derived.Test.YtdahnapanpiooaaGreatBFnHistories0
import Derived.BigQuiet
import Derived.Deep.QuietTactic
import Derived.Test.YtdahnapanpiooaaGreatBFnHistories1
set_option maxHeartbeats 8000000
set_option maxRecDepth 100000
namespace Go.Proofs.YtdahnapanpiooaaGreat.PHis
open Go.RowKit Go.Proofs.YtdahnapanpiooaaGreatW.PrintWords Go.Proofs.YtdahnapanpiooaaGreatW.PrintLast Go.Proofs.YtdahnapanpiooaaGreatW.PrintMore Go.Proofs.Tryz Go.Proofs.YtdahnapanpiooaaGreatW.PrintWords.Kd
attribute [local go_sem] E3 E5 Fs Ft ES ET E4 E6
set_option linter.unusedVariables false
set_option linter.unusedSimpArgs false
def Bd.l0:Nat->List Int->Int->Int->Int->Option Int
 | 0,_,_,_,_=>none
 | k+1,x0,x1,x7,x8=>if x8<x7 then (if 0<=x8 then (if x8<(x0.length:Int) then (if x1=(rd x0 x8) then (some x8) else (Bd.l0 k x0 x1 x7 (wrap64 (x8+1)))) else none) else none) else (some (-1))
def Bd.f (k:Nat) (l0:List Int) (a1:Int):Option Int:=Bd.l0 k l0 a1 (l0.length:Int) 0
theorem Bd.c (k:Nat) (A0:Option Addr) (c0:Nat) (l0:List Int) (a1:Int) (r:Int) (w:World) (X:Kd.C kI w A0 l0.length l0) (hc0:l0.length<=c0) (h:Bd.f k l0 a1=some r) :
 Calls prog 117 #[.slice A0 l0.length c0,.int .i64 a1] w fun e w'=>e=.returned (.int .i64 r)/\Cx w w':=by
 have P:=aK X;have Y:=aK hc0;clear hc0;have H:=h;unfold Bd.f at H;have H':=aK H;go_enter func117,ntmps117;go_wp2;(go_loopg [8] k (fun kq v8 w'=>∃ (A:Int),v8=.int .i64 A/\AD (Bd.l0 kq l0 a1 (l0.length:Int) A=some r)/\AD (kq<=k)/\Cx w w'));(case atStart=>exact ⟨0,vQ,H',⟨Nat.le_refl _⟩,dQ⟩)
 case round =>
  obtain ⟨A,rfl,HA,O,⟨m1,rfl⟩⟩:=hrel
  cases gk with
  | zero=>exact nS HA
  | succ k1 =>
   have H:=HA.o;simp only [Bd.l0] at H;(by_cases c3:A<(l0.length:Int))
   .
    obtain ⟨G,H⟩:=iT c3 H;obtain ⟨T,H⟩:=nQ H;obtain ⟨U,H⟩:=nQ H;(by_cases c6:a1=(rd l0 A))
    . obtain ⟨I,J,H⟩:=iE c6 H;obtain rfl:=sI H;obtain ⟨E,D,L,M,B⟩:=oI P.o A;cases D;go_wp2;go_ret;exact ⟨vQ,dQ⟩
    . obtain ⟨I,J,H⟩:=iN c6 H;have H':=aK H;obtain ⟨E,D,L,M,B⟩:=oI P.o A;cases D;go_wp2;(go_roundg k1);(case measure=>have:=O.o;omega);(case rel=>exact ⟨wrap64 (A+1),vQ,H',⟨mA O⟩,dQ⟩)
   . obtain ⟨G,H⟩:=iF c3 H;obtain rfl:=sI H;go_wp2;go_ret;exact ⟨vQ,dQ⟩
def AV.f (k:Nat) (l0:List Int) (a1:Int):Option Bool:=(Bd.f k l0 a1).bind fun t102=>(some (decide (t102>=0)))
theorem AV.c (k:Nat) (A0:Option Addr) (c0:Nat) (l0:List Int) (a1:Int) (r:Bool) (w:World) (D:Kd.C kI w A0 l0.length l0) (hc0:l0.length<=c0) (h:AV.f k l0 a1=some r) :
 Calls prog 73 #[.slice A0 l0.length c0,.int .i64 a1] w fun e w'=>e=.returned (.bool r)/\Cx w w':=by
 have B:=aK D;have A:=aK hc0;clear hc0;have H:=h;unfold AV.f at H;obtain ⟨t102,A3,H⟩:=sQ H;obtain rfl:=sI H;go_enter func73,ntmps73;(go_wp2_with (refine gC 117 rfl ?_;refine aL 7 func117 (Bd.c k _ _ l0 a1 t102 _ (rC B) A.o A3.o) ?_;rintro e w' ⟨rfl,⟨nd,rfl⟩⟩;refine ⟨_,rfl,?_⟩));go_ret;exact ⟨vQ,dQ⟩
def Ad.f (a0:Int) (a1:Int) (a2:Int):Option Bool:=if a1<=a0 then (some (decide (a0<=a2))) else (some false)
theorem Ad.c (a0:Int) (a1:Int) (a2:Int) (r:Bool) (w:World) (h:Ad.f a0 a1 a2=some r) :
 Calls prog 49 #[.int .i64 a0,.int .i64 a1,.int .i64 a2] w fun e w'=>e=.returned (.bool r)/\Cx w w':=by
 have H:=h;unfold Ad.f at H;(by_cases c4:a1<=a0);(· obtain ⟨A,H⟩:=iT c4 H;obtain rfl:=sI H;go_enter func49,ntmps49;go_wp2;go_ret;exact ⟨vQ,dQ⟩);(· obtain ⟨A,H⟩:=iF c4 H;obtain rfl:=sI H;go_enter func49,ntmps49;go_wp2;go_ret;exact ⟨vQ,dQ⟩)
def Cj.f (E:Int) (A:Int) (B:Int) (D:Int):Option (Bool):=(Ad.f E 1 20).bind fun t104=>(if t104=true then ((Ad.f A 1 3).bind fun t105=>(if t105=true then ((Ad.f B 0 3).bind fun t106=>(if t106=true then ((Ad.f D 0 3).bind fun t107=>(if t107=true then (some ((B == D) == (A == 2))) else (some false))) else (some false))) else (some false))) else (some false))
theorem Cj.c (B:Int) (G:Int) (I:Int) (J:Int) (r:Bool) (w:World) (h:Cj.f B G I J=some r) :
 Calls prog 103 #[.agg #[.int .i64 B,.int .i64 G,.int .i64 I,.int .i64 J]] w fun e w'=>e=.returned (.bool r)/\Below w.heap.size w w':=by
 have U:=underlying79;(have HB:=aK (Below.refl w.heap.size w));have H:=h;(unfold Cj.f at H);clear h;obtain ⟨t104,A2,H⟩:=sQ H;(by_cases c3:t104=true)
 .
  subst c3;replace H:=tT H;obtain ⟨t105,A4,H⟩:=sQ H;(by_cases c5:t105=true)
  .
   subst c5;replace H:=tT H;obtain ⟨t106,A6,H⟩:=sQ H;(by_cases c7:t106=true)
   .
    subst c7;replace H:=tT H;obtain ⟨t107,A8,H⟩:=sQ H;(by_cases c9:t107=true)
    . subst c9;replace H:=tT H;obtain rfl:=Option.some.inj H;(go_enter func103,ntmps103);(go_wp2_with (first|((with_reducible refine AL (N:=1) rfl ?_);refine xU 1 ?_;intro E X A hg hb;have D:=gW hg;replace HB:=uH hb;clear hb hg;have L:=Bi A)|((with_reducible refine gC 49 rfl ?_);refine aL 5 func49 (Ad.c B 1 20 true _ A2.o) ?_;rintro e w' ⟨rfl,⟨nd,rfl⟩⟩;refine ⟨_,rfl,?_⟩)|(go_at_call 49;(with_reducible refine (Ad.c G 1 3 true _ A4.o).mono ?_);rintro e w' ⟨rfl,⟨nd,rfl⟩⟩)|(go_at_call 49;(with_reducible refine (Ad.c I 0 3 true _ A6.o).mono ?_);rintro e w' ⟨rfl,⟨nd,rfl⟩⟩)|(go_at_call 49;(with_reducible refine (Ad.c J 0 3 true _ A8.o).mono ?_);rintro e w' ⟨rfl,⟨nd,rfl⟩⟩)));go_ret;(exact ⟨eQ,bQ⟩)
    . replace c9:=Bool.eq_false_iff.mpr c9;subst c9;replace H:=tF H;obtain rfl:=Option.some.inj H;(go_enter func103,ntmps103);(go_wp2_with (first|((with_reducible refine AL (N:=1) rfl ?_);refine xU 1 ?_;intro E Y A hg hb;have D:=gW hg;replace HB:=uH hb;clear hb hg;have M:=Bi A)|((with_reducible refine gC 49 rfl ?_);refine aL 5 func49 (Ad.c B 1 20 true _ A2.o) ?_;rintro e w' ⟨rfl,⟨nd,rfl⟩⟩;refine ⟨_,rfl,?_⟩)|(go_at_call 49;(with_reducible refine (Ad.c G 1 3 true _ A4.o).mono ?_);rintro e w' ⟨rfl,⟨nd,rfl⟩⟩)|(go_at_call 49;(with_reducible refine (Ad.c I 0 3 true _ A6.o).mono ?_);rintro e w' ⟨rfl,⟨nd,rfl⟩⟩)|(go_at_call 49;(with_reducible refine (Ad.c J 0 3 false _ A8.o).mono ?_);rintro e w' ⟨rfl,⟨nd,rfl⟩⟩)));go_ret;(exact ⟨eQ,bQ⟩)
   . replace c7:=Bool.eq_false_iff.mpr c7;subst c7;replace H:=tF H;obtain rfl:=Option.some.inj H;(go_enter func103,ntmps103);(go_wp2_with (first|((with_reducible refine AL (N:=1) rfl ?_);refine xU 1 ?_;intro E Z A hg hb;have D:=gW hg;replace HB:=uH hb;clear hb hg;have O:=Bi A)|((with_reducible refine gC 49 rfl ?_);refine aL 5 func49 (Ad.c B 1 20 true _ A2.o) ?_;rintro e w' ⟨rfl,⟨nd,rfl⟩⟩;refine ⟨_,rfl,?_⟩)|(go_at_call 49;(with_reducible refine (Ad.c G 1 3 true _ A4.o).mono ?_);rintro e w' ⟨rfl,⟨nd,rfl⟩⟩)|(go_at_call 49;(with_reducible refine (Ad.c I 0 3 false _ A6.o).mono ?_);rintro e w' ⟨rfl,⟨nd,rfl⟩⟩)));go_ret;(exact ⟨eQ,bQ⟩)
  . replace c5:=Bool.eq_false_iff.mpr c5;subst c5;replace H:=tF H;obtain rfl:=Option.some.inj H;(go_enter func103,ntmps103);(go_wp2_with (first|((with_reducible refine AL (N:=1) rfl ?_);refine xU 1 ?_;intro E aA A hg hb;have D:=gW hg;replace HB:=uH hb;clear hb hg;have P:=Bi A)|((with_reducible refine gC 49 rfl ?_);refine aL 5 func49 (Ad.c B 1 20 true _ A2.o) ?_;rintro e w' ⟨rfl,⟨nd,rfl⟩⟩;refine ⟨_,rfl,?_⟩)|(go_at_call 49;(with_reducible refine (Ad.c G 1 3 false _ A4.o).mono ?_);rintro e w' ⟨rfl,⟨nd,rfl⟩⟩)));go_ret;(exact ⟨eQ,bQ⟩)
 . replace c3:=Bool.eq_false_iff.mpr c3;subst c3;replace H:=tF H;obtain rfl:=Option.some.inj H;(go_enter func103,ntmps103);(go_wp2_with (first|((with_reducible refine AL (N:=1) rfl ?_);refine xU 1 ?_;intro E aC A hg hb;have D:=gW hg;replace HB:=uH hb;clear hb hg;have T:=Bi A)|((with_reducible refine gC 49 rfl ?_);refine aL 5 func49 (Ad.c B 1 20 false _ A2.o) ?_;rintro e w' ⟨rfl,⟨nd,rfl⟩⟩;refine ⟨_,rfl,?_⟩)));go_ret;(exact ⟨eQ,bQ⟩)
def BN.l0:Nat->List Ai->List Ai->Int->Int->Option Bool
 | 0,_,_,_,_=>none
 | k+1,x0,x8,x9,A=>if A<x9 then (if 0<=A then (if A<(x8.length:Int) then ((Cj.f ((AA x8 A).f0) ((AA x8 A).f1) ((AA x8 A).f2) ((AA x8 A).f3)).bind fun t110=>(if t110=true then (if A>0 then (if 0<=(wrap64 (A-1)) then (if (wrap64 (A-1))<(x0.length:Int) then (if ((AA x8 A).f0)<=((AA x0 (wrap64 (A-1))).f0) then (some false) else (BN.l0 k x0 x8 x9 (wrap64 (A+1)))) else none) else none) else (BN.l0 k x0 x8 x9 (wrap64 (A+1)))) else (some false))) else none) else none) else (some true)
def BN.f (k:Nat) (l0:List Ai):Option Bool:=if (l0.length:Int)>12 then (some false) else (BN.l0 k l0 l0 (l0.length:Int) 0)
theorem BN.FC:Br (C9 .any (opsOf f64 6)).2 [0,1,3,7,15,31,63,127,255,127,127,1151,3711,7807,15999,32767,65535,131071]=true:=by kernel_rfl
theorem BN.c (k:Nat) (A0:Option Addr) (c0:Nat) (l0:List Ai) (r:Bool) (w:World) (bM:Kd.C D0 w A0 l0.length l0) (hc0:l0.length<=c0) (h:BN.f k l0=some r) :
 Calls prog 64 #[.slice A0 l0.length c0] w fun e w'=>e=.returned (.bool r)/\Below w.heap.size w w':=by
 have bS:=underlying79;have aQ:=aK bM;have bY:=aK hc0;clear bM hc0;have HB:=bR w;have H:=h;unfold BN.f at H;clear h;(by_cases c2:(l0.length:Int)>12);(· rw [if_pos c2] at H;have aS:=decide_eq_true c2;have aT:decide (12<l0.length)=true:=decide_eq_true oM;clear c2;obtain rfl:=sI H;go_enter func64,ntmps64;go_wp2;go_ret;exact ⟨eQ,bQ⟩)
 .
  rw [if_neg c2] at H;have aS:=decide_eq_false c2;have aT:decide (12<l0.length)=false:=decide_eq_false oM;clear c2;have H':=aK H;clear H;go_enter func64,ntmps64;go_wp2;(go_loopg [10] k (fun kq v10 w'=>∃ (A:Int),v10=.int .i64 A/\AD (BN.l0 kq l0 l0 (l0.length:Int) A=some r)/\AD (kq<=k)/\AD (Below w.heap.size w w')));(case atStart=>exact ⟨0,vQ,H',⟨Nat.le_refl _⟩,⟨bQ⟩⟩)
  case round =>
   clear H';obtain ⟨A,rfl,HA,aP,HB⟩:=hrel
   cases gk with
   | zero=>exact nS HA
   | succ k1 =>
    have H:=HA.o;clear HA;simp only [BN.l0] at H;(by_cases c3:A<(l0.length:Int))
    .
     obtain ⟨aU,H⟩:=iT c3 H;clear c3;obtain ⟨bO,H⟩:=nQ H;obtain ⟨bP,H⟩:=nQ H;obtain ⟨t110,A6,H⟩:=sQ H;(rcases eB t110 with c7|c7)
     .
      subst c7;replace H:=tT H;(by_cases c8:A>0)
      .
       obtain ⟨aV,H⟩:=iT c8 H;clear c8;obtain ⟨I,Z⟩:∃ j_:Int,(wrap64 (A-1))=j_:=⟨_,rfl⟩;(replace H:(if 0<=(I) then (if (I)<(l0.length:Int) then (if ((AA l0 A).f0)<=((AA l0 (I)).f0) then (some false) else (BN.l0 k1 l0 l0 (l0.length:Int) (wrap64 (A+1)))) else none) else none)=some r:=by first|(rw [Z] at H;exact H)|(simp only [Z] at H |-;exact H));(try rw [Z] at A6);have bL:(IntKind.i64.wrap (A-1))=I:=(Ae _).trans Z;obtain ⟨bA,H⟩:=nQ H;obtain ⟨bC,H⟩:=nQ H;have aI:=aK H;clear H;obtain ⟨E,Y,aM,aN,P,T,U,X⟩:=Jp aQ HB A;cases Y;(try go_wp2_with ((with_reducible refine AL (N:=4) rfl ?_);refine xU 4 ?_;intro B aX D hg hb;have aH:=gW hg;replace HB:=uH hb;clear hb hg;have bD:=Bi D;have bI:=DP D));have aA:AD (((((aX.setCell ⟨B,0,none⟩ (.int .i64 ((AA l0 A).f0))).setCell ⟨B,1,none⟩ (.int .i64 ((AA l0 A).f1))).setCell ⟨B,2,none⟩ (.int .i64 ((AA l0 A).f2))).setCell ⟨B,3,none⟩ (.int .i64 ((AA l0 A).f3))).heap[B]?=some (.cells #[.int .i64 ((AA l0 A).f0),.int .i64 ((AA l0 A).f1),.int .i64 ((AA l0 A).f2),.int .i64 ((AA l0 A).f3)] 79 (0,0))):=⟨GL D⟩
       have aC:AD (Below w.heap.size w ((((aX.setCell ⟨B,0,none⟩ (.int .i64 ((AA l0 A).f0))).setCell ⟨B,1,none⟩ (.int .i64 ((AA l0 A).f1))).setCell ⟨B,2,none⟩ (.int .i64 ((AA l0 A).f2))).setCell ⟨B,3,none⟩ (.int .i64 ((AA l0 A).f3)))):=⟨bQ⟩;generalize ((((aX.setCell ⟨B,0,none⟩ (.int .i64 ((AA l0 A).f0))).setCell ⟨B,1,none⟩ (.int .i64 ((AA l0 A).f1))).setCell ⟨B,2,none⟩ (.int .i64 ((AA l0 A).f2))).setCell ⟨B,3,none⟩ (.int .i64 ((AA l0 A).f3)))=bV at aA aC |-;have D:=aA;have HB:=aC;clear aA aC;replace D:=dK D;replace HB:=dB HB;obtain ⟨aJ,aW,bT,bU,J,L,M,O,aD,aE,aF,aG⟩:=Kx aQ HB (I);obtain rfl:E=aJ:=(by injection aW);refine sU 18 (fun w'=>w'.cell? ⟨B,0,none⟩=some (.int .i64 ((AA l0 A).f0))/\w'.cell? ⟨B,1,none⟩=some (.int .i64 ((AA l0 A).f1))/\w'.cell? ⟨B,2,none⟩=some (.int .i64 ((AA l0 A).f2))/\w'.cell? ⟨B,3,none⟩=some (.int .i64 ((AA l0 A).f3))/\w'.cell? (E.add (((I)).toNat*4))=some (.int .i64 ((AA l0 (I)).f0))/\w'.cell? ⟨(E.add (((I)).toNat*4)).block,(E.add (((I)).toNat*4)).off+1,none⟩=some (.int .i64 ((AA l0 (I)).f1))/\w'.cell? ⟨(E.add (((I)).toNat*4)).block,(E.add (((I)).toNat*4)).off+2,none⟩=some (.int .i64 ((AA l0 (I)).f2))/\w'.cell? ⟨(E.add (((I)).toNat*4)).block,(E.add (((I)).toNat*4)).off+3,none⟩=some (.int .i64 ((AA l0 (I)).f3))) rfl BN.FC ⟨zC D 0 _,zC D 1 _,zC D 2 _,zC D 3 _,cQ HB J,cQ HB L,cQ HB M,cQ HB O⟩ (fun hHeld HT_ HW_=>?_);generalize bV.drew=bZ at D HB aD aE aF aG hHeld |-;refine kU 0 ?_;refine jU 1 (fun K hK=>?_);refine aO func103 (Cj.c ((AA l0 A).f0) ((AA l0 A).f1) ((AA l0 A).f2) ((AA l0 A).f3) true _ A6.o) ?_;rintro e cB ⟨rfl,hb⟩;refine ⟨_,rfl,?_⟩;replace D:=uB D hb;replace HB:=uH hb;(skip);(skip);(skip)
       refine oK hK ⟨zC D 0 _,zC D 1 _,zC D 2 _,zC D 3 _,cQ HB J,cQ HB L,cQ HB M,cQ HB O⟩ (fun hHeld=>?_);clear hK K;refine pU 2 ?_;refine pU 3 ?_;refine pU 4 ?_;refine pU 5 ?_;refine pU 6 ?_;refine pU 7 ?_;refine pU 9 ?_;refine pU 10 ?_;refine pU 11 ?_;refine pU 12 ?_;refine pU 13 ?_;refine kU 8 ?_;refine kU 14 ?_;refine pU 15 ?_;refine pU 16 ?_;refine pU 17 ?_;refine CY (BY HT_.o kF) ?_;(go_upto_if 32 with (fail));have H:=aI.o;clear aI;(by_cases aR:((AA l0 A).f0)<=((AA l0 (I)).f0))
       . obtain ⟨G,H⟩:=iT aR H;clear aR;(try first|rw [G]|(simp only [Ae,Aj];rw [G]));obtain rfl:=sI H;go_wp2;go_ret;exact ⟨by first|rfl|(simp [CE,CF] <;> rfl)|(simp only [<-Z];first|rfl|(simp [CE,CF] <;> rfl))|(simp [*,CE,CF] <;> rfl),bQ⟩
       . obtain ⟨G,H⟩:=iF aR H;clear aR;(try first|rw [G]|(simp only [Ae,Aj];rw [G]));have H':=aK H;clear H;go_wp2;(go_roundg k1);(case measure=>have:=aP.o;omega);(case rel=>exact ⟨wrap64 (A+1),vQ,H',⟨mA aP⟩,⟨bQ⟩⟩)
      .
       obtain ⟨aV,H⟩:=iF c8 H;clear c8;have H':=aK H;clear H;obtain ⟨E,Y,aM,aN,P,T,U,X⟩:=Jp aQ HB A;cases Y;(try go_wp2_with ((with_reducible refine AL (N:=4) rfl ?_);refine xU 4 ?_;intro B aY D hg hb;have aH:=gW hg;replace HB:=uH hb;clear hb hg;have bF:=Bi D;have bJ:=DP D));have aA:AD (((((aY.setCell ⟨B,0,none⟩ (.int .i64 ((AA l0 A).f0))).setCell ⟨B,1,none⟩ (.int .i64 ((AA l0 A).f1))).setCell ⟨B,2,none⟩ (.int .i64 ((AA l0 A).f2))).setCell ⟨B,3,none⟩ (.int .i64 ((AA l0 A).f3))).heap[B]?=some (.cells #[.int .i64 ((AA l0 A).f0),.int .i64 ((AA l0 A).f1),.int .i64 ((AA l0 A).f2),.int .i64 ((AA l0 A).f3)] 79 (0,0))):=⟨GL D⟩;have aC:AD (Below w.heap.size w ((((aY.setCell ⟨B,0,none⟩ (.int .i64 ((AA l0 A).f0))).setCell ⟨B,1,none⟩ (.int .i64 ((AA l0 A).f1))).setCell ⟨B,2,none⟩ (.int .i64 ((AA l0 A).f2))).setCell ⟨B,3,none⟩ (.int .i64 ((AA l0 A).f3)))):=⟨bQ⟩;generalize ((((aY.setCell ⟨B,0,none⟩ (.int .i64 ((AA l0 A).f0))).setCell ⟨B,1,none⟩ (.int .i64 ((AA l0 A).f1))).setCell ⟨B,2,none⟩ (.int .i64 ((AA l0 A).f2))).setCell ⟨B,3,none⟩ (.int .i64 ((AA l0 A).f3)))=bW at aA aC |-
       have D:=aA;have HB:=aC;clear aA aC;replace D:=dK D;replace HB:=dB HB;refine sU 18 (fun w'=>w'.cell? ⟨B,0,none⟩=some (.int .i64 ((AA l0 A).f0))/\w'.cell? ⟨B,1,none⟩=some (.int .i64 ((AA l0 A).f1))/\w'.cell? ⟨B,2,none⟩=some (.int .i64 ((AA l0 A).f2))/\w'.cell? ⟨B,3,none⟩=some (.int .i64 ((AA l0 A).f3))) rfl BN.FC (Bi D) (fun hHeld HT_ HW_=>?_);generalize bW.drew=cC at D HB hHeld |-;refine kU 0 ?_;refine jU 1 (fun K hK=>?_);refine aO func103 (Cj.c ((AA l0 A).f0) ((AA l0 A).f1) ((AA l0 A).f2) ((AA l0 A).f3) true _ A6.o) ?_;rintro e cD ⟨rfl,hb⟩;refine ⟨_,rfl,?_⟩;replace D:=uB D hb;replace HB:=uH hb;(skip);(skip);(skip);refine oK hK (Bi D) (fun hHeld=>?_);clear hK K;refine pU 2 ?_;refine pU 3 ?_;refine pU 4 ?_;refine pU 5 ?_;refine pU 6 ?_;refine wU 7 ?_;refine wU 8 ?_;refine wU 9 ?_;refine wU 10 ?_;refine wU 11 ?_;refine wU 12 ?_;refine wU 13 ?_;refine wU 14 ?_;refine wU 15 ?_;refine pU 16 ?_;refine pU 17 ?_;refine CY (BY HT_.o kF) ?_;(try go_wp2);(go_roundg k1);(case measure=>have:=aP.o;omega);(case rel=>exact ⟨wrap64 (A+1),vQ,H',⟨mA aP⟩,⟨bQ⟩⟩)
     .
      subst c7;replace H:=tF H;obtain rfl:=sI H;obtain ⟨E,Y,aM,aN,P,T,U,X⟩:=Jp aQ HB A;cases Y;(try go_wp2_with ((with_reducible refine AL (N:=4) rfl ?_);refine xU 4 ?_;intro B aZ D hg hb;have aH:=gW hg;replace HB:=uH hb;clear hb hg;have bH:=Bi D;have bK:=DP D));have aA:AD (((((aZ.setCell ⟨B,0,none⟩ (.int .i64 ((AA l0 A).f0))).setCell ⟨B,1,none⟩ (.int .i64 ((AA l0 A).f1))).setCell ⟨B,2,none⟩ (.int .i64 ((AA l0 A).f2))).setCell ⟨B,3,none⟩ (.int .i64 ((AA l0 A).f3))).heap[B]?=some (.cells #[.int .i64 ((AA l0 A).f0),.int .i64 ((AA l0 A).f1),.int .i64 ((AA l0 A).f2),.int .i64 ((AA l0 A).f3)] 79 (0,0))):=⟨GL D⟩;have aC:AD (Below w.heap.size w ((((aZ.setCell ⟨B,0,none⟩ (.int .i64 ((AA l0 A).f0))).setCell ⟨B,1,none⟩ (.int .i64 ((AA l0 A).f1))).setCell ⟨B,2,none⟩ (.int .i64 ((AA l0 A).f2))).setCell ⟨B,3,none⟩ (.int .i64 ((AA l0 A).f3)))):=⟨bQ⟩;generalize ((((aZ.setCell ⟨B,0,none⟩ (.int .i64 ((AA l0 A).f0))).setCell ⟨B,1,none⟩ (.int .i64 ((AA l0 A).f1))).setCell ⟨B,2,none⟩ (.int .i64 ((AA l0 A).f2))).setCell ⟨B,3,none⟩ (.int .i64 ((AA l0 A).f3)))=bX at aA aC |-
      have D:=aA;have HB:=aC;clear aA aC;replace D:=dK D;replace HB:=dB HB;refine sU 18 (fun w'=>w'.cell? ⟨B,0,none⟩=some (.int .i64 ((AA l0 A).f0))/\w'.cell? ⟨B,1,none⟩=some (.int .i64 ((AA l0 A).f1))/\w'.cell? ⟨B,2,none⟩=some (.int .i64 ((AA l0 A).f2))/\w'.cell? ⟨B,3,none⟩=some (.int .i64 ((AA l0 A).f3))) rfl BN.FC (Bi D) (fun hHeld HT_ HW_=>?_);generalize bX.drew=cF at D HB hHeld |-;refine kU 0 ?_;refine jU 1 (fun K hK=>?_);refine aO func103 (Cj.c ((AA l0 A).f0) ((AA l0 A).f1) ((AA l0 A).f2) ((AA l0 A).f3) false _ A6.o) ?_;rintro e cG ⟨rfl,hb⟩;refine ⟨_,rfl,?_⟩;replace D:=uB D hb;replace HB:=uH hb;(skip);(skip);(skip);refine oK hK (Bi D) (fun hHeld=>?_);clear hK K;refine pU 2 ?_;refine pU 3 ?_;refine wU 4 ?_;refine wU 5 ?_;refine wU 6 ?_;refine wU 7 ?_;refine wU 8 ?_;refine wU 9 ?_;refine wU 10 ?_;refine wU 11 ?_;refine wU 12 ?_;refine wU 13 ?_;refine wU 14 ?_;refine wU 15 ?_;refine wU 16 ?_;refine pU 17 ?_;refine CY (BY HT_.o kF) ?_;(try go_wp2);go_ret;exact ⟨eQ,bQ⟩
    . obtain ⟨aU,H⟩:=iF c3 H;clear c3;obtain rfl:=sI H;go_wp2;go_ret;exact ⟨eQ,bQ⟩
def Cf.l0:Nat->Int->Int->Int->Int->List Int->Int->Int->Option Bool
 | 0,_,_,_,_,_,_,_=>none
 | k+1,x0,x1,x2,x3,B,D,A=>if A<D then (if 0<=A then (if A<(B.length:Int) then ((Ad.f (rd B A) 0 7).bind fun t116=>(if t116=true then (Cf.l0 k x0 x1 x2 x3 B D (wrap64 (A+1))) else (some false))) else none) else none) else (if x0=x1 then (some false) else (if x0=x2 then (some false) else (if x0=x3 then (some false) else (if x1=x2 then (some false) else (if x1=x3 then (some false) else (if x2=x3 then (some false) else (some ((decide ((Int.tmod (wrap64 ((wrap64 (x2-x0))+8)) 8)<(Int.tmod (wrap64 ((wrap64 (x1-x0))+8)) 8))) != (decide ((Int.tmod (wrap64 ((wrap64 (x3-x0))+8)) 8)<(Int.tmod (wrap64 ((wrap64 (x1-x0))+8)) 8)))))))))))
def Cf.f (k:Nat) (a0:Int) (a1:Int) (a2:Int) (a3:Int):Option Bool:=(some (([a0,a1,a2,a3]:List Int):List Int)).bind fun A=>(Cf.l0 k a0 a1 a2 a3 A (A.length:Int) 0)
theorem Cf.c (k:Nat) (a0:Int) (a1:Int) (a2:Int) (a3:Int) (r:Bool) (w:World) (h:Cf.f k a0 a1 a2 a3=some r) :
 Calls prog 104 #[.int .i64 a0,.int .i64 a1,.int .i64 a2,.int .i64 a3] w fun e w'=>e=.returned (.bool r)/\Below w.heap.size w w':=by
 have HB:=bR w;have H:=h;unfold Cf.f at H;obtain ⟨B,G,H⟩:=eX H;have H':=aK H;go_enter func104,ntmps104;(go_wp2_with (refine AL (N:=16) rfl ?_;refine lI 16 [a0,a1,a2,a3] ?_;intro bA w5 aT hb;rw [<-G.o] at aT;have D:=lR aT;replace HB:=uH hb;clear hb;obtain ⟨aV,aX,rfl⟩:=AW D.o));(go_loopg [18] k (fun kq v18 w'=>∃ (A:Int),v18=.int .i64 A/\AD (Cf.l0 kq a0 a1 a2 a3 B (B.length:Int) A=some r)/\AD (kq<=k)/\AD (Kd.R kI 3 w' w.heap.size (fun _=>True) (.slice aV B.length aX) B)/\AD (Below w.heap.size w w')));(case atStart=>exact ⟨0,vQ,H',⟨Nat.le_refl _⟩,⟨rR D⟩,⟨bQ⟩⟩)
 case round =>
  obtain ⟨A,rfl,HA,aH,E,HB⟩:=hrel
  cases gk with
  | zero=>exact nS HA
  | succ k1 =>
   have H:=HA.o;simp only [Cf.l0] at H;(by_cases c8:A<(B.length:Int))
   .
    obtain ⟨aF,H⟩:=iT c8 H;obtain ⟨aW,H⟩:=nQ H;obtain ⟨aJ,H⟩:=nQ H;obtain ⟨t116,aU,aD⟩:=sK H;obtain ⟨aI,aG,aY,aZ,aC⟩:=oI (AO E.o).2.2 A;cases aG;(go_upto_if 24 with (refine gC 49 rfl ?_;refine aL 23 func49 (Ad.c (rd B A) 0 7 t116 _ aU.o) ?_;rintro e w' ⟨rfl,⟨nd,rfl⟩⟩;refine ⟨_,rfl,?_⟩));(try simp only [Act.put,lQ,lZ,lS]);have H:=aD.o;(rcases eB t116 with aE|aE);(· subst aE;replace H:=tT H;have H':=aK H;go_wp2;(go_roundg k1);(case measure=>have:=aH.o;omega);(case rel=>exact ⟨wrap64 (A+1),vQ,H',⟨mA aH⟩,⟨rR E⟩,⟨bQ⟩⟩));(· subst aE;replace H:=tF H;obtain rfl:=sI H;go_wp2;go_ret;exact ⟨eQ,bQ⟩)
   .
    obtain ⟨aF,H⟩:=iF c8 H;(by_cases aM:a0=a1);(· obtain ⟨I,J,H⟩:=iE aM H;obtain rfl:=sI H;go_wp2;go_ret;exact ⟨eQ,bQ⟩)
    .
     obtain ⟨I,J,H⟩:=iN aM H;(by_cases aN:a0=a2);(· obtain ⟨L,M,H⟩:=iE aN H;obtain rfl:=sI H;go_wp2;go_ret;exact ⟨eQ,bQ⟩)
     .
      obtain ⟨L,M,H⟩:=iN aN H;(by_cases aP:a0=a3);(· obtain ⟨O,P,H⟩:=iE aP H;obtain rfl:=sI H;go_wp2;go_ret;exact ⟨eQ,bQ⟩)
      .
       obtain ⟨O,P,H⟩:=iN aP H;(by_cases aQ:a1=a2);(· obtain ⟨T,U,H⟩:=iE aQ H;obtain rfl:=sI H;go_wp2;go_ret;exact ⟨eQ,bQ⟩)
       .
        obtain ⟨T,U,H⟩:=iN aQ H;(by_cases aR:a1=a3);(· obtain ⟨X,Y,H⟩:=iE aR H;obtain rfl:=sI H;go_wp2;go_ret;exact ⟨eQ,bQ⟩)
        .
         obtain ⟨X,Y,H⟩:=iN aR H;(by_cases aS:a2=a3);(· obtain ⟨Z,aA,H⟩:=iE aS H;obtain rfl:=sI H;go_wp2;go_ret;exact ⟨eQ,bQ⟩);(· obtain ⟨Z,aA,H⟩:=iN aS H;obtain rfl:=sI H;go_wp2;go_ret;exact ⟨eQ,bQ⟩)
def DL.f (a0:Int):Option Int:=(Ad.f a0 0 3).bind fun t117=>(if t117=true then (some (wrap64 (2*a0))) else (some (-1)))
theorem DL.c (a0:Int) (r:Int) (w:World) (h:DL.f a0=some r) :
 Calls prog 105 #[.int .i64 a0] w fun e w'=>e=.returned (.int .i64 r)/\Cx w w':=by
 have H:=h;unfold DL.f at H;obtain ⟨t117,A2,A⟩:=sK H;go_enter func105,ntmps105;(go_upto_if 5 with (refine gC 49 rfl ?_;refine aL 4 func49 (Ad.c a0 0 3 t117 _ A2.o) ?_;rintro e w' ⟨rfl,⟨nd,rfl⟩⟩;refine ⟨_,rfl,?_⟩));(try simp only [Act.put,lQ,lZ,lS]);have H:=A.o;(rcases eB t117 with c4|c4);(· subst c4;replace H:=tT H;obtain rfl:=sI H;go_wp2;go_ret;exact ⟨vQ,dQ⟩);(· subst c4;replace H:=tF H;obtain rfl:=sI H;go_wp2;go_ret;exact ⟨vQ,dQ⟩)
def DE.f (a0:Int):Option Int:=(Ad.f a0 0 3).bind fun t118=>(if t118=true then (some (wrap64 ((wrap64 (2*a0))+1))) else (some (-1)))
theorem DE.c (a0:Int) (r:Int) (w:World) (h:DE.f a0=some r) :
 Calls prog 106 #[.int .i64 a0] w fun e w'=>e=.returned (.int .i64 r)/\Cx w w':=by
 have H:=h;unfold DE.f at H;obtain ⟨t118,A2,A⟩:=sK H;go_enter func106,ntmps106;(go_upto_if 5 with (refine gC 49 rfl ?_;refine aL 4 func49 (Ad.c a0 0 3 t118 _ A2.o) ?_;rintro e w' ⟨rfl,⟨nd,rfl⟩⟩;refine ⟨_,rfl,?_⟩));(try simp only [Act.put,lQ,lZ,lS]);have H:=A.o;(rcases eB t118 with c4|c4);(· subst c4;replace H:=tT H;obtain rfl:=sI H;go_wp2;go_ret;exact ⟨vQ,dQ⟩);(· subst c4;replace H:=tF H;obtain rfl:=sI H;go_wp2;go_ret;exact ⟨vQ,dQ⟩)
def BI.j0:Nat->Bool->Int->Int->Int->Int->Int->Int->Int->Int->Option Bool
 | 0,_,_,_,_,_,_,_,_,_=>none
 | k+1,M,J,G,A,D,L,I,B,E=>if M=true then (some false) else (if G=2 then (if B=A then (some true) else (some (E == A))) else (if I=2 then (if A=B then (some true) else (some (D == B))) else (if A=B then ((DL.f A).bind fun t123=>((DE.f D).bind fun t124=>((DL.f B).bind fun t125=>((DE.f E).bind fun t126=>((Cf.f k t123 t124 t125 t126).bind fun t127=>(some t127)))))) else (if D=E then (some true) else ((DL.f A).bind fun t128=>((DE.f D).bind fun t129=>((DL.f B).bind fun t130=>((DE.f E).bind fun t131=>((Cf.f k t128 t129 t130 t131).bind fun t132=>(some t132))))))))))
def BI.f (k:Nat) (D:Int) (A:Int) (E:Int) (G:Int) (I:Int) (B:Int) (J:Int) (L:Int):Option Bool:=(Cj.f D A E G).bind fun t121=>(if t121=true then ((Cj.f I B J L).bind fun t122=>(if t122=true then (if A=2 then (BI.j0 k (B == 2) D A E G I B J L) else (BI.j0 k false D A E G I B J L)) else (BI.j0 k true D A E G I B J L))) else (BI.j0 k true D A E G I B J L))
theorem BI.Mb:Br (C9 .any (opsOf f66 7)).2 [0,1,0,4,15,31,63,127,63,319,1023,2047,4095,8191,16383,32767,8191,73727,262143,8191,532479,2097151,8191,4202495,16777215,33554431,67108863,134217727]=true:=by kernel_rfl
theorem BI.c (k:Nat) (U:Int) (O:Int) (J:Int) (M:Int) (X:Int) (T:Int) (L:Int) (P:Int) (r:Bool) (w:World) (h:BI.f k U O J M X T L P=some r) :
 Calls prog 66 #[.agg #[.int .i64 U,.int .i64 O,.int .i64 J,.int .i64 M],.agg #[.int .i64 X,.int .i64 T,.int .i64 L,.int .i64 P]] w fun e w'=>e=.returned (.bool r)/\Below w.heap.size w w':=by
 have dU:=underlying79;have HB:=bR w;have H:=h;unfold BI.f at H;clear h;have aR:=aK H;clear H;go_enter func66,ntmps66;(go_upto_region 1 with (first|((with_reducible refine AL (N:=2) rfl ?_);refine xU 2 ?_;intro G w4 A hg hb;have aZ:=gW hg;replace HB:=uH hb;clear hb hg)|((with_reducible refine AL (N:=3) rfl ?_);refine xU 3 ?_;intro I w5 B hg hb;have bA:=gW hg;have D:=nB hg (rB A);have E:=mB hg (rB A);replace A:=uB A hb;replace HB:=uH hb;clear hb hg)));(try simp only [Act.put,lQ,lZ,lS]);(go_cut [22] (fun v22 wc=>∃ (kq:Nat) (Z:Bool),v22=.bool Z/\AD (BI.j0 kq Z U O J M X T L P=some r)/\AD (kq<=k)/\AD (wc.heap[G]?=some (.cells #[.int .i64 U,.int .i64 O,.int .i64 J,.int .i64 M] 79 (0,0)))/\AD (wc.heap[I]?=some (.cells #[.int .i64 X,.int .i64 T,.int .i64 L,.int .i64 P] 79 (0,0)))/\AD (Below w.heap.size w wc)))
 case first =>
  have H:=aR.o;clear aR;obtain ⟨t121,A6,H⟩:=sQ H;(rcases eB t121 with c7|c7)
  .
   subst c7;replace H:=tT H;obtain ⟨t122,A8,H⟩:=sQ H;(rcases eB t122 with c9|c9)
   .
    subst c9;replace H:=tT H;(by_cases Gt:O=2)
    . obtain ⟨Y,aA,H⟩:=iE Gt H;clear Gt;(try first|rw [Y]|rw [aA]|(simp only [Ae,Aj];rw [Y]));have H':=aK H;clear H;have cH:=D.o;have cU:=E.o;have bC:=Bi A;(go_wp2_with (first|((with_reducible refine gC 103 rfl ?_);refine aB 6 func103 (Cj.c U O J M true _ A6.o) fun dW hb=>?_;replace A:=uB A hb;replace B:=uB B hb;replace HB:=uH hb;have bD:=Bi B)|(go_at_call 103;(with_reducible refine (Cj.c X T L P true _ A8.o).mono ?_);rintro e dX ⟨rfl,hb⟩;replace A:=uB A hb;replace B:=uB B hb;replace HB:=uH hb;have bF:=Bi A;have bH:=Bi B)));(go_meet);(case rel=>exact ⟨_,(T == 2),vQ,H',⟨oL⟩,⟨rB A⟩,⟨rB B⟩,⟨bQ⟩⟩)
    . obtain ⟨Y,aA,H⟩:=iN Gt H;(try first|rw [Y]|rw [aA]|(simp only [Ae,Aj];rw [Y]));have H':=aK H;clear H;have cI:=D.o;have cV:=E.o;have bI:=Bi A;(go_wp2_with (first|((with_reducible refine gC 103 rfl ?_);refine aB 6 func103 (Cj.c U O J M true _ A6.o) fun dY hb=>?_;replace A:=uB A hb;replace B:=uB B hb;replace HB:=uH hb;have bJ:=Bi B)|(go_at_call 103;(with_reducible refine (Cj.c X T L P true _ A8.o).mono ?_);rintro e dZ ⟨rfl,hb⟩;replace A:=uB A hb;replace B:=uB B hb;replace HB:=uH hb;have bK:=Bi A)));(go_meet);(case rel=>exact ⟨_,false,vQ,H',⟨oL⟩,⟨rB A⟩,⟨rB B⟩,⟨bQ⟩⟩)
   . subst c9;replace H:=tF H;have H':=aK H;clear H;have cJ:=D.o;have cW:=E.o;have bL:=Bi A;(go_wp2_with (first|((with_reducible refine gC 103 rfl ?_);refine aB 6 func103 (Cj.c U O J M true _ A6.o) fun fA hb=>?_;replace A:=uB A hb;replace B:=uB B hb;replace HB:=uH hb;have bM:=Bi B)|(go_at_call 103;(with_reducible refine (Cj.c X T L P false _ A8.o).mono ?_);rintro e fB ⟨rfl,hb⟩;replace A:=uB A hb;replace B:=uB B hb;replace HB:=uH hb)));(go_meet);(case rel=>exact ⟨_,true,vQ,H',⟨oL⟩,⟨rB A⟩,⟨rB B⟩,⟨bQ⟩⟩)
  . subst c7;replace H:=tF H;have H':=aK H;clear H;have cK:=D.o;have cX:=E.o;have bO:=Bi A;(go_wp2_with ((with_reducible refine gC 103 rfl ?_);refine aB 6 func103 (Cj.c U O J M false _ A6.o) fun fD hb=>?_;replace A:=uB A hb;replace B:=uB B hb;replace HB:=uH hb));(go_meet);(case rel=>exact ⟨_,true,vQ,H',⟨oL⟩,⟨rB A⟩,⟨rB B⟩,⟨bQ⟩⟩)
 case rest =>
  clear aR;obtain ⟨kq,Z,rfl,HA,dV,A,B,HB⟩:=hcut
  cases kq with
  | zero=>exact nS HA
  | succ dH =>
   have H:=HA.o;clear HA;simp only [BI.j0] at H;(rcases eB Z with aS|aS);(· subst aS;replace H:=tT H;obtain rfl:=sI H;go_wp2;go_ret;exact ⟨eQ,bQ⟩)
   .
    subst aS;replace H:=tF H;(by_cases aT:O=2)
    .
     obtain ⟨aC,aD,H⟩:=iE aT H;clear aT;(by_cases aU:L=J)
     . obtain ⟨aE,aF,H⟩:=iE aU H;clear aU;obtain rfl:=sI H;have cL:=D.o;have cY:=E.o;have bP:=Bi A;have bS:=Bi B;go_wp2;go_ret;exact ⟨eQ,bQ⟩
     . obtain ⟨aE,aF,H⟩:=iN aU H;obtain rfl:=sI H;have cM:=D.o;have cZ:=E.o;have bT:=Bi A;have bU:=Bi B;go_wp2;go_ret;exact ⟨eQ,bQ⟩
    .
     obtain ⟨aC,aD,H⟩:=iN aT H;(by_cases aV:T=2)
     .
      obtain ⟨aG,aH,H⟩:=iE aV H;clear aV;(by_cases aW:J=L)
      . obtain ⟨aI,aJ,H⟩:=iE aW H;clear aW;obtain rfl:=sI H;have cO:=D.o;have dA:=E.o;have bV:=Bi A;have bW:=Bi B;go_wp2;go_ret;exact ⟨eQ,bQ⟩
      . obtain ⟨aI,aJ,H⟩:=iN aW H;obtain rfl:=sI H;have cP:=D.o;have dD:=E.o;have bX:=Bi A;have bY:=Bi B;go_wp2;go_ret;exact ⟨eQ,bQ⟩
     .
      obtain ⟨aG,aH,H⟩:=iN aV H;(by_cases aX:J=L)
      .
       obtain ⟨aM,aN,H⟩:=iE aX H;clear aX;obtain ⟨t123,dI,H⟩:=sQ H;obtain ⟨t124,dJ,H⟩:=sQ H;obtain ⟨t125,dL,H⟩:=sQ H;obtain ⟨t126,dM,H⟩:=sQ H;obtain ⟨t127,dN,H⟩:=sQ H;obtain rfl:=sI H;have cR:=D.o;have dE:=E.o;have bZ:=Bi A;have cB:=Bi B;(try go_wp2);replace A:=dK A;replace B:=dK B;replace HB:=dB HB;refine sU 28 (fun w'=>w'.cell? ⟨G,0,none⟩=some (.int .i64 U)/\w'.cell? ⟨G,1,none⟩=some (.int .i64 O)/\w'.cell? ⟨G,2,none⟩=some (.int .i64 J)/\w'.cell? ⟨G,3,none⟩=some (.int .i64 M)/\w'.cell? ⟨I,0,none⟩=some (.int .i64 X)/\w'.cell? ⟨I,1,none⟩=some (.int .i64 T)/\w'.cell? ⟨I,2,none⟩=some (.int .i64 L)/\w'.cell? ⟨I,3,none⟩=some (.int .i64 P)) rfl BI.Mb ⟨zC A 0 _,zC A 1 _,zC A 2 _,zC A 3 _,Bi B⟩ (fun hHeld HT_ HW_=>?_);generalize wc.drew=fE at A B HB hHeld |-;refine pU 0 ?_;refine pU 2 ?_;refine kU 1 ?_;refine kU 3 ?_;refine pU 4 ?_;refine pU 5 ?_;refine wU 6 ?_;refine wU 7 ?_;refine wU 8 ?_;refine wU 9 ?_;refine wU 10 ?_;refine pU 11 ?_;refine pU 12 ?_;refine pU 13 ?_;refine pU 16 ?_;refine pU 19 ?_;refine pU 22 ?_;refine kU 14 ?_;refine kU 17 ?_;refine kU 20 ?_;refine kU 23 ?_;refine jU 15 (fun K hK=>?_);refine aO func105 (DL.c J t123 _ dI.o) ?_;rintro e w' ⟨rfl,⟨nd,rfl⟩⟩;refine ⟨_,rfl,?_⟩;refine oK hK ⟨zC A 0 _,zC A 1 _,zC A 2 _,zC A 3 _,Bi B⟩ (fun hHeld=>?_);clear hK K
       refine jU 18 (fun K hK=>?_);refine aO func106 (DE.c M t124 _ dJ.o) ?_;rintro e w' ⟨rfl,⟨nd,rfl⟩⟩;refine ⟨_,rfl,?_⟩;refine oK hK ⟨zC A 0 _,zC A 1 _,zC A 2 _,zC A 3 _,Bi B⟩ (fun hHeld=>?_);clear hK K;refine jU 21 (fun K hK=>?_);refine aO func105 (DL.c L t125 _ dL.o) ?_;rintro e w' ⟨rfl,⟨nd,rfl⟩⟩;refine ⟨_,rfl,?_⟩;refine oK hK ⟨zC A 0 _,zC A 1 _,zC A 2 _,zC A 3 _,Bi B⟩ (fun hHeld=>?_);clear hK K;refine jU 24 (fun K hK=>?_);refine aO func106 (DE.c P t126 _ dM.o) ?_;rintro e w' ⟨rfl,⟨nd,rfl⟩⟩;refine ⟨_,rfl,?_⟩;refine oK hK ⟨zC A 0 _,zC A 1 _,zC A 2 _,zC A 3 _,Bi B⟩ (fun hHeld=>?_);clear hK K;refine jU 25 (fun K hK=>?_);refine aO func104 (Cf.c dH t123 t124 t125 t126 t127 _ dN.o) ?_;rintro e fF ⟨rfl,hb⟩;refine ⟨_,rfl,?_⟩;replace A:=uB A hb;replace B:=uB B hb;replace HB:=uH hb;(skip);(skip);(skip);refine oK hK ⟨zC A 0 _,zC A 1 _,zC A 2 _,zC A 3 _,Bi B⟩ (fun hHeld=>?_);clear hK K;refine pU 26 ?_;refine pU 27 ?_;refine CY (BY HT_.o kF) ?_;(try go_wp2);go_ret;exact ⟨eQ,bQ⟩
      .
       obtain ⟨aM,aN,H⟩:=iN aX H;(by_cases aY:M=P)
       . obtain ⟨aP,aQ,H⟩:=iE aY H;clear aY;obtain rfl:=sI H;have cS:=D.o;have dF:=E.o;have cC:=Bi A;have cD:=Bi B;(try go_wp2);replace A:=dK A;replace B:=dK B;replace HB:=dB HB;refine sU 28 (fun w'=>w'.cell? ⟨G,0,none⟩=some (.int .i64 U)/\w'.cell? ⟨G,1,none⟩=some (.int .i64 O)/\w'.cell? ⟨G,2,none⟩=some (.int .i64 J)/\w'.cell? ⟨G,3,none⟩=some (.int .i64 M)/\w'.cell? ⟨I,0,none⟩=some (.int .i64 X)/\w'.cell? ⟨I,1,none⟩=some (.int .i64 T)/\w'.cell? ⟨I,2,none⟩=some (.int .i64 L)/\w'.cell? ⟨I,3,none⟩=some (.int .i64 P)) rfl BI.Mb ⟨zC A 0 _,zC A 1 _,zC A 2 _,zC A 3 _,Bi B⟩ (fun hHeld HT_ HW_=>?_);generalize wc.drew=Gn at A B HB hHeld |-;refine pU 0 ?_;refine pU 2 ?_;refine kU 1 ?_;refine kU 3 ?_;refine pU 4 ?_;refine pU 5 ?_;refine pU 6 ?_;refine pU 8 ?_;refine kU 7 ?_;refine kU 9 ?_;refine pU 10 ?_;refine pU 11 ?_;refine pU 12 ?_;refine wU 13 ?_;refine wU 14 ?_;refine wU 15 ?_;refine wU 16 ?_;refine wU 17 ?_;refine wU 18 ?_;refine wU 19 ?_;refine wU 20 ?_;refine wU 21 ?_;refine wU 22 ?_;refine wU 23 ?_;refine wU 24 ?_;refine wU 25 ?_;refine pU 26 ?_;refine pU 27 ?_;refine CY (BY HT_.o kF) ?_;(try go_wp2);go_ret;exact ⟨eQ,bQ⟩
       .
        obtain ⟨aP,aQ,H⟩:=iN aY H;obtain ⟨t128,dO,H⟩:=sQ H;obtain ⟨t129,dP,H⟩:=sQ H;obtain ⟨t130,dR,H⟩:=sQ H;obtain ⟨t131,dS,H⟩:=sQ H;obtain ⟨t132,dT,H⟩:=sQ H;obtain rfl:=sI H;have cT:=D.o;have dG:=E.o;have cF:=Bi A;have cG:=Bi B;(try go_wp2);replace A:=dK A;replace B:=dK B;replace HB:=dB HB;refine sU 28 (fun w'=>w'.cell? ⟨G,0,none⟩=some (.int .i64 U)/\w'.cell? ⟨G,1,none⟩=some (.int .i64 O)/\w'.cell? ⟨G,2,none⟩=some (.int .i64 J)/\w'.cell? ⟨G,3,none⟩=some (.int .i64 M)/\w'.cell? ⟨I,0,none⟩=some (.int .i64 X)/\w'.cell? ⟨I,1,none⟩=some (.int .i64 T)/\w'.cell? ⟨I,2,none⟩=some (.int .i64 L)/\w'.cell? ⟨I,3,none⟩=some (.int .i64 P)) rfl BI.Mb ⟨zC A 0 _,zC A 1 _,zC A 2 _,zC A 3 _,Bi B⟩ (fun hHeld HT_ HW_=>?_);generalize wc.drew=fG at A B HB hHeld |-;refine pU 0 ?_;refine pU 2 ?_;refine kU 1 ?_;refine kU 3 ?_;refine pU 4 ?_;refine pU 5 ?_;refine pU 6 ?_;refine pU 8 ?_;refine kU 7 ?_;refine kU 9 ?_;refine pU 10 ?_;refine pU 11 ?_;refine pU 12 ?_;refine pU 13 ?_;refine pU 16 ?_;refine pU 19 ?_;refine pU 22 ?_;refine kU 14 ?_;refine kU 17 ?_;refine kU 20 ?_;refine kU 23 ?_;refine jU 15 (fun K hK=>?_);refine aO func105 (DL.c J t128 _ dO.o) ?_;rintro e w' ⟨rfl,⟨nd,rfl⟩⟩;refine ⟨_,rfl,?_⟩;refine oK hK ⟨zC A 0 _,zC A 1 _,zC A 2 _,zC A 3 _,Bi B⟩ (fun hHeld=>?_);clear hK K
        refine jU 18 (fun K hK=>?_);refine aO func106 (DE.c M t129 _ dP.o) ?_;rintro e w' ⟨rfl,⟨nd,rfl⟩⟩;refine ⟨_,rfl,?_⟩;refine oK hK ⟨zC A 0 _,zC A 1 _,zC A 2 _,zC A 3 _,Bi B⟩ (fun hHeld=>?_);clear hK K;refine jU 21 (fun K hK=>?_);refine aO func105 (DL.c L t130 _ dR.o) ?_;rintro e w' ⟨rfl,⟨nd,rfl⟩⟩;refine ⟨_,rfl,?_⟩;refine oK hK ⟨zC A 0 _,zC A 1 _,zC A 2 _,zC A 3 _,Bi B⟩ (fun hHeld=>?_);clear hK K;refine jU 24 (fun K hK=>?_);refine aO func106 (DE.c P t131 _ dS.o) ?_;rintro e w' ⟨rfl,⟨nd,rfl⟩⟩;refine ⟨_,rfl,?_⟩;refine oK hK ⟨zC A 0 _,zC A 1 _,zC A 2 _,zC A 3 _,Bi B⟩ (fun hHeld=>?_);clear hK K;refine jU 25 (fun K hK=>?_);refine aO func104 (Cf.c dH t128 t129 t130 t131 t132 _ dT.o) ?_;rintro e fH ⟨rfl,hb⟩;refine ⟨_,rfl,?_⟩;replace A:=uB A hb;replace B:=uB B hb;replace HB:=uH hb;(skip);(skip);(skip);refine oK hK ⟨zC A 0 _,zC A 1 _,zC A 2 _,zC A 3 _,Bi B⟩ (fun hHeld=>?_);clear hK K;refine pU 26 ?_;refine pU 27 ?_;refine CY (BY HT_.o kF) ?_;(try go_wp2);go_ret;exact ⟨eQ,bQ⟩
def AX.from_ (a1:Int):List Ai->Int->Int
 | [],_=>-1
 | x::r,i=>if (x.f0 == a1)=true then i else AX.from_ a1 r (i+1)
def AX.f (l0:List Ai) (a1:Int):Option Int:=some (AX.from_ a1 l0 0)
theorem AX.asks (x:Ai) (g1:Nat) (a1:Int) (w:World) (B:g1<w.heap.size) (A:w.cell? ⟨g1,0,none⟩=some (.int .i64 a1)) :
 Calls prog 130 #[.agg #[.int .i64 x.f0,.int .i64 x.f1,.int .i64 x.f2,.int .i64 x.f3],.pointer (some ⟨g1,0,none⟩)] w fun e w'=>e=.returned (.bool ((x.f0 == a1)))/\Below w.heap.size w w':=by
 have hu_:=underlying79
 have D:g1≠w.heap.size:=by omega
 go_enter func130,ntmps130
 go_wp2
 go_ret
 exact ⟨by simp_all,(Below.refl _ _).alloc (Nat.le_refl _) _⟩
theorem AX.RA (A0:Option Addr) (c0:Nat) (l0:List Ai) (a1:Int) (g1:Nat) (w:World) (O:Kd.C D0 w A0 l0.length l0) (hc0:l0.length<=c0) (E:g1<w.heap.size) (D:w.cell? ⟨g1,0,none⟩=some (.int .i64 a1)) :
 Calls prog 129 #[.slice A0 l0.length c0,.func (.func 130) #[] #[.pointer (some ⟨g1,0,none⟩)]] w fun e w'=>e=.returned (.int .i64 (AX.from_ a1 l0 0))/\Below w.heap.size w w':=by
 have hbig:l0.length<=9223372036854775807:=O.2.1
 have HR:=aK O
 have G:=aK D
 clear D
 go_enter func129,ntmps129
 go_wp2
 go_loopw [8] (fun i wr=>∃ j:Nat,j<=l0.length/\i=.int .i64 j/\AD (Below w.heap.size w wr)/\AD (AX.from_ a1 l0 0=AX.from_ a1 (l0.drop j) j)) (fun i _=>l0.length-(intOf i).toNat)
 case atStart=>exact ⟨0,Nat.zero_le _,rfl,⟨Below.refl _ _⟩,⟨rfl⟩⟩
 case round =>
  obtain ⟨j,hj,rfl,HB,HF⟩:=hrel
  by_cases hlt:j<l0.length
  . obtain ⟨ad,eA,I,J,L,M⟩:=F0 HR.o (j:Int) oM oM
    cases eA
    have hb:=HB.o
    replace I:=(hb.cell (World.block_lt_of_cell? w _ I)).trans I
    replace J:=(hb.cell (World.block_lt_of_cell? w _ J)).trans J
    replace L:=(hb.cell (World.block_lt_of_cell? w _ L)).trans L
    replace M:=(hb.cell (World.block_lt_of_cell? w _ M)).trans M
    clear hb
    simp only [Int.toNat_natCast] at I J L M
    have HE:AD (AA l0 (j:Int)=l0[j]):=⟨by simp [AA,hlt]⟩
    generalize AA l0 (j:Int)=x at I J L M HE
    have B:AD (g1<wr.heap.size):=⟨Nat.lt_of_lt_of_le E (AF HB.o)⟩
    have A:AD (wr.cell? ⟨g1,0,none⟩=some (.int .i64 a1)):=⟨(HB.o.cell (p:=⟨g1,0,none⟩) E).trans G.o⟩
    cases hq:((x.f0 == a1)) with
    | true =>
     have HP:=aK hq
     go_wp2_with (go_at_call 130;refine (AX.asks x g1 a1 wr B.o A.o).mono ?_;rintro e w' ⟨rfl,hb'⟩;have HB':=aK hb';clear hb')
     go_ret
     refine ⟨?_,HB.o.trans (HB'.o.mono (AF HB.o))⟩
     rw [HF.o,List.drop_eq_getElem_cons hlt,AX.from_,if_pos (by rw [<-HE.o];exact HP.o)]
     rfl
    | false =>
     have HP:=aK hq
     go_wp2_with (go_at_call 130;refine (AX.asks x g1 a1 wr B.o A.o).mono ?_;rintro e w' ⟨rfl,hb'⟩;have HB':=aK hb';clear hb')
     go_roundw
     case rel=>exact ⟨j+1,by omega,by go_num,⟨HB.o.trans (HB'.o.mono (AF HB.o))⟩,⟨by rw [HF.o,List.drop_eq_getElem_cons hlt,AX.from_,if_neg (by rw [<-HE.o,HP.o];exact Bool.false_ne_true)];rfl⟩⟩
     case measure=>simp [intOf];omega
  . have e:j=l0.length:=by omega
    subst e
    go_wp2
    go_ret
    refine ⟨?_,HB.o⟩
    rw [HF.o,List.drop_length,AX.from_]
    rfl
theorem AX.c (A0:Option Addr) (c0:Nat) (l0:List Ai) (a1:Int) (r:Int) (w:World) (A:Kd.C D0 w A0 l0.length l0) (hc0:l0.length<=c0) (h:AX.f l0 a1=some r) :
 Calls prog 90 #[.slice A0 l0.length c0,.int .i64 a1] w fun e w'=>e=.returned (.int .i64 r)/\Below w.heap.size w w':=by
 obtain rfl:=Option.some.inj h
 have HR:=aK A
 skip
 go_enter func90,ntmps90
 go_wp2_with (go_at_call 129;refine (AX.RA A0 c0 l0 a1 w.heap.size _ (by (with_reducible repeat (first|exact HR.o|apply FT))) hc0 (by first|(simp;done)|(simp;omega)) (by first|(simp;done)|(simp;omega))).mono ?_;rintro e w' ⟨rfl,hb'⟩;have HB':=aK hb';clear hb')
 go_ret
 exact ⟨rfl,((Below.refl _ w).alloc (Nat.le_refl _) _).trans (HB'.o.mono (by first|(simp;done)|(simp;omega)))⟩
mutual
def AM.l0:Nat->List Ai->List Int->List Int->Int->Int->Option Bool
 | 0,_,_,_,_,_=>none
 | k+1,x0,x1,B,D,A=>if A<D then (if 0<=A then (if A<(B.length:Int) then ((AX.f x0 (rd B A)).bind fun t135=>(if t135<0 then (AM.j1 k x0 x1 A t135 B D A true) else (if A>0 then (if 0<=(wrap64 (A-1)) then (if (wrap64 (A-1))<(x1.length:Int) then (AM.j1 k x0 x1 A t135 B D A (decide ((rd B A)<=(rd x1 (wrap64 (A-1)))))) else none) else none) else (AM.j1 k x0 x1 A t135 B D A false)))) else none) else none) else (some true)
def AM.j1:Nat->List Ai->List Int->Int->Int->List Int->Int->Int->Bool->Option Bool
 | 0,_,_,_,_,_,_,_,_=>none
 | k+1,x0,x1,x5,x7,B,D,A,J=>if J=true then (some false) else (if 0<=x5 then (if x5<=(x1.length:Int) then (AM.l1 k x0 x1 x7 B D A (x1.take (x5:Int).toNat) ((x1.take (x5:Int).toNat).length:Int) 0) else none) else none)
def AM.l1:Nat->List Ai->List Int->Int->List Int->Int->Int->List Int->Int->Int->Option Bool
 | 0,_,_,_,_,_,_,_,_,_=>none
 | k+1,x0,x1,x7,B,D,A,G,I,E=>if E<I then (if 0<=E then (if E<(G.length:Int) then (if 0<=x7 then (if x7<(x0.length:Int) then ((AX.f x0 (rd G E)).bind fun t140=>(if 0<=t140 then (if t140<(x0.length:Int) then ((BI.f k ((AA x0 x7).f0) ((AA x0 x7).f1) ((AA x0 x7).f2) ((AA x0 x7).f3) ((AA x0 t140).f0) ((AA x0 t140).f1) ((AA x0 t140).f2) ((AA x0 t140).f3)).bind fun t142=>(if t142=true then (some false) else (AM.l1 k x0 x1 x7 B D A G I (wrap64 (E+1))))) else none) else none)) else none) else none) else none) else none) else (AM.l0 k x0 x1 B D (wrap64 (A+1)))
end
def AM.f (k:Nat) (l0:List Ai) (l1:List Int):Option Bool:=(BN.f k l0).bind fun t133=>(if t133=true then (AM.l0 k l0 l1 l1 (l1.length:Int) 0) else (some false))
theorem AM.SW:Br (C9 .any (opsOf f88 12)).2 [0,0,3,7,0,0,0,96,240,496,1023]=true:=by kernel_rfl
theorem AM.c (k:Nat) (A0:Option Addr) (c0:Nat) (l0:List Ai) (A1:Option Addr) (c1:Nat) (l1:List Int) (r:Bool) (w:World) (dH:Kd.C D0 w A0 l0.length l0) (hc0:l0.length<=c0) (hr1:Kd.C kI w A1 l1.length l1) (cX:l1.length<=c1) (h:AM.f k l0 l1=some r) :
 Calls prog 88 #[.slice A0 l0.length c0,.slice A1 l1.length c1] w fun e w'=>e=.returned (.bool r)/\Below w.heap.size w w':=by
 have dI:=underlying79;have aU:=aK dH;have bM:=aK hc0;clear hc0;have bS:=aK hr1;have dD:=aK cX;clear cX;have HB:=bR w;have H:=h;unfold AM.f at H;obtain ⟨t133,A3,dE⟩:=sK H;go_enter func88,ntmps88;(go_upto_if 12 with (refine gC 64 rfl ?_;refine aB 11 func64 (BN.c k _ _ l0 t133 _ (rC aU) bM.o A3.o) fun w5 hb=>?_;replace HB:=uH hb));(try simp only [Act.put,lQ,lZ,lS]);have H:=dE.o;(rcases eB t133 with c6|c6)
 .
  subst c6;replace H:=tT H;have H':=aK H;go_wp2;(go_loopg [15] k (fun kq v15 w'=>∃ (A:Int),v15=.int .i64 A/\AD (AM.l0 kq l0 l1 l1 (l1.length:Int) A=some r)/\AD (kq<=k)/\AD (Below w.heap.size w w')));(case atStart=>exact ⟨0,vQ,H',⟨Nat.le_refl _⟩,⟨bQ⟩⟩)
  case round =>
   obtain ⟨A,rfl,HA,aT,HB⟩:=hrel
   cases gk with
   | zero=>exact nS HA
   | succ k1 =>
    have H:=HA.o;simp only [AM.l0] at H;(by_cases c7:A<(l1.length:Int))
    .
     obtain ⟨aD,H⟩:=iT c7 H;(try first|rw [aD]|(simp only [Ae,Aj];rw [aD]));obtain ⟨dF,H⟩:=nQ H;obtain ⟨dG,H⟩:=nQ H;obtain ⟨t135,cY,bO⟩:=sK H;obtain ⟨aA,bV,dJ,dP,bJ⟩:=rI bS HB A;cases bV;(go_upto_region 7 with (refine gC 90 rfl ?_;refine aB 22 func90 (AX.c _ _ l0 (rd l1 A) t135 _ (cA aU) bM.o cY.o) fun dX hb=>?_;replace HB:=uH hb));(try simp only [Act.put,lQ,lZ,lS]);(go_cut [37] (fun v37 wc=>∃ (kq:Nat) (U:Bool),v37=.bool U/\AD (AM.j1 kq l0 l1 A t135 l1 (l1.length:Int) A U=some r)/\AD (kq<=k1)/\AD (Below w.heap.size w wc)))
     case first =>
      have H:=bO.o;(by_cases cF:t135<0);(· obtain ⟨X,H⟩:=iT cF H;(try first|rw [X]|(simp only [Ae,Aj];rw [X]));have H':=aK H;go_wp2;(go_meet);(case rel=>exact ⟨_,true,vQ,H',⟨mA aT⟩,⟨bQ⟩⟩))
      .
       obtain ⟨X,H⟩:=iF cF H;(try first|rw [X]|(simp only [Ae,Aj];rw [X]));(by_cases cG:A>0)
       . obtain ⟨aZ,H⟩:=iT cG H;obtain ⟨Z,Y⟩:∃ j_:Int,(wrap64 (A-1))=j_:=⟨_,rfl⟩;(replace H:(if 0<=(Z) then (if (Z)<(l1.length:Int) then (AM.j1 k1 l0 l1 A t135 l1 (l1.length:Int) A (decide ((rd l1 A)<=(rd l1 (Z))))) else none) else none)=some r:=by first|(rw [Y] at H;exact H)|(simp only [Y] at H |-;exact H));have cC:(IntKind.i64.wrap (A-1))=Z:=(Ae _).trans Y;obtain ⟨cH,H⟩:=nQ H;obtain ⟨cI,H⟩:=nQ H;have H':=aK H;obtain ⟨aW,bW,dL,dR,bK⟩:=rI bS HB (Z);obtain rfl:aA=aW:=(by injection bW);go_wp2;(go_meet);(case rel=>exact ⟨_,decide ((rd l1 A)<=(rd l1 (Z))),(by first|rfl|(simp;done)|(simp only [<-Y] <;> (first|rfl|simp))|(simp [*];done)),H',⟨mA aT⟩,⟨bQ⟩⟩)
       . obtain ⟨aZ,H⟩:=iF cG H;have H':=aK H;go_wp2;(go_meet);(case rel=>exact ⟨_,false,vQ,H',⟨mA aT⟩,⟨bQ⟩⟩)
     case rest =>
      obtain ⟨kq,U,rfl,HA,aE,HB⟩:=hcut
      cases kq with
      | zero=>exact nS HA
      | succ bH =>
       have H:=HA.o;simp only [AM.j1] at H;(rcases eB U with bT|bT);(· subst bT;replace H:=tT H;obtain rfl:=sI H;go_wp2;go_ret;exact ⟨eQ,bQ⟩)
       .
        subst bT;replace H:=tF H;obtain ⟨cJ,H⟩:=nP H;have cK:=eq_true cJ;have bA:=decide_eq_true cJ;obtain ⟨cL,H⟩:=nP H;have cM:=eq_true cL;have bC:=decide_eq_true cL;have H':=aK H;obtain ⟨i021,aR,_,aS,_⟩:=info_parts De;obtain ⟨cB,bD,bF⟩:=KL (P:=prog) (Value.int .i64) 0 23 3 .i64 underlying23 aR aS (some aA) c1 l1 A (oD) (oD) dD.o;have aV:=aK (Ig (h1:=fun _=>rfl) (bD _ (I0 bS.o)));have cD:=aK bF;clear bD bF aR aS;have hmx_:=aK (show ((l1.take (A:Int).toNat).length:Int)=max A 0 from by have dV:=of_decide_eq_true bA;have dW:=of_decide_eq_true bC;rw [List.length_take];omega);go_wp2;(go_loopg [42] bH (fun kq v42 w'=>∃ (D:Int),v42=.int .i64 D/\AD (AM.l1 kq l0 l1 t135 l1 (l1.length:Int) A (l1.take (A:Int).toNat) ((l1.take (A:Int).toNat).length:Int) D=some r)/\AD (kq<=bH)/\AD (Below w.heap.size w w')));(case atStart=>exact ⟨0,vQ,H',⟨Nat.le_refl _⟩,⟨bQ⟩⟩)
        case round =>
         obtain ⟨D,rfl,HA,bI,HB⟩:=hrel
         cases gk with
         | zero=>exact nS HA
         | succ k3 =>
          have H:=HA.o;simp only [AM.l1] at H;(by_cases cO:D<((l1.take (A:Int).toNat).length:Int))
          .
           obtain ⟨aC,H⟩:=iT cO H;(have aQ:decide (D<max A 0)=true:=by rw [<-hmx_.o];exact aC);have cP:=eq_true (of_decide_eq_true aQ);obtain ⟨cR,H⟩:=nQ H;obtain ⟨cS,H⟩:=nQ H;obtain ⟨cT,H⟩:=nQ H;obtain ⟨cU,H⟩:=nQ H;obtain ⟨t140,cZ,H⟩:=sQ H;obtain ⟨cV,H⟩:=nQ H;obtain ⟨cW,H⟩:=nQ H;obtain ⟨t142,dA,bP⟩:=sK H;obtain ⟨aX,bX,dM,dS,bL⟩:=rI aV HB D;obtain rfl:aA=aX:=(by injection bX);(try go_wp2);replace HB:=dB HB;obtain ⟨B,bY,dN,dT,E,G,I,J,aF,aG,aH,aI⟩:=Kx aU HB t135;cases bY;obtain ⟨aY,bZ,dO,dU,L,M,O,T,aJ,aM,aN,aP⟩:=Kx aU HB t140;obtain rfl:B=aY:=(by injection bZ);refine sU 11 (fun w'=>w'.cell? (B.add ((t135).toNat*4))=some (.int .i64 ((AA l0 t135).f0))/\w'.cell? ⟨(B.add ((t135).toNat*4)).block,(B.add ((t135).toNat*4)).off+1,none⟩=some (.int .i64 ((AA l0 t135).f1))/\w'.cell? ⟨(B.add ((t135).toNat*4)).block,(B.add ((t135).toNat*4)).off+2,none⟩=some (.int .i64 ((AA l0 t135).f2))/\w'.cell? ⟨(B.add ((t135).toNat*4)).block,(B.add ((t135).toNat*4)).off+3,none⟩=some (.int .i64 ((AA l0 t135).f3))/\w'.cell? (B.add ((t140).toNat*4))=some (.int .i64 ((AA l0 t140).f0))/\w'.cell? ⟨(B.add ((t140).toNat*4)).block,(B.add ((t140).toNat*4)).off+1,none⟩=some (.int .i64 ((AA l0 t140).f1))/\w'.cell? ⟨(B.add ((t140).toNat*4)).block,(B.add ((t140).toNat*4)).off+2,none⟩=some (.int .i64 ((AA l0 t140).f2))/\w'.cell? ⟨(B.add ((t140).toNat*4)).block,(B.add ((t140).toNat*4)).off+3,none⟩=some (.int .i64 ((AA l0 t140).f3))) rfl AM.SW ⟨cQ HB E,cQ HB G,cQ HB I,cQ HB J,cQ HB L,cQ HB M,cQ HB O,cQ HB T⟩ (fun hHeld HT_ HW_=>?_)
           generalize wr.drew=dY at HB aF aG aH aI aJ aM aN aP hHeld |-;refine pU 0 ?_;refine pU 1 ?_;refine pU 2 ?_;refine pU 4 ?_;refine pU 5 ?_;refine pU 6 ?_;refine kU 3 ?_;refine jU 7 (fun K hK=>?_);refine aO func90 (AX.c _ _ l0 (rd (l1.take (A:Int).toNat) D) t140 _ (cA aU) bM.o cZ.o) ?_;rintro e dZ ⟨rfl,hb⟩;refine ⟨_,rfl,?_⟩;replace HB:=uH hb;(skip);(skip);(skip);refine oK hK ⟨cQ HB E,cQ HB G,cQ HB I,cQ HB J,cQ HB L,cQ HB M,cQ HB O,cQ HB T⟩ (fun hHeld=>?_);clear hK K;refine pU 8 ?_;refine kU 9 ?_;refine jU 10 (fun K hK=>?_);refine aO func66 (BI.c k3 ((AA l0 t135).f0) ((AA l0 t135).f1) ((AA l0 t135).f2) ((AA l0 t135).f3) ((AA l0 t140).f0) ((AA l0 t140).f1) ((AA l0 t140).f2) ((AA l0 t140).f3) t142 _ dA.o) ?_;rintro e fA ⟨rfl,hb⟩;refine ⟨_,rfl,?_⟩;replace HB:=uH hb;(skip);(skip);(skip);refine oK hK ⟨cQ HB E,cQ HB G,cQ HB I,cQ HB J,cQ HB L,cQ HB M,cQ HB O,cQ HB T⟩ (fun hHeld=>?_);clear hK K;refine CY (BY HT_.o kF) ?_;(go_upto_if 56 with (fail));have H:=bP.o;(rcases eB t142 with bU|bU);(· subst bU;replace H:=tT H;obtain rfl:=sI H;go_wp2;go_ret;exact ⟨eQ,bQ⟩);(· subst bU;replace H:=tF H;have H':=aK H;go_wp2;(go_roundg k3);(case measure=>have:=aT.o;have:=aE.o;have:=bI.o;omega);(case rel=>exact ⟨wrap64 (D+1),vQ,H',⟨by have:=aT.o;have:=aE.o;have:=bI.o;omega⟩,⟨bQ⟩⟩))
          . obtain ⟨aC,H⟩:=iF cO H;(have aQ:decide (D<max A 0)=false:=by rw [<-hmx_.o];exact aC);have H':=aK H;go_wp2;(go_roundg k3);(case measure=>have:=aT.o;have:=aE.o;have:=bI.o;omega);(case rel=>exact ⟨wrap64 (A+1),vQ,H',⟨by have:=aT.o;have:=aE.o;have:=bI.o;omega⟩,⟨bQ⟩⟩)
    . obtain ⟨aD,H⟩:=iF c7 H;(try first|rw [aD]|(simp only [Ae,Aj];rw [aD]));obtain rfl:=sI H;go_wp2;go_ret;exact ⟨eQ,bQ⟩
 . subst c6;replace H:=tF H;obtain rfl:=sI H;go_wp2;go_ret;exact ⟨eQ,bQ⟩
def Di.f (B:Int) (A:Int) (D:Int) (E:Int):Option Int:=(Cj.f B A D E).bind fun t144=>(if t144=true then (if A=1 then (some 2) else (if A=3 then (some 3) else (some 5))) else (some 0))
theorem Di.c (E:Int) (B:Int) (G:Int) (I:Int) (r:Int) (w:World) (h:Di.f E B G I=some r) :
 Calls prog 67 #[.agg #[.int .i64 E,.int .i64 B,.int .i64 G,.int .i64 I]] w fun e w'=>e=.returned (.int .i64 r)/\Below w.heap.size w w':=by
 have aA:=underlying79;have HB:=bR w;have H:=h;unfold Di.f at H;obtain ⟨t144,A2,X⟩:=sK H;go_enter func67,ntmps67;(go_upto_if 5 with (first|(refine AL (N:=1) rfl ?_;refine xU 1 ?_;intro P w4 A hg hb;have O:=gW hg;replace HB:=uH hb;clear hb hg;have Y:=Bi A)|(refine gC 103 rfl ?_;refine aB 4 func103 (Cj.c E B G I t144 _ A2.o) fun w6 hb=>?_;replace A:=uB A hb;replace HB:=uH hb)));(try simp only [Act.put,lQ,lZ,lS]);have H:=X.o;(rcases eB t144 with c7|c7)
 .
  subst c7;replace H:=tT H;(by_cases c8:B=1)
  . obtain ⟨D,J,H⟩:=iE c8 H;(try first|rw [D]|rw [J]|(simp only [Ae,Aj];rw [D]));obtain rfl:=sI H;have Z:=Bi A;go_wp2;go_ret;exact ⟨eQ,bQ⟩
  .
   obtain ⟨D,J,H⟩:=iN c8 H;(try first|rw [D]|rw [J]|(simp only [Ae,Aj];rw [D]));(by_cases Gt:B=3)
   . obtain ⟨L,M,H⟩:=iE Gt H;obtain rfl:=sI H;have T:=Bi A;go_wp2;go_ret;exact ⟨eQ,bQ⟩
   . obtain ⟨L,M,H⟩:=iN Gt H;obtain rfl:=sI H;have U:=Bi A;go_wp2;go_ret;exact ⟨eQ,bQ⟩
 . subst c7;replace H:=tF H;obtain rfl:=sI H;go_wp2;go_ret;exact ⟨eQ,bQ⟩
def DQ.l0:Nat->List Int->Bool->List Int->List Int->Int->Int->Option (List Int)
 | 0,_,_,_,_,_,_=>none
 | k+1,x1,x2,x7,B,D,A=>if A<D then (if 0<=A then (if A<(B.length:Int) then ((AV.f k x1 (rd B A)).bind fun t149=>(if (t149 == x2)=true then (if x7.length<17592186044416 then (DQ.l0 k x1 x2 (x7++[rd B A]) B D (wrap64 (A+1))) else none) else (DQ.l0 k x1 x2 x7 B D (wrap64 (A+1))))) else none) else none) else (some x7)
def DQ.f (k:Nat) (l0:List Int) (l1:List Int) (a2:Bool):Option (List Int):=DQ.l0 k l1 a2 (([]:List Int)) l0 (l0.length:Int) 0
theorem DQ.c (k:Nat) (A0:Option Addr) (c0:Nat) (l0:List Int) (A1:Option Addr) (c1:Nat) (l1:List Int) (a2:Bool) (r:List Int) (w:World) (aS:Kd.C kI w A0 l0.length l0) (hc0:l0.length<=c0) (hr1:Kd.C kI w A1 l1.length l1) (aG:l1.length<=c1) (h:DQ.f k l0 l1 a2=some r) :
 Calls prog 153 #[.slice A0 l0.length c0,.slice A1 l1.length c1,.bool a2] w fun e w'=>∃ aI:Value,e=.returned (aI)/\Kd.R kI 3 w' w.heap.size (fun _=>True) aI r/\Below w.heap.size w w':=by
 have aM:=aK aS;have aZ:=aK hc0;clear hc0;have aN:=aK hr1;have aJ:=aK aG;clear aG;have HB:=bR w;have H:=h;unfold DQ.f at H;obtain ⟨aC,J⟩:=eY ((([]:List Int)):List Int);rw [<-J.o] at H;have H':=aK H;go_enter func153,ntmps153;(go_wp2_with (refine AL (N:=10) rfl ?_;refine lI 10 [] ?_;intro aX w4 aH hb;rw [<-J.o] at aH;have M:=lR aH;replace HB:=uH hb;clear hb));(go_loopg [7,13] k (fun kq v7 v13 w'=>∃ (D:List Int) (A:Int),v13=.int .i64 A/\AD (DQ.l0 kq l1 a2 D l0 (l0.length:Int) A=some r)/\AD (kq<=k)/\AD (Kd.R kI 3 w' w.heap.size (fun _=>True) v7 D)/\AD (Below w.heap.size w w')));(case atStart=>exact ⟨aC,0,vQ,H',⟨Nat.le_refl _⟩,⟨rR M⟩,⟨bQ⟩⟩)
 case round =>
  obtain ⟨D,A,rfl,HA,U,G,HB⟩:=hrel
  cases gk with
  | zero=>exact nS HA
  | succ k1 =>
   have H:=HA.o;simp only [DQ.l0] at H;(by_cases c6:A<(l0.length:Int))
   .
    obtain ⟨Z,H⟩:=iT c6 H;obtain ⟨aQ,H⟩:=nQ H;obtain ⟨aR,H⟩:=nQ H;obtain ⟨t149,A9,Y⟩:=sK H;obtain ⟨aE,aA,aV,aW,X⟩:=rI aM HB A;cases aA;(go_upto_if 21 with (refine gC 73 rfl ?_;refine aL 19 func73 (AV.c k1 _ _ l1 (rd l0 A) t149 _ (cA aN) aJ.o A9.o) ?_;rintro e w' ⟨rfl,⟨nd,rfl⟩⟩;refine ⟨_,rfl,?_⟩));(try simp only [Act.put,lQ,lZ,lS]);have H:=Y.o;(by_cases I:(t149 == a2)=true)
    . rw [if_pos I] at H;have B:(t149 == a2)=true:=I;(try (have E:decide (t149=a2)=true:=by simpa using I));(try (have T:(t149 == a2)=true:=by simpa using I));(try first|rw [B]|rw [E]|(simp only [Ae,Aj];rw [B]));obtain ⟨aP,H⟩:=nP H;have P:=aK aP;obtain ⟨aD,L⟩:=eY ((D++[rd l0 A]):List Int);rw [<-L.o] at H;have H':=aK H;(go_wp2_with (refine BT (b:=.append) (xs:=#[.tmp 22,.tmp 24]) rfl ?_;at_builtin;refine rP kI 22 24 underlying23 De u7 D (rd l0 A) [.int .i64 (rd l0 A)] (fun _=>True) rfl (rR G) (fun _ _=>trivial) (by have:=P.o;omega) ?_;intro aY bA ho hb hg hat;rw [<-L.o] at ho;have aT:=aK (hb);have aU:=aK (ho);clear HB;clear G;have HB:=aT;have O:=aU;clear hb hg hat));(go_roundg k1);(case measure=>have:=U.o;omega);(case rel=>exact ⟨aD,wrap64 (A+1),vQ,H',⟨mA U⟩,⟨rR O⟩,⟨bQ⟩⟩)
    . rw [if_neg I] at H;(have B:(t149 == a2)=false:=by simpa using I);(try (have E:decide (t149=a2)=false:=by simpa using I));(try (have T:(t149 == a2)=false:=by simpa using I));(try (have aF:¬ (t149=a2):=by simpa using I));(try first|rw [B]|rw [E]|(simp only [Ae,Aj];rw [B]));have H':=aK H;go_wp2;(go_roundg k1);(case measure=>have:=U.o;omega);(case rel=>exact ⟨D,wrap64 (A+1),vQ,H',⟨mA U⟩,⟨rR G⟩,⟨bQ⟩⟩)
   . obtain ⟨Z,H⟩:=iF c6 H;obtain rfl:=sI H;go_wp2;go_ret;exact ⟨_,eQ,rR G,bQ⟩
def EY.f (k:Nat) (l0:List Int) (l1:List Int):Option (List Int):=(DQ.f k l0 l1 false).bind fun t153=>(some t153)
theorem EY.c (k:Nat) (A0:Option Addr) (c0:Nat) (l0:List Int) (A1:Option Addr) (c1:Nat) (l1:List Int) (r:List Int) (w:World) (M:Kd.C kI w A0 l0.length l0) (hc0:l0.length<=c0) (hr1:Kd.C kI w A1 l1.length l1) (B:l1.length<=c1) (h:EY.f k l0 l1=some r) :
 Calls prog 128 #[.slice A0 l0.length c0,.slice A1 l1.length c1] w fun e w'=>∃ D:Value,e=.returned (D)/\Kd.R kI 3 w' w.heap.size (fun _=>True) D r/\Below w.heap.size w w':=by
 have I:=aK M;have E:=aK hc0;clear hc0;have J:=aK hr1;have G:=aK B;clear B;have HB:=bR w;have H:=h;unfold EY.f at H;obtain ⟨t153,A3,H⟩:=sQ H;obtain rfl:=sI H;go_enter func128,ntmps128;(go_wp2_with (refine gC 153 rfl ?_;refine aL 7 func153 (DQ.c k _ _ l0 _ _ l1 false t153 _ (rC I) E.o (rC J) G.o A3.o) ?_;rintro e w4 ⟨O,rfl,L,hb⟩;refine ⟨_,rfl,?_⟩;have A:=lR L;replace HB:=uH hb));go_ret;exact ⟨_,eQ,rR A,bQ⟩
mutual
def Ab.j0:Nat->List Ai->List Int->List Int->Int->Bool->Option Int
 | 0,_,_,_,_,_=>none
 | k+1,x0,x1,x2,x7,J=>if J=true then (some x7) else ((EY.f k x1 x2).bind fun t158=>(Ab.l0 k x0 x1 x2 x7 t158 (t158.length:Int) 0))
def Ab.l0:Nat->List Ai->List Int->List Int->Int->List Int->Int->Int->Option Int
 | 0,_,_,_,_,_,_,_=>none
 | k+1,x0,x1,x2,x7,B,D,A=>if A<D then (if 0<=A then (if A<(B.length:Int) then ((EY.f k x2 x1).bind fun t162=>(Ab.l1 k x0 x1 x2 x7 (rd B A) B D A t162 (t162.length:Int) 0)) else none) else none) else (some x7)
def Ab.l1:Nat->List Ai->List Int->List Int->Int->Int->List Int->Int->Int->List Int->Int->Int->Option Int
 | 0,_,_,_,_,_,_,_,_,_,_,_=>none
 | k+1,x0,x1,x2,x7,x9,B,D,A,G,I,E=>if E<I then (if 0<=E then (if E<(G.length:Int) then ((AX.f x0 x9).bind fun t166=>(if 0<=t166 then (if t166<(x0.length:Int) then ((AX.f x0 (rd G E)).bind fun t169=>(if 0<=t169 then (if t169<(x0.length:Int) then ((BI.f k ((AA x0 t166).f0) ((AA x0 t166).f1) ((AA x0 t166).f2) ((AA x0 t166).f3) ((AA x0 t169).f0) ((AA x0 t169).f1) ((AA x0 t169).f2) ((AA x0 t169).f3)).bind fun t171=>(if t171=true then ((Di.f ((AA x0 t166).f0) ((AA x0 t166).f1) ((AA x0 t166).f2) ((AA x0 t166).f3)).bind fun t172=>(Ab.l1 k x0 x1 x2 (mx x7 t172) x9 B D A G I (wrap64 (E+1)))) else (Ab.l1 k x0 x1 x2 x7 x9 B D A G I (wrap64 (E+1))))) else none) else none)) else none) else none)) else none) else none) else (Ab.l0 k x0 x1 x2 x7 B D (wrap64 (A+1)))
end
def Ab.f (k:Nat) (l0:List Ai) (l1:List Int) (l2:List Int):Option Int:=(AM.f k l0 l1).bind fun t156=>(if t156=true then ((AM.f k l0 l2).bind fun t157=>(Ab.j0 k l0 l1 l2 0 (!t157))) else (Ab.j0 k l0 l1 l2 0 true))
theorem Ab.KT:Br (C9 .any (opsOf f89 11)).2 [0,0,0,0,12,30,62,127]=true:=by kernel_rfl
theorem Ab.c (k:Nat) (A0:Option Addr) (c0:Nat) (l0:List Ai) (A1:Option Addr) (c1:Nat) (l1:List Int) (A2:Option Addr) (c2:Nat) (l2:List Int) (r:Int) (w:World) (dJ:Kd.C D0 w A0 l0.length l0) (hc0:l0.length<=c0) (hr1:Kd.C kI w A1 l1.length l1) (cR:l1.length<=c1) (hr2:Kd.C kI w A2 l2.length l2) (cS:l2.length<=c2) (h:Ab.f k l0 l1 l2=some r) :
 Calls prog 89 #[.slice A0 l0.length c0,.slice A1 l1.length c1,.slice A2 l2.length c2] w fun e w'=>e=.returned (.int .i64 r)/\Below w.heap.size w w':=by
 have dL:=underlying79;have aR:=aK dJ;have aZ:=aK hc0;clear hc0;have bI:=aK hr1;have bH:=aK cR;clear cR;have bS:=aK hr2;have bO:=aK cS;clear cS;have HB:=bR w;have H:=h;unfold Ab.f at H;have dI:=aK H;go_enter func89,ntmps89;(go_upto_region 2 with (fail));(go_cut [22] (fun v22 wc=>∃ (kq:Nat) (aD:Bool),v22=.bool aD/\AD (Ab.j0 kq l0 l1 l2 0 aD=some r)/\AD (kq<=k)/\AD (Below w.heap.size w wc)))
 case first =>
  have H:=dI.o;obtain ⟨t156,A5,H⟩:=sQ H;(rcases eB t156 with c6|c6)
  . subst c6;replace H:=tT H;obtain ⟨t157,A7,H⟩:=sQ H;have H':=aK H;(go_wp2_with (first|(refine gC 88 rfl ?_;refine aB 15 func88 (AM.c k _ _ l0 _ _ l1 true _ (cA aR) aZ.o (cA bI) bH.o A5.o) fun w8 hb=>?_;replace HB:=uH hb)|(go_at_call 88;(with_reducible refine (AM.c k _ _ l0 _ _ l2 t157 _ (cA aR) aZ.o (cA bS) bO.o A7.o).mono ?_);rintro e w9 ⟨rfl,hb⟩;replace HB:=uH hb)));(go_meet);(case rel=>exact ⟨_,!t157,vQ,H',⟨oL⟩,⟨bQ⟩⟩)
  . subst c6;replace H:=tF H;have H':=aK H;(go_wp2_with (refine gC 88 rfl ?_;refine aB 15 func88 (AM.c k _ _ l0 _ _ l1 false _ (cA aR) aZ.o (cA bI) bH.o A5.o) fun dW hb=>?_;replace HB:=uH hb));(go_meet);(case rel=>exact ⟨_,true,vQ,H',⟨oL⟩,⟨bQ⟩⟩)
 case rest =>
  obtain ⟨kq,aD,rfl,HA,aV,HB⟩:=hcut
  cases kq with
  | zero=>exact nS HA
  | succ cB =>
   have H:=HA.o;simp only [Ab.j0] at H;(rcases eB aD with bT|bT);(· subst bT;replace H:=tT H;obtain rfl:=sI H;go_wp2;go_ret;exact ⟨eQ,bQ⟩)
   .
    subst bT;replace H:=tF H;obtain ⟨t158,dD,H⟩:=sQ H;have H':=aK H;(go_wp2_with (refine gC 128 rfl ?_;refine aL 26 func128 (EY.c cB _ _ l1 _ _ l2 t158 _ (cA bI) bH.o (cA bS) bO.o dD.o) ?_;rintro e dX ⟨dT,rfl,bJ,hb⟩;refine ⟨_,rfl,?_⟩;have aN:=lR bJ;replace HB:=uH hb;obtain ⟨bM,aE,rfl⟩:=AW aN.o));(go_loopg [7,28] cB (fun kq v7 v28 w'=>∃ (aM:Int) (G:Int),v7=.int .i64 aM/\v28=.int .i64 G/\AD (Ab.l0 kq l0 l1 l2 aM t158 (t158.length:Int) G=some r)/\AD (kq<=cB)/\AD (Kd.R kI 3 w' w.heap.size (fun _=>True) (.slice bM t158.length aE) t158)/\AD (Below w.heap.size w w')));(case atStart=>exact ⟨0,0,vQ,vQ,H',⟨Nat.le_refl _⟩,⟨rR aN⟩,⟨bQ⟩⟩)
    case round =>
     obtain ⟨aM,G,rfl,rfl,HA,aW,D,HB⟩:=hrel
     cases gk with
     | zero=>exact nS HA
     | succ k2 =>
      have H:=HA.o;simp only [Ab.l0] at H;(by_cases cF:G<(t158.length:Int))
      .
       obtain ⟨bC,H⟩:=iT cF H;obtain ⟨cG,H⟩:=nQ H;obtain ⟨cH,H⟩:=nQ H;obtain ⟨t162,dE,H⟩:=sQ H;have H':=aK H;obtain ⟨X,bV,dM,dP,bK⟩:=oI (AO D.o).2.2 G;cases bV;(go_wp2_with (refine gC 128 rfl ?_;refine aL 34 func128 (EY.c k2 _ _ l2 _ _ l1 t162 _ (cA bS) bO.o (cA bI) bH.o dE.o) ?_;rintro e dY ⟨dU,rfl,bJ,hb⟩;refine ⟨_,rfl,?_⟩;have aP:=aK (Am (Bs bJ (CC (rR D))) (AF bQ));replace D:=aK (Bl (rR D) (Aw bJ) hb);replace HB:=uH hb;obtain ⟨aY,aF,rfl⟩:=AW aP.o));(go_loopg [7,36] k2 (fun kq v7 v36 w'=>∃ (U:Int) (I:Int),v7=.int .i64 U/\v36=.int .i64 I/\AD (Ab.l1 kq l0 l1 l2 U (rd t158 G) t158 (t158.length:Int) G t162 (t162.length:Int) I=some r)/\AD (kq<=k2)/\AD (Kd.R kI 3 w' w.heap.size (fun k_=>some k_≠((.slice aY t162.length aF):Value).ownBlock) (.slice (some X) t158.length aE) t158)/\AD (Kd.R kI 3 w' w.heap.size (fun k_=>some k_≠((.slice (some X) t158.length aE):Value).ownBlock) (.slice aY t162.length aF) t162)/\AD (Below w.heap.size w w')));(case atStart=>exact ⟨aM,0,vQ,vQ,H',⟨Nat.le_refl _⟩,⟨sR (AG D.o (fun _ hk=>hk.2))⟩,⟨sR (AG aP.o (fun _ hk=>hk.2))⟩,⟨bQ⟩⟩)
       case round =>
        obtain ⟨U,I,rfl,rfl,HA,aX,D,E,HB⟩:=hrel
        cases gk with
        | zero=>exact nS HA
        | succ k3 =>
         have H:=HA.o;simp only [Ab.l1] at H;(by_cases cI:I<(t162.length:Int))
         .
          obtain ⟨bD,H⟩:=iT cI H;obtain ⟨cJ,H⟩:=nQ H;obtain ⟨cK,H⟩:=nQ H;obtain ⟨t166,dF,H⟩:=sQ H;obtain ⟨cL,H⟩:=nQ H;obtain ⟨cM,H⟩:=nQ H;obtain ⟨t169,dG,H⟩:=sQ H;obtain ⟨cO,H⟩:=nQ H;obtain ⟨cP,H⟩:=nQ H;obtain ⟨t171,dH,bP⟩:=sK H;obtain ⟨aQ,bW,dN,dR,bL⟩:=oI (AO E.o).2.2 I;cases bW;(try go_wp2_with (first|(refine gC 90 rfl ?_;refine aB 43 func90 (AX.c _ _ l0 (rd t158 G) t166 _ (cA aR) aZ.o dF.o) fun dZ hb=>?_;replace D:=uR D hb;replace E:=uR E hb;replace HB:=uH hb;have aT:0<=(t166:Int):=oD;have aU:t166<(l0.length:Int):=oD;obtain ⟨J,bX,Y,Z,aA,aC⟩:=F0 aR.o t166 aT aU;cases bX;replace Y:=cQ HB Y;replace Z:=cQ HB Z;replace aA:=cQ HB aA;replace aC:=cQ HB aC;replace aT:=eq_true aT;replace aU:=eq_true aU)|(refine AL (N:=12) rfl ?_;refine xU 12 ?_;intro B bF A hg hb;have cD:=gW hg;replace D:=uR D hb;replace E:=uR E hb;replace HB:=uH hb;clear hb hg;have cT:=Bi A;have cV:=DP A)));have cX:AD (Kd.R kI 3 ((((bF.setCell ⟨B,0,none⟩ (.int .i64 ((AA l0 t166).f0))).setCell ⟨B,1,none⟩ (.int .i64 ((AA l0 t166).f1))).setCell ⟨B,2,none⟩ (.int .i64 ((AA l0 t166).f2))).setCell ⟨B,3,none⟩ (.int .i64 ((AA l0 t166).f3))) w.heap.size (fun k_=>some k_≠(.slice (some aQ) t162.length aF:Value).ownBlock) (.slice (some X) t158.length aE) t158):=⟨sR (AG (fR B (AN D.o A.o dC)) (fun _ hk=>hk.1))⟩
          have cY:AD (Kd.R kI 3 ((((bF.setCell ⟨B,0,none⟩ (.int .i64 ((AA l0 t166).f0))).setCell ⟨B,1,none⟩ (.int .i64 ((AA l0 t166).f1))).setCell ⟨B,2,none⟩ (.int .i64 ((AA l0 t166).f2))).setCell ⟨B,3,none⟩ (.int .i64 ((AA l0 t166).f3))) w.heap.size (fun k_=>some k_≠(.slice (some X) t158.length aE:Value).ownBlock) (.slice (some aQ) t162.length aF) t162):=⟨sR (AG (fR B (AN E.o A.o dC)) (fun _ hk=>hk.1))⟩;have cZ:AD (((((bF.setCell ⟨B,0,none⟩ (.int .i64 ((AA l0 t166).f0))).setCell ⟨B,1,none⟩ (.int .i64 ((AA l0 t166).f1))).setCell ⟨B,2,none⟩ (.int .i64 ((AA l0 t166).f2))).setCell ⟨B,3,none⟩ (.int .i64 ((AA l0 t166).f3))).heap[B]?=some (.cells #[.int .i64 ((AA l0 t166).f0),.int .i64 ((AA l0 t166).f1),.int .i64 ((AA l0 t166).f2),.int .i64 ((AA l0 t166).f3)] 79 (0,0))):=⟨GL A⟩;have dA:AD (Below w.heap.size w ((((bF.setCell ⟨B,0,none⟩ (.int .i64 ((AA l0 t166).f0))).setCell ⟨B,1,none⟩ (.int .i64 ((AA l0 t166).f1))).setCell ⟨B,2,none⟩ (.int .i64 ((AA l0 t166).f2))).setCell ⟨B,3,none⟩ (.int .i64 ((AA l0 t166).f3)))):=⟨bQ⟩;generalize ((((bF.setCell ⟨B,0,none⟩ (.int .i64 ((AA l0 t166).f0))).setCell ⟨B,1,none⟩ (.int .i64 ((AA l0 t166).f1))).setCell ⟨B,2,none⟩ (.int .i64 ((AA l0 t166).f2))).setCell ⟨B,3,none⟩ (.int .i64 ((AA l0 t166).f3)))=dV at cX cY cZ dA |-;have D:=cX;have E:=cY;have A:=cZ
          have HB:=dA;replace D:=aK (Cq D.o);replace E:=aK (Cq E.o);replace A:=dK A;replace HB:=dB HB;obtain ⟨bA,bY,dO,dS,L,M,O,P,aG,aH,aI,aJ⟩:=Kx aR HB t169;obtain rfl:J=bA:=(by injection bY);refine sU 8 (fun w'=>w'.cell? ⟨B,0,none⟩=some (.int .i64 ((AA l0 t166).f0))/\w'.cell? ⟨B,1,none⟩=some (.int .i64 ((AA l0 t166).f1))/\w'.cell? ⟨B,2,none⟩=some (.int .i64 ((AA l0 t166).f2))/\w'.cell? ⟨B,3,none⟩=some (.int .i64 ((AA l0 t166).f3))/\w'.cell? (J.add ((t169).toNat*4))=some (.int .i64 ((AA l0 t169).f0))/\w'.cell? ⟨(J.add ((t169).toNat*4)).block,(J.add ((t169).toNat*4)).off+1,none⟩=some (.int .i64 ((AA l0 t169).f1))/\w'.cell? ⟨(J.add ((t169).toNat*4)).block,(J.add ((t169).toNat*4)).off+2,none⟩=some (.int .i64 ((AA l0 t169).f2))/\w'.cell? ⟨(J.add ((t169).toNat*4)).block,(J.add ((t169).toNat*4)).off+3,none⟩=some (.int .i64 ((AA l0 t169).f3))) rfl Ab.KT ⟨zC A 0 _,zC A 1 _,zC A 2 _,zC A 3 _,cQ HB L,cQ HB M,cQ HB O,cQ HB P⟩ (fun hHeld HT_ HW_=>?_);generalize dV.drew=fA at D E A HB aG aH aI aJ hHeld |-;refine pU 1 ?_;refine pU 2 ?_;refine pU 3 ?_;refine kU 0 ?_;refine jU 4 (fun K hK=>?_);refine aO func90 (AX.c _ _ l0 (rd t162 I) t169 _ (cA aR) aZ.o dG.o) ?_;rintro e fB ⟨rfl,hb⟩;refine ⟨_,rfl,?_⟩;replace D:=uR D hb;replace E:=uR E hb;replace A:=uB A hb;replace HB:=uH hb;(skip);(skip);(skip);refine oK hK ⟨zC A 0 _,zC A 1 _,zC A 2 _,zC A 3 _,cQ HB L,cQ HB M,cQ HB O,cQ HB P⟩ (fun hHeld=>?_);clear hK K;refine pU 5 ?_
          refine kU 6 ?_;refine jU 7 (fun K hK=>?_);refine aO func66 (BI.c k3 ((AA l0 t166).f0) ((AA l0 t166).f1) ((AA l0 t166).f2) ((AA l0 t166).f3) ((AA l0 t169).f0) ((AA l0 t169).f1) ((AA l0 t169).f2) ((AA l0 t169).f3) t171 _ dH.o) ?_;rintro e fD ⟨rfl,hb⟩;refine ⟨_,rfl,?_⟩;replace D:=uR D hb;replace E:=uR E hb;replace A:=uB A hb;replace HB:=uH hb;(skip);(skip);(skip);refine oK hK ⟨zC A 0 _,zC A 1 _,zC A 2 _,zC A 3 _,cQ HB L,cQ HB M,cQ HB O,cQ HB P⟩ (fun hHeld=>?_);clear hK K;refine CY (BY HT_.o kF) ?_;(go_upto_if 53 with (fail));have H:=bP.o;(rcases eB t171 with bU|bU)
          . subst bU;replace H:=tT H;obtain ⟨t172,cC,H⟩:=sQ H;obtain ⟨aS,T⟩:∃ j_:Int,(mx U t172)=j_:=⟨_,rfl⟩;(replace H:(Ab.l1 k3 l0 l1 l2 aS (rd t158 G) t158 (t158.length:Int) G t162 (t162.length:Int) (wrap64 (I+1)))=some r:=by first|(rw [T] at H;exact H)|(simp only [T] at H |-;exact H));(try rw [T] at cC);have bZ:(if U<t172 then t172 else U)=aS:=T;have H':=aK H;have cU:=Bi A;have cW:=DP A;(go_wp2_with (refine gC 67 rfl ?_;refine aB 56 func67 (Di.c ((AA l0 t166).f0) ((AA l0 t166).f1) ((AA l0 t166).f2) ((AA l0 t166).f3) t172 _ cC.o) fun fE hb=>?_;replace D:=uR D hb;replace E:=uR E hb;replace A:=uB A hb;replace HB:=uH hb));(go_roundg k3);(case measure=>have:=aV.o;have:=aW.o;have:=aX.o;omega);(case rel=>exact ⟨aS,wrap64 (I+1),(by first|rfl|(simp;done)|(simp only [<-T] <;> (first|rfl|simp))|(simp [*];done)),vQ,H',⟨by have:=aV.o;have:=aW.o;have:=aX.o;omega⟩,⟨rR D⟩,⟨rR E⟩,⟨bQ⟩⟩)
          . subst bU;replace H:=tF H;have H':=aK H;go_wp2;(go_roundg k3);(case measure=>have:=aV.o;have:=aW.o;have:=aX.o;omega);(case rel=>exact ⟨U,wrap64 (I+1),vQ,vQ,H',⟨by have:=aV.o;have:=aW.o;have:=aX.o;omega⟩,⟨rR D⟩,⟨rR E⟩,⟨bQ⟩⟩)
         . obtain ⟨bD,H⟩:=iF cI H;have H':=aK H;go_wp2;(go_roundg k3);(case measure=>have:=aV.o;have:=aW.o;have:=aX.o;omega);(case rel=>exact ⟨U,wrap64 (G+1),vQ,vQ,H',⟨by have:=aV.o;have:=aW.o;have:=aX.o;omega⟩,⟨sR (AG D.o (fun _ hk=>trivial))⟩,⟨bQ⟩⟩)
      . obtain ⟨bC,H⟩:=iF cF H;obtain rfl:=sI H;go_wp2;go_ret;exact ⟨eQ,bQ⟩
def Ar.j0:Nat->List Ai->Bool->List Int->Int->List Int->Int->Option Bool
 | 0,_,_,_,_,_,_=>none
 | k+1,x0,G,D,E,A,B=>if G=true then (some false) else (if (A.length:Int)=0 then (some (B == 0)) else ((Ab.f k x0 D A).bind fun t177=>((Ad.f B 1 t177).bind fun t178=>(some t178))))
def Ar.f (k:Nat) (l0:List Ai) (A:List Int) (B:Int) (D:List Int) (E:Int):Option Bool:=(AM.f k l0 A).bind fun t174=>(if t174=true then ((AM.f k l0 D).bind fun t175=>(if t175=true then (if (A.length:Int)=0 then (Ar.j0 k l0 true A B D E) else ((Ad.f B 0 1000000).bind fun t176=>(Ar.j0 k l0 (!t176) A B D E))) else (Ar.j0 k l0 true A B D E))) else (Ar.j0 k l0 true A B D E))
theorem Ar.Hz:Br (C9 .any (opsOf f47 5)).2 [0,1,0,0,8,0,32,124,255,511]=true:=by kernel_rfl
theorem Ar.c (k:Nat) (A0:Option Addr) (c0:Nat) (l0:List Ai) (U:Option Addr) (Y:Nat) (B:List Int) (O:Int) (X:Option Addr) (Z:Nat) (D:List Int) (P:Int) (r:Bool) (w:World) (bK:Kd.C D0 w A0 l0.length l0) (hc0:l0.length<=c0) (aI:Kd.C kI w U B.length B) (aD:B.length<=Y) (aJ:Kd.C kI w X D.length D) (aE:D.length<=Z) (h:Ar.f k l0 B O D P=some r) :
 Calls prog 47 #[.slice A0 l0.length c0,.agg #[.slice U B.length Y,.int .i64 O,.slice X D.length Z,.int .i64 P]] w fun e w'=>e=.returned (.bool r)/\Below w.heap.size w w':=by
 have bL:=underlying36;have aC:=aK bK;have aA:=aK hc0;clear hc0;have G:=aK aI;have E:=aK aD;clear aD;have L:=aK aJ;have J:=aK aE;clear aE;have HB:=bR w;have H:=h;unfold Ar.f at H;have bI:=aK H;go_enter func47,ntmps47;(go_upto_region 1 with (refine AL (N:=3) rfl ?_;(try (refine B2 (by rfl) ?_;dsimp only));refine xU 3 ?_;intro I w4 A hg hb;have aP:=gW hg;replace HB:=uH hb;clear hb hg));(try simp only [Act.put,lQ,lZ,lS]);(go_cut [28] (fun v28 wc=>∃ (kq:Nat) (M:Bool),v28=.bool M/\AD (Ar.j0 kq l0 M B O D P=some r)/\AD (kq<=k)/\AD (wc.heap[I]?=some (.cells #[.slice U B.length Y,.int .i64 O,.slice X D.length Z,.int .i64 P] 36 (0,0)))/\AD (Below w.heap.size w wc)))
 case first =>
  have H:=bI.o;obtain ⟨t174,A5,H⟩:=sQ H;(rcases eB t174 with c6|c6)
  .
   subst c6;replace H:=tT H;obtain ⟨t175,A7,H⟩:=sQ H;(rcases eB t175 with c8|c8)
   .
    subst c8;replace H:=tT H;(by_cases c9:(B.length:Int)=0)
    . obtain ⟨T,aF,H⟩:=iE c9 H;(try first|rw [T]|rw [aF]|(simp only [Ae,Aj];rw [T]));have H':=aK H;have aR:=Bi A;(go_wp2_with (first|(refine gC 88 rfl ?_;refine aB 8 func88 (AM.c k _ _ l0 _ _ B true _ (cA aC) aA.o (cA G) E.o A5.o) fun bP hb=>?_;replace A:=uB A hb;replace HB:=uH hb;have aS:=Bi A)|(go_at_call 88;(with_reducible refine (AM.c k _ _ l0 _ _ D true _ (cA aC) aA.o (cA L) J.o A7.o).mono ?_);rintro e bS ⟨rfl,hb⟩;replace A:=uB A hb;replace HB:=uH hb;have aT:=Bi A)));(go_meet);(case rel=>exact ⟨_,true,vQ,H',⟨oL⟩,⟨rB A⟩,⟨bQ⟩⟩)
    . obtain ⟨T,aF,H⟩:=iN c9 H;(have bJ:¬ (B=[]):=fun h_=>c9 (by rw [h_];rfl));(try first|rw [T]|rw [aF]|(simp only [Ae,Aj];rw [T]));obtain ⟨t176,bD,H⟩:=sQ H;have H':=aK H;have aU:=Bi A;(go_wp2_with (first|(refine gC 88 rfl ?_;refine aB 8 func88 (AM.c k _ _ l0 _ _ B true _ (cA aC) aA.o (cA G) E.o A5.o) fun bT hb=>?_;replace A:=uB A hb;replace HB:=uH hb;have aV:=Bi A)|(go_at_call 88;(with_reducible refine (AM.c k _ _ l0 _ _ D true _ (cA aC) aA.o (cA L) J.o A7.o).mono ?_);rintro e bU ⟨rfl,hb⟩;replace A:=uB A hb;replace HB:=uH hb;have aW:=Bi A)|(go_at_call 49;(with_reducible refine (Ad.c O 0 1000000 t176 _ bD.o).mono ?_);rintro e w' ⟨rfl,⟨nd,rfl⟩⟩)));(go_meet);(case rel=>exact ⟨_,!t176,vQ,H',⟨oL⟩,⟨rB A⟩,⟨bQ⟩⟩)
   . subst c8;replace H:=tF H;have H':=aK H;have aX:=Bi A;(go_wp2_with (first|(refine gC 88 rfl ?_;refine aB 8 func88 (AM.c k _ _ l0 _ _ B true _ (cA aC) aA.o (cA G) E.o A5.o) fun bV hb=>?_;replace A:=uB A hb;replace HB:=uH hb;have aY:=Bi A)|(go_at_call 88;(with_reducible refine (AM.c k _ _ l0 _ _ D false _ (cA aC) aA.o (cA L) J.o A7.o).mono ?_);rintro e bW ⟨rfl,hb⟩;replace A:=uB A hb;replace HB:=uH hb)));(go_meet);(case rel=>exact ⟨_,true,vQ,H',⟨oL⟩,⟨rB A⟩,⟨bQ⟩⟩)
  . subst c6;replace H:=tF H;have H':=aK H;have aZ:=Bi A;(go_wp2_with (refine gC 88 rfl ?_;refine aB 8 func88 (AM.c k _ _ l0 _ _ B false _ (cA aC) aA.o (cA G) E.o A5.o) fun bX hb=>?_;replace A:=uB A hb;replace HB:=uH hb));(go_meet);(case rel=>exact ⟨_,true,vQ,H',⟨oL⟩,⟨rB A⟩,⟨bQ⟩⟩)
 case rest =>
  obtain ⟨kq,M,rfl,HA,bO,A,HB⟩:=hcut
  cases kq with
  | zero=>exact nS HA
  | succ bM =>
   have H:=HA.o;simp only [Ar.j0] at H;(rcases eB M with aM|aM);(· subst aM;replace H:=tT H;obtain rfl:=sI H;go_wp2;go_ret;exact ⟨eQ,bQ⟩)
   .
    subst aM;replace H:=tF H;(by_cases aN:(D.length:Int)=0)
    . obtain ⟨aG,aH,H⟩:=iE aN H;obtain rfl:=sI H;have bA:=Bi A;go_wp2;go_ret;exact ⟨eQ,bQ⟩
    .
     obtain ⟨aG,aH,H⟩:=iN aN H;(have aQ:¬ (D=[]):=fun h_=>aN (by rw [h_];rfl));obtain ⟨t177,bF,H⟩:=sQ H;obtain ⟨t178,bH,H⟩:=sQ H;obtain rfl:=sI H;have bC:=Bi A;(try go_wp2);replace A:=dK A;replace HB:=dB HB;refine sU 10 (fun w'=>w'.cell? ⟨I,0,none⟩=some (.slice U B.length Y)/\w'.cell? ⟨I,1,none⟩=some (.int .i64 O)/\w'.cell? ⟨I,2,none⟩=some (.slice X D.length Z)/\w'.cell? ⟨I,3,none⟩=some (.int .i64 P)) rfl Ar.Hz (Bi A) (fun hHeld HT_ HW_=>?_);generalize wc.drew=bY at A HB hHeld |-;refine pU 0 ?_;refine pU 2 ?_;refine pU 3 ?_;refine pU 5 ?_;refine kU 1 ?_;refine kU 4 ?_;refine kU 6 ?_;refine jU 7 (fun K hK=>?_);refine aO func89 (Ab.c bM _ _ l0 _ _ B _ _ D t177 _ (cA aC) aA.o (cA G) E.o (cA L) J.o bF.o) ?_;rintro e bZ ⟨rfl,hb⟩;refine ⟨_,rfl,?_⟩;replace A:=uB A hb;replace HB:=uH hb;(skip);(skip);(skip);refine oK hK (Bi A) (fun hHeld=>?_);clear hK K;refine jU 8 (fun K hK=>?_);refine aO func49 (Ad.c P 1 t177 t178 _ bH.o) ?_;rintro e w' ⟨rfl,⟨nd,rfl⟩⟩;refine ⟨_,rfl,?_⟩;refine oK hK (Bi A) (fun hHeld=>?_);clear hK K
     refine pU 9 ?_;refine CY (BY HT_.o kF) ?_;(try go_wp2);go_ret;exact ⟨eQ,bQ⟩
def BG.l0:Nat->List Ai->List CR->List CR->Int->Int->Option Bool
 | 0,_,_,_,_,_=>none
 | k+1,x0,x1,B,D,A=>if A<D then (if 0<=A then (if A<(B.length:Int) then ((AX.f x0 ((AR B A).f0)).bind fun t182=>(if t182<0 then (some false) else ((Ad.f ((AR B A).f1) 0 100000).bind fun t183=>(if t183=true then (if A>0 then (if 0<=(wrap64 (A-1)) then (if (wrap64 (A-1))<(x1.length:Int) then (if ((AR B A).f0)<=((AR x1 (wrap64 (A-1))).f0) then (some false) else (BG.l0 k x0 x1 B D (wrap64 (A+1)))) else none) else none) else (BG.l0 k x0 x1 B D (wrap64 (A+1)))) else (some false))))) else none) else none) else (some true)
def BG.f (k:Nat) (l0:List Ai) (l1:List CR):Option Bool:=(BN.f k l0).bind fun t179=>(if t179=true then (BG.l0 k l0 l1 l1 (l1.length:Int) 0) else (some false))
theorem BG.FC:Br (C9 .any (opsOf f48 6)).2 [0,0,2,7,15,31,63,127,255,511,1023,2047,4095,8191,16383,32767,65535,32767,32767,294911,950271,1998847,4095999,8388607,16777215,33554431]=true:=by kernel_rfl
theorem BG.c (k:Nat) (A0:Option Addr) (c0:Nat) (l0:List Ai) (A1:Option Addr) (c1:Nat) (l1:List CR) (r:Bool) (w:World) (bY:Kd.C D0 w A0 l0.length l0) (hc0:l0.length<=c0) (hr1:Kd.C E9 w A1 l1.length l1) (bJ:l1.length<=c1) (h:BG.f k l0 l1=some r) :
 Calls prog 48 #[.slice A0 l0.length c0,.slice A1 l1.length c1] w fun e w'=>e=.returned (.bool r)/\Below w.heap.size w w':=by
 have bZ:=underlying84;have aJ:=aK bY;have aI:=aK hc0;clear hc0;have aM:=aK hr1;have cG:=aK bJ;clear bJ;have HB:=bR w;have H:=h;unfold BG.f at H;obtain ⟨t179,A3,bV⟩:=sK H;go_enter func48,ntmps48;(go_upto_if 9 with (refine gC 64 rfl ?_;refine aB 8 func64 (BN.c k _ _ l0 t179 _ (rC aJ) aI.o A3.o) fun w5 hb=>?_;replace HB:=uH hb));(try simp only [Act.put,lQ,lZ,lS]);have H:=bV.o;(rcases eB t179 with c6|c6)
 .
  subst c6;replace H:=tT H;have H':=aK H;go_wp2;(go_loopg [12] k (fun kq v12 w'=>∃ (A:Int),v12=.int .i64 A/\AD (BG.l0 kq l0 l1 l1 (l1.length:Int) A=some r)/\AD (kq<=k)/\AD (Below w.heap.size w w')));(case atStart=>exact ⟨0,vQ,H',⟨Nat.le_refl _⟩,⟨bQ⟩⟩)
  case round =>
   obtain ⟨A,rfl,HA,aS,HB⟩:=hrel
   cases gk with
   | zero=>exact nS HA
   | succ k1 =>
    have H:=HA.o;simp only [BG.l0] at H;(by_cases c7:A<(l1.length:Int))
    .
     obtain ⟨Z,H⟩:=iT c7 H;(try first|rw [Z]|(simp only [Ae,Aj];rw [Z]));obtain ⟨bW,H⟩:=nQ H;obtain ⟨bX,H⟩:=nQ H;obtain ⟨t182,aH,H⟩:=sQ H;(by_cases bC:t182<0)
     .
      obtain ⟨aP,H⟩:=iT bC H;obtain rfl:=sI H;obtain ⟨J,X,aD,aF,P,T⟩:=Pd aM HB A;cases X;(try go_wp2_with (refine AL (N:=6) rfl ?_;refine xU 6 ?_;intro D aX B hg hb;have Y:=gW hg;replace HB:=uH hb;clear hb hg;have bK:=I9 B;have bP:=MP B));have aA:AD (((aX.setCell ⟨D,0,none⟩ (.int .i64 ((AR l1 A).f0))).setCell ⟨D,1,none⟩ (.int .i64 ((AR l1 A).f1))).heap[D]?=some (.cells #[.int .i64 ((AR l1 A).f0),.int .i64 ((AR l1 A).f1)] 84 (0,0))):=⟨QW B⟩;have aC:AD (Below w.heap.size w ((aX.setCell ⟨D,0,none⟩ (.int .i64 ((AR l1 A).f0))).setCell ⟨D,1,none⟩ (.int .i64 ((AR l1 A).f1)))):=⟨bQ⟩;generalize ((aX.setCell ⟨D,0,none⟩ (.int .i64 ((AR l1 A).f0))).setCell ⟨D,1,none⟩ (.int .i64 ((AR l1 A).f1)))=cB at aA aC |-;have B:=aA;have HB:=aC;replace B:=dK B;replace HB:=dB HB;refine sU 26 (fun w'=>w'.cell? ⟨D,0,none⟩=some (.int .i64 ((AR l1 A).f0))/\w'.cell? ⟨D,1,none⟩=some (.int .i64 ((AR l1 A).f1))) rfl BG.FC (I9 B) (fun hHeld HT_ HW_=>?_);generalize cB.drew=cH at B HB hHeld |-;refine pU 0 ?_;refine pU 1 ?_;refine kU 2 ?_;refine jU 3 (fun K hK=>?_);refine aO func90 (AX.c _ _ l0 ((AR l1 A).f0) t182 _ (cA aJ) aI.o aH.o) ?_;rintro e cI ⟨rfl,hb⟩
      refine ⟨_,rfl,?_⟩;replace B:=uB B hb;replace HB:=uH hb;refine oK hK (I9 B) (fun hHeld=>?_);clear hK K;refine pU 4 ?_;refine pU 5 ?_;refine wU 6 ?_;refine wU 7 ?_;refine wU 8 ?_;refine wU 9 ?_;refine pU 10 ?_;refine pU 11 ?_;refine wU 12 ?_;refine wU 13 ?_;refine wU 14 ?_;refine wU 15 ?_;refine wU 16 ?_;refine wU 17 ?_;refine wU 18 ?_;refine wU 19 ?_;refine wU 20 ?_;refine wU 21 ?_;refine wU 22 ?_;refine wU 23 ?_;refine wU 24 ?_;refine pU 25 ?_;refine CY (BY HT_.o kF) ?_;(try go_wp2);go_ret;exact ⟨eQ,bQ⟩
     .
      obtain ⟨aP,H⟩:=iF bC H;obtain ⟨t183,aR,H⟩:=sQ H;(rcases eB t183 with aU|aU)
      .
       subst aU;replace H:=tT H;(by_cases bD:A>0)
       .
        obtain ⟨aQ,H⟩:=iT bD H;obtain ⟨E,L⟩:∃ j_:Int,(wrap64 (A-1))=j_:=⟨_,rfl⟩;(replace H:(if 0<=(E) then (if (E)<(l1.length:Int) then (if ((AR l1 A).f0)<=((AR l1 (E)).f0) then (some false) else (BG.l0 k1 l0 l1 l1 (l1.length:Int) (wrap64 (A+1)))) else none) else none)=some r:=by first|(rw [L] at H;exact H)|(simp only [L] at H |-;exact H));(try rw [L] at aH);(try rw [L] at aR);have aW:(IntKind.i64.wrap (A-1))=E:=(Ae _).trans L;obtain ⟨bF,H⟩:=nQ H;obtain ⟨bH,H⟩:=nQ H;have aT:=aK H;obtain ⟨J,X,aD,aF,P,T⟩:=Pd aM HB A;cases X;(try go_wp2_with (refine AL (N:=6) rfl ?_;refine xU 6 ?_;intro D aY B hg hb;have Y:=gW hg;replace HB:=uH hb;clear hb hg;have bL:=I9 B;have bS:=MP B));have aA:AD (((aY.setCell ⟨D,0,none⟩ (.int .i64 ((AR l1 A).f0))).setCell ⟨D,1,none⟩ (.int .i64 ((AR l1 A).f1))).heap[D]?=some (.cells #[.int .i64 ((AR l1 A).f0),.int .i64 ((AR l1 A).f1)] 84 (0,0))):=⟨QW B⟩;have aC:AD (Below w.heap.size w ((aY.setCell ⟨D,0,none⟩ (.int .i64 ((AR l1 A).f0))).setCell ⟨D,1,none⟩ (.int .i64 ((AR l1 A).f1)))):=⟨bQ⟩;generalize ((aY.setCell ⟨D,0,none⟩ (.int .i64 ((AR l1 A).f0))).setCell ⟨D,1,none⟩ (.int .i64 ((AR l1 A).f1)))=cC at aA aC |-;have B:=aA;have HB:=aC;replace B:=dK B;replace HB:=dB HB;have aE:0<=((E):Int):=oD;have aG:(E)<(l1.length:Int):=oD;obtain ⟨aN,aV,G,I⟩:=LF aM.o (E) aE aG;have O:=I;have M:=G;obtain rfl:J=aN:=(by injection aV)
        replace G:=cQ HB G;replace I:=cQ HB I;replace aE:=eq_true aE;replace aG:=eq_true aG;refine sU 26 (fun w'=>w'.cell? ⟨D,0,none⟩=some (.int .i64 ((AR l1 A).f0))/\w'.cell? ⟨D,1,none⟩=some (.int .i64 ((AR l1 A).f1))/\w'.cell? (J.add (((E)).toNat*2))=some (.int .i64 ((AR l1 (E)).f0))/\w'.cell? ⟨(J.add (((E)).toNat*2)).block,(J.add (((E)).toNat*2)).off+1,none⟩=some (.int .i64 ((AR l1 (E)).f1))) rfl BG.FC ⟨zC B 0 _,zC B 1 _,cQ HB M,cQ HB O⟩ (fun hHeld HT_ HW_=>?_);generalize cC.drew=cJ at B HB G I hHeld |-;refine pU 0 ?_;refine pU 1 ?_;refine kU 2 ?_;refine jU 3 (fun K hK=>?_);refine aO func90 (AX.c _ _ l0 ((AR l1 A).f0) t182 _ (cA aJ) aI.o aH.o) ?_;rintro e cK ⟨rfl,hb⟩;refine ⟨_,rfl,?_⟩;replace B:=uB B hb;replace HB:=uH hb;(skip);(skip);(skip);refine oK hK ⟨zC B 0 _,zC B 1 _,cQ HB M,cQ HB O⟩ (fun hHeld=>?_);clear hK K;refine pU 4 ?_;refine pU 5 ?_;refine pU 6 ?_;refine kU 7 ?_;refine jU 8 (fun K hK=>?_);refine aO func49 (Ad.c ((AR l1 A).f1) 0 100000 true _ aR.o) ?_;rintro e w' ⟨rfl,⟨nd,rfl⟩⟩;refine ⟨_,rfl,?_⟩;refine oK hK ⟨zC B 0 _,zC B 1 _,cQ HB M,cQ HB O⟩ (fun hHeld=>?_);clear hK K;refine pU 9 ?_;refine pU 10 ?_;refine pU 11 ?_;refine pU 12 ?_;refine pU 13 ?_;refine pU 14 ?_;refine pU 15 ?_;refine pU 17 ?_;refine pU 18 ?_;refine pU 19 ?_;refine pU 20 ?_;refine pU 21 ?_;refine kU 16 ?_;refine kU 22 ?_;refine pU 23 ?_;refine pU 24 ?_;refine pU 25 ?_;refine CY (BY HT_.o kF) ?_;(go_upto_if 42 with (fail));have H:=aT.o;(by_cases bI:((AR l1 A).f0)<=((AR l1 (E)).f0))
        . obtain ⟨U,H⟩:=iT bI H;(try first|rw [U]|(simp only [Ae,Aj];rw [U]));obtain rfl:=sI H;go_wp2;go_ret;exact ⟨by first|rfl|(simp [CE,CF] <;> rfl)|(simp only [<-L];first|rfl|(simp [CE,CF] <;> rfl))|(simp [*,CE,CF] <;> rfl),bQ⟩
        . obtain ⟨U,H⟩:=iF bI H;(try first|rw [U]|(simp only [Ae,Aj];rw [U]));have H':=aK H;go_wp2;(go_roundg k1);(case measure=>have:=aS.o;omega);(case rel=>exact ⟨wrap64 (A+1),vQ,H',⟨mA aS⟩,⟨bQ⟩⟩)
       .
        obtain ⟨aQ,H⟩:=iF bD H;have H':=aK H;obtain ⟨J,X,aD,aF,P,T⟩:=Pd aM HB A;cases X;(try go_wp2_with (refine AL (N:=6) rfl ?_;refine xU 6 ?_;intro D aZ B hg hb;have Y:=gW hg;replace HB:=uH hb;clear hb hg;have bM:=I9 B;have bT:=MP B));have aA:AD (((aZ.setCell ⟨D,0,none⟩ (.int .i64 ((AR l1 A).f0))).setCell ⟨D,1,none⟩ (.int .i64 ((AR l1 A).f1))).heap[D]?=some (.cells #[.int .i64 ((AR l1 A).f0),.int .i64 ((AR l1 A).f1)] 84 (0,0))):=⟨QW B⟩;have aC:AD (Below w.heap.size w ((aZ.setCell ⟨D,0,none⟩ (.int .i64 ((AR l1 A).f0))).setCell ⟨D,1,none⟩ (.int .i64 ((AR l1 A).f1)))):=⟨bQ⟩;generalize ((aZ.setCell ⟨D,0,none⟩ (.int .i64 ((AR l1 A).f0))).setCell ⟨D,1,none⟩ (.int .i64 ((AR l1 A).f1)))=cD at aA aC |-;have B:=aA;have HB:=aC;replace B:=dK B;replace HB:=dB HB;refine sU 26 (fun w'=>w'.cell? ⟨D,0,none⟩=some (.int .i64 ((AR l1 A).f0))/\w'.cell? ⟨D,1,none⟩=some (.int .i64 ((AR l1 A).f1))) rfl BG.FC (I9 B) (fun hHeld HT_ HW_=>?_);generalize cD.drew=cL at B HB hHeld |-;refine pU 0 ?_;refine pU 1 ?_;refine kU 2 ?_;refine jU 3 (fun K hK=>?_);refine aO func90 (AX.c _ _ l0 ((AR l1 A).f0) t182 _ (cA aJ) aI.o aH.o) ?_;rintro e cM ⟨rfl,hb⟩
        refine ⟨_,rfl,?_⟩;replace B:=uB B hb;replace HB:=uH hb;refine oK hK (I9 B) (fun hHeld=>?_);clear hK K;refine pU 4 ?_;refine pU 5 ?_;refine pU 6 ?_;refine kU 7 ?_;refine jU 8 (fun K hK=>?_);refine aO func49 (Ad.c ((AR l1 A).f1) 0 100000 true _ aR.o) ?_;rintro e w' ⟨rfl,⟨nd,rfl⟩⟩;refine ⟨_,rfl,?_⟩;refine oK hK (I9 B) (fun hHeld=>?_);clear hK K;refine pU 9 ?_;refine pU 10 ?_;refine pU 11 ?_;refine pU 12 ?_;refine pU 13 ?_;refine pU 14 ?_;refine wU 15 ?_;refine wU 16 ?_;refine wU 17 ?_;refine wU 18 ?_;refine wU 19 ?_;refine wU 20 ?_;refine wU 21 ?_;refine wU 22 ?_;refine wU 23 ?_;refine pU 24 ?_;refine pU 25 ?_;refine CY (BY HT_.o kF) ?_;(try go_wp2);(go_roundg k1);(case measure=>have:=aS.o;omega);(case rel=>exact ⟨wrap64 (A+1),vQ,H',⟨mA aS⟩,⟨bQ⟩⟩)
      .
       subst aU;replace H:=tF H;obtain rfl:=sI H;obtain ⟨J,X,aD,aF,P,T⟩:=Pd aM HB A;cases X;(try go_wp2_with (refine AL (N:=6) rfl ?_;refine xU 6 ?_;intro D bA B hg hb;have Y:=gW hg;replace HB:=uH hb;clear hb hg;have bO:=I9 B;have bU:=MP B));have aA:AD (((bA.setCell ⟨D,0,none⟩ (.int .i64 ((AR l1 A).f0))).setCell ⟨D,1,none⟩ (.int .i64 ((AR l1 A).f1))).heap[D]?=some (.cells #[.int .i64 ((AR l1 A).f0),.int .i64 ((AR l1 A).f1)] 84 (0,0))):=⟨QW B⟩;have aC:AD (Below w.heap.size w ((bA.setCell ⟨D,0,none⟩ (.int .i64 ((AR l1 A).f0))).setCell ⟨D,1,none⟩ (.int .i64 ((AR l1 A).f1)))):=⟨bQ⟩;generalize ((bA.setCell ⟨D,0,none⟩ (.int .i64 ((AR l1 A).f0))).setCell ⟨D,1,none⟩ (.int .i64 ((AR l1 A).f1)))=cF at aA aC |-;have B:=aA;have HB:=aC;replace B:=dK B;replace HB:=dB HB;refine sU 26 (fun w'=>w'.cell? ⟨D,0,none⟩=some (.int .i64 ((AR l1 A).f0))/\w'.cell? ⟨D,1,none⟩=some (.int .i64 ((AR l1 A).f1))) rfl BG.FC (I9 B) (fun hHeld HT_ HW_=>?_);generalize cF.drew=cO at B HB hHeld |-;refine pU 0 ?_;refine pU 1 ?_;refine kU 2 ?_;refine jU 3 (fun K hK=>?_);refine aO func90 (AX.c _ _ l0 ((AR l1 A).f0) t182 _ (cA aJ) aI.o aH.o) ?_;rintro e cP ⟨rfl,hb⟩;refine ⟨_,rfl,?_⟩;replace B:=uB B hb
       replace HB:=uH hb;refine oK hK (I9 B) (fun hHeld=>?_);clear hK K;refine pU 4 ?_;refine pU 5 ?_;refine pU 6 ?_;refine kU 7 ?_;refine jU 8 (fun K hK=>?_);refine aO func49 (Ad.c ((AR l1 A).f1) 0 100000 false _ aR.o) ?_;rintro e w' ⟨rfl,⟨nd,rfl⟩⟩;refine ⟨_,rfl,?_⟩;refine oK hK (I9 B) (fun hHeld=>?_);clear hK K;refine pU 9 ?_;refine pU 10 ?_;refine pU 11 ?_;refine wU 12 ?_;refine wU 13 ?_;refine wU 14 ?_;refine wU 15 ?_;refine wU 16 ?_;refine wU 17 ?_;refine wU 18 ?_;refine wU 19 ?_;refine wU 20 ?_;refine wU 21 ?_;refine wU 22 ?_;refine wU 23 ?_;refine wU 24 ?_;refine pU 25 ?_;refine CY (BY HT_.o kF) ?_;(try go_wp2);go_ret;exact ⟨eQ,bQ⟩
    . obtain ⟨Z,H⟩:=iF c7 H;(try first|rw [Z]|(simp only [Ae,Aj];rw [Z]));obtain rfl:=sI H;go_wp2;go_ret;exact ⟨eQ,bQ⟩
 . subst c6;replace H:=tF H;obtain rfl:=sI H;go_wp2;go_ret;exact ⟨eQ,bQ⟩
def Bx.l0:Nat->List Int->List (Ai)->Int->Int->List Int->Int->List Int->Int->Option (List Int)
 | 0,_,_,_,_,_,_,_,_=>none
 | k+1,x5,I,J,G,B,D,A,E=>if G<J then (if 0<=G then (if G<(I.length:Int) then ((AV.f k B ((AA I G).f0)).bind fun t192=>(if t192=true then (if (A.length:Int)>0 then ((AV.f k A ((AA I G).f0)).bind fun t193=>(if t193=true then (if x5.length<17592186044416 then (Bx.l0 k (x5++[1]) I J (wrap64 (G+1)) B D A E) else (none)) else (if x5.length<17592186044416 then (Bx.l0 k (x5++[2]) I J (wrap64 (G+1)) B D A E) else (none)))) else (if x5.length<17592186044416 then (Bx.l0 k (x5++[1]) I J (wrap64 (G+1)) B D A E) else (none))) else (if x5.length<17592186044416 then (Bx.l0 k (x5++[0]) I J (wrap64 (G+1)) B D A E) else (none)))) else (none)) else (none)) else (some x5)
def Bx.f (k:Nat) (l0:List (Ai)) (D:List Int) (A:Int) (E:List Int) (B:Int):Option (List Int):=(some (([]:List Int):List Int)).bind fun G=>((Ar.f k l0 D A E B).bind fun t189=>(if t189=true then (Bx.l0 k G l0 (l0.length:Int) 0 D A E B) else (some G)))
theorem Bx.c (k:Nat) (A0:Option Addr) (c0:Nat) (l0:List (Ai)) (aV:Option Addr) (aX:Nat) (M:List Int) (X:Int) (aW:Option Addr) (aY:Nat) (J:List Int) (Y:Int) (r:List Int) (w:World) (dR:Kd.C D0 w A0 l0.length l0) (hc0:l0.length<=c0) (aT:Kd.C (Kd.int .i64) w aV M.length M) (aR:M.length<=aX) (aU:Kd.C (Kd.int .i64) w aW J.length J) (aS:J.length<=aY) (h:Bx.f k l0 M X J Y=some r) :
 Calls prog 50 #[.slice A0 l0.length c0,.agg #[.slice aV M.length aX,.int .i64 X,.slice aW J.length aY,.int .i64 Y]] w fun e w'=>∃ dS:Value,e=.returned (dS)/\Kd.R (Kd.int .i64) 3 w' w.heap.size (fun _=>True) dS r/\Below w.heap.size w w':=by
 have dW:=underlying36;have dX:=underlying79;have cO:=aK dR;have dV:=aK hc0;clear dR hc0;have aI:=aK aT;have aF:=aK aR;clear aT aR;have aJ:=aK aU;have aG:=aK aS;clear aU aS;(have HB:=aK (Below.refl w.heap.size w));have H:=h;(unfold Bx.f at H);clear h;obtain ⟨cF,bP,H⟩:=eX H;obtain ⟨t189,A3,H⟩:=sQ H;have cM:=aK H;clear H;(go_enter func50,ntmps50);(go_upto_if 13 with (first|((with_reducible refine AL (N:=3) rfl ?_);refine xU 3 ?_;intro bS w5 A hg hb;have cK:=gW hg;replace HB:=uH hb;clear hb hg)|((with_reducible refine AL (N:=9) rfl ?_);refine lL (Kd.int .i64) 3 9 ([]:List Int) [] (Bt.none _ _) ?_;intro fA w6 cD hb;rw [<-bP.o] at cD;have T:=aK (Am cD (AF bQ));replace A:=uB A hb;replace HB:=uH hb;clear hb cD;have cB:=Bi A;have cC:=DP A)|((with_reducible refine gC 47 rfl ?_);refine aL 12 func47 (Ar.c k _ _ l0 _ _ M X _ _ J Y t189 _ (cA cO) dV.o (cA aI) aF.o (cA aJ) aG.o A3.o) ?_;rintro e w9 ⟨rfl,hb⟩;refine ⟨_,rfl,?_⟩;replace T:=uR T hb;replace A:=uB A hb;replace HB:=uH hb;(try clear hb))))
 ((try simp only [Act.put,List.setIfInBounds_toArray,List.set_cons_zero,List.set_cons_succ]));have H:=cM.o;clear cM;(by_cases Gt:t189=true)
 .
  subst Gt;replace H:=tT H;(have H':=aK H);clear H;go_wp2;(go_loopg [5,17] k (fun kq v5 v17 w'=>∃ (L:List Int) (G:Int),v17=.int .i64 G/\AD (Bx.l0 kq L l0 (l0.length:Int) G M X J Y=some r)/\AD (kq<=k)/\AD (Kd.R (Kd.int .i64) 3 w' w.heap.size (fun _=>True) v5 L)/\AD (w'.heap[bS]?=some (.cells #[(.slice aV M.length aX),.int .i64 X,(.slice aW J.length aY),.int .i64 Y] 36 (0,0)))/\AD (Below w.heap.size w w')));(case atStart=>exact ⟨(cF),(0),vQ,H',⟨Nat.le_refl _⟩,⟨rR T⟩,⟨rB A⟩,⟨bQ⟩⟩)
  case round =>
   clear H';(try clear p2);(try clear cB);(try clear cC);obtain ⟨L,G,rfl,HA,aH,E,A,HB⟩:=hrel
   cases gk with
   | zero=>exact absurd HA.o (by simp [Bx.l0])
   | succ k1 =>
    have H:=HA.o;clear HA;(simp only [Bx.l0] at H);(by_cases aZ:G<(l0.length:Int))
    .
     rw [if_pos aZ] at H;have O:=decide_eq_true aZ;clear aZ;((first|rw [O]|(simp only [Ae,Aj];rw [O])|skip));obtain ⟨cR,H⟩:=nQ H;obtain ⟨cS,H⟩:=nQ H;obtain ⟨t192,dT,H⟩:=sQ H;have bC:=aK H;clear H;obtain ⟨cP,bZ,dY,dZ,bV,bW,bX,bY⟩:=Jp cO HB G;cases bZ;(go_upto_if 25 with (first|((with_reducible refine AL (N:=7) rfl ?_);refine xU 7 ?_;intro U fG B hg hb;have cL:=gW hg;have D:=nB hg (rB A);have I:=mB hg (rB A);replace E:=uR E hb;replace A:=uB A hb;replace HB:=uH hb;clear hb hg;have dJ:=I.o;have dN:=D.o;have cX:=Bi B;have dE:=DP B;have cY:=Bi A;have dF:=DP A)|((with_reducible refine gC 73 rfl ?_);refine aL 25 func73 (AV.c k1 _ _ M ((AA l0 G).f0) t192 _ (cA aI) aF.o dT.o) ?_;rintro e w' ⟨rfl,⟨nd,rfl⟩⟩;refine ⟨_,rfl,?_⟩)));((try simp only [Act.put,List.setIfInBounds_toArray,List.set_cons_zero,List.set_cons_succ]));have H:=bC.o;clear bC;(by_cases bT:t192=true)
     .
      subst bT;replace H:=tT H;(by_cases bA:(J.length:Int)>0)
      .
       rw [if_pos bA] at H;have P:=decide_eq_true bA;(have Z:decide (0<J.length)=true:=decide_eq_true oM);clear bA;((first|rw [P]|rw [Z]|(simp only [Ae,Aj];rw [P])|skip));obtain ⟨t193,dU,H⟩:=sQ H;have bD:=aK H;clear H;have dL:=D.o;have dO:=I.o;have cZ:=Bi A;have dG:=DP A;have dA:=Bi B;have dH:=DP B;(go_upto_if 37 with (first|(go_at_call 73;(with_reducible refine (AV.c k1 _ _ J ((AA l0 G).f0) t193 _ (cA aJ) aG.o dU.o).mono ?_);rintro e w' ⟨rfl,⟨nd,rfl⟩⟩)));((try simp only [Act.put,List.setIfInBounds_toArray,List.set_cons_zero,List.set_cons_succ]));have H:=bD.o;clear bD;(by_cases bU:t193=true)
       . subst bU;replace H:=tT H;obtain ⟨cT,H⟩:=nP H;have bK:=aK cT;clear cT;obtain ⟨cG,aM⟩:=eY ((L++[1]):List Int);rw [<-aM.o] at H;(have H':=aK H);clear H;(go_wp2_with (first|((with_reducible refine BT (b:=.append) (xs:=#[.tmp 38,.tmp 40]) rfl ?_);at_builtin;refine rP (Kd.int .i64) 38 40 underlying23 De u5 L 1 [.int .i64 1] (fun _=>True) rfl (sR (AG (fR U (AN E.o B.o dC)) (fun _ hk=>trivial))) (fun _ _=>trivial) (by have:=bK.o;omega) ?_;intro fB fH ho hb hg hat;rw [<-aM.o] at ho;have aA:=aK (bG hg (KB D A) (FE E.o A.o dC));have aC:=aK (bG hg (GL B) (FE E.o B.o dC));have aD:=aK (hb);have aE:=aK (ho);clear A;clear B;clear HB;clear E;have A:=aA;have B:=aC;have HB:=aD;have bF:=aE;clear aA aC aD aE;clear ho hb hg hat)));(go_roundg k1);(case measure=>have:=aH.o;omega);(case rel=>exact ⟨(cG),(wrap64 (G+1)),vQ,H',⟨by have:=aH.o;omega⟩,⟨rR bF⟩,⟨rB A⟩,⟨bQ⟩⟩)
       . replace bU:=Bool.eq_false_iff.mpr bU;subst bU;replace H:=tF H;obtain ⟨cU,H⟩:=nP H;have bL:=aK cU;clear cU;obtain ⟨cH,aN⟩:=eY ((L++[2]):List Int);rw [<-aN.o] at H;(have H':=aK H);clear H;(go_wp2_with (first|((with_reducible refine BT (b:=.append) (xs:=#[.tmp 38,.tmp 40]) rfl ?_);at_builtin;refine rP (Kd.int .i64) 38 40 underlying23 De u5 L 2 [.int .i64 2] (fun _=>True) rfl (sR (AG (fR U (AN E.o B.o dC)) (fun _ hk=>trivial))) (fun _ _=>trivial) (by have:=bL.o;omega) ?_;intro fD fI ho hb hg hat;rw [<-aN.o] at ho;have aA:=aK (bG hg (KB D A) (FE E.o A.o dC));have aC:=aK (bG hg (GL B) (FE E.o B.o dC));have aD:=aK (hb);have aE:=aK (ho);clear A;clear B;clear HB;clear E;have A:=aA;have B:=aC;have HB:=aD;have bH:=aE;clear aA aC aD aE;clear ho hb hg hat)));(go_roundg k1);(case measure=>have:=aH.o;omega);(case rel=>exact ⟨(cH),(wrap64 (G+1)),vQ,H',⟨by have:=aH.o;omega⟩,⟨rR bH⟩,⟨rB A⟩,⟨bQ⟩⟩)
      . rw [if_neg bA] at H;have P:=decide_eq_false bA;(have Z:decide (0<J.length)=false:=decide_eq_false oM);clear bA;((first|rw [P]|rw [Z]|(simp only [Ae,Aj];rw [P])|skip));obtain ⟨cV,H⟩:=nP H;have bM:=aK cV;clear cV;obtain ⟨cI,aP⟩:=eY ((L++[1]):List Int);rw [<-aP.o] at H;(have H':=aK H);clear H;have dM:=D.o;have dP:=I.o;have dD:=Bi A;have dI:=DP A;(go_wp2_with (first|((with_reducible refine BT (b:=.append) (xs:=#[.tmp 38,.tmp 40]) rfl ?_);at_builtin;refine rP (Kd.int .i64) 38 40 underlying23 De u5 L 1 [.int .i64 1] (fun _=>True) rfl (sR (AG (fR U (AN E.o B.o dC)) (fun _ hk=>trivial))) (fun _ _=>trivial) (by have:=bM.o;omega) ?_;intro fE fJ ho hb hg hat;rw [<-aP.o] at ho;have aA:=aK (bG hg (KB D A) (FE E.o A.o dC));have aC:=aK (bG hg (GL B) (FE E.o B.o dC));have aD:=aK (hb);have aE:=aK (ho);clear A;clear B;clear HB;clear E;have A:=aA;have B:=aC;have HB:=aD;have bI:=aE;clear aA aC aD aE;clear ho hb hg hat)));(go_roundg k1);(case measure=>have:=aH.o;omega);(case rel=>exact ⟨(cI),(wrap64 (G+1)),vQ,H',⟨by have:=aH.o;omega⟩,⟨rR bI⟩,⟨rB A⟩,⟨bQ⟩⟩)
     . replace bT:=Bool.eq_false_iff.mpr bT;subst bT;replace H:=tF H;obtain ⟨cW,H⟩:=nP H;have bO:=aK cW;clear cW;obtain ⟨cJ,aQ⟩:=eY ((L++[0]):List Int);rw [<-aQ.o] at H;(have H':=aK H);clear H;(go_wp2_with (first|((with_reducible refine BT (b:=.append) (xs:=#[.tmp 38,.tmp 40]) rfl ?_);at_builtin;refine rP (Kd.int .i64) 38 40 underlying23 De u5 L 0 [.int .i64 0] (fun _=>True) rfl (sR (AG (fR U (AN E.o B.o dC)) (fun _ hk=>trivial))) (fun _ _=>trivial) (by have:=bO.o;omega) ?_;intro fF fK ho hb hg hat;rw [<-aQ.o] at ho;have aA:=aK (bG hg (KB D A) (FE E.o A.o dC));have aC:=aK (bG hg (GL B) (FE E.o B.o dC));have aD:=aK (hb);have aE:=aK (ho);clear A;clear B;clear HB;clear E;have A:=aA;have B:=aC;have HB:=aD;have bJ:=aE;clear aA aC aD aE;clear ho hb hg hat)));(go_roundg k1);(case measure=>have:=aH.o;omega);(case rel=>exact ⟨(cJ),(wrap64 (G+1)),vQ,H',⟨by have:=aH.o;omega⟩,⟨rR bJ⟩,⟨rB A⟩,⟨bQ⟩⟩)
    . rw [if_neg aZ] at H;have O:=decide_eq_false aZ;clear aZ;((first|rw [O]|(simp only [Ae,Aj];rw [O])|skip));obtain rfl:=Option.some.inj H;go_wp2;go_ret;(exact ⟨_,eQ,rR E,bQ⟩)
 . replace Gt:=Bool.eq_false_iff.mpr Gt;subst Gt;replace H:=tF H;obtain rfl:=Option.some.inj H;go_wp2;go_ret;(exact ⟨_,eQ,rR T,bQ⟩)
def Cb.f (l0:List CR):Option ((List CR)):=(some (([]:List CR):List CR)).bind fun A=>(if A.length+l0.length<8796093022208 then (some (A++l0)) else none)
theorem Cb.KU (L:Addr) (c0:Nat) (l0:List CR) (r:List CR) (w:World) (T:Kd.C E9 w (some L) l0.length l0) (hc0:l0.length<=c0) (h:Cb.f l0=some r) :
 Calls prog 91 #[.slice (some L) l0.length c0] w fun e w'=>∃ O:Value,e=.returned (O)/\Kd.R E9 84 w' w.heap.size (fun _=>True) O r/\Below w.heap.size w w':=by
 have P:=aK T;have aA:=aK hc0;clear hc0;have HB:=bR w;have H:=h;unfold Cb.f at H;obtain ⟨G,E,H⟩:=eX H;obtain ⟨c2,H⟩:=nP H;have I:=aK c2;obtain ⟨Z,B⟩:=eY ((G++l0):List CR);rw [<-B.o] at H;obtain rfl:=sI H;(have hun_:∀ (a:Option Addr) (l c:Nat) (W:World),(binOp .eql 38 (.slice a l c) (.slice none 0 0)).run prog W=.ok (.bool a.isNone) W:=fun a l c W=>Go.Lib.run_eql_slice_nil W 38 84 a l c 0 0 underlying38);go_enter func91,ntmps91;(go_wp2_with (first|(refine AL (N:=5) rfl ?_;refine lL E9 84 5 ([]:List CR) [] (Bt.none _ _) ?_;intro J w3 M hb;rw [<-E.o] at M;have A:=lR M;replace HB:=uH hb;clear hb)|(refine BT (b:=.append) (xs:=#[.tmp 5,.tmp 6]) rfl ?_;at_builtin;refine rA E9 5 6 underlying38 Ms J G l0 (fun _=>True) (rR A) (cA P) (fun _ _=>trivial) (by have:=I.o;omega) ?_;intro Y w5 ho hb hg hat;rw [<-B.o] at ho;have U:=aK (hb);have X:=aK (ho);clear HB;clear A;have HB:=U;have D:=X;clear hb hg hat)))
 go_ret;exact ⟨_,eQ,rR D,bQ⟩
theorem Cb.c (A0:Option Addr) (c0:Nat) (l0:List CR) (r:List CR) (w:World) (A:Kd.C E9 w A0 l0.length l0) (hc0:l0.length<=c0) (h:Cb.f l0=some r) :
 Calls prog 91 #[.slice A0 l0.length c0] w fun e w'=>∃ B:Value,e=.returned (B)/\Kd.R E9 84 w' w.heap.size (fun _=>True) B r/\Below w.heap.size w w':=by
 cases A0 with
 | some a=>exact Cb.KU a c0 l0 r w A hc0 h
 | none =>
  (have hl:¬ 0<l0.length:=fun q=>by obtain ⟨_,e,_⟩:=A.2.2 q;cases e);obtain rfl:l0=[]:=List.eq_nil_of_length_eq_zero oM
  obtain rfl:r=[]:=by
   unfold Cb.f at h;(simpa using h.symm)
  (have hun_:∀ (a:Option Addr) (l c:Nat) (W:World),(binOp .eql 38 (.slice a l c) (.slice none 0 0)).run prog W=.ok (.bool a.isNone) W:=fun a l c W=>Go.Lib.run_eql_slice_nil W 38 84 a l c 0 0 underlying38);go_enter func91,ntmps91;go_wp2;go_ret;exact ⟨.slice none 0 0,rfl,Lj _ _ _ _ _,Below.refl _ _⟩
def GC (ask:CR->Option Bool):List CR->Option Bool
 | []=>some false
 | x::r=>(ask x).bind fun b=>if b=true then some true else GC ask r
set_option maxHeartbeats 4000000 in
set_option maxRecDepth 100000 in
theorem Rs (ask:CR->Option Bool) (A0:Option Addr) (c0:Nat) (l0:List CR) (g1:Nat) (r:Bool) (w:World) (G:Kd.C E9 w A0 l0.length l0) (hc0:l0.length<=c0)
 (hask:∀ (x:CR) (b:Bool) (wr:World),ask x=some b->Below w.heap.size w wr->Calls prog 93 #[.agg #[.int .i64 x.f0,.int .i64 x.f1],.pointer (some ⟨g1,0,none⟩)] wr fun e w'=>e=.returned (.bool b)/\Below wr.heap.size wr w') (h:GC ask l0=some r) :
 Calls prog 131 #[.slice A0 l0.length c0,.func (.func 93) #[] #[.pointer (some ⟨g1,0,none⟩)]] w fun e w'=>(∃ z:Int,e=.returned (.int .i64 z)/\decide (z>=0)=r)/\Below w.heap.size w w':=by
 have hbig:l0.length<=9223372036854775807:=G.2.1
 have HR:=aK G
 have HA:=aK hask
 have HH:=aK h
 clear G hask h
 go_enter func131,ntmps131
 go_wp2
 go_loopw [8] (fun i wr=>∃ j:Nat,j<=l0.length/\i=.int .i64 j/\AD (Below w.heap.size w wr)/\AD (GC ask (l0.drop j)=some r)) (fun i _=>l0.length-(intOf i).toNat)
 case atStart=>exact ⟨0,Nat.zero_le _,rfl,⟨Below.refl _ _⟩,HH⟩
 case round =>
  obtain ⟨j,hj,rfl,HB,HF⟩:=hrel
  by_cases hlt:j<l0.length
  . obtain ⟨ad,eA,B,D⟩:=LF HR.o (j:Int) oM oM
    cases eA
    replace B:=(HB.o.cell (World.block_lt_of_cell? w _ B)).trans B
    replace D:=(HB.o.cell (World.block_lt_of_cell? w _ D)).trans D
    simp only [Int.toNat_natCast] at B D
    have A:=HF.o
    rw [List.drop_eq_getElem_cons hlt,GC] at A
    have hel:l0[j]=AR l0 (j:Int):=by simp [AR,hlt]
    rw [hel] at A
    obtain ⟨b,hb1,E⟩:=Option.bind_eq_some_iff.mp A
    have HX:=aK hb1
    clear A hb1 hel HF
    generalize AR l0 (j:Int)=x at B D HX
    cases b with
    | true =>
     simp only [if_true] at E
     obtain rfl:=Option.some.inj E
     clear E
     go_wp2_with (go_at_call 93;refine (HA.o x true wr HX.o HB.o).mono ?_;rintro e w' ⟨rfl,hb'⟩;have HB':=aK hb';clear hb')
     go_ret
     exact ⟨⟨_,rfl,by simp⟩,HB.o.trans (HB'.o.mono (AF HB.o))⟩
    | false =>
     have I:AD (GC ask (l0.drop (j+1))=some r):=⟨by simpa using E⟩
     clear E
     go_wp2_with (go_at_call 93;refine (HA.o x false wr HX.o HB.o).mono ?_;rintro e w' ⟨rfl,hb'⟩;have HB':=aK hb';clear hb')
     go_roundw
     case rel=>exact ⟨j+1,by omega,by go_num,⟨HB.o.trans (HB'.o.mono (AF HB.o))⟩,I⟩
     case measure=>simp [intOf];omega
  . have e:j=l0.length:=by omega
    subst e
    have A:=HF.o
    rw [List.drop_length,GC] at A
    obtain rfl:=Option.some.inj A
    go_wp2
    go_ret
    exact ⟨⟨_,rfl,by decide⟩,HB.o⟩
theorem SA (ask:CR->Option Bool) (A0:Option Addr) (c0:Nat) (l0:List CR) (g1:Nat) (r:Bool) (w:World) (A:Kd.C E9 w A0 l0.length l0) (hc0:l0.length<=c0)
 (hask:∀ (x:CR) (b:Bool) (wr:World),ask x=some b->Below w.heap.size w wr->Calls prog 93 #[.agg #[.int .i64 x.f0,.int .i64 x.f1],.pointer (some ⟨g1,0,none⟩)] wr fun e w'=>e=.returned (.bool b)/\Below wr.heap.size wr w') (h:GC ask l0=some r) :
 Calls prog 92 #[.slice A0 l0.length c0,.func (.func 93) #[] #[.pointer (some ⟨g1,0,none⟩)]] w fun e w'=>e=.returned (.bool r)/\Below w.heap.size w w':=by
 have HR:=aK A
 have HA:=aK hask
 have HH:=aK h
 clear A hask h
 go_enter func92,ntmps92
 go_wp2_with (go_at_call 131;refine (Rs ask A0 c0 l0 g1 r w HR.o hc0 HA.o HH.o).mono ?_;rintro e w' ⟨⟨z,rfl,hz⟩,hb'⟩;have HB':=aK hb';clear hb')
 go_ret
 exact ⟨by rw [<-hz];rfl,HB'.o⟩
theorem Q2 (p:Int) (g1:Nat) (x:CR) (b:Bool) (w:World) (hcell:w.cell? ⟨g1,0,none⟩=some (.int .i64 p)) (h:(some (decide (x.f0=p)):Option Bool)=some b) :
 Calls prog 93 #[.agg #[.int .i64 x.f0,.int .i64 x.f1],.pointer (some ⟨g1,0,none⟩)] w fun e w'=>e=.returned (.bool b)/\Below w.heap.size w w':=by
 obtain rfl:=Option.some.inj h
 clear h
 have hlt:g1<w.heap.size:=World.block_lt_of_cell? w _ hcell
 have A:(w.alloc (.cells #[.int .i64 x.f0,.int .i64 x.f1] 84)).cell? ⟨g1,0,none⟩=some (.int .i64 p):=(((Below.refl w.heap.size w).alloc (Nat.le_refl _) _).cell (p:=⟨g1,0,none⟩) hlt).trans hcell
 go_enter func93,ntmps93
 go_wp2
 go_ret
 exact ⟨by (have e_:(x.f0 == p)=decide (x.f0=p):=by (by_cases q_:x.f0=p <;> simp [q_]));simp [e_],by repeat (first|exact Below.refl _ _|apply AP|apply AJ|apply AQ)⟩
theorem RC (p:Int) (l:List CR):GC (fun x=>some (decide (x.f0=p))) l=some (l.any fun x=>x.f0 == p):=by
 induction l with
 | nil=>rfl
 | cons x r ih =>
  simp only [GC,Option.bind_some,List.any_cons]
  by_cases h:x.f0=p
  . simp [h]
  . simp [h,ih]
def CK.l0:List (CR)->Int->List (CR)
 | [],p=>[(⟨p,0⟩:CR)]
 | x::r,p=>if x.f0<p then x::CK.l0 r p else (⟨p,0⟩:CR)::x::r
theorem RH (l:List CR) (p:Int) (j:Nat) (hj:j<=l.length) (hall:∀ i:Nat,i<j->(AR l (i:Int)).f0<p) (ho:j=l.length\/¬ (AR l (j:Int)).f0<p):Kt l (j:Int) [(⟨p,0⟩:CR)]=CK.l0 l p:=by
 induction l generalizing j with
 | nil =>
  obtain rfl:j=0:=by simpa using hj
  rfl
 | cons x r ih =>
  cases j with
  | zero =>
   have h0:¬ x.f0<p:=by
    rcases ho with h|h
    . simp at h
    . simpa [AR] using h
   rw [CK.l0,if_neg h0]
   rfl
  | succ j =>
   have h0:x.f0<p:=by have:=hall 0 oM;simpa [AR] using this
   rw [CK.l0,if_pos h0,<-ih j (by simpa using hj) (fun i hi=>by have:=hall (i+1) oM;simpa [AR] using this) (by
    rcases ho with h|h
    . left;simpa using h
    . right;simpa [AR] using h)]
   rfl
def CK.f (k:Nat) (l0:List (Ai)) (l1:List (CR)) (a2:Int):Option ((List (CR))×Bool):=if l1.length<1048577 then (if (l1.any fun x=>x.f0 == a2)=true then some (l1,false) else (BG.f k l0 (CK.l0 l1 a2)).bind fun t=>(if t=true then some (CK.l0 l1 a2,true) else some (l1,false))) else none
theorem CK.c (k:Nat) (A0:Option Addr) (c0:Nat) (l0:List (Ai)) (A1:Option Addr) (c1:Nat) (l1:List (CR)) (a2:Int) (r1:List (CR)) (r2:Bool) (w:World) (aE:Kd.C D0 w A0 l0.length l0) (hc0:l0.length<=c0) (hr1:Kd.C E9 w A1 l1.length l1) (U:l1.length<=c1) (h:CK.f k l0 l1 a2=some (r1,r2)) :
 Calls prog 51 #[.slice A0 l0.length c0,.slice A1 l1.length c1,.int .i64 a2] w fun e w'=>∃ aG:Value,e=.returned (.tuple #[aG,.bool r2])/\Kd.R E9 84 w' w.heap.size (fun _=>True) aG r1/\Below w.heap.size w w':=by
 have Z:=aK aE;have T:=aK hr1
 clear aE hr1
 unfold CK.f at h
 obtain ⟨hlen,h⟩:=nP h
 have HC:AD (Cb.f l1=some l1):=⟨by unfold Cb.f;simp only [Option.bind_some,List.nil_append,List.length_nil];rw [if_pos oM]⟩
 by_cases ha:(l1.any fun x=>x.f0 == a2)=true
 . rw [if_pos ha] at h
   obtain ⟨rfl,rfl⟩:=Prod.mk.inj (Option.some.inj h)
   have HA:AD (GC (fun x=>some (decide (x.f0=a2))) l1=some true):=⟨by rw [RC,ha]⟩
   clear ha h
   go_enter func51,ntmps51
   go_wp2_with (first|(go_at_call 91;refine (Cb.c A1 c1 l1 l1 _ (sC (rC T)) U HC.o).mono ?_;rintro e w2 ⟨v0,rfl,ho,hb'⟩;have I:=aK hb';have HO:=aK ho;clear hb' ho;have G:=(I.o.cell (p:=⟨w.heap.size,0,none⟩) (by first|(simp;done)|(simp;omega))).trans (show World.cell? _ ⟨w.heap.size,0,none⟩=some (.int .i64 a2) by first|(simp;done)|rfl))|(go_at_call 92;refine (SA (fun x=>some (decide (x.f0=a2))) A1 c1 l1 w.heap.size true _ (sC (CP (rC T) I.o)) U (fun x b' wr hx hb'=>Q2 a2 w.heap.size x b' wr (cQ (aK hb') G) hx) HA.o).mono ?_;rintro e w4 ⟨rfl,hb'⟩;have O:=aK hb';clear hb'))
   go_ret2
   refine ⟨_,rfl,Am (B9 HO.o O.o) (by first|(simp;done)|(simp;omega)),((Below.refl _ w).alloc (Nat.le_refl _) _).trans ((I.o.trans (O.o.mono (AF I.o))).mono (by first|(simp;done)|(simp;omega)))⟩
 . have HA:AD (GC (fun x=>some (decide (x.f0=a2))) l1=some false):=⟨by rw [RC];simpa using ha⟩
   rw [if_neg ha] at h
   have HH:=aK h
   clear ha h
   go_enter func51,ntmps51
   go_wp2_with (first|(go_at_call 91;refine (Cb.c A1 c1 l1 l1 _ (sC (rC T)) U HC.o).mono ?_;rintro e w2 ⟨v0,rfl,ho,hb'⟩;have I:=aK hb';have HO:=aK ho;clear hb' ho;have G:=(I.o.cell (p:=⟨w.heap.size,0,none⟩) (by first|(simp;done)|(simp;omega))).trans (show World.cell? _ ⟨w.heap.size,0,none⟩=some (.int .i64 a2) by first|(simp;done)|rfl))|(go_at_call 92;refine (SA (fun x=>some (decide (x.f0=a2))) A1 c1 l1 w.heap.size false _ (sC (CP (rC T) I.o)) U (fun x b' wr hx hb'=>Q2 a2 w.heap.size x b' wr (cQ (aK hb') G) hx) HA.o).mono ?_;rintro e w4 ⟨rfl,hb'⟩;have O:=aK hb';clear hb'))
   have aC:=cQ O G
   have Y:=aK (B9 HO.o O.o)
   have aA:=aK (((Below.refl _ w).alloc (Nat.le_refl _) (.cells #[.int .i64 a2] 3)).trans ((I.o.trans (O.o.mono (AF I.o))).mono (by first|(simp;done)|(simp;omega))))
   clear G HO I O HA HC
   have hsz_:w.heap.size<=(w.alloc (.cells #[.int .i64 a2] 3)).heap.size:=by first|(simp;done)|(simp;omega)
   have HC:AD (Cb.f l1=some l1):=⟨by unfold Cb.f;simp only [Option.bind_some,List.nil_append,List.length_nil];rw [if_pos oM]⟩
   go_loopg [9] l1.length (fun g v9 wr=>∃ j:Nat,j<=l1.length/\l1.length-j<=g/\v9=.int .i64 j/\AD (∀ i:Nat,i<j->(AR l1 (i:Int)).f0<a2)/\AD (Below w4.heap.size w4 wr))
   case atStart=>exact ⟨0,Nat.zero_le _,by omega,rfl,⟨fun i hi=>by omega⟩,⟨Below.refl _ _⟩⟩
   case round =>
    obtain ⟨j,hj,hg,rfl,hall,J⟩:=hrel
    have aI:=cQ J aC
    have L:=aK (aA.o.trans (J.o.mono (AF aA.o)))
    have out_:AD (j=l1.length\/¬ (AR l1 (j:Int)).f0<a2->Kt l1 (j:Int) [(⟨a2,0⟩:CR)]=CK.l0 l1 a2):=⟨fun ho=>RH l1 a2 j hj hall.o ho⟩
    by_cases hlt:j<l1.length
    . have hltb:decide ((j:Int)<(l1.length:Int))=true:=decide_eq_true oM
      obtain ⟨ad,eA,X,aH⟩:=LF T.o (j:Int) oM oM
      cases eA
      simp only [Int.toNat_natCast] at X
      replace X:=cQ aA X
      replace X:=cQ J X
      clear aH
      have p1:0<=(j:Int):=by omega
      have q1:(j:Int)<(l1.length:Int):=by omega
      by_cases hx:(AR l1 (j:Int)).f0<a2
      . have hxb:decide ((AR l1 (j:Int)).f0<a2)=true:=decide_eq_true hx
        have HALL:AD (∀ i:Nat,i<j+1->(AR l1 (i:Int)).f0<a2):=⟨fun i hi=>by
         rcases Nat.lt_or_ge i j with h|h
         . exact hall.o i h
         . obtain rfl:i=j:=by omega
           exact hx⟩
        obtain ⟨k1,rfl⟩:∃ k1,gk=k1+1:=⟨gk-1,by omega⟩
        clear hx out_ hall
        go_wp2;go_quiet (fail)
        go_wp2
        go_roundg k1
        case measure=>omega
        case rel=>exact ⟨j+1,by omega,by omega,by go_num,HALL,⟨AJ J.o _⟩⟩
      . have hxb:decide ((AR l1 (j:Int)).f0<a2)=false:=decide_eq_false hx
        have HX:=aK hx
        clear hx
        obtain ⟨t,H1,h2⟩:=sQ HH.o
        cases t with
        | true =>
         obtain ⟨rfl,rfl⟩:=Prod.mk.inj (Option.some.inj (tT h2))
         clear h2 HH
         go_wp2;go_quiet (fail)
         go_wp2_with (first|(go_at_call 94;refine (Iu (w0:=w) l1 (⟨a2,0⟩:CR) (j:Int) v0 w.heap.size (fun _=>True) [.int .i64 a2,.int .i64 0] ?aO ?a0 ?a1 ?aP ?aF ?aB ?aS ?aL).mono ?_;(case a0=>exact Int.natCast_nonneg _);(case a1=>omega);(case aP=>exact fun W_ ok_=>Gb _ _ _ _);(case aB=>exact AJ L.o _);(case aF=>exact (fun _ _=>trivial));(case aO=>exact Am (B9 Y.o (AJ J.o _)) hsz_);(case aS=>exact AF (AJ L.o _));(case aL=>omega);rintro _ w9 ⟨v9,rfl,ho,hb,hg_,hat_⟩;rw [out_.o (.inr HX.o)] at ho;have E:=aK hb;have D:=aK ho;clear hb ho hg_ hat_;obtain ⟨Ao,co,eo⟩:=AW D.o;subst eo)|(go_at_call 48;refine (BG.c k A0 c0 l0 Ao co (CK.l0 l1 a2) true _ (CP Z.o E.o) hc0 (AO D.o).2.2 (AO D.o).2.1 H1.o).mono ?_;rintro e aD ⟨rfl,hb'⟩;have A:=aK hb';clear hb'))
         go_ret2
         exact ⟨_,rfl,B9 D.o A.o,E.o.trans (A.o.mono (AF E.o))⟩
        | false =>
         obtain ⟨rfl,rfl⟩:=Prod.mk.inj (Option.some.inj (tF h2))
         clear h2 HH
         go_wp2;go_quiet (fail)
         go_wp2_with (first|(go_at_call 94;refine (Iu (w0:=w) l1 (⟨a2,0⟩:CR) (j:Int) v0 w.heap.size (fun _=>True) [.int .i64 a2,.int .i64 0] ?aO ?a0 ?a1 ?aP ?aF ?aB ?aS ?aL).mono ?_;(case a0=>exact Int.natCast_nonneg _);(case a1=>omega);(case aP=>exact fun W_ ok_=>Gb _ _ _ _);(case aB=>exact AJ L.o _);(case aF=>exact (fun _ _=>trivial));(case aO=>exact Am (B9 Y.o (AJ J.o _)) hsz_);(case aS=>exact AF (AJ L.o _));(case aL=>omega);rintro _ w9 ⟨v9,rfl,ho,hb,hg_,hat_⟩;rw [out_.o (.inr HX.o)] at ho;have E:=aK hb;have D:=aK ho;clear hb ho hg_ hat_;obtain ⟨Ao,co,eo⟩:=AW D.o;subst eo)|(go_at_call 48;refine (BG.c k A0 c0 l0 Ao co (CK.l0 l1 a2) false _ (CP Z.o E.o) hc0 (AO D.o).2.2 (AO D.o).2.1 H1.o).mono ?_;rintro e aD ⟨rfl,hb'⟩;have A:=aK hb';clear hb');have B:=aK (E.o.trans (A.o.mono (AF E.o)));clear D E A|(go_at_call 91;refine (Cb.c (some ad) c1 l1 l1 _ (CP T.o B.o) U HC.o).mono ?_;rintro e aJ ⟨v12,rfl,ho,hb'⟩;have M:=aK hb';have P:=aK ho;clear hb' ho))
         go_ret2
         exact ⟨_,rfl,Am P.o (AF B.o),B.o.trans (M.o.mono (AF B.o))⟩
    . have hltb:decide ((j:Int)<(l1.length:Int))=false:=decide_eq_false oM
      obtain rfl:j=l1.length:=by omega
      obtain ⟨t,H1,h2⟩:=sQ HH.o
      cases t with
      | true =>
       obtain ⟨rfl,rfl⟩:=Prod.mk.inj (Option.some.inj (tT h2))
       clear h2 HH
       go_wp2;go_quiet (fail)
       go_wp2_with (first|(go_at_call 94;refine (Iu (w0:=w) l1 (⟨a2,0⟩:CR) (l1.length:Int) v0 w.heap.size (fun _=>True) [.int .i64 a2,.int .i64 0] ?aO ?a0 ?a1 ?aP ?aF ?aB ?aS ?aL).mono ?_;(case a0=>exact Int.natCast_nonneg _);(case a1=>omega);(case aP=>exact fun W_ ok_=>Gb _ _ _ _);(case aB=>exact AJ L.o _);(case aF=>exact (fun _ _=>trivial));(case aO=>exact Am (B9 Y.o (AJ J.o _)) hsz_);(case aS=>exact AF (AJ L.o _));(case aL=>omega);rintro _ w9 ⟨v9,rfl,ho,hb,hg_,hat_⟩;rw [out_.o sM] at ho;have E:=aK hb;have D:=aK ho;clear hb ho hg_ hat_;obtain ⟨Ao,co,eo⟩:=AW D.o;subst eo)|(go_at_call 48;refine (BG.c k A0 c0 l0 Ao co (CK.l0 l1 a2) true _ (CP Z.o E.o) hc0 (AO D.o).2.2 (AO D.o).2.1 H1.o).mono ?_;rintro e aD ⟨rfl,hb'⟩;have A:=aK hb';clear hb'))
       go_ret2
       exact ⟨_,rfl,B9 D.o A.o,E.o.trans (A.o.mono (AF E.o))⟩
      | false =>
       obtain ⟨rfl,rfl⟩:=Prod.mk.inj (Option.some.inj (tF h2))
       clear h2 HH
       go_wp2;go_quiet (fail)
       go_wp2_with (first|(go_at_call 94;refine (Iu (w0:=w) l1 (⟨a2,0⟩:CR) (l1.length:Int) v0 w.heap.size (fun _=>True) [.int .i64 a2,.int .i64 0] ?aO ?a0 ?a1 ?aP ?aF ?aB ?aS ?aL).mono ?_;(case a0=>exact Int.natCast_nonneg _);(case a1=>omega);(case aP=>exact fun W_ ok_=>Gb _ _ _ _);(case aB=>exact AJ L.o _);(case aF=>exact (fun _ _=>trivial));(case aO=>exact Am (B9 Y.o (AJ J.o _)) hsz_);(case aS=>exact AF (AJ L.o _));(case aL=>omega);rintro _ w9 ⟨v9,rfl,ho,hb,hg_,hat_⟩;rw [out_.o sM] at ho;have E:=aK hb;have D:=aK ho;clear hb ho hg_ hat_;obtain ⟨Ao,co,eo⟩:=AW D.o;subst eo)|(go_at_call 48;refine (BG.c k A0 c0 l0 Ao co (CK.l0 l1 a2) false _ (CP Z.o E.o) hc0 (AO D.o).2.2 (AO D.o).2.1 H1.o).mono ?_;rintro e aD ⟨rfl,hb'⟩;have A:=aK hb';clear hb');have B:=aK (E.o.trans (A.o.mono (AF E.o)));clear D E A|(go_at_call 91;refine (Cb.c A1 c1 l1 l1 _ (CP T.o B.o) U HC.o).mono ?_;rintro e aJ ⟨v12,rfl,ho,hb'⟩;have M:=aK hb';have P:=aK ho;clear hb' ho))
       go_ret2
       exact ⟨_,rfl,Am P.o (AF B.o),B.o.trans (M.o.mono (AF B.o))⟩
def As.f (l0:List Int):Option (List Int):=(some (([]:List Int):List Int)).bind fun A=>(if A.length+l0.length<17592186044416 then (some (A++l0)) else none)
theorem As.KU (L:Addr) (c0:Nat) (l0:List Int) (r:List Int) (w:World) (T:Kd.C kI w (some L) l0.length l0) (hc0:l0.length<=c0) (h:As.f l0=some r) :
 Calls prog 134 #[.slice (some L) l0.length c0] w fun e w'=>∃ O:Value,e=.returned (O)/\Kd.R kI 3 w' w.heap.size (fun _=>True) O r/\Below w.heap.size w w':=by
 have P:=aK T;have aA:=aK hc0;clear hc0;have HB:=bR w;have H:=h;unfold As.f at H;obtain ⟨G,E,H⟩:=eX H;obtain ⟨c2,H⟩:=nP H;have I:=aK c2;obtain ⟨Z,B⟩:=eY ((G++l0):List Int);rw [<-B.o] at H;obtain rfl:=sI H;(have hun_:∀ (a:Option Addr) (l c:Nat) (W:World),(binOp .eql 23 (.slice a l c) (.slice none 0 0)).run prog W=.ok (.bool a.isNone) W:=fun a l c W=>Go.Lib.run_eql_slice_nil W 23 3 a l c 0 0 underlying23);go_enter func134,ntmps134;(go_wp2_with (first|(refine AL (N:=5) rfl ?_;refine lI 5 [] ?_;intro J w3 M hb;rw [<-E.o] at M;have A:=lR M;replace HB:=uH hb;clear hb)|(refine BT (b:=.append) (xs:=#[.tmp 5,.tmp 6]) rfl ?_;at_builtin;refine rA kI 5 6 underlying23 De J G l0 (fun _=>True) (rR A) (cA P) (fun _ _=>trivial) (by have:=I.o;omega) ?_;intro Y w5 ho hb hg hat;rw [<-B.o] at ho;have U:=aK (hb);have X:=aK (ho);clear HB;clear A;have HB:=U;have D:=X;clear hb hg hat)))
 go_ret;exact ⟨_,eQ,rR D,bQ⟩
theorem As.c (A0:Option Addr) (c0:Nat) (l0:List Int) (r:List Int) (w:World) (A:Kd.C kI w A0 l0.length l0) (hc0:l0.length<=c0) (h:As.f l0=some r) :
 Calls prog 134 #[.slice A0 l0.length c0] w fun e w'=>∃ B:Value,e=.returned (B)/\Kd.R kI 3 w' w.heap.size (fun _=>True) B r/\Below w.heap.size w w':=by
 cases A0 with
 | some a=>exact As.KU a c0 l0 r w A hc0 h
 | none =>
  (have hl:¬ 0<l0.length:=fun q=>by obtain ⟨_,e,_⟩:=A.2.2 q;cases e);obtain rfl:l0=[]:=List.eq_nil_of_length_eq_zero oM
  obtain rfl:r=[]:=by
   unfold As.f at h;(simpa using h.symm)
  (have hun_:∀ (a:Option Addr) (l c:Nat) (W:World),(binOp .eql 23 (.slice a l c) (.slice none 0 0)).run prog W=.ok (.bool a.isNone) W:=fun a l c W=>Go.Lib.run_eql_slice_nil W 23 3 a l c 0 0 underlying23);go_enter func134,ntmps134;go_wp2;go_ret;exact ⟨.slice none 0 0,rfl,Lj _ _ _ _ _,Below.refl _ _⟩
def CS.f (D:List Int) (A:Int) (E:List Int) (B:Int):Option (List Int×Int×List Int×Int):=(As.f D).bind fun G=>((As.f E).bind fun I=>(some (G,A,I,B)))
theorem CS.HT:Br (C9 .any (opsOf f95 1)).2 [0,1,3,0,8,31,31,127,255,511]=true:=by kernel_rfl
theorem CS.c (U:Option Addr) (aA:Nat) (J:List Int) (O:Int) (X:Option Addr) (aC:Nat) (L:List Int) (Z:Int) (r1:List Int) (r2:Int) (r3:List Int) (r4:Int) (w:World) (aT:Kd.C kI w U J.length J) (aF:J.length<=aA) (aU:Kd.C kI w X L.length L) (aG:L.length<=aC) (h:CS.f J O L Z=some (r1,r2,r3,r4)) :
 Calls prog 95 #[.agg #[.slice U J.length aA,.int .i64 O,.slice X L.length aC,.int .i64 Z]] w fun e w'=>∃ bF bH:Value,e=.returned (.agg #[bF,.int .i64 r2,bH,.int .i64 r4])/\Kd.R kI 3 w' w.heap.size (fun k_=>some k_≠(bH:Value).ownBlock) bF r1/\Kd.R kI 3 w' w.heap.size (fun k_=>some k_≠(bF:Value).ownBlock) bH r3/\Below w.heap.size w w':=by
 have bW:=underlying36;have aN:=aK aT;have aJ:=aK aF;clear aF;have aP:=aK aU;have aM:=aK aG;clear aG;have HB:=bR w;have H:=h;unfold CS.f at H;obtain ⟨M,A2,H⟩:=sQ H;obtain ⟨T,A3,H⟩:=sQ H;simp only [sE,pE] at H;obtain ⟨rfl,rfl,rfl,rfl⟩:=H;go_enter func95,ntmps95;(try go_wp2_with (first|(refine AL (N:=1) rfl ?_;refine xU 1 ?_;intro E w4 A hg hb;have bI:=gW hg;replace HB:=uH hb;clear hb hg)|(refine AL (N:=2) rfl ?_;refine xU 2 ?_;intro P w5 B hg hb;have bJ:=gW hg;have G:=nB hg (rB A);have D:=mB hg (rB A);replace A:=uB A hb;replace HB:=uH hb;clear hb hg)));replace A:=dK A;replace B:=dK B;replace HB:=dB HB;refine Gx (n:=10) (S:=fun w'=>w'.cell? ⟨E,0,none⟩=some (.slice U J.length aA)/\w'.cell? ⟨E,1,none⟩=some (.int .i64 O)/\w'.cell? ⟨E,2,none⟩=some (.slice X L.length aC)/\w'.cell? ⟨E,3,none⟩=some (.int .i64 Z)) (ds:=[7,9]) (Array.replicate 10 false) kF rfl rfl (Bi A) (fun hHeld=>?_);refine F8 rfl CS.HT (fun HT_ HW_=>?_);generalize w5.drew=w6 at A B HB hHeld |-;refine pU 0 ?_;refine pU 3 ?_;refine kU 1 ?_;refine kU 4 ?_;refine jU 2 (fun K hK=>?_);refine aO func134 (As.c _ _ J M _ (cA aN) aJ.o A2.o) ?_;rintro e w7 ⟨bX,rfl,aZ,hb⟩;refine ⟨_,rfl,?_⟩;have I:=lR aZ;replace A:=uB A hb;replace B:=uB B hb;replace HB:=uH hb
 refine oK hK (Bi A) (fun hHeld=>?_);clear hK K;refine pU 6 ?_;refine jU 5 (fun K hK=>?_);refine aO func134 (As.c _ _ L T _ (cA aP) aM.o A3.o) ?_;rintro e w8 ⟨bY,rfl,aZ,hb⟩;refine ⟨_,rfl,?_⟩;have aE:=aK (Am (Bs aZ (CC (rR I))) (AF bQ));replace I:=aK (Bl (rR I) (Aw aZ) hb);replace A:=uB A hb;replace B:=uB B hb;replace HB:=uH hb;(skip);(skip);(skip);obtain ⟨aH,aI,bK⟩:=AW I.o;(first|subst bK|(injection bK with aR bA aS;have bC:=aR.symm;have bD:=aS.symm;clear aR bA aS;subst bC;subst bD));obtain ⟨Y,aD,aQ⟩:=AW aE.o;(first|subst aQ|(injection aQ with aR bA aS;have bC:=aR.symm;have bD:=aS.symm;clear aR bA aS;subst bC;subst bD));refine oK hK (Bi A) (fun hHeld=>?_);clear hK K;refine JD (i:=7) (N:=none) #[true,true,true,true,true,true,true,true,false,false] rfl rfl (F3 HT_.o kF) dC (fun K hK=>?_);have bU:w8.cell? ⟨E,0,none⟩=some (.slice U J.length aA):=zC A 0 _;have bO:=BB A.o 0;have aX:=D.o;have aV:=G.o;refine JH (w1:=?_) (by rfl) rfl ?_ ?_;rotate_left;(· go_simp;rfl);refine hK.out _ _ ?_;clear hK K;refine pU 8 ?_;refine JD (i:=9) (N:=none) #[true,true,true,true,true,true,true,true,true,true] rfl rfl (F3 HT_.o kF) dC (fun K hK=>?_);have bV:w8.cell? ⟨E,2,none⟩=some (.slice X L.length aC):=zC A 2 _;have bP:=BB A.o 2;have aY:=D.o;have aW:=G.o;refine JH (w1:=?_) (by rfl) rfl ?_ ?_;rotate_left;(· go_simp;rfl)
 refine hK.out _ _ ?_;clear hK K;refine CY (BY HT_.o kF) ?_;have bL:=Bi A;have bS:=DP A;have bM:=Bi B;have bT:=DP B;(try go_wp2);refine bodyPost_ret (results_cell_row rfl _ _ P 36 #[.slice aH M.length aI,.int .i64 O,.slice Y T.length aD,.int .i64 Z] (0,0) _ rfl (by refine Ak (cs:=#[.slice aH M.length aI,.int .i64 O,.slice Y T.length aD,.int .i64 0]) ?_ 3 _ rfl;refine Ak (cs:=#[.slice aH M.length aI,.int .i64 O,.slice none 0 0,.int .i64 0]) ?_ 2 _ rfl;refine Ak (cs:=#[.slice aH M.length aI,.int .i64 0,.slice none 0 0,.int .i64 0]) ?_ 1 _ rfl;refine Ak (cs:=#[.slice none 0 0,.int .i64 0,.slice none 0 0,.int .i64 0]) ?_ 0 _ rfl;refine Ax ?_ D.o _;refine Ax ?_ D.o _;exact B.o) underlying36 rfl kF) rfl ?_;exact ⟨_,_,eQ,sR (AG (fR P (C3 (p:=⟨E,2,none⟩) (C3 (p:=⟨E,0,none⟩) (AN (AN I.o A.o dC) B.o dC) (fun _ hk=>hk.1.2) (.slice aH M.length aI)) (fun _ hk=>hk.1.2) (.slice Y T.length aD))) (fun _ hk=>hk.1.1.2)),sR (AG (fR P (C3 (p:=⟨E,2,none⟩) (C3 (p:=⟨E,0,none⟩) (AN (AN aE.o A.o dC) B.o dC) (fun _ hk=>hk.1.2) (.slice aH M.length aI)) (fun _ hk=>hk.1.2) (.slice Y T.length aD))) (fun _ hk=>hk.1.1.2)),bQ⟩
end Go.Proofs.YtdahnapanpiooaaGreat.PHis
