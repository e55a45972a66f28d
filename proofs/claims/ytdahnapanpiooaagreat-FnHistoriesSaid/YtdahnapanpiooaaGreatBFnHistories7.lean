/- Go functions that the statement reaches: each printed as a Lean function, with a proof that the Go function comes to its answer; conditions: the bounds that each states. -/
import Derived.Test.YtdahnapanpiooaaGreatBFnHistories0
set_option maxHeartbeats 8000000
set_option maxRecDepth 100000
namespace Go.Proofs.YtdahnapanpiooaaGreat.PHis
open Go.RowKit Go.Proofs.YtdahnapanpiooaaGreatW.PrintWords Go.Proofs.YtdahnapanpiooaaGreatW.PrintLast Go.Proofs.YtdahnapanpiooaaGreatW.PrintMore Go.Proofs.Tryz Go.Proofs.YtdahnapanpiooaaGreatW.PrintWords.Kd
attribute [local go_sem] E3 E5 Fs Ft ES ET E4 E6
set_option linter.unusedVariables false
set_option linter.unusedSimpArgs false
def AB (w0 W:World) (g:Nat) (f0:List Int) (f1:Int) (f2:Int):Prop:=∃ A0 c0,W.heap[g]?=some (.cells #[.slice A0 f0.length c0,.int .i64 f1,.int .i64 f2] 128 (0,0))/\w0.heap.size<=g/\Kd.C (Kd.int .u8) w0 A0 f0.length f0
theorem AB.grown {w0 W:World} {g:Nat} {f0:List Int} {f1:Int} {f2:Int} {W1:World} {row:Option Nat} (h:AB w0 W g f0 f1 f2) (hw:W.grownBy W1 row) (hne:some g≠row):AB w0 W1 g f0 f1 f2:=by
 obtain ⟨A0,c0,hb,hg,A⟩:=h;(exact ⟨A0,c0,CM hb hw hne,hg,A⟩)
theorem AB.Gc {w0 W:World} {g:Nat} {f0:List Int} {f1:Int} {f2:Int} {α:Type} {d:Kd α} {e:Nat} {base:Nat} {ok:Nat->Prop} {v:Value} {xs:List α} (h:AB w0 W g f0 f1 f2) (ho:Kd.N d e W base ok v xs) (ht:e≠128):some g≠v.ownBlock:=by
 obtain ⟨A0,c0,hb,hg,A⟩:=h;(exact SI ho hb ht)
theorem AB.fresh {w0 W:World} {g:Nat} {f0:List Int} {f1:Int} {f2:Int} (h:AB w0 W g f0 f1 f2):∀ k,W.heap.size<=k->k≠g:=by
 obtain ⟨A0,c0,hb,hg,A⟩:=h;(exact F1 hb)
theorem AB.kept {w0 W:World} {g:Nat} {f0:List Int} {f1:Int} {f2:Int} {W1:World} {S:Nat->Prop} (h:AB w0 W g f0 f1 f2) (hk:Kept W W1 S) (hne:¬ S g):AB w0 W1 g f0 f1 f2:=by
 obtain ⟨A0,c0,hb,hg,A⟩:=h;(exact ⟨A0,c0,Q5 hb hk hne,hg,A⟩)
theorem AB.below {w0 W:World} {g:Nat} {f0:List Int} {f1:Int} {f2:Int} {W1:World} (h:AB w0 W g f0 f1 f2) (hw:Below W.heap.size W W1):AB w0 W1 g f0 f1 f2:=h.grown (JZ hw none) sM
theorem AB.alloc {w0 W:World} {g:Nat} {f0:List Int} {f1:Int} {f2:Int} (h:AB w0 W g f0 f1 f2) (o:Obj):AB w0 (W.alloc o) g f0 f1 f2:=h.below (AP (Below.refl _ _) o)
theorem AB.drewN {w0 W:World} {g:Nat} {f0:List Int} {f1:Int} {f2:Int} (h:AB w0 W g f0 f1 f2) (m:Nat):AB w0 (W.drewN m) g f0 f1 f2:=h
theorem AB.drew {w0 W:World} {g:Nat} {f0:List Int} {f1:Int} {f2:Int} (h:AB w0 W g f0 f1 f2):AB w0 W.drew g f0 f1 f2:=h
theorem AB.at_ {w0 W:World} {g:Nat} {f0:List Int} {f1:Int} {f2:Int} {w':World} {m:Nat} (hq:W.drewN m=w') (h:AB w0 W g f0 f1 f2):AB w0 w' g f0 f1 f2:=by subst hq;exact AB.drewN h m
theorem AB.apart {w0 W:World} {g:Nat} {f0:List Int} {f1:Int} {f2:Int} {α:Type} {d:Kd α} {e:Nat} {base:Nat} {ok:Nat->Prop} {v:Value} {xs:List α} (h:AB w0 W g f0 f1 f2) (ho:d.R e W base ok v xs) (ht:∀ q,q ∈ e::d.E->q≠128):d.R e W base (fun k=>ok k/\k≠g) v xs:=by
 obtain ⟨A0,c0,hb,hg,A⟩:=h;(exact AN ho hb ht)
theorem AB.EG {w0 W:World} {g:Nat} {f0:List Int} {f1:Int} {f2:Int} {α:Type} {d:Kd α} {e:Nat} {base:Nat} {ok:Nat->Prop} {v:Value} {xs:List α} (h:AB w0 W g f0 f1 f2) (ho:d.R e W base ok v xs) (ht:e≠128):some g≠v.ownBlock:=by
 obtain ⟨A0,c0,hb,hg,A⟩:=h;(exact FE ho hb ht)
theorem AB.JW {w0 W:World} {g:Nat} {f0:List Int} {f1:Int} {f2:Int} {α:Type} {d:Kd α} {e:Nat} {base:Nat} {ok:Nat->Prop} {v:Value} {xs:List α} (h:AB w0 W g f0 f1 f2) (ho:d.S e W base ok v xs) (ht:∀ q,q ∈ e::d.E->q≠128):d.S e W base (fun k=>ok k/\k≠g) v xs:=by
 obtain ⟨A0,c0,hb,hg,A⟩:=h;(exact J0 ho hb ht)
theorem AB.Cv {w0 W:World} {g:Nat} {f0:List Int} {f1:Int} {f2:Int} {α:Type} {d:Kd α} {e:Nat} {base:Nat} {ok:Nat->Prop} {v:Value} {xs:List α} (h:AB w0 W g f0 f1 f2) (ho:d.S e W base ok v xs) (ht:e≠128):some g≠v.ownBlock:=by
 obtain ⟨A0,c0,hb,hg,A⟩:=h;(exact Sn ho hb ht)
theorem AB.lt {w0 W:World} {g:Nat} {f0:List Int} {f1:Int} {f2:Int} (h:AB w0 W g f0 f1 f2):g<W.heap.size:=by
 obtain ⟨A0,c0,hb,hg,A⟩:=h;(exact ID hb)
theorem AB.ge {w0 W:World} {g:Nat} {f0:List Int} {f1:Int} {f2:Int} (h:AB w0 W g f0 f1 f2):w0.heap.size<=g:=by
 obtain ⟨A0,c0,hb,hg,A⟩:=h;(exact hg)
theorem AB.RQ {w0 W:World} {g:Nat} {f0:List Int} {f1:Int} {f2:Int} {a:Nat} {cs:Array Value} {t:TypeId} {fr:Nat×Nat} (h:AB w0 W g f0 f1 f2) (A:W.heap[a]?=some (.cells cs t fr)) (ht:t≠128):g≠a:=by
 obtain ⟨A0,c0,hb,hg,B⟩:=h;rintro rfl;(rw [hb] at A);(injection A with A);(injection A with _ ht2);(exact ht ht2.symm)
theorem AB.Fe {w0 W:World} {g:Nat} {f0:List Int} {f1:Int} {f2:Int} {p:Addr} (h:AB w0 W g f0 f1 f2) (hne:g≠p.block) (u:Value):AB w0 (W.setCell p u) g f0 f1 f2:=by
 obtain ⟨A0,c0,hb,hg,A⟩:=h;(exact ⟨A0,c0,Ax hb hne u,hg,A⟩)
theorem Me {W:World} {g:Nat} {A0:Option Addr} {c0:Nat} {f0:List Int} {f1:Int} {f2:Int} (h:W.heap[g]?=some (.cells #[.slice A0 f0.length c0,.int .i64 f1,.int .i64 f2] 128 (0,0))):W.cell? ⟨g,0,none⟩=some (.slice A0 f0.length c0):=(EW h 0).trans rfl
theorem Mf {W:World} {g:Nat} {A0:Option Addr} {c0:Nat} {f0:List Int} {f1:Int} {f2:Int} (h:W.heap[g]?=some (.cells #[.slice A0 f0.length c0,.int .i64 f1,.int .i64 f2] 128 (0,0))):W.cell? ⟨g,1,none⟩=some (.int .i64 f1):=(EW h 1).trans rfl
theorem AB.C1 {w0 W:World} {g:Nat} {f0:List Int} {f1:Int} {f2:Int} (h:AB w0 W g f0 f1 f2) (x:Int):AB w0 (W.setCell ⟨g,1,none⟩ (.int .i64 x)) g f0 x f2:=by
 obtain ⟨A0,c0,hb,hg,A⟩:=h;(exact ⟨A0,c0,by simpa using MK hb 1 (.int .i64 x),hg,A⟩)
theorem Mg {W:World} {g:Nat} {A0:Option Addr} {c0:Nat} {f0:List Int} {f1:Int} {f2:Int} (h:W.heap[g]?=some (.cells #[.slice A0 f0.length c0,.int .i64 f1,.int .i64 f2] 128 (0,0))):W.cell? ⟨g,2,none⟩=some (.int .i64 f2):=(EW h 2).trans rfl
theorem AB.C2 {w0 W:World} {g:Nat} {f0:List Int} {f1:Int} {f2:Int} (h:AB w0 W g f0 f1 f2) (x:Int):AB w0 (W.setCell ⟨g,2,none⟩ (.int .i64 x)) g f0 f1 x:=by
 obtain ⟨A0,c0,hb,hg,A⟩:=h;(exact ⟨A0,c0,by simpa using MK hb 2 (.int .i64 x),hg,A⟩)
theorem AB.new (w0 W:World) (A0:Option Addr) (c0:Nat) (f0:List Int) (f1:Int) (f2:Int) (hB:Below w0.heap.size w0 W) (A:Kd.C (Kd.int .u8) w0 A0 f0.length f0):AB w0 (W.alloc (.cells #[.slice A0 f0.length c0,.int .i64 f1,.int .i64 f2] 128)) W.heap.size f0 f1 f2:=⟨A0,c0,by simpa using heap_alloc_new W _,hB.size,A⟩
theorem Ff {w0 W W0 w1 : World} {g : Nat} {f0 : List Int} {f1 : Int} {f2 : Int} {α : Type} {d : Kd α} {e base : Nat} {ok : Nat -> Prop} {v : Value} {xs : List α} (H : AD (d.R e W0 base ok v xs)) (hk : AH W w1 g none) (hI : AB w0 W g f0 f1 f2 := by repeat (first | (with_reducible first | exact HI0.o | apply AB.alloc | apply AB.drewN | apply AB.drew | apply AB.C1 | apply AB.C2 | refine AB.Fe ?_ (AD.o (by assumption)) _) | exact HI0.o)) (ht : ∀ q, q ∈ e :: d.E -> q ≠ 128 := by decide) (hb : Below W0.heap.size W0 W := by repeat (first | (with_reducible first | exact Below.refl _ _ | apply AP | apply AJ | apply AQ) | exact Below.refl _ _)) : AD (d.R e w1 base ok v xs) := ⟨AG (Ca (AB.apart hI (B9 H.o hb) ht) hk (fun _ h => h.2)) (fun _ h => h.1)⟩
theorem S4 {w0 W W0 w1 : World} {g : Nat} {f0 : List Int} {f1 : Int} {f2 : Int} {α : Type} {d : Kd α} {e base : Nat} {ok : Nat -> Prop} {v : Value} {xs : List α} (H : AD (Kd.S d e W0 base ok v xs)) (hk : AH W w1 g none) (hI : AB w0 W g f0 f1 f2 := by repeat (first | (with_reducible first | exact HI0.o | apply AB.alloc | apply AB.drewN | apply AB.drew | apply AB.C1 | apply AB.C2 | refine AB.Fe ?_ (AD.o (by assumption)) _) | exact HI0.o)) (ht : ∀ q, q ∈ e :: d.E -> q ≠ 128 := by decide) (hb : Below W0.heap.size W0 W := by repeat (first | (with_reducible first | exact Below.refl _ _ | apply AP | apply AJ | apply AQ) | exact Below.refl _ _)) : AD (Kd.S d e w1 base ok v xs) := ⟨C6 (JV (AB.JW hI (FU H.o hb) ht) hk (fun _ h => h.2)) (fun _ h => h.1)⟩
def Cc.l0:Nat->List Int->Int->Int->Option (List Int×Int×Int)
 | 0,_,_,_=>none
 | k+1,x0,x3,x4=>if x4<(x0.length:Int) then (if x4<4000 then (if 0<=x4 then (Cc.l0 k x0 (Go.bits .and .i64 (wrap64 ((wrap64 ((wrap64 (x3*137))+(wrap64 (rd x0 x4))))+11)) 1073741823) (wrap64 (x4+1))) else none) else (some (x0,0,x3))) else (some (x0,0,x3))
def Cc.f (k:Nat) (l0:List Int):Option (List Int×Int×Int):=Cc.l0 k l0 (wrap64 (193017+(l0.length:Int))) 0
theorem Cc.c (k:Nat) (A0:Option Addr) (c0:Nat) (l0:List Int) (r1:List Int) (r2:Int) (r3:Int) (w0 w:World) (hB:Below w0.heap.size w0 w) (aG:Kd.C (Kd.int .u8) w0 A0 l0.length l0) (hc0:l0.length<=c0) (h:Cc.f k l0=some (r1,r2,r3)) :
 Calls prog 59 #[.slice A0 l0.length c0] w fun e w'=>∃ g_:Nat,e=.returned (.pointer (some ⟨g_,0,none⟩))/\AB w0 w' g_ r1 r2 r3/\Below w0.heap.size w0 w'/\Below w.heap.size w w':=by
 have aH:=underlying128;have Y:=aK aG;have aJ:=aK hc0;clear aG hc0;have HBW:=bR w;have aE:=aK hB.size;have HB:=aK hB;clear hB;have H:=h;unfold Cc.f at H;have H':=aK H;go_enter func59,ntmps59;go_wp2;(go_loopg [3,4] k (fun kq v3 v4 w'=>∃ (G:Int) (A:Int),v3=.int .i64 G/\v4=.int .i64 A/\AD (Cc.l0 kq l0 G A=some (r1,r2,r3))/\AD (kq<=k)/\AD (Below w0.heap.size w0 w')/\AD (Below w.heap.size w w')));(case atStart=>exact ⟨wrap64 (193017+(l0.length:Int)),0,vQ,vQ,H',⟨Nat.le_refl _⟩,⟨bQ⟩,⟨by repeat (first|(with_reducible first|exact HBW.o|apply AP|apply AJ|apply AQ)|exact HBW.o)⟩⟩)
 case round =>
  obtain ⟨G,A,rfl,rfl,HA,aD,HB,HBW⟩:=hrel
  cases gk with
  | zero=>exact nS HA
  | succ k1 =>
   have H:=HA.o;simp only [Cc.l0] at H;(by_cases c2:A<(l0.length:Int))
   .
    obtain ⟨Z,H⟩:=iT c2 H;(by_cases c3:A<4000)
    . obtain ⟨aA,H⟩:=iT c3 H;obtain ⟨aI,H⟩:=nQ H;have H':=aK H;have I:0<=(A:Int):=oD;have J:A<(l0.length:Int):=oD;obtain ⟨aF,aC,E⟩:=ED Y.o A I J;cases aC;replace E:=Fj HB.o E;replace I:=eq_true I;replace J:=eq_true J;go_wp2;(go_roundg k1);(case measure=>have:=aD.o;omega);(case rel=>exact ⟨Go.bits .and .i64 (wrap64 ((wrap64 ((wrap64 (G*137))+(wrap64 (rd l0 A))))+11)) 1073741823,wrap64 (A+1),vQ,vQ,H',⟨mA aD⟩,⟨bQ⟩,⟨by repeat (first|(with_reducible first|exact HBW.o|apply AP|apply AJ|apply AQ)|exact HBW.o)⟩⟩)
    . obtain ⟨aA,H⟩:=iF c3 H;simp only [sE,pE] at H;obtain ⟨rfl,rfl,rfl⟩:=H;(go_wp2_with (refine AL (N:=31) rfl ?_;refine xE 31 ?_;intro B hg w5 hbox hb;have X:=aK (BM HBW.o hb);have L:=aK hbox;have T:=aK ((by rw [hg];exact (AF (by repeat (first|(with_reducible first|exact HBW.o|apply AP|apply AJ|apply AQ)|exact HBW.o))):w.heap.size<=B));have O:=aK ((Nat.le_trans aE.o (by rw [hg];exact (AF (by repeat (first|(with_reducible first|exact HBW.o|apply AP|apply AJ|apply AQ)|exact HBW.o))):w.heap.size<=B):w0.heap.size<=B));replace HB:=uH hb;replace HBW:=X;clear X;clear hb hbox hg));go_ret;exact ⟨_,rfl,(show AB w0 _ B l0 0 G from ⟨_,_,rB L,O.o,Y.o⟩),bQ,by repeat (first|(with_reducible first|exact HBW.o|apply AP|apply AJ|apply AQ|refine AU ?_ T.o)|exact HBW.o)⟩
   . obtain ⟨Z,H⟩:=iF c2 H;simp only [sE,pE] at H;obtain ⟨rfl,rfl,rfl⟩:=H;(go_wp2_with (refine AL (N:=31) rfl ?_;refine xE 31 ?_;intro D hg w6 hbox hb;have X:=aK (BM HBW.o hb);have M:=aK hbox;have U:=aK ((by rw [hg];exact (AF (by repeat (first|(with_reducible first|exact HBW.o|apply AP|apply AJ|apply AQ)|exact HBW.o))):w.heap.size<=D));have P:=aK ((Nat.le_trans aE.o (by rw [hg];exact (AF (by repeat (first|(with_reducible first|exact HBW.o|apply AP|apply AJ|apply AQ)|exact HBW.o))):w.heap.size<=D):w0.heap.size<=D));replace HB:=uH hb;replace HBW:=X;clear X;clear hb hbox hg));go_ret;exact ⟨_,rfl,(show AB w0 _ D l0 0 G from ⟨_,_,rB M,P.o,Y.o⟩),bQ,by repeat (first|(with_reducible first|exact HBW.o|apply AP|apply AJ|apply AQ|refine AU ?_ U.o)|exact HBW.o)⟩
theorem B5 {w0 W:World} {g:Nat} {f0:List Int} {f1:Int} {f2:Int} (h:AB w0 W g f0 f1 f2:=by repeat (first|(with_reducible first|exact HI0.o|apply AB.alloc|apply AB.drewN|apply AB.drew|apply AB.C1|apply AB.C2)|exact HI0.o)):AB w0 W g f0 f1 f2:=h
theorem Ci {n:Nat} {W W1:World} (h:Below n W W1:=by repeat (first|(with_reducible first|exact HB.o|apply AP|apply AJ|apply AQ|refine AU ?_ (AB.ge HI0.o))|exact HB.o)):Below n W W1:=h
theorem Gk {w0 W:World} {g:Nat} {f0:List Int} {f1:Int} {f2:Int} (h:AB w0 W g f0 f1 f2:=by repeat (first|(with_reducible first|exact HI0.o|apply AB.alloc|apply AB.drewN|apply AB.drew|apply AB.C1|apply AB.C2|refine AB.Fe ?_ NB0_1083.o _|refine AB.Fe ?_ NB0_1097.o _)|exact HI0.o)):AB w0 W g f0 f1 f2:=h
theorem GS {w0 W:World} {g:Nat} {f0:List Int} {f1:Int} {f2:Int} (h:AB w0 W g f0 f1 f2:=by repeat (first|(with_reducible first|exact HI1343.o|apply AB.alloc|apply AB.drewN|apply AB.drew|apply AB.C1|apply AB.C2)|exact HI1343.o)):AB w0 W g f0 f1 f2:=h
theorem KC {w0 W:World} {g:Nat} {f0:List Int} {f1:Int} {f2:Int} (h:AB w0 W g f0 f1 f2:=by repeat (first|(with_reducible first|exact HI0.o|apply AB.alloc|apply AB.drewN|apply AB.drew|apply AB.C1|apply AB.C2|refine AB.Fe ?_ NB0_1032.o _|refine AB.Fe ?_ NB0_1048.o _)|exact HI0.o)):AB w0 W g f0 f1 f2:=h
theorem JO {w0 W:World} {g:Nat} {f0:List Int} {f1:Int} {f2:Int} (h:AB w0 W g f0 f1 f2:=by repeat (first|(with_reducible first|exact HI0.o|apply AB.alloc|apply AB.drewN|apply AB.drew|apply AB.C1|apply AB.C2|refine AB.Fe ?_ NB0_984.o _|refine AB.Fe ?_ NB0_1004.o _)|exact HI0.o)):AB w0 W g f0 f1 f2:=h
theorem IY {n:Nat} {W W1:World} (h:Below n W W1:=by repeat (first|(with_reducible first|exact HB.o|apply AP|apply AJ|apply AQ|refine AU ?_ (AB.ge HI0.o)|refine AU ?_ GE1083.o|refine AU ?_ GE1097.o)|exact HB.o)):Below n W W1:=h
theorem JP {w0 W:World} {g:Nat} {f0:List Int} {f1:Int} {f2:Int} (h:AB w0 W g f0 f1 f2:=by repeat (first|(with_reducible first|exact HI1155.o|apply AB.alloc|apply AB.drewN|apply AB.drew|apply AB.C1|apply AB.C2|refine AB.Fe ?_ NB1155_1151.o _|refine AB.Fe ?_ NB1155_1172.o _)|exact HI1155.o)):AB w0 W g f0 f1 f2:=h
theorem KM {w0 W:World} {g:Nat} {f0:List Int} {f1:Int} {f2:Int} (h:AB w0 W g f0 f1 f2:=by repeat (first|(with_reducible first|exact HI0.o|apply AB.alloc|apply AB.drewN|apply AB.drew|apply AB.C1|apply AB.C2|refine AB.Fe ?_ NB0_984.o _)|exact HI0.o)):AB w0 W g f0 f1 f2:=h
theorem Hj {n:Nat} {W W1:World} (h:Below n W W1:=by repeat (first|(with_reducible first|exact HB.o|apply AP|apply AJ|apply AQ|refine AU ?_ (AB.ge HI1343.o))|exact HB.o)):Below n W W1:=h
theorem JF {w0 W:World} {g:Nat} {f0:List Int} {f1:Int} {f2:Int} (h:AB w0 W g f0 f1 f2:=by repeat (first|(with_reducible first|exact HI0.o|apply AB.alloc|apply AB.drewN|apply AB.drew|apply AB.C1|apply AB.C2|refine AB.Fe ?_ NB0_664.o _|refine AB.Fe ?_ NB0_674.o _)|exact HI0.o)):AB w0 W g f0 f1 f2:=h
theorem H8 {n:Nat} {W W1:World} (h:Below n W W1:=by repeat (first|(with_reducible first|exact HB.o|apply AP|apply AJ|apply AQ|refine AU ?_ (AB.ge HI755.o))|exact HB.o)):Below n W W1:=h
theorem IX {n:Nat} {W W1:World} (h:Below n W W1:=by repeat (first|(with_reducible first|exact HB.o|apply AP|apply AJ|apply AQ|refine AU ?_ (AB.ge HI0.o)|refine AU ?_ GE1032.o|refine AU ?_ GE1048.o)|exact HB.o)):Below n W W1:=h
theorem JE {n:Nat} {W W1:World} (h:Below n W W1:=by repeat (first|(with_reducible first|exact HB.o|apply AP|apply AJ|apply AQ|refine AU ?_ (AB.ge HI0.o)|refine AU ?_ GE664.o|refine AU ?_ GE674.o)|exact HB.o)):Below n W W1:=h
theorem Jn {w0 W:World} {g:Nat} {f0:List Int} {f1:Int} {f2:Int} (h:AB w0 W g f0 f1 f2:=by repeat (first|(with_reducible first|exact HI755.o|apply AB.alloc|apply AB.drewN|apply AB.drew|apply AB.C1|apply AB.C2)|exact HI755.o)):AB w0 W g f0 f1 f2:=h
theorem Kv {n:Nat} {W W1:World} (h:Below n W W1:=by repeat (first|(with_reducible first|exact HB.o|apply AP|apply AJ|apply AQ|refine AU ?_ (AB.ge HI0.o)|refine AU ?_ GE984.o|refine AU ?_ GE1004.o)|exact HB.o)):Below n W W1:=h
theorem Lt {n:Nat} {W W1:World} (h:Below n W W1:=by repeat (first|(with_reducible first|exact HB.o|apply AP|apply AJ|apply AQ|refine AU ?_ (AB.ge HI0.o)|refine AU ?_ GE984.o)|exact HB.o)):Below n W W1:=h
theorem Lu {n:Nat} {W W1:World} (h:Below n W W1:=by repeat (first|(with_reducible first|exact HB.o|apply AP|apply AJ|apply AQ|refine AU ?_ (AB.ge HI1155.o)|refine AU ?_ GE1151.o)|exact HB.o)):Below n W W1:=h
theorem Lv {n:Nat} {W W1:World} (h:Below n W W1:=by repeat (first|(with_reducible first|exact HB.o|apply AP|apply AJ|apply AQ|refine AU ?_ (AB.ge HI1155.o)|refine AU ?_ GE1151.o|refine AU ?_ GE1172.o)|exact HB.o)):Below n W W1:=h
theorem Lw {n:Nat} {W W1:World} (h:Below n W W1:=by repeat (first|(with_reducible first|exact HB.o|apply AP|apply AJ|apply AQ|refine AU ?_ (AB.ge HI1256.o))|exact HB.o)):Below n W W1:=h
theorem Nw {w0 W:World} {g:Nat} {f0:List Int} {f1:Int} {f2:Int} (h:AB w0 W g f0 f1 f2:=by repeat (first|(with_reducible first|exact HI0.o|apply AB.alloc|apply AB.drewN|apply AB.drew|apply AB.C1|apply AB.C2|refine AB.Fe ?_ NB0_1032.o _)|exact HI0.o)):AB w0 W g f0 f1 f2:=h
def Dd.f (D:List Int) (B:Int) (A:Int):Option (Int×Int×Int):=if B<(D.length:Int) then (if 0<=B then (some (Go.bits .and .i64 (wrap64 ((Go.bits .and .i64 (Go.bits .xor .i64 ((wrap64 ((wrap64 (A*6364136223846793005))+1442695040888963407)) / 8589934592) ((wrap64 ((wrap64 (A*6364136223846793005))+1442695040888963407)) / 140737488355328)) 255)+(wrap64 (rd D B)))) 255,wrap64 (B+1),wrap64 ((wrap64 (A*6364136223846793005))+1442695040888963407))) else none) else (some (Go.bits .and .i64 (Go.bits .xor .i64 ((wrap64 ((wrap64 (A*6364136223846793005))+1442695040888963407)) / 8589934592) ((wrap64 ((wrap64 (A*6364136223846793005))+1442695040888963407)) / 140737488355328)) 255,B,wrap64 ((wrap64 (A*6364136223846793005))+1442695040888963407)))
theorem Dd.c (g:Nat) (I:List Int) (G:Int) (J:Int) (r1:Int) (r2:Int) (r3:Int) (w0 w:World) (hI:AB w0 w g I G J) (hB:Below w0.heap.size w0 w) (h:Dd.f I G J=some (r1,r2,r3)) :
 Calls prog 119 #[.pointer (some ⟨g,0,none⟩)] w fun e w'=>e=.returned (.int .i64 r1)/\AB w0 w' g I r2 r3/\Below w0.heap.size w0 w'/\AH w w' g none:=by
 have HI0:=aK hI;have HK:=aK (AH.refl w g none);have HL:=aK hB.size;clear hI;have aU:=aK hB.size;have HB:=aK hB;clear hB;have H:=h;unfold Dd.f at H;(by_cases c2:G<(I.length:Int))
 . obtain ⟨Z,H⟩:=iT c2 H;obtain ⟨aT,H⟩:=nQ H;simp only [sE,pE] at H;obtain ⟨rfl,rfl,rfl⟩:=H;obtain ⟨U,aA,D,aR,L⟩:=HI0.o;have aE:=Me D;have aF:=Mf D;have aG:=Mg D;have aM:=BB D 1;have aN:=BB D 2;clear D aR;have M:0<=(G:Int):=oD;have O:G<(I.length:Int):=oD;obtain ⟨P,aD,A⟩:=ED L G M O;cases aD;have B:P.block≠g:=Nat.ne_of_lt (Nat.lt_of_lt_of_le (by have:=World.block_lt_of_cell? _ _ A;first|rwa [AY] at this|exact this) (AB.ge HI0.o));replace A:=Fj HB.o A;replace A:=(cell_far (p:=⟨g,2,none⟩) (by first|(rw [AY];exact B)|(show (Addr.add _ _).block≠_;rw [AY];exact B)|exact B) (.int .i64 (wrap64 ((wrap64 (J*6364136223846793005))+1442695040888963407)))).trans A;(try have T:=fun (n_:Nat)=>(show (((w.drewN n_).setCell ⟨g,2,none⟩ (.int .i64 (wrap64 ((wrap64 (J*6364136223846793005))+1442695040888963407))))).cell? _=some _ from A));replace M:=eq_true M;replace O:=eq_true O;go_enter func119,ntmps119;go_wp2;(repeat (go_quiet (fail);try go_wp2));go_ret;exact ⟨eQ,by repeat (first|(with_reducible first|exact HI0.o|apply AB.alloc|apply AB.drewN|apply AB.drew|apply AB.C1|apply AB.C2)|exact HI0.o),by repeat (first|(with_reducible first|exact HB.o|apply AP|apply AJ|apply AQ|refine AU ?_ (AB.ge HI0.o))|exact HB.o),by repeat (first|(with_reducible first|exact HK.o|apply AH.Fk|apply Bu|apply Bo|apply keep_alloc)|exact HK.o)⟩
 . obtain ⟨Z,H⟩:=iF c2 H;simp only [sE,pE] at H;obtain ⟨rfl,rfl,rfl⟩:=H;obtain ⟨X,aC,E,aS,Y⟩:=HI0.o;have aH:=Me E;have aI:=Mf E;have aJ:=Mg E;have aP:=BB E 1;have aQ:=BB E 2;clear E aS;go_enter func119,ntmps119;go_wp2;(repeat (go_quiet (fail);try go_wp2));go_ret;exact ⟨eQ,by repeat (first|(with_reducible first|exact HI0.o|apply AB.alloc|apply AB.drewN|apply AB.drew|apply AB.C1|apply AB.C2)|exact HI0.o),by repeat (first|(with_reducible first|exact HB.o|apply AP|apply AJ|apply AQ|refine AU ?_ (AB.ge HI0.o))|exact HB.o),by repeat (first|(with_reducible first|exact HK.o|apply AH.Fk|apply Bu|apply Bo|apply keep_alloc)|exact HK.o)⟩
def AT.f (G:List Int) (I:Int) (J:Int) (a1:Int):Option (Int×Int×Int):=if a1<=0 then (some (0,I,J)) else (if a1<=256 then ((Dd.f G I J).bind fun A=>(if a1=0 then none else (some (Int.tmod A.1 a1,A.2.1,A.2.2)))) else ((Dd.f G I J).bind fun B=>((Dd.f G B.2.1 B.2.2).bind fun D=>((Dd.f G D.2.1 D.2.2).bind fun E=>(if a1=0 then none else (some (Int.tmod (wrap64 ((wrap64 ((wrap64 (B.1*65536))+(wrap64 (D.1*256))))+E.1)) a1,E.2.1,E.2.2)))))))
theorem AT.c (g:Nat) (A:List Int) (B:Int) (D:Int) (a1:Int) (r1:Int) (r2:Int) (r3:Int) (w0 w:World) (hI:AB w0 w g A B D) (hB:Below w0.heap.size w0 w) (h:AT.f A B D a1=some (r1,r2,r3)) :
 Calls prog 75 #[.pointer (some ⟨g,0,none⟩),.int .i64 a1] w fun e w'=>e=.returned (.int .i64 r1)/\AB w0 w' g A r2 r3/\Below w0.heap.size w0 w'/\AH w w' g none:=by
 have HI0:=aK hI;have HK:=aK (AH.refl w g none);have HL:=aK hB.size;clear hI;have aI:=aK hB.size;have HB:=aK hB;clear hB;have H:=h;unfold AT.f at H;(by_cases c3:a1<=0)
 . obtain ⟨L,H⟩:=iT c3 H;simp only [sE,pE] at H;obtain ⟨rfl,rfl,rfl⟩:=H;go_enter func75,ntmps75;go_wp2;go_ret;exact ⟨eQ,B5,Ci,B6⟩
 .
  obtain ⟨L,H⟩:=iF c3 H;(by_cases c4:a1<=256)
  . obtain ⟨M,H⟩:=iT c4 H;obtain ⟨⟨O,P,T⟩,A5,H⟩:=sQ H;dsimp only at H;obtain ⟨c6,H⟩:=nN H;have aG:=bN c6;have aH:=cN c6;simp only [sE,pE] at H;obtain ⟨rfl,rfl,rfl⟩:=H;go_enter func75,ntmps75;(go_wp2_with (refine gC 119 rfl ?_;refine aL 13 func119 (Dd.c g A B D O P T w0 _ B5 Ci A5.o) ?_;rintro e w7 ⟨rfl,hi,hb,hk⟩;refine ⟨_,rfl,?_⟩;replace HK:=Gj HK hk;replace HB:=aK (hb);replace HI0:=aK (hi)));go_ret;exact ⟨eQ,B5,Ci,B6⟩
  . obtain ⟨M,H⟩:=iF c4 H;obtain ⟨⟨U,E,G⟩,A8,H⟩:=sQ H;dsimp only at H;obtain ⟨⟨X,I,J⟩,A9,H⟩:=sQ H;dsimp only at H;obtain ⟨⟨Y,Z,aA⟩,aF,H⟩:=sQ H;dsimp only at H;obtain ⟨aC,H⟩:=nN H;have aD:=bN aC;have aE:=cN aC;simp only [sE,pE] at H;obtain ⟨rfl,rfl,rfl⟩:=H;go_enter func75,ntmps75;(go_wp2_with (first|(refine gC 119 rfl ?_;refine aL 17 func119 (Dd.c g A B D U E G w0 _ B5 Ci A8.o) ?_;rintro e aJ ⟨rfl,hi,hb,hk⟩;refine ⟨_,rfl,?_⟩;replace HK:=Gj HK hk;replace HB:=aK (hb);replace HI0:=aK (hi))|(refine gC 119 rfl ?_;refine aL 19 func119 (Dd.c g A E G X I J w0 _ B5 Ci A9.o) ?_;rintro e aM ⟨rfl,hi,hb,hk⟩;refine ⟨_,rfl,?_⟩;replace HK:=Gj HK hk;replace HB:=aK (hb);replace HI0:=aK (hi))|(refine gC 119 rfl ?_;refine aL 21 func119 (Dd.c g A I J Y Z aA w0 _ B5 Ci aF.o) ?_;rintro e aN ⟨rfl,hi,hb,hk⟩;refine ⟨_,rfl,?_⟩;replace HK:=Gj HK hk;replace HB:=aK (hb);replace HI0:=aK (hi))));go_ret;exact ⟨eQ,B5,Ci,B6⟩
def Bv.f (B:List Int) (D:Int) (E:Int) (l1:List Int):Option (Int×Int×Int):=(AT.f B D E (l1.length:Int)).bind fun A=>(if 0<=A.1 then (if A.1<(l1.length:Int) then (some (rd l1 A.1,A.2.1,A.2.2)) else none) else none)
theorem Bv.c (g:Nat) (B:List Int) (I:Int) (J:Int) (A1:Option Addr) (c1:Nat) (l1:List Int) (r1:Int) (r2:Int) (r3:Int) (w0 w:World) (hI:AB w0 w g B I J) (hB:Below w0.heap.size w0 w) (hr1:Kd.C kI w A1 l1.length l1) (U:l1.length<=c1) (O:∀ ad,A1=some ad->0<l1.length->ad.block≠g) (h:Bv.f B I J l1=some (r1,r2,r3)) :
 Calls prog 61 #[.pointer (some ⟨g,0,none⟩),.slice A1 l1.length c1] w fun e w'=>e=.returned (.int .i64 r1)/\AB w0 w' g B r2 r3/\Below w0.heap.size w0 w'/\AH w w' g none:=by
 have X:=aK hr1;have aA:=aK U;clear U;have HI0:=aK hI;have HK:=aK (AH.refl w g none);have HL:=aK hB.size;clear hI;have aC:=aK hB.size;have HB:=aK hB;clear hB;have H:=h;unfold Bv.f at H;obtain ⟨⟨D,P,T⟩,A3,H⟩:=sQ H;dsimp only at H;obtain ⟨Y,H⟩:=nQ H;obtain ⟨Z,H⟩:=nQ H;simp only [sE,pE] at H;obtain ⟨rfl,rfl,rfl⟩:=H;go_enter func61,ntmps61;(go_wp2_with (refine gC 75 rfl ?_;refine aL 9 func75 (AT.c g B I J (l1.length:Int) D P T w0 _ B5 Ci A3.o) ?_;rintro e w6 ⟨rfl,hi,hb,hk⟩;refine ⟨_,rfl,?_⟩;replace HK:=Gj HK hk;replace HB:=aK (hb);replace HI0:=aK (hi);have E:0<=(D:Int):=oD;have G:D<(l1.length:Int):=oD;obtain ⟨L,M,A⟩:=ED X.o D E G;cases M;replace A:=Dc HK.o A (by first|(rw [AY];exact O _ rfl oM)|exact O _ rfl oM|exact O L rfl oM);replace E:=eq_true E;replace G:=eq_true G));go_ret;exact ⟨eQ,B5,Ci,B6⟩
def BU.f (a0:Int) (a1:Int) (a2:Int):Option Bool:=if a0>=a1 then (some (decide (a0<=a2))) else (some false)
theorem BU.c (a0:Int) (a1:Int) (a2:Int) (r:Bool) (w:World) (h:BU.f a0 a1 a2=some r) :
 Calls prog 39 #[.int .i64 a0,.int .i64 a1,.int .i64 a2] w fun e w'=>e=.returned (.bool r)/\Cx w w':=by
 have H:=h;unfold BU.f at H;(by_cases c4:a0>=a1);(· obtain ⟨A,H⟩:=iT c4 H;obtain rfl:=sI H;go_enter func39,ntmps39;go_wp2;go_ret;exact ⟨vQ,dQ⟩);(· obtain ⟨A,H⟩:=iF c4 H;obtain rfl:=sI H;go_enter func39,ntmps39;go_wp2;go_ret;exact ⟨vQ,dQ⟩)
def Cm.f (E:Int) (A:Int) (B:Int) (D:Int):Option (Bool):=(BU.f E 1 20).bind fun G=>(if G=true then ((BU.f A 1 3).bind fun I=>(if I=true then ((BU.f B 0 3).bind fun J=>(if J=true then ((BU.f D 0 3).bind fun L=>(if L=true then (some ((B == D) == (A == 2))) else (some false))) else (some false))) else (some false))) else (some false))
theorem Cm.c (B:Int) (G:Int) (I:Int) (J:Int) (r:Bool) (w:World) (h:Cm.f B G I J=some r) :
 Calls prog 123 #[.agg #[.int .i64 B,.int .i64 G,.int .i64 I,.int .i64 J]] w fun e w'=>e=.returned (.bool r)/\Below w.heap.size w w':=by
 have aA:=underlying79;(have HB:=aK (Below.refl w.heap.size w));have H:=h;(unfold Cm.f at H);clear h;obtain ⟨L,A2,H⟩:=sQ H;(by_cases c3:L=true)
 .
  subst c3;replace H:=tT H;obtain ⟨M,A4,H⟩:=sQ H;(by_cases c5:M=true)
  .
   subst c5;replace H:=tT H;obtain ⟨O,A6,H⟩:=sQ H;(by_cases c7:O=true)
   .
    subst c7;replace H:=tT H;obtain ⟨P,A8,H⟩:=sQ H;(by_cases c9:P=true)
    . subst c9;replace H:=tT H;obtain rfl:=Option.some.inj H;(go_enter func123,ntmps123);(go_wp2_with (first|((with_reducible refine AL (N:=1) rfl ?_);refine xU 1 ?_;intro E aC A hg hb;have D:=gW hg;replace HB:=uH hb;clear hb hg;have T:=Bi A)|((with_reducible refine gC 39 rfl ?_);refine aL 5 func39 (BU.c B 1 20 true _ A2.o) ?_;rintro e w' ⟨rfl,⟨nd,rfl⟩⟩;refine ⟨_,rfl,?_⟩)|(go_at_call 39;(with_reducible refine (BU.c G 1 3 true _ A4.o).mono ?_);rintro e w' ⟨rfl,⟨nd,rfl⟩⟩)|(go_at_call 39;(with_reducible refine (BU.c I 0 3 true _ A6.o).mono ?_);rintro e w' ⟨rfl,⟨nd,rfl⟩⟩)|(go_at_call 39;(with_reducible refine (BU.c J 0 3 true _ A8.o).mono ?_);rintro e w' ⟨rfl,⟨nd,rfl⟩⟩)));go_ret;(exact ⟨eQ,bQ⟩)
    . replace c9:=Bool.eq_false_iff.mpr c9;subst c9;replace H:=tF H;obtain rfl:=Option.some.inj H;(go_enter func123,ntmps123);(go_wp2_with (first|((with_reducible refine AL (N:=1) rfl ?_);refine xU 1 ?_;intro E aD A hg hb;have D:=gW hg;replace HB:=uH hb;clear hb hg;have U:=Bi A)|((with_reducible refine gC 39 rfl ?_);refine aL 5 func39 (BU.c B 1 20 true _ A2.o) ?_;rintro e w' ⟨rfl,⟨nd,rfl⟩⟩;refine ⟨_,rfl,?_⟩)|(go_at_call 39;(with_reducible refine (BU.c G 1 3 true _ A4.o).mono ?_);rintro e w' ⟨rfl,⟨nd,rfl⟩⟩)|(go_at_call 39;(with_reducible refine (BU.c I 0 3 true _ A6.o).mono ?_);rintro e w' ⟨rfl,⟨nd,rfl⟩⟩)|(go_at_call 39;(with_reducible refine (BU.c J 0 3 false _ A8.o).mono ?_);rintro e w' ⟨rfl,⟨nd,rfl⟩⟩)));go_ret;(exact ⟨eQ,bQ⟩)
   . replace c7:=Bool.eq_false_iff.mpr c7;subst c7;replace H:=tF H;obtain rfl:=Option.some.inj H;(go_enter func123,ntmps123);(go_wp2_with (first|((with_reducible refine AL (N:=1) rfl ?_);refine xU 1 ?_;intro E aE A hg hb;have D:=gW hg;replace HB:=uH hb;clear hb hg;have X:=Bi A)|((with_reducible refine gC 39 rfl ?_);refine aL 5 func39 (BU.c B 1 20 true _ A2.o) ?_;rintro e w' ⟨rfl,⟨nd,rfl⟩⟩;refine ⟨_,rfl,?_⟩)|(go_at_call 39;(with_reducible refine (BU.c G 1 3 true _ A4.o).mono ?_);rintro e w' ⟨rfl,⟨nd,rfl⟩⟩)|(go_at_call 39;(with_reducible refine (BU.c I 0 3 false _ A6.o).mono ?_);rintro e w' ⟨rfl,⟨nd,rfl⟩⟩)));go_ret;(exact ⟨eQ,bQ⟩)
  . replace c5:=Bool.eq_false_iff.mpr c5;subst c5;replace H:=tF H;obtain rfl:=Option.some.inj H;(go_enter func123,ntmps123);(go_wp2_with (first|((with_reducible refine AL (N:=1) rfl ?_);refine xU 1 ?_;intro E aF A hg hb;have D:=gW hg;replace HB:=uH hb;clear hb hg;have Y:=Bi A)|((with_reducible refine gC 39 rfl ?_);refine aL 5 func39 (BU.c B 1 20 true _ A2.o) ?_;rintro e w' ⟨rfl,⟨nd,rfl⟩⟩;refine ⟨_,rfl,?_⟩)|(go_at_call 39;(with_reducible refine (BU.c G 1 3 false _ A4.o).mono ?_);rintro e w' ⟨rfl,⟨nd,rfl⟩⟩)));go_ret;(exact ⟨eQ,bQ⟩)
 . replace c3:=Bool.eq_false_iff.mpr c3;subst c3;replace H:=tF H;obtain rfl:=Option.some.inj H;(go_enter func123,ntmps123);(go_wp2_with (first|((with_reducible refine AL (N:=1) rfl ?_);refine xU 1 ?_;intro E aG A hg hb;have D:=gW hg;replace HB:=uH hb;clear hb hg;have Z:=Bi A)|((with_reducible refine gC 39 rfl ?_);refine aL 5 func39 (BU.c B 1 20 false _ A2.o) ?_;rintro e w' ⟨rfl,⟨nd,rfl⟩⟩;refine ⟨_,rfl,?_⟩)));go_ret;(exact ⟨eQ,bQ⟩)
def BZ.l0:Nat->List Ai->Int->Option Bool
 | 0,_,_=>none
 | k+1,x0,x3=>if x3<(x0.length:Int) then (if 0<=x3 then ((Cm.f ((AA x0 x3).f0) ((AA x0 x3).f1) ((AA x0 x3).f2) ((AA x0 x3).f3)).bind fun A=>(if A=true then (if x3>0 then (if 0<=(wrap64 (x3-1)) then (if (wrap64 (x3-1))<(x0.length:Int) then (if ((AA x0 (wrap64 (x3-1))).f0)>=((AA x0 x3).f0) then (some false) else (BZ.l0 k x0 (wrap64 (x3+1)))) else none) else none) else (BZ.l0 k x0 (wrap64 (x3+1)))) else (some false))) else none) else (some (decide ((x0.length:Int)<=12)))
def BZ.f (k:Nat) (l0:List Ai):Option Bool:=BZ.l0 k l0 0
theorem BZ.Ln:Br (C9 .any (opsOf f80 4)).2 [0,0,3,7,15,31,63,127,255,511,1023,1023,3071,8191,16383,32767,1023,1023,197631,459775,984063,2097151,4194303,8388607]=true:=by kernel_rfl
theorem BZ.c (k:Nat) (A0:Option Addr) (c0:Nat) (l0:List Ai) (r:Bool) (w:World) (bM:Kd.C D0 w A0 l0.length l0) (hc0:l0.length<=c0) (h:BZ.f k l0=some r) :
 Calls prog 80 #[.slice A0 l0.length c0] w fun e w'=>e=.returned (.bool r)/\Below w.heap.size w w':=by
 have bO:=underlying79;have aS:=aK bM;have bV:=aK hc0;clear hc0;have HB:=bR w;have H:=h;unfold BZ.f at H;have H':=aK H;go_enter func80,ntmps80;go_wp2;(go_loopg [3] k (fun kq v3 w'=>∃ (A:Int),v3=.int .i64 A/\AD (BZ.l0 kq l0 A=some r)/\AD (kq<=k)/\AD (Below w.heap.size w w')));(case atStart=>exact ⟨0,vQ,H',⟨Nat.le_refl _⟩,⟨bQ⟩⟩)
 case round =>
  obtain ⟨A,rfl,HA,aX,HB⟩:=hrel
  cases gk with
  | zero=>exact nS HA
  | succ k1 =>
   have H:=HA.o;simp only [BZ.l0] at H;(by_cases c2:A<(l0.length:Int))
   .
    obtain ⟨aZ,H⟩:=iT c2 H;obtain ⟨bJ,H⟩:=nQ H;obtain ⟨bF,A4,H⟩:=sQ H;(rcases eB bF with c5|c5)
    .
     subst c5;replace H:=tT H;(by_cases c6:A>0)
     .
      obtain ⟨bA,H⟩:=iT c6 H;obtain ⟨T,aG⟩:∃ j_:Int,(wrap64 (A-1))=j_:=⟨_,rfl⟩;(replace H:(if 0<=(T) then (if (T)<(l0.length:Int) then (if ((AA l0 (T)).f0)>=((AA l0 A).f0) then (some false) else (BZ.l0 k1 l0 (wrap64 (A+1)))) else none) else none)=some r:=by first|(rw [aG] at H;exact H)|(simp only [aG] at H |-;exact H));(try rw [aG] at A4);have bI:(IntKind.i64.wrap (A-1))=T:=(Ae _).trans aG;obtain ⟨bK,H⟩:=nQ H;obtain ⟨bL,H⟩:=nQ H;have aY:=aK H;(try go_wp2);replace HB:=dB HB;obtain ⟨B,aF,aV,aW,D,E,G,I,J,L,M,O⟩:=Kx aS HB A;cases aF;obtain ⟨aT,bC,bP,bT,U,X,Y,Z,aH,aI,aJ,aM⟩:=Kx aS HB (T);obtain rfl:B=aT:=(by injection bC);obtain ⟨aU,bD,bS,bU,aA,aC,aD,aE,aN,aP,aQ,aR⟩:=Kx aS HB A;obtain rfl:B=aU:=(by injection bD);refine sU 24 (fun w'=>w'.cell? (B.add ((A).toNat*4))=some (.int .i64 ((AA l0 A).f0))/\w'.cell? ⟨(B.add ((A).toNat*4)).block,(B.add ((A).toNat*4)).off+1,none⟩=some (.int .i64 ((AA l0 A).f1))/\w'.cell? ⟨(B.add ((A).toNat*4)).block,(B.add ((A).toNat*4)).off+2,none⟩=some (.int .i64 ((AA l0 A).f2))/\w'.cell? ⟨(B.add ((A).toNat*4)).block,(B.add ((A).toNat*4)).off+3,none⟩=some (.int .i64 ((AA l0 A).f3))/\w'.cell? (B.add (((T)).toNat*4))=some (.int .i64 ((AA l0 (T)).f0))/\w'.cell? ⟨(B.add (((T)).toNat*4)).block,(B.add (((T)).toNat*4)).off+1,none⟩=some (.int .i64 ((AA l0 (T)).f1))/\w'.cell? ⟨(B.add (((T)).toNat*4)).block,(B.add (((T)).toNat*4)).off+2,none⟩=some (.int .i64 ((AA l0 (T)).f2))/\w'.cell? ⟨(B.add (((T)).toNat*4)).block,(B.add (((T)).toNat*4)).off+3,none⟩=some (.int .i64 ((AA l0 (T)).f3))/\w'.cell? (B.add ((A).toNat*4))=some (.int .i64 ((AA l0 A).f0))/\w'.cell? ⟨(B.add ((A).toNat*4)).block,(B.add ((A).toNat*4)).off+1,none⟩=some (.int .i64 ((AA l0 A).f1))/\w'.cell? ⟨(B.add ((A).toNat*4)).block,(B.add ((A).toNat*4)).off+2,none⟩=some (.int .i64 ((AA l0 A).f2))/\w'.cell? ⟨(B.add ((A).toNat*4)).block,(B.add ((A).toNat*4)).off+3,none⟩=some (.int .i64 ((AA l0 A).f3))) rfl BZ.Ln ⟨cQ HB D,cQ HB E,cQ HB G,cQ HB I,cQ HB U,cQ HB X,cQ HB Y,cQ HB Z,cQ HB aA,cQ HB aC,cQ HB aD,cQ HB aE⟩ (fun hHeld HT_ HW_=>?_)
      generalize wr.drew=bW at HB J L M O aH aI aJ aM aN aP aQ aR hHeld |-;refine pU 0 ?_;refine pU 1 ?_;refine pU 2 ?_;refine kU 3 ?_;refine jU 4 (fun K hK=>?_);refine aO func123 (Cm.c ((AA l0 A).f0) ((AA l0 A).f1) ((AA l0 A).f2) ((AA l0 A).f3) true _ A4.o) ?_;rintro e bX ⟨rfl,hb⟩;refine ⟨_,rfl,?_⟩;replace HB:=uH hb;(skip);(skip);(skip);refine oK hK ⟨cQ HB D,cQ HB E,cQ HB G,cQ HB I,cQ HB U,cQ HB X,cQ HB Y,cQ HB Z,cQ HB aA,cQ HB aC,cQ HB aD,cQ HB aE⟩ (fun hHeld=>?_);clear hK K;refine pU 5 ?_;refine pU 6 ?_;refine pU 7 ?_;refine pU 8 ?_;refine pU 9 ?_;refine pU 10 ?_;refine pU 11 ?_;refine pU 12 ?_;refine pU 13 ?_;refine pU 14 ?_;refine pU 16 ?_;refine pU 17 ?_;refine pU 18 ?_;refine pU 19 ?_;refine kU 15 ?_;refine kU 20 ?_;refine pU 21 ?_;refine pU 22 ?_;refine pU 23 ?_;refine CY (BY HT_.o kF) ?_;(go_upto_if 33 with (fail));have H:=aY.o;(by_cases bH:((AA l0 (T)).f0)>=((AA l0 A).f0))
      . obtain ⟨P,H⟩:=iT bH H;(try first|rw [P]|(simp only [Ae,Aj];rw [P]));obtain rfl:=sI H;go_wp2;go_ret;exact ⟨by first|rfl|(simp [CE,CF] <;> rfl)|(simp only [<-aG];first|rfl|(simp [CE,CF] <;> rfl))|(simp [*,CE,CF] <;> rfl),bQ⟩
      . obtain ⟨P,H⟩:=iF bH H;(try first|rw [P]|(simp only [Ae,Aj];rw [P]));have H':=aK H;go_wp2;(go_roundg k1);(case measure=>have:=aX.o;omega);(case rel=>exact ⟨wrap64 (A+1),vQ,H',⟨mA aX⟩,⟨bQ⟩⟩)
     .
      obtain ⟨bA,H⟩:=iF c6 H;have H':=aK H;(try go_wp2);replace HB:=dB HB;obtain ⟨B,aF,aV,aW,D,E,G,I,J,L,M,O⟩:=Kx aS HB A;cases aF;refine sU 24 (fun w'=>w'.cell? (B.add ((A).toNat*4))=some (.int .i64 ((AA l0 A).f0))/\w'.cell? ⟨(B.add ((A).toNat*4)).block,(B.add ((A).toNat*4)).off+1,none⟩=some (.int .i64 ((AA l0 A).f1))/\w'.cell? ⟨(B.add ((A).toNat*4)).block,(B.add ((A).toNat*4)).off+2,none⟩=some (.int .i64 ((AA l0 A).f2))/\w'.cell? ⟨(B.add ((A).toNat*4)).block,(B.add ((A).toNat*4)).off+3,none⟩=some (.int .i64 ((AA l0 A).f3))) rfl BZ.Ln ⟨cQ HB D,cQ HB E,cQ HB G,cQ HB I⟩ (fun hHeld HT_ HW_=>?_);generalize wr.drew=bY at HB J L M O hHeld |-;refine pU 0 ?_;refine pU 1 ?_;refine pU 2 ?_;refine kU 3 ?_;refine jU 4 (fun K hK=>?_);refine aO func123 (Cm.c ((AA l0 A).f0) ((AA l0 A).f1) ((AA l0 A).f2) ((AA l0 A).f3) true _ A4.o) ?_;rintro e bZ ⟨rfl,hb⟩;refine ⟨_,rfl,?_⟩;replace HB:=uH hb;(skip);(skip);(skip);refine oK hK ⟨cQ HB D,cQ HB E,cQ HB G,cQ HB I⟩ (fun hHeld=>?_);clear hK K;refine pU 5 ?_;refine pU 6 ?_;refine pU 7 ?_;refine pU 8 ?_;refine pU 9 ?_;refine wU 10 ?_;refine wU 11 ?_;refine wU 12 ?_;refine wU 13 ?_;refine wU 14 ?_;refine wU 15 ?_;refine wU 16 ?_;refine wU 17 ?_;refine wU 18 ?_;refine wU 19 ?_;refine wU 20 ?_;refine wU 21 ?_;refine pU 22 ?_;refine pU 23 ?_;refine CY (BY HT_.o kF) ?_;(try go_wp2);(go_roundg k1);(case measure=>have:=aX.o;omega);(case rel=>exact ⟨wrap64 (A+1),vQ,H',⟨mA aX⟩,⟨bQ⟩⟩)
    .
     subst c5;replace H:=tF H;obtain rfl:=sI H;(try go_wp2);replace HB:=dB HB;obtain ⟨B,aF,aV,aW,D,E,G,I,J,L,M,O⟩:=Kx aS HB A;cases aF;refine sU 24 (fun w'=>w'.cell? (B.add ((A).toNat*4))=some (.int .i64 ((AA l0 A).f0))/\w'.cell? ⟨(B.add ((A).toNat*4)).block,(B.add ((A).toNat*4)).off+1,none⟩=some (.int .i64 ((AA l0 A).f1))/\w'.cell? ⟨(B.add ((A).toNat*4)).block,(B.add ((A).toNat*4)).off+2,none⟩=some (.int .i64 ((AA l0 A).f2))/\w'.cell? ⟨(B.add ((A).toNat*4)).block,(B.add ((A).toNat*4)).off+3,none⟩=some (.int .i64 ((AA l0 A).f3))) rfl BZ.Ln ⟨cQ HB D,cQ HB E,cQ HB G,cQ HB I⟩ (fun hHeld HT_ HW_=>?_);generalize wr.drew=cB at HB J L M O hHeld |-;refine pU 0 ?_;refine pU 1 ?_;refine pU 2 ?_;refine kU 3 ?_;refine jU 4 (fun K hK=>?_);refine aO func123 (Cm.c ((AA l0 A).f0) ((AA l0 A).f1) ((AA l0 A).f2) ((AA l0 A).f3) false _ A4.o) ?_;rintro e cC ⟨rfl,hb⟩;refine ⟨_,rfl,?_⟩;replace HB:=uH hb;(skip);(skip);(skip);refine oK hK ⟨cQ HB D,cQ HB E,cQ HB G,cQ HB I⟩ (fun hHeld=>?_);clear hK K;refine pU 5 ?_;refine pU 6 ?_;refine wU 7 ?_;refine wU 8 ?_;refine wU 9 ?_;refine wU 10 ?_;refine wU 11 ?_;refine wU 12 ?_;refine wU 13 ?_;refine wU 14 ?_;refine wU 15 ?_;refine wU 16 ?_;refine wU 17 ?_;refine wU 18 ?_;refine wU 19 ?_;refine wU 20 ?_;refine wU 21 ?_;refine wU 22 ?_;refine pU 23 ?_;refine CY (BY HT_.o kF) ?_;(try go_wp2);go_ret;exact ⟨eQ,bQ⟩
   . obtain ⟨aZ,H⟩:=iF c2 H;obtain rfl:=sI H;go_wp2;go_ret;exact ⟨eQ,bQ⟩
def CD.l0:Nat->List Int->Int->Int->Option Bool
 | 0,_,_,_=>none
 | k+1,x0,x1,x5=>if x5<(x0.length:Int) then (if 0<=x5 then (if (rd x0 x5)=x1 then (some true) else (CD.l0 k x0 x1 (wrap64 (x5+1)))) else none) else (some false)
def CD.f (k:Nat) (l0:List Int) (a1:Int):Option Bool:=CD.l0 k l0 a1 0
theorem CD.c (k:Nat) (A0:Option Addr) (c0:Nat) (l0:List Int) (a1:Int) (r:Bool) (w:World) (U:Kd.C kI w A0 l0.length l0) (hc0:l0.length<=c0) (h:CD.f k l0 a1=some r) :
 Calls prog 81 #[.slice A0 l0.length c0,.int .i64 a1] w fun e w'=>e=.returned (.bool r)/\Cx w w':=by
 have P:=aK U;have X:=aK hc0;clear hc0;have H:=h;unfold CD.f at H;have H':=aK H;go_enter func81,ntmps81;go_wp2;(go_loopg [5] k (fun kq v5 w'=>∃ (A:Int),v5=.int .i64 A/\AD (CD.l0 kq l0 a1 A=some r)/\AD (kq<=k)/\Cx w w'));(case atStart=>exact ⟨0,vQ,H',⟨Nat.le_refl _⟩,dQ⟩)
 case round =>
  obtain ⟨A,rfl,HA,O,⟨m1,rfl⟩⟩:=hrel
  cases gk with
  | zero=>exact nS HA
  | succ k1 =>
   have H:=HA.o;simp only [CD.l0] at H;(by_cases c3:A<(l0.length:Int))
   .
    obtain ⟨G,H⟩:=iT c3 H;obtain ⟨T,H⟩:=nQ H;(by_cases c5:(rd l0 A)=a1)
    . obtain ⟨I,J,H⟩:=iE c5 H;obtain rfl:=sI H;obtain ⟨E,D,L,M,B⟩:=oI P.o A;cases D;go_wp2;go_ret;exact ⟨vQ,dQ⟩
    . obtain ⟨I,J,H⟩:=iN c5 H;have H':=aK H;obtain ⟨E,D,L,M,B⟩:=oI P.o A;cases D;go_wp2;(go_roundg k1);(case measure=>have:=O.o;omega);(case rel=>exact ⟨wrap64 (A+1),vQ,H',⟨mA O⟩,dQ⟩)
   . obtain ⟨G,H⟩:=iF c3 H;obtain rfl:=sI H;go_wp2;go_ret;exact ⟨vQ,dQ⟩
def BO.l0:Nat->List Ai->Int->Int->Option Int
 | 0,_,_,_=>none
 | k+1,x0,x1,x5=>if x5<(x0.length:Int) then (if 0<=x5 then (if ((AA x0 x5).f0)=x1 then (some x5) else (BO.l0 k x0 x1 (wrap64 (x5+1)))) else none) else (some (-1))
def BO.f (k:Nat) (l0:List Ai) (a1:Int):Option Int:=BO.l0 k l0 a1 0
theorem BO.c (k:Nat) (A0:Option Addr) (c0:Nat) (l0:List Ai) (a1:Int) (r:Int) (w:World) (Z:Kd.C D0 w A0 l0.length l0) (hc0:l0.length<=c0) (h:BO.f k l0 a1=some r) :
 Calls prog 79 #[.slice A0 l0.length c0,.int .i64 a1] w fun e w'=>e=.returned (.int .i64 r)/\Cx w w':=by
 have X:=aK Z;have aA:=aK hc0;clear hc0;have H:=h;unfold BO.f at H;have H':=aK H;go_enter func79,ntmps79;go_wp2;(go_loopg [5] k (fun kq v5 w'=>∃ (A:Int),v5=.int .i64 A/\AD (BO.l0 kq l0 a1 A=some r)/\AD (kq<=k)/\Cx w w'));(case atStart=>exact ⟨0,vQ,H',⟨Nat.le_refl _⟩,dQ⟩)
 case round =>
  obtain ⟨A,rfl,HA,U,⟨m1,rfl⟩⟩:=hrel
  cases gk with
  | zero=>exact nS HA
  | succ k1 =>
   have H:=HA.o;simp only [BO.l0] at H;(by_cases c3:A<(l0.length:Int))
   .
    obtain ⟨L,H⟩:=iT c3 H;obtain ⟨Y,H⟩:=nQ H;(by_cases c5:((AA l0 A).f0)=a1)
    . obtain ⟨M,O,H⟩:=iE c5 H;obtain rfl:=sI H;obtain ⟨J,I,P,T,B,D,E,G⟩:=Ss X.o A;cases I;go_wp2;go_ret;exact ⟨vQ,dQ⟩
    . obtain ⟨M,O,H⟩:=iN c5 H;have H':=aK H;obtain ⟨J,I,P,T,B,D,E,G⟩:=Ss X.o A;cases I;go_wp2;(go_roundg k1);(case measure=>have:=U.o;omega);(case rel=>exact ⟨wrap64 (A+1),vQ,H',⟨mA U⟩,dQ⟩)
   . obtain ⟨L,H⟩:=iF c3 H;obtain rfl:=sI H;go_wp2;go_ret;exact ⟨vQ,dQ⟩
mutual
def BV.l0:Nat->Int->Int->Int->Int->List Int->Int->Option Bool
 | 0,_,_,_,_,_,_=>none
 | k+1,x0,x1,x2,x3,x9,A=>if A<4 then (BV.l1 k x0 x1 x2 x3 x9 A 0) else (BV.l2 k x1 x2 x3 0 (Int.tmod (wrap64 (x0+1)) 8))
def BV.l1:Nat->Int->Int->Int->Int->List Int->Int->Int->Option Bool
 | 0,_,_,_,_,_,_,_=>none
 | k+1,x0,x1,x2,x3,x9,A,D=>if D<A then (if 0<=A then (if A<(x9.length:Int) then (if 0<=D then (if D<(x9.length:Int) then (if (rd x9 A)=(rd x9 D) then (some false) else (BV.l1 k x0 x1 x2 x3 x9 A (wrap64 (D+1)))) else none) else none) else none) else none) else (if 0<=A then (if A<(x9.length:Int) then ((BU.f (rd x9 A) 0 7).bind fun G=>(if G=true then (BV.l0 k x0 x1 x2 x3 x9 (wrap64 (A+1))) else (some false))) else none) else none)
def BV.l2:Nat->Int->Int->Int->Int->Int->Option Bool
 | 0,_,_,_,_,_=>none
 | k+1,x1,x2,x3,E,B=>if B=x1 then (some (E == 1)) else (if B=x2 then (BV.l2 k x1 x2 x3 (wrap64 (E+1)) (Int.tmod (wrap64 (B+1)) 8)) else (if B=x3 then (BV.l2 k x1 x2 x3 (wrap64 (E+1)) (Int.tmod (wrap64 (B+1)) 8)) else (BV.l2 k x1 x2 x3 E (Int.tmod (wrap64 (B+1)) 8))))
end
def BV.f (k:Nat) (a0:Int) (a1:Int) (a2:Int) (a3:Int):Option Bool:=BV.l0 k a0 a1 a2 a3 (([a0,a1,a2,a3]:List Int)) 0
theorem BV.c (k:Nat) (a0:Int) (a1:Int) (a2:Int) (a3:Int) (r:Bool) (w:World) (h:BV.f k a0 a1 a2 a3=some r) :
 Calls prog 149 #[.int .i64 a0,.int .i64 a1,.int .i64 a2,.int .i64 a3] w fun e w'=>e=.returned (.bool r)/\Below w.heap.size w w':=by
 have HB:=bR w;have H:=h;unfold BV.f at H;obtain ⟨I,J⟩:=eY ((([a0,a1,a2,a3]:List Int)):List Int);rw [<-J.o] at H;have H':=aK H;go_enter func149,ntmps149;(go_wp2_with (refine AL (N:=18) rfl ?_;refine lI 18 [a0,a1,a2,a3] ?_;intro Z w5 aA hb;rw [<-J.o] at aA;have M:=lR aA;replace HB:=uH hb;clear hb));(repeat (go_quiet (first|(refine AL (N:=18) rfl ?_;refine lI 18 [a0,a1,a2,a3] ?_;intro Z w5 aA hb;rw [<-J.o] at aA;have M:=lR aA;replace HB:=uH hb;clear hb));try go_wp2_with (refine AL (N:=18) rfl ?_;refine lI 18 [a0,a1,a2,a3] ?_;intro Z w5 aA hb;rw [<-J.o] at aA;have M:=lR aA;replace HB:=uH hb;clear hb)))
 (go_loopg [10] k (fun kq v10 w'=>∃ (A:Int),v10=.int .i64 A/\AD (BV.l0 kq a0 a1 a2 a3 I A=some r)/\AD (kq<=k)/\AD (Kd.R kI 3 w' w.heap.size (fun _=>True) Z I)/\AD (Below w.heap.size w w')));(case atStart=>exact ⟨0,vQ,H',⟨Nat.le_refl _⟩,⟨rR M⟩,⟨bQ⟩⟩)
 case round =>
  obtain ⟨A,rfl,HA,T,E,HB⟩:=hrel
  cases gk with
  | zero=>exact nS HA
  | succ k1 =>
   have H:=HA.o;simp only [BV.l0] at H;(by_cases c7:A<4)
   .
    obtain ⟨aT,H⟩:=iT c7 H;have H':=aK H;go_wp2;(repeat (go_quiet (fail);try go_wp2));(go_loopg [11] k1 (fun kq v11 w'=>∃ (D:Int),v11=.int .i64 D/\AD (BV.l1 kq a0 a1 a2 a3 I A D=some r)/\AD (kq<=k1)/\AD (Kd.R kI 3 w' w.heap.size (fun _=>True) Z I)/\AD (Below w.heap.size w w')));(case atStart=>exact ⟨0,vQ,H',⟨Nat.le_refl _⟩,⟨rR E⟩,⟨bQ⟩⟩)
    case round =>
     obtain ⟨D,rfl,HA,L,E,HB⟩:=hrel
     cases gk with
     | zero=>exact nS HA
     | succ k2 =>
      have H:=HA.o;simp only [BV.l1] at H;(by_cases c8:D<A)
      .
       obtain ⟨aU,H⟩:=iT c8 H;obtain ⟨bT,H⟩:=nQ H;obtain ⟨bC,H⟩:=nQ H;obtain ⟨bD,H⟩:=nQ H;obtain ⟨bF,H⟩:=nQ H;(by_cases bH:(rd I A)=(rd I D))
       . obtain ⟨aE,aF,H⟩:=iE bH H;obtain rfl:=sI H;obtain ⟨bO,bU,rfl⟩:=AW E.o;obtain ⟨O,aC,aW,aY,U⟩:=oI (AO E.o).2.2 A;cases aC;obtain ⟨P,aD,aX,aZ,X⟩:=oI (AO E.o).2.2 D;obtain rfl:O=P:=(by injection aD);go_wp2;(repeat (go_quiet (fail);try go_wp2));go_ret;exact ⟨eQ,bQ⟩
       . obtain ⟨aE,aF,H⟩:=iN bH H;have H':=aK H;obtain ⟨bP,bV,rfl⟩:=AW E.o;obtain ⟨O,aC,aW,aY,U⟩:=oI (AO E.o).2.2 A;cases aC;obtain ⟨P,aD,aX,aZ,X⟩:=oI (AO E.o).2.2 D;obtain rfl:O=P:=(by injection aD);go_wp2;(repeat (go_quiet (fail);try go_wp2));(go_roundg k2);(case measure=>have:=T.o;have:=L.o;omega);(case rel=>exact ⟨wrap64 (D+1),vQ,H',⟨by have:=T.o;have:=L.o;omega⟩,⟨rR E⟩,⟨bQ⟩⟩)
      .
       obtain ⟨aU,H⟩:=iF c8 H;obtain ⟨bI,H⟩:=nQ H;obtain ⟨bJ,H⟩:=nQ H;obtain ⟨Y,aQ,aR⟩:=sK H;obtain ⟨bS,bW,rfl⟩:=AW E.o;obtain ⟨bA,aV,bX,bY,aP⟩:=oI (AO E.o).2.2 A;cases aV;(go_upto_if 42 with (go_at_call 39;(with_reducible refine (BU.c (rd I A) 0 7 Y _ aQ.o).mono ?_);rintro e w' ⟨rfl,⟨nd,rfl⟩⟩;(try first|exact ⟨rfl,_,World.drewN_drewN _ _ _⟩|exact ⟨rfl,_,Eq.trans (World.drewN_drewN _ _ _) (congrArg (World.drewN _) (Nat.add_assoc _ _ _))⟩)));(repeat (go_quiet (first|(go_at_call 39;(with_reducible refine (BU.c (rd I A) 0 7 Y _ aQ.o).mono ?_);rintro e w' ⟨rfl,⟨nd,rfl⟩⟩;(try first|exact ⟨rfl,_,World.drewN_drewN _ _ _⟩|exact ⟨rfl,_,Eq.trans (World.drewN_drewN _ _ _) (congrArg (World.drewN _) (Nat.add_assoc _ _ _))⟩)));go_upto_if 42 with (go_at_call 39;(with_reducible refine (BU.c (rd I A) 0 7 Y _ aQ.o).mono ?_);rintro e w' ⟨rfl,⟨nd,rfl⟩⟩;(try first|exact ⟨rfl,_,World.drewN_drewN _ _ _⟩|exact ⟨rfl,_,Eq.trans (World.drewN_drewN _ _ _) (congrArg (World.drewN _) (Nat.add_assoc _ _ _))⟩))));(try simp only [Act.put,lQ,lZ,lS]);have H:=aR.o;(rcases eB Y with aS|aS);(· subst aS;replace H:=tT H;have H':=aK H;go_wp2;(repeat (go_quiet (fail);try go_wp2));(go_roundg k2);(case measure=>have:=T.o;have:=L.o;omega);(case rel=>exact ⟨wrap64 (A+1),vQ,H',⟨by have:=T.o;have:=L.o;omega⟩,⟨rR E⟩,⟨bQ⟩⟩));(· subst aS;replace H:=tF H;obtain rfl:=sI H;go_wp2;(repeat (go_quiet (fail);try go_wp2));go_ret;exact ⟨eQ,bQ⟩)
   .
    obtain ⟨aT,H⟩:=iF c7 H;have H':=aK H;go_wp2;(repeat (go_quiet (fail);try go_wp2));(go_loopg [12,13] k1 (fun kq v12 v13 w'=>∃ (G:Int) (B:Int),v12=.int .i64 G/\v13=.int .i64 B/\AD (BV.l2 kq a1 a2 a3 G B=some r)/\AD (kq<=k1)/\AD (Below w.heap.size w w')));(case atStart=>exact ⟨0,Int.tmod (wrap64 (a0+1)) 8,vQ,vQ,H',⟨Nat.le_refl _⟩,⟨bQ⟩⟩)
    case round =>
     obtain ⟨G,B,rfl,rfl,HA,L,HB⟩:=hrel
     cases gk with
     | zero=>exact nS HA
     | succ k2 =>
      have H:=HA.o;simp only [BV.l2] at H;(by_cases bK:B=a1);(· obtain ⟨aG,aH,H⟩:=iE bK H;obtain rfl:=sI H;go_wp2;(repeat (go_quiet (fail);try go_wp2));go_ret;exact ⟨eQ,bQ⟩)
      .
       obtain ⟨aG,aH,H⟩:=iN bK H;(by_cases bL:B=a2)
       . obtain ⟨aI,aJ,H⟩:=iE bL H;have H':=aK H;go_wp2;(repeat (go_quiet (fail);try go_wp2));(go_roundg k2);(case measure=>have:=T.o;have:=L.o;omega);(case rel=>exact ⟨wrap64 (G+1),Int.tmod (wrap64 (B+1)) 8,vQ,vQ,H',⟨by have:=T.o;have:=L.o;omega⟩,⟨bQ⟩⟩)
       .
        obtain ⟨aI,aJ,H⟩:=iN bL H;(by_cases bM:B=a3)
        . obtain ⟨aM,aN,H⟩:=iE bM H;have H':=aK H;go_wp2;(repeat (go_quiet (fail);try go_wp2));(go_roundg k2);(case measure=>have:=T.o;have:=L.o;omega);(case rel=>exact ⟨wrap64 (G+1),Int.tmod (wrap64 (B+1)) 8,vQ,vQ,H',⟨by have:=T.o;have:=L.o;omega⟩,⟨bQ⟩⟩)
        . obtain ⟨aM,aN,H⟩:=iN bM H;have H':=aK H;go_wp2;(repeat (go_quiet (fail);try go_wp2));(go_roundg k2);(case measure=>have:=T.o;have:=L.o;omega);(case rel=>exact ⟨G,Int.tmod (wrap64 (B+1)) 8,vQ,vQ,H',⟨by have:=T.o;have:=L.o;omega⟩,⟨bQ⟩⟩)
def EI.f (a0:Int):Option Int:=(BU.f a0 0 3).bind fun A=>(if A=true then (some (wrap64 (2*a0))) else (some (-1)))
theorem EI.c (a0:Int) (r:Int) (w:World) (h:EI.f a0=some r) :
 Calls prog 150 #[.int .i64 a0] w fun e w'=>e=.returned (.int .i64 r)/\Cx w w':=by
 have H:=h;unfold EI.f at H;obtain ⟨A,A2,B⟩:=sK H;go_enter func150,ntmps150;(go_upto_if 5 with (refine gC 39 rfl ?_;refine aL 4 func39 (BU.c a0 0 3 A _ A2.o) ?_;rintro e w' ⟨rfl,⟨nd,rfl⟩⟩;refine ⟨_,rfl,?_⟩));(try simp only [Act.put,lQ,lZ,lS]);have H:=B.o;(rcases eB A with c4|c4);(· subst c4;replace H:=tT H;obtain rfl:=sI H;go_wp2;go_ret;exact ⟨vQ,dQ⟩);(· subst c4;replace H:=tF H;obtain rfl:=sI H;go_wp2;go_ret;exact ⟨vQ,dQ⟩)
def Dy.f (a0:Int):Option Int:=(BU.f a0 0 3).bind fun A=>(if A=true then (some (wrap64 ((wrap64 (2*a0))+1))) else (some (-1)))
theorem Dy.c (a0:Int) (r:Int) (w:World) (h:Dy.f a0=some r) :
 Calls prog 151 #[.int .i64 a0] w fun e w'=>e=.returned (.int .i64 r)/\Cx w w':=by
 have H:=h;unfold Dy.f at H;obtain ⟨A,A2,B⟩:=sK H;go_enter func151,ntmps151;(go_upto_if 5 with (refine gC 39 rfl ?_;refine aL 4 func39 (BU.c a0 0 3 A _ A2.o) ?_;rintro e w' ⟨rfl,⟨nd,rfl⟩⟩;refine ⟨_,rfl,?_⟩));(try simp only [Act.put,lQ,lZ,lS]);have H:=B.o;(rcases eB A with c4|c4);(· subst c4;replace H:=tT H;obtain rfl:=sI H;go_wp2;go_ret;exact ⟨vQ,dQ⟩);(· subst c4;replace H:=tF H;obtain rfl:=sI H;go_wp2;go_ret;exact ⟨vQ,dQ⟩)
def BS.j0:Nat->Bool->Int->Int->Int->Int->Int->Int->Int->Int->Option (Bool)
 | 0,_,_,_,_,_,_,_,_,_=>none
 | k+1,x5,J,G,A,D,L,I,B,E=>if x5=true then (some false) else (if G=2 then (if B=A then (some true) else (some (E == A))) else (if I=2 then (if A=B then (some true) else (some (D == B))) else (if A=B then (some false) else (if D=E then (some true) else ((EI.f A).bind fun M=>((Dy.f D).bind fun O=>((EI.f B).bind fun P=>((Dy.f E).bind fun T=>((BV.f k M O P T).bind fun U=>(some U))))))))))
def BS.f (k:Nat) (D:Int) (A:Int) (E:Int) (G:Int) (I:Int) (B:Int) (J:Int) (L:Int):Option (Bool):=(Cm.f D A E G).bind fun M=>(if M=true then ((Cm.f I B J L).bind fun O=>(if O=true then (if A=2 then (BS.j0 k (B == 2) D A E G I B J L) else (BS.j0 k false D A E G I B J L)) else (BS.j0 k true D A E G I B J L))) else (BS.j0 k true D A E G I B J L))
def BS.S8:Bool×List (List Nat×List Nat):=(true,[([],[]),([0],[0]),([1],[1]),([],[]),([3],[3]),([4,2],[4]),([],[]),([6],[6]),([7,5],[7]),([],[]),([9],[9]),([10,8],[10]),([2,5,8,11,11],[2,5,8,11]),([12,12,0,1,2,3,4,5,6,7,8,9,10,11,12],[12])])
def BS.TB:List Nat:=[0,1,3,0,8,31,0,64,255,0,512,2047,4095,8191]
theorem BS.St:C9 .any (opsOf f120 11)=BS.S8:=by kernel_rfl
theorem BS.KT:Br BS.S8.2 BS.TB=true:=by kernel_rfl
theorem BS.c (k:Nat) (T:Int) (J:Int) (G:Int) (L:Int) (U:Int) (M:Int) (I:Int) (O:Int) (r:Bool) (w:World) (h:BS.f k T J G L U M I O=some r) :
 Calls prog 120 #[.agg #[.int .i64 T,.int .i64 J,.int .i64 G,.int .i64 L],.agg #[.int .i64 U,.int .i64 M,.int .i64 I,.int .i64 O]] w fun e w'=>e=.returned (.bool r)/\Below w.heap.size w w':=by
 have dV:=underlying79;(have HB:=aK (Below.refl w.heap.size w));have H:=h;(unfold BS.f at H);clear h;have bS:=aK H;clear H;(go_enter func120,ntmps120);(go_upto_region 1 with (first|((with_reducible refine AL (N:=2) rfl ?_);refine xU 2 ?_;intro X w4 A hg hb;have bW:=gW hg;replace HB:=uH hb;clear hb hg)|((with_reducible refine AL (N:=3) rfl ?_);refine xU 3 ?_;intro Y w5 B hg hb;have bX:=gW hg;have D:=nB hg (rB A);have E:=mB hg (rB A);replace A:=uB A hb;replace HB:=uH hb;clear hb hg)));((try simp only [Act.put,List.setIfInBounds_toArray,List.set_cons_zero,List.set_cons_succ]));(go_cut [5] (fun v5 wc=>∃ (kq:Nat) (aA:Bool),v5=.bool aA/\AD (BS.j0 kq aA T J G L U M I O=some r)/\AD (kq<=k)/\AD (wc.heap[X]?=some (.cells #[.int .i64 T,.int .i64 J,.int .i64 G,.int .i64 L] 79 (0,0)))/\AD (wc.heap[Y]?=some (.cells #[.int .i64 U,.int .i64 M,.int .i64 I,.int .i64 O] 79 (0,0)))/\AD (Below w.heap.size w wc)))
 case first =>
  have H:=bS.o;clear bS;obtain ⟨bT,A6,H⟩:=sQ H;(by_cases c7:bT=true)
  .
   subst c7;replace H:=tT H;obtain ⟨bU,A8,H⟩:=sQ H;(by_cases c9:bU=true)
   .
    subst c9;replace H:=tT H;(by_cases Gt:J=2)
    . rw [if_pos Gt] at H;have P:=bE Gt;have Z:=cE Gt;clear Gt;((first|rw [P]|rw [Z]|(simp only [Ae,Aj];rw [P])|skip));(have H':=aK H);clear H;have cP:=D.o;have dD:=E.o;have aX:=Bi A;(go_wp2_with (first|((with_reducible refine gC 123 rfl ?_);refine aL 7 func123 (Cm.c T J G L true _ A6.o) ?_;rintro e dY ⟨rfl,hb⟩;refine ⟨_,rfl,?_⟩;replace A:=uB A hb;replace B:=uB B hb;replace HB:=uH hb;(try clear hb);have aY:=Bi B)|(go_at_call 123;(with_reducible refine (Cm.c U M I O true _ A8.o).mono ?_);rintro e dZ ⟨rfl,hb⟩;replace A:=uB A hb;replace B:=uB B hb;replace HB:=uH hb;(try clear hb);have aZ:=Bi A;have bA:=Bi B)));(go_meet);(case rel=>exact ⟨_,((M == 2)),vQ,H',⟨by first|omega|exact Nat.le_refl _⟩,⟨rB A⟩,⟨rB B⟩,⟨bQ⟩⟩)
    . rw [if_neg Gt] at H;have P:=bN Gt;have Z:=cN Gt;((first|rw [P]|rw [Z]|(simp only [Ae,Aj];rw [P])|skip));(have H':=aK H);clear H;have cR:=D.o;have dE:=E.o;have bC:=Bi A;(go_wp2_with (first|((with_reducible refine gC 123 rfl ?_);refine aL 7 func123 (Cm.c T J G L true _ A6.o) ?_;rintro e fA ⟨rfl,hb⟩;refine ⟨_,rfl,?_⟩;replace A:=uB A hb;replace B:=uB B hb;replace HB:=uH hb;(try clear hb);have bD:=Bi B)|(go_at_call 123;(with_reducible refine (Cm.c U M I O true _ A8.o).mono ?_);rintro e fB ⟨rfl,hb⟩;replace A:=uB A hb;replace B:=uB B hb;replace HB:=uH hb;(try clear hb);have bF:=Bi A)));(go_meet);(case rel=>exact ⟨_,(false),vQ,H',⟨by first|omega|exact Nat.le_refl _⟩,⟨rB A⟩,⟨rB B⟩,⟨bQ⟩⟩)
   . replace c9:=Bool.eq_false_iff.mpr c9;subst c9;replace H:=tF H;(have H':=aK H);clear H;have cS:=D.o;have dF:=E.o;have bH:=Bi A;(go_wp2_with (first|((with_reducible refine gC 123 rfl ?_);refine aL 7 func123 (Cm.c T J G L true _ A6.o) ?_;rintro e fD ⟨rfl,hb⟩;refine ⟨_,rfl,?_⟩;replace A:=uB A hb;replace B:=uB B hb;replace HB:=uH hb;(try clear hb);have bI:=Bi B)|(go_at_call 123;(with_reducible refine (Cm.c U M I O false _ A8.o).mono ?_);rintro e fE ⟨rfl,hb⟩;replace A:=uB A hb;replace B:=uB B hb;replace HB:=uH hb;(try clear hb))));(go_meet);(case rel=>exact ⟨_,(true),vQ,H',⟨by first|omega|exact Nat.le_refl _⟩,⟨rB A⟩,⟨rB B⟩,⟨bQ⟩⟩)
  . replace c7:=Bool.eq_false_iff.mpr c7;subst c7;replace H:=tF H;(have H':=aK H);clear H;have cT:=D.o;have dG:=E.o;have bJ:=Bi A;(go_wp2_with (first|((with_reducible refine gC 123 rfl ?_);refine aL 7 func123 (Cm.c T J G L false _ A6.o) ?_;rintro e fF ⟨rfl,hb⟩;refine ⟨_,rfl,?_⟩;replace A:=uB A hb;replace B:=uB B hb;replace HB:=uH hb;(try clear hb))));(go_meet);(case rel=>exact ⟨_,(true),vQ,H',⟨by first|omega|exact Nat.le_refl _⟩,⟨rB A⟩,⟨rB B⟩,⟨bQ⟩⟩)
 case rest =>
  clear bS;(try clear p2);(try clear P);(try clear Z);(try clear aX aY aZ bA bC bD bF bH bI bJ);obtain ⟨kq,aA,rfl,HA,dX,A,B,HB⟩:=hcut
  cases kq with
  | zero=>exact absurd HA.o (by simp [BS.j0])
  | succ dW =>
   have H:=HA.o;clear HA;(simp only [BS.j0] at H);(by_cases bP:aA=true);(· subst bP;replace H:=tT H;obtain rfl:=Option.some.inj H;go_wp2;go_ret;(exact ⟨eQ,bQ⟩))
   .
    replace bP:=Bool.eq_false_iff.mpr bP;subst bP;replace H:=tF H;(by_cases aC:J=2)
    .
     rw [if_pos aC] at H;have aI:=bE aC;have aJ:=cE aC;clear aC;(by_cases aD:I=G)
     . rw [if_pos aD] at H;have aM:=bE aD;have aN:=cE aD;clear aD;obtain rfl:=Option.some.inj H;have cU:=D.o;have dH:=E.o;have bY:=Bi A;have bZ:=Bi B;go_wp2;go_ret;(exact ⟨eQ,bQ⟩)
     . rw [if_neg aD] at H;have aM:=bN aD;have aN:=cN aD;obtain rfl:=Option.some.inj H;have cV:=D.o;have dI:=E.o;have cB:=Bi A;have cC:=Bi B;go_wp2;go_ret;(exact ⟨eQ,bQ⟩)
    .
     rw [if_neg aC] at H;have aI:=bN aC;have aJ:=cN aC;(by_cases aE:M=2)
     .
      rw [if_pos aE] at H;have aP:=bE aE;have aQ:=cE aE;clear aE;(by_cases aF:G=I)
      . rw [if_pos aF] at H;have aR:=bE aF;have aS:=cE aF;clear aF;obtain rfl:=Option.some.inj H;have cW:=D.o;have dJ:=E.o;have cD:=Bi A;have cF:=Bi B;go_wp2;go_ret;(exact ⟨eQ,bQ⟩)
      . rw [if_neg aF] at H;have aR:=bN aF;have aS:=cN aF;obtain rfl:=Option.some.inj H;have cX:=D.o;have dL:=E.o;have cG:=Bi A;have cH:=Bi B;go_wp2;go_ret;(exact ⟨eQ,bQ⟩)
     .
      rw [if_neg aE] at H;have aP:=bN aE;have aQ:=cN aE;(by_cases aG:G=I)
      . rw [if_pos aG] at H;have aT:=bE aG;have aU:=cE aG;clear aG;obtain rfl:=Option.some.inj H;have cY:=D.o;have dM:=E.o;have cI:=Bi A;have cJ:=Bi B;go_wp2;go_ret;(exact ⟨eQ,bQ⟩)
      .
       rw [if_neg aG] at H;have aT:=bN aG;have aU:=cN aG;(by_cases aH:L=O)
       . rw [if_pos aH] at H;have aV:=bE aH;have aW:=cE aH;clear aH;obtain rfl:=Option.some.inj H;have cZ:=D.o;have dN:=E.o;have cK:=Bi A;have cL:=Bi B;go_wp2;go_ret;(exact ⟨eQ,bQ⟩)
       .
        rw [if_neg aH] at H;have aV:=bN aH;have aW:=cN aH;obtain ⟨bK,dP,H⟩:=sQ H;obtain ⟨bL,dR,H⟩:=sQ H;obtain ⟨bM,dS,H⟩:=sQ H;obtain ⟨bO,dT,H⟩:=sQ H;obtain ⟨bV,dU,H⟩:=sQ H;obtain rfl:=Option.some.inj H;have dA:=D.o;have dO:=E.o;have cM:=Bi A;have cO:=Bi B;(try go_wp2);replace A:=aK (Mc A.o);replace B:=aK (Mc B.o);replace HB:=aK (AQ HB.o);refine sU 14 (fun w'=>w'.cell? ⟨X,0,none⟩=some (.int .i64 T)/\w'.cell? ⟨X,1,none⟩=some (.int .i64 J)/\w'.cell? ⟨X,2,none⟩=some (.int .i64 G)/\w'.cell? ⟨X,3,none⟩=some (.int .i64 L)/\w'.cell? ⟨Y,0,none⟩=some (.int .i64 U)/\w'.cell? ⟨Y,1,none⟩=some (.int .i64 M)/\w'.cell? ⟨Y,2,none⟩=some (.int .i64 I)/\w'.cell? ⟨Y,3,none⟩=some (.int .i64 O)) BS.St BS.KT ⟨zC A 0 _,zC A 1 _,zC A 2 _,zC A 3 _,zC B 0 _,zC B 1 _,zC B 2 _,zC B 3 _⟩ (fun hHeld HT_ HW_=>?_);generalize wc.drew=fG at A B HB hHeld |-;refine pU 0 ?_;refine pU 3 ?_;refine pU 6 ?_;refine pU 9 ?_;refine kU 1 ?_;refine kU 4 ?_;refine kU 7 ?_;refine kU 10 ?_;refine jU 2 (fun K hK=>?_);refine aO func150 (EI.c G bK _ dP.o) ?_;rintro e w' ⟨rfl,⟨nd,rfl⟩⟩;refine ⟨_,rfl,?_⟩;refine oK hK ⟨zC A 0 _,zC A 1 _,zC A 2 _,zC A 3 _,zC B 0 _,zC B 1 _,zC B 2 _,zC B 3 _⟩ (fun hHeld=>?_);clear hK K;refine jU 5 (fun K hK=>?_);refine aO func151 (Dy.c L bL _ dR.o) ?_;rintro e w' ⟨rfl,⟨nd,rfl⟩⟩;refine ⟨_,rfl,?_⟩
        refine oK hK ⟨zC A 0 _,zC A 1 _,zC A 2 _,zC A 3 _,zC B 0 _,zC B 1 _,zC B 2 _,zC B 3 _⟩ (fun hHeld=>?_);clear hK K;refine jU 8 (fun K hK=>?_);refine aO func150 (EI.c I bM _ dS.o) ?_;rintro e w' ⟨rfl,⟨nd,rfl⟩⟩;refine ⟨_,rfl,?_⟩;refine oK hK ⟨zC A 0 _,zC A 1 _,zC A 2 _,zC A 3 _,zC B 0 _,zC B 1 _,zC B 2 _,zC B 3 _⟩ (fun hHeld=>?_);clear hK K;refine jU 11 (fun K hK=>?_);refine aO func151 (Dy.c O bO _ dT.o) ?_;rintro e w' ⟨rfl,⟨nd,rfl⟩⟩;refine ⟨_,rfl,?_⟩;refine oK hK ⟨zC A 0 _,zC A 1 _,zC A 2 _,zC A 3 _,zC B 0 _,zC B 1 _,zC B 2 _,zC B 3 _⟩ (fun hHeld=>?_);clear hK K;refine jU 12 (fun K hK=>?_);refine aO func149 (BV.c dW bK bL bM bO bV _ dU.o) ?_;rintro e fH ⟨rfl,hb⟩;refine ⟨_,rfl,?_⟩;replace A:=uB A hb;replace B:=uB B hb;replace HB:=uH hb;((try clear hb));(skip);(skip);(skip);refine oK hK ⟨zC A 0 _,zC A 1 _,zC A 2 _,zC A 3 _,zC B 0 _,zC B 1 _,zC B 2 _,zC B 3 _⟩ (fun hHeld=>?_);clear hK K;refine pU 13 ?_;refine CY (BY HT_.o kF) ?_;(try go_wp2);go_ret;(exact ⟨eQ,bQ⟩)
mutual
def AK.l0:Nat->List Ai->List Int->Int->Option Bool
 | 0,_,_,_=>none
 | k+1,x0,x1,x5=>if x5<(x1.length:Int) then (if 0<=x5 then ((BO.f k x0 (rd x1 x5)).bind fun B=>(if B<0 then (AK.j1 k x0 x1 x5 B true) else (if x5>0 then (if 0<=(wrap64 (x5-1)) then (if (wrap64 (x5-1))<(x1.length:Int) then (AK.j1 k x0 x1 x5 B (decide ((rd x1 (wrap64 (x5-1)))>=(rd x1 x5)))) else none) else none) else (AK.j1 k x0 x1 x5 B false)))) else none) else ((BZ.f k x0).bind fun D=>(some D))
def AK.j1:Nat->List Ai->List Int->Int->Int->Bool->Option Bool
 | 0,_,_,_,_,_=>none
 | k+1,x0,x1,x5,x6,G=>if G=true then (some false) else (AK.l1 k x0 x1 x5 x6 0)
def AK.l1:Nat->List Ai->List Int->Int->Int->Int->Option Bool
 | 0,_,_,_,_,_=>none
 | k+1,x0,x1,x5,x6,x7=>if x7<x5 then (if 0<=x6 then (if x6<(x0.length:Int) then (if 0<=x7 then (if x7<(x1.length:Int) then ((BO.f k x0 (rd x1 x7)).bind fun A=>(if 0<=A then (if A<(x0.length:Int) then ((BS.f k ((AA x0 x6).f0) ((AA x0 x6).f1) ((AA x0 x6).f2) ((AA x0 x6).f3) ((AA x0 A).f0) ((AA x0 A).f1) ((AA x0 A).f2) ((AA x0 A).f3)).bind fun E=>(if E=true then (some false) else (AK.l1 k x0 x1 x5 x6 (wrap64 (x7+1))))) else none) else none)) else none) else none) else none) else none) else (AK.l0 k x0 x1 (wrap64 (x5+1)))
end
def AK.f (k:Nat) (l0:List Ai) (l1:List Int):Option Bool:=AK.l0 k l0 l1 0
theorem AK.Hz:Br (C9 .any (opsOf f77 5)).2 [0,1,3,7,15,31,63,63,191,511,1023,63,63,6207,14399,32767,65535,131071]=true:=by kernel_rfl
theorem AK.SV:Br (C9 .any (opsOf f77 10)).2 [0,0,3,7,0,0,0,0,192,448,992,2032,4080,8191]=true:=by kernel_rfl
theorem AK.c (k:Nat) (A0:Option Addr) (c0:Nat) (l0:List Ai) (A1:Option Addr) (c1:Nat) (l1:List Int) (r:Bool) (w:World) (cU:Kd.C D0 w A0 l0.length l0) (hc0:l0.length<=c0) (hr1:Kd.C kI w A1 l1.length l1) (cL:l1.length<=c1) (h:AK.f k l0 l1=some r) :
 Calls prog 77 #[.slice A0 l0.length c0,.slice A1 l1.length c1] w fun e w'=>e=.returned (.bool r)/\Below w.heap.size w w':=by
 have cV:=underlying79;have aV:=aK cU;have bJ:=aK hc0;clear hc0;have bH:=aK hr1;have dL:=aK cL;clear cL;have HB:=bR w;have H:=h;unfold AK.f at H;have H':=aK H;go_enter func77,ntmps77;go_wp2;(go_loopg [5] k (fun kq v5 w'=>∃ (D:Int),v5=.int .i64 D/\AD (AK.l0 kq l0 l1 D=some r)/\AD (kq<=k)/\AD (Below w.heap.size w w')));(case atStart=>exact ⟨0,vQ,H',⟨Nat.le_refl _⟩,⟨bQ⟩⟩)
 case round =>
  obtain ⟨D,rfl,HA,aU,HB⟩:=hrel
  cases gk with
  | zero=>exact nS HA
  | succ k1 =>
   have H:=HA.o;simp only [AK.l0] at H;(by_cases c3:D<(l1.length:Int))
   .
    obtain ⟨bO,H⟩:=iT c3 H;obtain ⟨cT,H⟩:=nQ H;obtain ⟨B,A5,cS⟩:=sK H;obtain ⟨G,bS,cW,dE,bI⟩:=rI bH HB D;cases bS;(go_upto_region 5 with (refine gC 79 rfl ?_;refine aL 19 func79 (BO.c k1 _ _ l0 (rd l1 D) B _ (cA aV) bJ.o A5.o) ?_;rintro e w' ⟨rfl,⟨nd,rfl⟩⟩;refine ⟨_,rfl,?_⟩));(try simp only [Act.put,lQ,lZ,lS]);(go_cut [37] (fun v37 wc=>∃ (kq:Nat) (aC:Bool),v37=.bool aC/\AD (AK.j1 kq l0 l1 D B aC=some r)/\AD (kq<=k1)/\AD (Below w.heap.size w wc)))
    case first =>
     have H:=cS.o;(by_cases c7:B<0)
     . obtain ⟨aD,H⟩:=iT c7 H;(try first|rw [aD]|(simp only [Ae,Aj];rw [aD]));have H':=aK H;(try go_wp2);replace HB:=aK (AQ (AJ HB.o nd));refine sU 18 (fun w'=>True) rfl AK.Hz trivial (fun hHeld HT_ HW_=>?_);generalize (wr.drewN nd).drew=w8 at HB hHeld |-;refine pU 0 ?_;refine pU 1 ?_;refine pU 2 ?_;refine wU 3 ?_;refine wU 4 ?_;refine wU 5 ?_;refine wU 6 ?_;refine wU 7 ?_;refine wU 8 ?_;refine wU 9 ?_;refine wU 10 ?_;refine wU 11 ?_;refine wU 12 ?_;refine wU 13 ?_;refine wU 14 ?_;refine wU 15 ?_;refine wU 16 ?_;refine pU 17 ?_;refine CY (BY HT_.o kF) ?_;(try go_wp2);(go_meet);(case rel=>exact ⟨_,true,vQ,H',⟨mA aU⟩,⟨bQ⟩⟩)
     .
      obtain ⟨aD,H⟩:=iF c7 H;(try first|rw [aD]|(simp only [Ae,Aj];rw [aD]));(by_cases c9:D>0)
      . obtain ⟨bP,H⟩:=iT c9 H;obtain ⟨Z,aA⟩:∃ j_:Int,(wrap64 (D-1))=j_:=⟨_,rfl⟩;(replace H:(if 0<=(Z) then (if (Z)<(l1.length:Int) then (AK.j1 k1 l0 l1 D B (decide ((rd l1 (Z))>=(rd l1 D)))) else none) else none)=some r:=by first|(rw [aA] at H;exact H)|(simp only [aA] at H |-;exact H));have bY:(IntKind.i64.wrap (D-1))=Z:=(Ae _).trans aA;obtain ⟨cB,H⟩:=nQ H;obtain ⟨cC,H⟩:=nQ H;have H':=aK H;(try go_wp2);replace HB:=aK (AQ (AJ HB.o nd));obtain ⟨aW,bT,cX,dF,aE,aG⟩:=qI bH HB (Z);obtain rfl:G=aW:=(by injection bT);obtain ⟨aX,bU,cY,dG,aF,aH⟩:=qI bH HB D;obtain rfl:G=aX:=(by injection bU);refine sU 18 (fun w'=>w'.cell? (G.add ((Z)).toNat)=some (.int .i64 (rd l1 (Z)))/\w'.cell? (G.add (D).toNat)=some (.int .i64 (rd l1 D))) rfl AK.Hz ⟨cQ HB aE,cQ HB aF⟩ (fun hHeld HT_ HW_=>?_);generalize (wr.drewN nd).drew=dM at HB aG aH hHeld |-;refine pU 0 ?_;refine pU 1 ?_;refine pU 2 ?_;refine pU 3 ?_;refine pU 4 ?_;refine pU 5 ?_;refine pU 6 ?_;refine pU 7 ?_;refine pU 8 ?_;refine pU 9 ?_;refine pU 11 ?_;refine pU 12 ?_;refine pU 13 ?_;refine kU 10 ?_;refine kU 14 ?_;refine pU 15 ?_;refine pU 16 ?_;refine pU 17 ?_;refine CY (BY HT_.o kF) ?_;(try go_wp2);(go_meet);(case rel=>exact ⟨_,decide ((rd l1 (Z))>=(rd l1 D)),(by first|rfl|(simp;done)|(simp only [<-aA] <;> (first|rfl|simp))|(simp [*];done)),H',⟨mA aU⟩,⟨bQ⟩⟩)
      . obtain ⟨bP,H⟩:=iF c9 H;have H':=aK H;(try go_wp2);replace HB:=aK (AQ (AJ HB.o nd));refine sU 18 (fun w'=>True) rfl AK.Hz trivial (fun hHeld HT_ HW_=>?_);generalize (wr.drewN nd).drew=dN at HB hHeld |-;refine pU 0 ?_;refine pU 1 ?_;refine pU 2 ?_;refine pU 3 ?_;refine pU 4 ?_;refine pU 5 ?_;refine wU 6 ?_;refine wU 7 ?_;refine wU 8 ?_;refine wU 9 ?_;refine wU 10 ?_;refine wU 11 ?_;refine wU 12 ?_;refine wU 13 ?_;refine wU 14 ?_;refine wU 15 ?_;refine pU 16 ?_;refine pU 17 ?_;refine CY (BY HT_.o kF) ?_;(try go_wp2);(go_meet);(case rel=>exact ⟨_,false,vQ,H',⟨mA aU⟩,⟨bQ⟩⟩)
    case rest =>
     obtain ⟨kq,aC,rfl,HA,bD,HB⟩:=hcut
     cases kq with
     | zero=>exact nS HA
     | succ cM =>
      have H:=HA.o;simp only [AK.j1] at H;(rcases eB aC with bL|bL);(· subst bL;replace H:=tT H;obtain rfl:=sI H;go_wp2;go_ret;exact ⟨eQ,bQ⟩)
      .
       subst bL;replace H:=tF H;have H':=aK H;go_wp2;(go_loopg [7] cM (fun kq v7 w'=>∃ (Y:Int),v7=.int .i64 Y/\AD (AK.l1 kq l0 l1 D B Y=some r)/\AD (kq<=cM)/\AD (Below w.heap.size w w')));(case atStart=>exact ⟨0,vQ,H',⟨Nat.le_refl _⟩,⟨bQ⟩⟩)
       case round =>
        obtain ⟨Y,rfl,HA,bF,HB⟩:=hrel
        cases gk with
        | zero=>exact nS HA
        | succ k3 =>
         have H:=HA.o;simp only [AK.l1] at H;(by_cases cD:Y<D)
         .
          obtain ⟨bA,H⟩:=iT cD H;obtain ⟨cF,H⟩:=nQ H;obtain ⟨cG,H⟩:=nQ H;obtain ⟨cH,H⟩:=nQ H;obtain ⟨cI,H⟩:=nQ H;obtain ⟨E,cO,H⟩:=sQ H;obtain ⟨cJ,H⟩:=nQ H;obtain ⟨cK,H⟩:=nQ H;obtain ⟨bC,cP,bK⟩:=sK H;(try go_wp2);replace HB:=dB HB;obtain ⟨A,bV,cZ,dH,I,J,L,M,aI,aJ,aM,aN⟩:=Kx aV HB B;cases bV;obtain ⟨aY,bW,dA,dI,O,aP⟩:=qI bH HB Y;obtain rfl:G=aY:=(by injection bW);obtain ⟨aZ,bX,dD,dJ,P,T,U,X,aQ,aR,aS,aT⟩:=Kx aV HB E;obtain rfl:A=aZ:=(by injection bX);refine sU 14 (fun w'=>w'.cell? (A.add ((B).toNat*4))=some (.int .i64 ((AA l0 B).f0))/\w'.cell? ⟨(A.add ((B).toNat*4)).block,(A.add ((B).toNat*4)).off+1,none⟩=some (.int .i64 ((AA l0 B).f1))/\w'.cell? ⟨(A.add ((B).toNat*4)).block,(A.add ((B).toNat*4)).off+2,none⟩=some (.int .i64 ((AA l0 B).f2))/\w'.cell? ⟨(A.add ((B).toNat*4)).block,(A.add ((B).toNat*4)).off+3,none⟩=some (.int .i64 ((AA l0 B).f3))/\w'.cell? (G.add (Y).toNat)=some (.int .i64 (rd l1 Y))/\w'.cell? (A.add ((E).toNat*4))=some (.int .i64 ((AA l0 E).f0))/\w'.cell? ⟨(A.add ((E).toNat*4)).block,(A.add ((E).toNat*4)).off+1,none⟩=some (.int .i64 ((AA l0 E).f1))/\w'.cell? ⟨(A.add ((E).toNat*4)).block,(A.add ((E).toNat*4)).off+2,none⟩=some (.int .i64 ((AA l0 E).f2))/\w'.cell? ⟨(A.add ((E).toNat*4)).block,(A.add ((E).toNat*4)).off+3,none⟩=some (.int .i64 ((AA l0 E).f3))) rfl AK.SV ⟨cQ HB I,cQ HB J,cQ HB L,cQ HB M,cQ HB O,cQ HB P,cQ HB T,cQ HB U,cQ HB X⟩ (fun hHeld HT_ HW_=>?_)
          generalize wr.drew=dO at HB aI aJ aM aN aP aQ aR aS aT hHeld |-;refine pU 0 ?_;refine pU 1 ?_;refine pU 2 ?_;refine pU 4 ?_;refine pU 5 ?_;refine pU 6 ?_;refine pU 7 ?_;refine pU 8 ?_;refine kU 3 ?_;refine kU 9 ?_;refine jU 10 (fun K hK=>?_);refine aO func79 (BO.c k3 _ _ l0 (rd l1 Y) E _ (cA aV) bJ.o cO.o) ?_;rintro e w' ⟨rfl,⟨nd,rfl⟩⟩;refine ⟨_,rfl,?_⟩;refine oK hK ⟨cQ HB I,cQ HB J,cQ HB L,cQ HB M,cQ HB O,cQ HB P,cQ HB T,cQ HB U,cQ HB X⟩ (fun hHeld=>?_);clear hK K;refine pU 11 ?_;refine kU 12 ?_;refine jU 13 (fun K hK=>?_);refine aO func120 (BS.c k3 ((AA l0 B).f0) ((AA l0 B).f1) ((AA l0 B).f2) ((AA l0 B).f3) ((AA l0 E).f0) ((AA l0 E).f1) ((AA l0 E).f2) ((AA l0 E).f3) bC _ cP.o) ?_;rintro e dP ⟨rfl,hb⟩;refine ⟨_,rfl,?_⟩;replace HB:=uH hb;(skip);(skip);(skip);refine oK hK ⟨cQ HB I,cQ HB J,cQ HB L,cQ HB M,cQ HB O,cQ HB P,cQ HB T,cQ HB U,cQ HB X⟩ (fun hHeld=>?_);clear hK K;refine CY (BY HT_.o kF) ?_;(go_upto_if 56 with (fail));have H:=bK.o;(rcases eB bC with bM|bM);(· subst bM;replace H:=tT H;obtain rfl:=sI H;go_wp2;go_ret;exact ⟨eQ,bQ⟩);(· subst bM;replace H:=tF H;have H':=aK H;go_wp2;(go_roundg k3);(case measure=>have:=aU.o;have:=bD.o;have:=bF.o;omega);(case rel=>exact ⟨wrap64 (Y+1),vQ,H',⟨by have:=aU.o;have:=bD.o;have:=bF.o;omega⟩,⟨bQ⟩⟩))
         . obtain ⟨bA,H⟩:=iF cD H;have H':=aK H;go_wp2;(go_roundg k3);(case measure=>have:=aU.o;have:=bD.o;have:=bF.o;omega);(case rel=>exact ⟨wrap64 (D+1),vQ,H',⟨by have:=aU.o;have:=bD.o;have:=bF.o;omega⟩,⟨bQ⟩⟩)
   . obtain ⟨bO,H⟩:=iF c3 H;obtain ⟨bZ,cR,H⟩:=sQ H;obtain rfl:=sI H;(go_wp2_with (refine gC 80 rfl ?_;refine aB 58 func80 (BZ.c k1 _ _ l0 bZ _ (cA aV) bJ.o cR.o) fun dR hb=>?_;replace HB:=uH hb));go_ret;exact ⟨eQ,bQ⟩
mutual
def BQ.l0:Nat->List Int->Int->Int->Option (List Int)
 | 0,_,_,_=>none
 | k+1,x0,x1,x5=>if x5<(x0.length:Int) then (if 0<=x5 then (BQ.j1 k x0 x1 x5 (decide ((rd x0 x5)<x1))) else none) else (BQ.j1 k x0 x1 x5 false)
def BQ.j1:Nat->List Int->Int->Int->Bool->Option (List Int)
 | 0,_,_,_,_=>none
 | k+1,x0,x1,x5,I=>if I=true then (BQ.l0 k x0 x1 (wrap64 (x5+1))) else (if x5<(x0.length:Int) then (if 0<=x5 then (BQ.j2 k x0 x1 x5 ((rd x0 x5) == x1)) else none) else (BQ.j2 k x0 x1 x5 false))
def BQ.j2:Nat->List Int->Int->Int->Bool->Option (List Int)
 | 0,_,_,_,_=>none
 | k+1,x0,x1,x5,J=>if J=true then ((some (([]:List Int):List Int)).bind fun A=>(if A.length+x0.length<17592186044416 then (some (A++x0)) else none)) else ((some (([]:List Int):List Int)).bind fun B=>(if 0<=x5 then (if x5<=(x0.length:Int) then (if B.length+(x0.take (x5:Int).toNat).length<17592186044416 then ((some (B++(x0.take (x5:Int).toNat):List Int)).bind fun D=>((some (([x1]:List Int):List Int)).bind fun E=>(if D.length+E.length<17592186044416 then ((some (D++E:List Int)).bind fun G=>(if G.length+(x0.drop (x5:Int).toNat).length<17592186044416 then (some (G++(x0.drop (x5:Int).toNat))) else none)) else none))) else none) else none) else none))
end
def BQ.f (k:Nat) (l0:List Int) (a1:Int):Option (List Int):=BQ.l0 k l0 a1 0
theorem BQ.FC:Br (C9 .any (opsOf f152 6)).2 [0,0,0,6,15,0,32,127,0,0,768,2047,4095]=true:=by kernel_rfl
theorem BQ.c (k:Nat) (A0:Option Addr) (c0:Nat) (l0:List Int) (a1:Int) (r:List Int) (w:World) (dV:Kd.C kI w A0 l0.length l0) (hc0:l0.length<=c0) (h:BQ.f k l0 a1=some r) :
 Calls prog 152 #[.slice A0 l0.length c0,.int .i64 a1] w fun e w'=>∃ dG:Value,e=.returned (dG)/\Kd.R kI 3 w' w.heap.size (fun _=>True) dG r/\Below w.heap.size w w':=by
 have bD:=aK dV;have cJ:=aK hc0;clear hc0;have HB:=bR w;have H:=h;unfold BQ.f at H;have H':=aK H;go_enter func152,ntmps152;go_wp2;(go_loopg [5] k (fun kq v5 w'=>∃ (A:Int),v5=.int .i64 A/\AD (BQ.l0 kq l0 a1 A=some r)/\AD (kq<=k)/\AD (Below w.heap.size w w')));(case atStart=>exact ⟨0,vQ,H',⟨Nat.le_refl _⟩,⟨bQ⟩⟩)
 case round =>
  obtain ⟨A,rfl,HA,aY,HB⟩:=hrel
  cases gk with
  | zero=>exact nS HA
  | succ k1 =>
   have H:=HA.o;simp only [BQ.l0] at H;have dI:=aK H;(go_upto_region 2 with (fail));(go_cut [17] (fun v17 wc=>∃ (kq:Nat) (T:Bool),v17=.bool T/\AD (BQ.j1 kq l0 a1 A T=some r)/\AD (kq<=k1)/\AD (Below w.heap.size w wc)))
   case first =>
    have H:=dI.o;(by_cases c4:A<(l0.length:Int))
    . obtain ⟨aE,H⟩:=iT c4 H;(try first|rw [aE]|(simp only [Ae,Aj];rw [aE]));obtain ⟨dP,H⟩:=nQ H;have H':=aK H;obtain ⟨cM,cB,dW,dY,bY⟩:=rI bD HB A;cases cB;go_wp2;(go_meet);(case rel=>exact ⟨_,decide ((rd l0 A)<a1),vQ,H',⟨mA aY⟩,⟨bQ⟩⟩)
    . obtain ⟨aE,H⟩:=iF c4 H;(try first|rw [aE]|(simp only [Ae,Aj];rw [aE]));have H':=aK H;go_wp2;(go_meet);(case rel=>exact ⟨_,false,vQ,H',⟨mA aY⟩,⟨bQ⟩⟩)
   case rest =>
    obtain ⟨kq,T,rfl,HA,bX,HB⟩:=hcut
    cases kq with
    | zero=>exact nS HA
    | succ dF =>
     have H:=HA.o;simp only [BQ.j1] at H;(rcases eB T with c6|c6);(· subst c6;replace H:=tT H;have H':=aK H;go_wp2;(go_roundg dF);(case measure=>have:=aY.o;have:=bX.o;omega);(case rel=>exact ⟨wrap64 (A+1),vQ,H',⟨by have:=aY.o;have:=bX.o;omega⟩,⟨bQ⟩⟩))
     .
      subst c6;replace H:=tF H;have dJ:=aK H;(go_upto_region 4 with (fail));(go_cut [31] (fun v31 wc=>∃ (kq:Nat) (U:Bool),v31=.bool U/\AD (BQ.j2 kq l0 a1 A U=some r)/\AD (kq<=dF)/\AD (Below w.heap.size w wc)))
      case first =>
       have H:=dJ.o;(by_cases c8:A<(l0.length:Int))
       . obtain ⟨aF,H⟩:=iT c8 H;(try first|rw [aF]|(simp only [Ae,Aj];rw [aF]));obtain ⟨dR,H⟩:=nQ H;have H':=aK H;obtain ⟨cO,cC,dX,dZ,bZ⟩:=rI bD HB A;cases cC;go_wp2;(go_meet);(case rel=>exact ⟨_,((rd l0 A) == a1),vQ,H',⟨by have:=aY.o;have:=bX.o;first|omega|exact Nat.le_refl _⟩,⟨bQ⟩⟩)
       . obtain ⟨aF,H⟩:=iF c8 H;(try first|rw [aF]|(simp only [Ae,Aj];rw [aF]));have H':=aK H;go_wp2;(go_meet);(case rel=>exact ⟨_,false,vQ,H',⟨by have:=aY.o;have:=bX.o;first|omega|exact Nat.le_refl _⟩,⟨bQ⟩⟩)
      case rest =>
       obtain ⟨kq,U,rfl,HA,fI,HB⟩:=hcut
       cases kq with
       | zero=>exact nS HA
       | succ fJ =>
        have H:=HA.o;simp only [BQ.j2] at H;(rcases eB U with Gt|Gt)
        . subst Gt;replace H:=tT H;obtain ⟨bV,bJ,H⟩:=eX H;obtain ⟨dL,H⟩:=nP H;have bF:=aK dL;obtain ⟨fF,aN⟩:=eY ((bV++l0):List Int);rw [<-aN.o] at H;obtain rfl:=sI H;(go_wp2_with (first|(refine AL (N:=32) rfl ?_;refine lI 32 [] ?_;intro cG fK bU hb;rw [<-bJ.o] at bU;have aJ:=lR bU;replace HB:=uH hb;clear hb)|(refine BT (b:=.append) (xs:=#[.tmp 32,.tmp 33]) rfl ?_;at_builtin;refine rA kI 32 33 underlying23 De cG bV l0 (fun _=>True) (rR aJ) (cA bD) (fun _ _=>trivial) (by have:=bF.o;omega) ?_;intro fA fL ho hb hg hat;rw [<-aN.o] at ho;have X:=aK (hb);have Y:=aK (ho);clear HB;clear aJ;have HB:=X;have bA:=Y;clear hb hg hat)));go_ret;exact ⟨_,eQ,rR bA,bQ⟩
        .
         subst Gt;replace H:=tF H;obtain ⟨aW,aP,H⟩:=eX H;obtain ⟨cP,H⟩:=nP H;have cR:=eq_true cP;have cS:=decide_eq_true cP;obtain ⟨cT,H⟩:=nP H;have cU:=eq_true cT;have cV:=decide_eq_true cT;obtain ⟨dM,H⟩:=nP H;have aA:=aK dM;obtain ⟨aX,aC,H⟩:=eX H;obtain ⟨aH,aD,H⟩:=eX H;obtain ⟨dN,H⟩:=nP H;have bH:=aK dN;obtain ⟨bW,bK,H⟩:=eX H;have cW:=eq_true (oD:0<=A);have cX:=eq_true (oD:A<=(l0.length:Int));obtain ⟨dO,H⟩:=nP H;have bI:=aK dO;obtain ⟨fG,aQ⟩:=eY ((bW++(l0.drop (A:Int).toNat)):List Int);rw [<-aQ.o] at H;obtain rfl:=sI H;(try go_wp2);replace HB:=dB HB;obtain ⟨i023,aR,_,aT,_⟩:=info_parts De;obtain ⟨cD,bO,bS⟩:=KL (P:=prog) (Value.int .i64) 0 23 3 .i64 underlying23 aR aT A0 c0 l0 A (oD) (oD) cJ.o;have G:=aK (Ig (h1:=fun _=>rfl) (bO _ (I0 bD.o)));have cK:=aK bS;clear bO bS aR aT;obtain ⟨i024,aS,_,aU,_⟩:=info_parts De;obtain ⟨fH,cF,bP,bT⟩:=NU (P:=prog) (Value.int .i64) 0 23 3 .i64 underlying23 aS aU A0 c0 l0 A (oD) (oD) cJ.o;have Z:=aK (Ig (h1:=fun _=>rfl) (bP _ (I0 bD.o)));have cL:=aK bT;clear bP bT aS aU;refine sU 13 (fun w'=>True) rfl BQ.FC trivial (fun hHeld HT_ HW_=>?_);generalize wc.drew=fM at HB G Z hHeld |-;refine pU 1 ?_;refine pU 2 ?_;refine pU 3 ?_;refine pU 5 ?_;refine pU 8 ?_;refine pU 9 ?_;refine pU 10 ?_;refine Pz (σ:=Value×Value×Value) 3 #[true,true,true,true,true,true,true,false,true,true,true,false,false] (fun s_=>[(35,s_.1),(39,s_.2.1),(41,s_.2.2)]) (fun s_ w'=>(Kd.R kI 3 w' w.heap.size (fun k_=>some k_≠(s_.2.2:Value).ownBlock) s_.2.1 aX)/\(Kd.R kI 3 w' w.heap.size (fun k_=>some k_≠(s_.2.1:Value).ownBlock) s_.2.2 aH)/\(Below w.heap.size w w')) ?_ ?_;rotate_left
         .
          intro hCont;refine O6 (i:=0) (j:=6) (Ni:=some 35) (Nj:=some 41) #[true,true,true,true,false,true,false,false,true,true,true,false,false] #[false,true,true,true,false,true,true,false,true,true,true,false,false] rfl rfl rfl rfl (Jy HT_.o kF) dC dC (fun K hK=>?_) (fun K hK=>?_)
          .
           (skip);refine Ok kI 3 35 ([]:List Int) [] (Bt.none _ _) ?_;intro L fD aG hb;rw [<-aP.o] at aG;have E:=lR aG;replace HB:=uH hb;clear hb;refine oK hK trivial (fun hHeld=>?_);clear hK K;refine O6 (i:=4) (j:=6) (Ni:=some 39) (Nj:=some 41) #[true,true,true,true,true,true,false,false,true,true,true,false,false] #[true,true,true,true,false,true,true,false,true,true,true,false,false] rfl rfl rfl rfl (Jy HT_.o kF) dC dC (fun K hK=>?_) (fun K hK=>?_)
           .
            (skip);refine sA kI 35 38 underlying23 De L aW (l0.take (A:Int).toNat) (fun _=>True) (rR E) (by first|(have HR_:=G.o;rw [show (l0.take (A:Int).toNat).length=A.toNat from (by rw [List.length_take];have h_:(A:Int)<=(l0.length:Int):=oD;omega)] at HR_;repeat (first|exact (CP HR_ HB.o)|(with_reducible refine FT ?_ _)|(with_reducible refine Kd.C_drewN ?_ _)|(with_reducible refine Kd.C_drew ?_)))|(repeat (first|exact (CP G.o HB.o)|(with_reducible refine FT ?_ _)|(with_reducible refine Kd.C_drewN ?_ _)|(with_reducible refine Kd.C_drew ?_)))) (fun _ _=>trivial) (by have:=aA.o;have hlx_:=(show (l0.take (A:Int).toNat).length=A.toNat from (by rw [List.length_take];have h_:(A:Int)<=(l0.length:Int):=oD;omega));omega) ?_;intro J dH ho hb hg hat;rw [<-aC.o] at ho;have X:=aK (hb);have Y:=aK (ho);clear HB;clear E;have HB:=X;have D:=Y;clear hb hg hat;refine oK hK trivial (fun hHeld=>?_);clear hK K;refine jU 6 (fun K hK=>?_);refine Ok kI 3 41 ([a1]:List Int) [.int .i64 a1] (Bt.one (show Kd.M kI _ _ _ a1 [.int .i64 a1] from rfl) (Bt.none _ _)) ?_;intro I fN aV hb;rw [<-aD.o] at aV;have B:=aK (Am (Bs aV (CC (rR D))) (AF bQ));replace D:=aK (Bl (rR D) (Aw aV) hb);replace HB:=uH hb;clear hb;refine oK hK trivial (fun hHeld=>?_);clear hK K;exact nC (hCont (L,J,I) _ ⟨(sR (AG D.o (fun _ hk=>hk.2))),(sR (AG B.o (fun _ hk=>hk.2))),bQ⟩)
           .
            (skip);refine Ok kI 3 41 ([a1]:List Int) [.int .i64 a1] (Bt.one (show Kd.M kI _ _ _ a1 [.int .i64 a1] from rfl) (Bt.none _ _)) ?_;intro I dH O hb;rw [<-aD.o] at O;have B:=aK (Am (Bs O (CC (rR E))) (AF bQ));replace E:=aK (Bl (rR E) (Aw O) hb);replace HB:=uH hb;clear hb;refine oK hK trivial (fun hHeld=>?_);clear hK K;refine jU 4 (fun K hK=>?_);refine sA kI 35 38 underlying23 De L aW (l0.take (A:Int).toNat) (fun k_=>some k_≠(I:Value).ownBlock) (sR (AG E.o (fun _ hk=>hk.2))) (by first|(have HR_:=G.o;rw [show (l0.take (A:Int).toNat).length=A.toNat from (by rw [List.length_take];have h_:(A:Int)<=(l0.length:Int):=oD;omega)] at HR_;repeat (first|exact (CP HR_ HB.o)|(with_reducible refine FT ?_ _)|(with_reducible refine Kd.C_drewN ?_ _)|(with_reducible refine Kd.C_drew ?_)))|(repeat (first|exact (CP G.o HB.o)|(with_reducible refine FT ?_ _)|(with_reducible refine Kd.C_drewN ?_ _)|(with_reducible refine Kd.C_drew ?_)))) (fun k_ hk=>By (CC (rR B)) k_ hk) (by have:=aA.o;have hlx_:=(show (l0.take (A:Int).toNat).length=A.toNat from (by rw [List.length_take];have h_:(A:Int)<=(l0.length:Int):=oD;omega));omega) ?_;intro J fE ho hb hg hat;rw [<-aC.o] at ho;have X:=aK (EQ (ok:=(fun _=>True)) (rR B) hg hat);have Y:=aK (hb);have aI:=aK (ho);clear B;clear HB;clear E;have B:=X;have HB:=Y;have D:=aI;clear hb hg hat;refine oK hK trivial (fun hHeld=>?_);clear hK K;exact nC (hCont (L,J,I) _ ⟨rR D,(sR (AG B.o (fun _ hk=>hk.2))),bQ⟩)
          .
           (skip);refine Ok kI 3 41 ([a1]:List Int) [.int .i64 a1] (Bt.one (show Kd.M kI _ _ _ a1 [.int .i64 a1] from rfl) (Bt.none _ _)) ?_;intro I fD aG hb;rw [<-aD.o] at aG;have B:=lR aG;replace HB:=uH hb;clear hb;refine oK hK trivial (fun hHeld=>?_);clear hK K;refine jU 0 (fun K hK=>?_);refine Ok kI 3 35 ([]:List Int) [] (Bt.none _ _) ?_;intro L dH O hb;rw [<-aP.o] at O;have E:=aK (Am (Bs O (CC (rR B))) (AF bQ));replace B:=aK (Bl (rR B) (Aw O) hb);replace HB:=uH hb;clear hb;refine oK hK trivial (fun hHeld=>?_);clear hK K;refine jU 4 (fun K hK=>?_);refine sA kI 35 38 underlying23 De L aW (l0.take (A:Int).toNat) (fun k_=>some k_≠(I:Value).ownBlock) (sR (AG E.o (fun _ hk=>hk.2))) (by first|(have HR_:=G.o;rw [show (l0.take (A:Int).toNat).length=A.toNat from (by rw [List.length_take];have h_:(A:Int)<=(l0.length:Int):=oD;omega)] at HR_;repeat (first|exact (CP HR_ HB.o)|(with_reducible refine FT ?_ _)|(with_reducible refine Kd.C_drewN ?_ _)|(with_reducible refine Kd.C_drew ?_)))|(repeat (first|exact (CP G.o HB.o)|(with_reducible refine FT ?_ _)|(with_reducible refine Kd.C_drewN ?_ _)|(with_reducible refine Kd.C_drew ?_)))) (fun k_ hk=>By (CC (rR B)) k_ hk) (by have:=aA.o;have hlx_:=(show (l0.take (A:Int).toNat).length=A.toNat from (by rw [List.length_take];have h_:(A:Int)<=(l0.length:Int):=oD;omega));omega) ?_;intro J fE ho hb hg hat;rw [<-aC.o] at ho;have X:=aK (EQ (ok:=(fun _=>True)) (rR B) hg hat);have Y:=aK (hb);have aI:=aK (ho);clear B;clear HB;clear E;have B:=X;have HB:=Y;have D:=aI;clear hb hg hat;refine oK hK trivial (fun hHeld=>?_);clear hK K;exact nC (hCont (L,J,I) _ ⟨rR D,(sR (AG B.o (fun _ hk=>hk.2))),bQ⟩)
         rintro ⟨L,J,I⟩ cI ⟨dA,dD,dE⟩;have X:AD (Kd.R kI 3 cI w.heap.size (fun k_=>some k_≠(I:Value).ownBlock) J aX):=⟨dA⟩;have Y:AD (Kd.R kI 3 cI w.heap.size (fun k_=>some k_≠(J:Value).ownBlock) I aH):=⟨dD⟩;have aI:AD (Below w.heap.size w cI):=⟨dE⟩;clear HB;clear dA dD dE;have D:=X;have B:=Y;have HB:=aI;have hHeld:=trivial;obtain ⟨aZ,bL,bM⟩:=AW B.o;(first|subst bM|(injection bM with cY dS cZ;have dT:=cY.symm;have dU:=cZ.symm;clear cY dS cZ;subst dT;subst dU));refine IV (a':=?_) ?_ ?_;rotate_left;(· simp only [Jl,Act.put,List.setIfInBounds_toArray,List.set_cons_zero,List.set_cons_succ];rfl);refine jU 7 (fun K hK=>?_);refine sA kI 39 41 underlying23 De J aX aH (fun k_=>some k_≠(.slice aZ aH.length bL:Value).ownBlock) (rR D) (sC (AO B.o).2.2) (fun k_ hk=>By (CC (rR B)) k_ hk) (by have:=bH.o;omega) ?_;intro cH fO ho hb hg hat;rw [<-bK.o] at ho;have X:=aK (EQ (ok:=(fun _=>True)) (sR (AG B.o (fun _ hk=>⟨trivial,hk⟩))) hg hat);have Y:=aK (hb);have aI:=aK (ho);clear B;clear HB;clear D;have B:=X;have HB:=Y;have aM:=aI;clear hb hg hat;refine oK hK trivial (fun hHeld=>?_);clear hK K;refine jU 11 (fun K hK=>?_);refine sA kI 42 45 underlying23 De cH bW (l0.drop (A:Int).toNat) (fun k_=>some k_≠(.slice aZ aH.length bL:Value).ownBlock) (rR aM) (by first|(rw [<-show (l0.drop (A:Int).toNat).length=(l0.length-A.toNat) from List.length_drop];repeat (first|exact (CP Z.o HB.o)|(with_reducible refine FT ?_ _)|(with_reducible refine Kd.C_drewN ?_ _)|(with_reducible refine Kd.C_drew ?_)))|(repeat (first|exact (CP Z.o HB.o)|(with_reducible refine FT ?_ _)|(with_reducible refine Kd.C_drewN ?_ _)|(with_reducible refine Kd.C_drew ?_)))) (fun k_ hk=>By (CC (rR B)) k_ hk) (by have:=bI.o;have hlx_:=(show (l0.drop (A:Int).toNat).length=(l0.length-A.toNat) from List.length_drop);omega) ?_;intro fB fP ho hb hg hat;rw [<-aQ.o] at ho;have X:=aK (EQ (ok:=(fun _=>True)) (rR B) hg hat);have Y:=aK (hb);have aI:=aK (ho);clear B;clear HB;clear aM;have B:=X;have HB:=Y;have bC:=aI;clear hb hg hat;refine oK hK trivial (fun hHeld=>?_);clear hK K;refine pU 12 ?_;refine CY (BY HT_.o kF) ?_;(try go_wp2);go_ret;exact ⟨_,eQ,sR (AG bC.o (fun _ hk=>trivial)),bQ⟩
mutual
def BF.l0:Nat->List Ai->List Int->List Int->Int->Option (List Int)
 | 0,_,_,_,_=>none
 | k+1,x0,x1,x5,x6=>if x6<(x0.length:Int) then ((AK.f k x0 x1).bind fun B=>(BF.j1 k x0 x1 x5 x6 B)) else (BF.j1 k x0 x1 x5 x6 false)
def BF.j1:Nat->List Ai->List Int->List Int->Int->Bool->Option (List Int)
 | 0,_,_,_,_,_=>none
 | k+1,x0,x1,x5,x6,E=>if E=true then (if 0<=x6 then (if x6<(x0.length:Int) then ((BQ.f k x5 ((AA x0 x6).f0)).bind fun A=>((AK.f k x0 A).bind fun D=>(if D=true then (BF.l0 k x0 x1 A (wrap64 (x6+1))) else (BF.l0 k x0 x1 x5 (wrap64 (x6+1)))))) else none) else none) else (some x5)
end
def BF.f (k:Nat) (l0:List Ai) (l1:List Int):Option (List Int):=(some (([]:List Int):List Int)).bind fun A=>(if A.length+l1.length<17592186044416 then (BF.l0 k l0 l1 (A++l1) 0) else none)
theorem BF.c (k:Nat) (A0:Option Addr) (c0:Nat) (l0:List Ai) (A1:Option Addr) (c1:Nat) (l1:List Int) (r:List Int) (w:World) (bL:Kd.C D0 w A0 l0.length l0) (hc0:l0.length<=c0) (hr1:Kd.C kI w A1 l1.length l1) (aW:l1.length<=c1) (h:BF.f k l0 l1=some r) :
 Calls prog 127 #[.slice A0 l0.length c0,.slice A1 l1.length c1] w fun e w'=>∃ aZ:Value,e=.returned (aZ)/\Kd.R kI 3 w' w.heap.size (fun _=>True) aZ r/\Below w.heap.size w w':=by
 have aH:=aK bL;have aR:=aK hc0;clear hc0;have aS:=aK hr1;have bH:=aK aW;clear aW;have HB:=bR w;have H:=h;unfold BF.f at H;obtain ⟨Y,T,H⟩:=eX H;obtain ⟨c3,H⟩:=nP H;have aI:=aK c3;obtain ⟨aQ,L⟩:=eY ((Y++l1):List Int);rw [<-L.o] at H;have H':=aK H;go_enter func127,ntmps127;(go_wp2_with (first|(refine AL (N:=8) rfl ?_;refine lI 8 [] ?_;intro aP w4 aY hb;rw [<-T.o] at aY;have J:=lR aY;replace HB:=uH hb;clear hb)|(refine BT (b:=.append) (xs:=#[.tmp 8,.tmp 9]) rfl ?_;at_builtin;refine rA kI 8 9 underlying23 De aP Y l1 (fun _=>True) (rR J) (cA aS) (fun _ _=>trivial) (by have:=aI.o;omega) ?_;intro bT w6 ho hb hg hat;rw [<-L.o] at ho;have bM:=aK (hb);have bO:=aK (ho);clear HB;clear J;have HB:=bM;have P:=bO;clear hb hg hat)));(go_loopg [5,6] k (fun kq v5 v6 w'=>∃ (E:List Int) (D:Int),v6=.int .i64 D/\AD (BF.l0 kq l0 l1 E D=some r)/\AD (kq<=k)/\AD (Kd.R kI 3 w' w.heap.size (fun _=>True) v5 E)/\AD (Below w.heap.size w w')))
 case atStart=>exact ⟨aQ,0,vQ,H',⟨Nat.le_refl _⟩,⟨rR P⟩,⟨bQ⟩⟩
 case round =>
  obtain ⟨E,D,rfl,HA,O,A,HB⟩:=hrel
  cases gk with
  | zero=>exact nS HA
  | succ k1 =>
   have H:=HA.o;simp only [BF.l0] at H;have bI:=aK H;(go_upto_region 3 with (fail));(go_cut [19] (fun v19 wc=>∃ (kq:Nat) (G:Bool),v19=.bool G/\AD (BF.j1 kq l0 l1 E D G=some r)/\AD (kq<=k1)/\AD (Kd.R kI 3 wc w.heap.size (fun _=>True) u5 E)/\AD (Below w.heap.size w wc)))
   case first =>
    have H:=bI.o;(by_cases c8:D<(l0.length:Int))
    . obtain ⟨I,H⟩:=iT c8 H;(try first|rw [I]|(simp only [Ae,Aj];rw [I]));obtain ⟨U,A9,H⟩:=sQ H;have H':=aK H;(go_wp2_with (go_at_call 77;(with_reducible refine (AK.c k1 _ _ l0 _ _ l1 U _ (cA aH) aR.o (cA aS) bH.o A9.o).mono ?_);rintro e bV ⟨rfl,hb⟩;replace A:=uR A hb;replace HB:=uH hb));(go_meet);(case rel=>exact ⟨_,U,vQ,H',⟨mA O⟩,⟨rR A⟩,⟨bQ⟩⟩)
    . obtain ⟨I,H⟩:=iF c8 H;(try first|rw [I]|(simp only [Ae,Aj];rw [I]));have H':=aK H;go_wp2;(go_meet);(case rel=>exact ⟨_,false,vQ,H',⟨mA O⟩,⟨rR A⟩,⟨bQ⟩⟩)
   case rest =>
    obtain ⟨kq,G,rfl,HA,Z,A,HB⟩:=hcut
    cases kq with
    | zero=>exact nS HA
    | succ aF =>
     have H:=HA.o;simp only [BF.j1] at H;(rcases eB G with aJ|aJ)
     .
      subst aJ;replace H:=tT H;obtain ⟨aU,H⟩:=nQ H;obtain ⟨aV,H⟩:=nQ H;obtain ⟨M,bA,H⟩:=sQ H;obtain ⟨X,bC,aG⟩:=sK H;obtain ⟨aT,aN,bP,bS,aA,aC,aD,aE⟩:=Jp aH HB D;cases aN;obtain ⟨bD,bJ,rfl⟩:=AW A.o;(go_upto_if 31 with (first|(refine gC 152 rfl ?_;refine aL 28 func152 (BQ.c aF _ _ E ((AA l0 D).f0) M _ (sC ((AO A.o).2.2)) ((AO A.o).2.1) bA.o) ?_;rintro e bW ⟨bU,rfl,aX,hb⟩;refine ⟨_,rfl,?_⟩;have B:=aK (Am (Bs aX (CC (rR A))) (AF bQ));replace A:=aK (Bl (rR A) (Aw aX) hb);replace HB:=uH hb;obtain ⟨bF,bK,rfl⟩:=AW B.o)|(refine gC 77 rfl ?_;refine aB 31 func77 (AK.c aF _ _ l0 _ _ M X _ (cA aH) aR.o (sC ((AO B.o).2.2)) ((AO B.o).2.1) bC.o) fun bX hb=>?_;replace A:=uR A hb;replace B:=uR B hb;replace HB:=uH hb)));(try simp only [Act.put,lQ,lZ,lS]);have H:=aG.o;(rcases eB X with aM|aM);(· subst aM;replace H:=tT H;have H':=aK H;go_wp2;(go_roundg aF);(case measure=>have:=O.o;have:=Z.o;omega);(case rel=>exact ⟨M,wrap64 (D+1),vQ,H',⟨by have:=O.o;have:=Z.o;omega⟩,⟨sR (AG B.o (fun _ hk=>trivial))⟩,⟨bQ⟩⟩));(· subst aM;replace H:=tF H;have H':=aK H;go_wp2;(go_roundg aF);(case measure=>have:=O.o;have:=Z.o;omega);(case rel=>exact ⟨E,wrap64 (D+1),vQ,H',⟨by have:=O.o;have:=Z.o;omega⟩,⟨sR (AG A.o (fun _ hk=>trivial))⟩,⟨bQ⟩⟩))
     . subst aJ;replace H:=tF H;obtain rfl:=sI H;go_wp2;go_ret;exact ⟨_,eQ,rR A,bQ⟩
mutual
def BA.l0:Nat->List Ai->List Int->List (List Int)->List Int->Int->Option ((List (List Int)))
 | 0,_,_,_,_,_=>none
 | k+1,x0,x1,x3,x4,x5=>if x5<(x0.length:Int) then ((BZ.f k x0).bind fun B=>(BA.j1 k x0 ([]:List Int) x3 x4 x5 B)) else (BA.j1 k x0 ([]:List Int) x3 x4 x5 false)
def BA.j1:Nat->List Ai->List Int->List (List Int)->List Int->Int->Bool->Option ((List (List Int)))
 | 0,_,_,_,_,_,_=>none
 | k+1,x0,x1,x3,x4,x5,G=>if G=true then (if 0<=x5 then (if x5<(x0.length:Int) then ((CD.f k x4 ((AA x0 x5).f0)).bind fun D=>(if D=true then (BA.l0 k x0 ([]:List Int) x3 x4 (wrap64 (x5+1))) else ((BF.f k x0 (([(AA x0 x5).f0]:List Int))).bind fun A=>(if x3.length<5864062014805 then (BA.l1 k x0 A (x3++[A]) x4 x5 0) else none)))) else none) else none) else (some x3)
def BA.l1:Nat->List Ai->List Int->List (List Int)->List Int->Int->Int->Option ((List (List Int)))
 | 0,_,_,_,_,_,_=>none
 | k+1,x0,x1,x3,x4,x5,x7=>if x7<(x1.length:Int) then (if 0<=x7 then ((BQ.f k x4 (rd x1 x7)).bind fun E=>(BA.l1 k x0 x1 x3 E x5 (wrap64 (x7+1)))) else none) else (BA.l0 k x0 ([]:List Int) x3 x4 (wrap64 (x5+1)))
end
def BA.f (k:Nat) (l0:List Ai):Option ((List (List Int))):=BA.l0 k l0 ([]:List Int) (([]:List (List Int))) (([]:List Int)) 0
theorem BA.c (k:Nat) (A0:Option Addr) (c0:Nat) (l0:List Ai) (r:List (List Int)) (w:World) (dJ:Kd.C D0 w A0 l0.length l0) (hc0:l0.length<=c0) (h:BA.f k l0=some r) :
 Calls prog 144 #[.slice A0 l0.length c0] w fun e w'=>∃ cZ:Value,e=.returned (cZ)/\Kd.S (Kd.slice 3 kI) 23 w' w.heap.size (fun _=>True) cZ r/\Below w.heap.size w w':=by
 have bU:=aK dJ;have cP:=aK hc0;clear hc0;have HB:=bR w;have H:=h;unfold BA.f at H;(obtain ⟨aW,P⟩:∃ y_:List (List Int),y_=(([]:List (List Int))):=⟨_,rfl⟩);(replace H:(BA.l0 k l0 ([]:List Int) aW (([]:List Int)) 0)=some r:=by first|(rw [P];with_reducible exact H)|(have Y:=(Option.bind_some _ _).symm.trans H;rw [P];with_reducible exact Y)|(have Y:=(Option.bind_some _ _).symm.trans H;with_reducible exact Y)|with_reducible exact H|(rw [P];exact H)|exact H);have bF:=aK P;clear P;obtain ⟨bS,T⟩:∃ y_:List Int,y_=(([]:List Int)):=⟨_,rfl⟩;(replace H:(BA.l0 k l0 ([]:List Int) aW bS 0)=some r:=by first|(rw [T];with_reducible exact H)|(have Y:=(Option.bind_some _ _).symm.trans H;rw [T];with_reducible exact Y)|(have Y:=(Option.bind_some _ _).symm.trans H;with_reducible exact Y)|with_reducible exact H|(rw [T];exact H)|exact H);have bH:=aK T;clear T;have H':=aK H;go_enter func144,ntmps144;(go_wp2_with (first|(refine AL (N:=8) rfl ?_;refine Lm (Kd.slice 3 kI) _ 23 ?hg (N:=8) ?hd (xs:=([]:List (List Int))) (inner:=[]) (ok:=fun _=>True) (okp:=fun _=>True) ?hr ?hp (fun _ hk=>hk) trivial (Below.refl _ _) (Nat.le_refl _) sM ?_;(case hd=>rfl);(case hg=>rfl);(case hr=>first|(go_simp;done)|(go_simp;rfl));(case hp=>exact (Bt.none _ _));intro dU w3 cY hb hg_ hnew_;clear hg_ hnew_;rw [<-bF.o] at cY;have Z:=aK (F9 cY (AF bQ));replace HB:=uH hb;clear hb)|(refine AL (N:=9) rfl ?_;refine lI 9 [] ?_;intro dV w5 cM hb;rw [<-bH.o] at cM;have aZ:=lR cM;replace Z:=aK (EU (rS Z) (Aw cM) hb);replace HB:=uH hb;clear hb)));(go_loopg [3,4,5] k (fun kq v3 v4 v5 w'=>∃ (J:List (List Int)) (I:List Int) (G:Int),v5=.int .i64 G/\AD (BA.l0 kq l0 ([]:List Int) J I G=some r)/\AD (kq<=k)/\AD (Kd.S (Kd.slice 3 kI) 23 w' w.heap.size (fun k_=>some k_≠(v4:Value).ownBlock) v3 J)/\AD (Kd.R kI 3 w' w.heap.size (fun _=>True) v4 I)/\AD (Below w.heap.size w w')))
 case atStart=>exact ⟨aW,bS,0,vQ,H',⟨Nat.le_refl _⟩,⟨sS (C6 Z.o (fun _ hk=>hk.2))⟩,⟨rR aZ⟩,⟨bQ⟩⟩
 case round =>
  obtain ⟨J,I,G,rfl,HA,aG,B,A,HB⟩:=hrel
  cases gk with
  | zero=>exact nS HA
  | succ k1 =>
   have H:=HA.o;simp only [BA.l0] at H;have dG:=aK H;(go_upto_region 4 with (fail));(go_cut [17] (fun v17 wc=>∃ (kq:Nat) (X:Bool),v17=.bool X/\AD (BA.j1 kq l0 ([]:List Int) J I G X=some r)/\AD (kq<=k1)/\AD (Kd.S (Kd.slice 3 kI) 23 wc w.heap.size (fun k_=>some k_≠(u4:Value).ownBlock) u3 J)/\AD (Kd.R kI 3 wc w.heap.size (fun _=>True) u4 I)/\AD (Below w.heap.size w wc)))
   case first =>
    have H:=dG.o;(by_cases c8:G<(l0.length:Int))
    . obtain ⟨aA,H⟩:=iT c8 H;(try first|rw [aA]|(simp only [Ae,Aj];rw [aA]));obtain ⟨bM,A9,H⟩:=sQ H;have H':=aK H;(go_wp2_with (go_at_call 80;(with_reducible refine (BZ.c k1 _ _ l0 bM _ (cA bU) cP.o A9.o).mono ?_);rintro e dZ ⟨rfl,hb⟩;replace B:=uS B hb;replace A:=uR A hb;replace HB:=uH hb));(go_meet);(case rel=>exact ⟨_,bM,vQ,H',⟨mA aG⟩,⟨rS B⟩,⟨rR A⟩,⟨bQ⟩⟩)
    . obtain ⟨aA,H⟩:=iF c8 H;(try first|rw [aA]|(simp only [Ae,Aj];rw [aA]));have H':=aK H;go_wp2;(go_meet);(case rel=>exact ⟨_,false,vQ,H',⟨mA aG⟩,⟨rS B⟩,⟨rR A⟩,⟨bQ⟩⟩)
   case rest =>
    obtain ⟨kq,X,rfl,HA,aY,B,A,HB⟩:=hcut
    cases kq with
    | zero=>exact nS HA
    | succ aT =>
     have H:=HA.o;simp only [BA.j1] at H;(rcases eB X with cH|cH)
     .
      subst cH;replace H:=tT H;obtain ⟨cU,H⟩:=nQ H;obtain ⟨cV,H⟩:=nQ H;obtain ⟨bO,dA,cG⟩:=sK H;obtain ⟨bJ,cJ,dP,dS,bV,bW,bX,bY⟩:=Jp bU HB G;cases cJ;obtain ⟨aJ,aQ,rfl⟩:=AW A.o;(go_upto_if 26 with (refine gC 81 rfl ?_;refine aL 26 func81 (CD.c aT _ _ I ((AA l0 G).f0) bO _ (sC ((AO A.o).2.2)) ((AO A.o).2.1) dA.o) ?_;rintro e w' ⟨rfl,⟨nd,rfl⟩⟩;refine ⟨_,rfl,?_⟩));(try simp only [Act.put,lQ,lZ,lS]);have H:=cG.o;(rcases eB bO with cI|cI);(· subst cI;replace H:=tT H;have H':=aK H;go_wp2;(go_roundg aT);(case measure=>have:=aG.o;have:=aY.o;omega);(case rel=>exact ⟨J,I,wrap64 (G+1),vQ,H',⟨by have:=aG.o;have:=aY.o;omega⟩,⟨rS B⟩,⟨rR A⟩,⟨bQ⟩⟩))
      .
       subst cI;replace H:=tF H;(obtain ⟨aD,U⟩:∃ y_:List Int,y_=(([(AA l0 G).f0]:List Int)):=⟨_,rfl⟩);(replace H:((BF.f aT l0 aD).bind fun E=>(if J.length<5864062014805 then (BA.l1 aT l0 E (J++[E]) I G 0) else none))=some r:=by first|(rw [U];with_reducible exact H)|(have Y:=(Option.bind_some _ _).symm.trans H;rw [U];with_reducible exact Y)|(have Y:=(Option.bind_some _ _).symm.trans H;with_reducible exact Y)|with_reducible exact H|(rw [U];exact H)|exact H);have bI:=aK U;clear U;obtain ⟨E,dD,H⟩:=sQ H;obtain ⟨dH,H⟩:=nP H;have bD:=aK dH;obtain ⟨aX,aH⟩:=eY ((J++[E]):List (List Int));rw [<-aH.o] at H;have H':=aK H;obtain ⟨bK,cK,dR,dT,bZ,cB,cC,cD⟩:=Jp bU HB G;obtain rfl:bJ=bK:=(by injection cK);(go_wp2_with (first|(refine AL (N:=33) rfl ?_;refine lI 33 [(AA l0 G).f0] ?_;intro dW fA aE hb;rw [<-bI.o] at aE;have D:=aK (Am (Bs aE (CC (rR A))) (AF bQ));replace B:=aK (EU (rS B) (Aw aE) hb);replace A:=aK (Bl (rR A) (Aw aE) hb);replace HB:=uH hb;clear hb;obtain ⟨aM,aR,rfl⟩:=AW D.o)|(refine gC 127 rfl ?_;refine aL 34 func127 (BF.c aT _ _ l0 _ _ aD E _ (cA bU) cP.o (sC ((AO D.o).2.2)) ((AO D.o).2.1) dD.o) ?_;rintro e fB ⟨dX,rfl,aI,hb⟩;refine ⟨_,rfl,?_⟩;have M:=aK (Am (Bs (Bs aI (CC (rR A))) (CC (rR D))) (AF bQ));replace B:=aK (EU (rS B) (Aw aI) hb);replace A:=aK (Bl (rR A) (Aw aI) hb);replace D:=aK (Bl (rR D) (Aw aI) hb);replace HB:=uH hb;obtain ⟨aN,bL,rfl⟩:=AW M.o)|(refine BT (b:=.append) (xs:=#[.tmp 35,.tmp 37]) rfl ?_;at_builtin;refine IM (Kd.slice 3 kI) (w0:=w) w.heap.size rfl (.tmp 35) (.tmp 37) 32 23 (.slice none 0 0) 24 rfl underlying32 It rfl dC oM u3 J E [.slice aN E.length bL] (fun k_=>some k_≠(.slice aJ I.length aQ:Value).ownBlock/\some k_≠(.slice aM aD.length aR:Value).ownBlock) (fun k_=>some k_=(.slice aN E.length bL:Value).ownBlock) rfl rfl ?aP (fun k_ hk_=>((AG (ok':=fun k_=>((fun k_=>some k_≠(.slice aJ I.length aQ:Value).ownBlock/\some k_≠(.slice aM aD.length aR:Value).ownBlock)) k_/\some k_≠(u3:Value).ownBlock) (Co (M.o) (Dg B.o) dC) (fun k_ hk=>⟨⟨hk.1.1.2,hk.1.2⟩,hk.2⟩))).1 k_ hk_.symm) ?aF ?aO ?aB ?aS ?aL ?_;(case aP=>exact MU (AG (Fo rfl (AG (ok':=fun k_=>((fun k_=>some k_≠(.slice aJ I.length aQ:Value).ownBlock/\some k_≠(.slice aM aD.length aR:Value).ownBlock)) k_/\some k_≠(u3:Value).ownBlock) (Co (M.o) (Dg B.o) dC) (fun k_ hk=>⟨⟨hk.1.1.2,hk.1.2⟩,hk.2⟩))) (fun _ h_=>h_)));(case aB=>exact bQ);(case aF=>exact (fun k_ hk=>⟨By (CC (rR A)) k_ hk,By (CC (rR D)) k_ hk⟩));(case aO=>exact (sS (C6 B.o (fun k_ hk=>⟨⟨hk.1.1,hk.1.2⟩,fun e_=>hk.2 e_⟩))));(case aS=>exact (AF bQ));(case aL=>have:=bD.o;omega);intro cO fD ho hb hg hat;rw [<-aH.o] at ho;have HS_:=aK ((AO (EB (rR M) (Dg (rS B)) dC hg)).2.2);have dL:=aK (EB (rR A) (Dg (rS B)) dC hg);have dM:=aK (EB (rR D) (Dg (rS B)) dC hg);have dN:=aK (hb);have dO:=aK (ho);clear A;clear D;clear HB;clear B;clear M;have A:=dL;have D:=dM;have HB:=dN;have bA:=dO;have HS:=HS_;clear HS_;clear hb hg hat)))
       (go_loopg [4,7] aT (fun kq v4 v7 w'=>∃ (aC:List Int) (L:Int),v7=.int .i64 L/\AD (BA.l1 kq l0 E aX aC G L=some r)/\AD (kq<=aT)/\AD (Kd.S (Kd.slice 3 kI) 23 w' w.heap.size (fun k_=>some k_≠(v4:Value).ownBlock) cO aX)/\AD (Kd.R kI 3 w' w.heap.size (fun _=>True) v4 aC)/\AD (Below w.heap.size w w')/\AD (Kd.C kI w' aN E.length E)));(case atStart=>exact ⟨I,0,vQ,H',⟨Nat.le_refl _⟩,⟨sS (C6 bA.o (fun _ hk=>hk.1))⟩,⟨sR (AG A.o (fun _ hk=>trivial))⟩,⟨bQ⟩,⟨rC HS⟩⟩)
       case round =>
        obtain ⟨aC,L,rfl,HA,bT,B,A,HB,HS⟩:=hrel
        cases gk with
        | zero=>exact nS HA
        | succ k3 =>
         have H:=HA.o;simp only [BA.l1] at H;(by_cases cW:L<(E.length:Int))
         . obtain ⟨O,H⟩:=iT cW H;(try first|rw [O]|(simp only [Ae,Aj];rw [O]));obtain ⟨cX,H⟩:=nQ H;obtain ⟨bP,dE,H⟩:=sQ H;have H':=aK H;have aU:0<=(L:Int):=oD;have aV:L<(E.length:Int):=oD;obtain ⟨cT,cL,cF⟩:=ED HS.o L aU aV;have cR:=B;have cS:=A;have KB_:=HB;have KS_:=HS;cases cL;have B:=cR;have A:=cS;have HB:=KB_;have HS:=KS_;clear cR cS KB_ KS_;replace aU:=eq_true aU;replace aV:=eq_true aV;obtain ⟨dF,dI,rfl⟩:=AW A.o;(go_wp2_with (refine gC 152 rfl ?_;refine aL 50 func152 (BQ.c k3 _ _ aC (rd E L) bP _ (sC ((AO A.o).2.2)) ((AO A.o).2.1) dE.o) ?_;rintro e fE ⟨dY,rfl,aI,hb⟩;refine ⟨_,rfl,?_⟩;have bC:=aK (Am (Bs aI (CC (rR A))) (AF bQ));replace B:=aK (EU (rS B) (Aw aI) hb);replace A:=aK (Bl (rR A) (Aw aI) hb);replace HS:=uC HS hb;replace HB:=uH hb));(go_roundg k3);(case measure=>have:=aG.o;have:=aY.o;have:=bT.o;omega);(case rel=>exact ⟨bP,wrap64 (L+1),vQ,H',⟨by have:=aG.o;have:=aY.o;have:=bT.o;omega⟩,⟨sS (C6 B.o (fun _ hk=>hk.2))⟩,⟨sR (AG bC.o (fun _ hk=>trivial))⟩,⟨bQ⟩,⟨rC HS⟩⟩)
         . obtain ⟨O,H⟩:=iF cW H;(try first|rw [O]|(simp only [Ae,Aj];rw [O]));have H':=aK H;go_wp2;(go_roundg k3);(case measure=>have:=aG.o;have:=aY.o;have:=bT.o;omega);(case rel=>exact ⟨aX,aC,wrap64 (G+1),vQ,H',⟨by have:=aG.o;have:=aY.o;have:=bT.o;omega⟩,⟨rS B⟩,⟨rR A⟩,⟨bQ⟩⟩)
     . subst cH;replace H:=tF H;obtain rfl:=sI H;go_wp2;go_ret;exact ⟨_,eQ,sS (C6 B.o (fun _ hk=>trivial)),bQ⟩
def BW.l0:Nat->List Ai->List Int->Int->Option Int
 | 0,_,_,_=>none
 | k+1,x0,x1,x5=>if x5<(x1.length:Int) then (if 0<=x5 then ((BO.f k x0 (rd x1 x5)).bind fun A=>(if A>=0 then (if 0<=A then (if A<(x0.length:Int) then (if ((AA x0 A).f1)=2 then (some 7) else (BW.l0 k x0 x1 (wrap64 (x5+1)))) else none) else none) else (BW.l0 k x0 x1 (wrap64 (x5+1))))) else none) else (some 5)
def BW.f (k:Nat) (l0:List Ai) (l1:List Int):Option Int:=BW.l0 k l0 l1 0
theorem BW.c (k:Nat) (A0:Option Addr) (c0:Nat) (l0:List Ai) (A1:Option Addr) (c1:Nat) (l1:List Int) (r:Int) (w:World) (aQ:Kd.C D0 w A0 l0.length l0) (hc0:l0.length<=c0) (hr1:Kd.C kI w A1 l1.length l1) (aI:l1.length<=c1) (h:BW.f k l0 l1=some r) :
 Calls prog 145 #[.slice A0 l0.length c0,.slice A1 l1.length c1] w fun e w'=>e=.returned (.int .i64 r)/\Cx w w':=by
 have Y:=aK aQ;have aF:=aK hc0;clear hc0;have aG:=aK hr1;have aR:=aK aI;clear aI;have H:=h;unfold BW.f at H;have H':=aK H;go_enter func145,ntmps145;go_wp2;(go_loopg [5] k (fun kq v5 w'=>∃ (A:Int),v5=.int .i64 A/\AD (BW.l0 kq l0 l1 A=some r)/\AD (kq<=k)/\Cx w w'));(case atStart=>exact ⟨0,vQ,H',⟨Nat.le_refl _⟩,dQ⟩)
 case round =>
  obtain ⟨A,rfl,HA,O,⟨m1,rfl⟩⟩:=hrel
  cases gk with
  | zero=>exact nS HA
  | succ k1 =>
   have H:=HA.o;simp only [BW.l0] at H;(by_cases c3:A<(l1.length:Int))
   .
    obtain ⟨Z,H⟩:=iT c3 H;obtain ⟨aM,H⟩:=nQ H;obtain ⟨D,A5,H⟩:=sQ H;(by_cases c6:D>=0)
    .
     obtain ⟨aA,H⟩:=iT c6 H;obtain ⟨aN,H⟩:=nQ H;obtain ⟨aP,H⟩:=nQ H;have aJ:=aK H;obtain ⟨M,I,aD,aE,G⟩:=oI aG.o A;cases I;(go_upto_if 28 with (refine gC 79 rfl ?_;refine aL 18 func79 (BO.c k1 _ _ l0 (rd l1 A) D _ (rC Y) aF.o A5.o) ?_;rintro e w' ⟨rfl,⟨nd,rfl⟩⟩;refine ⟨_,rfl,?_⟩;have J:0<=(D:Int):=oD;have L:D<(l0.length:Int):=oD;obtain ⟨aH,aC,P,T,U,X⟩:=F0 Y.o D J L;cases aC;replace J:=eq_true J;replace L:=eq_true L));(try simp only [Act.put,lQ,lZ,lS]);have H:=aJ.o;(by_cases Gt:((AA l0 D).f1)=2)
     . obtain ⟨B,E,H⟩:=iE Gt H;(try first|rw [B]|rw [E]|(simp only [Ae,Aj];rw [B]));obtain rfl:=sI H;go_wp2;go_ret;exact ⟨vQ,dQ⟩
     . obtain ⟨B,E,H⟩:=iN Gt H;(try first|rw [B]|rw [E]|(simp only [Ae,Aj];rw [B]));have H':=aK H;go_wp2;(go_roundg k1);(case measure=>have:=O.o;omega);(case rel=>exact ⟨wrap64 (A+1),vQ,H',⟨mA O⟩,dQ⟩)
    . obtain ⟨aA,H⟩:=iF c6 H;have H':=aK H;obtain ⟨M,I,aD,aE,G⟩:=oI aG.o A;cases I;(go_wp2_with (refine gC 79 rfl ?_;refine aL 18 func79 (BO.c k1 _ _ l0 (rd l1 A) D _ (rC Y) aF.o A5.o) ?_;rintro e w' ⟨rfl,⟨nd,rfl⟩⟩;refine ⟨_,rfl,?_⟩));(go_roundg k1);(case measure=>have:=O.o;omega);(case rel=>exact ⟨wrap64 (A+1),vQ,H',⟨mA O⟩,dQ⟩)
   . obtain ⟨Z,H⟩:=iF c3 H;obtain rfl:=sI H;go_wp2;go_ret;exact ⟨vQ,dQ⟩
mutual
def BH.l0:Nat->List Ai->List (List Int)->Int->Option Bool
 | 0,_,_,_=>none
 | k+1,x0,x1,x5=>if x5<(x1.length:Int) then (if 0<=x5 then ((AK.f k x0 (At x1 x5)).bind fun A=>(if A=true then (BH.l0 k x0 x1 (wrap64 (x5+1))) else (some false))) else none) else (BH.l1 k x0 x1 0)
def BH.l1:Nat->List Ai->List (List Int)->Int->Option Bool
 | 0,_,_,_=>none
 | k+1,x0,x1,x6=>if x6<(x0.length:Int) then (BH.l2 k x0 x1 x6 false 0) else ((BZ.f k x0).bind fun B=>(some B))
def BH.l2:Nat->List Ai->List (List Int)->Int->Bool->Int->Option Bool
 | 0,_,_,_,_,_=>none
 | k+1,x0,x1,x6,x7,x8=>if x8<(x1.length:Int) then (if x7=true then (BH.l2 k x0 x1 x6 true (wrap64 (x8+1))) else (if 0<=x8 then (if 0<=x6 then (if x6<(x0.length:Int) then ((CD.f k (At x1 x8) ((AA x0 x6).f0)).bind fun D=>(BH.l2 k x0 x1 x6 D (wrap64 (x8+1)))) else none) else none) else none)) else (if x7=true then (BH.l1 k x0 x1 (wrap64 (x6+1))) else (some false))
end
def BH.f (k:Nat) (l0:List Ai) (l1:List (List Int)):Option Bool:=BH.l0 k l0 l1 0
theorem BH.Q3:Br (C9 .any (opsOf f165 13)).2 [0,1,3,3,15,31,3,3,195,451,963,2047,4095,8191]=true:=by kernel_rfl
theorem BH.c (k:Nat) (A0:Option Addr) (c0:Nat) (l0:List Ai) (A1:Option Addr) (c1:Nat) (l1:List (List Int)) (r:Bool) (w:World) (cC:Kd.C D0 w A0 l0.length l0) (hc0:l0.length<=c0) (hr1:Kd.C (Kd.slice 3 kI) w A1 l1.length l1) (bW:l1.length<=c1) (h:BH.f k l0 l1=some r) :
 Calls prog 165 #[.slice A0 l0.length c0,.slice A1 l1.length c1] w fun e w'=>e=.returned (.bool r)/\Below w.heap.size w w':=by
 have bA:=aK cC;have bO:=aK hc0;clear hc0;have bP:=aK hr1;have cG:=aK bW;clear bW;have HB:=bR w;have H:=h;unfold BH.f at H;have H':=aK H;go_enter func165,ntmps165;go_wp2;(go_loopg [5] k (fun kq v5 w'=>∃ (G:Int),v5=.int .i64 G/\AD (BH.l0 kq l0 l1 G=some r)/\AD (kq<=k)/\AD (Below w.heap.size w w')));(case atStart=>exact ⟨0,vQ,H',⟨Nat.le_refl _⟩,⟨bQ⟩⟩)
 case round =>
  obtain ⟨G,rfl,HA,aJ,HB⟩:=hrel
  cases gk with
  | zero=>exact nS HA
  | succ k1 =>
   have H:=HA.o;simp only [BH.l0] at H;(by_cases c3:G<(l1.length:Int))
   .
    obtain ⟨bF,H⟩:=iT c3 H;obtain ⟨cB,H⟩:=nQ H;obtain ⟨aX,A5,bZ⟩:=sK H;have aP:0<=(G:Int):=oD;have aR:G<(l1.length:Int):=oD;obtain ⟨bS,aZ,bH,bJ,T,aD,aA⟩:=GM bP.o G aP aR;cases bJ;replace T:=cQ HB T;have Z:=aK aA;have X:=aK aD;replace aP:=eq_true aP;replace aR:=eq_true aR;(go_upto_if 21 with (refine gC 77 rfl ?_;refine aB 20 func77 (AK.c k1 _ _ l0 _ _ (At l1 G) aX _ (cA bA) bO.o (cA Z) X.o A5.o) fun w7 hb=>?_;replace HB:=uH hb));(try simp only [Act.put,lQ,lZ,lS]);have H:=bZ.o;(rcases eB aX with c8|c8);(· subst c8;replace H:=tT H;have H':=aK H;go_wp2;(go_roundg k1);(case measure=>have:=aJ.o;omega);(case rel=>exact ⟨wrap64 (G+1),vQ,H',⟨mA aJ⟩,⟨bQ⟩⟩));(· subst c8;replace H:=tF H;obtain rfl:=sI H;go_wp2;go_ret;exact ⟨eQ,bQ⟩)
   .
    obtain ⟨bF,H⟩:=iF c3 H;have H':=aK H;go_wp2;(go_loopg [6] k1 (fun kq v6 w'=>∃ (A:Int),v6=.int .i64 A/\AD (BH.l1 kq l0 l1 A=some r)/\AD (kq<=k1)/\AD (Below w.heap.size w w')));(case atStart=>exact ⟨0,vQ,H',⟨Nat.le_refl _⟩,⟨bQ⟩⟩)
    case round =>
     obtain ⟨A,rfl,HA,aT,HB⟩:=hrel
     cases gk with
     | zero=>exact nS HA
     | succ k2 =>
      have H:=HA.o;simp only [BH.l1] at H;(by_cases c9:A<(l0.length:Int))
      .
       obtain ⟨bI,H⟩:=iT c9 H;have H':=aK H;go_wp2;(go_loopg [7,8] k2 (fun kq v7 v8 w'=>∃ (U:Bool) (B:Int),v7=.bool U/\v8=.int .i64 B/\AD (BH.l2 kq l0 l1 A U B=some r)/\AD (kq<=k2)/\AD (Below w.heap.size w w')));(case atStart=>exact ⟨false,0,vQ,vQ,H',⟨Nat.le_refl _⟩,⟨bQ⟩⟩)
       case round =>
        obtain ⟨U,B,rfl,rfl,HA,aU,HB⟩:=hrel
        cases gk with
        | zero=>exact nS HA
        | succ k3 =>
         have H:=HA.o;simp only [BH.l2] at H;(by_cases Gt:B<(l1.length:Int))
         .
          obtain ⟨aW,H⟩:=iT Gt H;(rcases eB U with bC|bC)
          . subst bC;replace H:=tT H;have H':=aK H;(try go_wp2);replace HB:=dB HB;refine sU 14 (fun w'=>True) rfl BH.Q3 trivial (fun hHeld HT_ HW_=>?_);generalize wr.drew=cH at HB hHeld |-;refine pU 0 ?_;refine pU 1 ?_;refine wU 2 ?_;refine wU 3 ?_;refine wU 4 ?_;refine wU 5 ?_;refine wU 6 ?_;refine wU 7 ?_;refine wU 8 ?_;refine wU 9 ?_;refine wU 10 ?_;refine wU 11 ?_;refine pU 12 ?_;refine pU 13 ?_;refine CY (BY HT_.o kF) ?_;(try go_wp2);(go_roundg k3);(case measure=>have:=aJ.o;have:=aT.o;have:=aU.o;omega);(case rel=>exact ⟨true,wrap64 (B+1),vQ,vQ,H',⟨by have:=aJ.o;have:=aT.o;have:=aU.o;omega⟩,⟨bQ⟩⟩)
          .
           subst bC;replace H:=tF H;obtain ⟨bT,H⟩:=nQ H;obtain ⟨bU,H⟩:=nQ H;obtain ⟨bV,H⟩:=nQ H;obtain ⟨aY,bX,H⟩:=sQ H;have H':=aK H;(try go_wp2);replace HB:=dB HB;have aQ:0<=(B:Int):=oD;have aS:B<(l1.length:Int):=oD;obtain ⟨aV,aM,aN,bK,D,aE,aC⟩:=GM bP.o B aQ aS;have J:=D;cases bK;replace D:=cQ HB D;have I:=aK aC;have Y:=aK aE;replace aQ:=eq_true aQ;replace aS:=eq_true aS;obtain ⟨E,bL,cD,cF,L,M,O,P,aF,aG,aH,aI⟩:=Kx bA HB A;cases bL;refine sU 14 (fun w'=>w'.cell? (aV.add (B).toNat)=some (.slice aM (At l1 B).length aN)/\w'.cell? (E.add ((A).toNat*4))=some (.int .i64 ((AA l0 A).f0))/\w'.cell? ⟨(E.add ((A).toNat*4)).block,(E.add ((A).toNat*4)).off+1,none⟩=some (.int .i64 ((AA l0 A).f1))/\w'.cell? ⟨(E.add ((A).toNat*4)).block,(E.add ((A).toNat*4)).off+2,none⟩=some (.int .i64 ((AA l0 A).f2))/\w'.cell? ⟨(E.add ((A).toNat*4)).block,(E.add ((A).toNat*4)).off+3,none⟩=some (.int .i64 ((AA l0 A).f3))) rfl BH.Q3 ⟨cQ HB J,cQ HB L,cQ HB M,cQ HB O,cQ HB P⟩ (fun hHeld HT_ HW_=>?_);generalize wr.drew=cI at HB I D aF aG aH aI hHeld |-;refine pU 0 ?_;refine pU 1 ?_;refine pU 2 ?_;refine pU 3 ?_;refine pU 4 ?_;refine pU 6 ?_;refine pU 7 ?_;refine pU 8 ?_;refine pU 9 ?_;refine kU 5 ?_;refine kU 10 ?_;refine jU 11 (fun K hK=>?_);refine aO func81 (CD.c k3 _ _ (At l1 B) ((AA l0 A).f0) aY _ (cA I) Y.o bX.o) ?_;rintro e w' ⟨rfl,⟨nd,rfl⟩⟩;refine ⟨_,rfl,?_⟩;refine oK hK ⟨cQ HB J,cQ HB L,cQ HB M,cQ HB O,cQ HB P⟩ (fun hHeld=>?_);clear hK K
           refine pU 12 ?_;refine pU 13 ?_;refine CY (BY HT_.o kF) ?_;(try go_wp2);(go_roundg k3);(case measure=>have:=aJ.o;have:=aT.o;have:=aU.o;omega);(case rel=>exact ⟨aY,wrap64 (B+1),vQ,vQ,H',⟨by have:=aJ.o;have:=aT.o;have:=aU.o;omega⟩,⟨bQ⟩⟩)
         .
          obtain ⟨aW,H⟩:=iF Gt H;(rcases eB U with bD|bD);(· subst bD;replace H:=tT H;have H':=aK H;go_wp2;(go_roundg k3);(case measure=>have:=aJ.o;have:=aT.o;have:=aU.o;omega);(case rel=>exact ⟨wrap64 (A+1),vQ,H',⟨by have:=aJ.o;have:=aT.o;have:=aU.o;omega⟩,⟨bQ⟩⟩));(· subst bD;replace H:=tF H;obtain rfl:=sI H;go_wp2;go_ret;exact ⟨eQ,bQ⟩)
      . obtain ⟨bI,H⟩:=iF c9 H;obtain ⟨bM,bY,H⟩:=sQ H;obtain rfl:=sI H;(go_wp2_with (refine gC 80 rfl ?_;refine aB 50 func80 (BZ.c k2 _ _ l0 bM _ (cA bA) bO.o bY.o) fun cJ hb=>?_;replace HB:=uH hb));go_ret;exact ⟨eQ,bQ⟩
def C0.l0:Nat->List Ag->List (List Int)->Int->Option ((List (List Int)))
 | 0,_,_,_=>none
 | k+1,x0,x3,x4=>if x4<(x0.length:Int) then (if 0<=x4 then (if x3.length<5864062014805 then (C0.l0 k x0 (x3++[(AE x0 x4).f0]) (wrap64 (x4+1))) else none) else none) else (some x3)
def C0.f (k:Nat) (l0:List Ag):Option ((List (List Int))):=C0.l0 k l0 (([]:List (List Int))) 0
theorem C0.c (k:Nat) (I:Nat->Prop) (A0:Option Addr) (c0:Nat) (l0:List Ag) (r:List (List Int)) (w:World) (hs0:Kd.V Cu 130 w w.heap.size (fun k_=>I k_) (.slice A0 l0.length c0) l0) (h:C0.f k l0=some r) :
 Calls prog 166 #[.slice A0 l0.length c0] w fun e w'=>∃ bF:Value,e=.returned (bF)/\Kd.N (Kd.slice 3 kI) 23 w' w.heap.size (fun k_=>(I k_\/w.heap.size<=k_)) bF r/\Below w.heap.size w w':=by
 have aR:=aK (show Kd.V Cu 130 w w.heap.size (fun k_=>(I k_\/w.heap.size<=k_)) (.slice A0 l0.length c0) l0 from Aq hs0 (fun k_ hk=>.inl hk));have HB:=bR w;have H:=h;unfold C0.f at H;obtain ⟨aY,X⟩:=eY ((([]:List (List Int))):List (List Int));rw [<-X.o] at H;have H':=aK H;go_enter func166,ntmps166;(go_wp2_with (refine AL (N:=5) rfl ?_;refine Pp (Kd.slice 3 kI) _ 23 ?hg (N':=5) ?hd (xs:=([]:List (List Int))) (inner:=[]) (ok:=(fun k_=>(I k_\/w.heap.size<=k_))) (okp:=(fun k_=>(I k_\/w.heap.size<=k_))) ?hr ?hp (fun _ hk=>hk) ((show ∀ k_,w.heap.size<=k_->(fun k_=>(I k_\/w.heap.size<=k_)) k_ from fun k_ hk=>(.inr (Nat.le_trans (AF bQ) hk))) _ (Nat.le_refl _)) (Below.refl _ _) (Nat.le_refl _) sM ?_;(case hd=>rfl);(case hg=>rfl);(case hr=>first|(go_simp;done)|(go_simp;rfl));(case hp=>exact (Bt.none _ _));intro bM w2 aX hb hg_ hnew_;clear hg_ hnew_;rw [<-X.o] at aX;have aG:=aK (DS aX (AF bQ));replace aR:=aK (Db (rV aR) (Gq aX) hb);replace HB:=uH hb;clear hb));(go_loopg [3,4] k (fun kq v3 v4 w'=>∃ (L:List (List Int)) (B:Int),v4=.int .i64 B/\AD (C0.l0 kq l0 L B=some r)/\AD (kq<=k)/\AD (Kd.V Cu 130 w' w.heap.size (fun k_=>(I k_\/w.heap.size<=k_)/\some k_≠(v3:Value).ownBlock) (.slice A0 l0.length c0) l0)/\AD (Kd.N (Kd.slice 3 kI) 23 w' w.heap.size (fun k_=>(I k_\/w.heap.size<=k_)) v3 L)/\AD (Below w.heap.size w w')));(case atStart=>exact ⟨aY,0,vQ,H',⟨Nat.le_refl _⟩,⟨rV aR⟩,⟨rN aG⟩,⟨bQ⟩⟩)
 case round =>
  obtain ⟨L,B,rfl,HA,bA,G,aA,HB⟩:=hrel
  cases gk with
  | zero=>exact nS HA
  | succ k1 =>
   have H:=HA.o;simp only [C0.l0] at H;(by_cases c4:B<(l0.length:Int))
   . obtain ⟨aU,H⟩:=iT c4 H;obtain ⟨bH,H⟩:=nQ H;obtain ⟨c6,H⟩:=nP H;have aT:=aK c6;obtain ⟨aZ,Y⟩:=eY ((L++[(AE l0 B).f0]):List (List Int));rw [<-Y.o] at H;have H':=aK H;have T:0<=(B:Int):=oD;have U:B<(l0.length:Int):=oD;obtain ⟨bC,Z,aC,aV,P,aM,O,M⟩:=Cs (BJ G.o).2.2 B T U;cases aV;obtain ⟨bD,aW,aD,aE⟩:=OY G.o JS B T (by first|exact U|exact oD|(have e_:=(BJ G.o).1;omega));obtain ⟨aN,aQ,rfl,E,J⟩:=DR aD;have D:=aE 0 _ rfl;rw [Nat.add_zero] at D;replace D:=Option.some.inj (D.symm.trans P);injection D with hva_ hvn_ hvc_;rw [hva_] at J;rw [hvc_] at E;have A:=aK (show Kd.V kI 3 _ w.heap.size _ _ ((AE l0 B).f0) from Fz E J);clear hva_ hvn_ hvc_ E;have aJ:=aK M;have aI:=aK O;replace T:=eq_true T;replace U:=eq_true U;(go_wp2_with (refine BT (b:=.append) (xs:=#[.tmp 12,.tmp 18]) rfl ?_;at_builtin;refine OT (Kd.slice 3 kI) (w0:=w) w.heap.size rfl (.tmp 12) (.tmp 18) 32 23 (.slice none 0 0) 24 rfl underlying32 It rfl dC oM u3 L ((AE l0 B).f0) [.slice Z ((AE l0 B).f0).length aC] (fun k_=>(I k_\/w.heap.size<=k_)) (fun k_=>((fun k_=>(I k_\/w.heap.size<=k_))) k_/\some k_≠(u3:Value).ownBlock) rfl rfl ?aP (fun _ hk=>hk) ?aF ?aO ?aB ?aS ?aL ?_;(case aP=>exact (Li (BJ (Aq (ok':=(fun k_=>((fun k_=>(I k_\/w.heap.size<=k_))) k_/\some k_≠(u3:Value).ownBlock)) (A.o) (fun k_ hk=>⟨hk.1,hk.2⟩))).2.1 (So (Aq (ok':=(fun k_=>((fun k_=>(I k_\/w.heap.size<=k_))) k_/\some k_≠(u3:Value).ownBlock)) (A.o) (fun k_ hk=>⟨hk.1,hk.2⟩)))));(case aB=>exact bQ);(case aF=>exact (fun k_ hk=>(.inr (Nat.le_trans (AF bQ) hk))));(case aO=>exact (rN aA));(case aS=>exact (AF bQ));(case aL=>have:=aT.o;omega);intro bO w7 ho hb hg hat;rw [<-Y.o] at ho;have bI:=aK (EV (ok:=(fun k_=>(I k_\/w.heap.size<=k_))) (rV G) hg hat);have bJ:=aK (EV (ok:=(fun k_=>(I k_\/w.heap.size<=k_))) (rV A) hg hat);have bK:=aK (hb);have bL:=aK (ho);clear G;clear A;clear HB;clear aA;have G:=bI;have A:=bJ;have HB:=bK;have aH:=bL;clear hb hg hat));(go_roundg k1);(case measure=>have:=bA.o;omega);(case rel=>exact ⟨aZ,wrap64 (B+1),vQ,H',⟨mA bA⟩,⟨rV G⟩,⟨rN aH⟩,⟨bQ⟩⟩)
   . obtain ⟨aU,H⟩:=iF c4 H;obtain rfl:=sI H;go_wp2;go_ret;exact ⟨_,eQ,rN aA,bQ⟩
def B0.l0:Nat->List Ai->List Ag->Int->Option Bool
 | 0,_,_,_=>none
 | k+1,x0,x1,x5=>if x5<(x1.length:Int) then (if 0<=x5 then (if (((AE x1 x5).f0).length:Int)=0 then (some false) else ((AK.f k x0 ((AE x1 x5).f0)).bind fun D=>(if D=true then ((BW.f k x0 ((AE x1 x5).f0)).bind fun E=>((BU.f ((AE x1 x5).f1) E 60).bind fun G=>(if G=true then (B0.l0 k x0 x1 (wrap64 (x5+1))) else (some false)))) else (some false)))) else none) else ((C0.f k x1).bind fun A=>((BH.f k x0 A).bind fun B=>(some B)))
def B0.f (k:Nat) (l0:List Ai) (l1:List Ag):Option Bool:=(BU.f (l1.length:Int) 1 6).bind fun A=>(if A=true then (B0.l0 k l0 l1 0) else (some false))
theorem B0.FC:Br (C9 .any (opsOf f146 6)).2 [0,0,3,7,15,31,63,127,255,255,255,1791,3839,7935,16383,32767,65535,131071,262143,262143,1048575,2097151,4194303,262143,262143,262143,50593791,117702655,251920383,528744447,1073741823,2147483647,4294967295]=true:=by kernel_rfl
theorem B0.c (k:Nat) (A0:Option Addr) (c0:Nat) (l0:List Ai) (A1:Option Addr) (c1:Nat) (l1:List Ag) (r:Bool) (w:World) (dJ:Kd.C D0 w A0 l0.length l0) (hc0:l0.length<=c0) (hr1:Kd.C Cu w A1 l1.length l1) (cV:l1.length<=c1) (h:B0.f k l0 l1=some r) :
 Calls prog 146 #[.slice A0 l0.length c0,.slice A1 l1.length c1] w fun e w'=>e=.returned (.bool r)/\Below w.heap.size w w':=by
 have cC:=aK dJ;have bZ:=aK hc0;clear hc0;have bI:=aK hr1;have dD:=aK cV;clear cV;have HB:=bR w;have H:=h;unfold B0.f at H;obtain ⟨bV,A3,dE⟩:=sK H;go_enter func146,ntmps146;(go_upto_if 9 with (refine gC 39 rfl ?_;refine aL 8 func39 (BU.c (l1.length:Int) 1 6 bV _ A3.o) ?_;rintro e w' ⟨rfl,⟨nd,rfl⟩⟩;refine ⟨_,rfl,?_⟩));(try simp only [Act.put,lQ,lZ,lS]);have H:=dE.o;(rcases eB bV with c5|c5)
 .
  subst c5;replace H:=tT H;have H':=aK H;go_wp2;(go_loopg [5] k (fun kq v5 w'=>∃ (A:Int),v5=.int .i64 A/\AD (B0.l0 kq l0 l1 A=some r)/\AD (kq<=k)/\AD (Below w.heap.size w w')));(case atStart=>exact ⟨0,vQ,H',⟨Nat.le_refl _⟩,⟨bQ⟩⟩)
  case round =>
   obtain ⟨A,rfl,HA,cU,HB⟩:=hrel
   cases gk with
   | zero=>exact nS HA
   | succ k1 =>
    have H:=HA.o;simp only [B0.l0] at H;(by_cases c6:A<(l1.length:Int))
    .
     obtain ⟨aX,H⟩:=iT c6 H;(try first|rw [aX]|(simp only [Ae,Aj];rw [aX]));obtain ⟨dF,H⟩:=nQ H;(by_cases c8:(((AE l1 A).f0).length:Int)=0)
     . obtain ⟨cL,cM,H⟩:=iE c8 H;obtain rfl:=sI H;(try go_wp2);replace HB:=dB HB;have aJ:0<=(A:Int):=oD;have aM:A<(l1.length:Int):=oD;obtain ⟨D,M,O,aY,B,E,aA,Z⟩:=Cs bI.o A aJ aM;have J:=E;have I:=B;cases aY;replace B:=cQ HB B;replace E:=cQ HB E;have X:=aK Z;have aU:=aK aA;replace aJ:=eq_true aJ;replace aM:=eq_true aM;refine sU 33 (fun w'=>w'.cell? (D.add ((A).toNat*2))=some (.slice M ((AE l1 A).f0).length O)/\w'.cell? ⟨(D.add ((A).toNat*2)).block,(D.add ((A).toNat*2)).off+1,none⟩=some (.int .i64 ((AE l1 A).f1))) rfl B0.FC ⟨cQ HB I,cQ HB J⟩ (fun hHeld HT_ HW_=>?_);generalize wr.drew=w9 at HB X B E hHeld |-;refine pU 0 ?_;refine pU 1 ?_;refine pU 2 ?_;refine pU 3 ?_;refine kU 4 ?_;refine pU 5 ?_;refine pU 6 ?_;refine pU 7 ?_;refine wU 8 ?_;refine wU 9 ?_;refine wU 10 ?_;refine wU 11 ?_;refine wU 12 ?_;refine wU 13 ?_;refine wU 14 ?_;refine wU 15 ?_;refine pU 16 ?_;refine pU 17 ?_;refine wU 18 ?_;refine wU 19 ?_;refine wU 20 ?_;refine wU 21 ?_;refine wU 22 ?_;refine wU 23 ?_;refine wU 24 ?_;refine wU 25 ?_;refine wU 26 ?_;refine wU 27 ?_;refine wU 28 ?_;refine wU 29 ?_;refine wU 30 ?_;refine wU 31 ?_;refine pU 32 ?_;refine CY (BY HT_.o kF) ?_;(try go_wp2);go_ret;exact ⟨eQ,bQ⟩
     .
      obtain ⟨cL,cM,H⟩:=iN c8 H;(have dG:¬ (((AE l1 A).f0)=[]):=fun h_=>c8 (by rw [h_];rfl));obtain ⟨cS,cT,H⟩:=sQ H;(rcases eB cS with cH|cH)
      .
       subst cH;replace H:=tT H;obtain ⟨bX,cW,H⟩:=sQ H;obtain ⟨bY,cX,cG⟩:=sK H;(try go_wp2);replace HB:=dB HB;have aJ:0<=(A:Int):=oD;have aM:A<(l1.length:Int):=oD;obtain ⟨D,M,O,aY,B,E,aA,Z⟩:=Cs bI.o A aJ aM;have J:=E;have I:=B;cases aY;replace B:=cQ HB B;replace E:=cQ HB E;have X:=aK Z;have aU:=aK aA;replace aJ:=eq_true aJ;replace aM:=eq_true aM;have aS:0<=(A:Int):=oD;have aT:A<(l1.length:Int):=oD;obtain ⟨aW,bJ,bK,bL,G,L,aQ,aP⟩:=Cs bI.o A aS aT;have T:=L;have P:=G;obtain rfl:D=aW:=(by injection bL);replace G:=cQ HB G;replace L:=cQ HB L;have Y:=aK aP;have aN:=aK aQ;replace aS:=eq_true aS;replace aT:=eq_true aT;have ea_:=Option.some.inj (B.symm.trans G);injection ea_ with ea_ en_ ec_;subst ea_;subst ec_;clear en_;have bM:0<=(A:Int):=oD;have bP:A<(l1.length:Int):=oD;obtain ⟨bT,cD,cJ,cO,U,aH,bF,bC⟩:=Cs bI.o A bM bP;have aE:=aH;have aD:=U;obtain rfl:D=bT:=(by injection cO);replace U:=cQ HB U;replace aH:=cQ HB aH;have bA:=aK bC;have cB:=aK bF;replace bM:=eq_true bM;replace bP:=eq_true bP;have bO:0<=(A:Int):=oD;have bS:A<(l1.length:Int):=oD;obtain ⟨bU,cF,cK,cP,aC,aI,bH,bD⟩:=Cs bI.o A bO bS;have aG:=aI;have aF:=aC;obtain rfl:D=bU:=(by injection cP);replace aC:=cQ HB aC;replace aI:=cQ HB aI;have aV:=aK bD;have aZ:=aK bH;replace bO:=eq_true bO;replace bS:=eq_true bS;have ea_:=Option.some.inj (U.symm.trans aC);injection ea_ with ea_ en_ ec_;subst ea_;subst ec_;clear en_;have ea_:=Option.some.inj (B.symm.trans U);injection ea_ with ea_ en_ ec_;subst ea_;subst ec_;clear en_;refine sU 33 (fun w'=>w'.cell? (D.add ((A).toNat*2))=some (.slice M ((AE l1 A).f0).length O)/\w'.cell? ⟨(D.add ((A).toNat*2)).block,(D.add ((A).toNat*2)).off+1,none⟩=some (.int .i64 ((AE l1 A).f1))/\w'.cell? (D.add ((A).toNat*2))=some (.slice M ((AE l1 A).f0).length O)/\w'.cell? ⟨(D.add ((A).toNat*2)).block,(D.add ((A).toNat*2)).off+1,none⟩=some (.int .i64 ((AE l1 A).f1))/\w'.cell? (D.add ((A).toNat*2))=some (.slice M ((AE l1 A).f0).length O)/\w'.cell? ⟨(D.add ((A).toNat*2)).block,(D.add ((A).toNat*2)).off+1,none⟩=some (.int .i64 ((AE l1 A).f1))/\w'.cell? (D.add ((A).toNat*2))=some (.slice M ((AE l1 A).f0).length O)/\w'.cell? ⟨(D.add ((A).toNat*2)).block,(D.add ((A).toNat*2)).off+1,none⟩=some (.int .i64 ((AE l1 A).f1))) rfl B0.FC ⟨cQ HB I,cQ HB J,cQ HB P,cQ HB T,cQ HB aD,cQ HB aE,cQ HB aF,cQ HB aG⟩ (fun hHeld HT_ HW_=>?_)
       generalize wr.drew=dM at HB X Y bA aV B E G L U aH aC aI hHeld |-;refine pU 0 ?_;refine pU 1 ?_;refine pU 2 ?_;refine pU 3 ?_;refine kU 4 ?_;refine pU 5 ?_;refine pU 6 ?_;refine pU 7 ?_;refine pU 8 ?_;refine pU 9 ?_;refine pU 10 ?_;refine pU 11 ?_;refine pU 12 ?_;refine kU 13 ?_;refine jU 14 (fun K hK=>?_);refine aO func77 (AK.c k1 _ _ l0 _ _ ((AE l1 A).f0) true _ (cA cC) bZ.o (cA Y) aN.o cT.o) ?_;rintro e dN ⟨rfl,hb⟩;refine ⟨_,rfl,?_⟩;replace HB:=uH hb;(skip);(skip);(skip);refine oK hK ⟨cQ HB I,cQ HB J,cQ HB P,cQ HB T,cQ HB aD,cQ HB aE,cQ HB aF,cQ HB aG⟩ (fun hHeld=>?_);clear hK K;refine pU 15 ?_;refine pU 16 ?_;refine pU 17 ?_;refine pU 18 ?_;refine pU 19 ?_;refine pU 20 ?_;refine pU 21 ?_;refine pU 23 ?_;refine pU 24 ?_;refine pU 25 ?_;refine pU 26 ?_;refine pU 27 ?_;refine kU 22 ?_;refine kU 28 ?_;refine jU 29 (fun K hK=>?_);refine aO func145 (BW.c k1 _ _ l0 _ _ ((AE l1 A).f0) bX _ (cA cC) bZ.o (cA aV) aZ.o cW.o) ?_;rintro e w' ⟨rfl,⟨nd,rfl⟩⟩;refine ⟨_,rfl,?_⟩;refine oK hK ⟨cQ HB I,cQ HB J,cQ HB P,cQ HB T,cQ HB aD,cQ HB aE,cQ HB aF,cQ HB aG⟩ (fun hHeld=>?_);clear hK K;refine jU 30 (fun K hK=>?_);refine aO func39 (BU.c ((AE l1 A).f1) bX 60 bY _ cX.o) ?_;rintro e w' ⟨rfl,⟨nd,rfl⟩⟩;refine ⟨_,rfl,?_⟩;refine oK hK ⟨cQ HB I,cQ HB J,cQ HB P,cQ HB T,cQ HB aD,cQ HB aE,cQ HB aF,cQ HB aG⟩ (fun hHeld=>?_);clear hK K;refine pU 31 ?_;refine pU 32 ?_;refine CY (BY HT_.o kF) ?_;(go_upto_if 48 with (fail));have H:=cG.o;(rcases eB bY with cI|cI);(· subst cI;replace H:=tT H;have H':=aK H;go_wp2;(go_roundg k1);(case measure=>have:=cU.o;omega);(case rel=>exact ⟨wrap64 (A+1),vQ,H',⟨mA cU⟩,⟨bQ⟩⟩));(· subst cI;replace H:=tF H;obtain rfl:=sI H;go_wp2;go_ret;exact ⟨eQ,bQ⟩)
      .
       subst cH;replace H:=tF H;obtain rfl:=sI H;(try go_wp2);replace HB:=dB HB;have aJ:0<=(A:Int):=oD;have aM:A<(l1.length:Int):=oD;obtain ⟨D,M,O,aY,B,E,aA,Z⟩:=Cs bI.o A aJ aM;have J:=E;have I:=B;cases aY;replace B:=cQ HB B;replace E:=cQ HB E;have X:=aK Z;have aU:=aK aA;replace aJ:=eq_true aJ;replace aM:=eq_true aM;have aS:0<=(A:Int):=oD;have aT:A<(l1.length:Int):=oD;obtain ⟨aW,bJ,bK,bL,G,L,aQ,aP⟩:=Cs bI.o A aS aT;have T:=L;have P:=G;obtain rfl:D=aW:=(by injection bL);replace G:=cQ HB G;replace L:=cQ HB L;have Y:=aK aP;have aN:=aK aQ;replace aS:=eq_true aS;replace aT:=eq_true aT;have ea_:=Option.some.inj (B.symm.trans G);injection ea_ with ea_ en_ ec_;subst ea_;subst ec_;clear en_;refine sU 33 (fun w'=>w'.cell? (D.add ((A).toNat*2))=some (.slice M ((AE l1 A).f0).length O)/\w'.cell? ⟨(D.add ((A).toNat*2)).block,(D.add ((A).toNat*2)).off+1,none⟩=some (.int .i64 ((AE l1 A).f1))/\w'.cell? (D.add ((A).toNat*2))=some (.slice M ((AE l1 A).f0).length O)/\w'.cell? ⟨(D.add ((A).toNat*2)).block,(D.add ((A).toNat*2)).off+1,none⟩=some (.int .i64 ((AE l1 A).f1))) rfl B0.FC ⟨cQ HB I,cQ HB J,cQ HB P,cQ HB T⟩ (fun hHeld HT_ HW_=>?_);generalize wr.drew=dO at HB X Y B E G L hHeld |-;refine pU 0 ?_;refine pU 1 ?_;refine pU 2 ?_;refine pU 3 ?_;refine kU 4 ?_;refine pU 5 ?_;refine pU 6 ?_;refine pU 7 ?_;refine pU 8 ?_;refine pU 9 ?_;refine pU 10 ?_;refine pU 11 ?_;refine pU 12 ?_;refine kU 13 ?_;refine jU 14 (fun K hK=>?_);refine aO func77 (AK.c k1 _ _ l0 _ _ ((AE l1 A).f0) false _ (cA cC) bZ.o (cA Y) aN.o cT.o) ?_;rintro e dP ⟨rfl,hb⟩;refine ⟨_,rfl,?_⟩;replace HB:=uH hb;(skip);(skip);(skip);refine oK hK ⟨cQ HB I,cQ HB J,cQ HB P,cQ HB T⟩ (fun hHeld=>?_);clear hK K;refine pU 15 ?_;refine pU 16 ?_;refine pU 17 ?_;refine wU 18 ?_;refine wU 19 ?_;refine wU 20 ?_;refine wU 21 ?_;refine wU 22 ?_;refine wU 23 ?_;refine wU 24 ?_;refine wU 25 ?_;refine wU 26 ?_;refine wU 27 ?_;refine wU 28 ?_;refine wU 29 ?_;refine wU 30 ?_;refine wU 31 ?_;refine pU 32 ?_;refine CY (BY HT_.o kF) ?_;(try go_wp2);go_ret;exact ⟨eQ,bQ⟩
    . obtain ⟨aX,H⟩:=iF c6 H;(try first|rw [aX]|(simp only [Ae,Aj];rw [aX]));obtain ⟨bW,cY,H⟩:=sQ H;obtain ⟨cR,cZ,H⟩:=sQ H;obtain rfl:=sI H;(go_wp2_with (first|(refine gC 166 rfl ?_;refine aL 51 func166 (C0.c k1 (fun k_=>k_<w.heap.size) _ _ l1 bW _ (Fz dD.o (Du (N3 DM bI.o) bQ)) cY.o) ?_;rintro e dR ⟨dL,rfl,dI,hb⟩;refine ⟨_,rfl,?_⟩;have aR:=aK (DS (Be (ok':=fun k_=>True) dI (fun k_ hk_=>trivial)) (AF bQ));replace HB:=uH hb;obtain ⟨dA,dH,rfl⟩:=DK aR.o)|(refine gC 165 rfl ?_;refine aB 52 func165 (BH.c k1 _ _ l0 _ _ bW cR _ (cA cC) bZ.o (sC ((BP aR.o).2.2)) ((BP aR.o).2.1) cZ.o) fun dS hb=>?_;replace aR:=uN aR hb;replace HB:=uH hb)));go_ret;exact ⟨eQ,bQ⟩
 . subst c5;replace H:=tF H;obtain rfl:=sI H;go_wp2;go_ret;exact ⟨eQ,bQ⟩
end Go.Proofs.YtdahnapanpiooaaGreat.PHis
