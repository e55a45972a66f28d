/- Go functions that the statement reaches: each printed as a Lean function, with a proof that the Go function comes to its answer; conditions: the bounds that each states. -/
import Derived.Test.YtdahnapanpiooaaGreatProg
import Derived.Lib.SliceRun
import Derived.Below
import Derived.Deep.Draws
import Derived.Deep.AppendLies
import Derived.Maps.AppendAt
import Derived.OwnWalk
import Derived.Laws.BytesArg
import Derived.Laws.MakeOwn
import Derived.Laws.OwnMore
import Derived.Deep.OwnRows
import Derived.Tactics
import Derived.Lib.ConvBytes
import Derived.Laws.Slices
import Derived.WalkKit
import Derived.KernelRfl
import Derived.RowKit3
import Derived.Deep.LoopGhost
import Derived.Deep.QuietTactic
import Derived.BigQuiet
import Derived.WideLaws
import Derived.Deep.DeepCutAuto
import Derived.Deep.CutBlock
import Derived.Deep.RegionHeld3
import Derived.Laws.Rows
import Derived.Lib.AppendStr
import Derived.ArgAppend
import Derived.Laws.IdiomCopy
import Derived.OrdersHeld
import Derived.Laws.BitsLemmas
import Derived.RowKit
import Derived.Test.YtdahnapanpiooaaGreatWWords
import Derived.Test.YtdahnapanpiooaaGreatWLast
import Derived.Test.YtdahnapanpiooaaGreatWTab
import Derived.Test.YtdahnapanpiooaaGreatWFour
import Derived.Test.YtdahnapanpiooaaGreatWQPut
import Derived.Test.YtdahnapanpiooaaGreatWApart
import Derived.Test.YtdahnapanpiooaaGreatWArr
import Derived.Test.YtdahnapanpiooaaGreatWZeros
import Derived.Test.YtdahnapanpiooaaGreatWFoot
import Derived.Test.YtdahnapanpiooaaGreatWKept
import Derived.Test.YtdahnapanpiooaaGreatWShare
import Derived.Test.YtdahnapanpiooaaGreatWN
import Derived.Test.YtdahnapanpiooaaGreatWFootNe
import Derived.Test.YtdahnapanpiooaaGreatWAt
import Derived.Test.YtdahnapanpiooaaGreatWEqStruct
import Derived.Test.YtdahnapanpiooaaGreatWRepsOne
import Derived.Test.YtdahnapanpiooaaGreatWInv
import Derived.Test.YtdahnapanpiooaaGreatWInvWords
import Derived.Test.YtdahnapanpiooaaGreatWGuard
import Derived.Test.YtdahnapanpiooaaGreatWNEv
import Derived.Test.YtdahnapanpiooaaGreatWMore
namespace Go.Proofs.YtdahnapanpiooaaGreat.PAsz
open Go.RowKit Go.Proofs.YtdahnapanpiooaaGreatW.PrintWords Go.Proofs.YtdahnapanpiooaaGreatW.PrintLast Go.Proofs.YtdahnapanpiooaaGreatW.PrintMore
attribute [local go_sem] max2_int min2_int max_two min_two max_three min_three max_four min_four
set_option linter.unusedVariables false
set_option linter.unusedSimpArgs false
def errW:Option Int→Value
  | none=>.nilIface
  | some c=>.iface 0 (.int .i64 c)
theorem errW_none:errW none=.nilIface:=rfl
theorem errW_some (c:Int):errW (some c)=.iface 0 (.int .i64 c):=rfl
theorem info3:(Tryz.prog.info? 3).map (fun i=>(i.zero,i.size,i.bytes))=some (some (.int .i64 0),1,8):=by kernel_rfl
theorem info23:(Tryz.prog.info? 23).map (fun i=>(i.zero,i.size,i.bytes))=some (some (.slice none 0 0),1,24):=by kernel_rfl
theorem info73:(Tryz.prog.info? 73).map (fun i=>(i.zero,i.size,i.bytes))=some (some (.agg #[(.int .i64 0),(.int .i64 0)]),2,16):=by kernel_rfl
theorem info79:(Tryz.prog.info? 79).map (fun i=>(i.zero,i.size,i.bytes))=some (some (.agg #[(.int .i64 0),(.int .i64 0),(.int .i64 0),(.int .i64 0)]),4,32):=by kernel_rfl
theorem info84:(Tryz.prog.info? 84).map (fun i=>(i.zero,i.size,i.bytes))=some (some (.agg #[(.int .i64 0),(.int .i64 0)]),2,16):=by kernel_rfl
-- the values' own types
/-! #### struct type 81 -/
structure S81 where
  f0:Int
  f1:Int
  f2:Int
  f3:Int
def z81:S81:=⟨(0:Int),(0:Int),(0:Int),(0:Int)⟩
def k81:Kd S81:=Kd.iso (Kd.pair (Kd.int .i64) (Kd.pair (Kd.int .i64) (Kd.pair (Kd.int .i64) (Kd.int .i64)))) (fun x:S81=>(x.f0,x.f1,x.f2,x.f3))
theorem k81_open {w:World} {x:S81} {cs:List Value} (h:k81.K w x cs):cs=[.int .i64 x.f0,.int .i64 x.f1,.int .i64 x.f2,.int .i64 x.f3]:=by
  obtain ⟨_,_,rfl,rfl,⟨_,_,rfl,rfl,⟨_,_,rfl,rfl,rfl⟩⟩⟩:=h
  exact rfl
def rd_T81 (xs:List S81) (i:Int):S81:=xs.getD i.toNat z81
theorem at_T81 {w:World} {A:Option Addr} {n:Nat} {xs:List S81} (h:Kd.C k81 w A n xs) (i:Int) (h0:0≤i) (h1:i<n):∃ ad ,A=some ad∧w.cell? (ad.add (i.toNat*4))=some (.int .i64 (rd_T81 xs i).f0)∧w.cell? ⟨(ad.add (i.toNat*4)).block,(ad.add (i.toNat*4)).off+1,none⟩=some (.int .i64 (rd_T81 xs i).f1)∧w.cell? ⟨(ad.add (i.toNat*4)).block,(ad.add (i.toNat*4)).off+2,none⟩=some (.int .i64 (rd_T81 xs i).f2)∧w.cell? ⟨(ad.add (i.toNat*4)).block,(ad.add (i.toNat*4)).off+3,none⟩=some (.int .i64 (rd_T81 xs i).f3):=by
  obtain ⟨ad,c,e,_,hK,hc0⟩:=Kd.C_get h z81 i h0 h1
  have hc:∀ j u,c[j]?=some u→w.cell? (ad.add (i.toNat*4+j))=some u:=hc0
  obtain rfl:=k81_open hK
  exact ⟨ad,e,hc 0 _ rfl,by rw [←add_field _ _ 1 (by omega)];exact hc 1 _ rfl,by rw [←add_field _ _ 2 (by omega)];exact hc 2 _ rfl,by rw [←add_field _ _ 3 (by omega)];exact hc 3 _ rfl⟩
/-! #### struct type 86 -/
structure S86 where
  f0:Int
  f1:Int
def z86:S86:=⟨(0:Int),(0:Int)⟩
def k86:Kd S86:=Kd.iso (Kd.pair (Kd.int .i64) (Kd.int .i64)) (fun x:S86=>(x.f0,x.f1))
theorem k86_open {w:World} {x:S86} {cs:List Value} (h:k86.K w x cs):cs=[.int .i64 x.f0,.int .i64 x.f1]:=by
  obtain ⟨_,_,rfl,rfl,rfl⟩:=h
  exact rfl
def rd_T86 (xs:List S86) (i:Int):S86:=xs.getD i.toNat z86
theorem at_T86 {w:World} {A:Option Addr} {n:Nat} {xs:List S86} (h:Kd.C k86 w A n xs) (i:Int) (h0:0≤i) (h1:i<n):∃ ad ,A=some ad∧w.cell? (ad.add (i.toNat*2))=some (.int .i64 (rd_T86 xs i).f0)∧w.cell? ⟨(ad.add (i.toNat*2)).block,(ad.add (i.toNat*2)).off+1,none⟩=some (.int .i64 (rd_T86 xs i).f1):=by
  obtain ⟨ad,c,e,_,hK,hc0⟩:=Kd.C_get h z86 i h0 h1
  have hc:∀ j u,c[j]?=some u→w.cell? (ad.add (i.toNat*2+j))=some u:=hc0
  obtain rfl:=k86_open hK
  exact ⟨ad,e,hc 0 _ rfl,by rw [←add_field _ _ 1 (by omega)];exact hc 1 _ rfl⟩
/-! #### struct type 88 -/
structure S88 where
  f0:Int
  f1:Int
def z88:S88:=⟨(0:Int),(0:Int)⟩
def k88:Kd S88:=Kd.iso (Kd.pair (Kd.int .i64) (Kd.int .i64)) (fun x:S88=>(x.f0,x.f1))
theorem k88_open {w:World} {x:S88} {cs:List Value} (h:k88.K w x cs):cs=[.int .i64 x.f0,.int .i64 x.f1]:=by
  obtain ⟨_,_,rfl,rfl,rfl⟩:=h
  exact rfl
def rd_T88 (xs:List S88) (i:Int):S88:=xs.getD i.toNat z88
theorem at_T88 {w:World} {A:Option Addr} {n:Nat} {xs:List S88} (h:Kd.C k88 w A n xs) (i:Int) (h0:0≤i) (h1:i<n):∃ ad ,A=some ad∧w.cell? (ad.add (i.toNat*2))=some (.int .i64 (rd_T88 xs i).f0)∧w.cell? ⟨(ad.add (i.toNat*2)).block,(ad.add (i.toNat*2)).off+1,none⟩=some (.int .i64 (rd_T88 xs i).f1):=by
  obtain ⟨ad,c,e,_,hK,hc0⟩:=Kd.C_get h z88 i h0 h1
  have hc:∀ j u,c[j]?=some u→w.cell? (ad.add (i.toNat*2+j))=some u:=hc0
  obtain rfl:=k88_open hK
  exact ⟨ad,e,hc 0 _ rfl,by rw [←add_field _ _ 1 (by omega)];exact hc 1 _ rfl⟩
/-! #### struct type 79 -/
structure S79 where
  f0:Int
  f1:Int
  f2:Int
  f3:Int
def z79:S79:=⟨(0:Int),(0:Int),(0:Int),(0:Int)⟩
def k79:Kd S79:=Kd.iso (Kd.pair (Kd.int .i64) (Kd.pair (Kd.int .i64) (Kd.pair (Kd.int .i64) (Kd.int .i64)))) (fun x:S79=>(x.f0,x.f1,x.f2,x.f3))
theorem k79_open {w:World} {x:S79} {cs:List Value} (h:k79.K w x cs):cs=[.int .i64 x.f0,.int .i64 x.f1,.int .i64 x.f2,.int .i64 x.f3]:=by
  obtain ⟨_,_,rfl,rfl,⟨_,_,rfl,rfl,⟨_,_,rfl,rfl,rfl⟩⟩⟩:=h
  exact rfl
theorem k79_openM {w:World} {base:Nat} {ok:Nat→Prop} {x:S79} {cs:List Value} (h:k79.M w base ok x cs):cs=[.int .i64 x.f0,.int .i64 x.f1,.int .i64 x.f2,.int .i64 x.f3]:=by
  obtain ⟨_,_,rfl,rfl,⟨_,_,rfl,rfl,⟨_,_,rfl,rfl,rfl⟩⟩⟩:=h
  exact rfl
theorem k79_mkM (w:World) (base:Nat) (ok:Nat→Prop) (x:S79) :k79.M w base ok x [.int .i64 x.f0,.int .i64 x.f1,.int .i64 x.f2,.int .i64 x.f3]:=⟨[.int .i64 x.f0],[.int .i64 x.f1,.int .i64 x.f2,.int .i64 x.f3],rfl,rfl,⟨[.int .i64 x.f1],[.int .i64 x.f2,.int .i64 x.f3],rfl,rfl,⟨[.int .i64 x.f2],[.int .i64 x.f3],rfl,rfl,rfl⟩⟩⟩
def rd_T79 (xs:List S79) (i:Int):S79:=xs.getD i.toNat z79
theorem at_T79 {w:World} {A:Option Addr} {n:Nat} {xs:List S79} (h:Kd.C k79 w A n xs) (i:Int) (h0:0≤i) (h1:i<n):∃ ad ,A=some ad∧w.cell? (ad.add (i.toNat*4))=some (.int .i64 (rd_T79 xs i).f0)∧w.cell? ⟨(ad.add (i.toNat*4)).block,(ad.add (i.toNat*4)).off+1,none⟩=some (.int .i64 (rd_T79 xs i).f1)∧w.cell? ⟨(ad.add (i.toNat*4)).block,(ad.add (i.toNat*4)).off+2,none⟩=some (.int .i64 (rd_T79 xs i).f2)∧w.cell? ⟨(ad.add (i.toNat*4)).block,(ad.add (i.toNat*4)).off+3,none⟩=some (.int .i64 (rd_T79 xs i).f3):=by
  obtain ⟨ad,c,e,_,hK,hc0⟩:=Kd.C_get h z79 i h0 h1
  have hc:∀ j u,c[j]?=some u→w.cell? (ad.add (i.toNat*4+j))=some u:=hc0
  obtain rfl:=k79_open hK
  exact ⟨ad,e,hc 0 _ rfl,by rw [←add_field _ _ 1 (by omega)];exact hc 1 _ rfl,by rw [←add_field _ _ 2 (by omega)];exact hc 2 _ rfl,by rw [←add_field _ _ 3 (by omega)];exact hc 3 _ rfl⟩
/-! #### struct type 84 -/
structure S84 where
  f0:Int
  f1:Int
def z84:S84:=⟨(0:Int),(0:Int)⟩
def k84:Kd S84:=Kd.iso (Kd.pair (Kd.int .i64) (Kd.int .i64)) (fun x:S84=>(x.f0,x.f1))
theorem k84_open {w:World} {x:S84} {cs:List Value} (h:k84.K w x cs):cs=[.int .i64 x.f0,.int .i64 x.f1]:=by
  obtain ⟨_,_,rfl,rfl,rfl⟩:=h
  exact rfl
theorem k84_openM {w:World} {base:Nat} {ok:Nat→Prop} {x:S84} {cs:List Value} (h:k84.M w base ok x cs):cs=[.int .i64 x.f0,.int .i64 x.f1]:=by
  obtain ⟨_,_,rfl,rfl,rfl⟩:=h
  exact rfl
theorem k84_mkM (w:World) (base:Nat) (ok:Nat→Prop) (x:S84) :k84.M w base ok x [.int .i64 x.f0,.int .i64 x.f1]:=⟨[.int .i64 x.f0],[.int .i64 x.f1],rfl,rfl,rfl⟩
def rd_T84 (xs:List S84) (i:Int):S84:=xs.getD i.toNat z84
theorem at_T84 {w:World} {A:Option Addr} {n:Nat} {xs:List S84} (h:Kd.C k84 w A n xs) (i:Int) (h0:0≤i) (h1:i<n):∃ ad ,A=some ad∧w.cell? (ad.add (i.toNat*2))=some (.int .i64 (rd_T84 xs i).f0)∧w.cell? ⟨(ad.add (i.toNat*2)).block,(ad.add (i.toNat*2)).off+1,none⟩=some (.int .i64 (rd_T84 xs i).f1):=by
  obtain ⟨ad,c,e,_,hK,hc0⟩:=Kd.C_get h z84 i h0 h1
  have hc:∀ j u,c[j]?=some u→w.cell? (ad.add (i.toNat*2+j))=some u:=hc0
  obtain rfl:=k84_open hK
  exact ⟨ad,e,hc 0 _ rfl,by rw [←add_field _ _ 1 (by omega)];exact hc 1 _ rfl⟩
/-! #### struct type 73 -/
structure S73 where
  f0:Int
  f1:Int
def z73:S73:=⟨(0:Int),(0:Int)⟩
def k73:Kd S73:=Kd.iso (Kd.pair (Kd.int .i64) (Kd.int .i64)) (fun x:S73=>(x.f0,x.f1))
theorem k73_open {w:World} {x:S73} {cs:List Value} (h:k73.K w x cs):cs=[.int .i64 x.f0,.int .i64 x.f1]:=by
  obtain ⟨_,_,rfl,rfl,rfl⟩:=h
  exact rfl
theorem k73_openM {w:World} {base:Nat} {ok:Nat→Prop} {x:S73} {cs:List Value} (h:k73.M w base ok x cs):cs=[.int .i64 x.f0,.int .i64 x.f1]:=by
  obtain ⟨_,_,rfl,rfl,rfl⟩:=h
  exact rfl
theorem k73_mkM (w:World) (base:Nat) (ok:Nat→Prop) (x:S73) :k73.M w base ok x [.int .i64 x.f0,.int .i64 x.f1]:=⟨[.int .i64 x.f0],[.int .i64 x.f1],rfl,rfl,rfl⟩
def rd_T73 (xs:List S73) (i:Int):S73:=xs.getD i.toNat z73
theorem at_T73 {w:World} {A:Option Addr} {n:Nat} {xs:List S73} (h:Kd.C k73 w A n xs) (i:Int) (h0:0≤i) (h1:i<n):∃ ad ,A=some ad∧w.cell? (ad.add (i.toNat*2))=some (.int .i64 (rd_T73 xs i).f0)∧w.cell? ⟨(ad.add (i.toNat*2)).block,(ad.add (i.toNat*2)).off+1,none⟩=some (.int .i64 (rd_T73 xs i).f1):=by
  obtain ⟨ad,c,e,_,hK,hc0⟩:=Kd.C_get h z73 i h0 h1
  have hc:∀ j u,c[j]?=some u→w.cell? (ad.add (i.toNat*2+j))=some u:=hc0
  obtain rfl:=k73_open hK
  exact ⟨ad,e,hc 0 _ rfl,by rw [←add_field _ _ 1 (by omega)];exact hc 1 _ rfl⟩
def rd_L7 (xs:List (List Int)) (i:Int):(List Int):=xs.getD i.toNat ([]:List Int)
theorem at_L7 {w:World} {A:Option Addr} {n:Nat} {xs:List (List Int)} (h:Kd.C (Kd.slice 3 (Kd.int .i64)) w A n xs) (i:Int) (h0:0≤i) (h1:i<n):∃ ad A0 c0,A=some ad∧w.cell? (ad.add i.toNat)=some (.slice A0 (rd_L7 xs i).length c0)∧(rd_L7 xs i).length≤c0∧(Kd.int .i64).C w A0 (rd_L7 xs i).length (rd_L7 xs i):=by
  obtain ⟨ad,c,e,_,hK,hc0⟩:=Kd.C_get h ([]:List Int) i h0 h1
  have hc:∀ j u,c[j]?=some u→w.cell? (ad.add (i.toNat*1+j))=some u:=hc0
  obtain ⟨A0,c0,rfl,l0,g0⟩:=hK
  exact ⟨ad,A0,c0,e,by have hq:=hc 0 _ rfl;rwa [Nat.mul_one,Nat.add_zero] at hq,l0,g0⟩
theorem bQ {n:Nat} {w W:World} (h:Below n w W:=by repeat (first|(with_reducible first|exact HB.out|apply below_alloc|apply pw_below_drewN|apply below_drew1|refine below_set ?_ (Aside0.out (by assumption)))|exact HB.out)):Below n w W:=h
theorem gQ {w W:World} {g:Nat} (hg:g=W.heap.size) (h:Below w.heap.size w W:=by repeat (first|(with_reducible first|exact HB.out|apply below_alloc|apply pw_below_drewN|apply below_drew1|refine below_set ?_ (Aside0.out (by assumption)))|exact HB.out)):w.heap.size≤g:=by rw [hg];exact below_size h
theorem uH {w W W1:World} (hb:Below W.heap.size W W1) (h:Below w.heap.size w W:=by repeat (first|(with_reducible first|exact HB.out|apply below_alloc|apply pw_below_drewN|apply below_drew1|refine below_set ?_ (Aside0.out (by assumption)))|exact HB.out)):Aside0 (Below w.heap.size w W1):=⟨below_step h hb⟩
section
variable {α:Type} {d:Kd α} {e base n j:Nat} {ok:Nat→Prop} {v:Value} {xs:List α} {A:Option Addr} {W0 W W1:World} {g:Nat} {o:Obj}
theorem sR (h:d.R e W0 base ok v xs) (hb:Below W0.heap.size W0 W:=by repeat (first|(with_reducible first|exact Below.refl _ _|apply below_alloc|apply pw_below_drewN|apply below_drew1)|exact Below.refl _ _)):d.R e W base ok v xs:=Kd.R_below h hb
theorem sS (h:Kd.S d e W0 base ok v xs) (hb:Below W0.heap.size W0 W:=by repeat (first|(with_reducible first|exact Below.refl _ _|apply below_alloc|apply pw_below_drewN|apply below_drew1)|exact Below.refl _ _)):Kd.S d e W base ok v xs:=Kd.S_below h hb
theorem sC (h:d.C W0 A n xs) (hb:Below W0.heap.size W0 W:=by repeat (first|(with_reducible first|exact Below.refl _ _|apply below_alloc|apply pw_below_drewN|apply below_drew1)|exact Below.refl _ _)):d.C W A n xs:=Kd.C_below h hb
theorem rR (h:Aside0 (d.R e W0 base ok v xs)) (hb:Below W0.heap.size W0 W:=by repeat (first|(with_reducible first|exact Below.refl _ _|apply below_alloc|apply pw_below_drewN|apply below_drew1)|exact Below.refl _ _)):d.R e W base ok v xs:=Kd.R_below h.out hb
theorem rS (h:Aside0 (Kd.S d e W0 base ok v xs)) (hb:Below W0.heap.size W0 W:=by repeat (first|(with_reducible first|exact Below.refl _ _|apply below_alloc|apply pw_below_drewN|apply below_drew1)|exact Below.refl _ _)):Kd.S d e W base ok v xs:=Kd.S_below h.out hb
theorem rC (h:Aside0 (d.C W0 A n xs)) (hb:Below W0.heap.size W0 W:=by repeat (first|(with_reducible first|exact Below.refl _ _|apply below_alloc|apply pw_below_drewN|apply below_drew1)|exact Below.refl _ _)):d.C W A n xs:=Kd.C_below h.out hb
theorem rB (h:Aside0 (W0.heap[g]?=some o)) (hb:Below W0.heap.size W0 W:=by repeat (first|(with_reducible first|exact Below.refl _ _|apply below_alloc|apply pw_below_drewN|apply below_drew1)|exact Below.refl _ _)):W.heap[g]?=some o:=blk_below h.out hb
theorem uR (h:Aside0 (d.R e W0 base ok v xs)) (hb:Below W.heap.size W W1) (hm:Below W0.heap.size W0 W:=by repeat (first|(with_reducible first|exact Below.refl _ _|apply below_alloc|apply pw_below_drewN|apply below_drew1)|exact Below.refl _ _)):Aside0 (d.R e W1 base ok v xs):=⟨Kd.R_below (Kd.R_below h.out hm) hb⟩
theorem uS (h:Aside0 (Kd.S d e W0 base ok v xs)) (hb:Below W.heap.size W W1) (hm:Below W0.heap.size W0 W:=by repeat (first|(with_reducible first|exact Below.refl _ _|apply below_alloc|apply pw_below_drewN|apply below_drew1)|exact Below.refl _ _)):Aside0 (Kd.S d e W1 base ok v xs):=⟨Kd.S_below (Kd.S_below h.out hm) hb⟩
theorem uB (h:Aside0 (W0.heap[g]?=some o)) (hb:Below W.heap.size W W1) (hm:Below W0.heap.size W0 W:=by repeat (first|(with_reducible first|exact Below.refl _ _|apply below_alloc|apply pw_below_drewN|apply below_drew1)|exact Below.refl _ _)):Aside0 (W1.heap[g]?=some o):=⟨blk_below (blk_below h.out hm) hb⟩
theorem sV (h:Kd.V d e W0 base ok v xs) (hb:Below W0.heap.size W0 W:=by repeat (first|(with_reducible first|exact Below.refl _ _|apply below_alloc|apply pw_below_drewN|apply below_drew1)|exact Below.refl _ _)):Kd.V d e W base ok v xs:=Kd.V_below h hb
theorem rV (h:Aside0 (Kd.V d e W0 base ok v xs)) (hb:Below W0.heap.size W0 W:=by repeat (first|(with_reducible first|exact Below.refl _ _|apply below_alloc|apply pw_below_drewN|apply below_drew1)|exact Below.refl _ _)):Kd.V d e W base ok v xs:=Kd.V_below h.out hb
theorem uV (h:Aside0 (Kd.V d e W0 base ok v xs)) (hb:Below W.heap.size W W1) (hm:Below W0.heap.size W0 W:=by repeat (first|(with_reducible first|exact Below.refl _ _|apply below_alloc|apply pw_below_drewN|apply below_drew1)|exact Below.refl _ _)):Aside0 (Kd.V d e W1 base ok v xs):=⟨Kd.V_below (Kd.V_below h.out hm) hb⟩
theorem zC {t:TypeId} {cs:Array Value} (BK:Aside0 (W.heap[g]?=some (.cells cs t (0,0)))) (j:Nat) (u:Value) (h:cs[j]?=some u:=by exact rfl):W.cell? ⟨g,j,none⟩=some u:=(blk_cell BK.out j).trans h
end
theorem cQ {w w1:World} (HB:Aside0 (Below w.heap.size w w1)) {p:Addr} {v:Value} (h:w.cell? p=some v):w1.cell? p=some v:=(HB.out.cell (World.block_lt_of_cell? w _ h)).trans h
theorem eQ {α:Type} {a b:α} (h:a=b:=by first|rfl|(simp [errW_none,errW_some] <;> rfl)|(simp [*,errW_none,errW_some] <;> rfl)):a=b:=h
theorem vQ {α:Type} {a b:α} (h:a=b:=by first|rfl|(simp;done)|(simp [*];done)):a=b:=h
theorem oD {p:Prop} [Decidable p] (h:decide p=true:=by first|(with_reducible assumption)|assumption):p:=of_decide_eq_true h
section
variable {α β:Type} {r:β}
theorem nQ {p:Prop} [Decidable p] {a:Option β} (h:(if p then a else none)=some r):decide p=true∧a=some r:=by
  by_cases hp:p
  · rw [if_pos hp] at h;exact ⟨decide_eq_true hp,h⟩
  · rw [if_neg hp] at h;cases h
theorem nP {p:Prop} [Decidable p] {a:Option β} (h:(if p then a else none)=some r):p∧a=some r:=by
  by_cases hp:p
  · rw [if_pos hp] at h;exact ⟨hp,h⟩
  · rw [if_neg hp] at h;cases h
theorem nN {p:Prop} [Decidable p] {a:Option β} (h:(if p then none else a)=some r):¬ p∧a=some r:=by
  by_cases hp:p
  · rw [if_pos hp] at h;cases h
  · rw [if_neg hp] at h;exact ⟨hp,h⟩
theorem sQ {x:Option α} {f:α→Option β} (h:x.bind f=some r):∃ a,Aside0 (x=some a)∧f a=some r:=by
  obtain ⟨a,h1,h2⟩:=Option.bind_eq_some_iff.mp h
  exact ⟨a,⟨h1⟩,h2⟩
theorem tT {a b:Option β} {r:Option β} (h:(if true=true then a else b)=r):a=r:=by rwa [if_pos rfl] at h
theorem tF {a b:Option β} {r:Option β} (h:(if false=true then a else b)=r):b=r:=by rwa [if_neg (show ¬ (false=true) by decide)] at h
end
theorem lQ {α:Type} (l:List α) (i:Nat) (a:α):l.toArray.setIfInBounds i a=(l.set i a).toArray:=by simp
theorem lZ {α:Type} (l:List α) (a b:α):(a::l).set 0 b=b::l:=rfl
theorem lS {α:Type} (l:List α) (a b:α) (n:Nat):(a::l).set (n+1) b=a::l.set n b:=rfl
section
variable {P:Program} {ops:Array Oper} {Q:Exit→Act→World→Prop} {md:Region.Mode} {S:World→Prop} {ds:List Nat} {T:Bool×List (List Nat×List Nat)} {oi:Oper} {fuel:Nat} {l:Array Bool} {a:Act} {w:World}
end
section
variable {P:Program} {ops:Array Oper} {Q:Exit→Act→World→Prop} {rest:List Oper} {oi:Oper} {a:Act} {w:World} {f:FuncId} {fn:Func} {ag:Array Operand} {ts:Array TypeId}
theorem gL (N:Option Tmp) (hf:P.funcs[f]?=some fn) (args:Array Value) (h:Calls P f args w fun e w'=>∃ v,e=.returned v∧wpList P ops Q rest (a.put N v) w') (hd:oi.dst=N:=by exact rfl) (hg:oi.guard=none:=by exact rfl) (hname:(fn.name == "runtime.NumGoroutine")=false:=by kernel_rfl) (hb:fn.body.isSome=true:=by exact rfl)
    (hop:oi.op=.call { callee:=.value (.func f),args:=ag,argTypes:=ts }:=by exact rfl) (hargs:ag.map a.eval=args:=by (try simp only [List.map_toArray,List.map_cons,List.map_nil]);first|done|rfl|(simp only [List.length_drop,List.length_take];rfl)):wpList P ops Q (oi::rest) a w:=goesL_ N hd hg hf hname hb args hop hargs h
theorem gO {N:Option Tmp} {K:Act→World→Prop} (hf:P.funcs[f]?=some fn) (args:Array Value) (h:Calls P f args w fun e w'=>∃ v,e=.returned v∧K (a.put N v) w') (hname:(fn.name == "runtime.NumGoroutine")=false:=by kernel_rfl) (hb:fn.body.isSome=true:=by exact rfl)
    (hw:Region.wanted oi (yielded ops a.tmps)=true:=by rfl) (hN:oi.dst=N:=by exact rfl) (hop:oi.op=.call { callee:=.value (.func f),args:=ag,argTypes:=ts }:=by exact rfl)
    (hargs:ag.map a.eval=args:=by (try simp only [List.map_toArray,List.map_cons,List.map_nil]);first|done|rfl|(simp only [List.length_drop,List.length_take];rfl)):if Region.wanted oi (yielded ops a.tmps)=true then Oper.wp P oi a w K Q else K (a.put N undef) w:=goes_ hf hname hb args hw hN hop hargs h
theorem xE (N:Tmp) {cs:Array Value} {t:TypeId} (h:∀ g,g=w.heap.size→∀ w1,w1.heap[g]?=some (.cells cs t (0,0))→Below w.heap.size w w1→wpList P ops Q rest (a.put oi.dst (.pointer (some ⟨g,0,none⟩))) w1) (hd:oi.dst=some N:=by exact rfl) (hg:oi.guard=none:=by exact rfl)
    (hr:(execOp a.eval oi).run P w=.ok (.value (.pointer (some ⟨w.heap.size,0,none⟩))) (w.alloc (.cells cs t (0,0))):=by first|(go_simp;done)|(go_simp;rfl)):wpList P ops Q (oi::rest) a w:=box_event hg hd hr h
theorem xS (t:TypeId) (p:Tmp) {v:Operand} {w1:World} (h:∀ w',w'=w1→wpList P ops Q rest a w') (ho:oi.op=.store t (.tmp p) v:=by exact rfl) (hg:oi.guard=none:=by exact rfl) (hn:oi.dst=none:=by exact rfl) (hr:(execOp a.eval oi).run P w=.ok .skip w1:=by first|(go_simp;done)|(go_simp;rfl)) :
    wpList P ops Q (oi::rest) a w:=store_event hg ho hn hr h
end
theorem drawnB {w w':World} (h:Drawn0 w w'):Below w.heap.size w w':=by
  obtain ⟨n,rfl⟩:=h.out
  exact pw_below_drewN (Below.refl _ _) n
section
variable {α:Type} {d:Kd α} {e:Nat} {ok:Nat→Prop} {v:Value} {xs:List α} {w W W1:World}
theorem newR (h:d.R e W1 W.heap.size ok v xs) (hb:Below w.heap.size w W):d.R e W1 w.heap.size (fun k=>W.heap.size≤k∧k<W1.heap.size) v xs:=Kd.R_lower (Kd.R_mono (Kd.R_bound h) (fun _ hk=>⟨hk.2.1,hk.2.2.1⟩)) (below_size hb)
theorem newS (h:Kd.S d e W1 W.heap.size ok v xs) (hb:Below w.heap.size w W):Kd.S d e W1 w.heap.size (fun k=>W.heap.size≤k∧k<W1.heap.size) v xs:=Kd.S_lower (Kd.S_mono (Kd.S_bound h) (fun _ hk=>⟨hk.2.1,hk.2.2.1⟩)) (below_size hb)
theorem kR {base a b a' b':Nat} (h:Aside0 (d.R e W base (fun k=>a≤k∧k<b) v xs)) (hk:Kept W W1 (fun k=>a'≤k∧k<b')) (hd:b≤a'∨b'≤a:=by omega):Aside0 (d.R e W1 base (fun k=>a≤k∧k<b) v xs):=⟨Kd.R_kept h.out hk (fun k h1 h2=>by omega)⟩
theorem kS {base a b a' b':Nat} (h:Aside0 (Kd.S d e W base (fun k=>a≤k∧k<b) v xs)) (hk:Kept W W1 (fun k=>a'≤k∧k<b')) (hd:b≤a'∨b'≤a:=by omega):Aside0 (Kd.S d e W1 base (fun k=>a≤k∧k<b) v xs):=⟨Kd.S_kept h.out hk (fun k h1 h2=>by omega)⟩
end
theorem qHK0 {W W1:World} {ok:Nat→Prop} (h:Kept W W1 ok:=by repeat (first|(with_reducible first|exact HK.out|apply Kept.alloc|apply Kept.drewN|apply Kept.drew)|exact HK.out)):Kept W W1 ok:=h
theorem gC {P:Program} {ops:Array Oper} {Q:Exit→Act→World→Prop} {o:Oper} {rest:List Oper} {a:Act} {W:World} (f:FuncId) {as_:Array Operand} {ts:Array TypeId} (_ho:o.op=.call { callee:=.value (.func f),args:=as_,argTypes:=ts }) (h:wpList P ops Q (o::rest) a W):wpList P ops Q (o::rest) a W:=h
theorem aK {p:Prop} (h:p):Aside0 p:=⟨h⟩
section
variable {P:Program} {ops:Array Oper} {Q:Exit→Act→World→Prop} {rest:List Oper} {oi:Oper} {a:Act} {w:World} {f:FuncId} {fn:Func} {ag:Array Operand} {ts:Array TypeId} {args:Array Value} {F:Ending→World→Prop}
theorem aL (N:Tmp) (hf:P.funcs[f]?=some fn) (hc:Calls P f args w F) (h:∀ e w',F e w'→∃ v,e=.returned v∧wpList P ops Q rest (a.put (some N) v) w') (hd:oi.dst=some N:=by exact rfl) (hg:oi.guard=none:=by exact rfl) (hname:(fn.name == "runtime.NumGoroutine")=false:=by kernel_rfl) (hb:fn.body.isSome=true:=by exact rfl)
    (hop:oi.op=.call { callee:=.value (.func f),args:=ag,argTypes:=ts }:=by exact rfl) (hargs:ag.map a.eval=args:=by (try simp only [List.map_toArray,List.map_cons,List.map_nil]);first|done|rfl|(simp only [List.length_drop,List.length_take];rfl)):wpList P ops Q (oi::rest) a w:=goesL_ (some N) hd hg hf hname hb args hop hargs (hc.mono h)
theorem aO {N:Option Tmp} {K:Act→World→Prop} (hf:P.funcs[f]?=some fn) (hc:Calls P f args w F) (h:∀ e w',F e w'→∃ v,e=.returned v∧K (a.put N v) w') (hname:(fn.name == "runtime.NumGoroutine")=false:=by kernel_rfl) (hb:fn.body.isSome=true:=by exact rfl)
    (hw:Region.wanted oi (yielded ops a.tmps)=true:=by rfl) (hN:oi.dst=N:=by exact rfl) (hop:oi.op=.call { callee:=.value (.func f),args:=ag,argTypes:=ts }:=by exact rfl)
    (hargs:ag.map a.eval=args:=by (try simp only [List.map_toArray,List.map_cons,List.map_nil]);first|done|rfl|(simp only [List.length_drop,List.length_take];rfl)):if Region.wanted oi (yielded ops a.tmps)=true then Oper.wp P oi a w K Q else K (a.put N undef) w:=goes_ hf hname hb args hw hN hop hargs (hc.mono h)
variable {md:Region.Mode} {S:World→Prop} {ds:List Nat} {fuel:Nat} {l:Array Bool}
theorem oK {N:Tmp} {v:Value} {a2:Act} {K:Act→World→Prop} (hK:Shut (∀ a' w',S w'→(S w'→wpAnyLast P md ops Q S ds fuel l a' w')→K a' w')) (hS:S w) (h:S w→wpAnyLast P md ops Q S ds fuel l a2 w) (ha:a.put (some N) v=a2:=by simp only [Act.put,lQ,lZ,lS,i64_w,i32_w];rfl):K (a.put (some N) v) w:=hK.out _ _ hS (fun q=>ha ▸ h q)
end
section
variable {α:Type} {d:Kd α} {e base n j:Nat} {ok:Nat→Prop} {v:Value} {xs:List α} {A:Option Addr} {w W:World} {g g':Nat} {o:Obj}
theorem cA (h:Aside0 (d.C w A n xs)) (hb:Below w.heap.size w W:=by repeat (first|(with_reducible first|exact HB.out|apply below_alloc|apply pw_below_drewN|apply below_drew1|refine below_set ?_ (Aside0.out (by assumption)))|exact HB.out)):d.C W A n xs:=Kd.C_below h.out hb
theorem nB (hg:g'=W.heap.size) (h:W.heap[g]?=some o):Aside0 (g≠g'):=⟨by rw [hg];exact Nat.ne_of_lt (blk_lt h)⟩
theorem mB (hg:g'=W.heap.size) (h:W.heap[g]?=some o):Aside0 (g'≠g):=⟨by rw [hg];exact Nat.ne_of_gt (blk_lt h)⟩
variable {a0 a1 a2 a3 b0 b1 b2 b3:Value} {t:TypeId} {z:Nat×Nat} {v0 v1 v2 v3:Value}
theorem pF4 (BK:Aside0 (W.heap[g]?=some (.cells #[a0,a1,a2,a3] t (0,0)))):((((W.setCell ⟨g,0,none⟩ b0).setCell ⟨g,1,none⟩ b1).setCell ⟨g,2,none⟩ b2).setCell ⟨g,3,none⟩ b3).heap[g]?=some (.cells #[b0,b1,b2,b3] t (0,0)):=by
  refine blk_put (cs:=#[b0,b1,b2,a3]) ?_ 3 _ rfl;refine blk_put (cs:=#[b0,b1,a2,a3]) ?_ 2 _ rfl;refine blk_put (cs:=#[b0,a1,a2,a3]) ?_ 1 _ rfl;refine blk_put (cs:=#[a0,a1,a2,a3]) ?_ 0 _ rfl;exact BK.out
theorem pF2 (BK:Aside0 (W.heap[g]?=some (.cells #[a0,a1] t (0,0)))):((W.setCell ⟨g,0,none⟩ b0).setCell ⟨g,1,none⟩ b1).heap[g]?=some (.cells #[b0,b1] t (0,0)):=by
  refine blk_put (cs:=#[b0,a1]) ?_ 1 _ rfl;refine blk_put (cs:=#[a0,a1]) ?_ 0 _ rfl;exact BK.out
theorem kF4 {cs:Array Value} {i0 i1 i2 i3:Nat} (hn:Aside0 (g≠g')) (BK:Aside0 (W.heap[g]?=some (.cells cs t (0,0)))):((((W.setCell ⟨g',i0,none⟩ b0).setCell ⟨g',i1,none⟩ b1).setCell ⟨g',i2,none⟩ b2).setCell ⟨g',i3,none⟩ b3).heap[g]?=some (.cells cs t (0,0)):=by
  refine blk_far ?_ hn.out _;refine blk_far ?_ hn.out _;refine blk_far ?_ hn.out _;refine blk_far ?_ hn.out _;exact BK.out
theorem kF2 {cs:Array Value} {i0 i1:Nat} (hn:Aside0 (g≠g')) (BK:Aside0 (W.heap[g]?=some (.cells cs t (0,0)))):((W.setCell ⟨g',i0,none⟩ b0).setCell ⟨g',i1,none⟩ b1).heap[g]?=some (.cells cs t (0,0)):=by
  refine blk_far ?_ hn.out _;refine blk_far ?_ hn.out _;exact BK.out
theorem bB {w1:World} (hb:Below W.heap.size W w1) (h:W.heap[g]?=some o):w1.heap[g]?=some o:=blk_below h hb
theorem bG {w1:World} {row:Option Nat} (hg:W.grownBy w1 row) (h:W.heap[g]?=some o) (hne:some g≠row):w1.heap[g]?=some o:=blk_grown h hg hne
theorem fR (g:Nat) (h:d.R e W base (fun k=>ok k∧k≠g) v xs):d.R e ((((W.setCell ⟨g,0,none⟩ b0).setCell ⟨g,1,none⟩ b1).setCell ⟨g,2,none⟩ b2).setCell ⟨g,3,none⟩ b3) base (fun k=>ok k∧k≠g) v xs:=
  Kd.R_far (p:=⟨g,3,none⟩) (Kd.R_far (p:=⟨g,2,none⟩) (Kd.R_far (p:=⟨g,1,none⟩) (Kd.R_far (p:=⟨g,0,none⟩) h (fun _ hk=>hk.2) b0) (fun _ hk=>hk.2) b1) (fun _ hk=>hk.2) b2) (fun _ hk=>hk.2) b3
theorem fS (g:Nat) (h:Kd.S d e W base (fun k=>ok k∧k≠g) v xs):Kd.S d e ((((W.setCell ⟨g,0,none⟩ b0).setCell ⟨g,1,none⟩ b1).setCell ⟨g,2,none⟩ b2).setCell ⟨g,3,none⟩ b3) base (fun k=>ok k∧k≠g) v xs:=
  Kd.S_far (p:=⟨g,3,none⟩) (Kd.S_far (p:=⟨g,2,none⟩) (Kd.S_far (p:=⟨g,1,none⟩) (Kd.S_far (p:=⟨g,0,none⟩) h (fun _ hk=>hk.2) b0) (fun _ hk=>hk.2) b1) (fun _ hk=>hk.2) b2) (fun _ hk=>hk.2) b3
theorem gR (g:Nat) (h:d.R e W base (fun k=>ok k∧k≠g) v xs):d.R e ((W.setCell ⟨g,0,none⟩ b0).setCell ⟨g,1,none⟩ b1) base (fun k=>ok k∧k≠g) v xs:=Kd.R_far (p:=⟨g,1,none⟩) (Kd.R_far (p:=⟨g,0,none⟩) h (fun _ hk=>hk.2) b0) (fun _ hk=>hk.2) b1
theorem gS (g:Nat) (h:Kd.S d e W base (fun k=>ok k∧k≠g) v xs):Kd.S d e ((W.setCell ⟨g,0,none⟩ b0).setCell ⟨g,1,none⟩ b1) base (fun k=>ok k∧k≠g) v xs:=Kd.S_far (p:=⟨g,1,none⟩) (Kd.S_far (p:=⟨g,0,none⟩) h (fun _ hk=>hk.2) b0) (fun _ hk=>hk.2) b1
theorem gV (g:Nat) (h:Kd.V d e W base (fun k=>ok k∧k≠g) v xs):Kd.V d e ((W.setCell ⟨g,0,none⟩ b0).setCell ⟨g,1,none⟩ b1) base (fun k=>ok k∧k≠g) v xs:=Kd.V_far (p:=⟨g,1,none⟩) (Kd.V_far (p:=⟨g,0,none⟩) h (fun _ hk=>hk.2) b0) (fun _ hk=>hk.2) b1
theorem zF4 (BK:Aside0 (W.heap[g]?=some (.cells #[a0,a1,a2,a3] t (0,0)))):W.cell? ⟨g,0,none⟩=some a0∧W.cell? ⟨g,1,none⟩=some a1∧W.cell? ⟨g,2,none⟩=some a2∧W.cell? ⟨g,3,none⟩=some a3:=⟨zC BK 0 _,zC BK 1 _,zC BK 2 _,zC BK 3 _⟩
theorem zF2 (BK:Aside0 (W.heap[g]?=some (.cells #[a0,a1] t (0,0)))):W.cell? ⟨g,0,none⟩=some a0∧W.cell? ⟨g,1,none⟩=some a1:=⟨zC BK 0 _,zC BK 1 _⟩
theorem yF4 {cs:Array Value} (BK:Aside0 (W.heap[g]?=some (.cells cs t (0,0)))):W.frozen? ⟨g,0,none⟩=false∧W.frozen? ⟨g,1,none⟩=false∧W.frozen? ⟨g,2,none⟩=false∧W.frozen? ⟨g,3,none⟩=false:=⟨blk_frozen BK.out 0,blk_frozen BK.out 1,blk_frozen BK.out 2,blk_frozen BK.out 3⟩
theorem yF2 {cs:Array Value} (BK:Aside0 (W.heap[g]?=some (.cells cs t (0,0)))):W.frozen? ⟨g,0,none⟩=false∧W.frozen? ⟨g,1,none⟩=false:=⟨blk_frozen BK.out 0,blk_frozen BK.out 1⟩
end
section
variable {α β:Type} {r:β}
theorem eX {x:α} {f:α→Option β} (h:(some x).bind f=some r):∃ y,Aside0 (y=x)∧f y=some r:=⟨x,⟨rfl⟩,h⟩
theorem bE {a b:Int} (h:a=b):(a == b)=true:=beq_iff_eq.mpr h
theorem bN {a b:Int} (h:¬ a=b):(a == b)=false:=beq_eq_false_iff_ne.mpr h
theorem cE {a b:Int} (h:a=b):(a != b)=false:=bne_eq_false_iff_eq.mpr h
theorem cN {a b:Int} (h:¬ a=b):(a != b)=true:=bne_iff_ne.mpr h
end
section
variable {P:Program} {ops:Array Oper} {Q:Exit→Act→World→Prop} {rest:List Oper} {o:Oper} {a:Act} {α:Type} {w0 W:World} {base:Nat} {Kc:Act→World→Prop}
theorem lL (d:Kd α) (e N:Nat) (xs:List α) (inner:List Value) (hp:Reps (d.M W W.heap.size (fun _=>True)) d.sz xs inner) (h:∀ v1 w1,d.R e w1 W.heap.size (fun _=>True) v1 xs→Below W.heap.size W w1→wpList P ops Q rest (a.put o.dst v1) w1) (hgd:o.guard=none:=by rfl) (hd:o.dst=some N:=by rfl)
    (hrun:(execOp a.eval o).run P W=.ok (.value (.slice (some ⟨W.heap.size,0,none⟩) xs.length xs.length)) (W.alloc (.cells inner.toArray e)):=by first|(go_simp;done)|(go_simp;rfl)) (hm:xs.length≤9223372036854775807:=by simp):wpList P ops Q (o::rest) a W:=
  Kd.R_lit d W.heap.size e hgd hd (ok:=fun _=>True) (okp:=fun _=>True) hrun hp (fun _ h=>h) trivial (Below.refl _ _) (Nat.le_refl _) hm (fun v1 w1 h1 h2 _ _=>h v1 w1 h1 h2)
theorem lS_ (d:Kd α) (e N:Nat) (xs:List α) (inner:List Value) (hp:Reps (d.M W W.heap.size (fun _=>True)) d.sz xs inner) (h:∀ v1 w1,d.R e w1 W.heap.size (fun _=>True) v1 xs→Below W.heap.size W w1→Kc (a.put o.dst v1) w1) (hgd:Region.wanted o (yielded ops a.tmps)=true:=by rfl) (hd:o.dst=some N:=by rfl)
    (hrun:(execOp a.eval o).run P W=.ok (.value (.slice (some ⟨W.heap.size,0,none⟩) xs.length xs.length)) (W.alloc (.cells inner.toArray e)):=by first|(go_simp;done)|(go_simp;rfl)) (hm:xs.length≤9223372036854775807:=by simp):if Region.wanted o (yielded ops a.tmps)=true then Oper.wp P o a W Kc Q else Kc (a.put o.dst undef) W:=
  Kd.R_lit_step d W.heap.size e hgd hd (ok:=fun _=>True) (okp:=fun _=>True) hrun hp (fun _ h=>h) trivial (Below.refl _ _) (Nat.le_refl _) hm (fun v1 w1 h1 h2 _ _=>h v1 w1 h1 h2)
variable {t e bytes m c:Nat} {z:Value} {A:Option Addr}
theorem rA (d:Kd α) (s x:Nat) (ht:P.underlying t=some (.slice e)) (hinfo:(P.info? e).map (fun i=>(i.zero,i.size,i.bytes))=some (some z,d.sz,bytes)) (v:Value) (xs ys:List α) (ok:Nat→Prop) (HO:d.R e W base ok v xs) (HR:d.C W A m ys) (hF:∀ k,W.heap.size≤k→ok k) (hl:(xs.length+m)*bytes≤140737488355328)
    (h:∀ v1 w1,d.R e w1 base ok v1 (xs++ys)→Below base w0 w1→W.grownBy w1 v.ownBlock→(v1.ownBlock=v.ownBlock∨∃ b,v1.ownBlock=some b∧W.heap.size≤b)→wpList P ops Q rest (a.put o.dst v1) w1) (hgd:o.guard=none:=by rfl) (ho:o.op=.call { callee:=.builtin .append,args:=#[.tmp s,.tmp x],argTypes:=#[t,t] }:=by rfl) (hz:z.cells.size=d.sz:=by rfl) (hs0:0<d.sz:=by decide) (hb0:0<bytes:=by omega)
    (hs:a.eval (.tmp s)=v:=by rfl) (hx:a.eval (.tmp x)=.slice A m c:=by first|rfl|(go_simp;done)|(go_simp;rfl)) (HB:Below base w0 W:=by repeat (first|(with_reducible first|exact HB.out|apply below_alloc|apply pw_below_drewN|apply below_drew1|refine below_set ?_ (Aside0.out (by assumption)))|exact HB.out)) (hbase:base≤W.heap.size:=by exact below_size bQ) (hKM:∀ x cs,d.K W x cs→d.M W base (fun _=>False) x cs:=by exact fun _ _ h=>h):wpList P ops Q (o::rest) a W:=
  Kd.R_append_rows d base hgd (.tmp s) (.tmp x) t e z bytes ho ht hinfo hz hs0 hb0 v xs ys A m c ok (fun _=>False) hs hx HO HR hKM (fun _ h=>h.elim) hF HB hbase hl h
theorem sA (d:Kd α) (s x:Nat) (ht:P.underlying t=some (.slice e)) (hinfo:(P.info? e).map (fun i=>(i.zero,i.size,i.bytes))=some (some z,d.sz,bytes)) (v:Value) (xs ys:List α) (ok:Nat→Prop) (HO:d.R e W base ok v xs) (HR:d.C W A m ys) (hF:∀ k,W.heap.size≤k→ok k) (hl:(xs.length+m)*bytes≤140737488355328)
    (h:∀ v1 w1,d.R e w1 base ok v1 (xs++ys)→Below base w0 w1→W.grownBy w1 v.ownBlock→(v1.ownBlock=v.ownBlock∨∃ b,v1.ownBlock=some b∧W.heap.size≤b)→Kc (a.put o.dst v1) w1) (hgd:Region.wanted o (yielded ops a.tmps)=true:=by rfl) (ho:o.op=.call { callee:=.builtin .append,args:=#[.tmp s,.tmp x],argTypes:=#[t,t] }:=by rfl) (hz:z.cells.size=d.sz:=by rfl) (hs0:0<d.sz:=by decide) (hb0:0<bytes:=by omega)
    (hs:a.eval (.tmp s)=v:=by rfl) (hx:a.eval (.tmp x)=.slice A m c:=by first|rfl|(go_simp;done)|(go_simp;rfl)) (HB:Below base w0 W:=by repeat (first|(with_reducible first|exact HB.out|apply below_alloc|apply pw_below_drewN|apply below_drew1|refine below_set ?_ (Aside0.out (by assumption)))|exact HB.out)) (hbase:base≤W.heap.size:=by exact below_size bQ) (hKM:∀ x cs,d.K W x cs→d.M W base (fun _=>False) x cs:=by exact fun _ _ h=>h) :
    if Region.wanted o (yielded ops a.tmps)=true then Oper.wp P o a W Kc Q else Kc (a.put o.dst undef) W:=
  Kd.R_append_rows_step d base hgd (.tmp s) (.tmp x) t e z bytes ho ht hinfo hz hs0 hb0 v xs ys A m c ok (fun _=>False) hs hx HO HR hKM (fun _ h=>h.elim) hF HB hbase hl h
theorem rP (d:Kd α) (s x:Nat) (ht:P.underlying t=some (.slice e)) (hinfo:(P.info? e).map (fun i=>(i.zero,i.size,i.bytes))=some (some z,d.sz,bytes)) (v:Value) (xs:List α) (p:α) (cs:List Value) (ok:Nat→Prop) (HP:d.M W base (fun _=>False) p cs) (HO:d.R e W base ok v xs) (hF:∀ k,W.heap.size≤k→ok k) (hl:(xs.length+1)*bytes≤140737488355328)
    (h:∀ v1 w1,d.R e w1 base ok v1 (xs++[p])→Below base w0 w1→W.grownBy w1 v.ownBlock→(v1.ownBlock=v.ownBlock∨∃ b,v1.ownBlock=some b∧W.heap.size≤b)→wpList P ops Q rest (a.put o.dst v1) w1) (hgd:o.guard=none:=by rfl) (ho:o.op=.call { callee:=.builtin .append,args:=#[.tmp s,.tmp x],argTypes:=#[t,t] }:=by rfl) (hz:z.cells.size=d.sz:=by rfl) (hs0:0<d.sz:=by decide) (hb0:0<bytes:=by omega)
    (hs:a.eval (.tmp s)=v:=by rfl) (hx:a.eval (.tmp x)=.slice (some ⟨W.heap.size,0,none⟩) 1 1:=by first|rfl|(go_simp;done)|(go_simp;rfl)) (HB:Below base w0 W:=by repeat (first|(with_reducible first|exact HB.out|apply below_alloc|apply pw_below_drewN|apply below_drew1|refine below_set ?_ (Aside0.out (by assumption)))|exact HB.out)) (hbase:base≤W.heap.size:=by exact below_size bQ):wpList P ops Q (o::rest) a (W.alloc (.cells cs.toArray e)):=
  Kd.R_append d base hgd (.tmp s) (.tmp x) t e z bytes ho ht hinfo hz hs0 hb0 v xs p cs ok (fun _=>False) hs hx HP (fun _ hk=>hk.elim) hF HO HB hbase hl h
end
theorem eY {α:Type} (x:α):∃ y,Aside0 (y=x):=⟨x,⟨rfl⟩⟩
section
variable {P:Program} {ops:Array Oper} {Q:Exit→Act→World→Prop} {md:Region.Mode} {S:World→Prop} {ds:List Nat} {T:Bool×List (List Nat×List Nat)} {oi:Oper} {fuel N:Nat} {l:Array Bool} {a:Act} {w:World}
theorem pU {v:Value} {a':Act} (i:Nat) (h:wpAnyLast P md ops Q S ds fuel (l.setIfInBounds i true) a' w) (hT:Aside0 (rtab md ops=T):=by assumption) (hi:ops[i]?=some oi:=by exact rfl) (hN:oi.dst=some N:=by exact rfl) (hc:anyT T l.toList (l.setIfInBounds i true).toList i=true:=by kernel_rfl)
    (hQ:∀ c a w,Q (.panic c) (a.put oi.dst v) w→Q (.panic c) a w:=by exact fun _ _ _ h=>h) (hw:Region.wanted oi (yielded ops a.tmps)=true:=by rfl) (hr:∀ w,(execOp a.eval oi).run P w=.ok (.value v) w:=by intro w';go_simp;with_reducible rfl)
    (ha:a.put (some N) v=a':=by simp only [Act.put,lQ,lZ,lS,i64_w,i32_w];rfl):wpAnyLast P md ops Q S ds (fuel+1) l a w:=pure_ _ hi hN (any_of hT.out hc) hQ (.inl ⟨hw,hr⟩) ha h
theorem wU {a':Act} (i:Nat) (h:wpAnyLast P md ops Q S ds fuel (l.setIfInBounds i true) a' w) (hT:Aside0 (rtab md ops=T):=by assumption) (hi:ops[i]?=some oi:=by exact rfl) (hN:oi.dst=some N:=by exact rfl) (hc:anyT T l.toList (l.setIfInBounds i true).toList i=true:=by kernel_rfl)
    (hQ:∀ c a w,Q (.panic c) (a.put oi.dst undef) w→Q (.panic c) a w:=by exact fun _ _ _ h=>h) (hw:Region.wanted oi (yielded ops a.tmps)=false:=by rfl) (ha:a.put (some N) undef=a':=by simp only [Act.put,lQ,lZ,lS,i64_w,i32_w];rfl) :
    wpAnyLast P md ops Q S ds (fuel+1) l a w:=pure_ _ hi hN (any_of hT.out hc) hQ (.inr ⟨hw,rfl⟩) ha h
theorem kU {v:Value} {a':Act} {B:List Nat} (i:Nat) (h:wpAnyLast P md ops Q S ds fuel (l.setIfInBounds i true) a' w) (hT:Aside0 (rtab md ops=T):=by assumption) (hB:Aside0 (waitsOk T.2 B=true):=by assumption) (hS:S w:=by exact hHeld) (hi:ops[i]?=some oi:=by exact rfl) (hN:oi.dst=some N:=by exact rfl)
    (hc:takeW T B ds l.toList (l.setIfInBounds i true).toList i=true:=by kernel_rfl) (hQ:∀ c a w,Q (.panic c) (a.put oi.dst v) w→Q (.panic c) a w:=by exact fun _ _ _ h=>h) (hw:Region.wanted oi (yielded ops a.tmps)=true:=by rfl)
    (hr:∀ w,S w→(execOp a.eval oi).run P w=.ok (.value v) w:=by intro w' hs_;revert hs_;(try simp only [and_imp]);intros;go_simp;with_reducible rfl)
    (ha:a.put (some N) v=a':=by simp only [Act.put,lQ,lZ,lS,i64_w,i32_w];rfl):wpAnyLast P md ops Q S ds (fuel+1) l a w:=take_ _ hi hN (take_ofW hT.out hB.out hc) hQ (.inl ⟨hw,hr⟩) hS ha h
theorem jU (i:Nat) (h:∀ K:Act→World→Prop,Shut (∀ a' w',S w'→(S w'→wpAnyLast P md ops Q S ds fuel (l.setIfInBounds i true) a' w')→K a' w')→if Region.wanted oi (yielded ops a.tmps)=true then Oper.wp P oi a w K Q else K (a.put (some N) undef) w)
    (hT:Aside0 (rtab md ops=T):=by assumption) (hi:ops[i]?=some oi:=by exact rfl) (hN:oi.dst=some N:=by exact rfl) (hc:(readyT T.2 l.toList == [i] && l.toList.set i true == (l.setIfInBounds i true).toList)=true:=by kernel_rfl) (hd:i ∉ ds:=by decide) :
    wpAnyLast P md ops Q S ds (fuel+1) l a w:=one_ _ hi hN (one_of hT.out hc) hd h
theorem sU {id:Nat} {B:List Nat} (n:Nat) (S:World→Prop) (hT:rtab .any ops=T) (hB:waitsOk T.2 B=true) (hS:S w.drew) (h:S w.drew→Aside0 (rtab .any ops=T)→Aside0 (waitsOk T.2 B=true)→wpAnyLast P .any ops Q S [] n (Array.replicate n false) a w.drew) (hm:P.follows .mixedOrders=true:=by kernel_rfl) (hn:ops.size=n:=by rfl):(Code.region id ops true).wp P Q a w:=start_ _ hm hn rfl hS (fun q=>h q ⟨hT⟩ ⟨hB⟩)
theorem nC {a':Act} {n:Nat} (h:wpAnyLast P md ops Q S ds n l a' w) (ha:a=a':=by simp only [putAll,Act.put,List.setIfInBounds_toArray,List.set_cons_zero,List.set_cons_succ]):wpAnyLast P md ops Q S ds n l a w:=norm_ ha h
theorem xU {rest:List Oper} (N:Tmp) {cs:Array Value} {t:TypeId} (h:∀ g w1,Aside0 (w1.heap[g]?=some (.cells cs t (0,0)))→g=w.heap.size→Below w.heap.size w w1→wpList P ops Q rest (a.put oi.dst (.pointer (some ⟨g,0,none⟩))) w1) (hd:oi.dst=some N:=by exact rfl) (hg:oi.guard=none:=by exact rfl)
    (hr:(execOp a.eval oi).run P w=.ok (.value (.pointer (some ⟨w.heap.size,0,none⟩))) (w.alloc (.cells cs t (0,0))):=by first|(go_simp;done)|(go_simp;rfl)):wpList P ops Q (oi::rest) a w:=xE N (fun g e w1 hb hB=>h g w1 ⟨hb⟩ e hB) hd hg hr
theorem gW {g:Nat} {w W:World} (hg:g=W.heap.size) (h:Below w.heap.size w W:=by repeat (first|(with_reducible first|exact HB.out|apply below_alloc|apply pw_below_drewN|apply below_drew1|refine below_set ?_ (Aside0.out (by assumption)))|exact HB.out)):Aside0 (w.heap.size≤g):=⟨by rw [hg];exact below_size h⟩
end
theorem rT81 {w W:World} {A:Option Addr} {n:Nat} {xs:List S81} (h:Aside0 (Kd.C k81 w A n xs)) (HB:Aside0 (Below w.heap.size w W)) (i:Int) (h0:decide (0≤i)=true:=by first|(with_reducible assumption)|assumption) (h1:decide (i<(n:Int))=true:=by first|(with_reducible assumption)|assumption):∃ ad,A=some ad∧(0≤i)=True∧(i<(n:Int))=True∧W.cell? (ad.add (i.toNat*4))=some (.int .i64 (rd_T81 xs i).f0)∧W.cell? ⟨(ad.add (i.toNat*4)).block,(ad.add (i.toNat*4)).off+1,none⟩=some (.int .i64 (rd_T81 xs i).f1)∧W.cell? ⟨(ad.add (i.toNat*4)).block,(ad.add (i.toNat*4)).off+2,none⟩=some (.int .i64 (rd_T81 xs i).f2)∧W.cell? ⟨(ad.add (i.toNat*4)).block,(ad.add (i.toNat*4)).off+3,none⟩=some (.int .i64 (rd_T81 xs i).f3):=by
  obtain ⟨ad,e,x0,x1,x2,x3⟩:=at_T81 h.out i (of_decide_eq_true h0) (of_decide_eq_true h1)
  exact ⟨ad,e,eq_true (of_decide_eq_true h0),eq_true (of_decide_eq_true h1),cQ HB x0,cQ HB x1,cQ HB x2,cQ HB x3⟩
theorem rT86 {w W:World} {A:Option Addr} {n:Nat} {xs:List S86} (h:Aside0 (Kd.C k86 w A n xs)) (HB:Aside0 (Below w.heap.size w W)) (i:Int) (h0:decide (0≤i)=true:=by first|(with_reducible assumption)|assumption) (h1:decide (i<(n:Int))=true:=by first|(with_reducible assumption)|assumption):∃ ad,A=some ad∧(0≤i)=True∧(i<(n:Int))=True∧W.cell? (ad.add (i.toNat*2))=some (.int .i64 (rd_T86 xs i).f0)∧W.cell? ⟨(ad.add (i.toNat*2)).block,(ad.add (i.toNat*2)).off+1,none⟩=some (.int .i64 (rd_T86 xs i).f1):=by
  obtain ⟨ad,e,x0,x1⟩:=at_T86 h.out i (of_decide_eq_true h0) (of_decide_eq_true h1)
  exact ⟨ad,e,eq_true (of_decide_eq_true h0),eq_true (of_decide_eq_true h1),cQ HB x0,cQ HB x1⟩
theorem rT88 {w W:World} {A:Option Addr} {n:Nat} {xs:List S88} (h:Aside0 (Kd.C k88 w A n xs)) (HB:Aside0 (Below w.heap.size w W)) (i:Int) (h0:decide (0≤i)=true:=by first|(with_reducible assumption)|assumption) (h1:decide (i<(n:Int))=true:=by first|(with_reducible assumption)|assumption):∃ ad,A=some ad∧(0≤i)=True∧(i<(n:Int))=True∧W.cell? (ad.add (i.toNat*2))=some (.int .i64 (rd_T88 xs i).f0)∧W.cell? ⟨(ad.add (i.toNat*2)).block,(ad.add (i.toNat*2)).off+1,none⟩=some (.int .i64 (rd_T88 xs i).f1):=by
  obtain ⟨ad,e,x0,x1⟩:=at_T88 h.out i (of_decide_eq_true h0) (of_decide_eq_true h1)
  exact ⟨ad,e,eq_true (of_decide_eq_true h0),eq_true (of_decide_eq_true h1),cQ HB x0,cQ HB x1⟩
theorem rT79 {w W:World} {A:Option Addr} {n:Nat} {xs:List S79} (h:Aside0 (Kd.C k79 w A n xs)) (HB:Aside0 (Below w.heap.size w W)) (i:Int) (h0:decide (0≤i)=true:=by first|(with_reducible assumption)|assumption) (h1:decide (i<(n:Int))=true:=by first|(with_reducible assumption)|assumption):∃ ad,A=some ad∧(0≤i)=True∧(i<(n:Int))=True∧W.cell? (ad.add (i.toNat*4))=some (.int .i64 (rd_T79 xs i).f0)∧W.cell? ⟨(ad.add (i.toNat*4)).block,(ad.add (i.toNat*4)).off+1,none⟩=some (.int .i64 (rd_T79 xs i).f1)∧W.cell? ⟨(ad.add (i.toNat*4)).block,(ad.add (i.toNat*4)).off+2,none⟩=some (.int .i64 (rd_T79 xs i).f2)∧W.cell? ⟨(ad.add (i.toNat*4)).block,(ad.add (i.toNat*4)).off+3,none⟩=some (.int .i64 (rd_T79 xs i).f3):=by
  obtain ⟨ad,e,x0,x1,x2,x3⟩:=at_T79 h.out i (of_decide_eq_true h0) (of_decide_eq_true h1)
  exact ⟨ad,e,eq_true (of_decide_eq_true h0),eq_true (of_decide_eq_true h1),cQ HB x0,cQ HB x1,cQ HB x2,cQ HB x3⟩
theorem qT79 {w W:World} {A:Option Addr} {n:Nat} {xs:List S79} (h:Aside0 (Kd.C k79 w A n xs)) (HB:Aside0 (Below w.heap.size w W)) (i:Int) (h0:decide (0≤i)=true:=by first|(with_reducible assumption)|assumption) (h1:decide (i<(n:Int))=true:=by first|(with_reducible assumption)|assumption):∃ ad,A=some ad∧(0≤i)=True∧(i<(n:Int))=True∧w.cell? (ad.add (i.toNat*4))=some (.int .i64 (rd_T79 xs i).f0)∧w.cell? ⟨(ad.add (i.toNat*4)).block,(ad.add (i.toNat*4)).off+1,none⟩=some (.int .i64 (rd_T79 xs i).f1)∧w.cell? ⟨(ad.add (i.toNat*4)).block,(ad.add (i.toNat*4)).off+2,none⟩=some (.int .i64 (rd_T79 xs i).f2)∧w.cell? ⟨(ad.add (i.toNat*4)).block,(ad.add (i.toNat*4)).off+3,none⟩=some (.int .i64 (rd_T79 xs i).f3)∧W.cell? (ad.add (i.toNat*4))=some (.int .i64 (rd_T79 xs i).f0)∧W.cell? ⟨(ad.add (i.toNat*4)).block,(ad.add (i.toNat*4)).off+1,none⟩=some (.int .i64 (rd_T79 xs i).f1)∧W.cell? ⟨(ad.add (i.toNat*4)).block,(ad.add (i.toNat*4)).off+2,none⟩=some (.int .i64 (rd_T79 xs i).f2)∧W.cell? ⟨(ad.add (i.toNat*4)).block,(ad.add (i.toNat*4)).off+3,none⟩=some (.int .i64 (rd_T79 xs i).f3):=by
  obtain ⟨ad,e,x0,x1,x2,x3⟩:=at_T79 h.out i (of_decide_eq_true h0) (of_decide_eq_true h1)
  exact ⟨ad,e,eq_true (of_decide_eq_true h0),eq_true (of_decide_eq_true h1),x0,x1,x2,x3,cQ HB x0,cQ HB x1,cQ HB x2,cQ HB x3⟩
theorem oT79 {w:World} {A:Option Addr} {n:Nat} {xs:List S79} (h:Kd.C k79 w A n xs) (i:Int) (h0:decide (0≤i)=true:=by first|(with_reducible assumption)|assumption) (h1:decide (i<(n:Int))=true:=by first|(with_reducible assumption)|assumption):∃ ad,A=some ad∧(0≤i)=True∧(i<(n:Int))=True∧w.cell? (ad.add (i.toNat*4))=some (.int .i64 (rd_T79 xs i).f0)∧w.cell? ⟨(ad.add (i.toNat*4)).block,(ad.add (i.toNat*4)).off+1,none⟩=some (.int .i64 (rd_T79 xs i).f1)∧w.cell? ⟨(ad.add (i.toNat*4)).block,(ad.add (i.toNat*4)).off+2,none⟩=some (.int .i64 (rd_T79 xs i).f2)∧w.cell? ⟨(ad.add (i.toNat*4)).block,(ad.add (i.toNat*4)).off+3,none⟩=some (.int .i64 (rd_T79 xs i).f3):=by
  obtain ⟨ad,e,x0,x1,x2,x3⟩:=at_T79 h i (of_decide_eq_true h0) (of_decide_eq_true h1)
  exact ⟨ad,e,eq_true (of_decide_eq_true h0),eq_true (of_decide_eq_true h1),x0,x1,x2,x3⟩
theorem rT84 {w W:World} {A:Option Addr} {n:Nat} {xs:List S84} (h:Aside0 (Kd.C k84 w A n xs)) (HB:Aside0 (Below w.heap.size w W)) (i:Int) (h0:decide (0≤i)=true:=by first|(with_reducible assumption)|assumption) (h1:decide (i<(n:Int))=true:=by first|(with_reducible assumption)|assumption):∃ ad,A=some ad∧(0≤i)=True∧(i<(n:Int))=True∧W.cell? (ad.add (i.toNat*2))=some (.int .i64 (rd_T84 xs i).f0)∧W.cell? ⟨(ad.add (i.toNat*2)).block,(ad.add (i.toNat*2)).off+1,none⟩=some (.int .i64 (rd_T84 xs i).f1):=by
  obtain ⟨ad,e,x0,x1⟩:=at_T84 h.out i (of_decide_eq_true h0) (of_decide_eq_true h1)
  exact ⟨ad,e,eq_true (of_decide_eq_true h0),eq_true (of_decide_eq_true h1),cQ HB x0,cQ HB x1⟩
theorem qT84 {w W:World} {A:Option Addr} {n:Nat} {xs:List S84} (h:Aside0 (Kd.C k84 w A n xs)) (HB:Aside0 (Below w.heap.size w W)) (i:Int) (h0:decide (0≤i)=true:=by first|(with_reducible assumption)|assumption) (h1:decide (i<(n:Int))=true:=by first|(with_reducible assumption)|assumption):∃ ad,A=some ad∧(0≤i)=True∧(i<(n:Int))=True∧w.cell? (ad.add (i.toNat*2))=some (.int .i64 (rd_T84 xs i).f0)∧w.cell? ⟨(ad.add (i.toNat*2)).block,(ad.add (i.toNat*2)).off+1,none⟩=some (.int .i64 (rd_T84 xs i).f1)∧W.cell? (ad.add (i.toNat*2))=some (.int .i64 (rd_T84 xs i).f0)∧W.cell? ⟨(ad.add (i.toNat*2)).block,(ad.add (i.toNat*2)).off+1,none⟩=some (.int .i64 (rd_T84 xs i).f1):=by
  obtain ⟨ad,e,x0,x1⟩:=at_T84 h.out i (of_decide_eq_true h0) (of_decide_eq_true h1)
  exact ⟨ad,e,eq_true (of_decide_eq_true h0),eq_true (of_decide_eq_true h1),x0,x1,cQ HB x0,cQ HB x1⟩
theorem rT73 {w W:World} {A:Option Addr} {n:Nat} {xs:List S73} (h:Aside0 (Kd.C k73 w A n xs)) (HB:Aside0 (Below w.heap.size w W)) (i:Int) (h0:decide (0≤i)=true:=by first|(with_reducible assumption)|assumption) (h1:decide (i<(n:Int))=true:=by first|(with_reducible assumption)|assumption):∃ ad,A=some ad∧(0≤i)=True∧(i<(n:Int))=True∧W.cell? (ad.add (i.toNat*2))=some (.int .i64 (rd_T73 xs i).f0)∧W.cell? ⟨(ad.add (i.toNat*2)).block,(ad.add (i.toNat*2)).off+1,none⟩=some (.int .i64 (rd_T73 xs i).f1):=by
  obtain ⟨ad,e,x0,x1⟩:=at_T73 h.out i (of_decide_eq_true h0) (of_decide_eq_true h1)
  exact ⟨ad,e,eq_true (of_decide_eq_true h0),eq_true (of_decide_eq_true h1),cQ HB x0,cQ HB x1⟩
theorem qT73 {w W:World} {A:Option Addr} {n:Nat} {xs:List S73} (h:Aside0 (Kd.C k73 w A n xs)) (HB:Aside0 (Below w.heap.size w W)) (i:Int) (h0:decide (0≤i)=true:=by first|(with_reducible assumption)|assumption) (h1:decide (i<(n:Int))=true:=by first|(with_reducible assumption)|assumption):∃ ad,A=some ad∧(0≤i)=True∧(i<(n:Int))=True∧w.cell? (ad.add (i.toNat*2))=some (.int .i64 (rd_T73 xs i).f0)∧w.cell? ⟨(ad.add (i.toNat*2)).block,(ad.add (i.toNat*2)).off+1,none⟩=some (.int .i64 (rd_T73 xs i).f1)∧W.cell? (ad.add (i.toNat*2))=some (.int .i64 (rd_T73 xs i).f0)∧W.cell? ⟨(ad.add (i.toNat*2)).block,(ad.add (i.toNat*2)).off+1,none⟩=some (.int .i64 (rd_T73 xs i).f1):=by
  obtain ⟨ad,e,x0,x1⟩:=at_T73 h.out i (of_decide_eq_true h0) (of_decide_eq_true h1)
  exact ⟨ad,e,eq_true (of_decide_eq_true h0),eq_true (of_decide_eq_true h1),x0,x1,cQ HB x0,cQ HB x1⟩
section
variable {k:IntKind}
theorem rI {w W:World} {A:Option Addr} {n:Nat} {xs:List Int} (h:Aside0 (Kd.C (Kd.int k) w A n xs)) (HB:Aside0 (Below w.heap.size w W)) (i:Int) (h0:decide (0≤i)=true:=by first|(with_reducible assumption)|assumption) (h1:decide (i<(n:Int))=true:=by first|(with_reducible assumption)|assumption):∃ ad,A=some ad∧(0≤i)=True∧(i<(n:Int))=True∧W.cell? (ad.add i.toNat)=some (.int k (rd xs i)):=by
  obtain ⟨ad,e,x0⟩:=Kd.at_int h.out i (of_decide_eq_true h0) (of_decide_eq_true h1)
  exact ⟨ad,e,eq_true (of_decide_eq_true h0),eq_true (of_decide_eq_true h1),cQ HB x0⟩
theorem qI {w W:World} {A:Option Addr} {n:Nat} {xs:List Int} (h:Aside0 (Kd.C (Kd.int k) w A n xs)) (HB:Aside0 (Below w.heap.size w W)) (i:Int) (h0:decide (0≤i)=true:=by first|(with_reducible assumption)|assumption) (h1:decide (i<(n:Int))=true:=by first|(with_reducible assumption)|assumption):∃ ad,A=some ad∧(0≤i)=True∧(i<(n:Int))=True∧w.cell? (ad.add i.toNat)=some (.int k (rd xs i))∧W.cell? (ad.add i.toNat)=some (.int k (rd xs i)):=by
  obtain ⟨ad,e,x0⟩:=Kd.at_int h.out i (of_decide_eq_true h0) (of_decide_eq_true h1)
  exact ⟨ad,e,eq_true (of_decide_eq_true h0),eq_true (of_decide_eq_true h1),x0,cQ HB x0⟩
theorem oI {w:World} {A:Option Addr} {n:Nat} {xs:List Int} (h:Kd.C (Kd.int k) w A n xs) (i:Int) (h0:decide (0≤i)=true:=by first|(with_reducible assumption)|assumption) (h1:decide (i<(n:Int))=true:=by first|(with_reducible assumption)|assumption):∃ ad,A=some ad∧(0≤i)=True∧(i<(n:Int))=True∧w.cell? (ad.add i.toNat)=some (.int k (rd xs i)):=by
  obtain ⟨ad,e,x0⟩:=Kd.at_int h i (of_decide_eq_true h0) (of_decide_eq_true h1)
  exact ⟨ad,e,eq_true (of_decide_eq_true h0),eq_true (of_decide_eq_true h1),x0⟩
end
end Go.Proofs.YtdahnapanpiooaaGreat.PAsz
