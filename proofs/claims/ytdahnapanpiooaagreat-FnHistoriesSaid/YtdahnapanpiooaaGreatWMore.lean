import Derived.Test.YtdahnapanpiooaaGreatWWords
import Derived.Test.YtdahnapanpiooaaGreatWLast
import Derived.Test.YtdahnapanpiooaaGreatWQPut
import Derived.Test.YtdahnapanpiooaaGreatWApart
import Derived.Test.YtdahnapanpiooaaGreatWZeros
import Derived.Test.YtdahnapanpiooaaGreatWFoot
import Derived.Test.YtdahnapanpiooaaGreatWKept
import Derived.Test.YtdahnapanpiooaaGreatWNEv
namespace Go.Proofs.YtdahnapanpiooaaGreatW.PrintMore
open Go.RowKit Go.Proofs.YtdahnapanpiooaaGreatW.PrintWords
namespace Kd
open Go.Proofs.YtdahnapanpiooaaGreatW.PrintWords.Kd
end Kd
namespace Kd
open Go.Proofs.YtdahnapanpiooaaGreatW.PrintWords.Kd
section
variable {α:Type} {d:Kd α} {e base g N:Nat} {ok:Nat->Prop} {W w1:World} {u v:Value} {xs:List α}
theorem Lk (hu:d.R e W base ok u xs) (hb:Below W.heap.size W w1):d.R e w1 base (fun k=>ok k/\k<W.heap.size) u xs:=
 AG (B9 (En hu) hb) (fun _ h=>⟨h.1,h.2.2.1⟩)
theorem Qr (hu:d.R e W base (fun k=>ok k/\k≠g) u xs) (hk:AH W w1 g none):d.R e w1 base (fun k=>ok k/\k<W.heap.size) u xs:=
 AG (Ca (En hu) hk (fun _ h=>h.1.2)) (fun _ h=>⟨h.1.1,h.2.2.1⟩)
theorem E7 (h:d.R e w1 base (fun k=>ok k/\k<N) u xs) (hbase:∀ k,v.ownBlock=some k->N<=k):d.R e w1 base (fun k=>(ok k/\some k≠v.ownBlock)/\k<N) u xs:=
 AG h (fun k hk=>⟨⟨hk.1,fun e=>Nat.lt_irrefl _ (Nat.lt_of_lt_of_le hk.2 (hbase k e.symm))⟩,hk.2⟩)
end
end Kd
theorem E3 (k k':IntKind) (x y:Int):Builtin.max2 (.int k x) (.int k' y)=pure (.int k (if x<y then y else x)):=by simp only [Builtin.max2,gt_iff_lt]
theorem E5 (k k':IntKind) (x y:Int):Builtin.min2 (.int k x) (.int k' y)=pure (.int k (if y<x then y else x)):=by simp only [Builtin.min2]
theorem Fs (ats:Array TypeId) (ty:TypeId) (a b:Value):Builtin.max_ ats ty #[a,b]=(Builtin.max2 a b >>= fun s=>pure s):=by simp only [Builtin.max_,List.foldlM_cons,List.foldlM_nil]
theorem Ft (ats:Array TypeId) (ty:TypeId) (a b:Value):Builtin.min_ ats ty #[a,b]=(Builtin.min2 a b >>= fun s=>pure s):=by simp only [Builtin.min_,List.foldlM_cons,List.foldlM_nil]
theorem ES (ats:Array TypeId) (ty:TypeId) (a b c:Value):Builtin.max_ ats ty #[a,b,c]=(Builtin.max2 a b >>= fun s=>Builtin.max2 s c >>= fun s=>pure s):=by simp only [Builtin.max_,List.foldlM_cons,List.foldlM_nil]
theorem ET (ats:Array TypeId) (ty:TypeId) (a b c:Value):Builtin.min_ ats ty #[a,b,c]=(Builtin.min2 a b >>= fun s=>Builtin.min2 s c >>= fun s=>pure s):=by simp only [Builtin.min_,List.foldlM_cons,List.foldlM_nil]
theorem E4 (ats:Array TypeId) (ty:TypeId) (a b c d:Value):Builtin.max_ ats ty #[a,b,c,d]=(Builtin.max2 a b >>= fun s=>Builtin.max2 s c >>= fun s=>Builtin.max2 s d >>= fun s=>pure s):=by simp only [Builtin.max_,List.foldlM_cons,List.foldlM_nil]
theorem E6 (ats:Array TypeId) (ty:TypeId) (a b c d:Value):Builtin.min_ ats ty #[a,b,c,d]=(Builtin.min2 a b >>= fun s=>Builtin.min2 s c >>= fun s=>Builtin.min2 s d >>= fun s=>pure s):=by simp only [Builtin.min_,List.foldlM_cons,List.foldlM_nil]
end Go.Proofs.YtdahnapanpiooaaGreatW.PrintMore
namespace Go.Proofs.YtdahnapanpiooaaGreatW.PrintWords
open Go.RowKit
section
variable {P:Program} {ops:Array Oper} {rest:List Oper} {o:Oper} {a:Act} {Q:Exit->Act->World->Prop} {W:World}
theorem Lq {f:FuncId} {as:Array Operand} {ts:Array TypeId} (_ho:o.op=.call { callee:=.value (.func f),args:=as,argTypes:=ts }) (h:wpList P ops Q (o::rest) a W):wpList P ops Q (o::rest) a W:=h
theorem BT {b:Builtin} {xs:Array Operand} {ts:Array TypeId} (_ho:o.op=.call { callee:=.builtin b,args:=xs,argTypes:=ts }) (h:wpList P ops Q (o::rest) a W):wpList P ops Q (o::rest) a W:=h
end
def mx (a b:Int):Int:=if a<b then b else a
def mn (a b:Int):Int:=if b<a then b else a
theorem Ha (w:World) (n:Nat):w.drewN n=w.drewN n:=rfl
namespace Kd
section
variable {α:Type} {d:Kd α} {e base:Nat} {ok:Nat->Prop} {W w1:World} {v:Value} {xs:List α}
end
section
variable {α:Type} {d:Kd α} {e base g n cap:Nat} {ok oki okp:Nat->Prop} {W:World} {xs:List α} {i:Int} {c:List Value}
end
section
variable {α:Type} {d:Kd α} {e base b b' g N:Nat} {ok ok1:Nat->Prop} {W W2 w1:World} {u v:Value} {xs ys:List α} {S:Nat->Prop}
end
end Kd
end Go.Proofs.YtdahnapanpiooaaGreatW.PrintWords
namespace Go.Proofs.YtdahnapanpiooaaGreatW.PrintWords
open Go.RowKit
namespace Kd
def V {α:Type} (d:Kd α) (_e:Nat) (W:World) (_base:Nat) (ok:Nat->Prop) (v:Value) (xs:List α):Prop:=∃ A c,v=.slice A xs.length c/\xs.length<=c/\F d W ok A xs.length xs
section
variable {α β:Type} {d:Kd α} {e base base' n m c g N' lo hi:Nat} {ok ok' S:Nat->Prop} {w W w1:World} {A:Option Addr} {ad:Addr} {u v v1:Value} {xs:List α}
theorem KI (h:V d e W base ok v xs) (hF:∀ A,F d W ok A xs.length xs->F d w1 ok' A xs.length xs):V d e w1 base' ok' v xs:=by
 obtain ⟨A,c,hv,hl,hf⟩:=h
 exact ⟨A,c,hv,hl,hF A hf⟩
theorem Fz (hl:xs.length<=c) (hf:F d W ok A xs.length xs):V d e W base ok (.slice A xs.length c) xs:=⟨A,c,rfl,hl,hf⟩
theorem GY (h:V d e W base ok v xs):∃ A c,v=.slice A xs.length c:=by
 obtain ⟨A,c,hv,_⟩:=h
 exact ⟨A,c,hv⟩
theorem P8 (h:V d e W base ok (.slice A n c) xs):n=xs.length/\n<=c/\F d W ok A xs.length xs:=by
 obtain ⟨A',c',hv,hl,hf⟩:=h
 injection hv with ha hn hc
 subst ha;subst hc
 exact ⟨hn,by rw [hn];exact hl,hf⟩
theorem BJ (h:V d e W base ok (.slice A n c) xs):n=xs.length/\n<=c/\d.C W A xs.length xs:=⟨(P8 h).1,(P8 h).2.1,Qk (P8 h).2.2⟩
theorem So (h:V d e W base ok (.slice A n c) xs):F d W ok A n xs:=by
 obtain ⟨hn,_,hf⟩:=P8 h
 rw [hn]
 exact hf
theorem SJ (h:d.R e W base ok v xs):V d e W base' ok v xs:=by
 obtain ⟨A,c,rfl⟩:=AW h
 exact ⟨A,c,rfl,(AO h).2.1,TD h⟩
theorem Sf (h:N d e W base ok v xs):V d e W base' ok v xs:=by
 obtain ⟨A,c,rfl⟩:=DK h
 exact ⟨A,c,rfl,(BP h).2.1,Sy h⟩
theorem Aq (h:V d e W base ok v xs) (hok:∀ k,ok k->ok' k):V d e W base ok' v xs:=KI h (fun _ hf=>MT hf hok)
theorem Hx (h:V d e W base ok v xs) (_:base'<=base):V d e W base' ok v xs:=h
theorem Ef (h:V d e W base ok v xs) (hb:Below W.heap.size W w1):V d e w1 base ok v xs:=KI h (fun _ hf=>Du hf hb)
theorem LD (h:V d e W base ok v xs):V d e W.drew base ok v xs:=KI h (fun _ hf=>SC hf)
theorem R7 (h:V d e W base ok v xs) {p:Addr} (hok:∀ k,ok k->k≠p.block) (u:Value):V d e (W.setCell p u) base ok v xs:=KI h (fun _ hf=>Si hf hok u)
theorem HJ (h:V d e W base ok v xs) (hk:AH W w1 g none) (hok:∀ k,ok k->k≠g):V d e w1 base ok v xs:=KI h (fun _ hf=>SD hf hk hok)
theorem Rk (h:V d e W base (fun k=>ok k/\some k≠u.ownBlock) v xs) (hg:W.grownBy w1 u.ownBlock) (hat:v1.ownBlock=u.ownBlock\/∃ b,v1.ownBlock=some b/\W.heap.size<=b):V d e w1 base (fun k=>ok k/\some k≠v1.ownBlock) v xs:=KI h (fun _ hf=>Rh hf hg hat)
theorem EV (h:V d e W base (fun k=>ok k/\some k≠v.ownBlock) u xs) (hg:W.grownBy w1 v.ownBlock) (hat:v1.ownBlock=v.ownBlock\/∃ b,v1.ownBlock=some b/\W.heap.size<=b):V d e w1 base (fun k=>ok k/\some k≠v1.ownBlock) u xs:=Rk h hg hat
theorem Kn (h:N d e W base (fun k=>ok k/\some k≠v.ownBlock) u xs) (hg:W.grownBy w1 v.ownBlock) (hat:v1.ownBlock=v.ownBlock\/∃ b,v1.ownBlock=some b/\W.heap.size<=b):N d e w1 base (fun k=>ok k/\some k≠v1.ownBlock) u xs:=Rj h hg hat
theorem Db (h:V d e W base ok v xs) (hbase:∀ k,u.ownBlock=some k->W.heap.size<=k) (hb:Below W.heap.size W w1):V d e w1 base (fun k=>ok k/\some k≠u.ownBlock) v xs:=KI h (fun _ hf=>Qi hf hbase hb)
theorem Ez (h:V d e W base ok v xs) (a:Nat) (ha:W.heap.size<=a):V d e W base (fun k=>ok k/\k≠a) v xs:=KI h (fun _ hf=>Qj hf a ha)
theorem Qw (h:V d e W base ok v xs) (hb:Below W.heap.size W w1):V d e w1 base (fun k=>ok k/\k<W.heap.size) v xs:=KI h (fun _ hf=>Sk hf hb)
theorem Im (h:V d e w1 base (fun k=>ok k/\k<N') v xs) (hbase:∀ k,u.ownBlock=some k->N'<=k):V d e w1 base (fun k=>(ok k/\some k≠u.ownBlock)/\k<N') v xs:=KI h (fun _ hf=>SE hf hbase)
theorem OY (h:V d e W base ok (.slice (some ad) n c) xs) (z:α) (i:Int) (h0:0<=i) (h1:i<n) :
 ∃ cs,cs.length=d.sz/\FK d W ok (xs.getD i.toNat z) cs/\∀ j u,cs[j]?=some u->W.cell? (ad.add (i.toNat*d.sz+j))=some u:=by
 obtain ⟨ad',cs,he,hcl,hK,hcc,_⟩:=R5 (So h) z i h0 h1
 injection he with he
 subst he
 exact ⟨cs,hcl,hK,hcc⟩
theorem R4 (h:F d W ok A xs.length xs) (hm:m<=xs.length) (hc:xs.length<=c):F d W ok (if c=m then A else A.map (·.add (m*d.sz))) (xs.drop m).length (xs.drop m):=Sj h (fun _ hC=>Qe hC hm hc)
theorem KH {l:List α} {cs:List Value} (h:FK (Kd.slice e d) W ok l cs):∃ A c,cs=[.slice A l.length c]/\l.length<=c/\F d W ok A l.length l:=by
 obtain ⟨A,c,rfl,hl,_⟩:=GN h
 refine ⟨A,c,rfl,hl,fun W' hW=>?_⟩
 obtain ⟨A',c',he,_,g'⟩:=h W' hW
 injection he with he _
 injection he with ha _ _
 rw [ha]
 exact g'
theorem Li {l:List α} (hl:l.length<=c) (hf:F d W ok A l.length l):FK (Kd.slice e d) W ok l [.slice A l.length c]:=fun W' hW=>⟨A,c,rfl,hl,hf W' hW⟩
theorem Fy {M:Nat->Prop} (h:d.R e w1 W.heap.size ok v xs) (hle:w.heap.size<=W.heap.size) (hM:∀ k,w.heap.size<=k->M k):d.R e w1 W.heap.size (fun k=>M k/\ok k) v xs:=AG (En h) (fun k hk=>⟨hM k (Nat.le_trans hle hk.2.1),hk.1⟩)
theorem SS {M:Nat->Prop} (h:Kd.S d e w1 W.heap.size ok v xs) (hle:w.heap.size<=W.heap.size) (hM:∀ k,w.heap.size<=k->M k):Kd.S d e w1 W.heap.size (fun k=>M k/\ok k) v xs:=C6 (Ee h) (fun k hk=>⟨hM k (Nat.le_trans hle hk.2.1),hk.1⟩)
end
end Kd
end Go.Proofs.YtdahnapanpiooaaGreatW.PrintWords
