/- The statement FnHistories, whole: for every input the law returns true and leaves its arguments as they were; no condition. Out of the contract of the law's walk and the pure theorem. -/
import Derived.Test.YtdahnapanpiooaaGreatBFnHistories0
import Derived.Test.YtdahnapanpiooaaGreatBFnHistories1
import Derived.Test.YtdahnapanpiooaaGreatBFnHistories2
import Derived.Test.YtdahnapanpiooaaGreatBFnHistories3
import Derived.Test.YtdahnapanpiooaaGreatBFnHistories4
import Derived.Test.YtdahnapanpiooaaGreatBFnHistories5
import Derived.Test.YtdahnapanpiooaaGreatBFnHistories6
import Derived.Test.YtdahnapanpiooaaGreatBFnHistories7
import Derived.Test.YtdahnapanpiooaaGreatBFnHistories8
import Derived.Test.YtdahnapanpiooaaGreatBFnHistories9
import Derived.Test.YtdahnapanpiooaaGreatBFnHistories10
import Derived.Test.YtdahnapanpiooaaGreatBFnHistories11
import Derived.Test.YtdahnapanpiooaaGreatBFnHistories12
import Derived.Test.YtdahnapanpiooaaGreatBFnHistories13
import Derived.Test.YtdahnapanpiooaaGreatWWords
import Derived.Test.YtdahnapanpiooaaGreatWMore
import Derived.SizedLaws
import Derived.ChangeSlices
import Derived.ChangeArms
import Derived.WideShapes
import Derived.Below
import Derived.Test.YtdahnapanpiooaaGreatRows
import Derived.WalkKit
import Derived.ProofKit
import Derived.OpenShut
import Derived.ShutString
import Derived.ChangeOld
section
namespace Go.Proofs.YtdahnapanpiooaaGreat.Aid
open Go.RowKit Go.Proofs.YtdahnapanpiooaaGreatW.PrintWords Go.Proofs.YtdahnapanpiooaaGreatW.PrintMore
set_option linter.unusedVariables false
theorem Gn {x:Int} (h0:-9223372036854775808<=x) (h1:x<=9223372036854775807):wrap64 x=x:=by
 unfold wrap64
 omega
def U8 (x:Int):Prop:=0<=x/\x<=255
theorem Su {x:Int} (h:(Lit.int .u8 x).wf=true):U8 x:=by
 simp [Lit.wf,IntKind.min,IntKind.max,IntKind.bits,IntKind.signed] at h
 unfold U8
 omega
def S7 {α:Type} (B:Nat) (WF:α->Prop) (xs:List α):Prop:=xs.length<=maxLen/\xs.length*B<=140737488351232/\∀ x ∈ xs,WF x
theorem shift {α:Type} {g:Nat->Option α} {r:α} (h:Ev (fun k=>g (k+1)) r):Ev g r:=Ev.step (fun _=>rfl) h
theorem pos {α:Type} {c:Prop} [Decidable c] {a b:Nat->Option α} {r:α} (hc:c) (h:Ev a r):Ev (fun k=>if c then a k else b k) r:=by
 simpa only [if_pos hc] using h
theorem neg {α:Type} {c:Prop} [Decidable c] {a b:Nat->Option α} {r:α} (hc:¬ c) (h:Ev b r):Ev (fun k=>if c then a k else b k) r:=by
 simpa only [if_neg hc] using h
theorem now {α:Type} {r s:α} (h:r=s):Ev (fun _=>some r) s:=h ▸ Ev.now r
theorem known {α:Type} {x:Option α} {r:α} (h:x=some r):Ev (fun _=>x) r:=h ▸ Ev.now r
theorem Ah {α β:Type} {x:Option α} {f:Nat->α->Option β} {a:α} {r:β} (h:x=some a) (k:Ev (fun n=>f n a) r):Ev (fun n=>x.bind (f n)) r:=by
 subst h
 exact k
theorem same {α:Type} {g:Nat->Option α} {r s:α} (h:Ev g r) (e:r=s):Ev g s:=e ▸ h
theorem loop {α:Type} {g:Nat->Nat->Option α} {r:α} (N:Nat) (hs:∀ j,j<N->Ev (fun k=>g k (j+1)) r->Ev (fun k=>g k j) r) (he:Ev (fun k=>g k N) r):Ev (fun k=>g k 0) r:=by
 have:∀ d j,j+d=N->Ev (fun k=>g k j) r:=by
  intro d
  induction d with
  | zero =>
   intro j hj
   have:j=N:=by omega
   subst this
   exact he
  | succ d ih=>exact fun j hj=>hs j (by omega) (ih (j+1) (by omega))
 exact this N 0 (by omega)
theorem IU {α:Type} {g:Nat->Nat->Option α} {r:α} (i N:Nat) (hi:i<=N) (hs:∀ j,i<=j->j<N->Ev (fun k=>g k (j+1)) r->Ev (fun k=>g k j) r) (he:Ev (fun k=>g k N) r):Ev (fun k=>g k i) r:=by
 have:∀ d j,i<=j->j+d=N->Ev (fun k=>g k j) r:=by
  intro d
  induction d with
  | zero =>
   intro j _ hj
   have:j=N:=by omega
   subst this
   exact he
  | succ d ih=>exact fun j h0 hj=>hs j h0 (by omega) (ih (j+1) (by omega) (by omega))
 exact this (N-i) i (Nat.le_refl _) (by omega)
theorem D2 (xs:List Int) (j:Nat) (h:j<xs.length):rd xs (j:Int)=xs[j]:=by simp [rd,h]
theorem Av {a b:Nat} (h:a<b):(a:Int)<(b:Int):=by omega
theorem Cz {a b:Nat} (h:b<=a):¬ (a:Int)<(b:Int):=by omega
theorem Af {j:Nat} (h:j<9223372036854775807):wrap64 ((j:Int)+1)=((j+1:Nat):Int):=by
 rw [Gn (by omega) (by omega)]
 omega
theorem E0 {g:Nat->Nat->Option Bool} (N:Nat) (ok:Nat->Bool) (b:Bool) (hs:∀ j r,j<N->ok j=true->Ev (fun k=>g k (j+1)) r->Ev (fun k=>g k j) r)
 (hf:∀ j,j<N->ok j=false->Ev (fun k=>g k j) false) (he:Ev (fun k=>g k N) b):Ev (fun k=>g k 0) ((List.range N).all ok && b):=by
 have:∀ d j,j+d=N->Ev (fun k=>g k j) ((List.range' j d).all ok && b):=by
  intro d
  induction d with
  | zero =>
   intro j hj
   have:j=N:=by omega
   subst this
   simpa using he
  | succ d ih =>
   intro j hj
   rw [List.range'_succ,List.all_cons]
   cases h:ok j with
   | true=>simpa using hs j _ (by omega) h (ih (j+1) (by omega))
   | false=>simpa using hf j (by omega) h
 have h:=this N 0 (by omega)
 rwa [<-List.range_eq_range'] at h
theorem Iy {α:Type} {g:Nat->Nat->Option α} (N:Nat) (ok:Nat->Bool) {r:α} (h:(List.range N).all ok=true) (hs:∀ j r,j<N->ok j=true->Ev (fun k=>g k (j+1)) r->Ev (fun k=>g k j) r)
 (he:Ev (fun k=>g k N) r):Ev (fun k=>g k 0) r:=
 loop N (fun j hj hn=>hs j r hj (List.all_eq_true.1 h j (List.mem_range.2 hj)) hn) he
theorem HN {α:Type} {g:Nat->Nat->Option α} (N:Nat) (ok:Nat->Bool) (r:α) (h:¬ (List.range N).all ok=true) (hs:∀ j r,j<N->ok j=true->Ev (fun k=>g k (j+1)) r->Ev (fun k=>g k j) r)
 (hf:∀ j,j<N->ok j=false->Ev (fun k=>g k j) r):Ev (fun k=>g k 0) r:=by
 have:∀ d j,j+d=N->¬ (List.range' j d).all ok=true->Ev (fun k=>g k j) r:=by
  intro d
  induction d with
  | zero=>exact fun j _ hn=>absurd rfl hn
  | succ d ih =>
   intro j hj hn
   rw [List.range'_succ,List.all_cons] at hn
   cases ho:ok j with
   | true=>exact hs j _ (by omega) ho (ih (j+1) (by omega) (by simpa [ho] using hn))
   | false=>exact hf j (by omega) ho
 exact this N 0 (by omega) (by rwa [<-List.range_eq_range'])
end Go.Proofs.YtdahnapanpiooaaGreat.Aid
end
section
namespace Go.Proofs.YtdahnapanpiooaaGreat.Opens
open Go.ChangeShapes Go.WideShapes Go.RowKit Go.Proofs.YtdahnapanpiooaaGreatW.PrintWords Go.Proofs.YtdahnapanpiooaaGreat.Aid
set_option linter.unusedVariables false
def Opens {α:Type} (P:Program) (t:TypeId) (kd:Kd α) (WF:α->Prop):Prop:=
 P.cellsOf t=kd.sz/\∀ (H:Type) (enc:TypeId×Value->H) (w:World) (base:Nat) (spare:Nat->Bool) (held:Bool) (fuel:Nat) (cs:List Value) (d:DataW H) (ps:List MemPlace),
  DataW.trod enc P w base spare held fuel t cs=some (d,ps)->(∀ n ∈ d.weights P t,n<=reachBytes)->∃ x,kd.K w x cs/\WF x
theorem RS {P:Program} {t:TypeId} (ht:P.underlying t=some (.int .u8)) (hc:P.cellsOf t=1):Opens P t (Kd.int .u8) U8:=by
 refine ⟨hc,fun H enc w base spare held fuel cs d ps h _=>?_⟩
 obtain ⟨n,rfl,_,hw⟩:=DataW.trod_int ht h
 exact ⟨n,rfl,Su hw⟩
theorem K9 {H:Type} {P:Program} {e:TypeId} {n:Nat}:∀ {ds:List (DataW H)} {d:DataW H},d ∈ ds->n ∈ d.weights P e->n ∈ DataW.weightsAll P e ds
 | [],_,h,_=>by simp at h
 | d0::r,d,h,hn=>by
  rw [DataW.weightsAll]
  rcases List.mem_cons.1 h with rfl|h
  . exact List.mem_append_left _ hn
  . exact List.mem_append_right _ (K9 h hn)
theorem Od {α:Type} {n:Nat} {Q:Nat->α->Prop} (h:∀ i,i<n->∃ x,Q i x):∃ xs:List α,xs.length=n/\∀ i x,xs[i]?=some x->Q i x:=by
 induction n with
 | zero=>exact ⟨[],rfl,fun i x hx=>by simp at hx⟩
 | succ n ih =>
  obtain ⟨xs,hl,hx⟩:=ih (fun i hi=>h i (by omega))
  obtain ⟨y,hy⟩:=h n (by omega)
  refine ⟨xs++[y],by simp [hl],fun i x hi=>?_⟩
  by_cases hlt:i<n
  . rw [List.getElem?_append_left (by omega)] at hi
    exact hx i x hi
  . have hl2:=(List.getElem?_eq_some_iff.1 hi).1
    simp at hl2
    have:i=n:=by omega
    subst this
    rw [List.getElem?_append_right (by omega)] at hi
    simp [hl] at hi
    exact hi ▸ hy
theorem On {α:Type} {P:Program} {t e:TypeId} {kd:Kd α} {WF:α->Prop} (ht:P.underlying t=some (.slice e)) (hc:P.cellsOf t=1) {B:Nat} (hB:P.bytesOf e=B) (he:Opens P e kd WF) :
 Opens P t (Kd.slice e kd) (S7 B WF):=by
 subst hB
 refine ⟨hc,fun H enc w base spare held fuel cs d ps h hw=>?_⟩
 rcases DataW.trod_slice ht h with ⟨rfl,_⟩|⟨a,len,cap,elems,rest,n,_,rfl,hx,hb,hl,hm,hlen,hel,_,_⟩
 . exact ⟨[],⟨none,0,rfl,Nat.le_refl _,⟨rfl,by simp,fun h=>absurd h (by simp)⟩⟩,by simp [maxLen],by simp,by simp⟩
 . simp only [Prod.mk.injEq] at hx
   obtain ⟨rfl,_⟩:=hx
   have each:∀ i,i<len->∃ x,(∃ c,c.length=kd.sz/\kd.K w x c/\∀ j u,c[j]?=some u->w.cell? (a.add (i*kd.sz+j))=some u)/\WF x:=by
    intro i hi
    have h1:=hel i hi
    have h2:i<elems.length:=by omega
    rw [List.getElem?_eq_getElem h2] at h1
    obtain ⟨c,hc1,hc2⟩:=Option.bind_eq_some_iff.1 h1
    obtain ⟨_,hcl,hcc⟩:=World.cells?_some hc1
    obtain ⟨x,hx1,hx2⟩:=he.2 H enc w base spare held n c elems[i].1 elems[i].2 hc2 (fun m hm'=>hw m (by
     rw [DataW.weights,ht]
     simp only [List.mem_cons,List.mem_append]
     exact .inr (.inl (K9 (List.mem_map.2 ⟨elems[i],List.getElem_mem h2,rfl⟩) hm'))))
    refine ⟨x,⟨c,by rw [hcl,he.1],hx1,fun j u hj=>?_⟩,hx2⟩
    have hj2:=(List.getElem?_eq_some_iff.1 hj).1
    have:=hcc j (by omega)
    rw [hj,he.1] at this
    rw [<-this,Addr.add_add]
   obtain ⟨xs,hxl,hxs⟩:=Od each
   subst hxl
   refine ⟨xs,⟨some a,cap,rfl,hl,⟨rfl,by simp [maxLen] at hm;omega,fun _=>⟨a,rfl,fun j p hj=>?_⟩⟩⟩,by omega,?_,fun x hx=>?_⟩
   . exact (hxs j p hj).1
   . have:=hw ((elems.length+rest.length)*P.bytesOf e) (by rw [DataW.weights,ht];simp)
     exact Nat.le_trans (Nat.mul_le_mul_right _ (by omega)) this
   . obtain ⟨i,hi⟩:=List.getElem?_of_mem hx
     exact (hxs i x hi).2
theorem QR {α:Type} {H:Type} {enc:TypeId×Value->H} {P:Program} {w:World} {base:Nat} {spare:Nat->Bool} {held:Bool} {t:TypeId} {v:Value} {kd:Kd α} {WF:α->Prop} {d:DataW H} {ps:List MemPlace} (h:Opens P t kd WF)
 {ts:List TypeId} {ds:List (DataW H)} {j:Nat} (hsz:(DataW.weightsEach P ts ds).all (·<=reachBytes)=true) (ht:ts[j]?=some t) (hd:ds[j]?=some d) (hv:DataW.Trod enc P w base spare held t v d ps) :
 ∃ x,kd.K w x v.cells.toList/\WF x:=by
 obtain ⟨fuel,hf⟩:=hv
 refine h.2 H enc w base spare held fuel _ d ps hf (fun n hn=>?_)
 have:=List.all_eq_true.1 hsz n (DataW.weights_mem_each ht hd n hn)
 simpa using this
theorem QS {α:Type} {P:Program} {w:World} {t e:TypeId} {r:Reach} {b0:Nat} {v:Value} {kd:Kd α} {x:List α} (ht:P.underlying t=some (.slice e)) (hval:Value.okWide P w r b0 t v) (h:(Kd.slice e kd).K w x v.cells.toList) :
 ∃ A c,v=.slice A x.length c/\x.length<=c/\Kd.C kd w A x.length x:=by
 obtain ⟨a,len,cap,rfl⟩:=okWide_slice ht hval
 obtain ⟨A,c,hv,hl,hC⟩:=h
 simp [Value.cells] at hv
 obtain ⟨rfl,rfl,rfl⟩:=hv
 exact ⟨_,_,rfl,hl,hC⟩
end Go.Proofs.YtdahnapanpiooaaGreat.Opens
end
section
namespace Go.Proofs.YtdahnapanpiooaaGreat.PureFnHistories
open Go.RowKit Go.Proofs.YtdahnapanpiooaaGreatW.PrintWords Go.Proofs.YtdahnapanpiooaaGreatW.PrintLast Go.Proofs.YtdahnapanpiooaaGreatW.PrintMore Go.Proofs.YtdahnapanpiooaaGreat.PHis Go.Proofs.YtdahnapanpiooaaGreat.Aid
set_option linter.unusedVariables false
set_option linter.unusedSimpArgs false
theorem Ia (l:List Int) (a:Int) (hl:l.length<=9223372036854775806):∃ r,Ev (fun k=>Bd.f k l a) r/\(r>=0↔a ∈ l):=by
 unfold Bd.f
 have:∀ d j,j+d=l.length->∃ r,Ev (fun k=>Bd.l0 k l a (l.length:Int) (j:Int)) r/\(r>=0↔a ∈ l.drop j):=by
  intro d
  induction d with
  | zero =>
   intro j hj
   refine ⟨-1,shift ?_,by rw [List.drop_eq_nil_of_le oM];simp⟩
   simp only [Bd.l0]
   exact neg oM (now rfl)
  | succ d ih =>
   intro j hj
   have hjl:j<l.length:=by omega
   by_cases h:a=l[j]
   . refine ⟨(j:Int),shift ?_,⟨fun _=>by rw [List.drop_eq_getElem_cons hjl,h];exact List.mem_cons_self,fun _=>by omega⟩⟩
     simp only [Bd.l0]
     rw [D2 l j hjl]
     exact pos (Av hjl) (pos oM (pos (Av hjl) (pos h (now rfl))))
   . obtain ⟨r,h1,h2⟩:=ih (j+1) oM
     refine ⟨r,shift ?_,by rw [h2,List.drop_eq_getElem_cons hjl,List.mem_cons];exact ⟨.inr,fun g=>g.resolve_left h⟩⟩
     simp only [Bd.l0]
     rw [D2 l j hjl,Af oM]
     exact pos (Av hjl) (pos oM (pos (Av hjl) (neg h h1)))
 simpa using this l.length 0 oM
theorem Bc (l:List Int) (a:Int) (hl:l.length<=9223372036854775806):Ev (fun k=>AV.f k l a) (decide (a ∈ l)):=by
 unfold AV.f
 obtain ⟨r,h1,h2⟩:=Ia l a hl
 exact Ev.bind h1 (now (decide_eq_decide.2 h2))
theorem CB (a b c:Int):Ad.f a b c=some (decide (b<=a/\a<=c)):=by
 unfold Ad.f
 by_cases h:b<=a
 . rw [if_pos h]
   simp [h]
 . rw [if_neg h]
   simp [h]
theorem DZ (a b c:Int):BU.f a b c=some (decide (b<=a/\a<=c)):=by
 unfold BU.f
 by_cases h:b<=a
 . rw [if_pos h]
   simp [h]
 . rw [if_neg h]
   simp [h]
def EF (a b c d:Int):Bool:=decide (1<=a/\a<=20) && (decide (1<=b/\b<=3) && (decide (0<=c/\c<=3) && (decide (0<=d/\d<=3) && ((c == d) == (b == 2)))))
theorem FP (a b c d:Int):Cm.f a b c d=some (EF a b c d):=by
 unfold Cm.f EF
 simp only [DZ,Option.bind_some]
 by_cases h1:1<=a/\a<=20 <;> by_cases h2:1<=b/\b<=3 <;> by_cases h3:0<=c/\c<=3 <;> by_cases h4:0<=d/\d<=3 <;> simp [h1,h2,h3,h4]
theorem FH (a b c d:Int):Cj.f a b c d=some (EF a b c d):=by
 unfold Cj.f EF
 simp only [CB,Option.bind_some]
 by_cases h1:1<=a/\a<=20 <;> by_cases h2:1<=b/\b<=3 <;> by_cases h3:0<=c/\c<=3 <;> by_cases h4:0<=d/\d<=3 <;> simp [h1,h2,h3,h4]
def Ji (l:List Ai) (j:Nat):Bool:=EF (AA l j).f0 (AA l j).f1 (AA l j).f2 (AA l j).f3 && decide (0<j->(AA l ((j:Int)-1)).f0<(AA l j).f0)
def Cr (l:List Ai):Bool:=(List.range l.length).all (Ji l) && decide (l.length<=12)
theorem FZ (l:List Ai) (hl:l.length<=9223372036854775806):Ev (fun k=>BZ.f k l) (Cr l):=by
 unfold BZ.f Cr
 refine E0 (g:=fun k j=>BZ.l0 k l (j:Int)) l.length (Ji l) _ ?_ ?_ ?_
 . intro j r hj ok h
   simp only [Ji,Bool.and_eq_true,decide_eq_true_eq] at ok
   refine shift ?_
   simp only [BZ.l0]
   refine pos (Av hj) (pos oM (Ah (FP _ _ _ _) (pos ok.1 ?_)))
   rw [Af oM]
   by_cases h0:(j:Int)>0
   . rw [Gn oM oM]
     exact pos h0 (pos oM (pos oM (neg (by have:=ok.2 oM;omega) h)))
   . exact neg h0 h
 . intro j hj ok
   refine shift ?_
   simp only [BZ.l0]
   refine pos (Av hj) (pos oM (Ah (FP _ _ _ _) ?_))
   by_cases h1:EF (AA l j).f0 (AA l j).f1 (AA l j).f2 (AA l j).f3=true
   . refine pos h1 ?_
     have h2:¬ (0<j->(AA l ((j:Int)-1)).f0<(AA l j).f0):=by simpa [Ji,h1] using ok
     rw [Gn (x:=(j:Int)-1) oM oM]
     exact pos oM (pos oM (pos oM (pos oM (now rfl))))
   . exact neg h1 (now rfl)
 . refine shift ?_
   simp only [BZ.l0]
   refine neg (Cz (Nat.le_refl _)) (now ?_)
   exact decide_eq_decide.2 oM
theorem Ei (l:List Ai):Ev (fun k=>BN.f k l) (Cr l):=by
 unfold BN.f Cr
 by_cases hr:l.length<=12
 . rw [decide_eq_true hr]
   refine neg oM (E0 (g:=fun k j=>BN.l0 k l l (l.length:Int) (j:Int)) l.length (Ji l) _ ?_ ?_ ?_)
   . intro j r hj ok h
     simp only [Ji,Bool.and_eq_true,decide_eq_true_eq] at ok
     refine shift ?_
     simp only [BN.l0]
     refine pos (Av hj) (pos oM (pos (Av hj) (Ah (FH _ _ _ _) (pos ok.1 ?_))))
     rw [Af oM]
     by_cases h0:(j:Int)>0
     . rw [Gn oM oM]
       exact pos h0 (pos oM (pos oM (neg (by have:=ok.2 oM;omega) h)))
     . exact neg h0 h
   . intro j hj ok
     refine shift ?_
     simp only [BN.l0]
     refine pos (Av hj) (pos oM (pos (Av hj) (Ah (FH _ _ _ _) ?_)))
     by_cases h1:EF (AA l j).f0 (AA l j).f1 (AA l j).f2 (AA l j).f3=true
     . refine pos h1 ?_
       have h2:¬ (0<j->(AA l ((j:Int)-1)).f0<(AA l j).f0):=by simpa [Ji,h1] using ok
       rw [Gn (x:=(j:Int)-1) oM oM]
       exact pos oM (pos oM (pos oM (pos oM (now rfl))))
     . exact neg h1 (now rfl)
   . refine shift ?_
     simp only [BN.l0]
     exact neg (Cz (Nat.le_refl _)) (now rfl)
 . rw [decide_eq_false hr,Bool.and_false]
   exact pos oM (now rfl)
def PW (a b c d:Int):Bool:=(decide (Int.tmod (c-a+8) 8<Int.tmod (b-a+8) 8)) != (decide (Int.tmod (d-a+8) 8<Int.tmod (b-a+8) 8))
theorem FW {a:Int} (h:0<=a/\a<=3):a=0\/a=1\/a=2\/a=3:=by omega
set_option maxRecDepth 10000 in
theorem Kj (a b c d:Int) (ha:0<=a/\a<=3) (hb:0<=b/\b<=3) (hc:0<=c/\c<=3) (hd:0<=d/\d<=3) (hac:a≠c) (hbd:b≠d):Ev (fun k=>BV.f k (2*a) (2*b+1) (2*c) (2*d+1)) (PW (2*a) (2*b+1) (2*c) (2*d+1)):=by
 refine ⟨40,fun k hk=>?_⟩
 obtain ⟨m,rfl⟩:=Nat.exists_eq_add_of_le' hk
 rcases FW ha with rfl|rfl|rfl|rfl <;> rcases FW hb with rfl|rfl|rfl|rfl <;> rcases FW hc with rfl|rfl|rfl|rfl <;> rcases FW hd with rfl|rfl|rfl|rfl <;> first|exact absurd rfl hac|exact absurd rfl hbd|(show BV.f (m+40) _ _ _ _=some _;kernel_rfl)
set_option maxRecDepth 10000 in
theorem Hb (a b c d:Int) (ha:0<=a/\a<=3) (hb:0<=b/\b<=3) (hc:0<=c/\c<=3) (hd:0<=d/\d<=3):Ev (fun k=>Cf.f k (2*a) (2*b+1) (2*c) (2*d+1)) (if a=c\/b=d then false else PW (2*a) (2*b+1) (2*c) (2*d+1)):=by
 refine ⟨10,fun k hk=>?_⟩
 obtain ⟨m,rfl⟩:=Nat.exists_eq_add_of_le' hk
 rcases FW ha with rfl|rfl|rfl|rfl <;> rcases FW hb with rfl|rfl|rfl|rfl <;> rcases FW hc with rfl|rfl|rfl|rfl <;> rcases FW hd with rfl|rfl|rfl|rfl <;> (show Cf.f (m+10) _ _ _ _=some _;kernel_rfl)
theorem Fq (a:Int) (h:0<=a/\a<=3):DL.f a=some (2*a):=by
 unfold DL.f
 rw [CB,Option.bind_some,if_pos (by simpa using h),Gn oM oM]
theorem FY (a:Int) (h:0<=a/\a<=3):DE.f a=some (2*a+1):=by
 unfold DE.f
 rw [CB,Option.bind_some,if_pos (by simpa using h),Gn (x:=2*a) oM oM,Gn oM oM]
theorem JJ (a:Int) (h:0<=a/\a<=3):EI.f a=some (2*a):=by
 unfold EI.f
 rw [DZ,Option.bind_some,if_pos (by simpa using h),Gn oM oM]
theorem Ic (a:Int) (h:0<=a/\a<=3):Dy.f a=some (2*a+1):=by
 unfold Dy.f
 rw [DZ,Option.bind_some,if_pos (by simpa using h),Gn (x:=2*a) oM oM,Gn oM oM]
theorem GQ (a b c d:Int):EF a b c d=true↔(1<=a/\a<=20)/\(1<=b/\b<=3)/\(0<=c/\c<=3)/\(0<=d/\d<=3)/\((c == d) == (b == 2))=true:=by simp only [EF,Bool.and_eq_true,decide_eq_true_eq]
def Kq (a1 a2 a3 b1 b2 b3:Int):Bool:=if a1=2 then (b2 == a2 || b3 == a2) else if b1=2 then (a2 == b2 || a3 == b2) else if a2=b2 then false else if a3=b3 then true else PW (2*a2) (2*a3+1) (2*b2) (2*b3+1)
def conflict (a0 a1 a2 a3 b0 b1 b2 b3:Int):Bool:=if EF a0 a1 a2 a3=true/\EF b0 b1 b2 b3=true/\¬ (a1=2/\b1=2) then Kq a1 a2 a3 b1 b2 b3 else false
theorem GV (a0 a1 a2 a3 b0 b1 b2 b3:Int):Ev (fun k=>BS.f k a0 a1 a2 a3 b0 b1 b2 b3) (conflict a0 a1 a2 a3 b0 b1 b2 b3):=by
 have yes:Ev (fun k=>BS.j0 k true a0 a1 a2 a3 b0 b1 b2 b3) false:=by
  refine shift ?_
  simp only [BS.j0]
  exact pos trivial (now rfl)
 have no:EF a0 a1 a2 a3=true->EF b0 b1 b2 b3=true->Ev (fun k=>BS.j0 k false a0 a1 a2 a3 b0 b1 b2 b3) (Kq a1 a2 a3 b1 b2 b3):=by
  intro h1 h2
  have h1:=(GQ _ _ _ _).1 h1
  have h2:=(GQ _ _ _ _).1 h2
  refine shift ?_
  simp only [BS.j0]
  refine neg sM ?_
  unfold Kq
  by_cases c1:a1=2
  . rw [if_pos c1]
    refine pos c1 ?_
    by_cases c2:b2=a2
    . exact pos c2 (now (by simp [c2]))
    . exact neg c2 (now (by simp [c2]))
  . rw [if_neg c1]
    refine neg c1 ?_
    by_cases c2:b1=2
    . rw [if_pos c2]
      refine pos c2 ?_
      by_cases c3:a2=b2
      . exact pos c3 (now (by simp [c3]))
      . exact neg c3 (now (by simp [c3]))
    . rw [if_neg c2]
      refine neg c2 ?_
      by_cases c3:a2=b2
      . rw [if_pos c3]
        exact pos c3 (now rfl)
      . rw [if_neg c3]
        refine neg c3 ?_
        by_cases c4:a3=b3
        . rw [if_pos c4]
          exact pos c4 (now rfl)
        . rw [if_neg c4]
          exact neg c4 (Ah (JJ _ h1.2.2.1) (Ah (Ic _ h1.2.2.2.1) (Ah (JJ _ h2.2.2.1) (Ah (Ic _ h2.2.2.2.1) (Ev.bind (Kj _ _ _ _ h1.2.2.1 h1.2.2.2.1 h2.2.2.1 h2.2.2.2.1 c3 c4) (now rfl))))))
 unfold BS.f conflict
 refine Ah (FP _ _ _ _) ?_
 by_cases h1:EF a0 a1 a2 a3=true
 . refine pos h1 (Ah (FP _ _ _ _) ?_)
   by_cases h2:EF b0 b1 b2 b3=true
   . refine pos h2 ?_
     by_cases c1:a1=2
     . refine pos c1 ?_
       by_cases c2:b1=2
       . rw [if_neg (fun g=>g.2.2 ⟨c1,c2⟩),show (b1 == 2)=true by simp [c2]]
         exact yes
       . rw [if_pos ⟨h1,h2,fun g=>c2 g.2⟩,show (b1 == 2)=false by simp [c2]]
         exact no h1 h2
     . rw [if_pos ⟨h1,h2,fun g=>c1 g.1⟩]
       exact neg c1 (no h1 h2)
   . rw [if_neg (fun g=>h2 g.2.1)]
     exact neg h2 yes
 . rw [if_neg (fun g=>h1 g.1)]
   exact neg h1 yes
theorem Dp (a0 a1 a2 a3 b0 b1 b2 b3:Int):Ev (fun k=>BI.f k a0 a1 a2 a3 b0 b1 b2 b3) (conflict a0 a1 a2 a3 b0 b1 b2 b3):=by
 have yes:Ev (fun k=>BI.j0 k true a0 a1 a2 a3 b0 b1 b2 b3) false:=by
  refine shift ?_
  simp only [BI.j0]
  exact pos trivial (now rfl)
 have no:EF a0 a1 a2 a3=true->EF b0 b1 b2 b3=true->Ev (fun k=>BI.j0 k false a0 a1 a2 a3 b0 b1 b2 b3) (Kq a1 a2 a3 b1 b2 b3):=by
  intro h1 h2
  have h1:=(GQ _ _ _ _).1 h1
  have h2:=(GQ _ _ _ _).1 h2
  refine shift ?_
  simp only [BI.j0]
  refine neg sM ?_
  unfold Kq
  by_cases c1:a1=2
  . rw [if_pos c1]
    refine pos c1 ?_
    by_cases c2:b2=a2
    . exact pos c2 (now (by simp [c2]))
    . exact neg c2 (now (by simp [c2]))
  . rw [if_neg c1]
    refine neg c1 ?_
    by_cases c2:b1=2
    . rw [if_pos c2]
      refine pos c2 ?_
      by_cases c3:a2=b2
      . exact pos c3 (now (by simp [c3]))
      . exact neg c3 (now (by simp [c3]))
    . rw [if_neg c2]
      refine neg c2 ?_
      by_cases c3:a2=b2
      . rw [if_pos c3]
        have hi:=Hb a2 a3 b2 b3 h1.2.2.1 h1.2.2.2.1 h2.2.2.1 h2.2.2.2.1
        rw [if_pos (.inl c3)] at hi
        exact pos c3 (Ah (Fq _ h1.2.2.1) (Ah (FY _ h1.2.2.2.1) (Ah (Fq _ h2.2.2.1) (Ah (FY _ h2.2.2.2.1) (Ev.bind hi (now rfl))))))
      . rw [if_neg c3]
        refine neg c3 ?_
        by_cases c4:a3=b3
        . rw [if_pos c4]
          exact pos c4 (now rfl)
        . rw [if_neg c4]
          have hi:=Hb a2 a3 b2 b3 h1.2.2.1 h1.2.2.2.1 h2.2.2.1 h2.2.2.2.1
          rw [if_neg (fun g=>g.elim c3 c4)] at hi
          exact neg c4 (Ah (Fq _ h1.2.2.1) (Ah (FY _ h1.2.2.2.1) (Ah (Fq _ h2.2.2.1) (Ah (FY _ h2.2.2.2.1) (Ev.bind hi (now rfl))))))
 unfold BI.f conflict
 refine Ah (FH _ _ _ _) ?_
 by_cases h1:EF a0 a1 a2 a3=true
 . refine pos h1 (Ah (FH _ _ _ _) ?_)
   by_cases h2:EF b0 b1 b2 b3=true
   . refine pos h2 ?_
     by_cases c1:a1=2
     . refine pos c1 ?_
       by_cases c2:b1=2
       . rw [if_neg (fun g=>g.2.2 ⟨c1,c2⟩),show (b1 == 2)=true by simp [c2]]
         exact yes
       . rw [if_pos ⟨h1,h2,fun g=>c2 g.2⟩,show (b1 == 2)=false by simp [c2]]
         exact no h1 h2
     . rw [if_pos ⟨h1,h2,fun g=>c1 g.1⟩]
       exact neg c1 (no h1 h2)
   . rw [if_neg (fun g=>h2 g.2.1)]
     exact neg h2 yes
 . rw [if_neg (fun g=>h1 g.1)]
   exact neg h1 yes
theorem Dq (l:List Ai) (a:Int):AX.f l a=some (AX.from_ a l 0):=rfl
theorem JY (a:Int):∀ (l:List Ai) (i:Int),AX.from_ a l i=-1\/(i<=AX.from_ a l i/\AX.from_ a l i<i+l.length)
 | [],_=>.inl rfl
 | x::r,i=>by
  have:=JY a r (i+1)
  simp only [AX.from_,List.length_cons]
  split <;> omega
theorem Ng {g:Nat->Nat->Option Bool} (N:Nat) (ok:Nat->Bool) (b:Bool) (hs:∀ j r,j<N->(∀ i,i<=j->ok i=true)->Ev (fun k=>g k (j+1)) r->Ev (fun k=>g k j) r)
 (hf:∀ j,j<N->(∀ i,i<j->ok i=true)->ok j=false->Ev (fun k=>g k j) false) (he:(∀ i,i<N->ok i=true)->Ev (fun k=>g k N) b):Ev (fun k=>g k 0) ((List.range N).all ok && b):=by
 have:∀ d j,j+d=N->(∀ i,i<j->ok i=true)->Ev (fun k=>g k j) ((List.range' j d).all ok && b):=by
  intro d
  induction d with
  | zero =>
   intro j hj hb
   have:j=N:=by omega
   subst this
   simpa using he hb
  | succ d ih =>
   intro j hj hb
   rw [List.range'_succ,List.all_cons]
   cases h:ok j with
   | true =>
    have hb2:∀ i,i<j+1->ok i=true:=fun i hi=>by
     by_cases e:i=j
     . rw [e];exact h
     . exact hb i oM
    simpa using hs j _ oM (fun i hi=>hb2 i oM) (ih (j+1) oM hb2)
   | false=>simpa using hf j oM hb h
 have h:=this N 0 oM (fun i hi=>by omega)
 rwa [<-List.range_eq_range'] at h
theorem P5 (xs:List Int) (j k:Nat) (h:k<j):rd (xs.take j) (k:Int)=rd xs (k:Int):=by simp [rd,List.getD_eq_getElem?_getD,List.getElem?_take,h]
theorem Jw {α:Type} (xs:List α) (j:Nat) (h:j<xs.length):(xs.take j).length=j:=by rw [List.length_take];omega
theorem G9 {α:Type} (xs:List α) (j:Nat) (h:j<xs.length):xs.take (j+1)=xs.take j++[xs[j]]:=by rw [List.take_succ_eq_append_getElem h]
def G3 (a b c d:Int):Int:=if EF a b c d=true then (if b=1 then 2 else if b=3 then 3 else 5) else 0
theorem JI (a b c d:Int):EH.f a b c d=some (G3 a b c d):=by
 unfold EH.f G3
 rw [FP,Option.bind_some]
 by_cases h:EF a b c d=true
 . rw [if_pos h,if_pos h,Option.bind_some]
   have hb:1<=b/\b<=3:=by
    have:=h
    simp only [EF,Bool.and_eq_true,decide_eq_true_eq] at this
    exact this.2.1
   have:b=1\/b=2\/b=3:=by omega
   rcases this with rfl|rfl|rfl <;> rfl
 . rw [if_neg h,if_neg h]
def fp (l:List Ai) (a:Int):Int:=AX.from_ a l 0
theorem E1 (l:List Ai) (a:Int):fp l a=-1\/(0<=fp l a/\fp l a<l.length):=by
 have:=JY a l 0
 unfold fp
 omega
theorem Py (a:Int):∀ (l:List Ai) (i:Nat),AX.from_ a l i=-1\/∃ j:Nat,AX.from_ a l i=((i+j:Nat):Int)/\(l.getD j Sv).f0=a
 | [],_=>.inl rfl
 | x::r,i=>by
  simp only [AX.from_]
  by_cases h:x.f0=a
  . rw [if_pos (by simp [h])]
    exact .inr ⟨0,by simp,by simp [h]⟩
  . rw [if_neg (by simp [h])]
    rcases Py a r (i+1) with e|⟨j,e1,e2⟩
    . left
      have:((i:Int)+1)=((i+1:Nat):Int):=by omega
      rw [this]
      exact e
    . right
      refine ⟨j+1,?_,by simpa using e2⟩
      have:((i:Int)+1)=((i+1:Nat):Int):=by omega
      rw [this,e1]
      omega
theorem Pw (l:List Ai) (a:Int) (h:¬ fp l a<0):(AA l (fp l a)).f0=a:=by
 unfold fp at h |-
 rcases Py a l 0 with e|⟨j,e1,e2⟩
 . rw [show ((0:Nat):Int)=0 from rfl] at e
   omega
 . rw [show ((0:Nat):Int)=0 from rfl] at e1
   rw [e1]
   simpa [AA] using e2
def Hs (x y:Ai):Bool:=conflict x.f0 x.f1 x.f2 x.f3 y.f0 y.f1 y.f2 y.f3
def JL (x:Ai):Int:=G3 x.f0 x.f1 x.f2 x.f3
theorem GP (x:Ai):0<=JL x/\JL x<=5:=by
 unfold JL G3
 split
 . split
   . omega
   . split <;> omega
 . omega
def Fw (l:List Ai) (ids:List Int) (i k:Nat):Bool:=!Hs (AA l (fp l (rd ids i))) (AA l (fp l (rd ids k)))
def Fa (l:List Ai) (ids:List Int) (i:Nat):Bool:=decide (¬ fp l (rd ids i)<0/\(0<i->rd ids ((i:Int)-1)<rd ids i))
def Jx (l:List Ai) (ids:List Int) (i:Nat):Bool:=Fa l ids i && (List.range i).all (Fw l ids i)
def together (l:List Ai) (ids:List Int):Bool:=(List.range ids.length).all (Jx l ids) && Cr l
theorem Eb {l:List Ai} {ids:List Int} {i:Nat} (h:Jx l ids i=true):0<=fp l (rd ids i)/\fp l (rd ids i)<l.length:=by
 simp only [Jx,Fa,Bool.and_eq_true,decide_eq_true_eq] at h
 have:=E1 l (rd ids i)
 omega
theorem GK {l:List Ai} {ids:List Int} (h:together l ids=true) (n:Int) (hn:n ∈ ids):0<=fp l n/\fp l n<l.length:=by
 simp only [together,Bool.and_eq_true] at h
 obtain ⟨i,hi,rfl⟩:=List.getElem_of_mem hn
 have:=Eb (List.all_eq_true.1 h.1 i (List.mem_range.2 hi))
 rwa [D2 ids i hi] at this
theorem El (l:List Ai) (a:Int) (hl:l.length<=9223372036854775806):Ev (fun k=>BO.f k l a) (AX.from_ a l 0):=by
 unfold BO.f
 have:∀ d j,j+d=l.length->Ev (fun k=>BO.l0 k l a (j:Int)) (AX.from_ a (l.drop j) (j:Int)):=by
  intro d
  induction d with
  | zero =>
   intro j hj
   refine shift ?_
   simp only [BO.l0]
   exact neg oM (now (by rw [List.drop_eq_nil_of_le oM];rfl))
  | succ d ih =>
   intro j hj
   have hjl:j<l.length:=by omega
   have hg:AA l (j:Int)=l[j]:=by simp [AA,hjl]
   refine shift ?_
   simp only [BO.l0]
   rw [List.drop_eq_getElem_cons hjl,hg,AX.from_]
   refine pos (Av hjl) (pos oM ?_)
   by_cases h:l[j].f0=a
   . exact pos h (now (by simp [h]))
   . refine neg h ?_
     rw [Af oM,if_neg (by simpa using h)]
     exact ih (j+1) oM
 simpa using this l.length 0 oM
theorem B7 (l:List Ai) (ids:List Int) (hl:l.length<=1048576) (hi:ids.length<=1048576):Ev (fun k=>AK.f k l ids) (together l ids):=by
 unfold AK.f together
 have find:∀ n,Ev (fun k=>BO.f k l n) (fp l n):=fun n=>El l n oM
 have yes:∀ i x:Int,Ev (fun k=>AK.j1 k l ids i x true) false:=by
  intro i x
  refine shift ?_
  simp only [AK.j1]
  exact pos trivial (now rfl)
 have head:∀ (j:Nat) (r:Bool),j<ids.length->Fa l ids j=true->Ev (fun k=>AK.l1 k l ids (j:Int) (fp l (rd ids j)) 0) r->Ev (fun k=>AK.l0 k l ids (j:Int)) r:=by
  intro j r hj ok h
  simp only [Fa,decide_eq_true_eq] at ok
  have no:Ev (fun k=>AK.j1 k l ids (j:Int) (fp l (rd ids j)) false) r:=by
   refine shift ?_
   simp only [AK.j1]
   exact neg dC h
  refine shift ?_
  simp only [AK.l0]
  refine pos (Av hj) (pos oM (Ev.bind (find _) (neg ok.1 ?_)))
  by_cases h0:(j:Int)>0
  . rw [Gn (x:=(j:Int)-1) oM oM]
    refine pos h0 (pos oM (pos oM ?_))
    rw [show decide (rd ids ((j:Int)-1)>=rd ids (j:Int))=false from decide_eq_false (by have:=ok.2 oM;omega)]
    exact no
  . exact neg h0 no
 have good:∀ (i j:Nat) (r:Bool),i<ids.length->(∀ q,q<i->0<=fp l (rd ids q)/\fp l (rd ids q)<l.length)->(0<=fp l (rd ids i)/\fp l (rd ids i)<l.length)->j<i->Fw l ids i j=true ->
  Ev (fun k=>AK.l1 k l ids (i:Int) (fp l (rd ids i)) ((j+1:Nat):Int)) r->Ev (fun k=>AK.l1 k l ids (i:Int) (fp l (rd ids i)) (j:Int)) r:=by
  intro i j r hil hq hf hj ok h
  have hf2:=hq j hj
  refine shift ?_
  simp only [AK.l1]
  rw [Af oM]
  refine pos (Av hj) (pos hf.1 (pos hf.2 (pos oM (pos oM (Ev.bind (find _) (pos hf2.1 (pos hf2.2 (Ev.bind (GV _ _ _ _ _ _ _ _) (neg ?_ h)))))))))
  simpa [Fw,Hs] using ok
 have bad:∀ (i j:Nat),i<ids.length->(∀ q,q<i->0<=fp l (rd ids q)/\fp l (rd ids q)<l.length)->(0<=fp l (rd ids i)/\fp l (rd ids i)<l.length)->j<i->Fw l ids i j=false ->
  Ev (fun k=>AK.l1 k l ids (i:Int) (fp l (rd ids i)) (j:Int)) false:=by
  intro i j hil hq hf hj ok
  have hf2:=hq j hj
  refine shift ?_
  simp only [AK.l1]
  refine pos (Av hj) (pos hf.1 (pos hf.2 (pos oM (pos oM (Ev.bind (find _) (pos hf2.1 (pos hf2.2 (Ev.bind (GV _ _ _ _ _ _ _ _) (pos ?_ (now rfl))))))))))
  simpa [Fw,Hs] using ok
 refine Ng (g:=fun k j=>AK.l0 k l ids (j:Int)) ids.length (Jx l ids) (Cr l) ?_ ?_ ?_
 . intro j r hj ok h
   have okj:=ok j (Nat.le_refl _)
   have hf:=Eb okj
   simp only [Jx,Bool.and_eq_true] at okj
   refine head j r hj okj.1 ?_
   refine Iy (g:=fun k i=>AK.l1 k l ids (j:Int) (fp l (rd ids j)) (i:Int)) j _ okj.2 (fun i r hi o g=>good j i r hj (fun q hq=>Eb (ok q oM)) hf hi o g) ?_
   refine shift ?_
   simp only [AK.l1]
   refine neg (Cz (Nat.le_refl _)) ?_
   rw [Af oM]
   exact h
 . intro j hj ok okj
   by_cases hh:Fa l ids j=true
   . have hall:¬ (List.range j).all (Fw l ids j)=true:=by
      intro g
      rw [Jx,hh,g] at okj
      exact absurd okj dC
     have hf:0<=fp l (rd ids j)/\fp l (rd ids j)<l.length:=by
      have:=hh
      simp only [Fa,decide_eq_true_eq] at this
      have:=E1 l (rd ids j)
      omega
     refine head j false hj hh ?_
     exact HN (g:=fun k i=>AK.l1 k l ids (j:Int) (fp l (rd ids j)) (i:Int)) j _ false hall (fun i r hi o g=>good j i r hj (fun q hq=>Eb (ok q hq)) hf hi o g) (fun i hi o=>bad j i hj (fun q hq=>Eb (ok q hq)) hf hi o)
   . refine shift ?_
     simp only [AK.l0]
     refine pos (Av hj) (pos oM (Ev.bind (find _) ?_))
     by_cases h1:fp l (rd ids j)<0
     . exact pos h1 (yes _ _)
     . have h2:¬ (0<j->rd ids ((j:Int)-1)<rd ids j):=fun g=>hh (by simp only [Fa];exact decide_eq_true ⟨h1,g⟩)
       refine neg h1 (pos oM ?_)
       rw [Gn (x:=(j:Int)-1) oM oM]
       refine pos oM (pos oM ?_)
       rw [show decide (rd ids ((j:Int)-1)>=rd ids (j:Int))=true from decide_eq_true oM]
       exact yes _ _
 . intro _
   refine shift ?_
   simp only [AK.l0]
   exact neg (Cz (Nat.le_refl _)) (Ev.bind (FZ l oM) (now rfl))
theorem Cg (l:List Ai) (ids:List Int) (hl:l.length<=1048576) (hi:ids.length<=1048576):Ev (fun k=>AM.f k l ids) (together l ids):=by
 unfold AM.f together
 have find:∀ n,AX.f l n=some (fp l n):=fun n=>Dq l n
 refine Ev.bind (Ei l) ?_
 by_cases hp:Cr l=true
 . rw [hp]
   refine pos rfl ?_
   have yes:∀ i x y z:Int,Ev (fun k=>AM.j1 k l ids i x ids y z true) false:=by
    intro i x y z
    refine shift ?_
    simp only [AM.j1]
    exact pos trivial (now rfl)
   have head:∀ (j:Nat) (r:Bool),j<ids.length->Fa l ids j=true->Ev (fun k=>AM.l1 k l ids (fp l (rd ids j)) ids (ids.length:Int) (j:Int) (ids.take j) (j:Int) 0) r->Ev (fun k=>AM.l0 k l ids ids (ids.length:Int) (j:Int)) r:=by
    intro j r hj ok h
    simp only [Fa,decide_eq_true_eq] at ok
    have no:Ev (fun k=>AM.j1 k l ids (j:Int) (fp l (rd ids j)) ids (ids.length:Int) (j:Int) false) r:=by
     refine shift ?_
     simp only [AM.j1]
     refine neg dC (pos oM (pos oM ?_))
     rw [Int.toNat_natCast,Jw ids j hj]
     exact h
    refine shift ?_
    simp only [AM.l0]
    refine pos (Av hj) (pos oM (pos (Av hj) (Ah (find _) (neg ok.1 ?_))))
    by_cases h0:(j:Int)>0
    . rw [Gn (x:=(j:Int)-1) oM oM]
      refine pos h0 (pos oM (pos oM ?_))
      rw [show decide (rd ids (j:Int)<=rd ids ((j:Int)-1))=false from decide_eq_false (by have:=ok.2 oM;omega)]
      exact no
    . exact neg h0 no
   have good:∀ (i j:Nat) (r:Bool),i<ids.length->(∀ q,q<i->0<=fp l (rd ids q)/\fp l (rd ids q)<l.length)->(0<=fp l (rd ids i)/\fp l (rd ids i)<l.length)->j<i->Fw l ids i j=true ->
    Ev (fun k=>AM.l1 k l ids (fp l (rd ids i)) ids (ids.length:Int) (i:Int) (ids.take i) (i:Int) ((j+1:Nat):Int)) r->Ev (fun k=>AM.l1 k l ids (fp l (rd ids i)) ids (ids.length:Int) (i:Int) (ids.take i) (i:Int) (j:Int)) r:=by
    intro i j r hil hq hf hj ok h
    have hf2:=hq j hj
    refine shift ?_
    simp only [AM.l1]
    rw [Af oM,Jw ids i hil,P5 ids i j hj]
    refine pos (Av hj) (pos oM (pos (Av hj) (pos hf.1 (pos hf.2 (Ah (find _) (pos hf2.1 (pos hf2.2 (Ev.bind (Dp _ _ _ _ _ _ _ _) (neg ?_ h)))))))))
    simpa [Fw,Hs] using ok
   have bad:∀ (i j:Nat),i<ids.length->(∀ q,q<i->0<=fp l (rd ids q)/\fp l (rd ids q)<l.length)->(0<=fp l (rd ids i)/\fp l (rd ids i)<l.length)->j<i->Fw l ids i j=false ->
    Ev (fun k=>AM.l1 k l ids (fp l (rd ids i)) ids (ids.length:Int) (i:Int) (ids.take i) (i:Int) (j:Int)) false:=by
    intro i j hil hq hf hj ok
    have hf2:=hq j hj
    refine shift ?_
    simp only [AM.l1]
    rw [Jw ids i hil,P5 ids i j hj]
    refine pos (Av hj) (pos oM (pos (Av hj) (pos hf.1 (pos hf.2 (Ah (find _) (pos hf2.1 (pos hf2.2 (Ev.bind (Dp _ _ _ _ _ _ _ _) (pos ?_ (now rfl))))))))))
    simpa [Fw,Hs] using ok
   refine Ng (g:=fun k j=>AM.l0 k l ids ids (ids.length:Int) (j:Int)) ids.length (Jx l ids) true ?_ ?_ ?_
   . intro j r hj ok h
     have okj:=ok j (Nat.le_refl _)
     have hf:=Eb okj
     simp only [Jx,Bool.and_eq_true] at okj
     refine head j r hj okj.1 ?_
     refine Iy (g:=fun k i=>AM.l1 k l ids (fp l (rd ids j)) ids (ids.length:Int) (j:Int) (ids.take j) (j:Int) (i:Int)) j _ okj.2 (fun i r hi o g=>good j i r hj (fun q hq=>Eb (ok q oM)) hf hi o g) ?_
     refine shift ?_
     simp only [AM.l1]
     refine neg (Cz (Nat.le_refl _)) ?_
     rw [Af oM]
     exact h
   . intro j hj ok okj
     by_cases hh:Fa l ids j=true
     . have hall:¬ (List.range j).all (Fw l ids j)=true:=by
        intro g
        rw [Jx,hh,g] at okj
        exact absurd okj dC
       have hf:0<=fp l (rd ids j)/\fp l (rd ids j)<l.length:=by
        have:=hh
        simp only [Fa,decide_eq_true_eq] at this
        have:=E1 l (rd ids j)
        omega
       refine head j false hj hh ?_
       exact HN (g:=fun k i=>AM.l1 k l ids (fp l (rd ids j)) ids (ids.length:Int) (j:Int) (ids.take j) (j:Int) (i:Int)) j _ false hall (fun i r hi o g=>good j i r hj (fun q hq=>Eb (ok q hq)) hf hi o g) (fun i hi o=>bad j i hj (fun q hq=>Eb (ok q hq)) hf hi o)
     . refine shift ?_
       simp only [AM.l0]
       refine pos (Av hj) (pos oM (pos (Av hj) (Ah (find _) ?_)))
       by_cases h1:fp l (rd ids j)<0
       . exact pos h1 (yes _ _ _ _)
       . have h2:¬ (0<j->rd ids ((j:Int)-1)<rd ids j):=fun g=>hh (by simp only [Fa];exact decide_eq_true ⟨h1,g⟩)
         refine neg h1 (pos oM ?_)
         rw [Gn (x:=(j:Int)-1) oM oM]
         refine pos oM (pos oM ?_)
         rw [show decide (rd ids (j:Int)<=rd ids ((j:Int)-1))=true from decide_eq_true oM]
         exact yes _ _ _ _
   . intro _
     refine shift ?_
     simp only [AM.l0]
     exact neg (Cz (Nat.le_refl _)) (now rfl)
 . exact neg hp (now (by simp [hp]))
theorem Fp (a b c d:Int):Di.f a b c d=some (G3 a b c d):=by
 unfold Di.f G3
 rw [FH,Option.bind_some]
 split
 . split
   . rfl
   . split <;> rfl
 . rfl
theorem EK (l:List Int) (a:Int) (hl:l.length<=9223372036854775806):Ev (fun k=>CD.f k l a) (decide (a ∈ l)):=by
 unfold CD.f
 have:∀ d j,j+d=l.length->Ev (fun k=>CD.l0 k l a (j:Int)) (decide (a ∈ l.drop j)):=by
  intro d
  induction d with
  | zero =>
   intro j hj
   refine shift ?_
   simp only [CD.l0]
   exact neg oM (now (by rw [List.drop_eq_nil_of_le oM];simp))
  | succ d ih =>
   intro j hj
   have hjl:j<l.length:=by omega
   refine shift ?_
   simp only [CD.l0]
   rw [List.drop_eq_getElem_cons hjl,D2 l j hjl]
   refine pos (Av hjl) (pos oM ?_)
   by_cases h:l[j]=a
   . exact pos h (now (by simp [h]))
   . refine neg h ?_
     rw [Af oM]
     have e:decide (a ∈ l[j]::l.drop (j+1))=decide (a ∈ l.drop (j+1)):=decide_eq_decide.2 ⟨fun g=>(List.mem_cons.1 g).resolve_left (fun x=>h x.symm),fun g=>List.mem_cons_of_mem _ g⟩
     rw [e]
     exact ih (j+1) oM
 simpa using this l.length 0 oM
def DA (a b:List Int):List Int:=a.filter fun n=>!decide (n ∈ b)
theorem H0 {a b:List Int} {n:Int} (h:n ∈ DA a b):n ∈ a:=(List.mem_filter.1 h).1
theorem Eh (a b:List Int):(DA a b).length<=a.length:=List.length_filter_le _ _
theorem Jr (a b:List Int) (ha:a.length<=1048576) (hb:b.length<=1048576):Ev (fun k=>C4.f k a b) (DA a b):=by
 unfold C4.f
 refine loop (g:=fun k j=>C4.l0 k a b (DA (a.take j) b) (j:Int)) (r:=DA a b) a.length ?_ ?_ |> (fun h=>by simpa [DA] using h)
 . intro j hj h
   refine shift ?_
   simp only [C4.l0]
   rw [Af oM,D2 a j hj]
   rw [DA,G9 a j hj,List.filter_append] at h
   refine pos (Av hj) (pos oM (Ev.bind (EK b _ oM) ?_))
   by_cases c:a[j] ∈ b
   . rw [List.filter_cons,List.filter_nil,decide_eq_true c] at h
     refine pos (decide_eq_true c) ?_
     simpa [DA] using h
   . rw [List.filter_cons,List.filter_nil,decide_eq_false c] at h
     have hl:=Eh (a.take j) b
     rw [Jw a j hj] at hl
     refine neg (by simpa using c) (pos oM ?_)
     simpa [DA] using h
 . refine shift ?_
   simp only [C4.l0]
   exact neg (Cz (Nat.le_refl _)) (now (by rw [List.take_length]))
theorem NR (a b:List Int) (ha:a.length<=1048576) (hb:b.length<=1048576):Ev (fun k=>DQ.f k a b false) (DA a b):=by
 unfold DQ.f
 refine loop (g:=fun k j=>DQ.l0 k b false (DA (a.take j) b) a (a.length:Int) (j:Int)) (r:=DA a b) a.length ?_ ?_ |> (fun h=>by simpa [DA] using h)
 . intro j hj h
   refine shift ?_
   simp only [DQ.l0]
   rw [Af oM,D2 a j hj]
   rw [DA,G9 a j hj,List.filter_append] at h
   refine pos (Av hj) (pos oM (pos (Av hj) (Ev.bind (Bc b _ oM) ?_)))
   by_cases c:a[j] ∈ b
   . rw [List.filter_cons,List.filter_nil,decide_eq_true c] at h
     rw [decide_eq_true c]
     refine neg dC ?_
     simpa [DA] using h
   . rw [List.filter_cons,List.filter_nil,decide_eq_false c] at h
     have hl:=Eh (a.take j) b
     rw [Jw a j hj] at hl
     rw [decide_eq_false c]
     refine pos rfl (pos oM ?_)
     simpa [DA] using h
 . refine shift ?_
   simp only [DQ.l0]
   exact neg (Cz (Nat.le_refl _)) (now (by rw [List.take_length]))
theorem Jb (a b:List Int) (ha:a.length<=1048576) (hb:b.length<=1048576):Ev (fun k=>EY.f k a b) (DA a b):=by
 unfold EY.f
 exact Ev.bind (NR a b ha hb) (now rfl)
theorem L4 (a b:Int):GI.f a b=some (mx a b):=by
 unfold GI.f mx
 by_cases h:b>a
 . rw [if_pos h,if_pos oM]
 . rw [if_neg h,if_neg oM]
def FV (l:List Ai) (i:Int) (n:Int) (k:Int):Int:=if Hs (AA l (fp l i)) (AA l (fp l k))=true then mx n (JL (AA l (fp l i))) else n
def Kp (l:List Ai) (ys:List Int) (n:Int) (i:Int):Int:=ys.foldl (FV l i) n
def D9 (l:List Ai) (a b:List Int):Int:=if together l a=true/\together l b=true then (DA a b).foldl (Kp l (DA b a)) 0 else 0
theorem LJ {α β:Type} (P:β->Prop) (f:β->α->β) (hf:∀ b a,P b->P (f b a)):∀ (l:List α) (b:β),P b->P (l.foldl f b)
 | [],_,h=>h
 | x::r,b,h=>LJ P f hf r (f b x) (hf b x h)
theorem G2 (l:List Ai) (a b:List Int):0<=D9 l a b/\D9 l a b<=5:=by
 have h1:∀ i n k,(0<=n/\n<=5)->0<=FV l i n k/\FV l i n k<=5:=by
  intro i n k h
  have:=GP (AA l (fp l i))
  unfold FV mx
  split
  . split <;> omega
  . exact h
 unfold D9
 split
 . refine LJ (fun n=>0<=n/\n<=5) _ (fun n i h=>?_) _ _ oM
   exact LJ (fun n=>0<=n/\n<=5) _ (fun n k h=>h1 i n k h) _ _ h
 . omega
theorem Ir {α β:Type} (f:β->α->β) (b:β) (l:List α) (j:Nat) (h:j<l.length):(l.take (j+1)).foldl f b=f ((l.take j).foldl f b) l[j]:=by
 rw [G9 l j h,List.foldl_append]
 rfl
theorem FO (l:List Ai) (a b:List Int) (hl:l.length<=1048576) (ha:a.length<=1048576) (hb:b.length<=1048576):Ev (fun k=>AZ.f k l a b) (D9 l a b):=by
 unfold AZ.f D9
 have find:∀ n,Ev (fun k=>BO.f k l n) (fp l n):=fun n=>El l n oM
 refine Ev.bind (Jr a b ha hb) (Ev.bind (Jr b a hb ha) ?_)
 have hx:=Eh a b
 have hy:=Eh b a
 have ta:=B7 l a hl ha
 have tb:=B7 l b hl hb
 have stop:∀ x y:Int,Ev (fun k=>AZ.j1 k l a b x (DA a b) (DA b a) y false) x:=by
  intro x y
  refine shift ?_
  simp only [AZ.j1]
  exact neg dC (now rfl)
 by_cases h:together l a=true/\together l b=true
 . rw [if_pos h]
   rw [h.1] at ta
   rw [h.2] at tb
   have fa:∀ n,n ∈ DA a b->0<=fp l n/\fp l n<l.length:=fun n hn=>GK h.1 n (H0 hn)
   have fb:∀ n,n ∈ DA b a->0<=fp l n/\fp l n<l.length:=fun n hn=>GK h.2 n (H0 hn)
   generalize DA a b=xs at hx stop fa |-
   generalize DA b a=ys at hy stop fb |-
   refine loop (g:=fun k j=>AZ.l0 k l a b ((xs.take j).foldl (Kp l ys) 0) xs ys (j:Int)) (r:=xs.foldl (Kp l ys) 0) xs.length ?_ ?_ |> (fun h=>by simpa using h)
   . intro j hj hh
     rw [Ir _ _ _ _ hj] at hh
     generalize (xs.take j).foldl (Kp l ys) 0=n at hh |-
     have hfa:=fa _ (List.getElem_mem hj)
     refine shift ?_
     simp only [AZ.l0]
     refine pos (Av hj) (Ev.bind ta (pos rfl (Ev.bind tb (shift ?_))))
     simp only [AZ.j1]
     refine pos trivial ?_
     refine loop (g:=fun k i=>AZ.l1 k l a b ((ys.take i).foldl (FV l xs[j]) n) xs ys (j:Int) (i:Int)) (r:=xs.foldl (Kp l ys) 0) ys.length ?_ ?_ |> (fun h=>by simpa using h)
     . intro i hi h2
       rw [Ir _ _ _ _ hi] at h2
       generalize (ys.take i).foldl (FV l xs[j]) n=m at h2 |-
       have hfb:=fb _ (List.getElem_mem hi)
       refine shift ?_
       simp only [AZ.l1]
       rw [Af (j:=i) oM,D2 xs j hj,D2 ys i hi]
       refine pos (Av hi) (pos oM (pos (Av hj) (Ev.bind (find _) (pos hfa.1 (pos hfa.2 (pos oM (Ev.bind (find _) (pos hfb.1 (pos hfb.2 (Ev.bind (GV _ _ _ _ _ _ _ _) ?_))))))))))
       rw [FV] at h2
       by_cases c:Hs (AA l (fp l xs[j])) (AA l (fp l ys[i]))=true
       . rw [if_pos c] at h2
         exact pos c (Ah (JI _ _ _ _) (Ah (L4 _ _) h2))
       . rw [if_neg c] at h2
         exact neg c h2
     . refine shift ?_
       simp only [AZ.l1]
       rw [Af (j:=j) oM,List.take_length]
       exact neg (Cz (Nat.le_refl _)) hh
   . refine shift ?_
     simp only [AZ.l0]
     rw [List.take_length]
     exact neg (Cz (Nat.le_refl _)) (stop _ _)
 . rw [if_neg h]
   refine shift ?_
   simp only [AZ.l0]
   by_cases c:(0:Int)<((DA a b).length:Int)
   . refine pos c (Ev.bind ta ?_)
     by_cases c1:together l a=true
     . refine pos c1 (Ev.bind tb ?_)
       rw [show together l b=false by simpa using fun g=>h ⟨c1,g⟩]
       exact stop _ _
     . exact neg c1 (stop _ _)
   . exact neg c (stop _ _)
theorem FG (l:List Ai) (a b:List Int) (hl:l.length<=1048576) (ha:a.length<=1048576) (hb:b.length<=1048576):Ev (fun k=>Ab.f k l a b) (D9 l a b):=by
 unfold Ab.f D9
 have find:∀ n,AX.f l n=some (fp l n):=fun n=>Dq l n
 have hx:=Eh a b
 have hy:=Eh b a
 have ca:=Jb a b ha hb
 have cb:=Jb b a hb ha
 have stop:Ev (fun k=>Ab.j0 k l a b 0 true) 0:=by
  refine shift ?_
  simp only [Ab.j0]
  exact pos trivial (now rfl)
 refine Ev.bind (Cg l a hl ha) ?_
 by_cases h1:together l a=true
 . refine pos h1 (Ev.bind (Cg l b hl hb) ?_)
   by_cases h2:together l b=true
   . rw [if_pos ⟨h1,h2⟩,h2]
     have fa:∀ n,n ∈ DA a b->0<=fp l n/\fp l n<l.length:=fun n hn=>GK h1 n (H0 hn)
     have fb:∀ n,n ∈ DA b a->0<=fp l n/\fp l n<l.length:=fun n hn=>GK h2 n (H0 hn)
     refine shift ?_
     simp only [Ab.j0]
     refine neg dC (Ev.bind ca ?_)
     generalize DA a b=xs at hx fa |-
     generalize DA b a=ys at hy fb cb |-
     refine loop (g:=fun k j=>Ab.l0 k l a b ((xs.take j).foldl (Kp l ys) 0) xs (xs.length:Int) (j:Int)) (r:=xs.foldl (Kp l ys) 0) xs.length ?_ ?_ |> (fun h=>by simpa using h)
     . intro j hj hh
       rw [Ir _ _ _ _ hj] at hh
       generalize (xs.take j).foldl (Kp l ys) 0=n at hh |-
       have hfa:=fa _ (List.getElem_mem hj)
       refine shift ?_
       simp only [Ab.l0]
       rw [D2 xs j hj]
       refine pos (Av hj) (pos oM (pos (Av hj) (Ev.bind cb ?_)))
       refine loop (g:=fun k i=>Ab.l1 k l a b ((ys.take i).foldl (FV l xs[j]) n) xs[j] xs (xs.length:Int) (j:Int) ys (ys.length:Int) (i:Int)) (r:=xs.foldl (Kp l ys) 0) ys.length ?_ ?_ |> (fun h=>by simpa using h)
       . intro i hi h2
         rw [Ir _ _ _ _ hi] at h2
         generalize (ys.take i).foldl (FV l xs[j]) n=m at h2 |-
         have hfb:=fb _ (List.getElem_mem hi)
         refine shift ?_
         simp only [Ab.l1]
         rw [Af (j:=i) oM,D2 ys i hi]
         refine pos (Av hi) (pos oM (pos (Av hi) (Ah (find _) (pos hfa.1 (pos hfa.2 (Ah (find _) (pos hfb.1 (pos hfb.2 (Ev.bind (Dp _ _ _ _ _ _ _ _) ?_)))))))))
         rw [FV] at h2
         by_cases c:Hs (AA l (fp l xs[j])) (AA l (fp l ys[i]))=true
         . rw [if_pos c] at h2
           exact pos c (Ah (Fp _ _ _ _) h2)
         . rw [if_neg c] at h2
           exact neg c h2
       . refine shift ?_
         simp only [Ab.l1]
         rw [Af (j:=j) oM,List.take_length]
         exact neg (Cz (Nat.le_refl _)) hh
     . refine shift ?_
       simp only [Ab.l0]
       rw [List.take_length]
       exact neg (Cz (Nat.le_refl _)) (now rfl)
   . rw [if_neg (fun g=>h2 g.2),show together l b=false by simpa using h2]
     exact stop
 . rw [if_neg (fun g=>h1 g.1)]
   exact neg h1 stop
def Bn (l:List Ai) (s:List Int) (a:Int) (n:List Int) (b:Int):Bool:=
 decide (¬ s.length=0) && (together l s && (together l n && (decide (0<=a/\a<=1000000) && (if n.length=0 then (b == 0) else decide (1<=b/\b<=D9 l s n)))))
theorem EJ (l:List Ai) (s:List Int) (a:Int) (n:List Int) (b:Int):Bn l s a n b=true↔¬ s.length=0/\together l s=true/\together l n=true/\(0<=a/\a<=1000000)/\(if n.length=0 then b=0 else 1<=b/\b<=D9 l s n):=by
 unfold Bn
 simp only [Bool.and_eq_true,decide_eq_true_eq]
 by_cases h:n.length=0
 . rw [if_pos h,if_pos h,beq_iff_eq]
 . rw [if_neg h,if_neg h,decide_eq_true_eq]
theorem IB (l:List Ai) (s:List Int) (a:Int) (n:List Int) (b:Int) (hl:l.length<=1048576) (hs:s.length<=1048576) (hn:n.length<=1048576):Ev (fun k=>Bf.f k l s a n b) (Bn l s a n b):=by
 unfold Bf.f
 have no:Ev (fun k=>Bf.j0 k l true s a n b) false:=by
  refine shift ?_
  simp only [Bf.j0]
  exact pos trivial (now rfl)
 have yes:Ev (fun k=>Bf.j0 k l false s a n b) (if n.length=0 then (b == 0) else decide (1<=b/\b<=D9 l s n)):=by
  refine shift ?_
  simp only [Bf.j0]
  refine neg dC ?_
  by_cases h:n.length=0
  . rw [if_pos h]
    exact pos oM (now rfl)
  . rw [if_neg h]
    exact neg oM (Ev.bind (FO l s n hl hs hn) (Ah (DZ _ _ _) (now rfl)))
 unfold Bn
 by_cases h0:s.length=0
 . rw [decide_eq_false oM,Bool.false_and]
   exact pos oM no
 . rw [decide_eq_true h0,Bool.true_and]
   refine neg oM (Ev.bind (B7 l s hl hs) ?_)
   by_cases h1:together l s=true
   . rw [h1,Bool.true_and]
     refine pos rfl (Ev.bind (B7 l n hl hn) ?_)
     by_cases h2:together l n=true
     . rw [h2,Bool.true_and]
       refine pos rfl (Ah (DZ _ _ _) ?_)
       by_cases h3:0<=a/\a<=1000000
       . rw [decide_eq_true h3,Bool.true_and]
         exact yes
       . rw [decide_eq_false h3,Bool.false_and]
         exact no
     . rw [Bool.eq_false_iff.mpr h2,Bool.false_and]
       exact neg dC no
   . rw [Bool.eq_false_iff.mpr h1,Bool.false_and]
     exact neg dC no
theorem D7 (l:List Ai) (s:List Int) (a:Int) (n:List Int) (b:Int) (hl:l.length<=1048576) (hs:s.length<=1048576) (hn:n.length<=1048576):Ev (fun k=>Ar.f k l s a n b) (Bn l s a n b):=by
 unfold Ar.f
 have no:Ev (fun k=>Ar.j0 k l true s a n b) false:=by
  refine shift ?_
  simp only [Ar.j0]
  exact pos trivial (now rfl)
 have yes:Ev (fun k=>Ar.j0 k l false s a n b) (if n.length=0 then (b == 0) else decide (1<=b/\b<=D9 l s n)):=by
  refine shift ?_
  simp only [Ar.j0]
  refine neg dC ?_
  by_cases h:n.length=0
  . rw [if_pos h]
    exact pos oM (now rfl)
  . rw [if_neg h]
    exact neg oM (Ev.bind (FG l s n hl hs hn) (Ah (CB _ _ _) (now rfl)))
 unfold Bn
 refine Ev.bind (Cg l s hl hs) ?_
 by_cases h1:together l s=true
 . rw [h1,Bool.true_and]
   refine pos rfl (Ev.bind (Cg l n hl hn) ?_)
   by_cases h2:together l n=true
   . rw [h2,Bool.true_and]
     refine pos rfl ?_
     by_cases h0:s.length=0
     . rw [decide_eq_false oM,Bool.false_and]
       exact pos oM no
     . rw [decide_eq_true h0,Bool.true_and]
       refine neg oM (Ah (CB _ _ _) ?_)
       by_cases h3:0<=a/\a<=1000000
       . rw [decide_eq_true h3,Bool.true_and]
         exact yes
       . rw [decide_eq_false h3,Bool.false_and]
         exact no
   . rw [Bool.eq_false_iff.mpr h2,Bool.false_and,Bool.and_false]
     exact neg dC no
 . rw [Bool.eq_false_iff.mpr h1,Bool.false_and,Bool.and_false]
   exact neg dC no
def Lf (l:List Ai) (w:List CR) (j:Nat):Bool:=
 decide (¬ fp l (AR w (j:Int)).f0<0) && (decide (0<=(AR w (j:Int)).f1/\(AR w (j:Int)).f1<=100000) && decide (0<j->(AR w ((j:Int)-1)).f0<(AR w (j:Int)).f0))
def C7 (l:List Ai) (w:List CR):Bool:=(List.range w.length).all (Lf l w) && Cr l
theorem FX (l:List Ai) (w:List CR) (hl:l.length<=1048576) (hw:w.length<=1048576):Ev (fun k=>BG.f k l w) (C7 l w):=by
 unfold BG.f C7
 refine Ev.bind (Ei l) ?_
 by_cases hp:Cr l=true
 . refine pos hp ?_
   rw [hp]
   refine E0 (g:=fun k j=>BG.l0 k l w w (w.length:Int) (j:Int)) w.length (Lf l w) true ?_ ?_ ?_
   . intro j r hj ok h
     simp only [Lf,Bool.and_eq_true,decide_eq_true_eq] at ok
     refine shift ?_
     simp only [BG.l0]
     refine pos (Av hj) (pos oM (pos (Av hj) (Ah (Dq l _) (neg ok.1 (Ah (CB _ _ _) (pos (decide_eq_true ok.2.1) ?_))))))
     rw [Af oM]
     by_cases h0:(j:Int)>0
     . rw [Gn oM oM]
       exact pos h0 (pos oM (pos oM (neg (by have:=ok.2.2 oM;omega) h)))
     . exact neg h0 h
   . intro j hj ok
     refine shift ?_
     simp only [BG.l0]
     refine pos (Av hj) (pos oM (pos (Av hj) (Ah (Dq l _) ?_)))
     by_cases h1:fp l (AR w (j:Int)).f0<0
     . exact pos h1 (now rfl)
     . refine neg h1 (Ah (CB _ _ _) ?_)
       by_cases h2:0<=(AR w (j:Int)).f1/\(AR w (j:Int)).f1<=100000
       . refine pos (decide_eq_true h2) ?_
         have h3:¬ (0<j->(AR w ((j:Int)-1)).f0<(AR w (j:Int)).f0):=fun q=>by
          rw [Lf,decide_eq_true h1,decide_eq_true h2,decide_eq_true q] at ok
          cases ok
         rw [Gn (x:=(j:Int)-1) oM oM]
         exact pos oM (pos oM (pos oM (pos oM (now rfl))))
       . exact neg (by simpa using h2) (now rfl)
   . refine shift ?_
     simp only [BG.l0]
     exact neg (Cz (Nat.le_refl _)) (now rfl)
 . rw [Bool.eq_false_iff.mpr hp,Bool.and_false]
   exact neg dC (now rfl)
def Fh (s n:List Int) (id:Int):Int:=if id ∈ s then (if n.length>0 then (if id ∈ n then 1 else 2) else 1) else 0
def E2 (l:List Ai) (s n:List Int):Nat->List Int
 | 0=>[]
 | j+1=>E2 l s n j++[Fh s n (AA l (j:Int)).f0]
theorem Iw (l:List Ai) (s n:List Int) (j:Nat):(E2 l s n j).length=j:=by
 induction j with
 | zero=>rfl
 | succ j ih=>simp [E2,ih]
def FL (l:List Ai) (s:List Int) (a:Int) (n:List Int) (b:Int):List Int:=if Bn l s a n b=true then E2 l s n l.length else []
theorem IR (l:List Ai) (s:List Int) (a:Int) (n:List Int) (b:Int) (hl:l.length<=1048576) (hs:s.length<=1048576) (hn:n.length<=1048576):Ev (fun k=>Bx.f k l s a n b) (FL l s a n b):=by
 unfold Bx.f FL
 simp only [Option.bind_some]
 refine Ev.bind (D7 l s a n b hl hs hn) ?_
 by_cases hc:Bn l s a n b=true
 . rw [if_pos hc]
   refine pos hc ?_
   have main:Ev (fun k=>Bx.l0 k (E2 l s n 0) l (l.length:Int) ((0:Nat):Int) s a n b) (E2 l s n l.length):=by
    refine IU (g:=fun k j=>Bx.l0 k (E2 l s n j) l (l.length:Int) (j:Int) s a n b) (r:=E2 l s n l.length) 0 l.length oM (fun j _ hj h=>?_) ?_
    . have hlen:=Iw l s n j
      refine shift ?_
      simp only [Bx.l0]
      rw [Af (j:=j) oM]
      refine pos (Av hj) (pos oM (pos (Av hj) (Ev.bind (Bc s _ oM) ?_)))
      have e:E2 l s n (j+1)=E2 l s n j++[Fh s n (AA l (j:Int)).f0]:=rfl
      rw [e] at h
      unfold Fh at h
      by_cases h1:(AA l (j:Int)).f0 ∈ s
      . rw [if_pos h1] at h
        refine pos (decide_eq_true h1) ?_
        by_cases h2:n.length>0
        . rw [if_pos h2] at h
          refine pos oM (Ev.bind (Bc n _ oM) ?_)
          by_cases h3:(AA l (j:Int)).f0 ∈ n
          . rw [if_pos h3] at h
            exact pos (decide_eq_true h3) (pos oM h)
          . rw [if_neg h3] at h
            exact neg (by simpa using h3) (pos oM h)
        . rw [if_neg h2] at h
          exact neg oM (pos oM h)
      . rw [if_neg h1] at h
        exact neg (by simpa using h1) (pos oM h)
    . refine shift ?_
      simp only [Bx.l0]
      exact neg (Cz (Nat.le_refl _)) (now rfl)
   exact main
 . rw [if_neg hc]
   exact neg hc (now rfl)
theorem Gd (w:List CR) (j:Nat) (h:j<w.length):AR w (j:Int)=w[j]:=by simp [AR,h]
def RD (l:List Ai) (w:List CR):Prop:=Cr l=true/\(∀ x ∈ w,¬ fp l x.f0<0/\0<=x.f1/\x.f1<=100000)/\w.Pairwise (fun x y=>x.f0<y.f0)
theorem GA (l:List Ai) (w:List CR):C7 l w=true↔RD l w:=by
 unfold C7 RD
 rw [Bool.and_eq_true,List.all_eq_true]
 constructor
 . rintro ⟨h,hp⟩
   have g:∀ j:Nat,j<w.length->¬ fp l (AR w (j:Int)).f0<0/\(0<=(AR w (j:Int)).f1/\(AR w (j:Int)).f1<=100000)/\(0<j->(AR w ((j:Int)-1)).f0<(AR w (j:Int)).f0):=by
    intro j hj
    have:=h j (List.mem_range.2 hj)
    simpa only [Lf,Bool.and_eq_true,decide_eq_true_eq] using this
   refine ⟨hp,fun x hx=>?_,?_⟩
   . obtain ⟨j,hj,rfl⟩:=List.mem_iff_getElem.1 hx
     have:=g j hj
     rw [Gd w j hj] at this
     exact ⟨this.1,this.2.1.1,this.2.1.2⟩
   . have hlt:∀ (a b:Nat),a<b->b<w.length->(AR w (a:Int)).f0<(AR w (b:Int)).f0:=by
      intro a b
      induction b with
      | zero=>intro h;omega
      | succ b ih =>
       intro h1 h2
       have q:=(g (b+1) h2).2.2 oM
       rw [show ((b+1:Nat):Int)-1=(b:Int) by omega] at q
       rcases Nat.lt_or_ge a b with z|z
       . have:=ih z oM;omega
       . have:a=b:=by omega
         rw [this];exact q
     refine List.pairwise_iff_getElem.2 (fun i j hi hj hij=>?_)
     have:=hlt i j hij hj
     rwa [Gd w i hi,Gd w j hj] at this
 . rintro ⟨hp,h1,h2⟩
   refine ⟨fun j hj=>?_,hp⟩
   have hj:=List.mem_range.1 hj
   have q:=h1 w[j] (List.getElem_mem hj)
   simp only [Lf,Bool.and_eq_true,decide_eq_true_eq]
   rw [Gd w j hj]
   refine ⟨q.1,⟨q.2.1,q.2.2⟩,fun h0=>?_⟩
   rw [show (j:Int)-1=((j-1:Nat):Int) by omega,Gd w (j-1) oM]
   exact List.pairwise_iff_getElem.1 h2 (j-1) j oM hj oM
def stays (l:List Ai) (v:List Int) (x:CR):Bool:=decide (fp l x.f0<0\/fp l x.f0>=v.length\/¬ rd v (fp l x.f0)=1)
def EP (l:List Ai) (v:List Int) (w:List CR):Nat->List CR
 | 0=>[]
 | j+1=>if stays l v (AR w (j:Int))=true then EP l v w j++[(⟨(AR w (j:Int)).f0,mn 100000 ((AR w (j:Int)).f1+1)⟩:CR)] else EP l v w j
theorem Pl (l:List Ai) (v:List Int) (w:List CR) (j:Nat):(EP l v w j).length<=j:=by
 induction j with
 | zero=>simp [EP]
 | succ j ih =>
  rw [EP]
  split
  . simp;omega
  . omega
theorem O8 (l:List Ai) (v:List Int) (w:List CR) (h:RD l w):∀ j,j<=w.length->(∀ x ∈ EP l v w j,∃ i,i<j/\x.f0=(AR w (i:Int)).f0/\0<=x.f1/\x.f1<=100000)/\(EP l v w j).Pairwise (fun x y=>x.f0<y.f0):=by
 intro j
 induction j with
 | zero=>intro _;simp [EP]
 | succ j ih =>
  intro hj
  obtain ⟨h1,h2⟩:=ih oM
  rw [EP]
  split
  . have hb:=h.2.1 w[j] (List.getElem_mem oM)
    have hw:=Gd w j oM
    constructor
    . intro x hx
      rcases List.mem_append.1 hx with q|q
      . obtain ⟨i,g1,g2⟩:=h1 x q
        exact ⟨i,by omega,g2⟩
      . rw [List.mem_singleton.1 q]
        refine ⟨j,by omega,rfl,?_⟩
        rw [hw]
        dsimp only
        unfold mn
        split <;> omega
    . rw [List.pairwise_append]
      refine ⟨h2,by simp,fun x hx y hy=>?_⟩
      obtain ⟨i,g1,g2,_⟩:=h1 x hx
      rw [List.mem_singleton.1 hy,g2]
      dsimp only
      rw [Gd w i oM,hw]
      exact List.pairwise_iff_getElem.1 h.2.2 i j oM oM g1
  . exact ⟨fun x hx=>by obtain ⟨i,g1,g2⟩:=h1 x hx;exact ⟨i,by omega,g2⟩,h2⟩
theorem K8 (l:List Ai) (v:List Int) (w:List CR) (h:C7 l w=true):C7 l (EP l v w w.length)=true:=by
 have hg:=(GA l w).1 h
 obtain ⟨h1,h2⟩:=O8 l v w hg w.length (Nat.le_refl _)
 refine (GA l _).2 ⟨hg.1,fun x hx=>?_,h2⟩
 obtain ⟨i,g1,g2,g3,g4⟩:=h1 x hx
 rw [g2,Gd w i g1]
 exact ⟨(hg.2.1 w[i] (List.getElem_mem g1)).1,g3,g4⟩
def Mt:List CR->Int->List CR
 | [],p=>[(⟨p,0⟩:CR)]
 | x::r,p=>if x.f0<p then x::Mt r p else (⟨p,0⟩:CR)::x::r
theorem RI (w:List CR) (p:Int):(Mt w p).length=w.length+1:=by
 induction w with
 | nil=>rfl
 | cons x r ih =>
  simp only [Mt]
  split
  . simp [ih]
  . simp
theorem PT (w:List CR) (p:Int) (h:∃ x ∈ w,x.f0=p):¬ (Mt w p).Pairwise (fun x y=>x.f0<y.f0):=by
 induction w with
 | nil=>obtain ⟨x,hx,_⟩:=h;cases hx
 | cons x r ih =>
  obtain ⟨y,hy,e⟩:=h
  simp only [Mt]
  split
  . rename_i hx
    intro g
    rw [List.pairwise_cons] at g
    rcases List.mem_cons.1 hy with q|q
    . rw [<-q,e] at hx;omega
    . exact ih ⟨y,q,e⟩ g.2
  . intro g
    rw [List.pairwise_cons] at g
    have:=g.1 y hy
    dsimp only at this
    omega
def Qx (l:List Ai) (w:List CR) (p:Int):List CR×Bool:=if C7 l (Mt w p)=true then (Mt w p,true) else (w,false)
theorem PG (l:List Ai) (w:List CR) (p:Int) (h:∃ x ∈ w,x.f0=p):Qx l w p=(w,false):=if_neg (fun q=>PT w p h ((GA l _).1 q).2.2)
theorem PH (l:List Ai) (w:List CR) (p:Int) (h:C7 l w=true):C7 l (Qx l w p).1=true:=by
 unfold Qx
 split
 . assumption
 . exact h
theorem PU (w:List CR) (p:Int):CK.l0 w p=Mt w p:=by
 induction w with
 | nil=>rfl
 | cons x r ih=>simp only [CK.l0,Mt,ih]
theorem L8 (l:List Ai) (w:List CR) (p:Int) (hl:l.length<=1048576) (hw:w.length<=1048575):Ev (fun k=>CK.f k l w p) (Qx l w p):=by
 unfold CK.f
 have hil:=RI w p
 refine pos oM ?_
 rw [PU]
 by_cases h:∃ x ∈ w,x.f0=p
 . rw [PG l w p h]
   obtain ⟨x,hx,e⟩:=h
   exact pos (List.any_eq_true.2 ⟨x,hx,by simpa using e⟩) (now rfl)
 . refine neg (fun q=>?_) (Ev.bind (FX l (Mt w p) hl oM) ?_)
   . obtain ⟨x,hx,e⟩:=List.any_eq_true.1 q
     exact h ⟨x,hx,by simpa using e⟩
   . by_cases h2:C7 l (Mt w p)=true
     . exact pos h2 (now (if_pos h2).symm)
     . exact neg h2 (now (if_neg h2).symm)
theorem C8 (l:List Int) (hl:l.length<=1048576):As.f l=some l:=by
 unfold As.f
 rw [Option.bind_some,if_pos (by simp;omega)]
 simp
theorem FJ (s:List Int) (a:Int) (n:List Int) (b:Int) (hs:s.length<=1048576) (hn:n.length<=1048576):CS.f s a n b=some (s,a,n,b):=by
 unfold CS.f
 rw [C8 s hs,C8 n hn]
 rfl
def FA (w:List CR) (s:List Int):Nat->Int
 | 0=>-1
 | j+1=>if (AR w (j:Int)).f0 ∈ s then FA w s j else if FA w s j<0 then (j:Int) else if (AR w (j:Int)).f1>(AR w (FA w s j)).f1 then (j:Int) else FA w s j
theorem OK (w:List CR) (s:List Int) (j:Nat):-1<=FA w s j/\FA w s j<j:=by
 induction j with
 | zero=>simp [FA]
 | succ j ih =>
  rw [FA]
  split
  . omega
  . split
    . omega
    . split <;> omega
def GG (w:List CR) (s:List Int):Int:=if FA w s w.length<0 then 0 else (AR w (FA w s w.length)).f0
def LP (w:List CR) (s:List Int) (j:Nat):Int×Int:=if FA w s j<0 then (0,0) else ((AR w (FA w s j)).f0,(AR w (FA w s j)).f1)
theorem J8 (w:List CR) (s:List Int) (hw:w.length<=1048576) (hs:s.length<=1048576):Ev (fun k=>BX.f k w s) (GG w s):=by
 unfold BX.f
 have main:Ev (fun k=>BX.l0 k s (decide (¬ FA w s 0<0)) w (w.length:Int) ((0:Nat):Int) (LP w s 0).1 (LP w s 0).2) (GG w s):=by
  refine IU (g:=fun k j=>BX.l0 k s (decide (¬ FA w s j<0)) w (w.length:Int) (j:Int) (LP w s j).1 (LP w s j).2) 0 w.length oM (fun j _ hj h=>?_) ?_
  . have hr:=OK w s j
    refine shift ?_
    simp only [BX.l0]
    rw [Af (j:=j) oM]
    refine pos (Av hj) (pos oM (pos (Av hj) (Ev.bind (Bc s _ oM) ?_)))
    unfold LP at h |-
    rw [FA] at h
    by_cases h1:(AR w (j:Int)).f0 ∈ s
    . rw [if_pos h1] at h
      exact pos (decide_eq_true h1) h
    . rw [if_neg h1] at h
      refine neg (by simpa using h1) ?_
      have hj0:¬ (j:Int)<0:=by omega
      by_cases h2:FA w s j<0
      . rw [if_pos h2,if_neg hj0,decide_eq_true hj0] at h
        exact neg (by simp [h2]) h
      . rw [if_neg h2] at h
        refine pos (decide_eq_true h2) ?_
        rw [if_neg h2]
        by_cases h3:(AR w (j:Int)).f1>(AR w (FA w s j)).f1
        . rw [if_pos h3,if_neg hj0,decide_eq_true hj0] at h
          exact pos h3 h
        . rw [if_neg h3,if_neg h2] at h
          exact neg h3 h
  . refine shift ?_
    simp only [BX.l0]
    refine neg (Cz (Nat.le_refl _)) (now ?_)
    unfold LP GG
    split <;> rfl
 exact main
theorem Ju (l:List Int) (a:Int) (hl:l.length<=1048576) (j:Nat) (hj:j<=l.length):Ev (fun k=>BQ.j2 k l a (j:Int) false) (l.take j++[a]++l.drop j):=by
 refine shift ?_
 simp only [BQ.j2,Option.bind_some,List.nil_append,Int.toNat_natCast]
 exact neg sM (pos oM (pos oM (pos (by simp;omega) (pos (by simp;omega) (pos (by simp;omega) (now rfl))))))
theorem ND (l:List Int) (a:Int) (hl:l.length<=1048576) (j:Nat) (hj:j=l.length):Ev (fun k=>BQ.l0 k l a (j:Int)) (l.take j++[a]++l.drop j):=by
 refine shift ?_
 simp only [BQ.l0]
 refine neg oM (shift ?_)
 simp only [BQ.j1]
 exact neg sM (neg oM (Ju l a hl j oM))
theorem MG (l:List Int) (a:Int) (hl:l.length<=1048576) (j:Nat) (hjl:j<l.length) (h1:l[j]<a) {r:List Int} (h:Ev (fun k=>BQ.l0 k l a ((j+1:Nat):Int)) r):Ev (fun k=>BQ.l0 k l a (j:Int)) r:=by
 refine shift ?_
 simp only [BQ.l0]
 rw [D2 l j hjl,decide_eq_true h1]
 refine pos (Av hjl) (pos oM (shift ?_))
 simp only [BQ.j1]
 rw [Af oM]
 exact pos trivial h
theorem MF (l:List Int) (a:Int) (hl:l.length<=1048576) (j:Nat) (hjl:j<l.length) (h1:¬ l[j]<a):Ev (fun k=>BQ.l0 k l a (j:Int)) (if l[j]=a then l else l.take j++[a]++l.drop j):=by
 refine shift ?_
 simp only [BQ.l0]
 rw [D2 l j hjl,decide_eq_false h1]
 refine pos (Av hjl) (pos oM (shift ?_))
 simp only [BQ.j1]
 rw [D2 l j hjl]
 refine neg sM (pos (Av hjl) (pos oM ?_))
 by_cases h2:l[j]=a
 . rw [beq_iff_eq.2 h2,if_pos h2]
   refine shift ?_
   simp only [BQ.j2,Option.bind_some,List.nil_append]
   exact pos trivial (pos (by simp;omega) (now rfl))
 . rw [beq_eq_false_iff_ne.2 h2,if_neg h2]
   exact Ju l a hl j oM
theorem IJ (l:List Int) (a:Int) (hl:l.length<=1048576):∃ r,Ev (fun k=>BQ.f k l a) r/\(∀ s,s ∈ r↔s ∈ l\/s=a)/\r.length<=l.length+1:=by
 unfold BQ.f
 have split:∀ (j:Nat) s,s ∈ l.take j++[a]++l.drop j↔s ∈ l\/s=a:=by
  intro j s
  have e:s ∈ l↔s ∈ l.take j\/s ∈ l.drop j:=by rw [<-List.mem_append,List.take_append_drop]
  simp only [List.mem_append,List.mem_singleton,e]
  constructor
  . rintro ((h|h)|h)
    . exact .inl (.inl h)
    . exact .inr h
    . exact .inl (.inr h)
  . rintro ((h|h)|h)
    . exact .inl (.inl h)
    . exact .inr h
    . exact .inl (.inr h)
 have:∀ d j,j+d=l.length->∃ r,Ev (fun k=>BQ.l0 k l a (j:Int)) r/\(∀ s,s ∈ r↔s ∈ l\/s=a)/\r.length<=l.length+1:=by
  intro d
  induction d with
  | zero =>
   intro j hj
   exact ⟨l.take j++[a]++l.drop j,ND l a hl j oM,split j,by simp;omega⟩
  | succ d ih =>
   intro j hj
   have hjl:j<l.length:=by omega
   by_cases h1:l[j]<a
   . obtain ⟨r,h,h2,h3⟩:=ih (j+1) oM
     exact ⟨r,MG l a hl j hjl h1 h,h2,h3⟩
   . have h:=MF l a hl j hjl h1
     by_cases h2:l[j]=a
     . rw [if_pos h2] at h
       exact ⟨l,h,fun s=>⟨.inl,fun g=>g.elim id (fun e=>by rw [e,<-h2];exact List.getElem_mem hjl)⟩,by omega⟩
     . rw [if_neg h2] at h
       exact ⟨l.take j++[a]++l.drop j,h,split j,by simp;omega⟩
 exact this l.length 0 oM
def G5:List Int->Int->List Int
 | [],a=>[a]
 | x::r,a=>if x<a then x::G5 r a else if x=a then x::r else a::x::r
theorem Ot (l:List Int) (a:Int):(G5 l a).length<=l.length+1:=by
 induction l with
 | nil=>simp [G5]
 | cons x r ih =>
  simp only [G5]
  split
  . simp;omega
  . split <;> simp
theorem RP (l:List Int) (a s:Int):s ∈ G5 l a↔s ∈ l\/s=a:=by
 induction l with
 | nil=>simp [G5]
 | cons x r ih =>
  simp only [G5]
  split
  . simp only [List.mem_cons,ih]
    constructor
    . rintro (h|h|h)
      . exact .inl (.inl h)
      . exact .inl (.inr h)
      . exact .inr h
    . rintro ((h|h)|h)
      . exact .inl h
      . exact .inr (.inl h)
      . exact .inr (.inr h)
  . split
    . rename_i _ e
      constructor
      . exact .inl
      . rintro (h|h)
        . exact h
        . rw [h,<-e];exact List.mem_cons_self
    . simp only [List.mem_cons]
      constructor
      . rintro (h|h)
        . exact .inr h
        . exact .inl h
      . rintro (h|h)
        . exact .inr h
        . exact .inl h
theorem RW (l:List Int) (a:Int) (h:l.Pairwise (· < ·)):(G5 l a).Pairwise (· < ·):=by
 induction l with
 | nil=>simp [G5]
 | cons x r ih =>
  rw [List.pairwise_cons] at h
  simp only [G5]
  split
  . rename_i hx
    rw [List.pairwise_cons]
    refine ⟨fun s hs=>?_,ih h.2⟩
    rcases (RP r a s).1 hs with q|q
    . exact h.1 s q
    . omega
  . split
    . rw [List.pairwise_cons];exact h
    . rename_i hx he
      rw [List.pairwise_cons,List.pairwise_cons]
      refine ⟨fun s hs=>?_,h⟩
      rcases List.mem_cons.1 hs with q|q
      . omega
      . have:=h.1 s q;omega
theorem Pc (l:List Int) (a:Int):∀ j,j<=l.length->(∀ i,i<j->rd l (i:Int)<a)->G5 l a=l.take j++G5 (l.drop j) a:=by
 intro j
 induction l generalizing j with
 | nil=>intro hj _;(have:j=0:=by simpa using hj);subst this;simp
 | cons x r ih =>
  intro hj h
  cases j with
  | zero=>simp
  | succ j =>
   have hx:x<a:=by simpa [rd] using h 0 oM
   simp only [List.take_succ_cons,List.drop_succ_cons,List.cons_append,G5,if_pos hx]
   rw [ih j (by simpa using hj) (fun i hi=>by have:=h (i+1) oM;simpa [rd] using this)]
theorem JA (a b:Int):EX.f a b=some (decide (a<b)):=by
 simp [EX.f,DV.f]
theorem RX (l:List Int) (a:Int) (i:Nat) (hi:i<=l.length) (h1:∀ j,j<i->rd l (j:Int)<a) (h2:∀ j,i<=j->j<l.length->a<rd l (j:Int)):G5 l a=l.take i++[a]++l.drop i:=by
 rw [Pc l a i hi h1]
 rcases Nat.lt_or_ge i l.length with q|q
 . have:=h2 i (Nat.le_refl _) q
   rw [D2 l i q] at this
   rw [List.drop_eq_getElem_cons q]
   simp only [G5]
   rw [if_neg oM,if_neg oM]
   simp
 . rw [List.drop_eq_nil_of_le q]
   simp [G5]
theorem GU (l:List Int) (a:Int) (hl:l.length<=1048576) (hs:l.Pairwise (· < ·)) (ha:¬ a ∈ l):∃ i:Nat,i<=l.length/\Ev (fun k=>Al.f k l a) ((i:Int),false)/\G5 l a=l.take i++[a]++l.drop i:=by
 unfold Al.f
 have asc:∀ i j:Nat,i<j->j<l.length->rd l (i:Int)<rd l (j:Int):=by
  intro i j hij hj
  rw [D2 l i oM,D2 l j hj]
  exact List.pairwise_iff_getElem.1 hs i j oM hj hij
 have ne:∀ i:Nat,i<l.length->¬ rd l (i:Int)=a:=by
  intro i hi e
  rw [D2 l i hi] at e
  exact ha (e ▸ List.getElem_mem hi)
 have:∀ d i j:Nat,j-i<=d->i<=j->j<=l.length->(∀ q,q<i->rd l (q:Int)<a)->(∀ q,j<=q->q<l.length->a<rd l (q:Int)) ->
  ∃ p:Nat,p<=l.length/\Ev (fun k=>Al.l0 k l a (l.length:Int) (i:Int) (j:Int)) ((p:Int),false)/\G5 l a=l.take p++[a]++l.drop p:=by
  intro d
  induction d with
  | zero =>
   intro i j hd hij hj h1 h2
   have:i=j:=by omega
   subst this
   refine ⟨i,hj,shift ?_,RX l a i hj h1 h2⟩
   simp only [Al.l0]
   refine neg oM ?_
   by_cases hi:i<l.length
   . exact pos oM (pos oM (pos oM (neg (ne i hi) (Ah (a:=false) (by simp [DN.f]) (neg dC (now rfl))))))
   . exact neg oM (now rfl)
  | succ d ih =>
   intro i j hd hij hj h1 h2
   by_cases hlt:i<j
   . obtain ⟨m,hm⟩:∃ m,m=(i+j) / 2:=⟨_,rfl⟩
     have e:wrap64 ((IntKind.u64.wrap (wrap64 ((i:Int)+(j:Int)))) / 2)=(m:Int):=by
      rw [Gn (x:=(i:Int)+(j:Int)) oM oM]
      have e2:IntKind.u64.wrap ((i:Int)+(j:Int))=(i:Int)+(j:Int):=by
       rw [show IntKind.u64.wrap ((i:Int)+(j:Int))=((i:Int)+(j:Int)) % 18446744073709551616 from rfl]
       omega
      rw [e2,Gn oM oM]
      omega
     by_cases hc:rd l (m:Int)<a
     . obtain ⟨p,hp,hE,hP⟩:=ih (m+1) j oM oM hj (fun q hq=>by
        rcases Nat.lt_or_ge q m with z|z
        . have:=asc q m z oM;omega
        . have:q=m:=by omega
          rw [this];exact hc) h2
       refine ⟨p,hp,shift ?_,hP⟩
       simp only [Al.l0]
       rw [e,Af (j:=m) oM]
       exact pos oM (pos oM (pos oM (Ah (JA _ _) (pos (decide_eq_true hc) hE))))
     . obtain ⟨p,hp,hE,hP⟩:=ih i m oM oM oM h1 (fun q hq hql=>by
        have hm2:=ne m oM
        rcases Nat.lt_or_ge m q with z|z
        . have:=asc m q z hql;omega
        . have:q=m:=by omega
          rw [this];omega)
       refine ⟨p,hp,shift ?_,hP⟩
       simp only [Al.l0]
       rw [e]
       exact pos oM (pos oM (pos oM (Ah (JA _ _) (neg (by simpa using hc) hE))))
   . exact ih i j oM hij hj h1 h2
 exact this l.length 0 l.length oM oM (Nat.le_refl _) (fun q hq=>by omega) (fun q h1 h2=>by omega)
theorem LN (l:List Int) (a:Int) (hl:l.length<=1048576) (hs:l.Pairwise (· < ·)) (ha:¬ a ∈ l):Ev (fun k=>Ec.f k l a) (G5 l a):=by
 unfold Ec.f
 obtain ⟨i,hi,hE,hP⟩:=GU l a hl hs ha
 refine Ev.bind hE (Ah (C8 l hl) (pos (by dsimp only;omega) (pos (by dsimp only;omega) (pos oM (now ?_)))))
 rw [hP]
 simp [Kt]
theorem OP {l:List Ai} {ids:List Int} (h:together l ids=true):ids.Pairwise (· < ·):=by
 simp only [together,Bool.and_eq_true] at h
 have hst:∀ j,0<j->j<ids.length->rd ids ((j:Int)-1)<rd ids (j:Int):=by
  intro j h0 hj
  have:=List.all_eq_true.1 h.1 j (List.mem_range.2 hj)
  simp only [Jx,Fa,Bool.and_eq_true,decide_eq_true_eq] at this
  exact this.1.2 h0
 have hlt:∀ (a b:Nat),a<b->b<ids.length->rd ids (a:Int)<rd ids (b:Int):=by
  intro a b
  induction b with
  | zero=>intro h;omega
  | succ b ih =>
   intro h1 h2
   have q:=hst (b+1) oM h2
   rw [show ((b+1:Nat):Int)-1=(b:Int) by omega] at q
   rcases Nat.lt_or_ge a b with z|z
   . have:=ih z oM;omega
   . have:a=b:=by omega
     rw [this];exact q
 refine List.pairwise_iff_getElem.2 (fun i j hi hj hij=>?_)
 have:=hlt i j hij hj
 rwa [D2 ids i hi,D2 ids j hj] at this
theorem D5 {l:List Ai} {ids:List Int} (h:together l ids=true):Cr l=true:=by
 simp only [together,Bool.and_eq_true] at h
 exact h.2
theorem K7 {l:List Ai} (h:Cr l=true):together l []=true:=by
 simp [together,h]
theorem RY (l:List Int) (a:Int) (h:l.Pairwise (· < ·)) (ha:a ∈ l):G5 l a=l:=by
 induction l with
 | nil=>cases ha
 | cons x r ih =>
  rw [List.pairwise_cons] at h
  simp only [G5]
  rcases List.mem_cons.1 ha with q|q
  . rw [if_neg oM,if_pos q.symm]
  . rw [if_pos (h.1 a q),ih h.2 q]
def Gi (l:List Ai) (ids:List Int):Nat->List Int
 | 0=>ids
 | j+1=>if together l (G5 (Gi l ids j) (AA l (j:Int)).f0)=true then G5 (Gi l ids j) (AA l (j:Int)).f0 else Gi l ids j
theorem Nf (l:List Ai) (ids:List Int) (j:Nat):(Gi l ids j).length<=ids.length+j:=by
 induction j with
 | zero=>simp [Gi]
 | succ j ih =>
  have:=Ot (Gi l ids j) (AA l (j:Int)).f0
  rw [Gi]
  split <;> omega
theorem P9 (l:List Ai) (ids:List Int) (h:ids.Pairwise (· < ·)) (j:Nat):(Gi l ids j).Pairwise (· < ·):=by
 induction j with
 | zero=>exact h
 | succ j ih =>
  rw [Gi]
  split
  . exact RW _ _ ih
  . exact ih
def OZ (l:List Ai) (ids:List Int):List Int:=if together l ids=true then Gi l ids l.length else ids
theorem KW (l:List Ai) (ids:List Int) (hl:l.length<=1000) (hi:ids.length<=1000):Ev (fun k=>B4.f k l ids) (OZ l ids):=by
 unfold B4.f OZ
 refine Ah (C8 ids oM) (Ev.bind (Cg l ids oM oM) ?_)
 by_cases ht:together l ids=true
 . rw [if_pos ht]
   refine pos ht ?_
   have main:Ev (fun k=>B4.l0 k l (Gi l ids 0) l (l.length:Int) ((0:Nat):Int)) (Gi l ids l.length):=by
    refine IU (g:=fun k j=>B4.l0 k l (Gi l ids j) l (l.length:Int) (j:Int)) 0 l.length oM (fun j _ hj h=>?_) ?_
    . have hlen:=Nf l ids j
      have hasc:=P9 l ids (OP ht) j
      have hlen2:=Ot (Gi l ids j) (AA l (j:Int)).f0
      refine shift ?_
      simp only [B4.l0]
      rw [Af (j:=j) oM]
      refine pos (Av hj) (pos oM (pos (Av hj) (Ev.bind (Bc _ _ oM) ?_)))
      rw [Gi] at h
      by_cases hm:(AA l (j:Int)).f0 ∈ Gi l ids j
      . rw [RY _ _ hasc hm,ite_self] at h
        exact pos (decide_eq_true hm) h
      . refine neg (by simpa using hm) (Ev.bind (LN _ _ oM hasc hm) (Ev.bind (Cg l _ oM oM) ?_))
        by_cases h1:together l (G5 (Gi l ids j) (AA l (j:Int)).f0)=true
        . rw [if_pos h1] at h
          exact pos h1 h
        . rw [if_neg h1] at h
          exact neg h1 h
    . refine shift ?_
      simp only [B4.l0]
      exact neg (Cz (Nat.le_refl _)) (now rfl)
   exact main
 . rw [if_neg ht]
   exact neg ht (now rfl)
theorem LR {l:List Ai} (h:Cr l=true):l.length<=12:=by
 simp only [Cr,Bool.and_eq_true,decide_eq_true_eq] at h
 exact h.2
theorem Ga {l:List Ai} {s:List Int} {a:Int} {n:List Int} {b:Int} (h:Bn l s a n b=true):Cr l=true:=D5 ((EJ l s a n b).1 h).2.1
def Hg (l:List Ai) (s:List Int) (a:Int) (n:List Int) (b:Int) (w:List CR):List Int:=if ¬ GG w s=0/\Bn l s a n b=true/\C7 l w=true then OZ l [GG w s] else []
theorem Mv (l:List Ai) (s:List Int) (a:Int) (n:List Int) (b:Int) (w:List CR):(Hg l s a n b w).length<=13:=by
 unfold Hg
 split
 . rename_i h
   have h12:=LR (Ga h.2.1)
   unfold OZ
   split
   . have:=Nf l [GG w s] l.length
     simp at this
     omega
   . simp
 . simp
theorem H5 (l:List Ai) (s:List Int) (a:Int) (n:List Int) (b:Int) (w:List CR) (hl:l.length<=1048576) (hs:s.length<=1048576) (hn:n.length<=1048576) (hw:w.length<=1048576):Ev (fun k=>DD.f k l s a n b w) (Hg l s a n b w):=by
 unfold DD.f
 refine Ev.bind (J8 w s hw hs) ?_
 by_cases h0:GG w s=0
 . exact pos h0 (now (if_neg (fun q=>q.1 h0)).symm)
 . refine neg h0 (Ev.bind (D7 l s a n b hl hs hn) ?_)
   by_cases h1:Bn l s a n b=true
   . refine pos h1 (Ev.bind (FX l w hl hw) ?_)
     have h12:=LR (Ga h1)
     by_cases h2:C7 l w=true
     . have e:Hg l s a n b w=OZ l [GG w s]:=if_pos ⟨h0,h1,h2⟩
       rw [e]
       exact pos h2 (Ev.bind (KW l [GG w s] oM sM) (now rfl))
     . exact neg h2 (now (if_neg (fun q=>h2 q.2.2)).symm)
   . exact neg h1 (now (if_neg (fun q=>h1 q.2.1)).symm)
def G4 (l:List Ai) (st:List Int) (i:Nat):Bool:=!decide (fp l (rd st i)>=0/\(AA l (fp l (rd st i))).f1=2)
def Hd (l:List Ai) (st:List Int):Int:=if (List.range st.length).all (G4 l st)=true then 5 else 7
theorem Ku (l:List Ai) (st:List Int):5<=Hd l st:=by unfold Hd;split <;> omega
theorem Et (l:List Ai) (st:List Int) (hl:l.length<=1048576) (hs:st.length<=1048576):Ev (fun k=>BW.f k l st) (Hd l st):=by
 unfold BW.f Hd
 have find:∀ n,Ev (fun k=>BO.f k l n) (fp l n):=fun n=>El l n oM
 have good:∀ j r,j<st.length->G4 l st j=true->Ev (fun k=>BW.l0 k l st ((j+1:Nat):Int)) r->Ev (fun k=>BW.l0 k l st (j:Int)) r:=by
  intro j r hj ok h
  simp only [G4,Bool.not_eq_true',decide_eq_false_iff_not] at ok
  have:=E1 l (rd st j)
  refine shift ?_
  simp only [BW.l0]
  rw [Af oM]
  refine pos (Av hj) (pos oM (Ev.bind (find _) ?_))
  by_cases h0:fp l (rd st j)>=0
  . exact pos h0 (pos h0 (pos oM (neg (fun g=>ok ⟨h0,g⟩) h)))
  . exact neg h0 h
 by_cases h:(List.range st.length).all (G4 l st)=true
 . rw [if_pos h]
   refine Iy (g:=fun k j=>BW.l0 k l st (j:Int)) st.length _ h good ?_
   refine shift ?_
   simp only [BW.l0]
   exact neg (Cz (Nat.le_refl _)) (now rfl)
 . rw [if_neg h]
   refine HN (g:=fun k j=>BW.l0 k l st (j:Int)) st.length _ 7 h good ?_
   intro j hj ok
   simp only [G4,Bool.not_eq_false',decide_eq_true_eq] at ok
   have:=E1 l (rd st j)
   refine shift ?_
   simp only [BW.l0]
   exact pos (Av hj) (pos oM (Ev.bind (find _) (pos ok.1 (pos ok.1 (pos oM (pos ok.2 (now rfl)))))))
theorem F2 (l:List Ai) (st:List Int) (hs:st.length<=1048576):Ev (fun k=>Bg.f k l st) (Hd l st):=by
 unfold Bg.f Hd
 have find:∀ n,AX.f l n=some (fp l n):=fun n=>Dq l n
 have good:∀ j r,j<st.length->G4 l st j=true->Ev (fun k=>Bg.l0 k l st (st.length:Int) ((j+1:Nat):Int)) r->Ev (fun k=>Bg.l0 k l st (st.length:Int) (j:Int)) r:=by
  intro j r hj ok h
  simp only [G4,Bool.not_eq_true',decide_eq_false_iff_not] at ok
  have:=E1 l (rd st j)
  refine shift ?_
  simp only [Bg.l0]
  rw [Af oM]
  refine pos (Av hj) (pos oM (pos (Av hj) (Ah (find _) ?_)))
  by_cases h0:fp l (rd st j)>=0
  . exact pos h0 (pos h0 (pos oM (neg (fun g=>ok ⟨h0,g⟩) h)))
  . exact neg h0 h
 by_cases h:(List.range st.length).all (G4 l st)=true
 . rw [if_pos h]
   refine Iy (g:=fun k j=>Bg.l0 k l st (st.length:Int) (j:Int)) st.length _ h good ?_
   refine shift ?_
   simp only [Bg.l0]
   exact neg (Cz (Nat.le_refl _)) (now rfl)
 . rw [if_neg h]
   refine HN (g:=fun k j=>Bg.l0 k l st (st.length:Int) (j:Int)) st.length _ 7 h good ?_
   intro j hj ok
   simp only [G4,Bool.not_eq_false',decide_eq_true_eq] at ok
   have:=E1 l (rd st j)
   refine shift ?_
   simp only [Bg.l0]
   exact pos (Av hj) (pos oM (pos (Av hj) (Ah (find _) (pos ok.1 (pos ok.1 (pos oM (pos ok.2 (now rfl))))))))
def HU (l:List Ai) (s:List Int) (a:Int) (n:List Int) (b:Int):Bool:=Bn l s a n b && (decide (n.length=0) && decide (a>=Hd l s))
theorem M6 (l:List Ai) (s:List Int) (a:Int) (n:List Int) (b:Int) (hl:l.length<=1048576) (hs:s.length<=1048576) (hn:n.length<=1048576):Ev (fun k=>DT.f k l s a n b) (HU l s a n b):=by
 unfold DT.f HU
 refine Ev.bind (IB l s a n b hl hs hn) ?_
 by_cases h:Bn l s a n b=true
 . rw [h,Bool.true_and]
   refine pos rfl ?_
   by_cases h0:n.length=0
   . rw [decide_eq_true h0,Bool.true_and]
     exact pos oM (Ev.bind (Et l s hl hs) (now rfl))
   . rw [decide_eq_false h0,Bool.false_and]
     exact neg oM (now rfl)
 . rw [Bool.eq_false_iff.mpr h,Bool.false_and]
   exact neg dC (now rfl)
theorem Ja (l:List Ai) (s:List Int) (a:Int) (n:List Int) (b:Int) (hl:l.length<=1048576) (hs:s.length<=1048576) (hn:n.length<=1048576):Ev (fun k=>Ct.f k l s a n b) (HU l s a n b):=by
 unfold Ct.f HU
 refine Ev.bind (D7 l s a n b hl hs hn) ?_
 by_cases h:Bn l s a n b=true
 . rw [h,Bool.true_and]
   refine pos rfl ?_
   by_cases h0:n.length=0
   . rw [decide_eq_true h0,Bool.true_and]
     exact pos oM (Ev.bind (F2 l s hs) (now rfl))
   . rw [decide_eq_false h0,Bool.false_and]
     exact neg oM (now rfl)
 . rw [Bool.eq_false_iff.mpr h,Bool.false_and]
   exact neg dC (now rfl)
def Nh (w:List CR) (s:List Int):Nat->Bool
 | 0=>false
 | j+1=>Nh w s j || decide ((AR w (j:Int)).f0 ∈ s)
def Om (l:List Ai) (s:List Int) (a:Int) (n:List Int) (b:Int) (w:List CR):Bool:=HU l s a n b && (decide (0<(Hg l s a n b w).length) && (decide (a>=60) || !Nh w s w.length))
theorem J9 (w:List CR) (s:List Int) (hs:s.length<=1048576):Ev (fun k=>CJ.l0 k s w) (w.any fun x=>decide (x.f0 ∈ s)):=by
 induction w with
 | nil=>exact now rfl
 | cons x r ih =>
  simp only [CJ.l0,List.any_cons]
  refine Ev.bind (Bc s _ oM) ?_
  by_cases h:x.f0 ∈ s
  . rw [decide_eq_true h,Bool.true_or]
    exact pos rfl (now rfl)
  . rw [decide_eq_false h,Bool.false_or]
    exact neg dC ih
theorem QA (w:List CR) (s:List Int):Nh w s w.length=w.any fun x=>decide (x.f0 ∈ s):=by
 have:∀ j,j<=w.length->Nh w s j=(w.take j).any fun x=>decide (x.f0 ∈ s):=by
  intro j
  induction j with
  | zero=>intro _;simp [Nh]
  | succ j ih =>
   intro hj
   rw [Nh,ih oM,List.take_succ_eq_append_getElem oM,List.any_append,Gd w j oM]
   simp
 simpa using this w.length (Nat.le_refl _)
theorem KZ (l:List Ai) (s:List Int) (a:Int) (n:List Int) (b:Int) (w:List CR) (hl:l.length<=1048576) (hs:s.length<=1048576) (hn:n.length<=1048576) (hw:w.length<=1048576):Ev (fun k=>CJ.f k l s a n b w) (Om l s a n b w):=by
 unfold CJ.f Om
 refine Ev.bind (Ja l s a n b hl hs hn) ?_
 by_cases h1:HU l s a n b=true
 . rw [h1,Bool.true_and]
   refine pos rfl (Ev.bind (H5 l s a n b w hl hs hn hw) ?_)
   by_cases h2:0<(Hg l s a n b w).length
   . rw [decide_eq_true h2,Bool.true_and]
     refine neg oM ?_
     by_cases h3:a>=60
     . rw [decide_eq_true h3,Bool.true_or]
       exact pos h3 (now rfl)
     . rw [decide_eq_false h3,Bool.false_or,QA]
       exact neg h3 (Ev.bind (J9 w s hs) (now rfl))
   . rw [decide_eq_false h2,Bool.false_and]
     exact pos oM (now rfl)
 . rw [Bool.eq_false_iff.mpr h1,Bool.false_and]
   exact neg dC (now rfl)
theorem R9 {a b:List Int} (hl:a.length=b.length):(List.range b.length).all (fun i=>decide (rd a (i:Int)=rd b (i:Int)))=decide (a=b):=by
 by_cases h:a=b
 . subst h
   simp
 . rw [decide_eq_false h]
   apply Bool.eq_false_iff.2
   intro g
   refine h (List.ext_getElem hl (fun i h1 h2=>?_))
   have:=List.all_eq_true.1 g i (List.mem_range.2 h2)
   simpa [D2 a i h1,D2 b i h2] using this
theorem K2 (a b:List Int) (ha:a.length<=1048576):Ev (fun k=>CX.f k a b) (decide (a=b)):=by
 unfold CX.f
 by_cases h:a.length=b.length
 . refine pos oM ?_
   rw [<-R9 h]
   refine E0 (g:=fun k j=>CX.l0 k a b (j:Int)) b.length (fun i=>decide (rd a (i:Int)=rd b (i:Int))) true ?_ ?_ ?_ |> (fun h=>by simpa using h)
   . intro j r hj ok hh
     refine shift ?_
     simp only [CX.l0]
     rw [Af oM]
     exact pos oM (pos oM (pos oM (pos (of_decide_eq_true ok) hh)))
   . intro j hj ok
     refine shift ?_
     simp only [CX.l0]
     exact pos oM (pos oM (pos oM (neg (of_decide_eq_false ok) (now rfl))))
   . refine shift ?_
     simp only [CX.l0]
     exact neg oM (now rfl)
 . refine neg oM (now ?_)
   rw [decide_eq_false (fun e=>h (by rw [e]))]
theorem F6 (a b:List Int) (ha:a.length<=1048576):Ev (fun k=>BD.f k a b) (decide (a=b)):=by
 unfold BD.f
 by_cases h:a.length=b.length
 . refine pos oM ?_
   rw [<-R9 h]
   refine E0 (g:=fun k j=>BD.l0 k a b (a.length:Int) (j:Int)) b.length (fun i=>decide (rd a (i:Int)=rd b (i:Int))) true ?_ ?_ ?_ |> (fun h=>by simpa using h)
   . intro j r hj ok hh
     refine shift ?_
     simp only [BD.l0]
     rw [Af oM]
     exact pos oM (pos oM (pos oM (pos oM (pos (of_decide_eq_true ok) hh))))
   . intro j hj ok
     refine shift ?_
     simp only [BD.l0]
     exact pos oM (pos oM (pos oM (pos oM (neg (of_decide_eq_false ok) (now rfl)))))
   . refine shift ?_
     simp only [BD.l0]
     exact neg oM (now rfl)
 . refine neg oM (now ?_)
   rw [decide_eq_false (fun e=>h (by rw [e]))]
theorem JK (s:List Int) (a:Int) (n:List Int) (b:Int) (hs:s.length<=1048576) (hn:n.length<=1048576):Dl.f s a n b=some (s,a,n,b):=by
 unfold Dl.f
 simp only [Option.bind_some,List.nil_append,List.length_nil]
 rw [if_pos oM,if_pos oM]
def KV (l:List Ai) (s:List Int) (a:Int) (n:List Int) (b:Int) (st:List Int):Prop:=HU l s a n b=true/\¬ st.length=0/\together l st=true/\¬ st=s
def Gs (l:List Ai) (s:List Int) (a:Int) (n:List Int) (b:Int) (st:List Int):List Int×Int×List Int×Int×Bool:=
 if HU l s a n b=true/\¬ st.length=0/\together l st=true/\¬ st=s then (if D9 l s st=0 then (st,0,[],0,true) else (s,a,st,D9 l s st,true)) else (s,a,n,b,false)
theorem OA {l:List Ai} {s:List Int} {a:Int} {n:List Int} {b:Int} {st:List Int} (h:¬ KV l s a n b st):Gs l s a n b st=(s,a,n,b,false):=if_neg h
theorem MZ {l:List Ai} {s:List Int} {a:Int} {n:List Int} {b:Int} {st:List Int} (h:KV l s a n b st):Gs l s a n b st=if D9 l s st=0 then (st,0,[],0,true) else (s,a,st,D9 l s st,true):=if_pos h
theorem LW (l:List Ai) (s:List Int) (a:Int) (n:List Int) (b:Int) (st:List Int) (hl:l.length<=1048576) (hs:s.length<=1048576) (hn:n.length<=1048576) (hst:st.length<=1048576):Ev (fun k=>CT.f k l s a n b st) (Gs l s a n b st):=by
 unfold CT.f
 have no:¬ KV l s a n b st->Ev (fun k=>CT.j0 k l st true s a n b s a n b) (Gs l s a n b st):=by
  intro h
  rw [OA h]
  refine shift ?_
  simp only [CT.j0]
  exact pos trivial (now rfl)
 have yes:KV l s a n b st->Ev (fun k=>CT.j0 k l st false s a n b s a n b) (Gs l s a n b st):=by
  intro h
  rw [MZ h]
  refine shift ?_
  simp only [CT.j0,Option.bind_some,List.nil_append,List.length_nil]
  refine neg dC (Ev.bind (FO l s st hl hs hst) ?_)
  by_cases h0:D9 l s st=0
  . exact pos h0 (pos oM (now (if_pos h0).symm))
  . exact neg h0 (pos oM (now (if_neg h0).symm))
 refine Ah (JK s a n b hs hn) (Ev.bind (M6 l s a n b hl hs hn) ?_)
 dsimp only
 by_cases h1:HU l s a n b=true
 . refine pos h1 ?_
   by_cases h2:st.length=0
   . exact pos oM (no (fun q=>q.2.1 h2))
   . refine neg oM (Ev.bind (B7 l st hl hst) ?_)
     by_cases h3:together l st=true
     . refine pos h3 (Ev.bind (K2 st s hst) ?_)
       by_cases h4:st=s
       . rw [decide_eq_true h4]
         exact no (fun q=>q.2.2.2 h4)
       . rw [decide_eq_false h4]
         exact yes ⟨h1,h2,h3,h4⟩
     . exact neg h3 (no (fun q=>h3 q.2.2.1))
 . exact neg h1 (no (fun q=>h1 q.1))
theorem LK (l:List Ai) (s:List Int) (a:Int) (n:List Int) (b:Int) (st:List Int) (hl:l.length<=1048576) (hs:s.length<=1048576) (hn:n.length<=1048576) (hst:st.length<=1048576):Ev (fun k=>CG.f k l s a n b st) (Gs l s a n b st):=by
 unfold CG.f
 have no:¬ KV l s a n b st->Ev (fun k=>CG.j0 k l st true s a n b s a n b) (Gs l s a n b st):=by
  intro h
  rw [OA h]
  refine shift ?_
  simp only [CG.j0]
  exact pos trivial (now rfl)
 have yes:KV l s a n b st->Ev (fun k=>CG.j0 k l st false s a n b s a n b) (Gs l s a n b st):=by
  intro h
  have hr:=G2 l s st
  rw [MZ h]
  refine shift ?_
  simp only [CG.j0]
  refine neg dC (Ev.bind (FG l s st hl hs hst) ?_)
  by_cases h0:D9 l s st=0
  . exact neg oM (Ah (C8 st hst) (now (if_pos h0).symm))
  . exact pos oM (Ah (C8 st hst) (now (if_neg h0).symm))
 refine Ah (FJ s a n b hs hn) (Ev.bind (Ja l s a n b hl hs hn) ?_)
 dsimp only
 by_cases h1:HU l s a n b=true
 . refine pos h1 ?_
   by_cases h2:st.length=0
   . exact pos oM (no (fun q=>q.2.1 h2))
   . refine neg oM (Ev.bind (Cg l st hl hst) ?_)
     by_cases h3:together l st=true
     . refine pos h3 (Ev.bind (F6 st s hst) ?_)
       by_cases h4:st=s
       . rw [decide_eq_true h4]
         exact no (fun q=>q.2.2.2 h4)
       . rw [decide_eq_false h4]
         exact yes ⟨h1,h2,h3,h4⟩
     . exact neg h3 (no (fun q=>h3 q.2.2.1))
 . exact neg h1 (no (fun q=>h1 q.1))
theorem Js (a b:Int):FQ.f a b=some (mn a b):=by
 unfold FQ.f mn
 by_cases h:b<a
 . rw [if_pos h,if_pos h]
 . rw [if_neg h,if_neg h]
def Ea (l:List Ai) (s:List Int) (a:Int) (n:List Int) (b:Int):List Int×Int×List Int×Int:=
 if Bn l s a n b=true then (if n.length=0 then (s,mn 1000000 (a+1),n,b) else if b-1=0 then (n,0,[],0) else (s,a,n,b-1)) else (s,a,n,b)
theorem HY {l:List Ai} {s:List Int} {a:Int} {n:List Int} {b:Int} (h:Bn l s a n b=true):(0<=a/\a<=1000000)/\0<=b/\b<=5/\(¬ n.length=0->1<=b):=by
 obtain ⟨_,_,_,h1,h2⟩:=(EJ l s a n b).1 h
 refine ⟨h1,?_⟩
 have:=G2 l s n
 by_cases h0:n.length=0
 . rw [if_pos h0] at h2
   exact ⟨by omega,by omega,fun q=>absurd h0 q⟩
 . rw [if_neg h0] at h2
   exact ⟨by omega,by omega,fun _=>h2.1⟩
theorem KG (l:List Ai) (s:List Int) (a:Int) (n:List Int) (b:Int) (hl:l.length<=1048576) (hs:s.length<=1048576) (hn:n.length<=1048576):Ev (fun k=>Dt.f k l s a n b) (Ea l s a n b):=by
 unfold Dt.f
 refine Ah (JK s a n b hs hn) (Ev.bind (IB l s a n b hl hs hn) ?_)
 dsimp only
 by_cases h:Bn l s a n b=true
 . have hb:=HY h
   refine pos h ?_
   rw [Gn (x:=a+1) oM oM,Gn (x:=b-1) oM oM]
   by_cases h0:n.length=0
   . exact pos oM (Ah (Js _ _) (now (by unfold Ea;rw [if_pos h,if_pos h0])))
   . refine neg oM ?_
     by_cases h1:b-1=0
     . exact pos h1 (now (by unfold Ea;rw [if_pos h,if_neg h0,if_pos h1]))
     . exact neg h1 (now (by unfold Ea;rw [if_pos h,if_neg h0,if_neg h1]))
 . exact neg h (now (by unfold Ea;rw [if_neg h]))
theorem P4 (a b:Int):mn a b=mn b a:=by unfold mn;split <;> split <;> omega
theorem KA (l:List Ai) (s:List Int) (a:Int) (n:List Int) (b:Int) (hl:l.length<=1048576) (hs:s.length<=1048576) (hn:n.length<=1048576):Ev (fun k=>Dr.f k l s a n b) (Ea l s a n b):=by
 unfold Dr.f
 refine Ah (FJ s a n b hs hn) (Ev.bind (D7 l s a n b hl hs hn) ?_)
 dsimp only
 by_cases h:Bn l s a n b=true
 . have hb:=HY h
   refine pos h ?_
   rw [Gn (x:=a+1) oM oM,Gn (x:=b-1) oM oM,P4 (a+1)]
   by_cases h0:n.length=0
   . exact pos oM (now (by unfold Ea;rw [if_pos h,if_pos h0]))
   . have hb1:=hb.2.2.2 h0
     refine neg oM ?_
     by_cases h1:b-1=0
     . exact neg oM (Ah (C8 n hn) (now (by unfold Ea;rw [if_pos h,if_neg h0,if_pos h1])))
     . exact pos oM (now (by unfold Ea;rw [if_pos h,if_neg h0,if_neg h1]))
 . exact neg h (now (by unfold Ea;rw [if_neg h]))
theorem HZ {l:List Ai} {s:List Int} {a:Int} {n:List Int} {b:Int} (h1:¬ s.length=0) (h2:together l s=true) (h3:together l n=true) (h4:0<=a/\a<=1000000) (h5:if n.length=0 then b=0 else 1<=b/\b<=D9 l s n):Bn l s a n b=true:=(EJ l s a n b).2 ⟨h1,h2,h3,h4,h5⟩
theorem NY {l:List Ai} {s:List Int} {a:Int} {n:List Int} {b:Int} (h:Bn l s a n b=true):Bn l (Ea l s a n b).1 (Ea l s a n b).2.1 (Ea l s a n b).2.2.1 (Ea l s a n b).2.2.2=true:=by
 obtain ⟨h1,h2,h3,h4,h5⟩:=(EJ l s a n b).1 h
 have hp:=D5 h2
 unfold Ea
 rw [if_pos h]
 by_cases h0:n.length=0
 . rw [if_pos h0]
   refine HZ h1 h2 h3 ?_ h5
   dsimp only
   unfold mn
   split <;> omega
 . rw [if_neg h0]
   rw [if_neg h0] at h5
   by_cases hb:b-1=0
   . rw [if_pos hb]
     exact HZ h0 h3 (K7 hp) (by dsimp only;omega) sM
   . rw [if_neg hb]
     refine HZ h1 h2 h3 h4 ?_
     dsimp only
     rw [if_neg h0]
     omega
theorem N9 {l:List Ai} {s:List Int} {a:Int} {n:List Int} {b:Int} (st:List Int) (h:Bn l s a n b=true):Bn l (Gs l s a n b st).1 (Gs l s a n b st).2.1 (Gs l s a n b st).2.2.1 (Gs l s a n b st).2.2.2.1=true:=by
 obtain ⟨h1,h2,h3,h4,h5⟩:=(EJ l s a n b).1 h
 have hp:=D5 h2
 by_cases hc:KV l s a n b st
 . rw [MZ hc]
   have hr:=G2 l s st
   by_cases h0:D9 l s st=0
   . rw [if_pos h0]
     exact HZ hc.2.1 hc.2.2.1 (K7 hp) (by dsimp only;omega) sM
   . rw [if_neg h0]
     refine HZ h1 h2 hc.2.2.1 h4 ?_
     dsimp only
     rw [if_neg hc.2.1]
     omega
 . rw [OA hc]
   exact h
def EC (l:List Ai) (s:List Int) (a:Int) (n:List Int) (b:Int) (w:List CR):List Int×Int×List Int×Int:=
 if Om l s a n b w=true then ((Gs l s a n b (Hg l s a n b w)).1,(Gs l s a n b (Hg l s a n b w)).2.1,(Gs l s a n b (Hg l s a n b w)).2.2.1,(Gs l s a n b (Hg l s a n b w)).2.2.2.1) else Ea l s a n b
theorem JX {l:List Ai} {s:List Int} {a:Int} {n:List Int} {b:Int} (w:List CR) (h:Bn l s a n b=true):Bn l (EC l s a n b w).1 (EC l s a n b w).2.1 (EC l s a n b w).2.2.1 (EC l s a n b w).2.2.2=true:=by
 unfold EC
 split
 . exact N9 _ h
 . exact NY h
theorem Ma (l:List Ai) (s:List Int) (a:Int) (n:List Int) (b:Int) (w:List CR) (hs:s.length<=1048576) (hn:n.length<=1048576):(EC l s a n b w).1.length<=1048576/\(EC l s a n b w).2.2.1.length<=1048576:=by
 have hx:=Mv l s a n b w
 unfold EC
 split
 . unfold Gs
   split
   . split
     . exact ⟨by dsimp only;omega,by simp⟩
     . exact ⟨hs,by dsimp only;omega⟩
   . exact ⟨hs,hn⟩
 . unfold Ea
   split
   . split
     . exact ⟨hs,hn⟩
     . split
       . exact ⟨hn,by simp⟩
       . exact ⟨hs,hn⟩
   . exact ⟨hs,hn⟩
def Hq (l:List Ai) (s:List Int) (a:Int) (n:List Int) (b:Int) (w:List CR):List Int×Int×List Int×Int×List CR:=
 if Bn l s a n b=true/\C7 l w=true then ((EC l s a n b w).1,(EC l s a n b w).2.1,(EC l s a n b w).2.2.1,(EC l s a n b w).2.2.2,EP l (FL l (EC l s a n b w).1 (EC l s a n b w).2.1 (EC l s a n b w).2.2.1 (EC l s a n b w).2.2.2) w w.length) else (s,a,n,b,w)
theorem NP (l:List Ai) (s:List Int) (a:Int) (n:List Int) (b:Int) (w:List CR) (hl:l.length<=1048576) (hs:s.length<=1048576) (hn:n.length<=1048576) (hw:w.length<=1048576):Ev (fun k=>Ep.f k l s a n b w) (EC l s a n b w):=by
 unfold Ep.f
 have hx:=Mv l s a n b w
 refine Ev.bind (KZ l s a n b w hl hs hn hw) ?_
 by_cases h:Om l s a n b w=true
 . rw [show EC l s a n b w=_ from if_pos h]
   exact pos h (Ev.bind (H5 l s a n b w hl hs hn hw) (Ev.bind (LK l s a n b _ hl hs hn oM) (now rfl)))
 . rw [show EC l s a n b w=_ from if_neg h]
   exact neg h (Ev.bind (KA l s a n b hl hs hn) (now rfl))
def M5 (ss:List (List Int)) (i:Int):List Int:=At ss i
theorem O0 (ss:List (List Int)) (i:Nat) (h:i<ss.length):M5 ss i=ss[i]:=by simp [M5,At,h]
def Oe (l:List Ai) (ss:List (List Int)) (i:Nat):Bool:=ss.any fun s=>decide ((AA l i).f0 ∈ s)
def Mj (l:List Ai) (ss:List (List Int)):Bool:=(List.range ss.length).all (fun k=>together l (M5 ss k)) && ((List.range l.length).all (Oe l ss) && Cr l)
theorem Hl (ss:List (List Int)) (hs:∀ x ∈ ss,x.length<=1048576) (i:Nat) (h:i<ss.length):(M5 ss i).length<=1048576:=by
 rw [O0 ss i h]
 exact hs _ (List.getElem_mem h)
theorem M7 (l:List Ai) (ss:List (List Int)) (hl:l.length<=1048576) (hn:ss.length<=1048576) (hs:∀ x ∈ ss,x.length<=1048576):Ev (fun k=>BH.f k l ss) (Mj l ss):=by
 unfold BH.f Mj
 have inner:∀ (i:Nat) (r:Bool),i<l.length->Ev (fun k=>BH.l2 k l ss (i:Int) (Oe l ss i) (ss.length:Int)) r->Ev (fun k=>BH.l2 k l ss (i:Int) false 0) r:=by
  intro i r hi h
  refine loop (g:=fun k j=>BH.l2 k l ss (i:Int) ((ss.take j).any fun s=>decide ((AA l i).f0 ∈ s)) (j:Int)) ss.length ?_ ?_ |> (fun h=>by simpa using h)
  . intro j hj hh
    refine shift ?_
    simp only [BH.l2]
    rw [Af oM]
    rw [G9 ss j hj,List.any_append] at hh
    refine pos (Av hj) ?_
    by_cases c:((ss.take j).any fun s=>decide ((AA l i).f0 ∈ s))=true
    . rw [c,Bool.true_or] at hh
      exact pos c hh
    . have c2:((ss.take j).any fun s=>decide ((AA l i).f0 ∈ s))=false:=by simpa using c
      rw [c2,Bool.false_or] at hh
      have hx:=Hl ss hs j hj
      refine neg c (pos oM (pos oM (pos oM (Ev.bind (EK (M5 ss j) _ oM) ?_))))
      rw [O0 ss j hj]
      simpa using hh
  . rw [List.take_length]
    exact h
 refine E0 (g:=fun k j=>BH.l0 k l ss (j:Int)) ss.length (fun k=>together l (M5 ss k)) _ ?_ ?_ ?_
 . intro j r hj ok h
   refine shift ?_
   simp only [BH.l0]
   rw [Af oM]
   exact pos (Av hj) (pos oM (Ev.bind (B7 l (M5 ss j) hl (Hl ss hs j hj)) (pos ok h)))
 . intro j hj ok
   refine shift ?_
   simp only [BH.l0]
   exact pos (Av hj) (pos oM (Ev.bind (B7 l (M5 ss j) hl (Hl ss hs j hj)) (neg (by rw [ok];decide) (now rfl))))
 . refine shift ?_
   simp only [BH.l0]
   refine neg (Cz (Nat.le_refl _)) ?_
   refine E0 (g:=fun k i=>BH.l1 k l ss (i:Int)) l.length (Oe l ss) _ ?_ ?_ ?_
   . intro i r hi ok h
     refine shift ?_
     simp only [BH.l1]
     refine pos (Av hi) (inner i r hi (shift ?_))
     simp only [BH.l2]
     rw [Af (j:=i) oM]
     exact neg (Cz (Nat.le_refl _)) (pos ok h)
   . intro i hi ok
     refine shift ?_
     simp only [BH.l1]
     refine pos (Av hi) (inner i false hi (shift ?_))
     simp only [BH.l2]
     exact neg (Cz (Nat.le_refl _)) (neg (by rw [ok];decide) (now rfl))
   . refine shift ?_
     simp only [BH.l1]
     exact neg (Cz (Nat.le_refl _)) (Ev.bind (FZ l oM) (now rfl))
theorem Pe (p:List Ag) (j:Nat) (h:j<p.length):AE p (j:Int)=p[j]:=by simp [AE,h]
theorem Lc (p:List Ag) (hp:p.length<=1048576):Ev (fun k=>C0.f k p) (p.map (·.f0)):=by
 unfold C0.f
 refine loop (g:=fun k j=>C0.l0 k p ((p.take j).map (·.f0)) (j:Int)) p.length ?_ ?_ |> (fun h=>by simpa using h)
 . intro j hj h
   refine shift ?_
   simp only [C0.l0]
   rw [Af oM,Pe p j hj]
   rw [G9 p j hj,List.map_append] at h
   exact pos (Av hj) (pos oM (pos (by simp;omega) h))
 . refine shift ?_
   simp only [C0.l0]
   exact neg (Cz (Nat.le_refl _)) (now (by rw [List.take_length]))
def Jh (l:List Ai) (p:List Ag) (i:Nat):Bool:=
 decide (¬ ((AE p i).f0.length:Int)=0) && (together l (AE p i).f0 && decide (Hd l (AE p i).f0<=(AE p i).f1/\(AE p i).f1<=60))
def CV (l:List Ai) (p:List Ag):Bool:=decide (1<=(p.length:Int)/\(p.length:Int)<=6) && ((List.range p.length).all (Jh l p) && Mj l (p.map (·.f0)))
theorem Ds (p:List Ag) (hs:∀ x ∈ p,x.f0.length<=1048576) (i:Nat) (h:i<p.length):(AE p i).f0.length<=1048576:=by
 rw [Pe p i h]
 exact hs _ (List.getElem_mem h)
theorem K5 (p:List Ag) (hs:∀ x ∈ p,x.f0.length<=1048576):∀ x ∈ p.map (·.f0),x.length<=1048576:=by
 intro x hx
 obtain ⟨y,hy,rfl⟩:=List.mem_map.1 hx
 exact hs y hy
theorem Hm (l:List Ai) (p:List Ag) (hl:l.length<=1048576) (hp:p.length<=1048576) (hs:∀ x ∈ p,x.f0.length<=1048576):Ev (fun k=>B0.f k l p) (CV l p):=by
 unfold B0.f CV
 refine Ah (DZ _ _ _) ?_
 by_cases hr:1<=(p.length:Int)/\(p.length:Int)<=6
 . rw [decide_eq_true hr,Bool.true_and]
   refine pos rfl (E0 (g:=fun k j=>B0.l0 k l p (j:Int)) p.length (Jh l p) _ ?_ ?_ ?_)
   . intro j r hj ok h
     simp only [Jh,Bool.and_eq_true,decide_eq_true_eq] at ok
     have hx:=Ds p hs j hj
     refine shift ?_
     simp only [B0.l0]
     rw [Af oM]
     exact pos (Av hj) (pos oM (neg ok.1 (Ev.bind (B7 l _ hl hx) (pos ok.2.1 (Ev.bind (Et l _ hl hx) (Ah (DZ _ _ _) (pos (decide_eq_true ok.2.2) h)))))))
   . intro j hj ok
     have hx:=Ds p hs j hj
     refine shift ?_
     simp only [B0.l0]
     refine pos (Av hj) (pos oM ?_)
     by_cases h1:((AE p j).f0.length:Int)=0
     . exact pos h1 (now rfl)
     refine neg h1 (Ev.bind (B7 l _ hl hx) ?_)
     by_cases h2:together l (AE p j).f0=true
     . have h3:decide (Hd l (AE p j).f0<=(AE p j).f1/\(AE p j).f1<=60)=false:=by
        rw [Jh,decide_eq_true h1,h2,Bool.true_and,Bool.true_and] at ok
        exact ok
       exact pos h2 (Ev.bind (Et l _ hl hx) (Ah (DZ _ _ _) (neg (by rw [h3];decide) (now rfl))))
     . exact neg h2 (now rfl)
   . refine shift ?_
     simp only [B0.l0]
     exact neg (Cz (Nat.le_refl _)) (Ev.bind (Lc p hp) (Ev.bind (M7 l _ hl (by simpa using hp) (K5 p hs)) (now rfl)))
 . rw [decide_eq_false hr,Bool.false_and]
   exact neg dC (now rfl)
theorem CW {l:List Ai} {p:List Ag} (h:CV l p=true):(1<=p.length/\p.length<=6)/\∀ i,i<p.length->5<=(AE p i).f1/\(AE p i).f1<=60/\together l (AE p i).f0=true:=by
 simp only [CV,Bool.and_eq_true,decide_eq_true_eq] at h
 refine ⟨by omega,fun i hi=>?_⟩
 have:=List.all_eq_true.1 h.2.1 i (List.mem_range.2 hi)
 simp only [Jh,Bool.and_eq_true,decide_eq_true_eq] at this
 have h5:=Ku l (AE p i).f0
 exact ⟨by omega,this.2.2.2,this.2.1⟩
def Ns (p:List Ag) (i:Nat):Nat:=(i+1) % p.length
def CZ (l:List Ai) (p:List Ag) (i:Nat):Int:=(AE p i).f1+D9 l (AE p i).f0 (AE p (Ns p i)).f0
theorem LQ (p:List Ag) (i:Nat) (h:i<p.length):Ns p i<p.length:=Nat.mod_lt _ oM
theorem Mw (p:List Ag) (i:Nat) (h:i<1048576):Int.tmod (wrap64 ((i:Int)+1)) (p.length:Int)=((Ns p i:Nat):Int):=by
 rw [Af oM]
 exact (Int.ofNat_tmod (i+1) p.length).symm
theorem Cl {l:List Ai} {p:List Ag} (h:CV l p=true) (i:Nat) (hi:i<p.length):5<=CZ l p i/\CZ l p i<=65:=by
 have h1:=(CW h).2 i hi
 have h2:=G2 l (AE p i).f0 (AE p (Ns p i)).f0
 unfold CZ
 omega
theorem NF (l:List Ai) (p:List Ag) (hl:l.length<=1048576) (hs:∀ x ∈ p,x.f0.length<=1048576) (h:CV l p=true) (i:Nat) (hi:i<p.length):Ev (fun k=>EZ.f k l p (i:Int)) (CZ l p i):=by
 have hp:=(CW h).1
 have hr:=Cl h i hi
 have hn:=LQ p i hi
 unfold EZ.f
 rw [Mw p i oM]
 refine pos oM (pos oM (neg oM (pos oM (pos oM (Ev.bind (FO l _ _ hl (Ds p hs i hi) (Ds p hs _ hn)) (now ?_))))))
 exact Gn (by unfold CZ at hr;omega) (by unfold CZ at hr;omega)
theorem Mr (l:List Ai) (s:List Int) (a:Int) (n:List Int) (b:Int) (w:List CR) (hl:l.length<=1048576) (hs:s.length<=1048576) (hn:n.length<=1048576) (hw:w.length<=1048576) (hg:C7 l w=true):Ev (fun k=>BR.f k l s a n b w) (EP l (FL l s a n b) w w.length):=by
 unfold BR.f
 have hg2:=(GA l w).1 hg
 refine Ev.bind (IR l s a n b hl hs hn) ?_
 obtain ⟨v,hv⟩:∃ v,v=FL l s a n b:=⟨_,rfl⟩
 rw [<-hv]
 have main:Ev (fun k=>BR.l0 k l (EP l v w 0) v w (w.length:Int) ((0:Nat):Int)) (EP l v w w.length):=by
  refine IU (g:=fun k j=>BR.l0 k l (EP l v w j) v w (w.length:Int) (j:Int)) 0 w.length oM (fun j _ hj h=>?_) ?_
  . have hlen:=Pl l v w j
    have hb:=hg2.2.1 w[j] (List.getElem_mem hj)
    rw [<-Gd w j hj] at hb
    refine shift ?_
    have Ns:∀ z,Ev (fun k=>BR.l0 k l z v w (w.length:Int) ((j+1:Nat):Int)) (EP l v w w.length)->Ev (fun k=>BR.j2 k l z v w (w.length:Int) (j:Int)) (EP l v w w.length):=by
     intro z hz
     refine shift ?_
     simp only [BR.j2]
     rw [Af (j:=j) oM]
     exact hz
    have yes:stays l v (AR w (j:Int))=true->Ev (fun k=>BR.j1 k l (EP l v w j) v w (w.length:Int) (j:Int) true ((AR w (j:Int)).f0) ((AR w (j:Int)).f1)) (EP l v w w.length):=by
     intro q
     rw [EP,if_pos q] at h
     refine shift ?_
     simp only [BR.j1]
     rw [Gn (x:=(AR w (j:Int)).f1+1) oM oM,P4 _ 100000]
     exact pos trivial (pos oM (Ns _ h))
    have no:¬ stays l v (AR w (j:Int))=true->Ev (fun k=>BR.j1 k l (EP l v w j) v w (w.length:Int) (j:Int) false ((AR w (j:Int)).f0) ((AR w (j:Int)).f1)) (EP l v w w.length):=by
     intro q
     rw [EP,if_neg q] at h
     refine shift ?_
     simp only [BR.j1]
     exact neg sM (Ns _ h)
    simp only [BR.l0]
    refine pos (Av hj) (pos oM (pos (Av hj) (Ah (Dq l _) ?_)))
    have hr:=E1 l (AR w (j:Int)).f0
    change Ev (fun k=>if fp l (AR w (j:Int)).f0<0 then _ else _) _
    refine neg hb.1 ?_
    by_cases h1:fp l (AR w (j:Int)).f0>=(v.length:Int)
    . exact pos h1 (yes (decide_eq_true (.inr (.inl h1))))
    . refine neg h1 (pos (by unfold fp at hb;omega) (pos (by unfold fp at h1;omega) ?_))
      by_cases h2:rd v (fp l (AR w (j:Int)).f0)=1
      . have ns:¬ stays l v (AR w (j:Int))=true:=fun q=>by
         rcases of_decide_eq_true q with z|z|z
         . exact hb.1 z
         . exact h1 z
         . exact z h2
        change Ev (fun k=>BR.j1 k l _ v w _ _ (rd v (fp l (AR w (j:Int)).f0) != 1) _ _) _
        rw [bne_eq_false_iff_eq.2 h2]
        exact no ns
      . change Ev (fun k=>BR.j1 k l _ v w _ _ (rd v (fp l (AR w (j:Int)).f0) != 1) _ _) _
        rw [bne_iff_ne.2 h2]
        exact yes (decide_eq_true (.inr (.inr h2)))
  . refine shift ?_
    simp only [BR.l0]
    exact neg (Cz (Nat.le_refl _)) (now rfl)
 exact main
theorem QE (w:List CR) (h:w.length<=1048576):Cb.f w=some w:=by
 unfold Cb.f
 simp only [Option.bind_some,List.nil_append,List.length_nil]
 first|rfl|(rw [if_pos oM])
theorem MB (l:List Ai) (s:List Int) (a:Int) (n:List Int) (b:Int) (w:List CR) (hl:l.length<=1048576) (hs:s.length<=1048576) (hn:n.length<=1048576) (hw:w.length<=1048576):Ev (fun k=>DB.f k l s a n b w) (Hq l s a n b w):=by
 unfold DB.f
 have no:¬ (Bn l s a n b=true/\C7 l w=true)->Ev (fun k=>DB.j0 k l w true s a n b) (Hq l s a n b w):=by
  intro h
  rw [show Hq l s a n b w=(s,a,n,b,w) from if_neg h]
  refine shift ?_
  simp only [DB.j0]
  exact pos trivial (Ah (FJ s a n b hs hn) (Ah (QE w hw) (now rfl)))
 refine Ev.bind (D7 l s a n b hl hs hn) ?_
 by_cases h1:Bn l s a n b=true
 . refine pos h1 (Ev.bind (FX l w hl hw) ?_)
   by_cases h2:C7 l w=true
   . rw [h2]
     have hlen:=Ma l s a n b w hs hn
     rw [show Hq l s a n b w=_ from if_pos ⟨h1,h2⟩]
     refine shift ?_
     simp only [DB.j0]
     exact neg dC (Ev.bind (NP l s a n b w hl hs hn hw) (Ev.bind (Mr l _ _ _ _ w hl hlen.1 hlen.2 hw h2) (now rfl)))
   . rw [Bool.eq_false_iff.mpr h2]
     exact no (fun q=>h2 q.2)
 . exact neg h1 (no (fun q=>h1 q.1))
theorem Rn:∀ (b a:List Int),a.Pairwise (· < ·)->b.Pairwise (· < ·)->(∀ s ∈ a,s ∈ b)->a.length<=b.length:=by
 intro b
 induction b with
 | nil =>
  intro a _ _ h
  cases a with
  | nil=>simp
  | cons x r=>have:=h x List.mem_cons_self;cases this
 | cons y b ih =>
  intro a ha hb h
  cases a with
  | nil=>simp
  | cons x r =>
   have ha2:=List.pairwise_cons.1 ha
   have hb2:=List.pairwise_cons.1 hb
   rcases List.mem_cons.1 (h x List.mem_cons_self) with q|q
   . have:=ih r ha2.2 hb2.2 (fun s hs=>by
      rcases List.mem_cons.1 (h s (List.mem_cons_of_mem _ hs)) with z|z
      . have:=ha2.1 s hs;omega
      . exact z)
     simp;omega
   . have:=ih (x::r) ha hb2.2 (fun s hs=>by
      rcases List.mem_cons.1 (h s hs) with z|z
      . have h1:=hb2.1 x q
        rcases List.mem_cons.1 hs with z2|z2
        . omega
        . have:=ha2.1 s z2;omega
      . exact z)
     simp at this |-;omega
theorem Nu {l:List Ai} (h:Cr l=true):(l.map (·.f0)).Pairwise (· < ·):=by
 simp only [Cr,Bool.and_eq_true] at h
 have hst:∀ j:Nat,0<j->j<l.length->(AA l ((j:Int)-1)).f0<(AA l (j:Int)).f0:=by
  intro j h0 hj
  have:=List.all_eq_true.1 h.1 j (List.mem_range.2 hj)
  simp only [Ji,Bool.and_eq_true,decide_eq_true_eq] at this
  exact this.2 h0
 have hlt:∀ (a b:Nat),a<b->b<l.length->(AA l (a:Int)).f0<(AA l (b:Int)).f0:=by
  intro a b
  induction b with
  | zero=>intro h;omega
  | succ b ih =>
   intro h1 h2
   have q:=hst (b+1) oM h2
   rw [show ((b+1:Nat):Int)-1=(b:Int) by omega] at q
   rcases Nat.lt_or_ge a b with z|z
   . have:=ih z oM;omega
   . have:a=b:=by omega
     rw [this];exact q
 rw [List.pairwise_map]
 refine List.pairwise_iff_getElem.2 (fun i j hi hj hij=>?_)
 have:=hlt i j hij hj
 rwa [show AA l (i:Int)=l[i] by simp [AA,hi],show AA l (j:Int)=l[j] by simp [AA,hj]] at this
theorem N1 {l:List Ai} {w:List CR} (h:C7 l w=true):w.length<=12:=by
 obtain ⟨h1,h2,h3⟩:=(GA l w).1 h
 have h12:=LR h1
 have:=Rn (l.map (·.f0)) (w.map (·.f0)) (by rw [List.pairwise_map];exact h3) (Nu h1) (fun s hs=>by
  obtain ⟨x,hx,rfl⟩:=List.mem_map.1 hs
  have hf:=(h2 x hx).1
  have hr:=E1 l x.f0
  have hi:=Pw l x.f0 hf
  obtain ⟨j,hj⟩:=Int.eq_ofNat_of_zero_le (show 0<=fp l x.f0 by omega)
  rw [hj] at hi
  have hjl:j<l.length:=by omega
  rw [show AA l (j:Int)=l[j] by simp [AA,hjl]] at hi
  exact List.mem_map.2 ⟨l[j],List.getElem_mem hjl,hi⟩)
 simp at this
 omega
def GZ (l:List Ai) (w:List CR) (c:List Gh) (t:Int):Nat->List CR
 | 0=>w
 | j+1=>if (Es c (j:Int)).f1=t then (Qx l (GZ l w c t j) (Es c (j:Int)).f0).1 else GZ l w c t j
theorem IE (l:List Ai) (w:List CR) (c:List Gh) (t:Int) (h:C7 l w=true) (j:Nat):C7 l (GZ l w c t j)=true:=by
 induction j with
 | zero=>exact h
 | succ j ih =>
  rw [GZ]
  split
  . exact PH l _ _ ih
  . exact ih
def Nk (l:List Ai) (c:List Gh):Nat->Int->List (List Int)->List Int->Int->List Int->Int->List CR->List (List Int)
 | 0,_,out,_,_,_,_,_=>out
 | d+1,t,out,s,a,n,b,w =>
  let r:=Hq l s a n b (GZ l w c t c.length)
  Nk l c d (t+1) (out++[FL l s a n b]) r.1 r.2.1 r.2.2.1 r.2.2.2.1 r.2.2.2.2
def Dn (l:List Ai) (s:List Int) (a:Int) (n:List Int) (b:Int) (w:List CR) (c:List Gh) (q:Int):List (List Int):=
 if Bn l s a n b=true/\C7 l w=true/\0<=q/\q<=600 then Nk l c q.toNat 0 [] s a n b w else []
theorem Pk {l:List Ai} {s:List Int} {a:Int} {n:List Int} {b:Int} {w:List CR} (h1:Bn l s a n b=true) (h2:C7 l w=true) (hs:s.length<=1048576) (hn:n.length<=1048576) :
 Bn l (Hq l s a n b w).1 (Hq l s a n b w).2.1 (Hq l s a n b w).2.2.1 (Hq l s a n b w).2.2.2.1=true/\C7 l (Hq l s a n b w).2.2.2.2=true/\(Hq l s a n b w).1.length<=1048576/\(Hq l s a n b w).2.2.1.length<=1048576:=by
 unfold Hq
 rw [if_pos ⟨h1,h2⟩]
 have hl:=Ma l s a n b w hs hn
 exact ⟨JX w h1,K8 l _ w h2,hl.1,hl.2⟩
theorem JM (l:List Ai) (c:List Gh) (q:Int) (out:List (List Int)) (t:Int) (s:List Int) (a:Int) (n:List Int) (b:Int) (w:List CR) (r:List (List Int)) (hl:l.length<=1048576) (hc:c.length<=1048576) (hg:C7 l w=true) (h:Ev (fun k=>Ap.l1 k l (GZ l w c t c.length) c out t q t c (c.length:Int) (c.length:Int) s a n b) r) :
 Ev (fun k=>Ap.l1 k l w c out t q t c (c.length:Int) ((0:Nat):Int) s a n b) r:=by
 have main:Ev (fun k=>Ap.l1 k l (GZ l w c t 0) c out t q t c (c.length:Int) ((0:Nat):Int) s a n b) r:=by
  refine IU (g:=fun k j=>Ap.l1 k l (GZ l w c t j) c out t q t c (c.length:Int) (j:Int) s a n b) 0 c.length oM (fun j _ hj h=>?_) h
  have hw:=N1 (IE l w c t hg j)
  refine shift ?_
  simp only [Ap.l1]
  rw [Af (j:=j) oM]
  rw [GZ] at h
  refine pos (Av hj) (pos oM (pos (Av hj) ?_))
  by_cases h1:(Es c (j:Int)).f1=t
  . rw [if_pos h1] at h
    exact pos h1 (Ev.bind (L8 l _ _ hl oM) h)
  . rw [if_neg h1] at h
    exact neg h1 h
 exact main
theorem KY (l:List Ai) (c:List Gh) (q:Nat) (hq:q<=600) (hl:l.length<=1048576) (hc:c.length<=1048576):∀ (d t:Nat) (out:List (List Int)) (s:List Int) (a:Int) (n:List Int) (b:Int) (w:List CR),t+d=q->out.length=t->Bn l s a n b=true->C7 l w=true->s.length<=1048576->n.length<=1048576 ->
 Ev (fun k=>Ap.l0 k l w c out (q:Int) (t:Int) s a n b) (Nk l c d (t:Int) out s a n b w):=by
 intro d
 induction d with
 | zero =>
  intro t out s a n b w ht ho h1 h2 hs hn
  refine shift ?_
  simp only [Ap.l0]
  exact neg oM (now rfl)
 | succ d ih =>
  intro t out s a n b w ht ho h1 h2 hs hn
  have hg:=IE l w c (t:Int) h2 c.length
  have hw:=N1 hg
  obtain ⟨k1,k2,k3,k4⟩:=Pk h1 hg hs hn
  have hI:=ih (t+1) (out++[FL l s a n b]) _ _ _ _ _ oM (by simp;omega) k1 k2 k3 k4
  refine shift ?_
  simp only [Ap.l0]
  refine pos oM (Ev.bind (IR l s a n b hl hs hn) (pos oM ?_))
  refine JM l c (q:Int) _ (t:Int) s a n b w _ hl hc h2 (shift ?_)
  simp only [Ap.l1]
  rw [Af (j:=t) oM]
  exact neg (Cz (Nat.le_refl _)) (Ev.bind (MB l s a n b _ hl hs hn oM) hI)
theorem KX (l:List Ai) (s:List Int) (a:Int) (n:List Int) (b:Int) (w:List CR) (c:List Gh) (q:Int) (hl:l.length<=1048576) (hs:s.length<=1048576) (hn:n.length<=1048576) (hw:w.length<=1048576) (hc:c.length<=1048576):Ev (fun k=>Ap.f k l s a n b w c q) (Dn l s a n b w c q):=by
 unfold Ap.f
 simp only [Option.bind_some]
 have no:¬ (Bn l s a n b=true/\C7 l w=true/\0<=q/\q<=600)->Ev (fun k=>Ap.j0 k l w c q [] true s a n b) (Dn l s a n b w c q):=by
  intro h
  rw [show Dn l s a n b w c q=[] from if_neg h]
  refine shift ?_
  simp only [Ap.j0]
  exact pos trivial (now rfl)
 refine Ev.bind (D7 l s a n b hl hs hn) ?_
 by_cases h1:Bn l s a n b=true
 . refine pos h1 (Ev.bind (FX l w hl hw) ?_)
   by_cases h2:C7 l w=true
   . refine pos h2 (Ah (CB _ _ _) ?_)
     by_cases h3:0<=q/\q<=600
     . rw [decide_eq_true h3]
       rw [show Dn l s a n b w c q=_ from if_pos ⟨h1,h2,h3⟩]
       obtain ⟨m,rfl⟩:=Int.eq_ofNat_of_zero_le h3.1
       refine shift ?_
       simp only [Ap.j0]
       refine neg dC ?_
       exact KY l c m oM hl hc m 0 [] s a n b w oM rfl h1 h2 hs hn
     . rw [decide_eq_false h3]
       exact no (fun z=>h3 z.2.2)
   . exact neg h2 (no (fun z=>h2 z.2.1))
 . exact neg h1 (no (fun z=>h1 z.1))
theorem Ol (l:List Int):IT.f l=some (decide ((l.length:Int)>1048576)):=rfl
theorem Fl (l:List Int):∃ s,Ev (fun k=>Cc.f k l) (l,0,s):=by
 unfold Cc.f
 have:∀ d j s,j+d=l.length->(j:Nat)<=4000->∃ s2,Ev (fun k=>Cc.l0 k l s (j:Int)) (l,0,s2):=by
  intro d
  induction d with
  | zero =>
   intro j s hj _
   refine ⟨s,shift ?_⟩
   simp only [Cc.l0]
   exact neg oM (now rfl)
  | succ d ih =>
   intro j s hj hk
   by_cases h:j<4000
   . obtain ⟨s2,h2⟩:=ih (j+1) (Go.bits .and .i64 (wrap64 ((wrap64 ((wrap64 (s*137))+(wrap64 (rd l j))))+11)) 1073741823) oM oM
     refine ⟨s2,shift ?_⟩
     simp only [Cc.l0]
     rw [Af oM]
     exact pos oM (pos oM (pos oM h2))
   . refine ⟨s,shift ?_⟩
     simp only [Cc.l0]
     exact pos oM (neg oM (now rfl))
 exact this l.length 0 _ oM oM
theorem Qy (x:Int):0<=Go.bits .and .i64 x 255/\Go.bits .and .i64 x 255<=255:=by
 have h:(BitVec.ofInt 64 x &&& BitVec.ofInt 64 255).toNat<=255:=by
  rw [BitVec.toNat_and]
  exact Nat.le_trans Nat.and_le_right dC
 show 0<=IntKind.wrap .i64 ((BitVec.ofInt 64 x &&& BitVec.ofInt 64 255).toNat:Int)/\IntKind.wrap .i64 ((BitVec.ofInt 64 x &&& BitVec.ofInt 64 255).toNat:Int)<=255
 generalize (BitVec.ofInt 64 x &&& BitVec.ofInt 64 255).toNat=n at h
 have e:IntKind.wrap .i64 (n:Int)=wrap64 (n:Int):=by simp only [Ae]
 rw [e,Gn oM oM]
 omega
theorem Hn (d:List Int) (p s:Int) (hd:d.length<=1048576) (hp:0<=p/\p<=d.length):∃ v p2 s2,Dd.f d p s=some (v,p2,s2)/\(0<=p2/\p2<=d.length)/\0<=v/\v<=255:=by
 unfold Dd.f
 by_cases h:p<(d.length:Int)
 . refine ⟨_,_,_,by rw [if_pos h,if_pos hp.1],?_,Qy _⟩
   rw [Gn oM oM]
   omega
 . exact ⟨_,_,_,by rw [if_neg h],hp,Qy _⟩
theorem Au (d:List Int) (p s a:Int) (hd:d.length<=1048576) (hp:0<=p/\p<=d.length):∃ v p2 s2,AT.f d p s a=some (v,p2,s2)/\(0<=p2/\p2<=d.length)/\0<=v/\(0<a->v<a):=by
 unfold AT.f
 by_cases h:a<=0
 . exact ⟨0,p,s,by rw [if_pos h],hp,by omega,by omega⟩
 rw [if_neg h]
 obtain ⟨v1,p1,s1,e1,r1,b1⟩:=Hn d p s hd hp
 by_cases h2:a<=256
 . refine ⟨Int.tmod v1 a,p1,s1,by rw [if_pos h2,e1,Option.bind_some,if_neg oM],r1,Int.tmod_nonneg _ b1.1,fun h3=>Int.tmod_lt_of_pos _ h3⟩
 . obtain ⟨v2,p2,s2,e2,r2,b2⟩:=Hn d p1 s1 hd r1
   obtain ⟨v3,p3,s3,e3,r3,b3⟩:=Hn d p2 s2 hd r2
   refine ⟨_,p3,s3,by rw [if_neg h2,e1,Option.bind_some];simp only [e2,e3,Option.bind_some];rw [if_neg oM],r3,Int.tmod_nonneg _ ?_,fun h3=>Int.tmod_lt_of_pos _ h3⟩
   rw [Gn (x:=v1*65536) oM oM,Gn (x:=v2*256) oM oM,Gn (x:=v1*65536+v2*256) oM oM,Gn oM oM]
   omega
theorem DJ (d:List Int) (p s:Int) (l:List Int) (hd:d.length<=1048576) (hp:0<=p/\p<=d.length) (hl:0<l.length):∃ v p2 s2,Bv.f d p s l=some (v,p2,s2)/\(0<=p2/\p2<=d.length)/\v ∈ l:=by
 unfold Bv.f
 obtain ⟨v,p2,s2,e,r,h0,h1⟩:=Au d p s (l.length:Int) hd hp
 have h1:=h1 oM
 refine ⟨rd l v,p2,s2,by rw [e,Option.bind_some,if_pos h0,if_pos h1],r,?_⟩
 obtain ⟨n,rfl⟩:=Int.eq_ofNat_of_zero_le h0
 rw [D2 l n oM]
 exact List.getElem_mem _
theorem Ki (l:List Ai) (ids:List Int) (hl:l.length<=1000) (hi:1<=ids.length/\ids.length<=1000):∃ r,Ev (fun k=>BF.f k l ids) r/\1<=r.length/\r.length<=ids.length+l.length:=by
 unfold BF.f
 have ht:=B7 l ids oM oM
 have:∀ d j (out:List Int),j+d=l.length->1<=out.length/\out.length<=ids.length+j->∃ r,Ev (fun k=>BF.l0 k l ids out (j:Int)) r/\1<=r.length/\r.length<=ids.length+l.length:=by
  intro d
  induction d with
  | zero =>
   intro j out hj ho
   refine ⟨out,shift ?_,ho.1,by omega⟩
   simp only [BF.l0]
   refine neg oM (shift ?_)
   simp only [BF.j1]
   exact neg dC (now rfl)
  | succ d ih =>
   intro j out hj ho
   by_cases h:together l ids=true
   . obtain ⟨x,hx,hm,hlx⟩:=IJ out (AA l (j:Int)).f0 oM
     have h1:1<=x.length:=List.length_pos_of_mem ((hm _).2 (.inr rfl))
     have hxt:=B7 l x oM oM
     by_cases g:together l x=true
     . obtain ⟨r,hr,b⟩:=ih (j+1) x oM oM
       refine ⟨r,shift ?_,b⟩
       simp only [BF.l0]
       refine pos oM (Ev.bind ht (shift ?_))
       simp only [BF.j1]
       rw [Af oM]
       exact pos h (pos oM (pos oM (Ev.bind hx (Ev.bind hxt (pos g hr)))))
     . obtain ⟨r,hr,b⟩:=ih (j+1) out oM oM
       refine ⟨r,shift ?_,b⟩
       simp only [BF.l0]
       refine pos oM (Ev.bind ht (shift ?_))
       simp only [BF.j1]
       rw [Af oM]
       exact pos h (pos oM (pos oM (Ev.bind hx (Ev.bind hxt (neg g hr)))))
   . refine ⟨out,shift ?_,ho.1,by omega⟩
     simp only [BF.l0]
     refine pos oM (Ev.bind ht (shift ?_))
     simp only [BF.j1]
     exact neg h (now rfl)
 obtain ⟨r,hr,b⟩:=this l.length 0 ids oM oM
 refine ⟨r,Ah rfl (pos (by simp;omega) ?_),b⟩
 simpa using hr
def Jv (r:List (List Int)):Prop:=∀ x ∈ r,1<=x.length/\x.length<=20
theorem LX (l:List Ai) (out:List (List Int)) (i:Nat) (s:List Int) (hs:s.length<=20) (R:List (List Int)->Prop)
 (nx:∀ dn:List Int,dn.length<=20*(i+1)->∃ r,Ev (fun k=>BA.l0 k l ([]:List Int) out dn ((i+1:Nat):Int)) r/\R r) (hi:i<=1000) :
 ∀ d j (dn:List Int),j+d=s.length->dn.length<=20*i+j->∃ r,Ev (fun k=>BA.l1 k l s out dn (i:Int) (j:Int)) r/\R r:=by
 intro d
 induction d with
 | zero =>
  intro j dn hj hd
  obtain ⟨r,hr,b⟩:=nx dn oM
  refine ⟨r,shift ?_,b⟩
  simp only [BA.l1]
  rw [Af (j:=i) oM]
  exact neg oM hr
 | succ d ih =>
  intro j dn hj hd
  obtain ⟨x,hx,_,hlx⟩:=IJ dn (rd s (j:Int)) oM
  obtain ⟨r,hr,b⟩:=ih (j+1) x oM oM
  refine ⟨r,shift ?_,b⟩
  simp only [BA.l1]
  rw [Af (j:=j) oM]
  exact pos oM (pos oM (Ev.bind hx hr))
theorem MD (l:List Ai) (hl:l.length<=12):∃ r,Ev (fun k=>BA.f k l) r/\r.length<=l.length/\Jv r:=by
 unfold BA.f
 have hp:=FZ l oM
 have:∀ d i (out:List (List Int)) (dn:List Int),i+d=l.length->out.length<=i->Jv out->dn.length<=20*i->∃ r,Ev (fun k=>BA.l0 k l ([]:List Int) out dn (i:Int)) r/\(r.length<=l.length/\Jv r):=by
  intro d
  induction d with
  | zero =>
   intro i out dn hi ho hs hd
   refine ⟨out,shift ?_,by omega,hs⟩
   simp only [BA.l0]
   refine neg oM (shift ?_)
   simp only [BA.j1]
   exact neg dC (now rfl)
  | succ d ih =>
   intro i out dn hi ho hs hd
   by_cases h:Cr l=true
   . have hh:=EK dn (AA l (i:Int)).f0 oM
     by_cases g:(AA l (i:Int)).f0 ∈ dn
     . obtain ⟨r,hr,b⟩:=ih (i+1) out dn oM oM hs oM
       refine ⟨r,shift ?_,b⟩
       simp only [BA.l0]
       refine pos oM (Ev.bind hp (shift ?_))
       simp only [BA.j1]
       rw [Af oM]
       exact pos h (pos oM (pos oM (Ev.bind hh (pos (by simpa using g) hr))))
     . obtain ⟨s,hs1,hs2,hs3⟩:=Ki l [(AA l (i:Int)).f0] oM sM
       simp only [List.length_cons,List.length_nil] at hs3
       have hso:Jv (out++[s]):=by
        intro x hx
        rcases List.mem_append.1 hx with q|q
        . exact hs x q
        . rw [List.mem_singleton.1 q]
          omega
       obtain ⟨r,hr,b⟩:=LX l (out++[s]) i s oM (fun r=>r.length<=l.length/\Jv r) (fun dn2 h2=>ih (i+1) (out++[s]) dn2 oM (by simp;omega) hso h2) oM s.length 0 dn oM oM
       refine ⟨r,shift ?_,b⟩
       simp only [BA.l0]
       refine pos oM (Ev.bind hp (shift ?_))
       simp only [BA.j1]
       exact pos h (pos oM (pos oM (Ev.bind hh (neg (by simpa using g) (Ev.bind hs1 (pos oM hr))))))
   . refine ⟨out,shift ?_,by omega,hs⟩
     simp only [BA.l0]
     refine pos oM (Ev.bind hp (shift ?_))
     simp only [BA.j1]
     exact neg h (now rfl)
 obtain ⟨r,hr,b⟩:=this l.length 0 [] [] oM sM (fun x hx=>absurd hx sM) sM
 exact ⟨r,hr,b⟩
def GH (p:List Ag):Prop:=p.length<=12/\∀ x ∈ p,1<=x.f0.length/\x.f0.length<=20
theorem Mz:GH []:=⟨by simp,fun x hx=>absurd hx sM⟩
theorem RZ (r:List (List Int)) (i:Nat) (h:i<r.length):At r (i:Int) ∈ r:=by
 have:At r (i:Int)=r[i]:=by simp [At,h]
 rw [this]
 exact List.getElem_mem h
theorem Gw (l:List Ai) (hl:l.length<=12):∃ p,Ev (fun k=>CH.f k l) p/\GH p:=by
 unfold CH.f
 obtain ⟨r,hr,hrl,hrs⟩:=MD l hl
 have:∀ d i (p:List Ag),i+d=r.length->p.length<=i->GH p->∃ p2,Ev (fun k=>CH.l0 k l p r (i:Int)) p2/\GH p2:=by
  intro d
  induction d with
  | zero =>
   intro i p hi hp ho
   have hq:=Hm l p oM oM (fun x hx=>by have:=(ho.2 x hx).2;omega)
   by_cases g:CV l p=true
   . refine ⟨p,shift ?_,ho⟩
     simp only [CH.l0]
     exact neg oM (Ev.bind hq (pos g (now rfl)))
   . refine ⟨[],shift ?_,Mz⟩
     simp only [CH.l0]
     exact neg oM (Ev.bind hq (neg g (now rfl)))
  | succ d ih =>
   intro i p hi hp ho
   have hm:=hrs _ (RZ r i oM)
   have hg:=Et l (At r (i:Int)) oM oM
   obtain ⟨p2,h2,b⟩:=ih (i+1) (p++[⟨At r (i:Int),Hd l (At r (i:Int))⟩]) oM (by simp;omega) ⟨by simp;omega,fun x hx=>by
    rcases List.mem_append.1 hx with q|q
    . exact ho.2 x q
    . rw [List.mem_singleton.1 q]
      exact hm⟩
   refine ⟨p2,shift ?_,b⟩
   simp only [CH.l0]
   rw [Af oM]
   exact pos oM (pos oM (Ev.bind hg (pos oM h2)))
 obtain ⟨p,hp,b⟩:=this r.length 0 [] oM sM Mz
 exact ⟨p,Ev.bind hr hp,b⟩
theorem Jt (d:List Int) (hd:d.length<=1048576) (q s a:Int) (hq:0<=q/\q<=d.length):∃ x0 x1 x2 x3 q2 s2,D4.f d q s a=some (x0,x1,x2,x3,q2,s2)/\(0<=q2/\q2<=d.length):=by
 unfold D4.f
 obtain ⟨c1,q1,s1,e1,hq1,_⟩:=Au d q s 3 hd hq
 obtain ⟨c2,q2,s2,e2,hq2,_⟩:=Au d q1 s1 4 hd hq1
 rw [e1,Option.bind_some]
 simp only [e2,Option.bind_some]
 by_cases c:wrap64 (1+c1)=2
 . rw [if_pos c]
   exact ⟨_,_,_,_,q2,s2,rfl,hq2⟩
 . obtain ⟨c3,q3,s3,e3,hq3,_⟩:=Au d q2 s2 3 hd hq2
   rw [if_neg c,e3,Option.bind_some]
   exact ⟨_,_,_,_,q3,s3,rfl,hq3⟩
theorem NC (d:List Int) (hd:d.length<=1048576):∀ (dd i:Nat) (l:List Ai) (q s:Int),i+dd=8->1<=i->l.length+1=i->(0<=q/\q<=d.length) ->
 ∃ l2 q2 s2,Ev (fun k=>Cn.l0 k l (i:Int) d q s) (l2,q2,s2)/\(2<=l2.length/\l2.length<=7)/\(0<=q2/\q2<=d.length):=by
 intro dd
 induction dd with
 | zero =>
  intro i l q s hi h1 hl hq
  obtain ⟨v,q1,s1,e1,hq1,v0,v1⟩:=Au d q s 6 hd hq
  have v1:=v1 oM
  refine ⟨l,q1,s1,shift ?_,by omega,hq1⟩
  simp only [Cn.l0]
  exact Ah e1 (neg (by dsimp only;rw [Gn oM oM];omega) (now rfl))
 | succ dd ih =>
  intro i l q s hi h1 hl hq
  obtain ⟨v,q1,s1,e1,hq1,v0,v1⟩:=Au d q s 6 hd hq
  have v1:=v1 oM
  have hw:wrap64 (2+v)=2+v:=Gn oM oM
  by_cases c:(i:Int)<=2+v
  . obtain ⟨y0,y1,y2,y3,q2,s2,e2,hq2⟩:=Jt d hd q1 s1 (i:Int) hq1
    obtain ⟨l3,q3,s3,h3,r⟩:=ih (i+1) (l++[⟨y0,y1,y2,y3⟩]) q2 s2 oM oM (by simp;omega) hq2
    refine ⟨l3,q3,s3,shift ?_,r⟩
    simp only [Cn.l0]
    rw [Af oM]
    exact Ah e1 (pos (by dsimp only;rw [hw];exact c) (Ah e2 (pos oM h3)))
  . refine ⟨l,q1,s1,shift ?_,by omega,hq1⟩
    simp only [Cn.l0]
    exact Ah e1 (neg (by dsimp only;rw [hw];exact c) (now rfl))
theorem Ho (d:List Int) (hd:d.length<=1048576) (q s:Int) (hq:0<=q/\q<=d.length) :
 ∃ l2 q2 s2,Ev (fun k=>Cn.f k d q s) (l2,q2,s2)/\(2<=l2.length/\l2.length<=7)/\(0<=q2/\q2<=d.length):=by
 unfold Cn.f
 exact NC d hd 7 1 [] q s oM oM sM hq
theorem M2 (p:List Ag) (i:Nat) (h:i<p.length):AE p (i:Int) ∈ p:=by
 have:AE p (i:Int)=p[i]:=by simp [AE,h]
 rw [this]
 exact List.getElem_mem h
theorem Pa {p:List Ag} (h:GH p) (i:Nat) (x:Ag) (hx:1<=x.f0.length/\x.f0.length<=20):GH (p.set i x):=by
 refine ⟨by simpa using h.1,fun y hy=>?_⟩
 rcases List.mem_or_eq_of_mem_set hy with q|q
 . exact h.2 y q
 . rw [q]
   exact hx
theorem K3 (d:List Int) (hd:d.length<=1048576) (l:List Ai):∀ dd i (p:List Ag) (q s:Int),i+dd=p.length->GH p->(0<=q/\q<=d.length) ->
 ∃ p2 q2 s2,Ev (fun k=>Bb.l1 k l p (i:Int) d q s) (l,p2,q2,s2)/\GH p2/\(0<=q2/\q2<=d.length):=by
 intro dd
 induction dd with
 | zero =>
  intro i p q s hi ho hq
  refine ⟨p,q,s,shift ?_,ho,hq⟩
  simp only [Bb.l1]
  exact neg oM (now rfl)
 | succ dd ih =>
  intro i p q s hi ho hq
  have h12:=ho.1
  have hm:=ho.2 _ (M2 p i oM)
  obtain ⟨v,q1,s1,e1,hq1,_⟩:=Au d q s 12 hd hq
  obtain ⟨p2,q2,s2,h2,b⟩:=ih (i+1) (p.set i ⟨(AE p (i:Int)).f0,wrap64 ((AE p (i:Int)).f1+v)⟩) q1 s1 (by simp;omega) (Pa ho i _ hm) hq1
  refine ⟨p2,q2,s2,shift ?_,b⟩
  simp only [Bb.l1,Int.toNat_natCast]
  rw [Af oM]
  exact pos oM (pos oM (Ah e1 h2))
theorem NE (d:List Int) (hd:d.length<=1048576) (q s:Int) (hq:0<=q/\q<=d.length) :
 ∃ l p q2 s2,Ev (fun k=>Bb.f k d q s) (l,p,q2,s2)/\(2<=l.length/\l.length<=7)/\GH p/\(0<=q2/\q2<=d.length):=by
 unfold Bb.f
 have last:∀ (l:List Ai) (p:List Ag) (i:Nat) (q s:Int),(2<=l.length/\l.length<=7)->GH p->(0<=q/\q<=d.length)->∃ l2 p2 q2 s2,Ev (fun k=>Bb.j1 k l p (i:Int) false d q s) (l2,p2,q2,s2)/\(2<=l2.length/\l2.length<=7)/\GH p2/\(0<=q2/\q2<=d.length):=by
  intro l p i q s hl ho hq
  obtain ⟨p2,q2,s2,h2,b⟩:=K3 d hd l p.length 0 p q s oM ho hq
  refine ⟨l,p2,q2,s2,shift ?_,hl,b⟩
  simp only [Bb.j1]
  exact neg dC h2
 have main:∀ (dd i:Nat) (l:List Ai) (p:List Ag) (q s:Int),i+dd=4->(2<=l.length/\l.length<=7)->GH p->(0<=q/\q<=d.length)->∃ l2 p2 q2 s2,Ev (fun k=>Bb.l0 k l p (i:Int) d q s) (l2,p2,q2,s2)/\(2<=l2.length/\l2.length<=7)/\GH p2/\(0<=q2/\q2<=d.length):=by
  intro dd
  induction dd with
  | zero =>
   intro i l p q s hi hl ho hq
   obtain ⟨l2,p2,q2,s2,h2,b⟩:=last l p i q s hl ho hq
   refine ⟨l2,p2,q2,s2,shift ?_,b⟩
   simp only [Bb.l0]
   exact neg oM h2
  | succ dd ih =>
   intro i l p q s hi hl ho hq
   by_cases c:(p.length:Int)=0
   . obtain ⟨l1,q1,s1,h1,hl1,hq1⟩:=Ho d hd q s hq
     obtain ⟨p1,hp1,ho1⟩:=Gw l1 oM
     obtain ⟨l2,p2,q2,s2,h2,b⟩:=ih (i+1) l1 p1 q1 s1 oM hl1 ho1 hq1
     refine ⟨l2,p2,q2,s2,shift ?_,b⟩
     simp only [Bb.l0]
     refine pos oM (shift ?_)
     simp only [Bb.j1]
     rw [Af oM]
     exact pos (beq_iff_eq.2 c) (Ev.bind h1 (Ev.bind hp1 h2))
   . obtain ⟨l2,p2,q2,s2,h2,b⟩:=last l p i q s hl ho hq
     refine ⟨l2,p2,q2,s2,shift ?_,b⟩
     simp only [Bb.l0]
     rw [beq_eq_false_iff_ne.2 c]
     exact pos oM h2
 obtain ⟨l1,q1,s1,h1,hl1,hq1⟩:=Ho d hd q s hq
 obtain ⟨p1,hp1,ho1⟩:=Gw l1 oM
 obtain ⟨l2,p2,q2,s2,h2,b⟩:=main 4 0 l1 p1 q1 s1 oM hl1 ho1 hq1
 exact ⟨l2,p2,q2,s2,Ev.bind h1 (Ev.bind hp1 h2),b⟩
theorem D3 (d:List Int) (p s a:Int) (hd:d.length<=1048576) (hp:0<=p/\p<=d.length):∃ v p2 s2,CN.f d p s a=some (v,p2,s2)/\(0<=p2/\p2<=d.length):=by
 unfold CN.f
 obtain ⟨v,p2,s2,e,r,_⟩:=Au d p s a hd hp
 exact ⟨_,p2,s2,by rw [e,Option.bind_some],r⟩
theorem KN (d:List Int) (p s:Int) (hd:d.length<=1048576) (hp:0<=p/\p<=d.length):∃ v p2 s2,Eu.f d p s=some (v,p2,s2)/\(0<=p2/\p2<=d.length)/\v ∈ ([-1,0,4,7,20,21,9223372036854775807,-9223372036854775808]:List Int):=by
 unfold Eu.f
 obtain ⟨v,p2,s2,e,r,h⟩:=DJ d p s [-1,0,4,7,20,21,9223372036854775807,-9223372036854775808] hd hp sM
 exact ⟨v,p2,s2,by rw [e,Option.bind_some],r,h⟩
theorem NW (d:List Int) (hd:d.length<=1048576) (q s:Int) (hq:0<=q/\q<=d.length):∃ x0 x1 x2 x3 q2 s2,F4.f d q s=some (x0,x1,x2,x3,q2,s2)/\(0<=q2/\q2<=d.length):=by
 unfold F4.f
 obtain ⟨c1,q1,s1,e1,hq1,_⟩:=Au d q s 20 hd hq
 obtain ⟨y0,y1,y2,y3,q2,s2,e2,hq2⟩:=Jt d hd q1 s1 (wrap64 (1+c1)) hq1
 obtain ⟨c3,q3,s3,e3,hq3,_⟩:=Au d q2 s2 10 hd hq2
 rw [e1,Option.bind_some]
 simp only [e2,Option.bind_some]
 rw [e3,Option.bind_some]
 dsimp only
 by_cases c:c3=0
 . obtain ⟨v,q4,s4,e4,hq4,_⟩:=DJ d q3 s3 [0,20,21] hd hq3 sM
   rw [if_pos c,e4,Option.bind_some]
   exact ⟨_,_,_,_,q4,s4,rfl,hq4⟩
 rw [if_neg c]
 by_cases c:c3=1
 . obtain ⟨v,q4,s4,e4,hq4,_⟩:=DJ d q3 s3 [0,2,4] hd hq3 sM
   rw [if_pos c,e4,Option.bind_some]
   exact ⟨_,_,_,_,q4,s4,rfl,hq4⟩
 rw [if_neg c]
 by_cases c:c3=2
 . obtain ⟨v,q4,s4,e4,hq4,_⟩:=KN d q3 s3 hd hq3
   rw [if_pos c,e4,Option.bind_some]
   exact ⟨_,_,_,_,q4,s4,rfl,hq4⟩
 rw [if_neg c]
 by_cases c:c3=3
 . obtain ⟨v,q4,s4,e4,hq4,_⟩:=KN d q3 s3 hd hq3
   rw [if_pos c,e4,Option.bind_some]
   exact ⟨_,_,_,_,q4,s4,rfl,hq4⟩
 rw [if_neg c]
 exact ⟨_,_,_,_,q3,s3,rfl,hq3⟩
theorem KO (d:List Int) (hd:d.length<=1048576) (q s:Int) (hq:0<=q/\q<=d.length) :
 ∃ l2 q2 s2,Ev (fun k=>Ew.f k d q s) (l2,q2,s2)/\(2<=l2.length/\l2.length<=7)/\(0<=q2/\q2<=d.length):=by
 unfold Ew.f
 obtain ⟨l,q1,s1,h1,hl,hq1⟩:=Ho d hd q s hq
 obtain ⟨c,q2,s2,e2,hq2⟩:=D3 d q1 s1 6 hd hq1
 by_cases g:c=true
 . obtain ⟨i,q3,s3,e3,hq3,i0,i1⟩:=Au d q2 s2 (l.length:Int) hd hq2
   have i1:=i1 oM
   obtain ⟨y0,y1,y2,y3,q4,s4,e4,hq4⟩:=NW d hd q3 s3 hq3
   exact ⟨_,q4,s4,Ev.bind h1 (Ah e2 (pos g (Ah e3 (Ah e4 (pos i0 (pos i1 (now rfl))))))),by simpa using hl,hq4⟩
 . exact ⟨l,q2,s2,Ev.bind h1 (Ah e2 (neg g (now rfl))),hl,hq2⟩
def FB (p:List Ag):Prop:=p.length<=12/\∀ x ∈ p,x.f0.length<=20
theorem G8 {p:List Ag} (h:GH p):FB p:=⟨h.1,fun x hx=>(h.2 x hx).2⟩
theorem Kf {p:List Ag} (h:FB p) (i:Nat) (x:Ag) (hx:x.f0.length<=20):FB (p.set i x):=by
 refine ⟨by simpa using h.1,fun y hy=>?_⟩
 rcases List.mem_or_eq_of_mem_set hy with q|q
 . exact h.2 y q
 . rw [q]
   exact hx
theorem IK (d:List Int) (hd:d.length<=1048576) (q s:Int) (hq:0<=q/\q<=d.length) :
 ∃ l p q2 s2,Ev (fun k=>EN.f k d q s) (l,p,q2,s2)/\(2<=l.length/\l.length<=7)/\FB p/\(0<=q2/\q2<=d.length):=by
 unfold EN.f
 obtain ⟨l,p,q1,s1,h1,hl,ho,hq1⟩:=NE d hd q s hq
 by_cases c:(p.length:Int)=0
 . exact ⟨l,p,q1,s1,Ev.bind h1 (pos c (now rfl)),hl,G8 ho,hq1⟩
 have h12:=ho.1
 obtain ⟨i,q2,s2,e2,hq2,i0,i1⟩:=Au d q1 s1 (p.length:Int) hd hq1
 have i1:=i1 oM
 obtain ⟨n,rfl⟩:=Int.eq_ofNat_of_zero_le i0
 have hm:=ho.2 _ (M2 p n oM)
 obtain ⟨j,q3,s3,e3,hq3,_⟩:=Au d q2 s2 10 hd hq2
 by_cases c0:j=0
 . obtain ⟨x,q4,s4,e4,hq4,_⟩:=DJ d q3 s3 [4,60,61,9223372036854775807] hd hq3 sM
   exact ⟨l,_,q4,s4,Ev.bind h1 (neg c (Ah e2 (Ah e3 (pos c0 (Ah e4 (pos i0 (pos i1 (now rfl)))))))),hl,Kf (G8 ho) _ _ hm.2,hq4⟩
 by_cases c1:j=1
 . exact ⟨l,_,q3,s3,Ev.bind h1 (neg c (Ah e2 (Ah e3 (neg c0 (pos c1 (pos i0 (pos i1 (pos (by dsimp only;omega) (now rfl))))))))),hl,Kf (G8 ho) _ _ (by simp;omega),hq3⟩
 by_cases c2:j=2
 . obtain ⟨l5,q5,s5,h5,hl5,hq5⟩:=KO d hd q3 s3 hq3
   exact ⟨l5,p,q5,s5,Ev.bind h1 (neg c (Ah e2 (Ah e3 (neg c0 (neg c1 (pos c2 (Ev.bind h5 (now rfl)))))))),hl5,G8 ho,hq5⟩
 by_cases c3:j=3
 . exact ⟨l,_,q3,s3,Ev.bind h1 (neg c (Ah e2 (Ah e3 (neg c0 (neg c1 (neg c2 (pos c3 (pos (by dsimp only;omega) (now rfl))))))))),hl,⟨by simp;omega,fun x hx=>(ho.2 x (List.mem_of_mem_drop hx)).2⟩,hq3⟩
 . exact ⟨l,p,q3,s3,Ev.bind h1 (neg c (Ah e2 (Ah e3 (neg c0 (neg c1 (neg c2 (neg c3 (now rfl)))))))),hl,G8 ho,hq3⟩
theorem Ib (d:List Int) (hd:d.length<=1048576):∃ l p a n,Ev (fun k=>DI.f k d) (l,p,a,n)/\(2<=l.length/\l.length<=7)/\FB p:=by
 unfold DI.f
 obtain ⟨s,h0⟩:=Fl d
 obtain ⟨l,p,q1,s1,h1,hl,hp,hq1⟩:=IK d hd 0 s ⟨by omega,by omega⟩
 obtain ⟨a,q2,s2,e2,hq2,_⟩:=DJ d q1 s1 [0,9,100000,100001,-1] hd hq1 sM
 obtain ⟨n,q3,s3,e3,hq3,_⟩:=DJ d q2 s2 [0,10,50,600,601,-1] hd hq2 sM
 exact ⟨l,p,a,n,Ev.bind h0 (Ev.bind h1 (Ah e2 (Ah e3 (now rfl)))),hl,hp⟩
theorem H6 (l:List (List Int)) (a:Int) (h:∀ x ∈ l,x.length<=1048576):Ev (fun k=>Bp.f k l a) (l.any fun s=>decide (a ∈ s)):=by
 unfold Bp.f
 induction l with
 | nil=>exact now rfl
 | cons x r ih =>
  simp only [Bp.from_,List.any_cons]
  have hx:=h x List.mem_cons_self
  refine Ev.bind (Bc x a oM) ?_
  by_cases c:a ∈ x
  . rw [decide_eq_true c,Bool.true_or]
    exact pos rfl (now rfl)
  . rw [decide_eq_false c,Bool.false_or]
    exact neg dC (ih fun y hy=>h y (List.mem_cons_of_mem _ hy))
theorem Mp (l:List Ai) (ss:List (List Int)) (hl:l.length<=1048576) (hn:ss.length<=1048576) (hs:∀ x ∈ ss,x.length<=1048576):Ev (fun k=>CA.f k l ss) (Mj l ss):=by
 unfold CA.f Mj
 refine Ev.bind (Ei l) ?_
 by_cases hp:Cr l=true
 . rw [hp]
   refine pos rfl ?_
   refine E0 (g:=fun k j=>CA.l0 k l ss ss (ss.length:Int) (j:Int)) ss.length (fun k=>together l (M5 ss k)) _ ?_ ?_ ?_
   . intro j r hj ok h
     refine shift ?_
     simp only [CA.l0]
     rw [Af oM]
     exact pos (Av hj) (pos oM (pos (Av hj) (Ev.bind (Cg l (M5 ss j) hl (Hl ss hs j hj)) (pos ok h))))
   . intro j hj ok
     refine shift ?_
     simp only [CA.l0]
     exact pos (Av hj) (pos oM (pos (Av hj) (Ev.bind (Cg l (M5 ss j) hl (Hl ss hs j hj)) (neg (by rw [ok];decide) (now rfl)))))
   . refine shift ?_
     simp only [CA.l0]
     refine neg (Cz (Nat.le_refl _)) ?_
     refine E0 (g:=fun k i=>CA.l1 k ss l (l.length:Int) (i:Int)) l.length (Oe l ss) _ ?_ ?_ ?_
     . intro i r hi ok h
       refine shift ?_
       simp only [CA.l1]
       rw [Af oM]
       exact pos (Av hi) (pos oM (pos (Av hi) (Ev.bind (H6 ss _ hs) (pos ok h))))
     . intro i hi ok
       refine shift ?_
       simp only [CA.l1]
       refine pos (Av hi) (pos oM (pos (Av hi) (Ev.bind (H6 ss _ hs) (neg ?_ (now rfl)))))
       show ¬ Oe l ss i=true
       rw [ok]
       decide
     . refine shift ?_
       simp only [CA.l1]
       exact neg (Cz (Nat.le_refl _)) (now rfl)
 . exact neg hp (now (by simp [hp]))
theorem FI (l:List Ai) (p:List Ag) (hl:l.length<=1048576) (hp:p.length<=1048576) (hs:∀ x ∈ p,x.f0.length<=1048576):Ev (fun k=>BL.f k l p) (CV l p):=by
 unfold BL.f CV
 refine Ah (CB _ _ _) ?_
 by_cases hr:1<=(p.length:Int)/\(p.length:Int)<=6
 . rw [decide_eq_true hr,Bool.true_and]
   refine pos rfl (E0 (g:=fun k j=>BL.l0 k l ((p.take j).map (·.f0)) p (p.length:Int) (j:Int)) p.length (Jh l p) _ ?_ ?_ ?_ |> (fun h=>by simpa using h))
   . intro j r hj ok h
     simp only [Jh,Bool.and_eq_true,decide_eq_true_eq] at ok
     have hx:=Ds p hs j hj
     refine shift ?_
     simp only [BL.l0]
     rw [Af oM]
     rw [G9 p j hj,List.map_append] at h
     refine pos (Av hj) (pos oM (pos (Av hj) (neg ok.1 (Ev.bind (Cg l _ hl hx) (pos ok.2.1 (Ev.bind (F2 l _ hx) (Ah (CB _ _ _) (pos (decide_eq_true ok.2.2) (pos (by simp;omega) ?_)))))))))
     rw [Pe p j hj]
     exact h
   . intro j hj ok
     have hx:=Ds p hs j hj
     refine shift ?_
     simp only [BL.l0]
     refine pos (Av hj) (pos oM (pos (Av hj) ?_))
     by_cases h1:((AE p j).f0.length:Int)=0
     . exact pos h1 (now rfl)
     refine neg h1 (Ev.bind (Cg l _ hl hx) ?_)
     by_cases h2:together l (AE p j).f0=true
     . have h3:decide (Hd l (AE p j).f0<=(AE p j).f1/\(AE p j).f1<=60)=false:=by
        rw [Jh,decide_eq_true h1,h2,Bool.true_and,Bool.true_and] at ok
        exact ok
       exact pos h2 (Ev.bind (F2 l _ hx) (Ah (CB _ _ _) (neg (by rw [h3];decide) (now rfl))))
     . exact neg h2 (now rfl)
   . refine shift ?_
     simp only [BL.l0]
     rw [List.take_length]
     exact neg (Cz (Nat.le_refl _)) (Ev.bind (Mp l _ hl (by simpa using hp) (K5 p hs)) (now rfl))
 . rw [decide_eq_false hr,Bool.false_and]
   exact neg dC (now rfl)
theorem H7 (p:List Ag) (i:Nat) (hi:i<p.length) (h:p.length<=1048576):Dj.f p (i:Int)=some (AE p (Ns p i)).f0:=by
 have hn:=LQ p i hi
 unfold Dj.f
 rw [Mw p i oM,if_neg oM,if_pos oM,if_pos oM]
theorem Hc (l:List Ai) (p:List Ag) (hl:l.length<=1048576) (hs:∀ x ∈ p,x.f0.length<=1048576) (h:CV l p=true) (i:Nat) (hi:i<p.length):Ev (fun k=>DH.f k l p (i:Int)) (CZ l p i):=by
 have hp:=(CW h).1
 have hr:=Cl h i hi
 have hn:=LQ p i hi
 unfold DH.f
 refine pos oM (pos oM (Ah (H7 p i hi oM) (Ev.bind (FG l _ _ hl (Ds p hs i hi) (Ds p hs _ hn)) (now ?_))))
 exact Gn (by unfold CZ at hr;omega) (by unfold CZ at hr;omega)
def DO (L:Nat->Int):Nat->Nat->Int
 | 0,_=>0
 | d+1,i=>L i+DO L d (i+1)
def D1 (L:Nat->Int):Nat->Nat->Int->Nat×Int
 | 0,i,s=>(i,s)
 | d+1,i,s=>if s<L i then (i,s) else D1 L d (i+1) (s-L i)
theorem FR {L:Nat->Int} {n:Nat} (h:∀ i,i<n->5<=L i/\L i<=65):∀ d i,i+d=n->5*(d:Int)<=DO L d i/\DO L d i<=65*(d:Int)
 | 0,_,_=>by simp [DO]
 | d+1,i,hi=>by
  have h1:=h i oM
  have h2:=FR h d (i+1) oM
  simp only [DO]
  omega
theorem Ke {L:Nat->Int}:∀ d i s,0<=s->s<DO L d i->i<=(D1 L d i s).1/\(D1 L d i s).1<i+d/\0<=(D1 L d i s).2/\(D1 L d i s).2<L (D1 L d i s).1
 | 0,_,s,h0,h1=>by simp only [DO] at h1;omega
 | d+1,i,s,h0,h1=>by
  simp only [DO] at h1
  simp only [D1]
  by_cases c:s<L i
  . rw [if_pos c]
    exact ⟨Nat.le_refl _,by omega,h0,c⟩
  . rw [if_neg c]
    have:=Ke (L:=L) d (i+1) (s-L i) oM oM
    omega
def Dh (l:List Ai) (p:List Ag):Int:=DO (CZ l p) p.length 0
theorem FF {l:List Ai} {p:List Ag} (h:CV l p=true):5<=Dh l p/\Dh l p<=390:=by
 have h1:=(CW h).1
 have:=FR (Cl h) p.length 0 oM
 unfold Dh
 omega
def Fi (l:List Ai) (p:List Ag) (t:Int):Nat×Int:=D1 (CZ l p) p.length 0 t
theorem My {l:List Ai} {p:List Ag} {t:Int} (h0:0<=t) (h1:t<Dh l p):(Fi l p t).1<p.length/\0<=(Fi l p t).2/\(Fi l p t).2<CZ l p (Fi l p t).1:=by
 have:=Ke (L:=CZ l p) p.length 0 t h0 h1
 unfold Fi
 omega
def EA (l:List Ai) (p:List Ag) (id:Int) (r:Nat×Int):Int:=
 if id ∈ (AE p r.1).f0 then (if r.2<(AE p r.1).f1\/id ∈ (AE p (Ns p r.1)).f0 then 1 else if r.2<(AE p r.1).f1+JL (AA l (fp l id)) then 2 else 0) else 0
def NV (L:Nat->Int) (f:Nat×Int->Int):Nat->Nat->List Int
 | 0,_=>[]
 | d+1,i=>(List.range (L i).toNat).map (fun (s:Nat)=>f (i,(s:Int)))++NV L f d (i+1)
theorem L0 {L:Nat->Int} (f:Nat×Int->Int):∀ d i,(∀ q,i<=q->q<i+d->0<=L q)->((NV L f d i).length:Int)=DO L d i
 | 0,_,_=>rfl
 | d+1,i,h=>by
  have h1:=h i (Nat.le_refl _) oM
  have:=L0 f d (i+1) (fun q h1 h2=>h q oM oM)
  simp only [NV,DO,List.length_append,List.length_map,List.length_range]
  omega
theorem Oz {L:Nat->Int} (f:Nat×Int->Int):∀ d i (t:Nat),(∀ q,i<=q->q<i+d->0<=L q)->(t:Int)<DO L d i->(NV L f d i)[t]?=some (f (D1 L d i (t:Int)))
 | 0,_,t,_,h=>by simp only [DO] at h;omega
 | d+1,i,t,h,ht=>by
  have h1:=h i (Nat.le_refl _) oM
  simp only [DO] at ht
  simp only [NV,D1]
  by_cases c:(t:Int)<L i
  . rw [if_pos c,List.getElem?_append_left (by simp;omega)]
    have:t<(L i).toNat:=by omega
    simp [this]
  . rw [if_neg c,List.getElem?_append_right (by simp;omega)]
    have e:(t:Int)-L i=((t-(L i).toNat:Nat):Int):=by omega
    rw [e,<-Oz f d (i+1) (t-(L i).toNat) (fun q h1 h2=>h q oM oM) oM]
    simp
def KD (l:List Ai) (p:List Ag) (id:Int):List Int:=(List.range (Dh l p).toNat).map fun (t:Nat)=>EA l p id (Fi l p (t:Int))
theorem R0 {l:List Ai} {p:List Ag} (h:CV l p=true) (id:Int):NV (CZ l p) (EA l p id) p.length 0=KD l p id:=by
 have hL:∀ q,0<=q->q<0+p.length->0<=CZ l p q:=fun q _ h2=>by have:=Cl h q oM;omega
 have hlen:=L0 (EA l p id) p.length 0 hL
 apply List.ext_getElem?
 intro t
 by_cases c:(t:Int)<Dh l p
 . rw [Oz _ _ _ _ hL c,KD,List.getElem?_map,List.getElem?_range oM]
   rfl
 . have:Dh l p=DO (CZ l p) p.length 0:=rfl
   rw [List.getElem?_eq_none oM,List.getElem?_eq_none (by simp [KD];omega)]
theorem L3 (l:List Ai) (p:List Ag) (id:Int):(KD l p id).length=(Dh l p).toNat:=by simp [KD]
theorem R1 (l:List Ai) (p:List Ag) (id:Int) (t:Nat) (h:t<(Dh l p).toNat):rd (KD l p id) (t:Int)=EA l p id (Fi l p (t:Int)):=by
 rw [D2 _ _ (by rw [L3];exact h)]
 simp [KD]
def Pu (l:List Ai) (p:List Ag):Int:=if CV l p=true then Dh l p else 0
theorem KJ (l:List Ai) (p:List Ag) (hl:l.length<=1048576) (hp:p.length<=1048576) (hs:∀ x ∈ p,x.f0.length<=1048576):Ev (fun k=>DG.f k l p) (Pu l p):=by
 unfold DG.f Pu
 refine Ev.bind (FI l p hl hp hs) ?_
 by_cases h:CV l p=true
 . rw [if_pos h]
   have hr:=FR (Cl h)
   have h6:=(CW h).1
   refine pos h (loop (g:=fun k j=>DG.l0 k l p (Dh l p-DO (CZ l p) (p.length-j) j) (p.length:Int) (j:Int)) (r:=Dh l p) p.length ?_ ?_ |> (fun h=>by simpa [Dh] using h))
   . intro j hj hh
     have e:p.length-j=(p.length-(j+1))+1:=by omega
     have h1:=hr p.length 0 oM
     have h2:=hr (p.length-(j+1)) (j+1) oM
     have h3:=Cl h j hj
     refine shift ?_
     simp only [DG.l0]
     rw [Af oM]
     refine pos (Av hj) (Ev.bind (Hc l p hl hs h j hj) ?_)
     have e2:wrap64 (Dh l p-DO (CZ l p) (p.length-j) j+CZ l p j)=Dh l p-DO (CZ l p) (p.length-(j+1)) (j+1):=by
      rw [e]
      simp only [DO]
      have:Dh l p=DO (CZ l p) p.length 0:=rfl
      rw [Gn oM oM]
      omega
     rw [e2]
     exact hh
   . refine shift ?_
     simp only [DG.l0]
     exact neg (Cz (Nat.le_refl _)) (now (by simp [DO]))
 . rw [if_neg h]
   exact neg h (now rfl)
def JQ (l:List Ai) (p:List Ag) (t:Int):Int:=Int.tmod t (Dh l p)
theorem Kh {l:List Ai} {p:List Ag} (h:CV l p=true) {t:Int} (ht:0<=t):0<=JQ l p t/\JQ l p t<Dh l p:=by
 have:=FF h
 exact ⟨Int.tmod_nonneg _ ht,Int.tmod_lt_of_pos _ oM⟩
theorem Mq (l:List Ai) (p:List Ag) (hl:l.length<=1048576) (hp:p.length<=1048576) (hs:∀ x ∈ p,x.f0.length<=1048576) (h:CV l p=true) (t:Int) (ht:0<=t/\t<=1000000) :
 Ev (fun k=>Ck.f k l p t) (((Fi l p (JQ l p t)).1:Int),(Fi l p (JQ l p t)).2):=by
 unfold Ck.f
 have hc:=FF h
 have h6:=(CW h).1
 refine Ev.bind (KJ l p hl hp hs) ?_
 rw [show Pu l p=Dh l p from if_pos h]
 refine neg oM (Ah (CB _ _ _) ?_)
 rw [decide_eq_true ht]
 refine shift ?_
 simp only [Ck.j0]
 refine neg dC (neg oM ?_)
 have hr:=Kh h ht.1
 have main:∀ d i s,i+d=p.length->0<=s->s<DO (CZ l p) d i->Ev (fun k=>Ck.l0 k l p s (i:Int)) (((D1 (CZ l p) d i s).1:Int),(D1 (CZ l p) d i s).2):=by
  intro d
  induction d with
  | zero=>intro i s _ h0 h1;simp only [DO] at h1;omega
  | succ d ih =>
   intro i s hi h0 h1
   simp only [DO] at h1
   have hL:=Cl h i oM
   have hsum:=FR (Cl h) d (i+1) oM
   have e:=Hc l p hl hs h i oM
   refine shift ?_
   simp only [Ck.l0,D1]
   refine Ev.bind e ?_
   by_cases c:s<CZ l p i
   . rw [if_pos c]
     exact neg oM (now rfl)
   . rw [if_neg c]
     refine pos oM (Ev.bind e ?_)
     rw [Af oM,Gn (x:=s-CZ l p i) oM oM]
     exact ih (i+1) (s-CZ l p i) oM oM oM
 exact main p.length 0 (JQ l p t) oM hr.1 hr.2
theorem NQ (l:List Ai) (p:List Ag) (hl:l.length<=1048576) (hp:p.length<=1048576) (hs:∀ x ∈ p,x.f0.length<=1048576) (h:CV l p=true) (t:Int) (ht:0<=t/\t<=1000000) (id:Int) (hf:¬ fp l id<0) :
 Ev (fun k=>B3.f k l p t (AA l (fp l id)).f0 (AA l (fp l id)).f1 (AA l (fp l id)).f2 (AA l (fp l id)).f3) (EA l p id (Fi l p (JQ l p t))):=by
 unfold B3.f
 have h6:=(CW h).1
 have hr:=Kh h ht.1
 have hpt:=My hr.1 hr.2
 refine Ev.bind (Mq l p hl hp hs h t ht) ?_
 generalize Fi l p (JQ l p t)=r at hpt |-
 obtain ⟨i,s⟩:=r
 dsimp only at hpt |-
 have hg:=(CW h).2 i hpt.1
 have hn:=LQ p i hpt.1
 have hcl:=GP (AA l (fp l id))
 have hx:=Ds p hs i hpt.1
 have hy:=Ds p hs _ hn
 rw [Pw l id hf]
 unfold EA
 refine neg oM (pos oM (pos oM (Ev.bind (Bc _ id oM) ?_)))
 by_cases c:id ∈ (AE p i).f0
 . rw [if_pos c,decide_eq_true c]
   refine shift ?_
   simp only [B3.j0]
   refine neg dC (pos oM (pos oM ?_))
   have yes:∀ a b c d:Int,Ev (fun k=>B3.j1 k p (i:Int) s true a b c d) 1:=by
    intro a b c d
    refine shift ?_
    simp only [B3.j1]
    exact pos trivial (now rfl)
   by_cases c1:s<(AE p i).f1
   . rw [if_pos (.inl c1)]
     exact pos c1 (yes _ _ _ _)
   . refine neg c1 (Ah (H7 p i hpt.1 hp) (Ev.bind (Bc _ id oM) ?_))
     by_cases c2:id ∈ (AE p (Ns p i)).f0
     . rw [if_pos (.inr c2),decide_eq_true c2]
       exact yes _ _ _ _
     . rw [if_neg (fun g=>g.elim c1 c2),decide_eq_false c2]
       refine shift ?_
       simp only [B3.j1]
       refine neg dC (pos oM (pos oM (Ah (Fp _ _ _ _) ?_)))
       have e:G3 id (AA l (fp l id)).f1 (AA l (fp l id)).f2 (AA l (fp l id)).f3=JL (AA l (fp l id)):=by rw [JL,Pw l id hf]
       rw [e,Gn oM oM]
       by_cases c3:s<(AE p i).f1+JL (AA l (fp l id))
       . exact pos c3 (now (if_pos c3).symm)
       . exact neg c3 (now (if_neg c3).symm)
 . rw [if_neg c,decide_eq_false c]
   refine shift ?_
   simp only [B3.j0]
   exact pos dC (now rfl)
theorem L9 (l:List Ai) (p:List Ag) (hl:l.length<=1048576) (hp:p.length<=1048576) (hs:∀ x ∈ p,x.f0.length<=1048576) (h:CV l p=true) (t:Int) (ht:0<=t/\t<=1000000) (id:Int) (hf:¬ fp l id<0) :
 Ev (fun k=>Eo.f k l p t id) (EA l p id (Fi l p (JQ l p t))):=by
 unfold Eo.f
 have hfr:=E1 l id
 exact Ah (show AX.f l id=some (fp l id) from Dq l id) (neg hf (pos oM (pos oM (Ev.bind (NQ l p hl hp hs h t ht id hf) (now rfl)))))
theorem MH (l:List Ai) (p:List Ag) (hl:l.length<=1048576) (hs:∀ x ∈ p,x.f0.length<=1048576) (h:CV l p=true) (id:Int) (hf:¬ fp l id<0) (i:Nat) (hi:i<p.length) (s:Int) :
 Ev (fun k=>B8.f k l p (i:Int) s id) (EA l p id (i,s)):=by
 unfold B8.f EA
 have h6:=(CW h).1
 have hg:=(CW h).2 i hi
 have hn:=LQ p i hi
 have hfr:=E1 l id
 have hcl:=GP (AA l (fp l id))
 have hx:=Ds p hs i hi
 have hy:=Ds p hs _ hn
 rw [Mw p i oM]
 have yes:∀ b,Ev (fun k=>B8.j0 k l p (i:Int) s id b true) 1:=by
  intro b
  refine shift ?_
  simp only [B8.j0]
  exact pos trivial (now rfl)
 refine neg oM (pos oM (pos oM (pos oM (pos oM (Ev.bind (EK _ id oM) ?_)))))
 by_cases c:id ∈ (AE p i).f0
 . rw [if_pos c]
   refine pos (decide_eq_true c) ?_
   rw [decide_eq_true c]
   by_cases c1:s<(AE p i).f1
   . rw [if_pos (.inl c1)]
     exact pos c1 (yes _)
   . refine neg c1 (Ev.bind (EK _ id oM) ?_)
     by_cases c2:id ∈ (AE p (Ns p i)).f0
     . rw [if_pos (.inr c2),decide_eq_true c2]
       exact yes _
     . rw [if_neg (fun g=>g.elim c1 c2),decide_eq_false c2]
       refine shift ?_
       simp only [B8.j0]
       refine neg dC (pos trivial (pos oM (pos oM (Ev.bind (El l id oM) (pos (show 0<=fp l id by omega) (pos (show fp l id<(l.length:Int) by omega) (Ah (JI _ _ _ _) ?_)))))))
       show Ev (fun k=>if s<wrap64 ((AE p i).f1+JL (AA l (fp l id))) then some 2 else some 0) _
       rw [Gn oM oM]
       by_cases c3:s<(AE p i).f1+JL (AA l (fp l id))
       . exact pos c3 (now (if_pos c3).symm)
       . exact neg c3 (now (if_neg c3).symm)
 . rw [if_neg c]
   refine neg (by simpa using c) ?_
   rw [decide_eq_false c]
   refine shift ?_
   simp only [B8.j0]
   exact neg dC (neg dC (now rfl))
def R2 (l:List Ai) (p:List Ag) (id:Int):List Int:=if CV l p=true/\¬ fp l id<0 then KD l p id else []
theorem NX (l:List Ai) (p:List Ag) (hl:l.length<=1048576) (hp:p.length<=1048576) (hs:∀ x ∈ p,x.f0.length<=1048576) (id:Int):Ev (fun k=>Bw.f k l p id) (R2 l p id):=by
 unfold Bw.f R2
 have stop:Ev (fun k=>Bw.j0 k l p id [] true) []:=by
  refine shift ?_
  simp only [Bw.j0]
  exact pos trivial (now rfl)
 refine Ah rfl (Ev.bind (Hm l p hl hp hs) ?_)
 by_cases h:CV l p=true
 . refine pos h (Ev.bind (El l id oM) ?_)
   by_cases hf:fp l id<0
   . rw [if_neg (fun g=>g.2 hf),show decide (AX.from_ id l 0<0)=true from decide_eq_true hf]
     exact stop
   . rw [if_pos ⟨h,hf⟩,show decide (AX.from_ id l 0<0)=false from decide_eq_false hf,<-R0 h]
     refine shift ?_
     simp only [Bw.j0]
     refine neg dC ?_
     have h6:=(CW h).1
     have main:∀ d i (acc:List Int),i+d=p.length->(acc.length:Int)+DO (CZ l p) d i<=390->Ev (fun k=>Bw.l0 k l p id acc (i:Int)) (acc++NV (CZ l p) (EA l p id) d i):=by
      intro d
      induction d with
      | zero =>
       intro i acc hi _
       refine shift ?_
       simp only [Bw.l0,NV,List.append_nil]
       exact neg oM (now rfl)
      | succ d ih =>
       intro i acc hi hb
       have hil:i<p.length:=by omega
       have hL:=Cl h i hil
       have hsum:=FR (Cl h) d (i+1) oM
       have e:=NF l p hl hs h i hil
       simp only [DO] at hb
       refine shift ?_
       simp only [Bw.l0,NV]
       refine pos (Av hil) ?_
       have inner:∀ m (s:Nat) (a2:List Int),s+m=(CZ l p i).toNat->(a2.length:Int)=acc.length+s->Ev (fun k=>Bw.l1 k l p id a2 (i:Int) (s:Int)) (a2++((List.range' s m).map (fun (s:Nat)=>EA l p id (i,(s:Int)))++NV (CZ l p) (EA l p id) d (i+1))):=by
        intro m
        induction m with
        | zero =>
         intro s a2 hm ha
         refine shift ?_
         simp only [Bw.l1,List.range'_zero,List.map_nil,List.nil_append]
         refine Ev.bind e (neg oM ?_)
         rw [Af oM]
         exact ih (i+1) a2 oM oM
        | succ m ihm =>
         intro s a2 hm ha
         refine shift ?_
         simp only [Bw.l1]
         refine Ev.bind e (pos oM (Ev.bind (MH l p hl hs h id hf i hil s) (pos oM ?_)))
         rw [Af oM]
         have:=ihm (s+1) (a2++[EA l p id (i,(s:Int))]) oM (by simp;omega)
         simpa [List.range'_succ] using this
       have:=inner (CZ l p i).toNat 0 acc oM sM
       rw [<-List.range_eq_range'] at this
       exact this
     have hc:=FF h
     have:=main p.length 0 [] oM (by simpa [Dh] using hc.2)
     simpa using this
 . rw [if_neg (fun g=>h g.1)]
   exact neg h stop
theorem Nm (a:Int):∀ (l:List Ai) (i:Nat),(∃ x ∈ l,x.f0=a)->0<=AX.from_ a l i
 | [],_,h=>by obtain ⟨x,hx,_⟩:=h;cases hx
 | x::r,i,h=>by
  simp only [AX.from_]
  by_cases e:x.f0=a
  . rw [if_pos (by simp [e])]
    omega
  . rw [if_neg (by simp [e])]
    have e2:((i:Int)+1)=((i+1:Nat):Int):=by omega
    rw [e2]
    refine Nm a r (i+1) ?_
    obtain ⟨y,hy,hya⟩:=h
    rcases List.mem_cons.1 hy with h|h
    . exact absurd (h ▸ hya) e
    . exact ⟨y,h,hya⟩
theorem OG (l:List Ai) (x:Ai) (h:x ∈ l):¬ fp l x.f0<0:=by
 have:=Nm x.f0 l 0 ⟨x,h,rfl⟩
 unfold fp
 rw [show ((0:Nat):Int)=0 from rfl] at this
 omega
def Cp (l:List Ai) (p:List Ag) (t:Int):List Int:=l.map fun x=>EA l p x.f0 (Fi l p (JQ l p t))
def DW (l:List Ai) (p:List Ag) (a n:Int):List (List Int):=
 if CV l p=true/\(0<=a/\a<=100000)/\(0<=n/\n<=600) then (List.range n.toNat).map fun (s:Nat)=>Cp l p (a+(s:Int)) else []
theorem Hf (l:List Ai) (p:List Ag) (t:Int):(Cp l p t).length=l.length:=by simp [Cp]
theorem Fu (l:List Ai) (p:List Ag) (a n:Int):(DW l p a n).length<=600:=by
 unfold DW
 split
 . rename_i h
   simp
   omega
 . simp
theorem KF (l:List Ai) (p:List Ag) (hl:l.length<=1048576) (hp:p.length<=1048576) (hs:∀ x ∈ p,x.f0.length<=1048576) (a n:Int):Ev (fun k=>Aa.f k l p a n) (DW l p a n):=by
 unfold Aa.f DW
 have stop:Ev (fun k=>Aa.j0 k l p a n [] true) []:=by
  refine shift ?_
  simp only [Aa.j0]
  exact pos trivial (now rfl)
 refine Ah rfl (Ev.bind (Hm l p hl hp hs) ?_)
 by_cases h:CV l p=true
 . refine pos h (Ah (DZ _ _ _) ?_)
   by_cases ha:0<=a/\a<=100000
   . refine pos (decide_eq_true ha) (Ah (DZ _ _ _) ?_)
     by_cases hn:0<=n/\n<=600
     . rw [if_pos ⟨h,ha,hn⟩,show decide (0<=n/\n<=600)=true from decide_eq_true hn]
       refine shift ?_
       simp only [Aa.j0]
       refine neg dC ?_
       have hcy:=FF h
       have rl:∀ x ∈ l,R2 l p x.f0=KD l p x.f0:=fun x hx=>by rw [R2,if_pos ⟨h,OG l x hx⟩]
       refine loop (g:=fun k j=>Aa.l0 k l p a n [] ((l.take j).map fun x=>KD l p x.f0) (j:Int)) l.length ?_ ?_
       . intro j hj ih
         refine shift ?_
         simp only [Aa.l0]
         have hg:AA l (j:Int)=l[j]:=by simp [AA,hj]
         rw [hg]
         refine pos (Av hj) (pos oM (Ev.bind (NX l p hl hp hs _) (pos (by simp;omega) ?_)))
         rw [Af oM,rl _ (List.getElem_mem hj)]
         rw [List.take_succ_eq_append_getElem hj,List.map_append] at ih
         exact ih
       . refine shift ?_
         simp only [Aa.l0]
         refine neg (Cz (Nat.le_refl _)) ?_
         rw [List.take_length]
         have main:∀ d (s:Nat) (acc:List (List Int)),s+d=n.toNat->acc.length=s->Ev (fun k=>Aa.l1 k l a n acc (l.map fun x=>KD l p x.f0) (s:Int)) (acc++(List.range' s d).map (fun (s:Nat)=>Cp l p (a+(s:Int)))):=by
          intro d
          induction d with
          | zero =>
           intro s acc hd _
           refine shift ?_
           simp only [Aa.l1,List.range'_zero,List.map_nil,List.append_nil]
           exact neg oM (now rfl)
          | succ d ih =>
           intro s acc hd hacc
           refine shift ?_
           simp only [Aa.l1]
           refine pos oM ?_
           refine loop (g:=fun k j=>Aa.l2 k l a n acc (l.map fun x=>KD l p x.f0) (s:Int) ((l.take j).map fun x=>EA l p x.f0 (Fi l p (JQ l p (a+(s:Int))))) (j:Int)) l.length ?_ ?_
           . intro j hj ih2
             refine shift ?_
             simp only [Aa.l2]
             have hg:At (l.map fun x=>KD l p x.f0) (j:Int)=KD l p l[j].f0:=by simp [At,hj]
             have hw:wrap64 (a+(s:Int))=a+(s:Int):=Gn oM oM
             have hlen:((KD l p l[j].f0).length:Int)=Dh l p:=by rw [L3];omega
             rw [hg,hw,hlen]
             have hsec:=Kh h (t:=a+(s:Int)) oM
             have hsd:Int.tmod (a+(s:Int)) (Dh l p)=JQ l p (a+(s:Int)):=rfl
             rw [hsd]
             refine pos (Av hj) (pos oM (pos (by simp;omega) (neg oM (pos hsec.1 (pos hsec.2 (pos (by simp;omega) ?_))))))
             obtain ⟨u,hu⟩:=Int.eq_ofNat_of_zero_le hsec.1
             have hrd:rd (KD l p l[j].f0) (JQ l p (a+(s:Int)))=EA l p l[j].f0 (Fi l p (JQ l p (a+(s:Int)))):=by
              rw [hu]
              exact R1 l p _ u oM
             rw [Af oM,hrd]
             rw [List.take_succ_eq_append_getElem hj,List.map_append] at ih2
             exact ih2
           . refine shift ?_
             simp only [Aa.l2]
             refine neg (Cz (Nat.le_refl _)) (pos oM ?_)
             rw [Af oM,List.take_length]
             have:=ih (s+1) (acc++[Cp l p (a+(s:Int))]) oM (by simp;omega)
             simpa [List.range'_succ,Cp] using this
         have:=main n.toNat 0 [] oM rfl
         rw [List.range_eq_range']
         simpa using this
     . rw [if_neg (fun g=>hn g.2.2),show decide (0<=n/\n<=600)=false from decide_eq_false hn]
       exact stop
   . rw [if_neg (fun g=>ha g.2.1)]
     exact neg (by simpa using ha) stop
 . rw [if_neg (fun g=>h g.1)]
   exact neg h stop
theorem LL (l:List Ai) (p:List Ag) (hl:l.length<=1048576) (hp:p.length<=1048576) (hs:∀ x ∈ p,x.f0.length<=1048576) (h:CV l p=true) (t:Int) (ht:0<=t/\t<=1000000):Ev (fun k=>Cy.f k l p t) (Cp l p t):=by
 unfold Cy.f Cp
 refine loop (g:=fun k j=>Cy.l0 k l p t ((l.take j).map fun x=>EA l p x.f0 (Fi l p (JQ l p t))) l (l.length:Int) (j:Int)) l.length ?_ ?_
 . intro j hj ih
   refine shift ?_
   simp only [Cy.l0]
   have hg:AA l (j:Int)=l[j]:=by simp [AA,hj]
   rw [hg]
   refine pos (Av hj) (pos oM (pos (Av hj) (Ev.bind (L9 l p hl hp hs h t ht _ (OG l _ (List.getElem_mem hj))) (pos (by simp;omega) ?_))))
   rw [Af oM]
   rw [List.take_succ_eq_append_getElem hj,List.map_append] at ih
   exact ih
 . refine shift ?_
   simp only [Cy.l0]
   exact neg (Cz (Nat.le_refl _)) (now (by rw [List.take_length]))
theorem Fb (l:List Ai) (p:List Ag) (hl:l.length<=1048576) (hp:p.length<=1048576) (hs:∀ x ∈ p,x.f0.length<=1048576) (a n:Int):Ev (fun k=>Ay.f k l p a n) (DW l p a n):=by
 unfold Ay.f DW
 have stop:Ev (fun k=>Ay.j0 k l p a n [] true) []:=by
  refine shift ?_
  simp only [Ay.j0]
  exact pos trivial (now rfl)
 refine Ah rfl (Ev.bind (FI l p hl hp hs) ?_)
 by_cases h:CV l p=true
 . refine pos h (Ah (CB _ _ _) ?_)
   by_cases ha:0<=a/\a<=100000
   . refine pos (decide_eq_true ha) (Ah (CB _ _ _) ?_)
     by_cases hn:0<=n/\n<=600
     . rw [if_pos ⟨h,ha,hn⟩,show decide (0<=n/\n<=600)=true from decide_eq_true hn]
       refine shift ?_
       simp only [Ay.j0]
       refine neg dC ?_
       have main:∀ d (s:Nat) (acc:List (List Int)),s+d=n.toNat->acc.length=s->Ev (fun k=>Ay.l0 k l p a acc n (s:Int)) (acc++(List.range' s d).map (fun (s:Nat)=>Cp l p (a+(s:Int)))):=by
        intro d
        induction d with
        | zero =>
         intro s acc hd _
         refine shift ?_
         simp only [Ay.l0,List.range'_zero,List.map_nil,List.append_nil]
         exact neg oM (now rfl)
        | succ d ih =>
         intro s acc hd hacc
         refine shift ?_
         simp only [Ay.l0]
         have hw:wrap64 (a+(s:Int))=a+(s:Int):=Gn oM oM
         rw [hw]
         refine pos oM (Ev.bind (LL l p hl hp hs h _ oM) (pos oM ?_))
         rw [Af oM]
         have:=ih (s+1) (acc++[Cp l p (a+(s:Int))]) oM (by simp;omega)
         simpa [List.range'_succ] using this
       have:=main n.toNat 0 [] oM rfl
       rw [List.range_eq_range']
       simpa using this
     . rw [if_neg (fun g=>hn g.2.2),show decide (0<=n/\n<=600)=false from decide_eq_false hn]
       exact stop
   . rw [if_neg (fun g=>ha g.2.1)]
     exact neg (by simpa using ha) stop
 . rw [if_neg (fun g=>h g.1)]
   exact neg h stop
def Mi (ps:List Ai) (i j:Nat):Bool:=conflict (AA ps i).f0 (AA ps i).f1 (AA ps i).f2 (AA ps i).f3 (AA ps j).f0 (AA ps j).f1 (AA ps j).f2 (AA ps j).f3
def Kb (ps:List Ai) (row:List Int) (i j:Nat):Bool:=decide (rd row i=0\/rd row j=0\/Mi ps i j=false)
def Iv (ps:List Ai) (row:List Int) (i:Nat):Bool:=decide (0<=rd row i/\rd row i<=2) && (List.range i).all (Kb ps row i)
def GD (ps:List Ai) (row:List Int):Bool:=Cr ps && (decide (row.length=ps.length) && (List.range ps.length).all (Iv ps row))
theorem Ix (ps:List Ai) (row:List Int):GD ps row=true↔Cr ps=true/\row.length=ps.length/\(List.range ps.length).all (Iv ps row)=true:=by simp only [GD,Bool.and_eq_true,decide_eq_true_eq]
theorem Jc (ps:List Ai) (row:List Int) (hp:ps.length<=1048576):Ev (fun k=>AS.f k ps row) (GD ps row):=by
 unfold AS.f GD
 have yes:Ev (fun k=>AS.j0 k ps row true) false:=by
  refine shift ?_
  simp only [AS.j0]
  exact pos trivial (now rfl)
 refine Ev.bind (Ei ps) ?_
 by_cases h:Cr ps=true
 . rw [h,Bool.true_and]
   refine pos rfl ?_
   by_cases hl:row.length=ps.length
   . rw [decide_eq_true hl,Bool.true_and,show ((row.length:Int) != (ps.length:Int))=false by simp [hl]]
     refine shift ?_
     simp only [AS.j0]
     refine neg sM ?_
     have ht:∀ (i j:Nat),j<i->AA (ps.take i) (j:Int)=AA ps (j:Int):=by
      intro i j hj
      simp [AA,List.getD_eq_getElem?_getD,List.getElem?_take,hj]
     have hlen:∀ i:Nat,i<ps.length->(ps.take i).length=i:=fun i hi=>by rw [List.length_take];omega
     have good:∀ (i j:Nat) (r:Bool),i<ps.length->j<i->Kb ps row i j=true->Ev (fun k=>AS.l1 k ps row (i:Int) ps (ps.length:Int) (i:Int) (ps.take i) (i:Int) ((j+1:Nat):Int) (AA ps i).f0 (AA ps i).f1 (AA ps i).f2 (AA ps i).f3) r->Ev (fun k=>AS.l1 k ps row (i:Int) ps (ps.length:Int) (i:Int) (ps.take i) (i:Int) (j:Int) (AA ps i).f0 (AA ps i).f1 (AA ps i).f2 (AA ps i).f3) r:=by
      intro i j r hi hj ok hh
      simp only [Kb,decide_eq_true_eq] at ok
      refine shift ?_
      have hn:Ev (fun k=>AS.j3 k ps row (i:Int) ps (ps.length:Int) (i:Int) (ps.take i) (i:Int) (j:Int) false (AA ps i).f0 (AA ps i).f1 (AA ps i).f2 (AA ps i).f3) r:=by
       refine shift ?_
       simp only [AS.j3]
       rw [Af oM]
       exact neg sM hh
      simp only [AS.l1]
      rw [ht i j hj]
      refine pos (Av hj) (pos oM (pos (by have:=hlen i hi;omega) (Ev.bind (Dp _ _ _ _ _ _ _ _) ?_)))
      by_cases c3:Mi ps i j=true
      . refine pos c3 (pos oM (pos oM ?_))
        by_cases c1:rd row (i:Int)=0
        . exact pos c1 hn
        . have c2:rd row (j:Int)=0:=by rcases ok with g|g|g;exact absurd g c1;exact g;simp [c3] at g
          refine neg c1 (pos oM ?_)
          rw [c2]
          exact hn
      . exact neg c3 hn
     have bad:∀ (i j:Nat),i<ps.length->j<i->Kb ps row i j=false->Ev (fun k=>AS.l1 k ps row (i:Int) ps (ps.length:Int) (i:Int) (ps.take i) (i:Int) (j:Int) (AA ps i).f0 (AA ps i).f1 (AA ps i).f2 (AA ps i).f3) false:=by
      intro i j hi hj ok
      have ok:¬ Kb ps row i j=true:=by simp [ok]
      simp only [Kb,decide_eq_true_eq,not_or,Bool.not_eq_false] at ok
      refine shift ?_
      simp only [AS.l1]
      rw [ht i j hj]
      refine pos (Av hj) (pos oM (pos (by have:=hlen i hi;omega) (Ev.bind (Dp _ _ _ _ _ _ _ _) (pos ok.2.2 (pos oM (pos oM (neg ok.1 (pos oM ?_))))))))
      rw [bne_iff_ne.2 ok.2.1]
      refine shift ?_
      simp only [AS.j3]
      exact pos trivial (now rfl)
     refine E0 (g:=fun k i=>AS.l0 k ps row ps (ps.length:Int) (i:Int)) ps.length (Iv ps row) true ?_ ?_ ?_ |> (fun h=>by simpa using h)
     . intro i r hi ok hh
       simp only [Iv,Bool.and_eq_true,decide_eq_true_eq] at ok
       refine shift ?_
       simp only [AS.l0]
       refine pos (Av hi) (pos oM (pos (Av hi) (pos oM (Ah (CB _ _ _) (pos (by simp;omega) (pos oM (Ah rfl ?_)))))))
       rw [Int.toNat_natCast,hlen i hi]
       refine Iy (g:=fun k j=>AS.l1 k ps row (i:Int) ps (ps.length:Int) (i:Int) (ps.take i) (i:Int) (j:Int) (AA ps i).f0 (AA ps i).f1 (AA ps i).f2 (AA ps i).f3) _ _ ok.2 (fun j r hj o g=>good i j r hi hj o g) ?_
       refine shift ?_
       simp only [AS.l1]
       refine neg (Cz (Nat.le_refl _)) ?_
       rw [Af oM]
       exact hh
     . intro i hi ok
       refine shift ?_
       simp only [AS.l0]
       refine pos (Av hi) (pos oM (pos (Av hi) (pos oM (Ah (CB _ _ _) ?_))))
       by_cases c:0<=rd row (i:Int)/\rd row (i:Int)<=2
       . have h2:¬ (List.range i).all (Kb ps row i)=true:=by
          intro h2
          rw [Iv,h2,decide_eq_true c] at ok
          exact absurd ok dC
         refine pos (by simpa using c) (pos oM (Ah rfl ?_))
         rw [Int.toNat_natCast,hlen i hi]
         exact HN (g:=fun k j=>AS.l1 k ps row (i:Int) ps (ps.length:Int) (i:Int) (ps.take i) (i:Int) (j:Int) (AA ps i).f0 (AA ps i).f1 (AA ps i).f2 (AA ps i).f3) _ _ _ h2 (fun j r hj o g=>good i j r hi hj o g) (fun j hj o=>bad i j hi hj o)
       . exact neg (by simpa using c) (now rfl)
     . refine shift ?_
       simp only [AS.l0]
       exact neg (Cz (Nat.le_refl _)) (now rfl)
   . rw [decide_eq_false hl,Bool.false_and,show ((row.length:Int) != (ps.length:Int))=true by simp;omega]
     exact yes
 . exact neg h (same yes (by simp [h]))
theorem S6 {α:Type} (A B:List α) (x v:α) (j:Nat) (hj:A.length=j):(A++x::B).set j v=A++v::B:=by
 rw [List.set_append_right _ _ oM,hj,Nat.sub_self,List.set_cons_zero]
def rowAt (rows:List (List Int)) (t:Int):List Int:=At rows t
def Ex (rows:List (List Int)) (t i:Nat):Bool:=decide (rd (rowAt rows t) i=1/\¬ (0<t/\rd (rowAt rows ((t:Int)-1)) i=1))
def Ip (ps:List Ai) (t:Nat) (last:List Int) (i j:Nat):Bool:=decide (Mi ps i j=true->0<=rd last j->¬ wrap64 ((t:Int)-rd last j)<=G3 (AA ps j).f0 (AA ps j).f1 (AA ps j).f2 (AA ps j).f3)
def N2 (ps:List Ai) (rows:List (List Int)) (t:Nat) (last:List Int) (i:Nat):Bool:=!Ex rows t i || (List.range ps.length).all (Ip ps t last i)
def Pj (ps:List Ai) (rows:List (List Int)) (t:Nat) (last:List Int):Bool:=(List.range ps.length).all (N2 ps rows t last)
def NZ (row:List Int) (t:Nat) (last:List Int):Nat->List Int
 | 0=>last
 | i+1=>if rd row i=1 then (NZ row t last i).set i (t:Int) else NZ row t last i
def Mo (ps:List Ai) (rows:List (List Int)):Nat->Nat->List Int->Bool
 | 0,_,_=>true
 | d+1,t,last=>GD ps (rowAt rows t) && (Pj ps rows t last && Mo ps rows d (t+1) (NZ (rowAt rows t) t last ps.length))
theorem F7 (row:List Int) (t:Nat) (last:List Int):∀ i,(NZ row t last i).length=last.length
 | 0=>rfl
 | i+1=>by
  rw [NZ]
  split
  . rw [List.length_set,F7 row t last i]
  . exact F7 row t last i
theorem Se (l:List Int) (i j:Nat) (v:Int) (hi:i<l.length):rd (l.set i v) (j:Int)=if i=j then v else rd l j:=by
 simp only [rd,Int.toNat_natCast,List.getD_eq_getElem?_getD,List.getElem?_set]
 by_cases h:i=j
 . subst h
   simp [hi]
 . simp [h]
def Gm (ps:List Ai) (rows:List (List Int)):Bool:=Mo ps rows rows.length 0 (List.replicate ps.length (-1)) && Cr ps
theorem QI (ps:List Ai) (rows:List (List Int)) (hp:ps.length<=1048576) (hl:rows.length<=1048576):∀ d t,t+d=rows.length->∀ (last:List Int),last.length=ps.length->(0<t->(rowAt rows ((t:Int)-1)).length=ps.length)->Ev (fun k=>AI.l1 k ps rows last rows (rows.length:Int) (t:Int)) (Mo ps rows d t last):=by
 intro d
 induction d with
 | zero =>
  intro t ht last hr hprev
  refine shift ?_
  simp only [AI.l1]
  exact neg oM (now (by rw [Mo]))
 | succ d ih =>
  intro t ht last hr hprev
  have htl:t<rows.length:=by omega
  refine shift ?_
  simp only [AI.l1]
  refine pos (Av htl) (pos oM (pos (Av htl) (Ev.bind (Jc ps (rowAt rows t) hp) ?_)))
  rw [Mo]
  by_cases hlo:GD ps (rowAt rows t)=true
  . rw [hlo,Bool.true_and]
    obtain ⟨hap,hrl,_⟩:=(Ix _ _).1 hlo
    refine pos rfl ?_
    have head:∀ (i:Nat) (r:Bool),i<ps.length->Ev (fun k=>AI.j3 k ps rows last (t:Int) (rowAt rows t) rows (rows.length:Int) (t:Int) ps (ps.length:Int) (i:Int) (!Ex rows t i) (AA ps i).f0 (AA ps i).f1 (AA ps i).f2 (AA ps i).f3) r->Ev (fun k=>AI.l2 k ps rows last (t:Int) (rowAt rows t) rows (rows.length:Int) (t:Int) ps (ps.length:Int) (i:Int)) r:=by
     intro i r hi hh
     refine shift ?_
     simp only [AI.l2]
     refine pos (Av hi) (pos oM (pos (Av hi) (pos oM ?_)))
     by_cases c1:rd (rowAt rows t) (i:Int)=1
     . refine pos c1 ?_
       by_cases c2:(t:Int)>0
       . rw [Gn (x:=(t:Int)-1) oM oM]
         have:=hprev oM
         refine pos c2 (pos oM (pos oM (pos (by show (i:Int)<((rowAt rows ((t:Int)-1)).length:Int);omega) ?_)))
         have e:(rd (rowAt rows ((t:Int)-1)) (i:Int) == 1)=(!Ex rows t i):=by
          by_cases c3:rd (rowAt rows ((t:Int)-1)) (i:Int)=1
          . have e2:Ex rows t i=false:=decide_eq_false (fun g=>g.2 ⟨by omega,c3⟩)
            rw [e2,c3]
            rfl
          . have e2:Ex rows t i=true:=decide_eq_true ⟨c1,fun g=>c3 g.2⟩
            rw [e2]
            simpa using c3
         rw [<-e] at hh
         exact hh
       . have e:(!Ex rows t i)=false:=by simp only [Ex];rw [decide_eq_true ⟨c1,fun g=>c2 oM⟩];rfl
         rw [e] at hh
         exact neg c2 hh
     . have e:(!Ex rows t i)=true:=by simp only [Ex];rw [decide_eq_false (fun g=>c1 g.1)];rfl
       rw [e] at hh
       exact neg c1 hh
    have good:∀ (i j:Nat) (r:Bool),i<ps.length->j<ps.length->Ip ps t last i j=true->Ev (fun k=>AI.l3 k ps rows last (t:Int) (rowAt rows t) rows (rows.length:Int) (t:Int) ps (ps.length:Int) (i:Int) ps (ps.length:Int) ((j+1:Nat):Int) (AA ps i).f0 (AA ps i).f1 (AA ps i).f2 (AA ps i).f3) r->Ev (fun k=>AI.l3 k ps rows last (t:Int) (rowAt rows t) rows (rows.length:Int) (t:Int) ps (ps.length:Int) (i:Int) ps (ps.length:Int) (j:Int) (AA ps i).f0 (AA ps i).f1 (AA ps i).f2 (AA ps i).f3) r:=by
     intro i j r hi hj ok hh
     simp only [Ip,decide_eq_true_eq] at ok
     refine shift ?_
     simp only [AI.l3]
     rw [Af oM]
     refine pos (Av hj) (pos oM (pos (Av hj) (Ev.bind (Dp _ _ _ _ _ _ _ _) ?_)))
     by_cases c:Mi ps i j=true
     . refine pos c (pos oM ?_)
       by_cases c2:rd last j>=0
       . exact pos c2 (Ah (Fp _ _ _ _) (neg (ok c c2) hh))
       . exact neg c2 hh
     . exact neg c hh
    have bad:∀ (i j:Nat),i<ps.length->j<ps.length->Ip ps t last i j=false->Ev (fun k=>AI.l3 k ps rows last (t:Int) (rowAt rows t) rows (rows.length:Int) (t:Int) ps (ps.length:Int) (i:Int) ps (ps.length:Int) (j:Int) (AA ps i).f0 (AA ps i).f1 (AA ps i).f2 (AA ps i).f3) false:=by
     intro i j hi hj ok
     have ok:¬ Ip ps t last i j=true:=by simp [ok]
     simp only [Ip,decide_eq_true_eq,Classical.not_imp,Decidable.not_not] at ok
     obtain ⟨o1,o2,o3⟩:=ok
     refine shift ?_
     simp only [AI.l3]
     exact pos (Av hj) (pos oM (pos (Av hj) (Ev.bind (Dp _ _ _ _ _ _ _ _) (pos o1 (pos oM (pos o2 (Ah (Fp _ _ _ _) (pos o3 (now rfl)))))))))
    have wgood:∀ (i:Nat) (r:Bool),i<ps.length->N2 ps rows t last i=true->Ev (fun k=>AI.l2 k ps rows last (t:Int) (rowAt rows t) rows (rows.length:Int) (t:Int) ps (ps.length:Int) ((i+1:Nat):Int)) r->Ev (fun k=>AI.l2 k ps rows last (t:Int) (rowAt rows t) rows (rows.length:Int) (t:Int) ps (ps.length:Int) (i:Int)) r:=by
     intro i r hi ok hh
     refine head i r hi (shift ?_)
     simp only [AI.j3]
     rw [Af oM]
     by_cases c:(!Ex rows t i)=true
     . exact pos c hh
     . have hall:(List.range ps.length).all (Ip ps t last i)=true:=by
        rw [N2,Bool.or_eq_true] at ok
        exact ok.resolve_left c
       refine neg c (Iy (g:=fun k j=>AI.l3 k ps rows last (t:Int) (rowAt rows t) rows (rows.length:Int) (t:Int) ps (ps.length:Int) (i:Int) ps (ps.length:Int) (j:Int) (AA ps i).f0 (AA ps i).f1 (AA ps i).f2 (AA ps i).f3) _ _ hall (fun j r hj o g=>good i j r hi hj o g) ?_)
       refine shift ?_
       simp only [AI.l3]
       refine neg (Cz (Nat.le_refl _)) ?_
       rw [Af oM]
       exact hh
    have wbad:∀ (i:Nat),i<ps.length->N2 ps rows t last i=false->Ev (fun k=>AI.l2 k ps rows last (t:Int) (rowAt rows t) rows (rows.length:Int) (t:Int) ps (ps.length:Int) (i:Int)) false:=by
     intro i hi ok
     rw [N2,Bool.or_eq_false_iff] at ok
     refine head i false hi (shift ?_)
     simp only [AI.j3]
     refine neg (by rw [ok.1];decide) ?_
     exact HN (g:=fun k j=>AI.l3 k ps rows last (t:Int) (rowAt rows t) rows (rows.length:Int) (t:Int) ps (ps.length:Int) (i:Int) ps (ps.length:Int) (j:Int) (AA ps i).f0 (AA ps i).f1 (AA ps i).f2 (AA ps i).f3) _ _ _ (by rw [ok.2];decide) (fun j r hj o g=>good i j r hi hj o g) (fun j hj o=>bad i j hi hj o)
    by_cases hso:Pj ps rows t last=true
    . rw [hso,Bool.true_and]
      refine Iy (g:=fun k i=>AI.l2 k ps rows last (t:Int) (rowAt rows t) rows (rows.length:Int) (t:Int) ps (ps.length:Int) (i:Int)) ps.length _ hso (fun i r hi o g=>wgood i r hi o g) ?_
      refine shift ?_
      simp only [AI.l2]
      refine neg (Cz (Nat.le_refl _)) ?_
      refine loop (g:=fun k i=>AI.l4 k ps rows (NZ (rowAt rows t) t last i) (t:Int) (rowAt rows t) rows (rows.length:Int) (t:Int) (ps.length:Int) (i:Int)) ps.length ?_ ?_
      . intro i hi hh
        refine shift ?_
        simp only [AI.l4]
        rw [Af oM]
        refine pos (Av hi) (pos oM (pos oM ?_))
        rw [NZ] at hh
        by_cases c:rd (rowAt rows t) (i:Int)=1
        . rw [if_pos c] at hh
          exact pos c (pos (by rw [F7];omega) hh)
        . rw [if_neg c] at hh
          exact neg c hh
      . refine shift ?_
        simp only [AI.l4]
        refine neg (Cz (Nat.le_refl _)) ?_
        rw [Af oM]
        refine ih (t+1) oM _ (by rw [F7];exact hr) (fun _=>?_)
        rw [show ((t+1:Nat):Int)-1=(t:Int) by omega]
        exact hrl
    . have hso2:Pj ps rows t last=false:=by simpa using hso
      rw [hso2,Bool.false_and]
      exact HN (g:=fun k i=>AI.l2 k ps rows last (t:Int) (rowAt rows t) rows (rows.length:Int) (t:Int) ps (ps.length:Int) (i:Int)) ps.length _ _ hso (fun i r hi o g=>wgood i r hi o g) (fun i hi o=>wbad i hi o)
  . exact neg hlo (now (by simp [hlo]))
theorem E8 (ps:List Ai) (rows:List (List Int)) (hp:ps.length<=1048576) (hl:rows.length<=1048576):Ev (fun k=>AI.f k ps rows) (Gm ps rows):=by
 unfold AI.f Gm
 refine Ev.bind (Ei ps) ?_
 by_cases h:Cr ps=true
 . rw [h,Bool.and_true]
   refine pos rfl (pos oM (pos oM (Ah rfl ?_)))
   rw [Int.toNat_natCast,List.length_replicate]
   refine loop (g:=fun k i=>AI.l0 k ps rows (List.replicate i (-1)++List.replicate (ps.length-i) 0) (ps.length:Int) (i:Int)) ps.length ?_ ?_ |> (fun h=>by simpa using h)
   . intro i hi h
     refine shift ?_
     simp only [AI.l0]
     rw [Af oM,Int.toNat_natCast]
     refine pos (Av hi) (pos oM (pos (by simp;omega) ?_))
     have e:ps.length-i=(ps.length-(i+1))+1:=by omega
     rw [e,List.replicate_succ,S6 _ _ _ _ _ (List.length_replicate ..)]
     rw [List.replicate_succ' (n:=i),List.append_assoc] at h
     exact h
   . refine shift ?_
     simp only [AI.l0]
     refine neg (Cz (Nat.le_refl _)) ?_
     rw [Nat.sub_self,List.replicate_zero,List.append_nil]
     exact QI ps rows hp hl rows.length 0 oM _ sM (fun h=>by omega)
 . exact neg h (now (by simp [h]))
theorem KE (l:List Ai) (ids:List Int) (hl:l.length<=1000) (hi:ids.length<=1000):∃ b,Ev (fun k=>Bk.f k l ids) b:=by
 unfold Bk.f
 have main:∀ d j,j+d=l.length->∃ b,Ev (fun k=>Bk.l0 k l ids (j:Int)) b:=by
  intro d
  induction d with
  | zero =>
   intro j hj
   refine ⟨together l ids,shift ?_⟩
   simp only [Bk.l0]
   exact neg oM (Ev.bind (B7 l ids oM oM) (now rfl))
  | succ d ih =>
   intro j hj
   obtain ⟨b,hb⟩:=ih (j+1) oM
   by_cases h:(AA l (j:Int)).f0 ∈ ids
   . refine ⟨b,shift ?_⟩
     simp only [Bk.l0]
     rw [Af oM]
     exact pos oM (pos oM (Ev.bind (EK ids _ oM) (pos (decide_eq_true h) hb)))
   . obtain ⟨x,hx,_,hlx⟩:=IJ ids (AA l (j:Int)).f0 oM
     have hxt:=B7 l x oM oM
     by_cases g:together l x=true
     . refine ⟨false,shift ?_⟩
       simp only [Bk.l0]
       exact pos oM (pos oM (Ev.bind (EK ids _ oM) (neg (by simpa using h) (Ev.bind hx (Ev.bind hxt (pos g (now rfl)))))))
     . refine ⟨b,shift ?_⟩
       simp only [Bk.l0]
       rw [Af oM]
       exact pos oM (pos oM (Ev.bind (EK ids _ oM) (neg (by simpa using h) (Ev.bind hx (Ev.bind hxt (neg g hb))))))
 exact main l.length 0 oM
def OF (o:List (List Int)):Prop:=o.length<=40/\∀ x ∈ o,x.length<=1000
theorem Lb (l:List Ai) (hl:l.length<=1000):∀ (d j:Nat) (ids:List Int) (out:List (List Int)),j+d=l.length->ids.length<=j->OF out->∃ r,Ev (fun k=>CU.f k l (j:Int) ids out) r/\OF r:=by
 intro d
 induction d with
 | zero =>
  intro j ids out hj hi ho
  have h0:=ho.1
  by_cases c1:(ids.length:Int)>0
  . by_cases c2:(out.length:Int)<40
    . obtain ⟨b,hb⟩:=KE l ids hl oM
      by_cases c3:b=true
      . refine ⟨out++[ids],shift ?_,by simp;omega,fun x hx=>?_⟩
        . simp only [CU.f,Option.bind_some,List.nil_append]
          exact pos oM (pos c1 (pos c2 (Ev.bind hb (pos c3 (pos (by simp;omega) (pos oM (now rfl)))))))
        . rcases List.mem_append.1 hx with h|h
          . exact ho.2 x h
          . rw [List.mem_singleton] at h
            subst h
            omega
      . refine ⟨out,shift ?_,ho⟩
        simp only [CU.f]
        exact pos oM (pos c1 (pos c2 (Ev.bind hb (neg c3 (now rfl)))))
    . refine ⟨out,shift ?_,ho⟩
      simp only [CU.f]
      exact pos oM (pos c1 (neg c2 (now rfl)))
  . refine ⟨out,shift ?_,ho⟩
    simp only [CU.f]
    exact pos oM (neg c1 (now rfl))
 | succ d ih =>
  intro j ids out hj hi ho
  have ht:=B7 l (ids++[(AA l (j:Int)).f0]) oM (by simp;omega)
  by_cases c:together l (ids++[(AA l (j:Int)).f0])=true
  . obtain ⟨o,h1,ho1⟩:=ih (j+1) (ids++[(AA l (j:Int)).f0]) out oM (by simp;omega) ho
    obtain ⟨r,h2,ho2⟩:=ih (j+1) ids o oM oM ho1
    refine ⟨r,shift ?_,ho2⟩
    simp only [CU.f,Option.bind_some,List.nil_append]
    rw [Af oM]
    exact neg oM (pos (by simp;omega) (pos oM (pos oM (pos (by simp;omega) (Ev.bind ht (pos c (Ev.bind h1 h2)))))))
  . obtain ⟨r,h2,ho2⟩:=ih (j+1) ids out oM oM ho
    refine ⟨r,shift ?_,ho2⟩
    simp only [CU.f,Option.bind_some,List.nil_append]
    rw [Af oM]
    exact neg oM (pos (by simp;omega) (pos oM (pos oM (pos (by simp;omega) (Ev.bind ht (neg c h2))))))
theorem LY (l:List Ai) (hl:l.length<=1000):∃ r,Ev (fun k=>Ed.f k l) r/\OF r:=by
 unfold Ed.f
 have ha:=FZ l oM
 by_cases c:Cr l=true
 . obtain ⟨r,h,ho⟩:=Lb l hl l.length 0 [] [] oM sM ⟨by simp,by simp⟩
   exact ⟨r,Ev.bind ha (pos c (Ev.bind h (now rfl))),ho⟩
 . exact ⟨[],Ev.bind ha (neg c (now rfl)),by simp,by simp⟩
theorem Qa (l:List Ai) (s:List Int) (a:Int) (n:List Int) (b:Int) (hs:s.length<=1000) (hn:n.length<=1000):(Ea l s a n b).1.length<=1000/\(Ea l s a n b).2.2.1.length<=1000:=by
 unfold Ea
 split
 . split
   . exact ⟨hs,hn⟩
   . split
     . exact ⟨hn,by simp⟩
     . exact ⟨hs,hn⟩
 . exact ⟨hs,hn⟩
theorem Q0 (l:List Ai) (s:List Int) (a:Int) (n:List Int) (b:Int) (st:List Int) (hs:s.length<=1000) (hn:n.length<=1000) (ht:st.length<=1000):(Gs l s a n b st).1.length<=1000/\(Gs l s a n b st).2.2.1.length<=1000:=by
 unfold Gs
 split
 . split
   . exact ⟨ht,by simp⟩
   . exact ⟨hs,ht⟩
 . exact ⟨hs,hn⟩
theorem Kl (l:List Ai) (hl:l.length<=1000) (d:List Int) (q s:Int):∀ (m:Nat) (x:List Int) (a:Int) (n:List Int) (b:Int),m<=1000->x.length<=1000->n.length<=1000->∃ x2 a2 n2 b2,Ev (fun k=>Cw.l0 k l (m:Int) d q s x a n b) (x2,a2,n2,b2,q,s)/\x2.length<=1000/\n2.length<=1000:=by
 intro m
 induction m with
 | zero =>
  intro x a n b _ hx hn
  refine ⟨x,a,n,b,shift ?_,hx,hn⟩
  simp only [Cw.l0]
  exact neg oM (now rfl)
 | succ m ih =>
  intro x a n b hm hx hn
  have ht:=Qa l x a n b hx hn
  obtain ⟨x2,a2,n2,b2,h,r⟩:=ih (Ea l x a n b).1 (Ea l x a n b).2.1 (Ea l x a n b).2.2.1 (Ea l x a n b).2.2.2 oM ht.1 ht.2
  refine ⟨x2,a2,n2,b2,shift ?_,r⟩
  simp only [Cw.l0]
  refine pos oM (Ev.bind (KG l x a n b oM oM oM) ?_)
  rw [Gn oM oM,show ((m+1:Nat):Int)-1=(m:Int) by omega]
  exact h
theorem ME (d:List Int) (hd:d.length<=1048576) (q s:Int) (hq:0<=q/\q<=d.length) (l:List Ai) (hl:l.length<=1000) :
 ∃ x a n b q2 s2,Ev (fun k=>Cw.f k d q s l) (x,a,n,b,q2,s2)/\(x.length<=1000/\n.length<=1000)/\(0<=q2/\q2<=d.length):=by
 unfold Cw.f
 obtain ⟨st,hst,hso⟩:=LY l hl
 have h40:=hso.1
 have hrow:∀ i:Nat,i<st.length->(At st (i:Int)).length<=1000:=by
  intro i hi
  have:At st (i:Int)=st[i]:=by simp [At,hi]
  rw [this]
  exact hso.2 _ (List.getElem_mem hi)
 by_cases c:(st.length:Int)=0
 . exact ⟨[1],0,[],0,q,s,Ev.bind hst (pos c (now rfl)),by simp,hq⟩
 obtain ⟨i,q1,s1,e1,hq1,i0,i1⟩:=Au d q s (st.length:Int) hd hq
 have i1:=i1 oM
 obtain ⟨i,rfl⟩:=Int.eq_ofNat_of_zero_le i0
 have hi:=hrow i oM
 obtain ⟨a,q2,s2,e2,hq2,_⟩:=Au d q1 s1 12 hd hq1
 obtain ⟨v,q3,s3,e3,hq3⟩:=D3 d q2 s2 3 hd hq2
 by_cases cv:v=true
 . obtain ⟨j,q4,s4,e4,hq4,j0,j1⟩:=Au d q3 s3 (st.length:Int) hd hq3
   have j1:=j1 oM
   obtain ⟨j,rfl⟩:=Int.eq_ofNat_of_zero_le j0
   have hj:=hrow j oM
   have hA:=LW l (At st (i:Int)) a [] 0 (At st (j:Int)) oM oM sM oM
   have hal:=Q0 l (At st (i:Int)) a [] 0 (At st (j:Int)) hi sM hj
   obtain ⟨m,q5,s5,e5,hq5,m0,m1⟩:=Au d q4 s4 3 hd hq4
   have m1:=m1 oM
   obtain ⟨m,rfl⟩:=Int.eq_ofNat_of_zero_le m0
   obtain ⟨x2,a2,n2,b2,h,r⟩:=Kl l hl d q5 s5 m (Gs l (At st (i:Int)) a [] 0 (At st (j:Int))).1 (Gs l (At st (i:Int)) a [] 0 (At st (j:Int))).2.1 (Gs l (At st (i:Int)) a [] 0 (At st (j:Int))).2.2.1 (Gs l (At st (i:Int)) a [] 0 (At st (j:Int))).2.2.2.1 oM hal.1 hal.2
   refine ⟨x2,a2,n2,b2,q5,s5,Ev.bind hst (neg c (Ah rfl (Ah e1 (pos i0 (pos i1 (pos (by simp;omega) (Ah rfl (Ah e2 (Ah e3 (pos cv (Ah e4 (pos j0 (pos j1 (Ev.bind ?_ (Ah e5 h))))))))))))))),r,hq5⟩
   simpa using hA
 . refine ⟨At st (i:Int),a,[],0,q3,s3,Ev.bind hst (neg c (Ah rfl (Ah e1 (pos i0 (pos i1 (pos (by simp;omega) (Ah rfl (Ah e2 (Ah e3 (neg cv (now ?_))))))))))),⟨hi,by simp⟩,hq3⟩
   simp
theorem M8 (d:List Int) (hd:d.length<=1048576) (q s:Int) (hq:0<=q/\q<=d.length) :
 ∃ l x a n b q2 s2,Ev (fun k=>Ce.f k d q s) (l,x,a,n,b,q2,s2)/\(2<=l.length/\l.length<=7)/\(x.length<=1000/\n.length<=1000)/\(0<=q2/\q2<=d.length):=by
 unfold Ce.f
 obtain ⟨l,q1,s1,h1,hl,hq1⟩:=KO d hd q s hq
 obtain ⟨x,a,n,b,q2,s2,h2,hx,hq2⟩:=ME d hd q1 s1 hq1 l oM
 obtain ⟨j,q3,s3,e3,hq3,_⟩:=Au d q2 s2 10 hd hq2
 have fin:∀ (q s:Int) (x:List Int) (a:Int) (n:List Int) (b:Int),Ev (fun k=>Ce.j0 k l d q s x a n b) (l,x,a,n,b,q,s):=by
  intro q s x a n b
  refine shift ?_
  simp only [Ce.j0]
  exact now rfl
 by_cases c0:j=0
 . obtain ⟨v,q4,s4,e4,hq4,_⟩:=DJ d q3 s3 [-1,1000000,1000001] hd hq3 sM
   exact ⟨l,x,v,n,b,q4,s4,Ev.bind h1 (Ev.bind h2 (Ah e3 (pos c0 (Ah e4 (fin _ _ _ _ _ _))))),hl,hx,hq4⟩
 by_cases c1:j=1
 . obtain ⟨v,q4,s4,e4,hq4,_⟩:=DJ d q3 s3 [-1,1,9] hd hq3 sM
   exact ⟨l,x,a,n,v,q4,s4,Ev.bind h1 (Ev.bind h2 (Ah e3 (neg c0 (pos c1 (Ah e4 (fin _ _ _ _ _ _)))))),hl,hx,hq4⟩
 by_cases c2:j=2
 . exact ⟨l,x,a,[1],b,q3,s3,Ev.bind h1 (Ev.bind h2 (Ah e3 (neg c0 (neg c1 (pos c2 (fin _ _ _ _ _ _)))))),hl,⟨hx.1,by simp⟩,hq3⟩
 by_cases c3:j=3
 . exact ⟨l,[],a,n,b,q3,s3,Ev.bind h1 (Ev.bind h2 (Ah e3 (neg c0 (neg c1 (neg c2 (pos c3 (fin _ _ _ _ _ _))))))),hl,⟨by simp,hx.2⟩,hq3⟩
 . exact ⟨l,x,a,n,b,q3,s3,Ev.bind h1 (Ev.bind h2 (Ah e3 (neg c0 (neg c1 (neg c2 (neg c3 (fin _ _ _ _ _ _))))))),hl,hx,hq3⟩
theorem La (d:List Int) (hd:d.length<=1048576) (q s:Int) (hq:0<=q/\q<=d.length) (l:List Ai) (hl:l.length<=1000) :
 ∃ w q2 s2,Ev (fun k=>CL.f k d q s l) (w,q2,s2)/\w.length<=1000/\(0<=q2/\q2<=d.length):=by
 unfold CL.f
 have main:∀ e j (w:List CR) (q s:Int),j+e=l.length->w.length<=j->(0<=q/\q<=d.length)->∃ w2 q2 s2,Ev (fun k=>CL.l0 k l w (j:Int) d q s) (w2,q2,s2)/\w2.length<=1000/\(0<=q2/\q2<=d.length):=by
  intro e
  induction e with
  | zero =>
   intro j w q s hj hw hq
   refine ⟨w,q,s,shift ?_,by omega,hq⟩
   simp only [CL.l0]
   exact neg oM (now rfl)
  | succ e ih =>
   intro j w q s hj hw hq
   obtain ⟨v,q1,s1,e1,hq1⟩:=D3 d q s 2 hd hq
   by_cases c:v=true
   . obtain ⟨u,q2,s2,e2,hq2,_⟩:=Au d q1 s1 30 hd hq1
     obtain ⟨w3,q3,s3,h3,r3⟩:=ih (j+1) (w++[⟨(AA l (j:Int)).f0,u⟩]) q2 s2 oM (by simp;omega) hq2
     refine ⟨w3,q3,s3,shift ?_,r3⟩
     simp only [CL.l0]
     rw [Af oM]
     exact pos oM (Ah e1 (pos c (pos oM (Ah e2 (pos oM h3)))))
   . obtain ⟨w3,q3,s3,h3,r3⟩:=ih (j+1) w q1 s1 oM oM hq1
     refine ⟨w3,q3,s3,shift ?_,r3⟩
     simp only [CL.l0]
     rw [Af oM]
     exact pos oM (Ah e1 (neg c h3))
 exact main l.length 0 [] q s oM sM hq
theorem M9 (d:List Int) (hd:d.length<=1048576) (q s:Int) (hq:0<=q/\q<=d.length) :
 ∃ l x a n b w q2 s2,Ev (fun k=>Ba.f k d q s) (l,x,a,n,b,w,q2,s2)/\(2<=l.length/\l.length<=7)/\(x.length<=1000/\n.length<=1000)/\w.length<=1000/\(0<=q2/\q2<=d.length):=by
 unfold Ba.f
 obtain ⟨l,x,a,n,b,q1,s1,h1,hl,hx,hq1⟩:=M8 d hd q s hq
 obtain ⟨w,q2,s2,h2,hw,hq2⟩:=La d hd q1 s1 hq1 l oM
 have last:∀ (w:List CR) (q s:Int) (a:Int),Ev (fun k=>Ba.j2 k l w d q s x a n b) (l,x,a,n,b,w,q,s):=by
  intro w q s a
  refine shift ?_
  simp only [Ba.j2]
  exact now rfl
 have mid:∀ (w:List CR) (v:Bool) (q s:Int),(0<=q/\q<=d.length)->∃ a2 q2 s2,Ev (fun k=>Ba.j1 k l w v d q s x a n b) (l,x,a2,n,b,w,q2,s2)/\(0<=q2/\q2<=d.length):=by
  intro w v q s hq
  by_cases c:v=true
  . obtain ⟨u,q3,s3,e3,hq3,_⟩:=DJ d q s [59,60,61] hd hq sM
    refine ⟨u,q3,s3,shift ?_,hq3⟩
    simp only [Ba.j1]
    exact pos c (Ah e3 (last _ _ _ _))
  . refine ⟨a,q,s,shift ?_,hq⟩
    simp only [Ba.j1]
    exact neg c (last _ _ _ _)
 have first:∀ (w:List CR) (q s:Int),(0<=q/\q<=d.length)->∃ a2 q2 s2,Ev (fun k=>Ba.j0 k l w d q s x a n b) (l,x,a2,n,b,w,q2,s2)/\(0<=q2/\q2<=d.length):=by
  intro w q s hq
  obtain ⟨v,q3,s3,e3,hq3⟩:=D3 d q s 6 hd hq
  by_cases c:v=true
  . by_cases c2:(n.length:Int)=0
    . obtain ⟨a2,q4,s4,h4,hq4⟩:=mid w (decide ((x.length:Int)>0)) q3 s3 hq3
      refine ⟨a2,q4,s4,shift ?_,hq4⟩
      simp only [Ba.j0]
      exact Ah e3 (pos c (pos c2 h4))
    . obtain ⟨a2,q4,s4,h4,hq4⟩:=mid w false q3 s3 hq3
      refine ⟨a2,q4,s4,shift ?_,hq4⟩
      simp only [Ba.j0]
      exact Ah e3 (pos c (neg c2 h4))
  . obtain ⟨a2,q4,s4,h4,hq4⟩:=mid w false q3 s3 hq3
    refine ⟨a2,q4,s4,shift ?_,hq4⟩
    simp only [Ba.j0]
    exact Ah e3 (neg c h4)
 by_cases c:(w.length:Int)>0
 . obtain ⟨j,q3,s3,e3,hq3,_⟩:=Au d q2 s2 10 hd hq2
   by_cases c0:j=0
   . obtain ⟨u,q4,s4,e4,hq4,_⟩:=Au d q3 s3 22 hd hq3
     obtain ⟨a2,q5,s5,h5,hq5⟩:=first (w.set (0:Int).toNat ⟨u,(AR w 0).f1⟩) q4 s4 hq4
     exact ⟨l,x,a2,n,b,_,q5,s5,Ev.bind h1 (Ev.bind h2 (pos c (Ah e3 (pos c0 (Ah e4 (pos c h5)))))),hl,hx,by simpa using hw,hq5⟩
   by_cases c1:j=1
   . obtain ⟨u,q4,s4,e4,hq4,_⟩:=DJ d q3 s3 [-1,100000,100001] hd hq3 sM
     obtain ⟨a2,q5,s5,h5,hq5⟩:=first (w.set (0:Int).toNat ⟨(AR w 0).f0,u⟩) q4 s4 hq4
     exact ⟨l,x,a2,n,b,_,q5,s5,Ev.bind h1 (Ev.bind h2 (pos c (Ah e3 (neg c0 (pos c1 (Ah e4 (pos c h5))))))),hl,hx,by simpa using hw,hq5⟩
   . obtain ⟨a2,q5,s5,h5,hq5⟩:=first w q3 s3 hq3
     exact ⟨l,x,a2,n,b,w,q5,s5,Ev.bind h1 (Ev.bind h2 (pos c (Ah e3 (neg c0 (neg c1 h5))))),hl,hx,hw,hq5⟩
 . obtain ⟨a2,q5,s5,h5,hq5⟩:=first w q2 s2 hq2
   exact ⟨l,x,a2,n,b,w,q5,s5,Ev.bind h1 (Ev.bind h2 (neg c h5)),hl,hx,hw,hq5⟩
theorem LZ (d:List Int) (hd:d.length<=1048576) (q s:Int) (hq:0<=q/\q<=d.length) :
 ∃ c q2 s2,Ev (fun k=>Cd.f k d q s) (c,q2,s2)/\c.length<=1000/\(0<=q2/\q2<=d.length):=by
 unfold Cd.f
 have main:∀ (m:Nat) (o:List Gh) (q s:Int),m+o.length<=1000->(0<=q/\q<=d.length)->∃ c q2 s2,Ev (fun k=>Cd.l0 k o (m:Int) d q s) (c,q2,s2)/\c.length<=1000/\(0<=q2/\q2<=d.length):=by
  intro m
  induction m with
  | zero =>
   intro o q s ho hq
   by_cases c:(o.length:Int)>0
   . obtain ⟨v,q1,s1,e1,hq1⟩:=D3 d q s 8 hd hq
     by_cases c2:v=true
     . obtain ⟨u,q3,s3,e3,hq3,_⟩:=DJ d q1 s1 [-1,100000,100001] hd hq1 sM
       refine ⟨o.set (0:Int).toNat ⟨(Es o 0).f0,u⟩,q3,s3,shift ?_,?_,hq3⟩
       . simp only [Cd.l0]
         exact neg oM (pos c (Ah e1 (pos c2 (Ah e3 (pos c (now rfl))))))
       . simp;omega
     . refine ⟨o,q1,s1,shift ?_,by omega,hq1⟩
       simp only [Cd.l0]
       exact neg oM (pos c (Ah e1 (neg c2 (now rfl))))
   . refine ⟨o,q,s,shift ?_,by omega,hq⟩
     simp only [Cd.l0]
     exact neg oM (neg c (now rfl))
  | succ m ih =>
   intro o q s ho hq
   obtain ⟨u,q1,s1,e1,hq1,_⟩:=Au d q s 7 hd hq
   obtain ⟨v,q2,s2,e2,hq2,_⟩:=Au d q1 s1 80 hd hq1
   obtain ⟨c,q3,s3,h3,r3⟩:=ih (o++[⟨wrap64 (1+u),v⟩]) q2 s2 (by simp;omega) hq2
   refine ⟨c,q3,s3,shift ?_,r3⟩
   simp only [Cd.l0]
   refine pos oM (Ah e1 (Ah e2 (pos oM ?_)))
   rw [Gn (x:=((m+1:Nat):Int)-1) oM oM,show ((m+1:Nat):Int)-1=(m:Int) by omega]
   exact h3
 obtain ⟨m,q1,s1,e1,hq1,m0,m1⟩:=Au d q s 6 hd hq
 have m1:=m1 oM
 obtain ⟨m,rfl⟩:=Int.eq_ofNat_of_zero_le m0
 obtain ⟨c,q2,s2,h2,r2⟩:=main m [] q1 s1 (by simp;omega) hq1
 exact ⟨c,q2,s2,Ah e1 h2,r2⟩
theorem I4 (d:List Int) (hd:d.length<=1048576):∃ l x a n b w c q,Ev (fun k=>C5.f k d) (l,x,a,n,b,w,c,q)/\(2<=l.length/\l.length<=7)/\(x.length<=1000/\n.length<=1000)/\w.length<=1000/\c.length<=1000:=by
 unfold C5.f
 obtain ⟨s,h0⟩:=Fl d
 obtain ⟨l,x,a,n,b,w,q1,s1,h1,hl,hx,hw,hq1⟩:=M9 d hd 0 s ⟨by omega,by omega⟩
 obtain ⟨c,q2,s2,h2,hc,hq2⟩:=LZ d hd q1 s1 hq1
 obtain ⟨v,q3,s3,e3,hq3,_⟩:=DJ d q2 s2 [0,10,60,120,601,-1] hd hq2 sM
 exact ⟨l,x,a,n,b,w,c,v,Ev.bind h0 (Ev.bind h1 (Ev.bind h2 (Ah e3 (now rfl)))),hl,hx,hw,hc⟩
theorem GJ (p:List Ag) (hp:p.length<=1048576) (hs:∀ x ∈ p,x.f0.length<=1048576):Ev (fun k=>CO.f k p) p:=by
 unfold CO.f
 have:∀ d j (out:List Ag),j+d=p.length->out.length<=j->Ev (fun k=>CO.l0 k p out (j:Int)) (out++p.drop j):=by
  intro d
  induction d with
  | zero =>
   intro j out hj ho
   refine shift ?_
   simp only [CO.l0]
   exact neg oM (now (by rw [List.drop_eq_nil_of_le oM];simp))
  | succ d ih =>
   intro j out hj ho
   have hjl:j<p.length:=by omega
   have e:AE p (j:Int)=p[j]:=by simp [AE,hjl]
   have hm:=hs _ (List.getElem_mem hjl)
   refine shift ?_
   simp only [CO.l0]
   rw [Af oM,e]
   refine pos oM (Ah rfl (pos oM (pos (by simp;omega) (pos oM ?_))))
   have:=ih (j+1) (out++[p[j]]) oM (by simp;omega)
   rw [List.drop_eq_getElem_cons hjl]
   rw [List.append_assoc] at this
   exact this
 have:=this p.length 0 [] oM sM
 simpa using this
theorem Pb {a b:List Ag} (h:∀ x ∈ a,x.f0.length<=20) (h2:∀ x ∈ b,x.f0.length<=20) (hl:a.length+b.length<=12):FB (a++b):=by
 refine ⟨by simpa using hl,fun x hx=>?_⟩
 rcases List.mem_append.1 hx with q|q
 . exact h x q
 . exact h2 x q
theorem Kk (p:List Ag) (a:Int) (hp:FB p):∃ r,Ev (fun k=>DY.f k p a) r/\FB r:=by
 have h12:=hp.1
 have hs:∀ x ∈ p,x.f0.length<=1048576:=fun x hx=>by have:=hp.2 x hx;omega
 unfold DY.f
 by_cases h:0<=a/\a<=(p.length:Int)-1
 . refine ⟨p.drop a.toNat++p.take a.toNat,Ah (DZ _ _ _) ?_,Pb (fun x hx=>hp.2 x (List.mem_of_mem_drop hx)) (fun x hx=>hp.2 x (List.mem_of_mem_take hx)) (by simp;omega)⟩
   rw [Gn (x:=(p.length:Int)-1) oM oM]
   exact pos (by simpa using h) (pos h.1 (pos oM (Ev.bind (GJ _ (by simp;omega) (fun x hx=>hs x (List.mem_of_mem_drop hx))) (Ev.bind (GJ _ (by simp;omega) (fun x hx=>hs x (List.mem_of_mem_take hx))) (pos (by simp;omega) (now rfl))))))
 . refine ⟨p,Ah (DZ _ _ _) ?_,hp⟩
   rw [Gn (x:=(p.length:Int)-1) oM oM]
   exact neg (by simpa using h) (Ev.bind (GJ p oM hs) (now rfl))
theorem NA (d:List Int) (hd:d.length<=1048576) (q s:Int) (hq:0<=q/\q<=d.length) :
 ∃ l a b q2 s2,Ev (fun k=>Bh.f k d q s) (l,a,b,q2,s2)/\(2<=l.length/\l.length<=7)/\FB a/\FB b/\(0<=q2/\q2<=d.length):=by
 unfold Bh.f
 obtain ⟨l,a,q1,s1,h1,hl,ha,hq1⟩:=IK d hd q s hq
 have h12:=ha.1
 have hs:∀ x ∈ a,x.f0.length<=1048576:=fun x hx=>by have:=ha.2 x hx;omega
 have last:∀ (b:List Ag) (q s:Int),FB b->(0<=q/\q<=d.length)->∃ b2 q2 s2,Ev (fun k=>Bh.j2 k l a b d q s) (l,a,b2,q2,s2)/\FB b2/\(0<=q2/\q2<=d.length):=by
  intro b q s hb hq
  obtain ⟨v,q2,s2,e2,hq2⟩:=D3 d q s 6 hd hq
  by_cases c:v=true
  . obtain ⟨p,hp,ho⟩:=Gw l oM
    refine ⟨p,q2,s2,shift ?_,G8 ho,hq2⟩
    simp only [Bh.j2]
    exact Ah e2 (pos c (Ev.bind hp (now rfl)))
  . refine ⟨b,q2,s2,shift ?_,hb,hq2⟩
    simp only [Bh.j2]
    exact Ah e2 (neg c (now rfl))
 have mid:∀ (b:List Ag) (v:Bool) (q s:Int),FB b->(0<=q/\q<=d.length)->∃ b2 q2 s2,Ev (fun k=>Bh.j1 k l a b v d q s) (l,a,b2,q2,s2)/\FB b2/\(0<=q2/\q2<=d.length):=by
  intro b v q s hb hq
  by_cases c:v=true
  . obtain ⟨n,q2,s2,e2,hq2,_⟩:=Au d q s (b.length:Int) hd hq
    obtain ⟨r,hr,hrs⟩:=Kk b n hb
    obtain ⟨b3,q3,s3,h3,r3⟩:=last r q2 s2 hrs hq2
    refine ⟨b3,q3,s3,shift ?_,r3⟩
    simp only [Bh.j1]
    exact pos c (Ah e2 (Ev.bind hr h3))
  . obtain ⟨b3,q3,s3,h3,r3⟩:=last b q s hb hq
    refine ⟨b3,q3,s3,shift ?_,r3⟩
    simp only [Bh.j1]
    exact neg c h3
 have main:∀ (dd i:Nat) (b:List Ag) (q s:Int),i+dd=b.length->FB b->(0<=q/\q<=d.length)->∃ b2 q2 s2,Ev (fun k=>Bh.l0 k l a b (i:Int) d q s) (l,a,b2,q2,s2)/\FB b2/\(0<=q2/\q2<=d.length):=by
  intro dd
  induction dd with
  | zero =>
   intro i b q s hi hb hq
   have hb12:=hb.1
   by_cases c:(b.length:Int)>0
   . obtain ⟨v,q2,s2,e2,hq2⟩:=D3 d q s 2 hd hq
     obtain ⟨b3,q3,s3,h3,r3⟩:=mid b v q2 s2 hb hq2
     refine ⟨b3,q3,s3,shift ?_,r3⟩
     simp only [Bh.l0]
     exact neg oM (pos c (Ah e2 h3))
   . obtain ⟨b3,q3,s3,h3,r3⟩:=mid b false q s hb hq
     refine ⟨b3,q3,s3,shift ?_,r3⟩
     simp only [Bh.l0]
     exact neg oM (neg c h3)
  | succ dd ih =>
   intro i b q s hi hb hq
   have hb12:=hb.1
   obtain ⟨v,q2,s2,e2,hq2,_⟩:=Au d q s 5 hd hq
   have hm:(AE b (i:Int)).f0.length<=20:=hb.2 _ (M2 b i oM)
   obtain ⟨b3,q3,s3,h3,r3⟩:=ih (i+1) (b.set i ⟨(AE b (i:Int)).f0,mn 60 (mx 7 (wrap64 (mn 60 (AE b (i:Int)).f1+v)))⟩) q2 s2 (by simp;omega) (Kf hb i _ hm) hq2
   refine ⟨b3,q3,s3,shift ?_,r3⟩
   simp only [Bh.l0,Int.toNat_natCast]
   rw [Af oM]
   exact pos oM (pos oM (Ah (Js _ _) (Ah e2 (Ah (L4 _ _) (Ah (Js _ _) h3)))))
 obtain ⟨b2,q2,s2,h2,hb,hq2⟩:=main a.length 0 a q1 s1 oM ha hq1
 exact ⟨l,a,b2,q2,s2,Ev.bind h1 (Ev.bind (GJ a oM hs) h2),hl,ha,hb,hq2⟩
theorem Hu (d:List Int) (hd:d.length<=1048576):∃ l p r,Ev (fun k=>DC.f k d) (l,p,r)/\(2<=l.length/\l.length<=7)/\FB p/\FB r:=by
 unfold DC.f
 obtain ⟨s,h0⟩:=Fl d
 obtain ⟨l,p,r,q1,s1,h1,hl,hp,hr,hq1⟩:=NA d hd 0 s ⟨by omega,by omega⟩
 exact ⟨l,p,r,Ev.bind h0 (Ev.bind h1 (now rfl)),hl,hp,hr⟩
theorem Le (L:Nat->Int):∀ d i,DO L (d+1) i=DO L d i+L (i+d)
 | 0,i=>by simp [DO]
 | d+1,i=>by
  have h:=Le L d (i+1)
  rw [DO,h]
  simp only [DO]
  rw [show i+1+d=i+(d+1) by omega]
  omega
theorem MA (l:List Ai) (p:List Ag) (hl:l.length<=1048576) (hp:p.length<=1048576) (hs:∀ x ∈ p,x.f0.length<=1048576) (h:CV l p=true) (i:Nat) (hi:i<p.length):Ev (fun k=>B1.f k l p (i:Int)) (DO (CZ l p) i 0):=by
 unfold B1.f
 have h6:=(CW h).1
 refine Ev.bind (FI l p hl hp hs) (pos h (neg oM ?_))
 rw [show decide ((i:Int)>=(p.length:Int))=false from decide_eq_false oM]
 refine shift ?_
 simp only [B1.j0]
 refine neg sM ?_
 refine loop (g:=fun k j=>B1.l0 k l p (DO (CZ l p) j 0) (i:Int) (j:Int)) i ?_ ?_
 . intro j hj hh
   have hr:=FR (n:=p.length) (Cl h)
   have h3:=Cl h j oM
   have h2:0<=DO (CZ l p) j 0/\DO (CZ l p) j 0<=390:=by
    have:=FR (n:=j) (L:=CZ l p) (fun q hq=>Cl h q oM) j 0 oM
    omega
   refine shift ?_
   simp only [B1.l0]
   rw [Af oM]
   refine pos (Av hj) (Ev.bind (Hc l p hl hs h j oM) ?_)
   rw [Gn oM oM,show DO (CZ l p) j 0+CZ l p j=DO (CZ l p) (j+1) 0 by rw [Le,Nat.zero_add]]
   exact hh
 . refine shift ?_
   simp only [B1.l0]
   exact neg (Cz (Nat.le_refl _)) (now rfl)
def EO (l:List Ai) (p q:List Ag):Nat->List Int
 | 0=>[]
 | j+1=>if (AE p (j:Int)).f0=(AE q 0).f0 then EO l p q j++[DO (CZ l p) j 0] else EO l p q j
theorem I5 (l:List Ai) (p q:List Ag):∀ j,(EO l p q j).length<=j
 | 0=>by simp [EO]
 | j+1=>by
  have:=I5 l p q j
  rw [EO]
  split
  . simp;omega
  . omega
theorem G6 {l:List Ai} {p q:List Ag} {x:Int}:∀ {j:Nat},x ∈ EO l p q j->∃ i,i<j/\(AE p (i:Int)).f0=(AE q 0).f0/\x=DO (CZ l p) i 0
 | 0,h=>by simp [EO] at h
 | j+1,h=>by
  rw [EO] at h
  split at h
  . rename_i c
    rcases List.mem_append.1 h with h|h
    . obtain ⟨i,hi,r⟩:=G6 h
      exact ⟨i,by omega,r⟩
    . rw [List.mem_singleton] at h
      exact ⟨j,by omega,c,h⟩
  . obtain ⟨i,hi,r⟩:=G6 h
    exact ⟨i,by omega,r⟩
theorem JN (l:List Ai) (p q:List Ag) (hl:l.length<=1048576) (hp:p.length<=1048576) (hs:∀ x ∈ p,x.f0.length<=1048576) (hq:q.length<=1048576) (ht:∀ x ∈ q,x.f0.length<=1048576) :
 Ev (fun k=>Az.f k l p q) (if CV l p=true/\CV l q=true then EO l p q p.length else []):=by
 unfold Az.f
 have stop:Ev (fun k=>Az.j0 k l p q [] true) []:=by
  refine shift ?_
  simp only [Az.j0]
  exact pos trivial (now rfl)
 refine Ah rfl (Ev.bind (FI l p hl hp hs) ?_)
 by_cases h:CV l p=true
 . refine pos h (Ev.bind (FI l q hl hq ht) ?_)
   by_cases h2:CV l q=true
   . rw [if_pos ⟨h,h2⟩,h2]
     refine shift ?_
     simp only [Az.j0]
     refine neg sM ?_
     have q6:=(CW h2).1
     have p6:=(CW h).1
     refine loop (g:=fun k j=>Az.l0 k l p q (EO l p q j) p (p.length:Int) (j:Int)) p.length ?_ ?_
     . intro j hj hh
       have hn:=I5 l p q j
       refine shift ?_
       simp only [Az.l0]
       rw [Af oM]
       refine pos (Av hj) (pos oM (pos (Av hj) (pos oM (Ev.bind (F6 _ _ (Ds p hs j hj)) ?_))))
       rw [EO] at hh
       by_cases c:(AE p (j:Int)).f0=(AE q 0).f0
       . rw [if_pos c] at hh
         exact pos (decide_eq_true c) (Ev.bind (MA l p hl hp hs h j hj) (pos oM hh))
       . rw [if_neg c] at hh
         exact neg (by simpa using c) hh
     . refine shift ?_
       simp only [Az.l0]
       exact neg (Cz (Nat.le_refl _)) (now rfl)
   . rw [if_neg (fun z=>h2 z.2),Bool.eq_false_iff.2 h2]
     exact stop
 . rw [if_neg (fun z=>h z.1)]
   exact neg h stop
theorem Ls {L:Nat->Int}:∀ (j d i:Nat),(∀ q,i<=q->q<i+d->1<=L q)->j<d->D1 L d i (DO L j i)=(i+j,0)
 | 0,d+1,i,h,_=>by
  have:=h i (Nat.le_refl _) oM
  rw [D1,if_pos (show DO L 0 i<L i by simp only [DO];omega)]
  rfl
 | j+1,d+1,i,h,hj=>by
  have h0:∀ (d i:Nat),(∀ q,i<=q->q<i+d->1<=L q)->0<=DO L d i:=by
   intro d
   induction d with
   | zero=>intro i _;simp [DO]
   | succ d ih =>
    intro i hq
    have:=hq i (Nat.le_refl _) oM
    have:=ih (i+1) (fun q a b=>hq q oM oM)
    simp only [DO]
    omega
  have h1:=h0 j (i+1) (fun q a b=>h q oM oM)
  have h2:=h i (Nat.le_refl _) oM
  have h3:=Ls (L:=L) j d (i+1) (fun q a b=>h q oM oM) oM
  have e:DO L (j+1) i=L i+DO L j (i+1):=rfl
  rw [D1,if_neg oM,show DO L (j+1) i-L i=DO L j (i+1) by omega,h3,show i+1+j=i+(j+1) by omega]
theorem Ka (n:Int) (s:List Int) (hn:0<n/\n<=1000) (hs:s.length<=1048576):∀ (d:Nat) (x:Int),0<=x->x+d<=1000000->(x+d) % n ∈ s->∃ r,Ev (fun k=>Bj.l0 k x s n) r/\x<=r/\r<=x+d/\Int.tmod r n ∈ s:=by
 intro d
 induction d with
 | zero =>
  intro x h0 h1 hm
  have e:Int.tmod x n=x % n:=Int.tmod_eq_emod_of_nonneg h0
  refine ⟨x,shift ?_,Int.le_refl _,by omega,by rw [e];simpa using hm⟩
  simp only [Bj.l0]
  refine neg oM (Ev.bind (Bc _ _ oM) (pos (decide_eq_true ?_) (now rfl)))
  rw [e];simpa using hm
 | succ d ih =>
  intro x h0 h1 hm
  by_cases c:Int.tmod x n ∈ s
  . refine ⟨x,shift ?_,Int.le_refl _,by omega,c⟩
    simp only [Bj.l0]
    exact neg oM (Ev.bind (Bc _ _ oM) (pos (decide_eq_true c) (now rfl)))
  . obtain ⟨r,hr,r1,r2,r3⟩:=ih (x+1) oM oM (by rw [show x+1+(d:Int)=x+((d+1:Nat):Int) by omega];exact hm)
    refine ⟨r,shift ?_,by omega,by omega,r3⟩
    simp only [Bj.l0]
    refine neg oM (Ev.bind (Bc _ _ oM) (neg (by simpa using c) ?_))
    rw [Gn oM oM]
    exact hr
theorem LM (l:List Ai) (p q:List Ag) (hl:l.length<=1048576) (hp:p.length<=1048576) (hs:∀ x ∈ p,x.f0.length<=1048576) (hq:q.length<=1048576) (ht:∀ x ∈ q,x.f0.length<=1048576) :
 ∃ r,Ev (fun k=>Bj.f k l p q 20) r/\(r=-1\/(CV l p=true/\CV l q=true/\20<=r/\r<=1000/\∃ i,i<p.length/\(AE p (i:Int)).f0=(AE q 0).f0/\Int.tmod r (Dh l p)=DO (CZ l p) i 0)):=by
 have hS:=JN l p q hl hp hs hq ht
 generalize hz:(if CV l p=true/\CV l q=true then EO l p q p.length else [])=s at hS
 have stop:∀ s,Ev (fun k=>Bj.j0 k l p 20 s true) (-1):=by
  intro s
  refine shift ?_
  simp only [Bj.j0]
  exact pos trivial (now rfl)
 unfold Bj.f
 by_cases c:(s.length:Int)=0
 . exact ⟨-1,Ev.bind hS (pos c (stop s)),.inl rfl⟩
 by_cases h:CV l p=true/\CV l q=true
 . rw [if_pos h] at hz
   subst hz
   have hc:=FF h.1
   have hlen:=I5 l p q p.length
   obtain ⟨x,hx⟩:∃ x,x ∈ EO l p q p.length:=by
    cases hh:EO l p q p.length with
    | nil=>rw [hh] at c;simp at c
    | cons x r=>exact ⟨x,List.mem_cons_self⟩
   obtain ⟨i,hi,_,e⟩:=G6 hx
   have hx0:0<=x/\x<Dh l p:=by
    have h1:=FR (n:=i) (L:=CZ l p) (fun q hq=>Cl h.1 q oM) i 0 oM
    have h2:∀ d,i+d=p.length->1<=d->DO (CZ l p) i 0<DO (CZ l p) p.length 0:=by
     intro d hd h1d
     have:∀ d,i+d<=p.length->DO (CZ l p) i 0+d<=DO (CZ l p) (i+d) 0:=by
      intro d
      induction d with
      | zero=>intro _;simp
      | succ d ih =>
       intro hd
       have:=ih oM
       have h3:=Cl h.1 (i+d) oM
       rw [show i+(d+1)=i+d+1 by omega,Le,Nat.zero_add]
       omega
     have:=this d oM
     rw [hd] at this
     omega
    have:=h2 (p.length-i) oM oM
    unfold Dh
    omega
   have hcy:Pu l p=Dh l p:=if_pos h.1
   obtain ⟨r,hr,r1,r2,r3⟩:=Ka (Dh l p) (EO l p q p.length) oM oM ((x-20) % Dh l p).toNat 20 oM (by have:=Int.emod_lt_of_pos (x-20) (show 0<Dh l p by omega);have:=Int.emod_nonneg (x-20) (show Dh l p≠0 by omega);omega) (by
    have h0:=Int.emod_nonneg (x-20) (show Dh l p≠0 by omega)
    rw [Int.toNat_of_nonneg h0,Int.add_emod_emod,show (20:Int)+(x-20)=x by omega,Int.emod_eq_of_lt hx0.1 hx0.2]
    exact hx)
   obtain ⟨i2,hi2,e2,e3⟩:=G6 r3
   refine ⟨r,Ev.bind hS (neg c (Ah (CB _ _ _) ?_)),.inr ⟨h.1,h.2,r1,?_,i2,hi2,e2,e3⟩⟩
   . show Ev (fun k=>Bj.j0 k l p 20 _ (!(decide ((0:Int)<=20/\(20:Int)<=100000)))) _
     refine shift ?_
     simp only [Bj.j0]
     refine neg dC (Ev.bind (KJ l p hl hp hs) ?_)
     rw [hcy]
     exact hr
   . have:=Int.emod_lt_of_pos (x-20) (show 0<Dh l p by omega)
     have:=Int.emod_nonneg (x-20) (show Dh l p≠0 by omega)
     omega
 . rw [if_neg h] at hz
   subst hz
   exact absurd sM c
theorem Gu (l:List Ai) (p:List Ag) (a n:Int):∀ x ∈ DW l p a n,x.length=l.length:=by
 intro x hx
 unfold DW at hx
 split at hx
 . obtain ⟨s,_,rfl⟩:=List.mem_map.1 hx
   exact Hf l p _
 . cases hx
theorem Ht (d:List Int) (hd:d.length<=1048576):∃ l h,Ev (fun k=>BC.f k d) (l,h)/\(2<=l.length/\l.length<=7)/\h.length<=600/\∀ x ∈ h,x.length<=7:=by
 unfold BC.f
 obtain ⟨s,h0⟩:=Fl d
 obtain ⟨l,p,q1,s1,h1,hl,hp,hq1⟩:=IK d hd 0 s ⟨by omega,by omega⟩
 have hp12:=hp.1
 obtain ⟨a,q2,s2,e2,hq2,_⟩:=Au d q1 s1 50 hd hq1
 obtain ⟨n,q3,s3,e3,hq3,_⟩:=Au d q2 s2 40 hd hq2
 have hP:=KF l p oM oM (fun x hx=>by have:=hp.2 x hx;omega) a n
 have hlen:=Fu l p a n
 have hrow:∀ x ∈ DW l p a n,x.length<=7:=fun x hx=>by have:=Gu l p a n x hx;omega
 generalize hH:DW l p a n=H at hP hlen hrow
 have no:∀ (q s:Int),Ev (fun k=>BC.j0 k l H false d q s) (l,H):=by
  intro q s
  refine shift ?_
  simp only [BC.j0]
  exact neg sM (now rfl)
 by_cases c:(H.length:Int)>0
 . by_cases c2:((At H 0).length:Int)>0
   . obtain ⟨v,q4,s4,e4,hq4⟩:=D3 d q3 s3 2 hd hq3
     by_cases c3:v=true
     . obtain ⟨i,q5,s5,e5,hq5,i0,i1⟩:=Au d q4 s4 (H.length:Int) hd hq4
       have i1:=i1 oM
       obtain ⟨i,rfl⟩:=Int.eq_ofNat_of_zero_le i0
       have hi:i<H.length:=by omega
       have hri:∀ j:Nat,j<H.length->At H (j:Int) ∈ H:=by
        intro j hj
        have:At H (j:Int)=H[j]:=by simp [At,hj]
        rw [this]
        exact List.getElem_mem hj
       have hll:(At H (i:Int)).length=(At H 0).length:=by
        have h1:=Gu l p a n (At H (i:Int)) (by rw [hH];exact hri i hi)
        have h2:=Gu l p a n (At H ((0:Nat):Int)) (by rw [hH];exact hri 0 oM)
        rw [h1]
        exact h2.symm
       obtain ⟨j,q6,s6,e6,hq6,j0,j1⟩:=Au d q5 s5 ((At H (i:Int)).length:Int) hd hq5
       have j1:=j1 oM
       obtain ⟨u,q7,s7,e7,hq7,_⟩:=Au d q6 s6 4 hd hq6
       refine ⟨l,H.set (i:Int).toNat ((At H (i:Int)).set j.toNat u),Ev.bind h0 (Ev.bind h1 (Ah e2 (Ah e3 (Ev.bind hP (pos c (pos oM (pos c2 (Ah e4 (shift ?_))))))))),hl,by simpa using hlen,fun x hx=>?_⟩
       . simp only [BC.j0]
         exact pos c3 (Ah e5 (pos i0 (pos i1 (Ah e6 (Ah e7 (pos j0 (pos j1 (now rfl))))))))
       . rcases List.mem_or_eq_of_mem_set hx with g|g
         . exact hrow x g
         . rw [g,List.length_set]
           exact hrow _ (hri i hi)
     . refine ⟨l,H,Ev.bind h0 (Ev.bind h1 (Ah e2 (Ah e3 (Ev.bind hP (pos c (pos oM (pos c2 (Ah e4 ?_)))))))),hl,hlen,hrow⟩
       rw [Bool.eq_false_iff.2 c3]
       exact no _ _
   . exact ⟨l,H,Ev.bind h0 (Ev.bind h1 (Ah e2 (Ah e3 (Ev.bind hP (pos c (pos oM (neg c2 (no _ _)))))))),hl,hlen,hrow⟩
 . exact ⟨l,H,Ev.bind h0 (Ev.bind h1 (Ah e2 (Ah e3 (Ev.bind hP (neg c (no _ _)))))),hl,hlen,hrow⟩
theorem JR (d:List Int) (hd:d.length<=1048576):∃ h i,Ev (fun k=>Ch.f k d) (h,i)/\h.length<=600:=by
 unfold Ch.f
 obtain ⟨l,h,h1,_,hh,_⟩:=Ht d hd
 obtain ⟨s,h0⟩:=Fl d
 obtain ⟨v,q3,s3,e3,hq3,_⟩:=Au d 0 s 8 hd ⟨by omega,by omega⟩
 exact ⟨h,_,Ev.bind h1 (Ev.bind h0 (Ah e3 (now rfl))),hh⟩
def H4 (x:List Int) (i:Int):Bool:=decide (0<=i/\i<x.length/\rd x i=1)
theorem JB (x:List Int) (i:Int):EE.f x i=some (H4 x i):=by
 unfold EE.f H4
 by_cases h0:i>=0
 . rw [if_pos h0]
   by_cases h1:i<(x.length:Int)
   . rw [if_pos h1,if_pos h0]
     refine congrArg some ?_
     rw [Bool.eq_iff_iff]
     simp [h1]
     omega
   . rw [if_neg h1]
     exact congrArg some (Eq.symm (decide_eq_false oM))
 . rw [if_neg h0]
   exact congrArg some (Eq.symm (decide_eq_false oM))
def Ej (h:List (List Int)) (i:Int):Nat->Int
 | 0=>-1
 | j+1=>if H4 (At h j) i=true then (j:Int) else Ej h i j
theorem Kr (h:List (List Int)) (i:Int) (hl:h.length<=1048576):Ev (fun k=>Bz.f k h i) (Ej h i h.length):=by
 unfold Bz.f
 refine loop (g:=fun k j=>Bz.l0 k i (Ej h i j) h (h.length:Int) (j:Int)) h.length ?_ ?_
 . intro j hj ih
   refine shift ?_
   simp only [Bz.l0]
   refine pos (Av hj) (pos oM (pos (Av hj) (Ah (JB _ _) ?_)))
   rw [Af oM]
   rw [Ej] at ih
   by_cases hg:H4 (At h (j:Int)) i=true
   . rw [if_pos hg] at ih
     exact pos hg ih
   . rw [if_neg hg] at ih
     exact neg hg ih
 . refine shift ?_
   simp only [Bz.l0]
   exact neg (Cz (Nat.le_refl _)) (now rfl)
def Fc (h:List (List Int)) (i:Int):Nat->Int
 | 0=>0
 | j+1=>if H4 (At h j) i=true then 0 else Fc h i j+1
def Gf (h:List (List Int)) (i:Int):Nat->Int
 | 0=>0
 | j+1=>mx (Gf h i j) (Fc h i (j+1))
theorem K0 (h:List (List Int)) (i:Int) (j:Nat):0<=Fc h i j/\Fc h i j<=j:=by
 induction j with
 | zero=>simp [Fc]
 | succ j ih =>
  rw [Fc]
  split <;> omega
theorem OO {h:List (List Int)} {i:Int} {j:Nat} (g:H4 (At h j) i=true):Fc h i (j+1)=0:=by rw [Fc,if_pos g]
theorem M4 {h:List (List Int)} {i:Int} {j:Nat} (g:¬ H4 (At h j) i=true):Fc h i (j+1)=Fc h i j+1:=by rw [Fc,if_neg g]
theorem Ks (h:List (List Int)) (i:Int) (hl:h.length<=1048576):Ev (fun k=>Bm.f k h i) (Gf h i h.length):=by
 unfold Bm.f
 refine loop (g:=fun k j=>Bm.l0 k i (Gf h i j) (Fc h i j) h (h.length:Int) (j:Int)) h.length ?_ ?_
 . intro j hj ih
   have hb:=K0 h i j
   refine shift ?_
   simp only [Bm.l0]
   refine pos (Av hj) (pos oM (pos (Av hj) (Ah (JB _ _) ?_)))
   rw [Af oM,Gn (x:=Fc h i j+1) oM oM]
   rw [Gf] at ih
   by_cases hg:H4 (At h (j:Int)) i=true
   . rw [OO hg] at ih
     exact pos hg ih
   . rw [M4 hg] at ih
     exact neg hg ih
 . refine shift ?_
   simp only [Bm.l0]
   exact neg (Cz (Nat.le_refl _)) (now rfl)
theorem PM {a1 a2 a3 b1 b2 b3:Int} (h2:0<=a2/\a2<=3) (h3:0<=a3/\a3<=3) (g2:0<=b2/\b2<=3) (g3:0<=b3/\b3<=3) (hw:¬ (a1=2/\b1=2)):Kq a1 a2 a3 b1 b2 b3=Kq b1 b2 b3 a1 a2 a3:=by
 unfold Kq
 by_cases c1:a1=2
 . rw [if_pos c1,if_neg (fun e=>hw ⟨c1,e⟩),if_pos c1]
 . rw [if_neg c1,if_neg c1]
   by_cases c2:b1=2
   . rw [if_pos c2,if_pos c2]
   . rw [if_neg c2,if_neg c2]
     rcases FW h2 with rfl|rfl|rfl|rfl <;> rcases FW h3 with rfl|rfl|rfl|rfl <;> rcases FW g2 with rfl|rfl|rfl|rfl <;> rcases FW g3 with rfl|rfl|rfl|rfl <;> decide
theorem IN (x y:Ai):Hs x y=Hs y x:=by
 unfold Hs conflict
 by_cases h:EF x.f0 x.f1 x.f2 x.f3=true/\EF y.f0 y.f1 y.f2 y.f3=true/\¬ (x.f1=2/\y.f1=2)
 . rw [if_pos h,if_pos ⟨h.2.1,h.1,fun e=>h.2.2 ⟨e.2,e.1⟩⟩]
   obtain ⟨h1,h2,h3⟩:=h
   have h1:=(GQ _ _ _ _).1 h1
   have h2:=(GQ _ _ _ _).1 h2
   exact PM h1.2.2.1 h1.2.2.2.1 h2.2.2.1 h2.2.2.2.1 h3
 . rw [if_neg h,if_neg (fun e=>h ⟨e.2.1,e.1,fun q=>e.2.2 ⟨q.2,q.1⟩⟩)]
theorem QG (x:Ai):Hs x x=false:=by
 unfold Hs conflict
 split
 . rename_i h
   unfold Kq
   rw [if_neg (fun e=>h.2.2 ⟨e,e⟩),if_neg (fun e=>h.2.2 ⟨e,e⟩),if_pos rfl]
 . rfl
theorem Q7 {x y:Ai} (h:Hs x y=true):2<=JL x:=by
 unfold Hs conflict at h
 split at h
 . rename_i g
   unfold JL G3
   rw [if_pos g.1]
   split
   . omega
   . split <;> omega
 . cases h
theorem Fm {l:List Ai} {ids:List Int} (h:together l ids=true) {a b:Int} (ha:a ∈ ids) (hb:b ∈ ids):Hs (AA l (fp l a)) (AA l (fp l b))=false:=by
 simp only [together,Bool.and_eq_true] at h
 obtain ⟨i,hi,rfl⟩:=List.getElem_of_mem ha
 obtain ⟨j,hj,rfl⟩:=List.getElem_of_mem hb
 have key:∀ i j:Nat,i<ids.length->j<i->Hs (AA l (fp l (rd ids i))) (AA l (fp l (rd ids j)))=false:=by
  intro i j hi hj
  have:=List.all_eq_true.1 h.1 i (List.mem_range.2 hi)
  simp only [Jx,Bool.and_eq_true] at this
  have:=List.all_eq_true.1 this.2 j (List.mem_range.2 hj)
  simpa [Fw] using this
 rw [<-D2 ids i hi,<-D2 ids j hj]
 rcases Nat.lt_trichotomy i j with q|q|q
 . rw [IN]
   exact key j i hj q
 . rw [q]
   exact QG _
 . exact key i j hi q
theorem GB {l:List Ai} (h:Cr l=true) (j:Nat) (hj:j<l.length):AA l (fp l (AA l (j:Int)).f0)=AA l (j:Int):=by
 have e:AA l (j:Int)=l[j]:=by simp [AA,hj]
 rw [e]
 have h0:=OG l l[j] (List.getElem_mem hj)
 have h1:=Pw l l[j].f0 h0
 have h2:=E1 l l[j].f0
 obtain ⟨q,hq⟩:=Int.eq_ofNat_of_zero_le (show 0<=fp l l[j].f0 by omega)
 have hql:q<l.length:=by omega
 rw [hq] at h1 |-
 have e2:AA l (q:Int)=l[q]:=by simp [AA,hql]
 rw [e2] at h1 |-
 have hp:=Nu h
 rw [List.pairwise_map] at hp
 have hp:=List.pairwise_iff_getElem.1 hp
 rcases Nat.lt_trichotomy q j with c|c|c
 . have:=hp q j hql hj c;omega
 . subst c;rfl
 . have:=hp j q hj hql c;omega
theorem P6 (row:List Int) (t:Nat) (last:List Int) (j:Nat):∀ m,m<=last.length->rd (NZ row t last m) (j:Int)=if j<m/\rd row (j:Int)=1 then (t:Int) else rd last (j:Int)
 | 0,_=>by rw [NZ,if_neg oM]
 | m+1,hm=>by
  have ih:=P6 row t last j m oM
  rw [NZ]
  by_cases c:rd row (m:Int)=1
  . rw [if_pos c,Se _ _ _ _ (by rw [F7];omega),ih]
    by_cases e:m=j
    . subst e
      rw [if_pos rfl,if_pos ⟨by omega,c⟩]
    . rw [if_neg e]
      by_cases q:j<m/\rd row (j:Int)=1
      . rw [if_pos q,if_pos ⟨by omega,q.2⟩]
      . rw [if_neg q,if_neg (fun z=>q ⟨by omega,z.2⟩)]
  . rw [if_neg c,ih]
    by_cases q:j<m/\rd row (j:Int)=1
    . rw [if_pos q,if_pos ⟨by omega,q.2⟩]
    . rw [if_neg q,if_neg (fun z=>by
       rcases Nat.lt_or_ge j m with h|h
       . exact q ⟨h,z.2⟩
       . have:j=m:=by omega
         subst this
         exact c z.2)]
theorem MN (ps:List Ai) (rows:List (List Int)) (hn:rows.length<=1000000) (H1:∀ t:Nat,t<rows.length->GD ps (rowAt rows t)=true)
 (H2:∀ t i j s:Nat,t<rows.length->i<ps.length->j<ps.length->Ex rows t i=true->Mi ps i j=true->s<t->rd (rowAt rows s) (j:Int)=1->JL (AA ps (j:Int))<(t:Int)-s) :
 ∀ d t (last:List Int),t+d=rows.length->last.length=ps.length->(∀ j:Nat,j<ps.length->rd last (j:Int)=-1\/∃ s:Nat,s<t/\rd last (j:Int)=s/\rd (rowAt rows s) (j:Int)=1)->Mo ps rows d t last=true
 | 0,_,_,_,_,_=>rfl
 | d+1,t,last,ht,hl,hlast=>by
  rw [Mo,H1 t oM,Bool.true_and,Bool.and_eq_true]
  constructor
  . refine List.all_eq_true.2 (fun i hi=>?_)
    have hi:=List.mem_range.1 hi
    unfold N2
    by_cases hs:Ex rows t i=true
    . rw [hs,Bool.not_true,Bool.false_or]
      refine List.all_eq_true.2 (fun j hj=>decide_eq_true (fun hc h0=>?_))
      have hj:=List.mem_range.1 hj
      rcases hlast j hj with e|⟨s,hst,e,hg⟩
      . omega
      . have:=H2 t i j s oM hi hj hs hc hst hg
        rw [e,Gn oM oM]
        unfold JL at this
        omega
    . rw [Bool.eq_false_iff.mpr hs]
      rfl
  . refine MN ps rows hn H1 H2 d (t+1) _ oM (by rw [F7];exact hl) (fun j hj=>?_)
    rw [P6 _ _ _ _ _ oM]
    by_cases c:j<ps.length/\rd (rowAt rows (t:Int)) (j:Int)=1
    . rw [if_pos c]
      exact .inr ⟨t,by omega,rfl,c.2⟩
    . rw [if_neg c]
      rcases hlast j hj with e|⟨s,hst,e,hg⟩
      . exact .inl e
      . exact .inr ⟨s,by omega,e,hg⟩
theorem Mm {α:Type} (f:Int->α->Int) (hf:∀ b a,b<=f b a):∀ (l:List α) (b:Int),b<=l.foldl f b
 | [],b=>Int.le_refl b
 | x::r,b=>Int.le_trans (hf b x) (Mm f hf r (f b x))
theorem Iq {α:Type} (f:Int->α->Int) (hf:∀ b a,b<=f b a) (v:Int) (a:α) (ha:∀ b,v<=f b a):∀ (l:List α) (b:Int),a ∈ l->v<=l.foldl f b
 | x::r,b,h=>by
  rcases List.mem_cons.1 h with e|e
  . subst e
    exact Int.le_trans (ha b) (Mm f hf r (f b a))
  . exact Iq f hf v a ha r (f b x) e
theorem Mh {a b:List Int} {n:Int} (h:n ∈ a) (h2:n ∉ b):n ∈ DA a b:=by
 unfold DA
 simp [h,h2]
theorem LH {l:List Ai} {a b:List Int} {i j:Int} (ha:together l a=true) (hb:together l b=true) (hj:j ∈ a) (hj2:j ∉ b) (hi:i ∈ b) (hi2:i ∉ a) (hc:Hs (AA l (fp l j)) (AA l (fp l i))=true):JL (AA l (fp l j))<=D9 l a b:=by
 have m1:∀ (x n k:Int),n<=FV l x n k:=by
  intro x n k
  unfold FV mx
  split
  . split <;> omega
  . omega
 unfold D9
 rw [if_pos ⟨ha,hb⟩]
 refine Iq _ (fun n x=>Mm _ (m1 x) _ n) _ j (fun n=>?_) _ _ (Mh hj hj2)
 refine Iq _ (m1 j) _ i (fun n=>?_) _ _ (Mh hi hi2)
 unfold FV mx
 rw [if_pos hc]
 split <;> omega
theorem Mx {L:Nat->Int}:∀ (d i:Nat) (s:Int),(∀ q,i<=q->q<i+d->1<=L q)->0<=s->s+1<DO L d i ->
 ((D1 L d i s).2+1<L (D1 L d i s).1/\D1 L d i (s+1)=((D1 L d i s).1,(D1 L d i s).2+1))\/((D1 L d i s).2+1=L (D1 L d i s).1/\D1 L d i (s+1)=((D1 L d i s).1+1,0))
 | 0,_,_,_,h0,h1=>by simp only [DO] at h1;omega
 | d+1,i,s,hL,h0,h1=>by
  simp only [DO] at h1
  simp only [D1]
  have hLi:=hL i oM oM
  by_cases c:s+1<L i
  . rw [if_pos c,if_pos oM]
    exact .inl ⟨c,rfl⟩
  . rw [if_neg c]
    by_cases c2:s<L i
    . rw [if_pos c2]
      have e:s+1-L i=0:=by omega
      rw [e]
      right
      refine ⟨by show s+1=L i;omega,?_⟩
      cases d with
      | zero=>rfl
      | succ d =>
       simp only [D1]
       rw [if_pos (by have:=hL (i+1) oM oM;omega)]
    . rw [if_neg c2]
      have e:s+1-L i=(s-L i)+1:=by omega
      rw [e]
      exact Mx d (i+1) (s-L i) (fun q h1 h2=>hL q oM oM) oM oM
theorem Nt {L:Nat->Int}:∀ (d i:Nat),(∀ q,i<=q->q<i+d->1<=L q)->1<=d->D1 L d i (DO L d i-1)=(i+d-1,L (i+d-1)-1)
 | 0,_,_,h=>by omega
 | 1,i,hL,_=>by
  have e:DO L 1 i=L i:=by simp [DO]
  rw [e,D1,if_pos oM]
  simp
 | d+2,i,hL,_=>by
  have ih:=Nt (L:=L) (d+1) (i+1) (fun q h1 h2=>hL q oM oM) oM
  have hs:1<=DO L (d+1) (i+1):=by
   have:∀ (d i:Nat),(∀ q,i<=q->q<i+d->1<=L q)->(d:Int)<=DO L d i:=by
    intro d
    induction d with
    | zero=>intro i _;simp [DO]
    | succ d ih=>intro i h;have:=ih (i+1) (fun q h1 h2=>h q oM oM);have:=h i oM oM;simp only [DO];omega
   have:=this (d+1) (i+1) (fun q h1 h2=>hL q oM oM)
   omega
  show D1 L (d+1+1) i (L i+DO L (d+1) (i+1)-1)=_
  rw [D1,if_neg oM,show L i+DO L (d+1) (i+1)-1-L i=DO L (d+1) (i+1)-1 by omega,ih,show i+1+(d+1)-1=i+(d+2)-1 by omega]
def at_ (l:List Ai) (p:List Ag) (T:Nat):Nat×Int:=Fi l p (JQ l p (T:Int))
theorem Jq (l:List Ai) (p:List Ag) (T:Nat) (h:1<=Dh l p):JQ l p (T:Int)=((T % (Dh l p).toNat:Nat):Int):=by
 unfold JQ
 have e:Dh l p=(((Dh l p).toNat:Nat):Int):=by omega
 generalize (Dh l p).toNat=C at e |-
 rw [e]
 exact (Int.ofNat_tmod T C).symm
theorem Hy {l:List Ai} {p:List Ag} (h:CV l p=true) (T:Nat):(at_ l p T).1<p.length/\0<=(at_ l p T).2/\(at_ l p T).2<CZ l p (at_ l p T).1:=by
 have hc:=FF h
 unfold at_
 rw [Jq l p T oM]
 refine My oM ?_
 have:=Nat.mod_lt T (show 0<(Dh l p).toNat by omega)
 omega
theorem OB {l:List Ai} {p:List Ag} (h:CV l p=true) (T:Nat) :
 ((at_ l p T).2+1<CZ l p (at_ l p T).1/\at_ l p (T+1)=((at_ l p T).1,(at_ l p T).2+1))\/((at_ l p T).2+1=CZ l p (at_ l p T).1/\at_ l p (T+1)=(Ns p (at_ l p T).1,0)):=by
 have hc:=FF h
 have hp:=CW h
 have hL:∀ q,0<=q->q<0+p.length->1<=CZ l p q:=fun q _ h2=>by have:=Cl h q oM;omega
 have hCp:0<(Dh l p).toNat:=by omega
 have e:Dh l p=(((Dh l p).toNat:Nat):Int):=by omega
 have hm:=Nat.mod_lt T hCp
 have sp:=Hy h T
 unfold at_ at sp |-
 rw [Jq l p T oM] at sp
 rw [Jq l p T oM,Jq l p (T+1) oM]
 by_cases c:T % (Dh l p).toNat+1<(Dh l p).toNat
 . have e2:(T+1) % (Dh l p).toNat=T % (Dh l p).toNat+1:=by rw [Nat.add_mod,Nat.mod_eq_of_lt (show 1<(Dh l p).toNat by omega),Nat.mod_eq_of_lt c]
   rw [e2]
   generalize T % (Dh l p).toNat=s at *
   have:=Mx (L:=CZ l p) p.length 0 (s:Int) hL oM (by show (s:Int)+1<Dh l p;omega)
   unfold Fi at sp |-
   rw [show ((s+1:Nat):Int)=(s:Int)+1 by omega]
   rcases this with q|q
   . exact .inl q
   . refine .inr ⟨q.1,?_⟩
     rw [q.2]
     have:(D1 (CZ l p) p.length 0 (s:Int)).1+1<p.length:=by
      have:=Ke (L:=CZ l p) p.length 0 ((s:Int)+1) oM (by show (s:Int)+1<Dh l p;omega)
      rw [q.2] at this
      simp at this
      omega
     unfold Ns
     rw [Nat.mod_eq_of_lt this]
 . have e1:T % (Dh l p).toNat=(Dh l p).toNat-1:=by omega
   have e2:(T+1) % (Dh l p).toNat=0:=by
    rw [Nat.add_mod,e1]
    rcases Nat.lt_or_ge 1 (Dh l p).toNat with q|q
    . rw [Nat.mod_eq_of_lt q,show (Dh l p).toNat-1+1=(Dh l p).toNat by omega,Nat.mod_self]
    . omega
   rw [e1,e2]
   have e3:(((Dh l p).toNat-1:Nat):Int)=DO (CZ l p) p.length 0-1:=by show _=Dh l p-1;omega
   have:=Nt (L:=CZ l p) p.length 0 hL hp.1.1
   unfold Fi
   rw [e3,this]
   right
   refine ⟨by show CZ l p (0+p.length-1)-1+1=CZ l p (0+p.length-1);omega,?_⟩
   have z:D1 (CZ l p) p.length 0 ((0:Nat):Int)=(0,0):=by
    cases hq:p.length with
    | zero=>omega
    | succ d =>
     simp only [D1]
     rw [if_pos (by have:=hL 0 oM oM;omega)]
     rfl
   rw [z]
   unfold Ns
   rw [show (0+p.length-1)+1=p.length by omega,Nat.mod_self]
theorem Rp {l:List Ai} {p:List Ag} (h:CV l p=true) (T:Nat) (m:Nat) (s:Int) (hs:0<=s) (e:at_ l p (T+1)=(m,s+1)):at_ l p T=(m,s):=by
 rcases OB h T with q|q
 . rw [q.2] at e
   have e1:=congrArg Prod.fst e
   have e2:=congrArg Prod.snd e
   simp only at e1 e2
   rw [<-e1,show s=(at_ l p T).2 by omega]
 . rw [q.2] at e
   have e2:=congrArg Prod.snd e
   simp only at e2
   omega
theorem Ob {l:List Ai} {p:List Ag} (h:CV l p=true) (m:Nat):∀ (u T:Nat) (s:Int),0<=s-u->u<=T->at_ l p T=(m,s)->at_ l p (T-u)=(m,s-u)
 | 0,T,s,_,_,e=>by simpa using e
 | u+1,T,s,h0,hu,e=>by
  have ih:=Ob h m u T s oM oM e
  obtain ⟨T2,rfl⟩:∃ T2,T=T2+(u+1):=⟨T-(u+1),by omega⟩
  rw [show T2+(u+1)-u=T2+1 by omega] at ih
  rw [show T2+(u+1)-(u+1)=T2 by omega]
  have:=Rp h T2 m (s-u-1) oM (by rw [ih,show s-u-1+1=s-u by omega])
  rw [this,show s-(u:Int)-1=s-((u+1:Nat):Int) by omega]
def IF (l:List Ai) (p:List Ag) (id:Int) (T:Nat):Prop:=EA l p id (at_ l p T)=1
theorem Is (l:List Ai) (p:List Ag) (id:Int) (T:Nat):IF l p id T↔id ∈ (AE p (at_ l p T).1).f0/\((at_ l p T).2<(AE p (at_ l p T).1).f1\/id ∈ (AE p (Ns p (at_ l p T).1)).f0):=by
 unfold IF EA
 split
 . rename_i h
   split
   . rename_i g
     exact ⟨fun _=>⟨h,g⟩,fun _=>rfl⟩
   . rename_i g
     constructor
     . intro e
       split at e <;> cases e
     . intro e
       exact absurd e.2 g
 . rename_i h
   exact ⟨fun e=>(by cases e),fun e=>absurd e.1 h⟩
theorem M1 {l:List Ai} {p:List Ag} (h:CV l p=true) {id:Int} {T:Nat} (g:IF l p id (T+1)) (n:¬ IF l p id T) :
 (at_ l p T).2+1=CZ l p (at_ l p T).1/\at_ l p (T+1)=(Ns p (at_ l p T).1,0)/\id ∉ (AE p (at_ l p T).1).f0/\id ∈ (AE p (Ns p (at_ l p T).1)).f0:=by
 rw [Is] at g n
 rcases OB h T with q|q
 . rw [q.2] at g
   simp only at g
   exfalso
   refine n ⟨g.1,?_⟩
   rcases g.2 with z|z
   . left;omega
   . exact .inr z
 . rw [q.2] at g
   simp only at g
   exact ⟨q.1,q.2,fun z=>n ⟨z,.inr g.1⟩,g.1⟩
theorem Iz {l:List Ai} {p:List Ag} (h:CV l p=true) {i j:Int} {T S:Nat} (g:IF l p i (T+1)) (n:¬ IF l p i T) (gj:IF l p j S) (hS:S<=T) (hc:Hs (AA l (fp l i)) (AA l (fp l j))=true):JL (AA l (fp l j))<(T:Int)+1-S:=by
 obtain ⟨q1,q2,q3,q4⟩:=M1 h g n
 have sp:=Hy h T
 have hr:=GP (AA l (fp l j))
 have hp:=(CW h).2
 generalize hm:(at_ l p T).1=m at *
 have hT:at_ l p T=(m,CZ l p m-1):=by rw [<-hm];rw [hm,<-q1,show (at_ l p T).2+1-1=(at_ l p T).2 by omega,<-hm]
 have hLm:=Cl h m sp.1
 by_cases Fe:(S:Int)+CZ l p m<(T:Int)+1
 . omega
 . have hb:=Ob h m (T-S) T (CZ l p m-1) oM oM hT
   rw [show T-(T-S)=S by omega] at hb
   rw [Is,hb] at gj
   simp only at gj
   have tm:=(hp m sp.1).2.2
   have tn:=(hp (Ns p m) (LQ p m sp.1)).2.2
   have hjn:j ∉ (AE p (Ns p m)).f0:=fun z=>by rw [Fm tn q4 z] at hc;cases hc
   have hge:=LH tm tn gj.1 hjn q4 q3 (by rw [IN];exact hc)
   rcases gj.2 with z|z
   . have eL:CZ l p m=(AE p m).f1+D9 l (AE p m).f0 (AE p (Ns p m)).f0:=rfl
     omega
   . exact absurd z hjn
theorem OI (l:List Ai) (p:List Ag) (id:Int) (r:Nat×Int):0<=EA l p id r/\EA l p id r<=2:=by
 unfold EA
 split
 . split
   . omega
   . split <;> omega
 . omega
theorem Dk (l:List Ai) (p:List Ag) (T:Nat) (i:Nat) (hi:i<l.length):rd (Cp l p (T:Int)) (i:Int)=EA l p (AA l (i:Int)).f0 (at_ l p T):=by
 rw [D2 _ _ (by rw [Hf];exact hi)]
 have e:AA l (i:Int)=l[i]:=by simp [AA,hi]
 rw [e]
 simp [Cp,at_]
theorem Jg {l:List Ai} {p:List Ag} (h:CV l p=true) (T:Nat):GD l (Cp l p (T:Int))=true:=by
 have sp:=Hy h T
 have tg:=((CW h).2 _ sp.1).2.2
 have ap:=D5 tg
 rw [Ix]
 refine ⟨ap,Hf l p _,List.all_eq_true.2 (fun i hi=>?_)⟩
 have hi:=List.mem_range.1 hi
 have hr:=OI l p (AA l (i:Int)).f0 (at_ l p T)
 simp only [Iv,Bool.and_eq_true,decide_eq_true_eq]
 refine ⟨by rw [Dk l p T i hi];exact hr,List.all_eq_true.2 (fun j hj=>?_)⟩
 have hj:=List.mem_range.1 hj
 refine decide_eq_true ?_
 rw [Dk l p T i hi,Dk l p T j oM]
 have zero:∀ id,id ∉ (AE p (at_ l p T).1).f0->EA l p id (at_ l p T)=0:=fun id h=>by unfold EA;rw [if_neg h]
 by_cases c1:(AA l (i:Int)).f0 ∈ (AE p (at_ l p T).1).f0
 . by_cases c2:(AA l (j:Int)).f0 ∈ (AE p (at_ l p T).1).f0
   . right;right
     have:=Fm tg c1 c2
     rwa [GB ap i hi,GB ap j oM] at this
   . exact .inr (.inl (zero _ c2))
 . exact .inl (zero _ c1)
theorem QX {l:List Ai} {p:List Ag} (h:CV l p=true) (a n:Nat) (hn:n<=1000000):Mo l ((List.range n).map fun (s:Nat)=>Cp l p ((a+s:Nat):Int)) ((List.range n).map fun (s:Nat)=>Cp l p ((a+s:Nat):Int)).length 0 (List.replicate l.length (-1))=true:=by
 have hlen:((List.range n).map fun (s:Nat)=>Cp l p ((a+s:Nat):Int)).length=n:=by simp
 have hrow:∀ t:Nat,t<n->rowAt ((List.range n).map fun (s:Nat)=>Cp l p ((a+s:Nat):Int)) (t:Int)=Cp l p ((a+t:Nat):Int):=by
  intro t ht
  simp [rowAt,At,ht]
 generalize hR:((List.range n).map fun (s:Nat)=>Cp l p ((a+s:Nat):Int))=R at *
 refine MN l R oM (fun t ht=>by rw [hrow t oM];exact Jg h _) (fun t i j s ht hi hj hst hc hs hg=>?_) _ 0 _ oM sM (fun j hj=>.inl (by simp [rd,hj]))
 have ap:=D5 ((CW h).2 _ (Hy h 0).1).2.2
 obtain ⟨u,rfl⟩:∃ u,t=u+1:=⟨t-1,by omega⟩
 simp only [Ex,decide_eq_true_eq] at hst
 rw [hrow _ oM,show (((u+1:Nat):Int))-1=((u:Nat):Int) by omega,hrow _ oM,Dk l p _ i hi,Dk l p _ i hi] at hst
 rw [hrow _ oM,Dk l p _ j hj] at hg
 have:=Iz (T:=a+u) (S:=a+s) h hst.1 (fun q=>hst.2 ⟨by omega,q⟩) hg oM (by rw [GB ap i hi,GB ap j hj];exact hc)
 rw [GB ap j hj] at this
 omega
theorem O3 {l:List Ai} {p q:List Ag} (h:CV l p=true) (hq:CV l q=true) (a n m:Nat) (hn:n+m<=1000000) (h0:(at_ l p (a+n)).2=0) (he:(AE p (at_ l p (a+n)).1).f0=(AE q 0).f0) :
 Mo l (((List.range n).map fun (s:Nat)=>Cp l p ((a+s:Nat):Int))++((List.range m).map fun (s:Nat)=>Cp l q ((s:Nat):Int))) (((List.range n).map fun (s:Nat)=>Cp l p ((a+s:Nat):Int))++((List.range m).map fun (s:Nat)=>Cp l q ((s:Nat):Int))).length 0 (List.replicate l.length (-1))=true:=by
 have hlen:(((List.range n).map fun (s:Nat)=>Cp l p ((a+s:Nat):Int))++((List.range m).map fun (s:Nat)=>Cp l q ((s:Nat):Int))).length=n+m:=by simp
 have hrow:∀ t:Nat,t<n->rowAt (((List.range n).map fun (s:Nat)=>Cp l p ((a+s:Nat):Int))++((List.range m).map fun (s:Nat)=>Cp l q ((s:Nat):Int))) (t:Int)=Cp l p ((a+t:Nat):Int):=by
  intro t ht
  simp [rowAt,At,List.getElem?_append,ht]
 have hrow2:∀ t:Nat,t<m->rowAt (((List.range n).map fun (s:Nat)=>Cp l p ((a+s:Nat):Int))++((List.range m).map fun (s:Nat)=>Cp l q ((s:Nat):Int))) ((n+t:Nat):Int)=Cp l q ((t:Nat):Int):=by
  intro t ht
  simp only [rowAt,At,Int.toNat_natCast,List.getD_eq_getElem?_getD]
  rw [List.getElem?_append_right sM]
  simp [ht]
 generalize hR:(((List.range n).map fun (s:Nat)=>Cp l p ((a+s:Nat):Int))++((List.range m).map fun (s:Nat)=>Cp l q ((s:Nat):Int)))=R at *
 have ap:=D5 ((CW h).2 _ (Hy h 0).1).2.2
 have hq0:at_ l q 0=(0,0):=by
  unfold at_
  rw [Jq l q 0 (by have:=FF hq;omega)]
  rw [Nat.zero_mod]
  unfold Fi
  cases hz:q.length with
  | zero=>have:=(CW hq).1;omega
  | succ d =>
   simp only [D1]
   rw [if_pos (by have:=Cl hq 0 oM;omega)]
   rfl
 refine MN l R oM (fun t ht=>?_) (fun t i j s ht hi hj hst hc hs hg=>?_) _ 0 _ oM sM (fun j hj=>.inl (by simp [rd,hj]))
 . rcases Nat.lt_or_ge t n with c|c
   . rw [hrow t c];exact Jg h _
   . obtain ⟨u,rfl⟩:=Nat.exists_eq_add_of_le c
     rw [hrow2 u oM];exact Jg hq _
 . obtain ⟨u,rfl⟩:∃ u,t=u+1:=⟨t-1,by omega⟩
   simp only [Ex,decide_eq_true_eq] at hst
   rw [show (((u+1:Nat):Int))-1=((u:Nat):Int) by omega] at hst
   have hcl:=GP (AA l (j:Int))
   rcases Nat.lt_or_ge (u+1) n with c|c
   . rw [hrow _ c,hrow _ oM,Dk l p _ i hi,Dk l p _ i hi] at hst
     rw [hrow _ oM,Dk l p _ j hj] at hg
     have:=Iz (T:=a+u) (S:=a+s) h hst.1 (fun z=>hst.2 ⟨by omega,z⟩) hg oM (by rw [GB ap i hi,GB ap j hj];exact hc)
     rw [GB ap j hj] at this
     omega
   . obtain ⟨v,hv⟩:=Nat.exists_eq_add_of_le c
     rw [hv,hrow2 v oM,Dk l q _ i hi] at hst
     rcases Nat.eq_zero_or_pos v with v0|v0
     . subst v0
       rw [hrow u oM,Dk l p _ i hi] at hst
       rw [hrow s oM,Dk l p _ j hj] at hg
       have g1:IF l p (AA l (i:Int)).f0 (a+u+1):=by
        rw [Is,show a+u+1=a+n by omega]
        have g0:IF l q (AA l (i:Int)).f0 0:=hst.1
        rw [Is,hq0] at g0
        rw [he]
        refine ⟨g0.1,.inl ?_⟩
        have:=(CW h).2 _ (Hy h (a+n)).1
        omega
       have:=Iz (T:=a+u) (S:=a+s) h g1 (fun z=>hst.2 ⟨by omega,z⟩) hg oM (by rw [GB ap i hi,GB ap j hj];exact hc)
       rw [GB ap j hj] at this
       omega
     . obtain ⟨v',rfl⟩:∃ v',v=v'+1:=⟨v-1,by omega⟩
       have hu:u=n+v':=by omega
       rw [hu,hrow2 v' oM,Dk l q _ i hi] at hst
       have gn:¬ IF l q (AA l (i:Int)).f0 v':=fun z=>hst.2 ⟨by omega,z⟩
       rcases Nat.lt_or_ge s n with sc|sc
       . have ps:=M1 hq hst.1 gn
         have Fe:(4:Int)<=v':=by
          have hsp:=Hy hq v'
          have hL:=Cl hq _ hsp.1
          have key:∀ x:Nat,(at_ l q x).2<=x:=by
           intro x
           induction x with
           | zero=>rw [hq0];exact Int.le_refl _
           | succ x ih =>
            rcases OB hq x with z|z
            . rw [z.2];show _<=((x+1:Nat):Int);simp only;omega
            . rw [z.2];show (0:Int)<=((x+1:Nat):Int);omega
          have:=key v'
          omega
         omega
       . obtain ⟨s',rfl⟩:=Nat.exists_eq_add_of_le sc
         rw [hrow2 s' oM,Dk l q _ j hj] at hg
         have:=Iz (T:=v') (S:=s') hq hst.1 gn hg oM (by rw [GB ap i hi,GB ap j hj];exact hc)
         rw [GB ap j hj] at this
         omega
inductive J7 (l:List Ai):List Int->Int->List Int->Int->List Int->Int->List Int->Int->Prop
 | wait {s:List Int} {a a':Int} {b:Int} (h:a'<=a+1):J7 l s a [] b s a' [] b
 | count {s n:List Int} {a b:Int} (h:2<=b):J7 l s a n b s a n (b-1)
 | change {s n:List Int} {a:Int} (h:n≠[]) (ht:together l n=true):J7 l s a n 1 n 0 [] 0
 | ask {s st:List Int} {a b:Int} (h5:5<=a) (hs:together l s=true) (ht:together l st=true):J7 l s a [] b s a st (D9 l s st)
 | now_ {s st:List Int} {a b:Int} (h5:5<=a) (hs:together l s=true) (ht:together l st=true) (h0:D9 l s st=0):J7 l s a [] b st 0 [] 0
theorem Qb {l:List Ai} {s:List Int} {a:Int} {n:List Int} {b:Int} (h:Bn l s a n b=true):J7 l s a n b (Ea l s a n b).1 (Ea l s a n b).2.1 (Ea l s a n b).2.2.1 (Ea l s a n b).2.2.2:=by
 have hc:=(EJ l s a n b).1 h
 have hb:=HY h
 unfold Ea
 rw [if_pos h]
 by_cases h0:n.length=0
 . rw [if_pos h0]
   obtain rfl:=List.eq_nil_of_length_eq_zero h0
   refine J7.wait ?_
   show mn 1000000 (a+1)<=a+1
   unfold mn
   split <;> omega
 . rw [if_neg h0]
   have b1:=hb.2.2.2 h0
   by_cases e:b-1=0
   . rw [if_pos e]
     obtain rfl:b=1:=by omega
     exact J7.change (fun q=>h0 (by rw [q];rfl)) hc.2.2.1
   . rw [if_neg e]
     exact J7.count oM
theorem PJ {l:List Ai} {s:List Int} {a:Int} {n:List Int} {b:Int} (w:List CR) (h:Bn l s a n b=true):J7 l s a n b (EC l s a n b w).1 (EC l s a n b w).2.1 (EC l s a n b w).2.2.1 (EC l s a n b w).2.2.2:=by
 have hc:=(EJ l s a n b).1 h
 unfold EC
 split
 . rename_i hm
   simp only [Om,Bool.and_eq_true] at hm
   have he:=hm.1
   simp only [HU,Bool.and_eq_true,decide_eq_true_eq] at he
   obtain rfl:=List.eq_nil_of_length_eq_zero he.2.1
   have h5:5<=a:=by have:=Ku l s;omega
   generalize Hg l s a [] b w=st
   unfold Gs
   split
   . rename_i q
     split
     . rename_i z
       exact J7.now_ h5 hc.2.1 q.2.2.1 z
     . exact J7.ask h5 hc.2.1 q.2.2.1
   . exact J7.wait (by dsimp only;omega)
 . exact Qb h
def OH (s n:List Int) (id:Int):Prop:=id ∈ s/\(n≠[]->id ∈ n)
theorem He (s n:List Int) (id:Int):Fh s n id=1↔OH s n id:=by
 have hn:n.length>0↔n≠[]:=by cases n <;> simp
 unfold Fh OH
 by_cases h1:id ∈ s
 . rw [if_pos h1]
   by_cases h2:n.length>0
   . rw [if_pos h2]
     by_cases h3:id ∈ n
     . rw [if_pos h3];exact ⟨fun _=>⟨h1,fun _=>h3⟩,fun _=>rfl⟩
     . rw [if_neg h3];exact ⟨fun e=>(by cases e),fun e=>absurd (e.2 (hn.1 h2)) h3⟩
   . rw [if_neg h2];exact ⟨fun _=>⟨h1,fun e=>absurd (hn.2 e) h2⟩,fun _=>rfl⟩
 . rw [if_neg h1];exact ⟨fun e=>(by cases e),fun e=>absurd e.1 h1⟩
def since (l:List Ai) (j:Int) (s0 t:Nat) (s:List Int) (a:Int) (n:List Int) (b:Int):Prop:=
 (j ∈ s->j ∉ n->∀ i,i ∈ n->i ∉ s->Hs (AA l (fp l i)) (AA l (fp l j))=true->(s0:Int)+JL (AA l (fp l j))<t+b) /\
 (j ∉ s->((s0:Int)+a+1<=t\/(s0:Int)+6<=t)/\(n≠[]->(s0:Int)+6<=t))
theorem Ph {l:List Ai} {j:Int} {s0 t:Nat} {s:List Int} {a:Int} {n:List Int} {b:Int} {s':List Int} {a':Int} {n':List Int} {b':Int} (hst:s0<=t) (h:since l j s0 t s a n b) (ht:J7 l s a n b s' a' n' b'):since l j s0 (t+1) s' a' n' b':=by
 cases ht with
 | wait q=>exact ⟨fun _ _ i hi=>absurd hi sM,fun hj=>⟨by have:=(h.2 hj).1;omega,fun e=>absurd rfl e⟩⟩
 | count q=>exact ⟨fun h1 h2 i h3 h4 h5=>by have:=h.1 h1 h2 i h3 h4 h5;omega,fun hj=>⟨by have:=(h.2 hj).1;omega,fun e=>by have:=(h.2 hj).2 e;omega⟩⟩
 | change q _=>exact ⟨fun _ _ i hi=>absurd hi sM,fun hj=>⟨by omega,fun e=>absurd rfl e⟩⟩
 | ask h5 hs hn=>exact ⟨fun h1 h2 i h3 h4 hc=>by have:=LH hs hn h1 h2 h3 h4 (by rw [IN];exact hc);omega,fun hj=>⟨by have:=(h.2 hj).1;omega,fun _=>by have:=(h.2 hj).1;omega⟩⟩
 | now_ h5 hs hn h0=>exact ⟨fun _ _ i hi=>absurd hi sM,fun hj=>⟨by omega,fun e=>absurd rfl e⟩⟩
theorem O1 {l:List Ai} {i j:Int} {s0 t:Nat} {s:List Int} {a:Int} {n:List Int} {b:Int} {s':List Int} {a':Int} {n':List Int} {b':Int} (h:since l j s0 t s a n b) (ht:J7 l s a n b s' a' n' b') (g:OH s' n' i) (ng:¬ OH s n i)
 (hc:Hs (AA l (fp l i)) (AA l (fp l j))=true):JL (AA l (fp l j))<(t:Int)+1-s0:=by
 have hr:=GP (AA l (fp l j))
 cases ht with
 | wait q=>exact absurd g ng
 | count q=>exact absurd g ng
 | change q hn =>
  have i1:i ∉ s:=fun z=>ng ⟨z,fun _=>g.1⟩
  have j1:j ∉ n:=fun z=>by rw [Fm hn g.1 z] at hc;cases hc
  by_cases js:j ∈ s
  . have:=h.1 js j1 i g.1 i1 hc
    omega
  . have:=(h.2 js).2 q
    omega
 | ask h5 hs hn=>exact absurd ⟨g.1,fun e=>absurd rfl e⟩ ng
 | now_ h5 hs hn h0 =>
  have i1:i ∉ s:=fun z=>ng ⟨z,fun e=>absurd rfl e⟩
  have j1:j ∉ s':=fun z=>by rw [Fm hn g.1 z] at hc;cases hc
  by_cases js:j ∈ s
  . have:=LH hs hn js j1 g.1 i1 (by rw [IN];exact hc)
    have:=Q7 (by rw [IN];exact hc:Hs (AA l (fp l j)) (AA l (fp l i))=true)
    omega
  . have:=(h.2 js).1
    omega
abbrev Pm:=List Int×Int×List Int×Int×List CR
def stepT (l:List Ai) (c:List Gh) (t:Int) (x:Pm):Pm:=Hq l x.1 x.2.1 x.2.2.1 x.2.2.2.1 (GZ l x.2.2.2.2 c t c.length)
def O2 (l:List Ai) (c:List Gh):Nat->Int->Pm->Pm
 | 0,_,x=>x
 | k+1,t,x=>O2 l c k (t+1) (stepT l c t x)
theorem K4 (l:List Ai) (c:List Gh):∀ (k:Nat) (t:Int) (x:Pm),O2 l c (k+1) t x=stepT l c (t+k) (O2 l c k t x)
 | 0,t,x=>by simp [O2]
 | k+1,t,x=>by
  rw [O2,K4 l c k (t+1) (stepT l c t x),show t+1+(k:Int)=t+((k+1:Nat):Int) by omega]
  rfl
def GF (l:List Ai) (x:Pm):List Int:=FL l x.1 x.2.1 x.2.2.1 x.2.2.2.1
theorem Oa (l:List Ai) (c:List Gh):∀ (d:Nat) (t:Int) (out:List (List Int)) (x:Pm),Nk l c d t out x.1 x.2.1 x.2.2.1 x.2.2.2.1 x.2.2.2.2=out++(List.range d).map fun k=>GF l (O2 l c k t x)
 | 0,t,out,x=>by simp [Nk]
 | d+1,t,out,x=>by
  have ih:=Oa l c d (t+1) (out++[FL l x.1 x.2.1 x.2.2.1 x.2.2.2.1]) (stepT l c t x)
  simp only [Nk]
  refine Eq.trans ih ?_
  rw [List.range_succ_eq_map,List.map_cons,List.map_map,List.append_assoc]
  rfl
def Mn (l:List Ai) (x:Pm):Prop:=Bn l x.1 x.2.1 x.2.2.1 x.2.2.2.1=true/\C7 l x.2.2.2.2=true
theorem Ld {l:List Ai} {c:List Gh} {t:Int} {x:Pm} (h:Mn l x):Mn l (stepT l c t x)/\J7 l x.1 x.2.1 x.2.2.1 x.2.2.2.1 (stepT l c t x).1 (stepT l c t x).2.1 (stepT l c t x).2.2.1 (stepT l c t x).2.2.2.1:=by
 have hw:=IE l x.2.2.2.2 c t h.2 c.length
 unfold stepT Hq
 rw [if_pos ⟨h.1,hw⟩]
 exact ⟨⟨JX _ h.1,K8 l _ _ hw⟩,PJ _ h.1⟩
theorem Hp {l:List Ai} {c:List Gh} {t:Int} {x:Pm} (h:Mn l x):∀ k,Mn l (O2 l c k t x)
 | 0=>h
 | k+1=>by rw [K4];exact (Ld (Hp h k)).1
theorem GR {l:List Ai} {x:Pm} (h:Mn l x) (i:Nat) (hi:i<l.length):rd (GF l x) (i:Int)=Fh x.1 x.2.2.1 (AA l (i:Int)).f0:=by
 unfold GF FL
 rw [if_pos h.1]
 have:∀ m,i<m->m<=l.length->rd (E2 l x.1 x.2.2.1 m) (i:Int)=Fh x.1 x.2.2.1 (AA l (i:Int)).f0:=by
  intro m
  induction m with
  | zero=>intro h;omega
  | succ m ih =>
   intro h1 h2
   rw [E2]
   have hl:=Iw l x.1 x.2.2.1 m
   rcases Nat.lt_or_ge i m with q|q
   . rw [<-ih q oM]
     simp [rd,List.getElem?_append,hl,q]
   . obtain rfl:i=m:=by omega
     simp [rd,List.getElem?_append,hl]
 exact this l.length hi (Nat.le_refl _)
theorem Mu {l:List Ai} {x:Pm} (h:Mn l x):GD l (GF l x)=true:=by
 have hc:=(EJ _ _ _ _ _).1 h.1
 have ap:=D5 hc.2.1
 rw [Ix]
 refine ⟨ap,by unfold GF FL;rw [if_pos h.1,Iw],List.all_eq_true.2 (fun i hi=>?_)⟩
 have hi:=List.mem_range.1 hi
 simp only [Iv,Bool.and_eq_true,decide_eq_true_eq]
 refine ⟨?_,List.all_eq_true.2 (fun j hj=>decide_eq_true ?_)⟩
 . rw [GR h i hi]
   unfold Fh
   split
   . split
     . split <;> omega
     . omega
   . omega
 . have hj:=List.mem_range.1 hj
   rw [GR h i hi,GR h j oM]
   have zero:∀ id,id ∉ x.1->Fh x.1 x.2.2.1 id=0:=fun id h=>by unfold Fh;rw [if_neg h]
   by_cases c1:(AA l (i:Int)).f0 ∈ x.1
   . by_cases c2:(AA l (j:Int)).f0 ∈ x.1
     . right;right
       have:=Fm hc.2.1 c1 c2
       rwa [GB ap i hi,GB ap j oM] at this
     . exact .inr (.inl (zero _ c2))
   . exact .inl (zero _ c1)
theorem Q1 {l:List Ai} {c:List Gh} {x:Pm} (h:Mn l x) (m:Nat) (hm:m<=1000000) :
 Mo l ((List.range m).map fun k=>GF l (O2 l c k 0 x)) ((List.range m).map fun k=>GF l (O2 l c k 0 x)).length 0 (List.replicate l.length (-1))=true:=by
 have hlen:((List.range m).map fun k=>GF l (O2 l c k 0 x)).length=m:=by simp
 have hrow:∀ t:Nat,t<m->rowAt ((List.range m).map fun k=>GF l (O2 l c k 0 x)) (t:Int)=GF l (O2 l c t 0 x):=by
  intro t ht
  simp [rowAt,At,ht]
 generalize hR:((List.range m).map fun k=>GF l (O2 l c k 0 x))=R at *
 have ap:=Ga h.1
 refine MN l R oM (fun t ht=>by rw [hrow t oM];exact Mu (Hp h t)) (fun t i j s ht hi hj hst hc hs hg=>?_) _ 0 _ oM sM (fun j hj=>.inl (by simp [rd,hj]))
 obtain ⟨u,rfl⟩:∃ u,t=u+1:=⟨t-1,by omega⟩
 simp only [Ex,decide_eq_true_eq] at hst
 rw [hrow _ oM,show (((u+1:Nat):Int))-1=((u:Nat):Int) by omega,hrow _ oM,GR (Hp h _) i hi,GR (Hp h _) i hi,He,He] at hst
 rw [hrow _ oM,GR (Hp h _) j hj,He] at hg
 have inv:∀ v,since l (AA l (j:Int)).f0 s (s+v) (O2 l c (s+v) 0 x).1 (O2 l c (s+v) 0 x).2.1 (O2 l c (s+v) 0 x).2.2.1 (O2 l c (s+v) 0 x).2.2.2.1:=by
  intro v
  induction v with
  | zero=>exact ⟨fun _ h2 i hi=>absurd (hg.2 (fun e=>by rw [show s+0=s from rfl] at hi;rw [e] at hi;cases hi)) h2,fun h1=>absurd hg.1 h1⟩
  | succ v ih =>
   have:=(Ld (c:=c) (t:=(0:Int)+((s+v:Nat):Int)) (Hp (c:=c) (t:=0) h (s+v))).2
   rw [<-K4] at this
   exact Ph (Nat.le_add_right _ _) ih this
 have hu:=inv (u-s)
 rw [show s+(u-s)=u by omega] at hu
 have tr:=(Ld (c:=c) (t:=(0:Int)+((u:Nat):Int)) (Hp (c:=c) (t:=0) h u)).2
 rw [<-K4] at tr
 have:=O1 hu tr hst.1 (fun q=>hst.2 ⟨by omega,q⟩) (by rw [GB ap i hi,GB ap j hj];exact hc)
 rw [GB ap j hj] at this
 omega
theorem L7 (l:List Ai) (s:List Int) (a:Int) (n:List Int) (b:Int) (w:List CR) (c:List Gh) (q:Int):(Dn l s a n b w c q=[])\/(((Dn l s a n b w c q).length:Int)=q/\Cr l=true/\Mo l (Dn l s a n b w c q) (Dn l s a n b w c q).length 0 (List.replicate l.length (-1))=true):=by
 unfold Dn
 split
 . rename_i h
   right
   have e:=Oa l c q.toNat 0 [] ((s,a,n,b,w):Pm)
   simp only [List.nil_append] at e
   rw [e]
   refine ⟨by simp;omega,Ga h.1,?_⟩
   exact Q1 (x:=(s,a,n,b,w)) ⟨h.1,h.2.1⟩ _ oM
 . exact .inl rfl
theorem JC (h:List (List Int)) (i:Int):∀ j,-1<=Ej h i j/\Ej h i j<(j:Int)
 | 0=>by simp [Ej]
 | j+1=>by
  have:=JC h i j
  rw [Ej]
  split <;> omega
theorem M3 (h:List (List Int)) (i:Int):∀ j,Gf h i j<=(j:Int)
 | 0=>by simp [Gf]
 | j+1=>by
  have:=M3 h i j
  have:=K0 h i (j+1)
  rw [Gf]
  unfold mx
  split <;> omega
theorem Ly (h:List (List Int)) (i:Int):∀ j,Ej h i j<0->Gf h i j=(j:Int)/\Fc h i j=(j:Int)
 | 0,_=>by simp [Gf,Fc]
 | j+1,hg=>by
  rw [Ej] at hg
  split at hg
  . omega
  . rename_i c
    obtain ⟨h1,h2⟩:=Ly h i j hg
    have h3:Fc h i (j+1)=((j+1:Nat):Int):=by rw [M4 c,h2];omega
    refine ⟨?_,h3⟩
    rw [Gf,h1,h3]
    unfold mx
    split <;> omega
theorem Jj {l:List Ai} {p:List Ag} (h:CV l p=true) (a n:Nat) (ha:a<=100000) (hn:n<=600):DW l p a n=(List.range n).map fun (s:Nat)=>Cp l p ((a+s:Nat):Int):=by
 unfold DW
 rw [if_pos ⟨h,by omega,by omega⟩,Int.toNat_natCast]
 rfl
theorem M0 {l:List Ai} {p:List Ag} (h:CV l p=true):Cr l=true:=D5 ((CW h).2 _ (Hy h 0).1).2.2
theorem NT (l:List Ai) (p:List Ag) (a n:Int):DW l p a n=[]\/(((DW l p a n).length:Int)=n/\Gm l (DW l p a n)=true):=by
 by_cases c:CV l p=true/\(0<=a/\a<=100000)/\(0<=n/\n<=600)
 . obtain ⟨h,ha,hn⟩:=c
   obtain ⟨a,rfl⟩:=Int.eq_ofNat_of_zero_le ha.1
   obtain ⟨n,rfl⟩:=Int.eq_ofNat_of_zero_le hn.1
   right
   have e:=Jj h a n oM oM
   rw [e]
   refine ⟨by simp,?_⟩
   unfold Gm
   rw [QX h a n oM,M0 h]
   rfl
 . left
   unfold DW
   rw [if_neg c]
theorem O4 {l:List Ai} {p q:List Ag} (h:CV l p=true) (hq:CV l q=true) (t:Nat) (h20:20<=t) (ht:t<=1000) (i:Nat) (hi:i<p.length) (he:(AE p (i:Int)).f0=(AE q 0).f0) (hm:Int.tmod (t:Int) (Dh l p)=DO (CZ l p) i 0) :
 Gm l (DW l p ((t:Int)-20) 20++DW l q 0 60)=true:=by
 have e1:=Jj h (t-20) 20 oM oM
 have e2:=Jj hq 0 60 oM oM
 rw [show (((t-20:Nat)):Int)=(t:Int)-20 by omega] at e1
 simp only [Nat.zero_add] at e2
 have ea:at_ l p (t-20+20)=(i,0):=by
  rw [show t-20+20=t by omega]
  unfold at_ Fi JQ
  rw [hm,Ls i p.length 0 (fun q _ hq=>by have:=Cl h q oM;omega) hi,Nat.zero_add]
 have hs:=O3 h hq (t-20) 20 60 oM (by rw [ea]) (by rw [ea];exact he)
 have e1':DW l p ((t:Int)-20) 20=(List.range 20).map fun (s:Nat)=>Cp l p ((t-20+s:Nat):Int):=e1
 have e2':DW l q 0 60=(List.range 60).map fun (s:Nat)=>Cp l q ((s:Nat):Int):=e2
 rw [e1',e2']
 unfold Gm
 rw [hs,M0 h]
 rfl
theorem IL (d:List Int) (hd:d.length<=1048576):Ev (fun k=>An.j2 k d) true:=by
 obtain ⟨h,i,h1,hh⟩:=JR d hd
 have hr:=JC h i h.length
 have hW:=Ks h i oM
 refine shift ?_
 simp only [An.j2]
 refine Ev.bind h1 (Ev.bind (Kr h i oM) (pos hr.1 (pos hr.2 (Ev.bind hW (pos (M3 h i h.length) ?_)))))
 by_cases c:Ej h i h.length>=0
 . exact pos c (now rfl)
 . exact neg c (Ev.bind hW (now (beq_iff_eq.2 (Ly h i h.length oM).1)))
theorem Fx (d:List Int) (hd:d.length<=1048576):Ev (fun k=>An.j1 k d false) true:=by
 obtain ⟨l,p,r,h1,hl,hp,hr⟩:=Hu d hd
 have hp1:=hp.1
 have hr1:=hr.1
 have sp:∀ x ∈ p,x.f0.length<=1048576:=fun x hx=>by have:=hp.2 x hx;omega
 have sr:∀ x ∈ r,x.f0.length<=1048576:=fun x hx=>by have:=hr.2 x hx;omega
 obtain ⟨t,ht,hc⟩:=LM l p r oM oM sp oM sr
 refine shift ?_
 simp only [An.j1]
 refine neg sM (Ev.bind h1 (Ev.bind ht ?_))
 rcases hc with hc|⟨g1,g2,g3,g4,i,hi,he,hm⟩
 . exact neg oM (IL d hd)
 . obtain ⟨t,rfl⟩:=Int.eq_ofNat_of_zero_le (show 0<=t by omega)
   have hs:=O4 g1 g2 t oM oM i hi he hm
   have n1:=Fu l p ((t:Int)-20) 20
   have n2:=Fu l r 0 60
   refine pos oM ?_
   rw [Gn (x:=(t:Int)-20) oM oM]
   refine Ev.bind (Fb l p oM oM sp _ _) (Ev.bind (Fb l r oM oM sr _ _) (pos oM (Ev.bind (E8 l _ oM (by rw [List.length_append];omega)) (pos hs (IL d hd)))))
theorem Gp (d:List Int) (hd:d.length<=1048576):Ev (fun k=>An.j0 k d false) true:=by
 obtain ⟨l,x,a,n,b,w,c,q,h1,hl,hx,hw,hc⟩:=I4 d hd
 have hS:=L7 l x a n b w c q
 have hA:=KX l x a n b w c q oM oM oM oM oM
 have hq:(Dn l x a n b w c q).length<=600:=by
  rcases hS with h|⟨h,_⟩
  . rw [h];simp
  . unfold Dn at h |-
    split
    . rename_i g
      rw [if_pos g] at h
      omega
    . simp
 refine shift ?_
 simp only [An.j0]
 refine neg sM (Ev.bind h1 (Ev.bind hA ?_))
 rcases hS with h|⟨h2,h3,h4⟩
 . refine neg ?_ (Fx d hd)
   rw [h]
   simp
 . have hs:Gm l (Dn l x a n b w c q)=true:=by
    unfold Gm
    rw [h4,h3]
    rfl
   by_cases g:((Dn l x a n b w c q).length:Int)>0
   . refine pos g (pos h2 (Ev.bind (E8 l _ oM oM) ?_))
     rw [hs]
     exact Fx d hd
   . exact neg g (Fx d hd)
theorem FnHistories (d:List Int) (hw:S7 1 U8 d):∃ k,An.f k d=some true:=by
 refine Ev.rounds ?_
 unfold An.f
 refine Ah (Ol d) ?_
 by_cases hd:(d.length:Int)>1048576
 . exact pos (by simpa using hd) (now rfl)
 have hd:d.length<=1048576:=by omega
 obtain ⟨l,p,a,n,h1,hl,hp⟩:=Ib d hd
 have hp1:=hp.1
 have sp:∀ x ∈ p,x.f0.length<=1048576:=fun x hx=>by have:=hp.2 x hx;omega
 have hn:=Fu l p a n
 refine neg (by simp;omega) (Ev.bind h1 (Ev.bind (Fb l p oM oM sp a n) ?_))
 rcases NT l p a n with h|⟨h2,h3⟩
 . refine neg ?_ (Gp d hd)
   rw [h]
   simp
 . by_cases g:((DW l p a n).length:Int)>0
   . refine pos g (pos h2 (Ev.bind (E8 l _ oM oM) ?_))
     rw [h3]
     exact Gp d hd
   . exact neg g (Gp d hd)
end Go.Proofs.YtdahnapanpiooaaGreat.PureFnHistories
end
section
namespace Go.Proofs.YtdahnapanpiooaaGreat.fnHistories
open Go.ChangeShapes Go.WideShapes Go.ChangeAt Go.RowKit
open Go.Proofs.YtdahnapanpiooaaGreatW.PrintWords Go.Proofs.YtdahnapanpiooaaGreat.PHis Go.Proofs.YtdahnapanpiooaaGreat.Opens Go.Proofs.YtdahnapanpiooaaGreat.Aid Go.Proofs.YtdahnapanpiooaaGreat.PureFnHistories
set_option linter.unusedVariables false
theorem own : ownKnob Tryz.prog.godebug = none := by kernel_rfl
theorem laidOut : laidOutB Tryz.prog = true := by kernel_rfl
theorem S0 : Opens Tryz.prog 53 (Kd.slice 5 (Kd.int .u8)) (S7 1 U8) := (On Tryz.underlying53 (by kernel_rfl) (B := 1) (by kernel_rfl) (RS Tryz.underlying5 (by kernel_rfl)))
set_option maxRecDepth 100000 in
theorem lifted (os : Os) (started : os.Started) (H : Type) (enc : TypeId × Value -> H) :
 ReturnsInHanded {} Tryz.checked os 4 .any (Rows.fnHistoriesSpec.pre6 enc Tryz.prog Tryz.f4 Rows.fnHistoriesRow.domain false) (Rows.fnHistoriesSpec.post enc Tryz.prog Tryz.f4 false true false false) := by
 refine returnsInHanded_of_change_sized (C := Tryz.checked) own started (by kernel_rfl) Tryz.func4
  (ChangeSpec.witness6 (enc := enc) (C := Tryz.checked) false ⟨#[], #[.slice none 0 0], []⟩ 8 (by kernel_rfl) (by kernel_rfl) (by kernel_rfl) (by kernel_rfl)) ?_
 intro W base args ds gs before hval0 hW hcnd hsz0 _
 have hsz : (DataW.weightsEach Tryz.prog (Tryz.f4.params.toList ++ Rows.fnHistoriesSpec.plain.varTypes Tryz.prog) (ds ++ gs)).all (· <= reachBytes) = true := hsz0
 have hval : ∀ (j : Nat) t v, Tryz.f4.params[j]? = some t -> args[j]? = some v -> Value.okWide Tryz.prog W .any base t v := hval0
 have hW' := hW
 obtain ⟨p, q, hA0, hV, rfl, hfz, hnd⟩ := hW
 have hA : DataW.TrodAll enc Tryz.prog W 0 (fun _ => true) true Tryz.f4.params.toList args.toList ds p := hA0
 rw [Tryz.params4] at hA hval hsz
 obtain ⟨v0, vs0, d0, ds0, p0, q0, hargs, rfl, rfl, h0, r0⟩ := trodAll_cons hA
 obtain ⟨rfl, rfl, rfl⟩ := trodAll_nil r0
 obtain rfl : args = #[v0] := by cases args; simp_all
 obtain ⟨rfl, rfl⟩ := trodVars_none hV
 have k0 := h0
 have lt0 : ∀ x ∈ p0, x.block < W.heap.size := by obtain ⟨m, hm⟩ := k0; exact DataW.trod_lt m _ _ _ hm
 obtain ⟨x0, hK0, hW0⟩ := QR S0 hsz (j := 0) rfl rfl h0
 obtain ⟨A0, c0, rfl, hc0, hC0⟩ := QS Tryz.underlying53 (hval 0 53 v0 rfl rfl) hK0
 clear hA0 hval0 hsz0 hsz
 obtain ⟨k, hk⟩ := Go.Proofs.YtdahnapanpiooaaGreat.PureFnHistories.FnHistories x0 hW0
 refine (An.c k _ _ x0 true W hC0 hc0 hk).mono fun e W' ⟨he, bel0⟩ => ?_
 have bel : Below W.heap.size W W' := by first | exact bel0 | exact bel0.below
 subst he
 exact ⟨_, rfl, _, _, _, [], _, [], hW', trodAll_mk1 (shut_bool Tryz.underlying4 _), (trodAll_cons_mk (Below.trod laidOut (by kernel_rfl) (of_decide_eq_true (by kernel_rfl)) k0 bel lt0) trodAll_mk0), rfl, bel.frame _, fun h => by cases h⟩
theorem over : Rows.fnHistoriesRow.holds Tryz.pinned (OpenSpec.ofChange Rows.fnHistoriesSpec) :=
 OpenClaim.holds_of_wide 4 Tryz.f4 rfl rfl rfl rfl rfl rfl rfl ⟨rfl, rfl, rfl, rfl, rfl⟩ rfl rfl rfl rfl rfl (by kernel_rfl) Tryz.func4 (by kernel_rfl)
  (of_decide_eq_true (by kernel_rfl)) (by unfold Func.isWrapper; first | (rw [if_pos (by decide +kernel)]; kernel_rfl) | (rw [if_neg (by decide +kernel)]; exact ⟨rfl, rfl⟩))
  (fun os started H enc _ => lifted os started H enc)
theorem RV : Rows.FnHistoriesSaid := over
#print axioms RV
end Go.Proofs.YtdahnapanpiooaaGreat.fnHistories
namespace Go.Proofs.YtdahnapanpiooaaGreat
theorem fnHistories_holds : Rows.FnHistoriesSaid := fnHistories.RV
end Go.Proofs.YtdahnapanpiooaaGreat
end
