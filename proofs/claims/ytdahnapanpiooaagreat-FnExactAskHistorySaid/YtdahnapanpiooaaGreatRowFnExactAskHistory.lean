/- The statement FnExactAskHistory, whole: for every input the law returns true and leaves its arguments as they were; no condition. Out of the contract of the law's walk and the pure theorem. -/
import Derived.Test.YtdahnapanpiooaaGreatBFnExactAskHistory0
import Derived.Test.YtdahnapanpiooaaGreatBFnExactAskHistory1
import Derived.Test.YtdahnapanpiooaaGreatBFnExactAskHistory2
import Derived.Test.YtdahnapanpiooaaGreatBFnExactAskHistory3
import Derived.Test.YtdahnapanpiooaaGreatBFnExactAskHistory4
import Derived.Test.YtdahnapanpiooaaGreatBFnExactAskHistory5
import Derived.Test.YtdahnapanpiooaaGreatBFnExactAskHistory6
import Derived.Test.YtdahnapanpiooaaGreatBFnExactAskHistory7
import Derived.Test.YtdahnapanpiooaaGreatBFnExactAskHistory8
import Derived.Test.YtdahnapanpiooaaGreatBFnExactAskHistory9
import Derived.Test.YtdahnapanpiooaaGreatBFnExactAskHistory10
import Derived.Test.YtdahnapanpiooaaGreatWWords
import Derived.Test.YtdahnapanpiooaaGreatWMore
import Derived.SizedLaws
import Derived.ChangeSlices
import Derived.ChangeArms
import Derived.WideShapes
import Derived.Below
import Derived.Test.YtdahnapanpiooaaGreatRows
import Derived.WalkKit
import Derived.ProofKit
import Derived.OpenShut
import Derived.ShutString
import Derived.ChangeOld
section
namespace Go.Proofs.YtdahnapanpiooaaGreat.Aid
open Go.RowKit Go.Proofs.YtdahnapanpiooaaGreatW.PrintWords Go.Proofs.YtdahnapanpiooaaGreatW.PrintMore
set_option linter.unusedVariables false

theorem w64 {x:Int} (h0:-9223372036854775808≤x) (h1:x≤9223372036854775807):wrap64 x=x:=by
  unfold wrap64
  omega
/-- A number of Go's int. -/
def I64 (x:Int):Prop:=-9223372036854775808≤x∧x≤9223372036854775807
theorem i64_of {x:Int} (h:(Lit.int .i64 x).wf=true):I64 x:=by
  simp [Lit.wf,IntKind.min,IntKind.max,IntKind.bits,IntKind.signed] at h
  unfold I64
  omega

/-- A slice within the reach (B: an element's bytes), all of whose elements are as WF says. -/
def wfS {α:Type} (B:Nat) (WF:α→Prop) (xs:List α):Prop:=xs.length≤maxLen∧xs.length*B≤140737488351232∧∀ x ∈ xs,WF x

theorem shift {α:Type} {g:Nat→Option α} {r:α} (h:Ev (fun k=>g (k+1)) r):Ev g r:=Ev.step (fun _=>rfl) h
theorem pos {α:Type} {c:Prop} [Decidable c] {a b:Nat→Option α} {r:α} (hc:c) (h:Ev a r):Ev (fun k=>if c then a k else b k) r:=by
  simpa only [if_pos hc] using h
theorem neg {α:Type} {c:Prop} [Decidable c] {a b:Nat→Option α} {r:α} (hc:¬ c) (h:Ev b r):Ev (fun k=>if c then a k else b k) r:=by
  simpa only [if_neg hc] using h
theorem now {α:Type} {r s:α} (h:r=s):Ev (fun _=>some r) s:=h ▸ Ev.now r
theorem known {α:Type} {x:Option α} {r:α} (h:x=some r):Ev (fun _=>x) r:=h ▸ Ev.now r
theorem bindc {α β:Type} {x:Option α} {f:Nat→α→Option β} {a:α} {r:β} (h:x=some a) (k:Ev (fun n=>f n a) r):Ev (fun n=>x.bind (f n)) r:=by
  subst h
  exact k
theorem same {α:Type} {g:Nat→Option α} {r s:α} (h:Ev g r) (e:r=s):Ev g s:=e ▸ h
/-- A loop whose round j leads from state j to state j + 1, and whose N-th state is its end. -/
theorem loop {α:Type} {g:Nat→Nat→Option α} {r:α} (N:Nat) (hs:∀ j,j<N→Ev (fun k=>g k (j+1)) r→Ev (fun k=>g k j) r) (he:Ev (fun k=>g k N) r):Ev (fun k=>g k 0) r:=by
  have:∀ d j,j+d=N→Ev (fun k=>g k j) r:=by
    intro d
    induction d with
    | zero =>
      intro j hj
      have:j=N:=by omega
      subst this
      exact he
    | succ d ih=>exact fun j hj=>hs j (by omega) (ih (j+1) (by omega))
  exact this N 0 (by omega)
/-- The same from state i on. -/
theorem loop_from {α:Type} {g:Nat→Nat→Option α} {r:α} (i N:Nat) (hi:i≤N) (hs:∀ j,i≤j→j<N→Ev (fun k=>g k (j+1)) r→Ev (fun k=>g k j) r) (he:Ev (fun k=>g k N) r):Ev (fun k=>g k i) r:=by
  have:∀ d j,i≤j→j+d=N→Ev (fun k=>g k j) r:=by
    intro d
    induction d with
    | zero =>
      intro j _ hj
      have:j=N:=by omega
      subst this
      exact he
    | succ d ih=>exact fun j h0 hj=>hs j h0 (by omega) (ih (j+1) (by omega) (by omega))
  exact this (N-i) i (Nat.le_refl _) (by omega)

theorem rd_get (xs:List Int) (j:Nat) (h:j<xs.length):rd xs (j:Int)=xs[j]:=by simp [rd,h]
theorem nat_lt {a b:Nat} (h:a<b):(a:Int)<(b:Int):=by omega
theorem nat_ge {a b:Nat} (h:b≤a):¬ (a:Int)<(b:Int):=by omega
theorem succ_wrap {j:Nat} (h:j<9223372036854775807):wrap64 ((j:Int)+1)=((j+1:Nat):Int):=by
  rw [w64 (by omega) (by omega)]
  omega

/-- A loop that fills a row, one place a round. -/
theorem copied {α β:Type} {g:Nat→List β→Int→Option (List β)} (l:List α) (f:α→β) (z:β) (hs:∀ (j:Nat) (hj:j<l.length) (y:List β) (r:List β),y.length=l.length→Ev (fun k=>g k (y.set j (f l[j])) ((j+1:Nat):Int)) r→Ev (fun k=>g k y (j:Int)) r)
    (he:∀ y,Ev (fun k=>g k y (l.length:Int)) y):Ev (fun k=>g k (List.replicate l.length z) 0) (l.map f):=by
  refine loop (g:=fun k j=>g k ((l.map f).take j++List.replicate (l.length-j) z) (j:Int)) (r:=l.map f) l.length ?_ ?_ |> (fun h=>by simpa using h)
  · intro j hj h
    refine hs j hj _ _ (by simp;omega) ?_
    refine Eq.mp ?_ h
    congr 1
    funext k
    congr 1
    rw [List.set_append_right _ _ (by simp;omega)]
    have h1:(l.map f).take (j+1)=(l.map f).take j++[f l[j]]:=by
      rw [List.take_succ_eq_append_getElem (by simpa using hj)]
      simp
    have h2:l.length-j=(l.length-(j+1))+1:=by omega
    have h3:j-((l.map f).take j).length=0:=by simp;omega
    rw [h1,h3,h2,List.replicate_succ,List.set_cons_zero]
    simp
  · have h:=he (l.map f)
    have e:(l.map f).take l.length=l.map f:=List.take_of_length_le (by simp)
    simpa [e] using h

/-- A loop that looks at each place and answers no at the first that is not as it ought to be. -/
theorem all_loop {g:Nat→Nat→Option Bool} (N:Nat) (ok:Nat→Bool) (b:Bool) (hs:∀ j r,j<N→ok j=true→Ev (fun k=>g k (j+1)) r→Ev (fun k=>g k j) r)
    (hf:∀ j,j<N→ok j=false→Ev (fun k=>g k j) false) (he:Ev (fun k=>g k N) b):Ev (fun k=>g k 0) ((List.range N).all ok && b):=by
  have:∀ d j,j+d=N→Ev (fun k=>g k j) ((List.range' j d).all ok && b):=by
    intro d
    induction d with
    | zero =>
      intro j hj
      have:j=N:=by omega
      subst this
      simpa using he
    | succ d ih =>
      intro j hj
      rw [List.range'_succ,List.all_cons]
      cases h:ok j with
      | true=>simpa using hs j _ (by omega) h (ih (j+1) (by omega))
      | false=>simpa using hf j (by omega) h
  have h:=this N 0 (by omega)
  rwa [←List.range_eq_range'] at h
/-- The same where all places are as they ought to be, .. -/
theorem ok_loop {α:Type} {g:Nat→Nat→Option α} (N:Nat) (ok:Nat→Bool) {r:α} (h:(List.range N).all ok=true) (hs:∀ j r,j<N→ok j=true→Ev (fun k=>g k (j+1)) r→Ev (fun k=>g k j) r)
    (he:Ev (fun k=>g k N) r):Ev (fun k=>g k 0) r:=
  loop N (fun j hj hn=>hs j r hj (List.all_eq_true.1 h j (List.mem_range.2 hj)) hn) he
/-- .. and where one isn't: the first that isn't decides. -/
theorem bad_loop {α:Type} {g:Nat→Nat→Option α} (N:Nat) (ok:Nat→Bool) (r:α) (h:¬ (List.range N).all ok=true) (hs:∀ j r,j<N→ok j=true→Ev (fun k=>g k (j+1)) r→Ev (fun k=>g k j) r)
    (hf:∀ j,j<N→ok j=false→Ev (fun k=>g k j) r):Ev (fun k=>g k 0) r:=by
  have:∀ d j,j+d=N→¬ (List.range' j d).all ok=true→Ev (fun k=>g k j) r:=by
    intro d
    induction d with
    | zero=>exact fun j _ hn=>absurd rfl hn
    | succ d ih =>
      intro j hj hn
      rw [List.range'_succ,List.all_cons] at hn
      cases ho:ok j with
      | true=>exact hs j _ (by omega) ho (ih (j+1) (by omega) (by simpa [ho] using hn))
      | false=>exact hf j (by omega) ho
  exact this N 0 (by omega) (by rwa [←List.range_eq_range'])
/-- n numbers from a on. -/
def iota (a:Int) (n:Nat):List Int:=(List.range n).map fun (i:Nat)=>a+(i:Int)
theorem iota_length (a:Int) (n:Nat):(iota a n).length=n:=by simp [iota]
theorem iota_get (a:Int) (n j:Nat) (h:j<n):rd (iota a n) (j:Int)=a+j:=by simp [rd,iota,h]
theorem iota_set (a:Int) (l:List Int) (j:Nat) (h:j<l.length):(iota a j++l.drop j).set j (a+j)=iota a (j+1)++l.drop (j+1):=by
  rw [List.set_append_right _ _ (by rw [iota_length];exact Nat.le_refl _),iota_length,Nat.sub_self,List.drop_eq_getElem_cons h,List.set_cons_zero]
  have:iota a (j+1)=iota a j++[a+j]:=by simp [iota,List.range_succ]
  rw [this]
  simp
end Go.Proofs.YtdahnapanpiooaaGreat.Aid
end

section
namespace Go.Proofs.YtdahnapanpiooaaGreat.Opens
open Go.ChangeShapes Go.WideShapes Go.RowKit Go.Proofs.YtdahnapanpiooaaGreatW.PrintWords Go.Proofs.YtdahnapanpiooaaGreat.Aid
set_option linter.unusedVariables false

/-- Whatever can be read as data of type t is of kind kd, and meets WF. -/
def Opens {α:Type} (P:Program) (t:TypeId) (kd:Kd α) (WF:α→Prop):Prop:=
  P.cellsOf t=kd.sz∧∀ (H:Type) (enc:TypeId×Value→H) (w:World) (base:Nat) (spare:Nat→Bool) (held:Bool) (fuel:Nat) (cs:List Value) (d:DataW H) (ps:List MemPlace),
    DataW.trod enc P w base spare held fuel t cs=some (d,ps)→(∀ n ∈ d.weights P t,n≤reachBytes)→∃ x,kd.K w x cs∧WF x

theorem opens_int {P:Program} {t:TypeId} (ht:P.underlying t=some (.int .i64)) (hc:P.cellsOf t=1):Opens P t (Kd.int .i64) I64:=by
  refine ⟨hc,fun H enc w base spare held fuel cs d ps h _=>?_⟩
  obtain ⟨n,rfl,_,hw⟩:=DataW.trod_int ht h
  exact ⟨n,rfl,i64_of hw⟩

theorem weights_elem {H:Type} {P:Program} {e:TypeId} {n:Nat}:∀ {ds:List (DataW H)} {d:DataW H},d ∈ ds→n ∈ d.weights P e→n ∈ DataW.weightsAll P e ds
  | [],_,h,_=>by simp at h
  | d0::r,d,h,hn=>by
    rw [DataW.weightsAll]
    rcases List.mem_cons.1 h with rfl|h
    · exact List.mem_append_left _ hn
    · exact List.mem_append_right _ (weights_elem h hn)

theorem choose_list {α:Type} {n:Nat} {Q:Nat→α→Prop} (h:∀ i,i<n→∃ x,Q i x):∃ xs:List α,xs.length=n∧∀ i x,xs[i]?=some x→Q i x:=by
  induction n with
  | zero=>exact ⟨[],rfl,fun i x hx=>by simp at hx⟩
  | succ n ih =>
    obtain ⟨xs,hl,hx⟩:=ih (fun i hi=>h i (by omega))
    obtain ⟨y,hy⟩:=h n (by omega)
    refine ⟨xs++[y],by simp [hl],fun i x hi=>?_⟩
    by_cases hlt:i<n
    · rw [List.getElem?_append_left (by omega)] at hi
      exact hx i x hi
    · have hl2:=(List.getElem?_eq_some_iff.1 hi).1
      simp at hl2
      have:i=n:=by omega
      subst this
      rw [List.getElem?_append_right (by omega)] at hi
      simp [hl] at hi
      exact hi ▸ hy

theorem opens_slice {α:Type} {P:Program} {t e:TypeId} {kd:Kd α} {WF:α→Prop} (ht:P.underlying t=some (.slice e)) (hc:P.cellsOf t=1) {B:Nat} (hB:P.bytesOf e=B) (he:Opens P e kd WF) :
    Opens P t (Kd.slice e kd) (wfS B WF):=by
  subst hB
  refine ⟨hc,fun H enc w base spare held fuel cs d ps h hw=>?_⟩
  rcases DataW.trod_slice ht h with ⟨rfl,_⟩|⟨a,len,cap,elems,rest,n,_,rfl,hx,hb,hl,hm,hlen,hel,_,_⟩
  · exact ⟨[],⟨none,0,rfl,Nat.le_refl _,⟨rfl,by simp,fun h=>absurd h (by simp)⟩⟩,by simp [maxLen],by simp,by simp⟩
  · simp only [Prod.mk.injEq] at hx
    obtain ⟨rfl,_⟩:=hx
    have each:∀ i,i<len→∃ x,(∃ c,c.length=kd.sz∧kd.K w x c∧∀ j u,c[j]?=some u→w.cell? (a.add (i*kd.sz+j))=some u)∧WF x:=by
      intro i hi
      have h1:=hel i hi
      have h2:i<elems.length:=by omega
      rw [List.getElem?_eq_getElem h2] at h1
      obtain ⟨c,hc1,hc2⟩:=Option.bind_eq_some_iff.1 h1
      obtain ⟨_,hcl,hcc⟩:=World.cells?_some hc1
      obtain ⟨x,hx1,hx2⟩:=he.2 H enc w base spare held n c elems[i].1 elems[i].2 hc2 (fun m hm'=>hw m (by
        rw [DataW.weights,ht]
        simp only [List.mem_cons,List.mem_append]
        exact .inr (.inl (weights_elem (List.mem_map.2 ⟨elems[i],List.getElem_mem h2,rfl⟩) hm'))))
      refine ⟨x,⟨c,by rw [hcl,he.1],hx1,fun j u hj=>?_⟩,hx2⟩
      have hj2:=(List.getElem?_eq_some_iff.1 hj).1
      have:=hcc j (by omega)
      rw [hj,he.1] at this
      rw [←this,Addr.add_add]
    obtain ⟨xs,hxl,hxs⟩:=choose_list each
    subst hxl
    refine ⟨xs,⟨some a,cap,rfl,hl,⟨rfl,by simp [maxLen] at hm;omega,fun _=>⟨a,rfl,fun j p hj=>?_⟩⟩⟩,by omega,?_,fun x hx=>?_⟩
    · exact (hxs j p hj).1
    · have:=hw ((elems.length+rest.length)*P.bytesOf e) (by rw [DataW.weights,ht];simp)
      exact Nat.le_trans (Nat.mul_le_mul_right _ (by omega)) this
    · obtain ⟨i,hi⟩:=List.getElem?_of_mem hx
      exact (hxs i x hi).2

/-- The same of a struct's fields from one on, which begins at cell off. -/
def OpensF {α:Type} (P:Program) (fs:List Field) (off:Nat) (kd:Kd α) (WF:α→Prop):Prop:=
  ∀ (H:Type) (enc:TypeId×Value→H) (w:World) (base:Nat) (spare:Nat→Bool) (held:Bool) (fuel:Nat) (cs:List Value) (ys:List (DataW H×List MemPlace)),
    cs.length=off+kd.sz→ys.length=fs.length→(∀ (i:Nat) (f:Field),fs[i]?=some f→DataW.trod enc P w base spare held fuel f.type ((cs.drop f.offset).take (P.cellsOf f.type))=ys[i]?) →
    (∀ n ∈ DataW.weightsEach P (fs.map (·.type)) (ys.map (·.1)),n≤reachBytes)→∃ x,kd.K w x (cs.drop off)∧WF x

theorem opensF_last {α:Type} {P:Program} {f:Field} {off:Nat} {kd:Kd α} {WF:α→Prop} (ho:f.offset=off) (h:Opens P f.type kd WF):OpensF P [f] off kd WF:=by
  intro H enc w base spare held fuel cs ys hcs hys hf hw
  match ys,hys with
  | [y],_ =>
    have h1:=hf 0 f rfl
    rw [ho,h.1,List.take_of_length_le (by simp;omega)] at h1
    exact h.2 H enc w base spare held fuel _ y.1 y.2 h1 (fun n hn=>hw n (by simp [DataW.weightsEach,hn]))

theorem opensF_cons {α β:Type} {P:Program} {f:Field} {fs:List Field} {off:Nat} {kd:Kd α} {kr:Kd β} {WF:α→Prop} {WR:β→Prop} (ho:f.offset=off) (h:Opens P f.type kd WF)
    (hr:OpensF P fs (off+kd.sz) kr WR):OpensF P (f::fs) off (Kd.pair kd kr) (fun x=>WF x.1∧WR x.2):=by
  intro H enc w base spare held fuel cs ys hcs hys hf hw
  match ys,hys with
  | y::ys,hys =>
    have h1:=hf 0 f rfl
    rw [ho,h.1] at h1
    obtain ⟨x,hx1,hx2⟩:=h.2 H enc w base spare held fuel _ y.1 y.2 h1 (fun n hn=>hw n (by simp [DataW.weightsEach,hn]))
    have hs:(Kd.pair kd kr).sz=kd.sz+kr.sz:=rfl
    obtain ⟨z,hz1,hz2⟩:=hr H enc w base spare held fuel cs ys (by omega) (by simpa using hys) (fun i g hg=>hf (i+1) g hg) (fun n hn=>hw n (by simp [DataW.weightsEach];exact .inr (by simpa using hn)))
    refine ⟨(x,z),⟨_,_,?_,hx1,hz1⟩,hx2,hz2⟩
    rw [←List.drop_drop,List.take_append_drop]

theorem opens_struct {α β:Type} {P:Program} {t:TypeId} {fs:Array Field} {kd:Kd α} {WF:α→Prop} (f:β→α) (g:α→β) (hg:∀ x,f (g x)=x) (ht:P.underlying t=some (.struct fs)) (hc:P.cellsOf t=kd.sz)
    (h:OpensF P fs.toList 0 kd WF):Opens P t (Kd.iso kd f) (fun x=>WF (f x)):=by
  refine ⟨hc,fun H enc w base spare held fuel cs d ps hd hw=>?_⟩
  obtain ⟨xs,n,_,hx,hl,hxl,hf⟩:=DataW.trod_struct ht hd
  simp only [Prod.mk.injEq] at hx
  obtain ⟨rfl,_⟩:=hx
  obtain ⟨y,hy1,hy2⟩:=h H enc w base spare held n cs xs (by omega) (by simpa using hxl) (fun i f' hf'=>hf i f' (by simpa using hf')) (fun m hm=>hw m (by rw [DataW.weights,ht];simpa using hm))
  refine ⟨g y,?_,?_⟩
  · show kd.K w (f (g y)) cs
    rw [hg]
    simpa using hy1
  · show WF (f (g y))
    rw [hg]
    exact hy2

/-- An argument, opened. -/
theorem opens_arg {α:Type} {H:Type} {enc:TypeId×Value→H} {P:Program} {w:World} {base:Nat} {spare:Nat→Bool} {held:Bool} {t:TypeId} {v:Value} {kd:Kd α} {WF:α→Prop} {d:DataW H} {ps:List MemPlace} (h:Opens P t kd WF)
    {ts:List TypeId} {ds:List (DataW H)} {j:Nat} (hsz:(DataW.weightsEach P ts ds).all (·≤reachBytes)=true) (ht:ts[j]?=some t) (hd:ds[j]?=some d) (hv:DataW.Trod enc P w base spare held t v d ps) :
    ∃ x,kd.K w x v.cells.toList∧WF x:=by
  obtain ⟨fuel,hf⟩:=hv
  refine h.2 H enc w base spare held fuel _ d ps hf (fun n hn=>?_)
  have:=List.all_eq_true.1 hsz n (DataW.weights_mem_each ht hd n hn)
  simpa using this

/-- A slice argument: its address, its capacity, its row. -/
theorem opens_row {α:Type} {P:Program} {w:World} {t e:TypeId} {r:Reach} {b0:Nat} {v:Value} {kd:Kd α} {x:List α} (ht:P.underlying t=some (.slice e)) (hval:Value.okWide P w r b0 t v) (h:(Kd.slice e kd).K w x v.cells.toList) :
    ∃ A c,v=.slice A x.length c∧x.length≤c∧Kd.C kd w A x.length x:=by
  obtain ⟨a,len,cap,rfl⟩:=okWide_slice ht hval
  obtain ⟨A,c,hv,hl,hC⟩:=h
  simp [Value.cells] at hv
  obtain ⟨rfl,rfl,rfl⟩:=hv
  exact ⟨_,_,rfl,hl,hC⟩

/-- A struct argument by value: its cells. -/
theorem opens_agg {P:Program} {w:World} {t:TypeId} {fs:Array Field} {r:Reach} {b0:Nat} {v:Value} {cs:List Value} (ht:P.underlying t=some (.struct fs)) (hval:Value.okWide P w r b0 t v) (h:v.cells.toList=cs) :
    v=.agg cs.toArray:=by
  obtain ⟨c,rfl,_⟩:=okWide_struct ht hval
  simp [Value.cells] at h
  simp [←h]

end Go.Proofs.YtdahnapanpiooaaGreat.Opens
end

section
namespace Go.Proofs.YtdahnapanpiooaaGreat.PureFnExactAskHistory
open Go.RowKit Go.Proofs.YtdahnapanpiooaaGreatW.PrintWords Go.Proofs.YtdahnapanpiooaaGreatW.PrintLast Go.Proofs.YtdahnapanpiooaaGreatW.PrintMore Go.Proofs.YtdahnapanpiooaaGreat.PAsz Go.Proofs.YtdahnapanpiooaaGreat.Aid
set_option linter.unusedVariables false
set_option linter.unusedSimpArgs false

/-! #### struct type 25 -/
structure S25 where
  f0:(List Int)
  f1:Int
  f2:(List Int)
  f3:Int
def k25:Kd S25:=Kd.iso (Kd.pair (Kd.slice 3 (Kd.int .i64)) (Kd.pair (Kd.int .i64) (Kd.pair (Kd.slice 3 (Kd.int .i64)) (Kd.int .i64)))) (fun x:S25=>(x.f0,x.f1,x.f2,x.f3))
theorem k25_open {w:World} {x:S25} {cs:List Value} (h:k25.K w x cs):∃ A0 c0 A2 c2,cs=[.slice A0 x.f0.length c0,.int .i64 x.f1,.slice A2 x.f2.length c2,.int .i64 x.f3]∧x.f0.length≤c0∧(Kd.int .i64).C w A0 x.f0.length x.f0∧x.f2.length≤c2∧(Kd.int .i64).C w A2 x.f2.length x.f2:=by
  obtain ⟨_,_,rfl,⟨A0,c0,rfl,l0,g0⟩,⟨_,_,rfl,rfl,⟨_,_,rfl,⟨A2,c2,rfl,l2,g2⟩,rfl⟩⟩⟩:=h
  exact ⟨A0,c0,A2,c2,rfl,l0,g0,l2,g2⟩
/-- Every number of it is one of Go's int, every slice within the reach. -/
def wf81 (x:S81):Prop:=I64 x.f0∧I64 x.f1∧I64 x.f2∧I64 x.f3
/-- Every number of it is one of Go's int, every slice within the reach. -/
def wf25 (x:S25):Prop:=(wfS 8 I64) x.f0∧I64 x.f1∧(wfS 8 I64) x.f2∧I64 x.f3
/-- Every number of it is one of Go's int, every slice within the reach. -/
def wf86 (x:S86):Prop:=I64 x.f0∧I64 x.f1
/-- Every number of it is one of Go's int, every slice within the reach. -/
def wf88 (x:S88):Prop:=I64 x.f0∧I64 x.f1

theorem slices_Index_int_int_ev (l:List Int) (a:Int) (hl:l.length≤9223372036854775806):∃ r,Ev (fun k=>slices_Index_int_int.f k l a) r∧(r≥0↔a ∈ l):=by
  unfold slices_Index_int_int.f
  have:∀ d j,j+d=l.length→∃ r,Ev (fun k=>slices_Index_int_int.l0 k l a (l.length:Int) (j:Int)) r∧(r≥0↔a ∈ l.drop j):=by
    intro d
    induction d with
    | zero =>
      intro j hj
      refine ⟨-1,shift ?_,by rw [List.drop_eq_nil_of_le (by omega)];simp⟩
      simp only [slices_Index_int_int.l0]
      exact neg (by omega) (now rfl)
    | succ d ih =>
      intro j hj
      have hjl:j<l.length:=by omega
      by_cases h:a=l[j]
      · refine ⟨(j:Int),shift ?_,⟨fun _=>by rw [List.drop_eq_getElem_cons hjl,h];exact List.mem_cons_self,fun _=>by omega⟩⟩
        simp only [slices_Index_int_int.l0]
        rw [rd_get l j hjl]
        exact pos (nat_lt hjl) (pos (by omega) (pos (nat_lt hjl) (pos h (now rfl))))
      · obtain ⟨r,h1,h2⟩:=ih (j+1) (by omega)
        refine ⟨r,shift ?_,by rw [h2,List.drop_eq_getElem_cons hjl,List.mem_cons];exact ⟨.inr,fun g=>g.resolve_left h⟩⟩
        simp only [slices_Index_int_int.l0]
        rw [rd_get l j hjl,succ_wrap (by omega)]
        exact pos (nat_lt hjl) (pos (by omega) (pos (nat_lt hjl) (neg h h1)))
  simpa using this l.length 0 (by omega)

theorem slices_Contains_int_int_ev (l:List Int) (a:Int) (hl:l.length≤9223372036854775806):Ev (fun k=>slices_Contains_int_int.f k l a) (decide (a ∈ l)):=by
  unfold slices_Contains_int_int.f
  obtain ⟨r,h1,h2⟩:=slices_Index_int_int_ev l a hl
  exact Ev.bind h1 (now (decide_eq_decide.2 h2))

theorem laws_szPathS_eq (l:List S81) (a:Int) (ha:0≤a) (ha2:a≤1048576) (hl:l.length≤140737488355328):∃ r,laws_szPathS.f l a=some r∧r≤a∧(¬ r<0→l.length≤1048576):=by
  unfold laws_szPathS.f
  rw [w64 (by omega) (by omega)]
  by_cases h:a-(l.length:Int)<0
  · exact ⟨-1,by rw [if_pos h],by omega,by omega⟩
  · exact ⟨_,by rw [if_neg h],by omega,by omega⟩

theorem laws_szIntS_eq (l:List Int) (a:Int) (ha:0≤a) (ha2:a≤1048576) (hl:l.length≤140737488355328):∃ r,laws_szIntS.f l a=some r∧r≤a∧(¬ r<0→l.length≤1048576):=by
  unfold laws_szIntS.f
  rw [w64 (by omega) (by omega)]
  by_cases h:a-(l.length:Int)<0
  · exact ⟨-1,by rw [if_pos h],by omega,by omega⟩
  · exact ⟨_,by rw [if_neg h],by omega,by omega⟩

theorem laws_szControl_eq (s:List Int) (t:Int) (n:List Int) (b:Int) (a:Int) (ha:0≤a) (ha2:a≤1048576) (hs:s.length≤140737488355328) (hn:n.length≤140737488355328):∃ r,laws_szControl.f s t n b a=some r∧r≤a∧(¬ r<0→s.length≤1048576∧n.length≤1048576):=by
  unfold laws_szControl.f
  obtain ⟨r,h1,h2,h3⟩:=laws_szIntS_eq s a ha ha2 hs
  rw [h1,Option.bind_some]
  by_cases h:r<0
  · exact ⟨-1,by rw [if_pos h],by omega,by omega⟩
  · obtain ⟨q,q1,q2,q3⟩:=laws_szIntS_eq n r (by omega) (by omega) hn
    rw [if_neg h,q1,Option.bind_some]
    by_cases g:q<0
    · exact ⟨-1,by rw [if_pos g],by omega,by omega⟩
    · exact ⟨q,by rw [if_neg g],by omega,fun _=>⟨h3 h,q3 g⟩⟩

theorem laws_szWantS_eq (l:List S86) (a:Int) (ha:0≤a) (ha2:a≤1048576) (hl:l.length≤140737488355328):∃ r,laws_szWantS.f l a=some r∧r≤a∧(¬ r<0→l.length≤1048576):=by
  unfold laws_szWantS.f
  rw [w64 (by omega) (by omega)]
  by_cases h:a-(l.length:Int)<0
  · exact ⟨-1,by rw [if_pos h],by omega,by omega⟩
  · exact ⟨_,by rw [if_neg h],by omega,by omega⟩

theorem laws_szCallS_eq (l:List S88) (a:Int) (ha:0≤a) (ha2:a≤1048576) (hl:l.length≤140737488355328):∃ r,laws_szCallS.f l a=some r∧r≤a∧(¬ r<0→l.length≤1048576):=by
  unfold laws_szCallS.f
  rw [w64 (by omega) (by omega)]
  by_cases h:a-(l.length:Int)<0
  · exact ⟨-1,by rw [if_pos h],by omega,by omega⟩
  · exact ⟨_,by rw [if_neg h],by omega,by omega⟩

theorem spec_l1In_eq (a b c:Int):spec_l1In.f a b c=some (decide (b≤a∧a≤c)):=by
  unfold spec_l1In.f
  by_cases h:b≤a
  · rw [if_pos h]
    simp [h]
  · rw [if_neg h]
    simp [h]

theorem impl_FindPath_eq (l:List S79) (a:Int):impl_FindPath.f l a=some (impl_FindPath.from_ a l 0):=rfl
theorem findPath_range (a:Int):∀ (l:List S79) (i:Int),impl_FindPath.from_ a l i=-1∨(i≤impl_FindPath.from_ a l i∧impl_FindPath.from_ a l i<i+l.length)
  | [],_=>.inl rfl
  | x::r,i=>by
    have:=findPath_range a r (i+1)
    simp only [impl_FindPath.from_,List.length_cons]
    split <;> omega

theorem spec_FindPath_ev (l:List S79) (a:Int) (hl:l.length≤9223372036854775806):Ev (fun k=>spec_FindPath.f k l a) (impl_FindPath.from_ a l 0):=by
  unfold spec_FindPath.f
  have:∀ d j,j+d=l.length→Ev (fun k=>spec_FindPath.l0 k l a (j:Int)) (impl_FindPath.from_ a (l.drop j) (j:Int)):=by
    intro d
    induction d with
    | zero =>
      intro j hj
      refine shift ?_
      simp only [spec_FindPath.l0]
      exact neg (by omega) (now (by rw [List.drop_eq_nil_of_le (by omega)];rfl))
    | succ d ih =>
      intro j hj
      have hjl:j<l.length:=by omega
      have hg:rd_T79 l (j:Int)=l[j]:=by simp [rd_T79,hjl]
      refine shift ?_
      simp only [spec_FindPath.l0]
      rw [List.drop_eq_getElem_cons hjl,hg,impl_FindPath.from_]
      refine pos (nat_lt hjl) (pos (by omega) ?_)
      by_cases h:l[j].f0=a
      · exact pos h (now (by simp [h]))
      · refine neg h ?_
        rw [succ_wrap (by omega),if_neg (by simpa using h)]
        exact ih (j+1) (by omega)
  simpa using this l.length 0 (by omega)

/-- A path's number, kind, and ends are in their ranges, and it crosses on foot just where its ends are the same. -/
def isPath (a b c d:Int):Bool:=decide (1≤a∧a≤20) && (decide (1≤b∧b≤3) && (decide (0≤c∧c≤3) && (decide (0≤d∧d≤3) && ((c == d) == (b == 2)))))
theorem spec_IsPath_eq (a b c d:Int):spec_IsPath.f a b c d=some (isPath a b c d):=by
  unfold spec_IsPath.f isPath
  simp only [spec_l1In_eq,Option.bind_some]
  by_cases h1:1≤a∧a≤20 <;> by_cases h2:1≤b∧b≤3 <;> by_cases h3:0≤c∧c≤3 <;> by_cases h4:0≤d∧d≤3 <;> simp [h1,h2,h3,h4]

def pathAt (l:List S79) (j:Nat):Bool:=isPath (rd_T79 l j).f0 (rd_T79 l j).f1 (rd_T79 l j).f2 (rd_T79 l j).f3 && decide (0<j→(rd_T79 l ((j:Int)-1)).f0<(rd_T79 l j).f0)
def arePaths (l:List S79):Bool:=(List.range l.length).all (pathAt l) && decide (l.length≤12)
theorem spec_ArePaths_ev (l:List S79) (hl:l.length≤9223372036854775806):Ev (fun k=>spec_ArePaths.f k l) (arePaths l):=by
  unfold spec_ArePaths.f arePaths
  refine all_loop (g:=fun k j=>spec_ArePaths.l0 k l (j:Int)) l.length (pathAt l) _ ?_ ?_ ?_
  · intro j r hj ok h
    simp only [pathAt,Bool.and_eq_true,decide_eq_true_eq] at ok
    refine shift ?_
    simp only [spec_ArePaths.l0]
    refine pos (nat_lt hj) (pos (by omega) (bindc (spec_IsPath_eq _ _ _ _) (pos ok.1 ?_)))
    rw [succ_wrap (by omega)]
    by_cases h0:(j:Int)>0
    · rw [w64 (by omega) (by omega)]
      exact pos h0 (pos (by omega) (pos (by omega) (neg (by have:=ok.2 (by omega);omega) h)))
    · exact neg h0 h
  · intro j hj ok
    refine shift ?_
    simp only [spec_ArePaths.l0]
    refine pos (nat_lt hj) (pos (by omega) (bindc (spec_IsPath_eq _ _ _ _) ?_))
    by_cases h1:isPath (rd_T79 l j).f0 (rd_T79 l j).f1 (rd_T79 l j).f2 (rd_T79 l j).f3=true
    · refine pos h1 ?_
      have h2:¬ (0<j→(rd_T79 l ((j:Int)-1)).f0<(rd_T79 l j).f0):=by simpa [pathAt,h1] using ok
      rw [w64 (x:=(j:Int)-1) (by omega) (by omega)]
      exact pos (by omega) (pos (by omega) (pos (by omega) (pos (by omega) (now rfl))))
    · exact neg h1 (now rfl)
  · refine shift ?_
    simp only [spec_ArePaths.l0]
    refine neg (nat_ge (Nat.le_refl _)) (now ?_)
    exact decide_eq_decide.2 (by omega)

/-- The two ways cross: one's places lie on both sides of the other's. -/
def interB (a b c d:Int):Bool:=(decide (Int.tmod (c-a+8) 8<Int.tmod (b-a+8) 8)) != (decide (Int.tmod (d-a+8) 8<Int.tmod (b-a+8) 8))
theorem four_of {a:Int} (h:0≤a∧a≤3):a=0∨a=1∨a=2∨a=3:=by omega
set_option maxRecDepth 10000 in
theorem spec_Interleave_ev (a b c d:Int) (ha:0≤a∧a≤3) (hb:0≤b∧b≤3) (hc:0≤c∧c≤3) (hd:0≤d∧d≤3) (hac:a≠c) (hbd:b≠d):Ev (fun k=>spec_Interleave.f k (2*a) (2*b+1) (2*c) (2*d+1)) (interB (2*a) (2*b+1) (2*c) (2*d+1)):=by
  refine ⟨40,fun k hk=>?_⟩
  obtain ⟨m,rfl⟩:=Nat.exists_eq_add_of_le' hk
  rcases four_of ha with rfl|rfl|rfl|rfl <;> rcases four_of hb with rfl|rfl|rfl|rfl <;> rcases four_of hc with rfl|rfl|rfl|rfl <;> rcases four_of hd with rfl|rfl|rfl|rfl <;> first|exact absurd rfl hac|exact absurd rfl hbd|(show spec_Interleave.f (m+40) _ _ _ _=some _;kernel_rfl)

theorem spec_InPlace_eq (a:Int) (h:0≤a∧a≤3):spec_InPlace.f a=some (2*a):=by
  unfold spec_InPlace.f
  rw [spec_l1In_eq,Option.bind_some,if_pos (by simpa using h),w64 (by omega) (by omega)]

theorem spec_OutPlace_eq (a:Int) (h:0≤a∧a≤3):spec_OutPlace.f a=some (2*a+1):=by
  unfold spec_OutPlace.f
  rw [spec_l1In_eq,Option.bind_some,if_pos (by simpa using h),w64 (x:=2*a) (by omega) (by omega),w64 (by omega) (by omega)]

theorem isPath_iff (a b c d:Int):isPath a b c d=true↔(1≤a∧a≤20)∧(1≤b∧b≤3)∧(0≤c∧c≤3)∧(0≤d∧d≤3)∧((c == d) == (b == 2))=true:=by simp only [isPath,Bool.and_eq_true,decide_eq_true_eq]
def confl (a1 a2 a3 b1 b2 b3:Int):Bool:=if a1=2 then (b2 == a2 || b3 == a2) else if b1=2 then (a2 == b2 || a3 == b2) else if a2=b2 then false else if a3=b3 then true else interB (2*a2) (2*a3+1) (2*b2) (2*b3+1)
def conflict (a0 a1 a2 a3 b0 b1 b2 b3:Int):Bool:=if isPath a0 a1 a2 a3=true∧isPath b0 b1 b2 b3=true∧¬ (a1=2∧b1=2) then confl a1 a2 a3 b1 b2 b3 else false
theorem spec_Conflict_ev (a0 a1 a2 a3 b0 b1 b2 b3:Int):Ev (fun k=>spec_Conflict.f k a0 a1 a2 a3 b0 b1 b2 b3) (conflict a0 a1 a2 a3 b0 b1 b2 b3):=by
  have yes:Ev (fun k=>spec_Conflict.j0 k true a0 a1 a2 a3 b0 b1 b2 b3) false:=by
    refine shift ?_
    simp only [spec_Conflict.j0]
    exact pos trivial (now rfl)
  have no:isPath a0 a1 a2 a3=true→isPath b0 b1 b2 b3=true→Ev (fun k=>spec_Conflict.j0 k false a0 a1 a2 a3 b0 b1 b2 b3) (confl a1 a2 a3 b1 b2 b3):=by
    intro h1 h2
    have h1:=(isPath_iff _ _ _ _).1 h1
    have h2:=(isPath_iff _ _ _ _).1 h2
    refine shift ?_
    simp only [spec_Conflict.j0]
    refine neg (by simp) ?_
    unfold confl
    by_cases c1:a1=2
    · rw [if_pos c1]
      refine pos c1 ?_
      by_cases c2:b2=a2
      · exact pos c2 (now (by simp [c2]))
      · exact neg c2 (now (by simp [c2]))
    · rw [if_neg c1]
      refine neg c1 ?_
      by_cases c2:b1=2
      · rw [if_pos c2]
        refine pos c2 ?_
        by_cases c3:a2=b2
        · exact pos c3 (now (by simp [c3]))
        · exact neg c3 (now (by simp [c3]))
      · rw [if_neg c2]
        refine neg c2 ?_
        by_cases c3:a2=b2
        · rw [if_pos c3]
          exact pos c3 (now rfl)
        · rw [if_neg c3]
          refine neg c3 ?_
          by_cases c4:a3=b3
          · rw [if_pos c4]
            exact pos c4 (now rfl)
          · rw [if_neg c4]
            exact neg c4 (bindc (spec_InPlace_eq _ h1.2.2.1) (bindc (spec_OutPlace_eq _ h1.2.2.2.1) (bindc (spec_InPlace_eq _ h2.2.2.1) (bindc (spec_OutPlace_eq _ h2.2.2.2.1) (Ev.bind (spec_Interleave_ev _ _ _ _ h1.2.2.1 h1.2.2.2.1 h2.2.2.1 h2.2.2.2.1 c3 c4) (now rfl))))))
  unfold spec_Conflict.f conflict
  refine bindc (spec_IsPath_eq _ _ _ _) ?_
  by_cases h1:isPath a0 a1 a2 a3=true
  · refine pos h1 (bindc (spec_IsPath_eq _ _ _ _) ?_)
    by_cases h2:isPath b0 b1 b2 b3=true
    · refine pos h2 ?_
      by_cases c1:a1=2
      · refine pos c1 ?_
        by_cases c2:b1=2
        · rw [if_neg (fun g=>g.2.2 ⟨c1,c2⟩),show (b1 == 2)=true by simp [c2]]
          exact yes
        · rw [if_pos ⟨h1,h2,fun g=>c2 g.2⟩,show (b1 == 2)=false by simp [c2]]
          exact no h1 h2
      · rw [if_pos ⟨h1,h2,fun g=>c1 g.1⟩]
        exact neg c1 (no h1 h2)
    · rw [if_neg (fun g=>h2 g.2.1)]
      exact neg h2 yes
  · rw [if_neg (fun g=>h1 g.1)]
    exact neg h1 yes

/-- As all_loop, with what the earlier places are known to be. -/
theorem all_loopI {g:Nat→Nat→Option Bool} (N:Nat) (ok:Nat→Bool) (b:Bool) (hs:∀ j r,j<N→(∀ i,i≤j→ok i=true)→Ev (fun k=>g k (j+1)) r→Ev (fun k=>g k j) r)
    (hf:∀ j,j<N→(∀ i,i<j→ok i=true)→ok j=false→Ev (fun k=>g k j) false) (he:(∀ i,i<N→ok i=true)→Ev (fun k=>g k N) b):Ev (fun k=>g k 0) ((List.range N).all ok && b):=by
  have:∀ d j,j+d=N→(∀ i,i<j→ok i=true)→Ev (fun k=>g k j) ((List.range' j d).all ok && b):=by
    intro d
    induction d with
    | zero =>
      intro j hj hb
      have:j=N:=by omega
      subst this
      simpa using he hb
    | succ d ih =>
      intro j hj hb
      rw [List.range'_succ,List.all_cons]
      cases h:ok j with
      | true =>
        have hb2:∀ i,i<j+1→ok i=true:=fun i hi=>by
          by_cases e:i=j
          · rw [e];exact h
          · exact hb i (by omega)
        simpa using hs j _ (by omega) (fun i hi=>hb2 i (by omega)) (ih (j+1) (by omega) hb2)
      | false=>simpa using hf j (by omega) hb h
  have h:=this N 0 (by omega) (fun i hi=>by omega)
  rwa [←List.range_eq_range'] at h
theorem rd_take (xs:List Int) (j k:Nat) (h:k<j):rd (xs.take j) (k:Int)=rd xs (k:Int):=by simp [rd,List.getD_eq_getElem?_getD,List.getElem?_take,h]
theorem take_len {α:Type} (xs:List α) (j:Nat) (h:j<xs.length):(xs.take j).length=j:=by rw [List.length_take];omega
theorem take_snoc {α:Type} (xs:List α) (j:Nat) (h:j<xs.length):xs.take (j+1)=xs.take j++[xs[j]]:=by rw [List.take_succ_eq_append_getElem h]

def clearOf (a b c d:Int):Int:=if isPath a b c d=true then (if b=1 then 2 else if b=3 then 3 else 5) else 0
theorem spec_ClearOf_eq (a b c d:Int):spec_ClearOf.f a b c d=some (clearOf a b c d):=by
  unfold spec_ClearOf.f clearOf
  rw [spec_IsPath_eq,Option.bind_some]
  by_cases h:isPath a b c d=true
  · rw [if_pos h,if_pos h,Option.bind_some]
    have hb:1≤b∧b≤3:=by
      have:=h
      simp only [isPath,Bool.and_eq_true,decide_eq_true_eq] at this
      exact this.2.1
    have:b=1∨b=2∨b=3:=by omega
    rcases this with rfl|rfl|rfl <;> rfl
  · rw [if_neg h,if_neg h]

def fp (l:List S79) (a:Int):Int:=impl_FindPath.from_ a l 0
theorem fp_range (l:List S79) (a:Int):fp l a=-1∨(0≤fp l a∧fp l a<l.length):=by
  have:=findPath_range a l 0
  unfold fp
  omega
theorem from_id (a:Int):∀ (l:List S79) (i:Nat),impl_FindPath.from_ a l i=-1∨∃ j:Nat,impl_FindPath.from_ a l i=((i+j:Nat):Int)∧(l.getD j z79).f0=a
  | [],_=>.inl rfl
  | x::r,i=>by
    simp only [impl_FindPath.from_]
    by_cases h:x.f0=a
    · rw [if_pos (by simp [h])]
      exact .inr ⟨0,by simp,by simp [h]⟩
    · rw [if_neg (by simp [h])]
      rcases from_id a r (i+1) with e|⟨j,e1,e2⟩
      · left
        have:((i:Int)+1)=((i+1:Nat):Int):=by omega
        rw [this]
        exact e
      · right
        refine ⟨j+1,?_,by simpa using e2⟩
        have:((i:Int)+1)=((i+1:Nat):Int):=by omega
        rw [this,e1]
        omega
theorem fp_id (l:List S79) (a:Int) (h:¬ fp l a<0):(rd_T79 l (fp l a)).f0=a:=by
  unfold fp at h ⊢
  rcases from_id a l 0 with e|⟨j,e1,e2⟩
  · rw [show ((0:Nat):Int)=0 from rfl] at e
    omega
  · rw [show ((0:Nat):Int)=0 from rfl] at e1
    rw [e1]
    simpa [rd_T79] using e2
def conP (x y:S79):Bool:=conflict x.f0 x.f1 x.f2 x.f3 y.f0 y.f1 y.f2 y.f3
def clrP (x:S79):Int:=clearOf x.f0 x.f1 x.f2 x.f3
theorem clrP_range (x:S79):0≤clrP x∧clrP x≤5:=by
  unfold clrP clearOf
  split
  · split
    · omega
    · split <;> omega
  · omega
def togPair (l:List S79) (ids:List Int) (i k:Nat):Bool:=!conP (rd_T79 l (fp l (rd ids i))) (rd_T79 l (fp l (rd ids k)))
def togHead (l:List S79) (ids:List Int) (i:Nat):Bool:=decide (¬ fp l (rd ids i)<0∧(0<i→rd ids ((i:Int)-1)<rd ids i))
def togAt (l:List S79) (ids:List Int) (i:Nat):Bool:=togHead l ids i && (List.range i).all (togPair l ids i)
def together (l:List S79) (ids:List Int):Bool:=(List.range ids.length).all (togAt l ids) && arePaths l
theorem togAt_found {l:List S79} {ids:List Int} {i:Nat} (h:togAt l ids i=true):0≤fp l (rd ids i)∧fp l (rd ids i)<l.length:=by
  simp only [togAt,togHead,Bool.and_eq_true,decide_eq_true_eq] at h
  have:=fp_range l (rd ids i)
  omega
theorem together_found {l:List S79} {ids:List Int} (h:together l ids=true) (n:Int) (hn:n ∈ ids):0≤fp l n∧fp l n<l.length:=by
  simp only [together,Bool.and_eq_true] at h
  obtain ⟨i,hi,rfl⟩:=List.getElem_of_mem hn
  have:=togAt_found (List.all_eq_true.1 h.1 i (List.mem_range.2 hi))
  rwa [rd_get ids i hi] at this

theorem spec_IsTogether_ev (l:List S79) (ids:List Int) (hl:l.length≤1048576) (hi:ids.length≤1048576):Ev (fun k=>spec_IsTogether.f k l ids) (together l ids):=by
  unfold spec_IsTogether.f together
  have find:∀ n,Ev (fun k=>spec_FindPath.f k l n) (fp l n):=fun n=>spec_FindPath_ev l n (by omega)
  have yes:∀ i x:Int,Ev (fun k=>spec_IsTogether.j1 k l ids i x true) false:=by
    intro i x
    refine shift ?_
    simp only [spec_IsTogether.j1]
    exact pos trivial (now rfl)
  have head:∀ (j:Nat) (r:Bool),j<ids.length→togHead l ids j=true→Ev (fun k=>spec_IsTogether.l1 k l ids (j:Int) (fp l (rd ids j)) 0) r→Ev (fun k=>spec_IsTogether.l0 k l ids (j:Int)) r:=by
    intro j r hj ok h
    simp only [togHead,decide_eq_true_eq] at ok
    have no:Ev (fun k=>spec_IsTogether.j1 k l ids (j:Int) (fp l (rd ids j)) false) r:=by
      refine shift ?_
      simp only [spec_IsTogether.j1]
      exact neg (by decide) h
    refine shift ?_
    simp only [spec_IsTogether.l0]
    refine pos (nat_lt hj) (pos (by omega) (Ev.bind (find _) (neg ok.1 ?_)))
    by_cases h0:(j:Int)>0
    · rw [w64 (x:=(j:Int)-1) (by omega) (by omega)]
      refine pos h0 (pos (by omega) (pos (by omega) ?_))
      rw [show decide (rd ids ((j:Int)-1)≥rd ids (j:Int))=false from decide_eq_false (by have:=ok.2 (by omega);omega)]
      exact no
    · exact neg h0 no
  have good:∀ (i j:Nat) (r:Bool),i<ids.length→(∀ q,q<i→0≤fp l (rd ids q)∧fp l (rd ids q)<l.length)→(0≤fp l (rd ids i)∧fp l (rd ids i)<l.length)→j<i→togPair l ids i j=true →
      Ev (fun k=>spec_IsTogether.l1 k l ids (i:Int) (fp l (rd ids i)) ((j+1:Nat):Int)) r→Ev (fun k=>spec_IsTogether.l1 k l ids (i:Int) (fp l (rd ids i)) (j:Int)) r:=by
    intro i j r hil hq hf hj ok h
    have hf2:=hq j hj
    refine shift ?_
    simp only [spec_IsTogether.l1]
    rw [succ_wrap (by omega)]
    refine pos (nat_lt hj) (pos hf.1 (pos hf.2 (pos (by omega) (pos (by omega) (Ev.bind (find _) (pos hf2.1 (pos hf2.2 (Ev.bind (spec_Conflict_ev _ _ _ _ _ _ _ _) (neg ?_ h)))))))))
    simpa [togPair,conP] using ok
  have bad:∀ (i j:Nat),i<ids.length→(∀ q,q<i→0≤fp l (rd ids q)∧fp l (rd ids q)<l.length)→(0≤fp l (rd ids i)∧fp l (rd ids i)<l.length)→j<i→togPair l ids i j=false →
      Ev (fun k=>spec_IsTogether.l1 k l ids (i:Int) (fp l (rd ids i)) (j:Int)) false:=by
    intro i j hil hq hf hj ok
    have hf2:=hq j hj
    refine shift ?_
    simp only [spec_IsTogether.l1]
    refine pos (nat_lt hj) (pos hf.1 (pos hf.2 (pos (by omega) (pos (by omega) (Ev.bind (find _) (pos hf2.1 (pos hf2.2 (Ev.bind (spec_Conflict_ev _ _ _ _ _ _ _ _) (pos ?_ (now rfl))))))))))
    simpa [togPair,conP] using ok
  refine all_loopI (g:=fun k j=>spec_IsTogether.l0 k l ids (j:Int)) ids.length (togAt l ids) (arePaths l) ?_ ?_ ?_
  · intro j r hj ok h
    have okj:=ok j (Nat.le_refl _)
    have hf:=togAt_found okj
    simp only [togAt,Bool.and_eq_true] at okj
    refine head j r hj okj.1 ?_
    refine ok_loop (g:=fun k i=>spec_IsTogether.l1 k l ids (j:Int) (fp l (rd ids j)) (i:Int)) j _ okj.2 (fun i r hi o g=>good j i r hj (fun q hq=>togAt_found (ok q (by omega))) hf hi o g) ?_
    refine shift ?_
    simp only [spec_IsTogether.l1]
    refine neg (nat_ge (Nat.le_refl _)) ?_
    rw [succ_wrap (by omega)]
    exact h
  · intro j hj ok okj
    by_cases hh:togHead l ids j=true
    · have hall:¬ (List.range j).all (togPair l ids j)=true:=by
        intro g
        rw [togAt,hh,g] at okj
        exact absurd okj (by decide)
      have hf:0≤fp l (rd ids j)∧fp l (rd ids j)<l.length:=by
        have:=hh
        simp only [togHead,decide_eq_true_eq] at this
        have:=fp_range l (rd ids j)
        omega
      refine head j false hj hh ?_
      exact bad_loop (g:=fun k i=>spec_IsTogether.l1 k l ids (j:Int) (fp l (rd ids j)) (i:Int)) j _ false hall (fun i r hi o g=>good j i r hj (fun q hq=>togAt_found (ok q hq)) hf hi o g) (fun i hi o=>bad j i hj (fun q hq=>togAt_found (ok q hq)) hf hi o)
    · refine shift ?_
      simp only [spec_IsTogether.l0]
      refine pos (nat_lt hj) (pos (by omega) (Ev.bind (find _) ?_))
      by_cases h1:fp l (rd ids j)<0
      · exact pos h1 (yes _ _)
      · have h2:¬ (0<j→rd ids ((j:Int)-1)<rd ids j):=fun g=>hh (by simp only [togHead];exact decide_eq_true ⟨h1,g⟩)
        refine neg h1 (pos (by omega) ?_)
        rw [w64 (x:=(j:Int)-1) (by omega) (by omega)]
        refine pos (by omega) (pos (by omega) ?_)
        rw [show decide (rd ids ((j:Int)-1)≥rd ids (j:Int))=true from decide_eq_true (by omega)]
        exact yes _ _
  · intro _
    refine shift ?_
    simp only [spec_IsTogether.l0]
    exact neg (nat_ge (Nat.le_refl _)) (Ev.bind (spec_ArePaths_ev l (by omega)) (now rfl))

theorem spec_Max_eq (a b:Int):spec_Max.f a b=some (mx a b):=by
  unfold spec_Max.f mx
  by_cases h:b>a
  · rw [if_pos h,if_pos (by omega)]
  · rw [if_neg h,if_neg (by omega)]

theorem spec_l6Has_ev (l:List Int) (a:Int) (hl:l.length≤9223372036854775806):Ev (fun k=>spec_l6Has.f k l a) (decide (a ∈ l)):=by
  unfold spec_l6Has.f
  have:∀ d j,j+d=l.length→Ev (fun k=>spec_l6Has.l0 k l a (j:Int)) (decide (a ∈ l.drop j)):=by
    intro d
    induction d with
    | zero =>
      intro j hj
      refine shift ?_
      simp only [spec_l6Has.l0]
      exact neg (by omega) (now (by rw [List.drop_eq_nil_of_le (by omega)];simp))
    | succ d ih =>
      intro j hj
      have hjl:j<l.length:=by omega
      refine shift ?_
      simp only [spec_l6Has.l0]
      rw [List.drop_eq_getElem_cons hjl,rd_get l j hjl]
      refine pos (nat_lt hjl) (pos (by omega) ?_)
      by_cases h:l[j]=a
      · exact pos h (now (by simp [h]))
      · refine neg h ?_
        rw [succ_wrap (by omega)]
        have e:decide (a ∈ l[j]::l.drop (j+1))=decide (a ∈ l.drop (j+1)):=decide_eq_decide.2 ⟨fun g=>(List.mem_cons.1 g).resolve_left (fun x=>h x.symm),fun g=>List.mem_cons_of_mem _ g⟩
        rw [e]
        exact ih (j+1) (by omega)
  simpa using this l.length 0 (by omega)

def closesL (a b:List Int):List Int:=a.filter fun n=>!decide (n ∈ b)
theorem closesL_mem {a b:List Int} {n:Int} (h:n ∈ closesL a b):n ∈ a:=(List.mem_filter.1 h).1
theorem closesL_length (a b:List Int):(closesL a b).length≤a.length:=List.length_filter_le _ _
theorem spec_Closes_ev (a b:List Int) (ha:a.length≤1048576) (hb:b.length≤1048576):Ev (fun k=>spec_Closes.f k a b) (closesL a b):=by
  unfold spec_Closes.f
  refine loop (g:=fun k j=>spec_Closes.l0 k a b (closesL (a.take j) b) (j:Int)) (r:=closesL a b) a.length ?_ ?_ |> (fun h=>by simpa [closesL] using h)
  · intro j hj h
    refine shift ?_
    simp only [spec_Closes.l0]
    rw [succ_wrap (by omega),rd_get a j hj]
    rw [closesL,take_snoc a j hj,List.filter_append] at h
    refine pos (nat_lt hj) (pos (by omega) (Ev.bind (spec_l6Has_ev b _ (by omega)) ?_))
    by_cases c:a[j] ∈ b
    · rw [List.filter_cons,List.filter_nil,decide_eq_true c] at h
      refine pos (decide_eq_true c) ?_
      simpa [closesL] using h
    · rw [List.filter_cons,List.filter_nil,decide_eq_false c] at h
      have hl:=closesL_length (a.take j) b
      rw [take_len a j hj] at hl
      refine neg (by simpa using c) (pos (by omega) ?_)
      simpa [closesL] using h
  · refine shift ?_
    simp only [spec_Closes.l0]
    exact neg (nat_ge (Nat.le_refl _)) (now (by rw [List.take_length]))

def clrStep (l:List S79) (i:Int) (n:Int) (k:Int):Int:=if conP (rd_T79 l (fp l i)) (rd_T79 l (fp l k))=true then mx n (clrP (rd_T79 l (fp l i))) else n
def clrIn (l:List S79) (ys:List Int) (n:Int) (i:Int):Int:=ys.foldl (clrStep l i) n
def clearB (l:List S79) (a b:List Int):Int:=if together l a=true∧together l b=true then (closesL a b).foldl (clrIn l (closesL b a)) 0 else 0
theorem foldl_inv {α β:Type} (P:β→Prop) (f:β→α→β) (hf:∀ b a,P b→P (f b a)):∀ (l:List α) (b:β),P b→P (l.foldl f b)
  | [],_,h=>h
  | x::r,b,h=>foldl_inv P f hf r (f b x) (hf b x h)
theorem clearB_range (l:List S79) (a b:List Int):0≤clearB l a b∧clearB l a b≤5:=by
  have h1:∀ i n k,(0≤n∧n≤5)→0≤clrStep l i n k∧clrStep l i n k≤5:=by
    intro i n k h
    have:=clrP_range (rd_T79 l (fp l i))
    unfold clrStep mx
    split
    · split <;> omega
    · exact h
  unfold clearB
  split
  · refine foldl_inv (fun n=>0≤n∧n≤5) _ (fun n i h=>?_) _ _ (by omega)
    exact foldl_inv (fun n=>0≤n∧n≤5) _ (fun n k h=>h1 i n k h) _ _ h
  · omega
theorem foldl_take {α β:Type} (f:β→α→β) (b:β) (l:List α) (j:Nat) (h:j<l.length):(l.take (j+1)).foldl f b=f ((l.take j).foldl f b) l[j]:=by
  rw [take_snoc l j h,List.foldl_append]
  rfl
theorem spec_ClearBetween_ev (l:List S79) (a b:List Int) (hl:l.length≤1048576) (ha:a.length≤1048576) (hb:b.length≤1048576):Ev (fun k=>spec_ClearBetween.f k l a b) (clearB l a b):=by
  unfold spec_ClearBetween.f clearB
  have find:∀ n,Ev (fun k=>spec_FindPath.f k l n) (fp l n):=fun n=>spec_FindPath_ev l n (by omega)
  refine Ev.bind (spec_Closes_ev a b ha hb) (Ev.bind (spec_Closes_ev b a hb ha) ?_)
  have hx:=closesL_length a b
  have hy:=closesL_length b a
  have ta:=spec_IsTogether_ev l a hl ha
  have tb:=spec_IsTogether_ev l b hl hb
  have stop:∀ x y:Int,Ev (fun k=>spec_ClearBetween.j1 k l a b x (closesL a b) (closesL b a) y false) x:=by
    intro x y
    refine shift ?_
    simp only [spec_ClearBetween.j1]
    exact neg (by decide) (now rfl)
  by_cases h:together l a=true∧together l b=true
  · rw [if_pos h]
    rw [h.1] at ta
    rw [h.2] at tb
    have fa:∀ n,n ∈ closesL a b→0≤fp l n∧fp l n<l.length:=fun n hn=>together_found h.1 n (closesL_mem hn)
    have fb:∀ n,n ∈ closesL b a→0≤fp l n∧fp l n<l.length:=fun n hn=>together_found h.2 n (closesL_mem hn)
    generalize closesL a b=xs at hx stop fa ⊢
    generalize closesL b a=ys at hy stop fb ⊢
    refine loop (g:=fun k j=>spec_ClearBetween.l0 k l a b ((xs.take j).foldl (clrIn l ys) 0) xs ys (j:Int)) (r:=xs.foldl (clrIn l ys) 0) xs.length ?_ ?_ |> (fun h=>by simpa using h)
    · intro j hj hh
      rw [foldl_take _ _ _ _ hj] at hh
      generalize (xs.take j).foldl (clrIn l ys) 0=n at hh ⊢
      have hfa:=fa _ (List.getElem_mem hj)
      refine shift ?_
      simp only [spec_ClearBetween.l0]
      refine pos (nat_lt hj) (Ev.bind ta (pos rfl (Ev.bind tb (shift ?_))))
      simp only [spec_ClearBetween.j1]
      refine pos trivial ?_
      refine loop (g:=fun k i=>spec_ClearBetween.l1 k l a b ((ys.take i).foldl (clrStep l xs[j]) n) xs ys (j:Int) (i:Int)) (r:=xs.foldl (clrIn l ys) 0) ys.length ?_ ?_ |> (fun h=>by simpa using h)
      · intro i hi h2
        rw [foldl_take _ _ _ _ hi] at h2
        generalize (ys.take i).foldl (clrStep l xs[j]) n=m at h2 ⊢
        have hfb:=fb _ (List.getElem_mem hi)
        refine shift ?_
        simp only [spec_ClearBetween.l1]
        rw [succ_wrap (j:=i) (by omega),rd_get xs j hj,rd_get ys i hi]
        refine pos (nat_lt hi) (pos (by omega) (pos (nat_lt hj) (Ev.bind (find _) (pos hfa.1 (pos hfa.2 (pos (by omega) (Ev.bind (find _) (pos hfb.1 (pos hfb.2 (Ev.bind (spec_Conflict_ev _ _ _ _ _ _ _ _) ?_))))))))))
        rw [clrStep] at h2
        by_cases c:conP (rd_T79 l (fp l xs[j])) (rd_T79 l (fp l ys[i]))=true
        · rw [if_pos c] at h2
          exact pos c (bindc (spec_ClearOf_eq _ _ _ _) (bindc (spec_Max_eq _ _) h2))
        · rw [if_neg c] at h2
          exact neg c h2
      · refine shift ?_
        simp only [spec_ClearBetween.l1]
        rw [succ_wrap (j:=j) (by omega),List.take_length]
        exact neg (nat_ge (Nat.le_refl _)) hh
    · refine shift ?_
      simp only [spec_ClearBetween.l0]
      rw [List.take_length]
      exact neg (nat_ge (Nat.le_refl _)) (stop _ _)
  · rw [if_neg h]
    refine shift ?_
    simp only [spec_ClearBetween.l0]
    by_cases c:(0:Int)<((closesL a b).length:Int)
    · refine pos c (Ev.bind ta ?_)
      by_cases c1:together l a=true
      · refine pos c1 (Ev.bind tb ?_)
        rw [show together l b=false by simpa using fun g=>h ⟨c1,g⟩]
        exact stop _ _
      · exact neg c1 (stop _ _)
    · exact neg c (stop _ _)

def isControl (l:List S79) (s:List Int) (a:Int) (n:List Int) (b:Int):Bool:=
  decide (¬ s.length=0) && (together l s && (together l n && (decide (0≤a∧a≤1000000) && (if n.length=0 then (b == 0) else decide (1≤b∧b≤clearB l s n)))))
theorem isControl_iff (l:List S79) (s:List Int) (a:Int) (n:List Int) (b:Int):isControl l s a n b=true↔¬ s.length=0∧together l s=true∧together l n=true∧(0≤a∧a≤1000000)∧(if n.length=0 then b=0 else 1≤b∧b≤clearB l s n):=by
  unfold isControl
  simp only [Bool.and_eq_true,decide_eq_true_eq]
  by_cases h:n.length=0
  · rw [if_pos h,if_pos h,beq_iff_eq]
  · rw [if_neg h,if_neg h,decide_eq_true_eq]
theorem spec_IsControl_ev (l:List S79) (s:List Int) (a:Int) (n:List Int) (b:Int) (hl:l.length≤1048576) (hs:s.length≤1048576) (hn:n.length≤1048576):Ev (fun k=>spec_IsControl.f k l s a n b) (isControl l s a n b):=by
  unfold spec_IsControl.f
  have no:Ev (fun k=>spec_IsControl.j0 k l true s a n b) false:=by
    refine shift ?_
    simp only [spec_IsControl.j0]
    exact pos trivial (now rfl)
  have yes:Ev (fun k=>spec_IsControl.j0 k l false s a n b) (if n.length=0 then (b == 0) else decide (1≤b∧b≤clearB l s n)):=by
    refine shift ?_
    simp only [spec_IsControl.j0]
    refine neg (by decide) ?_
    by_cases h:n.length=0
    · rw [if_pos h]
      exact pos (by omega) (now rfl)
    · rw [if_neg h]
      exact neg (by omega) (Ev.bind (spec_ClearBetween_ev l s n hl hs hn) (bindc (spec_l1In_eq _ _ _) (now rfl)))
  unfold isControl
  by_cases h0:s.length=0
  · rw [decide_eq_false (by omega),Bool.false_and]
    exact pos (by omega) no
  · rw [decide_eq_true h0,Bool.true_and]
    refine neg (by omega) (Ev.bind (spec_IsTogether_ev l s hl hs) ?_)
    by_cases h1:together l s=true
    · rw [h1,Bool.true_and]
      refine pos rfl (Ev.bind (spec_IsTogether_ev l n hl hn) ?_)
      by_cases h2:together l n=true
      · rw [h2,Bool.true_and]
        refine pos rfl (bindc (spec_l1In_eq _ _ _) ?_)
        by_cases h3:0≤a∧a≤1000000
        · rw [decide_eq_true h3,Bool.true_and]
          exact yes
        · rw [decide_eq_false h3,Bool.false_and]
          exact no
      · rw [Bool.eq_false_iff.mpr h2,Bool.false_and]
        exact neg (by decide) no
    · rw [Bool.eq_false_iff.mpr h1,Bool.false_and]
      exact neg (by decide) no

def wantAt (l:List S79) (w:List S84) (j:Nat):Bool:=
  decide (¬ fp l (rd_T84 w (j:Int)).f0<0) && (decide (0≤(rd_T84 w (j:Int)).f1∧(rd_T84 w (j:Int)).f1≤100000) && decide (0<j→(rd_T84 w ((j:Int)-1)).f0<(rd_T84 w (j:Int)).f0))
def areWants (l:List S79) (w:List S84):Bool:=(List.range w.length).all (wantAt l w) && arePaths l
theorem spec_AreWants_ev (l:List S79) (w:List S84) (hl:l.length≤1048576) (hw:w.length≤1048576):Ev (fun k=>spec_AreWants.f k l w) (areWants l w):=by
  unfold spec_AreWants.f areWants
  refine all_loop (g:=fun k j=>spec_AreWants.l0 k l w (j:Int)) w.length (wantAt l w) _ ?_ ?_ ?_
  · intro j r hj ok h
    simp only [wantAt,Bool.and_eq_true,decide_eq_true_eq] at ok
    refine shift ?_
    simp only [spec_AreWants.l0]
    refine pos (nat_lt hj) (pos (by omega) (Ev.bind (spec_FindPath_ev l _ (by omega)) (neg ok.1 (bindc (spec_l1In_eq _ _ _) (pos (decide_eq_true ok.2.1) ?_)))))
    rw [succ_wrap (by omega)]
    by_cases h0:(j:Int)>0
    · rw [w64 (by omega) (by omega)]
      exact pos h0 (pos (by omega) (pos (by omega) (neg (by have:=ok.2.2 (by omega);omega) h)))
    · exact neg h0 h
  · intro j hj ok
    refine shift ?_
    simp only [spec_AreWants.l0]
    refine pos (nat_lt hj) (pos (by omega) (Ev.bind (spec_FindPath_ev l _ (by omega)) ?_))
    by_cases h1:fp l (rd_T84 w (j:Int)).f0<0
    · exact pos h1 (now rfl)
    · refine neg h1 (bindc (spec_l1In_eq _ _ _) ?_)
      by_cases h2:0≤(rd_T84 w (j:Int)).f1∧(rd_T84 w (j:Int)).f1≤100000
      · refine pos (decide_eq_true h2) ?_
        have h3:¬ (0<j→(rd_T84 w ((j:Int)-1)).f0<(rd_T84 w (j:Int)).f0):=fun q=>by
          rw [wantAt,decide_eq_true h1,decide_eq_true h2,decide_eq_true q] at ok
          cases ok
        rw [w64 (x:=(j:Int)-1) (by omega) (by omega)]
        exact pos (by omega) (pos (by omega) (pos (by omega) (pos (by omega) (now rfl))))
      · exact neg (by simpa using h2) (now rfl)
  · refine shift ?_
    simp only [spec_AreWants.l0]
    exact neg (nat_ge (Nat.le_refl _)) (Ev.bind (spec_ArePaths_ev l (by omega)) (now rfl))

def lightOne (s n:List Int) (id:Int):Int:=if id ∈ s then (if n.length>0 then (if id ∈ n then 1 else 2) else 1) else 0
def lightsIn (l:List S79) (s n:List Int):Nat→List Int
  | 0=>[]
  | j+1=>lightsIn l s n j++[lightOne s n (rd_T79 l (j:Int)).f0]
theorem lightsIn_len (l:List S79) (s n:List Int) (j:Nat):(lightsIn l s n j).length=j:=by
  induction j with
  | zero=>rfl
  | succ j ih=>simp [lightsIn,ih]
def lightsOf (l:List S79) (s:List Int) (a:Int) (n:List Int) (b:Int):List Int:=if isControl l s a n b=true then lightsIn l s n l.length else []
theorem spec_LightsOf_ev (l:List S79) (s:List Int) (a:Int) (n:List Int) (b:Int) (hl:l.length≤1048576) (hs:s.length≤1048576) (hn:n.length≤1048576):Ev (fun k=>spec_LightsOf.f k l s a n b) (lightsOf l s a n b):=by
  unfold spec_LightsOf.f lightsOf
  by_cases hc:isControl l s a n b=true
  · rw [if_pos hc]
    have main:Ev (fun k=>spec_LightsOf.l0 k l (lightsIn l s n 0) ((0:Nat):Int) s a n b) (lightsIn l s n l.length):=by
      refine loop_from (g:=fun k j=>spec_LightsOf.l0 k l (lightsIn l s n j) (j:Int) s a n b) (r:=lightsIn l s n l.length) 0 l.length (by omega) (fun j _ hj h=>?_) ?_
      · have hlen:=lightsIn_len l s n j
        refine shift ?_
        simp only [spec_LightsOf.l0]
        refine pos (nat_lt hj) (Ev.bind (spec_IsControl_ev l s a n b hl hs hn) ?_)
        rw [hc]
        refine shift ?_
        simp only [spec_LightsOf.j1]
        rw [succ_wrap (j:=j) (by omega)]
        refine pos trivial (pos (by omega) (pos (nat_lt hj) (Ev.bind (spec_l6Has_ev s _ (by omega)) ?_)))
        have e:lightsIn l s n (j+1)=lightsIn l s n j++[lightOne s n (rd_T79 l (j:Int)).f0]:=rfl
        rw [e] at h
        unfold lightOne at h
        by_cases h1:(rd_T79 l (j:Int)).f0 ∈ s
        · rw [if_pos h1] at h
          refine pos (decide_eq_true h1) ?_
          by_cases h2:n.length>0
          · rw [if_pos h2] at h
            refine pos (by omega) (Ev.bind (spec_l6Has_ev n _ (by omega)) ?_)
            by_cases h3:(rd_T79 l (j:Int)).f0 ∈ n
            · rw [if_pos h3] at h
              exact pos (decide_eq_true h3) (pos (by omega) h)
            · rw [if_neg h3] at h
              exact neg (by simpa using h3) (pos (by omega) h)
          · rw [if_neg h2] at h
            exact neg (by omega) (pos (by omega) h)
        · rw [if_neg h1] at h
          exact neg (by simpa using h1) (pos (by omega) h)
      · refine shift ?_
        simp only [spec_LightsOf.l0]
        refine neg (nat_ge (Nat.le_refl _)) (shift ?_)
        simp only [spec_LightsOf.j1]
        exact neg (by simp) (now rfl)
    exact main
  · rw [if_neg hc]
    refine shift ?_
    simp only [spec_LightsOf.l0]
    have stop:Ev (fun k=>spec_LightsOf.j1 k l [] 0 false s a n b) []:=by
      refine shift ?_
      simp only [spec_LightsOf.j1]
      exact neg (by simp) (now rfl)
    by_cases h0:l.length=0
    · exact neg (by omega) stop
    · refine pos (by omega) (Ev.bind (spec_IsControl_ev l s a n b hl hs hn) ?_)
      rw [Bool.eq_false_iff.mpr hc]
      exact stop

theorem rdW_get (w:List S84) (j:Nat) (h:j<w.length):rd_T84 w (j:Int)=w[j]:=by simp [rd_T84,h]
def goodW (l:List S79) (w:List S84):Prop:=arePaths l=true∧(∀ x ∈ w,¬ fp l x.f0<0∧0≤x.f1∧x.f1≤100000)∧w.Pairwise (fun x y=>x.f0<y.f0)
theorem areWants_iff (l:List S79) (w:List S84):areWants l w=true↔goodW l w:=by
  unfold areWants goodW
  rw [Bool.and_eq_true,List.all_eq_true]
  constructor
  · rintro ⟨h,hp⟩
    have g:∀ j:Nat,j<w.length→¬ fp l (rd_T84 w (j:Int)).f0<0∧(0≤(rd_T84 w (j:Int)).f1∧(rd_T84 w (j:Int)).f1≤100000)∧(0<j→(rd_T84 w ((j:Int)-1)).f0<(rd_T84 w (j:Int)).f0):=by
      intro j hj
      have:=h j (List.mem_range.2 hj)
      simpa only [wantAt,Bool.and_eq_true,decide_eq_true_eq] using this
    refine ⟨hp,fun x hx=>?_,?_⟩
    · obtain ⟨j,hj,rfl⟩:=List.mem_iff_getElem.1 hx
      have:=g j hj
      rw [rdW_get w j hj] at this
      exact ⟨this.1,this.2.1.1,this.2.1.2⟩
    · have hlt:∀ (a b:Nat),a<b→b<w.length→(rd_T84 w (a:Int)).f0<(rd_T84 w (b:Int)).f0:=by
        intro a b
        induction b with
        | zero=>intro h;omega
        | succ b ih =>
          intro h1 h2
          have q:=(g (b+1) h2).2.2 (by omega)
          rw [show ((b+1:Nat):Int)-1=(b:Int) by omega] at q
          rcases Nat.lt_or_ge a b with z|z
          · have:=ih z (by omega);omega
          · have:a=b:=by omega
            rw [this];exact q
      refine List.pairwise_iff_getElem.2 (fun i j hi hj hij=>?_)
      have:=hlt i j hij hj
      rwa [rdW_get w i hi,rdW_get w j hj] at this
  · rintro ⟨hp,h1,h2⟩
    refine ⟨fun j hj=>?_,hp⟩
    have hj:=List.mem_range.1 hj
    have q:=h1 w[j] (List.getElem_mem hj)
    simp only [wantAt,Bool.and_eq_true,decide_eq_true_eq]
    rw [rdW_get w j hj]
    refine ⟨q.1,⟨q.2.1,q.2.2⟩,fun h0=>?_⟩
    rw [show (j:Int)-1=((j-1:Nat):Int) by omega,rdW_get w (j-1) (by omega)]
    exact List.pairwise_iff_getElem.1 h2 (j-1) j (by omega) hj (by omega)
def stays (l:List S79) (v:List Int) (x:S84):Bool:=decide (fp l x.f0<0∨fp l x.f0≥v.length∨¬ rd v (fp l x.f0)=1)
/-- The wants behind a second: those whose path shows green are gone. -/
def waitIn (l:List S79) (v:List Int) (w:List S84):Nat→List S84
  | 0=>[]
  | j+1=>if stays l v (rd_T84 w (j:Int))=true then waitIn l v w j++[(⟨(rd_T84 w (j:Int)).f0,mn 100000 ((rd_T84 w (j:Int)).f1+1)⟩:S84)] else waitIn l v w j
theorem waitIn_len (l:List S79) (v:List Int) (w:List S84) (j:Nat):(waitIn l v w j).length≤j:=by
  induction j with
  | zero=>simp [waitIn]
  | succ j ih =>
    rw [waitIn]
    split
    · simp;omega
    · omega
theorem waitIn_good (l:List S79) (v:List Int) (w:List S84) (h:goodW l w):∀ j,j≤w.length→(∀ x ∈ waitIn l v w j,∃ i,i<j∧x.f0=(rd_T84 w (i:Int)).f0∧0≤x.f1∧x.f1≤100000)∧(waitIn l v w j).Pairwise (fun x y=>x.f0<y.f0):=by
  intro j
  induction j with
  | zero=>intro _;simp [waitIn]
  | succ j ih =>
    intro hj
    obtain ⟨h1,h2⟩:=ih (by omega)
    rw [waitIn]
    split
    · have hb:=h.2.1 w[j] (List.getElem_mem (by omega))
      have hw:=rdW_get w j (by omega)
      constructor
      · intro x hx
        rcases List.mem_append.1 hx with q|q
        · obtain ⟨i,g1,g2⟩:=h1 x q
          exact ⟨i,by omega,g2⟩
        · rw [List.mem_singleton.1 q]
          refine ⟨j,by omega,rfl,?_⟩
          rw [hw]
          dsimp only
          unfold mn
          split <;> omega
      · rw [List.pairwise_append]
        refine ⟨h2,by simp,fun x hx y hy=>?_⟩
        obtain ⟨i,g1,g2,_⟩:=h1 x hx
        rw [List.mem_singleton.1 hy,g2]
        dsimp only
        rw [rdW_get w i (by omega),hw]
        exact List.pairwise_iff_getElem.1 h.2.2 i j (by omega) (by omega) g1
    · exact ⟨fun x hx=>by obtain ⟨i,g1,g2⟩:=h1 x hx;exact ⟨i,by omega,g2⟩,h2⟩
theorem waitIn_wants (l:List S79) (v:List Int) (w:List S84) (h:areWants l w=true):areWants l (waitIn l v w w.length)=true:=by
  have hg:=(areWants_iff l w).1 h
  obtain ⟨h1,h2⟩:=waitIn_good l v w hg w.length (Nat.le_refl _)
  refine (areWants_iff l _).2 ⟨hg.1,fun x hx=>?_,h2⟩
  obtain ⟨i,g1,g2,g3,g4⟩:=h1 x hx
  rw [g2,rdW_get w i g1]
  exact ⟨(hg.2.1 w[i] (List.getElem_mem g1)).1,g3,g4⟩

def insW:List S84→Int→List S84
  | [],p=>[(⟨p,0⟩:S84)]
  | x::r,p=>if x.f0<p then x::insW r p else (⟨p,0⟩:S84)::x::r
theorem insW_len (w:List S84) (p:Int):(insW w p).length=w.length+1:=by
  induction w with
  | nil=>rfl
  | cons x r ih =>
    simp only [insW]
    split
    · simp [ih]
    · simp
theorem insW_cut (w:List S84) (p:Int):∀ j,j≤w.length→(∀ i:Nat,i<j→(rd_T84 w (i:Int)).f0<p)→insW w p=w.take j++insW (w.drop j) p:=by
  induction w with
  | nil=>intro j hj _;(have:j=0:=by simpa using hj);subst this;simp
  | cons x r ih =>
    intro j hj h
    cases j with
    | zero=>simp
    | succ j =>
      have hx:x.f0<p:=by have:=h 0 (by omega);rwa [rdW_get (x::r) 0 (by simp)] at this
      simp only [List.take_succ_cons,List.drop_succ_cons,List.cons_append,insW,if_pos hx]
      rw [ih j (by simpa using hj) (fun i hi=>by
        have:=h (i+1) (by omega)
        rw [rdW_get (x::r) (i+1) (by simp at hj ⊢;omega)] at this
        rw [rdW_get r i (by simp at hj;omega)]
        simpa using this)]
theorem insW_at (w:List S84) (p:Int) (j:Nat) (hj:j≤w.length) (h:∀ i:Nat,i<j→(rd_T84 w (i:Int)).f0<p) (h2:j=w.length∨¬ (rd_T84 w (j:Int)).f0<p):insW w p=w.take j++[(⟨p,0⟩:S84)]++w.drop j:=by
  rw [insW_cut w p j hj h]
  rcases Nat.lt_or_ge j w.length with q|q
  · have h3:=h2.resolve_left (by omega)
    rw [rdW_get w j q] at h3
    rw [List.drop_eq_getElem_cons q]
    simp only [insW,if_neg h3]
    simp
  · rw [List.drop_eq_nil_of_le q]
    simp [insW]
theorem insW_twice (w:List S84) (p:Int) (h:∃ x ∈ w,x.f0=p):¬ (insW w p).Pairwise (fun x y=>x.f0<y.f0):=by
  induction w with
  | nil=>obtain ⟨x,hx,_⟩:=h;cases hx
  | cons x r ih =>
    obtain ⟨y,hy,e⟩:=h
    simp only [insW]
    split
    · rename_i hx
      intro g
      rw [List.pairwise_cons] at g
      rcases List.mem_cons.1 hy with q|q
      · rw [←q,e] at hx;omega
      · exact ih ⟨y,q,e⟩ g.2
    · intro g
      rw [List.pairwise_cons] at g
      have:=g.1 y hy
      dsimp only at this
      omega
def addW (l:List S79) (w:List S84) (p:Int):List S84×Bool:=if areWants l (insW w p)=true then (insW w p,true) else (w,false)
theorem addW_twice (l:List S79) (w:List S84) (p:Int) (h:∃ x ∈ w,x.f0=p):addW l w p=(w,false):=if_neg (fun q=>insW_twice w p h ((areWants_iff l _).1 q).2.2)
theorem addW_wants (l:List S79) (w:List S84) (p:Int) (h:areWants l w=true):areWants l (addW l w p).1=true:=by
  unfold addW
  split
  · assumption
  · exact h
theorem spec_AddWant_ev (l:List S79) (w:List S84) (p:Int) (hl:l.length≤1048576) (hw:w.length≤1048575):Ev (fun k=>spec_AddWant.f k l w p) (addW l w p):=by
  unfold spec_AddWant.f
  have hil:=insW_len w p
  have fin:∀ r:List S84,r=insW w p→Ev (fun k=>(spec_AreWants.f k l r).bind fun t=>if t=true then some (r,true) else if w.length<8796093022208 then some (w,false) else none) (addW l w p):=by
    intro r hr
    rw [hr]
    refine Ev.bind (spec_AreWants_ev l (insW w p) hl (by omega)) ?_
    by_cases h:areWants l (insW w p)=true
    · exact pos h (now (if_pos h).symm)
    · exact neg h (pos (by omega) (now (if_neg h).symm))
  have:∀ d j:Nat,j+d=w.length→(∀ i:Nat,i<j→(rd_T84 w (i:Int)).f0<p)→Ev (fun k=>spec_AddWant.l0 k l w p (j:Int)) (addW l w p):=by
    intro d
    induction d with
    | zero =>
      intro j hj hb
      have e:=insW_at w p j (by omega) hb (.inl (by omega))
      refine shift ?_
      simp only [spec_AddWant.l0,Option.bind_some,List.nil_append,List.length_nil,Int.toNat_natCast,Nat.zero_add]
      refine neg (by omega) (pos (by omega) (pos (by omega) (pos (by simp;omega) (pos (by simp;omega) (pos (by simp;omega) ?_)))))
      exact fin _ (by rw [e])
    | succ d ih =>
      intro j hj hb
      have hjl:j<w.length:=by omega
      refine shift ?_
      simp only [spec_AddWant.l0,Option.bind_some,List.nil_append,List.length_nil,Int.toNat_natCast,Nat.zero_add]
      rw [succ_wrap (j:=j) (by omega)]
      refine pos (nat_lt hjl) (pos (by omega) ?_)
      by_cases h1:(rd_T84 w (j:Int)).f0<p
      · refine pos h1 (ih (j+1) (by omega) (fun i hi=>?_))
        rcases Nat.lt_or_ge i j with q|q
        · exact hb i q
        · have:i=j:=by omega
          rw [this];exact h1
      · have e:=insW_at w p j (by omega) hb (.inr h1)
        refine neg h1 (pos (by omega) (pos (by simp;omega) (pos (by simp;omega) (pos (by simp;omega) ?_))))
        exact fin _ (by rw [e])
  exact this w.length 0 (by omega) (fun i hi=>by omega)

theorem spec_l14Copy_eq (s:List Int) (a:Int) (n:List Int) (b:Int) (hs:s.length≤1048576) (hn:n.length≤1048576):spec_l14Copy.f s a n b=some (s,a,n,b):=by
  unfold spec_l14Copy.f
  simp only [Option.bind_some,List.nil_append,List.length_nil]
  rw [if_pos (by omega),if_pos (by omega)]

theorem spec_Min_eq (a b:Int):spec_Min.f a b=some (mn a b):=by
  unfold spec_Min.f mn
  by_cases h:b<a
  · rw [if_pos h,if_pos h]
  · rw [if_neg h,if_neg h]

def tickC (l:List S79) (s:List Int) (a:Int) (n:List Int) (b:Int):List Int×Int×List Int×Int:=
  if isControl l s a n b=true then (if n.length=0 then (s,mn 1000000 (a+1),n,b) else if b-1=0 then (n,0,[],0) else (s,a,n,b-1)) else (s,a,n,b)
theorem control_bounds {l:List S79} {s:List Int} {a:Int} {n:List Int} {b:Int} (h:isControl l s a n b=true):(0≤a∧a≤1000000)∧0≤b∧b≤5∧(¬ n.length=0→1≤b):=by
  obtain ⟨_,_,_,h1,h2⟩:=(isControl_iff l s a n b).1 h
  refine ⟨h1,?_⟩
  have:=clearB_range l s n
  by_cases h0:n.length=0
  · rw [if_pos h0] at h2
    exact ⟨by omega,by omega,fun q=>absurd h0 q⟩
  · rw [if_neg h0] at h2
    exact ⟨by omega,by omega,fun _=>h2.1⟩
theorem spec_TickControl_ev (l:List S79) (s:List Int) (a:Int) (n:List Int) (b:Int) (hl:l.length≤1048576) (hs:s.length≤1048576) (hn:n.length≤1048576):Ev (fun k=>spec_TickControl.f k l s a n b) (tickC l s a n b):=by
  unfold spec_TickControl.f
  refine bindc (spec_l14Copy_eq s a n b hs hn) (Ev.bind (spec_IsControl_ev l s a n b hl hs hn) ?_)
  dsimp only
  by_cases h:isControl l s a n b=true
  · have hb:=control_bounds h
    refine pos h ?_
    rw [w64 (x:=a+1) (by omega) (by omega),w64 (x:=b-1) (by omega) (by omega)]
    by_cases h0:n.length=0
    · exact pos (by omega) (bindc (spec_Min_eq _ _) (now (by unfold tickC;rw [if_pos h,if_pos h0])))
    · refine neg (by omega) ?_
      by_cases h1:b-1=0
      · exact pos h1 (now (by unfold tickC;rw [if_pos h,if_neg h0,if_pos h1]))
      · exact neg h1 (now (by unfold tickC;rw [if_pos h,if_neg h0,if_neg h1]))
  · exact neg h (now (by unfold tickC;rw [if_neg h]))

/-- Which want waits longest of those whose path isn't in the row: the place, or -1. -/
def longAt (w:List S84) (s:List Int):Nat→Int
  | 0=>-1
  | j+1=>if (rd_T84 w (j:Int)).f0 ∈ s then longAt w s j else if longAt w s j<0 then (j:Int) else if (rd_T84 w (j:Int)).f1>(rd_T84 w (longAt w s j)).f1 then (j:Int) else longAt w s j
theorem longAt_range (w:List S84) (s:List Int) (j:Nat):-1≤longAt w s j∧longAt w s j<j:=by
  induction j with
  | zero=>simp [longAt]
  | succ j ih =>
    rw [longAt]
    split
    · omega
    · split
      · omega
      · split <;> omega
def longWant (w:List S84) (s:List Int):Int:=if longAt w s w.length<0 then 0 else (rd_T84 w (longAt w s w.length)).f0
theorem spec_LongestWant_ev (w:List S84) (s:List Int) (hw:w.length≤1048576) (hs:s.length≤1048576):Ev (fun k=>spec_LongestWant.f k w s) (longWant w s):=by
  unfold spec_LongestWant.f longWant
  have main:Ev (fun k=>spec_LongestWant.l0 k w s (longAt w s 0) ((0:Nat):Int)) (if longAt w s w.length<0 then 0 else (rd_T84 w (longAt w s w.length)).f0):=by
    refine loop_from (g:=fun k j=>spec_LongestWant.l0 k w s (longAt w s j) (j:Int)) 0 w.length (by omega) (fun j _ hj h=>?_) ?_
    · have hr:=longAt_range w s j
      refine shift ?_
      simp only [spec_LongestWant.l0]
      rw [succ_wrap (j:=j) (by omega)]
      refine pos (nat_lt hj) (pos (by omega) (Ev.bind (spec_l6Has_ev s _ (by omega)) ?_))
      rw [longAt] at h
      by_cases h1:(rd_T84 w (j:Int)).f0 ∈ s
      · rw [if_pos h1] at h
        exact pos (decide_eq_true h1) h
      · rw [if_neg h1] at h
        refine neg (by simpa using h1) ?_
        by_cases h2:longAt w s j<0
        · rw [if_pos h2] at h
          exact pos h2 h
        · rw [if_neg h2] at h
          refine neg h2 (pos (by omega) (pos (by omega) ?_))
          by_cases h3:(rd_T84 w (j:Int)).f1>(rd_T84 w (longAt w s j)).f1
          · rw [if_pos h3] at h
            exact pos h3 h
          · rw [if_neg h3] at h
            exact neg h3 h
    · have hr:=longAt_range w s w.length
      refine shift ?_
      simp only [spec_LongestWant.l0]
      refine neg (nat_ge (Nat.le_refl _)) ?_
      by_cases h2:longAt w s w.length<0
      · exact pos h2 (now (if_pos h2).symm)
      · exact neg h2 (pos (by omega) (pos (by omega) (now (if_neg h2).symm)))
  exact main

def putS:List Int→Int→List Int
  | [],a=>[a]
  | x::r,a=>if x<a then x::putS r a else if x=a then x::r else a::x::r
theorem putS_len (l:List Int) (a:Int):(putS l a).length≤l.length+1:=by
  induction l with
  | nil=>simp [putS]
  | cons x r ih =>
    simp only [putS]
    split
    · simp;omega
    · split <;> simp
theorem mem_putS (l:List Int) (a s:Int):s ∈ putS l a↔s ∈ l∨s=a:=by
  induction l with
  | nil=>simp [putS]
  | cons x r ih =>
    simp only [putS]
    split
    · simp only [List.mem_cons,ih]
      constructor
      · rintro (h|h|h)
        · exact .inl (.inl h)
        · exact .inl (.inr h)
        · exact .inr h
      · rintro ((h|h)|h)
        · exact .inl h
        · exact .inr (.inl h)
        · exact .inr (.inr h)
    · split
      · rename_i _ e
        constructor
        · exact .inl
        · rintro (h|h)
          · exact h
          · rw [h,←e];exact List.mem_cons_self
      · simp only [List.mem_cons]
        constructor
        · rintro (h|h)
          · exact .inr h
          · exact .inl h
        · rintro (h|h)
          · exact .inr h
          · exact .inl h
theorem putS_asc (l:List Int) (a:Int) (h:l.Pairwise (· < ·)):(putS l a).Pairwise (· < ·):=by
  induction l with
  | nil=>simp [putS]
  | cons x r ih =>
    rw [List.pairwise_cons] at h
    simp only [putS]
    split
    · rename_i hx
      rw [List.pairwise_cons]
      refine ⟨fun s hs=>?_,ih h.2⟩
      rcases (mem_putS r a s).1 hs with q|q
      · exact h.1 s q
      · omega
    · split
      · rw [List.pairwise_cons];exact h
      · rename_i hx he
        rw [List.pairwise_cons,List.pairwise_cons]
        refine ⟨fun s hs=>?_,h⟩
        rcases List.mem_cons.1 hs with q|q
        · omega
        · have:=h.1 s q;omega
theorem putS_split (l:List Int) (a:Int):∀ j,j≤l.length→(∀ i,i<j→rd l (i:Int)<a)→putS l a=l.take j++putS (l.drop j) a:=by
  intro j
  induction l generalizing j with
  | nil=>intro hj _;(have:j=0:=by simpa using hj);subst this;simp
  | cons x r ih =>
    intro hj h
    cases j with
    | zero=>simp
    | succ j =>
      have hx:x<a:=by simpa [rd] using h 0 (by omega)
      simp only [List.take_succ_cons,List.drop_succ_cons,List.cons_append,putS,if_pos hx]
      rw [ih j (by simpa using hj) (fun i hi=>by have:=h (i+1) (by omega);simpa [rd] using this)]
theorem spec_l6Put_put (l:List Int) (a:Int) (hl:l.length≤1048576):Ev (fun k=>spec_l6Put.f k l a) (putS l a):=by
  unfold spec_l6Put.f
  have:∀ d j,j+d=l.length→(∀ i:Nat,i<j→rd l (i:Int)<a)→Ev (fun k=>spec_l6Put.l0 k l a (j:Int)) (putS l a):=by
    intro d
    induction d with
    | zero =>
      intro j hj hb
      have e:putS l a=l.take j++[a]++l.drop j:=by rw [putS_split l a j (by omega) hb,List.drop_eq_nil_of_le (by omega)];simp [putS]
      refine shift ?_
      simp only [spec_l6Put.l0,Option.bind_some,List.nil_append,Int.toNat_natCast]
      rw [e]
      exact neg (by omega) (pos (by omega) (pos (by omega) (pos (by simp;omega) (pos (by simp;omega) (pos (by simp;omega) (now rfl))))))
    | succ d ih =>
      intro j hj hb
      have hjl:j<l.length:=by omega
      have hd:l.drop j=l[j]::l.drop (j+1):=List.drop_eq_getElem_cons hjl
      by_cases h1:l[j]<a
      · refine shift ?_
        simp only [spec_l6Put.l0]
        rw [rd_get l j hjl,succ_wrap (by omega)]
        refine pos (nat_lt hjl) (pos (by omega) (pos h1 (ih (j+1) (by omega) (fun i hi=>?_))))
        rcases Nat.lt_or_ge i j with q|q
        · exact hb i q
        · have:i=j:=by omega
          subst this
          rw [rd_get l i hjl];exact h1
      · by_cases h2:l[j]=a
        · have e:putS l a=l:=by
            rw [putS_split l a j (by omega) hb,hd]
            simp only [putS,if_neg h1,if_pos h2]
            rw [←hd,List.take_append_drop]
          refine shift ?_
          simp only [spec_l6Put.l0,Option.bind_some,List.nil_append]
          rw [rd_get l j hjl,e]
          exact pos (nat_lt hjl) (pos (by omega) (neg h1 (pos h2 (pos (by simp;omega) (now rfl)))))
        · have e:putS l a=l.take j++[a]++l.drop j:=by
            rw [putS_split l a j (by omega) hb,hd]
            simp only [putS,if_neg h1,if_neg h2,List.append_assoc,List.cons_append,List.nil_append]
          refine shift ?_
          simp only [spec_l6Put.l0,Option.bind_some,List.nil_append,Int.toNat_natCast]
          rw [rd_get l j hjl,e]
          exact pos (nat_lt hjl) (pos (by omega) (neg h1 (neg h2 (pos (by omega) (pos (by simp;omega) (pos (by simp;omega) (pos (by simp;omega) (now rfl))))))))
  exact this l.length 0 (by omega) (fun i hi=>by omega)
theorem together_asc {l:List S79} {ids:List Int} (h:together l ids=true):ids.Pairwise (· < ·):=by
  simp only [together,Bool.and_eq_true] at h
  have hst:∀ j,0<j→j<ids.length→rd ids ((j:Int)-1)<rd ids (j:Int):=by
    intro j h0 hj
    have:=List.all_eq_true.1 h.1 j (List.mem_range.2 hj)
    simp only [togAt,togHead,Bool.and_eq_true,decide_eq_true_eq] at this
    exact this.1.2 h0
  have hlt:∀ (a b:Nat),a<b→b<ids.length→rd ids (a:Int)<rd ids (b:Int):=by
    intro a b
    induction b with
    | zero=>intro h;omega
    | succ b ih =>
      intro h1 h2
      have q:=hst (b+1) (by omega) h2
      rw [show ((b+1:Nat):Int)-1=(b:Int) by omega] at q
      rcases Nat.lt_or_ge a b with z|z
      · have:=ih z (by omega);omega
      · have:a=b:=by omega
        rw [this];exact q
  refine List.pairwise_iff_getElem.2 (fun i j hi hj hij=>?_)
  have:=hlt i j hij hj
  rwa [rd_get ids i hi,rd_get ids j hj] at this
theorem together_paths {l:List S79} {ids:List Int} (h:together l ids=true):arePaths l=true:=by
  simp only [together,Bool.and_eq_true] at h
  exact h.2
theorem together_nil {l:List S79} (h:arePaths l=true):together l []=true:=by
  simp [together,h]
theorem putS_has (l:List Int) (a:Int) (h:l.Pairwise (· < ·)) (ha:a ∈ l):putS l a=l:=by
  induction l with
  | nil=>cases ha
  | cons x r ih =>
    rw [List.pairwise_cons] at h
    simp only [putS]
    rcases List.mem_cons.1 ha with q|q
    · rw [if_neg (by omega),if_pos q.symm]
    · rw [if_pos (h.1 a q),ih h.2 q]
/-- The stage behind j paths of the list. -/
def addIn (l:List S79) (ids:List Int):Nat→List Int
  | 0=>ids
  | j+1=>if together l (putS (addIn l ids j) (rd_T79 l (j:Int)).f0)=true then putS (addIn l ids j) (rd_T79 l (j:Int)).f0 else addIn l ids j
theorem addIn_len (l:List S79) (ids:List Int) (j:Nat):(addIn l ids j).length≤ids.length+j:=by
  induction j with
  | zero=>simp [addIn]
  | succ j ih =>
    have:=putS_len (addIn l ids j) (rd_T79 l (j:Int)).f0
    rw [addIn]
    split <;> omega
theorem addIn_asc (l:List S79) (ids:List Int) (h:ids.Pairwise (· < ·)) (j:Nat):(addIn l ids j).Pairwise (· < ·):=by
  induction j with
  | zero=>exact h
  | succ j ih =>
    rw [addIn]
    split
    · exact putS_asc _ _ ih
    · exact ih
def addTo (l:List S79) (ids:List Int):List Int:=if together l ids=true then addIn l ids l.length else ids
theorem spec_AddToStage_at (l:List S79) (ids:List Int) (hl:l.length≤1000) (hi:ids.length≤1000):Ev (fun k=>spec_AddToStage.f k l ids) (addTo l ids):=by
  unfold spec_AddToStage.f addTo
  simp only [Option.bind_some,List.nil_append,List.length_nil]
  refine pos (by omega) ?_
  by_cases ht:together l ids=true
  · rw [if_pos ht]
    have main:Ev (fun k=>spec_AddToStage.l0 k l ids (addIn l ids 0) ((0:Nat):Int)) (addIn l ids l.length):=by
      refine loop_from (g:=fun k j=>spec_AddToStage.l0 k l ids (addIn l ids j) (j:Int)) 0 l.length (by omega) (fun j _ hj h=>?_) ?_
      · have hlen:=addIn_len l ids j
        have hlen2:=putS_len (addIn l ids j) (rd_T79 l (j:Int)).f0
        refine shift ?_
        simp only [spec_AddToStage.l0]
        refine pos (nat_lt hj) (Ev.bind (spec_IsTogether_ev l ids (by omega) (by omega)) ?_)
        rw [ht]
        refine shift ?_
        simp only [spec_AddToStage.j1]
        rw [succ_wrap (j:=j) (by omega)]
        refine pos trivial (pos (by omega) (pos (nat_lt hj) (Ev.bind (spec_l6Put_put _ _ (by omega)) (Ev.bind (spec_IsTogether_ev l _ (by omega) (by omega)) ?_))))
        rw [addIn] at h
        by_cases h1:together l (putS (addIn l ids j) (rd_T79 l (j:Int)).f0)=true
        · rw [if_pos h1] at h
          exact pos h1 h
        · rw [if_neg h1] at h
          exact neg h1 h
      · refine shift ?_
        simp only [spec_AddToStage.l0]
        refine neg (nat_ge (Nat.le_refl _)) (shift ?_)
        simp only [spec_AddToStage.j1]
        exact neg (by simp) (now rfl)
    exact main
  · rw [if_neg ht]
    have stop:Ev (fun k=>spec_AddToStage.j1 k l ids ids 0 false) ids:=by
      refine shift ?_
      simp only [spec_AddToStage.j1]
      exact neg (by simp) (now rfl)
    refine shift ?_
    simp only [spec_AddToStage.l0]
    by_cases h0:l.length=0
    · exact neg (by omega) stop
    · refine pos (by omega) (Ev.bind (spec_IsTogether_ev l ids (by omega) (by omega)) ?_)
      rw [Bool.eq_false_iff.mpr ht]
      exact stop

theorem paths_len {l:List S79} (h:arePaths l=true):l.length≤12:=by
  simp only [arePaths,Bool.and_eq_true,decide_eq_true_eq] at h
  exact h.2
theorem control_paths {l:List S79} {s:List Int} {a:Int} {n:List Int} {b:Int} (h:isControl l s a n b=true):arePaths l=true:=together_paths ((isControl_iff l s a n b).1 h).2.1
def nextSt (l:List S79) (s:List Int) (a:Int) (n:List Int) (b:Int) (w:List S84):List Int:=if ¬ longWant w s=0∧isControl l s a n b=true∧areWants l w=true then addTo l [longWant w s] else []
theorem nextSt_len (l:List S79) (s:List Int) (a:Int) (n:List Int) (b:Int) (w:List S84):(nextSt l s a n b w).length≤13:=by
  unfold nextSt
  split
  · rename_i h
    have h12:=paths_len (control_paths h.2.1)
    unfold addTo
    split
    · have:=addIn_len l [longWant w s] l.length
      simp at this
      omega
    · simp
  · simp
theorem spec_NextStage_ev (l:List S79) (s:List Int) (a:Int) (n:List Int) (b:Int) (w:List S84) (hl:l.length≤1048576) (hs:s.length≤1048576) (hn:n.length≤1048576) (hw:w.length≤1048576):Ev (fun k=>spec_NextStage.f k l s a n b w) (nextSt l s a n b w):=by
  unfold spec_NextStage.f
  refine Ev.bind (spec_LongestWant_ev w s hw hs) ?_
  by_cases h0:longWant w s=0
  · exact pos h0 (now (if_neg (fun q=>q.1 h0)).symm)
  · refine neg h0 (Ev.bind (spec_IsControl_ev l s a n b hl hs hn) ?_)
    by_cases h1:isControl l s a n b=true
    · refine pos h1 (Ev.bind (spec_AreWants_ev l w hl hw) ?_)
      have h12:=paths_len (control_paths h1)
      by_cases h2:areWants l w=true
      · have e:nextSt l s a n b w=addTo l [longWant w s]:=if_pos ⟨h0,h1,h2⟩
        rw [e]
        exact pos h2 (Ev.bind (spec_AddToStage_at l [longWant w s] (by omega) (by simp)) (now rfl))
      · exact neg h2 (now (if_neg (fun q=>h2 q.2.2)).symm)
    · exact neg h1 (now (if_neg (fun q=>h1 q.2.1)).symm)

def notWalk (l:List S79) (st:List Int) (i:Nat):Bool:=!decide (fp l (rd st i)≥0∧(rd_T79 l (fp l (rd st i))).f1=2)
def leastG (l:List S79) (st:List Int):Int:=if (List.range st.length).all (notWalk l st)=true then 5 else 7
theorem spec_LeastGreen_ev (l:List S79) (st:List Int) (hl:l.length≤1048576) (hs:st.length≤1048576):Ev (fun k=>spec_LeastGreen.f k l st) (leastG l st):=by
  unfold spec_LeastGreen.f leastG
  have find:∀ n,Ev (fun k=>spec_FindPath.f k l n) (fp l n):=fun n=>spec_FindPath_ev l n (by omega)
  have good:∀ j r,j<st.length→notWalk l st j=true→Ev (fun k=>spec_LeastGreen.l0 k l st ((j+1:Nat):Int)) r→Ev (fun k=>spec_LeastGreen.l0 k l st (j:Int)) r:=by
    intro j r hj ok h
    simp only [notWalk,Bool.not_eq_true',decide_eq_false_iff_not] at ok
    have:=fp_range l (rd st j)
    refine shift ?_
    simp only [spec_LeastGreen.l0]
    rw [succ_wrap (by omega)]
    refine pos (nat_lt hj) (pos (by omega) (Ev.bind (find _) ?_))
    by_cases h0:fp l (rd st j)≥0
    · exact pos h0 (pos h0 (pos (by omega) (neg (fun g=>ok ⟨h0,g⟩) h)))
    · exact neg h0 h
  by_cases h:(List.range st.length).all (notWalk l st)=true
  · rw [if_pos h]
    refine ok_loop (g:=fun k j=>spec_LeastGreen.l0 k l st (j:Int)) st.length _ h good ?_
    refine shift ?_
    simp only [spec_LeastGreen.l0]
    exact neg (nat_ge (Nat.le_refl _)) (now rfl)
  · rw [if_neg h]
    refine bad_loop (g:=fun k j=>spec_LeastGreen.l0 k l st (j:Int)) st.length _ 7 h good ?_
    intro j hj ok
    simp only [notWalk,Bool.not_eq_false',decide_eq_true_eq] at ok
    have:=fp_range l (rd st j)
    refine shift ?_
    simp only [spec_LeastGreen.l0]
    exact pos (nat_lt hj) (pos (by omega) (Ev.bind (find _) (pos ok.1 (pos ok.1 (pos (by omega) (pos ok.2 (now rfl)))))))

def canEnd (l:List S79) (s:List Int) (a:Int) (n:List Int) (b:Int):Bool:=isControl l s a n b && (decide (n.length=0) && decide (a≥leastG l s))
theorem spec_CanEnd_ev (l:List S79) (s:List Int) (a:Int) (n:List Int) (b:Int) (hl:l.length≤1048576) (hs:s.length≤1048576) (hn:n.length≤1048576):Ev (fun k=>spec_CanEnd.f k l s a n b) (canEnd l s a n b):=by
  unfold spec_CanEnd.f canEnd
  refine Ev.bind (spec_IsControl_ev l s a n b hl hs hn) ?_
  by_cases h:isControl l s a n b=true
  · rw [h,Bool.true_and]
    refine pos rfl ?_
    by_cases h0:n.length=0
    · rw [decide_eq_true h0,Bool.true_and]
      exact pos (by omega) (Ev.bind (spec_LeastGreen_ev l s hl hs) (now rfl))
    · rw [decide_eq_false h0,Bool.false_and]
      exact neg (by omega) (now rfl)
  · rw [Bool.eq_false_iff.mpr h,Bool.false_and]
    exact neg (by decide) (now rfl)

def anyIn (w:List S84) (s:List Int):Nat→Bool
  | 0=>false
  | j+1=>anyIn w s j || decide ((rd_T84 w (j:Int)).f0 ∈ s)
def mustC (l:List S79) (s:List Int) (a:Int) (n:List Int) (b:Int) (w:List S84):Bool:=canEnd l s a n b && (decide (0<(nextSt l s a n b w).length) && (decide (a≥60) || !anyIn w s w.length))
theorem spec_MustChange_ev (l:List S79) (s:List Int) (a:Int) (n:List Int) (b:Int) (w:List S84) (hl:l.length≤1048576) (hs:s.length≤1048576) (hn:n.length≤1048576) (hw:w.length≤1048576):Ev (fun k=>spec_MustChange.f k l s a n b w) (mustC l s a n b w):=by
  unfold spec_MustChange.f
  have main:Ev (fun k=>spec_MustChange.l0 k l w (anyIn w s 0) ((0:Nat):Int) s a n b) (mustC l s a n b w):=by
    refine loop_from (g:=fun k j=>spec_MustChange.l0 k l w (anyIn w s j) (j:Int) s a n b) 0 w.length (by omega) (fun j _ hj h=>?_) ?_
    · refine shift ?_
      simp only [spec_MustChange.l0]
      rw [succ_wrap (j:=j) (by omega)]
      refine pos (nat_lt hj) ?_
      rw [anyIn] at h
      by_cases h1:anyIn w s j=true
      · rw [h1,Bool.true_or] at h
        exact pos h1 h
      · rw [Bool.eq_false_iff.mpr h1,Bool.false_or] at h
        exact neg h1 (pos (by omega) (Ev.bind (spec_l6Has_ev s _ (by omega)) h))
    · refine shift ?_
      simp only [spec_MustChange.l0]
      refine neg (nat_ge (Nat.le_refl _)) (Ev.bind (spec_CanEnd_ev l s a n b hl hs hn) ?_)
      unfold mustC
      by_cases h1:canEnd l s a n b=true
      · rw [h1,Bool.true_and]
        refine pos rfl (Ev.bind (spec_NextStage_ev l s a n b w hl hs hn hw) ?_)
        by_cases h2:0<(nextSt l s a n b w).length
        · rw [decide_eq_true h2,Bool.true_and]
          refine pos (by omega) ?_
          by_cases h3:anyIn w s w.length=true
          · rw [h3]
            exact pos rfl (now (by simp))
          · rw [Bool.eq_false_iff.mpr h3]
            exact neg (by decide) (now (by simp))
        · rw [decide_eq_false h2,Bool.false_and]
          exact neg (by omega) (now rfl)
      · rw [Bool.eq_false_iff.mpr h1,Bool.false_and]
        exact neg (by decide) (now rfl)
  exact main

theorem eqAll {a b:List Int} (hl:a.length=b.length):(List.range b.length).all (fun i=>decide (rd a (i:Int)=rd b (i:Int)))=decide (a=b):=by
  by_cases h:a=b
  · subst h
    simp
  · rw [decide_eq_false h]
    apply Bool.eq_false_iff.2
    intro g
    refine h (List.ext_getElem hl (fun i h1 h2=>?_))
    have:=List.all_eq_true.1 g i (List.mem_range.2 h2)
    simpa [rd_get a i h1,rd_get b i h2] using this
theorem spec_EqualInts_ev (a b:List Int) (ha:a.length≤1048576):Ev (fun k=>spec_EqualInts.f k a b) (decide (a=b)):=by
  unfold spec_EqualInts.f
  by_cases h:a.length=b.length
  · refine pos (by omega) ?_
    rw [←eqAll h]
    refine all_loop (g:=fun k j=>spec_EqualInts.l0 k a b (j:Int)) b.length (fun i=>decide (rd a (i:Int)=rd b (i:Int))) true ?_ ?_ ?_ |> (fun h=>by simpa using h)
    · intro j r hj ok hh
      refine shift ?_
      simp only [spec_EqualInts.l0]
      rw [succ_wrap (by omega)]
      exact pos (by omega) (pos (by omega) (pos (by omega) (pos (of_decide_eq_true ok) hh)))
    · intro j hj ok
      refine shift ?_
      simp only [spec_EqualInts.l0]
      exact pos (by omega) (pos (by omega) (pos (by omega) (neg (of_decide_eq_false ok) (now rfl))))
    · refine shift ?_
      simp only [spec_EqualInts.l0]
      exact neg (by omega) (now rfl)
  · refine neg (by omega) (now ?_)
    rw [decide_eq_false (fun e=>h (by rw [e]))]

def canAsk (l:List S79) (s:List Int) (a:Int) (n:List Int) (b:Int) (st:List Int):Prop:=canEnd l s a n b=true∧¬ st.length=0∧together l st=true∧¬ st=s
def askC (l:List S79) (s:List Int) (a:Int) (n:List Int) (b:Int) (st:List Int):List Int×Int×List Int×Int×Bool:=
  if canEnd l s a n b=true∧¬ st.length=0∧together l st=true∧¬ st=s then (if clearB l s st=0 then (st,0,[],0,true) else (s,a,st,clearB l s st,true)) else (s,a,n,b,false)
theorem askC_no {l:List S79} {s:List Int} {a:Int} {n:List Int} {b:Int} {st:List Int} (h:¬ canAsk l s a n b st):askC l s a n b st=(s,a,n,b,false):=if_neg h
theorem askC_yes {l:List S79} {s:List Int} {a:Int} {n:List Int} {b:Int} {st:List Int} (h:canAsk l s a n b st):askC l s a n b st=if clearB l s st=0 then (st,0,[],0,true) else (s,a,st,clearB l s st,true):=if_pos h
theorem spec_AskStage_ev (l:List S79) (s:List Int) (a:Int) (n:List Int) (b:Int) (st:List Int) (hl:l.length≤1048576) (hs:s.length≤1048576) (hn:n.length≤1048576) (hst:st.length≤1048576):Ev (fun k=>spec_AskStage.f k l s a n b st) (askC l s a n b st):=by
  unfold spec_AskStage.f
  have no:¬ canAsk l s a n b st→Ev (fun k=>spec_AskStage.j0 k l st true s a n b s a n b) (askC l s a n b st):=by
    intro h
    rw [askC_no h]
    refine shift ?_
    simp only [spec_AskStage.j0]
    exact pos trivial (now rfl)
  have yes:canAsk l s a n b st→Ev (fun k=>spec_AskStage.j0 k l st false s a n b s a n b) (askC l s a n b st):=by
    intro h
    rw [askC_yes h]
    refine shift ?_
    simp only [spec_AskStage.j0,Option.bind_some,List.nil_append,List.length_nil]
    refine neg (by decide) (Ev.bind (spec_ClearBetween_ev l s st hl hs hst) ?_)
    by_cases h0:clearB l s st=0
    · exact pos h0 (pos (by omega) (now (if_pos h0).symm))
    · exact neg h0 (pos (by omega) (now (if_neg h0).symm))
  refine bindc (spec_l14Copy_eq s a n b hs hn) (Ev.bind (spec_CanEnd_ev l s a n b hl hs hn) ?_)
  dsimp only
  by_cases h1:canEnd l s a n b=true
  · refine pos h1 ?_
    by_cases h2:st.length=0
    · exact pos (by omega) (no (fun q=>q.2.1 h2))
    · refine neg (by omega) (Ev.bind (spec_IsTogether_ev l st hl hst) ?_)
      by_cases h3:together l st=true
      · refine pos h3 (Ev.bind (spec_EqualInts_ev st s hst) ?_)
        by_cases h4:st=s
        · rw [decide_eq_true h4]
          exact no (fun q=>q.2.2.2 h4)
        · rw [decide_eq_false h4]
          exact yes ⟨h1,h2,h3,h4⟩
      · exact neg h3 (no (fun q=>h3 q.2.2.1))
  · exact neg h1 (no (fun q=>h1 q.1))

theorem control_of {l:List S79} {s:List Int} {a:Int} {n:List Int} {b:Int} (h1:¬ s.length=0) (h2:together l s=true) (h3:together l n=true) (h4:0≤a∧a≤1000000) (h5:if n.length=0 then b=0 else 1≤b∧b≤clearB l s n):isControl l s a n b=true:=(isControl_iff l s a n b).2 ⟨h1,h2,h3,h4,h5⟩
theorem tickC_control {l:List S79} {s:List Int} {a:Int} {n:List Int} {b:Int} (h:isControl l s a n b=true):isControl l (tickC l s a n b).1 (tickC l s a n b).2.1 (tickC l s a n b).2.2.1 (tickC l s a n b).2.2.2=true:=by
  obtain ⟨h1,h2,h3,h4,h5⟩:=(isControl_iff l s a n b).1 h
  have hp:=together_paths h2
  unfold tickC
  rw [if_pos h]
  by_cases h0:n.length=0
  · rw [if_pos h0]
    refine control_of h1 h2 h3 ?_ h5
    dsimp only
    unfold mn
    split <;> omega
  · rw [if_neg h0]
    rw [if_neg h0] at h5
    by_cases hb:b-1=0
    · rw [if_pos hb]
      exact control_of h0 h3 (together_nil hp) (by dsimp only;omega) (by simp)
    · rw [if_neg hb]
      refine control_of h1 h2 h3 h4 ?_
      dsimp only
      rw [if_neg h0]
      omega
theorem askC_control {l:List S79} {s:List Int} {a:Int} {n:List Int} {b:Int} (st:List Int) (h:isControl l s a n b=true):isControl l (askC l s a n b st).1 (askC l s a n b st).2.1 (askC l s a n b st).2.2.1 (askC l s a n b st).2.2.2.1=true:=by
  obtain ⟨h1,h2,h3,h4,h5⟩:=(isControl_iff l s a n b).1 h
  have hp:=together_paths h2
  by_cases hc:canAsk l s a n b st
  · rw [askC_yes hc]
    have hr:=clearB_range l s st
    by_cases h0:clearB l s st=0
    · rw [if_pos h0]
      exact control_of hc.2.1 hc.2.2.1 (together_nil hp) (by dsimp only;omega) (by simp)
    · rw [if_neg h0]
      refine control_of h1 h2 hc.2.2.1 h4 ?_
      dsimp only
      rw [if_neg hc.2.1]
      omega
  · rw [askC_no hc]
    exact h
def askedC (l:List S79) (s:List Int) (a:Int) (n:List Int) (b:Int) (w:List S84):List Int×Int×List Int×Int:=
  if mustC l s a n b w=true then ((askC l s a n b (nextSt l s a n b w)).1,(askC l s a n b (nextSt l s a n b w)).2.1,(askC l s a n b (nextSt l s a n b w)).2.2.1,(askC l s a n b (nextSt l s a n b w)).2.2.2.1) else tickC l s a n b
theorem askedC_control {l:List S79} {s:List Int} {a:Int} {n:List Int} {b:Int} (w:List S84) (h:isControl l s a n b=true):isControl l (askedC l s a n b w).1 (askedC l s a n b w).2.1 (askedC l s a n b w).2.2.1 (askedC l s a n b w).2.2.2=true:=by
  unfold askedC
  split
  · exact askC_control _ h
  · exact tickC_control h
theorem askedC_len (l:List S79) (s:List Int) (a:Int) (n:List Int) (b:Int) (w:List S84) (hs:s.length≤1048576) (hn:n.length≤1048576):(askedC l s a n b w).1.length≤1048576∧(askedC l s a n b w).2.2.1.length≤1048576:=by
  have hx:=nextSt_len l s a n b w
  unfold askedC
  split
  · unfold askC
    split
    · split
      · exact ⟨by dsimp only;omega,by simp⟩
      · exact ⟨hs,by dsimp only;omega⟩
    · exact ⟨hs,hn⟩
  · unfold tickC
    split
    · split
      · exact ⟨hs,hn⟩
      · split
        · exact ⟨hn,by simp⟩
        · exact ⟨hs,hn⟩
    · exact ⟨hs,hn⟩
def stepC (l:List S79) (s:List Int) (a:Int) (n:List Int) (b:Int) (w:List S84):List Int×Int×List Int×Int×List S84:=
  if isControl l s a n b=true∧areWants l w=true then ((askedC l s a n b w).1,(askedC l s a n b w).2.1,(askedC l s a n b w).2.2.1,(askedC l s a n b w).2.2.2,waitIn l (lightsOf l (askedC l s a n b w).1 (askedC l s a n b w).2.1 (askedC l s a n b w).2.2.1 (askedC l s a n b w).2.2.2) w w.length) else (s,a,n,b,w)
theorem spec_StepAsk_j1 (l:List S79) (s:List Int) (a:Int) (n:List Int) (b:Int) (w:List S84) (hl:l.length≤1048576) (hs:s.length≤1048576) (hn:n.length≤1048576) (hw:w.length≤1048576) (hc:isControl l s a n b=true) (hg:areWants l w=true) :
    Ev (fun k=>spec_StepAsk.j1 k l w [] s a n b) (s,a,n,b,waitIn l (lightsOf l s a n b) w w.length):=by
  have hg2:=(areWants_iff l w).1 hg
  have hvl:(lightsOf l s a n b).length=l.length:=by unfold lightsOf;rw [if_pos hc,lightsIn_len]
  refine shift ?_
  simp only [spec_StepAsk.j1]
  refine Ev.bind (spec_LightsOf_ev l s a n b hl hs hn) ?_
  obtain ⟨v,hv⟩:∃ v,v=lightsOf l s a n b:=⟨_,rfl⟩
  rw [←hv] at hvl ⊢
  have main:Ev (fun k=>spec_StepAsk.l0 k l w (waitIn l v w 0) v ((0:Nat):Int) s a n b) (s,a,n,b,waitIn l v w w.length):=by
    refine loop_from (g:=fun k j=>spec_StepAsk.l0 k l w (waitIn l v w j) v (j:Int) s a n b) 0 w.length (by omega) (fun j _ hj h=>?_) ?_
    · have hlen:=waitIn_len l v w j
      have hb:=hg2.2.1 w[j] (List.getElem_mem hj)
      rw [←rdW_get w j hj] at hb
      have hr:=fp_range l (rd_T84 w (j:Int)).f0
      obtain ⟨q,hq⟩:∃ q,q=fp l (rd_T84 w (j:Int)).f0:=⟨_,rfl⟩
      have hF:=spec_FindPath_ev l (rd_T84 w (j:Int)).f0 (by omega)
      rw [show impl_FindPath.from_ (rd_T84 w (j:Int)).f0 l 0=q from hq.symm] at hF
      rw [←hq] at hb hr
      refine shift ?_
      simp only [spec_StepAsk.l0]
      rw [succ_wrap (j:=j) (by omega),w64 (x:=(rd_T84 w (j:Int)).f1+1) (by omega) (by omega)]
      refine pos (nat_lt hj) (pos (by omega) (Ev.bind hF (pos (by omega) (pos (by omega) ?_))))
      by_cases h2:rd v q=1
      · have ns:¬ stays l v (rd_T84 w (j:Int))=true:=fun z=>by
          rw [stays,←hq] at z
          rcases of_decide_eq_true z with z|z|z
          · exact hb.1 z
          · omega
          · exact z h2
        rw [waitIn,if_neg ns] at h
        exact pos h2 h
      · have ys:stays l v (rd_T84 w (j:Int))=true:=by
          rw [stays,←hq]
          exact decide_eq_true (.inr (.inr h2))
        rw [waitIn,if_pos ys] at h
        exact neg h2 (bindc (spec_Min_eq _ _) (pos (by omega) h))
    · refine shift ?_
      simp only [spec_StepAsk.l0]
      exact neg (nat_ge (Nat.le_refl _)) (now rfl)
  exact main
theorem spec_StepAsk_ev (l:List S79) (s:List Int) (a:Int) (n:List Int) (b:Int) (w:List S84) (hl:l.length≤1048576) (hs:s.length≤1048576) (hn:n.length≤1048576) (hw:w.length≤1048576):Ev (fun k=>spec_StepAsk.f k l s a n b w) (stepC l s a n b w):=by
  unfold spec_StepAsk.f
  simp only [Option.bind_some]
  have no:¬ (isControl l s a n b=true∧areWants l w=true)→Ev (fun k=>spec_StepAsk.j0 k l w [] true s a n b) (stepC l s a n b w):=by
    intro h
    rw [show stepC l s a n b w=(s,a,n,b,w) from if_neg h]
    refine shift ?_
    simp only [spec_StepAsk.j0,List.length_nil,List.nil_append]
    exact pos trivial (bindc (spec_l14Copy_eq s a n b hs hn) (pos (by omega) (now rfl)))
  refine Ev.bind (spec_IsControl_ev l s a n b hl hs hn) ?_
  by_cases h1:isControl l s a n b=true
  · refine pos h1 (Ev.bind (spec_AreWants_ev l w hl hw) ?_)
    by_cases h2:areWants l w=true
    · rw [h2]
      have hx:=nextSt_len l s a n b w
      have hc:=askedC_control w h1
      have hlen:=askedC_len l s a n b w hs hn
      have hj:=spec_StepAsk_j1 l _ _ _ _ w hl hlen.1 hlen.2 hw hc h2
      rw [show stepC l s a n b w=_ from if_pos ⟨h1,h2⟩]
      refine shift ?_
      simp only [spec_StepAsk.j0]
      refine neg (by decide) (Ev.bind (spec_TickControl_ev l s a n b hl hs hn) (Ev.bind (spec_MustChange_ev l s a n b w hl hs hn hw) ?_))
      by_cases h3:mustC l s a n b w=true
      · rw [show askedC l s a n b w=_ from if_pos h3] at hj ⊢
        exact pos h3 (Ev.bind (spec_NextStage_ev l s a n b w hl hs hn hw) (Ev.bind (spec_AskStage_ev l s a n b _ hl hs hn (by omega)) hj))
      · rw [show askedC l s a n b w=_ from if_neg h3] at hj ⊢
        exact neg h3 hj
    · rw [Bool.eq_false_iff.mpr h2]
      exact no (fun q=>h2 q.2)
  · exact neg h1 (no (fun q=>h1 q.1))

theorem asc_len:∀ (b a:List Int),a.Pairwise (· < ·)→b.Pairwise (· < ·)→(∀ s ∈ a,s ∈ b)→a.length≤b.length:=by
  intro b
  induction b with
  | nil =>
    intro a _ _ h
    cases a with
    | nil=>simp
    | cons x r=>have:=h x List.mem_cons_self;cases this
  | cons y b ih =>
    intro a ha hb h
    cases a with
    | nil=>simp
    | cons x r =>
      have ha2:=List.pairwise_cons.1 ha
      have hb2:=List.pairwise_cons.1 hb
      rcases List.mem_cons.1 (h x List.mem_cons_self) with q|q
      · have:=ih r ha2.2 hb2.2 (fun s hs=>by
          rcases List.mem_cons.1 (h s (List.mem_cons_of_mem _ hs)) with z|z
          · have:=ha2.1 s hs;omega
          · exact z)
        simp;omega
      · have:=ih (x::r) ha hb2.2 (fun s hs=>by
          rcases List.mem_cons.1 (h s hs) with z|z
          · have h1:=hb2.1 x q
            rcases List.mem_cons.1 hs with z2|z2
            · omega
            · have:=ha2.1 s z2;omega
          · exact z)
        simp at this ⊢;omega
theorem paths_asc {l:List S79} (h:arePaths l=true):(l.map (·.f0)).Pairwise (· < ·):=by
  simp only [arePaths,Bool.and_eq_true] at h
  have hst:∀ j:Nat,0<j→j<l.length→(rd_T79 l ((j:Int)-1)).f0<(rd_T79 l (j:Int)).f0:=by
    intro j h0 hj
    have:=List.all_eq_true.1 h.1 j (List.mem_range.2 hj)
    simp only [pathAt,Bool.and_eq_true,decide_eq_true_eq] at this
    exact this.2 h0
  have hlt:∀ (a b:Nat),a<b→b<l.length→(rd_T79 l (a:Int)).f0<(rd_T79 l (b:Int)).f0:=by
    intro a b
    induction b with
    | zero=>intro h;omega
    | succ b ih =>
      intro h1 h2
      have q:=hst (b+1) (by omega) h2
      rw [show ((b+1:Nat):Int)-1=(b:Int) by omega] at q
      rcases Nat.lt_or_ge a b with z|z
      · have:=ih z (by omega);omega
      · have:a=b:=by omega
        rw [this];exact q
  rw [List.pairwise_map]
  refine List.pairwise_iff_getElem.2 (fun i j hi hj hij=>?_)
  have:=hlt i j hij hj
  rwa [show rd_T79 l (i:Int)=l[i] by simp [rd_T79,hi],show rd_T79 l (j:Int)=l[j] by simp [rd_T79,hj]] at this
theorem wants_len {l:List S79} {w:List S84} (h:areWants l w=true):w.length≤12:=by
  obtain ⟨h1,h2,h3⟩:=(areWants_iff l w).1 h
  have h12:=paths_len h1
  have:=asc_len (l.map (·.f0)) (w.map (·.f0)) (by rw [List.pairwise_map];exact h3) (paths_asc h1) (fun s hs=>by
    obtain ⟨x,hx,rfl⟩:=List.mem_map.1 hs
    have hf:=(h2 x hx).1
    have hr:=fp_range l x.f0
    have hi:=fp_id l x.f0 hf
    obtain ⟨j,hj⟩:=Int.eq_ofNat_of_zero_le (show 0≤fp l x.f0 by omega)
    rw [hj] at hi
    have hjl:j<l.length:=by omega
    rw [show rd_T79 l (j:Int)=l[j] by simp [rd_T79,hjl]] at hi
    exact List.mem_map.2 ⟨l[j],List.getElem_mem hjl,hi⟩)
  simp at this
  omega
/-- The wants behind the first j calls, of which those of the second t are heard. -/
def callsIn (l:List S79) (w:List S84) (c:List S73) (t:Int):Nat→List S84
  | 0=>w
  | j+1=>if (rd_T73 c (j:Int)).f1=t then (addW l (callsIn l w c t j) (rd_T73 c (j:Int)).f0).1 else callsIn l w c t j
theorem callsIn_wants (l:List S79) (w:List S84) (c:List S73) (t:Int) (h:areWants l w=true) (j:Nat):areWants l (callsIn l w c t j)=true:=by
  induction j with
  | zero=>exact h
  | succ j ih =>
    rw [callsIn]
    split
    · exact addW_wants l _ _ ih
    · exact ih
def askIn (l:List S79) (c:List S73):Nat→Int→List (List Int)→List Int→Int→List Int→Int→List S84→List (List Int)
  | 0,_,out,_,_,_,_,_=>out
  | d+1,t,out,s,a,n,b,w =>
    let r:=stepC l s a n b (callsIn l w c t c.length)
    askIn l c d (t+1) (out++[lightsOf l s a n b]) r.1 r.2.1 r.2.2.1 r.2.2.2.1 r.2.2.2.2
def askHistory (l:List S79) (s:List Int) (a:Int) (n:List Int) (b:Int) (w:List S84) (c:List S73) (q:Int):List (List Int):=
  if isControl l s a n b=true∧areWants l w=true∧0≤q∧q≤600 then askIn l c q.toNat 0 [] s a n b w else []
theorem step_keeps {l:List S79} {s:List Int} {a:Int} {n:List Int} {b:Int} {w:List S84} (h1:isControl l s a n b=true) (h2:areWants l w=true) (hs:s.length≤1048576) (hn:n.length≤1048576) :
    isControl l (stepC l s a n b w).1 (stepC l s a n b w).2.1 (stepC l s a n b w).2.2.1 (stepC l s a n b w).2.2.2.1=true∧areWants l (stepC l s a n b w).2.2.2.2=true∧(stepC l s a n b w).1.length≤1048576∧(stepC l s a n b w).2.2.1.length≤1048576:=by
  unfold stepC
  rw [if_pos ⟨h1,h2⟩]
  have hl:=askedC_len l s a n b w hs hn
  exact ⟨askedC_control w h1,waitIn_wants l _ w h2,hl.1,hl.2⟩
theorem spec_AskHistory_calls (l:List S79) (c:List S73) (q:Int) (out:List (List Int)) (t:Int) (s:List Int) (a:Int) (n:List Int) (b:Int) (w:List S84) (r:List (List Int)) (hl:l.length≤1048576) (hc:c.length≤1048576) (hg:areWants l w=true) (h:Ev (fun k=>spec_AskHistory.l1 k l (callsIn l w c t c.length) c q out t (c.length:Int) s a n b) r) :
    Ev (fun k=>spec_AskHistory.l1 k l w c q out t ((0:Nat):Int) s a n b) r:=by
  have main:Ev (fun k=>spec_AskHistory.l1 k l (callsIn l w c t 0) c q out t ((0:Nat):Int) s a n b) r:=by
    refine loop_from (g:=fun k j=>spec_AskHistory.l1 k l (callsIn l w c t j) c q out t (j:Int) s a n b) 0 c.length (by omega) (fun j _ hj h=>?_) h
    have hw:=wants_len (callsIn_wants l w c t hg j)
    refine shift ?_
    simp only [spec_AskHistory.l1]
    rw [succ_wrap (j:=j) (by omega)]
    rw [callsIn] at h
    refine pos (nat_lt hj) (pos (by omega) ?_)
    by_cases h1:(rd_T73 c (j:Int)).f1=t
    · rw [if_pos h1] at h
      exact pos h1 (Ev.bind (spec_AddWant_ev l _ _ hl (by omega)) h)
    · rw [if_neg h1] at h
      exact neg h1 h
  exact main
theorem spec_AskHistory_in (l:List S79) (c:List S73) (q:Nat) (hq:q≤600) (hl:l.length≤1048576) (hc:c.length≤1048576):∀ (d t:Nat) (out:List (List Int)) (s:List Int) (a:Int) (n:List Int) (b:Int) (w:List S84),t+d=q→out.length=t→isControl l s a n b=true→areWants l w=true→s.length≤1048576→n.length≤1048576 →
    Ev (fun k=>spec_AskHistory.l0 k l w c (q:Int) out (t:Int) s a n b) (askIn l c d (t:Int) out s a n b w):=by
  intro d
  induction d with
  | zero =>
    intro t out s a n b w ht ho h1 h2 hs hn
    refine shift ?_
    simp only [spec_AskHistory.l0]
    exact neg (by omega) (now rfl)
  | succ d ih =>
    intro t out s a n b w ht ho h1 h2 hs hn
    have hg:=callsIn_wants l w c (t:Int) h2 c.length
    have hw:=wants_len hg
    obtain ⟨k1,k2,k3,k4⟩:=step_keeps h1 hg hs hn
    have hI:=ih (t+1) (out++[lightsOf l s a n b]) _ _ _ _ _ (by omega) (by simp;omega) k1 k2 k3 k4
    refine shift ?_
    simp only [spec_AskHistory.l0]
    refine pos (by omega) (Ev.bind (spec_LightsOf_ev l s a n b hl hs hn) (pos (by omega) ?_))
    refine spec_AskHistory_calls l c (q:Int) _ (t:Int) s a n b w _ hl hc h2 (shift ?_)
    simp only [spec_AskHistory.l1]
    rw [succ_wrap (j:=t) (by omega)]
    exact neg (nat_ge (Nat.le_refl _)) (Ev.bind (spec_StepAsk_ev l s a n b _ hl hs hn (by omega)) hI)
theorem spec_AskHistory_ev (l:List S79) (s:List Int) (a:Int) (n:List Int) (b:Int) (w:List S84) (c:List S73) (q:Int) (hl:l.length≤1048576) (hs:s.length≤1048576) (hn:n.length≤1048576) (hw:w.length≤1048576) (hc:c.length≤1048576):Ev (fun k=>spec_AskHistory.f k l s a n b w c q) (askHistory l s a n b w c q):=by
  unfold spec_AskHistory.f
  simp only [Option.bind_some]
  have no:¬ (isControl l s a n b=true∧areWants l w=true∧0≤q∧q≤600)→Ev (fun k=>spec_AskHistory.j0 k l w c q [] true s a n b) (askHistory l s a n b w c q):=by
    intro h
    rw [show askHistory l s a n b w c q=[] from if_neg h]
    refine shift ?_
    simp only [spec_AskHistory.j0]
    exact pos trivial (now rfl)
  refine Ev.bind (spec_IsControl_ev l s a n b hl hs hn) ?_
  by_cases h1:isControl l s a n b=true
  · refine pos h1 (Ev.bind (spec_AreWants_ev l w hl hw) ?_)
    by_cases h2:areWants l w=true
    · refine pos h2 (bindc (spec_l1In_eq _ _ _) ?_)
      by_cases h3:0≤q∧q≤600
      · rw [decide_eq_true h3]
        rw [show askHistory l s a n b w c q=_ from if_pos ⟨h1,h2,h3⟩]
        obtain ⟨m,rfl⟩:=Int.eq_ofNat_of_zero_le h3.1
        refine shift ?_
        simp only [spec_AskHistory.j0]
        refine neg (by decide) ?_
        exact spec_AskHistory_in l c m (by omega) hl hc m 0 [] s a n b w (by omega) rfl h1 h2 hs hn
      · rw [decide_eq_false h3]
        exact no (fun z=>h3 z.2.2)
    · exact neg h2 (no (fun z=>h2 z.2.1))
  · exact neg h1 (no (fun z=>h1 z.1))

def cPath (x:S81):S79:=⟨x.f0,x.f1,x.f2,x.f3⟩
theorem laws_toPathS_ev (l:List S81) (hl:l.length≤1048576):Ev (fun k=>laws_toPathS.f k l) (l.map cPath):=by
  unfold laws_toPathS.f
  refine pos (by omega) (pos (by omega) ?_)
  exact copied (g:=fun k y i=>laws_toPathS.l0 k l y i) l cPath z79 (fun j hj y r hy h=>by
    refine shift ?_
    simp only [laws_toPathS.l0]
    refine pos (nat_lt hj) (pos (by omega) (bindc rfl (pos (by omega) ?_)))
    rw [succ_wrap (by omega)]
    simpa [rd_T81,cPath,hj] using h) (fun y=>by
    refine shift ?_
    simp only [laws_toPathS.l0]
    exact neg (nat_ge (Nat.le_refl _)) (now rfl))

theorem laws_toIntS_ev (l:List Int) (hl:l.length≤17592186044416):Ev (fun k=>laws_toIntS.f k l) l:=by
  unfold laws_toIntS.f
  refine pos (by omega) (pos (by omega) ?_)
  have h:=copied (g:=fun k y i=>laws_toIntS.l0 k l y i) l id 0 (fun j hj y r hy h=>by
    refine shift ?_
    simp only [laws_toIntS.l0]
    refine pos (nat_lt hj) (pos (by omega) (pos (by omega) ?_))
    rw [rd_get _ _ hj,succ_wrap (by omega)]
    exact h) (fun y=>by
    refine shift ?_
    simp only [laws_toIntS.l0]
    exact neg (nat_ge (Nat.le_refl _)) (now rfl))
  simpa using h

theorem laws_toControl_ev (s:List Int) (t:Int) (n:List Int) (b:Int) (hs:s.length≤1048576) (hn:n.length≤1048576):Ev (fun k=>laws_toControl.f k s t n b) (s,t,n,b):=by
  unfold laws_toControl.f
  exact Ev.bind (laws_toIntS_ev s (by omega)) (Ev.bind (laws_toIntS_ev n (by omega)) (now rfl))

def cWant (x:S86):S84:=⟨x.f0,x.f1⟩
theorem laws_toWantS_ev (l:List S86) (hl:l.length≤1048576):Ev (fun k=>laws_toWantS.f k l) (l.map cWant):=by
  unfold laws_toWantS.f
  refine pos (by omega) (pos (by omega) ?_)
  exact copied (g:=fun k y i=>laws_toWantS.l0 k l y i) l cWant z84 (fun j hj y r hy h=>by
    refine shift ?_
    simp only [laws_toWantS.l0]
    refine pos (nat_lt hj) (pos (by omega) (bindc rfl (pos (by omega) ?_)))
    rw [succ_wrap (by omega)]
    simpa [rd_T86,cWant,hj] using h) (fun y=>by
    refine shift ?_
    simp only [laws_toWantS.l0]
    exact neg (nat_ge (Nat.le_refl _)) (now rfl))

def cCall (x:S88):S73:=⟨x.f0,x.f1⟩
theorem laws_toCallS_ev (l:List S88) (hl:l.length≤1048576):Ev (fun k=>laws_toCallS.f k l) (l.map cCall):=by
  unfold laws_toCallS.f
  refine pos (by omega) (pos (by omega) ?_)
  exact copied (g:=fun k y i=>laws_toCallS.l0 k l y i) l cCall z73 (fun j hj y r hy h=>by
    refine shift ?_
    simp only [laws_toCallS.l0]
    refine pos (nat_lt hj) (pos (by omega) (bindc rfl (pos (by omega) ?_)))
    rw [succ_wrap (by omega)]
    simpa [rd_T88,cCall,hj] using h) (fun y=>by
    refine shift ?_
    simp only [laws_toCallS.l0]
    exact neg (nat_ge (Nat.le_refl _)) (now rfl))

theorem impl_InRange_eq (a b c:Int):impl_InRange.f a b c=some (decide (b≤a∧a≤c)):=by
  unfold impl_InRange.f
  by_cases h:b≤a
  · rw [if_pos h]
    simp [h]
  · rw [if_neg h]
    simp [h]

theorem impl_IsPath_eq (a b c d:Int):impl_IsPath.f a b c d=some (isPath a b c d):=by
  unfold impl_IsPath.f isPath
  simp only [impl_InRange_eq,Option.bind_some]
  by_cases h1:1≤a∧a≤20 <;> by_cases h2:1≤b∧b≤3 <;> by_cases h3:0≤c∧c≤3 <;> by_cases h4:0≤d∧d≤3 <;> simp [h1,h2,h3,h4]

theorem impl_ArePaths_ev (l:List S79):Ev (fun k=>impl_ArePaths.f k l) (arePaths l):=by
  unfold impl_ArePaths.f arePaths
  by_cases hr:l.length≤12
  · rw [decide_eq_true hr]
    refine neg (by omega) (all_loop (g:=fun k j=>impl_ArePaths.l0 k l l (l.length:Int) (j:Int)) l.length (pathAt l) _ ?_ ?_ ?_)
    · intro j r hj ok h
      simp only [pathAt,Bool.and_eq_true,decide_eq_true_eq] at ok
      refine shift ?_
      simp only [impl_ArePaths.l0]
      refine pos (nat_lt hj) (pos (by omega) (pos (nat_lt hj) (bindc (impl_IsPath_eq _ _ _ _) (pos ok.1 ?_))))
      rw [succ_wrap (by omega)]
      by_cases h0:(j:Int)>0
      · rw [w64 (by omega) (by omega)]
        exact pos h0 (pos (by omega) (pos (by omega) (neg (by have:=ok.2 (by omega);omega) h)))
      · exact neg h0 h
    · intro j hj ok
      refine shift ?_
      simp only [impl_ArePaths.l0]
      refine pos (nat_lt hj) (pos (by omega) (pos (nat_lt hj) (bindc (impl_IsPath_eq _ _ _ _) ?_)))
      by_cases h1:isPath (rd_T79 l j).f0 (rd_T79 l j).f1 (rd_T79 l j).f2 (rd_T79 l j).f3=true
      · refine pos h1 ?_
        have h2:¬ (0<j→(rd_T79 l ((j:Int)-1)).f0<(rd_T79 l j).f0):=by simpa [pathAt,h1] using ok
        rw [w64 (x:=(j:Int)-1) (by omega) (by omega)]
        exact pos (by omega) (pos (by omega) (pos (by omega) (pos (by omega) (now rfl))))
      · exact neg h1 (now rfl)
    · refine shift ?_
      simp only [impl_ArePaths.l0]
      exact neg (nat_ge (Nat.le_refl _)) (now rfl)
  · rw [decide_eq_false hr,Bool.and_false]
    exact pos (by omega) (now rfl)

set_option maxRecDepth 10000 in
theorem impl_Interleave_ev (a b c d:Int) (ha:0≤a∧a≤3) (hb:0≤b∧b≤3) (hc:0≤c∧c≤3) (hd:0≤d∧d≤3):Ev (fun k=>impl_Interleave.f k (2*a) (2*b+1) (2*c) (2*d+1)) (if a=c∨b=d then false else interB (2*a) (2*b+1) (2*c) (2*d+1)):=by
  refine ⟨10,fun k hk=>?_⟩
  obtain ⟨m,rfl⟩:=Nat.exists_eq_add_of_le' hk
  rcases four_of ha with rfl|rfl|rfl|rfl <;> rcases four_of hb with rfl|rfl|rfl|rfl <;> rcases four_of hc with rfl|rfl|rfl|rfl <;> rcases four_of hd with rfl|rfl|rfl|rfl <;> (show impl_Interleave.f (m+10) _ _ _ _=some _;kernel_rfl)

theorem impl_InPlace_eq (a:Int) (h:0≤a∧a≤3):impl_InPlace.f a=some (2*a):=by
  unfold impl_InPlace.f
  rw [impl_InRange_eq,Option.bind_some,if_pos (by simpa using h),w64 (by omega) (by omega)]

theorem impl_OutPlace_eq (a:Int) (h:0≤a∧a≤3):impl_OutPlace.f a=some (2*a+1):=by
  unfold impl_OutPlace.f
  rw [impl_InRange_eq,Option.bind_some,if_pos (by simpa using h),w64 (x:=2*a) (by omega) (by omega),w64 (by omega) (by omega)]

theorem impl_Conflict_ev (a0 a1 a2 a3 b0 b1 b2 b3:Int):Ev (fun k=>impl_Conflict.f k a0 a1 a2 a3 b0 b1 b2 b3) (conflict a0 a1 a2 a3 b0 b1 b2 b3):=by
  have yes:Ev (fun k=>impl_Conflict.j0 k true a0 a1 a2 a3 b0 b1 b2 b3) false:=by
    refine shift ?_
    simp only [impl_Conflict.j0]
    exact pos trivial (now rfl)
  have no:isPath a0 a1 a2 a3=true→isPath b0 b1 b2 b3=true→Ev (fun k=>impl_Conflict.j0 k false a0 a1 a2 a3 b0 b1 b2 b3) (confl a1 a2 a3 b1 b2 b3):=by
    intro h1 h2
    have h1:=(isPath_iff _ _ _ _).1 h1
    have h2:=(isPath_iff _ _ _ _).1 h2
    refine shift ?_
    simp only [impl_Conflict.j0]
    refine neg (by simp) ?_
    unfold confl
    by_cases c1:a1=2
    · rw [if_pos c1]
      refine pos c1 ?_
      by_cases c2:b2=a2
      · exact pos c2 (now (by simp [c2]))
      · exact neg c2 (now (by simp [c2]))
    · rw [if_neg c1]
      refine neg c1 ?_
      by_cases c2:b1=2
      · rw [if_pos c2]
        refine pos c2 ?_
        by_cases c3:a2=b2
        · exact pos c3 (now (by simp [c3]))
        · exact neg c3 (now (by simp [c3]))
      · rw [if_neg c2]
        refine neg c2 ?_
        by_cases c3:a2=b2
        · rw [if_pos c3]
          have hi:=impl_Interleave_ev a2 a3 b2 b3 h1.2.2.1 h1.2.2.2.1 h2.2.2.1 h2.2.2.2.1
          rw [if_pos (.inl c3)] at hi
          exact pos c3 (bindc (impl_InPlace_eq _ h1.2.2.1) (bindc (impl_OutPlace_eq _ h1.2.2.2.1) (bindc (impl_InPlace_eq _ h2.2.2.1) (bindc (impl_OutPlace_eq _ h2.2.2.2.1) (Ev.bind hi (now rfl))))))
        · rw [if_neg c3]
          refine neg c3 ?_
          by_cases c4:a3=b3
          · rw [if_pos c4]
            exact pos c4 (now rfl)
          · rw [if_neg c4]
            have hi:=impl_Interleave_ev a2 a3 b2 b3 h1.2.2.1 h1.2.2.2.1 h2.2.2.1 h2.2.2.2.1
            rw [if_neg (fun g=>g.elim c3 c4)] at hi
            exact neg c4 (bindc (impl_InPlace_eq _ h1.2.2.1) (bindc (impl_OutPlace_eq _ h1.2.2.2.1) (bindc (impl_InPlace_eq _ h2.2.2.1) (bindc (impl_OutPlace_eq _ h2.2.2.2.1) (Ev.bind hi (now rfl))))))
  unfold impl_Conflict.f conflict
  refine bindc (impl_IsPath_eq _ _ _ _) ?_
  by_cases h1:isPath a0 a1 a2 a3=true
  · refine pos h1 (bindc (impl_IsPath_eq _ _ _ _) ?_)
    by_cases h2:isPath b0 b1 b2 b3=true
    · refine pos h2 ?_
      by_cases c1:a1=2
      · refine pos c1 ?_
        by_cases c2:b1=2
        · rw [if_neg (fun g=>g.2.2 ⟨c1,c2⟩),show (b1 == 2)=true by simp [c2]]
          exact yes
        · rw [if_pos ⟨h1,h2,fun g=>c2 g.2⟩,show (b1 == 2)=false by simp [c2]]
          exact no h1 h2
      · rw [if_pos ⟨h1,h2,fun g=>c1 g.1⟩]
        exact neg c1 (no h1 h2)
    · rw [if_neg (fun g=>h2 g.2.1)]
      exact neg h2 yes
  · rw [if_neg (fun g=>h1 g.1)]
    exact neg h1 yes

theorem impl_IsTogether_ev (l:List S79) (ids:List Int) (hl:l.length≤1048576) (hi:ids.length≤1048576):Ev (fun k=>impl_IsTogether.f k l ids) (together l ids):=by
  unfold impl_IsTogether.f together
  have find:∀ n,impl_FindPath.f l n=some (fp l n):=fun n=>impl_FindPath_eq l n
  refine Ev.bind (impl_ArePaths_ev l) ?_
  by_cases hp:arePaths l=true
  · rw [hp]
    refine pos rfl ?_
    have yes:∀ i x y z:Int,Ev (fun k=>impl_IsTogether.j1 k l ids i x ids y z true) false:=by
      intro i x y z
      refine shift ?_
      simp only [impl_IsTogether.j1]
      exact pos trivial (now rfl)
    have head:∀ (j:Nat) (r:Bool),j<ids.length→togHead l ids j=true→Ev (fun k=>impl_IsTogether.l1 k l ids (fp l (rd ids j)) ids (ids.length:Int) (j:Int) (ids.take j) (j:Int) 0) r→Ev (fun k=>impl_IsTogether.l0 k l ids ids (ids.length:Int) (j:Int)) r:=by
      intro j r hj ok h
      simp only [togHead,decide_eq_true_eq] at ok
      have no:Ev (fun k=>impl_IsTogether.j1 k l ids (j:Int) (fp l (rd ids j)) ids (ids.length:Int) (j:Int) false) r:=by
        refine shift ?_
        simp only [impl_IsTogether.j1]
        refine neg (by decide) (pos (by omega) (pos (by omega) ?_))
        rw [Int.toNat_natCast,take_len ids j hj]
        exact h
      refine shift ?_
      simp only [impl_IsTogether.l0]
      refine pos (nat_lt hj) (pos (by omega) (pos (nat_lt hj) (bindc (find _) (neg ok.1 ?_))))
      by_cases h0:(j:Int)>0
      · rw [w64 (x:=(j:Int)-1) (by omega) (by omega)]
        refine pos h0 (pos (by omega) (pos (by omega) ?_))
        rw [show decide (rd ids (j:Int)≤rd ids ((j:Int)-1))=false from decide_eq_false (by have:=ok.2 (by omega);omega)]
        exact no
      · exact neg h0 no
    have good:∀ (i j:Nat) (r:Bool),i<ids.length→(∀ q,q<i→0≤fp l (rd ids q)∧fp l (rd ids q)<l.length)→(0≤fp l (rd ids i)∧fp l (rd ids i)<l.length)→j<i→togPair l ids i j=true →
        Ev (fun k=>impl_IsTogether.l1 k l ids (fp l (rd ids i)) ids (ids.length:Int) (i:Int) (ids.take i) (i:Int) ((j+1:Nat):Int)) r→Ev (fun k=>impl_IsTogether.l1 k l ids (fp l (rd ids i)) ids (ids.length:Int) (i:Int) (ids.take i) (i:Int) (j:Int)) r:=by
      intro i j r hil hq hf hj ok h
      have hf2:=hq j hj
      refine shift ?_
      simp only [impl_IsTogether.l1]
      rw [succ_wrap (by omega),take_len ids i hil,rd_take ids i j hj]
      refine pos (nat_lt hj) (pos (by omega) (pos (nat_lt hj) (pos hf.1 (pos hf.2 (bindc (find _) (pos hf2.1 (pos hf2.2 (Ev.bind (impl_Conflict_ev _ _ _ _ _ _ _ _) (neg ?_ h)))))))))
      simpa [togPair,conP] using ok
    have bad:∀ (i j:Nat),i<ids.length→(∀ q,q<i→0≤fp l (rd ids q)∧fp l (rd ids q)<l.length)→(0≤fp l (rd ids i)∧fp l (rd ids i)<l.length)→j<i→togPair l ids i j=false →
        Ev (fun k=>impl_IsTogether.l1 k l ids (fp l (rd ids i)) ids (ids.length:Int) (i:Int) (ids.take i) (i:Int) (j:Int)) false:=by
      intro i j hil hq hf hj ok
      have hf2:=hq j hj
      refine shift ?_
      simp only [impl_IsTogether.l1]
      rw [take_len ids i hil,rd_take ids i j hj]
      refine pos (nat_lt hj) (pos (by omega) (pos (nat_lt hj) (pos hf.1 (pos hf.2 (bindc (find _) (pos hf2.1 (pos hf2.2 (Ev.bind (impl_Conflict_ev _ _ _ _ _ _ _ _) (pos ?_ (now rfl))))))))))
      simpa [togPair,conP] using ok
    refine all_loopI (g:=fun k j=>impl_IsTogether.l0 k l ids ids (ids.length:Int) (j:Int)) ids.length (togAt l ids) true ?_ ?_ ?_
    · intro j r hj ok h
      have okj:=ok j (Nat.le_refl _)
      have hf:=togAt_found okj
      simp only [togAt,Bool.and_eq_true] at okj
      refine head j r hj okj.1 ?_
      refine ok_loop (g:=fun k i=>impl_IsTogether.l1 k l ids (fp l (rd ids j)) ids (ids.length:Int) (j:Int) (ids.take j) (j:Int) (i:Int)) j _ okj.2 (fun i r hi o g=>good j i r hj (fun q hq=>togAt_found (ok q (by omega))) hf hi o g) ?_
      refine shift ?_
      simp only [impl_IsTogether.l1]
      refine neg (nat_ge (Nat.le_refl _)) ?_
      rw [succ_wrap (by omega)]
      exact h
    · intro j hj ok okj
      by_cases hh:togHead l ids j=true
      · have hall:¬ (List.range j).all (togPair l ids j)=true:=by
          intro g
          rw [togAt,hh,g] at okj
          exact absurd okj (by decide)
        have hf:0≤fp l (rd ids j)∧fp l (rd ids j)<l.length:=by
          have:=hh
          simp only [togHead,decide_eq_true_eq] at this
          have:=fp_range l (rd ids j)
          omega
        refine head j false hj hh ?_
        exact bad_loop (g:=fun k i=>impl_IsTogether.l1 k l ids (fp l (rd ids j)) ids (ids.length:Int) (j:Int) (ids.take j) (j:Int) (i:Int)) j _ false hall (fun i r hi o g=>good j i r hj (fun q hq=>togAt_found (ok q hq)) hf hi o g) (fun i hi o=>bad j i hj (fun q hq=>togAt_found (ok q hq)) hf hi o)
      · refine shift ?_
        simp only [impl_IsTogether.l0]
        refine pos (nat_lt hj) (pos (by omega) (pos (nat_lt hj) (bindc (find _) ?_)))
        by_cases h1:fp l (rd ids j)<0
        · exact pos h1 (yes _ _ _ _)
        · have h2:¬ (0<j→rd ids ((j:Int)-1)<rd ids j):=fun g=>hh (by simp only [togHead];exact decide_eq_true ⟨h1,g⟩)
          refine neg h1 (pos (by omega) ?_)
          rw [w64 (x:=(j:Int)-1) (by omega) (by omega)]
          refine pos (by omega) (pos (by omega) ?_)
          rw [show decide (rd ids (j:Int)≤rd ids ((j:Int)-1))=true from decide_eq_true (by omega)]
          exact yes _ _ _ _
    · intro _
      refine shift ?_
      simp only [impl_IsTogether.l0]
      exact neg (nat_ge (Nat.le_refl _)) (now rfl)
  · exact neg hp (now (by simp [hp]))

theorem impl_ClearOf_eq (a b c d:Int):impl_ClearOf.f a b c d=some (clearOf a b c d):=by
  unfold impl_ClearOf.f clearOf
  rw [impl_IsPath_eq,Option.bind_some]
  split
  · split
    · rfl
    · split <;> rfl
  · rfl

theorem impl_sieve_ev (a b:List Int) (ha:a.length≤1048576) (hb:b.length≤1048576):Ev (fun k=>impl_sieve.f k a b false) (closesL a b):=by
  unfold impl_sieve.f
  refine loop (g:=fun k j=>impl_sieve.l0 k b false (closesL (a.take j) b) a (a.length:Int) (j:Int)) (r:=closesL a b) a.length ?_ ?_ |> (fun h=>by simpa [closesL] using h)
  · intro j hj h
    refine shift ?_
    simp only [impl_sieve.l0]
    rw [succ_wrap (by omega),rd_get a j hj]
    rw [closesL,take_snoc a j hj,List.filter_append] at h
    refine pos (nat_lt hj) (pos (by omega) (pos (nat_lt hj) (Ev.bind (slices_Contains_int_int_ev b _ (by omega)) ?_)))
    by_cases c:a[j] ∈ b
    · rw [List.filter_cons,List.filter_nil,decide_eq_true c] at h
      rw [decide_eq_true c]
      refine neg (by decide) ?_
      simpa [closesL] using h
    · rw [List.filter_cons,List.filter_nil,decide_eq_false c] at h
      have hl:=closesL_length (a.take j) b
      rw [take_len a j hj] at hl
      rw [decide_eq_false c]
      refine pos rfl (pos (by omega) ?_)
      simpa [closesL] using h
  · refine shift ?_
    simp only [impl_sieve.l0]
    exact neg (nat_ge (Nat.le_refl _)) (now (by rw [List.take_length]))

theorem impl_Closes_ev (a b:List Int) (ha:a.length≤1048576) (hb:b.length≤1048576):Ev (fun k=>impl_Closes.f k a b) (closesL a b):=by
  unfold impl_Closes.f
  exact Ev.bind (impl_sieve_ev a b ha hb) (now rfl)

theorem impl_ClearBetween_ev (l:List S79) (a b:List Int) (hl:l.length≤1048576) (ha:a.length≤1048576) (hb:b.length≤1048576):Ev (fun k=>impl_ClearBetween.f k l a b) (clearB l a b):=by
  unfold impl_ClearBetween.f clearB
  have find:∀ n,impl_FindPath.f l n=some (fp l n):=fun n=>impl_FindPath_eq l n
  have hx:=closesL_length a b
  have hy:=closesL_length b a
  have ca:=impl_Closes_ev a b ha hb
  have cb:=impl_Closes_ev b a hb ha
  have stop:Ev (fun k=>impl_ClearBetween.j0 k l a b 0 true) 0:=by
    refine shift ?_
    simp only [impl_ClearBetween.j0]
    exact pos trivial (now rfl)
  refine Ev.bind (impl_IsTogether_ev l a hl ha) ?_
  by_cases h1:together l a=true
  · refine pos h1 (Ev.bind (impl_IsTogether_ev l b hl hb) ?_)
    by_cases h2:together l b=true
    · rw [if_pos ⟨h1,h2⟩,h2]
      have fa:∀ n,n ∈ closesL a b→0≤fp l n∧fp l n<l.length:=fun n hn=>together_found h1 n (closesL_mem hn)
      have fb:∀ n,n ∈ closesL b a→0≤fp l n∧fp l n<l.length:=fun n hn=>together_found h2 n (closesL_mem hn)
      refine shift ?_
      simp only [impl_ClearBetween.j0]
      refine neg (by decide) (Ev.bind ca ?_)
      generalize closesL a b=xs at hx fa ⊢
      generalize closesL b a=ys at hy fb cb ⊢
      refine loop (g:=fun k j=>impl_ClearBetween.l0 k l a b ((xs.take j).foldl (clrIn l ys) 0) xs (xs.length:Int) (j:Int)) (r:=xs.foldl (clrIn l ys) 0) xs.length ?_ ?_ |> (fun h=>by simpa using h)
      · intro j hj hh
        rw [foldl_take _ _ _ _ hj] at hh
        generalize (xs.take j).foldl (clrIn l ys) 0=n at hh ⊢
        have hfa:=fa _ (List.getElem_mem hj)
        refine shift ?_
        simp only [impl_ClearBetween.l0]
        rw [rd_get xs j hj]
        refine pos (nat_lt hj) (pos (by omega) (pos (nat_lt hj) (Ev.bind cb ?_)))
        refine loop (g:=fun k i=>impl_ClearBetween.l1 k l a b ((ys.take i).foldl (clrStep l xs[j]) n) xs[j] xs (xs.length:Int) (j:Int) ys (ys.length:Int) (i:Int)) (r:=xs.foldl (clrIn l ys) 0) ys.length ?_ ?_ |> (fun h=>by simpa using h)
        · intro i hi h2
          rw [foldl_take _ _ _ _ hi] at h2
          generalize (ys.take i).foldl (clrStep l xs[j]) n=m at h2 ⊢
          have hfb:=fb _ (List.getElem_mem hi)
          refine shift ?_
          simp only [impl_ClearBetween.l1]
          rw [succ_wrap (j:=i) (by omega),rd_get ys i hi]
          refine pos (nat_lt hi) (pos (by omega) (pos (nat_lt hi) (bindc (find _) (pos hfa.1 (pos hfa.2 (bindc (find _) (pos hfb.1 (pos hfb.2 (Ev.bind (impl_Conflict_ev _ _ _ _ _ _ _ _) ?_)))))))))
          rw [clrStep] at h2
          by_cases c:conP (rd_T79 l (fp l xs[j])) (rd_T79 l (fp l ys[i]))=true
          · rw [if_pos c] at h2
            exact pos c (bindc (impl_ClearOf_eq _ _ _ _) h2)
          · rw [if_neg c] at h2
            exact neg c h2
        · refine shift ?_
          simp only [impl_ClearBetween.l1]
          rw [succ_wrap (j:=j) (by omega),List.take_length]
          exact neg (nat_ge (Nat.le_refl _)) hh
      · refine shift ?_
        simp only [impl_ClearBetween.l0]
        rw [List.take_length]
        exact neg (nat_ge (Nat.le_refl _)) (now rfl)
    · rw [if_neg (fun g=>h2 g.2),show together l b=false by simpa using h2]
      exact stop
  · rw [if_neg (fun g=>h1 g.1)]
    exact neg h1 stop

theorem impl_IsControl_ev (l:List S79) (s:List Int) (a:Int) (n:List Int) (b:Int) (hl:l.length≤1048576) (hs:s.length≤1048576) (hn:n.length≤1048576):Ev (fun k=>impl_IsControl.f k l s a n b) (isControl l s a n b):=by
  unfold impl_IsControl.f
  have no:Ev (fun k=>impl_IsControl.j0 k l true s a n b) false:=by
    refine shift ?_
    simp only [impl_IsControl.j0]
    exact pos trivial (now rfl)
  have yes:Ev (fun k=>impl_IsControl.j0 k l false s a n b) (if n.length=0 then (b == 0) else decide (1≤b∧b≤clearB l s n)):=by
    refine shift ?_
    simp only [impl_IsControl.j0]
    refine neg (by decide) ?_
    by_cases h:n.length=0
    · rw [if_pos h]
      exact pos (by omega) (now rfl)
    · rw [if_neg h]
      exact neg (by omega) (Ev.bind (impl_ClearBetween_ev l s n hl hs hn) (bindc (impl_InRange_eq _ _ _) (now rfl)))
  unfold isControl
  refine Ev.bind (impl_IsTogether_ev l s hl hs) ?_
  by_cases h1:together l s=true
  · rw [h1,Bool.true_and]
    refine pos rfl (Ev.bind (impl_IsTogether_ev l n hl hn) ?_)
    by_cases h2:together l n=true
    · rw [h2,Bool.true_and]
      refine pos rfl ?_
      by_cases h0:s.length=0
      · rw [decide_eq_false (by omega),Bool.false_and]
        exact pos (by omega) no
      · rw [decide_eq_true h0,Bool.true_and]
        refine neg (by omega) (bindc (impl_InRange_eq _ _ _) ?_)
        by_cases h3:0≤a∧a≤1000000
        · rw [decide_eq_true h3,Bool.true_and]
          exact yes
        · rw [decide_eq_false h3,Bool.false_and]
          exact no
    · rw [Bool.eq_false_iff.mpr h2,Bool.false_and,Bool.and_false]
      exact neg (by decide) no
  · rw [Bool.eq_false_iff.mpr h1,Bool.false_and,Bool.and_false]
    exact neg (by decide) no

theorem impl_AreWants_ev (l:List S79) (w:List S84) (hl:l.length≤1048576) (hw:w.length≤1048576):Ev (fun k=>impl_AreWants.f k l w) (areWants l w):=by
  unfold impl_AreWants.f areWants
  refine Ev.bind (impl_ArePaths_ev l) ?_
  by_cases hp:arePaths l=true
  · refine pos hp ?_
    rw [hp]
    refine all_loop (g:=fun k j=>impl_AreWants.l0 k l w w (w.length:Int) (j:Int)) w.length (wantAt l w) true ?_ ?_ ?_
    · intro j r hj ok h
      simp only [wantAt,Bool.and_eq_true,decide_eq_true_eq] at ok
      refine shift ?_
      simp only [impl_AreWants.l0]
      refine pos (nat_lt hj) (pos (by omega) (pos (nat_lt hj) (bindc (impl_FindPath_eq l _) (neg ok.1 (bindc (impl_InRange_eq _ _ _) (pos (decide_eq_true ok.2.1) ?_))))))
      rw [succ_wrap (by omega)]
      by_cases h0:(j:Int)>0
      · rw [w64 (by omega) (by omega)]
        exact pos h0 (pos (by omega) (pos (by omega) (neg (by have:=ok.2.2 (by omega);omega) h)))
      · exact neg h0 h
    · intro j hj ok
      refine shift ?_
      simp only [impl_AreWants.l0]
      refine pos (nat_lt hj) (pos (by omega) (pos (nat_lt hj) (bindc (impl_FindPath_eq l _) ?_)))
      by_cases h1:fp l (rd_T84 w (j:Int)).f0<0
      · exact pos h1 (now rfl)
      · refine neg h1 (bindc (impl_InRange_eq _ _ _) ?_)
        by_cases h2:0≤(rd_T84 w (j:Int)).f1∧(rd_T84 w (j:Int)).f1≤100000
        · refine pos (decide_eq_true h2) ?_
          have h3:¬ (0<j→(rd_T84 w ((j:Int)-1)).f0<(rd_T84 w (j:Int)).f0):=fun q=>by
            rw [wantAt,decide_eq_true h1,decide_eq_true h2,decide_eq_true q] at ok
            cases ok
          rw [w64 (x:=(j:Int)-1) (by omega) (by omega)]
          exact pos (by omega) (pos (by omega) (pos (by omega) (pos (by omega) (now rfl))))
        · exact neg (by simpa using h2) (now rfl)
    · refine shift ?_
      simp only [impl_AreWants.l0]
      exact neg (nat_ge (Nat.le_refl _)) (now rfl)
  · rw [Bool.eq_false_iff.mpr hp,Bool.and_false]
    exact neg (by decide) (now rfl)

theorem impl_LightsOf_ev (l:List S79) (s:List Int) (a:Int) (n:List Int) (b:Int) (hl:l.length≤1048576) (hs:s.length≤1048576) (hn:n.length≤1048576):Ev (fun k=>impl_LightsOf.f k l s a n b) (lightsOf l s a n b):=by
  unfold impl_LightsOf.f lightsOf
  simp only [Option.bind_some]
  refine Ev.bind (impl_IsControl_ev l s a n b hl hs hn) ?_
  by_cases hc:isControl l s a n b=true
  · rw [if_pos hc]
    refine pos hc ?_
    have main:Ev (fun k=>impl_LightsOf.l0 k (lightsIn l s n 0) l (l.length:Int) ((0:Nat):Int) s a n b) (lightsIn l s n l.length):=by
      refine loop_from (g:=fun k j=>impl_LightsOf.l0 k (lightsIn l s n j) l (l.length:Int) (j:Int) s a n b) (r:=lightsIn l s n l.length) 0 l.length (by omega) (fun j _ hj h=>?_) ?_
      · have hlen:=lightsIn_len l s n j
        refine shift ?_
        simp only [impl_LightsOf.l0]
        rw [succ_wrap (j:=j) (by omega)]
        refine pos (nat_lt hj) (pos (by omega) (pos (nat_lt hj) (Ev.bind (slices_Contains_int_int_ev s _ (by omega)) ?_)))
        have e:lightsIn l s n (j+1)=lightsIn l s n j++[lightOne s n (rd_T79 l (j:Int)).f0]:=rfl
        rw [e] at h
        unfold lightOne at h
        by_cases h1:(rd_T79 l (j:Int)).f0 ∈ s
        · rw [if_pos h1] at h
          refine pos (decide_eq_true h1) ?_
          by_cases h2:n.length>0
          · rw [if_pos h2] at h
            refine pos (by omega) (Ev.bind (slices_Contains_int_int_ev n _ (by omega)) ?_)
            by_cases h3:(rd_T79 l (j:Int)).f0 ∈ n
            · rw [if_pos h3] at h
              exact pos (decide_eq_true h3) (pos (by omega) h)
            · rw [if_neg h3] at h
              exact neg (by simpa using h3) (pos (by omega) h)
          · rw [if_neg h2] at h
            exact neg (by omega) (pos (by omega) h)
        · rw [if_neg h1] at h
          exact neg (by simpa using h1) (pos (by omega) h)
      · refine shift ?_
        simp only [impl_LightsOf.l0]
        exact neg (nat_ge (Nat.le_refl _)) (now rfl)
    exact main
  · rw [if_neg hc]
    exact neg hc (now rfl)

theorem insWant_eq (w:List S84) (p:Int):impl_AddWant.l0 w p=insW w p:=by
  induction w with
  | nil=>rfl
  | cons x r ih=>simp only [impl_AddWant.l0,insW,ih]
theorem impl_AddWant_ev (l:List S79) (w:List S84) (p:Int) (hl:l.length≤1048576) (hw:w.length≤1048575):Ev (fun k=>impl_AddWant.f k l w p) (addW l w p):=by
  unfold impl_AddWant.f
  have hil:=insW_len w p
  refine pos (by omega) ?_
  rw [insWant_eq]
  by_cases h:∃ x ∈ w,x.f0=p
  · rw [addW_twice l w p h]
    obtain ⟨x,hx,e⟩:=h
    exact pos (List.any_eq_true.2 ⟨x,hx,by simpa using e⟩) (now rfl)
  · refine neg (fun q=>?_) (Ev.bind (impl_AreWants_ev l (insW w p) hl (by omega)) ?_)
    · obtain ⟨x,hx,e⟩:=List.any_eq_true.1 q
      exact h ⟨x,hx,by simpa using e⟩
    · by_cases h2:areWants l (insW w p)=true
      · exact pos h2 (now (if_pos h2).symm)
      · exact neg h2 (now (if_neg h2).symm)

theorem slices_Clone_int_int_eq (l:List Int) (hl:l.length≤1048576):slices_Clone_int_int.f l=some l:=by
  unfold slices_Clone_int_int.f
  rw [Option.bind_some,if_pos (by simp;omega)]
  simp

theorem impl_cloneControl_eq (s:List Int) (a:Int) (n:List Int) (b:Int) (hs:s.length≤1048576) (hn:n.length≤1048576):impl_cloneControl.f s a n b=some (s,a,n,b):=by
  unfold impl_cloneControl.f
  rw [slices_Clone_int_int_eq s hs,slices_Clone_int_int_eq n hn]
  rfl

def longEl (w:List S84) (s:List Int) (j:Nat):Int×Int:=if longAt w s j<0 then (0,0) else ((rd_T84 w (longAt w s j)).f0,(rd_T84 w (longAt w s j)).f1)
theorem impl_LongestWant_ev (w:List S84) (s:List Int) (hw:w.length≤1048576) (hs:s.length≤1048576):Ev (fun k=>impl_LongestWant.f k w s) (longWant w s):=by
  unfold impl_LongestWant.f
  have main:Ev (fun k=>impl_LongestWant.l0 k s (decide (¬ longAt w s 0<0)) w (w.length:Int) ((0:Nat):Int) (longEl w s 0).1 (longEl w s 0).2) (longWant w s):=by
    refine loop_from (g:=fun k j=>impl_LongestWant.l0 k s (decide (¬ longAt w s j<0)) w (w.length:Int) (j:Int) (longEl w s j).1 (longEl w s j).2) 0 w.length (by omega) (fun j _ hj h=>?_) ?_
    · have hr:=longAt_range w s j
      refine shift ?_
      simp only [impl_LongestWant.l0]
      rw [succ_wrap (j:=j) (by omega)]
      refine pos (nat_lt hj) (pos (by omega) (pos (nat_lt hj) (Ev.bind (slices_Contains_int_int_ev s _ (by omega)) ?_)))
      unfold longEl at h ⊢
      rw [longAt] at h
      by_cases h1:(rd_T84 w (j:Int)).f0 ∈ s
      · rw [if_pos h1] at h
        exact pos (decide_eq_true h1) h
      · rw [if_neg h1] at h
        refine neg (by simpa using h1) ?_
        have hj0:¬ (j:Int)<0:=by omega
        by_cases h2:longAt w s j<0
        · rw [if_pos h2,if_neg hj0,decide_eq_true hj0] at h
          exact neg (by simp [h2]) h
        · rw [if_neg h2] at h
          refine pos (decide_eq_true h2) ?_
          rw [if_neg h2]
          by_cases h3:(rd_T84 w (j:Int)).f1>(rd_T84 w (longAt w s j)).f1
          · rw [if_pos h3,if_neg hj0,decide_eq_true hj0] at h
            exact pos h3 h
          · rw [if_neg h3,if_neg h2] at h
            exact neg h3 h
    · refine shift ?_
      simp only [impl_LongestWant.l0]
      refine neg (nat_ge (Nat.le_refl _)) (now ?_)
      unfold longEl longWant
      split <;> rfl
  exact main

theorem cmp_Less_int_eq (a b:Int):cmp_Less_int.f a b=some (decide (a<b)):=by
  simp [cmp_Less_int.f,cmp_isNaN_int.f]
theorem putS_cut (l:List Int) (a:Int) (i:Nat) (hi:i≤l.length) (h1:∀ j,j<i→rd l (j:Int)<a) (h2:∀ j,i≤j→j<l.length→a<rd l (j:Int)):putS l a=l.take i++[a]++l.drop i:=by
  rw [putS_split l a i hi h1]
  rcases Nat.lt_or_ge i l.length with q|q
  · have:=h2 i (Nat.le_refl _) q
    rw [rd_get l i q] at this
    rw [List.drop_eq_getElem_cons q]
    simp only [putS]
    rw [if_neg (by omega),if_neg (by omega)]
    simp
  · rw [List.drop_eq_nil_of_le q]
    simp [putS]
theorem slices_BinarySearch_int_int_ev (l:List Int) (a:Int) (hl:l.length≤1048576) (hs:l.Pairwise (· < ·)) (ha:¬ a ∈ l):∃ i:Nat,i≤l.length∧Ev (fun k=>slices_BinarySearch_int_int.f k l a) ((i:Int),false)∧putS l a=l.take i++[a]++l.drop i:=by
  unfold slices_BinarySearch_int_int.f
  have asc:∀ i j:Nat,i<j→j<l.length→rd l (i:Int)<rd l (j:Int):=by
    intro i j hij hj
    rw [rd_get l i (by omega),rd_get l j hj]
    exact List.pairwise_iff_getElem.1 hs i j (by omega) hj hij
  have ne:∀ i:Nat,i<l.length→¬ rd l (i:Int)=a:=by
    intro i hi e
    rw [rd_get l i hi] at e
    exact ha (e ▸ List.getElem_mem hi)
  have:∀ d i j:Nat,j-i≤d→i≤j→j≤l.length→(∀ q,q<i→rd l (q:Int)<a)→(∀ q,j≤q→q<l.length→a<rd l (q:Int)) →
      ∃ p:Nat,p≤l.length∧Ev (fun k=>slices_BinarySearch_int_int.l0 k l a (l.length:Int) (i:Int) (j:Int)) ((p:Int),false)∧putS l a=l.take p++[a]++l.drop p:=by
    intro d
    induction d with
    | zero =>
      intro i j hd hij hj h1 h2
      have:i=j:=by omega
      subst this
      refine ⟨i,hj,shift ?_,putS_cut l a i hj h1 h2⟩
      simp only [slices_BinarySearch_int_int.l0]
      refine neg (by omega) ?_
      by_cases hi:i<l.length
      · exact pos (by omega) (pos (by omega) (pos (by omega) (neg (ne i hi) (bindc (a:=false) (by simp [slices_isNaN_int.f]) (neg (by decide) (now rfl))))))
      · exact neg (by omega) (now rfl)
    | succ d ih =>
      intro i j hd hij hj h1 h2
      by_cases hlt:i<j
      · obtain ⟨m,hm⟩:∃ m,m=(i+j) / 2:=⟨_,rfl⟩
        have e:wrap64 ((IntKind.u64.wrap (wrap64 ((i:Int)+(j:Int)))) / 2)=(m:Int):=by
          rw [w64 (x:=(i:Int)+(j:Int)) (by omega) (by omega)]
          have e2:IntKind.u64.wrap ((i:Int)+(j:Int))=(i:Int)+(j:Int):=by
            rw [show IntKind.u64.wrap ((i:Int)+(j:Int))=((i:Int)+(j:Int)) % 18446744073709551616 from rfl]
            omega
          rw [e2,w64 (by omega) (by omega)]
          omega
        by_cases hc:rd l (m:Int)<a
        · obtain ⟨p,hp,hE,hP⟩:=ih (m+1) j (by omega) (by omega) hj (fun q hq=>by
            rcases Nat.lt_or_ge q m with z|z
            · have:=asc q m z (by omega);omega
            · have:q=m:=by omega
              rw [this];exact hc) h2
          refine ⟨p,hp,shift ?_,hP⟩
          simp only [slices_BinarySearch_int_int.l0]
          rw [e,succ_wrap (j:=m) (by omega)]
          exact pos (by omega) (pos (by omega) (pos (by omega) (bindc (cmp_Less_int_eq _ _) (pos (decide_eq_true hc) hE))))
        · obtain ⟨p,hp,hE,hP⟩:=ih i m (by omega) (by omega) (by omega) h1 (fun q hq hql=>by
            have hm2:=ne m (by omega)
            rcases Nat.lt_or_ge m q with z|z
            · have:=asc m q z hql;omega
            · have:q=m:=by omega
              rw [this];omega)
          refine ⟨p,hp,shift ?_,hP⟩
          simp only [slices_BinarySearch_int_int.l0]
          rw [e]
          exact pos (by omega) (pos (by omega) (pos (by omega) (bindc (cmp_Less_int_eq _ _) (neg (by simpa using hc) hE))))
      · exact ih i j (by omega) hij hj h1 h2
  exact this l.length 0 l.length (by omega) (by omega) (Nat.le_refl _) (fun q hq=>by omega) (fun q h1 h2=>by omega)

theorem impl_inserted_ev (l:List Int) (a:Int) (hl:l.length≤1048576) (hs:l.Pairwise (· < ·)) (ha:¬ a ∈ l):Ev (fun k=>impl_inserted.f k l a) (putS l a):=by
  unfold impl_inserted.f
  obtain ⟨i,hi,hE,hP⟩:=slices_BinarySearch_int_int_ev l a hl hs ha
  refine Ev.bind hE (bindc (slices_Clone_int_int_eq l hl) (pos (by dsimp only;omega) (pos (by dsimp only;omega) (pos (by omega) (now ?_)))))
  rw [hP]
  simp [insAt]

theorem impl_AddToStage_ev (l:List S79) (ids:List Int) (hl:l.length≤1000) (hi:ids.length≤1000):Ev (fun k=>impl_AddToStage.f k l ids) (addTo l ids):=by
  unfold impl_AddToStage.f addTo
  refine bindc (slices_Clone_int_int_eq ids (by omega)) (Ev.bind (impl_IsTogether_ev l ids (by omega) (by omega)) ?_)
  by_cases ht:together l ids=true
  · rw [if_pos ht]
    refine pos ht ?_
    have main:Ev (fun k=>impl_AddToStage.l0 k l (addIn l ids 0) l (l.length:Int) ((0:Nat):Int)) (addIn l ids l.length):=by
      refine loop_from (g:=fun k j=>impl_AddToStage.l0 k l (addIn l ids j) l (l.length:Int) (j:Int)) 0 l.length (by omega) (fun j _ hj h=>?_) ?_
      · have hlen:=addIn_len l ids j
        have hasc:=addIn_asc l ids (together_asc ht) j
        have hlen2:=putS_len (addIn l ids j) (rd_T79 l (j:Int)).f0
        refine shift ?_
        simp only [impl_AddToStage.l0]
        rw [succ_wrap (j:=j) (by omega)]
        refine pos (nat_lt hj) (pos (by omega) (pos (nat_lt hj) (Ev.bind (slices_Contains_int_int_ev _ _ (by omega)) ?_)))
        rw [addIn] at h
        by_cases hm:(rd_T79 l (j:Int)).f0 ∈ addIn l ids j
        · rw [putS_has _ _ hasc hm,ite_self] at h
          exact pos (decide_eq_true hm) h
        · refine neg (by simpa using hm) (Ev.bind (impl_inserted_ev _ _ (by omega) hasc hm) (Ev.bind (impl_IsTogether_ev l _ (by omega) (by omega)) ?_))
          by_cases h1:together l (putS (addIn l ids j) (rd_T79 l (j:Int)).f0)=true
          · rw [if_pos h1] at h
            exact pos h1 h
          · rw [if_neg h1] at h
            exact neg h1 h
      · refine shift ?_
        simp only [impl_AddToStage.l0]
        exact neg (nat_ge (Nat.le_refl _)) (now rfl)
    exact main
  · rw [if_neg ht]
    exact neg ht (now rfl)

theorem impl_NextStage_ev (l:List S79) (s:List Int) (a:Int) (n:List Int) (b:Int) (w:List S84) (hl:l.length≤1048576) (hs:s.length≤1048576) (hn:n.length≤1048576) (hw:w.length≤1048576):Ev (fun k=>impl_NextStage.f k l s a n b w) (nextSt l s a n b w):=by
  unfold impl_NextStage.f
  refine Ev.bind (impl_LongestWant_ev w s hw hs) ?_
  by_cases h0:longWant w s=0
  · exact pos h0 (now (if_neg (fun q=>q.1 h0)).symm)
  · refine neg h0 (Ev.bind (impl_IsControl_ev l s a n b hl hs hn) ?_)
    by_cases h1:isControl l s a n b=true
    · refine pos h1 (Ev.bind (impl_AreWants_ev l w hl hw) ?_)
      have h12:=paths_len (control_paths h1)
      by_cases h2:areWants l w=true
      · have e:nextSt l s a n b w=addTo l [longWant w s]:=if_pos ⟨h0,h1,h2⟩
        rw [e]
        exact pos h2 (Ev.bind (impl_AddToStage_ev l [longWant w s] (by omega) (by simp)) (now rfl))
      · exact neg h2 (now (if_neg (fun q=>h2 q.2.2)).symm)
    · exact neg h1 (now (if_neg (fun q=>h1 q.2.1)).symm)

theorem impl_LeastGreen_ev (l:List S79) (st:List Int) (hs:st.length≤1048576):Ev (fun k=>impl_LeastGreen.f k l st) (leastG l st):=by
  unfold impl_LeastGreen.f leastG
  have find:∀ n,impl_FindPath.f l n=some (fp l n):=fun n=>impl_FindPath_eq l n
  have good:∀ j r,j<st.length→notWalk l st j=true→Ev (fun k=>impl_LeastGreen.l0 k l st (st.length:Int) ((j+1:Nat):Int)) r→Ev (fun k=>impl_LeastGreen.l0 k l st (st.length:Int) (j:Int)) r:=by
    intro j r hj ok h
    simp only [notWalk,Bool.not_eq_true',decide_eq_false_iff_not] at ok
    have:=fp_range l (rd st j)
    refine shift ?_
    simp only [impl_LeastGreen.l0]
    rw [succ_wrap (by omega)]
    refine pos (nat_lt hj) (pos (by omega) (pos (nat_lt hj) (bindc (find _) ?_)))
    by_cases h0:fp l (rd st j)≥0
    · exact pos h0 (pos h0 (pos (by omega) (neg (fun g=>ok ⟨h0,g⟩) h)))
    · exact neg h0 h
  by_cases h:(List.range st.length).all (notWalk l st)=true
  · rw [if_pos h]
    refine ok_loop (g:=fun k j=>impl_LeastGreen.l0 k l st (st.length:Int) (j:Int)) st.length _ h good ?_
    refine shift ?_
    simp only [impl_LeastGreen.l0]
    exact neg (nat_ge (Nat.le_refl _)) (now rfl)
  · rw [if_neg h]
    refine bad_loop (g:=fun k j=>impl_LeastGreen.l0 k l st (st.length:Int) (j:Int)) st.length _ 7 h good ?_
    intro j hj ok
    simp only [notWalk,Bool.not_eq_false',decide_eq_true_eq] at ok
    have:=fp_range l (rd st j)
    refine shift ?_
    simp only [impl_LeastGreen.l0]
    exact pos (nat_lt hj) (pos (by omega) (pos (nat_lt hj) (bindc (find _) (pos ok.1 (pos ok.1 (pos (by omega) (pos ok.2 (now rfl))))))))

theorem impl_CanEnd_ev (l:List S79) (s:List Int) (a:Int) (n:List Int) (b:Int) (hl:l.length≤1048576) (hs:s.length≤1048576) (hn:n.length≤1048576):Ev (fun k=>impl_CanEnd.f k l s a n b) (canEnd l s a n b):=by
  unfold impl_CanEnd.f canEnd
  refine Ev.bind (impl_IsControl_ev l s a n b hl hs hn) ?_
  by_cases h:isControl l s a n b=true
  · rw [h,Bool.true_and]
    refine pos rfl ?_
    by_cases h0:n.length=0
    · rw [decide_eq_true h0,Bool.true_and]
      exact pos (by omega) (Ev.bind (impl_LeastGreen_ev l s hs) (now rfl))
    · rw [decide_eq_false h0,Bool.false_and]
      exact neg (by omega) (now rfl)
  · rw [Bool.eq_false_iff.mpr h,Bool.false_and]
    exact neg (by decide) (now rfl)

theorem impl_MustChange_has (w:List S84) (s:List Int) (hs:s.length≤1048576):Ev (fun k=>impl_MustChange.l0 k s w) (w.any fun x=>decide (x.f0 ∈ s)):=by
  induction w with
  | nil=>exact now rfl
  | cons x r ih =>
    simp only [impl_MustChange.l0,List.any_cons]
    refine Ev.bind (slices_Contains_int_int_ev s _ (by omega)) ?_
    by_cases h:x.f0 ∈ s
    · rw [decide_eq_true h,Bool.true_or]
      exact pos rfl (now rfl)
    · rw [decide_eq_false h,Bool.false_or]
      exact neg (by decide) ih
theorem anyIn_any (w:List S84) (s:List Int):anyIn w s w.length=w.any fun x=>decide (x.f0 ∈ s):=by
  have:∀ j,j≤w.length→anyIn w s j=(w.take j).any fun x=>decide (x.f0 ∈ s):=by
    intro j
    induction j with
    | zero=>intro _;simp [anyIn]
    | succ j ih =>
      intro hj
      rw [anyIn,ih (by omega),List.take_succ_eq_append_getElem (by omega),List.any_append,rdW_get w j (by omega)]
      simp
  simpa using this w.length (Nat.le_refl _)
theorem impl_MustChange_ev (l:List S79) (s:List Int) (a:Int) (n:List Int) (b:Int) (w:List S84) (hl:l.length≤1048576) (hs:s.length≤1048576) (hn:n.length≤1048576) (hw:w.length≤1048576):Ev (fun k=>impl_MustChange.f k l s a n b w) (mustC l s a n b w):=by
  unfold impl_MustChange.f mustC
  refine Ev.bind (impl_CanEnd_ev l s a n b hl hs hn) ?_
  by_cases h1:canEnd l s a n b=true
  · rw [h1,Bool.true_and]
    refine pos rfl (Ev.bind (impl_NextStage_ev l s a n b w hl hs hn hw) ?_)
    by_cases h2:0<(nextSt l s a n b w).length
    · rw [decide_eq_true h2,Bool.true_and]
      refine neg (by omega) ?_
      by_cases h3:a≥60
      · rw [decide_eq_true h3,Bool.true_or]
        exact pos h3 (now rfl)
      · rw [decide_eq_false h3,Bool.false_or,anyIn_any]
        exact neg h3 (Ev.bind (impl_MustChange_has w s hs) (now rfl))
    · rw [decide_eq_false h2,Bool.false_and]
      exact pos (by omega) (now rfl)
  · rw [Bool.eq_false_iff.mpr h1,Bool.false_and]
    exact neg (by decide) (now rfl)

theorem slices_Equal_int_int_ev (a b:List Int) (ha:a.length≤1048576):Ev (fun k=>slices_Equal_int_int.f k a b) (decide (a=b)):=by
  unfold slices_Equal_int_int.f
  by_cases h:a.length=b.length
  · refine pos (by omega) ?_
    rw [←eqAll h]
    refine all_loop (g:=fun k j=>slices_Equal_int_int.l0 k a b (a.length:Int) (j:Int)) b.length (fun i=>decide (rd a (i:Int)=rd b (i:Int))) true ?_ ?_ ?_ |> (fun h=>by simpa using h)
    · intro j r hj ok hh
      refine shift ?_
      simp only [slices_Equal_int_int.l0]
      rw [succ_wrap (by omega)]
      exact pos (by omega) (pos (by omega) (pos (by omega) (pos (by omega) (pos (of_decide_eq_true ok) hh))))
    · intro j hj ok
      refine shift ?_
      simp only [slices_Equal_int_int.l0]
      exact pos (by omega) (pos (by omega) (pos (by omega) (pos (by omega) (neg (of_decide_eq_false ok) (now rfl)))))
    · refine shift ?_
      simp only [slices_Equal_int_int.l0]
      exact neg (by omega) (now rfl)
  · refine neg (by omega) (now ?_)
    rw [decide_eq_false (fun e=>h (by rw [e]))]

theorem impl_AskStage_ev (l:List S79) (s:List Int) (a:Int) (n:List Int) (b:Int) (st:List Int) (hl:l.length≤1048576) (hs:s.length≤1048576) (hn:n.length≤1048576) (hst:st.length≤1048576):Ev (fun k=>impl_AskStage.f k l s a n b st) (askC l s a n b st):=by
  unfold impl_AskStage.f
  have no:¬ canAsk l s a n b st→Ev (fun k=>impl_AskStage.j0 k l st true s a n b s a n b) (askC l s a n b st):=by
    intro h
    rw [askC_no h]
    refine shift ?_
    simp only [impl_AskStage.j0]
    exact pos trivial (now rfl)
  have yes:canAsk l s a n b st→Ev (fun k=>impl_AskStage.j0 k l st false s a n b s a n b) (askC l s a n b st):=by
    intro h
    have hr:=clearB_range l s st
    rw [askC_yes h]
    refine shift ?_
    simp only [impl_AskStage.j0]
    refine neg (by decide) (Ev.bind (impl_ClearBetween_ev l s st hl hs hst) ?_)
    by_cases h0:clearB l s st=0
    · exact neg (by omega) (bindc (slices_Clone_int_int_eq st hst) (now (if_pos h0).symm))
    · exact pos (by omega) (bindc (slices_Clone_int_int_eq st hst) (now (if_neg h0).symm))
  refine bindc (impl_cloneControl_eq s a n b hs hn) (Ev.bind (impl_CanEnd_ev l s a n b hl hs hn) ?_)
  dsimp only
  by_cases h1:canEnd l s a n b=true
  · refine pos h1 ?_
    by_cases h2:st.length=0
    · exact pos (by omega) (no (fun q=>q.2.1 h2))
    · refine neg (by omega) (Ev.bind (impl_IsTogether_ev l st hl hst) ?_)
      by_cases h3:together l st=true
      · refine pos h3 (Ev.bind (slices_Equal_int_int_ev st s hst) ?_)
        by_cases h4:st=s
        · rw [decide_eq_true h4]
          exact no (fun q=>q.2.2.2 h4)
        · rw [decide_eq_false h4]
          exact yes ⟨h1,h2,h3,h4⟩
      · exact neg h3 (no (fun q=>h3 q.2.2.1))
  · exact neg h1 (no (fun q=>h1 q.1))

theorem mn_swap (a b:Int):mn a b=mn b a:=by unfold mn;split <;> split <;> omega
theorem impl_TickControl_ev (l:List S79) (s:List Int) (a:Int) (n:List Int) (b:Int) (hl:l.length≤1048576) (hs:s.length≤1048576) (hn:n.length≤1048576):Ev (fun k=>impl_TickControl.f k l s a n b) (tickC l s a n b):=by
  unfold impl_TickControl.f
  refine bindc (impl_cloneControl_eq s a n b hs hn) (Ev.bind (impl_IsControl_ev l s a n b hl hs hn) ?_)
  dsimp only
  by_cases h:isControl l s a n b=true
  · have hb:=control_bounds h
    refine pos h ?_
    rw [w64 (x:=a+1) (by omega) (by omega),w64 (x:=b-1) (by omega) (by omega),mn_swap (a+1)]
    by_cases h0:n.length=0
    · exact pos (by omega) (now (by unfold tickC;rw [if_pos h,if_pos h0]))
    · have hb1:=hb.2.2.2 h0
      refine neg (by omega) ?_
      by_cases h1:b-1=0
      · exact neg (by omega) (bindc (slices_Clone_int_int_eq n hn) (now (by unfold tickC;rw [if_pos h,if_neg h0,if_pos h1])))
      · exact pos (by omega) (now (by unfold tickC;rw [if_pos h,if_neg h0,if_neg h1]))
  · exact neg h (now (by unfold tickC;rw [if_neg h]))

theorem impl_asked_ev (l:List S79) (s:List Int) (a:Int) (n:List Int) (b:Int) (w:List S84) (hl:l.length≤1048576) (hs:s.length≤1048576) (hn:n.length≤1048576) (hw:w.length≤1048576):Ev (fun k=>impl_asked.f k l s a n b w) (askedC l s a n b w):=by
  unfold impl_asked.f
  have hx:=nextSt_len l s a n b w
  refine Ev.bind (impl_MustChange_ev l s a n b w hl hs hn hw) ?_
  by_cases h:mustC l s a n b w=true
  · rw [show askedC l s a n b w=_ from if_pos h]
    exact pos h (Ev.bind (impl_NextStage_ev l s a n b w hl hs hn hw) (Ev.bind (impl_AskStage_ev l s a n b _ hl hs hn (by omega)) (now rfl)))
  · rw [show askedC l s a n b w=_ from if_neg h]
    exact neg h (Ev.bind (impl_TickControl_ev l s a n b hl hs hn) (now rfl))

theorem impl_waited_ev (l:List S79) (s:List Int) (a:Int) (n:List Int) (b:Int) (w:List S84) (hl:l.length≤1048576) (hs:s.length≤1048576) (hn:n.length≤1048576) (hw:w.length≤1048576) (hg:areWants l w=true):Ev (fun k=>impl_waited.f k l s a n b w) (waitIn l (lightsOf l s a n b) w w.length):=by
  unfold impl_waited.f
  have hg2:=(areWants_iff l w).1 hg
  refine Ev.bind (impl_LightsOf_ev l s a n b hl hs hn) ?_
  obtain ⟨v,hv⟩:∃ v,v=lightsOf l s a n b:=⟨_,rfl⟩
  rw [←hv]
  have main:Ev (fun k=>impl_waited.l0 k l (waitIn l v w 0) v w (w.length:Int) ((0:Nat):Int)) (waitIn l v w w.length):=by
    refine loop_from (g:=fun k j=>impl_waited.l0 k l (waitIn l v w j) v w (w.length:Int) (j:Int)) 0 w.length (by omega) (fun j _ hj h=>?_) ?_
    · have hlen:=waitIn_len l v w j
      have hb:=hg2.2.1 w[j] (List.getElem_mem hj)
      rw [←rdW_get w j hj] at hb
      refine shift ?_
      simp only [impl_waited.l0]
      rw [succ_wrap (j:=j) (by omega),w64 (x:=(rd_T84 w (j:Int)).f1+1) (by omega) (by omega),mn_swap _ 100000]
      refine pos (nat_lt hj) (pos (by omega) (pos (nat_lt hj) (bindc (impl_FindPath_eq l _) ?_)))
      have hr:=fp_range l (rd_T84 w (j:Int)).f0
      have yes:stays l v (rd_T84 w (j:Int))=true→Ev (fun k=>impl_waited.l0 k l (waitIn l v w j++[(⟨(rd_T84 w (j:Int)).f0,mn 100000 ((rd_T84 w (j:Int)).f1+1)⟩:S84)]) v w (w.length:Int) ((j+1:Nat):Int)) (waitIn l v w w.length):=by
        intro q
        rw [waitIn,if_pos q] at h
        exact h
      change Ev (fun k=>if fp l (rd_T84 w (j:Int)).f0<0 then _ else _) _
      refine neg hb.1 ?_
      by_cases h1:fp l (rd_T84 w (j:Int)).f0≥(v.length:Int)
      · exact pos h1 (pos (by omega) (yes (decide_eq_true (.inr (.inl h1)))))
      · refine neg h1 (pos (by unfold fp at hb;omega) (pos (by unfold fp at h1;omega) ?_))
        by_cases h2:rd v (fp l (rd_T84 w (j:Int)).f0)=1
        · have ns:¬ stays l v (rd_T84 w (j:Int))=true:=fun q=>by
            rcases of_decide_eq_true q with z|z|z
            · exact hb.1 z
            · exact h1 z
            · exact z h2
          rw [waitIn,if_neg ns] at h
          exact pos h2 h
        · exact neg h2 (pos (by omega) (yes (decide_eq_true (.inr (.inr h2)))))
    · refine shift ?_
      simp only [impl_waited.l0]
      exact neg (nat_ge (Nat.le_refl _)) (now rfl)
  exact main

theorem cloneW_eq (w:List S84) (h:w.length≤1048576):impl_Want_91.f w=some w:=by
  unfold impl_Want_91.f
  simp only [Option.bind_some,List.nil_append,List.length_nil]
  first|rfl|(rw [if_pos (by omega)])
theorem impl_StepAsk_ev (l:List S79) (s:List Int) (a:Int) (n:List Int) (b:Int) (w:List S84) (hl:l.length≤1048576) (hs:s.length≤1048576) (hn:n.length≤1048576) (hw:w.length≤1048576):Ev (fun k=>impl_StepAsk.f k l s a n b w) (stepC l s a n b w):=by
  unfold impl_StepAsk.f
  have no:¬ (isControl l s a n b=true∧areWants l w=true)→Ev (fun k=>impl_StepAsk.j0 k l w true s a n b) (stepC l s a n b w):=by
    intro h
    rw [show stepC l s a n b w=(s,a,n,b,w) from if_neg h]
    refine shift ?_
    simp only [impl_StepAsk.j0]
    exact pos trivial (bindc (impl_cloneControl_eq s a n b hs hn) (bindc (cloneW_eq w hw) (now rfl)))
  refine Ev.bind (impl_IsControl_ev l s a n b hl hs hn) ?_
  by_cases h1:isControl l s a n b=true
  · refine pos h1 (Ev.bind (impl_AreWants_ev l w hl hw) ?_)
    by_cases h2:areWants l w=true
    · rw [h2]
      have hlen:=askedC_len l s a n b w hs hn
      rw [show stepC l s a n b w=_ from if_pos ⟨h1,h2⟩]
      refine shift ?_
      simp only [impl_StepAsk.j0]
      exact neg (by decide) (Ev.bind (impl_asked_ev l s a n b w hl hs hn hw) (Ev.bind (impl_waited_ev l _ _ _ _ w hl hlen.1 hlen.2 hw h2) (now rfl)))
    · rw [Bool.eq_false_iff.mpr h2]
      exact no (fun q=>h2 q.2)
  · exact neg h1 (no (fun q=>h1 q.1))

theorem impl_AskHistory_calls (l:List S79) (c:List S73) (q:Int) (out:List (List Int)) (t:Int) (s:List Int) (a:Int) (n:List Int) (b:Int) (w:List S84) (r:List (List Int)) (hl:l.length≤1048576) (hc:c.length≤1048576) (hg:areWants l w=true) (h:Ev (fun k=>impl_AskHistory.l1 k l (callsIn l w c t c.length) c out t q t c (c.length:Int) (c.length:Int) s a n b) r) :
    Ev (fun k=>impl_AskHistory.l1 k l w c out t q t c (c.length:Int) ((0:Nat):Int) s a n b) r:=by
  have main:Ev (fun k=>impl_AskHistory.l1 k l (callsIn l w c t 0) c out t q t c (c.length:Int) ((0:Nat):Int) s a n b) r:=by
    refine loop_from (g:=fun k j=>impl_AskHistory.l1 k l (callsIn l w c t j) c out t q t c (c.length:Int) (j:Int) s a n b) 0 c.length (by omega) (fun j _ hj h=>?_) h
    have hw:=wants_len (callsIn_wants l w c t hg j)
    refine shift ?_
    simp only [impl_AskHistory.l1]
    rw [succ_wrap (j:=j) (by omega)]
    rw [callsIn] at h
    refine pos (nat_lt hj) (pos (by omega) (pos (nat_lt hj) ?_))
    by_cases h1:(rd_T73 c (j:Int)).f1=t
    · rw [if_pos h1] at h
      exact pos h1 (Ev.bind (impl_AddWant_ev l _ _ hl (by omega)) h)
    · rw [if_neg h1] at h
      exact neg h1 h
  exact main
theorem impl_AskHistory_in (l:List S79) (c:List S73) (q:Nat) (hq:q≤600) (hl:l.length≤1048576) (hc:c.length≤1048576):∀ (d t:Nat) (out:List (List Int)) (s:List Int) (a:Int) (n:List Int) (b:Int) (w:List S84),t+d=q→out.length=t→isControl l s a n b=true→areWants l w=true→s.length≤1048576→n.length≤1048576 →
    Ev (fun k=>impl_AskHistory.l0 k l w c out (q:Int) (t:Int) s a n b) (askIn l c d (t:Int) out s a n b w):=by
  intro d
  induction d with
  | zero =>
    intro t out s a n b w ht ho h1 h2 hs hn
    refine shift ?_
    simp only [impl_AskHistory.l0]
    exact neg (by omega) (now rfl)
  | succ d ih =>
    intro t out s a n b w ht ho h1 h2 hs hn
    have hg:=callsIn_wants l w c (t:Int) h2 c.length
    have hw:=wants_len hg
    obtain ⟨k1,k2,k3,k4⟩:=step_keeps h1 hg hs hn
    have hI:=ih (t+1) (out++[lightsOf l s a n b]) _ _ _ _ _ (by omega) (by simp;omega) k1 k2 k3 k4
    refine shift ?_
    simp only [impl_AskHistory.l0]
    refine pos (by omega) (Ev.bind (impl_LightsOf_ev l s a n b hl hs hn) (pos (by omega) ?_))
    refine impl_AskHistory_calls l c (q:Int) _ (t:Int) s a n b w _ hl hc h2 (shift ?_)
    simp only [impl_AskHistory.l1]
    rw [succ_wrap (j:=t) (by omega)]
    exact neg (nat_ge (Nat.le_refl _)) (Ev.bind (impl_StepAsk_ev l s a n b _ hl hs hn (by omega)) hI)
theorem impl_AskHistory_ev (l:List S79) (s:List Int) (a:Int) (n:List Int) (b:Int) (w:List S84) (c:List S73) (q:Int) (hl:l.length≤1048576) (hs:s.length≤1048576) (hn:n.length≤1048576) (hw:w.length≤1048576) (hc:c.length≤1048576):Ev (fun k=>impl_AskHistory.f k l s a n b w c q) (askHistory l s a n b w c q):=by
  unfold impl_AskHistory.f
  simp only [Option.bind_some]
  have no:¬ (isControl l s a n b=true∧areWants l w=true∧0≤q∧q≤600)→Ev (fun k=>impl_AskHistory.j0 k l w c q [] true s a n b) (askHistory l s a n b w c q):=by
    intro h
    rw [show askHistory l s a n b w c q=[] from if_neg h]
    refine shift ?_
    simp only [impl_AskHistory.j0]
    exact pos trivial (now rfl)
  refine Ev.bind (impl_IsControl_ev l s a n b hl hs hn) ?_
  by_cases h1:isControl l s a n b=true
  · refine pos h1 (Ev.bind (impl_AreWants_ev l w hl hw) ?_)
    by_cases h2:areWants l w=true
    · refine pos h2 (bindc (impl_InRange_eq _ _ _) ?_)
      by_cases h3:0≤q∧q≤600
      · rw [decide_eq_true h3]
        rw [show askHistory l s a n b w c q=_ from if_pos ⟨h1,h2,h3⟩]
        obtain ⟨m,rfl⟩:=Int.eq_ofNat_of_zero_le h3.1
        refine shift ?_
        simp only [impl_AskHistory.j0]
        refine neg (by decide) ?_
        exact impl_AskHistory_in l c m (by omega) hl hc m 0 [] s a n b w (by omega) rfl h1 h2 hs hn
      · rw [decide_eq_false h3]
        exact no (fun z=>h3 z.2.2)
    · exact neg h2 (no (fun z=>h2 z.2.1))
  · exact neg h1 (no (fun z=>h1 z.1))

theorem laws_eqIntS_refl (l:List Int) (hl:l.length<9223372036854775807):Ev (fun k=>laws_eqIntS.f k l l) true:=by
  unfold laws_eqIntS.f
  refine pos rfl (loop (g:=fun k j=>laws_eqIntS.l0 k l l (j:Int)) l.length ?_ ?_)
  · intro j hj h
    refine shift ?_
    simp only [laws_eqIntS.l0]
    refine pos (nat_lt hj) (pos (by omega) (pos (nat_lt hj) (pos (by simp) ?_)))
    rw [succ_wrap (by omega)]
    exact h
  · refine shift ?_
    simp only [laws_eqIntS.l0]
    exact neg (nat_ge (Nat.le_refl _)) (now rfl)

theorem laws_eqIntSS_refl (l:List (List Int)) (hl:l.length≤1048576) (he:∀ x ∈ l,x.length≤1048576):Ev (fun k=>laws_eqIntSS.f k l l) true:=by
  unfold laws_eqIntSS.f
  refine pos rfl (loop (g:=fun k j=>laws_eqIntSS.l0 k l l (j:Int)) l.length ?_ ?_)
  · intro j hj h
    refine shift ?_
    simp only [laws_eqIntSS.l0]
    have hg:rd_L7 l (j:Int)=l[j]:=by simp [rd_L7,hj]
    rw [hg]
    refine pos (nat_lt hj) (pos (by omega) (pos (nat_lt hj) (Ev.bind (laws_eqIntS_refl _ (by have:=he _ (List.getElem_mem hj);omega)) (pos rfl ?_))))
    rw [succ_wrap (by omega)]
    exact h
  · refine shift ?_
    simp only [laws_eqIntSS.l0]
    exact neg (nat_ge (Nat.le_refl _)) (now rfl)

theorem laws_eqPathS_refl (l:List S79) (hl:l.length<9223372036854775807):Ev (fun k=>laws_eqPathS.f k l l) true:=by
  unfold laws_eqPathS.f
  refine pos rfl (loop (g:=fun k j=>laws_eqPathS.l0 k l l (j:Int)) l.length ?_ ?_)
  · intro j hj h
    refine shift ?_
    simp only [laws_eqPathS.l0]
    refine pos (nat_lt hj) (pos (by omega) (pos (nat_lt hj) (bindc (a:=true) (by simp [laws_eqPath.f]) (pos (by simp) ?_))))
    rw [succ_wrap (by omega)]
    exact h
  · refine shift ?_
    simp only [laws_eqPathS.l0]
    exact neg (nat_ge (Nat.le_refl _)) (now rfl)

theorem laws_eqControl_refl (s:List Int) (t:Int) (n:List Int) (b:Int) (hs:s.length<9223372036854775807) (hn:n.length<9223372036854775807):Ev (fun k=>laws_eqControl.f k s t n b s t n b) true:=by
  unfold laws_eqControl.f
  exact Ev.bind (laws_eqIntS_refl s hs) (pos rfl (pos rfl (Ev.bind (laws_eqIntS_refl n hn) (pos rfl (pos rfl (now rfl))))))

theorem laws_eqWantS_refl (l:List S84) (hl:l.length<9223372036854775807):Ev (fun k=>laws_eqWantS.f k l l) true:=by
  unfold laws_eqWantS.f
  refine pos rfl (loop (g:=fun k j=>laws_eqWantS.l0 k l l (j:Int)) l.length ?_ ?_)
  · intro j hj h
    refine shift ?_
    simp only [laws_eqWantS.l0]
    refine pos (nat_lt hj) (pos (by omega) (pos (nat_lt hj) (bindc (a:=true) (by simp [laws_eqWant.f]) (pos (by simp) ?_))))
    rw [succ_wrap (by omega)]
    exact h
  · refine shift ?_
    simp only [laws_eqWantS.l0]
    exact neg (nat_ge (Nat.le_refl _)) (now rfl)

theorem laws_eqCallS_refl (l:List S73) (hl:l.length<9223372036854775807):Ev (fun k=>laws_eqCallS.f k l l) true:=by
  unfold laws_eqCallS.f
  refine pos rfl (loop (g:=fun k j=>laws_eqCallS.l0 k l l (j:Int)) l.length ?_ ?_)
  · intro j hj h
    refine shift ?_
    simp only [laws_eqCallS.l0]
    refine pos (nat_lt hj) (pos (by omega) (pos (nat_lt hj) (bindc (a:=true) (by simp [laws_eqCall.f]) (pos (by simp) ?_))))
    rw [succ_wrap (by omega)]
    exact h
  · refine shift ?_
    simp only [laws_eqCallS.l0]
    exact neg (nat_ge (Nat.le_refl _)) (now rfl)

theorem setC {α:Type} (A B:List α) (x v:α) (j:Nat) (hj:A.length=j):(A++x::B).set j v=A++v::B:=by
  rw [List.set_append_right _ _ (by omega),hj,Nat.sub_self,List.set_cons_zero]
theorem getC {α:Type} (A B:List α) (x d:α) (j:Nat) (hj:A.length=j):(A++x::B).getD j d=x:=by
  rw [List.getD_eq_getElem?_getD,List.getElem?_append_right (by omega),hj,Nat.sub_self]
  rfl

def markPa (a:Int):S79:=⟨a,a+1,a+2,a+3⟩
def marksPa (a:Int) (n:Nat):List S79:=(List.range n).map fun (i:Nat)=>markPa (a+4*(i:Int))
theorem marksPa_length (a:Int) (n:Nat):(marksPa a n).length=n:=by simp [marksPa]
theorem marksPa_succ (a:Int) (n:Nat):marksPa a (n+1)=marksPa a n++[markPa (a+4*(n:Int))]:=by simp [marksPa,List.range_succ]
theorem laws_markPathS_ev (l:List S79) (a:Int) (ha:0≤a) (ha2:a≤1000000000000) (hl:l.length≤1000000000000):Ev (fun k=>laws_markPathS.f k l a) (a+4*l.length,marksPa a l.length):=by
  unfold laws_markPathS.f
  refine loop (g:=fun k j=>laws_markPathS.l0 k (marksPa a j++l.drop j) (a+4*(j:Int)) (j:Int)) l.length ?_ ?_ |> (fun h=>by simpa [show marksPa a 0=[] from rfl] using h)
  · intro j hj h
    refine shift ?_
    have e1:wrap64 (a+4*(j:Int)+1)=a+4*(j:Int)+1:=w64 (by omega) (by omega)
    have e2:wrap64 (a+4*(j:Int)+1+1)=a+4*(j:Int)+2:=by rw [w64 (by omega) (by omega)];omega
    have e3:wrap64 (a+4*(j:Int)+2+1)=a+4*(j:Int)+3:=by rw [w64 (by omega) (by omega)];omega
    have e4:wrap64 (a+4*(j:Int)+3+1)=a+4*((j+1:Nat):Int):=by rw [w64 (by omega) (by omega)];omega
    simp only [laws_markPathS.l0,Option.bind_some]
    rw [List.drop_eq_getElem_cons hj]
    simp only [rd_T79,Int.toNat_natCast,setC _ _ _ _ _ (marksPa_length a j),getC _ _ _ _ _ (marksPa_length a j),e1,e2,e3,e4]
    refine pos (by simp [marksPa_length];omega) (pos (by omega) ?_)
    rw [succ_wrap (by omega)]
    rw [marksPa_succ,List.append_assoc] at h
    exact h
  · refine shift ?_
    simp only [laws_markPathS.l0]
    exact neg (by simp [marksPa_length]) (now (by simp))

theorem laws_markIntS_ev (l:List Int) (a:Int) (ha:0≤a) (ha2:a≤4000000000000) (hl:l.length≤4000000000000):Ev (fun k=>laws_markIntS.f k l a) (a+l.length,iota a l.length):=by
  unfold laws_markIntS.f
  refine loop (g:=fun k j=>laws_markIntS.l0 k (iota a j++l.drop j) (a+(j:Int)) (j:Int)) l.length ?_ ?_ |> (fun h=>by simpa [show iota a 0=[] from rfl] using h)
  · intro j hj h
    refine shift ?_
    simp only [laws_markIntS.l0]
    refine pos (by simp [iota_length];omega) (pos (by omega) ?_)
    rw [succ_wrap (by omega),w64 (by omega) (by omega),Int.toNat_natCast,iota_set a l j hj]
    have e:a+(j:Int)+1=a+((j+1:Nat):Int):=by omega
    rw [e]
    exact h
  · refine shift ?_
    simp only [laws_markIntS.l0]
    exact neg (by simp [iota_length]) (now (by simp))

theorem laws_markControl_ev (s:List Int) (t:Int) (n:List Int) (b:Int) (a:Int) (ha:0≤a) (ha2:a≤100000000000) (hs:s.length≤1048576) (hn:n.length≤1048576):Ev (fun k=>laws_markControl.f k s t n b a) (a+s.length+n.length,iota a s.length,iota (a+s.length) n.length):=by
  unfold laws_markControl.f
  exact Ev.bind (laws_markIntS_ev s a ha (by omega) (by omega)) (Ev.bind (laws_markIntS_ev n _ (by dsimp only;omega) (by dsimp only;omega) (by omega)) (now rfl))

def markWn (a:Int):S84:=⟨a,a+1⟩
def marksWn (a:Int) (n:Nat):List S84:=(List.range n).map fun (i:Nat)=>markWn (a+2*(i:Int))
theorem marksWn_length (a:Int) (n:Nat):(marksWn a n).length=n:=by simp [marksWn]
theorem marksWn_succ (a:Int) (n:Nat):marksWn a (n+1)=marksWn a n++[markWn (a+2*(n:Int))]:=by simp [marksWn,List.range_succ]
theorem laws_markWantS_ev (l:List S84) (a:Int) (ha:0≤a) (ha2:a≤1000000000000) (hl:l.length≤1000000000000):Ev (fun k=>laws_markWantS.f k l a) (a+2*l.length,marksWn a l.length):=by
  unfold laws_markWantS.f
  refine loop (g:=fun k j=>laws_markWantS.l0 k (marksWn a j++l.drop j) (a+2*(j:Int)) (j:Int)) l.length ?_ ?_ |> (fun h=>by simpa [show marksWn a 0=[] from rfl] using h)
  · intro j hj h
    refine shift ?_
    have e1:wrap64 (a+2*(j:Int)+1)=a+2*(j:Int)+1:=w64 (by omega) (by omega)
    have e4:wrap64 (a+2*(j:Int)+1+1)=a+2*((j+1:Nat):Int):=by rw [w64 (by omega) (by omega)];omega
    simp only [laws_markWantS.l0,Option.bind_some]
    rw [List.drop_eq_getElem_cons hj]
    simp only [rd_T84,Int.toNat_natCast,setC _ _ _ _ _ (marksWn_length a j),getC _ _ _ _ _ (marksWn_length a j),e1,e4]
    refine pos (by simp [marksWn_length];omega) (pos (by omega) ?_)
    rw [succ_wrap (by omega)]
    rw [marksWn_succ,List.append_assoc] at h
    exact h
  · refine shift ?_
    simp only [laws_markWantS.l0]
    exact neg (by simp [marksWn_length]) (now (by simp))

def markCl (a:Int):S73:=⟨a,a+1⟩
def marksCl (a:Int) (n:Nat):List S73:=(List.range n).map fun (i:Nat)=>markCl (a+2*(i:Int))
theorem marksCl_length (a:Int) (n:Nat):(marksCl a n).length=n:=by simp [marksCl]
theorem marksCl_succ (a:Int) (n:Nat):marksCl a (n+1)=marksCl a n++[markCl (a+2*(n:Int))]:=by simp [marksCl,List.range_succ]
theorem laws_markCallS_ev (l:List S73) (a:Int) (ha:0≤a) (ha2:a≤1000000000000) (hl:l.length≤1000000000000):Ev (fun k=>laws_markCallS.f k l a) (a+2*l.length,marksCl a l.length):=by
  unfold laws_markCallS.f
  refine loop (g:=fun k j=>laws_markCallS.l0 k (marksCl a j++l.drop j) (a+2*(j:Int)) (j:Int)) l.length ?_ ?_ |> (fun h=>by simpa [show marksCl a 0=[] from rfl] using h)
  · intro j hj h
    refine shift ?_
    have e1:wrap64 (a+2*(j:Int)+1)=a+2*(j:Int)+1:=w64 (by omega) (by omega)
    have e4:wrap64 (a+2*(j:Int)+1+1)=a+2*((j+1:Nat):Int):=by rw [w64 (by omega) (by omega)];omega
    simp only [laws_markCallS.l0,Option.bind_some]
    rw [List.drop_eq_getElem_cons hj]
    simp only [rd_T73,Int.toNat_natCast,setC _ _ _ _ _ (marksCl_length a j),getC _ _ _ _ _ (marksCl_length a j),e1,e4]
    refine pos (by simp [marksCl_length];omega) (pos (by omega) ?_)
    rw [succ_wrap (by omega)]
    rw [marksCl_succ,List.append_assoc] at h
    exact h
  · refine shift ?_
    simp only [laws_markCallS.l0]
    exact neg (by simp [marksCl_length]) (now (by simp))

def elI (a:Int) (x:List Int):List Int:=iota a x.length
def endI:Int→List (List Int)→Int
  | a,[]=>a
  | a,x::r=>endI (a+x.length) r
def mkI:Int→List (List Int)→List (List Int)
  | _,[]=>[]
  | a,x::r=>elI a x::mkI (a+x.length) r
theorem endI_append:∀ (p q:List (List Int)) (a:Int),endI a (p++q)=endI (endI a p) q
  | [],_,_=>rfl
  | x::r,q,a=>by
    simp only [List.cons_append,endI]
    exact endI_append r q _
theorem mkI_append:∀ (p q:List (List Int)) (a:Int),mkI a (p++q)=mkI a p++mkI (endI a p) q
  | [],_,_=>rfl
  | x::r,q,a=>by
    simp only [List.cons_append,endI,mkI]
    rw [mkI_append r q _]
theorem mkI_length:∀ (p:List (List Int)) (a:Int),(mkI a p).length=p.length
  | [],_=>rfl
  | x::r,a=>by simp [mkI,mkI_length r]
theorem endI_range:∀ (p:List (List Int)) (a:Int),(∀ x ∈ p,x.length≤1048576)→a≤endI a p∧endI a p≤a+1048577*(p.length:Int)
  | [],a,_=>by simp [endI]
  | x::r,a,h=>by
    have h1:=h x List.mem_cons_self
    have h2:=endI_range r (a+x.length) (fun y hy=>h y (List.mem_cons_of_mem _ hy))
    simp only [endI,List.length_cons]
    omega
theorem takeI_short (p:List (List Int)) (h:∀ x ∈ p,x.length≤1048576) (j:Nat):∀ x ∈ p.take j,x.length≤1048576:=fun x hx=>h x (List.mem_of_mem_take hx)
theorem laws_markIntSS_ev (l:List (List Int)) (a0:Int) (ha0:0≤a0) (ha1:a0≤1000000000000) (hl:l.length≤1048577) (he:∀ x ∈ l,x.length≤1048576):Ev (fun k=>laws_markIntSS.f k l a0) (endI a0 l,mkI a0 l):=by
  unfold laws_markIntSS.f
  refine loop (g:=fun k j=>laws_markIntSS.l0 k (mkI a0 (l.take j)++l.drop j) (endI a0 (l.take j)) (j:Int)) l.length ?_ ?_ |> (fun h=>by simpa [mkI,endI] using h)
  · intro j hj h
    have hr:=endI_range (l.take j) a0 (takeI_short l he j)
    have hlen:=mkI_length (l.take j) a0
    rw [List.length_take] at hlen hr
    have hx:=he _ (List.getElem_mem hj)
    have hmin:min j l.length=j:=by omega
    rw [hmin] at hlen hr
    rw [List.take_succ_eq_append_getElem hj,mkI_append,endI_append,List.append_assoc] at h
    simp only [mkI,endI] at h
    refine shift ?_
    simp only [laws_markIntSS.l0]
    rw [List.drop_eq_getElem_cons hj]
    generalize endI a0 (l.take j)=a at hr h ⊢
    have hg:rd_L7 (mkI a0 (l.take j)++l[j]::l.drop (j+1)) (j:Int)=l[j]:=by
      simp only [rd_L7,Int.toNat_natCast]
      exact getC _ _ _ _ _ hlen
    rw [hg,Int.toNat_natCast]
    refine pos (by simp [mkI_length];omega) (pos (by omega) (Ev.bind (laws_markIntS_ev _ a (by omega) (by omega) (by omega)) ?_))
    dsimp only
    rw [setC _ _ _ _ _ hlen,succ_wrap (by omega)]
    exact h
  · refine shift ?_
    simp only [laws_markIntSS.l0]
    exact neg (by simp [mkI_length]) (now (by simp))

theorem laws_heldIntS_ev (a:Int) (n:Nat) (ha:0≤a) (ha2:a≤4000000000000) (hn:n≤4000000000000):Ev (fun k=>laws_heldIntS.f k (iota a n) a) (a+n):=by
  unfold laws_heldIntS.f
  refine loop (g:=fun k j=>laws_heldIntS.l0 k (iota a n) (a+(j:Int)) (j:Int)) n ?_ ?_ |> (fun h=>by simpa using h)
  · intro j hj h
    refine shift ?_
    simp only [laws_heldIntS.l0]
    refine pos (by rw [iota_length];omega) (pos (by omega) (pos (iota_get a n j hj) ?_))
    rw [succ_wrap (by omega),w64 (by omega) (by omega)]
    have e:a+(j:Int)+1=a+((j+1:Nat):Int):=by omega
    rw [e]
    exact h
  · refine shift ?_
    simp only [laws_heldIntS.l0]
    exact neg (by rw [iota_length];omega) (now rfl)

theorem laws_heldIntSS_ev (l:List (List Int)) (a0:Int) (ha0:0≤a0) (ha1:a0≤1000000000000) (hl:l.length≤1048577) (he:∀ x ∈ l,x.length≤1048576):Ev (fun k=>laws_heldIntSS.f k (mkI a0 l) a0) (endI a0 l):=by
  unfold laws_heldIntSS.f
  refine loop (g:=fun k j=>laws_heldIntSS.l0 k (mkI a0 l) (endI a0 (l.take j)) (j:Int)) l.length ?_ ?_ |> (fun h=>by simpa [endI] using h)
  · intro j hj h
    have hr:=endI_range (l.take j) a0 (takeI_short l he j)
    have hlen:=mkI_length (l.take j) a0
    rw [List.length_take] at hlen hr
    have hx:=he _ (List.getElem_mem hj)
    have hmin:min j l.length=j:=by omega
    rw [hmin] at hlen hr
    have hg:rd_L7 (mkI a0 l) (j:Int)=elI (endI a0 (l.take j)) l[j]:=by
      have e:l=l.take j++l[j]::l.drop (j+1):=by rw [←List.drop_eq_getElem_cons hj,List.take_append_drop]
      have e2:mkI a0 l=mkI a0 (l.take j)++mkI (endI a0 (l.take j)) (l[j]::l.drop (j+1)):=by rw [←mkI_append,←e]
      rw [e2]
      simp only [rd_L7,Int.toNat_natCast,mkI]
      exact getC _ _ _ _ _ hlen
    rw [List.take_succ_eq_append_getElem hj,endI_append] at h
    simp only [endI] at h
    refine shift ?_
    simp only [laws_heldIntSS.l0]
    rw [hg]
    generalize endI a0 (l.take j)=a at hr h ⊢
    refine pos (by rw [mkI_length];omega) (pos (by omega) (Ev.bind (laws_heldIntS_ev a l[j].length (by omega) (by omega) (by omega)) (neg (by omega) ?_)))
    rw [succ_wrap (by omega)]
    exact h
  · refine shift ?_
    simp only [laws_heldIntSS.l0]
    exact neg (by rw [mkI_length];omega) (now (by simp))

theorem lightsOf_len (l:List S79) (s:List Int) (a:Int) (n:List Int) (b:Int):(lightsOf l s a n b).length≤l.length:=by
  unfold lightsOf
  split
  · simp [lightsIn_len]
  · simp
theorem askIn_shape (l:List S79) (c:List S73) (m:Nat) (hl:l.length≤m):∀ (d:Nat) (t:Int) (out:List (List Int)) (s:List Int) (a:Int) (n:List Int) (b:Int) (w:List S84),(∀ x ∈ out,x.length≤m)→(askIn l c d t out s a n b w).length=out.length+d∧∀ x ∈ askIn l c d t out s a n b w,x.length≤m
  | 0,_,out,_,_,_,_,_,h=>⟨by simp [askIn],by simpa [askIn] using h⟩
  | d+1,t,out,s,a,n,b,w,h=>by
    simp only [askIn]
    obtain ⟨h1,h2⟩:=askIn_shape l c m hl d (t+1) (out++[lightsOf l s a n b]) _ _ _ _ _ (fun x hx=>by
      rcases List.mem_append.1 hx with q|q
      · exact h x q
      · rw [List.mem_singleton.1 q]
        have:=lightsOf_len l s a n b
        omega)
    exact ⟨by rw [h1];simp;omega,h2⟩
theorem askHistory_shape (l:List S79) (s:List Int) (a:Int) (n:List Int) (b:Int) (w:List S84) (c:List S73) (q:Int) (hl:l.length≤1048576):(askHistory l s a n b w c q).length≤600∧∀ x ∈ askHistory l s a n b w c q,x.length≤1048576:=by
  unfold askHistory
  split
  · rename_i h
    obtain ⟨h1,h2⟩:=askIn_shape l c 1048576 hl q.toNat 0 [] s a n b w (by simp)
    exact ⟨by rw [h1];simp;omega,h2⟩
  · exact ⟨by simp,by simp⟩
theorem FnExactAskHistory (p:List S81) (hp:wfS 32 wf81 p) (x:S25) (hx:wf25 x) (w:List S86) (hw:wfS 16 wf86 w) (c:List S88) (hc:wfS 16 wf88 c) (n:Int) (hn:I64 n):∃ k,laws_FnExactAskHistory.f k p x.f0 x.f1 x.f2 x.f3 w c n=some true:=by
  refine Ev.rounds ?_
  have hm0:=hp.2.1
  have hm1:=hx.1.2.1
  have hm2:=hx.2.2.1.2.1
  have hm3:=hw.2.1
  have hm4:=hc.2.1
  unfold laws_FnExactAskHistory.f
  obtain ⟨q,hq,hq2,hpl⟩:=laws_szPathS_eq p 1048576 (by omega) (by omega) (by omega)
  refine bindc hq ?_
  by_cases h0:q<0
  · exact pos h0 (now rfl)
  have hpl:=hpl h0
  obtain ⟨r,hr,hr2,hxl⟩:=laws_szControl_eq x.f0 x.f1 x.f2 x.f3 q (by omega) (by omega) (by omega) (by omega)
  refine neg h0 (bindc hr ?_)
  by_cases h1:r<0
  · exact pos h1 (now rfl)
  obtain ⟨hs,hx2⟩:=hxl h1
  obtain ⟨u,hu,hu2,hwl⟩:=laws_szWantS_eq w r (by omega) (by omega) (by omega)
  refine neg h1 (bindc hu ?_)
  by_cases h2:u<0
  · exact pos h2 (now rfl)
  have hwl:=hwl h2
  obtain ⟨v,hv,hv2,hcl⟩:=laws_szCallS_eq c u (by omega) (by omega) (by omega)
  refine neg h2 (bindc hv ?_)
  by_cases h3:v<0
  · exact pos h3 (now rfl)
  have hcl:=hcl h3
  have pl:(p.map cPath).length≤1048576:=by simpa using hpl
  have wl:(w.map cWant).length≤1048576:=by simpa using hwl
  have cl:(c.map cCall).length≤1048576:=by simpa using hcl
  have htP:=laws_toPathS_ev p hpl
  have htX:=laws_toControl_ev x.f0 x.f1 x.f2 x.f3 hs hx2
  have htW:=laws_toWantS_ev w hwl
  have htC:=laws_toCallS_ev c hcl
  have hG:=askHistory_shape (p.map cPath) x.f0 x.f1 x.f2 x.f3 (w.map cWant) (c.map cCall) n pl
  have hsp:=spec_AskHistory_ev (p.map cPath) x.f0 x.f1 x.f2 x.f3 (w.map cWant) (c.map cCall) n pl hs hx2 wl cl
  have him:=impl_AskHistory_ev (p.map cPath) x.f0 x.f1 x.f2 x.f3 (w.map cWant) (c.map cCall) n pl hs hx2 wl cl
  generalize askHistory (p.map cPath) x.f0 x.f1 x.f2 x.f3 (w.map cWant) (c.map cCall) n=G at hG hsp him
  have heq:=laws_eqIntSS_refl G (by omega) hG.2
  have mG:=endI_range G 1 hG.2
  have held:=laws_heldIntSS_ev G 1 (by omega) (by omega) (by omega) hG.2
  refine neg h3 (Ev.bind htP (Ev.bind htX (Ev.bind htW (Ev.bind htC (Ev.bind hsp (Ev.bind htP (Ev.bind htX (Ev.bind htW (Ev.bind htC (Ev.bind him (Ev.bind heq (pos rfl ?_))))))))))))
  refine Ev.bind htP (Ev.bind (laws_eqPathS_refl _ (by omega)) (pos rfl (Ev.bind htX (Ev.bind (laws_eqControl_refl _ _ _ _ (by dsimp only;omega) (by dsimp only;omega)) (pos rfl ?_)))))
  refine Ev.bind htW (Ev.bind (laws_eqWantS_refl _ (by omega)) (pos rfl (Ev.bind htC (Ev.bind (laws_eqCallS_refl _ (by omega)) (pos rfl ?_)))))
  refine Ev.bind (laws_markPathS_ev _ 1 (by omega) (by omega) (by omega)) (Ev.bind (laws_markControl_ev _ _ _ _ _ (by dsimp only;omega) (by dsimp only;omega) (by dsimp only;omega) (by dsimp only;omega)) ?_)
  refine Ev.bind (laws_markWantS_ev _ _ (by dsimp only;omega) (by dsimp only;omega) (by omega)) (Ev.bind (laws_markCallS_ev _ _ (by dsimp only;omega) (by dsimp only;omega) (by omega)) (neg (by dsimp only;omega) (Ev.bind heq (pos rfl ?_))))
  refine Ev.bind (laws_markIntSS_ev _ 1 (by omega) (by omega) (by omega) hG.2) (Ev.bind held (neg (by omega) (pos rfl ?_)))
  exact Ev.bind htP (Ev.bind htX (Ev.bind htW (Ev.bind htC (Ev.bind him (Ev.bind heq (pos rfl (Ev.bind held (neg (by omega) (pos rfl (now rfl))))))))))

end Go.Proofs.YtdahnapanpiooaaGreat.PureFnExactAskHistory
end

section
namespace Go.Proofs.YtdahnapanpiooaaGreat.fnExactAskHistory
open Go.ChangeShapes Go.WideShapes Go.ChangeAt Go.RowKit
open Go.Proofs.YtdahnapanpiooaaGreatW.PrintWords Go.Proofs.YtdahnapanpiooaaGreat.PAsz Go.Proofs.YtdahnapanpiooaaGreat.Opens Go.Proofs.YtdahnapanpiooaaGreat.Aid Go.Proofs.YtdahnapanpiooaaGreat.PureFnExactAskHistory
set_option linter.unusedVariables false
theorem own : ownKnob Tryz.prog.godebug = none := by kernel_rfl
theorem laidOut : laidOutB Tryz.prog = true := by kernel_rfl
theorem o81 : Opens Tryz.prog 81 k81 wf81 := opens_struct (fun x : S81 => (x.f0, x.f1, x.f2, x.f3)) (fun p => (⟨p.1, p.2.1, p.2.2.1, p.2.2.2⟩ : S81)) (fun _ => rfl) Tryz.underlying81 (by kernel_rfl) (opensF_cons rfl (opens_int Tryz.underlying3 (by kernel_rfl)) (opensF_cons rfl (opens_int Tryz.underlying3 (by kernel_rfl)) (opensF_cons rfl (opens_int Tryz.underlying3 (by kernel_rfl)) (opensF_last rfl (opens_int Tryz.underlying3 (by kernel_rfl))))))
theorem o25 : Opens Tryz.prog 25 k25 wf25 := opens_struct (fun x : S25 => (x.f0, x.f1, x.f2, x.f3)) (fun p => (⟨p.1, p.2.1, p.2.2.1, p.2.2.2⟩ : S25)) (fun _ => rfl) Tryz.underlying25 (by kernel_rfl) (opensF_cons rfl (opens_slice Tryz.underlying23 (by kernel_rfl) (B := 8) (by kernel_rfl) (opens_int Tryz.underlying3 (by kernel_rfl))) (opensF_cons rfl (opens_int Tryz.underlying3 (by kernel_rfl)) (opensF_cons rfl (opens_slice Tryz.underlying23 (by kernel_rfl) (B := 8) (by kernel_rfl) (opens_int Tryz.underlying3 (by kernel_rfl))) (opensF_last rfl (opens_int Tryz.underlying3 (by kernel_rfl))))))
theorem o86 : Opens Tryz.prog 86 k86 wf86 := opens_struct (fun x : S86 => (x.f0, x.f1)) (fun p => (⟨p.1, p.2⟩ : S86)) (fun _ => rfl) Tryz.underlying86 (by kernel_rfl) (opensF_cons rfl (opens_int Tryz.underlying3 (by kernel_rfl)) (opensF_last rfl (opens_int Tryz.underlying3 (by kernel_rfl))))
theorem o88 : Opens Tryz.prog 88 k88 wf88 := opens_struct (fun x : S88 => (x.f0, x.f1)) (fun p => (⟨p.1, p.2⟩ : S88)) (fun _ => rfl) Tryz.underlying88 (by kernel_rfl) (opensF_cons rfl (opens_int Tryz.underlying3 (by kernel_rfl)) (opensF_last rfl (opens_int Tryz.underlying3 (by kernel_rfl))))
theorem arg0 : Opens Tryz.prog 22 (Kd.slice 81 k81) (wfS 32 wf81) := (opens_slice Tryz.underlying22 (by kernel_rfl) (B := 32) (by kernel_rfl) o81)
theorem arg1 : Opens Tryz.prog 25 k25 wf25 := o25
theorem arg2 : Opens Tryz.prog 26 (Kd.slice 86 k86) (wfS 16 wf86) := (opens_slice Tryz.underlying26 (by kernel_rfl) (B := 16) (by kernel_rfl) o86)
theorem arg3 : Opens Tryz.prog 27 (Kd.slice 88 k88) (wfS 16 wf88) := (opens_slice Tryz.underlying27 (by kernel_rfl) (B := 16) (by kernel_rfl) o88)
set_option maxRecDepth 100000 in
theorem lifted (os : Os) (started : os.Started) (H : Type) (enc : TypeId × Value → H) :
    ReturnsInHanded {} Tryz.checked os 3 .any (Rows.fnExactAskHistorySpec.pre6 enc Tryz.prog Tryz.f3 Rows.fnExactAskHistoryRow.domain false) (Rows.fnExactAskHistorySpec.post enc Tryz.prog Tryz.f3 false true false false) := by
  refine returnsInHanded_of_change_sized (C := Tryz.checked) own started (by kernel_rfl) Tryz.func3
    (ChangeSpec.witness6 (enc := enc) (C := Tryz.checked) false ⟨#[], #[.slice none 0 0, .agg #[.slice none 0 0, .int .i64 0, .slice none 0 0, .int .i64 0], .slice none 0 0, .slice none 0 0, .int .i64 0], []⟩ 8 (by kernel_rfl) (by kernel_rfl) (by kernel_rfl) (by kernel_rfl)) ?_
  intro W base args ds gs before hval0 hW hcnd hsz0 _
  have hsz : (DataW.weightsEach Tryz.prog (Tryz.f3.params.toList ++ Rows.fnExactAskHistorySpec.plain.varTypes Tryz.prog) (ds ++ gs)).all (· ≤ reachBytes) = true := hsz0
  have hval : ∀ (j : Nat) t v, Tryz.f3.params[j]? = some t → args[j]? = some v → Value.okWide Tryz.prog W .any base t v := hval0
  have hW' := hW
  obtain ⟨p, q, hA0, hV, rfl, hfz, hnd⟩ := hW
  have hA : DataW.TrodAll enc Tryz.prog W 0 (fun _ => true) true Tryz.f3.params.toList args.toList ds p := hA0
  rw [Tryz.params3] at hA hval hsz
  obtain ⟨v0, vs0, d0, ds0, p0, q0, hargs, rfl, rfl, h0, r0⟩ := trodAll_cons hA
  obtain ⟨v1, vs1, d1, ds1, p1, q1, rfl, rfl, rfl, h1, r1⟩ := trodAll_cons r0
  obtain ⟨v2, vs2, d2, ds2, p2, q2, rfl, rfl, rfl, h2, r2⟩ := trodAll_cons r1
  obtain ⟨v3, vs3, d3, ds3, p3, q3, rfl, rfl, rfl, h3, r3⟩ := trodAll_cons r2
  obtain ⟨v4, vs4, d4, ds4, p4, q4, rfl, rfl, rfl, h4, r4⟩ := trodAll_cons r3
  obtain ⟨rfl, rfl, rfl⟩ := trodAll_nil r4
  obtain rfl : args = #[v0, v1, v2, v3, v4] := by cases args; simp_all
  obtain ⟨rfl, rfl⟩ := trodVars_none hV
  have k0 := h0
  have lt0 : ∀ x ∈ p0, x.block < W.heap.size := by obtain ⟨m, hm⟩ := k0; exact DataW.trod_lt m _ _ _ hm
  obtain ⟨x0, hK0, hW0⟩ := opens_arg arg0 hsz (j := 0) rfl rfl h0
  obtain ⟨A0, c0, rfl, hc0, hC0⟩ := opens_row Tryz.underlying22 (hval 0 22 v0 rfl rfl) hK0
  have k1 := h1
  have lt1 : ∀ x ∈ p1, x.block < W.heap.size := by obtain ⟨m, hm⟩ := k1; exact DataW.trod_lt m _ _ _ hm
  obtain ⟨x1, hK1, hW1⟩ := opens_arg arg1 hsz (j := 1) rfl rfl h1
  obtain ⟨A1_0, c1_0, A1_2, c1_2, e1, hc1_0, hC1_0, hc1_2, hC1_2⟩ := k25_open hK1
  obtain rfl := opens_agg Tryz.underlying25 (hval 1 25 v1 rfl rfl) e1
  have k2 := h2
  have lt2 : ∀ x ∈ p2, x.block < W.heap.size := by obtain ⟨m, hm⟩ := k2; exact DataW.trod_lt m _ _ _ hm
  obtain ⟨x2, hK2, hW2⟩ := opens_arg arg2 hsz (j := 2) rfl rfl h2
  obtain ⟨A2, c2, rfl, hc2, hC2⟩ := opens_row Tryz.underlying26 (hval 2 26 v2 rfl rfl) hK2
  have k3 := h3
  have lt3 : ∀ x ∈ p3, x.block < W.heap.size := by obtain ⟨m, hm⟩ := k3; exact DataW.trod_lt m _ _ _ hm
  obtain ⟨x3, hK3, hW3⟩ := opens_arg arg3 hsz (j := 3) rfl rfl h3
  obtain ⟨A3, c3, rfl, hc3, hC3⟩ := opens_row Tryz.underlying27 (hval 3 27 v3 rfl rfl) hK3
  obtain ⟨a4, rfl, rfl, rfl, w4⟩ := open_int Tryz.underlying3 (hval 4 3 v4 rfl rfl) h4
  clear hA0 hval0 hsz0 hsz
  obtain ⟨k, hk⟩ := Go.Proofs.YtdahnapanpiooaaGreat.PureFnExactAskHistory.FnExactAskHistory x0 hW0 x1 hW1 x2 hW2 x3 hW3 a4 (i64_of w4)
  refine (laws_FnExactAskHistory.calls k _ _ x0 _ _ x1.f0 x1.f1 _ _ x1.f2 x1.f3 _ _ x2 _ _ x3 a4 true W hC0 hc0 hC1_0 hc1_0 hC1_2 hc1_2 hC2 hc2 hC3 hc3 hk).mono fun e W' ⟨he, bel0⟩ => ?_
  have bel : Below W.heap.size W W' := by first | exact bel0 | exact bel0.below
  subst he
  exact ⟨_, rfl, _, _, _, [], _, [], hW', trodAll_mk1 (shut_bool Tryz.underlying4 _), (trodAll_cons_mk (Below.trod laidOut (by kernel_rfl) (of_decide_eq_true (by kernel_rfl)) k0 bel lt0) (trodAll_cons_mk (Below.trod laidOut (by kernel_rfl) (of_decide_eq_true (by kernel_rfl)) k1 bel lt1) (trodAll_cons_mk (Below.trod laidOut (by kernel_rfl) (of_decide_eq_true (by kernel_rfl)) k2 bel lt2) (trodAll_cons_mk (Below.trod laidOut (by kernel_rfl) (of_decide_eq_true (by kernel_rfl)) k3 bel lt3) (trodAll_cons_mk (shut_int Tryz.underlying3 w4) trodAll_mk0))))), rfl, bel.frame _, fun h => by cases h⟩
theorem over : Rows.fnExactAskHistoryRow.holds Tryz.pinned (OpenSpec.ofChange Rows.fnExactAskHistorySpec) :=
  OpenClaim.holds_of_wide 3 Tryz.f3 rfl rfl rfl rfl rfl rfl rfl ⟨rfl, rfl, rfl, rfl, rfl⟩ rfl rfl rfl rfl rfl (by kernel_rfl) Tryz.func3 (by kernel_rfl)
    (of_decide_eq_true (by kernel_rfl)) (by unfold Func.isWrapper; first | (rw [if_pos (by decide +kernel)]; kernel_rfl) | (rw [if_neg (by decide +kernel)]; exact ⟨rfl, rfl⟩))
    (fun os started H enc _ => lifted os started H enc)
theorem proved : Rows.FnExactAskHistorySaid := over
#print axioms proved
end Go.Proofs.YtdahnapanpiooaaGreat.fnExactAskHistory
namespace Go.Proofs.YtdahnapanpiooaaGreat
/-- The row, under a short name, for the claim. -/
theorem fnExactAskHistory_holds : Rows.FnExactAskHistorySaid := fnExactAskHistory.proved
end Go.Proofs.YtdahnapanpiooaaGreat
end
