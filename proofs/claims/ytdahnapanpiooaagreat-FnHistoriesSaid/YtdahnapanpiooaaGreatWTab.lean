import Derived.Test.YtdahnapanpiooaaGreatWLast
import Derived.Test.YtdahnapanpiooaaGreatWWords
namespace Go.Proofs.YtdahnapanpiooaaGreatW.PrintLast
open Go.Proofs.YtdahnapanpiooaaGreatW.PrintWords (AD)
def J3 (md:Region.Mode) (o:Oper):List Nat:=(o.after.toList.filter (fun e=>Region.binds md e)).map (fun e=>e.on)
def OD (md:Region.Mode) (ops:Array Oper) (i:Nat) (oi:Oper):List Nat:=(List.range ops.size).filter fun j=>!(j == i) && match ops[j]? with
 | some oj=>!(oj.after.any (fun e=>Region.binds md e && e.on == i) || oi.apart ops oj)
 | none=>false
def C9 (md:Region.Mode) (ops:Array Oper):Bool×List (List Nat×List Nat):=(Region.noSelect ops,(List.range ops.size).map fun i=>match ops[i]? with
 | some o=>(J3 md o,OD md ops i o)
 | none=>([],[]))
def Ge (T:List (List Nat×List Nat)) (l:List Bool) (i:Nat):Bool:=!l.getD i true && match T[i]? with
 | some r=>r.1.all (fun j=>l.getD j false)
 | none=>false
def II (T:List (List Nat×List Nat)) (l:List Bool):List Nat:=(List.range T.length).filter (Ge T l)
def Of (T:List (List Nat×List Nat)) (l:List Bool) (i:Nat):Bool:=match T[i]? with
 | some r=>r.2.all (fun j=>l.getD j true)
 | none=>false
def ML (T:List (List Nat×List Nat)) (l:List Bool):Bool:=(List.range T.length).all fun j=>!l.getD j false || match T[j]? with
 | some r=>r.1.all (fun k=>l.getD k false)
 | none=>true
def LU (T:List (List Nat×List Nat)) (i:Nat):Nat->Nat->Bool
 | 0,_=>false
 | fuel+1,d=>match T[d]? with
  | some r=>r.1.any fun j=>j == i || LU T i fuel j
  | none=>false
def P3 (T:List (List Nat×List Nat)) (l:List Bool) (ds:List Nat) (i:Nat):Bool:=ds.all fun d=>l.getD d true || LU T i T.length d
section
variable {md:Region.Mode} {ops:Array Oper} {T:Bool×List (List Nat×List Nat)} {l l' li lj lk:Array Bool} {ds:List Nat} {i j k:Nat}
theorem gd (l:Array Bool) (j:Nat) (b:Bool):l.getD j b=l.toList.getD j b:=by simp [Array.getD_eq_getD_getElem?,List.getD_eq_getElem?_getD]
theorem Nr (o:Oper) (p:Nat->Bool):o.after.all (fun e=>!Region.binds md e || p e.on)=(J3 md o).all p:=by
 unfold J3
 rw [<-Array.all_toList]
 induction o.after.toList with
 | nil=>rfl
 | cons e r ih =>
  rw [List.all_cons,ih,List.filter_cons]
  cases h:Region.binds md e <;> simp
theorem QQ (o:Oper) (p:Nat->Bool):o.after.any (fun e=>Region.binds md e && p e.on)=(J3 md o).any p:=by
 unfold J3
 rw [<-Array.any_toList]
 induction o.after.toList with
 | nil=>rfl
 | cons e r ih =>
  rw [List.any_cons,ih,List.filter_cons]
  cases h:Region.binds md e <;> simp
theorem IA:(C9 md ops).2.length=ops.size:=by simp [C9]
theorem J6 {o:Oper} (h:ops[i]?=some o):(C9 md ops).2[i]?=some (J3 md o,OD md ops i o):=by
 have hi:=(Array.getElem?_eq_some_iff.1 h).1
 unfold C9
 rw [List.getElem?_map,List.getElem?_range hi,Option.map_some,h]
theorem J5 (h:ops[i]?=none):(C9 md ops).2[i]?=none:=by
 have hi:ops.size<=i:=Array.getElem?_eq_none_iff.1 h
 exact List.getElem?_eq_none (by rw [IA];exact hi)
theorem Pf:Ge (C9 md ops).2 l.toList i=(!l.getD i true && ((ops[i]?).map (·.after.all fun e=>!Region.binds md e || l.getD e.on false)).getD false):=by
 unfold Ge
 rw [gd]
 cases h:ops[i]? with
 | none=>rw [J5 h];rfl
 | some o =>
  rw [J6 h]
  simp only [Option.map_some,Option.getD_some]
  rw [<-Nr]
  simp only [gd]
theorem Hk:Region.ready md ops l=II (C9 md ops).2 l.toList:=by
 unfold Region.ready II
 rw [IA]
 refine List.filter_congr (fun i _=>?_)
 rw [Pf]
theorem Px:Region.free md ops l i=Of (C9 md ops).2 l.toList i:=by
 unfold Region.free Of
 cases h:ops[i]? with
 | none=>rw [J5 h]
 | some oi =>
  rw [J6 h]
  simp only [OD]
  rw [List.all_filter]
  congr 1
  funext j
  rw [gd]
  cases hj:ops[j]? with
  | none=>cases (j == i) <;> cases (l.toList.getD j true) <;> simp
  | some oj =>
   cases (j == i) <;> cases (l.toList.getD j true) <;> cases (oj.after.any (fun e=>Region.binds md e && e.on == i) || oi.apart ops oj) <;> simp_all
theorem QF:Region.Ko md ops l=ML (C9 md ops).2 l.toList:=by
 unfold Region.Ko ML
 rw [IA]
 congr 1
 funext j
 rw [gd]
 cases h:ops[j]? with
 | none=>rw [J5 h]
 | some o =>
  rw [J6 h]
  simp only
  rw [<-Nr]
  simp only [gd]
theorem Ov:∀ (fuel d:Nat),Region.Gv md ops i fuel d=LU (C9 md ops).2 i fuel d
 | 0,_=>rfl
 | fuel+1,d=>by
  unfold Region.Gv LU
  cases h:ops[d]? with
  | none=>rw [J5 h]
  | some o =>
   rw [J6 h]
   simp only
   rw [<-QQ]
   congr 1
   funext e
   rw [Ov fuel]
theorem Rx:Region.P2 md ops l ds i=P3 (C9 md ops).2 l.toList ds i:=by
 unfold Region.P2 P3
 rw [IA]
 congr 1
 funext d
 rw [gd,Ov]
theorem Lx (h:Ge T.2 l.toList i=true) (hT:C9 md ops=T):(Region.ready md ops l).contains i=true:=by
 subst hT
 rw [Hk]
 unfold II
 rw [List.contains_iff_mem,List.mem_filter,List.mem_range]
 refine ⟨?_,h⟩
 unfold Ge at h
 rw [Bool.and_eq_true] at h
 cases hq:(C9 md ops).2[i]? with
 | none=>rw [hq] at h;simp at h
 | some r=>exact (List.getElem?_eq_some_iff.1 hq).1
theorem I3 (h:(l.toList.set i true == l'.toList)=true):(l.setIfInBounds i true == l')=true:=by
 rw [beq_iff_eq] at h |-
 apply Array.ext'
 rw [Array.toList_setIfInBounds]
 exact h
def Rm (T:Bool×List (List Nat×List Nat)) (l l':List Bool) (i:Nat):Bool:=T.1 && Of T.2 l i && Ge T.2 l i && (l.set i true == l')
theorem Qz (hT:C9 md ops=T) (h:Rm T l.toList l'.toList i=true):Rl md ops l l' i=true:=by
 simp only [Rm,Bool.and_eq_true] at h
 obtain ⟨⟨⟨h1,h2⟩,h3⟩,h4⟩:=h
 have h5:=Lx h3 hT
 have h6:=I3 h4
 subst hT
 simp only [Rl,Bool.and_eq_true]
 exact ⟨⟨⟨h1,by rw [Px];exact h2⟩,h5⟩,h6⟩
def Rb (T:Bool×List (List Nat×List Nat)) (ds:List Nat) (l l':List Bool) (i:Nat):Bool:=T.1 && Of T.2 l i && Ge T.2 l i && ML T.2 l && P3 T.2 l ds i && (l.set i true == l')
theorem R3 (hT:C9 md ops=T) (h:Rb T ds l.toList l'.toList i=true):O5 md ops ds l l' i=true:=by
 simp only [Rb,Bool.and_eq_true] at h
 obtain ⟨⟨⟨⟨⟨h1,h2⟩,h3⟩,h4⟩,h5⟩,h6⟩:=h
 have h7:=Lx h3 hT
 have h8:=I3 h6
 subst hT
 simp only [O5,Bool.and_eq_true]
 exact ⟨⟨⟨⟨⟨h1,by rw [Px];exact h2⟩,h7⟩,by rw [QF];exact h4⟩,by rw [Rx];exact h5⟩,h8⟩
theorem F3 (hT:C9 md ops=T) (h:(II T.2 l.toList == [i] && l.toList.set i true == l'.toList)=true):LV md ops l l' i=true:=by
 simp only [Bool.and_eq_true] at h
 obtain ⟨h1,h2⟩:=h
 subst hT
 simp only [LV,Bool.and_eq_true]
 exact ⟨by rw [Hk];exact h1,I3 h2⟩
theorem Jy (hT:C9 md ops=T) (h:(II T.2 l.toList == [i,j] && l.toList.set i true == li.toList && l.toList.set j true == lj.toList)=true):(Region.ready md ops l == [i,j] && l.setIfInBounds i true == li && l.setIfInBounds j true == lj)=true:=by
 simp only [Bool.and_eq_true] at h |-
 obtain ⟨⟨h1,h2⟩,h3⟩:=h
 subst hT
 exact ⟨⟨by rw [Hk];exact h1,I3 h2⟩,I3 h3⟩
theorem BY (hT:C9 md ops=T) (h:(II T.2 l.toList == [])=true):(Region.ready md ops l == [])=true:=by
 subst hT
 rw [Hk]
 exact h
def Qd (B:List Nat) (d:Nat):List Nat->Nat
 | []=>0
 | n::r=>(2 ^ n ||| (if n<d then B.getD n 0 else 0)) ||| Qd B d r
def Br (T:List (List Nat×List Nat)) (B:List Nat):Bool:=(List.range T.length).all fun d=>match T[d]? with
 | some r=>(B.getD d 0 ||| Qd B d r.1) == Qd B d r.1
 | none=>false
theorem I6 {B:List Nat} {d i:Nat}:∀ {ns:List Nat},(Qd B d ns).testBit i=true->∃ n ∈ ns,n=i\/(n<d/\(B.getD n 0).testBit i=true)
 | [],h=>by simp [Qd] at h
 | n::r,h=>by
  unfold Qd at h
  rw [Nat.testBit_or,Nat.testBit_or,Bool.or_eq_true,Bool.or_eq_true] at h
  rcases h with (h|h)|h
  . rw [Nat.testBit_two_pow] at h
    exact ⟨n,List.mem_cons_self,.inl (by simpa using h)⟩
  . by_cases hn:n<d
    . rw [if_pos hn] at h
      exact ⟨n,List.mem_cons_self,.inr ⟨hn,h⟩⟩
    . rw [if_neg hn] at h
      simp at h
  . obtain ⟨m,hm,h2⟩:=I6 h
    exact ⟨m,List.mem_cons_of_mem _ hm,h2⟩
theorem Nz {T:List (List Nat×List Nat)} {B:List Nat} (hB:Br T B=true):∀ (fuel d:Nat),d<fuel->d<T.length->(B.getD d 0).testBit i=true->LU T i fuel d=true
 | 0,d,h,_,_=>by omega
 | fuel+1,d,h,hd,hb=>by
  have h1:=List.all_eq_true.1 hB d (List.mem_range.2 hd)
  cases hr:T[d]? with
  | none=>rw [hr] at h1;simp at h1
  | some r =>
   rw [hr] at h1
   simp only [beq_iff_eq] at h1
   have h2:(Qd B d r.1).testBit i=true:=by rw [<-h1,Nat.testBit_or,hb,Bool.true_or]
   obtain ⟨n,hn,h3⟩:=I6 h2
   unfold LU
   rw [hr]
   simp only
   rw [List.any_eq_true]
   refine ⟨n,hn,?_⟩
   rcases h3 with rfl|⟨h4,h5⟩
   . simp
   . rw [Nz hB fuel n (by omega) (by omega) h5,Bool.or_true]
def SB (T:List (List Nat×List Nat)) (B:List Nat) (l:List Bool) (ds:List Nat) (i:Nat):Bool:=ds.all fun d=>l.getD d true || (decide (d<T.length) && (B.getD d 0).testBit i)
def Rc (T:Bool×List (List Nat×List Nat)) (B:List Nat) (ds:List Nat) (l l':List Bool) (i:Nat):Bool:=T.1 && Of T.2 l i && Ge T.2 l i && ML T.2 l && SB T.2 B l ds i && (l.set i true == l')
theorem Rd {B:List Nat} (hT:C9 md ops=T) (hB:Br T.2 B=true) (h:Rc T B ds l.toList l'.toList i=true):O5 md ops ds l l' i=true:=by
 refine R3 hT ?_
 simp only [Rc,Rb,Bool.and_eq_true] at h |-
 obtain ⟨⟨⟨⟨⟨h1,h2⟩,h3⟩,h4⟩,h5⟩,h6⟩:=h
 refine ⟨⟨⟨⟨⟨h1,h2⟩,h3⟩,h4⟩,?_⟩,h6⟩
 unfold SB at h5
 unfold P3
 rw [List.all_eq_true] at h5 |-
 intro d hd
 have h7:=h5 d hd
 rw [Bool.or_eq_true,Bool.and_eq_true,decide_eq_true_eq] at h7
 rcases h7 with h7|⟨h8,h9⟩
 . rw [h7,Bool.true_or]
 . rw [Nz hB _ d h8 h8 h9,Bool.or_true]
theorem F8 {P:Program} {Q:Exit->Act->World->Prop} {S:World->Prop} {n:Nat} {a:Act} {w:World} {B:List Nat} (hT:C9 md ops=T) (hB:Br T.2 B=true) (h:AD (C9 md ops=T)->AD (Br T.2 B=true)->BE P md ops Q S ds n l a w):BE P md ops Q S ds n l a w:=h ⟨hT⟩ ⟨hB⟩
end
def KK:Code->Nat->Option (Array Oper)
 | .region id ops _,k=>if id == k then some ops else none
 | .seq a b,k=>match KK a k with
  | some o=>some o
  | none=>KK b k
 | .cond _ a b,k=>match KK a k with
  | some o=>some o
  | none=>KK b k
 | .block _ c,k=>KK c k
 | .loop c,k=>KK c k
 | .scope c,k=>KK c k
 | .rangeFunc _ _ a b,k=>match KK a k with
  | some o=>some o
  | none=>KK b k
 | _,_=>none
def opsOf (f:Func) (k:Nat):Array Oper:=((f.body.bind fun c=>KK c k)).getD #[]
end Go.Proofs.YtdahnapanpiooaaGreatW.PrintLast
