/- Go functions that the statement reaches: each printed as a Lean function, with a proof that the Go function comes to its answer; conditions: the bounds that each states. -/
import Derived.Lib.Overlaps
import Derived.Lib.AppendZerosOnto
import Derived.Laws.NewBlocks
import Derived.Laws.IdiomCopy
import Derived.WalkKit
import Derived.Deep.RegionLaw
import Derived.Lib.Walk
import Derived.Lib.SliceRun
import Derived.Test.YtdahnapanpiooaaGreatBFnHistories0
import Derived.Test.YtdahnapanpiooaaGreatBFnHistories1
set_option linter.unusedVariables false
set_option linter.unusedSimpArgs false
namespace Go.Proofs.YtdahnapanpiooaaGreat.PHis
open Go.RowKit Go.Lib Go.Proofs.YtdahnapanpiooaaGreatW.PrintWords Go.Proofs.Tryz Go.Proofs.YtdahnapanpiooaaGreatW.PrintWords.Kd
theorem I2 {P:Program} (w:World) (dT sT ty elem:TypeId) (b o dLen dCap:Nat) (a:Addr) (sLen sCap:Nat) (cs:List Value) (sz k:Nat)
 (hu:P.underlying dT=some (.slice elem)) (hs:(P.info? elem).map (·.size)=some 1) (hk:Nat.min sLen dLen=k) (hn:cs.length=k)
 (hsrc:∀ j v,cs[j]?=some v->w.cell? (a.add j)=some v) (hc:∀ j,j<cs.length->(w.cell? ⟨b,o+j,none⟩).isSome=true) (hf:∀ j,j<cs.length->w.frozen? ⟨b,o+j,none⟩=false) (h1:∀ v ∈ cs,v.oneCell'=true) :
 (Builtin.copy_ #[dT,sT] ty #[.slice (some ⟨b,o,none⟩) dLen dCap,.slice (some a) sLen sCap]).run P w=.ok (goInt k) (w.setCells b o cs):=
 Gl w dT sT ty elem b o dLen dCap a sLen sCap cs 1 k hu hs hk oM hsrc hc hf h1
theorem Ra {α:Type} {R:α->List Value->Prop} {ps:List α} {cs vs:List Value} {y:α} (h:Bt R 1 ps cs) (hy:R y vs) (hv:vs.length=1) (i:Nat) (hi:i<=ps.length) :
 Bt R 1 (ps.take i++y::ps.drop i) (cs.take i++vs++cs.drop i):=by
 have h_:=Ow h hy hv i hi
 rwa [Nat.mul_one] at h_
theorem RG {α:Type} (cur inner vs:List α) (i n sz:Nat) (hi:i<=n) (ht:cur.take n=inner) (hil:inner.length=n) (hvl:vs.length=1) (hc:n+1<=cur.length) :
 ((cur.take (i+1)++inner.drop i++cur.drop (i+1+(n-i))).take i++vs++(cur.take (i+1)++inner.drop i++cur.drop (i+1+(n-i))).drop (i+1)).take (n+1)=inner.take i++vs++inner.drop i:=by
 have h_:=Oi cur inner vs i n 1 hi (by rwa [Nat.mul_one]) oM hvl oM
 simpa only [Nat.mul_one] using h_
theorem QL {α:Type} (row inner vs:List α) (i n sz:Nat) (hi:i<=n) (ht:row.take i=inner.take i) (hil:inner.length=n) (hvl:vs.length=1) (hc:n+1<=row.length) :
 ((row.take i++vs++row.drop (i+1)).take (i+1)++inner.drop i++(row.take i++vs++row.drop (i+1)).drop (i+1+(n-i))).take (n+1)=inner.take i++vs++inner.drop i:=by
 have h_:=Nn row inner vs i n 1 hi (by rwa [Nat.mul_one]) oM hvl oM
 simpa only [Nat.mul_one] using h_
theorem Jd:(prog.info? 3).map (·.size)=some 1:=by kernel_rfl
theorem PR (w:World):(Go.sizeOf 3).run prog w=.ok 1 w:=by
 obtain ⟨i0,hi,hz⟩:=Option.map_eq_some_iff.1 Jd
 simp [sizeOf,typeInfo,hi,hz]
theorem QJ (b vb vc i:Nat) (w:World) (hvb:vb≠b) (tA tB:TypeId) (kA kB:Nat) (hsa:w.shape? vb=some (tA,kA)) (hsb:w.shape? b=some (tB,kB)) (hkB:kB≠0) (hfa:w.frozen? ⟨vb,0,none⟩=false) (hfe:w.frozen? ⟨vb,kA,none⟩=false) (lb cb:Nat) :
 (callFunc 178 #[.slice (some ⟨vb,0,none⟩) 1 vc,.slice (some ⟨b,i,none⟩) lb cb]).run prog w=.ok (.value (.bool false)) w:=by
 rw [run_callFunc_extern func178 kF kF kF (e:=Extern.SlicesOverlaps.overlaps #[23,23] #[4]) kF,
  Lib.run_overlaps_apart w 23 4 3 underlying23 1 PR ⟨vb,0,none⟩ ⟨b,i,none⟩ 1 vc lb cb hvb tA tB kA kB hsa hsb hkB hfa hfe]
 rfl
set_option maxHeartbeats 4000000 in
set_option maxRecDepth 100000 in
theorem QM (b n c i vb vc:Nat) (cs vs:List Value) (w:World) (hi:i<n) (hroom:n+1<=c) (J:c<=9223372036854775807) (hvb:vb≠b)
 (hcl:cs.length=n) (hvl:vs.length=1)
 (hcs:∀ j v,cs[j]?=some v->w.cell? ⟨b,j,none⟩=some v) (hsp:∀ j,j<n+1->(w.cell? ⟨b,j,none⟩).isSome=true) (hfz:∀ j,j<n+1->w.frozen? ⟨b,j,none⟩=false)
 (hvs:∀ j v,vs[j]?=some v->w.cell? ⟨vb,j,none⟩=some v) (G:∀ v ∈ cs,v.oneCell'=true) (I:∀ v ∈ vs,v.oneCell'=true)
 (tA tB:TypeId) (kA kB:Nat) (hsa:w.shape? vb=some (tA,kA)) (hsb:w.shape? b=some (tB,kB)) (hkB:kB≠0) (hfa:w.frozen? ⟨vb,0,none⟩=false) (hfe:w.frozen? ⟨vb,kA,none⟩=false) :
 Calls prog 174 #[.slice (some ⟨b,0,none⟩) n c,.int .i64 i,.slice (some ⟨vb,0,none⟩) 1 vc] w fun e w' =>
  e=.returned (.slice (some ⟨b,0,none⟩) (n+1) c)/\w'=(w.drew.setCells b (i+1) (cs.drop i)).setCells b i vs:=by
 have hz2:¬ ((i:Int)=(n:Int)):=by omega
 have hov:∀ lb cb,(callFunc 178 #[.slice (some ⟨vb,0,none⟩) 1 vc,.slice (some ⟨b,(i+1),none⟩) lb cb]).run prog w=.ok (.value (.bool false)) w:=QJ b vb vc _ w hvb tA tB kA kB hsa hsb hkB hfa hfe
 have hdl:(cs.drop i).length=(n-i):=by rw [List.length_drop,hcl]
 have T:IntKind.i64.wrap ((i:Int)+1)=(i:Int)+1:=by rw [IntKind.wrap_i64];omega
 have U:IntKind.i64.wrap ((n:Int)+1)=(n:Int)+1:=by rw [IntKind.wrap_i64];omega
 have hb1:(0:Int)<=(i:Int)+1:=by omega
 have hin:i<=n:=by omega
 have htn:((i:Int)+1).toNat=i+1:=by omega
 have htm:((n:Int)+1).toNat=n+1:=by omega
 have L:¬ (c=i+1):=by omega
 have M:(i:Int)<=(n:Int)+1:=by omega
 have O:¬ (c=i):=by omega
 have P:¬ ((c:Int)<(n:Int)+1):=by omega
 have B:∀ ty dc sc,(Builtin.copy_ #[23,23] ty #[.slice (some ⟨b,(i+1),none⟩) (n-i) dc,.slice (some ⟨b,i,none⟩) (n+1-i) sc]).run prog w.drew=.ok (goInt ((n-i:Nat):Int)) (w.drew.setCells b (i+1) (cs.drop i)):=fun ty dc sc =>
  I2 w.drew _ _ ty 3 b (i+1) (n-i) dc ⟨b,i,none⟩ (n+1-i) sc (cs.drop i) 1 (n-i) underlying23 Jd (by simp only [Nat.min_def];split <;> omega) hdl
   (fun j v hj=>by rw [Addr.add_lit];exact hcs (i+j) v (by rwa [List.getElem?_drop] at hj))
   (fun j hj=>hsp _ oM) (fun j hj=>hfz _ oM) (fun v hv=>G v (List.mem_of_mem_drop hv))
 obtain ⟨W1,A⟩:∃ W1,W1=w.drew.setCells b (i+1) (cs.drop i):=⟨_,rfl⟩
 have E:∀ k,k<n+1->(W1.cell? ⟨b,k,none⟩).isSome=true:=fun k hk=>by
  rw [A]
  exact Gg b (cs.drop i) (i+1) w.drew (fun j hj=>hsp _ (by rw [hdl] at hj;omega)) k (hsp k hk)
 have D:∀ (W:World),(∀ x,W.cell? x=W1.cell? x)->(∀ x,W.frozen? x=W1.frozen? x)->∀ ty dc,(Builtin.copy_ #[23,23] ty #[.slice (some ⟨b,i,none⟩) (n+1-i) dc,.slice (some ⟨vb,0,none⟩) 1 vc]).run prog W=.ok (goInt ((1:Nat):Int)) (W.setCells b i vs):=fun W hWc hWf ty dc =>
  I2 W _ _ ty 3 b i (n+1-i) dc ⟨vb,0,none⟩ 1 vc vs 1 1 underlying23 Jd (by simp only [Nat.min_def];split <;> omega) oM
   (fun j v hj=>by
    rw [Addr.add_lit,hWc,A,World.cell?_setCells_out b _ _ _ _ (fun h _=>absurd h hvb)]
    simpa using hvs j v hj)
   (fun j hj=>by rw [hWc];exact E _ oM) (fun j hj=>by rw [hWf,A,World.frozen?_setCells];exact hfz _ oM) I
 rw [<-A] at B
 go_enter func174,ntmps174
 go_wp2_with (simp only [hov])
 go_region_law (refine Fv rfl _ _ 23 23 rfl _ _ (by simp [Act.eval,Act.put]) (by simp [Act.eval,Act.put]) (B _ _ _) ?_)
 go_wp2_with (at_builtin;refine list_copy_known _ rfl _ _ 23 23 rfl _ _ rfl rfl (D _ (fun _=>rfl) (fun _=>rfl) _ _) ?_)
 go_ret
 first|exact ⟨rfl,rfl⟩|exact ⟨rfl,by rw [A]⟩
set_option maxHeartbeats 4000000 in
set_option maxRecDepth 100000 in
theorem RF (b n c i vb vc:Nat) (cs vs:List Value) (w:World) (hi:i<n) (hnc:n<=c) (hroom:c<n+1) (hbig:(n+1)*8<=140737488355328)
 (hcl:cs.length=n) (hvl:vs.length=1)
 (hcs:∀ j v,cs[j]?=some v->w.cell? ⟨b,j,none⟩=some v)
 (hvs:∀ j v,vs[j]?=some v->w.cell? ⟨vb,j,none⟩=some v) (D:∀ v ∈ cs,v.oneCell'=true) (E:∀ v ∈ vs,v.oneCell'=true) :
 Calls prog 174 #[.slice (some ⟨b,0,none⟩) n c,.int .i64 i,.slice (some ⟨vb,0,none⟩) 1 vc] w fun e w' =>
  ∃ (G:Nat) (ROW:Array Value),n+1<=G/\G<=maxLen/\ROW.size=G/\ROW.toList.take i=cs.take i/\e=.returned (.slice (some ⟨w.heap.size,0,none⟩) (n+1) G) /\
  w'=(((w.alloc (.cells ROW 3)).drew.setCells w.heap.size i vs).drew).setCells w.heap.size (i+1) (cs.drop i):=by
 obtain ⟨i0,P,hzz⟩:=Option.map_eq_some_iff.1 De
 simp only [Prod.mk.injEq] at hzz
 obtain ⟨hz0,hzs,hzb⟩:=hzz
 have hz2:¬ ((i:Int)=(n:Int)):=by omega
 have Z:(c:Int)<(n:Int)+1:=by omega
 have hbw:b<w.heap.size:=block_lt_of_cell (hcs 0 _ (List.getElem?_eq_getElem oM))
 have hvw:vb<w.heap.size:=block_lt_of_cell (hvs 0 _ (List.getElem?_eq_getElem oM))
 have hkk:(n:Int)+1-(i:Int)=((n+1-i:Nat):Int):=by omega
 have hik:i+(n+1-i)=n+1:=by omega
 have hold:(Builtin.firstCells i0.size i (.slice (some ⟨b,0,none⟩) i c)).run prog w.drew=.ok (cs.take i).toArray w.drew:=by
  rw [hzs]
  exact run_firstCells_some w.drew 1 i ⟨b,0,none⟩ i c (cs.take i) (by rw [List.length_take];omega) (fun j v hj=>by
   rw [Addr.add_lit,Nat.zero_add]
   rw [List.getElem?_take] at hj
   split at hj
   . exact hcs j v hj
   . cases hj)
 have hrz:∀ ty,(Builtin.append_ #[23,3] ty #[.slice (some ⟨b,0,none⟩) i c,.int .i64 ((n:Int)+1-(i:Int))]).run prog w =
  .ok (.slice (some ⟨w.heap.size,0,none⟩) (n+1) (grownCap w (n+1) c 3)) (w.drew.alloc (.cells ((cs.take i).toArray++Builtin.zeroCells (Value.int .i64 0).cells (n+1-i)++Builtin.zeroCells (Value.int .i64 0).cells (grownCap w (n+1) c 3-(n+1))) 3)):=fun ty=>by
  have h:=Lib.run_append_grow_zeros w 23 3 ty 3 i0 _ .i64 .i64 underlying23 kF P hz0 (some ⟨b,0,none⟩) i c (cs.take i) hold (n+1-i) oM oM oM oM (by rw [hzb];omega) (by rw [hzb,hik];exact growslice_fits hroom hbig)
  rw [hik] at h
  rw [hkk]
  exact h
 obtain ⟨G,hG⟩:∃ G,G=grownCap w (n+1) c 3:=⟨_,rfl⟩
 obtain ⟨ROW,hROW⟩:∃ ROW:Array Value,ROW=(cs.take i).toArray++Builtin.zeroCells (Value.int .i64 0).cells (n+1-i)++Builtin.zeroCells (Value.int .i64 0).cells (G-(n+1)):=⟨_,rfl⟩
 rw [<-hG] at hrz
 rw [<-hROW] at hrz
 have hGn:n+1<=G:=by rw [hG];exact grownCap_ge w _ _ _
 have hRl:ROW.size=G:=by
  rw [hROW]
  simp [Builtin.zeroCells,Value.cells]
  omega
 have hRt:ROW.toList.take i=cs.take i:=by
  rw [hROW]
  simp only [Array.toList_append,List.toList_toArray,List.append_assoc]
  rw [List.take_append_of_le_length (by rw [List.length_take];omega),List.take_take,Nat.min_self]
 obtain ⟨W1,A⟩:∃ W1,W1=w.drew.alloc (.cells ROW 3):=⟨_,rfl⟩
 rw [<-A] at hrz
 have hN:∀ j,j<n+1->(W1.cell? ⟨w.heap.size,j,none⟩).isSome=true:=fun j hj=>by
  rw [A,World.cell?_alloc_at (w:=w.drew) ROW _ w.heap.size j rfl,Array.getElem?_eq_getElem oM];rfl
 have hNf:∀ j,W1.frozen? ⟨w.heap.size,j,none⟩=false:=fun j=>by rw [A];exact World.frozen?_alloc_at (w:=w.drew) ROW _ w.heap.size j rfl
 have hOb:∀ j v,w.cell? ⟨b,j,none⟩=some v->W1.cell? ⟨b,j,none⟩=some v:=fun j v h=>by rw [A,World.cell?_alloc_past (w:=w.drew) _ b j hbw];exact h
 have hOv:∀ j v,w.cell? ⟨vb,j,none⟩=some v->W1.cell? ⟨vb,j,none⟩=some v:=fun j v h=>by rw [A,World.cell?_alloc_past (w:=w.drew) _ vb j hvw];exact h
 have hcpA:∀ (W:World),(∀ x,W.cell? x=W1.cell? x)->(∀ x,W.frozen? x=W1.frozen? x)->∀ ty dc,(Builtin.copy_ #[23,23] ty #[.slice (some ⟨w.heap.size,i,none⟩) (n+1-i) dc,.slice (some ⟨vb,0,none⟩) 1 vc]).run prog W=.ok (goInt ((1:Nat):Int)) (W.setCells w.heap.size i vs):=fun W hWc hWf ty dc =>
  I2 W _ _ ty 3 w.heap.size i (n+1-i) dc ⟨vb,0,none⟩ 1 vc vs 1 1 underlying23 Jd (by simp only [Nat.min_def];split <;> omega) oM
   (fun j v hj=>by rw [Addr.add_lit,hWc,Nat.zero_add];exact hOv _ v (hvs j v hj))
   (fun j hj=>by rw [hWc];exact hN _ oM) (fun j hj=>by rw [hWf];exact hNf _) E
 have B:G<=maxLen:=by
  rw [hG]
  exact grownCap_le_maxLen w (n+1) c 3 (by unfold maxLen;omega)
 have O:G<=9223372036854775807:=by
  unfold maxLen at B
  omega
 have hGi:¬ (G=i):=by omega
 have hGim:¬ (G=i+1):=by omega
 have hci:¬ (c=i):=by omega
 have hbN:b≠w.heap.size:=by omega
 have hdl:(cs.drop i).length=(n-i):=by rw [List.length_drop,hcl]
 have hcpB:∀ (W:World),(∀ x,W.cell? x=(W1.setCells w.heap.size i vs).cell? x)->(∀ x,W.frozen? x=(W1.setCells w.heap.size i vs).frozen? x)->∀ ty dc sc,(Builtin.copy_ #[23,23] ty #[.slice (some ⟨w.heap.size,(i+1),none⟩) (n-i) dc,.slice (some ⟨b,i,none⟩) (n-i) sc]).run prog W=.ok (goInt ((n-i:Nat):Int)) (W.setCells w.heap.size (i+1) (cs.drop i)):=fun W hWc hWf ty dc sc =>
  I2 W _ _ ty 3 w.heap.size (i+1) (n-i) dc ⟨b,i,none⟩ (n-i) sc (cs.drop i) 1 (n-i) underlying23 Jd (by simp only [Nat.min_def];split <;> omega) hdl
   (fun j v hj=>by
    rw [Addr.add_lit,hWc,World.cell?_setCells_out _ _ _ _ _ (fun h _=>absurd h hbN)]
    exact hOb _ v (hcs (i+j) v (by rwa [List.getElem?_drop] at hj)))
   (fun j hj=>by rw [hWc];exact Gg w.heap.size vs i W1 (fun t ht=>hN _ oM) _ (hN _ (by rw [hdl] at hj;omega)))
   (fun j hj=>by rw [hWf,World.frozen?_setCells];exact hNf _) (fun v hv=>D v (List.mem_of_mem_drop hv))
 subst A
 have I:∀ x,((w.alloc (.cells ROW 3)).drew).cell? x=(w.drew.alloc (.cells ROW 3)).cell? x:=fun x=>rfl
 have J:∀ x,((w.alloc (.cells ROW 3)).drew).frozen? x=(w.drew.alloc (.cells ROW 3)).frozen? x:=fun x=>rfl
 have L:∀ x,(((w.alloc (.cells ROW 3)).drew.setCells w.heap.size i vs).drew).cell? x=((w.drew.alloc (.cells ROW 3)).setCells w.heap.size i vs).cell? x:=fun x=>rfl
 have M:∀ x,(((w.alloc (.cells ROW 3)).drew.setCells w.heap.size i vs).drew).frozen? x=((w.drew.alloc (.cells ROW 3)).setCells w.heap.size i vs).frozen? x:=fun x=>rfl
 have U:IntKind.i64.wrap ((i:Int)+1)=(i:Int)+1:=by rw [IntKind.wrap_i64];omega
 have X:IntKind.i64.wrap ((n:Int)+1)=(n:Int)+1:=by rw [IntKind.wrap_i64];omega
 have Y:IntKind.i64.wrap ((n:Int)+1-(i:Int))=(n:Int)+1-(i:Int):=by rw [IntKind.wrap_i64];omega
 have hb1:(0:Int)<=(i:Int)+1:=by omega
 have hin:i<=n:=by omega
 have htn:((i:Int)+1).toNat=i+1:=by omega
 have T:(i:Int)<=(n:Int):=by omega
 clear hkk hik hold hROW hG
 go_enter func174,ntmps174
 go_wp2_with (first
  | (at_builtin;refine Lib.wpList_append_run _ rfl _ _ _ _ rfl _ _ rfl rfl _ _ (hrz _) ?_)
  | (at_builtin;refine list_copy_known _ rfl _ _ 23 23 rfl _ _ rfl rfl (hcpA _ I J _ _) ?_)
  | (at_builtin;refine list_copy_known _ rfl _ _ 23 23 rfl _ _ rfl rfl (hcpB _ (fun _=>rfl) (fun _=>rfl) _ _ _) ?_))
 go_region_law (refine Fv rfl _ _ 23 23 rfl (.slice (some ⟨w.heap.size,(i+1),none⟩) (n-i) (G-(i+1))) (.slice (some ⟨b,i,none⟩) (n-i) (c-i)) (by simp [Act.eval,Act.put]) (by simp [Act.eval,Act.put]) (hcpB _ L M 3 (G-(i+1)) (c-i)) ?_)
 go_wp2
 go_ret
 exact ⟨G,ROW,hGn,B,hRl,hRt,rfl,rfl⟩
theorem QK (xs:List Int) (y:Int) (i:Nat) (v:Value) (vb:Nat) (tv:TypeId) (W:World) (base:Nat) (ok:Nat->Prop) (vs:List Value) (HO:(Kd.int .i64).R 3 W base ok v xs) (hi:i<=xs.length)
 (hK:∀ W ok,(Kd.int .i64).M W base ok y vs) (D:(Kd.int .i64).K W y vs) (hv:W.heap[vb]?=some (.cells vs.toArray tv (0,0))) (hne:some vb≠v.ownBlock) (hfresh:∀ k,W.heap.size<=k->ok k) (hbase:base<=W.heap.size) (hl:(xs.length+1)*8<=140737488355328) :
 Calls prog 174 #[v,.int .i64 i,.slice (some ⟨vb,0,none⟩) 1 1] W fun e w1=>∃ v1,e=.returned v1/\(Kd.int .i64).R 3 w1 base ok v1 (xs.take i++y::xs.drop i)/\Below base W w1/\W.grownBy w1 v.ownBlock/\(v1.ownBlock=v.ownBlock\/∃ b,v1.ownBlock=some b/\W.heap.size<=b):=by
 have hvl:vs.length=1:=(Kd.int .i64).K_len D
 have J:∀ u ∈ vs,u.oneCell'=true:=(Kd.int .i64).K_one D
 have hvw:vb<W.heap.size:=by
  rcases Nat.lt_or_ge vb W.heap.size with h|h
  . exact h
  . rw [Array.getElem?_eq_none h] at hv
    cases hv
 have hvs:∀ j u,vs[j]?=some u->W.cell? ⟨vb,j,none⟩=some u:=fun j u hj=>(EW hv j).trans (by rw [List.getElem?_toArray];exact hj)
 by_cases hin:i=xs.length
 . subst hin
   have HR:Kd.C (Kd.int .i64) W (some ⟨vb,0,none⟩) 1 [y]:=⟨rfl,by omega,fun _=>⟨_,rfl,fun j p hj=>by
    have h0:j=0:=by
     rcases Nat.eq_zero_or_pos j with h|h
     . exact h
     . rw [List.getElem?_eq_none (by simp;omega)] at hj
       cases hj
    subst h0
    simp only [List.getElem?_cons_zero,Option.some.injEq] at hj
    subst hj
    exact ⟨vs,hvl,D,fun q u hq=>by rw [Addr.add_lit];simpa using hvs q u hq⟩⟩⟩
   have e0:xs.take xs.length++y::xs.drop xs.length=xs++[y]:=by simp
   rw [e0]
   obtain ⟨Ao,co,rfl⟩:=AW HO
   have hco:xs.length<=co:=by
    obtain ⟨_,inner,hown,_⟩:=HO
    rcases hown.2 with ⟨e1,_⟩|⟨g,cap,cur,e1,_,_,h3,_⟩
    . injection e1 with _ h4 h5
      omega
    . injection e1 with _ _ h5
      omega
   have HOA:=aK HO
   have HRA:=aK HR
   clear HO HR hK D hv hvs
   go_enter func174,ntmps174
   rcases Ao with _|⟨ab,ao,asp⟩
   all_goals go_wp2_with ((with_reducible refine BT (b:=.append) (xs:=#[.tmp 23,.tmp 24]) rfl ?_);at_builtin;refine Fg (Kd.int .i64) (w0:=W) base rfl (.tmp 23) (.tmp 24) 23 3 (Value.int .i64 0) 8 rfl underlying23 De rfl dC oM _ xs [y] _ _ _ ok (fun _=>False) rfl rfl HOA.o HRA.o (fun x cs h=>h) (fun _ h=>h.elim) hfresh (Below.refl _ _) hbase hl ?_;intro v1 w1 ho hb hg hat)
   all_goals (go_ret;exact ⟨_,rfl,ho,hb,hg,hat⟩)
 . have hi:i<xs.length:=by omega
   obtain ⟨hok,inner,hown,hr⟩:=HO
   have hil:inner.length=xs.length:=hr.1.trans (Nat.mul_one _)
   rcases hown.2 with ⟨_,hn⟩|⟨g,cap,cur,rfl,hbg,hg,hnc,hcap,hsize,htake⟩
   . omega
   have hgw:=ID hg
   replace hsize:cur.size=cap:=hsize.trans (Nat.mul_one _)
   replace htake:cur.toList.take xs.length=inner:=by have q_:=htake;rwa [show xs.length*(Kd.int .i64).sz=xs.length from Nat.mul_one _] at q_
   have hcl:cur.toList.length=cap:=hsize
   have hvg:vb≠g:=fun h=>hne (by rw [h];rfl)
   have hcs:∀ j u,inner[j]?=some u->W.cell? ⟨g,j,none⟩=some u:=fun j u hj=>by
    rw [EW hg j]
    rw [<-htake,List.getElem?_take] at hj
    split at hj
    . simpa using hj
    . cases hj
   have I:∀ u ∈ inner,u.oneCell'=true:=by
    intro u hu
    obtain ⟨q,hq,rfl⟩:=List.mem_iff_getElem.1 hu
    have hc:=hr.2 q _ (List.getElem?_eq_getElem oM)
    refine (Kd.int .i64).K_one ((Kd.int .i64).K_of_M hc) _ ?_
    rw [List.mem_iff_getElem?]
    refine ⟨0,?_⟩
    rw [show q*(Kd.int .i64).sz=q from Nat.mul_one _]
    show ((inner.drop q).take 1)[0]?=some inner[q]
    rw [List.getElem?_take,if_pos dC,List.getElem?_drop,Nat.add_zero,List.getElem?_eq_getElem hq]
   have mlen:maxLen<=9223372036854775807:=by decide
   have newrow:∀ (w1:World) (g1 A:Nat) (B:Array Value),base<=g1->w1.heap[g1]?=some (.cells B 3 (0,0))->xs.length+1<=A->A<=maxLen->B.size=A->B.toList.take ((xs.length+1))=inner.take i++vs++inner.drop i->ok g1 ->
    (Kd.int .i64).R 3 w1 base ok (.slice (some ⟨g1,0,none⟩) (xs.length+1) A) (xs.take i++y::xs.drop i):=by
    intro w1 g1 A B hb1 hg1 T L O P E
    have hlen:(xs.take i++y::xs.drop i).length=xs.length+1:=by simp;omega
    refine ⟨fun k hk=>by
     have:g1=k:=by simpa [Value.ownBlock] using hk
     exact this ▸ E,_,⟨?_,.inr ⟨g1,A,B,by rw [hlen],hb1,hg1,by omega,L,O.trans (Nat.mul_one _).symm,by rw [hlen,show (xs.length+1)*(Kd.int .i64).sz=xs.length+1 from Nat.mul_one _];exact P⟩⟩,Ra (hr.IG (fun p c hp=>hp)) (hK W ok) hvl i oM⟩
    rw [hlen,show (xs.length+1)*(Kd.int .i64).sz=xs.length+1 from Nat.mul_one _]
    simp only [List.length_append,List.length_take,List.length_drop,hvl,hil]
    omega
   by_cases hroom:xs.length+1<=cap
   . refine (QM g xs.length cap i vb 1 inner vs W hi hroom oM hvg hil hvl hcs (fun j hj=>by rw [EW hg j,Array.getElem?_eq_getElem (by rw [hsize];omega)];rfl) (fun j hj=>BB hg j) hvs I J tv 3 vs.toArray.size cur.size (by simp [World.shape?,hv]) (by simp [World.shape?,hg]) (by rw [hsize];omega) (BB hv 0) (BB hv _)).mono ?_
     rintro e w1 ⟨rfl,rfl⟩
     have hdl:(inner.drop i).length=(xs.length-i):=by rw [List.length_drop,hil]
     obtain ⟨c1,g1,s1,l1⟩:=Dx (inner.drop i) (i+1) W.drew cur hg (by rw [hdl,hsize];omega)
     obtain ⟨c2,g2,s2,l2⟩:=Dx vs i _ c1 g1 (by rw [s1,hvl,hsize];omega)
     have o1:=Df g (inner.drop i) (i+1) W.drew
     have o2:=Df g vs i (W.drew.setCells g (i+1) (inner.drop i))
     have Fe:∀ k,k≠g->((W.drew.setCells g (i+1) (inner.drop i)).setCells g i vs).heap[k]?=W.heap[k]?:=fun k hk=>(Dw vs _ k hk).trans ((Dw _ _ k hk).trans rfl)
     have osz:((W.drew.setCells g (i+1) (inner.drop i)).setCells g i vs).heap.size=W.heap.size:=o2.2.2.2.trans o1.2.2.2
     refine ⟨_,rfl,newrow _ g cap c2 hbg g2 hroom hcap (by rw [s2,s1,hsize]) ?_ (hok g rfl),⟨o2.1.trans o1.1,o2.2.1.trans o1.2.1,o2.2.2.1.trans o1.2.2.1,Nat.le_of_eq osz.symm,fun k hk=>Fe k oM⟩,⟨o2.1.trans o1.1,o2.2.1.trans o1.2.1,o2.2.2.1.trans o1.2.2.1,Nat.le_of_eq osz.symm,fun k _ hk=>Fe k (fun h=>hk (by rw [h];rfl))⟩,.inl rfl⟩
     rw [l2,l1,hvl,hdl]
     exact RG cur.toList inner vs i xs.length 1 oM htake hil hvl (by rw [hcl];exact hroom)
   . refine (RF g xs.length cap i vb 1 inner vs W hi hnc oM hl hil hvl hcs hvs I J).mono ?_
     rintro e w1 ⟨G,ROW,hG,hGm,hRs,hRt,rfl,rfl⟩
     have hdl:(inner.drop i).length=(xs.length-i):=by rw [List.length_drop,hil]
     have hnew:(W.alloc (.cells ROW 3)).drew.heap[W.heap.size]?=some (.cells ROW 3 (0,0)):=by
      show (W.heap.push (.cells ROW 3 (0,0)))[W.heap.size]?=_
      exact Array.getElem?_push_size
     have hRl:ROW.toList.length=G:=hRs
     obtain ⟨c1,g1,s1,l1⟩:=Dx vs i (W.alloc (.cells ROW 3)).drew ROW hnew (by rw [hvl,hRs];omega)
     obtain ⟨c2,g2,s2,l2⟩:=Dx (inner.drop i) (i+1) (((W.alloc (.cells ROW 3)).drew.setCells W.heap.size i vs).drew) c1 g1 (by rw [s1,hdl,hRs];omega)
     have o1:=Df W.heap.size vs i (W.alloc (.cells ROW 3)).drew
     have o2:=Df W.heap.size (inner.drop i) (i+1) (((W.alloc (.cells ROW 3)).drew.setCells W.heap.size i vs).drew)
     have Fe:∀ k,k<W.heap.size->((((W.alloc (.cells ROW 3)).drew.setCells W.heap.size i vs).drew).setCells W.heap.size (i+1) (inner.drop i)).heap[k]?=W.heap[k]?:=fun k hk=>(Dw _ _ k oM).trans ((Dw _ _ k oM).trans (Below.refl W.heap.size W |>.alloc (Nat.le_refl _) _ |>.block k hk))
     have osz:W.heap.size<=((((W.alloc (.cells ROW 3)).drew.setCells W.heap.size i vs).drew).setCells W.heap.size (i+1) (inner.drop i)).heap.size:=by
      rw [o2.2.2.2]
      show W.heap.size<=((W.alloc (.cells ROW 3)).drew.setCells W.heap.size i vs).heap.size
      rw [o1.2.2.2]
      show W.heap.size<=(W.heap.push (.cells ROW 3 (0,0))).size
      rw [Array.size_push]
      omega
     refine ⟨_,rfl,newrow _ W.heap.size G c2 hbase g2 hG hGm (by rw [s2,s1,hRs]) ?_ (hfresh _ (Nat.le_refl _)),⟨o2.1.trans o1.1,o2.2.1.trans o1.2.1,o2.2.2.1.trans o1.2.2.1,osz,fun k hk=>Fe k oM⟩,⟨o2.1.trans o1.1,o2.2.1.trans o1.2.1,o2.2.2.1.trans o1.2.2.1,osz,fun k hk _=>Fe k hk⟩,.inr ⟨W.heap.size,rfl,Nat.le_refl _⟩⟩
     rw [l2,l1,hvl,hdl]
     exact QL ROW.toList inner vs i xs.length 1 oM hRt hil hvl (by rw [hRl];exact hG)
theorem PQ {w0 W:World} (xs:List Int) (y:Int) (i:Int) (v:Value) (base:Nat) (ok:Nat->Prop) (vs:List Value) (HO:(Kd.int .i64).R 3 W base ok v xs) (h0:0<=i) (h1:i<=(xs.length:Int))
 (hK:∀ W ok,(Kd.int .i64).M W base ok y vs) (hfresh:∀ k,W.heap.size<=k->ok k) (HB:Below base w0 W) (hbase:base<=W.heap.size) (hl:(xs.length+1)*8<=140737488355328) :
 Calls prog 174 #[v,.int .i64 i,.slice (some ⟨W.heap.size,0,none⟩) 1 1] (W.alloc (.cells vs.toArray 3)) fun e w1 =>
  ∃ v1,e=.returned v1/\(Kd.int .i64).R 3 w1 base ok v1 (Kt xs i [y])/\Below base w0 w1/\W.grownBy w1 v.ownBlock/\(v1.ownBlock=v.ownBlock\/∃ b,v1.ownBlock=some b/\W.heap.size<=b):=by
 obtain ⟨j,rfl⟩:=Int.eq_ofNat_of_zero_le h0
 have hlt:=CC HO
 have hnew:(W.alloc (.cells vs.toArray 3)).heap[W.heap.size]?=some (.cells vs.toArray 3 (0,0)):=by
  show (W.heap.push (.cells vs.toArray 3 (0,0)))[W.heap.size]?=_
  exact Array.getElem?_push_size
 have hsz:(W.alloc (.cells vs.toArray 3)).heap.size=W.heap.size+1:=by
  show (W.heap.push (.cells vs.toArray 3 (0,0))).size=_
  rw [Array.size_push]
 have hba:Below W.heap.size W (W.alloc (.cells vs.toArray 3)):=(Below.refl W.heap.size W).alloc (Nat.le_refl _) _
 refine (QK xs y j v W.heap.size 3 (W.alloc (.cells vs.toArray 3)) base ok vs (D6 HO _) oM hK ((Kd.int .i64).K_of_M (hK _ ok)) hnew (fun h=>by have:=hlt _ h.symm;omega) (fun k hk=>hfresh k oM) oM hl).mono ?_
 rintro e w1 ⟨v1,rfl,ho,hb,hg,hat⟩
 refine ⟨v1,rfl,?_,HB.trans ((hba.mono hbase).trans hb),⟨hg.os,hg.tape,hg.output,by have:=hg.size;omega,fun k hk hne=>(hg.block k oM hne).trans (hba.block k hk)⟩,hat.imp id (fun ⟨b,h1,h2⟩=>⟨b,h1,by omega⟩)⟩
 simpa [Kt] using ho
end Go.Proofs.YtdahnapanpiooaaGreat.PHis
