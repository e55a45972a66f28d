/- Go functions that the statement reaches: each printed as a Lean function, with a proof that the Go function comes to its answer; conditions: the bounds that each states. -/
import Derived.Lib.Overlaps
import Derived.Lib.AppendZerosOnto
import Derived.Laws.NewBlocks
import Derived.Laws.IdiomCopy
import Derived.WalkKit
import Derived.Deep.RegionLaw
import Derived.Lib.Walk
import Derived.Lib.SliceRun
import Derived.Test.YtdahnapanpiooaaGreatBFnHistories0
set_option linter.unusedVariables false
set_option linter.unusedSimpArgs false
namespace Go.Proofs.YtdahnapanpiooaaGreat.PHis
open Go.RowKit Go.Lib Go.Proofs.YtdahnapanpiooaaGreatW.PrintWords Go.Proofs.Tryz Go.Proofs.YtdahnapanpiooaaGreatW.PrintWords.Kd
def Kt {α:Type} (xs:List α) (i:Int) (ys:List α):List α:=xs.take i.toNat++ys++xs.drop i.toNat
theorem Gl {P:Program} (w:World) (dT sT ty elem:TypeId) (b o dLen dCap:Nat) (a:Addr) (sLen sCap:Nat) (cs:List Value) (sz k:Nat)
 (hu:P.underlying dT=some (.slice elem)) (hs:(P.info? elem).map (·.size)=some sz) (hk:Nat.min sLen dLen=k) (hn:cs.length=k*sz)
 (hsrc:∀ j v,cs[j]?=some v->w.cell? (a.add j)=some v) (hc:∀ j,j<cs.length->(w.cell? ⟨b,o+j,none⟩).isSome=true) (hf:∀ j,j<cs.length->w.frozen? ⟨b,o+j,none⟩=false) (h1:∀ v ∈ cs,v.oneCell'=true) :
 (Builtin.copy_ #[dT,sT] ty #[.slice (some ⟨b,o,none⟩) dLen dCap,.slice (some a) sLen sCap]).run P w=.ok (goInt k) (w.setCells b o cs):=by
 have hl:=run_loadCells_list (P:=P) w a cs hsrc
 have hst:=run_storeCells_cells (P:=P) b o cs 0 w (by simpa using hc) (by simpa using hf) h1
 cases hq:P.info? elem with
 | none=>simp [hq] at hs
 | some i =>
  have hi:i.size=sz:=by simpa [hq] using hs
  simp [Builtin.copy_,run_underlying hu,Builtin.lenOf,Builtin.firstCells,sizeOf,typeInfo,hq,hi,hk,<-hn,hl,hst]
theorem Fv {P:Program} {ops:Array Oper} {o:Oper} {a:Act} {w:World} {K:Act->World->Prop} {Q:Exit->Act->World->Prop} {E:Prop}
 (hg:o.guard=none) (d x:Operand) (dT sT:TypeId) (hop:o.op=Op.call { callee:=Callee.builtin Builtin.copy,args:=#[d,x],argTypes:=#[dT,sT] })
 (v u:Value) (hd:a.eval d=v) (hx:a.eval x=u) {v':Value} {w':World} (hr:(Builtin.copy_ #[dT,sT] o.type #[v,u]).run P w=.ok v' w') (hK:K (a.put o.dst v') w') :
 if Region.wanted o (yielded ops a.tmps)=true then Oper.wp P o a w K Q else E:=by
 have hw:Region.wanted o (yielded ops a.tmps)=true:=by simp [Region.wanted,hg]
 rw [if_pos hw]
 unfold Oper.wp
 simp [execOp,hop,resolve,invoke,builtin,hd,hx,hr,Result.andThen]
 exact hK
theorem Gg (b:Nat) (vs:List Value) (o:Nat) (w:World) (h:∀ j,j<vs.length->(w.cell? ⟨b,o+j,none⟩).isSome=true) (k:Nat) (hk:(w.cell? ⟨b,k,none⟩).isSome=true):((w.setCells b o vs).cell? ⟨b,k,none⟩).isSome=true:=by
 by_cases hin:o<=k/\k<o+vs.length
 . have:=World.cell?_setCells_in b vs o w h (k-o) oM
   rw [show o+(k-o)=k by omega] at this
   rw [this];rfl
 . rw [World.cell?_setCells_out b vs o w ⟨b,k,none⟩ (fun _ _=>by show k<o\/o+vs.length<=k;omega)]
   exact hk
theorem Je:(prog.info? 84).map (·.size)=some 2:=by kernel_rfl
theorem PV (w:World):(Go.sizeOf 84).run prog w=.ok 2 w:=by
 obtain ⟨i0,hi,hz⟩:=Option.map_eq_some_iff.1 Je
 simp [sizeOf,typeInfo,hi,hz]
theorem QN (b vb vc i:Nat) (w:World) (hvb:vb≠b) (tA tB:TypeId) (kA kB:Nat) (hsa:w.shape? vb=some (tA,kA)) (hsb:w.shape? b=some (tB,kB)) (hkB:kB≠0) (hfa:w.frozen? ⟨vb,0,none⟩=false) (hfe:w.frozen? ⟨vb,kA,none⟩=false) (lb cb:Nat) :
 (callFunc 132 #[.slice (some ⟨vb,0,none⟩) 1 vc,.slice (some ⟨b,i,none⟩) lb cb]).run prog w=.ok (.value (.bool false)) w:=by
 rw [run_callFunc_extern func132 kF kF kF (e:=Extern.SlicesOverlaps.overlaps #[38,38] #[4]) kF,
  Lib.run_overlaps_apart w 38 4 84 underlying38 2 PV ⟨vb,0,none⟩ ⟨b,i,none⟩ 1 vc lb cb hvb tA tB kA kB hsa hsb hkB hfa hfe]
 rfl
set_option maxHeartbeats 4000000 in
set_option maxRecDepth 100000 in
theorem QP (b n c i vb vc:Nat) (cs vs:List Value) (w:World) (hi:i<n) (hroom:n+1<=c) (J:c<=9223372036854775807) (hvb:vb≠b)
 (hcl:cs.length=n*2) (hvl:vs.length=2)
 (hcs:∀ j v,cs[j]?=some v->w.cell? ⟨b,j,none⟩=some v) (hsp:∀ j,j<(n+1)*2->(w.cell? ⟨b,j,none⟩).isSome=true) (hfz:∀ j,j<(n+1)*2->w.frozen? ⟨b,j,none⟩=false)
 (hvs:∀ j v,vs[j]?=some v->w.cell? ⟨vb,j,none⟩=some v) (G:∀ v ∈ cs,v.oneCell'=true) (I:∀ v ∈ vs,v.oneCell'=true)
 (tA tB:TypeId) (kA kB:Nat) (hsa:w.shape? vb=some (tA,kA)) (hsb:w.shape? b=some (tB,kB)) (hkB:kB≠0) (hfa:w.frozen? ⟨vb,0,none⟩=false) (hfe:w.frozen? ⟨vb,kA,none⟩=false) :
 Calls prog 94 #[.slice (some ⟨b,0,none⟩) n c,.int .i64 i,.slice (some ⟨vb,0,none⟩) 1 vc] w fun e w' =>
  e=.returned (.slice (some ⟨b,0,none⟩) (n+1) c)/\w'=(w.drew.setCells b ((i+1)*2) (cs.drop (i*2))).setCells b (i*2) vs:=by
 have hz2:¬ ((i:Int)=(n:Int)):=by omega
 have hov:∀ lb cb,(callFunc 132 #[.slice (some ⟨vb,0,none⟩) 1 vc,.slice (some ⟨b,(i+1)*2,none⟩) lb cb]).run prog w=.ok (.value (.bool false)) w:=QN b vb vc _ w hvb tA tB kA kB hsa hsb hkB hfa hfe
 have hdl:(cs.drop (i*2)).length=(n-i)*2:=by rw [List.length_drop,hcl];omega
 have T:IntKind.i64.wrap ((i:Int)+1)=(i:Int)+1:=by rw [IntKind.wrap_i64];omega
 have U:IntKind.i64.wrap ((n:Int)+1)=(n:Int)+1:=by rw [IntKind.wrap_i64];omega
 have hb1:(0:Int)<=(i:Int)+1:=by omega
 have hin:i<=n:=by omega
 have htn:((i:Int)+1).toNat=i+1:=by omega
 have htm:((n:Int)+1).toNat=n+1:=by omega
 have L:¬ (c=i+1):=by omega
 have M:(i:Int)<=(n:Int)+1:=by omega
 have O:¬ (c=i):=by omega
 have P:¬ ((c:Int)<(n:Int)+1):=by omega
 have B:∀ ty dc sc,(Builtin.copy_ #[38,38] ty #[.slice (some ⟨b,(i+1)*2,none⟩) (n-i) dc,.slice (some ⟨b,i*2,none⟩) (n+1-i) sc]).run prog w.drew=.ok (goInt ((n-i:Nat):Int)) (w.drew.setCells b ((i+1)*2) (cs.drop (i*2))):=fun ty dc sc =>
  Gl w.drew _ _ ty 84 b ((i+1)*2) (n-i) dc ⟨b,i*2,none⟩ (n+1-i) sc (cs.drop (i*2)) 2 (n-i) underlying38 Je (by simp only [Nat.min_def];split <;> omega) hdl
   (fun j v hj=>by rw [Addr.add_lit];exact hcs (i*2+j) v (by rwa [List.getElem?_drop] at hj))
   (fun j hj=>hsp _ oM) (fun j hj=>hfz _ oM) (fun v hv=>G v (List.mem_of_mem_drop hv))
 obtain ⟨W1,A⟩:∃ W1,W1=w.drew.setCells b ((i+1)*2) (cs.drop (i*2)):=⟨_,rfl⟩
 have E:∀ k,k<(n+1)*2->(W1.cell? ⟨b,k,none⟩).isSome=true:=fun k hk=>by
  rw [A]
  exact Gg b (cs.drop (i*2)) ((i+1)*2) w.drew (fun j hj=>hsp _ (by rw [hdl] at hj;omega)) k (hsp k hk)
 have D:∀ (W:World),(∀ x,W.cell? x=W1.cell? x)->(∀ x,W.frozen? x=W1.frozen? x)->∀ ty dc,(Builtin.copy_ #[38,38] ty #[.slice (some ⟨b,i*2,none⟩) (n+1-i) dc,.slice (some ⟨vb,0,none⟩) 1 vc]).run prog W=.ok (goInt ((1:Nat):Int)) (W.setCells b (i*2) vs):=fun W hWc hWf ty dc =>
  Gl W _ _ ty 84 b (i*2) (n+1-i) dc ⟨vb,0,none⟩ 1 vc vs 2 1 underlying38 Je (by simp only [Nat.min_def];split <;> omega) oM
   (fun j v hj=>by
    rw [Addr.add_lit,hWc,A,World.cell?_setCells_out b _ _ _ _ (fun h _=>absurd h hvb)]
    simpa using hvs j v hj)
   (fun j hj=>by rw [hWc];exact E _ oM) (fun j hj=>by rw [hWf,A,World.frozen?_setCells];exact hfz _ oM) I
 rw [<-A] at B
 go_enter func94,ntmps94
 go_wp2_with (simp only [hov])
 go_region_law (refine Fv rfl _ _ 38 38 rfl _ _ (by simp [Act.eval,Act.put]) (by simp [Act.eval,Act.put]) (B _ _ _) ?_)
 go_wp2_with (at_builtin;refine list_copy_known _ rfl _ _ 38 38 rfl _ _ rfl rfl (D _ (fun _=>rfl) (fun _=>rfl) _ _) ?_)
 go_ret
 first|exact ⟨rfl,rfl⟩|exact ⟨rfl,by rw [A]⟩
set_option maxHeartbeats 4000000 in
set_option maxRecDepth 100000 in
theorem RJ (b n c i vb vc:Nat) (cs vs:List Value) (w:World) (hi:i<n) (hnc:n<=c) (hroom:c<n+1) (hbig:(n+1)*16<=140737488355328)
 (hcl:cs.length=n*2) (hvl:vs.length=2)
 (hcs:∀ j v,cs[j]?=some v->w.cell? ⟨b,j,none⟩=some v)
 (hvs:∀ j v,vs[j]?=some v->w.cell? ⟨vb,j,none⟩=some v) (D:∀ v ∈ cs,v.oneCell'=true) (E:∀ v ∈ vs,v.oneCell'=true) :
 Calls prog 94 #[.slice (some ⟨b,0,none⟩) n c,.int .i64 i,.slice (some ⟨vb,0,none⟩) 1 vc] w fun e w' =>
  ∃ (G:Nat) (ROW:Array Value),n+1<=G/\G<=maxLen/\ROW.size=G*2/\ROW.toList.take (i*2)=cs.take (i*2)/\e=.returned (.slice (some ⟨w.heap.size,0,none⟩) (n+1) G) /\
  w'=(((w.alloc (.cells ROW 84)).drew.setCells w.heap.size (i*2) vs).drew).setCells w.heap.size ((i+1)*2) (cs.drop (i*2)):=by
 obtain ⟨i0,P,hzz⟩:=Option.map_eq_some_iff.1 Ms
 simp only [Prod.mk.injEq] at hzz
 obtain ⟨hz0,hzs,hzb⟩:=hzz
 have hz2:¬ ((i:Int)=(n:Int)):=by omega
 have Z:(c:Int)<(n:Int)+1:=by omega
 have hbw:b<w.heap.size:=block_lt_of_cell (hcs 0 _ (List.getElem?_eq_getElem oM))
 have hvw:vb<w.heap.size:=block_lt_of_cell (hvs 0 _ (List.getElem?_eq_getElem oM))
 have hkk:(n:Int)+1-(i:Int)=((n+1-i:Nat):Int):=by omega
 have hik:i+(n+1-i)=n+1:=by omega
 have hold:(Builtin.firstCells i0.size i (.slice (some ⟨b,0,none⟩) i c)).run prog w.drew=.ok (cs.take (i*2)).toArray w.drew:=by
  rw [hzs]
  exact run_firstCells_some w.drew 2 i ⟨b,0,none⟩ i c (cs.take (i*2)) (by rw [List.length_take];omega) (fun j v hj=>by
   rw [Addr.add_lit,Nat.zero_add]
   rw [List.getElem?_take] at hj
   split at hj
   . exact hcs j v hj
   . cases hj)
 have hrz:∀ ty,(Builtin.append_ #[38,3] ty #[.slice (some ⟨b,0,none⟩) i c,.int .i64 ((n:Int)+1-(i:Int))]).run prog w =
  .ok (.slice (some ⟨w.heap.size,0,none⟩) (n+1) (grownCap w (n+1) c 84)) (w.drew.alloc (.cells ((cs.take (i*2)).toArray++Builtin.zeroCells (Value.agg #[(.int .i64 0),(.int .i64 0)]).cells (n+1-i)++Builtin.zeroCells (Value.agg #[(.int .i64 0),(.int .i64 0)]).cells (grownCap w (n+1) c 84-(n+1))) 84)):=fun ty=>by
  have h:=Lib.run_append_grow_zeros w 38 3 ty 84 i0 _ .i64 .i64 underlying38 kF P hz0 (some ⟨b,0,none⟩) i c (cs.take (i*2)) hold (n+1-i) oM oM oM oM (by rw [hzb];omega) (by rw [hzb,hik];exact growslice_fits hroom hbig)
  rw [hik] at h
  rw [hkk]
  exact h
 obtain ⟨G,hG⟩:∃ G,G=grownCap w (n+1) c 84:=⟨_,rfl⟩
 obtain ⟨ROW,hROW⟩:∃ ROW:Array Value,ROW=(cs.take (i*2)).toArray++Builtin.zeroCells (Value.agg #[(.int .i64 0),(.int .i64 0)]).cells (n+1-i)++Builtin.zeroCells (Value.agg #[(.int .i64 0),(.int .i64 0)]).cells (G-(n+1)):=⟨_,rfl⟩
 rw [<-hG] at hrz
 rw [<-hROW] at hrz
 have hGn:n+1<=G:=by rw [hG];exact grownCap_ge w _ _ _
 have hRl:ROW.size=G*2:=by
  rw [hROW]
  simp [Builtin.zeroCells,Value.cells]
  omega
 have hRt:ROW.toList.take (i*2)=cs.take (i*2):=by
  rw [hROW]
  simp only [Array.toList_append,List.toList_toArray,List.append_assoc]
  rw [List.take_append_of_le_length (by rw [List.length_take];omega),List.take_take,Nat.min_self]
 obtain ⟨W1,A⟩:∃ W1,W1=w.drew.alloc (.cells ROW 84):=⟨_,rfl⟩
 rw [<-A] at hrz
 have hN:∀ j,j<(n+1)*2->(W1.cell? ⟨w.heap.size,j,none⟩).isSome=true:=fun j hj=>by
  rw [A,World.cell?_alloc_at (w:=w.drew) ROW _ w.heap.size j rfl,Array.getElem?_eq_getElem oM];rfl
 have hNf:∀ j,W1.frozen? ⟨w.heap.size,j,none⟩=false:=fun j=>by rw [A];exact World.frozen?_alloc_at (w:=w.drew) ROW _ w.heap.size j rfl
 have hOb:∀ j v,w.cell? ⟨b,j,none⟩=some v->W1.cell? ⟨b,j,none⟩=some v:=fun j v h=>by rw [A,World.cell?_alloc_past (w:=w.drew) _ b j hbw];exact h
 have hOv:∀ j v,w.cell? ⟨vb,j,none⟩=some v->W1.cell? ⟨vb,j,none⟩=some v:=fun j v h=>by rw [A,World.cell?_alloc_past (w:=w.drew) _ vb j hvw];exact h
 have hcpA:∀ (W:World),(∀ x,W.cell? x=W1.cell? x)->(∀ x,W.frozen? x=W1.frozen? x)->∀ ty dc,(Builtin.copy_ #[38,38] ty #[.slice (some ⟨w.heap.size,i*2,none⟩) (n+1-i) dc,.slice (some ⟨vb,0,none⟩) 1 vc]).run prog W=.ok (goInt ((1:Nat):Int)) (W.setCells w.heap.size (i*2) vs):=fun W hWc hWf ty dc =>
  Gl W _ _ ty 84 w.heap.size (i*2) (n+1-i) dc ⟨vb,0,none⟩ 1 vc vs 2 1 underlying38 Je (by simp only [Nat.min_def];split <;> omega) oM
   (fun j v hj=>by rw [Addr.add_lit,hWc,Nat.zero_add];exact hOv _ v (hvs j v hj))
   (fun j hj=>by rw [hWc];exact hN _ oM) (fun j hj=>by rw [hWf];exact hNf _) E
 have B:G<=maxLen:=by
  rw [hG]
  exact grownCap_le_maxLen w (n+1) c 84 (by unfold maxLen;omega)
 have O:G<=9223372036854775807:=by
  unfold maxLen at B
  omega
 have hGi:¬ (G=i):=by omega
 have hGim:¬ (G=i+1):=by omega
 have hci:¬ (c=i):=by omega
 have hbN:b≠w.heap.size:=by omega
 have hdl:(cs.drop (i*2)).length=(n-i)*2:=by rw [List.length_drop,hcl];omega
 have hcpB:∀ (W:World),(∀ x,W.cell? x=(W1.setCells w.heap.size (i*2) vs).cell? x)->(∀ x,W.frozen? x=(W1.setCells w.heap.size (i*2) vs).frozen? x)->∀ ty dc sc,(Builtin.copy_ #[38,38] ty #[.slice (some ⟨w.heap.size,(i+1)*2,none⟩) (n-i) dc,.slice (some ⟨b,i*2,none⟩) (n-i) sc]).run prog W=.ok (goInt ((n-i:Nat):Int)) (W.setCells w.heap.size ((i+1)*2) (cs.drop (i*2))):=fun W hWc hWf ty dc sc =>
  Gl W _ _ ty 84 w.heap.size ((i+1)*2) (n-i) dc ⟨b,i*2,none⟩ (n-i) sc (cs.drop (i*2)) 2 (n-i) underlying38 Je (by simp only [Nat.min_def];split <;> omega) hdl
   (fun j v hj=>by
    rw [Addr.add_lit,hWc,World.cell?_setCells_out _ _ _ _ _ (fun h _=>absurd h hbN)]
    exact hOb _ v (hcs (i*2+j) v (by rwa [List.getElem?_drop] at hj)))
   (fun j hj=>by rw [hWc];exact Gg w.heap.size vs (i*2) W1 (fun t ht=>hN _ oM) _ (hN _ (by rw [hdl] at hj;omega)))
   (fun j hj=>by rw [hWf,World.frozen?_setCells];exact hNf _) (fun v hv=>D v (List.mem_of_mem_drop hv))
 subst A
 have I:∀ x,((w.alloc (.cells ROW 84)).drew).cell? x=(w.drew.alloc (.cells ROW 84)).cell? x:=fun x=>rfl
 have J:∀ x,((w.alloc (.cells ROW 84)).drew).frozen? x=(w.drew.alloc (.cells ROW 84)).frozen? x:=fun x=>rfl
 have L:∀ x,(((w.alloc (.cells ROW 84)).drew.setCells w.heap.size (i*2) vs).drew).cell? x=((w.drew.alloc (.cells ROW 84)).setCells w.heap.size (i*2) vs).cell? x:=fun x=>rfl
 have M:∀ x,(((w.alloc (.cells ROW 84)).drew.setCells w.heap.size (i*2) vs).drew).frozen? x=((w.drew.alloc (.cells ROW 84)).setCells w.heap.size (i*2) vs).frozen? x:=fun x=>rfl
 have U:IntKind.i64.wrap ((i:Int)+1)=(i:Int)+1:=by rw [IntKind.wrap_i64];omega
 have X:IntKind.i64.wrap ((n:Int)+1)=(n:Int)+1:=by rw [IntKind.wrap_i64];omega
 have Y:IntKind.i64.wrap ((n:Int)+1-(i:Int))=(n:Int)+1-(i:Int):=by rw [IntKind.wrap_i64];omega
 have hb1:(0:Int)<=(i:Int)+1:=by omega
 have hin:i<=n:=by omega
 have htn:((i:Int)+1).toNat=i+1:=by omega
 have T:(i:Int)<=(n:Int):=by omega
 clear hkk hik hold hROW hG
 go_enter func94,ntmps94
 go_wp2_with (first
  | (at_builtin;refine Lib.wpList_append_run _ rfl _ _ _ _ rfl _ _ rfl rfl _ _ (hrz _) ?_)
  | (at_builtin;refine list_copy_known _ rfl _ _ 38 38 rfl _ _ rfl rfl (hcpA _ I J _ _) ?_)
  | (at_builtin;refine list_copy_known _ rfl _ _ 38 38 rfl _ _ rfl rfl (hcpB _ (fun _=>rfl) (fun _=>rfl) _ _ _) ?_))
 go_region_law (refine Fv rfl _ _ 38 38 rfl (.slice (some ⟨w.heap.size,(i+1)*2,none⟩) (n-i) (G-(i+1))) (.slice (some ⟨b,i*2,none⟩) (n-i) (c-i)) (by simp [Act.eval,Act.put]) (by simp [Act.eval,Act.put]) (hcpB _ L M 3 (G-(i+1)) (c-i)) ?_)
 go_wp2
 go_ret
 exact ⟨G,ROW,hGn,B,hRl,hRt,rfl,rfl⟩
theorem Ow {α:Type} {R:α->List Value->Prop} {sz:Nat} {ps:List α} {cs vs:List Value} {y:α} (h:Bt R sz ps cs) (hy:R y vs) (hv:vs.length=sz) (i:Nat) (hi:i<=ps.length) :
 Bt R sz (ps.take i++y::ps.drop i) (cs.take (i*sz)++vs++cs.drop (i*sz)):=by
 have hl:=h.1
 have hle:i*sz<=cs.length:=by rw [hl];exact Nat.mul_le_mul_right _ hi
 have h1:(cs.take (i*sz)).length=i*sz:=by rw [List.length_take];omega
 have A:(ps.take i).length=i:=by rw [List.length_take];omega
 refine ⟨?_,?_⟩
 . simp only [List.length_append,List.length_cons,List.length_drop,h1,A,hv,hl]
   have e:ps.length=i+(ps.length-i):=by omega
   rw [show i+(ps.length-i+1)=i+(ps.length-i)+1 by omega,Nat.add_mul,Nat.add_mul,Nat.one_mul,Nat.sub_mul]
   omega
 . intro j p hj
   rw [List.append_assoc]
   by_cases c1:j<i
   . rw [List.getElem?_append_left oM,List.getElem?_take,if_pos c1] at hj
     have:=h.2 j p hj
     have hjs:j*sz+sz<=i*sz:=by rw [<-Nat.succ_mul];exact Nat.mul_le_mul_right _ c1
     rw [List.drop_append_of_le_length oM,List.take_append_of_le_length (by rw [List.length_drop];omega),List.drop_take,List.take_take,Nat.min_eq_left oM]
     exact this
   . rw [List.getElem?_append_right oM,A] at hj
     by_cases c2:j=i
     . subst c2
       simp only [Nat.sub_self,List.getElem?_cons_zero,Option.some.injEq] at hj
       subst hj
       rw [List.drop_append,h1,Nat.sub_self,List.drop_zero,List.drop_eq_nil_of_le oM,List.nil_append,<-hv,List.take_left]
       exact hy
     . have e:j-i=(j-i-1)+1:=by omega
       rw [e,List.getElem?_cons_succ,List.getElem?_drop] at hj
       have:=h.2 _ p hj
       have e2:i+(j-i-1)=j-1:=by omega
       rw [e2] at this
       have e3:j*sz=(j-1)*sz+sz:=by rw [<-Nat.succ_mul];congr 1;omega
       have h3:i*sz<=(j-1)*sz:=Nat.mul_le_mul_right _ oM
       rw [List.drop_append,List.drop_eq_nil_of_le oM,List.nil_append,h1,List.drop_append,List.drop_eq_nil_of_le oM,List.nil_append,hv,List.drop_drop]
       rw [show i*sz+(j*sz-i*sz-sz)=(j-1)*sz by omega]
       exact this
theorem Nq {w w1:World} {b b1:Nat} {ok ok1:Nat->Prop} {x:CR} {cs:List Value} (h:E9.M w b ok x cs):E9.M w1 b1 ok1 x cs:=by
 rw [IS h]
 exact Gb _ _ _ x
theorem RO {w w1:World} {b1:Nat} {ok1:Nat->Prop} {x:CR} {cs:List Value} (h:E9.K w x cs):E9.M w1 b1 ok1 x cs:=by
 rw [Oj h]
 exact Gb _ _ _ x
theorem Oi {α:Type} (cur inner vs:List α) (i n sz:Nat) (hi:i<=n) (ht:cur.take (n*sz)=inner) (hil:inner.length=n*sz) (hvl:vs.length=sz) (hc:(n+1)*sz<=cur.length) :
 ((cur.take ((i+1)*sz)++inner.drop (i*sz)++cur.drop ((i+1)*sz+(n-i)*sz)).take (i*sz)++vs++(cur.take ((i+1)*sz)++inner.drop (i*sz)++cur.drop ((i+1)*sz+(n-i)*sz)).drop (i*sz+sz)).take ((n+1)*sz)=inner.take (i*sz)++vs++inner.drop (i*sz):=by
 have e1:(i+1)*sz=i*sz+sz:=by rw [Nat.add_mul,Nat.one_mul]
 have e2:(n+1)*sz=n*sz+sz:=by rw [Nat.add_mul,Nat.one_mul]
 have e3:i*sz<=n*sz:=Nat.mul_le_mul_right _ hi
 have e4:(n-i)*sz=n*sz-i*sz:=Nat.sub_mul _ _ _
 rw [e2] at hc
 rw [e1,e2,e4]
 have h1:(cur.take (i*sz+sz)).length=i*sz+sz:=by rw [List.length_take];omega
 have hd:(inner.drop (i*sz)).length=n*sz-i*sz:=by rw [List.length_drop,hil]
 have t1:(cur.take (i*sz+sz)++inner.drop (i*sz)++cur.drop (i*sz+sz+(n*sz-i*sz))).take (i*sz)=inner.take (i*sz):=by
  rw [List.append_assoc,List.take_append_of_le_length oM,List.take_take,Nat.min_eq_left oM,<-ht,List.take_take,Nat.min_eq_left e3]
 have t2:(cur.take (i*sz+sz)++inner.drop (i*sz)++cur.drop (i*sz+sz+(n*sz-i*sz))).drop (i*sz+sz)=inner.drop (i*sz)++cur.drop (i*sz+sz+(n*sz-i*sz)):=by
  rw [List.append_assoc,List.drop_append,h1,Nat.sub_self,List.drop_zero,List.drop_eq_nil_of_le oM,List.nil_append]
 rw [t1,t2]
 have h2:(inner.take (i*sz)).length=i*sz:=by rw [List.length_take];omega
 rw [<-List.append_assoc,List.take_append_of_le_length (by simp only [List.length_append];omega)]
 exact List.take_of_length_le (by simp only [List.length_append];omega)
theorem Nn {α:Type} (row inner vs:List α) (i n sz:Nat) (hi:i<=n) (ht:row.take (i*sz)=inner.take (i*sz)) (hil:inner.length=n*sz) (hvl:vs.length=sz) (hc:(n+1)*sz<=row.length) :
 ((row.take (i*sz)++vs++row.drop (i*sz+sz)).take ((i+1)*sz)++inner.drop (i*sz)++(row.take (i*sz)++vs++row.drop (i*sz+sz)).drop ((i+1)*sz+(n-i)*sz)).take ((n+1)*sz)=inner.take (i*sz)++vs++inner.drop (i*sz):=by
 have e1:(i+1)*sz=i*sz+sz:=by rw [Nat.add_mul,Nat.one_mul]
 have e2:(n+1)*sz=n*sz+sz:=by rw [Nat.add_mul,Nat.one_mul]
 have e3:i*sz<=n*sz:=Nat.mul_le_mul_right _ hi
 rw [e2] at hc
 rw [e1,e2,ht]
 have h1:(inner.take (i*sz)).length=i*sz:=by rw [List.length_take];omega
 have hd:(inner.drop (i*sz)).length=n*sz-i*sz:=by rw [List.length_drop,hil]
 have h2:(inner.take (i*sz)++vs).length=i*sz+sz:=by rw [List.length_append,h1,hvl]
 have t1:(inner.take (i*sz)++vs++row.drop (i*sz+sz)).take (i*sz+sz)=inner.take (i*sz)++vs:=by
  rw [List.take_append_of_le_length oM]
  exact List.take_of_length_le oM
 rw [t1,List.take_append_of_le_length (by rw [List.length_append,h2,hd];omega)]
 exact List.take_of_length_le (by rw [List.length_append,h2,hd];omega)
theorem QO (xs:List CR) (y:CR) (i:Nat) (v:Value) (vb:Nat) (tv:TypeId) (W:World) (base:Nat) (ok:Nat->Prop) (vs:List Value) (HO:E9.R 84 W base ok v xs) (hi:i<=xs.length)
 (hK:∀ W ok,E9.M W base ok y vs) (D:E9.K W y vs) (hv:W.heap[vb]?=some (.cells vs.toArray tv (0,0))) (hne:some vb≠v.ownBlock) (hfresh:∀ k,W.heap.size<=k->ok k) (hbase:base<=W.heap.size) (hl:(xs.length+1)*16<=140737488355328) :
 Calls prog 94 #[v,.int .i64 i,.slice (some ⟨vb,0,none⟩) 1 1] W fun e w1=>∃ v1,e=.returned v1/\E9.R 84 w1 base ok v1 (xs.take i++y::xs.drop i)/\Below base W w1/\W.grownBy w1 v.ownBlock/\(v1.ownBlock=v.ownBlock\/∃ b,v1.ownBlock=some b/\W.heap.size<=b):=by
 have hvl:vs.length=2:=E9.K_len D
 have J:∀ u ∈ vs,u.oneCell'=true:=E9.K_one D
 have hvw:vb<W.heap.size:=by
  rcases Nat.lt_or_ge vb W.heap.size with h|h
  . exact h
  . rw [Array.getElem?_eq_none h] at hv
    cases hv
 have hvs:∀ j u,vs[j]?=some u->W.cell? ⟨vb,j,none⟩=some u:=fun j u hj=>(EW hv j).trans (by rw [List.getElem?_toArray];exact hj)
 by_cases hin:i=xs.length
 . subst hin
   have HR:Kd.C E9 W (some ⟨vb,0,none⟩) 1 [y]:=⟨rfl,by omega,fun _=>⟨_,rfl,fun j p hj=>by
    have h0:j=0:=by
     rcases Nat.eq_zero_or_pos j with h|h
     . exact h
     . rw [List.getElem?_eq_none (by simp;omega)] at hj
       cases hj
    subst h0
    simp only [List.getElem?_cons_zero,Option.some.injEq] at hj
    subst hj
    exact ⟨vs,hvl,D,fun q u hq=>by rw [Addr.add_lit];simpa using hvs q u hq⟩⟩⟩
   have e0:xs.take xs.length++y::xs.drop xs.length=xs++[y]:=by simp
   rw [e0]
   obtain ⟨Ao,co,rfl⟩:=AW HO
   have hco:xs.length<=co:=by
    obtain ⟨_,inner,hown,_⟩:=HO
    rcases hown.2 with ⟨e1,_⟩|⟨g,cap,cur,e1,_,_,h3,_⟩
    . injection e1 with _ h4 h5
      omega
    . injection e1 with _ _ h5
      omega
   have HOA:=aK HO
   have HRA:=aK HR
   clear HO HR hK D hv hvs
   go_enter func94,ntmps94
   rcases Ao with _|⟨ab,ao,asp⟩
   all_goals go_wp2_with ((with_reducible refine BT (b:=.append) (xs:=#[.tmp 23,.tmp 24]) rfl ?_);at_builtin;refine Fg E9 (w0:=W) base rfl (.tmp 23) (.tmp 24) 38 84 (Value.agg #[(.int .i64 0),(.int .i64 0)]) 16 rfl underlying38 Ms rfl dC oM _ xs [y] _ _ _ ok (fun _=>False) rfl rfl HOA.o HRA.o (fun x cs h=>RO h) (fun _ h=>h.elim) hfresh (Below.refl _ _) hbase hl ?_;intro v1 w1 ho hb hg hat)
   all_goals (go_ret;exact ⟨_,rfl,ho,hb,hg,hat⟩)
 . have hi:i<xs.length:=by omega
   obtain ⟨hok,inner,hown,hr⟩:=HO
   have hil:inner.length=xs.length*2:=hr.1
   rcases hown.2 with ⟨_,hn⟩|⟨g,cap,cur,rfl,hbg,hg,hnc,hcap,hsize,htake⟩
   . omega
   have hgw:=ID hg
   replace hsize:cur.size=cap*2:=hsize
   replace htake:cur.toList.take (xs.length*2)=inner:=htake
   have hcl:cur.toList.length=cap*2:=hsize
   have hvg:vb≠g:=fun h=>hne (by rw [h];rfl)
   have hcs:∀ j u,inner[j]?=some u->W.cell? ⟨g,j,none⟩=some u:=fun j u hj=>by
    rw [EW hg j]
    rw [<-htake,List.getElem?_take] at hj
    split at hj
    . simpa using hj
    . cases hj
   have I:∀ u ∈ inner,u.oneCell'=true:=by
    intro u hu
    obtain ⟨q,hq,rfl⟩:=List.mem_iff_getElem.1 hu
    have hq2:q / 2<xs.length:=by omega
    have hc:=hr.2 (q / 2) _ (List.getElem?_eq_getElem hq2)
    refine E9.K_one (E9.K_of_M hc) _ ?_
    rw [List.mem_iff_getElem?]
    refine ⟨q % 2,?_⟩
    show ((inner.drop (q / 2*2)).take 2)[q % 2]?=some inner[q]
    rw [List.getElem?_take,if_pos (Nat.mod_lt q (show 0<2 by decide)),List.getElem?_drop,Nat.mul_comm,Nat.div_add_mod,List.getElem?_eq_getElem hq]
   have mlen:maxLen<=9223372036854775807:=by decide
   have newrow:∀ (w1:World) (g1 A:Nat) (B:Array Value),base<=g1->w1.heap[g1]?=some (.cells B 84 (0,0))->xs.length+1<=A->A<=maxLen->B.size=A*2->B.toList.take ((xs.length+1)*2)=inner.take (i*2)++vs++inner.drop (i*2)->ok g1 ->
    E9.R 84 w1 base ok (.slice (some ⟨g1,0,none⟩) (xs.length+1) A) (xs.take i++y::xs.drop i):=by
    intro w1 g1 A B hb1 hg1 T L O P E
    have hlen:(xs.take i++y::xs.drop i).length=xs.length+1:=by simp;omega
    refine ⟨fun k hk=>by
     have:g1=k:=by simpa [Value.ownBlock] using hk
     exact this ▸ E,_,⟨?_,.inr ⟨g1,A,B,by rw [hlen],hb1,hg1,by omega,L,O,by rw [hlen];exact P⟩⟩,Ow (hr.IG (fun p c hp=>Nq hp)) (Nq (hK W ok)) hvl i oM⟩
    rw [hlen]
    show (inner.take (i*2)++vs++inner.drop (i*2)).length=(xs.length+1)*2
    simp only [List.length_append,List.length_take,List.length_drop,hvl,hil]
    omega
   by_cases hroom:xs.length+1<=cap
   . refine (QP g xs.length cap i vb 1 inner vs W hi hroom oM hvg hil hvl hcs (fun j hj=>by rw [EW hg j,Array.getElem?_eq_getElem (by rw [hsize];omega)];rfl) (fun j hj=>BB hg j) hvs I J tv 84 vs.toArray.size cur.size (by simp [World.shape?,hv]) (by simp [World.shape?,hg]) (by rw [hsize];omega) (BB hv 0) (BB hv _)).mono ?_
     rintro e w1 ⟨rfl,rfl⟩
     have hdl:(inner.drop (i*2)).length=(xs.length-i)*2:=by rw [List.length_drop,hil];omega
     obtain ⟨c1,g1,s1,l1⟩:=Dx (inner.drop (i*2)) ((i+1)*2) W.drew cur hg (by rw [hdl,hsize];omega)
     obtain ⟨c2,g2,s2,l2⟩:=Dx vs (i*2) _ c1 g1 (by rw [s1,hvl,hsize];omega)
     have o1:=Df g (inner.drop (i*2)) ((i+1)*2) W.drew
     have o2:=Df g vs (i*2) (W.drew.setCells g ((i+1)*2) (inner.drop (i*2)))
     have Fe:∀ k,k≠g->((W.drew.setCells g ((i+1)*2) (inner.drop (i*2))).setCells g (i*2) vs).heap[k]?=W.heap[k]?:=fun k hk=>(Dw vs _ k hk).trans ((Dw _ _ k hk).trans rfl)
     have osz:((W.drew.setCells g ((i+1)*2) (inner.drop (i*2))).setCells g (i*2) vs).heap.size=W.heap.size:=o2.2.2.2.trans o1.2.2.2
     refine ⟨_,rfl,newrow _ g cap c2 hbg g2 hroom hcap (by rw [s2,s1,hsize]) ?_ (hok g rfl),⟨o2.1.trans o1.1,o2.2.1.trans o1.2.1,o2.2.2.1.trans o1.2.2.1,Nat.le_of_eq osz.symm,fun k hk=>Fe k oM⟩,⟨o2.1.trans o1.1,o2.2.1.trans o1.2.1,o2.2.2.1.trans o1.2.2.1,Nat.le_of_eq osz.symm,fun k _ hk=>Fe k (fun h=>hk (by rw [h];rfl))⟩,.inl rfl⟩
     rw [l2,l1,hvl,hdl]
     exact Oi cur.toList inner vs i xs.length 2 oM htake hil hvl (by rw [hcl];exact Nat.mul_le_mul_right _ hroom)
   . refine (RJ g xs.length cap i vb 1 inner vs W hi hnc oM hl hil hvl hcs hvs I J).mono ?_
     rintro e w1 ⟨G,ROW,hG,hGm,hRs,hRt,rfl,rfl⟩
     have hdl:(inner.drop (i*2)).length=(xs.length-i)*2:=by rw [List.length_drop,hil];omega
     have hnew:(W.alloc (.cells ROW 84)).drew.heap[W.heap.size]?=some (.cells ROW 84 (0,0)):=by
      show (W.heap.push (.cells ROW 84 (0,0)))[W.heap.size]?=_
      exact Array.getElem?_push_size
     have hRl:ROW.toList.length=G*2:=hRs
     obtain ⟨c1,g1,s1,l1⟩:=Dx vs (i*2) (W.alloc (.cells ROW 84)).drew ROW hnew (by rw [hvl,hRs];omega)
     obtain ⟨c2,g2,s2,l2⟩:=Dx (inner.drop (i*2)) ((i+1)*2) (((W.alloc (.cells ROW 84)).drew.setCells W.heap.size (i*2) vs).drew) c1 g1 (by rw [s1,hdl,hRs];omega)
     have o1:=Df W.heap.size vs (i*2) (W.alloc (.cells ROW 84)).drew
     have o2:=Df W.heap.size (inner.drop (i*2)) ((i+1)*2) (((W.alloc (.cells ROW 84)).drew.setCells W.heap.size (i*2) vs).drew)
     have Fe:∀ k,k<W.heap.size->((((W.alloc (.cells ROW 84)).drew.setCells W.heap.size (i*2) vs).drew).setCells W.heap.size ((i+1)*2) (inner.drop (i*2))).heap[k]?=W.heap[k]?:=fun k hk=>(Dw _ _ k oM).trans ((Dw _ _ k oM).trans (Below.refl W.heap.size W |>.alloc (Nat.le_refl _) _ |>.block k hk))
     have osz:W.heap.size<=((((W.alloc (.cells ROW 84)).drew.setCells W.heap.size (i*2) vs).drew).setCells W.heap.size ((i+1)*2) (inner.drop (i*2))).heap.size:=by
      rw [o2.2.2.2]
      show W.heap.size<=((W.alloc (.cells ROW 84)).drew.setCells W.heap.size (i*2) vs).heap.size
      rw [o1.2.2.2]
      show W.heap.size<=(W.heap.push (.cells ROW 84 (0,0))).size
      rw [Array.size_push]
      omega
     refine ⟨_,rfl,newrow _ W.heap.size G c2 hbase g2 hG hGm (by rw [s2,s1,hRs]) ?_ (hfresh _ (Nat.le_refl _)),⟨o2.1.trans o1.1,o2.2.1.trans o1.2.1,o2.2.2.1.trans o1.2.2.1,osz,fun k hk=>Fe k oM⟩,⟨o2.1.trans o1.1,o2.2.1.trans o1.2.1,o2.2.2.1.trans o1.2.2.1,osz,fun k hk _=>Fe k hk⟩,.inr ⟨W.heap.size,rfl,Nat.le_refl _⟩⟩
     rw [l2,l1,hvl,hdl]
     exact Nn ROW.toList inner vs i xs.length 2 oM hRt hil hvl (by rw [hRl];exact Nat.mul_le_mul_right _ hG)
theorem Iu {w0 W:World} (xs:List CR) (y:CR) (i:Int) (v:Value) (base:Nat) (ok:Nat->Prop) (vs:List Value) (HO:E9.R 84 W base ok v xs) (h0:0<=i) (h1:i<=(xs.length:Int))
 (hK:∀ W ok,E9.M W base ok y vs) (hfresh:∀ k,W.heap.size<=k->ok k) (HB:Below base w0 W) (hbase:base<=W.heap.size) (hl:(xs.length+1)*16<=140737488355328) :
 Calls prog 94 #[v,.int .i64 i,.slice (some ⟨W.heap.size,0,none⟩) 1 1] (W.alloc (.cells vs.toArray 84)) fun e w1 =>
  ∃ v1,e=.returned v1/\E9.R 84 w1 base ok v1 (Kt xs i [y])/\Below base w0 w1/\W.grownBy w1 v.ownBlock/\(v1.ownBlock=v.ownBlock\/∃ b,v1.ownBlock=some b/\W.heap.size<=b):=by
 obtain ⟨j,rfl⟩:=Int.eq_ofNat_of_zero_le h0
 have hlt:=CC HO
 have hnew:(W.alloc (.cells vs.toArray 84)).heap[W.heap.size]?=some (.cells vs.toArray 84 (0,0)):=by
  show (W.heap.push (.cells vs.toArray 84 (0,0)))[W.heap.size]?=_
  exact Array.getElem?_push_size
 have hsz:(W.alloc (.cells vs.toArray 84)).heap.size=W.heap.size+1:=by
  show (W.heap.push (.cells vs.toArray 84 (0,0))).size=_
  rw [Array.size_push]
 have hba:Below W.heap.size W (W.alloc (.cells vs.toArray 84)):=(Below.refl W.heap.size W).alloc (Nat.le_refl _) _
 refine (QO xs y j v W.heap.size 84 (W.alloc (.cells vs.toArray 84)) base ok vs (D6 HO _) oM hK (E9.K_of_M (hK _ ok)) hnew (fun h=>by have:=hlt _ h.symm;omega) (fun k hk=>hfresh k oM) oM hl).mono ?_
 rintro e w1 ⟨v1,rfl,ho,hb,hg,hat⟩
 refine ⟨v1,rfl,?_,HB.trans ((hba.mono hbase).trans hb),⟨hg.os,hg.tape,hg.output,by have:=hg.size;omega,fun k hk hne=>(hg.block k oM hne).trans (hba.block k hk)⟩,hat.imp id (fun ⟨b,h1,h2⟩=>⟨b,h1,by omega⟩)⟩
 simpa [Kt] using ho
end Go.Proofs.YtdahnapanpiooaaGreat.PHis
