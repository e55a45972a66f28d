/- Go functions that the statement reaches: each printed as a Lean function, with a proof that the Go function comes to its answer; conditions: the bounds that each states. -/
import Derived.Test.YtdahnapanpiooaaGreatBFnExactAskHistory0
import Derived.Test.YtdahnapanpiooaaGreatBFnExactAskHistory4
import Derived.Test.YtdahnapanpiooaaGreatBFnExactAskHistory7
import Derived.Test.YtdahnapanpiooaaGreatBFnExactAskHistory9
namespace Go.Proofs.YtdahnapanpiooaaGreat.PAsz
open Go.RowKit Go.Proofs.YtdahnapanpiooaaGreatW.PrintWords Go.Proofs.YtdahnapanpiooaaGreatW.PrintLast Go.Proofs.YtdahnapanpiooaaGreatW.PrintMore
attribute [local go_sem] max2_int min2_int max_two min_two max_three min_three max_four min_four
set_option linter.unusedVariables false
set_option linter.unusedSimpArgs false
def laws_FnExactAskHistory.f (k:Nat) (l0:List (S81)) (l1_0:List Int) (a1_1:Int) (l1_2:List Int) (a1_3:Int) (l2:List (S86)) (l3:List (S88)) (a4:Int):Option (Bool):=(laws_szPathS.f l0 1048576).bind fun t1=>if t1<0 then (some true) else ((laws_szControl.f l1_0 a1_1 l1_2 a1_3 t1).bind fun t2=>if t2<0 then (some true) else ((laws_szWantS.f l2 t2).bind fun t3=>if t3<0 then (some true) else ((laws_szCallS.f l3 t3).bind fun t4=>if t4<0 then (some true) else ((laws_toPathS.f k l0).bind fun t5=>(laws_toControl.f k l1_0 a1_1 l1_2 a1_3).bind fun pt6=>(laws_toWantS.f k l2).bind fun t10=>(laws_toCallS.f k l3).bind fun t11=>(spec_AskHistory.f k t5 pt6.1 pt6.2.1 pt6.2.2.1 pt6.2.2.2 t10 t11 a4).bind fun t12=>(laws_toPathS.f k l0).bind fun t13=>(laws_toControl.f k l1_0 a1_1 l1_2 a1_3).bind fun pt14=>(laws_toWantS.f k l2).bind fun t18=>(laws_toCallS.f k l3).bind fun t19=>(impl_AskHistory.f k t13 pt14.1 pt14.2.1 pt14.2.2.1 pt14.2.2.2 t18 t19 a4).bind fun t20=>(laws_eqIntSS.f k t20 t12).bind fun t21=>if t21=true then ((laws_toPathS.f k l0).bind fun t22=>(laws_eqPathS.f k t13 t22).bind fun t23=>if t23=true then ((laws_toControl.f k l1_0 a1_1 l1_2 a1_3).bind fun pt24=>(laws_eqControl.f k pt14.1 pt14.2.1 pt14.2.2.1 pt14.2.2.2 pt24.1 pt24.2.1 pt24.2.2.1 pt24.2.2.2).bind fun t28=>if t28=true then ((laws_toWantS.f k l2).bind fun t29=>(laws_eqWantS.f k t18 t29).bind fun t30=>if t30=true then ((laws_toCallS.f k l3).bind fun t31=>(laws_eqCallS.f k t19 t31).bind fun t32=>if t32=true then ((laws_markPathS.f k t13 1).bind fun pt33=>(laws_markControl.f k pt14.1 pt14.2.1 pt14.2.2.1 pt14.2.2.2 pt33.1).bind fun pt35=>(laws_markWantS.f k t18 pt35.1).bind fun pt38=>(laws_markCallS.f k t19 pt38.1).bind fun pt40=>if pt40.1<0 then none else ((laws_eqIntSS.f k t20 t12).bind fun t42=>if t42=true then ((laws_markIntSS.f k t20 1).bind fun pt43=>(laws_heldIntSS.f k pt43.2 1).bind fun t45=>if t45<0 then none else (if t45=pt43.1 then ((laws_toPathS.f k l0).bind fun t46=>(laws_toControl.f k l1_0 a1_1 l1_2 a1_3).bind fun pt47=>(laws_toWantS.f k l2).bind fun t51=>(laws_toCallS.f k l3).bind fun t52=>(impl_AskHistory.f k t46 pt47.1 pt47.2.1 pt47.2.2.1 pt47.2.2.2 t51 t52 a4).bind fun t53=>(laws_eqIntSS.f k t53 t12).bind fun t54=>if t54=true then ((laws_heldIntSS.f k pt43.2 1).bind fun t55=>if t55<0 then none else (if t55=pt43.1 then (some true) else none)) else none) else none)) else none)) else none) else none) else none) else none) else none))))
def laws_FnExactAskHistory.T14:Bool×List (List Nat×List Nat):=(true,[([],[]),([0],[0]),([],[]),([2,1],[2]),([],[]),([4,3],[4]),([],[]),([6,5],[6]),([],[]),([1,3,5,7,8,7],[1,3,5,7,8]),([9,9,0,1,2,3,4,5,6,7,8,9],[9])])
def laws_FnExactAskHistory.B14:List Nat:=[0,1,0,7,0,31,0,127,0,511,1023]
theorem laws_FnExactAskHistory.tab14:rtab .any (opsOf Tryz.f3 14)=laws_FnExactAskHistory.T14:=by kernel_rfl
theorem laws_FnExactAskHistory.bits14:waitsOk laws_FnExactAskHistory.T14.2 laws_FnExactAskHistory.B14=true:=by kernel_rfl
def laws_FnExactAskHistory.T24:Bool×List (List Nat×List Nat):=(true,[([],[]),([],[]),([1],[1]),([0,2,2],[0,2]),([3],[3])])
def laws_FnExactAskHistory.B24:List Nat:=[0,0,2,7,15]
theorem laws_FnExactAskHistory.tab24:rtab .any (opsOf Tryz.f3 24)=laws_FnExactAskHistory.T24:=by kernel_rfl
theorem laws_FnExactAskHistory.bits24:waitsOk laws_FnExactAskHistory.T24.2 laws_FnExactAskHistory.B24=true:=by kernel_rfl
def laws_FnExactAskHistory.T45:Bool×List (List Nat×List Nat):=(true,[([],[]),([0],[0]),([],[]),([2,1],[2]),([],[]),([4,3],[4]),([],[]),([6,5],[6]),([],[]),([1,3,5,7,8,7],[1,3,5,7,8]),([9,9,0,1,2,3,4,5,6,7,8,9],[9])])
def laws_FnExactAskHistory.B45:List Nat:=[0,1,0,7,0,31,0,127,0,511,1023]
theorem laws_FnExactAskHistory.tab45:rtab .any (opsOf Tryz.f3 45)=laws_FnExactAskHistory.T45:=by kernel_rfl
theorem laws_FnExactAskHistory.bits45:waitsOk laws_FnExactAskHistory.T45.2 laws_FnExactAskHistory.B45=true:=by kernel_rfl
set_option maxHeartbeats 8000000 in
set_option maxRecDepth 100000 in
theorem laws_FnExactAskHistory.calls (k:Nat) (A0:Option Addr) (c0:Nat) (l0:List (S81)) (A1_0:Option Addr) (c1_0:Nat) (l1_0:List Int) (a1_1:Int) (A1_2:Option Addr) (c1_2:Nat) (l1_2:List Int) (a1_3:Int) (A2:Option Addr) (c2:Nat) (l2:List (S86)) (A3:Option Addr) (c3:Nat) (l3:List (S88)) (a4:Int) (r:Bool) (w:World) (hr0:Kd.C k81 w A0 l0.length l0) (hc0:l0.length≤c0) (hr1_0:Kd.C (Kd.int .i64) w A1_0 l1_0.length l1_0) (hc1_0:l1_0.length≤c1_0) (hr1_2:Kd.C (Kd.int .i64) w A1_2 l1_2.length l1_2) (hc1_2:l1_2.length≤c1_2) (hr2:Kd.C k86 w A2 l2.length l2) (hc2:l2.length≤c2) (hr3:Kd.C k88 w A3 l3.length l3) (hc3:l3.length≤c3) (h:laws_FnExactAskHistory.f k l0 l1_0 a1_1 l1_2 a1_3 l2 l3 a4=some r) :
    Calls Tryz.prog 3 #[.slice A0 l0.length c0,.agg #[.slice A1_0 l1_0.length c1_0,.int .i64 a1_1,.slice A1_2 l1_2.length c1_2,.int .i64 a1_3],.slice A2 l2.length c2,.slice A3 l3.length c3,.int .i64 a4] w fun e w'=>e=.returned (.bool r)∧Below w.heap.size w w':=by
  have HR0:=aK hr0;have HC0:=aK hc0;clear hr0 hc0
  have HR1_0:=aK hr1_0;have HC1_0:=aK hc1_0;clear hr1_0 hc1_0
  have HR1_2:=aK hr1_2;have HC1_2:=aK hc1_2;clear hr1_2 hc1_2
  have HR2:=aK hr2;have HC2:=aK hc2;clear hr2 hc2
  have HR3:=aK hr3;have HC3:=aK hc3;clear hr3 hc3
  have hu25:=Tryz.underlying25
  have hu36:=Tryz.underlying36
  have HB:=aK (Below.refl w.heap.size w)
  have H:=h
  unfold laws_FnExactAskHistory.f at H
  clear h
  replace H:=sQ H;obtain ⟨t1,Q1_,H⟩:=H
  by_cases e1:t1<0
  · rw [if_pos e1] at H
    have e1b:decide (t1<0)=true:=decide_eq_true e1
    obtain rfl:=Option.some.inj H
    go_enter Tryz.func3,Tryz.ntmps3
    go_wp2_with (first
      | ((with_reducible refine gate_dst (N:=6) rfl ?_);refine xE 6 ?_;intro gP1 hg w1 hbox hb;have BKP1:=aK hbox;have gsP1:=aK (show w.heap.size≤gP1∧gP1<w1.heap.size from ⟨by omega,blk_lt hbox⟩);have s1:w.heap.size≤w1.heap.size:=hb.size;replace HB:=uH hb;clear hb hbox hg)
      | ((with_reducible refine gC 5 rfl ?_);refine aL 24 Tryz.func5 (laws_szPathS.calls _ _ l0 1048576 _ _ (cA HR0) HC0.out Q1_.out) ?_;rintro e w2 ⟨rfl,hd⟩;have hb:=drawnB hd;clear hd;refine ⟨_,rfl,?_⟩;have s2:w1.heap.size≤w2.heap.size:=hb.size;replace BKP1:=uB BKP1 hb;replace HB:=uH hb;clear hb))
    go_ret
    exact ⟨rfl,bQ⟩
  rw [if_neg e1] at H
  have e1b:decide (t1<0)=false:=decide_eq_false e1
  clear e1
  replace H:=sQ H;obtain ⟨t2,Q2_,H⟩:=H
  by_cases e2:t2<0
  · rw [if_pos e2] at H
    have e2b:decide (t2<0)=true:=decide_eq_true e2
    obtain rfl:=Option.some.inj H
    go_enter Tryz.func3,Tryz.ntmps3
    go_wp2_with (first
      | ((with_reducible refine gate_dst (N:=6) rfl ?_);refine xE 6 ?_;intro gP1 hg w1 hbox hb;have BKP1:=aK hbox;have gsP1:=aK (show w.heap.size≤gP1∧gP1<w1.heap.size from ⟨by omega,blk_lt hbox⟩);have s1:w.heap.size≤w1.heap.size:=hb.size;replace HB:=uH hb;clear hb hbox hg)
      | ((with_reducible refine gC 5 rfl ?_);refine aL 24 Tryz.func5 (laws_szPathS.calls _ _ l0 1048576 _ _ (cA HR0) HC0.out Q1_.out) ?_;rintro e w2 ⟨rfl,hd⟩;have hb:=drawnB hd;clear hd;refine ⟨_,rfl,?_⟩;have s2:w1.heap.size≤w2.heap.size:=hb.size;replace BKP1:=uB BKP1 hb;replace HB:=uH hb;clear hb;have hzP1:=zF4 BKP1)
      | ((with_reducible refine gC 6 rfl ?_);refine aL 29 Tryz.func6 (laws_szControl.calls _ _ l1_0 a1_1 _ _ l1_2 a1_3 t1 _ _ (cA HR1_0) HC1_0.out (cA HR1_2) HC1_2.out Q2_.out) ?_;rintro e w3 ⟨rfl,hb⟩;clear hzP1;refine ⟨_,rfl,?_⟩;have s3:w2.heap.size≤w3.heap.size:=hb.size;replace BKP1:=uB BKP1 hb;replace HB:=uH hb;clear hb))
    go_ret
    exact ⟨rfl,bQ⟩
  rw [if_neg e2] at H
  have e2b:decide (t2<0)=false:=decide_eq_false e2
  clear e2
  replace H:=sQ H;obtain ⟨t3,Q3_,H⟩:=H
  by_cases e3:t3<0
  · rw [if_pos e3] at H
    have e3b:decide (t3<0)=true:=decide_eq_true e3
    obtain rfl:=Option.some.inj H
    go_enter Tryz.func3,Tryz.ntmps3
    go_wp2_with (first
      | ((with_reducible refine gate_dst (N:=6) rfl ?_);refine xE 6 ?_;intro gP1 hg w1 hbox hb;have BKP1:=aK hbox;have gsP1:=aK (show w.heap.size≤gP1∧gP1<w1.heap.size from ⟨by omega,blk_lt hbox⟩);have s1:w.heap.size≤w1.heap.size:=hb.size;replace HB:=uH hb;clear hb hbox hg)
      | ((with_reducible refine gC 5 rfl ?_);refine aL 24 Tryz.func5 (laws_szPathS.calls _ _ l0 1048576 _ _ (cA HR0) HC0.out Q1_.out) ?_;rintro e w2 ⟨rfl,hd⟩;have hb:=drawnB hd;clear hd;refine ⟨_,rfl,?_⟩;have s2:w1.heap.size≤w2.heap.size:=hb.size;replace BKP1:=uB BKP1 hb;replace HB:=uH hb;clear hb;have hzP1:=zF4 BKP1)
      | ((with_reducible refine gC 6 rfl ?_);refine aL 29 Tryz.func6 (laws_szControl.calls _ _ l1_0 a1_1 _ _ l1_2 a1_3 t1 _ _ (cA HR1_0) HC1_0.out (cA HR1_2) HC1_2.out Q2_.out) ?_;rintro e w3 ⟨rfl,hb⟩;clear hzP1;refine ⟨_,rfl,?_⟩;have s3:w2.heap.size≤w3.heap.size:=hb.size;replace BKP1:=uB BKP1 hb;replace HB:=uH hb;clear hb)
      | ((with_reducible refine gC 7 rfl ?_);refine aL 34 Tryz.func7 (laws_szWantS.calls _ _ l2 t2 _ _ (cA HR2) HC2.out Q3_.out) ?_;rintro e w4 ⟨rfl,hd⟩;have hb:=drawnB hd;clear hd;refine ⟨_,rfl,?_⟩;have s4:w3.heap.size≤w4.heap.size:=hb.size;replace BKP1:=uB BKP1 hb;replace HB:=uH hb;clear hb))
    go_ret
    exact ⟨rfl,bQ⟩
  rw [if_neg e3] at H
  have e3b:decide (t3<0)=false:=decide_eq_false e3
  clear e3
  replace H:=sQ H;obtain ⟨t4,Q4_,H⟩:=H
  by_cases e4:t4<0
  · rw [if_pos e4] at H
    have e4b:decide (t4<0)=true:=decide_eq_true e4
    obtain rfl:=Option.some.inj H
    go_enter Tryz.func3,Tryz.ntmps3
    go_wp2_with (first
      | ((with_reducible refine gate_dst (N:=6) rfl ?_);refine xE 6 ?_;intro gP1 hg w1 hbox hb;have BKP1:=aK hbox;have gsP1:=aK (show w.heap.size≤gP1∧gP1<w1.heap.size from ⟨by omega,blk_lt hbox⟩);have s1:w.heap.size≤w1.heap.size:=hb.size;replace HB:=uH hb;clear hb hbox hg)
      | ((with_reducible refine gC 5 rfl ?_);refine aL 24 Tryz.func5 (laws_szPathS.calls _ _ l0 1048576 _ _ (cA HR0) HC0.out Q1_.out) ?_;rintro e w2 ⟨rfl,hd⟩;have hb:=drawnB hd;clear hd;refine ⟨_,rfl,?_⟩;have s2:w1.heap.size≤w2.heap.size:=hb.size;replace BKP1:=uB BKP1 hb;replace HB:=uH hb;clear hb;have hzP1:=zF4 BKP1)
      | ((with_reducible refine gC 6 rfl ?_);refine aL 29 Tryz.func6 (laws_szControl.calls _ _ l1_0 a1_1 _ _ l1_2 a1_3 t1 _ _ (cA HR1_0) HC1_0.out (cA HR1_2) HC1_2.out Q2_.out) ?_;rintro e w3 ⟨rfl,hb⟩;clear hzP1;refine ⟨_,rfl,?_⟩;have s3:w2.heap.size≤w3.heap.size:=hb.size;replace BKP1:=uB BKP1 hb;replace HB:=uH hb;clear hb)
      | ((with_reducible refine gC 7 rfl ?_);refine aL 34 Tryz.func7 (laws_szWantS.calls _ _ l2 t2 _ _ (cA HR2) HC2.out Q3_.out) ?_;rintro e w4 ⟨rfl,hd⟩;have hb:=drawnB hd;clear hd;refine ⟨_,rfl,?_⟩;have s4:w3.heap.size≤w4.heap.size:=hb.size;replace BKP1:=uB BKP1 hb;replace HB:=uH hb;clear hb)
      | ((with_reducible refine gC 8 rfl ?_);refine aL 39 Tryz.func8 (laws_szCallS.calls _ _ l3 t3 _ _ (cA HR3) HC3.out Q4_.out) ?_;rintro e w5 ⟨rfl,hd⟩;have hb:=drawnB hd;clear hd;refine ⟨_,rfl,?_⟩;have s5:w4.heap.size≤w5.heap.size:=hb.size;replace BKP1:=uB BKP1 hb;replace HB:=uH hb;clear hb))
    go_ret
    exact ⟨rfl,bQ⟩
  rw [if_neg e4] at H
  have e4b:decide (t4<0)=false:=decide_eq_false e4
  clear e4
  replace H:=sQ H;obtain ⟨t5,Q5_,H⟩:=H
  replace H:=sQ H;obtain ⟨⟨t6,t7,t8,t9⟩,Q6_,H⟩:=H
  dsimp only at H
  replace H:=sQ H;obtain ⟨t10,Q7_,H⟩:=H
  replace H:=sQ H;obtain ⟨t11,Q8_,H⟩:=H
  replace H:=sQ H;obtain ⟨t12,Q9_,H⟩:=H
  replace H:=sQ H;obtain ⟨t13,Q10_,H⟩:=H
  replace H:=sQ H;obtain ⟨⟨t14,t15,t16,t17⟩,Q11_,H⟩:=H
  dsimp only at H
  replace H:=sQ H;obtain ⟨t18,Q12_,H⟩:=H
  replace H:=sQ H;obtain ⟨t19,Q13_,H⟩:=H
  replace H:=sQ H;obtain ⟨t20,Q14_,H⟩:=H
  replace H:=sQ H;obtain ⟨t21,Q15_,H⟩:=H
  replace H:=nP H;obtain ⟨g1_,H⟩:=H
  subst g1_
  replace H:=sQ H;obtain ⟨t22,Q16_,H⟩:=H
  replace H:=sQ H;obtain ⟨t23,Q17_,H⟩:=H
  replace H:=nP H;obtain ⟨g2_,H⟩:=H
  subst g2_
  replace H:=sQ H;obtain ⟨⟨t24,t25,t26,t27⟩,Q18_,H⟩:=H
  dsimp only at H
  replace H:=sQ H;obtain ⟨t28,Q19_,H⟩:=H
  replace H:=nP H;obtain ⟨g3_,H⟩:=H
  subst g3_
  replace H:=sQ H;obtain ⟨t29,Q20_,H⟩:=H
  replace H:=sQ H;obtain ⟨t30,Q21_,H⟩:=H
  replace H:=nP H;obtain ⟨g4_,H⟩:=H
  subst g4_
  replace H:=sQ H;obtain ⟨t31,Q22_,H⟩:=H
  replace H:=sQ H;obtain ⟨t32,Q23_,H⟩:=H
  replace H:=nP H;obtain ⟨g5_,H⟩:=H
  subst g5_
  replace H:=sQ H;obtain ⟨⟨t33,t34⟩,Q24_,H⟩:=H
  dsimp only at H
  replace H:=sQ H;obtain ⟨⟨t35,t36,t37⟩,Q25_,H⟩:=H
  dsimp only at H
  replace H:=sQ H;obtain ⟨⟨t38,t39⟩,Q26_,H⟩:=H
  dsimp only at H
  replace H:=sQ H;obtain ⟨⟨t40,t41⟩,Q27_,H⟩:=H
  dsimp only at H
  replace H:=nN H;obtain ⟨g6_,H⟩:=H
  have g6b:decide (t40<0)=false:=decide_eq_false g6_
  clear g6_
  replace H:=sQ H;obtain ⟨t42,Q28_,H⟩:=H
  replace H:=nP H;obtain ⟨g7_,H⟩:=H
  subst g7_
  replace H:=sQ H;obtain ⟨⟨t43,t44⟩,Q29_,H⟩:=H
  dsimp only at H
  replace H:=sQ H;obtain ⟨t45,Q30_,H⟩:=H
  replace H:=nN H;obtain ⟨g8_,H⟩:=H
  have g8b:decide (t45<0)=false:=decide_eq_false g8_
  clear g8_
  replace H:=nP H;obtain ⟨g9_,H⟩:=H
  subst t45
  replace H:=sQ H;obtain ⟨t46,Q31_,H⟩:=H
  replace H:=sQ H;obtain ⟨⟨t47,t48,t49,t50⟩,Q32_,H⟩:=H
  dsimp only at H
  replace H:=sQ H;obtain ⟨t51,Q33_,H⟩:=H
  replace H:=sQ H;obtain ⟨t52,Q34_,H⟩:=H
  replace H:=sQ H;obtain ⟨t53,Q35_,H⟩:=H
  replace H:=sQ H;obtain ⟨t54,Q36_,H⟩:=H
  replace H:=nP H;obtain ⟨g10_,H⟩:=H
  subst g10_
  replace H:=sQ H;obtain ⟨t55,Q37_,H⟩:=H
  replace H:=nN H;obtain ⟨g11_,H⟩:=H
  have g11b:decide (t55<0)=false:=decide_eq_false g11_
  clear g11_
  replace H:=nP H;obtain ⟨g12_,H⟩:=H
  subst t55
  obtain rfl:=Option.some.inj H
  go_enter Tryz.func3,Tryz.ntmps3
  go_wp2_with (first
    | ((with_reducible refine gate_dst (N:=6) rfl ?_);refine xE 6 ?_;intro gP1 hg w1 hbox hb;have BKP1:=aK hbox;have gsP1:=aK (show w.heap.size≤gP1∧gP1<w1.heap.size from ⟨by omega,blk_lt hbox⟩);have s1:w.heap.size≤w1.heap.size:=hb.size;replace HB:=uH hb;clear hb hbox hg)
    | ((with_reducible refine gC 5 rfl ?_);refine aL 24 Tryz.func5 (laws_szPathS.calls _ _ l0 1048576 _ _ (cA HR0) HC0.out Q1_.out) ?_;rintro e w2 ⟨rfl,hd⟩;have hb:=drawnB hd;clear hd;refine ⟨_,rfl,?_⟩;have s2:w1.heap.size≤w2.heap.size:=hb.size;replace BKP1:=uB BKP1 hb;replace HB:=uH hb;clear hb;have hzP1:=zF4 BKP1)
    | ((with_reducible refine gC 6 rfl ?_);refine aL 29 Tryz.func6 (laws_szControl.calls _ _ l1_0 a1_1 _ _ l1_2 a1_3 t1 _ _ (cA HR1_0) HC1_0.out (cA HR1_2) HC1_2.out Q2_.out) ?_;rintro e w3 ⟨rfl,hb⟩;clear hzP1;refine ⟨_,rfl,?_⟩;have s3:w2.heap.size≤w3.heap.size:=hb.size;replace BKP1:=uB BKP1 hb;replace HB:=uH hb;clear hb)
    | ((with_reducible refine gC 7 rfl ?_);refine aL 34 Tryz.func7 (laws_szWantS.calls _ _ l2 t2 _ _ (cA HR2) HC2.out Q3_.out) ?_;rintro e w4 ⟨rfl,hd⟩;have hb:=drawnB hd;clear hd;refine ⟨_,rfl,?_⟩;have s4:w3.heap.size≤w4.heap.size:=hb.size;replace BKP1:=uB BKP1 hb;replace HB:=uH hb;clear hb)
    | ((with_reducible refine gC 8 rfl ?_);refine aL 39 Tryz.func8 (laws_szCallS.calls _ _ l3 t3 _ _ (cA HR3) HC3.out Q4_.out) ?_;rintro e w5 ⟨rfl,hd⟩;have hb:=drawnB hd;clear hd;refine ⟨_,rfl,?_⟩;have s5:w4.heap.size≤w5.heap.size:=hb.size;replace BKP1:=uB BKP1 hb;replace HB:=uH hb;clear hb))
  have hb:=below_drew1 (Below.refl w5.heap.size w5)
  replace BKP1:=uB BKP1 hb
  replace HB:=uH hb
  have s6:w5.heap.size≤w5.drew.heap.size:=hb.size
  clear hb
  refine sU 11 (fun w'=>w'.cell? ⟨gP1,0,none⟩=some (.slice A1_0 l1_0.length c1_0)∧w'.cell? ⟨gP1,1,none⟩=some (.int .i64 a1_1)∧w'.cell? ⟨gP1,2,none⟩=some (.slice A1_2 l1_2.length c1_2)∧w'.cell? ⟨gP1,3,none⟩=some (.int .i64 a1_3)) laws_FnExactAskHistory.tab14 laws_FnExactAskHistory.bits14 (zF4 BKP1) (fun hHeld HT_ HW_=>?_)
  generalize w5.drew=w6 at BKP1 HB s6 hHeld ⊢
  refine pU 0 ?_
  refine pU 4 ?_
  refine pU 6 ?_
  refine pU 8 ?_
  refine kU 2 ?_
  refine jU 1 (fun K hK=>?_)
  refine aO Tryz.func10 (laws_toPathS.calls k _ _ l0 _ _ (cA HR0) HC0.out Q5_.out) ?_
  rintro e w7 ⟨v7_0,rfl,ho0,hb⟩
  refine ⟨_,rfl,?_⟩
  have s7:w6.heap.size≤w7.heap.size:=hb.size
  replace BKP1:=uB BKP1 hb
  have HX5:=aK (show Kd.R k79 79 w7 w.heap.size (fun k_=>w6.heap.size≤k_∧k_<w7.heap.size) v7_0 _ from newR ho0 bQ)
  obtain ⟨Ao5,co5,eo5⟩:=Kd.R_slice HX5.out;subst eo5
  replace HB:=uH hb
  clear hb ho0
  refine oK hK (zF4 BKP1) (fun hHeld=>?_)
  clear hK K
  refine jU 3 (fun K hK=>?_)
  refine aO Tryz.func11 (laws_toControl.calls k _ _ l1_0 a1_1 _ _ l1_2 a1_3 _ _ _ _ _ (cA HR1_0) HC1_0.out (cA HR1_2) HC1_2.out Q6_.out) ?_
  rintro e w8 ⟨v8_0,v8_1,rfl,ho0,ho1,hb⟩
  refine ⟨_,rfl,?_⟩
  have s8:w7.heap.size≤w8.heap.size:=hb.size
  replace HX5:=uR HX5 hb
  replace BKP1:=uB BKP1 hb
  have HX6:=aK (show Kd.R (Kd.int .i64) 3 w8 w.heap.size (fun k_=>w7.heap.size≤k_∧k_<w8.heap.size) v8_0 _ from newR ho0 bQ)
  have HX8:=aK (show Kd.R (Kd.int .i64) 3 w8 w.heap.size (fun k_=>w7.heap.size≤k_∧k_<w8.heap.size) v8_1 _ from newR ho1 bQ)
  have NE6_8:∀ k_,v8_0.ownBlock=some k_→some k_≠v8_1.ownBlock:=fun k_ h_=>ho0.1 k_ h_
  have NE8_6:∀ k_,v8_1.ownBlock=some k_→some k_≠v8_0.ownBlock:=fun k_ h_=>ho1.1 k_ h_
  obtain ⟨Ao6,co6,eo6⟩:=Kd.R_slice HX6.out;subst eo6
  obtain ⟨Ao8,co8,eo8⟩:=Kd.R_slice HX8.out;subst eo8
  replace HB:=uH hb
  clear hb ho0 ho1
  refine oK hK (zF4 BKP1) (fun hHeld=>?_)
  clear hK K
  refine jU 5 (fun K hK=>?_)
  refine aO Tryz.func12 (laws_toWantS.calls k _ _ l2 _ _ (cA HR2) HC2.out Q7_.out) ?_
  rintro e w9 ⟨v9_0,rfl,ho0,hb⟩
  refine ⟨_,rfl,?_⟩
  have s9:w8.heap.size≤w9.heap.size:=hb.size
  replace HX5:=uR HX5 hb
  replace HX6:=uR HX6 hb
  replace HX8:=uR HX8 hb
  replace BKP1:=uB BKP1 hb
  have HX10:=aK (show Kd.R k84 84 w9 w.heap.size (fun k_=>w8.heap.size≤k_∧k_<w9.heap.size) v9_0 _ from newR ho0 bQ)
  obtain ⟨Ao10,co10,eo10⟩:=Kd.R_slice HX10.out;subst eo10
  replace HB:=uH hb
  clear hb ho0
  refine oK hK (zF4 BKP1) (fun hHeld=>?_)
  clear hK K
  refine jU 7 (fun K hK=>?_)
  refine aO Tryz.func13 (laws_toCallS.calls k _ _ l3 _ _ (cA HR3) HC3.out Q8_.out) ?_
  rintro e w10 ⟨v10_0,rfl,ho0,hb⟩
  refine ⟨_,rfl,?_⟩
  have s10:w9.heap.size≤w10.heap.size:=hb.size
  replace HX5:=uR HX5 hb
  replace HX6:=uR HX6 hb
  replace HX8:=uR HX8 hb
  replace HX10:=uR HX10 hb
  replace BKP1:=uB BKP1 hb
  have HX11:=aK (show Kd.R k73 73 w10 w.heap.size (fun k_=>w9.heap.size≤k_∧k_<w10.heap.size) v10_0 _ from newR ho0 bQ)
  obtain ⟨Ao11,co11,eo11⟩:=Kd.R_slice HX11.out;subst eo11
  replace HB:=uH hb
  clear hb ho0
  refine oK hK (zF4 BKP1) (fun hHeld=>?_)
  clear hK K
  refine jU 9 (fun K hK=>?_)
  refine aO Tryz.func9 (spec_AskHistory.calls k _ _ t5 (fun k_=>w7.heap.size≤k_∧k_<w8.heap.size) _ _ t6 t7 (fun k_=>w7.heap.size≤k_∧k_<w8.heap.size) _ _ t8 t9 (fun k_=>w8.heap.size≤k_∧k_<w9.heap.size) _ _ t10 _ _ t11 a4 _ _ (sC (Kd.R_reads' HX5.out).2.2) (Kd.R_reads' HX5.out).2.1 (Kd.R_V (rR HX6)) (Kd.R_V (rR HX8)) (Kd.R_V (rR HX10)) (sC (Kd.R_reads' HX11.out).2.2) (Kd.R_reads' HX11.out).2.1 Q9_.out) ?_
  rintro e w11 ⟨v11_0,rfl,ho0,hb⟩
  refine ⟨_,rfl,?_⟩
  have s11:w10.heap.size≤w11.heap.size:=hb.size
  replace BKP1:=uB BKP1 hb
  have HX12:=aK (show Kd.S (Kd.slice 3 (Kd.int .i64)) 23 w11 w.heap.size (fun k_=>w10.heap.size≤k_∧k_<w11.heap.size) v11_0 _ from newS ho0 bQ)
  obtain ⟨Ao12,co12,eo12⟩:=Kd.S_slice HX12.out;subst eo12
  replace HB:=uH hb
  clear hb ho0
  clear HX5
  clear HX6
  clear HX8
  clear HX10
  clear HX11
  refine oK hK (zF4 BKP1) (fun hHeld=>?_)
  clear hK K
  refine pU 10 ?_
  refine done_ (done_of HT_.out (by kernel_rfl)) ?_
  clear HT_ HW_ hHeld
  go_wp2_with (first
    | ((with_reducible refine gC 10 rfl ?_);refine aL 53 Tryz.func10 (laws_toPathS.calls k _ _ l0 _ _ (cA HR0) HC0.out Q10_.out) ?_;rintro e w12 ⟨v12_0,rfl,ho0,hb⟩;refine ⟨_,rfl,?_⟩;have s12:w11.heap.size≤w12.heap.size:=hb.size;replace HX12:=uS HX12 hb;replace BKP1:=uB BKP1 hb;have HX13:=aK (show Kd.R k79 79 w12 w.heap.size (fun k_=>w11.heap.size≤k_∧k_<w12.heap.size) v12_0 _ from newR ho0 bQ);obtain ⟨Ao13,co13,eo13⟩:=Kd.R_slice HX13.out;subst eo13;replace HB:=uH hb;clear hb ho0;have hzP1:=zF4 BKP1)
    | ((with_reducible refine gC 11 rfl ?_);refine aL 55 Tryz.func11 (laws_toControl.calls k _ _ l1_0 a1_1 _ _ l1_2 a1_3 _ _ _ _ _ (cA HR1_0) HC1_0.out (cA HR1_2) HC1_2.out Q11_.out) ?_;rintro e w13 ⟨v13_0,v13_1,rfl,ho0,ho1,hb⟩;clear hzP1;refine ⟨_,rfl,?_⟩;have s13:w12.heap.size≤w13.heap.size:=hb.size;replace HX12:=uS HX12 hb;replace HX13:=uR HX13 hb;replace BKP1:=uB BKP1 hb;have HX14:=aK (show Kd.R (Kd.int .i64) 3 w13 w.heap.size (fun k_=>w12.heap.size≤k_∧k_<w13.heap.size) v13_0 _ from newR ho0 bQ);have HX16:=aK (show Kd.R (Kd.int .i64) 3 w13 w.heap.size (fun k_=>w12.heap.size≤k_∧k_<w13.heap.size) v13_1 _ from newR ho1 bQ);have NE14_16:∀ k_,v13_0.ownBlock=some k_→some k_≠v13_1.ownBlock:=fun k_ h_=>ho0.1 k_ h_;have NE16_14:∀ k_,v13_1.ownBlock=some k_→some k_≠v13_0.ownBlock:=fun k_ h_=>ho1.1 k_ h_;obtain ⟨Ao14,co14,eo14⟩:=Kd.R_slice HX14.out;subst eo14;obtain ⟨Ao16,co16,eo16⟩:=Kd.R_slice HX16.out;subst eo16;replace HB:=uH hb;clear hb ho0 ho1)
    | ((with_reducible refine gate_dst (N:=14) rfl ?_);refine xE 14 ?_;intro gx1 hg w14 hbox hb;have BKx1:=aK hbox;have gsx1:=aK (show w13.heap.size≤gx1∧gx1<w14.heap.size from ⟨by omega,blk_lt hbox⟩);have s14:w13.heap.size≤w14.heap.size:=hb.size;have hgwx1:w.heap.size≤gx1:=(by have q_:=gsx1.out.1;have:=below_size HB.out;omega);replace HX12:=uS HX12 hb;replace HX13:=uR HX13 hb;replace HX14:=uR HX14 hb;replace HX16:=uR HX16 hb;replace BKP1:=uB BKP1 hb;replace HB:=uH hb;clear hb hbox hg;have hzx1:=zF4 BKx1;have hfx1:=yF4 BKx1)
    | ((with_reducible refine gate_store (t:=36) (p:=14) rfl ?_);refine xS 36 14 (w1:=((((w14.setCell ⟨gx1,0,none⟩ (.slice Ao14 t14.length co14)).setCell ⟨gx1,1,none⟩ (.int .i64 t15)).setCell ⟨gx1,2,none⟩ (.slice Ao16 t16.length co16)).setCell ⟨gx1,3,none⟩ (.int .i64 t17))) ?_;intro w15 hw;clear hzx1 hfx1;have hkp:Kept w14 w15 (fun k_=>k_=gx1):=(by rw [hw];exact Kept.setCell (Kept.setCell (Kept.setCell (Kept.setCell (Kept.refl w14 (fun k_=>k_=gx1)) (.inl rfl) _) (.inl rfl) _) (.inl rfl) _) (.inl rfl) _);have s15:w14.heap.size≤w15.heap.size:=hkp.1;replace HX12:=aK (Kd.S_kept HX12.out hkp (fun k_ h1_ h2_=>by have q_:=gsx1.out;omega));replace HX13:=aK (Kd.R_kept HX13.out hkp (fun k_ h1_ h2_=>by have q_:=gsx1.out;omega));replace HX14:=aK (Kd.R_kept HX14.out hkp (fun k_ h1_ h2_=>by have q_:=gsx1.out;omega));replace HX16:=aK (Kd.R_kept HX16.out hkp (fun k_ h1_ h2_=>by have q_:=gsx1.out;omega));replace BKP1:=aK (blk_kept BKP1.out hkp (fun h_=>by have q_:=gsx1.out;have q2_:=gsP1.out;omega));replace BKx1:=aK (show w15.heap[gx1]?=some (.cells #[.slice Ao14 t14.length co14,.int .i64 t15,.slice Ao16 t16.length co16,.int .i64 t17] 36 (0,0)) from by rw [hw];exact pF4 BKx1);have hb_:Below w.heap.size w w15:=(by rw [hw];exact below_set (below_set (below_set (below_set (HB.out) hgwx1) hgwx1) hgwx1) hgwx1);clear HB;have HB:=aK hb_;clear hb_ hkp hw hgwx1)
    | ((with_reducible refine gC 12 rfl ?_);refine aL 57 Tryz.func12 (laws_toWantS.calls k _ _ l2 _ _ (cA HR2) HC2.out Q12_.out) ?_;rintro e w16 ⟨v16_0,rfl,ho0,hb⟩;refine ⟨_,rfl,?_⟩;have s16:w15.heap.size≤w16.heap.size:=hb.size;replace HX12:=uS HX12 hb;replace HX13:=uR HX13 hb;replace HX14:=uR HX14 hb;replace HX16:=uR HX16 hb;replace BKP1:=uB BKP1 hb;replace BKx1:=uB BKx1 hb;have HX18:=aK (show Kd.R k84 84 w16 w.heap.size (fun k_=>w15.heap.size≤k_∧k_<w16.heap.size) v16_0 _ from newR ho0 bQ);obtain ⟨Ao18,co18,eo18⟩:=Kd.R_slice HX18.out;subst eo18;replace HB:=uH hb;clear hb ho0)
    | ((with_reducible refine gC 13 rfl ?_);refine aL 59 Tryz.func13 (laws_toCallS.calls k _ _ l3 _ _ (cA HR3) HC3.out Q13_.out) ?_;rintro e w17 ⟨v17_0,rfl,ho0,hb⟩;refine ⟨_,rfl,?_⟩;have s17:w16.heap.size≤w17.heap.size:=hb.size;replace HX12:=uS HX12 hb;replace HX13:=uR HX13 hb;replace HX14:=uR HX14 hb;replace HX16:=uR HX16 hb;replace HX18:=uR HX18 hb;replace BKP1:=uB BKP1 hb;replace BKx1:=uB BKx1 hb;have HX19:=aK (show Kd.R k73 73 w17 w.heap.size (fun k_=>w16.heap.size≤k_∧k_<w17.heap.size) v17_0 _ from newR ho0 bQ);obtain ⟨Ao19,co19,eo19⟩:=Kd.R_slice HX19.out;subst eo19;replace HB:=uH hb;clear hb ho0;have hzx1:=zF4 BKx1)
    | ((with_reducible refine gC 14 rfl ?_);refine aL 65 Tryz.func14 (impl_AskHistory.calls k _ _ t13 (fun k_=>w12.heap.size≤k_∧k_<w13.heap.size) _ _ t14 t15 (fun k_=>w12.heap.size≤k_∧k_<w13.heap.size) _ _ t16 t17 (fun k_=>w15.heap.size≤k_∧k_<w16.heap.size) _ _ t18 _ _ t19 a4 _ _ (sC (Kd.R_reads' HX13.out).2.2) (Kd.R_reads' HX13.out).2.1 (Kd.R_V (rR HX14)) (Kd.R_V (rR HX16)) (Kd.R_V (rR HX18)) (sC (Kd.R_reads' HX19.out).2.2) (Kd.R_reads' HX19.out).2.1 Q14_.out) ?_;rintro e w18 ⟨v18_0,rfl,ho0,hb⟩;clear hzx1;refine ⟨_,rfl,?_⟩;have s18:w17.heap.size≤w18.heap.size:=hb.size;replace HX12:=uS HX12 hb;replace HX13:=uR HX13 hb;replace HX14:=uR HX14 hb;replace HX16:=uR HX16 hb;replace HX18:=uR HX18 hb;replace HX19:=uR HX19 hb;replace BKP1:=uB BKP1 hb;replace BKx1:=uB BKx1 hb;have HX20:=aK (show Kd.S (Kd.slice 3 (Kd.int .i64)) 23 w18 w.heap.size (fun k_=>w17.heap.size≤k_∧k_<w18.heap.size) v18_0 _ from newS ho0 bQ);obtain ⟨Ao20,co20,eo20⟩:=Kd.S_slice HX20.out;subst eo20;replace HB:=uH hb;clear hb ho0)
    | ((with_reducible refine gC 15 rfl ?_);refine aL 68 Tryz.func15 (laws_eqIntSS.calls k _ _ t20 _ _ t12 _ _ (sC (Kd.S_reads' HX20.out).2.2) (Kd.S_reads' HX20.out).2.1 (sC (Kd.S_reads' HX12.out).2.2) (Kd.S_reads' HX12.out).2.1 Q15_.out) ?_;rintro e w19 ⟨rfl,hb⟩;refine ⟨_,rfl,?_⟩;have s19:w18.heap.size≤w19.heap.size:=hb.size;replace HX12:=uS HX12 hb;replace HX13:=uR HX13 hb;replace HX14:=uR HX14 hb;replace HX16:=uR HX16 hb;replace HX18:=uR HX18 hb;replace HX19:=uR HX19 hb;replace HX20:=uS HX20 hb;replace BKP1:=uB BKP1 hb;replace BKx1:=uB BKx1 hb;replace HB:=uH hb;clear hb)
    | ((with_reducible refine gC 10 rfl ?_);refine aL 72 Tryz.func10 (laws_toPathS.calls k _ _ l0 _ _ (cA HR0) HC0.out Q16_.out) ?_;rintro e w20 ⟨v20_0,rfl,ho0,hb⟩;refine ⟨_,rfl,?_⟩;have s20:w19.heap.size≤w20.heap.size:=hb.size;replace HX12:=uS HX12 hb;replace HX13:=uR HX13 hb;replace HX14:=uR HX14 hb;replace HX16:=uR HX16 hb;replace HX18:=uR HX18 hb;replace HX19:=uR HX19 hb;replace HX20:=uS HX20 hb;replace BKP1:=uB BKP1 hb;replace BKx1:=uB BKx1 hb;have HX22:=aK (show Kd.R k79 79 w20 w.heap.size (fun k_=>w19.heap.size≤k_∧k_<w20.heap.size) v20_0 _ from newR ho0 bQ);obtain ⟨Ao22,co22,eo22⟩:=Kd.R_slice HX22.out;subst eo22;replace HB:=uH hb;clear hb ho0)
    | ((with_reducible refine gC 16 rfl ?_);refine aL 73 Tryz.func16 (laws_eqPathS.calls k _ _ t13 _ _ t22 _ _ (sC (Kd.R_reads' HX13.out).2.2) (Kd.R_reads' HX13.out).2.1 (sC (Kd.R_reads' HX22.out).2.2) (Kd.R_reads' HX22.out).2.1 Q17_.out) ?_;rintro e w21 ⟨rfl,hb⟩;refine ⟨_,rfl,?_⟩;have s21:w20.heap.size≤w21.heap.size:=hb.size;replace HX12:=uS HX12 hb;replace HX13:=uR HX13 hb;replace HX14:=uR HX14 hb;replace HX16:=uR HX16 hb;replace HX18:=uR HX18 hb;replace HX19:=uR HX19 hb;replace HX20:=uS HX20 hb;replace BKP1:=uB BKP1 hb;replace BKx1:=uB BKx1 hb;replace HB:=uH hb;clear hb;clear HX22))
  have hb:=below_drew1 (Below.refl w21.heap.size w21)
  replace HX12:=uS HX12 hb
  replace HX13:=uR HX13 hb
  replace HX14:=uR HX14 hb
  replace HX16:=uR HX16 hb
  replace HX18:=uR HX18 hb
  replace HX19:=uR HX19 hb
  replace HX20:=uS HX20 hb
  replace BKP1:=uB BKP1 hb
  replace BKx1:=uB BKx1 hb
  replace HB:=uH hb
  have s22:w21.heap.size≤w21.drew.heap.size:=hb.size
  clear hb
  refine sU 5 (fun w'=>w'.cell? ⟨gP1,0,none⟩=some (.slice A1_0 l1_0.length c1_0)∧w'.cell? ⟨gP1,1,none⟩=some (.int .i64 a1_1)∧w'.cell? ⟨gP1,2,none⟩=some (.slice A1_2 l1_2.length c1_2)∧w'.cell? ⟨gP1,3,none⟩=some (.int .i64 a1_3)∧w'.cell? ⟨gx1,0,none⟩=some (.slice Ao14 t14.length co14)∧w'.cell? ⟨gx1,1,none⟩=some (.int .i64 t15)∧w'.cell? ⟨gx1,2,none⟩=some (.slice Ao16 t16.length co16)∧w'.cell? ⟨gx1,3,none⟩=some (.int .i64 t17)) laws_FnExactAskHistory.tab24 laws_FnExactAskHistory.bits24 ⟨zC BKP1 0 _,zC BKP1 1 _,zC BKP1 2 _,zC BKP1 3 _,zC BKx1 0 _,zC BKx1 1 _,zC BKx1 2 _,zC BKx1 3 _⟩ (fun hHeld HT_ HW_=>?_)
  generalize w21.drew=w22 at HX12 HX13 HX14 HX16 HX18 HX19 HX20 BKP1 BKx1 HB s22 hHeld ⊢
  refine kU 0 ?_
  refine kU 1 ?_
  refine jU 2 (fun K hK=>?_)
  refine aO Tryz.func11 (laws_toControl.calls k _ _ l1_0 a1_1 _ _ l1_2 a1_3 _ _ _ _ _ (cA HR1_0) HC1_0.out (cA HR1_2) HC1_2.out Q18_.out) ?_
  rintro e w23 ⟨v23_0,v23_1,rfl,ho0,ho1,hb⟩
  refine ⟨_,rfl,?_⟩
  have s23:w22.heap.size≤w23.heap.size:=hb.size
  replace HX12:=uS HX12 hb
  replace HX13:=uR HX13 hb
  replace HX14:=uR HX14 hb
  replace HX16:=uR HX16 hb
  replace HX18:=uR HX18 hb
  replace HX19:=uR HX19 hb
  replace HX20:=uS HX20 hb
  replace BKP1:=uB BKP1 hb
  replace BKx1:=uB BKx1 hb
  have HX24:=aK (show Kd.R (Kd.int .i64) 3 w23 w.heap.size (fun k_=>w22.heap.size≤k_∧k_<w23.heap.size) v23_0 _ from newR ho0 bQ)
  have HX26:=aK (show Kd.R (Kd.int .i64) 3 w23 w.heap.size (fun k_=>w22.heap.size≤k_∧k_<w23.heap.size) v23_1 _ from newR ho1 bQ)
  have NE24_26:∀ k_,v23_0.ownBlock=some k_→some k_≠v23_1.ownBlock:=fun k_ h_=>ho0.1 k_ h_
  have NE26_24:∀ k_,v23_1.ownBlock=some k_→some k_≠v23_0.ownBlock:=fun k_ h_=>ho1.1 k_ h_
  obtain ⟨Ao24,co24,eo24⟩:=Kd.R_slice HX24.out;subst eo24
  obtain ⟨Ao26,co26,eo26⟩:=Kd.R_slice HX26.out;subst eo26
  replace HB:=uH hb
  clear hb ho0 ho1
  refine oK hK ⟨zC BKP1 0 _,zC BKP1 1 _,zC BKP1 2 _,zC BKP1 3 _,zC BKx1 0 _,zC BKx1 1 _,zC BKx1 2 _,zC BKx1 3 _⟩ (fun hHeld=>?_)
  clear hK K
  refine jU 3 (fun K hK=>?_)
  refine aO Tryz.func17 (laws_eqControl.calls k _ _ t14 t15 _ _ t16 t17 _ _ t24 t25 _ _ t26 t27 _ _ (sC (Kd.R_reads' HX14.out).2.2) (Kd.R_reads' HX14.out).2.1 (sC (Kd.R_reads' HX16.out).2.2) (Kd.R_reads' HX16.out).2.1 (sC (Kd.R_reads' HX24.out).2.2) (Kd.R_reads' HX24.out).2.1 (sC (Kd.R_reads' HX26.out).2.2) (Kd.R_reads' HX26.out).2.1 Q19_.out) ?_
  rintro e w24 ⟨rfl,hb⟩
  refine ⟨_,rfl,?_⟩
  have s24:w23.heap.size≤w24.heap.size:=hb.size
  replace HX12:=uS HX12 hb
  replace HX13:=uR HX13 hb
  replace HX14:=uR HX14 hb
  replace HX16:=uR HX16 hb
  replace HX18:=uR HX18 hb
  replace HX19:=uR HX19 hb
  replace HX20:=uS HX20 hb
  replace BKP1:=uB BKP1 hb
  replace BKx1:=uB BKx1 hb
  replace HB:=uH hb
  clear hb
  clear HX24
  clear HX26
  refine oK hK ⟨zC BKP1 0 _,zC BKP1 1 _,zC BKP1 2 _,zC BKP1 3 _,zC BKx1 0 _,zC BKx1 1 _,zC BKx1 2 _,zC BKx1 3 _⟩ (fun hHeld=>?_)
  clear hK K
  refine pU 4 ?_
  refine done_ (done_of HT_.out (by kernel_rfl)) ?_
  clear HT_ HW_ hHeld
  go_wp2_with (first
    | ((with_reducible refine gC 12 rfl ?_);refine aL 82 Tryz.func12 (laws_toWantS.calls k _ _ l2 _ _ (cA HR2) HC2.out Q20_.out) ?_;rintro e w25 ⟨v25_0,rfl,ho0,hb⟩;refine ⟨_,rfl,?_⟩;have s25:w24.heap.size≤w25.heap.size:=hb.size;replace HX12:=uS HX12 hb;replace HX13:=uR HX13 hb;replace HX14:=uR HX14 hb;replace HX16:=uR HX16 hb;replace HX18:=uR HX18 hb;replace HX19:=uR HX19 hb;replace HX20:=uS HX20 hb;replace BKP1:=uB BKP1 hb;replace BKx1:=uB BKx1 hb;have HX29:=aK (show Kd.R k84 84 w25 w.heap.size (fun k_=>w24.heap.size≤k_∧k_<w25.heap.size) v25_0 _ from newR ho0 bQ);obtain ⟨Ao29,co29,eo29⟩:=Kd.R_slice HX29.out;subst eo29;replace HB:=uH hb;clear hb ho0)
    | ((with_reducible refine gC 18 rfl ?_);refine aL 83 Tryz.func18 (laws_eqWantS.calls k _ _ t18 _ _ t29 _ _ (sC (Kd.R_reads' HX18.out).2.2) (Kd.R_reads' HX18.out).2.1 (sC (Kd.R_reads' HX29.out).2.2) (Kd.R_reads' HX29.out).2.1 Q21_.out) ?_;rintro e w26 ⟨rfl,hb⟩;refine ⟨_,rfl,?_⟩;have s26:w25.heap.size≤w26.heap.size:=hb.size;replace HX12:=uS HX12 hb;replace HX13:=uR HX13 hb;replace HX14:=uR HX14 hb;replace HX16:=uR HX16 hb;replace HX18:=uR HX18 hb;replace HX19:=uR HX19 hb;replace HX20:=uS HX20 hb;replace BKP1:=uB BKP1 hb;replace BKx1:=uB BKx1 hb;replace HB:=uH hb;clear hb;clear HX29)
    | ((with_reducible refine gC 13 rfl ?_);refine aL 87 Tryz.func13 (laws_toCallS.calls k _ _ l3 _ _ (cA HR3) HC3.out Q22_.out) ?_;rintro e w27 ⟨v27_0,rfl,ho0,hb⟩;refine ⟨_,rfl,?_⟩;have s27:w26.heap.size≤w27.heap.size:=hb.size;replace HX12:=uS HX12 hb;replace HX13:=uR HX13 hb;replace HX14:=uR HX14 hb;replace HX16:=uR HX16 hb;replace HX18:=uR HX18 hb;replace HX19:=uR HX19 hb;replace HX20:=uS HX20 hb;replace BKP1:=uB BKP1 hb;replace BKx1:=uB BKx1 hb;have HX31:=aK (show Kd.R k73 73 w27 w.heap.size (fun k_=>w26.heap.size≤k_∧k_<w27.heap.size) v27_0 _ from newR ho0 bQ);obtain ⟨Ao31,co31,eo31⟩:=Kd.R_slice HX31.out;subst eo31;replace HB:=uH hb;clear hb ho0)
    | ((with_reducible refine gC 19 rfl ?_);refine aL 88 Tryz.func19 (laws_eqCallS.calls k _ _ t19 _ _ t31 _ _ (sC (Kd.R_reads' HX19.out).2.2) (Kd.R_reads' HX19.out).2.1 (sC (Kd.R_reads' HX31.out).2.2) (Kd.R_reads' HX31.out).2.1 Q23_.out) ?_;rintro e w28 ⟨rfl,hb⟩;refine ⟨_,rfl,?_⟩;have s28:w27.heap.size≤w28.heap.size:=hb.size;replace HX12:=uS HX12 hb;replace HX13:=uR HX13 hb;replace HX14:=uR HX14 hb;replace HX16:=uR HX16 hb;replace HX18:=uR HX18 hb;replace HX19:=uR HX19 hb;replace HX20:=uS HX20 hb;replace BKP1:=uB BKP1 hb;replace BKx1:=uB BKx1 hb;replace HB:=uH hb;clear hb;clear HX31)
    | ((with_reducible refine gC 20 rfl ?_);refine aL 92 Tryz.func20 (laws_markPathS.calls k (fun k_=>w11.heap.size≤k_∧k_<w12.heap.size) _ t13 1 _ _ w _ bQ (rR HX13) Q24_.out) ?_;rintro e w29 ⟨rfl,hy0,hb,hkp⟩;refine ⟨_,rfl,?_⟩;have s29:w28.heap.size≤w29.heap.size:=hkp.1;replace HX12:=kS HX12 hkp;replace HX14:=kR HX14 hkp;replace HX16:=kR HX16 hkp;replace HX18:=kR HX18 hkp;replace HX19:=kR HX19 hkp;replace HX20:=kS HX20 hkp;replace BKP1:=aK (blk_kept BKP1.out hkp (fun h_=>by have q_:=gsP1.out;omega));replace BKx1:=aK (blk_kept BKx1.out hkp (fun h_=>by have q_:=gsx1.out;omega));clear HB;have HB:=aK hb;clear hb hkp hy0;clear HX13;have hzx1:=zF4 BKx1)
    | ((with_reducible refine gC 21 rfl ?_);refine aL 95 Tryz.func21 (laws_markControl.calls k (fun k_=>some k_=(.slice Ao14 t14.length co14:Value).ownBlock) _ t14 t15 (fun k_=>some k_=(.slice Ao16 t16.length co16:Value).ownBlock) _ t16 t17 t33 _ _ _ w _ bQ (Kd.R_tight rfl (rR HX14)) (fun k_ h1_ h2_=>NE14_16 k_ h1_.symm h2_) (Kd.R_tight rfl (rR HX16)) (fun k_ h1_ h2_=>NE16_14 k_ h1_.symm h2_) Q25_.out) ?_;rintro e w30 ⟨rfl,hy0,hy1,hb,hkp⟩;clear hzx1;refine ⟨_,rfl,?_⟩;replace hkp:=Kept.mono hkp (S':=fun k_=>w12.heap.size≤k_∧k_<w13.heap.size) (fun k_ h_=>h_.elim (fun q_=>HX14.out.1 k_ q_.symm) (fun q_=>HX16.out.1 k_ q_.symm));have s30:w29.heap.size≤w30.heap.size:=hkp.1;replace HX12:=kS HX12 hkp;replace HX18:=kR HX18 hkp;replace HX19:=kR HX19 hkp;replace HX20:=kS HX20 hkp;replace BKP1:=aK (blk_kept BKP1.out hkp (fun h_=>by have q_:=gsP1.out;omega));replace BKx1:=aK (blk_kept BKx1.out hkp (fun h_=>by have q_:=gsx1.out;omega));clear HB;have HB:=aK hb;clear hb hkp hy0 hy1;clear HX14;clear HX16;clear BKx1)
    | ((with_reducible refine gC 22 rfl ?_);refine aL 98 Tryz.func22 (laws_markWantS.calls k (fun k_=>w15.heap.size≤k_∧k_<w16.heap.size) _ t18 t35 _ _ w _ bQ (rR HX18) Q26_.out) ?_;rintro e w31 ⟨rfl,hy0,hb,hkp⟩;refine ⟨_,rfl,?_⟩;have s31:w30.heap.size≤w31.heap.size:=hkp.1;replace HX12:=kS HX12 hkp;replace HX19:=kR HX19 hkp;replace HX20:=kS HX20 hkp;replace BKP1:=aK (blk_kept BKP1.out hkp (fun h_=>by have q_:=gsP1.out;omega));clear HB;have HB:=aK hb;clear hb hkp hy0;clear HX18)
    | ((with_reducible refine gC 23 rfl ?_);refine aL 101 Tryz.func23 (laws_markCallS.calls k (fun k_=>w16.heap.size≤k_∧k_<w17.heap.size) _ t19 t38 _ _ w _ bQ (rR HX19) Q27_.out) ?_;rintro e w32 ⟨rfl,hy0,hb,hkp⟩;refine ⟨_,rfl,?_⟩;have s32:w31.heap.size≤w32.heap.size:=hkp.1;replace HX12:=kS HX12 hkp;replace HX20:=kS HX20 hkp;replace BKP1:=aK (blk_kept BKP1.out hkp (fun h_=>by have q_:=gsP1.out;omega));clear HB;have HB:=aK hb;clear hb hkp hy0;clear HX19)
    | (go_at_call 15;refine (laws_eqIntSS.calls k _ _ t20 _ _ t12 _ _ (sC (Kd.S_reads' HX20.out).2.2) (Kd.S_reads' HX20.out).2.1 (sC (Kd.S_reads' HX12.out).2.2) (Kd.S_reads' HX12.out).2.1 Q28_.out).mono ?_;rintro e w33 ⟨rfl,hb⟩;have s33:w32.heap.size≤w33.heap.size:=hb.size;replace HX12:=uS HX12 hb;replace HX20:=uS HX20 hb;replace BKP1:=uB BKP1 hb;replace HB:=uH hb;clear hb)
    | ((with_reducible refine gC 24 rfl ?_);refine aL 112 Tryz.func24 (laws_markIntSS.calls k (fun k_=>w17.heap.size≤k_∧k_<w18.heap.size) _ t20 1 _ _ w _ bQ (rS HX20) Q29_.out) ?_;rintro e w34 ⟨rfl,hy0,hb,hkp⟩;refine ⟨_,rfl,?_⟩;have s34:w33.heap.size≤w34.heap.size:=hkp.1;replace HX12:=kS HX12 hkp;replace BKP1:=aK (blk_kept BKP1.out hkp (fun h_=>by have q_:=gsP1.out;omega));replace HX20:=aK hy0;have hl_:=(Kd.S_reads' HX20.out).1;rw [hl_] at HX20;(try simp only [hl_]);clear hl_;clear HB;have HB:=aK hb;clear hb hkp hy0)
    | ((with_reducible refine gC 25 rfl ?_);refine aL 115 Tryz.func25 (laws_heldIntSS.calls k _ _ t44 1 _ _ (sC (Kd.S_reads' HX20.out).2.2) (Kd.S_reads' HX20.out).2.1 Q30_.out) ?_;rintro e w35 ⟨rfl,hd⟩;have hb:=drawnB hd;clear hd;refine ⟨_,rfl,?_⟩;have s35:w34.heap.size≤w35.heap.size:=hb.size;replace HX12:=uS HX12 hb;replace HX20:=uS HX20 hb;replace BKP1:=uB BKP1 hb;replace HB:=uH hb;clear hb))
  have hb:=below_drew1 (Below.refl w35.heap.size w35)
  replace HX12:=uS HX12 hb
  replace HX20:=uS HX20 hb
  replace BKP1:=uB BKP1 hb
  replace HB:=uH hb
  have s36:w35.heap.size≤w35.drew.heap.size:=hb.size
  clear hb
  refine sU 11 (fun w'=>w'.cell? ⟨gP1,0,none⟩=some (.slice A1_0 l1_0.length c1_0)∧w'.cell? ⟨gP1,1,none⟩=some (.int .i64 a1_1)∧w'.cell? ⟨gP1,2,none⟩=some (.slice A1_2 l1_2.length c1_2)∧w'.cell? ⟨gP1,3,none⟩=some (.int .i64 a1_3)) laws_FnExactAskHistory.tab45 laws_FnExactAskHistory.bits45 (zF4 BKP1) (fun hHeld HT_ HW_=>?_)
  generalize w35.drew=w36 at HX12 HX20 BKP1 HB s36 hHeld ⊢
  refine pU 0 ?_
  refine pU 4 ?_
  refine pU 6 ?_
  refine pU 8 ?_
  refine kU 2 ?_
  refine jU 1 (fun K hK=>?_)
  refine aO Tryz.func10 (laws_toPathS.calls k _ _ l0 _ _ (cA HR0) HC0.out Q31_.out) ?_
  rintro e w37 ⟨v37_0,rfl,ho0,hb⟩
  refine ⟨_,rfl,?_⟩
  have s37:w36.heap.size≤w37.heap.size:=hb.size
  replace HX12:=uS HX12 hb
  replace HX20:=uS HX20 hb
  replace BKP1:=uB BKP1 hb
  have HX46:=aK (show Kd.R k79 79 w37 w.heap.size (fun k_=>w36.heap.size≤k_∧k_<w37.heap.size) v37_0 _ from newR ho0 bQ)
  obtain ⟨Ao46,co46,eo46⟩:=Kd.R_slice HX46.out;subst eo46
  replace HB:=uH hb
  clear hb ho0
  refine oK hK (zF4 BKP1) (fun hHeld=>?_)
  clear hK K
  refine jU 3 (fun K hK=>?_)
  refine aO Tryz.func11 (laws_toControl.calls k _ _ l1_0 a1_1 _ _ l1_2 a1_3 _ _ _ _ _ (cA HR1_0) HC1_0.out (cA HR1_2) HC1_2.out Q32_.out) ?_
  rintro e w38 ⟨v38_0,v38_1,rfl,ho0,ho1,hb⟩
  refine ⟨_,rfl,?_⟩
  have s38:w37.heap.size≤w38.heap.size:=hb.size
  replace HX12:=uS HX12 hb
  replace HX20:=uS HX20 hb
  replace HX46:=uR HX46 hb
  replace BKP1:=uB BKP1 hb
  have HX47:=aK (show Kd.R (Kd.int .i64) 3 w38 w.heap.size (fun k_=>w37.heap.size≤k_∧k_<w38.heap.size) v38_0 _ from newR ho0 bQ)
  have HX49:=aK (show Kd.R (Kd.int .i64) 3 w38 w.heap.size (fun k_=>w37.heap.size≤k_∧k_<w38.heap.size) v38_1 _ from newR ho1 bQ)
  have NE47_49:∀ k_,v38_0.ownBlock=some k_→some k_≠v38_1.ownBlock:=fun k_ h_=>ho0.1 k_ h_
  have NE49_47:∀ k_,v38_1.ownBlock=some k_→some k_≠v38_0.ownBlock:=fun k_ h_=>ho1.1 k_ h_
  obtain ⟨Ao47,co47,eo47⟩:=Kd.R_slice HX47.out;subst eo47
  obtain ⟨Ao49,co49,eo49⟩:=Kd.R_slice HX49.out;subst eo49
  replace HB:=uH hb
  clear hb ho0 ho1
  refine oK hK (zF4 BKP1) (fun hHeld=>?_)
  clear hK K
  refine jU 5 (fun K hK=>?_)
  refine aO Tryz.func12 (laws_toWantS.calls k _ _ l2 _ _ (cA HR2) HC2.out Q33_.out) ?_
  rintro e w39 ⟨v39_0,rfl,ho0,hb⟩
  refine ⟨_,rfl,?_⟩
  have s39:w38.heap.size≤w39.heap.size:=hb.size
  replace HX12:=uS HX12 hb
  replace HX20:=uS HX20 hb
  replace HX46:=uR HX46 hb
  replace HX47:=uR HX47 hb
  replace HX49:=uR HX49 hb
  replace BKP1:=uB BKP1 hb
  have HX51:=aK (show Kd.R k84 84 w39 w.heap.size (fun k_=>w38.heap.size≤k_∧k_<w39.heap.size) v39_0 _ from newR ho0 bQ)
  obtain ⟨Ao51,co51,eo51⟩:=Kd.R_slice HX51.out;subst eo51
  replace HB:=uH hb
  clear hb ho0
  refine oK hK (zF4 BKP1) (fun hHeld=>?_)
  clear hK K
  refine jU 7 (fun K hK=>?_)
  refine aO Tryz.func13 (laws_toCallS.calls k _ _ l3 _ _ (cA HR3) HC3.out Q34_.out) ?_
  rintro e w40 ⟨v40_0,rfl,ho0,hb⟩
  refine ⟨_,rfl,?_⟩
  have s40:w39.heap.size≤w40.heap.size:=hb.size
  replace HX12:=uS HX12 hb
  replace HX20:=uS HX20 hb
  replace HX46:=uR HX46 hb
  replace HX47:=uR HX47 hb
  replace HX49:=uR HX49 hb
  replace HX51:=uR HX51 hb
  replace BKP1:=uB BKP1 hb
  have HX52:=aK (show Kd.R k73 73 w40 w.heap.size (fun k_=>w39.heap.size≤k_∧k_<w40.heap.size) v40_0 _ from newR ho0 bQ)
  obtain ⟨Ao52,co52,eo52⟩:=Kd.R_slice HX52.out;subst eo52
  replace HB:=uH hb
  clear hb ho0
  refine oK hK (zF4 BKP1) (fun hHeld=>?_)
  clear hK K
  refine jU 9 (fun K hK=>?_)
  refine aO Tryz.func14 (impl_AskHistory.calls k _ _ t46 (fun k_=>w37.heap.size≤k_∧k_<w38.heap.size) _ _ t47 t48 (fun k_=>w37.heap.size≤k_∧k_<w38.heap.size) _ _ t49 t50 (fun k_=>w38.heap.size≤k_∧k_<w39.heap.size) _ _ t51 _ _ t52 a4 _ _ (sC (Kd.R_reads' HX46.out).2.2) (Kd.R_reads' HX46.out).2.1 (Kd.R_V (rR HX47)) (Kd.R_V (rR HX49)) (Kd.R_V (rR HX51)) (sC (Kd.R_reads' HX52.out).2.2) (Kd.R_reads' HX52.out).2.1 Q35_.out) ?_
  rintro e w41 ⟨v41_0,rfl,ho0,hb⟩
  refine ⟨_,rfl,?_⟩
  have s41:w40.heap.size≤w41.heap.size:=hb.size
  replace HX12:=uS HX12 hb
  replace HX20:=uS HX20 hb
  replace BKP1:=uB BKP1 hb
  have HX53:=aK (show Kd.S (Kd.slice 3 (Kd.int .i64)) 23 w41 w.heap.size (fun k_=>w40.heap.size≤k_∧k_<w41.heap.size) v41_0 _ from newS ho0 bQ)
  obtain ⟨Ao53,co53,eo53⟩:=Kd.S_slice HX53.out;subst eo53
  replace HB:=uH hb
  clear hb ho0
  clear HX46
  clear HX47
  clear HX49
  clear HX51
  clear HX52
  refine oK hK (zF4 BKP1) (fun hHeld=>?_)
  clear hK K
  refine pU 10 ?_
  refine done_ (done_of HT_.out (by kernel_rfl)) ?_
  clear HT_ HW_ hHeld
  clear BKP1
  go_wp2_with (first
    | ((with_reducible refine gC 15 rfl ?_);refine aL 133 Tryz.func15 (laws_eqIntSS.calls k _ _ t53 _ _ t12 _ _ (sC (Kd.S_reads' HX53.out).2.2) (Kd.S_reads' HX53.out).2.1 (sC (Kd.S_reads' HX12.out).2.2) (Kd.S_reads' HX12.out).2.1 Q36_.out) ?_;rintro e w42 ⟨rfl,hb⟩;refine ⟨_,rfl,?_⟩;have s42:w41.heap.size≤w42.heap.size:=hb.size;replace HX20:=uS HX20 hb;replace HB:=uH hb;clear hb;clear HX12;clear HX53)
    | ((with_reducible refine gC 25 rfl ?_);refine aL 137 Tryz.func25 (laws_heldIntSS.calls k _ _ t44 1 _ _ (sC (Kd.S_reads' HX20.out).2.2) (Kd.S_reads' HX20.out).2.1 Q37_.out) ?_;rintro e w43 ⟨rfl,hd⟩;have hb:=drawnB hd;clear hd;refine ⟨_,rfl,?_⟩;have s43:w42.heap.size≤w43.heap.size:=hb.size;replace HB:=uH hb;clear hb;clear HX20))
  go_ret
  exact ⟨rfl,bQ⟩
end Go.Proofs.YtdahnapanpiooaaGreat.PAsz
