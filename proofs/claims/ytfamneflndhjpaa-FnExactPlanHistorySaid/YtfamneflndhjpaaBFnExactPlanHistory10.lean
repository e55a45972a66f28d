/- Go functions that the statement reaches: each printed as a Lean function, with a proof that the Go function comes to its answer; conditions: the bounds that each states. -/
import Derived.Test.YtfamneflndhjpaaBFnExactPlanHistory1
import Derived.Test.YtfamneflndhjpaaBFnExactPlanHistory0
import Derived.Test.YtfamneflndhjpaaBFnExactPlanHistory6
import Derived.Test.YtfamneflndhjpaaBFnExactPlanHistory8
import Derived.Test.YtfamneflndhjpaaBFnExactPlanHistory3
import Derived.Test.YtfamneflndhjpaaBFnExactPlanHistory9
namespace Go.Proofs.Ytfamneflndhjpaa.PPlan
open Go.RowKit Go.Proofs.YtfamneflndhjpaaW.PrintWords Go.Proofs.YtfamneflndhjpaaW.PrintLast Go.Proofs.YtfamneflndhjpaaW.PrintMore
attribute [local go_sem] max2_int min2_int max_two min_two max_three min_three max_four min_four   -- for this text's walks alone
set_option linter.unusedVariables false
set_option linter.unusedSimpArgs false
/-! ### laws_FnExactPlanHistory: function 8 -/
def laws_FnExactPlanHistory.f (k : Nat) (l0 : List (S84)) (l1 : List (S90)) (a2 : Int) (a3 : Int) : Option (Bool) := (laws_szPathS.f l0 1048576).bind fun t1 => if t1 < 0 then (some true) else ((laws_szPartS.f k l1 t1).bind fun t2 => if t2 < 0 then (some true) else ((laws_toPathS.f k l0).bind fun t3 => (laws_toPartS.f k l1).bind fun t4 => (spec_PlanHistory.f k t3 t4 a2 a3).bind fun t5 => (laws_toPathS.f k l0).bind fun t6 => (laws_toPartS.f k l1).bind fun t7 => (impl_PlanHistory.f k t6 t7 a2 a3).bind fun t8 => (laws_eqIntSS.f k t8 t5).bind fun t9 => if t9 = true then ((laws_toPathS.f k l0).bind fun t10 => (laws_eqPathS.f k t6 t10).bind fun t11 => if t11 = true then ((laws_toPartS.f k l1).bind fun t12 => (laws_eqPartS.f k t7 t12).bind fun t13 => if t13 = true then ((laws_markPathS.f k t6 1).bind fun pt14 => (laws_markPartS.f k t7 pt14.1).bind fun pt16 => if pt16.1 < 0 then none else ((laws_eqIntSS.f k t8 t5).bind fun t18 => if t18 = true then ((laws_markIntSS.f k t8 1).bind fun pt19 => (laws_heldIntSS.f k pt19.2 1).bind fun t21 => if t21 < 0 then none else (if t21 = pt19.1 then ((laws_toPathS.f k l0).bind fun t22 => (laws_toPartS.f k l1).bind fun t23 => (impl_PlanHistory.f k t22 t23 a2 a3).bind fun t24 => (laws_eqIntSS.f k t24 t5).bind fun t25 => if t25 = true then ((laws_heldIntSS.f k pt19.2 1).bind fun t26 => if t26 < 0 then none else (if t26 = pt19.1 then (some true) else none)) else none) else none)) else none)) else none) else none) else none))
set_option maxHeartbeats 8000000 in
set_option maxRecDepth 100000 in
theorem laws_FnExactPlanHistory.calls (k : Nat) (A0 : Option Addr) (c0 : Nat) (l0 : List (S84)) (A1 : Option Addr) (c1 : Nat) (l1 : List (S90)) (a2 : Int) (a3 : Int) (r : Bool) (w : World) (hr0 : Kd.C k84 w A0 l0.length l0) (hc0 : l0.length ≤ c0) (hr1 : Kd.C k90 w A1 l1.length l1) (hc1 : l1.length ≤ c1) (h : laws_FnExactPlanHistory.f k l0 l1 a2 a3 = some r) :
    Calls Try.prog 8 #[.slice A0 l0.length c0, .slice A1 l1.length c1, .int .i64 a2, .int .i64 a3] w fun e w' => e = .returned (.bool r) ∧ Below w.heap.size w w' := by
  have HR0 := Aside0.mk hr0; have HC0 := Aside0.mk hc0; clear hr0 hc0
  have HR1 := Aside0.mk hr1; have HC1 := Aside0.mk hc1; clear hr1 hc1
  have HB := Aside0.mk (Below.refl w.heap.size w)
  have H := h
  unfold laws_FnExactPlanHistory.f at H
  clear h
  replace H := sQ H; obtain ⟨t1, Q1_, H⟩ := H
  by_cases e1 : t1 < 0
  · rw [if_pos e1] at H
    have e1b : decide (t1 < 0) = true := decide_eq_true e1
    obtain rfl := Option.some.inj H
    go_enter Try.func8, Try.ntmps8
    go_wp2_with (first
      | ((with_reducible refine gate_callee (f := 9) rfl ?_); refine gL (some 20) Try.func9 #[.slice A0 l0.length c0, .int .i64 1048576] ?_; (refine (laws_szPathS.calls _ _ l0 1048576 _ _ ?side1 ?side2 Q1_.out).mono ?_); (case side1 => exact sC (Kd.C_below HR0.out HB.out)); (case side2 => exact HC0.out); rintro e w1 ⟨rfl, hd⟩; have hb := drawnB hd; clear hd; refine ⟨_, rfl, ?_⟩; have s1 : w.heap.size ≤ w1.heap.size := hb.size; replace HB := uH hb; clear hb))
    go_ret
    exact ⟨rfl, bQ⟩
  rw [if_neg e1] at H
  have e1b : decide (t1 < 0) = false := decide_eq_false e1
  clear e1
  replace H := sQ H; obtain ⟨t2, Q2_, H⟩ := H
  by_cases e2 : t2 < 0
  · rw [if_pos e2] at H
    have e2b : decide (t2 < 0) = true := decide_eq_true e2
    obtain rfl := Option.some.inj H
    go_enter Try.func8, Try.ntmps8
    go_wp2_with (first
      | ((with_reducible refine gate_callee (f := 9) rfl ?_); refine gL (some 20) Try.func9 #[.slice A0 l0.length c0, .int .i64 1048576] ?_; (refine (laws_szPathS.calls _ _ l0 1048576 _ _ ?side1 ?side2 Q1_.out).mono ?_); (case side1 => exact sC (Kd.C_below HR0.out HB.out)); (case side2 => exact HC0.out); rintro e w1 ⟨rfl, hd⟩; have hb := drawnB hd; clear hd; refine ⟨_, rfl, ?_⟩; have s1 : w.heap.size ≤ w1.heap.size := hb.size; replace HB := uH hb; clear hb)
      | ((with_reducible refine gate_callee (f := 17) rfl ?_); refine gL (some 25) Try.func17 #[.slice A1 l1.length c1, .int .i64 t1] ?_; (refine (laws_szPartS.calls k _ _ l1 t1 _ _ ?side1 ?side2 Q2_.out).mono ?_); (case side1 => exact sC (Kd.C_below HR1.out HB.out)); (case side2 => exact HC1.out); rintro e w2 ⟨rfl, hb⟩; refine ⟨_, rfl, ?_⟩; have s2 : w1.heap.size ≤ w2.heap.size := hb.size; replace HB := uH hb; clear hb))
    go_ret
    exact ⟨rfl, bQ⟩
  rw [if_neg e2] at H
  have e2b : decide (t2 < 0) = false := decide_eq_false e2
  clear e2
  replace H := sQ H; obtain ⟨t3, Q3_, H⟩ := H
  replace H := sQ H; obtain ⟨t4, Q4_, H⟩ := H
  replace H := sQ H; obtain ⟨t5, Q5_, H⟩ := H
  replace H := sQ H; obtain ⟨t6, Q6_, H⟩ := H
  replace H := sQ H; obtain ⟨t7, Q7_, H⟩ := H
  replace H := sQ H; obtain ⟨t8, Q8_, H⟩ := H
  replace H := sQ H; obtain ⟨t9, Q9_, H⟩ := H
  replace H := nP H; obtain ⟨g1, H⟩ := H
  subst g1
  replace H := sQ H; obtain ⟨t10, Q10_, H⟩ := H
  replace H := sQ H; obtain ⟨t11, Q11_, H⟩ := H
  replace H := nP H; obtain ⟨g2, H⟩ := H
  subst g2
  replace H := sQ H; obtain ⟨t12, Q12_, H⟩ := H
  replace H := sQ H; obtain ⟨t13, Q13_, H⟩ := H
  replace H := nP H; obtain ⟨g3, H⟩ := H
  subst g3
  replace H := sQ H; obtain ⟨⟨t14, t15⟩, Q14_, H⟩ := H
  dsimp only at H
  replace H := sQ H; obtain ⟨⟨t16, t17⟩, Q15_, H⟩ := H
  dsimp only at H
  replace H := nN H; obtain ⟨g4, H⟩ := H
  have g4b : decide (t16 < 0) = false := decide_eq_false g4
  clear g4
  replace H := sQ H; obtain ⟨t18, Q16_, H⟩ := H
  replace H := nP H; obtain ⟨g5, H⟩ := H
  subst g5
  replace H := sQ H; obtain ⟨⟨t19, t20⟩, Q17_, H⟩ := H
  dsimp only at H
  replace H := sQ H; obtain ⟨t21, Q18_, H⟩ := H
  replace H := nN H; obtain ⟨g6, H⟩ := H
  have g6b : decide (t21 < 0) = false := decide_eq_false g6
  clear g6
  replace H := nP H; obtain ⟨g7, H⟩ := H
  subst t21
  replace H := sQ H; obtain ⟨t22, Q19_, H⟩ := H
  replace H := sQ H; obtain ⟨t23, Q20_, H⟩ := H
  replace H := sQ H; obtain ⟨t24, Q21_, H⟩ := H
  replace H := sQ H; obtain ⟨t25, Q22_, H⟩ := H
  replace H := nP H; obtain ⟨g8, H⟩ := H
  subst g8
  replace H := sQ H; obtain ⟨t26, Q23_, H⟩ := H
  replace H := nN H; obtain ⟨g9, H⟩ := H
  have g9b : decide (t26 < 0) = false := decide_eq_false g9
  clear g9
  replace H := nP H; obtain ⟨g10, H⟩ := H
  subst t26
  obtain rfl := Option.some.inj H
  go_enter Try.func8, Try.ntmps8
  go_wp2_with (first
    | ((with_reducible refine gate_callee (f := 9) rfl ?_); refine gL (some 20) Try.func9 #[.slice A0 l0.length c0, .int .i64 1048576] ?_; (refine (laws_szPathS.calls _ _ l0 1048576 _ _ ?side1 ?side2 Q1_.out).mono ?_); (case side1 => exact sC (Kd.C_below HR0.out HB.out)); (case side2 => exact HC0.out); rintro e w1 ⟨rfl, hd⟩; have hb := drawnB hd; clear hd; refine ⟨_, rfl, ?_⟩; have s1 : w.heap.size ≤ w1.heap.size := hb.size; replace HB := uH hb; clear hb)
    | ((with_reducible refine gate_callee (f := 17) rfl ?_); refine gL (some 25) Try.func17 #[.slice A1 l1.length c1, .int .i64 t1] ?_; (refine (laws_szPartS.calls k _ _ l1 t1 _ _ ?side1 ?side2 Q2_.out).mono ?_); (case side1 => exact sC (Kd.C_below HR1.out HB.out)); (case side2 => exact HC1.out); rintro e w2 ⟨rfl, hb⟩; refine ⟨_, rfl, ?_⟩; have s2 : w1.heap.size ≤ w2.heap.size := hb.size; replace HB := uH hb; clear hb)
    | ((with_reducible refine gate_callee (f := 12) rfl ?_); refine gL (some 29) Try.func12 #[.slice A0 l0.length c0] ?_; (refine (laws_toPathS.calls k _ _ l0 _ _ ?side1 ?side2 Q3_.out).mono ?_); (case side1 => exact sC (Kd.C_below HR0.out HB.out)); (case side2 => exact HC0.out); rintro e w3 ⟨v3_0, rfl, ho0, hb⟩; refine ⟨_, rfl, ?_⟩; have s3 : w2.heap.size ≤ w3.heap.size := hb.size; have HX3 := Aside0.mk (show Kd.R k82 82 w3 w.heap.size (fun k_ => w2.heap.size ≤ k_ ∧ k_ < w3.heap.size) v3_0 _ from newR ho0 bQ); obtain ⟨Ao3, co3, eo3⟩ := Kd.R_slice HX3.out; subst eo3; replace HB := uH hb; clear hb ho0)
    | ((with_reducible refine gate_callee (f := 20) rfl ?_); refine gL (some 31) Try.func20 #[.slice A1 l1.length c1] ?_; (refine (laws_toPartS.calls k _ _ l1 _ _ ?side1 ?side2 Q4_.out).mono ?_); (case side1 => exact sC (Kd.C_below HR1.out HB.out)); (case side2 => exact HC1.out); rintro e w4 ⟨v4_0, rfl, ho0, hb⟩; refine ⟨_, rfl, ?_⟩; have s4 : w3.heap.size ≤ w4.heap.size := hb.size; replace HX3 := uR HX3 hb; have HX4 := Aside0.mk (show Kd.S k96 96 w4 w.heap.size (fun k_ => w3.heap.size ≤ k_ ∧ k_ < w4.heap.size) v4_0 _ from newS ho0 bQ); obtain ⟨Ao4, co4, eo4⟩ := Kd.S_slice HX4.out; subst eo4; replace HB := uH hb; clear hb ho0)
    | ((with_reducible refine gate_callee (f := 38) rfl ?_); refine gL (some 34) Try.func38 #[.slice Ao3 t3.length co3, .slice Ao4 t4.length co4, .int .i64 a2, .int .i64 a3] ?_; (refine (spec_PlanHistory.calls k _ _ t3 _ _ t4 a2 a3 _ _ ?side1 ?side2 ?side3 ?side4 Q5_.out).mono ?_); (case side1 => exact sC ((Kd.R_reads' HX3.out).2.2)); (case side2 => exact (Kd.R_reads' HX3.out).2.1); (case side3 => exact sC ((Kd.S_reads' HX4.out).2.2)); (case side4 => exact (Kd.S_reads' HX4.out).2.1); rintro e w5 ⟨v5_0, rfl, ho0, hb⟩; refine ⟨_, rfl, ?_⟩; have s5 : w4.heap.size ≤ w5.heap.size := hb.size; have HX5 := Aside0.mk (show Kd.S (Kd.slice 3 (Kd.int .i64)) 35 w5 w.heap.size (fun k_ => w4.heap.size ≤ k_ ∧ k_ < w5.heap.size) v5_0 _ from newS ho0 bQ); obtain ⟨Ao5, co5, eo5⟩ := Kd.S_slice HX5.out; subst eo5; replace HB := uH hb; clear hb ho0; clear HX3; clear HX4)
    | ((with_reducible refine gate_callee (f := 12) rfl ?_); refine gL (some 36) Try.func12 #[.slice A0 l0.length c0] ?_; (refine (laws_toPathS.calls k _ _ l0 _ _ ?side1 ?side2 Q6_.out).mono ?_); (case side1 => exact sC (Kd.C_below HR0.out HB.out)); (case side2 => exact HC0.out); rintro e w6 ⟨v6_0, rfl, ho0, hb⟩; refine ⟨_, rfl, ?_⟩; have s6 : w5.heap.size ≤ w6.heap.size := hb.size; replace HX5 := uS HX5 hb; have HX6 := Aside0.mk (show Kd.R k82 82 w6 w.heap.size (fun k_ => w5.heap.size ≤ k_ ∧ k_ < w6.heap.size) v6_0 _ from newR ho0 bQ); obtain ⟨Ao6, co6, eo6⟩ := Kd.R_slice HX6.out; subst eo6; replace HB := uH hb; clear hb ho0)
    | ((with_reducible refine gate_callee (f := 20) rfl ?_); refine gL (some 38) Try.func20 #[.slice A1 l1.length c1] ?_; (refine (laws_toPartS.calls k _ _ l1 _ _ ?side1 ?side2 Q7_.out).mono ?_); (case side1 => exact sC (Kd.C_below HR1.out HB.out)); (case side2 => exact HC1.out); rintro e w7 ⟨v7_0, rfl, ho0, hb⟩; refine ⟨_, rfl, ?_⟩; have s7 : w6.heap.size ≤ w7.heap.size := hb.size; replace HX5 := uS HX5 hb; replace HX6 := uR HX6 hb; have HX7 := Aside0.mk (show Kd.S k96 96 w7 w.heap.size (fun k_ => w6.heap.size ≤ k_ ∧ k_ < w7.heap.size) v7_0 _ from newS ho0 bQ); obtain ⟨Ao7, co7, eo7⟩ := Kd.S_slice HX7.out; subst eo7; replace HB := uH hb; clear hb ho0)
    | ((with_reducible refine gate_callee (f := 39) rfl ?_); refine gL (some 43) Try.func39 #[.slice Ao6 t6.length co6, .slice Ao7 t7.length co7, .int .i64 a2, .int .i64 a3] ?_; (refine (impl_PlanHistory.calls k _ _ t6 _ _ t7 a2 a3 _ _ ?side1 ?side2 ?side3 ?side4 Q8_.out).mono ?_); (case side1 => exact sC ((Kd.R_reads' HX6.out).2.2)); (case side2 => exact (Kd.R_reads' HX6.out).2.1); (case side3 => exact sC ((Kd.S_reads' HX7.out).2.2)); (case side4 => exact (Kd.S_reads' HX7.out).2.1); rintro e w8 ⟨v8_0, rfl, ho0, hb⟩; refine ⟨_, rfl, ?_⟩; have s8 : w7.heap.size ≤ w8.heap.size := hb.size; replace HX5 := uS HX5 hb; replace HX6 := uR HX6 hb; replace HX7 := uS HX7 hb; have HX8 := Aside0.mk (show Kd.S (Kd.slice 3 (Kd.int .i64)) 35 w8 w.heap.size (fun k_ => w7.heap.size ≤ k_ ∧ k_ < w8.heap.size) v8_0 _ from newS ho0 bQ); obtain ⟨Ao8, co8, eo8⟩ := Kd.S_slice HX8.out; subst eo8; replace HB := uH hb; clear hb ho0)
    | ((with_reducible refine gate_callee (f := 40) rfl ?_); refine gL (some 46) Try.func40 #[.slice Ao8 t8.length co8, .slice Ao5 t5.length co5] ?_; (refine (laws_eqIntSS.calls k _ _ t8 _ _ t5 _ _ ?side1 ?side2 ?side3 ?side4 Q9_.out).mono ?_); (case side1 => exact sC ((Kd.S_reads' HX8.out).2.2)); (case side2 => exact (Kd.S_reads' HX8.out).2.1); (case side3 => exact sC ((Kd.S_reads' HX5.out).2.2)); (case side4 => exact (Kd.S_reads' HX5.out).2.1); rintro e w9 ⟨rfl, hb⟩; refine ⟨_, rfl, ?_⟩; have s9 : w8.heap.size ≤ w9.heap.size := hb.size; replace HX5 := uS HX5 hb; replace HX6 := uR HX6 hb; replace HX7 := uS HX7 hb; replace HX8 := uS HX8 hb; replace HB := uH hb; clear hb)
    | ((with_reducible refine gate_callee (f := 12) rfl ?_); refine gL (some 50) Try.func12 #[.slice A0 l0.length c0] ?_; (refine (laws_toPathS.calls k _ _ l0 _ _ ?side1 ?side2 Q10_.out).mono ?_); (case side1 => exact sC (Kd.C_below HR0.out HB.out)); (case side2 => exact HC0.out); rintro e w10 ⟨v10_0, rfl, ho0, hb⟩; refine ⟨_, rfl, ?_⟩; have s10 : w9.heap.size ≤ w10.heap.size := hb.size; replace HX5 := uS HX5 hb; replace HX6 := uR HX6 hb; replace HX7 := uS HX7 hb; replace HX8 := uS HX8 hb; have HX10 := Aside0.mk (show Kd.R k82 82 w10 w.heap.size (fun k_ => w9.heap.size ≤ k_ ∧ k_ < w10.heap.size) v10_0 _ from newR ho0 bQ); obtain ⟨Ao10, co10, eo10⟩ := Kd.R_slice HX10.out; subst eo10; replace HB := uH hb; clear hb ho0)
    | ((with_reducible refine gate_callee (f := 15) rfl ?_); refine gL (some 51) Try.func15 #[.slice Ao6 t6.length co6, .slice Ao10 t10.length co10] ?_; (refine (laws_eqPathS.calls k _ _ t6 _ _ t10 _ _ ?side1 ?side2 ?side3 ?side4 Q11_.out).mono ?_); (case side1 => exact sC ((Kd.R_reads' HX6.out).2.2)); (case side2 => exact (Kd.R_reads' HX6.out).2.1); (case side3 => exact sC ((Kd.R_reads' HX10.out).2.2)); (case side4 => exact (Kd.R_reads' HX10.out).2.1); rintro e w11 ⟨rfl, hb⟩; refine ⟨_, rfl, ?_⟩; have s11 : w10.heap.size ≤ w11.heap.size := hb.size; replace HX5 := uS HX5 hb; replace HX6 := uR HX6 hb; replace HX7 := uS HX7 hb; replace HX8 := uS HX8 hb; replace HB := uH hb; clear hb; clear HX10)
    | ((with_reducible refine gate_callee (f := 20) rfl ?_); refine gL (some 55) Try.func20 #[.slice A1 l1.length c1] ?_; (refine (laws_toPartS.calls k _ _ l1 _ _ ?side1 ?side2 Q12_.out).mono ?_); (case side1 => exact sC (Kd.C_below HR1.out HB.out)); (case side2 => exact HC1.out); rintro e w12 ⟨v12_0, rfl, ho0, hb⟩; refine ⟨_, rfl, ?_⟩; have s12 : w11.heap.size ≤ w12.heap.size := hb.size; replace HX5 := uS HX5 hb; replace HX6 := uR HX6 hb; replace HX7 := uS HX7 hb; replace HX8 := uS HX8 hb; have HX12 := Aside0.mk (show Kd.S k96 96 w12 w.heap.size (fun k_ => w11.heap.size ≤ k_ ∧ k_ < w12.heap.size) v12_0 _ from newS ho0 bQ); obtain ⟨Ao12, co12, eo12⟩ := Kd.S_slice HX12.out; subst eo12; replace HB := uH hb; clear hb ho0)
    | ((with_reducible refine gate_callee (f := 23) rfl ?_); refine gL (some 56) Try.func23 #[.slice Ao7 t7.length co7, .slice Ao12 t12.length co12] ?_; (refine (laws_eqPartS.calls k _ _ t7 _ _ t12 _ _ ?side1 ?side2 ?side3 ?side4 Q13_.out).mono ?_); (case side1 => exact sC ((Kd.S_reads' HX7.out).2.2)); (case side2 => exact (Kd.S_reads' HX7.out).2.1); (case side3 => exact sC ((Kd.S_reads' HX12.out).2.2)); (case side4 => exact (Kd.S_reads' HX12.out).2.1); rintro e w13 ⟨rfl, hb⟩; refine ⟨_, rfl, ?_⟩; have s13 : w12.heap.size ≤ w13.heap.size := hb.size; replace HX5 := uS HX5 hb; replace HX6 := uR HX6 hb; replace HX7 := uS HX7 hb; replace HX8 := uS HX8 hb; replace HB := uH hb; clear hb; clear HX12)
    | ((with_reducible refine gate_callee (f := 41) rfl ?_); refine gL (some 60) Try.func41 #[.slice Ao6 t6.length co6, .int .i64 1] ?_; (refine (laws_markPathS.calls k (fun k_ => w5.heap.size ≤ k_ ∧ k_ < w6.heap.size) _ t6 1 _ _ w _ ?side1 ?side2 Q14_.out).mono ?_); (case side1 => exact bQ); (case side2 => exact rR HX6); rintro e w14 ⟨rfl, hy, hb, hkp⟩; refine ⟨_, rfl, ?_⟩; have s14 : w13.heap.size ≤ w14.heap.size := hkp.1; replace HX5 := kS HX5 hkp; replace HX7 := kS HX7 hkp; replace HX8 := kS HX8 hkp; clear HB; have HB := Aside0.mk hb; clear hb hy hkp; clear HX6)
    | ((with_reducible refine gate_callee (f := 42) rfl ?_); refine gL (some 63) Try.func42 #[.slice Ao7 t7.length co7, .int .i64 t14] ?_; (refine (laws_markPartS.calls k (fun k_ => w6.heap.size ≤ k_ ∧ k_ < w7.heap.size) _ t7 t14 _ _ w _ ?side1 ?side2 Q15_.out).mono ?_); (case side1 => exact bQ); (case side2 => exact rS HX7); rintro e w15 ⟨rfl, hy, hb, hkp⟩; refine ⟨_, rfl, ?_⟩; have s15 : w14.heap.size ≤ w15.heap.size := hkp.1; replace HX5 := kS HX5 hkp; replace HX8 := kS HX8 hkp; clear HB; have HB := Aside0.mk hb; clear hb hy hkp; clear HX7)
    | (go_at_call 40; (refine (laws_eqIntSS.calls k _ _ t8 _ _ t5 _ _ ?side1 ?side2 ?side3 ?side4 Q16_.out).mono ?_); (case side1 => exact sC ((Kd.S_reads' HX8.out).2.2)); (case side2 => exact (Kd.S_reads' HX8.out).2.1); (case side3 => exact sC ((Kd.S_reads' HX5.out).2.2)); (case side4 => exact (Kd.S_reads' HX5.out).2.1); rintro e w16 ⟨rfl, hb⟩; have s16 : w15.heap.size ≤ w16.heap.size := hb.size; replace HX5 := uS HX5 hb; replace HX8 := uS HX8 hb; replace HB := uH hb; clear hb)
    | ((with_reducible refine gate_callee (f := 43) rfl ?_); refine gL (some 74) Try.func43 #[.slice Ao8 t8.length co8, .int .i64 1] ?_; (refine (laws_markIntSS.calls k (fun k_ => w7.heap.size ≤ k_ ∧ k_ < w8.heap.size) _ t8 1 _ _ w _ ?side1 ?side2 Q17_.out).mono ?_); (case side1 => exact bQ); (case side2 => exact rS HX8); rintro e w17 ⟨rfl, hy, hb, hkp⟩; refine ⟨_, rfl, ?_⟩; have s17 : w16.heap.size ≤ w17.heap.size := hkp.1; replace HX5 := kS HX5 hkp; replace HX8 := Aside0.mk hy; have hl_ := (Kd.S_reads' HX8.out).1; rw [hl_] at HX8; (try simp only [hl_]); clear hl_; clear HB; have HB := Aside0.mk hb; clear hb hy hkp)
    | ((with_reducible refine gate_callee (f := 44) rfl ?_); refine gL (some 77) Try.func44 #[.slice Ao8 t20.length co8, .int .i64 1] ?_; (refine (laws_heldIntSS.calls k _ _ t20 1 _ _ ?side1 ?side2 Q18_.out).mono ?_); (case side1 => exact sC ((Kd.S_reads' HX8.out).2.2)); (case side2 => exact (Kd.S_reads' HX8.out).2.1); rintro e w18 ⟨rfl, hd⟩; have hb := drawnB hd; clear hd; refine ⟨_, rfl, ?_⟩; have s18 : w17.heap.size ≤ w18.heap.size := hb.size; replace HX5 := uS HX5 hb; replace HX8 := uS HX8 hb; replace HB := uH hb; clear hb)
    | ((with_reducible refine gate_callee (f := 12) rfl ?_); refine gL (some 84) Try.func12 #[.slice A0 l0.length c0] ?_; (refine (laws_toPathS.calls k _ _ l0 _ _ ?side1 ?side2 Q19_.out).mono ?_); (case side1 => exact sC (Kd.C_below HR0.out HB.out)); (case side2 => exact HC0.out); rintro e w19 ⟨v19_0, rfl, ho0, hb⟩; refine ⟨_, rfl, ?_⟩; have s19 : w18.heap.size ≤ w19.heap.size := hb.size; replace HX5 := uS HX5 hb; replace HX8 := uS HX8 hb; have HX22 := Aside0.mk (show Kd.R k82 82 w19 w.heap.size (fun k_ => w18.heap.size ≤ k_ ∧ k_ < w19.heap.size) v19_0 _ from newR ho0 bQ); obtain ⟨Ao22, co22, eo22⟩ := Kd.R_slice HX22.out; subst eo22; replace HB := uH hb; clear hb ho0)
    | ((with_reducible refine gate_callee (f := 20) rfl ?_); refine gL (some 86) Try.func20 #[.slice A1 l1.length c1] ?_; (refine (laws_toPartS.calls k _ _ l1 _ _ ?side1 ?side2 Q20_.out).mono ?_); (case side1 => exact sC (Kd.C_below HR1.out HB.out)); (case side2 => exact HC1.out); rintro e w20 ⟨v20_0, rfl, ho0, hb⟩; refine ⟨_, rfl, ?_⟩; have s20 : w19.heap.size ≤ w20.heap.size := hb.size; replace HX5 := uS HX5 hb; replace HX8 := uS HX8 hb; replace HX22 := uR HX22 hb; have HX23 := Aside0.mk (show Kd.S k96 96 w20 w.heap.size (fun k_ => w19.heap.size ≤ k_ ∧ k_ < w20.heap.size) v20_0 _ from newS ho0 bQ); obtain ⟨Ao23, co23, eo23⟩ := Kd.S_slice HX23.out; subst eo23; replace HB := uH hb; clear hb ho0)
    | ((with_reducible refine gate_callee (f := 39) rfl ?_); refine gL (some 89) Try.func39 #[.slice Ao22 t22.length co22, .slice Ao23 t23.length co23, .int .i64 a2, .int .i64 a3] ?_; (refine (impl_PlanHistory.calls k _ _ t22 _ _ t23 a2 a3 _ _ ?side1 ?side2 ?side3 ?side4 Q21_.out).mono ?_); (case side1 => exact sC ((Kd.R_reads' HX22.out).2.2)); (case side2 => exact (Kd.R_reads' HX22.out).2.1); (case side3 => exact sC ((Kd.S_reads' HX23.out).2.2)); (case side4 => exact (Kd.S_reads' HX23.out).2.1); rintro e w21 ⟨v21_0, rfl, ho0, hb⟩; refine ⟨_, rfl, ?_⟩; have s21 : w20.heap.size ≤ w21.heap.size := hb.size; replace HX5 := uS HX5 hb; replace HX8 := uS HX8 hb; have HX24 := Aside0.mk (show Kd.S (Kd.slice 3 (Kd.int .i64)) 35 w21 w.heap.size (fun k_ => w20.heap.size ≤ k_ ∧ k_ < w21.heap.size) v21_0 _ from newS ho0 bQ); obtain ⟨Ao24, co24, eo24⟩ := Kd.S_slice HX24.out; subst eo24; replace HB := uH hb; clear hb ho0; clear HX22; clear HX23)
    | ((with_reducible refine gate_callee (f := 40) rfl ?_); refine gL (some 92) Try.func40 #[.slice Ao24 t24.length co24, .slice Ao5 t5.length co5] ?_; (refine (laws_eqIntSS.calls k _ _ t24 _ _ t5 _ _ ?side1 ?side2 ?side3 ?side4 Q22_.out).mono ?_); (case side1 => exact sC ((Kd.S_reads' HX24.out).2.2)); (case side2 => exact (Kd.S_reads' HX24.out).2.1); (case side3 => exact sC ((Kd.S_reads' HX5.out).2.2)); (case side4 => exact (Kd.S_reads' HX5.out).2.1); rintro e w22 ⟨rfl, hb⟩; refine ⟨_, rfl, ?_⟩; have s22 : w21.heap.size ≤ w22.heap.size := hb.size; replace HX8 := uS HX8 hb; replace HB := uH hb; clear hb; clear HX5; clear HX24)
    | ((with_reducible refine gate_callee (f := 44) rfl ?_); refine gL (some 96) Try.func44 #[.slice Ao8 t20.length co8, .int .i64 1] ?_; (refine (laws_heldIntSS.calls k _ _ t20 1 _ _ ?side1 ?side2 Q23_.out).mono ?_); (case side1 => exact sC ((Kd.S_reads' HX8.out).2.2)); (case side2 => exact (Kd.S_reads' HX8.out).2.1); rintro e w23 ⟨rfl, hd⟩; have hb := drawnB hd; clear hd; refine ⟨_, rfl, ?_⟩; have s23 : w22.heap.size ≤ w23.heap.size := hb.size; replace HB := uH hb; clear hb; clear HX8))
  go_ret
  exact ⟨rfl, bQ⟩
end Go.Proofs.Ytfamneflndhjpaa.PPlan
