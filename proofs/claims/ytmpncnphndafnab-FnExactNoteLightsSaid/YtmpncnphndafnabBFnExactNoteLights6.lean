/- Go functions that the statement reaches: each printed as a Lean function, with a proof that the Go function comes to its answer; conditions: the bounds that each states. -/
import Derived.Test.YtmpncnphndafnabBFnExactNoteLights0
import Derived.Test.YtmpncnphndafnabBFnExactNoteLights1
import Derived.Test.YtmpncnphndafnabBFnExactNoteLights4
import Derived.Test.YtmpncnphndafnabBFnExactNoteLights5
namespace Go.Proofs.Ytmpncnphndafnab.PEnt
open Go.RowKit Go.Proofs.YtmpncnphndafnabW.PrintWords Go.Proofs.YtmpncnphndafnabW.PrintLast Go.Proofs.YtmpncnphndafnabW.PrintMore
attribute [local go_sem] max2_int min2_int max_two min_two max_three min_three max_four min_four   -- for this text's walks alone
set_option linter.unusedVariables false
set_option linter.unusedSimpArgs false
/-! ### laws_FnExactNoteLights: function 5 -/
def laws_FnExactNoteLights.f (k : Nat) (l0 : List (S69)) (a1 : Int) (l2 : List Int) : Option (Bool) := if (l2.length : Int) > 1048576 then (some true) else ((laws_szEntryS.f k l0 1048576).bind fun t1 => if t1 < 0 then (some true) else ((laws_toEntryS.f k l0).bind fun t2 => (laws_toIntS.f k l2).bind fun t3 => (spec_NoteLights.f k t2 a1 t3).bind fun pt4 => (laws_toEntryS.f k l0).bind fun t6 => (laws_toIntS.f k l2).bind fun t7 => (impl_NoteLights.f k t6 a1 t7).bind fun pt8 => (laws_eqEntryS.f k pt8.1 pt4.1).bind fun t10 => if t10 = true then (if pt8.2 = pt4.2 then ((laws_toEntryS.f k l0).bind fun t11 => (laws_eqEntryS.f k t6 t11).bind fun t12 => if t12 = true then ((laws_toIntS.f k l2).bind fun t13 => (laws_eqIntS.f k t7 t13).bind fun t14 => if t14 = true then ((laws_markEntryS.f k t6 1).bind fun pt15 => (laws_markIntS.f k t7 pt15.1).bind fun pt17 => if pt17.1 < 0 then none else ((laws_eqEntryS.f k pt8.1 pt4.1).bind fun t19 => if t19 = true then (if pt8.2 = pt4.2 then ((laws_markEntryS.f k pt8.1 1).bind fun pt20 => (laws_heldEntryS.f k pt20.2 1).bind fun t22 => if t22 < 0 then none else (if t22 = pt20.1 then ((laws_toEntryS.f k l0).bind fun t23 => (laws_toIntS.f k l2).bind fun t24 => (impl_NoteLights.f k t23 a1 t24).bind fun pt25 => (laws_eqEntryS.f k pt25.1 pt4.1).bind fun t27 => if t27 = true then (if pt25.2 = pt4.2 then ((laws_heldEntryS.f k pt20.2 1).bind fun t28 => if t28 < 0 then none else (if t28 = pt20.1 then (some true) else none)) else none) else none) else none)) else none) else none)) else none) else none) else none) else none))
set_option maxHeartbeats 8000000 in
set_option maxRecDepth 100000 in
theorem laws_FnExactNoteLights.calls (k : Nat) (A0 : Option Addr) (c0 : Nat) (l0 : List (S69)) (a1 : Int) (A2 : Option Addr) (c2 : Nat) (l2 : List Int) (r : Bool) (w : World) (hr0 : Kd.C k69 w A0 l0.length l0) (hc0 : l0.length ≤ c0) (hr2 : Kd.C (Kd.int .i64) w A2 l2.length l2) (hc2 : l2.length ≤ c2) (h : laws_FnExactNoteLights.f k l0 a1 l2 = some r) :
    Calls Try.prog 5 #[.slice A0 l0.length c0, .int .i64 a1, .slice A2 l2.length c2] w fun e w' => e = .returned (.bool r) ∧ Below w.heap.size w w' := by
  have HR0 := Aside0.mk hr0; have HC0 := Aside0.mk hc0; clear hr0 hc0
  have HR2 := Aside0.mk hr2; have HC2 := Aside0.mk hc2; clear hr2 hc2
  have HB := Aside0.mk (Below.refl w.heap.size w)
  have H := h
  unfold laws_FnExactNoteLights.f at H
  clear h
  by_cases e1 : (l2.length : Int) > 1048576
  · rw [if_pos e1] at H
    have e1b : decide ((l2.length : Int) > 1048576) = true := decide_eq_true e1
    obtain rfl := Option.some.inj H
    go_enter Try.func5, Try.ntmps5
    go_wp2
    go_ret
    exact ⟨rfl, bQ⟩
  rw [if_neg e1] at H
  have e1b : decide ((l2.length : Int) > 1048576) = false := decide_eq_false e1
  clear e1
  replace H := sQ H; obtain ⟨t1, Q1_, H⟩ := H
  by_cases e2 : t1 < 0
  · rw [if_pos e2] at H
    have e2b : decide (t1 < 0) = true := decide_eq_true e2
    obtain rfl := Option.some.inj H
    go_enter Try.func5, Try.ntmps5
    go_wp2_with (first
      | ((with_reducible refine gate_callee (f := 9) rfl ?_); refine gL (some 24) Try.func9 #[.slice A0 l0.length c0, .int .i64 1048576] ?_; (refine (laws_szEntryS.calls k _ _ l0 1048576 _ _ ?side1 ?side2 Q1_.out).mono ?_); (case side1 => exact sC (Kd.C_below HR0.out HB.out)); (case side2 => exact HC0.out); rintro e w1 ⟨rfl, hb⟩; refine ⟨_, rfl, ?_⟩; have s1 : w.heap.size ≤ w1.heap.size := hb.size; replace HB := uH hb; clear hb))
    go_ret
    exact ⟨rfl, bQ⟩
  rw [if_neg e2] at H
  have e2b : decide (t1 < 0) = false := decide_eq_false e2
  clear e2
  replace H := sQ H; obtain ⟨t2, Q2_, H⟩ := H
  replace H := sQ H; obtain ⟨t3, Q3_, H⟩ := H
  replace H := sQ H; obtain ⟨⟨t4, t5⟩, Q4_, H⟩ := H
  dsimp only at H
  replace H := sQ H; obtain ⟨t6, Q5_, H⟩ := H
  replace H := sQ H; obtain ⟨t7, Q6_, H⟩ := H
  replace H := sQ H; obtain ⟨⟨t8, t9⟩, Q7_, H⟩ := H
  dsimp only at H
  replace H := sQ H; obtain ⟨t10, Q8_, H⟩ := H
  replace H := nP H; obtain ⟨g1, H⟩ := H
  subst g1
  replace H := nP H; obtain ⟨g2, H⟩ := H
  subst t9
  replace H := sQ H; obtain ⟨t11, Q9_, H⟩ := H
  replace H := sQ H; obtain ⟨t12, Q10_, H⟩ := H
  replace H := nP H; obtain ⟨g3, H⟩ := H
  subst g3
  replace H := sQ H; obtain ⟨t13, Q11_, H⟩ := H
  replace H := sQ H; obtain ⟨t14, Q12_, H⟩ := H
  replace H := nP H; obtain ⟨g4, H⟩ := H
  subst g4
  replace H := sQ H; obtain ⟨⟨t15, t16⟩, Q13_, H⟩ := H
  dsimp only at H
  replace H := sQ H; obtain ⟨⟨t17, t18⟩, Q14_, H⟩ := H
  dsimp only at H
  replace H := nN H; obtain ⟨g5, H⟩ := H
  have g5b : decide (t17 < 0) = false := decide_eq_false g5
  clear g5
  replace H := sQ H; obtain ⟨t19, Q15_, H⟩ := H
  replace H := nP H; obtain ⟨g6, H⟩ := H
  subst g6
  replace H := (nP H).2
  replace H := sQ H; obtain ⟨⟨t20, t21⟩, Q16_, H⟩ := H
  dsimp only at H
  replace H := sQ H; obtain ⟨t22, Q17_, H⟩ := H
  replace H := nN H; obtain ⟨g8, H⟩ := H
  have g8b : decide (t22 < 0) = false := decide_eq_false g8
  clear g8
  replace H := nP H; obtain ⟨g9, H⟩ := H
  subst t22
  replace H := sQ H; obtain ⟨t23, Q18_, H⟩ := H
  replace H := sQ H; obtain ⟨t24, Q19_, H⟩ := H
  replace H := sQ H; obtain ⟨⟨t25, t26⟩, Q20_, H⟩ := H
  dsimp only at H
  replace H := sQ H; obtain ⟨t27, Q21_, H⟩ := H
  replace H := nP H; obtain ⟨g10, H⟩ := H
  subst g10
  replace H := nP H; obtain ⟨g11, H⟩ := H
  subst t26
  replace H := sQ H; obtain ⟨t28, Q22_, H⟩ := H
  replace H := nN H; obtain ⟨g12, H⟩ := H
  have g12b : decide (t28 < 0) = false := decide_eq_false g12
  clear g12
  replace H := nP H; obtain ⟨g13, H⟩ := H
  subst t28
  obtain rfl := Option.some.inj H
  go_enter Try.func5, Try.ntmps5
  go_wp2_with (first
    | ((with_reducible refine gate_callee (f := 9) rfl ?_); refine gL (some 24) Try.func9 #[.slice A0 l0.length c0, .int .i64 1048576] ?_; (refine (laws_szEntryS.calls k _ _ l0 1048576 _ _ ?side1 ?side2 Q1_.out).mono ?_); (case side1 => exact sC (Kd.C_below HR0.out HB.out)); (case side2 => exact HC0.out); rintro e w1 ⟨rfl, hb⟩; refine ⟨_, rfl, ?_⟩; have s1 : w.heap.size ≤ w1.heap.size := hb.size; replace HB := uH hb; clear hb)
    | ((with_reducible refine gate_callee (f := 11) rfl ?_); refine gL (some 29) Try.func11 #[.slice A0 l0.length c0] ?_; (refine (laws_toEntryS.calls k _ _ l0 _ _ ?side1 ?side2 Q2_.out).mono ?_); (case side1 => exact sC (Kd.C_below HR0.out HB.out)); (case side2 => exact HC0.out); rintro e w2 ⟨v2_0, rfl, ho0, hb⟩; refine ⟨_, rfl, ?_⟩; have s2 : w1.heap.size ≤ w2.heap.size := hb.size; have HX2 := Aside0.mk (show Kd.S k47 47 w2 w.heap.size (fun k_ => w1.heap.size ≤ k_ ∧ k_ < w2.heap.size) v2_0 _ from newS ho0 bQ); obtain ⟨Ao2, co2, eo2⟩ := Kd.S_slice HX2.out; subst eo2; replace HB := uH hb; clear hb ho0)
    | ((with_reducible refine gate_callee (f := 19) rfl ?_); refine gL (some 32) Try.func19 #[.slice A2 l2.length c2] ?_; (refine (laws_toIntS.calls k _ _ l2 _ _ ?side1 ?side2 Q3_.out).mono ?_); (case side1 => exact sC (Kd.C_below HR2.out HB.out)); (case side2 => exact HC2.out); rintro e w3 ⟨v3_0, rfl, ho0, hb⟩; refine ⟨_, rfl, ?_⟩; have s3 : w2.heap.size ≤ w3.heap.size := hb.size; replace HX2 := uS HX2 hb; have HX3 := Aside0.mk (show Kd.R (Kd.int .i64) 3 w3 w.heap.size (fun k_ => w2.heap.size ≤ k_ ∧ k_ < w3.heap.size) v3_0 _ from newR ho0 bQ); obtain ⟨Ao3, co3, eo3⟩ := Kd.R_slice HX3.out; subst eo3; replace HB := uH hb; clear hb ho0)
    | ((with_reducible refine gate_callee (f := 22) rfl ?_); refine gL (some 33) Try.func22 #[.slice Ao2 t2.length co2, .int .i64 a1, .slice Ao3 t3.length co3] ?_; (refine (spec_NoteLights.calls k _ _ t2 a1 _ _ t3 _ _ _ ?side1 ?side2 ?side3 ?side4 Q4_.out).mono ?_); (case side1 => exact sC ((Kd.S_reads' HX2.out).2.2)); (case side2 => exact (Kd.S_reads' HX2.out).2.1); (case side3 => exact sC ((Kd.R_reads' HX3.out).2.2)); (case side4 => exact (Kd.R_reads' HX3.out).2.1); rintro e w4 ⟨v4_0, rfl, ho0, hb⟩; refine ⟨_, rfl, ?_⟩; have s4 : w3.heap.size ≤ w4.heap.size := hb.size; have HX4 := Aside0.mk (show Kd.S k47 47 w4 w.heap.size (fun k_ => w3.heap.size ≤ k_ ∧ k_ < w4.heap.size) v4_0 _ from newS ho0 bQ); obtain ⟨Ao4, co4, eo4⟩ := Kd.S_slice HX4.out; subst eo4; replace HB := uH hb; clear hb ho0; clear HX2; clear HX3)
    | ((with_reducible refine gate_callee (f := 11) rfl ?_); refine gL (some 37) Try.func11 #[.slice A0 l0.length c0] ?_; (refine (laws_toEntryS.calls k _ _ l0 _ _ ?side1 ?side2 Q5_.out).mono ?_); (case side1 => exact sC (Kd.C_below HR0.out HB.out)); (case side2 => exact HC0.out); rintro e w5 ⟨v5_0, rfl, ho0, hb⟩; refine ⟨_, rfl, ?_⟩; have s5 : w4.heap.size ≤ w5.heap.size := hb.size; replace HX4 := uS HX4 hb; have HX6 := Aside0.mk (show Kd.S k47 47 w5 w.heap.size (fun k_ => w4.heap.size ≤ k_ ∧ k_ < w5.heap.size) v5_0 _ from newS ho0 bQ); obtain ⟨Ao6, co6, eo6⟩ := Kd.S_slice HX6.out; subst eo6; replace HB := uH hb; clear hb ho0)
    | ((with_reducible refine gate_callee (f := 19) rfl ?_); refine gL (some 39) Try.func19 #[.slice A2 l2.length c2] ?_; (refine (laws_toIntS.calls k _ _ l2 _ _ ?side1 ?side2 Q6_.out).mono ?_); (case side1 => exact sC (Kd.C_below HR2.out HB.out)); (case side2 => exact HC2.out); rintro e w6 ⟨v6_0, rfl, ho0, hb⟩; refine ⟨_, rfl, ?_⟩; have s6 : w5.heap.size ≤ w6.heap.size := hb.size; replace HX4 := uS HX4 hb; replace HX6 := uS HX6 hb; have HX7 := Aside0.mk (show Kd.R (Kd.int .i64) 3 w6 w.heap.size (fun k_ => w5.heap.size ≤ k_ ∧ k_ < w6.heap.size) v6_0 _ from newR ho0 bQ); obtain ⟨Ao7, co7, eo7⟩ := Kd.R_slice HX7.out; subst eo7; replace HB := uH hb; clear hb ho0)
    | ((with_reducible refine gate_callee (f := 23) rfl ?_); refine gL (some 44) Try.func23 #[.slice Ao6 t6.length co6, .int .i64 a1, .slice Ao7 t7.length co7] ?_; (refine (impl_NoteLights.calls k _ _ t6 a1 _ _ t7 _ _ _ ?side1 ?side2 ?side3 ?side4 Q7_.out).mono ?_); (case side1 => exact sC ((Kd.S_reads' HX6.out).2.2)); (case side2 => exact (Kd.S_reads' HX6.out).2.1); (case side3 => exact sC ((Kd.R_reads' HX7.out).2.2)); (case side4 => exact (Kd.R_reads' HX7.out).2.1); rintro e w7 ⟨v7_0, rfl, ho0, hb⟩; refine ⟨_, rfl, ?_⟩; have s7 : w6.heap.size ≤ w7.heap.size := hb.size; replace HX4 := uS HX4 hb; replace HX6 := uS HX6 hb; replace HX7 := uR HX7 hb; have HX8 := Aside0.mk (show Kd.S k47 47 w7 w.heap.size (fun k_ => w6.heap.size ≤ k_ ∧ k_ < w7.heap.size) v7_0 _ from newS ho0 bQ); obtain ⟨Ao8, co8, eo8⟩ := Kd.S_slice HX8.out; subst eo8; replace HB := uH hb; clear hb ho0)
    | ((with_reducible refine gate_callee (f := 14) rfl ?_); refine gL (some 49) Try.func14 #[.slice Ao8 t8.length co8, .slice Ao4 t4.length co4] ?_; (refine (laws_eqEntryS.calls k _ _ t8 _ _ t4 _ _ ?side1 ?side2 ?side3 ?side4 Q8_.out).mono ?_); (case side1 => exact sC ((Kd.S_reads' HX8.out).2.2)); (case side2 => exact (Kd.S_reads' HX8.out).2.1); (case side3 => exact sC ((Kd.S_reads' HX4.out).2.2)); (case side4 => exact (Kd.S_reads' HX4.out).2.1); rintro e w8 ⟨rfl, hb⟩; refine ⟨_, rfl, ?_⟩; have s8 : w7.heap.size ≤ w8.heap.size := hb.size; replace HX4 := uS HX4 hb; replace HX6 := uS HX6 hb; replace HX7 := uR HX7 hb; replace HX8 := uS HX8 hb; replace HB := uH hb; clear hb)
    | ((with_reducible refine gate_callee (f := 11) rfl ?_); refine gL (some 58) Try.func11 #[.slice A0 l0.length c0] ?_; (refine (laws_toEntryS.calls k _ _ l0 _ _ ?side1 ?side2 Q9_.out).mono ?_); (case side1 => exact sC (Kd.C_below HR0.out HB.out)); (case side2 => exact HC0.out); rintro e w9 ⟨v9_0, rfl, ho0, hb⟩; refine ⟨_, rfl, ?_⟩; have s9 : w8.heap.size ≤ w9.heap.size := hb.size; replace HX4 := uS HX4 hb; replace HX6 := uS HX6 hb; replace HX7 := uR HX7 hb; replace HX8 := uS HX8 hb; have HX11 := Aside0.mk (show Kd.S k47 47 w9 w.heap.size (fun k_ => w8.heap.size ≤ k_ ∧ k_ < w9.heap.size) v9_0 _ from newS ho0 bQ); obtain ⟨Ao11, co11, eo11⟩ := Kd.S_slice HX11.out; subst eo11; replace HB := uH hb; clear hb ho0)
    | ((with_reducible refine gate_callee (f := 14) rfl ?_); refine gL (some 59) Try.func14 #[.slice Ao6 t6.length co6, .slice Ao11 t11.length co11] ?_; (refine (laws_eqEntryS.calls k _ _ t6 _ _ t11 _ _ ?side1 ?side2 ?side3 ?side4 Q10_.out).mono ?_); (case side1 => exact sC ((Kd.S_reads' HX6.out).2.2)); (case side2 => exact (Kd.S_reads' HX6.out).2.1); (case side3 => exact sC ((Kd.S_reads' HX11.out).2.2)); (case side4 => exact (Kd.S_reads' HX11.out).2.1); rintro e w10 ⟨rfl, hb⟩; refine ⟨_, rfl, ?_⟩; have s10 : w9.heap.size ≤ w10.heap.size := hb.size; replace HX4 := uS HX4 hb; replace HX6 := uS HX6 hb; replace HX7 := uR HX7 hb; replace HX8 := uS HX8 hb; replace HB := uH hb; clear hb; clear HX11)
    | ((with_reducible refine gate_callee (f := 19) rfl ?_); refine gL (some 63) Try.func19 #[.slice A2 l2.length c2] ?_; (refine (laws_toIntS.calls k _ _ l2 _ _ ?side1 ?side2 Q11_.out).mono ?_); (case side1 => exact sC (Kd.C_below HR2.out HB.out)); (case side2 => exact HC2.out); rintro e w11 ⟨v11_0, rfl, ho0, hb⟩; refine ⟨_, rfl, ?_⟩; have s11 : w10.heap.size ≤ w11.heap.size := hb.size; replace HX4 := uS HX4 hb; replace HX6 := uS HX6 hb; replace HX7 := uR HX7 hb; replace HX8 := uS HX8 hb; have HX13 := Aside0.mk (show Kd.R (Kd.int .i64) 3 w11 w.heap.size (fun k_ => w10.heap.size ≤ k_ ∧ k_ < w11.heap.size) v11_0 _ from newR ho0 bQ); obtain ⟨Ao13, co13, eo13⟩ := Kd.R_slice HX13.out; subst eo13; replace HB := uH hb; clear hb ho0)
    | ((with_reducible refine gate_callee (f := 13) rfl ?_); refine gL (some 64) Try.func13 #[.slice Ao7 t7.length co7, .slice Ao13 t13.length co13] ?_; (refine (laws_eqIntS.calls k _ _ t7 _ _ t13 _ _ ?side1 ?side2 ?side3 ?side4 Q12_.out).mono ?_); (case side1 => exact sC ((Kd.R_reads' HX7.out).2.2)); (case side2 => exact (Kd.R_reads' HX7.out).2.1); (case side3 => exact sC ((Kd.R_reads' HX13.out).2.2)); (case side4 => exact (Kd.R_reads' HX13.out).2.1); rintro e w12 ⟨rfl, hd⟩; have hb := drawnB hd; clear hd; refine ⟨_, rfl, ?_⟩; have s12 : w11.heap.size ≤ w12.heap.size := hb.size; replace HX4 := uS HX4 hb; replace HX6 := uS HX6 hb; replace HX7 := uR HX7 hb; replace HX8 := uS HX8 hb; replace HB := uH hb; clear hb; clear HX13)
    | ((with_reducible refine gate_callee (f := 15) rfl ?_); refine gL (some 68) Try.func15 #[.slice Ao6 t6.length co6, .int .i64 1] ?_; (refine (laws_markEntryS.calls k (fun k_ => w4.heap.size ≤ k_ ∧ k_ < w5.heap.size) _ t6 1 _ _ w _ ?side1 ?side2 Q13_.out).mono ?_); (case side1 => exact bQ); (case side2 => exact rS HX6); rintro e w13 ⟨rfl, hy, hb, hkp⟩; refine ⟨_, rfl, ?_⟩; have s13 : w12.heap.size ≤ w13.heap.size := hkp.1; replace HX4 := kS HX4 hkp; replace HX7 := kR HX7 hkp; replace HX8 := kS HX8 hkp; clear HB; have HB := Aside0.mk hb; clear hb hy hkp; clear HX6)
    | ((with_reducible refine gate_callee (f := 16) rfl ?_); refine gL (some 71) Try.func16 #[.slice Ao7 t7.length co7, .int .i64 t15] ?_; (refine (laws_markIntS.calls k (fun k_ => w5.heap.size ≤ k_ ∧ k_ < w6.heap.size) _ t7 t15 _ _ w _ ?side1 ?side2 Q14_.out).mono ?_); (case side1 => exact bQ); (case side2 => exact rR HX7); rintro e w14 ⟨rfl, hy, hb, hkp⟩; refine ⟨_, rfl, ?_⟩; have s14 : w13.heap.size ≤ w14.heap.size := hkp.1; replace HX4 := kS HX4 hkp; replace HX8 := kS HX8 hkp; clear HB; have HB := Aside0.mk hb; clear hb hy hkp; clear HX7)
    | (go_at_call 14; (refine (laws_eqEntryS.calls k _ _ t8 _ _ t4 _ _ ?side1 ?side2 ?side3 ?side4 Q15_.out).mono ?_); (case side1 => exact sC ((Kd.S_reads' HX8.out).2.2)); (case side2 => exact (Kd.S_reads' HX8.out).2.1); (case side3 => exact sC ((Kd.S_reads' HX4.out).2.2)); (case side4 => exact (Kd.S_reads' HX4.out).2.1); rintro e w15 ⟨rfl, hb⟩; have s15 : w14.heap.size ≤ w15.heap.size := hb.size; replace HX4 := uS HX4 hb; replace HX8 := uS HX8 hb; replace HB := uH hb; clear hb)
    | ((with_reducible refine gate_callee (f := 15) rfl ?_); refine gL (some 87) Try.func15 #[.slice Ao8 t8.length co8, .int .i64 1] ?_; (refine (laws_markEntryS.calls k (fun k_ => w6.heap.size ≤ k_ ∧ k_ < w7.heap.size) _ t8 1 _ _ w _ ?side1 ?side2 Q16_.out).mono ?_); (case side1 => exact bQ); (case side2 => exact rS HX8); rintro e w16 ⟨rfl, hy, hb, hkp⟩; refine ⟨_, rfl, ?_⟩; have s16 : w15.heap.size ≤ w16.heap.size := hkp.1; replace HX4 := kS HX4 hkp; replace HX8 := Aside0.mk hy; have hl_ := (Kd.S_reads' HX8.out).1; rw [hl_] at HX8; (try simp only [hl_]); clear hl_; clear HB; have HB := Aside0.mk hb; clear hb hy hkp)
    | ((with_reducible refine gate_callee (f := 21) rfl ?_); refine gL (some 90) Try.func21 #[.slice Ao8 t21.length co8, .int .i64 1] ?_; (refine (laws_heldEntryS.calls k _ _ t21 1 _ _ ?side1 ?side2 Q17_.out).mono ?_); (case side1 => exact sC ((Kd.S_reads' HX8.out).2.2)); (case side2 => exact (Kd.S_reads' HX8.out).2.1); rintro e w17 ⟨rfl, hd⟩; have hb := drawnB hd; clear hd; refine ⟨_, rfl, ?_⟩; have s17 : w16.heap.size ≤ w17.heap.size := hb.size; replace HX4 := uS HX4 hb; replace HX8 := uS HX8 hb; replace HB := uH hb; clear hb)
    | ((with_reducible refine gate_callee (f := 11) rfl ?_); refine gL (some 98) Try.func11 #[.slice A0 l0.length c0] ?_; (refine (laws_toEntryS.calls k _ _ l0 _ _ ?side1 ?side2 Q18_.out).mono ?_); (case side1 => exact sC (Kd.C_below HR0.out HB.out)); (case side2 => exact HC0.out); rintro e w18 ⟨v18_0, rfl, ho0, hb⟩; refine ⟨_, rfl, ?_⟩; have s18 : w17.heap.size ≤ w18.heap.size := hb.size; replace HX4 := uS HX4 hb; replace HX8 := uS HX8 hb; have HX23 := Aside0.mk (show Kd.S k47 47 w18 w.heap.size (fun k_ => w17.heap.size ≤ k_ ∧ k_ < w18.heap.size) v18_0 _ from newS ho0 bQ); obtain ⟨Ao23, co23, eo23⟩ := Kd.S_slice HX23.out; subst eo23; replace HB := uH hb; clear hb ho0)
    | ((with_reducible refine gate_callee (f := 19) rfl ?_); refine gL (some 101) Try.func19 #[.slice A2 l2.length c2] ?_; (refine (laws_toIntS.calls k _ _ l2 _ _ ?side1 ?side2 Q19_.out).mono ?_); (case side1 => exact sC (Kd.C_below HR2.out HB.out)); (case side2 => exact HC2.out); rintro e w19 ⟨v19_0, rfl, ho0, hb⟩; refine ⟨_, rfl, ?_⟩; have s19 : w18.heap.size ≤ w19.heap.size := hb.size; replace HX4 := uS HX4 hb; replace HX8 := uS HX8 hb; replace HX23 := uS HX23 hb; have HX24 := Aside0.mk (show Kd.R (Kd.int .i64) 3 w19 w.heap.size (fun k_ => w18.heap.size ≤ k_ ∧ k_ < w19.heap.size) v19_0 _ from newR ho0 bQ); obtain ⟨Ao24, co24, eo24⟩ := Kd.R_slice HX24.out; subst eo24; replace HB := uH hb; clear hb ho0)
    | ((with_reducible refine gate_callee (f := 23) rfl ?_); refine gL (some 102) Try.func23 #[.slice Ao23 t23.length co23, .int .i64 a1, .slice Ao24 t24.length co24] ?_; (refine (impl_NoteLights.calls k _ _ t23 a1 _ _ t24 _ _ _ ?side1 ?side2 ?side3 ?side4 Q20_.out).mono ?_); (case side1 => exact sC ((Kd.S_reads' HX23.out).2.2)); (case side2 => exact (Kd.S_reads' HX23.out).2.1); (case side3 => exact sC ((Kd.R_reads' HX24.out).2.2)); (case side4 => exact (Kd.R_reads' HX24.out).2.1); rintro e w20 ⟨v20_0, rfl, ho0, hb⟩; refine ⟨_, rfl, ?_⟩; have s20 : w19.heap.size ≤ w20.heap.size := hb.size; replace HX4 := uS HX4 hb; replace HX8 := uS HX8 hb; have HX25 := Aside0.mk (show Kd.S k47 47 w20 w.heap.size (fun k_ => w19.heap.size ≤ k_ ∧ k_ < w20.heap.size) v20_0 _ from newS ho0 bQ); obtain ⟨Ao25, co25, eo25⟩ := Kd.S_slice HX25.out; subst eo25; replace HB := uH hb; clear hb ho0; clear HX23; clear HX24)
    | ((with_reducible refine gate_callee (f := 14) rfl ?_); refine gL (some 107) Try.func14 #[.slice Ao25 t25.length co25, .slice Ao4 t4.length co4] ?_; (refine (laws_eqEntryS.calls k _ _ t25 _ _ t4 _ _ ?side1 ?side2 ?side3 ?side4 Q21_.out).mono ?_); (case side1 => exact sC ((Kd.S_reads' HX25.out).2.2)); (case side2 => exact (Kd.S_reads' HX25.out).2.1); (case side3 => exact sC ((Kd.S_reads' HX4.out).2.2)); (case side4 => exact (Kd.S_reads' HX4.out).2.1); rintro e w21 ⟨rfl, hb⟩; refine ⟨_, rfl, ?_⟩; have s21 : w20.heap.size ≤ w21.heap.size := hb.size; replace HX8 := uS HX8 hb; replace HB := uH hb; clear hb; clear HX4; clear HX25)
    | ((with_reducible refine gate_callee (f := 21) rfl ?_); refine gL (some 116) Try.func21 #[.slice Ao8 t21.length co8, .int .i64 1] ?_; (refine (laws_heldEntryS.calls k _ _ t21 1 _ _ ?side1 ?side2 Q22_.out).mono ?_); (case side1 => exact sC ((Kd.S_reads' HX8.out).2.2)); (case side2 => exact (Kd.S_reads' HX8.out).2.1); rintro e w22 ⟨rfl, hd⟩; have hb := drawnB hd; clear hd; refine ⟨_, rfl, ?_⟩; have s22 : w21.heap.size ≤ w22.heap.size := hb.size; replace HB := uH hb; clear hb; clear HX8))
  go_ret
  exact ⟨rfl, bQ⟩
end Go.Proofs.Ytmpncnphndafnab.PEnt
