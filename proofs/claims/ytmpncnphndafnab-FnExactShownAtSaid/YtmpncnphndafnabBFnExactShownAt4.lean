/- Go functions that the statement reaches: each printed as a Lean function, with a proof that the Go function comes to its answer; conditions: the bounds that each states. -/
import Derived.Test.YtmpncnphndafnabBFnExactShownAt0
import Derived.Test.YtmpncnphndafnabBFnExactShownAt2
import Derived.Test.YtmpncnphndafnabBFnExactShownAt1
import Derived.Test.YtmpncnphndafnabBFnExactShownAt3
namespace Go.Proofs.Ytmpncnphndafnab.PEnt
open Go.RowKit Go.Proofs.YtmpncnphndafnabW.PrintWords Go.Proofs.YtmpncnphndafnabW.PrintLast Go.Proofs.YtmpncnphndafnabW.PrintMore
attribute [local go_sem] max2_int min2_int max_two min_two max_three min_three max_four min_four   -- for this text's walks alone
set_option linter.unusedVariables false
set_option linter.unusedSimpArgs false
/-! ### laws_FnExactShownAt: function 3 -/
def laws_FnExactShownAt.f (k : Nat) (l0 : List (S69)) (a1 : Int) : Option (Bool) := (laws_szEntryS.f k l0 1048576).bind fun t1 => if t1 < 0 then (some true) else ((laws_toEntryS.f k l0).bind fun t2 => (spec_ShownAt.f k t2 a1).bind fun pt3 => (laws_toEntryS.f k l0).bind fun t5 => (impl_ShownAt.f k t5 a1).bind fun pt6 => (laws_eqIntS.f k pt6.1 pt3.1).bind fun t8 => if t8 = true then (if pt6.2 = pt3.2 then ((laws_toEntryS.f k l0).bind fun t9 => (laws_eqEntryS.f k t5 t9).bind fun t10 => if t10 = true then ((laws_markEntryS.f k t5 1).bind fun pt11 => if pt11.1 < 0 then none else ((laws_eqIntS.f k pt6.1 pt3.1).bind fun t13 => if t13 = true then (if pt6.2 = pt3.2 then ((laws_markIntS.f k pt6.1 1).bind fun pt14 => (laws_heldIntS.f k pt14.2 1).bind fun t16 => if t16 < 0 then none else (if t16 = pt14.1 then ((laws_toEntryS.f k l0).bind fun t17 => (impl_ShownAt.f k t17 a1).bind fun pt18 => (laws_eqIntS.f k pt18.1 pt3.1).bind fun t20 => if t20 = true then (if pt18.2 = pt3.2 then ((laws_heldIntS.f k pt14.2 1).bind fun t21 => if t21 < 0 then none else (if t21 = pt14.1 then (some true) else none)) else none) else none) else none)) else none) else none)) else none) else none) else none)
set_option maxHeartbeats 8000000 in
set_option maxRecDepth 100000 in
theorem laws_FnExactShownAt.calls (k : Nat) (A0 : Option Addr) (c0 : Nat) (l0 : List (S69)) (a1 : Int) (r : Bool) (w : World) (hr0 : Kd.C k69 w A0 l0.length l0) (hc0 : l0.length ≤ c0) (h : laws_FnExactShownAt.f k l0 a1 = some r) :
    Calls Try.prog 3 #[.slice A0 l0.length c0, .int .i64 a1] w fun e w' => e = .returned (.bool r) ∧ Below w.heap.size w w' := by
  have HR0 := Aside0.mk hr0; have HC0 := Aside0.mk hc0; clear hr0 hc0
  have HB := Aside0.mk (Below.refl w.heap.size w)
  have H := h
  unfold laws_FnExactShownAt.f at H
  clear h
  replace H := sQ H; obtain ⟨t1, Q1_, H⟩ := H
  by_cases e1 : t1 < 0
  · rw [if_pos e1] at H
    have e1b : decide (t1 < 0) = true := decide_eq_true e1
    obtain rfl := Option.some.inj H
    go_enter Try.func3, Try.ntmps3
    go_wp2_with (first
      | ((with_reducible refine gate_callee (f := 9) rfl ?_); refine gL (some 18) Try.func9 #[.slice A0 l0.length c0, .int .i64 1048576] ?_; (refine (laws_szEntryS.calls k _ _ l0 1048576 _ _ ?side1 ?side2 Q1_.out).mono ?_); (case side1 => exact sC (Kd.C_below HR0.out HB.out)); (case side2 => exact HC0.out); rintro e w1 ⟨rfl, hb⟩; refine ⟨_, rfl, ?_⟩; have s1 : w.heap.size ≤ w1.heap.size := hb.size; replace HB := uH hb; clear hb))
    go_ret
    exact ⟨rfl, bQ⟩
  rw [if_neg e1] at H
  have e1b : decide (t1 < 0) = false := decide_eq_false e1
  clear e1
  replace H := sQ H; obtain ⟨t2, Q2_, H⟩ := H
  replace H := sQ H; obtain ⟨⟨t3, t4⟩, Q3_, H⟩ := H
  dsimp only at H
  replace H := sQ H; obtain ⟨t5, Q4_, H⟩ := H
  replace H := sQ H; obtain ⟨⟨t6, t7⟩, Q5_, H⟩ := H
  dsimp only at H
  replace H := sQ H; obtain ⟨t8, Q6_, H⟩ := H
  replace H := nP H; obtain ⟨g1, H⟩ := H
  subst g1
  replace H := nP H; obtain ⟨g2, H⟩ := H
  subst t7
  replace H := sQ H; obtain ⟨t9, Q7_, H⟩ := H
  replace H := sQ H; obtain ⟨t10, Q8_, H⟩ := H
  replace H := nP H; obtain ⟨g3, H⟩ := H
  subst g3
  replace H := sQ H; obtain ⟨⟨t11, t12⟩, Q9_, H⟩ := H
  dsimp only at H
  replace H := nN H; obtain ⟨g4, H⟩ := H
  have g4b : decide (t11 < 0) = false := decide_eq_false g4
  clear g4
  replace H := sQ H; obtain ⟨t13, Q10_, H⟩ := H
  replace H := nP H; obtain ⟨g5, H⟩ := H
  subst g5
  replace H := (nP H).2
  replace H := sQ H; obtain ⟨⟨t14, t15⟩, Q11_, H⟩ := H
  dsimp only at H
  replace H := sQ H; obtain ⟨t16, Q12_, H⟩ := H
  replace H := nN H; obtain ⟨g7, H⟩ := H
  have g7b : decide (t16 < 0) = false := decide_eq_false g7
  clear g7
  replace H := nP H; obtain ⟨g8, H⟩ := H
  subst t16
  replace H := sQ H; obtain ⟨t17, Q13_, H⟩ := H
  replace H := sQ H; obtain ⟨⟨t18, t19⟩, Q14_, H⟩ := H
  dsimp only at H
  replace H := sQ H; obtain ⟨t20, Q15_, H⟩ := H
  replace H := nP H; obtain ⟨g9, H⟩ := H
  subst g9
  replace H := nP H; obtain ⟨g10, H⟩ := H
  subst t19
  replace H := sQ H; obtain ⟨t21, Q16_, H⟩ := H
  replace H := nN H; obtain ⟨g11, H⟩ := H
  have g11b : decide (t21 < 0) = false := decide_eq_false g11
  clear g11
  replace H := nP H; obtain ⟨g12, H⟩ := H
  subst t21
  obtain rfl := Option.some.inj H
  go_enter Try.func3, Try.ntmps3
  go_wp2_with (first
    | ((with_reducible refine gate_callee (f := 9) rfl ?_); refine gL (some 18) Try.func9 #[.slice A0 l0.length c0, .int .i64 1048576] ?_; (refine (laws_szEntryS.calls k _ _ l0 1048576 _ _ ?side1 ?side2 Q1_.out).mono ?_); (case side1 => exact sC (Kd.C_below HR0.out HB.out)); (case side2 => exact HC0.out); rintro e w1 ⟨rfl, hb⟩; refine ⟨_, rfl, ?_⟩; have s1 : w.heap.size ≤ w1.heap.size := hb.size; replace HB := uH hb; clear hb)
    | ((with_reducible refine gate_callee (f := 11) rfl ?_); refine gL (some 23) Try.func11 #[.slice A0 l0.length c0] ?_; (refine (laws_toEntryS.calls k _ _ l0 _ _ ?side1 ?side2 Q2_.out).mono ?_); (case side1 => exact sC (Kd.C_below HR0.out HB.out)); (case side2 => exact HC0.out); rintro e w2 ⟨v2_0, rfl, ho0, hb⟩; refine ⟨_, rfl, ?_⟩; have s2 : w1.heap.size ≤ w2.heap.size := hb.size; have HX2 := Aside0.mk (show Kd.S k47 47 w2 w.heap.size (fun k_ => w1.heap.size ≤ k_ ∧ k_ < w2.heap.size) v2_0 _ from newS ho0 bQ); obtain ⟨Ao2, co2, eo2⟩ := Kd.S_slice HX2.out; subst eo2; replace HB := uH hb; clear hb ho0)
    | ((with_reducible refine gate_callee (f := 10) rfl ?_); refine gL (some 25) Try.func10 #[.slice Ao2 t2.length co2, .int .i64 a1] ?_; (refine (spec_ShownAt.calls k _ _ t2 a1 _ _ _ ?side1 ?side2 Q3_.out).mono ?_); (case side1 => exact sC ((Kd.S_reads' HX2.out).2.2)); (case side2 => exact (Kd.S_reads' HX2.out).2.1); rintro e w3 ⟨v3_0, rfl, ho0, hb⟩; refine ⟨_, rfl, ?_⟩; have s3 : w2.heap.size ≤ w3.heap.size := hb.size; have HX3 := Aside0.mk (show Kd.R (Kd.int .i64) 3 w3 w.heap.size (fun k_ => w2.heap.size ≤ k_ ∧ k_ < w3.heap.size) v3_0 _ from newR ho0 bQ); obtain ⟨Ao3, co3, eo3⟩ := Kd.R_slice HX3.out; subst eo3; replace HB := uH hb; clear hb ho0; clear HX2)
    | ((with_reducible refine gate_callee (f := 11) rfl ?_); refine gL (some 29) Try.func11 #[.slice A0 l0.length c0] ?_; (refine (laws_toEntryS.calls k _ _ l0 _ _ ?side1 ?side2 Q4_.out).mono ?_); (case side1 => exact sC (Kd.C_below HR0.out HB.out)); (case side2 => exact HC0.out); rintro e w4 ⟨v4_0, rfl, ho0, hb⟩; refine ⟨_, rfl, ?_⟩; have s4 : w3.heap.size ≤ w4.heap.size := hb.size; replace HX3 := uR HX3 hb; have HX5 := Aside0.mk (show Kd.S k47 47 w4 w.heap.size (fun k_ => w3.heap.size ≤ k_ ∧ k_ < w4.heap.size) v4_0 _ from newS ho0 bQ); obtain ⟨Ao5, co5, eo5⟩ := Kd.S_slice HX5.out; subst eo5; replace HB := uH hb; clear hb ho0)
    | ((with_reducible refine gate_callee (f := 12) rfl ?_); refine gL (some 33) Try.func12 #[.slice Ao5 t5.length co5, .int .i64 a1] ?_; (refine (impl_ShownAt.calls k _ _ t5 a1 _ _ _ ?side1 ?side2 Q5_.out).mono ?_); (case side1 => exact sC ((Kd.S_reads' HX5.out).2.2)); (case side2 => exact (Kd.S_reads' HX5.out).2.1); rintro e w5 ⟨v5_0, rfl, ho0, hb⟩; refine ⟨_, rfl, ?_⟩; have s5 : w4.heap.size ≤ w5.heap.size := hb.size; replace HX3 := uR HX3 hb; replace HX5 := uS HX5 hb; have HX6 := Aside0.mk (show Kd.R (Kd.int .i64) 3 w5 w.heap.size (fun k_ => w4.heap.size ≤ k_ ∧ k_ < w5.heap.size) v5_0 _ from newR ho0 bQ); obtain ⟨Ao6, co6, eo6⟩ := Kd.R_slice HX6.out; subst eo6; replace HB := uH hb; clear hb ho0)
    | ((with_reducible refine gate_callee (f := 13) rfl ?_); refine gL (some 38) Try.func13 #[.slice Ao6 t6.length co6, .slice Ao3 t3.length co3] ?_; (refine (laws_eqIntS.calls k _ _ t6 _ _ t3 _ _ ?side1 ?side2 ?side3 ?side4 Q6_.out).mono ?_); (case side1 => exact sC ((Kd.R_reads' HX6.out).2.2)); (case side2 => exact (Kd.R_reads' HX6.out).2.1); (case side3 => exact sC ((Kd.R_reads' HX3.out).2.2)); (case side4 => exact (Kd.R_reads' HX3.out).2.1); rintro e w6 ⟨rfl, hd⟩; have hb := drawnB hd; clear hd; refine ⟨_, rfl, ?_⟩; have s6 : w5.heap.size ≤ w6.heap.size := hb.size; replace HX3 := uR HX3 hb; replace HX5 := uS HX5 hb; replace HX6 := uR HX6 hb; replace HB := uH hb; clear hb)
    | ((with_reducible refine gate_callee (f := 11) rfl ?_); refine gL (some 47) Try.func11 #[.slice A0 l0.length c0] ?_; (refine (laws_toEntryS.calls k _ _ l0 _ _ ?side1 ?side2 Q7_.out).mono ?_); (case side1 => exact sC (Kd.C_below HR0.out HB.out)); (case side2 => exact HC0.out); rintro e w7 ⟨v7_0, rfl, ho0, hb⟩; refine ⟨_, rfl, ?_⟩; have s7 : w6.heap.size ≤ w7.heap.size := hb.size; replace HX3 := uR HX3 hb; replace HX5 := uS HX5 hb; replace HX6 := uR HX6 hb; have HX9 := Aside0.mk (show Kd.S k47 47 w7 w.heap.size (fun k_ => w6.heap.size ≤ k_ ∧ k_ < w7.heap.size) v7_0 _ from newS ho0 bQ); obtain ⟨Ao9, co9, eo9⟩ := Kd.S_slice HX9.out; subst eo9; replace HB := uH hb; clear hb ho0)
    | ((with_reducible refine gate_callee (f := 14) rfl ?_); refine gL (some 48) Try.func14 #[.slice Ao5 t5.length co5, .slice Ao9 t9.length co9] ?_; (refine (laws_eqEntryS.calls k _ _ t5 _ _ t9 _ _ ?side1 ?side2 ?side3 ?side4 Q8_.out).mono ?_); (case side1 => exact sC ((Kd.S_reads' HX5.out).2.2)); (case side2 => exact (Kd.S_reads' HX5.out).2.1); (case side3 => exact sC ((Kd.S_reads' HX9.out).2.2)); (case side4 => exact (Kd.S_reads' HX9.out).2.1); rintro e w8 ⟨rfl, hb⟩; refine ⟨_, rfl, ?_⟩; have s8 : w7.heap.size ≤ w8.heap.size := hb.size; replace HX3 := uR HX3 hb; replace HX5 := uS HX5 hb; replace HX6 := uR HX6 hb; replace HB := uH hb; clear hb; clear HX9)
    | ((with_reducible refine gate_callee (f := 15) rfl ?_); refine gL (some 52) Try.func15 #[.slice Ao5 t5.length co5, .int .i64 1] ?_; (refine (laws_markEntryS.calls k (fun k_ => w3.heap.size ≤ k_ ∧ k_ < w4.heap.size) _ t5 1 _ _ w _ ?side1 ?side2 Q9_.out).mono ?_); (case side1 => exact bQ); (case side2 => exact rS HX5); rintro e w9 ⟨rfl, hy, hb, hkp⟩; refine ⟨_, rfl, ?_⟩; have s9 : w8.heap.size ≤ w9.heap.size := hkp.1; replace HX3 := kR HX3 hkp; replace HX6 := kR HX6 hkp; clear HB; have HB := Aside0.mk hb; clear hb hy hkp; clear HX5)
    | (go_at_call 13; (refine (laws_eqIntS.calls k _ _ t6 _ _ t3 _ _ ?side1 ?side2 ?side3 ?side4 Q10_.out).mono ?_); (case side1 => exact sC ((Kd.R_reads' HX6.out).2.2)); (case side2 => exact (Kd.R_reads' HX6.out).2.1); (case side3 => exact sC ((Kd.R_reads' HX3.out).2.2)); (case side4 => exact (Kd.R_reads' HX3.out).2.1); rintro e w10 ⟨rfl, hd⟩; have hb := drawnB hd; clear hd; have s10 : w9.heap.size ≤ w10.heap.size := hb.size; replace HX3 := uR HX3 hb; replace HX6 := uR HX6 hb; replace HB := uH hb; clear hb)
    | ((with_reducible refine gate_callee (f := 16) rfl ?_); refine gL (some 68) Try.func16 #[.slice Ao6 t6.length co6, .int .i64 1] ?_; (refine (laws_markIntS.calls k (fun k_ => w4.heap.size ≤ k_ ∧ k_ < w5.heap.size) _ t6 1 _ _ w _ ?side1 ?side2 Q11_.out).mono ?_); (case side1 => exact bQ); (case side2 => exact rR HX6); rintro e w11 ⟨rfl, hy, hb, hkp⟩; refine ⟨_, rfl, ?_⟩; have s11 : w10.heap.size ≤ w11.heap.size := hkp.1; replace HX3 := kR HX3 hkp; replace HX6 := Aside0.mk (Kd.R_mono (ok' := fun _ => True) hy (fun _ _ => trivial)); have hl_ := (Kd.R_reads' HX6.out).1; rw [hl_] at HX6; (try simp only [hl_]); clear hl_; clear HB; have HB := Aside0.mk hb; clear hb hy hkp)
    | ((with_reducible refine gate_callee (f := 17) rfl ?_); refine gL (some 71) Try.func17 #[.slice Ao6 t15.length co6, .int .i64 1] ?_; (refine (laws_heldIntS.calls k _ _ t15 1 _ _ ?side1 ?side2 Q12_.out).mono ?_); (case side1 => exact sC ((Kd.R_reads' HX6.out).2.2)); (case side2 => exact (Kd.R_reads' HX6.out).2.1); rintro e w12 ⟨rfl, hd⟩; have hb := drawnB hd; clear hd; refine ⟨_, rfl, ?_⟩; have s12 : w11.heap.size ≤ w12.heap.size := hb.size; replace HX3 := uR HX3 hb; replace HX6 := uR HX6 hb; replace HB := uH hb; clear hb)
    | ((with_reducible refine gate_callee (f := 11) rfl ?_); refine gL (some 79) Try.func11 #[.slice A0 l0.length c0] ?_; (refine (laws_toEntryS.calls k _ _ l0 _ _ ?side1 ?side2 Q13_.out).mono ?_); (case side1 => exact sC (Kd.C_below HR0.out HB.out)); (case side2 => exact HC0.out); rintro e w13 ⟨v13_0, rfl, ho0, hb⟩; refine ⟨_, rfl, ?_⟩; have s13 : w12.heap.size ≤ w13.heap.size := hb.size; replace HX3 := uR HX3 hb; replace HX6 := uR HX6 hb; have HX17 := Aside0.mk (show Kd.S k47 47 w13 w.heap.size (fun k_ => w12.heap.size ≤ k_ ∧ k_ < w13.heap.size) v13_0 _ from newS ho0 bQ); obtain ⟨Ao17, co17, eo17⟩ := Kd.S_slice HX17.out; subst eo17; replace HB := uH hb; clear hb ho0)
    | ((with_reducible refine gate_callee (f := 12) rfl ?_); refine gL (some 81) Try.func12 #[.slice Ao17 t17.length co17, .int .i64 a1] ?_; (refine (impl_ShownAt.calls k _ _ t17 a1 _ _ _ ?side1 ?side2 Q14_.out).mono ?_); (case side1 => exact sC ((Kd.S_reads' HX17.out).2.2)); (case side2 => exact (Kd.S_reads' HX17.out).2.1); rintro e w14 ⟨v14_0, rfl, ho0, hb⟩; refine ⟨_, rfl, ?_⟩; have s14 : w13.heap.size ≤ w14.heap.size := hb.size; replace HX3 := uR HX3 hb; replace HX6 := uR HX6 hb; have HX18 := Aside0.mk (show Kd.R (Kd.int .i64) 3 w14 w.heap.size (fun k_ => w13.heap.size ≤ k_ ∧ k_ < w14.heap.size) v14_0 _ from newR ho0 bQ); obtain ⟨Ao18, co18, eo18⟩ := Kd.R_slice HX18.out; subst eo18; replace HB := uH hb; clear hb ho0; clear HX17)
    | ((with_reducible refine gate_callee (f := 13) rfl ?_); refine gL (some 86) Try.func13 #[.slice Ao18 t18.length co18, .slice Ao3 t3.length co3] ?_; (refine (laws_eqIntS.calls k _ _ t18 _ _ t3 _ _ ?side1 ?side2 ?side3 ?side4 Q15_.out).mono ?_); (case side1 => exact sC ((Kd.R_reads' HX18.out).2.2)); (case side2 => exact (Kd.R_reads' HX18.out).2.1); (case side3 => exact sC ((Kd.R_reads' HX3.out).2.2)); (case side4 => exact (Kd.R_reads' HX3.out).2.1); rintro e w15 ⟨rfl, hd⟩; have hb := drawnB hd; clear hd; refine ⟨_, rfl, ?_⟩; have s15 : w14.heap.size ≤ w15.heap.size := hb.size; replace HX6 := uR HX6 hb; replace HB := uH hb; clear hb; clear HX3; clear HX18)
    | ((with_reducible refine gate_callee (f := 17) rfl ?_); refine gL (some 95) Try.func17 #[.slice Ao6 t15.length co6, .int .i64 1] ?_; (refine (laws_heldIntS.calls k _ _ t15 1 _ _ ?side1 ?side2 Q16_.out).mono ?_); (case side1 => exact sC ((Kd.R_reads' HX6.out).2.2)); (case side2 => exact (Kd.R_reads' HX6.out).2.1); rintro e w16 ⟨rfl, hd⟩; have hb := drawnB hd; clear hd; refine ⟨_, rfl, ?_⟩; have s16 : w15.heap.size ≤ w16.heap.size := hb.size; replace HB := uH hb; clear hb; clear HX6))
  go_ret
  exact ⟨rfl, bQ⟩
end Go.Proofs.Ytmpncnphndafnab.PEnt
