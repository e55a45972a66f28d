/- Go functions that the statement reaches: each printed as a Lean function, with a proof that the Go function comes to its answer; conditions: the bounds that each states. -/
import Derived.Test.YtjcmngplpihbpaaBFnExactShownBetween0
import Derived.Test.YtjcmngplpihbpaaBFnExactShownBetween3
import Derived.Test.YtjcmngplpihbpaaBFnExactShownBetween1
import Derived.Test.YtjcmngplpihbpaaBFnExactShownBetween5
namespace Go.Proofs.Ytjcmngplpihbpaa.PWit
open Go.RowKit Go.Proofs.YtjcmngplpihbpaaW.PrintWords Go.Proofs.YtjcmngplpihbpaaW.PrintLast Go.Proofs.YtjcmngplpihbpaaW.PrintMore
attribute [local go_sem] max2_int min2_int max_two min_two max_three min_three max_four min_four   -- for this text's walks alone
set_option linter.unusedVariables false
set_option linter.unusedSimpArgs false
/-! ### laws_FnExactShownBetween: function 3 -/
def laws_FnExactShownBetween.f (k : Nat) (l0 : List (S53)) (a1 : Int) (a2 : Int) (a3 : Int) : Option (Bool) := (laws_szEntryS.f k l0 1048576).bind fun t1 => if t1 < 0 then (some true) else ((laws_toEntryS.f k l0).bind fun t2 => (spec_ShownBetween.f k t2 a1 a2 a3).bind fun t3 => (laws_toEntryS.f k l0).bind fun t4 => (impl_ShownBetween.f k t4 a1 a2 a3).bind fun t5 => (laws_eqIntS.f k t5 t3).bind fun t6 => if t6 = true then ((laws_toEntryS.f k l0).bind fun t7 => (laws_eqEntryS.f k t4 t7).bind fun t8 => if t8 = true then ((laws_markEntryS.f k t4 1).bind fun pt9 => if pt9.1 < 0 then none else ((laws_eqIntS.f k t5 t3).bind fun t11 => if t11 = true then ((laws_markIntS.f k t5 1).bind fun pt12 => (laws_heldIntS.f k pt12.2 1).bind fun t14 => if t14 < 0 then none else (if t14 = pt12.1 then ((laws_toEntryS.f k l0).bind fun t15 => (impl_ShownBetween.f k t15 a1 a2 a3).bind fun t16 => (laws_eqIntS.f k t16 t3).bind fun t17 => if t17 = true then ((laws_heldIntS.f k pt12.2 1).bind fun t18 => if t18 < 0 then none else (if t18 = pt12.1 then (some true) else none)) else none) else none)) else none)) else none) else none)
set_option maxHeartbeats 8000000 in
set_option maxRecDepth 100000 in
theorem laws_FnExactShownBetween.calls (k : Nat) (A0 : Option Addr) (c0 : Nat) (l0 : List (S53)) (a1 : Int) (a2 : Int) (a3 : Int) (r : Bool) (w : World) (hr0 : Kd.C k53 w A0 l0.length l0) (hc0 : l0.length ≤ c0) (h : laws_FnExactShownBetween.f k l0 a1 a2 a3 = some r) :
    Calls Try.prog 3 #[.slice A0 l0.length c0, .int .i64 a1, .int .i64 a2, .int .i64 a3] w fun e w' => e = .returned (.bool r) ∧ Below w.heap.size w w' := by
  have HR0 := Aside0.mk hr0; have HC0 := Aside0.mk hc0; clear hr0 hc0
  have HB := Aside0.mk (Below.refl w.heap.size w)
  have H := h
  unfold laws_FnExactShownBetween.f at H
  clear h
  replace H := sQ H; obtain ⟨t1, Q1_, H⟩ := H
  by_cases e1 : t1 < 0
  · rw [if_pos e1] at H
    have e1b : decide (t1 < 0) = true := decide_eq_true e1
    obtain rfl := Option.some.inj H
    go_enter Try.func3, Try.ntmps3
    go_wp2_with (first
      | ((with_reducible refine gate_callee (f := 5) rfl ?_); refine gL (some 19) Try.func5 #[.slice A0 l0.length c0, .int .i64 1048576] ?_; (refine (laws_szEntryS.calls k _ _ l0 1048576 _ _ ?side1 ?side2 Q1_.out).mono ?_); (case side1 => exact sC (Kd.C_below HR0.out HB.out)); (case side2 => exact HC0.out); rintro e w1 ⟨rfl, hb⟩; refine ⟨_, rfl, ?_⟩; have s1 : w.heap.size ≤ w1.heap.size := hb.size; replace HB := uH hb; clear hb))
    go_ret
    exact ⟨rfl, bQ⟩
  rw [if_neg e1] at H
  have e1b : decide (t1 < 0) = false := decide_eq_false e1
  clear e1
  replace H := sQ H; obtain ⟨t2, Q2_, H⟩ := H
  replace H := sQ H; obtain ⟨t3, Q3_, H⟩ := H
  replace H := sQ H; obtain ⟨t4, Q4_, H⟩ := H
  replace H := sQ H; obtain ⟨t5, Q5_, H⟩ := H
  replace H := sQ H; obtain ⟨t6, Q6_, H⟩ := H
  replace H := nP H; obtain ⟨g1, H⟩ := H
  subst g1
  replace H := sQ H; obtain ⟨t7, Q7_, H⟩ := H
  replace H := sQ H; obtain ⟨t8, Q8_, H⟩ := H
  replace H := nP H; obtain ⟨g2, H⟩ := H
  subst g2
  replace H := sQ H; obtain ⟨⟨t9, t10⟩, Q9_, H⟩ := H
  dsimp only at H
  replace H := nN H; obtain ⟨g3, H⟩ := H
  have g3b : decide (t9 < 0) = false := decide_eq_false g3
  clear g3
  replace H := sQ H; obtain ⟨t11, Q10_, H⟩ := H
  replace H := nP H; obtain ⟨g4, H⟩ := H
  subst g4
  replace H := sQ H; obtain ⟨⟨t12, t13⟩, Q11_, H⟩ := H
  dsimp only at H
  replace H := sQ H; obtain ⟨t14, Q12_, H⟩ := H
  replace H := nN H; obtain ⟨g5, H⟩ := H
  have g5b : decide (t14 < 0) = false := decide_eq_false g5
  clear g5
  replace H := nP H; obtain ⟨g6, H⟩ := H
  subst t14
  replace H := sQ H; obtain ⟨t15, Q13_, H⟩ := H
  replace H := sQ H; obtain ⟨t16, Q14_, H⟩ := H
  replace H := sQ H; obtain ⟨t17, Q15_, H⟩ := H
  replace H := nP H; obtain ⟨g7, H⟩ := H
  subst g7
  replace H := sQ H; obtain ⟨t18, Q16_, H⟩ := H
  replace H := nN H; obtain ⟨g8, H⟩ := H
  have g8b : decide (t18 < 0) = false := decide_eq_false g8
  clear g8
  replace H := nP H; obtain ⟨g9, H⟩ := H
  subst t18
  obtain rfl := Option.some.inj H
  go_enter Try.func3, Try.ntmps3
  go_wp2_with (first
    | ((with_reducible refine gate_callee (f := 5) rfl ?_); refine gL (some 19) Try.func5 #[.slice A0 l0.length c0, .int .i64 1048576] ?_; (refine (laws_szEntryS.calls k _ _ l0 1048576 _ _ ?side1 ?side2 Q1_.out).mono ?_); (case side1 => exact sC (Kd.C_below HR0.out HB.out)); (case side2 => exact HC0.out); rintro e w1 ⟨rfl, hb⟩; refine ⟨_, rfl, ?_⟩; have s1 : w.heap.size ≤ w1.heap.size := hb.size; replace HB := uH hb; clear hb)
    | ((with_reducible refine gate_callee (f := 7) rfl ?_); refine gL (some 23) Try.func7 #[.slice A0 l0.length c0] ?_; (refine (laws_toEntryS.calls k _ _ l0 _ _ ?side1 ?side2 Q2_.out).mono ?_); (case side1 => exact sC (Kd.C_below HR0.out HB.out)); (case side2 => exact HC0.out); rintro e w2 ⟨v2_0, rfl, ho0, hb⟩; refine ⟨_, rfl, ?_⟩; have s2 : w1.heap.size ≤ w2.heap.size := hb.size; have HX2 := Aside0.mk (show Kd.S k55 55 w2 w.heap.size (fun k_ => w1.heap.size ≤ k_ ∧ k_ < w2.heap.size) v2_0 _ from newS ho0 bQ); obtain ⟨Ao2, co2, eo2⟩ := Kd.S_slice HX2.out; subst eo2; replace HB := uH hb; clear hb ho0)
    | ((with_reducible refine gate_callee (f := 6) rfl ?_); refine gL (some 27) Try.func6 #[.slice Ao2 t2.length co2, .int .i64 a1, .int .i64 a2, .int .i64 a3] ?_; (refine (spec_ShownBetween.calls k _ _ t2 a1 a2 a3 _ _ ?side1 ?side2 Q3_.out).mono ?_); (case side1 => exact sC ((Kd.S_reads' HX2.out).2.2)); (case side2 => exact (Kd.S_reads' HX2.out).2.1); rintro e w3 ⟨v3_0, rfl, ho0, hb⟩; refine ⟨_, rfl, ?_⟩; have s3 : w2.heap.size ≤ w3.heap.size := hb.size; have HX3 := Aside0.mk (show Kd.R (Kd.int .i64) 3 w3 w.heap.size (fun k_ => w2.heap.size ≤ k_ ∧ k_ < w3.heap.size) v3_0 _ from newR ho0 bQ); obtain ⟨Ao3, co3, eo3⟩ := Kd.R_slice HX3.out; subst eo3; replace HB := uH hb; clear hb ho0; clear HX2)
    | ((with_reducible refine gate_callee (f := 7) rfl ?_); refine gL (some 29) Try.func7 #[.slice A0 l0.length c0] ?_; (refine (laws_toEntryS.calls k _ _ l0 _ _ ?side1 ?side2 Q4_.out).mono ?_); (case side1 => exact sC (Kd.C_below HR0.out HB.out)); (case side2 => exact HC0.out); rintro e w4 ⟨v4_0, rfl, ho0, hb⟩; refine ⟨_, rfl, ?_⟩; have s4 : w3.heap.size ≤ w4.heap.size := hb.size; replace HX3 := uR HX3 hb; have HX4 := Aside0.mk (show Kd.S k55 55 w4 w.heap.size (fun k_ => w3.heap.size ≤ k_ ∧ k_ < w4.heap.size) v4_0 _ from newS ho0 bQ); obtain ⟨Ao4, co4, eo4⟩ := Kd.S_slice HX4.out; subst eo4; replace HB := uH hb; clear hb ho0)
    | ((with_reducible refine gate_callee (f := 8) rfl ?_); refine gL (some 34) Try.func8 #[.slice Ao4 t4.length co4, .int .i64 a1, .int .i64 a2, .int .i64 a3] ?_; (refine (impl_ShownBetween.calls k _ _ t4 a1 a2 a3 _ _ ?side1 ?side2 Q5_.out).mono ?_); (case side1 => exact sC ((Kd.S_reads' HX4.out).2.2)); (case side2 => exact (Kd.S_reads' HX4.out).2.1); rintro e w5 ⟨v5_0, rfl, ho0, hb⟩; refine ⟨_, rfl, ?_⟩; have s5 : w4.heap.size ≤ w5.heap.size := hb.size; replace HX3 := uR HX3 hb; replace HX4 := uS HX4 hb; have HX5 := Aside0.mk (show Kd.R (Kd.int .i64) 3 w5 w.heap.size (fun k_ => w4.heap.size ≤ k_ ∧ k_ < w5.heap.size) v5_0 _ from newR ho0 bQ); obtain ⟨Ao5, co5, eo5⟩ := Kd.R_slice HX5.out; subst eo5; replace HB := uH hb; clear hb ho0)
    | ((with_reducible refine gate_callee (f := 9) rfl ?_); refine gL (some 37) Try.func9 #[.slice Ao5 t5.length co5, .slice Ao3 t3.length co3] ?_; (refine (laws_eqIntS.calls k _ _ t5 _ _ t3 _ _ ?side1 ?side2 ?side3 ?side4 Q6_.out).mono ?_); (case side1 => exact sC ((Kd.R_reads' HX5.out).2.2)); (case side2 => exact (Kd.R_reads' HX5.out).2.1); (case side3 => exact sC ((Kd.R_reads' HX3.out).2.2)); (case side4 => exact (Kd.R_reads' HX3.out).2.1); rintro e w6 ⟨rfl, hd⟩; have hb := drawnB hd; clear hd; refine ⟨_, rfl, ?_⟩; have s6 : w5.heap.size ≤ w6.heap.size := hb.size; replace HX3 := uR HX3 hb; replace HX4 := uS HX4 hb; replace HX5 := uR HX5 hb; replace HB := uH hb; clear hb)
    | ((with_reducible refine gate_callee (f := 7) rfl ?_); refine gL (some 41) Try.func7 #[.slice A0 l0.length c0] ?_; (refine (laws_toEntryS.calls k _ _ l0 _ _ ?side1 ?side2 Q7_.out).mono ?_); (case side1 => exact sC (Kd.C_below HR0.out HB.out)); (case side2 => exact HC0.out); rintro e w7 ⟨v7_0, rfl, ho0, hb⟩; refine ⟨_, rfl, ?_⟩; have s7 : w6.heap.size ≤ w7.heap.size := hb.size; replace HX3 := uR HX3 hb; replace HX4 := uS HX4 hb; replace HX5 := uR HX5 hb; have HX7 := Aside0.mk (show Kd.S k55 55 w7 w.heap.size (fun k_ => w6.heap.size ≤ k_ ∧ k_ < w7.heap.size) v7_0 _ from newS ho0 bQ); obtain ⟨Ao7, co7, eo7⟩ := Kd.S_slice HX7.out; subst eo7; replace HB := uH hb; clear hb ho0)
    | ((with_reducible refine gate_callee (f := 10) rfl ?_); refine gL (some 42) Try.func10 #[.slice Ao4 t4.length co4, .slice Ao7 t7.length co7] ?_; (refine (laws_eqEntryS.calls k _ _ t4 _ _ t7 _ _ ?side1 ?side2 ?side3 ?side4 Q8_.out).mono ?_); (case side1 => exact sC ((Kd.S_reads' HX4.out).2.2)); (case side2 => exact (Kd.S_reads' HX4.out).2.1); (case side3 => exact sC ((Kd.S_reads' HX7.out).2.2)); (case side4 => exact (Kd.S_reads' HX7.out).2.1); rintro e w8 ⟨rfl, hb⟩; refine ⟨_, rfl, ?_⟩; have s8 : w7.heap.size ≤ w8.heap.size := hb.size; replace HX3 := uR HX3 hb; replace HX4 := uS HX4 hb; replace HX5 := uR HX5 hb; replace HB := uH hb; clear hb; clear HX7)
    | ((with_reducible refine gate_callee (f := 11) rfl ?_); refine gL (some 46) Try.func11 #[.slice Ao4 t4.length co4, .int .i64 1] ?_; (refine (laws_markEntryS.calls k (fun k_ => w3.heap.size ≤ k_ ∧ k_ < w4.heap.size) _ t4 1 _ _ w _ ?side1 ?side2 Q9_.out).mono ?_); (case side1 => exact bQ); (case side2 => exact rS HX4); rintro e w9 ⟨rfl, hy, hb, hkp⟩; refine ⟨_, rfl, ?_⟩; have s9 : w8.heap.size ≤ w9.heap.size := hkp.1; replace HX3 := kR HX3 hkp; replace HX5 := kR HX5 hkp; clear HB; have HB := Aside0.mk hb; clear hb hy hkp; clear HX4)
    | (go_at_call 9; (refine (laws_eqIntS.calls k _ _ t5 _ _ t3 _ _ ?side1 ?side2 ?side3 ?side4 Q10_.out).mono ?_); (case side1 => exact sC ((Kd.R_reads' HX5.out).2.2)); (case side2 => exact (Kd.R_reads' HX5.out).2.1); (case side3 => exact sC ((Kd.R_reads' HX3.out).2.2)); (case side4 => exact (Kd.R_reads' HX3.out).2.1); rintro e w10 ⟨rfl, hd⟩; have hb := drawnB hd; clear hd; have s10 : w9.heap.size ≤ w10.heap.size := hb.size; replace HX3 := uR HX3 hb; replace HX5 := uR HX5 hb; replace HB := uH hb; clear hb)
    | ((with_reducible refine gate_callee (f := 12) rfl ?_); refine gL (some 57) Try.func12 #[.slice Ao5 t5.length co5, .int .i64 1] ?_; (refine (laws_markIntS.calls k (fun k_ => w4.heap.size ≤ k_ ∧ k_ < w5.heap.size) _ t5 1 _ _ w _ ?side1 ?side2 Q11_.out).mono ?_); (case side1 => exact bQ); (case side2 => exact rR HX5); rintro e w11 ⟨rfl, hy, hb, hkp⟩; refine ⟨_, rfl, ?_⟩; have s11 : w10.heap.size ≤ w11.heap.size := hkp.1; replace HX3 := kR HX3 hkp; replace HX5 := Aside0.mk (Kd.R_mono (ok' := fun _ => True) hy (fun _ _ => trivial)); have hl_ := (Kd.R_reads' HX5.out).1; rw [hl_] at HX5; (try simp only [hl_]); clear hl_; clear HB; have HB := Aside0.mk hb; clear hb hy hkp)
    | ((with_reducible refine gate_callee (f := 13) rfl ?_); refine gL (some 60) Try.func13 #[.slice Ao5 t13.length co5, .int .i64 1] ?_; (refine (laws_heldIntS.calls k _ _ t13 1 _ _ ?side1 ?side2 Q12_.out).mono ?_); (case side1 => exact sC ((Kd.R_reads' HX5.out).2.2)); (case side2 => exact (Kd.R_reads' HX5.out).2.1); rintro e w12 ⟨rfl, hd⟩; have hb := drawnB hd; clear hd; refine ⟨_, rfl, ?_⟩; have s12 : w11.heap.size ≤ w12.heap.size := hb.size; replace HX3 := uR HX3 hb; replace HX5 := uR HX5 hb; replace HB := uH hb; clear hb)
    | ((with_reducible refine gate_callee (f := 7) rfl ?_); refine gL (some 67) Try.func7 #[.slice A0 l0.length c0] ?_; (refine (laws_toEntryS.calls k _ _ l0 _ _ ?side1 ?side2 Q13_.out).mono ?_); (case side1 => exact sC (Kd.C_below HR0.out HB.out)); (case side2 => exact HC0.out); rintro e w13 ⟨v13_0, rfl, ho0, hb⟩; refine ⟨_, rfl, ?_⟩; have s13 : w12.heap.size ≤ w13.heap.size := hb.size; replace HX3 := uR HX3 hb; replace HX5 := uR HX5 hb; have HX15 := Aside0.mk (show Kd.S k55 55 w13 w.heap.size (fun k_ => w12.heap.size ≤ k_ ∧ k_ < w13.heap.size) v13_0 _ from newS ho0 bQ); obtain ⟨Ao15, co15, eo15⟩ := Kd.S_slice HX15.out; subst eo15; replace HB := uH hb; clear hb ho0)
    | ((with_reducible refine gate_callee (f := 8) rfl ?_); refine gL (some 71) Try.func8 #[.slice Ao15 t15.length co15, .int .i64 a1, .int .i64 a2, .int .i64 a3] ?_; (refine (impl_ShownBetween.calls k _ _ t15 a1 a2 a3 _ _ ?side1 ?side2 Q14_.out).mono ?_); (case side1 => exact sC ((Kd.S_reads' HX15.out).2.2)); (case side2 => exact (Kd.S_reads' HX15.out).2.1); rintro e w14 ⟨v14_0, rfl, ho0, hb⟩; refine ⟨_, rfl, ?_⟩; have s14 : w13.heap.size ≤ w14.heap.size := hb.size; replace HX3 := uR HX3 hb; replace HX5 := uR HX5 hb; have HX16 := Aside0.mk (show Kd.R (Kd.int .i64) 3 w14 w.heap.size (fun k_ => w13.heap.size ≤ k_ ∧ k_ < w14.heap.size) v14_0 _ from newR ho0 bQ); obtain ⟨Ao16, co16, eo16⟩ := Kd.R_slice HX16.out; subst eo16; replace HB := uH hb; clear hb ho0; clear HX15)
    | ((with_reducible refine gate_callee (f := 9) rfl ?_); refine gL (some 74) Try.func9 #[.slice Ao16 t16.length co16, .slice Ao3 t3.length co3] ?_; (refine (laws_eqIntS.calls k _ _ t16 _ _ t3 _ _ ?side1 ?side2 ?side3 ?side4 Q15_.out).mono ?_); (case side1 => exact sC ((Kd.R_reads' HX16.out).2.2)); (case side2 => exact (Kd.R_reads' HX16.out).2.1); (case side3 => exact sC ((Kd.R_reads' HX3.out).2.2)); (case side4 => exact (Kd.R_reads' HX3.out).2.1); rintro e w15 ⟨rfl, hd⟩; have hb := drawnB hd; clear hd; refine ⟨_, rfl, ?_⟩; have s15 : w14.heap.size ≤ w15.heap.size := hb.size; replace HX5 := uR HX5 hb; replace HB := uH hb; clear hb; clear HX3; clear HX16)
    | ((with_reducible refine gate_callee (f := 13) rfl ?_); refine gL (some 78) Try.func13 #[.slice Ao5 t13.length co5, .int .i64 1] ?_; (refine (laws_heldIntS.calls k _ _ t13 1 _ _ ?side1 ?side2 Q16_.out).mono ?_); (case side1 => exact sC ((Kd.R_reads' HX5.out).2.2)); (case side2 => exact (Kd.R_reads' HX5.out).2.1); rintro e w16 ⟨rfl, hd⟩; have hb := drawnB hd; clear hd; refine ⟨_, rfl, ?_⟩; have s16 : w15.heap.size ≤ w16.heap.size := hb.size; replace HB := uH hb; clear hb; clear HX5))
  go_ret
  exact ⟨rfl, bQ⟩
end Go.Proofs.Ytjcmngplpihbpaa.PWit
