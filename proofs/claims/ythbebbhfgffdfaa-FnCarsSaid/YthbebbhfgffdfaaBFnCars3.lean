/- Go functions that the statement reaches: each printed as a Lean function, with a proof that the Go function comes to its answer; conditions: the bounds that each states. -/
import Derived.Test.YthbebbhfgffdfaaBFnCars0
namespace Go.Proofs.Ythbebbhfgffdfaa.PCrs
open Go.RowKit Go.Proofs.YthbebbhfgffdfaaW.PrintWords Go.Proofs.YthbebbhfgffdfaaW.PrintLast Go.Proofs.YthbebbhfgffdfaaW.PrintMore
attribute [local go_sem] max2_int min2_int max_two min_two max_three min_three max_four min_four   -- for this text's walks alone
set_option linter.unusedVariables false
set_option linter.unusedSimpArgs false
/-! ### laws_big: function 14 -/
def laws_big.f (l0 : List Int) : Option (Bool) := some (decide ((l0.length : Int) > 1048576))
set_option maxHeartbeats 8000000 in
set_option maxRecDepth 100000 in
theorem laws_big.calls (A0 : Option Addr) (c0 : Nat) (l0 : List Int) (r : Bool) (w : World) (hr0 : Kd.C (Kd.int .u8) w A0 l0.length l0) (hc0 : l0.length ≤ c0) (h : laws_big.f l0 = some r) :
    Calls Try.prog 14 #[.slice A0 l0.length c0] w fun e w' => e = .returned (.bool r) ∧ Drawn0 w w' := by
 have HR0 := Aside0.mk hr0; have HC0 := Aside0.mk hc0; clear hr0 hc0; have H := h; (unfold laws_big.f at H); clear h; obtain rfl := Option.some.inj H; (go_enter Try.func14, Try.ntmps14); go_wp2; go_ret; (exact ⟨by first | rfl | (simp; done) | (simp [*]; done), by repeat (first | exact Drawn0.refl _ | apply Drawn0.step)⟩)
/-! ### laws_contains: function 24 -/
def laws_contains.l0 : Nat → List Int → Int → Int → Option (Bool)
  | 0, _, _, _ => none
  | k + 1, x0, x1, x5 => if x5 < (x0.length : Int) then (if 0 ≤ x5 then (if (rd x0 x5) = x1 then (some true) else (laws_contains.l0 k x0 x1 (wrap64 (x5 + 1)))) else (none)) else (some false)
def laws_contains.f (k : Nat) (l0 : List Int) (a1 : Int) : Option (Bool) := laws_contains.l0 k l0 a1 0
set_option maxHeartbeats 8000000 in
set_option maxRecDepth 100000 in
theorem laws_contains.calls (k : Nat) (A0 : Option Addr) (c0 : Nat) (l0 : List Int) (a1 : Int) (r : Bool) (w : World) (hr0 : Kd.C (Kd.int .i64) w A0 l0.length l0) (hc0 : l0.length ≤ c0) (h : laws_contains.f k l0 a1 = some r) :
    Calls Try.prog 24 #[.slice A0 l0.length c0, .int .i64 a1] w fun e w' => e = .returned (.bool r) ∧ Drawn0 w w' := by
 have HR0 := Aside0.mk hr0; have HC0 := Aside0.mk hc0; clear hr0 hc0; have H := h; (unfold laws_contains.f at H); clear h; (have H' := Aside0.mk H); clear H; (go_enter Try.func24, Try.ntmps24); go_wp2; (go_loopg [5] k (fun kq v5 w' => ∃ (x5_1 : Int), v5 = .int .i64 x5_1 ∧ Aside0 (laws_contains.l0 kq l0 a1 x5_1 = some r) ∧ Aside0 (kq ≤ k) ∧ Drawn0 w w')); (case atStart => exact ⟨(0), vQ, H', ⟨Nat.le_refl _⟩, by repeat (first | exact Drawn0.refl _ | apply Drawn0.step)⟩)
 case round =>
  clear H'; (try clear p2); obtain ⟨x5_1, rfl, HA, HK1, ⟨m1, rfl⟩⟩ := hrel
  cases gk with
  | zero => exact absurd HA.out (by simp [laws_contains.l0])
  | succ k1 =>
   have H := HA.out; clear HA; (simp only [laws_contains.l0] at H); (by_cases c3 : x5_1 < (l0.length : Int))
   ·
    rw [if_pos c3] at H; (have c3b0 : decide (x5_1 < (l0.length : Int)) = true := decide_eq_true c3); clear c3; obtain ⟨c4b0, H⟩ := nQ H; (by_cases c5 : (rd l0 x5_1) = a1)
    · rw [if_pos c5] at H; (have c5b0 : ((rd l0 x5_1) == a1) = true := beq_iff_eq.mpr c5); (have c5b1 : ((rd l0 x5_1) != a1) = false := bne_eq_false_iff_eq.mpr c5); clear c5; obtain rfl := Option.some.inj H; (have p335 : 0 ≤ (x5_1 : Int) := oD); (have q335 : x5_1 < (l0.length : Int) := oD); obtain ⟨ad335, e335, hx335_0⟩ := Kd.at_int HR0.out x5_1 p335 q335; (cases e335); replace p335 := eq_true p335; replace q335 := eq_true q335; go_wp2; go_ret; (exact ⟨by first | rfl | (simp; done) | (simp [*]; done), by repeat (first | exact Drawn0.refl _ | apply Drawn0.step)⟩)
    · rw [if_neg c5] at H; (have c5b0 : ((rd l0 x5_1) == a1) = false := beq_eq_false_iff_ne.mpr c5); (have c5b1 : ((rd l0 x5_1) != a1) = true := bne_iff_ne.mpr c5); (have H' := Aside0.mk H); clear H; (have p335 : 0 ≤ (x5_1 : Int) := oD); (have q335 : x5_1 < (l0.length : Int) := oD); obtain ⟨ad335, e335, hx335_0⟩ := Kd.at_int HR0.out x5_1 p335 q335; (cases e335); replace p335 := eq_true p335; replace q335 := eq_true q335; go_wp2; (go_roundg k1); (case measure => have := HK1.out; omega); (case rel => exact ⟨(wrap64 (x5_1 + 1)), vQ, H', ⟨by have := HK1.out; omega⟩, by repeat (first | exact Drawn0.refl _ | apply Drawn0.step)⟩)
   · rw [if_neg c3] at H; (have c3b0 : decide (x5_1 < (l0.length : Int)) = false := decide_eq_false c3); clear c3; obtain rfl := Option.some.inj H; go_wp2; go_ret; (exact ⟨by first | rfl | (simp; done) | (simp [*]; done), by repeat (first | exact Drawn0.refl _ | apply Drawn0.step)⟩)
end Go.Proofs.Ythbebbhfgffdfaa.PCrs
