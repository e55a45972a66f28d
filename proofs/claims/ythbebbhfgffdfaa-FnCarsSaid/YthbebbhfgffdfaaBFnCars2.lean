/- Go functions that the statement reaches: each printed as a Lean function, with a proof that the Go function comes to its answer; conditions: the bounds that each states. -/
import Derived.Test.YthbebbhfgffdfaaBFnCars0
namespace Go.Proofs.Ythbebbhfgffdfaa.PCrs
open Go.RowKit Go.Proofs.YthbebbhfgffdfaaW.PrintWords Go.Proofs.YthbebbhfgffdfaaW.PrintLast Go.Proofs.YthbebbhfgffdfaaW.PrintMore
attribute [local go_sem] max2_int min2_int max_two min_two max_three min_three max_four min_four   -- for this text's walks alone
set_option linter.unusedVariables false
set_option linter.unusedSimpArgs false
/-! ### slices_Index_int_int: function 52 -/
def slices_Index_int_int.l0 : Nat → List Int → Int → Int → Int → Option (Int)
  | 0, _, _, _, _ => none
  | k + 1, x0, x1, x7, x8 => if x8 < x7 then (if 0 ≤ x8 then (if x8 < (x0.length : Int) then (if x1 = (rd x0 x8) then (some x8) else (slices_Index_int_int.l0 k x0 x1 x7 (wrap64 (x8 + 1)))) else (none)) else (none)) else (some (-1))
def slices_Index_int_int.f (k : Nat) (l0 : List Int) (a1 : Int) : Option (Int) := slices_Index_int_int.l0 k l0 a1 (l0.length : Int) 0
set_option maxHeartbeats 8000000 in
set_option maxRecDepth 100000 in
theorem slices_Index_int_int.calls (k : Nat) (A0 : Option Addr) (c0 : Nat) (l0 : List Int) (a1 : Int) (r : Int) (w : World) (hr0 : Kd.C (Kd.int .i64) w A0 l0.length l0) (hc0 : l0.length ≤ c0) (h : slices_Index_int_int.f k l0 a1 = some r) :
    Calls Try.prog 52 #[.slice A0 l0.length c0, .int .i64 a1] w fun e w' => e = .returned (.int .i64 r) ∧ Drawn0 w w' := by
 have HR0 := Aside0.mk hr0; have HC0 := Aside0.mk hc0; clear hr0 hc0; have H := h; (unfold slices_Index_int_int.f at H); clear h; (have H' := Aside0.mk H); clear H; (go_enter Try.func52, Try.ntmps52); go_wp2; (go_loopg [8] k (fun kq v8 w' => ∃ (x8_1 : Int), v8 = .int .i64 x8_1 ∧ Aside0 (slices_Index_int_int.l0 kq l0 a1 (l0.length : Int) x8_1 = some r) ∧ Aside0 (kq ≤ k) ∧ Drawn0 w w')); (case atStart => exact ⟨(0), vQ, H', ⟨Nat.le_refl _⟩, by repeat (first | exact Drawn0.refl _ | apply Drawn0.step)⟩)
 case round =>
  clear H'; (try clear p2); obtain ⟨x8_1, rfl, HA, HK1, ⟨m1, rfl⟩⟩ := hrel
  cases gk with
  | zero => exact absurd HA.out (by simp [slices_Index_int_int.l0])
  | succ k1 =>
   have H := HA.out; clear HA; (simp only [slices_Index_int_int.l0] at H); (by_cases c3 : x8_1 < (l0.length : Int))
   ·
    rw [if_pos c3] at H; (have c3b0 : decide (x8_1 < (l0.length : Int)) = true := decide_eq_true c3); clear c3; obtain ⟨c4b0, H⟩ := nQ H; obtain ⟨c5b0, H⟩ := nQ H; (by_cases c6 : a1 = (rd l0 x8_1))
    · rw [if_pos c6] at H; (have c6b0 : (a1 == (rd l0 x8_1)) = true := beq_iff_eq.mpr c6); (have c6b1 : (a1 != (rd l0 x8_1)) = false := bne_eq_false_iff_eq.mpr c6); clear c6; obtain rfl := Option.some.inj H; (have p101 : 0 ≤ (x8_1 : Int) := oD); (have q101 : x8_1 < (l0.length : Int) := oD); obtain ⟨ad101, e101, hx101_0⟩ := Kd.at_int HR0.out x8_1 p101 q101; (cases e101); replace p101 := eq_true p101; replace q101 := eq_true q101; go_wp2; go_ret; (exact ⟨by first | rfl | (simp; done) | (simp [*]; done), by repeat (first | exact Drawn0.refl _ | apply Drawn0.step)⟩)
    · rw [if_neg c6] at H; (have c6b0 : (a1 == (rd l0 x8_1)) = false := beq_eq_false_iff_ne.mpr c6); (have c6b1 : (a1 != (rd l0 x8_1)) = true := bne_iff_ne.mpr c6); (have H' := Aside0.mk H); clear H; (have p101 : 0 ≤ (x8_1 : Int) := oD); (have q101 : x8_1 < (l0.length : Int) := oD); obtain ⟨ad101, e101, hx101_0⟩ := Kd.at_int HR0.out x8_1 p101 q101; (cases e101); replace p101 := eq_true p101; replace q101 := eq_true q101; go_wp2; (go_roundg k1); (case measure => have := HK1.out; omega); (case rel => exact ⟨(wrap64 (x8_1 + 1)), vQ, H', ⟨by have := HK1.out; omega⟩, by repeat (first | exact Drawn0.refl _ | apply Drawn0.step)⟩)
   · rw [if_neg c3] at H; (have c3b0 : decide (x8_1 < (l0.length : Int)) = false := decide_eq_false c3); clear c3; obtain rfl := Option.some.inj H; go_wp2; go_ret; (exact ⟨by first | rfl | (simp; done) | (simp [*]; done), by repeat (first | exact Drawn0.refl _ | apply Drawn0.step)⟩)
/-! ### slices_Contains_int_int: function 43 -/
def slices_Contains_int_int.f (k : Nat) (l0 : List Int) (a1 : Int) : Option (Bool) := (slices_Index_int_int.f k l0 a1).bind fun t102 => (some (decide (t102 ≥ 0)))
set_option maxHeartbeats 8000000 in
set_option maxRecDepth 100000 in
theorem slices_Contains_int_int.calls (k : Nat) (A0 : Option Addr) (c0 : Nat) (l0 : List Int) (a1 : Int) (r : Bool) (w : World) (hr0 : Kd.C (Kd.int .i64) w A0 l0.length l0) (hc0 : l0.length ≤ c0) (h : slices_Contains_int_int.f k l0 a1 = some r) :
    Calls Try.prog 43 #[.slice A0 l0.length c0, .int .i64 a1] w fun e w' => e = .returned (.bool r) ∧ Drawn0 w w' := by
 have HR0 := Aside0.mk hr0; have HC0 := Aside0.mk hc0; clear hr0 hc0; have H := h; (unfold slices_Contains_int_int.f at H); clear h; obtain ⟨t102, A3, H⟩ := sQ H; obtain rfl := Option.some.inj H; (go_enter Try.func43, Try.ntmps43); (go_wp2_with (first | ((with_reducible refine gate_callee (f := 52) rfl ?_); refine gL (some 7) Try.func52 #[.slice A0 l0.length c0, .int .i64 a1] ?_; (with_reducible refine (slices_Index_int_int.calls k _ _ l0 a1 t102 _ ?side1 ?side2 A3.out).mono ?_); (case side1 => exact rC HR0); (case side2 => exact HC0.out); rintro e w' ⟨rfl, ⟨nd, rfl⟩⟩; refine ⟨_, rfl, ?_⟩))); go_ret; (exact ⟨by first | rfl | (simp; done) | (simp [*]; done), by repeat (first | exact Drawn0.refl _ | apply Drawn0.step)⟩)
/-! ### impl_InRange: function 35 -/
def impl_InRange.f (a0 : Int) (a1 : Int) (a2 : Int) : Option (Bool) := if a1 ≤ a0 then (some (decide (a0 ≤ a2))) else (some false)
set_option maxHeartbeats 8000000 in
set_option maxRecDepth 100000 in
theorem impl_InRange.calls (a0 : Int) (a1 : Int) (a2 : Int) (r : Bool) (w : World) (h : impl_InRange.f a0 a1 a2 = some r) :
    Calls Try.prog 35 #[.int .i64 a0, .int .i64 a1, .int .i64 a2] w fun e w' => e = .returned (.bool r) ∧ Drawn0 w w' := by
 have H := h; (unfold impl_InRange.f at H); clear h; (by_cases c4 : a1 ≤ a0); (· rw [if_pos c4] at H; (have c4b0 : decide (a1 ≤ a0) = true := decide_eq_true c4); clear c4; obtain rfl := Option.some.inj H; (go_enter Try.func35, Try.ntmps35); go_wp2; go_ret; (exact ⟨by first | rfl | (simp; done) | (simp [*]; done), by repeat (first | exact Drawn0.refl _ | apply Drawn0.step)⟩)); (· rw [if_neg c4] at H; (have c4b0 : decide (a1 ≤ a0) = false := decide_eq_false c4); clear c4; obtain rfl := Option.some.inj H; (go_enter Try.func35, Try.ntmps35); go_wp2; go_ret; (exact ⟨by first | rfl | (simp; done) | (simp [*]; done), by repeat (first | exact Drawn0.refl _ | apply Drawn0.step)⟩))
/-! ### impl_isCrossing: function 53 -/
def impl_isCrossing.f (a0 : Int) : Option (Bool) := (impl_InRange.f a0 1 8).bind fun t283 => (some t283)
set_option maxHeartbeats 8000000 in
set_option maxRecDepth 100000 in
theorem impl_isCrossing.calls (a0 : Int) (r : Bool) (w : World) (h : impl_isCrossing.f a0 = some r) :
    Calls Try.prog 53 #[.int .i64 a0] w fun e w' => e = .returned (.bool r) ∧ Drawn0 w w' := by
 have H := h; (unfold impl_isCrossing.f at H); clear h; obtain ⟨t283, A2, H⟩ := sQ H; obtain rfl := Option.some.inj H; (go_enter Try.func53, Try.ntmps53); (go_wp2_with (first | ((with_reducible refine gate_callee (f := 35) rfl ?_); refine gL (some 4) Try.func35 #[.int .i64 a0, .int .i64 1, .int .i64 8] ?_; (with_reducible refine (impl_InRange.calls a0 1 8 t283 _ A2.out).mono ?_); rintro e w' ⟨rfl, ⟨nd, rfl⟩⟩; refine ⟨_, rfl, ?_⟩))); go_ret; (exact ⟨by first | rfl | (simp; done) | (simp [*]; done), by repeat (first | exact Drawn0.refl _ | apply Drawn0.step)⟩)
/-! ### impl_streetOf: function 54 -/
-- the closure, slices.IndexFunc over it, and the function itself
def impl_streetOf.from_ (a1 : Int) (a2 : Int) : List (S76) → Int → Int
  | [], _ => -1
  | x :: r, i => if ((x.f0 == a1) && (x.f1 == a2)) = true then i else impl_streetOf.from_ a1 a2 r (i + 1)
def impl_streetOf.f (l0 : List (S76)) (a1 : Int) (a2 : Int) : Option (Int) := some (impl_streetOf.from_ a1 a2 l0 0)
theorem impl_streetOf.asks (x : S76) (g1 : Nat) (g2 : Nat) (a1 : Int) (a2 : Int) (w : World) (hg_g1 : g1 < w.heap.size) (hc_g1 : w.cell? ⟨g1, 0, none⟩ = some (.int .i64 a1)) (hg_g2 : g2 < w.heap.size) (hc_g2 : w.cell? ⟨g2, 0, none⟩ = some (.int .i64 a2)) :
    Calls Try.prog 63 #[.agg #[.int .i64 x.f0, .int .i64 x.f1, .int .i64 x.f2], .pointer (some ⟨g1, 0, none⟩), .pointer (some ⟨g2, 0, none⟩)] w fun e w' => e = .returned (.bool (((x.f0 == a1) && (x.f1 == a2)))) ∧ Below w.heap.size w w' := by
  have hu_ := Try.underlying76
  have hn_g1 : g1 ≠ w.heap.size := by omega
  have hn_g2 : g2 ≠ w.heap.size := by omega
  cases hq0 : (x.f0 == a1) with
  | true =>
    cases hq1 : (x.f1 == a2) with
    | true =>
      go_enter Try.func63, Try.ntmps63
      go_wp2
      go_ret
      exact ⟨by simp_all, (Below.refl _ _).alloc (Nat.le_refl _) _⟩
    | false =>
      go_enter Try.func63, Try.ntmps63
      go_wp2
      go_ret
      exact ⟨by simp_all, (Below.refl _ _).alloc (Nat.le_refl _) _⟩
  | false =>
    cases hq1 : (x.f1 == a2) with
    | true =>
      go_enter Try.func63, Try.ntmps63
      go_wp2
      go_ret
      exact ⟨by simp_all, (Below.refl _ _).alloc (Nat.le_refl _) _⟩
    | false =>
      go_enter Try.func63, Try.ntmps63
      go_wp2
      go_ret
      exact ⟨by simp_all, (Below.refl _ _).alloc (Nat.le_refl _) _⟩
theorem impl_streetOf.finds (A0 : Option Addr) (c0 : Nat) (l0 : List (S76)) (a1 : Int) (a2 : Int) (g1 : Nat) (g2 : Nat) (w : World) (hr0 : Kd.C k76 w A0 l0.length l0) (hc0 : l0.length ≤ c0) (hg_g1 : g1 < w.heap.size) (hc_g1 : w.cell? ⟨g1, 0, none⟩ = some (.int .i64 a1)) (hg_g2 : g2 < w.heap.size) (hc_g2 : w.cell? ⟨g2, 0, none⟩ = some (.int .i64 a2)) :
    Calls Try.prog 62 #[.slice A0 l0.length c0, .func (.func 63) #[] #[.pointer (some ⟨g1, 0, none⟩), .pointer (some ⟨g2, 0, none⟩)]] w fun e w' => e = .returned (.int .i64 (impl_streetOf.from_ a1 a2 l0 0)) ∧ Below w.heap.size w w' := by
  have hbig : l0.length ≤ 9223372036854775807 := hr0.2.1
  have HR := Aside0.mk hr0
  have HC_g1 := Aside0.mk hc_g1
  have HC_g2 := Aside0.mk hc_g2
  clear hr0 hc_g1 hc_g2
  go_enter Try.func62, Try.ntmps62
  go_wp2
  go_loopw [8] (fun i wr => ∃ j : Nat, j ≤ l0.length ∧ i = .int .i64 j ∧ Aside0 (Below w.heap.size w wr) ∧ Aside0 (impl_streetOf.from_ a1 a2 l0 0 = impl_streetOf.from_ a1 a2 (l0.drop j) j)) (fun i _ => l0.length - (intOf i).toNat)
  case atStart => exact ⟨0, Nat.zero_le _, rfl, ⟨Below.refl _ _⟩, ⟨rfl⟩⟩
  case round =>
    obtain ⟨j, hj, rfl, HB, HF⟩ := hrel
    by_cases hlt : j < l0.length
    · obtain ⟨ad, eA, h0_, h1_, h2_⟩ := at_T76 HR.out (j : Int) (by omega) (by omega)
      cases eA
      have hb := HB.out
      replace h0_ := (hb.cell (World.block_lt_of_cell? w _ h0_)).trans h0_
      replace h1_ := (hb.cell (World.block_lt_of_cell? w _ h1_)).trans h1_
      replace h2_ := (hb.cell (World.block_lt_of_cell? w _ h2_)).trans h2_
      clear hb
      simp only [Int.toNat_natCast] at h0_ h1_ h2_
      have HE : Aside0 (rd_T76 l0 (j : Int) = l0[j]) := ⟨by simp [rd_T76, hlt]⟩
      generalize rd_T76 l0 (j : Int) = x at h0_ h1_ h2_ HE
      have HG_g1 : Aside0 (g1 < wr.heap.size) := ⟨Nat.lt_of_lt_of_le hg_g1 (below_size HB.out)⟩
      have HG_g2 : Aside0 (g2 < wr.heap.size) := ⟨Nat.lt_of_lt_of_le hg_g2 (below_size HB.out)⟩
      have HD_g1 : Aside0 (wr.cell? ⟨g1, 0, none⟩ = some (.int .i64 a1)) := ⟨(HB.out.cell (p := ⟨g1, 0, none⟩) hg_g1).trans HC_g1.out⟩
      have HD_g2 : Aside0 (wr.cell? ⟨g2, 0, none⟩ = some (.int .i64 a2)) := ⟨(HB.out.cell (p := ⟨g2, 0, none⟩) hg_g2).trans HC_g2.out⟩
      cases hq : (((x.f0 == a1) && (x.f1 == a2))) with
      | true =>
        have HP := Aside0.mk hq
        go_wp2_with (go_at_call 63; refine (impl_streetOf.asks x g1 g2 a1 a2 wr HG_g1.out HD_g1.out HG_g2.out HD_g2.out).mono ?_; rintro e w' ⟨rfl, hb'⟩; have HB' := Aside0.mk hb'; clear hb')
        go_ret
        refine ⟨?_, HB.out.trans (HB'.out.mono (below_size HB.out))⟩
        rw [HF.out, List.drop_eq_getElem_cons hlt, impl_streetOf.from_, if_pos (by rw [← HE.out]; exact HP.out)]
        rfl
      | false =>
        have HP := Aside0.mk hq
        go_wp2_with (go_at_call 63; refine (impl_streetOf.asks x g1 g2 a1 a2 wr HG_g1.out HD_g1.out HG_g2.out HD_g2.out).mono ?_; rintro e w' ⟨rfl, hb'⟩; have HB' := Aside0.mk hb'; clear hb')
        go_roundw
        case rel => exact ⟨j + 1, by omega, by go_num, ⟨HB.out.trans (HB'.out.mono (below_size HB.out))⟩, ⟨by rw [HF.out, List.drop_eq_getElem_cons hlt, impl_streetOf.from_, if_neg (by rw [← HE.out, HP.out]; exact Bool.false_ne_true)]; rfl⟩⟩
        case measure => simp [intOf]; omega
    · have e : j = l0.length := by omega
      subst e
      go_wp2
      go_ret
      refine ⟨?_, HB.out⟩
      rw [HF.out, List.drop_length, impl_streetOf.from_]
      rfl
theorem impl_streetOf.calls (A0 : Option Addr) (c0 : Nat) (l0 : List (S76)) (a1 : Int) (a2 : Int) (r : Int) (w : World) (hr0 : Kd.C k76 w A0 l0.length l0) (hc0 : l0.length ≤ c0) (h : impl_streetOf.f l0 a1 a2 = some r) :
    Calls Try.prog 54 #[.slice A0 l0.length c0, .int .i64 a1, .int .i64 a2] w fun e w' => e = .returned (.int .i64 r) ∧ Below w.heap.size w w' := by
  obtain rfl := Option.some.inj h
  have HR := Aside0.mk hr0
  clear hr0 h
  go_enter Try.func54, Try.ntmps54
  go_wp2_with (go_at_call 62; refine (impl_streetOf.finds A0 c0 l0 a1 a2 w.heap.size (w.heap.size + 1) _ (by (with_reducible repeat (first | exact HR.out | apply Kd.C_alloc))) hc0 (by first | (simp; done) | (simp; omega)) (by first | (simp; done) | (simp; omega)) (by first | (simp; done) | (simp; omega)) (by first | (simp; done) | (simp; omega))).mono ?_; rintro e w' ⟨rfl, hb'⟩; have HB' := Aside0.mk hb'; clear hb')
  go_ret
  exact ⟨rfl, (((Below.refl _ w).alloc (Nat.le_refl _) _).alloc (by simp) _).trans (HB'.out.mono (by first | (simp; done) | (simp; omega)))⟩
/-! ### impl_AreStreets: function 44 -/
mutual
def impl_AreStreets.l0 : Nat → List (S76) → List (S76) → Int → Int → Option (Bool)
  | 0, _, _, _, _ => none
  | k + 1, x0, x8, x9, x10 => if x10 < x9 then (if 0 ≤ x10 then (if x10 < (x8.length : Int) then ((impl_isCrossing.f ((rd_T76 x8 x10).f0)).bind fun t286 => (if t286 = true then ((impl_isCrossing.f ((rd_T76 x8 x10).f1)).bind fun t287 => (if t287 = true then (if ((rd_T76 x8 x10).f0) = ((rd_T76 x8 x10).f1) then (impl_AreStreets.j1 k x0 x10 x8 x9 x10 true ((rd_T76 x8 x10).f0) ((rd_T76 x8 x10).f1) ((rd_T76 x8 x10).f2)) else ((impl_InRange.f ((rd_T76 x8 x10).f2) 1 300).bind fun t288 => (impl_AreStreets.j1 k x0 x10 x8 x9 x10 (!t288) ((rd_T76 x8 x10).f0) ((rd_T76 x8 x10).f1) ((rd_T76 x8 x10).f2)))) else (impl_AreStreets.j1 k x0 x10 x8 x9 x10 true ((rd_T76 x8 x10).f0) ((rd_T76 x8 x10).f1) ((rd_T76 x8 x10).f2)))) else (impl_AreStreets.j1 k x0 x10 x8 x9 x10 true ((rd_T76 x8 x10).f0) ((rd_T76 x8 x10).f1) ((rd_T76 x8 x10).f2)))) else (none)) else (none)) else (some true)
def impl_AreStreets.j1 : Nat → List (S76) → Int → List (S76) → Int → Int → Bool → Int → Int → Int → Option (Bool)
  | 0, _, _, _, _, _, _, _, _, _ => none
  | k + 1, x0, x3, x8, x9, x10, x37, x286000, x286001, x286002 => if x37 = true then (some false) else (if 0 ≤ x3 then (if x3 ≤ (x0.length : Int) then ((impl_streetOf.f (x0.take (x3 : Int).toNat) x286000 x286001).bind fun t293 => (if t293 ≥ 0 then (some false) else (impl_AreStreets.l0 k x0 x8 x9 (wrap64 (x10 + 1))))) else (none)) else (none))
end
def impl_AreStreets.f (k : Nat) (l0 : List (S76)) : Option (Bool) := if (l0.length : Int) > 16 then (some false) else (impl_AreStreets.l0 k l0 l0 (l0.length : Int) 0)
def impl_AreStreets.T8 : Bool × List (List Nat × List Nat) := (true, [([], []), ([], []), ([0, 1], [0, 1]), ([], []), ([3], [3]), ([], []), ([5], [5]), ([2, 4, 6], [2, 4, 6]), ([7], [7])])
def impl_AreStreets.B8 : List Nat := [0, 0, 3, 0, 8, 0, 32, 127, 255]
theorem impl_AreStreets.tab8 : rtab .any (opsOf Try.f44 8) = impl_AreStreets.T8 := by kernel_rfl
theorem impl_AreStreets.bits8 : waitsOk impl_AreStreets.T8.2 impl_AreStreets.B8 = true := by kernel_rfl
set_option maxHeartbeats 8000000 in
set_option maxRecDepth 100000 in
theorem impl_AreStreets.calls (k : Nat) (A0 : Option Addr) (c0 : Nat) (l0 : List (S76)) (r : Bool) (w : World) (hr0 : Kd.C k76 w A0 l0.length l0) (hc0 : l0.length ≤ c0) (h : impl_AreStreets.f k l0 = some r) :
    Calls Try.prog 44 #[.slice A0 l0.length c0] w fun e w' => e = .returned (.bool r) ∧ Below w.heap.size w w' := by
 have hu76 := Try.underlying76; have HR0 := Aside0.mk hr0; have HC0 := Aside0.mk hc0; clear hr0 hc0; (have HB := Aside0.mk (Below.refl w.heap.size w)); have H := h; (unfold impl_AreStreets.f at H); clear h; (by_cases c2 : (l0.length : Int) > 16); (· rw [if_pos c2] at H; (have c2b0 : decide (16 < (l0.length : Int)) = true := decide_eq_true c2); (have c2b1 : decide (16 < l0.length) = true := decide_eq_true (by omega)); clear c2; obtain rfl := Option.some.inj H; (go_enter Try.func44, Try.ntmps44); go_wp2; go_ret; (exact ⟨eQ, bQ⟩))
 ·
  rw [if_neg c2] at H; (have c2b0 : decide (16 < (l0.length : Int)) = false := decide_eq_false c2); (have c2b1 : decide (16 < l0.length) = false := decide_eq_false (by omega)); clear c2; (have H' := Aside0.mk H); clear H; (go_enter Try.func44, Try.ntmps44); go_wp2; (go_loopg [10] k (fun kq v10 w' => ∃ (x10_1 : Int), v10 = .int .i64 x10_1 ∧ Aside0 (impl_AreStreets.l0 kq l0 l0 (l0.length : Int) x10_1 = some r) ∧ Aside0 (kq ≤ k) ∧ Aside0 (Below w.heap.size w w'))); (case atStart => exact ⟨(0), vQ, H', ⟨Nat.le_refl _⟩, ⟨bQ⟩⟩)
  case round =>
   clear H'; (try clear c2b0); (try clear c2b1); (try clear p2); obtain ⟨x10_1, rfl, HA, HK1, HB⟩ := hrel
   cases gk with
   | zero => exact absurd HA.out (by simp [impl_AreStreets.l0])
   | succ k1 =>
    have H := HA.out; clear HA; (simp only [impl_AreStreets.l0] at H); (by_cases c3 : x10_1 < (l0.length : Int))
    ·
     rw [if_pos c3] at H; (have c3b0 : decide (x10_1 < (l0.length : Int)) = true := decide_eq_true c3); clear c3; obtain ⟨c4b0, H⟩ := nQ H; obtain ⟨c5b0, H⟩ := nQ H; have HC6 := Aside0.mk H; clear H; (have p284 : 0 ≤ (x10_1 : Int) := oD); (have q284 : x10_1 < (l0.length : Int) := oD); obtain ⟨ad284, e284, hx284_0, hx284_1, hx284_2⟩ := at_T76 HR0.out x10_1 p284 q284; (cases e284); replace hx284_0 := cQ HB hx284_0; replace hx284_1 := cQ HB hx284_1; replace hx284_2 := cQ HB hx284_2; replace p284 := eq_true p284; replace q284 := eq_true q284; (go_upto_region 6 with (first | ((with_reducible refine gate_dst (N := 4) rfl ?_); refine xE 4 (cs := #[.int .i64 0, .int .i64 0, .int .i64 0]) (t := 76) ?_; intro gb285 hg w7 hbox hb; have BK285 := Aside0.mk (hbox); have GW285 := Aside0.mk ((gQ hg : w.heap.size ≤ gb285)); have GE285 := Aside0.mk ((gQ hg : w.heap.size ≤ gb285)); replace HB := uH hb; clear hb hbox hg; have hcz8_0 := zC BK285 0 (.int .i64 0); have hcz8_1 := zC BK285 1 (.int .i64 0); have hcz8_2 := zC BK285 2 (.int .i64 0); have hfz8_0 := blk_frozen BK285.out 0; have hfz8_1 := blk_frozen BK285.out 1; have hfz8_2 := blk_frozen BK285.out 2))); ((try simp only [Act.put, List.setIfInBounds_toArray, List.set_cons_zero, List.set_cons_succ])); (go_cut [37] (fun v37 wc => ∃ (kq : Nat) (x37_5 : Bool), v37 = .bool x37_5 ∧ Aside0 (impl_AreStreets.j1 kq l0 x10_1 l0 (l0.length : Int) x10_1 x37_5 ((rd_T76 l0 x10_1).f0) ((rd_T76 l0 x10_1).f1) ((rd_T76 l0 x10_1).f2) = some r) ∧ Aside0 (kq ≤ k1) ∧ Aside0 (wc.heap[gb285]? = some (.cells #[.int .i64 ((rd_T76 l0 x10_1).f0), .int .i64 ((rd_T76 l0 x10_1).f1), .int .i64 ((rd_T76 l0 x10_1).f2)] 76 (0, 0))) ∧ Aside0 (Below w.heap.size w wc)))
     case first =>
      have H := HC6.out; clear HC6; obtain ⟨t286, A9, H⟩ := sQ H; (by_cases c10 : t286 = true)
      ·
       subst c10; replace H := tT H; obtain ⟨t287, A11, H⟩ := sQ H; (by_cases c12 : t287 = true)
       ·
        subst c12; replace H := tT H; (by_cases c13 : ((rd_T76 l0 x10_1).f0) = ((rd_T76 l0 x10_1).f1))
        · rw [if_pos c13] at H; (have c13b0 : (((rd_T76 l0 x10_1).f0) == ((rd_T76 l0 x10_1).f1)) = true := beq_iff_eq.mpr c13); (have c13b1 : (((rd_T76 l0 x10_1).f0) != ((rd_T76 l0 x10_1).f1)) = false := bne_eq_false_iff_eq.mpr c13); clear c13; ((first | rw [c13b0] | rw [c13b1] | (simp only [i64_w, i32_w]; rw [c13b0]) | skip)); (have H' := Aside0.mk H); clear H; (have hcz14_0 := zC BK285 0 (.int .i64 0)); (have hcz14_1 := zC BK285 1 (.int .i64 0)); (have hcz14_2 := zC BK285 2 (.int .i64 0)); have hfz14_0 := blk_frozen BK285.out 0; have hfz14_1 := blk_frozen BK285.out 1; have hfz14_2 := blk_frozen BK285.out 2; (go_wp2_with (first | ((with_reducible refine gate_callee (f := 53) rfl ?_); refine gL (some 17) Try.func53 #[.int .i64 ((rd_T76 l0 x10_1).f0)] ?_; (with_reducible refine (impl_isCrossing.calls ((rd_T76 l0 x10_1).f0) true _ A9.out).mono ?_); rintro e w' ⟨rfl, ⟨nd, rfl⟩⟩; refine ⟨_, rfl, ?_⟩) | (go_at_call 53; (with_reducible refine (impl_isCrossing.calls ((rd_T76 l0 x10_1).f1) true _ A11.out).mono ?_); rintro e w' ⟨rfl, ⟨nd, rfl⟩⟩))); (go_meet); (case rel => exact ⟨_, (true), vQ, H', ⟨by have := HK1.out; first | omega | exact Nat.le_refl _⟩, ⟨by (with_reducible repeat (first | refine blk_drewN ?_ _ | refine blk_drew ?_ | refine blk_alloc ?_ _)); refine blk_put (cs := #[.int .i64 ((rd_T76 l0 x10_1).f0), .int .i64 ((rd_T76 l0 x10_1).f1), .int .i64 0]) ?_ 2 _ rfl; (with_reducible repeat (first | refine blk_drewN ?_ _ | refine blk_drew ?_ | refine blk_alloc ?_ _)); refine blk_put (cs := #[.int .i64 ((rd_T76 l0 x10_1).f0), .int .i64 0, .int .i64 0]) ?_ 1 _ rfl; (with_reducible repeat (first | refine blk_drewN ?_ _ | refine blk_drew ?_ | refine blk_alloc ?_ _)); refine blk_put (cs := #[.int .i64 0, .int .i64 0, .int .i64 0]) ?_ 0 _ rfl; (with_reducible repeat (first | refine blk_drewN ?_ _ | refine blk_drew ?_ | refine blk_alloc ?_ _)); exact BK285.out⟩, ⟨bQ⟩⟩)
        · rw [if_neg c13] at H; (have c13b0 : (((rd_T76 l0 x10_1).f0) == ((rd_T76 l0 x10_1).f1)) = false := beq_eq_false_iff_ne.mpr c13); (have c13b1 : (((rd_T76 l0 x10_1).f0) != ((rd_T76 l0 x10_1).f1)) = true := bne_iff_ne.mpr c13); ((first | rw [c13b0] | rw [c13b1] | (simp only [i64_w, i32_w]; rw [c13b0]) | skip)); obtain ⟨t288, A15, H⟩ := sQ H; (have H' := Aside0.mk H); clear H; (have hcz16_0 := zC BK285 0 (.int .i64 0)); (have hcz16_1 := zC BK285 1 (.int .i64 0)); (have hcz16_2 := zC BK285 2 (.int .i64 0)); have hfz16_0 := blk_frozen BK285.out 0; have hfz16_1 := blk_frozen BK285.out 1; have hfz16_2 := blk_frozen BK285.out 2; (go_wp2_with (first | ((with_reducible refine gate_callee (f := 53) rfl ?_); refine gL (some 17) Try.func53 #[.int .i64 ((rd_T76 l0 x10_1).f0)] ?_; (with_reducible refine (impl_isCrossing.calls ((rd_T76 l0 x10_1).f0) true _ A9.out).mono ?_); rintro e w' ⟨rfl, ⟨nd, rfl⟩⟩; refine ⟨_, rfl, ?_⟩) | (go_at_call 53; (with_reducible refine (impl_isCrossing.calls ((rd_T76 l0 x10_1).f1) true _ A11.out).mono ?_); rintro e w' ⟨rfl, ⟨nd, rfl⟩⟩) | (go_at_call 35; (with_reducible refine (impl_InRange.calls ((rd_T76 l0 x10_1).f2) 1 300 t288 _ A15.out).mono ?_); rintro e w' ⟨rfl, ⟨nd, rfl⟩⟩))); (go_meet); (case rel => exact ⟨_, (!t288), vQ, H', ⟨by have := HK1.out; first | omega | exact Nat.le_refl _⟩, ⟨by (with_reducible repeat (first | refine blk_drewN ?_ _ | refine blk_drew ?_ | refine blk_alloc ?_ _)); refine blk_put (cs := #[.int .i64 ((rd_T76 l0 x10_1).f0), .int .i64 ((rd_T76 l0 x10_1).f1), .int .i64 0]) ?_ 2 _ rfl; (with_reducible repeat (first | refine blk_drewN ?_ _ | refine blk_drew ?_ | refine blk_alloc ?_ _)); refine blk_put (cs := #[.int .i64 ((rd_T76 l0 x10_1).f0), .int .i64 0, .int .i64 0]) ?_ 1 _ rfl; (with_reducible repeat (first | refine blk_drewN ?_ _ | refine blk_drew ?_ | refine blk_alloc ?_ _)); refine blk_put (cs := #[.int .i64 0, .int .i64 0, .int .i64 0]) ?_ 0 _ rfl; (with_reducible repeat (first | refine blk_drewN ?_ _ | refine blk_drew ?_ | refine blk_alloc ?_ _)); exact BK285.out⟩, ⟨bQ⟩⟩)
       · replace c12 := Bool.eq_false_iff.mpr c12; subst c12; replace H := tF H; (have H' := Aside0.mk H); clear H; (have hcz17_0 := zC BK285 0 (.int .i64 0)); (have hcz17_1 := zC BK285 1 (.int .i64 0)); (have hcz17_2 := zC BK285 2 (.int .i64 0)); have hfz17_0 := blk_frozen BK285.out 0; have hfz17_1 := blk_frozen BK285.out 1; have hfz17_2 := blk_frozen BK285.out 2; (go_wp2_with (first | ((with_reducible refine gate_callee (f := 53) rfl ?_); refine gL (some 17) Try.func53 #[.int .i64 ((rd_T76 l0 x10_1).f0)] ?_; (with_reducible refine (impl_isCrossing.calls ((rd_T76 l0 x10_1).f0) true _ A9.out).mono ?_); rintro e w' ⟨rfl, ⟨nd, rfl⟩⟩; refine ⟨_, rfl, ?_⟩) | (go_at_call 53; (with_reducible refine (impl_isCrossing.calls ((rd_T76 l0 x10_1).f1) false _ A11.out).mono ?_); rintro e w' ⟨rfl, ⟨nd, rfl⟩⟩))); (go_meet); (case rel => exact ⟨_, (true), vQ, H', ⟨by have := HK1.out; first | omega | exact Nat.le_refl _⟩, ⟨by (with_reducible repeat (first | refine blk_drewN ?_ _ | refine blk_drew ?_ | refine blk_alloc ?_ _)); refine blk_put (cs := #[.int .i64 ((rd_T76 l0 x10_1).f0), .int .i64 ((rd_T76 l0 x10_1).f1), .int .i64 0]) ?_ 2 _ rfl; (with_reducible repeat (first | refine blk_drewN ?_ _ | refine blk_drew ?_ | refine blk_alloc ?_ _)); refine blk_put (cs := #[.int .i64 ((rd_T76 l0 x10_1).f0), .int .i64 0, .int .i64 0]) ?_ 1 _ rfl; (with_reducible repeat (first | refine blk_drewN ?_ _ | refine blk_drew ?_ | refine blk_alloc ?_ _)); refine blk_put (cs := #[.int .i64 0, .int .i64 0, .int .i64 0]) ?_ 0 _ rfl; (with_reducible repeat (first | refine blk_drewN ?_ _ | refine blk_drew ?_ | refine blk_alloc ?_ _)); exact BK285.out⟩, ⟨bQ⟩⟩)
      · replace c10 := Bool.eq_false_iff.mpr c10; subst c10; replace H := tF H; (have H' := Aside0.mk H); clear H; (have hcz18_0 := zC BK285 0 (.int .i64 0)); (have hcz18_1 := zC BK285 1 (.int .i64 0)); (have hcz18_2 := zC BK285 2 (.int .i64 0)); have hfz18_0 := blk_frozen BK285.out 0; have hfz18_1 := blk_frozen BK285.out 1; have hfz18_2 := blk_frozen BK285.out 2; (go_wp2_with (first | ((with_reducible refine gate_callee (f := 53) rfl ?_); refine gL (some 17) Try.func53 #[.int .i64 ((rd_T76 l0 x10_1).f0)] ?_; (with_reducible refine (impl_isCrossing.calls ((rd_T76 l0 x10_1).f0) false _ A9.out).mono ?_); rintro e w' ⟨rfl, ⟨nd, rfl⟩⟩; refine ⟨_, rfl, ?_⟩))); (go_meet); (case rel => exact ⟨_, (true), vQ, H', ⟨by have := HK1.out; first | omega | exact Nat.le_refl _⟩, ⟨by (with_reducible repeat (first | refine blk_drewN ?_ _ | refine blk_drew ?_ | refine blk_alloc ?_ _)); refine blk_put (cs := #[.int .i64 ((rd_T76 l0 x10_1).f0), .int .i64 ((rd_T76 l0 x10_1).f1), .int .i64 0]) ?_ 2 _ rfl; (with_reducible repeat (first | refine blk_drewN ?_ _ | refine blk_drew ?_ | refine blk_alloc ?_ _)); refine blk_put (cs := #[.int .i64 ((rd_T76 l0 x10_1).f0), .int .i64 0, .int .i64 0]) ?_ 1 _ rfl; (with_reducible repeat (first | refine blk_drewN ?_ _ | refine blk_drew ?_ | refine blk_alloc ?_ _)); refine blk_put (cs := #[.int .i64 0, .int .i64 0, .int .i64 0]) ?_ 0 _ rfl; (with_reducible repeat (first | refine blk_drewN ?_ _ | refine blk_drew ?_ | refine blk_alloc ?_ _)); exact BK285.out⟩, ⟨bQ⟩⟩)
     case rest =>
      clear HC6; (try clear c2b0); (try clear c2b1); (try clear p2); (try clear q2); (try clear hx2); (try clear c3b0); (try clear c4b0); (try clear c5b0); (try clear c13b0); (try clear c13b1); (try clear hcz14_0); (try clear hcz14_1); (try clear hcz14_2); (try clear hcz16_0); (try clear hcz16_1); (try clear hcz16_2); (try clear hcz17_0); (try clear hcz17_1); (try clear hcz17_2); (try clear hcz18_0); (try clear hcz18_1); (try clear hcz18_2); (try clear hcz8_0); (try clear hcz8_1); (try clear hcz8_2); (try clear hfz14_0); (try clear hfz14_1); (try clear hfz14_2); (try clear hfz16_0); (try clear hfz16_1); (try clear hfz16_2); (try clear hfz17_0); (try clear hfz17_1); (try clear hfz17_2); (try clear hfz18_0); (try clear hfz18_1); (try clear hfz18_2); (try clear hfz8_0); (try clear hfz8_1); (try clear hfz8_2); (try clear hx284_0); (try clear hx284_1); (try clear hx284_2); (try clear p2); (try clear p284); (try clear q284); obtain ⟨kq, x37_5, rfl, HA, HJ5, BK285, HB⟩ := hcut
      cases kq with
      | zero => exact absurd HA.out (by simp [impl_AreStreets.j1])
      | succ kj5 =>
       have H := HA.out; clear HA; (simp only [impl_AreStreets.j1] at H); (by_cases c19 : x37_5 = true); (· subst c19; replace H := tT H; obtain rfl := Option.some.inj H; go_wp2; go_ret; (exact ⟨eQ, bQ⟩))
       ·
        replace c19 := Bool.eq_false_iff.mpr c19; subst c19; replace H := tF H; obtain ⟨c20, H⟩ := nP H; have c20b0 := eq_true c20; (have c20b1 : decide (0 ≤ x10_1) = true := decide_eq_true c20); clear c20; obtain ⟨c21, H⟩ := nP H; have c21b0 := eq_true c21; (have c21b1 : decide (x10_1 ≤ (l0.length : Int)) = true := decide_eq_true c21); clear c21; (obtain ⟨y289, hy289⟩ : ∃ y_ : List (S76), y_ = (l0.take (x10_1 : Int).toNat) := ⟨_, rfl⟩); (replace H : ((impl_streetOf.f y289 ((rd_T76 l0 x10_1).f0) ((rd_T76 l0 x10_1).f1)).bind fun t293 => (if t293 ≥ 0 then (some false) else (impl_AreStreets.l0 kj5 l0 l0 (l0.length : Int) (wrap64 (x10_1 + 1))))) = some r := by first | (rw [hy289]; with_reducible exact H) | (have H2_ := (Option.bind_some _ _).symm.trans H; rw [hy289]; with_reducible exact H2_) | (have H2_ := (Option.bind_some _ _).symm.trans H; with_reducible exact H2_) | with_reducible exact H | (rw [hy289]; exact H) | exact H); have Ny289 := Aside0.mk hy289; clear hy289; obtain ⟨t293, A22, H⟩ := sQ H; (by_cases c23 : t293 ≥ 0)
        ·
         rw [if_pos c23] at H; (have c23b0 : decide (0 ≤ t293) = true := decide_eq_true c23); clear c23; obtain rfl := Option.some.inj H; (try go_wp2); (have n0_ := Aside0.mk (blk_drew BK285.out)); (have n1_ := Aside0.mk (below_drew1 HB.out)); replace BK285 := n0_; replace HB := n1_; clear n0_ n1_; (have q25 : (x10_1 : Int) ≤ ((l0.length : Int) : Int) := oD); obtain ⟨i025, hi025, _, hsz25, _⟩ := info_parts info76; (have hroom25 : l0.length ≤ c0 := HC0.out); (have hC25 : Kd.C k76 _ (some ad284) l0.length l0 := HR0.out); (have hcut25 := cut_to (P := Try.prog) 42 76 .i64 Try.underlying42 hi025 (some ad284) l0.length c0 x10_1 (oD) q25 hroom25); (have hr25 := Kd.C_take (m := (x10_1 : Int).toNat) hC25 (by omega)); (have hy25 : y289.length = (x10_1 : Int).toNat := (by rw [Ny289.out, List.length_take]; omega)); (rw [← Ny289.out] at hr25); (rw [← hy25] at hcut25); have HR292 := Aside0.mk hr25; (have HC292 := Aside0.mk (show y289.length ≤ c0 from by omega)); clear hr25 hC25 hroom25 hi025 hsz25; have KY25 := Aside0.mk hy25; clear hy25; replace q25 := eq_true q25; refine start_ (n := 9) (S := fun w' => w'.cell? ⟨gb285, 0, none⟩ = some (.int .i64 ((rd_T76 l0 x10_1).f0)) ∧ w'.cell? ⟨gb285, 1, none⟩ = some (.int .i64 ((rd_T76 l0 x10_1).f1)) ∧ w'.cell? ⟨gb285, 2, none⟩ = some (.int .i64 ((rd_T76 l0 x10_1).f2))) (ds := []) (Array.replicate 9 false) (by kernel_rfl) rfl rfl ⟨zC BK285 0 _, zC BK285 1 _, zC BK285 2 _⟩ (fun hHeld => ?_); refine with_tabW impl_AreStreets.tab8 impl_AreStreets.bits8 (fun HT_ HW_ => ?_); generalize wc.drew = w24 at BK285 HB HR292 hHeld ⊢; refine pQ 0 38 HT_ ?_; refine pQ 1 39 HT_ ?_; refine pQ 2 40 HT_ ?_; refine pQ 3 41 HT_ ?_; refine pQ 5 43 HT_ ?_; refine kQ 4 42 HT_ HW_ hHeld ?_; refine kQ 6 44 HT_ HW_ hHeld ?_; refine jQ 7 45 HT_ (fun K hK => ?_); refine gO Try.func54 #[.slice (some ad284) y289.length c0, .int .i64 ((rd_T76 l0 x10_1).f0), .int .i64 ((rd_T76 l0 x10_1).f1)] ?_; (with_reducible refine (impl_streetOf.calls _ _ y289 ((rd_T76 l0 x10_1).f0) ((rd_T76 l0 x10_1).f1) t293 _ ?side1 ?side2 A22.out).mono ?_); ((case side1 => exact sC (Kd.C_below HR292.out HB.out))); ((case side2 => exact HC292.out)); rintro e w26 ⟨rfl, hb⟩; refine ⟨_, rfl, ?_⟩; replace BK285 := uB BK285 hb; replace HB := uH hb; ((try clear hb)); ((try clear hb2)); ((try clear hk)); ((try clear hi)); refine hK.out _ _ ⟨zC BK285 0 _, zC BK285 1 _, zC BK285 2 _⟩ (fun hHeld => ?_); clear hK K; refine norm_ (a' := ?_) ?_ ?_; rotate_left; (· (show Act.put _ (some 45) _ = _); simp only [Act.put, lQ, lZ, lS, i64_w, i32_w]; rfl); refine pQ 8 46 HT_ ?_; refine done_ (done_of HT_.out (by kernel_rfl)) ?_; (try go_wp2); go_ret; (exact ⟨eQ, bQ⟩)
        ·
         rw [if_neg c23] at H; (have c23b0 : decide (0 ≤ t293) = false := decide_eq_false c23); clear c23; (have H' := Aside0.mk H); clear H; (try go_wp2); (have n0_ := Aside0.mk (blk_drew BK285.out)); (have n1_ := Aside0.mk (below_drew1 HB.out)); replace BK285 := n0_; replace HB := n1_; clear n0_ n1_; (have q28 : (x10_1 : Int) ≤ ((l0.length : Int) : Int) := oD); obtain ⟨i028, hi028, _, hsz28, _⟩ := info_parts info76; (have hroom28 : l0.length ≤ c0 := HC0.out); (have hC28 : Kd.C k76 _ (some ad284) l0.length l0 := HR0.out); (have hcut28 := cut_to (P := Try.prog) 42 76 .i64 Try.underlying42 hi028 (some ad284) l0.length c0 x10_1 (oD) q28 hroom28); (have hr28 := Kd.C_take (m := (x10_1 : Int).toNat) hC28 (by omega)); (have hy28 : y289.length = (x10_1 : Int).toNat := (by rw [Ny289.out, List.length_take]; omega)); (rw [← Ny289.out] at hr28); (rw [← hy28] at hcut28); have HR292 := Aside0.mk hr28; (have HC292 := Aside0.mk (show y289.length ≤ c0 from by omega)); clear hr28 hC28 hroom28 hi028 hsz28; have KY28 := Aside0.mk hy28; clear hy28; replace q28 := eq_true q28; refine start_ (n := 9) (S := fun w' => w'.cell? ⟨gb285, 0, none⟩ = some (.int .i64 ((rd_T76 l0 x10_1).f0)) ∧ w'.cell? ⟨gb285, 1, none⟩ = some (.int .i64 ((rd_T76 l0 x10_1).f1)) ∧ w'.cell? ⟨gb285, 2, none⟩ = some (.int .i64 ((rd_T76 l0 x10_1).f2))) (ds := []) (Array.replicate 9 false) (by kernel_rfl) rfl rfl ⟨zC BK285 0 _, zC BK285 1 _, zC BK285 2 _⟩ (fun hHeld => ?_); refine with_tabW impl_AreStreets.tab8 impl_AreStreets.bits8 (fun HT_ HW_ => ?_); generalize wc.drew = w27 at BK285 HB HR292 hHeld ⊢; refine pQ 0 38 HT_ ?_; refine pQ 1 39 HT_ ?_; refine pQ 2 40 HT_ ?_; refine pQ 3 41 HT_ ?_; refine pQ 5 43 HT_ ?_; refine kQ 4 42 HT_ HW_ hHeld ?_; refine kQ 6 44 HT_ HW_ hHeld ?_; refine jQ 7 45 HT_ (fun K hK => ?_); refine gO Try.func54 #[.slice (some ad284) y289.length c0, .int .i64 ((rd_T76 l0 x10_1).f0), .int .i64 ((rd_T76 l0 x10_1).f1)] ?_; (with_reducible refine (impl_streetOf.calls _ _ y289 ((rd_T76 l0 x10_1).f0) ((rd_T76 l0 x10_1).f1) t293 _ ?side1 ?side2 A22.out).mono ?_); ((case side1 => exact sC (Kd.C_below HR292.out HB.out))); ((case side2 => exact HC292.out)); rintro e w29 ⟨rfl, hb⟩; refine ⟨_, rfl, ?_⟩; replace BK285 := uB BK285 hb; replace HB := uH hb; ((try clear hb)); ((try clear hb2)); ((try clear hk)); ((try clear hi)); refine hK.out _ _ ⟨zC BK285 0 _, zC BK285 1 _, zC BK285 2 _⟩ (fun hHeld => ?_); clear hK K; refine norm_ (a' := ?_) ?_ ?_; rotate_left; (· (show Act.put _ (some 45) _ = _); simp only [Act.put, lQ, lZ, lS, i64_w, i32_w]; rfl); refine pQ 8 46 HT_ ?_; refine done_ (done_of HT_.out (by kernel_rfl)) ?_; (try go_wp2); (go_roundg kj5); (case measure => have := HK1.out; have := HJ5.out; omega); (case rel => exact ⟨(wrap64 (x10_1 + 1)), vQ, H', ⟨by have := HK1.out; have := HJ5.out; omega⟩, ⟨bQ⟩⟩)
    · rw [if_neg c3] at H; (have c3b0 : decide (x10_1 < (l0.length : Int)) = false := decide_eq_false c3); clear c3; obtain rfl := Option.some.inj H; go_wp2; go_ret; (exact ⟨eQ, bQ⟩)
end Go.Proofs.Ythbebbhfgffdfaa.PCrs
