-- Written by a program of this session (wip/myprint.py) for this claim.
import Derived.Test.YtmpncnphndafnaaPChgx0
import Derived.Test.YtmpncnphndafnaaPChgx22
import Derived.Test.YtmpncnphndafnaaPChgx29
namespace Go.Proofs.Ytmpncnphndafnaa.PChg
open Go.RowKit Go.Proofs.YtmpncnphndafnaaW.PrintWords Go.Proofs.YtmpncnphndafnaaW.PrintLast Go.Proofs.YtmpncnphndafnaaW.PrintMore
attribute [local go_sem] max2_int min2_int max_two min_two max_three min_three max_four min_four   -- for this text's walks alone
set_option linter.unusedVariables false
set_option linter.unusedSimpArgs false

/-! ### impl_GreenSince: function 37 -/
theorem cQ37 {w w1 : World} (HB : Aside0 (Below w.heap.size w w1)) {p : Addr} {v : Value} (h : w.cell? p = some v) : w1.cell? p = some v := (HB.out.cell (World.block_lt_of_cell? w _ h)).trans h
mutual
def impl_GreenSince.j0 : Nat → List (S66) → Int → Int → Int → Bool → Option (Int)
  | 0, _, _, _, _, _ => none
  | k + 1, x0, x1, x2, x7, x21 => if x21 = true then (some (-1)) else (impl_GreenSince.l0 k x0 x1 x2 x7)
def impl_GreenSince.l0 : Nat → List (S66) → Int → Int → Int → Option (Int)
  | 0, _, _, _, _ => none
  | k + 1, x0, x1, x2, x7 => if x7 > 0 then (if 0 ≤ (wrap64 (x7 - 1)) then (if (wrap64 (x7 - 1)) < (x0.length : Int) then ((impl_lightOf.f ((rd_T66 x0 (wrap64 (x7 - 1))).f0) ((rd_T66 x0 (wrap64 (x7 - 1))).f1) ((rd_T66 x0 (wrap64 (x7 - 1))).f2) x1).bind fun t239 => (if t239 = 1 then (impl_GreenSince.l0 k x0 x1 x2 (wrap64 (x7 - 1))) else (if 0 ≤ x7 then (if x7 < (x0.length : Int) then (some (wrap64 (x2 - ((rd_T66 x0 x7).f0)))) else (none)) else (none)))) else (none)) else (none)) else (if 0 ≤ x7 then (if x7 < (x0.length : Int) then (some (wrap64 (x2 - ((rd_T66 x0 x7).f0)))) else (none)) else (none))
end
def impl_GreenSince.f (k : Nat) (l0 : List (S66)) (a1 : Int) (a2 : Int) : Option (Int) := (impl_entryAt.f k l0 a2).bind fun t235 => (if t235 < 0 then (impl_GreenSince.j0 k l0 a1 a2 t235 true) else (if 0 ≤ t235 then (if t235 < (l0.length : Int) then ((impl_lightOf.f ((rd_T66 l0 t235).f0) ((rd_T66 l0 t235).f1) ((rd_T66 l0 t235).f2) a1).bind fun t237 => (impl_GreenSince.j0 k l0 a1 a2 t235 (t237 != 1))) else (none)) else (none)))
theorem impl_GreenSince.mono_l : ∀ k, (∀ y0 y1 y2 y3 y4, LeO (impl_GreenSince.j0 k y0 y1 y2 y3 y4) (impl_GreenSince.j0 (k + 1) y0 y1 y2 y3 y4)) ∧ (∀ y0 y1 y2 y3, LeO (impl_GreenSince.l0 k y0 y1 y2 y3) (impl_GreenSince.l0 (k + 1) y0 y1 y2 y3))
  | 0 => ⟨fun _ _ _ _ _ r h => by simp [impl_GreenSince.j0] at h, fun _ _ _ _ r h => by simp [impl_GreenSince.l0] at h⟩
  | k + 1 => by
    obtain ⟨ih0, ih1⟩ := impl_GreenSince.mono_l k
    refine ⟨?_, ?_⟩
    · intro y0 y1 y2 y3 y4
      unfold impl_GreenSince.j0
      repeat' first
      | (with_reducible exact ih0 _ _ _ _ _)
      | (with_reducible exact ih1 _ _ _ _)
      | (with_reducible exact impl_entryAt.mono _ _ _)
      | (with_reducible exact LeO.refl _)
      | (with_reducible exact LeO.none _)
      | (with_reducible refine LeO.ite ?_ ?_)
      | (with_reducible refine LeO.bind ?_ (fun _ => ?_))
      | exact ih0 _ _ _ _ _
      | exact ih1 _ _ _ _
      | exact impl_entryAt.mono _ _ _
      | exact LeO.none _
      | refine LeO.ite ?_ ?_
      | refine LeO.bind ?_ (fun _ => ?_)
    · intro y0 y1 y2 y3
      unfold impl_GreenSince.l0
      repeat' first
      | (with_reducible exact ih0 _ _ _ _ _)
      | (with_reducible exact ih1 _ _ _ _)
      | (with_reducible exact impl_entryAt.mono _ _ _)
      | (with_reducible exact LeO.refl _)
      | (with_reducible exact LeO.none _)
      | (with_reducible refine LeO.ite ?_ ?_)
      | (with_reducible refine LeO.bind ?_ (fun _ => ?_))
      | exact ih0 _ _ _ _ _
      | exact ih1 _ _ _ _
      | exact impl_entryAt.mono _ _ _
      | exact LeO.none _
      | refine LeO.ite ?_ ?_
      | refine LeO.bind ?_ (fun _ => ?_)
theorem impl_GreenSince.mono : ∀ a0 a1 a2 k, LeO (impl_GreenSince.f k a0 a1 a2) (impl_GreenSince.f (k + 1) a0 a1 a2) := by
 intro a0 a1 a2 k; (obtain ⟨ih0, ih1⟩ := impl_GreenSince.mono_l k); (unfold impl_GreenSince.f)
 repeat' first
  | (with_reducible exact ih0 _ _ _ _ _)
  | (with_reducible exact ih1 _ _ _ _)
  | (with_reducible exact impl_entryAt.mono _ _ _)
  | (with_reducible exact LeO.refl _)
  | (with_reducible exact LeO.none _)
  | (with_reducible refine LeO.ite ?_ ?_)
  | (with_reducible refine LeO.bind ?_ (fun _ => ?_))
  | exact ih0 _ _ _ _ _
  | exact ih1 _ _ _ _
  | exact impl_entryAt.mono _ _ _
  | exact LeO.none _
  | refine LeO.ite ?_ ?_
  | refine LeO.bind ?_ (fun _ => ?_)
set_option maxHeartbeats 8000000 in
set_option maxRecDepth 100000 in
theorem impl_GreenSince.calls (k : Nat) (A0 : Option Addr) (c0 : Nat) (l0 : List (S66)) (a1 : Int) (a2 : Int) (r : Int) (w : World) (hr0 : Kd.C k66 w A0 l0.length l0) (hc0 : l0.length ≤ c0) (h : impl_GreenSince.f k l0 a1 a2 = some r) :
    Calls Try.prog 37 #[.slice A0 l0.length c0, .int .i64 a1, .int .i64 a2] w fun e w' => e = .returned (.int .i64 r) ∧ Below w.heap.size w w' := by
 (have hu66 := Try.underlying66); have HR0 := Aside0.mk hr0; have HC0 := Aside0.mk hc0; clear hr0 hc0; have HB := Aside0.mk (Below.refl w.heap.size w); (have H : ((impl_entryAt.f k l0 a2).bind fun t235 => (if t235 < 0 then (impl_GreenSince.j0 k l0 a1 a2 t235 true) else (if 0 ≤ t235 then (if t235 < (l0.length : Int) then ((impl_lightOf.f ((rd_T66 l0 t235).f0) ((rd_T66 l0 t235).f1) ((rd_T66 l0 t235).f2) a1).bind fun t237 => (impl_GreenSince.j0 k l0 a1 a2 t235 (t237 != 1))) else (none)) else (none)))) = some r := h); clear h; (replace H := Option.bind_eq_some_iff.mp H); (obtain ⟨t235, A40, H⟩ := H); (replace H : (if t235 < 0 then (impl_GreenSince.j0 k l0 a1 a2 t235 true) else (if 0 ≤ t235 then (if t235 < (l0.length : Int) then ((impl_lightOf.f ((rd_T66 l0 t235).f0) ((rd_T66 l0 t235).f1) ((rd_T66 l0 t235).f2) a1).bind fun t237 => (impl_GreenSince.j0 k l0 a1 a2 t235 (t237 != 1))) else (none)) else (none))) = some r := H); have A4 := Aside0.mk A40; clear A40; have HC5 := Aside0.mk H; clear H; (go_enter Try.func37, Try.ntmps37); (go_upto_region 2 with (first | ((with_reducible refine gate_callee (f := 59) rfl ?_); refine goesL_ (some 10) rfl rfl Try.func59 (by kernel_rfl) rfl #[.slice A0 l0.length c0, .int .i64 a2] rfl (by (try simp only [List.map_toArray, List.map_cons, List.map_nil]); first | done | rfl | (simp only [List.length_drop, List.length_take]; rfl)) ?_; (with_reducible refine (impl_entryAt.calls k _ _ l0 a2 t235 _ ?side1 ?side2 A4.out).mono ?_); (case side1 => repeat (first | exact HR0.out | (with_reducible refine Kd.C_alloc ?_ _) | (with_reducible refine Kd.C_drewN ?_ _) | (with_reducible refine Kd.C_drew ?_))); (case side2 => exact HC0.out); rintro e w6 ⟨rfl, hb⟩; refine ⟨_, rfl, ?_⟩; have n0_ := Aside0.mk (below_step (by repeat (first | (with_reducible first | exact HB.out | apply below_alloc | apply pw_below_drewN | apply below_drew1) | exact HB.out)) hb); clear HB; have HB := n0_; clear n0_; (try clear hb); (try clear hb2); (try clear hk); (try clear hi)))); ((try simp only [Act.put, List.setIfInBounds_toArray, List.set_cons_zero, List.set_cons_succ])); (go_cut [21] (fun v21 wc => ∃ (kq : Nat) (x21_4 : Bool), v21 = .bool x21_4 ∧ Aside0 (impl_GreenSince.j0 kq l0 a1 a2 t235 x21_4 = some r) ∧ Aside0 (kq ≤ k) ∧ Aside0 (Below w.heap.size w wc)))
 case first =>
  (have H := HC5.out); clear HC5; (by_cases c7 : t235 < 0)
  · (rw [if_pos c7] at H); (have c7b0 : decide (t235 < 0) = true := decide_eq_true c7); clear c7; ((first | rw [c7b0] | (simp only [i64_w, i32_w]; rw [c7b0]) | skip)); (have H' := Aside0.mk H); clear H; (go_wp2); (go_meet); (case rel => exact ⟨_, (true), (by first | rfl | (simp; done) | (simp [*]; done)), H', ⟨by first | omega | exact Nat.le_refl _⟩, ⟨by repeat (first | (with_reducible first | exact HB.out | apply below_alloc | apply pw_below_drewN | apply below_drew1) | exact HB.out)⟩⟩)
  ·
   (rw [if_neg c7] at H); (have c7b0 : decide (t235 < 0) = false := decide_eq_false c7); clear c7; ((first | rw [c7b0] | (simp only [i64_w, i32_w]; rw [c7b0]) | skip)); (by_cases c8 : 0 ≤ t235)
   ·
    (rw [if_pos c8] at H); (have c8b0 : decide (0 ≤ t235) = true := decide_eq_true c8); clear c8; (by_cases c9 : t235 < (l0.length : Int))
    · (rw [if_pos c9] at H); (have c9b0 : decide (t235 < (l0.length : Int)) = true := decide_eq_true c9); clear c9; (replace H := Option.bind_eq_some_iff.mp H); (obtain ⟨t237, A100, H⟩ := H); (replace H : (impl_GreenSince.j0 k l0 a1 a2 t235 (t237 != 1)) = some r := H); have A10 := Aside0.mk A100; clear A100; (have H' := Aside0.mk H); clear H; (have p236 : 0 ≤ (t235 : Int) := of_decide_eq_true (by first | (with_reducible assumption) | assumption)); (have q236 : t235 < (l0.length : Int) := of_decide_eq_true (by first | (with_reducible assumption) | assumption)); (obtain ⟨ad236, A236_1, c236_1, e236, hx236_0, hx236_1, hx236_2, hl236_1, hi236_1⟩ := at_T66 HR0.out t235 p236 q236); (cases e236); (replace hx236_0 := cQ37 HB hx236_0); (replace hx236_1 := cQ37 HB hx236_1); (replace hx236_2 := cQ37 HB hx236_2); have HR236_1 := Aside0.mk hi236_1; have HC236_1 := Aside0.mk hl236_1; clear hi236_1 hl236_1; replace p236 := eq_true p236; replace q236 := eq_true q236; (go_wp2_with (first | (go_at_call 57; (with_reducible refine (impl_lightOf.calls ((rd_T66 l0 t235).f0) _ _ ((rd_T66 l0 t235).f1) ((rd_T66 l0 t235).f2) a1 t237 _ ?side1 ?side2 A10.out).mono ?_); (case side1 => repeat (first | exact (Kd.C_below HR236_1.out HB.out) | (with_reducible refine Kd.C_alloc ?_ _) | (with_reducible refine Kd.C_drewN ?_ _) | (with_reducible refine Kd.C_drew ?_))); (case side2 => exact HC236_1.out); rintro e w11 ⟨rfl, hb⟩; have n0_ := Aside0.mk (below_step (by repeat (first | (with_reducible first | exact HB.out | apply below_alloc | apply pw_below_drewN | apply below_drew1) | exact HB.out)) hb); clear HB; have HB := n0_; clear n0_; (try clear hb); (try clear hb2); (try clear hk); (try clear hi)))); (go_meet); (case rel => exact ⟨_, ((t237 != 1)), (by first | rfl | (simp; done) | (simp [*]; done)), H', ⟨by first | omega | exact Nat.le_refl _⟩, ⟨by repeat (first | (with_reducible first | exact HB.out | apply below_alloc | apply pw_below_drewN | apply below_drew1) | exact HB.out)⟩⟩)
    · (rw [if_neg c9] at H); (exact absurd H (by simp))
   · (rw [if_neg c8] at H); (exact absurd H (by simp))
 case rest =>
  clear HC5; (try clear c2); (try clear p2); (try clear q2); (try clear hx2); (try clear c3); (try clear c5); (try clear c7); (try clear c7b0); (try clear c8); (try clear c8b0); (try clear c9); (try clear c9b0); (try clear hx236_0); (try clear hx236_1); (try clear hx236_2); (try clear p236); (try clear q236); (obtain ⟨kq, x21_4, rfl, HA, HJ4, HB⟩ := hcut)
  cases kq with
  | zero => exact absurd HA.out (by simp [impl_GreenSince.j0])
  | succ kj4 =>
   (have H := HA.out); clear HA; (simp only [impl_GreenSince.j0] at H); (by_cases c12 : x21_4 = true); (· (subst c12); (have H1 : (some (-1)) = some r := by rw [if_pos rfl] at H; exact H); clear H; have H := H1; clear H1; (obtain rfl := Option.some.inj H); (go_wp2); go_ret; (exact ⟨by first | rfl | (simp [errW_none, errW_some] <;> rfl) | (simp [*, errW_none, errW_some] <;> rfl), by repeat (first | (with_reducible first | exact HB.out | apply below_alloc | apply pw_below_drewN | apply below_drew1) | exact HB.out)⟩))
   ·
    (replace c12 := Bool.eq_false_iff.mpr c12); (subst c12); (have H1 : (impl_GreenSince.l0 kj4 l0 a1 a2 t235) = some r := by rw [if_neg (show ¬ (false = true) by decide)] at H; exact H); clear H; have H := H1; clear H1; (have H' := Aside0.mk H); clear H; (go_wp2); (go_loopg [7] kj4 (fun kq v7 w' => ∃ (x7_2 : Int), v7 = .int .i64 x7_2 ∧ Aside0 (impl_GreenSince.l0 kq l0 a1 a2 x7_2 = some r) ∧ Aside0 (kq ≤ kj4) ∧ Aside0 (Below w.heap.size w w'))); (case atStart => exact ⟨(t235), (by first | rfl | (simp; done) | (simp [*]; done)), H', ⟨Nat.le_refl _⟩, ⟨by repeat (first | (with_reducible first | exact HB.out | apply below_alloc | apply pw_below_drewN | apply below_drew1) | exact HB.out)⟩⟩)
    case round =>
     clear H'; (try clear c1); (try clear c2); (try clear p2); (try clear q2); (try clear hx2); (try clear c3); (try clear c5); (try clear c7); (try clear c7b0); (try clear c8); (try clear c8b0); (try clear c9); (try clear c9b0); (try clear c12); (try clear hx236_0); (try clear hx236_1); (try clear hx236_2); (try clear p2); (try clear p236); (try clear q2); (try clear q236); (obtain ⟨x7_2, rfl, HA, HK2, HB⟩ := hrel)
     cases gk with
     | zero => exact absurd HA.out (by simp [impl_GreenSince.l0])
     | succ k2 =>
      (have H := HA.out); clear HA; (simp only [impl_GreenSince.l0] at H); (by_cases c13 : x7_2 > 0)
      ·
       (rw [if_pos c13] at H); (have c13b0 : decide (0 < x7_2) = true := decide_eq_true c13); clear c13; (obtain ⟨ji14, hji14⟩ : ∃ j_ : Int, (wrap64 (x7_2 - 1)) = j_ := ⟨_, rfl⟩); (replace H : (if 0 ≤ (ji14) then (if (ji14) < (l0.length : Int) then ((impl_lightOf.f ((rd_T66 l0 (ji14)).f0) ((rd_T66 l0 (ji14)).f1) ((rd_T66 l0 (ji14)).f2) a1).bind fun t239 => (if t239 = 1 then (impl_GreenSince.l0 k2 l0 a1 a2 ji14) else (if 0 ≤ x7_2 then (if x7_2 < (l0.length : Int) then (some (wrap64 (a2 - ((rd_T66 l0 x7_2).f0)))) else (none)) else (none)))) else (none)) else (none)) = some r := by first | (rw [hji14] at H; exact H) | (simp only [hji14] at H ⊢; exact H)); (have hji14w : (IntKind.i64.wrap (x7_2 - 1)) = ji14 := (i64_w _).trans hji14); (by_cases c15 : 0 ≤ (ji14))
       ·
        (rw [if_pos c15] at H); (have c15b0 : decide (0 ≤ (ji14)) = true := decide_eq_true c15); clear c15; (by_cases c16 : (ji14) < (l0.length : Int))
        ·
         (rw [if_pos c16] at H); (have c16b0 : decide ((ji14) < (l0.length : Int)) = true := decide_eq_true c16); clear c16; (replace H := Option.bind_eq_some_iff.mp H); (obtain ⟨t239, A170, H⟩ := H); (replace H : (if t239 = 1 then (impl_GreenSince.l0 k2 l0 a1 a2 ji14) else (if 0 ≤ x7_2 then (if x7_2 < (l0.length : Int) then (some (wrap64 (a2 - ((rd_T66 l0 x7_2).f0)))) else (none)) else (none))) = some r := H); have A17 := Aside0.mk A170; clear A170; (by_cases c18 : t239 = 1)
         · (rw [if_pos c18] at H); (have c18b0 : (t239 == 1) = true := beq_iff_eq.mpr c18); (have c18b1 : (t239 != 1) = false := bne_eq_false_iff_eq.mpr c18); clear c18; (have H' := Aside0.mk H); clear H; (have p238 : 0 ≤ ((ji14) : Int) := of_decide_eq_true (by first | (with_reducible assumption) | assumption)); (have q238 : (ji14) < (l0.length : Int) := of_decide_eq_true (by first | (with_reducible assumption) | assumption)); (obtain ⟨ad238, A238_1, c238_1, e238, hx238_0, hx238_1, hx238_2, hl238_1, hi238_1⟩ := at_T66 HR0.out (ji14) p238 q238); (cases e238); (replace hx238_0 := cQ37 HB hx238_0); (replace hx238_1 := cQ37 HB hx238_1); (replace hx238_2 := cQ37 HB hx238_2); have HR238_1 := Aside0.mk hi238_1; have HC238_1 := Aside0.mk hl238_1; clear hi238_1 hl238_1; replace p238 := eq_true p238; replace q238 := eq_true q238; (go_wp2_with (first | (go_at_call 57; (with_reducible refine (impl_lightOf.calls ((rd_T66 l0 (ji14)).f0) _ _ ((rd_T66 l0 (ji14)).f1) ((rd_T66 l0 (ji14)).f2) a1 t239 _ ?side1 ?side2 A17.out).mono ?_); (case side1 => repeat (first | exact (Kd.C_below HR238_1.out HB.out) | (with_reducible refine Kd.C_alloc ?_ _) | (with_reducible refine Kd.C_drewN ?_ _) | (with_reducible refine Kd.C_drew ?_))); (case side2 => exact HC238_1.out); rintro e w19 ⟨rfl, hb⟩; have n0_ := Aside0.mk (below_step (by repeat (first | (with_reducible first | exact HB.out | apply below_alloc | apply pw_below_drewN | apply below_drew1) | exact HB.out)) hb); clear HB; have HB := n0_; clear n0_; (try clear hb); (try clear hb2); (try clear hk); (try clear hi)))); (go_roundg k2); (case measure => have := HJ4.out; have := HK2.out; omega); (case rel => exact ⟨(ji14), (by first | rfl | (simp; done) | (simp only [← hji14] <;> (first | rfl | simp)) | (simp [*]; done)), H', ⟨by have := HJ4.out; have := HK2.out; omega⟩, ⟨by repeat (first | (with_reducible first | exact HB.out | apply below_alloc | apply pw_below_drewN | apply below_drew1) | exact HB.out)⟩⟩)
         ·
          (rw [if_neg c18] at H); (have c18b0 : (t239 == 1) = false := beq_eq_false_iff_ne.mpr c18); (have c18b1 : (t239 != 1) = true := bne_iff_ne.mpr c18); (by_cases c20 : 0 ≤ x7_2)
          ·
           (rw [if_pos c20] at H); (have c20b0 : decide (0 ≤ x7_2) = true := decide_eq_true c20); clear c20; (by_cases c21 : x7_2 < (l0.length : Int))
           · (rw [if_pos c21] at H); (have c21b0 : decide (x7_2 < (l0.length : Int)) = true := decide_eq_true c21); clear c21; (obtain rfl := Option.some.inj H); (have p238 : 0 ≤ ((ji14) : Int) := of_decide_eq_true (by first | (with_reducible assumption) | assumption)); (have q238 : (ji14) < (l0.length : Int) := of_decide_eq_true (by first | (with_reducible assumption) | assumption)); (obtain ⟨ad238, A238_1, c238_1, e238, hx238_0, hx238_1, hx238_2, hl238_1, hi238_1⟩ := at_T66 HR0.out (ji14) p238 q238); (cases e238); (replace hx238_0 := cQ37 HB hx238_0); (replace hx238_1 := cQ37 HB hx238_1); (replace hx238_2 := cQ37 HB hx238_2); have HR238_1 := Aside0.mk hi238_1; have HC238_1 := Aside0.mk hl238_1; clear hi238_1 hl238_1; replace p238 := eq_true p238; replace q238 := eq_true q238; (go_wp2_with (first | (go_at_call 57; (with_reducible refine (impl_lightOf.calls ((rd_T66 l0 (ji14)).f0) _ _ ((rd_T66 l0 (ji14)).f1) ((rd_T66 l0 (ji14)).f2) a1 t239 _ ?side1 ?side2 A17.out).mono ?_); (case side1 => repeat (first | exact (Kd.C_below HR238_1.out HB.out) | (with_reducible refine Kd.C_alloc ?_ _) | (with_reducible refine Kd.C_drewN ?_ _) | (with_reducible refine Kd.C_drew ?_))); (case side2 => exact HC238_1.out); rintro e w22 ⟨rfl, hb⟩; have n0_ := Aside0.mk (below_step (by repeat (first | (with_reducible first | exact HB.out | apply below_alloc | apply pw_below_drewN | apply below_drew1) | exact HB.out)) hb); clear HB; have HB := n0_; clear n0_; (try clear hb); (try clear hb2); (try clear hk); (try clear hi); have p240 : 0 ≤ (x7_2 : Int) := of_decide_eq_true (by first | (with_reducible assumption) | assumption); have q240 : x7_2 < (l0.length : Int) := of_decide_eq_true (by first | (with_reducible assumption) | assumption); obtain ⟨ad240, A240_1, c240_1, e240, hx240_0, hx240_1, hx240_2, hl240_1, hi240_1⟩ := at_T66 HR0.out x7_2 p240 q240; obtain rfl : ad238 = ad240 := (by injection e240); replace hx240_0 := cQ37 HB hx240_0; replace hx240_1 := cQ37 HB hx240_1; replace hx240_2 := cQ37 HB hx240_2; have HR240_1 := Aside0.mk hi240_1; have HC240_1 := Aside0.mk hl240_1; clear hi240_1 hl240_1; replace p240 := eq_true p240; replace q240 := eq_true q240))); go_ret; (exact ⟨by first | rfl | (simp [errW_none, errW_some] <;> rfl) | (simp only [← hji14]; first | rfl | (simp [errW_none, errW_some] <;> rfl)) | (simp [*, errW_none, errW_some] <;> rfl), by repeat (first | (with_reducible first | exact HB.out | apply below_alloc | apply pw_below_drewN | apply below_drew1) | exact HB.out)⟩)
           · (rw [if_neg c21] at H); (exact absurd H (by simp))
          · (rw [if_neg c20] at H); (exact absurd H (by simp))
        · (rw [if_neg c16] at H); (exact absurd H (by simp))
       · (rw [if_neg c15] at H); (exact absurd H (by simp))
      ·
       (rw [if_neg c13] at H); (have c13b0 : decide (0 < x7_2) = false := decide_eq_false c13); clear c13; (by_cases c23 : 0 ≤ x7_2)
       ·
        (rw [if_pos c23] at H); (have c23b0 : decide (0 ≤ x7_2) = true := decide_eq_true c23); clear c23; (by_cases c24 : x7_2 < (l0.length : Int))
        · (rw [if_pos c24] at H); (have c24b0 : decide (x7_2 < (l0.length : Int)) = true := decide_eq_true c24); clear c24; (obtain rfl := Option.some.inj H); (have p241 : 0 ≤ (x7_2 : Int) := of_decide_eq_true (by first | (with_reducible assumption) | assumption)); (have q241 : x7_2 < (l0.length : Int) := of_decide_eq_true (by first | (with_reducible assumption) | assumption)); (obtain ⟨ad241, A241_1, c241_1, e241, hx241_0, hx241_1, hx241_2, hl241_1, hi241_1⟩ := at_T66 HR0.out x7_2 p241 q241); (cases e241); (replace hx241_0 := cQ37 HB hx241_0); (replace hx241_1 := cQ37 HB hx241_1); (replace hx241_2 := cQ37 HB hx241_2); have HR241_1 := Aside0.mk hi241_1; have HC241_1 := Aside0.mk hl241_1; clear hi241_1 hl241_1; replace p241 := eq_true p241; replace q241 := eq_true q241; (go_wp2); go_ret; (exact ⟨by first | rfl | (simp [errW_none, errW_some] <;> rfl) | (simp [*, errW_none, errW_some] <;> rfl), by repeat (first | (with_reducible first | exact HB.out | apply below_alloc | apply pw_below_drewN | apply below_drew1) | exact HB.out)⟩)
        · (rw [if_neg c24] at H); (exact absurd H (by simp))
       · (rw [if_neg c23] at H); (exact absurd H (by simp))
end Go.Proofs.Ytmpncnphndafnaa.PChg
