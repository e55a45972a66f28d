/- The statement FnExactRunCars, whole: for every input the law returns true and leaves its arguments as they were; no condition. Out of the contract of the law's walk and the pure theorem. -/
import Derived.Test.YtmpncnphndafnacPCarsx0
import Derived.Test.YtmpncnphndafnacPCarsx8
import Derived.Test.YtmpncnphndafnacPCarsx14
import Derived.Test.YtmpncnphndafnacPCarsx20
import Derived.Test.YtmpncnphndafnacPCarsx23
import Derived.Test.YtmpncnphndafnacPCarsx1
import Derived.Test.YtmpncnphndafnacPCarsx2
import Derived.Test.YtmpncnphndafnacPCarsx10
import Derived.Test.YtmpncnphndafnacPCarsx12
import Derived.Test.YtmpncnphndafnacPCarsx13
import Derived.Test.YtmpncnphndafnacPCarsx25
import Derived.Test.YtmpncnphndafnacPCarsx27
import Derived.Test.YtmpncnphndafnacPCarsx28
import Derived.Test.YtmpncnphndafnacPCarsx29
import Derived.Test.YtmpncnphndafnacPCarsx30
import Derived.Test.YtmpncnphndafnacPCarsx31
import Derived.Test.YtmpncnphndafnacPCarsx32
import Derived.Test.YtmpncnphndafnacWWords
import Derived.Test.YtmpncnphndafnacWMore
import Derived.SizedLaws
import Derived.ChangeSlices
import Derived.ChangeArms
import Derived.WideShapes
import Derived.Below
import Derived.Test.YtmpncnphndafnacPCarsx3
import Derived.Test.YtmpncnphndafnacPCarsx4
import Derived.Test.YtmpncnphndafnacPCarsx5
import Derived.Test.YtmpncnphndafnacPCarsx6
import Derived.Test.YtmpncnphndafnacPCarsx7
import Derived.Test.YtmpncnphndafnacPCarsx9
import Derived.Test.YtmpncnphndafnacPCarsx11
import Derived.Test.YtmpncnphndafnacPCarsx15
import Derived.Test.YtmpncnphndafnacPCarsx17
import Derived.Test.YtmpncnphndafnacPCarsx18
import Derived.Test.YtmpncnphndafnacPCarsx19
import Derived.Test.YtmpncnphndafnacPCarsx21
import Derived.Test.YtmpncnphndafnacPCarsx22
import Derived.Test.YtmpncnphndafnacPCarsx24
import Derived.Test.YtmpncnphndafnacPCarsx26
import Derived.Test.YtmpncnphndafnacRows
import Derived.WalkKit
import Derived.ProofKit
import Derived.OpenShut
import Derived.ShutString
import Derived.ChangeOld
section
namespace Go.Proofs.Ytmpncnphndafnac.PCars
open Go.RowKit Go.Proofs.YtmpncnphndafnacW.PrintWords Go.Proofs.YtmpncnphndafnacW.PrintLast Go.Proofs.YtmpncnphndafnacW.PrintMore
attribute [local go_sem] max2_int min2_int max_two min_two max_three min_three max_four min_four   -- for this text's walks alone
set_option linter.unusedVariables false
set_option linter.unusedSimpArgs false

/-! ### spec_RunCars: function 23 -/
def spec_RunCars.l0 : Nat → List (S78) → List Int → Int → List (S52) → Int → Int → Option ((List (S52)) × Int)
  | 0, _, _, _, _, _, _ => none
  | k + 1, x0, x2, x3, x10, x11, x12 => if x12 < x3 then (if x3 ≤ 1000 then ((spec_MoveCars.f k x0 x10 x2).bind fun bt367 => (spec_RunCars.l0 k x0 x2 x3 bt367.1 (wrap64 (x11 + bt367.2)) (wrap64 (x12 + 1)))) else (some (x10, x11))) else (some (x10, x11))
def spec_RunCars.f (k : Nat) (l0 : List (S78)) (l1 : List (S52)) (l2 : List Int) (a3 : Int) : Option ((List (S52)) × Int) := (some (([] : List (S52)) : List (S52))).bind fun y361 => (if y361.length + l1.length < 4398046511104 then (spec_RunCars.l0 k l0 l2 a3 (y361 ++ l1) 0 0) else (none))
theorem spec_RunCars.mono_l : ∀ k, (∀ y0 y1 y2 y3 y4 y5, LeO (spec_RunCars.l0 k y0 y1 y2 y3 y4 y5) (spec_RunCars.l0 (k + 1) y0 y1 y2 y3 y4 y5))
  | 0 => fun _ _ _ _ _ _ r h => by simp [spec_RunCars.l0] at h
  | k + 1 => by
    have ih0 := spec_RunCars.mono_l k
    · intro y0 y1 y2 y3 y4 y5
      unfold spec_RunCars.l0
      repeat' first
      | (with_reducible exact ih0 _ _ _ _ _ _)
      | (with_reducible exact spec_MoveCars.mono _ _ _ _)
      | (with_reducible exact LeO.refl _)
      | (with_reducible exact LeO.none _)
      | (with_reducible refine LeO.ite ?_ ?_)
      | (with_reducible refine LeO.bind ?_ (fun _ => ?_))
      | exact ih0 _ _ _ _ _ _
      | exact spec_MoveCars.mono _ _ _ _
      | exact LeO.none _
      | refine LeO.ite ?_ ?_
      | refine LeO.bind ?_ (fun _ => ?_)
theorem spec_RunCars.mono : ∀ a0 a1 a2 a3 k, LeO (spec_RunCars.f k a0 a1 a2 a3) (spec_RunCars.f (k + 1) a0 a1 a2 a3) := by
  intro a0 a1 a2 a3 k
  have ih0 := spec_RunCars.mono_l k
  unfold spec_RunCars.f
  repeat' first
      | (with_reducible exact ih0 _ _ _ _ _ _)
      | (with_reducible exact spec_MoveCars.mono _ _ _ _)
      | (with_reducible exact LeO.refl _)
      | (with_reducible exact LeO.none _)
      | (with_reducible refine LeO.ite ?_ ?_)
      | (with_reducible refine LeO.bind ?_ (fun _ => ?_))
      | exact ih0 _ _ _ _ _ _
      | exact spec_MoveCars.mono _ _ _ _
      | exact LeO.none _
      | refine LeO.ite ?_ ?_
      | refine LeO.bind ?_ (fun _ => ?_)
set_option maxHeartbeats 8000000 in
set_option maxRecDepth 100000 in
theorem spec_RunCars.calls (k : Nat) (A0 : Option Addr) (c0 : Nat) (l0 : List (S78)) (A1 : Option Addr) (c1 : Nat) (l1 : List (S52)) (A2 : Option Addr) (c2 : Nat) (l2 : List Int) (a3 : Int) (r1 : List (S52)) (r2 : Int) (w : World) (hr0 : Kd.C k78 w A0 l0.length l0) (hc0 : l0.length ≤ c0) (hr1 : Kd.C k52 w A1 l1.length l1) (hc1 : l1.length ≤ c1) (hr2 : Kd.C (Kd.int .i64) w A2 l2.length l2) (hc2 : l2.length ≤ c2) (h : spec_RunCars.f k l0 l1 l2 a3 = some (r1, r2)) :
    Calls Try.prog 23 #[.slice A0 l0.length c0, .slice A1 l1.length c1, .slice A2 l2.length c2, .int .i64 a3] w fun e w' => ∃ v0_ : Value, e = .returned (.tuple #[v0_, .int .i64 r2]) ∧ Kd.R k52 52 w' w.heap.size (fun _ => True) v0_ r1 ∧ Below w.heap.size w w' := by
  have HR0 := Aside0.mk hr0
  have HC0 := Aside0.mk hc0
  clear hr0 hc0
  have HR1 := Aside0.mk hr1
  have HC1 := Aside0.mk hc1
  clear hr1 hc1
  have HR2 := Aside0.mk hr2
  have HC2 := Aside0.mk hc2
  clear hr2 hc2
  have HB := Aside0.mk (Below.refl w.heap.size w)
  have H : ((some (([] : List (S52)) : List (S52))).bind fun y361 => (if y361.length + l1.length < 4398046511104 then (spec_RunCars.l0 k l0 l2 a3 (y361 ++ l1) 0 0) else (none))) = some (r1, r2) := h
  clear h
  obtain ⟨y361, hy361⟩ : ∃ y_ : List (S52), y_ = (([] : List (S52))) := ⟨_, rfl⟩
  replace H : (if y361.length + l1.length < 4398046511104 then (spec_RunCars.l0 k l0 l2 a3 (y361 ++ l1) 0 0) else (none)) = some (r1, r2) := by first | (rw [hy361]; with_reducible exact H) | (have H2_ := (Option.bind_some _ _).symm.trans H; rw [hy361]; with_reducible exact H2_) | (have H2_ := (Option.bind_some _ _).symm.trans H; with_reducible exact H2_) | with_reducible exact H | (rw [hy361]; exact H) | exact H
  have Ny361 := Aside0.mk hy361
  clear hy361
  by_cases c5 : y361.length + l1.length < 4398046511104
  · rw [if_pos c5] at H
    have LMc5 := Aside0.mk c5
    clear c5
    obtain ⟨y364, hy364⟩ : ∃ y_ : List (S52), y_ = (y361 ++ l1) := ⟨_, rfl⟩
    replace H : (spec_RunCars.l0 k l0 l2 a3 y364 0 0) = some (r1, r2) := by first | (rw [hy364]; with_reducible exact H) | (have H2_ := (Option.bind_some _ _).symm.trans H; rw [hy364]; with_reducible exact H2_) | (have H2_ := (Option.bind_some _ _).symm.trans H; with_reducible exact H2_) | with_reducible exact H | (rw [hy364]; exact H) | exact H
    have Ny364 := Aside0.mk hy364
    clear hy364
    have H' := Aside0.mk H
    clear H
    go_enter Try.func23, Try.ntmps23
    go_wp2_with (first | ((with_reducible refine gate_dst (N := 15) rfl ?_); refine Kd.R_lit k52 _ 52 ?hg (N := 15) ?hd (xs := ([] : List (S52))) (inner := []) (ok := fun _ => True) (okp := fun _ => True) ?hr ?hp (fun _ hk => hk) trivial (Below.refl _ _) (Nat.le_refl _) (by simp) ?_; (case hd => rfl); (case hg => rfl); (case hr => first | (go_simp; done) | (go_simp; rfl)); (case hp => exact (Reps.none _ _)); intro v362 w6 ho7 hb hg_ hnew_; clear hg_ hnew_; (first | rw [← Ny361.out] at ho7 | (simp only [Int.reduceToNat] at ho7; rw [← Ny361.out] at ho7)); have n0_ := Aside0.mk (Kd.R_lower ho7 (below_size (by repeat (first | (with_reducible first | exact HB.out | apply below_alloc | apply pw_below_drewN | apply below_drew1) | exact HB.out)))); have n1_ := Aside0.mk (below_step (by repeat (first | (with_reducible first | exact HB.out | apply below_alloc | apply pw_below_drewN | apply below_drew1) | exact HB.out)) hb); clear HB; have HO363 := n0_; have HB := n1_; clear n0_ n1_; clear hb ho7) | ((with_reducible refine gate_builtin (b := .append) (xs := #[.tmp 15, .tmp 16]) rfl ?_); at_builtin; refine Kd.R_append_rows k52 (w0 := w) w.heap.size rfl (.tmp 15) (.tmp 16) 27 52 (.agg #[(.int .i64 0), (.int .i64 0), (.int .i64 0), (.int .i64 0)]) 32 rfl Try.underlying27 info52 rfl (by decide) (by omega) v362 y361 l1 _ _ _ (fun _ => True) (fun _ => False) rfl rfl ?aO ?aR (fun _ _ h => h) (fun _ h => h.elim) ?aF ?aB ?aS ?aL ?_; (case aR => repeat (first | exact (Kd.C_below HR1.out HB.out) | (with_reducible refine Kd.C_alloc ?_ _) | (with_reducible refine Kd.C_drewN ?_ _) | (with_reducible refine Kd.C_drew ?_))); (case aB => exact (by repeat (first | (with_reducible first | exact HB.out | apply below_alloc | apply pw_below_drewN | apply below_drew1) | exact HB.out))); (case aF => exact (fun _ _ => trivial)); (case aO => exact (by (with_reducible repeat (first | apply Kd.R_alloc | apply Kd.R_drewN | apply Kd.R_drew)); exact HO363.out)); (case aS => exact (below_size (by repeat (first | (with_reducible first | exact HB.out | apply below_alloc | apply pw_below_drewN | apply below_drew1) | exact HB.out)))); (case aL => have := LMc5.out; omega); intro v365 w8 ho hb hg hat; rw [← Ny364.out] at ho; have n0_ := Aside0.mk (hb); have n1_ := Aside0.mk (ho); clear HB; clear HO363; have HB := n0_; have HO366 := n1_; clear n0_ n1_; clear ho hb hg hat))
    go_loopg [10, 11, 12] k (fun kq v10 v11 v12 w' => ∃ (x10_1 : List (S52)) (x11_1 : Int) (x12_1 : Int), v11 = .int .i64 x11_1 ∧ v12 = .int .i64 x12_1 ∧ Aside0 (spec_RunCars.l0 kq l0 l2 a3 x10_1 x11_1 x12_1 = some (r1, r2)) ∧ Aside0 (kq ≤ k) ∧ Aside0 (Kd.R k52 52 w' w.heap.size (fun _ => True) v10 x10_1) ∧ Aside0 (Below w.heap.size w w'))
    case atStart => exact ⟨(y364), (0), (0), (by first | rfl | (simp; done) | (simp [*]; done)), (by first | rfl | (simp; done) | (simp [*]; done)), H', ⟨Nat.le_refl _⟩, ⟨by (with_reducible repeat (first | apply Kd.R_alloc | apply Kd.R_drewN | apply Kd.R_drew)); exact HO366.out⟩, ⟨by repeat (first | (with_reducible first | exact HB.out | apply below_alloc | apply pw_below_drewN | apply below_drew1) | exact HB.out)⟩⟩
    case round =>
      clear H'
      try clear c1
      try clear c2
      try clear p2
      try clear c5
      obtain ⟨x10_1, x11_1, x12_1, rfl, rfl, HA, HK1, HO_10, HB⟩ := hrel
      cases gk with
      | zero => exact absurd HA.out (by simp [spec_RunCars.l0])
      | succ k1 =>
        have H := HA.out
        clear HA
        simp only [spec_RunCars.l0] at H
        by_cases c9 : x12_1 < a3
        · rw [if_pos c9] at H
          have c9b0 : decide (x12_1 < a3) = true := decide_eq_true c9
          clear c9
          by_cases c10 : a3 ≤ 1000
          · rw [if_pos c10] at H
            have c10b0 : decide (a3 ≤ 1000) = true := decide_eq_true c10
            clear c10
            replace H := Option.bind_eq_some_iff.mp H
            obtain ⟨⟨t367, t368⟩, A110, H⟩ := H
            replace H : (spec_RunCars.l0 k1 l0 l2 a3 t367 (wrap64 (x11_1 + t368)) (wrap64 (x12_1 + 1))) = some (r1, r2) := H
            have A11 := Aside0.mk A110
            clear A110
            have H' := Aside0.mk H
            clear H
            obtain ⟨Ao12, co12, eo12⟩ := Kd.R_slice HO_10.out
            subst eo12
            go_wp2_with (first | ((with_reducible refine gate_callee (f := 11) rfl ?_); refine goesL_ (some 31) rfl rfl Try.func11 (by kernel_rfl) rfl #[.slice A0 l0.length c0, .slice Ao12 x10_1.length co12, .slice A2 l2.length c2] rfl (by (try simp only [List.map_toArray, List.map_cons, List.map_nil]); first | done | rfl | (simp only [List.length_drop, List.length_take]; rfl)) ?_; (with_reducible refine (spec_MoveCars.calls k1 _ _ l0 _ _ x10_1 _ _ l2 t367 t368 _ ?side1 ?side2 ?side3 ?side4 ?side5 ?side6 A11.out).mono ?_); (case side1 => repeat (first | exact (Kd.C_below HR0.out HB.out) | (with_reducible refine Kd.C_alloc ?_ _) | (with_reducible refine Kd.C_drewN ?_ _) | (with_reducible refine Kd.C_drew ?_))); (case side2 => exact HC0.out); (case side3 => repeat (first | exact (Kd.R_reads' HO_10.out).2.2 | (with_reducible refine Kd.C_alloc ?_ _) | (with_reducible refine Kd.C_drewN ?_ _) | (with_reducible refine Kd.C_drew ?_))); (case side4 => exact (Kd.R_reads' HO_10.out).2.1); (case side5 => repeat (first | exact (Kd.C_below HR2.out HB.out) | (with_reducible refine Kd.C_alloc ?_ _) | (with_reducible refine Kd.C_drewN ?_ _) | (with_reducible refine Kd.C_drew ?_))); (case side6 => exact HC2.out); rintro e w13 ⟨v369, rfl, ho0, hb⟩; refine ⟨_, rfl, ?_⟩; have n0_ := Aside0.mk (Kd.R_elder' (by (with_reducible repeat (first | apply Kd.R_alloc | apply Kd.R_drewN | apply Kd.R_drew)); exact HO_10.out) (Kd.R_base ho0) hb); have n1_ := Aside0.mk (Kd.R_lower (Kd.R_new' ho0 (Kd.R_lt (by (with_reducible repeat (first | apply Kd.R_alloc | apply Kd.R_drewN | apply Kd.R_drew)); exact HO_10.out))) (below_size (by repeat (first | (with_reducible first | exact HB.out | apply below_alloc | apply pw_below_drewN | apply below_drew1) | exact HB.out)))); have n2_ := Aside0.mk (below_step (by repeat (first | (with_reducible first | exact HB.out | apply below_alloc | apply pw_below_drewN | apply below_drew1) | exact HB.out)) hb); clear HO_10; clear HB; have HO_10 := n0_; have HO370 := n1_; have HB := n2_; clear n0_ n1_ n2_; (try clear hb); (try clear hb2); (try clear hk); (try clear hi); (try clear ho0)))
            go_roundg k1
            case measure => have := HK1.out; omega
            case rel => exact ⟨(t367), (wrap64 (x11_1 + t368)), (wrap64 (x12_1 + 1)), (by first | rfl | (simp; done) | (simp [*]; done)), (by first | rfl | (simp; done) | (simp [*]; done)), H', ⟨by have := HK1.out; omega⟩, ⟨by (with_reducible repeat (first | apply Kd.R_alloc | apply Kd.R_drewN | apply Kd.R_drew)); exact Kd.R_mono HO370.out (fun _ hk => trivial)⟩, ⟨by repeat (first | (with_reducible first | exact HB.out | apply below_alloc | apply pw_below_drewN | apply below_drew1) | exact HB.out)⟩⟩
          · rw [if_neg c10] at H
            have c10b0 : decide (a3 ≤ 1000) = false := decide_eq_false c10
            clear c10
            simp only [Option.some.injEq, Prod.mk.injEq] at H
            obtain ⟨rfl, rfl⟩ := H
            go_wp2
            go_ret2
            exact ⟨_, by first | rfl | (simp [errW_none, errW_some] <;> rfl) | (simp [*, errW_none, errW_some] <;> rfl), by (with_reducible repeat (first | apply Kd.R_alloc | apply Kd.R_drewN | apply Kd.R_drew)); exact HO_10.out, by repeat (first | (with_reducible first | exact HB.out | apply below_alloc | apply pw_below_drewN | apply below_drew1) | exact HB.out)⟩
        · rw [if_neg c9] at H
          have c9b0 : decide (x12_1 < a3) = false := decide_eq_false c9
          clear c9
          simp only [Option.some.injEq, Prod.mk.injEq] at H
          obtain ⟨rfl, rfl⟩ := H
          go_wp2
          go_ret2
          exact ⟨_, by first | rfl | (simp [errW_none, errW_some] <;> rfl) | (simp [*, errW_none, errW_some] <;> rfl), by (with_reducible repeat (first | apply Kd.R_alloc | apply Kd.R_drewN | apply Kd.R_drew)); exact HO_10.out, by repeat (first | (with_reducible first | exact HB.out | apply below_alloc | apply pw_below_drewN | apply below_drew1) | exact HB.out)⟩
  · rw [if_neg c5] at H
    exact absurd H (by simp)

end Go.Proofs.Ytmpncnphndafnac.PCars
end

section
namespace Go.Proofs.Ytmpncnphndafnac.PCars
open Go.RowKit Go.Proofs.YtmpncnphndafnacW.PrintWords Go.Proofs.YtmpncnphndafnacW.PrintLast Go.Proofs.YtmpncnphndafnacW.PrintMore
attribute [local go_sem] max2_int min2_int max_two min_two max_three min_three max_four min_four   -- for this text's walks alone
set_option linter.unusedVariables false
set_option linter.unusedSimpArgs false

/-! ### impl_RunCars: function 24 -/
def impl_RunCars.l0 : Nat → List (S78) → List Int → List (S52) → Int → Int → Int → Option ((List (S52)) × Int)
  | 0, _, _, _, _, _, _ => none
  | k + 1, x0, x2, x10, x11, x20, x21 => if x21 < x20 then ((impl_MoveCars.f k x0 x10 x2).bind fun bt375 => (impl_RunCars.l0 k x0 x2 bt375.1 (wrap64 (x11 + bt375.2)) x20 (wrap64 (x21 + 1)))) else (some (x10, x11))
def impl_RunCars.f (k : Nat) (l0 : List (S78)) (l1 : List (S52)) (l2 : List Int) (a3 : Int) : Option ((List (S52)) × Int) := (impl_Car.f l1).bind fun t371 => ((impl_InRange.f a3 0 1000).bind fun t374 => (if t374 = true then (impl_RunCars.l0 k l0 l2 t371 0 a3 0) else (some (t371, 0))))
theorem impl_RunCars.mono_l : ∀ k, (∀ y0 y1 y2 y3 y4 y5, LeO (impl_RunCars.l0 k y0 y1 y2 y3 y4 y5) (impl_RunCars.l0 (k + 1) y0 y1 y2 y3 y4 y5))
  | 0 => fun _ _ _ _ _ _ r h => by simp [impl_RunCars.l0] at h
  | k + 1 => by
    have ih0 := impl_RunCars.mono_l k
    · intro y0 y1 y2 y3 y4 y5
      unfold impl_RunCars.l0
      repeat' first
      | (with_reducible exact ih0 _ _ _ _ _ _)
      | (with_reducible exact impl_MoveCars.mono _ _ _ _)
      | (with_reducible exact LeO.refl _)
      | (with_reducible exact LeO.none _)
      | (with_reducible refine LeO.ite ?_ ?_)
      | (with_reducible refine LeO.bind ?_ (fun _ => ?_))
      | exact ih0 _ _ _ _ _ _
      | exact impl_MoveCars.mono _ _ _ _
      | exact LeO.none _
      | refine LeO.ite ?_ ?_
      | refine LeO.bind ?_ (fun _ => ?_)
theorem impl_RunCars.mono : ∀ a0 a1 a2 a3 k, LeO (impl_RunCars.f k a0 a1 a2 a3) (impl_RunCars.f (k + 1) a0 a1 a2 a3) := by
  intro a0 a1 a2 a3 k
  have ih0 := impl_RunCars.mono_l k
  unfold impl_RunCars.f
  repeat' first
      | (with_reducible exact ih0 _ _ _ _ _ _)
      | (with_reducible exact impl_MoveCars.mono _ _ _ _)
      | (with_reducible exact LeO.refl _)
      | (with_reducible exact LeO.none _)
      | (with_reducible refine LeO.ite ?_ ?_)
      | (with_reducible refine LeO.bind ?_ (fun _ => ?_))
      | exact ih0 _ _ _ _ _ _
      | exact impl_MoveCars.mono _ _ _ _
      | exact LeO.none _
      | refine LeO.ite ?_ ?_
      | refine LeO.bind ?_ (fun _ => ?_)
set_option maxHeartbeats 8000000 in
set_option maxRecDepth 100000 in
theorem impl_RunCars.calls (k : Nat) (A0 : Option Addr) (c0 : Nat) (l0 : List (S78)) (A1 : Option Addr) (c1 : Nat) (l1 : List (S52)) (A2 : Option Addr) (c2 : Nat) (l2 : List Int) (a3 : Int) (r1 : List (S52)) (r2 : Int) (w : World) (hr0 : Kd.C k78 w A0 l0.length l0) (hc0 : l0.length ≤ c0) (hr1 : Kd.C k52 w A1 l1.length l1) (hc1 : l1.length ≤ c1) (hr2 : Kd.C (Kd.int .i64) w A2 l2.length l2) (hc2 : l2.length ≤ c2) (h : impl_RunCars.f k l0 l1 l2 a3 = some (r1, r2)) :
    Calls Try.prog 24 #[.slice A0 l0.length c0, .slice A1 l1.length c1, .slice A2 l2.length c2, .int .i64 a3] w fun e w' => ∃ v0_ : Value, e = .returned (.tuple #[v0_, .int .i64 r2]) ∧ Kd.R k52 52 w' w.heap.size (fun _ => True) v0_ r1 ∧ Below w.heap.size w w' := by
  have HR0 := Aside0.mk hr0
  have HC0 := Aside0.mk hc0
  clear hr0 hc0
  have HR1 := Aside0.mk hr1
  have HC1 := Aside0.mk hc1
  clear hr1 hc1
  have HR2 := Aside0.mk hr2
  have HC2 := Aside0.mk hc2
  clear hr2 hc2
  have HB := Aside0.mk (Below.refl w.heap.size w)
  have H : ((impl_Car.f l1).bind fun t371 => ((impl_InRange.f a3 0 1000).bind fun t374 => (if t374 = true then (impl_RunCars.l0 k l0 l2 t371 0 a3 0) else (some (t371, 0))))) = some (r1, r2) := h
  clear h
  replace H := Option.bind_eq_some_iff.mp H
  obtain ⟨t371, A50, H⟩ := H
  replace H : ((impl_InRange.f a3 0 1000).bind fun t374 => (if t374 = true then (impl_RunCars.l0 k l0 l2 t371 0 a3 0) else (some (t371, 0)))) = some (r1, r2) := H
  have A5 := Aside0.mk A50
  clear A50
  replace H := Option.bind_eq_some_iff.mp H
  obtain ⟨t374, A60, H⟩ := H
  replace H : (if t374 = true then (impl_RunCars.l0 k l0 l2 t371 0 a3 0) else (some (t371, 0))) = some (r1, r2) := H
  have A6 := Aside0.mk A60
  clear A60
  by_cases c7 : t374 = true
  · subst c7
    have H1 : (impl_RunCars.l0 k l0 l2 t371 0 a3 0) = some (r1, r2) := by rw [if_pos rfl] at H; exact H
    clear H
    have H := H1
    clear H1
    have H' := Aside0.mk H
    clear H
    go_enter Try.func24, Try.ntmps24
    go_wp2_with (first | ((with_reducible refine gate_callee (f := 52) rfl ?_); refine goesL_ (some 14) rfl rfl Try.func52 (by kernel_rfl) rfl #[.slice A1 l1.length c1] rfl (by (try simp only [List.map_toArray, List.map_cons, List.map_nil]); first | done | rfl | (simp only [List.length_drop, List.length_take]; rfl)) ?_; (with_reducible refine (impl_Car.calls _ _ l1 t371 _ ?side1 ?side2 A5.out).mono ?_); (case side1 => repeat (first | exact HR1.out | (with_reducible refine Kd.C_alloc ?_ _) | (with_reducible refine Kd.C_drewN ?_ _) | (with_reducible refine Kd.C_drew ?_))); (case side2 => exact HC1.out); rintro e w8 ⟨v372, rfl, ho0, hb⟩; refine ⟨_, rfl, ?_⟩; have n0_ := Aside0.mk (Kd.R_lower ho0 (below_size (by repeat (first | (with_reducible first | exact HB.out | apply below_alloc | apply pw_below_drewN | apply below_drew1) | exact HB.out)))); have n1_ := Aside0.mk (below_step (by repeat (first | (with_reducible first | exact HB.out | apply below_alloc | apply pw_below_drewN | apply below_drew1) | exact HB.out)) hb); clear HB; have HO373 := n0_; have HB := n1_; clear n0_ n1_; (try clear hb); (try clear hb2); (try clear hk); (try clear hi); (try clear ho0)) | ((with_reducible refine gate_callee (f := 56) rfl ?_); refine goesL_ (some 16) rfl rfl Try.func56 (by kernel_rfl) rfl #[.int .i64 a3, .int .i64 0, .int .i64 1000] rfl (by (try simp only [List.map_toArray, List.map_cons, List.map_nil]); first | done | rfl | (simp only [List.length_drop, List.length_take]; rfl)) ?_; (with_reducible refine (impl_InRange.calls a3 0 1000 true _ A6.out).mono ?_); rintro e w' ⟨rfl, ⟨nd, rfl⟩⟩; refine ⟨_, rfl, ?_⟩))
    go_loopg [10, 11, 21] k (fun kq v10 v11 v21 w' => ∃ (x10_1 : List (S52)) (x11_1 : Int) (x21_1 : Int), v11 = .int .i64 x11_1 ∧ v21 = .int .i64 x21_1 ∧ Aside0 (impl_RunCars.l0 kq l0 l2 x10_1 x11_1 a3 x21_1 = some (r1, r2)) ∧ Aside0 (kq ≤ k) ∧ Aside0 (Kd.R k52 52 w' w.heap.size (fun _ => True) v10 x10_1) ∧ Aside0 (Below w.heap.size w w'))
    case atStart => exact ⟨(t371), (0), (0), (by first | rfl | (simp; done) | (simp [*]; done)), (by first | rfl | (simp; done) | (simp [*]; done)), H', ⟨Nat.le_refl _⟩, ⟨by (with_reducible repeat (first | apply Kd.R_alloc | apply Kd.R_drewN | apply Kd.R_drew)); exact HO373.out⟩, ⟨by repeat (first | (with_reducible first | exact HB.out | apply below_alloc | apply pw_below_drewN | apply below_drew1) | exact HB.out)⟩⟩
    case round =>
      clear H'
      try clear c1
      try clear c2
      try clear p2
      try clear c5
      try clear c7
      obtain ⟨x10_1, x11_1, x21_1, rfl, rfl, HA, HK1, HO_10, HB⟩ := hrel
      cases gk with
      | zero => exact absurd HA.out (by simp [impl_RunCars.l0])
      | succ k1 =>
        have H := HA.out
        clear HA
        simp only [impl_RunCars.l0] at H
        by_cases c9 : x21_1 < a3
        · rw [if_pos c9] at H
          have c9b0 : decide (x21_1 < a3) = true := decide_eq_true c9
          clear c9
          replace H := Option.bind_eq_some_iff.mp H
          obtain ⟨⟨t375, t376⟩, A100, H⟩ := H
          replace H : (impl_RunCars.l0 k1 l0 l2 t375 (wrap64 (x11_1 + t376)) a3 (wrap64 (x21_1 + 1))) = some (r1, r2) := H
          have A10 := Aside0.mk A100
          clear A100
          have H' := Aside0.mk H
          clear H
          obtain ⟨Ao11, co11, eo11⟩ := Kd.R_slice HO_10.out
          subst eo11
          go_wp2_with (first | ((with_reducible refine gate_callee (f := 15) rfl ?_); refine goesL_ (some 27) rfl rfl Try.func15 (by kernel_rfl) rfl #[.slice A0 l0.length c0, .slice Ao11 x10_1.length co11, .slice A2 l2.length c2] rfl (by (try simp only [List.map_toArray, List.map_cons, List.map_nil]); first | done | rfl | (simp only [List.length_drop, List.length_take]; rfl)) ?_; (with_reducible refine (impl_MoveCars.calls k1 _ _ l0 _ _ x10_1 _ _ l2 t375 t376 _ ?side1 ?side2 ?side3 ?side4 ?side5 ?side6 A10.out).mono ?_); (case side1 => repeat (first | exact (Kd.C_below HR0.out HB.out) | (with_reducible refine Kd.C_alloc ?_ _) | (with_reducible refine Kd.C_drewN ?_ _) | (with_reducible refine Kd.C_drew ?_))); (case side2 => exact HC0.out); (case side3 => repeat (first | exact (Kd.R_reads' HO_10.out).2.2 | (with_reducible refine Kd.C_alloc ?_ _) | (with_reducible refine Kd.C_drewN ?_ _) | (with_reducible refine Kd.C_drew ?_))); (case side4 => exact (Kd.R_reads' HO_10.out).2.1); (case side5 => repeat (first | exact (Kd.C_below HR2.out HB.out) | (with_reducible refine Kd.C_alloc ?_ _) | (with_reducible refine Kd.C_drewN ?_ _) | (with_reducible refine Kd.C_drew ?_))); (case side6 => exact HC2.out); rintro e w12 ⟨v377, rfl, ho0, hb⟩; refine ⟨_, rfl, ?_⟩; have n0_ := Aside0.mk (Kd.R_elder' (by (with_reducible repeat (first | apply Kd.R_alloc | apply Kd.R_drewN | apply Kd.R_drew)); exact HO_10.out) (Kd.R_base ho0) hb); have n1_ := Aside0.mk (Kd.R_lower (Kd.R_new' ho0 (Kd.R_lt (by (with_reducible repeat (first | apply Kd.R_alloc | apply Kd.R_drewN | apply Kd.R_drew)); exact HO_10.out))) (below_size (by repeat (first | (with_reducible first | exact HB.out | apply below_alloc | apply pw_below_drewN | apply below_drew1) | exact HB.out)))); have n2_ := Aside0.mk (below_step (by repeat (first | (with_reducible first | exact HB.out | apply below_alloc | apply pw_below_drewN | apply below_drew1) | exact HB.out)) hb); clear HO_10; clear HB; have HO_10 := n0_; have HO378 := n1_; have HB := n2_; clear n0_ n1_ n2_; (try clear hb); (try clear hb2); (try clear hk); (try clear hi); (try clear ho0)))
          go_roundg k1
          case measure => have := HK1.out; omega
          case rel => exact ⟨(t375), (wrap64 (x11_1 + t376)), (wrap64 (x21_1 + 1)), (by first | rfl | (simp; done) | (simp [*]; done)), (by first | rfl | (simp; done) | (simp [*]; done)), H', ⟨by have := HK1.out; omega⟩, ⟨by (with_reducible repeat (first | apply Kd.R_alloc | apply Kd.R_drewN | apply Kd.R_drew)); exact Kd.R_mono HO378.out (fun _ hk => trivial)⟩, ⟨by repeat (first | (with_reducible first | exact HB.out | apply below_alloc | apply pw_below_drewN | apply below_drew1) | exact HB.out)⟩⟩
        · rw [if_neg c9] at H
          have c9b0 : decide (x21_1 < a3) = false := decide_eq_false c9
          clear c9
          simp only [Option.some.injEq, Prod.mk.injEq] at H
          obtain ⟨rfl, rfl⟩ := H
          go_wp2
          go_ret2
          exact ⟨_, by first | rfl | (simp [errW_none, errW_some] <;> rfl) | (simp [*, errW_none, errW_some] <;> rfl), by (with_reducible repeat (first | apply Kd.R_alloc | apply Kd.R_drewN | apply Kd.R_drew)); exact HO_10.out, by repeat (first | (with_reducible first | exact HB.out | apply below_alloc | apply pw_below_drewN | apply below_drew1) | exact HB.out)⟩
  · replace c7 := Bool.eq_false_iff.mpr c7
    subst c7
    have H1 : (some (t371, 0)) = some (r1, r2) := by rw [if_neg (show ¬ (false = true) by decide)] at H; exact H
    clear H
    have H := H1
    clear H1
    simp only [Option.some.injEq, Prod.mk.injEq] at H
    obtain ⟨rfl, rfl⟩ := H
    go_enter Try.func24, Try.ntmps24
    go_wp2_with (first | ((with_reducible refine gate_callee (f := 52) rfl ?_); refine goesL_ (some 14) rfl rfl Try.func52 (by kernel_rfl) rfl #[.slice A1 l1.length c1] rfl (by (try simp only [List.map_toArray, List.map_cons, List.map_nil]); first | done | rfl | (simp only [List.length_drop, List.length_take]; rfl)) ?_; (with_reducible refine (impl_Car.calls _ _ l1 t371 _ ?side1 ?side2 A5.out).mono ?_); (case side1 => repeat (first | exact HR1.out | (with_reducible refine Kd.C_alloc ?_ _) | (with_reducible refine Kd.C_drewN ?_ _) | (with_reducible refine Kd.C_drew ?_))); (case side2 => exact HC1.out); rintro e w13 ⟨v372, rfl, ho0, hb⟩; refine ⟨_, rfl, ?_⟩; have n0_ := Aside0.mk (Kd.R_lower ho0 (below_size (by repeat (first | (with_reducible first | exact HB.out | apply below_alloc | apply pw_below_drewN | apply below_drew1) | exact HB.out)))); have n1_ := Aside0.mk (below_step (by repeat (first | (with_reducible first | exact HB.out | apply below_alloc | apply pw_below_drewN | apply below_drew1) | exact HB.out)) hb); clear HB; have HO373 := n0_; have HB := n1_; clear n0_ n1_; (try clear hb); (try clear hb2); (try clear hk); (try clear hi); (try clear ho0)) | ((with_reducible refine gate_callee (f := 56) rfl ?_); refine goesL_ (some 16) rfl rfl Try.func56 (by kernel_rfl) rfl #[.int .i64 a3, .int .i64 0, .int .i64 1000] rfl (by (try simp only [List.map_toArray, List.map_cons, List.map_nil]); first | done | rfl | (simp only [List.length_drop, List.length_take]; rfl)) ?_; (with_reducible refine (impl_InRange.calls a3 0 1000 false _ A6.out).mono ?_); rintro e w' ⟨rfl, ⟨nd, rfl⟩⟩; refine ⟨_, rfl, ?_⟩))
    go_ret2
    exact ⟨_, by first | rfl | (simp [errW_none, errW_some] <;> rfl) | (simp [*, errW_none, errW_some] <;> rfl), by (with_reducible repeat (first | apply Kd.R_alloc | apply Kd.R_drewN | apply Kd.R_drew)); exact HO373.out, by repeat (first | (with_reducible first | exact HB.out | apply below_alloc | apply pw_below_drewN | apply below_drew1) | exact HB.out)⟩

end Go.Proofs.Ytmpncnphndafnac.PCars
end

section
namespace Go.Proofs.Ytmpncnphndafnac.PCars
open Go.RowKit Go.Proofs.YtmpncnphndafnacW.PrintWords Go.Proofs.YtmpncnphndafnacW.PrintLast Go.Proofs.YtmpncnphndafnacW.PrintMore
attribute [local go_sem] max2_int min2_int max_two min_two max_three min_three max_four min_four   -- for this text's walks alone
set_option linter.unusedVariables false
set_option linter.unusedSimpArgs false

/-! ### laws_FnExactRunCars: function 4 -/
mutual
def laws_FnExactRunCars.j0 : Nat → List (S80) → List (S82) → List Int → Int → List (S52) → Int → List (S78) → List (S52) → List Int → List (S52) → Int → Bool → Option (Bool)
  | 0, _, _, _, _, _, _, _, _, _, _, _, _ => none
  | k + 1, x0, x1, x2, x3, x10, x11, x12, x13, x14, x15, x16, x68 => if x68 = true then (some false) else ((laws_toStreetS.f k x0).bind fun t408 => ((laws_eqStreetS.f k x12 t408).bind fun t411 => (if t411 = true then ((laws_toCarS.f k x1).bind fun t412 => ((laws_eqCarS.f k x13 t412).bind fun t415 => (if t415 = true then ((laws_toIntS.f k x2).bind fun t416 => ((laws_eqIntS.f k x14 t416).bind fun t419 => (if t419 = true then ((laws_markStreetS.f k x12 1).bind fun bt420 => ((laws_markCarS.f k x13 bt420.1).bind fun bt422 => ((laws_markIntS.f k x14 bt422.1).bind fun bt424 => (if bt424.1 < 0 then (laws_FnExactRunCars.j1 k x0 x1 x2 x3 x10 x11 x15 true) else ((laws_eqCarS.f k x15 x10).bind fun t426 => (if t426 = true then (laws_FnExactRunCars.j1 k x0 x1 x2 x3 x10 x11 x15 (x16 != x11)) else (laws_FnExactRunCars.j1 k x0 x1 x2 x3 x10 x11 x15 true))))))) else (some false)))) else (some false)))) else (some false))))
def laws_FnExactRunCars.j1 : Nat → List (S80) → List (S82) → List Int → Int → List (S52) → Int → List (S52) → Bool → Option (Bool)
  | 0, _, _, _, _, _, _, _, _ => none
  | k + 1, x0, x1, x2, x3, x10, x11, x15, x105 => if x105 = true then (some false) else ((laws_markCarS.f k x15 1).bind fun bt427 => ((laws_heldCarS.f k bt427.2 1).bind fun t429 => (if t429 < 0 then (some false) else (if t429 = bt427.1 then ((laws_toStreetS.f k x0).bind fun t430 => ((laws_toCarS.f k x1).bind fun t433 => ((laws_toIntS.f k x2).bind fun t436 => ((impl_RunCars.f k t430 t433 t436 x3).bind fun bt439 => ((laws_eqCarS.f k bt439.1 x10).bind fun t443 => (if t443 = true then (laws_FnExactRunCars.j2 k bt427.2 bt427.1 (bt439.2 != x11)) else (laws_FnExactRunCars.j2 k bt427.2 bt427.1 true))))))) else (some false)))))
def laws_FnExactRunCars.j2 : Nat → List (S52) → Int → Bool → Option (Bool)
  | 0, _, _, _ => none
  | k + 1, x15, x18, x136 => if x136 = true then (some false) else ((laws_heldCarS.f k x15 1).bind fun t444 => (if t444 < 0 then (some false) else (if t444 = x18 then (some true) else (some false))))
end
def laws_FnExactRunCars.f (k : Nat) (l0 : List (S80)) (l1 : List (S82)) (l2 : List Int) (a3 : Int) : Option (Bool) := if (l2.length : Int) > 1048576 then (some true) else ((laws_szStreetS.f l0 1048576).bind fun t379 => (if t379 < 0 then (some true) else ((laws_szCarS.f l1 t379).bind fun t380 => (if t380 < 0 then (some true) else ((laws_toStreetS.f k l0).bind fun t381 => ((laws_toCarS.f k l1).bind fun t384 => ((laws_toIntS.f k l2).bind fun t387 => ((spec_RunCars.f k t381 t384 t387 a3).bind fun bt390 => ((laws_toStreetS.f k l0).bind fun t394 => ((laws_toCarS.f k l1).bind fun t397 => ((laws_toIntS.f k l2).bind fun t400 => ((impl_RunCars.f k t394 t397 t400 a3).bind fun bt403 => ((laws_eqCarS.f k bt403.1 bt390.1).bind fun t407 => (if t407 = true then (laws_FnExactRunCars.j0 k l0 l1 l2 a3 bt390.1 bt390.2 t394 t397 t400 bt403.1 bt403.2 (bt403.2 != bt390.2)) else (laws_FnExactRunCars.j0 k l0 l1 l2 a3 bt390.1 bt390.2 t394 t397 t400 bt403.1 bt403.2 true)))))))))))))))
theorem laws_FnExactRunCars.mono_l : ∀ k, (∀ y0 y1 y2 y3 y4 y5 y6 y7 y8 y9 y10 y11, LeO (laws_FnExactRunCars.j0 k y0 y1 y2 y3 y4 y5 y6 y7 y8 y9 y10 y11) (laws_FnExactRunCars.j0 (k + 1) y0 y1 y2 y3 y4 y5 y6 y7 y8 y9 y10 y11)) ∧ (∀ y0 y1 y2 y3 y4 y5 y6 y7, LeO (laws_FnExactRunCars.j1 k y0 y1 y2 y3 y4 y5 y6 y7) (laws_FnExactRunCars.j1 (k + 1) y0 y1 y2 y3 y4 y5 y6 y7)) ∧ (∀ y0 y1 y2, LeO (laws_FnExactRunCars.j2 k y0 y1 y2) (laws_FnExactRunCars.j2 (k + 1) y0 y1 y2))
  | 0 => ⟨fun _ _ _ _ _ _ _ _ _ _ _ _ r h => by simp [laws_FnExactRunCars.j0] at h, fun _ _ _ _ _ _ _ _ r h => by simp [laws_FnExactRunCars.j1] at h, fun _ _ _ r h => by simp [laws_FnExactRunCars.j2] at h⟩
  | k + 1 => by
    obtain ⟨ih0, ih1, ih2⟩ := laws_FnExactRunCars.mono_l k
    refine ⟨?_, ?_, ?_⟩
    · intro y0 y1 y2 y3 y4 y5 y6 y7 y8 y9 y10 y11
      unfold laws_FnExactRunCars.j0
      repeat' first
      | (with_reducible exact ih0 _ _ _ _ _ _ _ _ _ _ _ _)
      | (with_reducible exact ih1 _ _ _ _ _ _ _ _)
      | (with_reducible exact ih2 _ _ _)
      | (with_reducible exact impl_RunCars.mono _ _ _ _ _)
      | (with_reducible exact laws_eqCarS.mono _ _ _)
      | (with_reducible exact laws_eqIntS.mono _ _ _)
      | (with_reducible exact laws_eqStreetS.mono _ _ _)
      | (with_reducible exact laws_heldCarS.mono _ _ _)
      | (with_reducible exact laws_markCarS.mono _ _ _)
      | (with_reducible exact laws_markIntS.mono _ _ _)
      | (with_reducible exact laws_markStreetS.mono _ _ _)
      | (with_reducible exact laws_toCarS.mono _ _)
      | (with_reducible exact laws_toIntS.mono _ _)
      | (with_reducible exact laws_toStreetS.mono _ _)
      | (with_reducible exact spec_RunCars.mono _ _ _ _ _)
      | (with_reducible exact LeO.refl _)
      | (with_reducible exact LeO.none _)
      | (with_reducible refine LeO.ite ?_ ?_)
      | (with_reducible refine LeO.bind ?_ (fun _ => ?_))
      | exact ih0 _ _ _ _ _ _ _ _ _ _ _ _
      | exact ih1 _ _ _ _ _ _ _ _
      | exact ih2 _ _ _
      | exact impl_RunCars.mono _ _ _ _ _
      | exact laws_eqCarS.mono _ _ _
      | exact laws_eqIntS.mono _ _ _
      | exact laws_eqStreetS.mono _ _ _
      | exact laws_heldCarS.mono _ _ _
      | exact laws_markCarS.mono _ _ _
      | exact laws_markIntS.mono _ _ _
      | exact laws_markStreetS.mono _ _ _
      | exact laws_toCarS.mono _ _
      | exact laws_toIntS.mono _ _
      | exact laws_toStreetS.mono _ _
      | exact spec_RunCars.mono _ _ _ _ _
      | exact LeO.none _
      | refine LeO.ite ?_ ?_
      | refine LeO.bind ?_ (fun _ => ?_)
    · intro y0 y1 y2 y3 y4 y5 y6 y7
      unfold laws_FnExactRunCars.j1
      repeat' first
      | (with_reducible exact ih0 _ _ _ _ _ _ _ _ _ _ _ _)
      | (with_reducible exact ih1 _ _ _ _ _ _ _ _)
      | (with_reducible exact ih2 _ _ _)
      | (with_reducible exact impl_RunCars.mono _ _ _ _ _)
      | (with_reducible exact laws_eqCarS.mono _ _ _)
      | (with_reducible exact laws_eqIntS.mono _ _ _)
      | (with_reducible exact laws_eqStreetS.mono _ _ _)
      | (with_reducible exact laws_heldCarS.mono _ _ _)
      | (with_reducible exact laws_markCarS.mono _ _ _)
      | (with_reducible exact laws_markIntS.mono _ _ _)
      | (with_reducible exact laws_markStreetS.mono _ _ _)
      | (with_reducible exact laws_toCarS.mono _ _)
      | (with_reducible exact laws_toIntS.mono _ _)
      | (with_reducible exact laws_toStreetS.mono _ _)
      | (with_reducible exact spec_RunCars.mono _ _ _ _ _)
      | (with_reducible exact LeO.refl _)
      | (with_reducible exact LeO.none _)
      | (with_reducible refine LeO.ite ?_ ?_)
      | (with_reducible refine LeO.bind ?_ (fun _ => ?_))
      | exact ih0 _ _ _ _ _ _ _ _ _ _ _ _
      | exact ih1 _ _ _ _ _ _ _ _
      | exact ih2 _ _ _
      | exact impl_RunCars.mono _ _ _ _ _
      | exact laws_eqCarS.mono _ _ _
      | exact laws_eqIntS.mono _ _ _
      | exact laws_eqStreetS.mono _ _ _
      | exact laws_heldCarS.mono _ _ _
      | exact laws_markCarS.mono _ _ _
      | exact laws_markIntS.mono _ _ _
      | exact laws_markStreetS.mono _ _ _
      | exact laws_toCarS.mono _ _
      | exact laws_toIntS.mono _ _
      | exact laws_toStreetS.mono _ _
      | exact spec_RunCars.mono _ _ _ _ _
      | exact LeO.none _
      | refine LeO.ite ?_ ?_
      | refine LeO.bind ?_ (fun _ => ?_)
    · intro y0 y1 y2
      unfold laws_FnExactRunCars.j2
      repeat' first
      | (with_reducible exact ih0 _ _ _ _ _ _ _ _ _ _ _ _)
      | (with_reducible exact ih1 _ _ _ _ _ _ _ _)
      | (with_reducible exact ih2 _ _ _)
      | (with_reducible exact impl_RunCars.mono _ _ _ _ _)
      | (with_reducible exact laws_eqCarS.mono _ _ _)
      | (with_reducible exact laws_eqIntS.mono _ _ _)
      | (with_reducible exact laws_eqStreetS.mono _ _ _)
      | (with_reducible exact laws_heldCarS.mono _ _ _)
      | (with_reducible exact laws_markCarS.mono _ _ _)
      | (with_reducible exact laws_markIntS.mono _ _ _)
      | (with_reducible exact laws_markStreetS.mono _ _ _)
      | (with_reducible exact laws_toCarS.mono _ _)
      | (with_reducible exact laws_toIntS.mono _ _)
      | (with_reducible exact laws_toStreetS.mono _ _)
      | (with_reducible exact spec_RunCars.mono _ _ _ _ _)
      | (with_reducible exact LeO.refl _)
      | (with_reducible exact LeO.none _)
      | (with_reducible refine LeO.ite ?_ ?_)
      | (with_reducible refine LeO.bind ?_ (fun _ => ?_))
      | exact ih0 _ _ _ _ _ _ _ _ _ _ _ _
      | exact ih1 _ _ _ _ _ _ _ _
      | exact ih2 _ _ _
      | exact impl_RunCars.mono _ _ _ _ _
      | exact laws_eqCarS.mono _ _ _
      | exact laws_eqIntS.mono _ _ _
      | exact laws_eqStreetS.mono _ _ _
      | exact laws_heldCarS.mono _ _ _
      | exact laws_markCarS.mono _ _ _
      | exact laws_markIntS.mono _ _ _
      | exact laws_markStreetS.mono _ _ _
      | exact laws_toCarS.mono _ _
      | exact laws_toIntS.mono _ _
      | exact laws_toStreetS.mono _ _
      | exact spec_RunCars.mono _ _ _ _ _
      | exact LeO.none _
      | refine LeO.ite ?_ ?_
      | refine LeO.bind ?_ (fun _ => ?_)
theorem laws_FnExactRunCars.mono : ∀ a0 a1 a2 a3 k, LeO (laws_FnExactRunCars.f k a0 a1 a2 a3) (laws_FnExactRunCars.f (k + 1) a0 a1 a2 a3) := by
 intro a0 a1 a2 a3 k; (obtain ⟨ih0, ih1, ih2⟩ := laws_FnExactRunCars.mono_l k); (unfold laws_FnExactRunCars.f)
 repeat' first
  | (with_reducible exact ih0 _ _ _ _ _ _ _ _ _ _ _ _)
  | (with_reducible exact ih1 _ _ _ _ _ _ _ _)
  | (with_reducible exact ih2 _ _ _)
  | (with_reducible exact impl_RunCars.mono _ _ _ _ _)
  | (with_reducible exact laws_eqCarS.mono _ _ _)
  | (with_reducible exact laws_eqIntS.mono _ _ _)
  | (with_reducible exact laws_eqStreetS.mono _ _ _)
  | (with_reducible exact laws_heldCarS.mono _ _ _)
  | (with_reducible exact laws_markCarS.mono _ _ _)
  | (with_reducible exact laws_markIntS.mono _ _ _)
  | (with_reducible exact laws_markStreetS.mono _ _ _)
  | (with_reducible exact laws_toCarS.mono _ _)
  | (with_reducible exact laws_toIntS.mono _ _)
  | (with_reducible exact laws_toStreetS.mono _ _)
  | (with_reducible exact spec_RunCars.mono _ _ _ _ _)
  | (with_reducible exact LeO.refl _)
  | (with_reducible exact LeO.none _)
  | (with_reducible refine LeO.ite ?_ ?_)
  | (with_reducible refine LeO.bind ?_ (fun _ => ?_))
  | exact ih0 _ _ _ _ _ _ _ _ _ _ _ _
  | exact ih1 _ _ _ _ _ _ _ _
  | exact ih2 _ _ _
  | exact impl_RunCars.mono _ _ _ _ _
  | exact laws_eqCarS.mono _ _ _
  | exact laws_eqIntS.mono _ _ _
  | exact laws_eqStreetS.mono _ _ _
  | exact laws_heldCarS.mono _ _ _
  | exact laws_markCarS.mono _ _ _
  | exact laws_markIntS.mono _ _ _
  | exact laws_markStreetS.mono _ _ _
  | exact laws_toCarS.mono _ _
  | exact laws_toIntS.mono _ _
  | exact laws_toStreetS.mono _ _
  | exact spec_RunCars.mono _ _ _ _ _
  | exact LeO.none _
  | refine LeO.ite ?_ ?_
  | refine LeO.bind ?_ (fun _ => ?_)
set_option maxHeartbeats 8000000 in
set_option maxRecDepth 100000 in
theorem laws_FnExactRunCars.calls (k : Nat) (A0 : Option Addr) (c0 : Nat) (l0 : List (S80)) (A1 : Option Addr) (c1 : Nat) (l1 : List (S82)) (A2 : Option Addr) (c2 : Nat) (l2 : List Int) (a3 : Int) (r : Bool) (w : World) (hr0 : Kd.C k80 w A0 l0.length l0) (hc0 : l0.length ≤ c0) (hr1 : Kd.C k82 w A1 l1.length l1) (hc1 : l1.length ≤ c1) (hr2 : Kd.C (Kd.int .i64) w A2 l2.length l2) (hc2 : l2.length ≤ c2) (h : laws_FnExactRunCars.f k l0 l1 l2 a3 = some r) :
    Calls Try.prog 4 #[.slice A0 l0.length c0, .slice A1 l1.length c1, .slice A2 l2.length c2, .int .i64 a3] w fun e w' => e = .returned (.bool r) ∧ Below w.heap.size w w' := by
 have HR0 := Aside0.mk hr0; have HC0 := Aside0.mk hc0; clear hr0 hc0; have HR1 := Aside0.mk hr1; have HC1 := Aside0.mk hc1; clear hr1 hc1; have HR2 := Aside0.mk hr2; have HC2 := Aside0.mk hc2; clear hr2 hc2; have HB := Aside0.mk (Below.refl w.heap.size w); (have H : (if (l2.length : Int) > 1048576 then (some true) else ((laws_szStreetS.f l0 1048576).bind fun t379 => (if t379 < 0 then (some true) else ((laws_szCarS.f l1 t379).bind fun t380 => (if t380 < 0 then (some true) else ((laws_toStreetS.f k l0).bind fun t381 => ((laws_toCarS.f k l1).bind fun t384 => ((laws_toIntS.f k l2).bind fun t387 => ((spec_RunCars.f k t381 t384 t387 a3).bind fun bt390 => ((laws_toStreetS.f k l0).bind fun t394 => ((laws_toCarS.f k l1).bind fun t397 => ((laws_toIntS.f k l2).bind fun t400 => ((impl_RunCars.f k t394 t397 t400 a3).bind fun bt403 => ((laws_eqCarS.f k bt403.1 bt390.1).bind fun t407 => (if t407 = true then (laws_FnExactRunCars.j0 k l0 l1 l2 a3 bt390.1 bt390.2 t394 t397 t400 bt403.1 bt403.2 (bt403.2 != bt390.2)) else (laws_FnExactRunCars.j0 k l0 l1 l2 a3 bt390.1 bt390.2 t394 t397 t400 bt403.1 bt403.2 true)))))))))))))))) = some r := h); clear h; (by_cases c5 : (l2.length : Int) > 1048576)
 · (rw [if_pos c5] at H); (have c5b0 : decide (1048576 < (l2.length : Int)) = true := decide_eq_true c5); (have c5b1 : decide (1048576 < l2.length) = true := decide_eq_true (by omega)); clear c5; (obtain rfl := Option.some.inj H); (go_enter Try.func4, Try.ntmps4); (go_wp2); go_ret; (exact ⟨by first | rfl | (simp [errW_none, errW_some] <;> rfl) | (simp [*, errW_none, errW_some] <;> rfl), by repeat (first | (with_reducible first | exact HB.out | apply below_alloc | apply pw_below_drewN | apply below_drew1) | exact HB.out)⟩)
 ·
  (rw [if_neg c5] at H); (have c5b0 : decide (1048576 < (l2.length : Int)) = false := decide_eq_false c5); (have c5b1 : decide (1048576 < l2.length) = false := decide_eq_false (by omega)); clear c5; (replace H := Option.bind_eq_some_iff.mp H); (obtain ⟨t379, A60, H⟩ := H); (replace H : (if t379 < 0 then (some true) else ((laws_szCarS.f l1 t379).bind fun t380 => (if t380 < 0 then (some true) else ((laws_toStreetS.f k l0).bind fun t381 => ((laws_toCarS.f k l1).bind fun t384 => ((laws_toIntS.f k l2).bind fun t387 => ((spec_RunCars.f k t381 t384 t387 a3).bind fun bt390 => ((laws_toStreetS.f k l0).bind fun t394 => ((laws_toCarS.f k l1).bind fun t397 => ((laws_toIntS.f k l2).bind fun t400 => ((impl_RunCars.f k t394 t397 t400 a3).bind fun bt403 => ((laws_eqCarS.f k bt403.1 bt390.1).bind fun t407 => (if t407 = true then (laws_FnExactRunCars.j0 k l0 l1 l2 a3 bt390.1 bt390.2 t394 t397 t400 bt403.1 bt403.2 (bt403.2 != bt390.2)) else (laws_FnExactRunCars.j0 k l0 l1 l2 a3 bt390.1 bt390.2 t394 t397 t400 bt403.1 bt403.2 true)))))))))))))) = some r := H); have A6 := Aside0.mk A60; clear A60; (by_cases c7 : t379 < 0)
  · (rw [if_pos c7] at H); (have c7b0 : decide (t379 < 0) = true := decide_eq_true c7); clear c7; (obtain rfl := Option.some.inj H); (go_enter Try.func4, Try.ntmps4); (go_wp2_with (first | ((with_reducible refine gate_callee (f := 9) rfl ?_); refine goesL_ (some 27) rfl rfl Try.func9 (by kernel_rfl) rfl #[.slice A0 l0.length c0, .int .i64 1048576] rfl (by (try simp only [List.map_toArray, List.map_cons, List.map_nil]); first | done | rfl | (simp only [List.length_drop, List.length_take]; rfl)) ?_; (with_reducible refine (laws_szStreetS.calls _ _ l0 1048576 t379 _ ?side1 ?side2 A6.out).mono ?_); (case side1 => repeat (first | exact HR0.out | (with_reducible refine Kd.C_alloc ?_ _) | (with_reducible refine Kd.C_drewN ?_ _) | (with_reducible refine Kd.C_drew ?_))); (case side2 => exact HC0.out); rintro e w' ⟨rfl, ⟨nd, rfl⟩⟩; refine ⟨_, rfl, ?_⟩))); go_ret; (exact ⟨by first | rfl | (simp [errW_none, errW_some] <;> rfl) | (simp [*, errW_none, errW_some] <;> rfl), by repeat (first | (with_reducible first | exact HB.out | apply below_alloc | apply pw_below_drewN | apply below_drew1) | exact HB.out)⟩)
  ·
   (rw [if_neg c7] at H); (have c7b0 : decide (t379 < 0) = false := decide_eq_false c7); clear c7; (replace H := Option.bind_eq_some_iff.mp H); (obtain ⟨t380, A80, H⟩ := H); (replace H : (if t380 < 0 then (some true) else ((laws_toStreetS.f k l0).bind fun t381 => ((laws_toCarS.f k l1).bind fun t384 => ((laws_toIntS.f k l2).bind fun t387 => ((spec_RunCars.f k t381 t384 t387 a3).bind fun bt390 => ((laws_toStreetS.f k l0).bind fun t394 => ((laws_toCarS.f k l1).bind fun t397 => ((laws_toIntS.f k l2).bind fun t400 => ((impl_RunCars.f k t394 t397 t400 a3).bind fun bt403 => ((laws_eqCarS.f k bt403.1 bt390.1).bind fun t407 => (if t407 = true then (laws_FnExactRunCars.j0 k l0 l1 l2 a3 bt390.1 bt390.2 t394 t397 t400 bt403.1 bt403.2 (bt403.2 != bt390.2)) else (laws_FnExactRunCars.j0 k l0 l1 l2 a3 bt390.1 bt390.2 t394 t397 t400 bt403.1 bt403.2 true)))))))))))) = some r := H); have A8 := Aside0.mk A80; clear A80; (by_cases c9 : t380 < 0)
   · (rw [if_pos c9] at H); (have c9b0 : decide (t380 < 0) = true := decide_eq_true c9); clear c9; (obtain rfl := Option.some.inj H); (go_enter Try.func4, Try.ntmps4); (go_wp2_with (first | ((with_reducible refine gate_callee (f := 9) rfl ?_); refine goesL_ (some 27) rfl rfl Try.func9 (by kernel_rfl) rfl #[.slice A0 l0.length c0, .int .i64 1048576] rfl (by (try simp only [List.map_toArray, List.map_cons, List.map_nil]); first | done | rfl | (simp only [List.length_drop, List.length_take]; rfl)) ?_; (with_reducible refine (laws_szStreetS.calls _ _ l0 1048576 t379 _ ?side1 ?side2 A6.out).mono ?_); (case side1 => repeat (first | exact HR0.out | (with_reducible refine Kd.C_alloc ?_ _) | (with_reducible refine Kd.C_drewN ?_ _) | (with_reducible refine Kd.C_drew ?_))); (case side2 => exact HC0.out); rintro e w' ⟨rfl, ⟨nd, rfl⟩⟩; refine ⟨_, rfl, ?_⟩) | ((with_reducible refine gate_callee (f := 10) rfl ?_); refine goesL_ (some 32) rfl rfl Try.func10 (by kernel_rfl) rfl #[.slice A1 l1.length c1, .int .i64 t379] rfl (by (try simp only [List.map_toArray, List.map_cons, List.map_nil]); first | done | rfl | (simp only [List.length_drop, List.length_take]; rfl)) ?_; (with_reducible refine (laws_szCarS.calls _ _ l1 t379 t380 _ ?side1 ?side2 A8.out).mono ?_); (case side1 => repeat (first | exact HR1.out | (with_reducible refine Kd.C_alloc ?_ _) | (with_reducible refine Kd.C_drewN ?_ _) | (with_reducible refine Kd.C_drew ?_))); (case side2 => exact HC1.out); rintro e w' ⟨rfl, ⟨nd, rfl⟩⟩; refine ⟨_, rfl, ?_⟩))); go_ret; (exact ⟨by first | rfl | (simp [errW_none, errW_some] <;> rfl) | (simp [*, errW_none, errW_some] <;> rfl), by repeat (first | (with_reducible first | exact HB.out | apply below_alloc | apply pw_below_drewN | apply below_drew1) | exact HB.out)⟩)
   ·
    (rw [if_neg c9] at H); (have c9b0 : decide (t380 < 0) = false := decide_eq_false c9); clear c9; (replace H := Option.bind_eq_some_iff.mp H); (obtain ⟨t381, A100, H⟩ := H); (replace H : ((laws_toCarS.f k l1).bind fun t384 => ((laws_toIntS.f k l2).bind fun t387 => ((spec_RunCars.f k t381 t384 t387 a3).bind fun bt390 => ((laws_toStreetS.f k l0).bind fun t394 => ((laws_toCarS.f k l1).bind fun t397 => ((laws_toIntS.f k l2).bind fun t400 => ((impl_RunCars.f k t394 t397 t400 a3).bind fun bt403 => ((laws_eqCarS.f k bt403.1 bt390.1).bind fun t407 => (if t407 = true then (laws_FnExactRunCars.j0 k l0 l1 l2 a3 bt390.1 bt390.2 t394 t397 t400 bt403.1 bt403.2 (bt403.2 != bt390.2)) else (laws_FnExactRunCars.j0 k l0 l1 l2 a3 bt390.1 bt390.2 t394 t397 t400 bt403.1 bt403.2 true)))))))))) = some r := H); have A10 := Aside0.mk A100; clear A100; (replace H := Option.bind_eq_some_iff.mp H); (obtain ⟨t384, A110, H⟩ := H); (replace H : ((laws_toIntS.f k l2).bind fun t387 => ((spec_RunCars.f k t381 t384 t387 a3).bind fun bt390 => ((laws_toStreetS.f k l0).bind fun t394 => ((laws_toCarS.f k l1).bind fun t397 => ((laws_toIntS.f k l2).bind fun t400 => ((impl_RunCars.f k t394 t397 t400 a3).bind fun bt403 => ((laws_eqCarS.f k bt403.1 bt390.1).bind fun t407 => (if t407 = true then (laws_FnExactRunCars.j0 k l0 l1 l2 a3 bt390.1 bt390.2 t394 t397 t400 bt403.1 bt403.2 (bt403.2 != bt390.2)) else (laws_FnExactRunCars.j0 k l0 l1 l2 a3 bt390.1 bt390.2 t394 t397 t400 bt403.1 bt403.2 true))))))))) = some r := H); have A11 := Aside0.mk A110; clear A110; (replace H := Option.bind_eq_some_iff.mp H); (obtain ⟨t387, A120, H⟩ := H); (replace H : ((spec_RunCars.f k t381 t384 t387 a3).bind fun bt390 => ((laws_toStreetS.f k l0).bind fun t394 => ((laws_toCarS.f k l1).bind fun t397 => ((laws_toIntS.f k l2).bind fun t400 => ((impl_RunCars.f k t394 t397 t400 a3).bind fun bt403 => ((laws_eqCarS.f k bt403.1 bt390.1).bind fun t407 => (if t407 = true then (laws_FnExactRunCars.j0 k l0 l1 l2 a3 bt390.1 bt390.2 t394 t397 t400 bt403.1 bt403.2 (bt403.2 != bt390.2)) else (laws_FnExactRunCars.j0 k l0 l1 l2 a3 bt390.1 bt390.2 t394 t397 t400 bt403.1 bt403.2 true)))))))) = some r := H); have A12 := Aside0.mk A120; clear A120; (replace H := Option.bind_eq_some_iff.mp H); (obtain ⟨⟨t390, t391⟩, A130, H⟩ := H); (replace H : ((laws_toStreetS.f k l0).bind fun t394 => ((laws_toCarS.f k l1).bind fun t397 => ((laws_toIntS.f k l2).bind fun t400 => ((impl_RunCars.f k t394 t397 t400 a3).bind fun bt403 => ((laws_eqCarS.f k bt403.1 t390).bind fun t407 => (if t407 = true then (laws_FnExactRunCars.j0 k l0 l1 l2 a3 t390 t391 t394 t397 t400 bt403.1 bt403.2 (bt403.2 != t391)) else (laws_FnExactRunCars.j0 k l0 l1 l2 a3 t390 t391 t394 t397 t400 bt403.1 bt403.2 true))))))) = some r := H); have A13 := Aside0.mk A130; clear A130; (replace H := Option.bind_eq_some_iff.mp H); (obtain ⟨t394, A140, H⟩ := H); (replace H : ((laws_toCarS.f k l1).bind fun t397 => ((laws_toIntS.f k l2).bind fun t400 => ((impl_RunCars.f k t394 t397 t400 a3).bind fun bt403 => ((laws_eqCarS.f k bt403.1 t390).bind fun t407 => (if t407 = true then (laws_FnExactRunCars.j0 k l0 l1 l2 a3 t390 t391 t394 t397 t400 bt403.1 bt403.2 (bt403.2 != t391)) else (laws_FnExactRunCars.j0 k l0 l1 l2 a3 t390 t391 t394 t397 t400 bt403.1 bt403.2 true)))))) = some r := H)
    have A14 := Aside0.mk A140; clear A140; (replace H := Option.bind_eq_some_iff.mp H); (obtain ⟨t397, A150, H⟩ := H); (replace H : ((laws_toIntS.f k l2).bind fun t400 => ((impl_RunCars.f k t394 t397 t400 a3).bind fun bt403 => ((laws_eqCarS.f k bt403.1 t390).bind fun t407 => (if t407 = true then (laws_FnExactRunCars.j0 k l0 l1 l2 a3 t390 t391 t394 t397 t400 bt403.1 bt403.2 (bt403.2 != t391)) else (laws_FnExactRunCars.j0 k l0 l1 l2 a3 t390 t391 t394 t397 t400 bt403.1 bt403.2 true))))) = some r := H); have A15 := Aside0.mk A150; clear A150; (replace H := Option.bind_eq_some_iff.mp H); (obtain ⟨t400, A160, H⟩ := H); (replace H : ((impl_RunCars.f k t394 t397 t400 a3).bind fun bt403 => ((laws_eqCarS.f k bt403.1 t390).bind fun t407 => (if t407 = true then (laws_FnExactRunCars.j0 k l0 l1 l2 a3 t390 t391 t394 t397 t400 bt403.1 bt403.2 (bt403.2 != t391)) else (laws_FnExactRunCars.j0 k l0 l1 l2 a3 t390 t391 t394 t397 t400 bt403.1 bt403.2 true)))) = some r := H); have A16 := Aside0.mk A160; clear A160; (replace H := Option.bind_eq_some_iff.mp H); (obtain ⟨⟨t403, t404⟩, A170, H⟩ := H); (replace H : ((laws_eqCarS.f k t403 t390).bind fun t407 => (if t407 = true then (laws_FnExactRunCars.j0 k l0 l1 l2 a3 t390 t391 t394 t397 t400 t403 t404 (t404 != t391)) else (laws_FnExactRunCars.j0 k l0 l1 l2 a3 t390 t391 t394 t397 t400 t403 t404 true))) = some r := H); have A17 := Aside0.mk A170; clear A170; have HC18 := Aside0.mk H; clear H; (go_enter Try.func4, Try.ntmps4); (go_upto_region 15 with (first | ((with_reducible refine gate_callee (f := 9) rfl ?_); refine goesL_ (some 27) rfl rfl Try.func9 (by kernel_rfl) rfl #[.slice A0 l0.length c0, .int .i64 1048576] rfl (by (try simp only [List.map_toArray, List.map_cons, List.map_nil]); first | done | rfl | (simp only [List.length_drop, List.length_take]; rfl)) ?_; (with_reducible refine (laws_szStreetS.calls _ _ l0 1048576 t379 _ ?side1 ?side2 A6.out).mono ?_); (case side1 => repeat (first | exact HR0.out | (with_reducible refine Kd.C_alloc ?_ _) | (with_reducible refine Kd.C_drewN ?_ _) | (with_reducible refine Kd.C_drew ?_))); (case side2 => exact HC0.out); rintro e w' ⟨rfl, ⟨nd, rfl⟩⟩; refine ⟨_, rfl, ?_⟩) | ((with_reducible refine gate_callee (f := 10) rfl ?_); refine goesL_ (some 32) rfl rfl Try.func10 (by kernel_rfl) rfl #[.slice A1 l1.length c1, .int .i64 t379] rfl (by (try simp only [List.map_toArray, List.map_cons, List.map_nil]); first | done | rfl | (simp only [List.length_drop, List.length_take]; rfl)) ?_; (with_reducible refine (laws_szCarS.calls _ _ l1 t379 t380 _ ?side1 ?side2 A8.out).mono ?_); (case side1 => repeat (first | exact HR1.out | (with_reducible refine Kd.C_alloc ?_ _) | (with_reducible refine Kd.C_drewN ?_ _) | (with_reducible refine Kd.C_drew ?_))); (case side2 => exact HC1.out); rintro e w' ⟨rfl, ⟨nd, rfl⟩⟩; refine ⟨_, rfl, ?_⟩) | ((with_reducible refine gate_callee (f := 12) rfl ?_); refine goesL_ (some 37) rfl rfl Try.func12 (by kernel_rfl) rfl #[.slice A0 l0.length c0] rfl (by (try simp only [List.map_toArray, List.map_cons, List.map_nil]); first | done | rfl | (simp only [List.length_drop, List.length_take]; rfl)) ?_; (with_reducible refine (laws_toStreetS.calls k _ _ l0 t381 _ ?side1 ?side2 A10.out).mono ?_); (case side1 => repeat (first | exact HR0.out | (with_reducible refine Kd.C_alloc ?_ _) | (with_reducible refine Kd.C_drewN ?_ _) | (with_reducible refine Kd.C_drew ?_))); (case side2 => exact HC0.out); rintro e w19 ⟨v382, rfl, ho0, hb⟩; refine ⟨_, rfl, ?_⟩; have n0_ := Aside0.mk (Kd.R_lower ho0 (below_size (by repeat (first | (with_reducible first | exact HB.out | apply below_alloc | apply pw_below_drewN | apply below_drew1) | exact HB.out)))); have n1_ := Aside0.mk (below_step (by repeat (first | (with_reducible first | exact HB.out | apply below_alloc | apply pw_below_drewN | apply below_drew1) | exact HB.out)) hb); clear HB; have HO383 := n0_; have HB := n1_; clear n0_ n1_; (try clear hb); (try clear hb2); (try clear hk); (try clear hi); (try clear ho0)) | ((with_reducible refine gate_callee (f := 13) rfl ?_); refine goesL_ (some 39) rfl rfl Try.func13 (by kernel_rfl) rfl #[.slice A1 l1.length c1] rfl (by (try simp only [List.map_toArray, List.map_cons, List.map_nil]); first | done | rfl | (simp only [List.length_drop, List.length_take]; rfl)) ?_; (with_reducible refine (laws_toCarS.calls k _ _ l1 t384 _ ?side1 ?side2 A11.out).mono ?_); (case side1 => repeat (first | exact (Kd.C_below HR1.out HB.out) | (with_reducible refine Kd.C_alloc ?_ _) | (with_reducible refine Kd.C_drewN ?_ _) | (with_reducible refine Kd.C_drew ?_))); (case side2 => exact HC1.out); rintro e w20 ⟨v385, rfl, ho0, hb⟩; refine ⟨_, rfl, ?_⟩; have n0_ := Aside0.mk (Kd.R_below (by (with_reducible repeat (first | apply Kd.R_alloc | apply Kd.R_drewN | apply Kd.R_drew)); exact HO383.out) hb); have n1_ := Aside0.mk (Kd.R_lower ho0 (below_size (by repeat (first | (with_reducible first | exact HB.out | apply below_alloc | apply pw_below_drewN | apply below_drew1) | exact HB.out)))); have n2_ := Aside0.mk (below_step (by repeat (first | (with_reducible first | exact HB.out | apply below_alloc | apply pw_below_drewN | apply below_drew1) | exact HB.out)) hb); clear HO383; clear HB; have HO383 := n0_; have HO386 := n1_; have HB := n2_; clear n0_ n1_ n2_; (try clear hb); (try clear hb2); (try clear hk); (try clear hi); (try clear ho0)) | ((with_reducible refine gate_callee (f := 14) rfl ?_); refine goesL_ (some 41) rfl rfl Try.func14 (by kernel_rfl) rfl #[.slice A2 l2.length c2] rfl (by (try simp only [List.map_toArray, List.map_cons, List.map_nil]); first | done | rfl | (simp only [List.length_drop, List.length_take]; rfl)) ?_; (with_reducible refine (laws_toIntS.calls k _ _ l2 t387 _ ?side1 ?side2 A12.out).mono ?_); (case side1 => repeat (first | exact (Kd.C_below HR2.out HB.out) | (with_reducible refine Kd.C_alloc ?_ _) | (with_reducible refine Kd.C_drewN ?_ _) | (with_reducible refine Kd.C_drew ?_))); (case side2 => exact HC2.out); rintro e w21 ⟨v388, rfl, ho0, hb⟩; refine ⟨_, rfl, ?_⟩; have n0_ := Aside0.mk (Kd.R_below (by (with_reducible repeat (first | apply Kd.R_alloc | apply Kd.R_drewN | apply Kd.R_drew)); exact HO383.out) hb); have n1_ := Aside0.mk (Kd.R_below (by (with_reducible repeat (first | apply Kd.R_alloc | apply Kd.R_drewN | apply Kd.R_drew)); exact HO386.out) hb); have n2_ := Aside0.mk (Kd.R_lower ho0 (below_size (by repeat (first | (with_reducible first | exact HB.out | apply below_alloc | apply pw_below_drewN | apply below_drew1) | exact HB.out)))); have n3_ := Aside0.mk (below_step (by repeat (first | (with_reducible first | exact HB.out | apply below_alloc | apply pw_below_drewN | apply below_drew1) | exact HB.out)) hb); clear HO383; clear HO386; clear HB; have HO383 := n0_; have HO386 := n1_; have HO389 := n2_; have HB := n3_; clear n0_ n1_ n2_ n3_; (try clear hb); (try clear hb2); (try clear hk); (try clear hi); (try clear ho0); obtain ⟨Ao22, co22, eo22⟩ := Kd.R_slice HO383.out; subst eo22; obtain ⟨Ao23, co23, eo23⟩ := Kd.R_slice HO386.out; subst eo23; obtain ⟨Ao24, co24, eo24⟩ := Kd.R_slice HO389.out; subst eo24) | ((with_reducible refine gate_callee (f := 23) rfl ?_); refine goesL_ (some 43) rfl rfl Try.func23 (by kernel_rfl) rfl #[.slice Ao22 t381.length co22, .slice Ao23 t384.length co23, .slice Ao24 t387.length co24, .int .i64 a3] rfl (by (try simp only [List.map_toArray, List.map_cons, List.map_nil]); first | done | rfl | (simp only [List.length_drop, List.length_take]; rfl)) ?_; (with_reducible refine (spec_RunCars.calls k _ _ t381 _ _ t384 _ _ t387 a3 t390 t391 _ ?side1 ?side2 ?side3 ?side4 ?side5 ?side6 A13.out).mono ?_); (case side1 => repeat (first | exact (Kd.R_reads' HO383.out).2.2 | (with_reducible refine Kd.C_alloc ?_ _) | (with_reducible refine Kd.C_drewN ?_ _) | (with_reducible refine Kd.C_drew ?_))); (case side2 => exact (Kd.R_reads' HO383.out).2.1); (case side3 => repeat (first | exact (Kd.R_reads' HO386.out).2.2 | (with_reducible refine Kd.C_alloc ?_ _) | (with_reducible refine Kd.C_drewN ?_ _) | (with_reducible refine Kd.C_drew ?_))); (case side4 => exact (Kd.R_reads' HO386.out).2.1); (case side5 => repeat (first | exact (Kd.R_reads' HO389.out).2.2 | (with_reducible refine Kd.C_alloc ?_ _) | (with_reducible refine Kd.C_drewN ?_ _) | (with_reducible refine Kd.C_drew ?_))); (case side6 => exact (Kd.R_reads' HO389.out).2.1); rintro e w25 ⟨v392, rfl, ho0, hb⟩; refine ⟨_, rfl, ?_⟩; have n0_ := Aside0.mk (Kd.R_below (by (with_reducible repeat (first | apply Kd.R_alloc | apply Kd.R_drewN | apply Kd.R_drew)); exact HO383.out) hb); have n1_ := Aside0.mk (Kd.R_elder' (by (with_reducible repeat (first | apply Kd.R_alloc | apply Kd.R_drewN | apply Kd.R_drew)); exact HO386.out) (Kd.R_base ho0) hb); have n2_ := Aside0.mk (Kd.R_below (by (with_reducible repeat (first | apply Kd.R_alloc | apply Kd.R_drewN | apply Kd.R_drew)); exact HO389.out) hb); have n3_ := Aside0.mk (Kd.R_lower (Kd.R_new' ho0 (Kd.R_lt (by (with_reducible repeat (first | apply Kd.R_alloc | apply Kd.R_drewN | apply Kd.R_drew)); exact HO386.out))) (below_size (by repeat (first | (with_reducible first | exact HB.out | apply below_alloc | apply pw_below_drewN | apply below_drew1) | exact HB.out)))); have n4_ := Aside0.mk (below_step (by repeat (first | (with_reducible first | exact HB.out | apply below_alloc | apply pw_below_drewN | apply below_drew1) | exact HB.out)) hb); clear HO383; clear HO386; clear HO389; clear HB; have HO383 := n0_; have HO386 := n1_; have HO389 := n2_; have HO393 := n3_; have HB := n4_; clear n0_ n1_ n2_ n3_ n4_; (try clear hb); (try clear hb2); (try clear hk); (try clear hi); (try clear ho0)) | ((with_reducible refine gate_callee (f := 12) rfl ?_); refine goesL_ (some 47) rfl rfl Try.func12 (by kernel_rfl) rfl #[.slice A0 l0.length c0] rfl (by (try simp only [List.map_toArray, List.map_cons, List.map_nil]); first | done | rfl | (simp only [List.length_drop, List.length_take]; rfl)) ?_; (with_reducible refine (laws_toStreetS.calls k _ _ l0 t394 _ ?side1 ?side2 A14.out).mono ?_); (case side1 => repeat (first | exact (Kd.C_below HR0.out HB.out) | (with_reducible refine Kd.C_alloc ?_ _) | (with_reducible refine Kd.C_drewN ?_ _) | (with_reducible refine Kd.C_drew ?_))); (case side2 => exact HC0.out); rintro e w26 ⟨v395, rfl, ho0, hb⟩; refine ⟨_, rfl, ?_⟩; have n0_ := Aside0.mk (Kd.R_elder' (by (with_reducible repeat (first | apply Kd.R_alloc | apply Kd.R_drewN | apply Kd.R_drew)); exact HO383.out) (Kd.R_base ho0) hb); have n1_ := Aside0.mk (Kd.R_below (by (with_reducible repeat (first | apply Kd.R_alloc | apply Kd.R_drewN | apply Kd.R_drew)); exact HO386.out) hb); have n2_ := Aside0.mk (Kd.R_below (by (with_reducible repeat (first | apply Kd.R_alloc | apply Kd.R_drewN | apply Kd.R_drew)); exact HO389.out) hb); have n3_ := Aside0.mk (Kd.R_below (by (with_reducible repeat (first | apply Kd.R_alloc | apply Kd.R_drewN | apply Kd.R_drew)); exact HO393.out) hb); have n4_ := Aside0.mk (Kd.R_lower (Kd.R_new' ho0 (Kd.R_lt (by (with_reducible repeat (first | apply Kd.R_alloc | apply Kd.R_drewN | apply Kd.R_drew)); exact HO383.out))) (below_size (by repeat (first | (with_reducible first | exact HB.out | apply below_alloc | apply pw_below_drewN | apply below_drew1) | exact HB.out)))); have n5_ := Aside0.mk (below_step (by repeat (first | (with_reducible first | exact HB.out | apply below_alloc | apply pw_below_drewN | apply below_drew1) | exact HB.out)) hb); clear HO383; clear HO386; clear HO389; clear HO393; clear HB; have HO383 := n0_; have HO386 := n1_; have HO389 := n2_; have HO393 := n3_; have HO396 := n4_; have HB := n5_; clear n0_ n1_ n2_ n3_ n4_ n5_; (try clear hb); (try clear hb2); (try clear hk); (try clear hi); (try clear ho0)) | ((with_reducible refine gate_callee (f := 13) rfl ?_); refine goesL_ (some 49) rfl rfl Try.func13 (by kernel_rfl) rfl #[.slice A1 l1.length c1] rfl (by (try simp only [List.map_toArray, List.map_cons, List.map_nil]); first | done | rfl | (simp only [List.length_drop, List.length_take]; rfl)) ?_; (with_reducible refine (laws_toCarS.calls k _ _ l1 t397 _ ?side1 ?side2 A15.out).mono ?_); (case side1 => repeat (first | exact (Kd.C_below HR1.out HB.out) | (with_reducible refine Kd.C_alloc ?_ _) | (with_reducible refine Kd.C_drewN ?_ _) | (with_reducible refine Kd.C_drew ?_))); (case side2 => exact HC1.out); rintro e w27 ⟨v398, rfl, ho0, hb⟩; refine ⟨_, rfl, ?_⟩; have n0_ := Aside0.mk (Kd.R_below (by (with_reducible repeat (first | apply Kd.R_alloc | apply Kd.R_drewN | apply Kd.R_drew)); exact HO383.out) hb); have n1_ := Aside0.mk (Kd.R_elder' (by (with_reducible repeat (first | apply Kd.R_alloc | apply Kd.R_drewN | apply Kd.R_drew)); exact HO386.out) (Kd.R_base ho0) hb); have n2_ := Aside0.mk (Kd.R_below (by (with_reducible repeat (first | apply Kd.R_alloc | apply Kd.R_drewN | apply Kd.R_drew)); exact HO389.out) hb); have n3_ := Aside0.mk (Kd.R_elder' (by (with_reducible repeat (first | apply Kd.R_alloc | apply Kd.R_drewN | apply Kd.R_drew)); exact HO393.out) (Kd.R_base ho0) hb); have n4_ := Aside0.mk (Kd.R_below (by (with_reducible repeat (first | apply Kd.R_alloc | apply Kd.R_drewN | apply Kd.R_drew)); exact HO396.out) hb); have n5_ := Aside0.mk (Kd.R_lower (Kd.R_new' (Kd.R_new' ho0 (Kd.R_lt (by (with_reducible repeat (first | apply Kd.R_alloc | apply Kd.R_drewN | apply Kd.R_drew)); exact HO386.out))) (Kd.R_lt (by (with_reducible repeat (first | apply Kd.R_alloc | apply Kd.R_drewN | apply Kd.R_drew)); exact HO393.out))) (below_size (by repeat (first | (with_reducible first | exact HB.out | apply below_alloc | apply pw_below_drewN | apply below_drew1) | exact HB.out)))); have n6_ := Aside0.mk (below_step (by repeat (first | (with_reducible first | exact HB.out | apply below_alloc | apply pw_below_drewN | apply below_drew1) | exact HB.out)) hb); clear HO383; clear HO386; clear HO389; clear HO393; clear HO396; clear HB; have HO383 := n0_; have HO386 := n1_; have HO389 := n2_; have HO393 := n3_; have HO396 := n4_; have HO399 := n5_; have HB := n6_; clear n0_ n1_ n2_ n3_ n4_ n5_ n6_; (try clear hb); (try clear hb2); (try clear hk); (try clear hi); (try clear ho0)) | ((with_reducible refine gate_callee (f := 14) rfl ?_); refine goesL_ (some 51) rfl rfl Try.func14 (by kernel_rfl) rfl #[.slice A2 l2.length c2] rfl (by (try simp only [List.map_toArray, List.map_cons, List.map_nil]); first | done | rfl | (simp only [List.length_drop, List.length_take]; rfl)) ?_; (with_reducible refine (laws_toIntS.calls k _ _ l2 t400 _ ?side1 ?side2 A16.out).mono ?_); (case side1 => repeat (first | exact (Kd.C_below HR2.out HB.out) | (with_reducible refine Kd.C_alloc ?_ _) | (with_reducible refine Kd.C_drewN ?_ _) | (with_reducible refine Kd.C_drew ?_))); (case side2 => exact HC2.out); rintro e w28 ⟨v401, rfl, ho0, hb⟩; refine ⟨_, rfl, ?_⟩; have n0_ := Aside0.mk (Kd.R_below (by (with_reducible repeat (first | apply Kd.R_alloc | apply Kd.R_drewN | apply Kd.R_drew)); exact HO383.out) hb); have n1_ := Aside0.mk (Kd.R_below (by (with_reducible repeat (first | apply Kd.R_alloc | apply Kd.R_drewN | apply Kd.R_drew)); exact HO386.out) hb); have n2_ := Aside0.mk (Kd.R_elder' (by (with_reducible repeat (first | apply Kd.R_alloc | apply Kd.R_drewN | apply Kd.R_drew)); exact HO389.out) (Kd.R_base ho0) hb); have n3_ := Aside0.mk (Kd.R_below (by (with_reducible repeat (first | apply Kd.R_alloc | apply Kd.R_drewN | apply Kd.R_drew)); exact HO393.out) hb); have n4_ := Aside0.mk (Kd.R_below (by (with_reducible repeat (first | apply Kd.R_alloc | apply Kd.R_drewN | apply Kd.R_drew)); exact HO396.out) hb); have n5_ := Aside0.mk (Kd.R_below (by (with_reducible repeat (first | apply Kd.R_alloc | apply Kd.R_drewN | apply Kd.R_drew)); exact HO399.out) hb); have n6_ := Aside0.mk (Kd.R_lower (Kd.R_new' ho0 (Kd.R_lt (by (with_reducible repeat (first | apply Kd.R_alloc | apply Kd.R_drewN | apply Kd.R_drew)); exact HO389.out))) (below_size (by repeat (first | (with_reducible first | exact HB.out | apply below_alloc | apply pw_below_drewN | apply below_drew1) | exact HB.out)))); have n7_ := Aside0.mk (below_step (by repeat (first | (with_reducible first | exact HB.out | apply below_alloc | apply pw_below_drewN | apply below_drew1) | exact HB.out)) hb); clear HO383; clear HO386; clear HO389; clear HO393; clear HO396; clear HO399; clear HB; have HO383 := n0_; have HO386 := n1_; have HO389 := n2_; have HO393 := n3_; have HO396 := n4_; have HO399 := n5_; have HO402 := n6_; have HB := n7_; clear n0_ n1_ n2_ n3_ n4_ n5_ n6_ n7_; (try clear hb); (try clear hb2); (try clear hk); (try clear hi); (try clear ho0); obtain ⟨Ao29, co29, eo29⟩ := Kd.R_slice HO396.out; subst eo29; obtain ⟨Ao30, co30, eo30⟩ := Kd.R_slice HO399.out; subst eo30; obtain ⟨Ao31, co31, eo31⟩ := Kd.R_slice HO402.out; subst eo31) | ((with_reducible refine gate_callee (f := 24) rfl ?_); refine goesL_ (some 57) rfl rfl Try.func24 (by kernel_rfl) rfl #[.slice Ao29 t394.length co29, .slice Ao30 t397.length co30, .slice Ao31 t400.length co31, .int .i64 a3] rfl (by (try simp only [List.map_toArray, List.map_cons, List.map_nil]); first | done | rfl | (simp only [List.length_drop, List.length_take]; rfl)) ?_; (with_reducible refine (impl_RunCars.calls k _ _ t394 _ _ t397 _ _ t400 a3 t403 t404 _ ?side1 ?side2 ?side3 ?side4 ?side5 ?side6 A17.out).mono ?_); (case side1 => repeat (first | exact (Kd.R_reads' HO396.out).2.2 | (with_reducible refine Kd.C_alloc ?_ _) | (with_reducible refine Kd.C_drewN ?_ _) | (with_reducible refine Kd.C_drew ?_))); (case side2 => exact (Kd.R_reads' HO396.out).2.1); (case side3 => repeat (first | exact (Kd.R_reads' HO399.out).2.2 | (with_reducible refine Kd.C_alloc ?_ _) | (with_reducible refine Kd.C_drewN ?_ _) | (with_reducible refine Kd.C_drew ?_))); (case side4 => exact (Kd.R_reads' HO399.out).2.1); (case side5 => repeat (first | exact (Kd.R_reads' HO402.out).2.2 | (with_reducible refine Kd.C_alloc ?_ _) | (with_reducible refine Kd.C_drewN ?_ _) | (with_reducible refine Kd.C_drew ?_))); (case side6 => exact (Kd.R_reads' HO402.out).2.1); rintro e w32 ⟨v405, rfl, ho0, hb⟩; refine ⟨_, rfl, ?_⟩; have n0_ := Aside0.mk (Kd.R_below (by (with_reducible repeat (first | apply Kd.R_alloc | apply Kd.R_drewN | apply Kd.R_drew)); exact HO383.out) hb); have n1_ := Aside0.mk (Kd.R_elder' (by (with_reducible repeat (first | apply Kd.R_alloc | apply Kd.R_drewN | apply Kd.R_drew)); exact HO386.out) (Kd.R_base ho0) hb); have n2_ := Aside0.mk (Kd.R_below (by (with_reducible repeat (first | apply Kd.R_alloc | apply Kd.R_drewN | apply Kd.R_drew)); exact HO389.out) hb); have n3_ := Aside0.mk (Kd.R_elder' (by (with_reducible repeat (first | apply Kd.R_alloc | apply Kd.R_drewN | apply Kd.R_drew)); exact HO393.out) (Kd.R_base ho0) hb); have n4_ := Aside0.mk (Kd.R_below (by (with_reducible repeat (first | apply Kd.R_alloc | apply Kd.R_drewN | apply Kd.R_drew)); exact HO396.out) hb); have n5_ := Aside0.mk (Kd.R_elder' (by (with_reducible repeat (first | apply Kd.R_alloc | apply Kd.R_drewN | apply Kd.R_drew)); exact HO399.out) (Kd.R_base ho0) hb); have n6_ := Aside0.mk (Kd.R_below (by (with_reducible repeat (first | apply Kd.R_alloc | apply Kd.R_drewN | apply Kd.R_drew)); exact HO402.out) hb); have n7_ := Aside0.mk (Kd.R_lower (Kd.R_new' (Kd.R_new' (Kd.R_new' ho0 (Kd.R_lt (by (with_reducible repeat (first | apply Kd.R_alloc | apply Kd.R_drewN | apply Kd.R_drew)); exact HO386.out))) (Kd.R_lt (by (with_reducible repeat (first | apply Kd.R_alloc | apply Kd.R_drewN | apply Kd.R_drew)); exact HO393.out))) (Kd.R_lt (by (with_reducible repeat (first | apply Kd.R_alloc | apply Kd.R_drewN | apply Kd.R_drew)); exact HO399.out))) (below_size (by repeat (first | (with_reducible first | exact HB.out | apply below_alloc | apply pw_below_drewN | apply below_drew1) | exact HB.out)))); have n8_ := Aside0.mk (below_step (by repeat (first | (with_reducible first | exact HB.out | apply below_alloc | apply pw_below_drewN | apply below_drew1) | exact HB.out)) hb); clear HO383; clear HO386; clear HO389; clear HO393; clear HO396; clear HO399; clear HO402; clear HB; have HO383 := n0_; have HO386 := n1_; have HO389 := n2_; have HO393 := n3_; have HO396 := n4_; have HO399 := n5_; have HO402 := n6_; have HO406 := n7_; have HB := n8_; clear n0_ n1_ n2_ n3_ n4_ n5_ n6_ n7_ n8_; (try clear hb); (try clear hb2); (try clear hk); (try clear hi); (try clear ho0))))
    ((try simp only [Act.put, List.setIfInBounds_toArray, List.set_cons_zero, List.set_cons_succ])); (go_cut [68] (fun v68 wc => ∃ (kq : Nat) (x68_17 : Bool), v68 = .bool x68_17 ∧ Aside0 (laws_FnExactRunCars.j0 kq l0 l1 l2 a3 t390 t391 t394 t397 t400 t403 t404 x68_17 = some r) ∧ Aside0 (kq ≤ k) ∧ Aside0 (Kd.R k52 52 wc w.heap.size (fun k_ => some k_ ≠ ((.slice Ao30 t397.length co30) : Value).ownBlock ∧ some k_ ≠ (v405 : Value).ownBlock) v392 t390) ∧ Aside0 (Kd.R k78 78 wc w.heap.size (fun _ => True) (.slice Ao29 t394.length co29) t394) ∧ Aside0 (Kd.R k52 52 wc w.heap.size (fun k_ => some k_ ≠ (v392 : Value).ownBlock ∧ some k_ ≠ (v405 : Value).ownBlock) (.slice Ao30 t397.length co30) t397) ∧ Aside0 (Kd.R (Kd.int .i64) 3 wc w.heap.size (fun _ => True) (.slice Ao31 t400.length co31) t400) ∧ Aside0 (Kd.R k52 52 wc w.heap.size (fun k_ => some k_ ≠ (v392 : Value).ownBlock ∧ some k_ ≠ ((.slice Ao30 t397.length co30) : Value).ownBlock) v405 t403) ∧ Aside0 (Below w.heap.size w wc)))
    case first =>
     (have H := HC18.out); clear HC18; (replace H := Option.bind_eq_some_iff.mp H); (obtain ⟨t407, A330, H⟩ := H); (replace H : (if t407 = true then (laws_FnExactRunCars.j0 k l0 l1 l2 a3 t390 t391 t394 t397 t400 t403 t404 (t404 != t391)) else (laws_FnExactRunCars.j0 k l0 l1 l2 a3 t390 t391 t394 t397 t400 t403 t404 true)) = some r := H); have A33 := Aside0.mk A330; clear A330; (by_cases c34 : t407 = true)
     · (subst c34); (have H1 : (laws_FnExactRunCars.j0 k l0 l1 l2 a3 t390 t391 t394 t397 t400 t403 t404 (t404 != t391)) = some r := by rw [if_pos rfl] at H; exact H); clear H; have H := H1; clear H1; (have H' := Aside0.mk H); clear H; (obtain ⟨Ao35, co35, eo35⟩ := Kd.R_slice HO406.out); (subst eo35); (obtain ⟨Ao36, co36, eo36⟩ := Kd.R_slice HO393.out); (subst eo36); (go_wp2_with (first | ((with_reducible refine gate_callee (f := 16) rfl ?_); refine goesL_ (some 62) rfl rfl Try.func16 (by kernel_rfl) rfl #[.slice Ao35 t403.length co35, .slice Ao36 t390.length co36] rfl (by (try simp only [List.map_toArray, List.map_cons, List.map_nil]); first | done | rfl | (simp only [List.length_drop, List.length_take]; rfl)) ?_; (with_reducible refine (laws_eqCarS.calls k _ _ t403 _ _ t390 true _ ?side1 ?side2 ?side3 ?side4 A33.out).mono ?_); (case side1 => repeat (first | exact (Kd.R_reads' HO406.out).2.2 | (with_reducible refine Kd.C_alloc ?_ _) | (with_reducible refine Kd.C_drewN ?_ _) | (with_reducible refine Kd.C_drew ?_))); (case side2 => exact (Kd.R_reads' HO406.out).2.1); (case side3 => repeat (first | exact (Kd.R_reads' HO393.out).2.2 | (with_reducible refine Kd.C_alloc ?_ _) | (with_reducible refine Kd.C_drewN ?_ _) | (with_reducible refine Kd.C_drew ?_))); (case side4 => exact (Kd.R_reads' HO393.out).2.1); rintro e w37 ⟨rfl, hb⟩; refine ⟨_, rfl, ?_⟩; have n0_ := Aside0.mk (Kd.R_below (by (with_reducible repeat (first | apply Kd.R_alloc | apply Kd.R_drewN | apply Kd.R_drew)); exact HO383.out) hb); have n1_ := Aside0.mk (Kd.R_below (by (with_reducible repeat (first | apply Kd.R_alloc | apply Kd.R_drewN | apply Kd.R_drew)); exact HO386.out) hb); have n2_ := Aside0.mk (Kd.R_below (by (with_reducible repeat (first | apply Kd.R_alloc | apply Kd.R_drewN | apply Kd.R_drew)); exact HO389.out) hb); have n3_ := Aside0.mk (Kd.R_below (by (with_reducible repeat (first | apply Kd.R_alloc | apply Kd.R_drewN | apply Kd.R_drew)); exact HO393.out) hb); have n4_ := Aside0.mk (Kd.R_below (by (with_reducible repeat (first | apply Kd.R_alloc | apply Kd.R_drewN | apply Kd.R_drew)); exact HO396.out) hb); have n5_ := Aside0.mk (Kd.R_below (by (with_reducible repeat (first | apply Kd.R_alloc | apply Kd.R_drewN | apply Kd.R_drew)); exact HO399.out) hb); have n6_ := Aside0.mk (Kd.R_below (by (with_reducible repeat (first | apply Kd.R_alloc | apply Kd.R_drewN | apply Kd.R_drew)); exact HO402.out) hb); have n7_ := Aside0.mk (Kd.R_below (by (with_reducible repeat (first | apply Kd.R_alloc | apply Kd.R_drewN | apply Kd.R_drew)); exact HO406.out) hb); have n8_ := Aside0.mk (below_step (by repeat (first | (with_reducible first | exact HB.out | apply below_alloc | apply pw_below_drewN | apply below_drew1) | exact HB.out)) hb); clear HO383; clear HO386; clear HO389; clear HO393; clear HO396; clear HO399; clear HO402; clear HO406; clear HB; have HO383 := n0_; have HO386 := n1_; have HO389 := n2_; have HO393 := n3_; have HO396 := n4_; have HO399 := n5_; have HO402 := n6_; have HO406 := n7_; have HB := n8_; clear n0_ n1_ n2_ n3_ n4_ n5_ n6_ n7_ n8_; (try clear hb); (try clear hb2); (try clear hk); (try clear hi)))); (go_meet); (case rel => exact ⟨_, ((t404 != t391)), (by first | rfl | (simp; done) | (simp [*]; done)), H', ⟨by first | omega | exact Nat.le_refl _⟩, ⟨by (with_reducible repeat (first | apply Kd.R_alloc | apply Kd.R_drewN | apply Kd.R_drew)); exact Kd.R_mono HO393.out (fun _ hk => ⟨hk.1.2, hk.2⟩)⟩, ⟨by (with_reducible repeat (first | apply Kd.R_alloc | apply Kd.R_drewN | apply Kd.R_drew)); exact Kd.R_mono HO396.out (fun _ hk => trivial)⟩, ⟨by (with_reducible repeat (first | apply Kd.R_alloc | apply Kd.R_drewN | apply Kd.R_drew)); exact Kd.R_mono HO399.out (fun _ hk => ⟨hk.1.2, hk.2⟩)⟩, ⟨by (with_reducible repeat (first | apply Kd.R_alloc | apply Kd.R_drewN | apply Kd.R_drew)); exact Kd.R_mono HO402.out (fun _ hk => trivial)⟩, ⟨by (with_reducible repeat (first | apply Kd.R_alloc | apply Kd.R_drewN | apply Kd.R_drew)); exact Kd.R_mono HO406.out (fun _ hk => ⟨hk.1.2, hk.2⟩)⟩, ⟨by repeat (first | (with_reducible first | exact HB.out | apply below_alloc | apply pw_below_drewN | apply below_drew1) | exact HB.out)⟩⟩)
     · (replace c34 := Bool.eq_false_iff.mpr c34); (subst c34); (have H1 : (laws_FnExactRunCars.j0 k l0 l1 l2 a3 t390 t391 t394 t397 t400 t403 t404 true) = some r := by rw [if_neg (show ¬ (false = true) by decide)] at H; exact H); clear H; have H := H1; clear H1; (have H' := Aside0.mk H); clear H; (obtain ⟨Ao38, co38, eo38⟩ := Kd.R_slice HO406.out); (subst eo38); (obtain ⟨Ao39, co39, eo39⟩ := Kd.R_slice HO393.out); (subst eo39); (go_wp2_with (first | ((with_reducible refine gate_callee (f := 16) rfl ?_); refine goesL_ (some 62) rfl rfl Try.func16 (by kernel_rfl) rfl #[.slice Ao38 t403.length co38, .slice Ao39 t390.length co39] rfl (by (try simp only [List.map_toArray, List.map_cons, List.map_nil]); first | done | rfl | (simp only [List.length_drop, List.length_take]; rfl)) ?_; (with_reducible refine (laws_eqCarS.calls k _ _ t403 _ _ t390 false _ ?side1 ?side2 ?side3 ?side4 A33.out).mono ?_); (case side1 => repeat (first | exact (Kd.R_reads' HO406.out).2.2 | (with_reducible refine Kd.C_alloc ?_ _) | (with_reducible refine Kd.C_drewN ?_ _) | (with_reducible refine Kd.C_drew ?_))); (case side2 => exact (Kd.R_reads' HO406.out).2.1); (case side3 => repeat (first | exact (Kd.R_reads' HO393.out).2.2 | (with_reducible refine Kd.C_alloc ?_ _) | (with_reducible refine Kd.C_drewN ?_ _) | (with_reducible refine Kd.C_drew ?_))); (case side4 => exact (Kd.R_reads' HO393.out).2.1); rintro e w40 ⟨rfl, hb⟩; refine ⟨_, rfl, ?_⟩; have n0_ := Aside0.mk (Kd.R_below (by (with_reducible repeat (first | apply Kd.R_alloc | apply Kd.R_drewN | apply Kd.R_drew)); exact HO383.out) hb); have n1_ := Aside0.mk (Kd.R_below (by (with_reducible repeat (first | apply Kd.R_alloc | apply Kd.R_drewN | apply Kd.R_drew)); exact HO386.out) hb); have n2_ := Aside0.mk (Kd.R_below (by (with_reducible repeat (first | apply Kd.R_alloc | apply Kd.R_drewN | apply Kd.R_drew)); exact HO389.out) hb); have n3_ := Aside0.mk (Kd.R_below (by (with_reducible repeat (first | apply Kd.R_alloc | apply Kd.R_drewN | apply Kd.R_drew)); exact HO393.out) hb); have n4_ := Aside0.mk (Kd.R_below (by (with_reducible repeat (first | apply Kd.R_alloc | apply Kd.R_drewN | apply Kd.R_drew)); exact HO396.out) hb); have n5_ := Aside0.mk (Kd.R_below (by (with_reducible repeat (first | apply Kd.R_alloc | apply Kd.R_drewN | apply Kd.R_drew)); exact HO399.out) hb); have n6_ := Aside0.mk (Kd.R_below (by (with_reducible repeat (first | apply Kd.R_alloc | apply Kd.R_drewN | apply Kd.R_drew)); exact HO402.out) hb); have n7_ := Aside0.mk (Kd.R_below (by (with_reducible repeat (first | apply Kd.R_alloc | apply Kd.R_drewN | apply Kd.R_drew)); exact HO406.out) hb); have n8_ := Aside0.mk (below_step (by repeat (first | (with_reducible first | exact HB.out | apply below_alloc | apply pw_below_drewN | apply below_drew1) | exact HB.out)) hb); clear HO383; clear HO386; clear HO389; clear HO393; clear HO396; clear HO399; clear HO402; clear HO406; clear HB; have HO383 := n0_; have HO386 := n1_; have HO389 := n2_; have HO393 := n3_; have HO396 := n4_; have HO399 := n5_; have HO402 := n6_; have HO406 := n7_; have HB := n8_; clear n0_ n1_ n2_ n3_ n4_ n5_ n6_ n7_ n8_; (try clear hb); (try clear hb2); (try clear hk); (try clear hi)))); (go_meet); (case rel => exact ⟨_, (true), (by first | rfl | (simp; done) | (simp [*]; done)), H', ⟨by first | omega | exact Nat.le_refl _⟩, ⟨by (with_reducible repeat (first | apply Kd.R_alloc | apply Kd.R_drewN | apply Kd.R_drew)); exact Kd.R_mono HO393.out (fun _ hk => ⟨hk.1.2, hk.2⟩)⟩, ⟨by (with_reducible repeat (first | apply Kd.R_alloc | apply Kd.R_drewN | apply Kd.R_drew)); exact Kd.R_mono HO396.out (fun _ hk => trivial)⟩, ⟨by (with_reducible repeat (first | apply Kd.R_alloc | apply Kd.R_drewN | apply Kd.R_drew)); exact Kd.R_mono HO399.out (fun _ hk => ⟨hk.1.2, hk.2⟩)⟩, ⟨by (with_reducible repeat (first | apply Kd.R_alloc | apply Kd.R_drewN | apply Kd.R_drew)); exact Kd.R_mono HO402.out (fun _ hk => trivial)⟩, ⟨by (with_reducible repeat (first | apply Kd.R_alloc | apply Kd.R_drewN | apply Kd.R_drew)); exact Kd.R_mono HO406.out (fun _ hk => ⟨hk.1.2, hk.2⟩)⟩, ⟨by repeat (first | (with_reducible first | exact HB.out | apply below_alloc | apply pw_below_drewN | apply below_drew1) | exact HB.out)⟩⟩)
    case rest =>
     clear HC18; (try clear c1); (try clear c2); (try clear p2); (try clear c3); (try clear c4); (try clear c5); (try clear c5b0); (try clear c5b1); (try clear c7); (try clear c7b0); (try clear c9); (try clear c9b0); (try clear c10); (try clear c12); (try clear c13); (try clear c14); (try clear c16); (try clear c23); (try clear c24); (try clear c34); (obtain ⟨kq, x68_17, rfl, HA, HJ17, HO_10, HO_12, HO_13, HO_14, HO_15, HB⟩ := hcut)
     cases kq with
     | zero => exact absurd HA.out (by simp [laws_FnExactRunCars.j0])
     | succ kj17 =>
      (have H := HA.out); clear HA; (simp only [laws_FnExactRunCars.j0] at H); (by_cases c41 : x68_17 = true); (· (subst c41); (have H1 : (some false) = some r := by rw [if_pos rfl] at H; exact H); clear H; have H := H1; clear H1; (obtain rfl := Option.some.inj H); (go_wp2); go_ret; (exact ⟨by first | rfl | (simp [errW_none, errW_some] <;> rfl) | (simp [*, errW_none, errW_some] <;> rfl), by repeat (first | (with_reducible first | exact HB.out | apply below_alloc | apply pw_below_drewN | apply below_drew1) | exact HB.out)⟩))
      ·
       (replace c41 := Bool.eq_false_iff.mpr c41); (subst c41); (have H1 : ((laws_toStreetS.f kj17 l0).bind fun t408 => ((laws_eqStreetS.f kj17 t394 t408).bind fun t411 => (if t411 = true then ((laws_toCarS.f kj17 l1).bind fun t412 => ((laws_eqCarS.f kj17 t397 t412).bind fun t415 => (if t415 = true then ((laws_toIntS.f kj17 l2).bind fun t416 => ((laws_eqIntS.f kj17 t400 t416).bind fun t419 => (if t419 = true then ((laws_markStreetS.f kj17 t394 1).bind fun bt420 => ((laws_markCarS.f kj17 t397 bt420.1).bind fun bt422 => ((laws_markIntS.f kj17 t400 bt422.1).bind fun bt424 => (if bt424.1 < 0 then (laws_FnExactRunCars.j1 kj17 l0 l1 l2 a3 t390 t391 t403 true) else ((laws_eqCarS.f kj17 t403 t390).bind fun t426 => (if t426 = true then (laws_FnExactRunCars.j1 kj17 l0 l1 l2 a3 t390 t391 t403 (t404 != t391)) else (laws_FnExactRunCars.j1 kj17 l0 l1 l2 a3 t390 t391 t403 true))))))) else (some false)))) else (some false)))) else (some false)))) = some r := by rw [if_neg (show ¬ (false = true) by decide)] at H; exact H); clear H; have H := H1; clear H1; (replace H := Option.bind_eq_some_iff.mp H); (obtain ⟨t408, A420, H⟩ := H); (replace H : ((laws_eqStreetS.f kj17 t394 t408).bind fun t411 => (if t411 = true then ((laws_toCarS.f kj17 l1).bind fun t412 => ((laws_eqCarS.f kj17 t397 t412).bind fun t415 => (if t415 = true then ((laws_toIntS.f kj17 l2).bind fun t416 => ((laws_eqIntS.f kj17 t400 t416).bind fun t419 => (if t419 = true then ((laws_markStreetS.f kj17 t394 1).bind fun bt420 => ((laws_markCarS.f kj17 t397 bt420.1).bind fun bt422 => ((laws_markIntS.f kj17 t400 bt422.1).bind fun bt424 => (if bt424.1 < 0 then (laws_FnExactRunCars.j1 kj17 l0 l1 l2 a3 t390 t391 t403 true) else ((laws_eqCarS.f kj17 t403 t390).bind fun t426 => (if t426 = true then (laws_FnExactRunCars.j1 kj17 l0 l1 l2 a3 t390 t391 t403 (t404 != t391)) else (laws_FnExactRunCars.j1 kj17 l0 l1 l2 a3 t390 t391 t403 true))))))) else (some false)))) else (some false)))) else (some false))) = some r := H); have A42 := Aside0.mk A420; clear A420; (replace H := Option.bind_eq_some_iff.mp H); (obtain ⟨t411, A430, H⟩ := H); (replace H : (if t411 = true then ((laws_toCarS.f kj17 l1).bind fun t412 => ((laws_eqCarS.f kj17 t397 t412).bind fun t415 => (if t415 = true then ((laws_toIntS.f kj17 l2).bind fun t416 => ((laws_eqIntS.f kj17 t400 t416).bind fun t419 => (if t419 = true then ((laws_markStreetS.f kj17 t394 1).bind fun bt420 => ((laws_markCarS.f kj17 t397 bt420.1).bind fun bt422 => ((laws_markIntS.f kj17 t400 bt422.1).bind fun bt424 => (if bt424.1 < 0 then (laws_FnExactRunCars.j1 kj17 l0 l1 l2 a3 t390 t391 t403 true) else ((laws_eqCarS.f kj17 t403 t390).bind fun t426 => (if t426 = true then (laws_FnExactRunCars.j1 kj17 l0 l1 l2 a3 t390 t391 t403 (t404 != t391)) else (laws_FnExactRunCars.j1 kj17 l0 l1 l2 a3 t390 t391 t403 true))))))) else (some false)))) else (some false)))) else (some false)) = some r := H); have A43 := Aside0.mk A430; clear A430; (by_cases c44 : t411 = true)
       ·
        (subst c44); (have H1 : ((laws_toCarS.f kj17 l1).bind fun t412 => ((laws_eqCarS.f kj17 t397 t412).bind fun t415 => (if t415 = true then ((laws_toIntS.f kj17 l2).bind fun t416 => ((laws_eqIntS.f kj17 t400 t416).bind fun t419 => (if t419 = true then ((laws_markStreetS.f kj17 t394 1).bind fun bt420 => ((laws_markCarS.f kj17 t397 bt420.1).bind fun bt422 => ((laws_markIntS.f kj17 t400 bt422.1).bind fun bt424 => (if bt424.1 < 0 then (laws_FnExactRunCars.j1 kj17 l0 l1 l2 a3 t390 t391 t403 true) else ((laws_eqCarS.f kj17 t403 t390).bind fun t426 => (if t426 = true then (laws_FnExactRunCars.j1 kj17 l0 l1 l2 a3 t390 t391 t403 (t404 != t391)) else (laws_FnExactRunCars.j1 kj17 l0 l1 l2 a3 t390 t391 t403 true))))))) else (some false)))) else (some false)))) = some r := by rw [if_pos rfl] at H; exact H); clear H; have H := H1; clear H1; (replace H := Option.bind_eq_some_iff.mp H); (obtain ⟨t412, A450, H⟩ := H); (replace H : ((laws_eqCarS.f kj17 t397 t412).bind fun t415 => (if t415 = true then ((laws_toIntS.f kj17 l2).bind fun t416 => ((laws_eqIntS.f kj17 t400 t416).bind fun t419 => (if t419 = true then ((laws_markStreetS.f kj17 t394 1).bind fun bt420 => ((laws_markCarS.f kj17 t397 bt420.1).bind fun bt422 => ((laws_markIntS.f kj17 t400 bt422.1).bind fun bt424 => (if bt424.1 < 0 then (laws_FnExactRunCars.j1 kj17 l0 l1 l2 a3 t390 t391 t403 true) else ((laws_eqCarS.f kj17 t403 t390).bind fun t426 => (if t426 = true then (laws_FnExactRunCars.j1 kj17 l0 l1 l2 a3 t390 t391 t403 (t404 != t391)) else (laws_FnExactRunCars.j1 kj17 l0 l1 l2 a3 t390 t391 t403 true))))))) else (some false)))) else (some false))) = some r := H); have A45 := Aside0.mk A450; clear A450; (replace H := Option.bind_eq_some_iff.mp H); (obtain ⟨t415, A460, H⟩ := H); (replace H : (if t415 = true then ((laws_toIntS.f kj17 l2).bind fun t416 => ((laws_eqIntS.f kj17 t400 t416).bind fun t419 => (if t419 = true then ((laws_markStreetS.f kj17 t394 1).bind fun bt420 => ((laws_markCarS.f kj17 t397 bt420.1).bind fun bt422 => ((laws_markIntS.f kj17 t400 bt422.1).bind fun bt424 => (if bt424.1 < 0 then (laws_FnExactRunCars.j1 kj17 l0 l1 l2 a3 t390 t391 t403 true) else ((laws_eqCarS.f kj17 t403 t390).bind fun t426 => (if t426 = true then (laws_FnExactRunCars.j1 kj17 l0 l1 l2 a3 t390 t391 t403 (t404 != t391)) else (laws_FnExactRunCars.j1 kj17 l0 l1 l2 a3 t390 t391 t403 true))))))) else (some false)))) else (some false)) = some r := H); have A46 := Aside0.mk A460; clear A460; (by_cases c47 : t415 = true)
        ·
         (subst c47); (have H1 : ((laws_toIntS.f kj17 l2).bind fun t416 => ((laws_eqIntS.f kj17 t400 t416).bind fun t419 => (if t419 = true then ((laws_markStreetS.f kj17 t394 1).bind fun bt420 => ((laws_markCarS.f kj17 t397 bt420.1).bind fun bt422 => ((laws_markIntS.f kj17 t400 bt422.1).bind fun bt424 => (if bt424.1 < 0 then (laws_FnExactRunCars.j1 kj17 l0 l1 l2 a3 t390 t391 t403 true) else ((laws_eqCarS.f kj17 t403 t390).bind fun t426 => (if t426 = true then (laws_FnExactRunCars.j1 kj17 l0 l1 l2 a3 t390 t391 t403 (t404 != t391)) else (laws_FnExactRunCars.j1 kj17 l0 l1 l2 a3 t390 t391 t403 true))))))) else (some false)))) = some r := by rw [if_pos rfl] at H; exact H); clear H; have H := H1; clear H1; (replace H := Option.bind_eq_some_iff.mp H); (obtain ⟨t416, A480, H⟩ := H); (replace H : ((laws_eqIntS.f kj17 t400 t416).bind fun t419 => (if t419 = true then ((laws_markStreetS.f kj17 t394 1).bind fun bt420 => ((laws_markCarS.f kj17 t397 bt420.1).bind fun bt422 => ((laws_markIntS.f kj17 t400 bt422.1).bind fun bt424 => (if bt424.1 < 0 then (laws_FnExactRunCars.j1 kj17 l0 l1 l2 a3 t390 t391 t403 true) else ((laws_eqCarS.f kj17 t403 t390).bind fun t426 => (if t426 = true then (laws_FnExactRunCars.j1 kj17 l0 l1 l2 a3 t390 t391 t403 (t404 != t391)) else (laws_FnExactRunCars.j1 kj17 l0 l1 l2 a3 t390 t391 t403 true))))))) else (some false))) = some r := H); have A48 := Aside0.mk A480; clear A480; (replace H := Option.bind_eq_some_iff.mp H); (obtain ⟨t419, A490, H⟩ := H); (replace H : (if t419 = true then ((laws_markStreetS.f kj17 t394 1).bind fun bt420 => ((laws_markCarS.f kj17 t397 bt420.1).bind fun bt422 => ((laws_markIntS.f kj17 t400 bt422.1).bind fun bt424 => (if bt424.1 < 0 then (laws_FnExactRunCars.j1 kj17 l0 l1 l2 a3 t390 t391 t403 true) else ((laws_eqCarS.f kj17 t403 t390).bind fun t426 => (if t426 = true then (laws_FnExactRunCars.j1 kj17 l0 l1 l2 a3 t390 t391 t403 (t404 != t391)) else (laws_FnExactRunCars.j1 kj17 l0 l1 l2 a3 t390 t391 t403 true))))))) else (some false)) = some r := H); have A49 := Aside0.mk A490; clear A490; (by_cases c50 : t419 = true)
         ·
          (subst c50); (have H1 : ((laws_markStreetS.f kj17 t394 1).bind fun bt420 => ((laws_markCarS.f kj17 t397 bt420.1).bind fun bt422 => ((laws_markIntS.f kj17 t400 bt422.1).bind fun bt424 => (if bt424.1 < 0 then (laws_FnExactRunCars.j1 kj17 l0 l1 l2 a3 t390 t391 t403 true) else ((laws_eqCarS.f kj17 t403 t390).bind fun t426 => (if t426 = true then (laws_FnExactRunCars.j1 kj17 l0 l1 l2 a3 t390 t391 t403 (t404 != t391)) else (laws_FnExactRunCars.j1 kj17 l0 l1 l2 a3 t390 t391 t403 true))))))) = some r := by rw [if_pos rfl] at H; exact H); clear H; have H := H1; clear H1; (replace H := Option.bind_eq_some_iff.mp H); (obtain ⟨⟨t420, t421⟩, A510, H⟩ := H); (replace H : ((laws_markCarS.f kj17 t397 t420).bind fun bt422 => ((laws_markIntS.f kj17 t400 bt422.1).bind fun bt424 => (if bt424.1 < 0 then (laws_FnExactRunCars.j1 kj17 l0 l1 l2 a3 t390 t391 t403 true) else ((laws_eqCarS.f kj17 t403 t390).bind fun t426 => (if t426 = true then (laws_FnExactRunCars.j1 kj17 l0 l1 l2 a3 t390 t391 t403 (t404 != t391)) else (laws_FnExactRunCars.j1 kj17 l0 l1 l2 a3 t390 t391 t403 true)))))) = some r := H); have A51 := Aside0.mk A510; clear A510; (replace H := Option.bind_eq_some_iff.mp H); (obtain ⟨⟨t422, t423⟩, A520, H⟩ := H); (replace H : ((laws_markIntS.f kj17 t400 t422).bind fun bt424 => (if bt424.1 < 0 then (laws_FnExactRunCars.j1 kj17 l0 l1 l2 a3 t390 t391 t403 true) else ((laws_eqCarS.f kj17 t403 t390).bind fun t426 => (if t426 = true then (laws_FnExactRunCars.j1 kj17 l0 l1 l2 a3 t390 t391 t403 (t404 != t391)) else (laws_FnExactRunCars.j1 kj17 l0 l1 l2 a3 t390 t391 t403 true))))) = some r := H); have A52 := Aside0.mk A520; clear A520; (replace H := Option.bind_eq_some_iff.mp H); (obtain ⟨⟨t424, t425⟩, A530, H⟩ := H); (replace H : (if t424 < 0 then (laws_FnExactRunCars.j1 kj17 l0 l1 l2 a3 t390 t391 t403 true) else ((laws_eqCarS.f kj17 t403 t390).bind fun t426 => (if t426 = true then (laws_FnExactRunCars.j1 kj17 l0 l1 l2 a3 t390 t391 t403 (t404 != t391)) else (laws_FnExactRunCars.j1 kj17 l0 l1 l2 a3 t390 t391 t403 true)))) = some r := H); have A53 := Aside0.mk A530; clear A530; have HC54 := Aside0.mk H; clear H; (go_upto_region 27 with (first | ((with_reducible refine gate_callee (f := 12) rfl ?_); refine goesL_ (some 71) rfl rfl Try.func12 (by kernel_rfl) rfl #[.slice A0 l0.length c0] rfl (by (try simp only [List.map_toArray, List.map_cons, List.map_nil]); first | done | rfl | (simp only [List.length_drop, List.length_take]; rfl)) ?_; (with_reducible refine (laws_toStreetS.calls kj17 _ _ l0 t408 _ ?side1 ?side2 A42.out).mono ?_); (case side1 => repeat (first | exact (Kd.C_below HR0.out HB.out) | (with_reducible refine Kd.C_alloc ?_ _) | (with_reducible refine Kd.C_drewN ?_ _) | (with_reducible refine Kd.C_drew ?_))); (case side2 => exact HC0.out); rintro e w55 ⟨v409, rfl, ho0, hb⟩; refine ⟨_, rfl, ?_⟩; have n0_ := Aside0.mk (Kd.R_below (by (with_reducible repeat (first | apply Kd.R_alloc | apply Kd.R_drewN | apply Kd.R_drew)); exact HO_10.out) hb); have n1_ := Aside0.mk (Kd.R_elder' (by (with_reducible repeat (first | apply Kd.R_alloc | apply Kd.R_drewN | apply Kd.R_drew)); exact HO_12.out) (Kd.R_base ho0) hb); have n2_ := Aside0.mk (Kd.R_below (by (with_reducible repeat (first | apply Kd.R_alloc | apply Kd.R_drewN | apply Kd.R_drew)); exact HO_13.out) hb); have n3_ := Aside0.mk (Kd.R_below (by (with_reducible repeat (first | apply Kd.R_alloc | apply Kd.R_drewN | apply Kd.R_drew)); exact HO_14.out) hb); have n4_ := Aside0.mk (Kd.R_below (by (with_reducible repeat (first | apply Kd.R_alloc | apply Kd.R_drewN | apply Kd.R_drew)); exact HO_15.out) hb); have n5_ := Aside0.mk (Kd.R_lower (Kd.R_new' ho0 (Kd.R_lt (by (with_reducible repeat (first | apply Kd.R_alloc | apply Kd.R_drewN | apply Kd.R_drew)); exact HO_12.out))) (below_size (by repeat (first | (with_reducible first | exact HB.out | apply below_alloc | apply pw_below_drewN | apply below_drew1) | exact HB.out)))); have n6_ := Aside0.mk (below_step (by repeat (first | (with_reducible first | exact HB.out | apply below_alloc | apply pw_below_drewN | apply below_drew1) | exact HB.out)) hb); clear HO_10; clear HO_12; clear HO_13; clear HO_14; clear HO_15; clear HB; have HO_10 := n0_; have HO_12 := n1_; have HO_13 := n2_; have HO_14 := n3_; have HO_15 := n4_; have HO410 := n5_; have HB := n6_; clear n0_ n1_ n2_ n3_ n4_ n5_ n6_; (try clear hb); (try clear hb2); (try clear hk); (try clear hi); (try clear ho0); obtain ⟨Ao56, co56, eo56⟩ := Kd.R_slice HO410.out; subst eo56) | ((with_reducible refine gate_callee (f := 17) rfl ?_); refine goesL_ (some 72) rfl rfl Try.func17 (by kernel_rfl) rfl #[.slice Ao29 t394.length co29, .slice Ao56 t408.length co56] rfl (by (try simp only [List.map_toArray, List.map_cons, List.map_nil]); first | done | rfl | (simp only [List.length_drop, List.length_take]; rfl)) ?_; (with_reducible refine (laws_eqStreetS.calls kj17 _ _ t394 _ _ t408 true _ ?side1 ?side2 ?side3 ?side4 A43.out).mono ?_); (case side1 => repeat (first | exact (Kd.R_reads' HO_12.out).2.2 | (with_reducible refine Kd.C_alloc ?_ _) | (with_reducible refine Kd.C_drewN ?_ _) | (with_reducible refine Kd.C_drew ?_))); (case side2 => exact (Kd.R_reads' HO_12.out).2.1); (case side3 => repeat (first | exact (Kd.R_reads' HO410.out).2.2 | (with_reducible refine Kd.C_alloc ?_ _) | (with_reducible refine Kd.C_drewN ?_ _) | (with_reducible refine Kd.C_drew ?_))); (case side4 => exact (Kd.R_reads' HO410.out).2.1); rintro e w57 ⟨rfl, hb⟩; refine ⟨_, rfl, ?_⟩; have n0_ := Aside0.mk (Kd.R_below (by (with_reducible repeat (first | apply Kd.R_alloc | apply Kd.R_drewN | apply Kd.R_drew)); exact HO_10.out) hb); have n1_ := Aside0.mk (Kd.R_below (by (with_reducible repeat (first | apply Kd.R_alloc | apply Kd.R_drewN | apply Kd.R_drew)); exact HO_12.out) hb); have n2_ := Aside0.mk (Kd.R_below (by (with_reducible repeat (first | apply Kd.R_alloc | apply Kd.R_drewN | apply Kd.R_drew)); exact HO_13.out) hb); have n3_ := Aside0.mk (Kd.R_below (by (with_reducible repeat (first | apply Kd.R_alloc | apply Kd.R_drewN | apply Kd.R_drew)); exact HO_14.out) hb); have n4_ := Aside0.mk (Kd.R_below (by (with_reducible repeat (first | apply Kd.R_alloc | apply Kd.R_drewN | apply Kd.R_drew)); exact HO_15.out) hb); have n5_ := Aside0.mk (Kd.R_below (by (with_reducible repeat (first | apply Kd.R_alloc | apply Kd.R_drewN | apply Kd.R_drew)); exact HO410.out) hb); have n6_ := Aside0.mk (below_step (by repeat (first | (with_reducible first | exact HB.out | apply below_alloc | apply pw_below_drewN | apply below_drew1) | exact HB.out)) hb); clear HO_10; clear HO_12; clear HO_13; clear HO_14; clear HO_15; clear HO410; clear HB; have HO_10 := n0_; have HO_12 := n1_; have HO_13 := n2_; have HO_14 := n3_; have HO_15 := n4_; have HO410 := n5_; have HB := n6_; clear n0_ n1_ n2_ n3_ n4_ n5_ n6_; (try clear hb); (try clear hb2); (try clear hk); (try clear hi)) | ((with_reducible refine gate_callee (f := 13) rfl ?_); refine goesL_ (some 76) rfl rfl Try.func13 (by kernel_rfl) rfl #[.slice A1 l1.length c1] rfl (by (try simp only [List.map_toArray, List.map_cons, List.map_nil]); first | done | rfl | (simp only [List.length_drop, List.length_take]; rfl)) ?_; (with_reducible refine (laws_toCarS.calls kj17 _ _ l1 t412 _ ?side1 ?side2 A45.out).mono ?_); (case side1 => repeat (first | exact (Kd.C_below HR1.out HB.out) | (with_reducible refine Kd.C_alloc ?_ _) | (with_reducible refine Kd.C_drewN ?_ _) | (with_reducible refine Kd.C_drew ?_))); (case side2 => exact HC1.out); rintro e w58 ⟨v413, rfl, ho0, hb⟩; refine ⟨_, rfl, ?_⟩; have n0_ := Aside0.mk (Kd.R_elder' (by (with_reducible repeat (first | apply Kd.R_alloc | apply Kd.R_drewN | apply Kd.R_drew)); exact HO_10.out) (Kd.R_base ho0) hb); have n1_ := Aside0.mk (Kd.R_below (by (with_reducible repeat (first | apply Kd.R_alloc | apply Kd.R_drewN | apply Kd.R_drew)); exact HO_12.out) hb); have n2_ := Aside0.mk (Kd.R_elder' (by (with_reducible repeat (first | apply Kd.R_alloc | apply Kd.R_drewN | apply Kd.R_drew)); exact HO_13.out) (Kd.R_base ho0) hb); have n3_ := Aside0.mk (Kd.R_below (by (with_reducible repeat (first | apply Kd.R_alloc | apply Kd.R_drewN | apply Kd.R_drew)); exact HO_14.out) hb); have n4_ := Aside0.mk (Kd.R_elder' (by (with_reducible repeat (first | apply Kd.R_alloc | apply Kd.R_drewN | apply Kd.R_drew)); exact HO_15.out) (Kd.R_base ho0) hb); have n5_ := Aside0.mk (Kd.R_below (by (with_reducible repeat (first | apply Kd.R_alloc | apply Kd.R_drewN | apply Kd.R_drew)); exact HO410.out) hb); have n6_ := Aside0.mk (Kd.R_lower (Kd.R_new' (Kd.R_new' (Kd.R_new' ho0 (Kd.R_lt (by (with_reducible repeat (first | apply Kd.R_alloc | apply Kd.R_drewN | apply Kd.R_drew)); exact HO_10.out))) (Kd.R_lt (by (with_reducible repeat (first | apply Kd.R_alloc | apply Kd.R_drewN | apply Kd.R_drew)); exact HO_13.out))) (Kd.R_lt (by (with_reducible repeat (first | apply Kd.R_alloc | apply Kd.R_drewN | apply Kd.R_drew)); exact HO_15.out))) (below_size (by repeat (first | (with_reducible first | exact HB.out | apply below_alloc | apply pw_below_drewN | apply below_drew1) | exact HB.out)))); have n7_ := Aside0.mk (below_step (by repeat (first | (with_reducible first | exact HB.out | apply below_alloc | apply pw_below_drewN | apply below_drew1) | exact HB.out)) hb); clear HO_10; clear HO_12; clear HO_13; clear HO_14; clear HO_15; clear HO410; clear HB; have HO_10 := n0_; have HO_12 := n1_; have HO_13 := n2_; have HO_14 := n3_; have HO_15 := n4_; have HO410 := n5_; have HO414 := n6_; have HB := n7_; clear n0_ n1_ n2_ n3_ n4_ n5_ n6_ n7_; (try clear hb); (try clear hb2); (try clear hk); (try clear hi); (try clear ho0); obtain ⟨Ao59, co59, eo59⟩ := Kd.R_slice HO414.out; subst eo59) | ((with_reducible refine gate_callee (f := 16) rfl ?_); refine goesL_ (some 77) rfl rfl Try.func16 (by kernel_rfl) rfl #[.slice Ao30 t397.length co30, .slice Ao59 t412.length co59] rfl (by (try simp only [List.map_toArray, List.map_cons, List.map_nil]); first | done | rfl | (simp only [List.length_drop, List.length_take]; rfl)) ?_; (with_reducible refine (laws_eqCarS.calls kj17 _ _ t397 _ _ t412 true _ ?side1 ?side2 ?side3 ?side4 A46.out).mono ?_); (case side1 => repeat (first | exact (Kd.R_reads' HO_13.out).2.2 | (with_reducible refine Kd.C_alloc ?_ _) | (with_reducible refine Kd.C_drewN ?_ _) | (with_reducible refine Kd.C_drew ?_))); (case side2 => exact (Kd.R_reads' HO_13.out).2.1); (case side3 => repeat (first | exact (Kd.R_reads' HO414.out).2.2 | (with_reducible refine Kd.C_alloc ?_ _) | (with_reducible refine Kd.C_drewN ?_ _) | (with_reducible refine Kd.C_drew ?_))); (case side4 => exact (Kd.R_reads' HO414.out).2.1); rintro e w60 ⟨rfl, hb⟩; refine ⟨_, rfl, ?_⟩; have n0_ := Aside0.mk (Kd.R_below (by (with_reducible repeat (first | apply Kd.R_alloc | apply Kd.R_drewN | apply Kd.R_drew)); exact HO_10.out) hb); have n1_ := Aside0.mk (Kd.R_below (by (with_reducible repeat (first | apply Kd.R_alloc | apply Kd.R_drewN | apply Kd.R_drew)); exact HO_12.out) hb); have n2_ := Aside0.mk (Kd.R_below (by (with_reducible repeat (first | apply Kd.R_alloc | apply Kd.R_drewN | apply Kd.R_drew)); exact HO_13.out) hb); have n3_ := Aside0.mk (Kd.R_below (by (with_reducible repeat (first | apply Kd.R_alloc | apply Kd.R_drewN | apply Kd.R_drew)); exact HO_14.out) hb); have n4_ := Aside0.mk (Kd.R_below (by (with_reducible repeat (first | apply Kd.R_alloc | apply Kd.R_drewN | apply Kd.R_drew)); exact HO_15.out) hb); have n5_ := Aside0.mk (Kd.R_below (by (with_reducible repeat (first | apply Kd.R_alloc | apply Kd.R_drewN | apply Kd.R_drew)); exact HO410.out) hb); have n6_ := Aside0.mk (Kd.R_below (by (with_reducible repeat (first | apply Kd.R_alloc | apply Kd.R_drewN | apply Kd.R_drew)); exact HO414.out) hb); have n7_ := Aside0.mk (below_step (by repeat (first | (with_reducible first | exact HB.out | apply below_alloc | apply pw_below_drewN | apply below_drew1) | exact HB.out)) hb); clear HO_10; clear HO_12; clear HO_13; clear HO_14; clear HO_15; clear HO410; clear HO414; clear HB; have HO_10 := n0_; have HO_12 := n1_; have HO_13 := n2_; have HO_14 := n3_; have HO_15 := n4_; have HO410 := n5_; have HO414 := n6_; have HB := n7_; clear n0_ n1_ n2_ n3_ n4_ n5_ n6_ n7_; (try clear hb); (try clear hb2); (try clear hk); (try clear hi)) | ((with_reducible refine gate_callee (f := 14) rfl ?_); refine goesL_ (some 81) rfl rfl Try.func14 (by kernel_rfl) rfl #[.slice A2 l2.length c2] rfl (by (try simp only [List.map_toArray, List.map_cons, List.map_nil]); first | done | rfl | (simp only [List.length_drop, List.length_take]; rfl)) ?_; (with_reducible refine (laws_toIntS.calls kj17 _ _ l2 t416 _ ?side1 ?side2 A48.out).mono ?_); (case side1 => repeat (first | exact (Kd.C_below HR2.out HB.out) | (with_reducible refine Kd.C_alloc ?_ _) | (with_reducible refine Kd.C_drewN ?_ _) | (with_reducible refine Kd.C_drew ?_))); (case side2 => exact HC2.out); rintro e w61 ⟨v417, rfl, ho0, hb⟩; refine ⟨_, rfl, ?_⟩; have n0_ := Aside0.mk (Kd.R_below (by (with_reducible repeat (first | apply Kd.R_alloc | apply Kd.R_drewN | apply Kd.R_drew)); exact HO_10.out) hb); have n1_ := Aside0.mk (Kd.R_below (by (with_reducible repeat (first | apply Kd.R_alloc | apply Kd.R_drewN | apply Kd.R_drew)); exact HO_12.out) hb); have n2_ := Aside0.mk (Kd.R_below (by (with_reducible repeat (first | apply Kd.R_alloc | apply Kd.R_drewN | apply Kd.R_drew)); exact HO_13.out) hb); have n3_ := Aside0.mk (Kd.R_elder' (by (with_reducible repeat (first | apply Kd.R_alloc | apply Kd.R_drewN | apply Kd.R_drew)); exact HO_14.out) (Kd.R_base ho0) hb); have n4_ := Aside0.mk (Kd.R_below (by (with_reducible repeat (first | apply Kd.R_alloc | apply Kd.R_drewN | apply Kd.R_drew)); exact HO_15.out) hb); have n5_ := Aside0.mk (Kd.R_below (by (with_reducible repeat (first | apply Kd.R_alloc | apply Kd.R_drewN | apply Kd.R_drew)); exact HO410.out) hb); have n6_ := Aside0.mk (Kd.R_below (by (with_reducible repeat (first | apply Kd.R_alloc | apply Kd.R_drewN | apply Kd.R_drew)); exact HO414.out) hb); have n7_ := Aside0.mk (Kd.R_lower (Kd.R_new' ho0 (Kd.R_lt (by (with_reducible repeat (first | apply Kd.R_alloc | apply Kd.R_drewN | apply Kd.R_drew)); exact HO_14.out))) (below_size (by repeat (first | (with_reducible first | exact HB.out | apply below_alloc | apply pw_below_drewN | apply below_drew1) | exact HB.out)))); have n8_ := Aside0.mk (below_step (by repeat (first | (with_reducible first | exact HB.out | apply below_alloc | apply pw_below_drewN | apply below_drew1) | exact HB.out)) hb); clear HO_10; clear HO_12; clear HO_13; clear HO_14; clear HO_15; clear HO410; clear HO414; clear HB; have HO_10 := n0_; have HO_12 := n1_; have HO_13 := n2_; have HO_14 := n3_; have HO_15 := n4_; have HO410 := n5_; have HO414 := n6_; have HO418 := n7_; have HB := n8_; clear n0_ n1_ n2_ n3_ n4_ n5_ n6_ n7_ n8_; (try clear hb); (try clear hb2); (try clear hk); (try clear hi); (try clear ho0); obtain ⟨Ao62, co62, eo62⟩ := Kd.R_slice HO418.out; subst eo62) | ((with_reducible refine gate_callee (f := 18) rfl ?_); refine goesL_ (some 82) rfl rfl Try.func18 (by kernel_rfl) rfl #[.slice Ao31 t400.length co31, .slice Ao62 t416.length co62] rfl (by (try simp only [List.map_toArray, List.map_cons, List.map_nil]); first | done | rfl | (simp only [List.length_drop, List.length_take]; rfl)) ?_; (with_reducible refine (laws_eqIntS.calls kj17 _ _ t400 _ _ t416 true _ ?side1 ?side2 ?side3 ?side4 A49.out).mono ?_); (case side1 => repeat (first | exact (Kd.R_reads' HO_14.out).2.2 | (with_reducible refine Kd.C_alloc ?_ _) | (with_reducible refine Kd.C_drewN ?_ _) | (with_reducible refine Kd.C_drew ?_))); (case side2 => exact (Kd.R_reads' HO_14.out).2.1); (case side3 => repeat (first | exact (Kd.R_reads' HO418.out).2.2 | (with_reducible refine Kd.C_alloc ?_ _) | (with_reducible refine Kd.C_drewN ?_ _) | (with_reducible refine Kd.C_drew ?_))); (case side4 => exact (Kd.R_reads' HO418.out).2.1); rintro e w' ⟨rfl, ⟨nd, rfl⟩⟩; refine ⟨_, rfl, ?_⟩) | ((with_reducible refine gate_callee (f := 19) rfl ?_); refine goesL_ (some 86) rfl rfl Try.func19 (by kernel_rfl) rfl #[.slice Ao29 t394.length co29, .int .i64 1] rfl (by (try simp only [List.map_toArray, List.map_cons, List.map_nil]); first | done | rfl | (simp only [List.length_drop, List.length_take]; rfl)) ?_; (with_reducible refine (laws_markStreetS.calls kj17 (fun k_ => some k_ = (.slice Ao29 t394.length co29 : Value).ownBlock) (.slice Ao29 t394.length co29) t394 1 t420 t421 w _ ?side1 ?side2 A51.out).mono ?_); (case side1 => repeat (first | (with_reducible first | exact HB.out | apply below_alloc | apply pw_below_drewN | apply below_drew1) | exact HB.out)); (case side2 => exact Kd.R_tight rfl HO_12.out); rintro e w63 ⟨rfl, hy0, hb, hkp⟩; refine ⟨_, rfl, ?_⟩; have n0_ := Aside0.mk (Kd.R_mono (ok' := fun k_ => some k_ ≠ (.slice Ao30 t397.length co30 : Value).ownBlock ∧ some k_ ≠ (v405 : Value).ownBlock ∧ some k_ ≠ (.slice Ao59 t412.length co59 : Value).ownBlock) (Kd.R_keptB ((Kd.R_apart' HO_10.out (Kd.R_typed HO_12.out) (by decide))) hkp (fun k_ hk_ hs_ => (hk_.2) hs_)) (fun k_ hk_ => ⟨hk_.1.1.1.1, hk_.1.1.1.2, hk_.1.1.2⟩)); have n1_ := Aside0.mk (Kd.R_reok rfl hy0 (fun k_ e_ => HO_12.out.1 k_ e_)); have n2_ := Aside0.mk (Kd.R_mono (ok' := fun k_ => some k_ ≠ (v392 : Value).ownBlock ∧ some k_ ≠ (v405 : Value).ownBlock ∧ some k_ ≠ (.slice Ao59 t412.length co59 : Value).ownBlock) (Kd.R_keptB ((Kd.R_apart' HO_13.out (Kd.R_typed HO_12.out) (by decide))) hkp (fun k_ hk_ hs_ => (hk_.2) hs_)) (fun k_ hk_ => ⟨hk_.1.1.1.1, hk_.1.1.1.2, hk_.1.1.2⟩)); have n3_ := Aside0.mk (Kd.R_mono (ok' := fun k_ => some k_ ≠ (.slice Ao62 t416.length co62 : Value).ownBlock) (Kd.R_keptB ((Kd.R_apart' HO_14.out (Kd.R_typed HO_12.out) (by decide))) hkp (fun k_ hk_ hs_ => (hk_.2) hs_)) (fun k_ hk_ => hk_.1.1.2)); have n4_ := Aside0.mk (Kd.R_mono (ok' := fun k_ => some k_ ≠ (v392 : Value).ownBlock ∧ some k_ ≠ (.slice Ao30 t397.length co30 : Value).ownBlock ∧ some k_ ≠ (.slice Ao59 t412.length co59 : Value).ownBlock) (Kd.R_keptB ((Kd.R_apart' HO_15.out (Kd.R_typed HO_12.out) (by decide))) hkp (fun k_ hk_ hs_ => (hk_.2) hs_)) (fun k_ hk_ => ⟨hk_.1.1.1.1, hk_.1.1.1.2, hk_.1.1.2⟩)); have n5_ := Aside0.mk (Kd.R_mono (ok' := fun k_ => some k_ ≠ (.slice Ao29 t394.length co29 : Value).ownBlock) (Kd.R_keptB (HO410.out) hkp (fun k_ hk_ hs_ => (hk_.2) hs_)) (fun k_ hk_ => hk_.1.2)); have n6_ := Aside0.mk (Kd.R_mono (ok' := fun k_ => some k_ ≠ (v392 : Value).ownBlock ∧ some k_ ≠ (.slice Ao30 t397.length co30 : Value).ownBlock ∧ some k_ ≠ (v405 : Value).ownBlock) (Kd.R_keptB ((Kd.R_apart' HO414.out (Kd.R_typed HO_12.out) (by decide))) hkp (fun k_ hk_ hs_ => (hk_.2) hs_)) (fun k_ hk_ => ⟨hk_.1.1.1.1.2, hk_.1.1.1.2, hk_.1.1.2⟩)); have n7_ := Aside0.mk (Kd.R_mono (ok' := fun k_ => some k_ ≠ (.slice Ao31 t400.length co31 : Value).ownBlock) (Kd.R_keptB ((Kd.R_apart' HO418.out (Kd.R_typed HO_12.out) (by decide))) hkp (fun k_ hk_ hs_ => (hk_.2) hs_)) (fun k_ hk_ => hk_.1.1.2)); have n8_ := Aside0.mk (hb); clear HO_10; clear HO_12; clear HO_13; clear HO_14; clear HO_15; clear HO410; clear HO414; clear HO418; clear HB; have HO_10 := n0_; have HO_12 := n1_; have HO_13 := n2_; have HO_14 := n3_; have HO_15 := n4_; have HO410 := n5_; have HO414 := n6_; have HO418 := n7_; have HB := n8_; clear n0_ n1_ n2_ n3_ n4_ n5_ n6_ n7_ n8_; (try clear hb); (try clear hkp); (try clear hy0)) | ((with_reducible refine gate_callee (f := 20) rfl ?_); refine goesL_ (some 89) rfl rfl Try.func20 (by kernel_rfl) rfl #[.slice Ao30 t397.length co30, .int .i64 t420] rfl (by (try simp only [List.map_toArray, List.map_cons, List.map_nil]); first | done | rfl | (simp only [List.length_drop, List.length_take]; rfl)) ?_; (with_reducible refine (laws_markCarS.calls kj17 (fun k_ => some k_ = (.slice Ao30 t397.length co30 : Value).ownBlock) (.slice Ao30 t397.length co30) t397 t420 t422 t423 w _ ?side1 ?side2 A52.out).mono ?_); (case side1 => repeat (first | (with_reducible first | exact HB.out | apply below_alloc | apply pw_below_drewN | apply below_drew1) | exact HB.out)); (case side2 => exact Kd.R_tight rfl HO_13.out); rintro e w64 ⟨rfl, hy0, hb, hkp⟩; refine ⟨_, rfl, ?_⟩; have n0_ := Aside0.mk (Kd.R_mono (ok' := fun k_ => some k_ ≠ (.slice Ao30 t397.length co30 : Value).ownBlock ∧ some k_ ≠ (v405 : Value).ownBlock ∧ some k_ ≠ (.slice Ao59 t412.length co59 : Value).ownBlock) (Kd.R_keptB (HO_10.out) hkp (fun k_ hk_ hs_ => (hk_.1) hs_)) (fun k_ hk_ => ⟨hk_.1.1, hk_.1.2.1, hk_.1.2.2⟩)); have n1_ := Aside0.mk (Kd.R_mono (ok' := fun k_ => some k_ ≠ (.slice Ao56 t408.length co56 : Value).ownBlock) (Kd.R_keptB ((Kd.R_apart' HO_12.out (Kd.R_typed HO_13.out) (by decide))) hkp (fun k_ hk_ hs_ => (hk_.2) hs_)) (fun k_ hk_ => hk_.1.1.2)); have n2_ := Aside0.mk (Kd.R_reok rfl hy0 (fun k_ e_ => HO_13.out.1 k_ e_)); have n3_ := Aside0.mk (Kd.R_mono (ok' := fun k_ => some k_ ≠ (.slice Ao62 t416.length co62 : Value).ownBlock) (Kd.R_keptB ((Kd.R_apart' HO_14.out (Kd.R_typed HO_13.out) (by decide))) hkp (fun k_ hk_ hs_ => (hk_.2) hs_)) (fun k_ hk_ => hk_.1.1)); have n4_ := Aside0.mk (Kd.R_mono (ok' := fun k_ => some k_ ≠ (v392 : Value).ownBlock ∧ some k_ ≠ (.slice Ao30 t397.length co30 : Value).ownBlock ∧ some k_ ≠ (.slice Ao59 t412.length co59 : Value).ownBlock) (Kd.R_keptB (HO_15.out) hkp (fun k_ hk_ hs_ => (hk_.2.1) hs_)) (fun k_ hk_ => ⟨hk_.1.1, hk_.1.2.1, hk_.1.2.2⟩)); have n5_ := Aside0.mk (Kd.R_mono (ok' := fun k_ => some k_ ≠ (.slice Ao29 t394.length co29 : Value).ownBlock) (Kd.R_keptB ((Kd.R_apart' HO410.out (Kd.R_typed HO_13.out) (by decide))) hkp (fun k_ hk_ hs_ => (hk_.2) hs_)) (fun k_ hk_ => hk_.1.1)); have n6_ := Aside0.mk (Kd.R_mono (ok' := fun k_ => some k_ ≠ (v392 : Value).ownBlock ∧ some k_ ≠ (.slice Ao30 t397.length co30 : Value).ownBlock ∧ some k_ ≠ (v405 : Value).ownBlock) (Kd.R_keptB (HO414.out) hkp (fun k_ hk_ hs_ => (hk_.2.1) hs_)) (fun k_ hk_ => ⟨hk_.1.1, hk_.1.2.1, hk_.1.2.2⟩)); have n7_ := Aside0.mk (Kd.R_mono (ok' := fun k_ => some k_ ≠ (.slice Ao31 t400.length co31 : Value).ownBlock) (Kd.R_keptB ((Kd.R_apart' HO418.out (Kd.R_typed HO_13.out) (by decide))) hkp (fun k_ hk_ hs_ => (hk_.2) hs_)) (fun k_ hk_ => hk_.1.1)); have n8_ := Aside0.mk (hb); clear HO_10; clear HO_12; clear HO_13; clear HO_14; clear HO_15; clear HO410; clear HO414; clear HO418; clear HB; have HO_10 := n0_; have HO_12 := n1_; have HO_13 := n2_; have HO_14 := n3_; have HO_15 := n4_; have HO410 := n5_; have HO414 := n6_; have HO418 := n7_; have HB := n8_; clear n0_ n1_ n2_ n3_ n4_ n5_ n6_ n7_ n8_; (try clear hb); (try clear hkp); (try clear hy0)) | ((with_reducible refine gate_callee (f := 21) rfl ?_); refine goesL_ (some 92) rfl rfl Try.func21 (by kernel_rfl) rfl #[.slice Ao31 t400.length co31, .int .i64 t422] rfl (by (try simp only [List.map_toArray, List.map_cons, List.map_nil]); first | done | rfl | (simp only [List.length_drop, List.length_take]; rfl)) ?_; (with_reducible refine (laws_markIntS.calls kj17 (fun k_ => some k_ = (.slice Ao31 t400.length co31 : Value).ownBlock) (.slice Ao31 t400.length co31) t400 t422 t424 t425 w _ ?side1 ?side2 A53.out).mono ?_); (case side1 => repeat (first | (with_reducible first | exact HB.out | apply below_alloc | apply pw_below_drewN | apply below_drew1) | exact HB.out)); (case side2 => exact Kd.R_tight rfl HO_14.out); rintro e w65 ⟨rfl, hy0, hb, hkp⟩; refine ⟨_, rfl, ?_⟩; have n0_ := Aside0.mk (Kd.R_mono (ok' := fun k_ => some k_ ≠ (.slice Ao30 t397.length co30 : Value).ownBlock ∧ some k_ ≠ (v405 : Value).ownBlock ∧ some k_ ≠ (.slice Ao59 t412.length co59 : Value).ownBlock) (Kd.R_keptB ((Kd.R_apart' HO_10.out (Kd.R_typed HO_14.out) (by decide))) hkp (fun k_ hk_ hs_ => (hk_.2) hs_)) (fun k_ hk_ => ⟨hk_.1.1.1, hk_.1.1.2.1, hk_.1.1.2.2⟩)); have n1_ := Aside0.mk (Kd.R_mono (ok' := fun k_ => some k_ ≠ (.slice Ao56 t408.length co56 : Value).ownBlock) (Kd.R_keptB ((Kd.R_apart' HO_12.out (Kd.R_typed HO_14.out) (by decide))) hkp (fun k_ hk_ hs_ => (hk_.2) hs_)) (fun k_ hk_ => hk_.1.1)); have n2_ := Aside0.mk (Kd.R_mono (ok' := fun k_ => some k_ ≠ (v392 : Value).ownBlock ∧ some k_ ≠ (v405 : Value).ownBlock ∧ some k_ ≠ (.slice Ao59 t412.length co59 : Value).ownBlock) (Kd.R_keptB ((Kd.R_apart' HO_13.out (Kd.R_typed HO_14.out) (by decide))) hkp (fun k_ hk_ hs_ => (hk_.2) hs_)) (fun k_ hk_ => ⟨hk_.1.1.1, hk_.1.1.2.1, hk_.1.1.2.2⟩)); have n3_ := Aside0.mk (Kd.R_reok rfl hy0 (fun k_ e_ => HO_14.out.1 k_ e_)); have n4_ := Aside0.mk (Kd.R_mono (ok' := fun k_ => some k_ ≠ (v392 : Value).ownBlock ∧ some k_ ≠ (.slice Ao30 t397.length co30 : Value).ownBlock ∧ some k_ ≠ (.slice Ao59 t412.length co59 : Value).ownBlock) (Kd.R_keptB ((Kd.R_apart' HO_15.out (Kd.R_typed HO_14.out) (by decide))) hkp (fun k_ hk_ hs_ => (hk_.2) hs_)) (fun k_ hk_ => ⟨hk_.1.1.1, hk_.1.1.2.1, hk_.1.1.2.2⟩)); have n5_ := Aside0.mk (Kd.R_mono (ok' := fun k_ => some k_ ≠ (.slice Ao29 t394.length co29 : Value).ownBlock) (Kd.R_keptB ((Kd.R_apart' HO410.out (Kd.R_typed HO_14.out) (by decide))) hkp (fun k_ hk_ hs_ => (hk_.2) hs_)) (fun k_ hk_ => hk_.1.1)); have n6_ := Aside0.mk (Kd.R_mono (ok' := fun k_ => some k_ ≠ (v392 : Value).ownBlock ∧ some k_ ≠ (.slice Ao30 t397.length co30 : Value).ownBlock ∧ some k_ ≠ (v405 : Value).ownBlock) (Kd.R_keptB ((Kd.R_apart' HO414.out (Kd.R_typed HO_14.out) (by decide))) hkp (fun k_ hk_ hs_ => (hk_.2) hs_)) (fun k_ hk_ => ⟨hk_.1.1.1, hk_.1.1.2.1, hk_.1.1.2.2⟩)); have n7_ := Aside0.mk (Kd.R_mono (ok' := fun k_ => some k_ ≠ (.slice Ao31 t400.length co31 : Value).ownBlock) (Kd.R_keptB (HO418.out) hkp (fun k_ hk_ hs_ => (hk_) hs_)) (fun k_ hk_ => hk_.1)); have n8_ := Aside0.mk (hb); clear HO_10; clear HO_12; clear HO_13; clear HO_14; clear HO_15; clear HO410; clear HO414; clear HO418; clear HB; have HO_10 := n0_; have HO_12 := n1_; have HO_13 := n2_; have HO_14 := n3_; have HO_15 := n4_; have HO410 := n5_; have HO414 := n6_; have HO418 := n7_; have HB := n8_; clear n0_ n1_ n2_ n3_ n4_ n5_ n6_ n7_ n8_; (try clear hb); (try clear hkp); (try clear hy0))))
          ((try simp only [Act.put, List.setIfInBounds_toArray, List.set_cons_zero, List.set_cons_succ])); (go_cut [105] (fun v105 wc => ∃ (kq : Nat) (x105_53 : Bool), v105 = .bool x105_53 ∧ Aside0 (laws_FnExactRunCars.j1 kq l0 l1 l2 a3 t390 t391 t403 x105_53 = some r) ∧ Aside0 (kq ≤ kj17) ∧ Aside0 (Kd.R k52 52 wc w.heap.size (fun k_ => some k_ ≠ (v405 : Value).ownBlock) v392 t390) ∧ Aside0 (Kd.R k52 52 wc w.heap.size (fun k_ => some k_ ≠ (v392 : Value).ownBlock) v405 t403) ∧ Aside0 (Below w.heap.size w wc)))
          case first =>
           (have H := HC54.out); clear HC54; (by_cases c66 : t424 < 0)
           · (rw [if_pos c66] at H); (have c66b0 : decide (t424 < 0) = true := decide_eq_true c66); clear c66; ((first | rw [c66b0] | (simp only [i64_w, i32_w]; rw [c66b0]) | skip)); (have H' := Aside0.mk H); clear H; (go_wp2); (go_meet); (case rel => exact ⟨_, (true), (by first | rfl | (simp; done) | (simp [*]; done)), H', ⟨by have := HJ17.out; first | omega | exact Nat.le_refl _⟩, ⟨by (with_reducible repeat (first | apply Kd.R_alloc | apply Kd.R_drewN | apply Kd.R_drew)); exact Kd.R_mono HO_10.out (fun _ hk => hk.2.1)⟩, ⟨by (with_reducible repeat (first | apply Kd.R_alloc | apply Kd.R_drewN | apply Kd.R_drew)); exact Kd.R_mono HO_15.out (fun _ hk => hk.1)⟩, ⟨by repeat (first | (with_reducible first | exact HB.out | apply below_alloc | apply pw_below_drewN | apply below_drew1) | exact HB.out)⟩⟩)
           ·
            (rw [if_neg c66] at H); (have c66b0 : decide (t424 < 0) = false := decide_eq_false c66); clear c66; ((first | rw [c66b0] | (simp only [i64_w, i32_w]; rw [c66b0]) | skip)); (replace H := Option.bind_eq_some_iff.mp H); (obtain ⟨t426, A670, H⟩ := H); (replace H : (if t426 = true then (laws_FnExactRunCars.j1 kj17 l0 l1 l2 a3 t390 t391 t403 (t404 != t391)) else (laws_FnExactRunCars.j1 kj17 l0 l1 l2 a3 t390 t391 t403 true)) = some r := H); have A67 := Aside0.mk A670; clear A670; (by_cases c68 : t426 = true)
            · (subst c68); (have H1 : (laws_FnExactRunCars.j1 kj17 l0 l1 l2 a3 t390 t391 t403 (t404 != t391)) = some r := by rw [if_pos rfl] at H; exact H); clear H; have H := H1; clear H1; (have H' := Aside0.mk H); clear H; (obtain ⟨Ao69, co69, eo69⟩ := Kd.R_slice HO_15.out); (subst eo69); (obtain ⟨Ao70, co70, eo70⟩ := Kd.R_slice HO_10.out); (subst eo70); (go_wp2_with (first | (go_at_call 16; (with_reducible refine (laws_eqCarS.calls kj17 _ _ t403 _ _ t390 true _ ?side1 ?side2 ?side3 ?side4 A67.out).mono ?_); (case side1 => repeat (first | exact (Kd.R_reads' HO_15.out).2.2 | (with_reducible refine Kd.C_alloc ?_ _) | (with_reducible refine Kd.C_drewN ?_ _) | (with_reducible refine Kd.C_drew ?_))); (case side2 => exact (Kd.R_reads' HO_15.out).2.1); (case side3 => repeat (first | exact (Kd.R_reads' HO_10.out).2.2 | (with_reducible refine Kd.C_alloc ?_ _) | (with_reducible refine Kd.C_drewN ?_ _) | (with_reducible refine Kd.C_drew ?_))); (case side4 => exact (Kd.R_reads' HO_10.out).2.1); rintro e w71 ⟨rfl, hb⟩; have n0_ := Aside0.mk (Kd.R_below (by (with_reducible repeat (first | apply Kd.R_alloc | apply Kd.R_drewN | apply Kd.R_drew)); exact HO_10.out) hb); have n1_ := Aside0.mk (Kd.R_below (by (with_reducible repeat (first | apply Kd.R_alloc | apply Kd.R_drewN | apply Kd.R_drew)); exact HO_12.out) hb); have n2_ := Aside0.mk (Kd.R_below (by (with_reducible repeat (first | apply Kd.R_alloc | apply Kd.R_drewN | apply Kd.R_drew)); exact HO_13.out) hb); have n3_ := Aside0.mk (Kd.R_below (by (with_reducible repeat (first | apply Kd.R_alloc | apply Kd.R_drewN | apply Kd.R_drew)); exact HO_14.out) hb); have n4_ := Aside0.mk (Kd.R_below (by (with_reducible repeat (first | apply Kd.R_alloc | apply Kd.R_drewN | apply Kd.R_drew)); exact HO_15.out) hb); have n5_ := Aside0.mk (Kd.R_below (by (with_reducible repeat (first | apply Kd.R_alloc | apply Kd.R_drewN | apply Kd.R_drew)); exact HO410.out) hb); have n6_ := Aside0.mk (Kd.R_below (by (with_reducible repeat (first | apply Kd.R_alloc | apply Kd.R_drewN | apply Kd.R_drew)); exact HO414.out) hb); have n7_ := Aside0.mk (Kd.R_below (by (with_reducible repeat (first | apply Kd.R_alloc | apply Kd.R_drewN | apply Kd.R_drew)); exact HO418.out) hb); have n8_ := Aside0.mk (below_step (by repeat (first | (with_reducible first | exact HB.out | apply below_alloc | apply pw_below_drewN | apply below_drew1) | exact HB.out)) hb); clear HO_10; clear HO_12; clear HO_13; clear HO_14; clear HO_15; clear HO410; clear HO414; clear HO418; clear HB; have HO_10 := n0_; have HO_12 := n1_; have HO_13 := n2_; have HO_14 := n3_; have HO_15 := n4_; have HO410 := n5_; have HO414 := n6_; have HO418 := n7_; have HB := n8_; clear n0_ n1_ n2_ n3_ n4_ n5_ n6_ n7_ n8_; (try clear hb); (try clear hb2); (try clear hk); (try clear hi)))); (go_meet); (case rel => exact ⟨_, ((t404 != t391)), (by first | rfl | (simp; done) | (simp [*]; done)), H', ⟨by have := HJ17.out; first | omega | exact Nat.le_refl _⟩, ⟨by (with_reducible repeat (first | apply Kd.R_alloc | apply Kd.R_drewN | apply Kd.R_drew)); exact Kd.R_mono HO_10.out (fun _ hk => hk.2.1)⟩, ⟨by (with_reducible repeat (first | apply Kd.R_alloc | apply Kd.R_drewN | apply Kd.R_drew)); exact Kd.R_mono HO_15.out (fun _ hk => hk.1)⟩, ⟨by repeat (first | (with_reducible first | exact HB.out | apply below_alloc | apply pw_below_drewN | apply below_drew1) | exact HB.out)⟩⟩)
            · (replace c68 := Bool.eq_false_iff.mpr c68); (subst c68); (have H1 : (laws_FnExactRunCars.j1 kj17 l0 l1 l2 a3 t390 t391 t403 true) = some r := by rw [if_neg (show ¬ (false = true) by decide)] at H; exact H); clear H; have H := H1; clear H1; (have H' := Aside0.mk H); clear H; (obtain ⟨Ao72, co72, eo72⟩ := Kd.R_slice HO_15.out); (subst eo72); (obtain ⟨Ao73, co73, eo73⟩ := Kd.R_slice HO_10.out); (subst eo73); (go_wp2_with (first | (go_at_call 16; (with_reducible refine (laws_eqCarS.calls kj17 _ _ t403 _ _ t390 false _ ?side1 ?side2 ?side3 ?side4 A67.out).mono ?_); (case side1 => repeat (first | exact (Kd.R_reads' HO_15.out).2.2 | (with_reducible refine Kd.C_alloc ?_ _) | (with_reducible refine Kd.C_drewN ?_ _) | (with_reducible refine Kd.C_drew ?_))); (case side2 => exact (Kd.R_reads' HO_15.out).2.1); (case side3 => repeat (first | exact (Kd.R_reads' HO_10.out).2.2 | (with_reducible refine Kd.C_alloc ?_ _) | (with_reducible refine Kd.C_drewN ?_ _) | (with_reducible refine Kd.C_drew ?_))); (case side4 => exact (Kd.R_reads' HO_10.out).2.1); rintro e w74 ⟨rfl, hb⟩; have n0_ := Aside0.mk (Kd.R_below (by (with_reducible repeat (first | apply Kd.R_alloc | apply Kd.R_drewN | apply Kd.R_drew)); exact HO_10.out) hb); have n1_ := Aside0.mk (Kd.R_below (by (with_reducible repeat (first | apply Kd.R_alloc | apply Kd.R_drewN | apply Kd.R_drew)); exact HO_12.out) hb); have n2_ := Aside0.mk (Kd.R_below (by (with_reducible repeat (first | apply Kd.R_alloc | apply Kd.R_drewN | apply Kd.R_drew)); exact HO_13.out) hb); have n3_ := Aside0.mk (Kd.R_below (by (with_reducible repeat (first | apply Kd.R_alloc | apply Kd.R_drewN | apply Kd.R_drew)); exact HO_14.out) hb); have n4_ := Aside0.mk (Kd.R_below (by (with_reducible repeat (first | apply Kd.R_alloc | apply Kd.R_drewN | apply Kd.R_drew)); exact HO_15.out) hb); have n5_ := Aside0.mk (Kd.R_below (by (with_reducible repeat (first | apply Kd.R_alloc | apply Kd.R_drewN | apply Kd.R_drew)); exact HO410.out) hb); have n6_ := Aside0.mk (Kd.R_below (by (with_reducible repeat (first | apply Kd.R_alloc | apply Kd.R_drewN | apply Kd.R_drew)); exact HO414.out) hb); have n7_ := Aside0.mk (Kd.R_below (by (with_reducible repeat (first | apply Kd.R_alloc | apply Kd.R_drewN | apply Kd.R_drew)); exact HO418.out) hb); have n8_ := Aside0.mk (below_step (by repeat (first | (with_reducible first | exact HB.out | apply below_alloc | apply pw_below_drewN | apply below_drew1) | exact HB.out)) hb); clear HO_10; clear HO_12; clear HO_13; clear HO_14; clear HO_15; clear HO410; clear HO414; clear HO418; clear HB; have HO_10 := n0_; have HO_12 := n1_; have HO_13 := n2_; have HO_14 := n3_; have HO_15 := n4_; have HO410 := n5_; have HO414 := n6_; have HO418 := n7_; have HB := n8_; clear n0_ n1_ n2_ n3_ n4_ n5_ n6_ n7_ n8_; (try clear hb); (try clear hb2); (try clear hk); (try clear hi)))); (go_meet); (case rel => exact ⟨_, (true), (by first | rfl | (simp; done) | (simp [*]; done)), H', ⟨by have := HJ17.out; first | omega | exact Nat.le_refl _⟩, ⟨by (with_reducible repeat (first | apply Kd.R_alloc | apply Kd.R_drewN | apply Kd.R_drew)); exact Kd.R_mono HO_10.out (fun _ hk => hk.2.1)⟩, ⟨by (with_reducible repeat (first | apply Kd.R_alloc | apply Kd.R_drewN | apply Kd.R_drew)); exact Kd.R_mono HO_15.out (fun _ hk => hk.1)⟩, ⟨by repeat (first | (with_reducible first | exact HB.out | apply below_alloc | apply pw_below_drewN | apply below_drew1) | exact HB.out)⟩⟩)
          case rest =>
           clear HC54; (try clear c1); (try clear c2); (try clear p2); (try clear c3); (try clear c4); (try clear c5); (try clear c5b0); (try clear c5b1); (try clear c6); (try clear c7); (try clear c7b0); (try clear c9); (try clear c9b0); (try clear c10); (try clear c12); (try clear c13); (try clear c14); (try clear c16); (try clear c17); (try clear c18); (try clear c19); (try clear c20); (try clear c21); (try clear c23); (try clear c24); (try clear c34); (try clear c41); (try clear c44); (try clear c47); (try clear c50); (try clear c66); (try clear c66b0); (try clear c68); (try clear p2); (obtain ⟨kq, x105_53, rfl, HA, HJ53, HO_10, HO_15, HB⟩ := hcut)
           cases kq with
           | zero => exact absurd HA.out (by simp [laws_FnExactRunCars.j1])
           | succ kj53 =>
            (have H := HA.out); clear HA; (simp only [laws_FnExactRunCars.j1] at H); (by_cases c75 : x105_53 = true); (· (subst c75); (have H1 : (some false) = some r := by rw [if_pos rfl] at H; exact H); clear H; have H := H1; clear H1; (obtain rfl := Option.some.inj H); (go_wp2); go_ret; (exact ⟨by first | rfl | (simp [errW_none, errW_some] <;> rfl) | (simp [*, errW_none, errW_some] <;> rfl), by repeat (first | (with_reducible first | exact HB.out | apply below_alloc | apply pw_below_drewN | apply below_drew1) | exact HB.out)⟩))
            ·
             (replace c75 := Bool.eq_false_iff.mpr c75); (subst c75); (have H1 : ((laws_markCarS.f kj53 t403 1).bind fun bt427 => ((laws_heldCarS.f kj53 bt427.2 1).bind fun t429 => (if t429 < 0 then (some false) else (if t429 = bt427.1 then ((laws_toStreetS.f kj53 l0).bind fun t430 => ((laws_toCarS.f kj53 l1).bind fun t433 => ((laws_toIntS.f kj53 l2).bind fun t436 => ((impl_RunCars.f kj53 t430 t433 t436 a3).bind fun bt439 => ((laws_eqCarS.f kj53 bt439.1 t390).bind fun t443 => (if t443 = true then (laws_FnExactRunCars.j2 kj53 bt427.2 bt427.1 (bt439.2 != t391)) else (laws_FnExactRunCars.j2 kj53 bt427.2 bt427.1 true))))))) else (some false))))) = some r := by rw [if_neg (show ¬ (false = true) by decide)] at H; exact H); clear H; have H := H1; clear H1; (replace H := Option.bind_eq_some_iff.mp H); (obtain ⟨⟨t427, t428⟩, A760, H⟩ := H); (replace H : ((laws_heldCarS.f kj53 t428 1).bind fun t429 => (if t429 < 0 then (some false) else (if t429 = t427 then ((laws_toStreetS.f kj53 l0).bind fun t430 => ((laws_toCarS.f kj53 l1).bind fun t433 => ((laws_toIntS.f kj53 l2).bind fun t436 => ((impl_RunCars.f kj53 t430 t433 t436 a3).bind fun bt439 => ((laws_eqCarS.f kj53 bt439.1 t390).bind fun t443 => (if t443 = true then (laws_FnExactRunCars.j2 kj53 t428 t427 (bt439.2 != t391)) else (laws_FnExactRunCars.j2 kj53 t428 t427 true))))))) else (some false)))) = some r := H); have A76 := Aside0.mk A760; clear A760; (replace H := Option.bind_eq_some_iff.mp H); (obtain ⟨t429, A770, H⟩ := H); (replace H : (if t429 < 0 then (some false) else (if t429 = t427 then ((laws_toStreetS.f kj53 l0).bind fun t430 => ((laws_toCarS.f kj53 l1).bind fun t433 => ((laws_toIntS.f kj53 l2).bind fun t436 => ((impl_RunCars.f kj53 t430 t433 t436 a3).bind fun bt439 => ((laws_eqCarS.f kj53 bt439.1 t390).bind fun t443 => (if t443 = true then (laws_FnExactRunCars.j2 kj53 t428 t427 (bt439.2 != t391)) else (laws_FnExactRunCars.j2 kj53 t428 t427 true))))))) else (some false))) = some r := H); have A77 := Aside0.mk A770; clear A770; (by_cases c78 : t429 < 0)
             · (rw [if_pos c78] at H); (have c78b0 : decide (t429 < 0) = true := decide_eq_true c78); clear c78; (obtain rfl := Option.some.inj H); (obtain ⟨Ao79, co79, eo79⟩ := Kd.R_slice HO_15.out); (subst eo79); (go_wp2_with (first | ((with_reducible refine gate_callee (f := 20) rfl ?_); refine goesL_ (some 108) rfl rfl Try.func20 (by kernel_rfl) rfl #[.slice Ao79 t403.length co79, .int .i64 1] rfl (by (try simp only [List.map_toArray, List.map_cons, List.map_nil]); first | done | rfl | (simp only [List.length_drop, List.length_take]; rfl)) ?_; (with_reducible refine (laws_markCarS.calls kj53 (fun k_ => some k_ = (.slice Ao79 t403.length co79 : Value).ownBlock) (.slice Ao79 t403.length co79) t403 1 t427 t428 w _ ?side1 ?side2 A76.out).mono ?_); (case side1 => repeat (first | (with_reducible first | exact HB.out | apply below_alloc | apply pw_below_drewN | apply below_drew1) | exact HB.out)); (case side2 => exact Kd.R_tight rfl HO_15.out); rintro e w80 ⟨rfl, hy0, hb, hkp⟩; refine ⟨_, rfl, ?_⟩; have n0_ := Aside0.mk (Kd.R_mono (ok' := fun k_ => some k_ ≠ (.slice Ao79 t403.length co79 : Value).ownBlock) (Kd.R_keptB (HO_10.out) hkp (fun k_ hk_ hs_ => (hk_) hs_)) (fun k_ hk_ => hk_.1)); have n1_ := Aside0.mk (Kd.R_reok rfl hy0 (fun k_ e_ => HO_15.out.1 k_ e_)); have n2_ := Aside0.mk (hb); clear HO_10; clear HO_15; clear HB; have HO_10 := n0_; have HO_15 := n1_; have HB := n2_; clear n0_ n1_ n2_; (try clear hb); (try clear hkp); (try clear hy0)) | ((with_reducible refine gate_callee (f := 22) rfl ?_); refine goesL_ (some 111) rfl rfl Try.func22 (by kernel_rfl) rfl #[.slice Ao79 t428.length co79, .int .i64 1] rfl (by (try simp only [List.map_toArray, List.map_cons, List.map_nil]); first | done | (rw [show t428.length = t403.length from (Kd.R_reads' HO_15.out).1.symm] <;> rfl) | rfl | (simp only [List.length_drop, List.length_take]; rfl)) ?_; (with_reducible refine (laws_heldCarS.calls kj53 _ _ t428 1 t429 _ ?side1 ?side2 A77.out).mono ?_); (case side1 => repeat (first | exact (Kd.R_reads' HO_15.out).2.2 | (with_reducible refine Kd.C_alloc ?_ _) | (with_reducible refine Kd.C_drewN ?_ _) | (with_reducible refine Kd.C_drew ?_))); (case side2 => rw [show t428.length = t403.length from (Kd.R_reads' HO_15.out).1.symm]; exact (Kd.R_reads' HO_15.out).2.1); rintro e w' ⟨rfl, ⟨nd, rfl⟩⟩; refine ⟨_, rfl, ?_⟩))); go_ret; (exact ⟨by first | rfl | (simp [errW_none, errW_some] <;> rfl) | (simp [*, errW_none, errW_some] <;> rfl), by repeat (first | (with_reducible first | exact HB.out | apply below_alloc | apply pw_below_drewN | apply below_drew1) | exact HB.out)⟩)
             ·
              (rw [if_neg c78] at H); (have c78b0 : decide (t429 < 0) = false := decide_eq_false c78); clear c78; (by_cases c81 : t429 = t427)
              ·
               (rw [if_pos c81] at H); (have c81b0 : (t429 == t427) = true := beq_iff_eq.mpr c81); (have c81b1 : (t429 != t427) = false := bne_eq_false_iff_eq.mpr c81); clear c81; (replace H := Option.bind_eq_some_iff.mp H); (obtain ⟨t430, A820, H⟩ := H); (replace H : ((laws_toCarS.f kj53 l1).bind fun t433 => ((laws_toIntS.f kj53 l2).bind fun t436 => ((impl_RunCars.f kj53 t430 t433 t436 a3).bind fun bt439 => ((laws_eqCarS.f kj53 bt439.1 t390).bind fun t443 => (if t443 = true then (laws_FnExactRunCars.j2 kj53 t428 t427 (bt439.2 != t391)) else (laws_FnExactRunCars.j2 kj53 t428 t427 true)))))) = some r := H); have A82 := Aside0.mk A820; clear A820; (replace H := Option.bind_eq_some_iff.mp H); (obtain ⟨t433, A830, H⟩ := H); (replace H : ((laws_toIntS.f kj53 l2).bind fun t436 => ((impl_RunCars.f kj53 t430 t433 t436 a3).bind fun bt439 => ((laws_eqCarS.f kj53 bt439.1 t390).bind fun t443 => (if t443 = true then (laws_FnExactRunCars.j2 kj53 t428 t427 (bt439.2 != t391)) else (laws_FnExactRunCars.j2 kj53 t428 t427 true))))) = some r := H); have A83 := Aside0.mk A830; clear A830; (replace H := Option.bind_eq_some_iff.mp H); (obtain ⟨t436, A840, H⟩ := H); (replace H : ((impl_RunCars.f kj53 t430 t433 t436 a3).bind fun bt439 => ((laws_eqCarS.f kj53 bt439.1 t390).bind fun t443 => (if t443 = true then (laws_FnExactRunCars.j2 kj53 t428 t427 (bt439.2 != t391)) else (laws_FnExactRunCars.j2 kj53 t428 t427 true)))) = some r := H); have A84 := Aside0.mk A840; clear A840; (replace H := Option.bind_eq_some_iff.mp H); (obtain ⟨⟨t439, t440⟩, A850, H⟩ := H); (replace H : ((laws_eqCarS.f kj53 t439 t390).bind fun t443 => (if t443 = true then (laws_FnExactRunCars.j2 kj53 t428 t427 (t440 != t391)) else (laws_FnExactRunCars.j2 kj53 t428 t427 true))) = some r := H); have A85 := Aside0.mk A850; clear A850; have HC86 := Aside0.mk H; clear H; (obtain ⟨Ao87, co87, eo87⟩ := Kd.R_slice HO_15.out); (subst eo87); (go_upto_region 38 with (first | ((with_reducible refine gate_callee (f := 20) rfl ?_); refine goesL_ (some 108) rfl rfl Try.func20 (by kernel_rfl) rfl #[.slice Ao87 t403.length co87, .int .i64 1] rfl (by (try simp only [List.map_toArray, List.map_cons, List.map_nil]); first | done | rfl | (simp only [List.length_drop, List.length_take]; rfl)) ?_; (with_reducible refine (laws_markCarS.calls kj53 (fun k_ => some k_ = (.slice Ao87 t403.length co87 : Value).ownBlock) (.slice Ao87 t403.length co87) t403 1 t427 t428 w _ ?side1 ?side2 A76.out).mono ?_); (case side1 => repeat (first | (with_reducible first | exact HB.out | apply below_alloc | apply pw_below_drewN | apply below_drew1) | exact HB.out)); (case side2 => exact Kd.R_tight rfl HO_15.out); rintro e w88 ⟨rfl, hy0, hb, hkp⟩; refine ⟨_, rfl, ?_⟩; have n0_ := Aside0.mk (Kd.R_mono (ok' := fun k_ => some k_ ≠ (.slice Ao87 t403.length co87 : Value).ownBlock) (Kd.R_keptB (HO_10.out) hkp (fun k_ hk_ hs_ => (hk_) hs_)) (fun k_ hk_ => hk_.1)); have n1_ := Aside0.mk (Kd.R_reok rfl hy0 (fun k_ e_ => HO_15.out.1 k_ e_)); have n2_ := Aside0.mk (hb); clear HO_10; clear HO_15; clear HB; have HO_10 := n0_; have HO_15 := n1_; have HB := n2_; clear n0_ n1_ n2_; (try clear hb); (try clear hkp); (try clear hy0)) | ((with_reducible refine gate_callee (f := 22) rfl ?_); refine goesL_ (some 111) rfl rfl Try.func22 (by kernel_rfl) rfl #[.slice Ao87 t428.length co87, .int .i64 1] rfl (by (try simp only [List.map_toArray, List.map_cons, List.map_nil]); first | done | (rw [show t428.length = t403.length from (Kd.R_reads' HO_15.out).1.symm] <;> rfl) | rfl | (simp only [List.length_drop, List.length_take]; rfl)) ?_; (with_reducible refine (laws_heldCarS.calls kj53 _ _ t428 1 t429 _ ?side1 ?side2 A77.out).mono ?_); (case side1 => repeat (first | exact (Kd.R_reads' HO_15.out).2.2 | (with_reducible refine Kd.C_alloc ?_ _) | (with_reducible refine Kd.C_drewN ?_ _) | (with_reducible refine Kd.C_drew ?_))); (case side2 => rw [show t428.length = t403.length from (Kd.R_reads' HO_15.out).1.symm]; exact (Kd.R_reads' HO_15.out).2.1); rintro e w' ⟨rfl, ⟨nd, rfl⟩⟩; refine ⟨_, rfl, ?_⟩) | ((with_reducible refine gate_callee (f := 12) rfl ?_); refine goesL_ (some 119) rfl rfl Try.func12 (by kernel_rfl) rfl #[.slice A0 l0.length c0] rfl (by (try simp only [List.map_toArray, List.map_cons, List.map_nil]); first | done | rfl | (simp only [List.length_drop, List.length_take]; rfl)) ?_; (with_reducible refine (laws_toStreetS.calls kj53 _ _ l0 t430 _ ?side1 ?side2 A82.out).mono ?_); (case side1 => repeat (first | exact (Kd.C_below HR0.out (by repeat (first | (with_reducible first | exact HB.out | apply below_alloc | apply pw_below_drewN | apply below_drew1) | exact HB.out))) | (with_reducible refine Kd.C_alloc ?_ _) | (with_reducible refine Kd.C_drewN ?_ _) | (with_reducible refine Kd.C_drew ?_))); (case side2 => exact HC0.out); rintro e w89 ⟨v431, rfl, ho0, hb⟩; refine ⟨_, rfl, ?_⟩; have n0_ := Aside0.mk (Kd.R_below (by (with_reducible repeat (first | apply Kd.R_alloc | apply Kd.R_drewN | apply Kd.R_drew)); exact HO_10.out) hb); have n1_ := Aside0.mk (Kd.R_below (by (with_reducible repeat (first | apply Kd.R_alloc | apply Kd.R_drewN | apply Kd.R_drew)); exact HO_15.out) hb); have n2_ := Aside0.mk (Kd.R_lower ho0 (below_size (by repeat (first | (with_reducible first | exact HB.out | apply below_alloc | apply pw_below_drewN | apply below_drew1) | exact HB.out)))); have n3_ := Aside0.mk (below_step (by repeat (first | (with_reducible first | exact HB.out | apply below_alloc | apply pw_below_drewN | apply below_drew1) | exact HB.out)) hb); clear HO_10; clear HO_15; clear HB; have HO_10 := n0_; have HO_15 := n1_; have HO432 := n2_; have HB := n3_; clear n0_ n1_ n2_ n3_; (try clear hb); (try clear hb2); (try clear hk); (try clear hi); (try clear ho0)) | ((with_reducible refine gate_callee (f := 13) rfl ?_); refine goesL_ (some 121) rfl rfl Try.func13 (by kernel_rfl) rfl #[.slice A1 l1.length c1] rfl (by (try simp only [List.map_toArray, List.map_cons, List.map_nil]); first | done | rfl | (simp only [List.length_drop, List.length_take]; rfl)) ?_; (with_reducible refine (laws_toCarS.calls kj53 _ _ l1 t433 _ ?side1 ?side2 A83.out).mono ?_); (case side1 => repeat (first | exact (Kd.C_below HR1.out HB.out) | (with_reducible refine Kd.C_alloc ?_ _) | (with_reducible refine Kd.C_drewN ?_ _) | (with_reducible refine Kd.C_drew ?_))); (case side2 => exact HC1.out); rintro e w90 ⟨v434, rfl, ho0, hb⟩; refine ⟨_, rfl, ?_⟩; have n0_ := Aside0.mk (Kd.R_elder' (by (with_reducible repeat (first | apply Kd.R_alloc | apply Kd.R_drewN | apply Kd.R_drew)); exact HO_10.out) (Kd.R_base ho0) hb); have n1_ := Aside0.mk (Kd.R_elder' (by (with_reducible repeat (first | apply Kd.R_alloc | apply Kd.R_drewN | apply Kd.R_drew)); exact HO_15.out) (Kd.R_base ho0) hb); have n2_ := Aside0.mk (Kd.R_below (by (with_reducible repeat (first | apply Kd.R_alloc | apply Kd.R_drewN | apply Kd.R_drew)); exact HO432.out) hb); have n3_ := Aside0.mk (Kd.R_lower (Kd.R_new' (Kd.R_new' ho0 (Kd.R_lt (by (with_reducible repeat (first | apply Kd.R_alloc | apply Kd.R_drewN | apply Kd.R_drew)); exact HO_10.out))) (Kd.R_lt (by (with_reducible repeat (first | apply Kd.R_alloc | apply Kd.R_drewN | apply Kd.R_drew)); exact HO_15.out))) (below_size (by repeat (first | (with_reducible first | exact HB.out | apply below_alloc | apply pw_below_drewN | apply below_drew1) | exact HB.out)))); have n4_ := Aside0.mk (below_step (by repeat (first | (with_reducible first | exact HB.out | apply below_alloc | apply pw_below_drewN | apply below_drew1) | exact HB.out)) hb); clear HO_10; clear HO_15; clear HO432; clear HB; have HO_10 := n0_; have HO_15 := n1_; have HO432 := n2_; have HO435 := n3_; have HB := n4_; clear n0_ n1_ n2_ n3_ n4_; (try clear hb); (try clear hb2); (try clear hk); (try clear hi); (try clear ho0)) | ((with_reducible refine gate_callee (f := 14) rfl ?_); refine goesL_ (some 123) rfl rfl Try.func14 (by kernel_rfl) rfl #[.slice A2 l2.length c2] rfl (by (try simp only [List.map_toArray, List.map_cons, List.map_nil]); first | done | rfl | (simp only [List.length_drop, List.length_take]; rfl)) ?_; (with_reducible refine (laws_toIntS.calls kj53 _ _ l2 t436 _ ?side1 ?side2 A84.out).mono ?_); (case side1 => repeat (first | exact (Kd.C_below HR2.out HB.out) | (with_reducible refine Kd.C_alloc ?_ _) | (with_reducible refine Kd.C_drewN ?_ _) | (with_reducible refine Kd.C_drew ?_))); (case side2 => exact HC2.out); rintro e w91 ⟨v437, rfl, ho0, hb⟩; refine ⟨_, rfl, ?_⟩; have n0_ := Aside0.mk (Kd.R_below (by (with_reducible repeat (first | apply Kd.R_alloc | apply Kd.R_drewN | apply Kd.R_drew)); exact HO_10.out) hb); have n1_ := Aside0.mk (Kd.R_below (by (with_reducible repeat (first | apply Kd.R_alloc | apply Kd.R_drewN | apply Kd.R_drew)); exact HO_15.out) hb); have n2_ := Aside0.mk (Kd.R_below (by (with_reducible repeat (first | apply Kd.R_alloc | apply Kd.R_drewN | apply Kd.R_drew)); exact HO432.out) hb); have n3_ := Aside0.mk (Kd.R_below (by (with_reducible repeat (first | apply Kd.R_alloc | apply Kd.R_drewN | apply Kd.R_drew)); exact HO435.out) hb); have n4_ := Aside0.mk (Kd.R_lower ho0 (below_size (by repeat (first | (with_reducible first | exact HB.out | apply below_alloc | apply pw_below_drewN | apply below_drew1) | exact HB.out)))); have n5_ := Aside0.mk (below_step (by repeat (first | (with_reducible first | exact HB.out | apply below_alloc | apply pw_below_drewN | apply below_drew1) | exact HB.out)) hb); clear HO_10; clear HO_15; clear HO432; clear HO435; clear HB; have HO_10 := n0_; have HO_15 := n1_; have HO432 := n2_; have HO435 := n3_; have HO438 := n4_; have HB := n5_; clear n0_ n1_ n2_ n3_ n4_ n5_; (try clear hb); (try clear hb2); (try clear hk); (try clear hi); (try clear ho0); obtain ⟨Ao92, co92, eo92⟩ := Kd.R_slice HO432.out; subst eo92; obtain ⟨Ao93, co93, eo93⟩ := Kd.R_slice HO435.out; subst eo93; obtain ⟨Ao94, co94, eo94⟩ := Kd.R_slice HO438.out; subst eo94) | ((with_reducible refine gate_callee (f := 24) rfl ?_); refine goesL_ (some 125) rfl rfl Try.func24 (by kernel_rfl) rfl #[.slice Ao92 t430.length co92, .slice Ao93 t433.length co93, .slice Ao94 t436.length co94, .int .i64 a3] rfl (by (try simp only [List.map_toArray, List.map_cons, List.map_nil]); first | done | rfl | (simp only [List.length_drop, List.length_take]; rfl)) ?_; (with_reducible refine (impl_RunCars.calls kj53 _ _ t430 _ _ t433 _ _ t436 a3 t439 t440 _ ?side1 ?side2 ?side3 ?side4 ?side5 ?side6 A85.out).mono ?_); (case side1 => repeat (first | exact (Kd.R_reads' HO432.out).2.2 | (with_reducible refine Kd.C_alloc ?_ _) | (with_reducible refine Kd.C_drewN ?_ _) | (with_reducible refine Kd.C_drew ?_))); (case side2 => exact (Kd.R_reads' HO432.out).2.1); (case side3 => repeat (first | exact (Kd.R_reads' HO435.out).2.2 | (with_reducible refine Kd.C_alloc ?_ _) | (with_reducible refine Kd.C_drewN ?_ _) | (with_reducible refine Kd.C_drew ?_))); (case side4 => exact (Kd.R_reads' HO435.out).2.1); (case side5 => repeat (first | exact (Kd.R_reads' HO438.out).2.2 | (with_reducible refine Kd.C_alloc ?_ _) | (with_reducible refine Kd.C_drewN ?_ _) | (with_reducible refine Kd.C_drew ?_))); (case side6 => exact (Kd.R_reads' HO438.out).2.1); rintro e w95 ⟨v441, rfl, ho0, hb⟩; refine ⟨_, rfl, ?_⟩; have n0_ := Aside0.mk (Kd.R_elder' (by (with_reducible repeat (first | apply Kd.R_alloc | apply Kd.R_drewN | apply Kd.R_drew)); exact HO_10.out) (Kd.R_base ho0) hb); have n1_ := Aside0.mk (Kd.R_elder' (by (with_reducible repeat (first | apply Kd.R_alloc | apply Kd.R_drewN | apply Kd.R_drew)); exact HO_15.out) (Kd.R_base ho0) hb); have n2_ := Aside0.mk (Kd.R_below (by (with_reducible repeat (first | apply Kd.R_alloc | apply Kd.R_drewN | apply Kd.R_drew)); exact HO432.out) hb); have n3_ := Aside0.mk (Kd.R_elder' (by (with_reducible repeat (first | apply Kd.R_alloc | apply Kd.R_drewN | apply Kd.R_drew)); exact HO435.out) (Kd.R_base ho0) hb); have n4_ := Aside0.mk (Kd.R_below (by (with_reducible repeat (first | apply Kd.R_alloc | apply Kd.R_drewN | apply Kd.R_drew)); exact HO438.out) hb); have n5_ := Aside0.mk (Kd.R_lower (Kd.R_new' (Kd.R_new' (Kd.R_new' ho0 (Kd.R_lt (by (with_reducible repeat (first | apply Kd.R_alloc | apply Kd.R_drewN | apply Kd.R_drew)); exact HO_10.out))) (Kd.R_lt (by (with_reducible repeat (first | apply Kd.R_alloc | apply Kd.R_drewN | apply Kd.R_drew)); exact HO_15.out))) (Kd.R_lt (by (with_reducible repeat (first | apply Kd.R_alloc | apply Kd.R_drewN | apply Kd.R_drew)); exact HO435.out))) (below_size (by repeat (first | (with_reducible first | exact HB.out | apply below_alloc | apply pw_below_drewN | apply below_drew1) | exact HB.out)))); have n6_ := Aside0.mk (below_step (by repeat (first | (with_reducible first | exact HB.out | apply below_alloc | apply pw_below_drewN | apply below_drew1) | exact HB.out)) hb); clear HO_10; clear HO_15; clear HO432; clear HO435; clear HO438; clear HB; have HO_10 := n0_; have HO_15 := n1_; have HO432 := n2_; have HO435 := n3_; have HO438 := n4_; have HO442 := n5_; have HB := n6_; clear n0_ n1_ n2_ n3_ n4_ n5_ n6_; (try clear hb); (try clear hb2); (try clear hk); (try clear hi); (try clear ho0))))
               ((try simp only [Act.put, List.setIfInBounds_toArray, List.set_cons_zero, List.set_cons_succ])); (go_cut [136] (fun v136 wc => ∃ (kq : Nat) (x136_85 : Bool), v136 = .bool x136_85 ∧ Aside0 (laws_FnExactRunCars.j2 kq t428 t427 x136_85 = some r) ∧ Aside0 (kq ≤ kj53) ∧ Aside0 (Kd.R k52 52 wc w.heap.size (fun _ => True) (.slice Ao87 t403.length co87) t428) ∧ Aside0 (Below w.heap.size w wc)))
               case first =>
                (have H := HC86.out); clear HC86; (replace H := Option.bind_eq_some_iff.mp H); (obtain ⟨t443, A960, H⟩ := H); (replace H : (if t443 = true then (laws_FnExactRunCars.j2 kj53 t428 t427 (t440 != t391)) else (laws_FnExactRunCars.j2 kj53 t428 t427 true)) = some r := H); have A96 := Aside0.mk A960; clear A960; (by_cases c97 : t443 = true)
                · (subst c97); (have H1 : (laws_FnExactRunCars.j2 kj53 t428 t427 (t440 != t391)) = some r := by rw [if_pos rfl] at H; exact H); clear H; have H := H1; clear H1; (have H' := Aside0.mk H); clear H; (obtain ⟨Ao98, co98, eo98⟩ := Kd.R_slice HO442.out); (subst eo98); (obtain ⟨Ao99, co99, eo99⟩ := Kd.R_slice HO_10.out); (subst eo99); (go_wp2_with (first | ((with_reducible refine gate_callee (f := 16) rfl ?_); refine goesL_ (some 130) rfl rfl Try.func16 (by kernel_rfl) rfl #[.slice Ao98 t439.length co98, .slice Ao99 t390.length co99] rfl (by (try simp only [List.map_toArray, List.map_cons, List.map_nil]); first | done | rfl | (simp only [List.length_drop, List.length_take]; rfl)) ?_; (with_reducible refine (laws_eqCarS.calls kj53 _ _ t439 _ _ t390 true _ ?side1 ?side2 ?side3 ?side4 A96.out).mono ?_); (case side1 => repeat (first | exact (Kd.R_reads' HO442.out).2.2 | (with_reducible refine Kd.C_alloc ?_ _) | (with_reducible refine Kd.C_drewN ?_ _) | (with_reducible refine Kd.C_drew ?_))); (case side2 => exact (Kd.R_reads' HO442.out).2.1); (case side3 => repeat (first | exact (Kd.R_reads' HO_10.out).2.2 | (with_reducible refine Kd.C_alloc ?_ _) | (with_reducible refine Kd.C_drewN ?_ _) | (with_reducible refine Kd.C_drew ?_))); (case side4 => exact (Kd.R_reads' HO_10.out).2.1); rintro e w100 ⟨rfl, hb⟩; refine ⟨_, rfl, ?_⟩; have n0_ := Aside0.mk (Kd.R_below (by (with_reducible repeat (first | apply Kd.R_alloc | apply Kd.R_drewN | apply Kd.R_drew)); exact HO_10.out) hb); have n1_ := Aside0.mk (Kd.R_below (by (with_reducible repeat (first | apply Kd.R_alloc | apply Kd.R_drewN | apply Kd.R_drew)); exact HO_15.out) hb); have n2_ := Aside0.mk (Kd.R_below (by (with_reducible repeat (first | apply Kd.R_alloc | apply Kd.R_drewN | apply Kd.R_drew)); exact HO432.out) hb); have n3_ := Aside0.mk (Kd.R_below (by (with_reducible repeat (first | apply Kd.R_alloc | apply Kd.R_drewN | apply Kd.R_drew)); exact HO435.out) hb); have n4_ := Aside0.mk (Kd.R_below (by (with_reducible repeat (first | apply Kd.R_alloc | apply Kd.R_drewN | apply Kd.R_drew)); exact HO438.out) hb); have n5_ := Aside0.mk (Kd.R_below (by (with_reducible repeat (first | apply Kd.R_alloc | apply Kd.R_drewN | apply Kd.R_drew)); exact HO442.out) hb); have n6_ := Aside0.mk (below_step (by repeat (first | (with_reducible first | exact HB.out | apply below_alloc | apply pw_below_drewN | apply below_drew1) | exact HB.out)) hb); clear HO_10; clear HO_15; clear HO432; clear HO435; clear HO438; clear HO442; clear HB; have HO_10 := n0_; have HO_15 := n1_; have HO432 := n2_; have HO435 := n3_; have HO438 := n4_; have HO442 := n5_; have HB := n6_; clear n0_ n1_ n2_ n3_ n4_ n5_ n6_; (try clear hb); (try clear hb2); (try clear hk); (try clear hi)))); (go_meet); (case rel => exact ⟨_, ((t440 != t391)), (by first | rfl | (simp; done) | (simp [*]; done)), H', ⟨by have := HJ17.out; have := HJ53.out; first | omega | exact Nat.le_refl _⟩, ⟨by (with_reducible repeat (first | apply Kd.R_alloc | apply Kd.R_drewN | apply Kd.R_drew)); exact Kd.R_mono HO_15.out (fun _ hk => trivial)⟩, ⟨by repeat (first | (with_reducible first | exact HB.out | apply below_alloc | apply pw_below_drewN | apply below_drew1) | exact HB.out)⟩⟩)
                · (replace c97 := Bool.eq_false_iff.mpr c97); (subst c97); (have H1 : (laws_FnExactRunCars.j2 kj53 t428 t427 true) = some r := by rw [if_neg (show ¬ (false = true) by decide)] at H; exact H); clear H; have H := H1; clear H1; (have H' := Aside0.mk H); clear H; (obtain ⟨Ao101, co101, eo101⟩ := Kd.R_slice HO442.out); (subst eo101); (obtain ⟨Ao102, co102, eo102⟩ := Kd.R_slice HO_10.out); (subst eo102); (go_wp2_with (first | ((with_reducible refine gate_callee (f := 16) rfl ?_); refine goesL_ (some 130) rfl rfl Try.func16 (by kernel_rfl) rfl #[.slice Ao101 t439.length co101, .slice Ao102 t390.length co102] rfl (by (try simp only [List.map_toArray, List.map_cons, List.map_nil]); first | done | rfl | (simp only [List.length_drop, List.length_take]; rfl)) ?_; (with_reducible refine (laws_eqCarS.calls kj53 _ _ t439 _ _ t390 false _ ?side1 ?side2 ?side3 ?side4 A96.out).mono ?_); (case side1 => repeat (first | exact (Kd.R_reads' HO442.out).2.2 | (with_reducible refine Kd.C_alloc ?_ _) | (with_reducible refine Kd.C_drewN ?_ _) | (with_reducible refine Kd.C_drew ?_))); (case side2 => exact (Kd.R_reads' HO442.out).2.1); (case side3 => repeat (first | exact (Kd.R_reads' HO_10.out).2.2 | (with_reducible refine Kd.C_alloc ?_ _) | (with_reducible refine Kd.C_drewN ?_ _) | (with_reducible refine Kd.C_drew ?_))); (case side4 => exact (Kd.R_reads' HO_10.out).2.1); rintro e w103 ⟨rfl, hb⟩; refine ⟨_, rfl, ?_⟩; have n0_ := Aside0.mk (Kd.R_below (by (with_reducible repeat (first | apply Kd.R_alloc | apply Kd.R_drewN | apply Kd.R_drew)); exact HO_10.out) hb); have n1_ := Aside0.mk (Kd.R_below (by (with_reducible repeat (first | apply Kd.R_alloc | apply Kd.R_drewN | apply Kd.R_drew)); exact HO_15.out) hb); have n2_ := Aside0.mk (Kd.R_below (by (with_reducible repeat (first | apply Kd.R_alloc | apply Kd.R_drewN | apply Kd.R_drew)); exact HO432.out) hb); have n3_ := Aside0.mk (Kd.R_below (by (with_reducible repeat (first | apply Kd.R_alloc | apply Kd.R_drewN | apply Kd.R_drew)); exact HO435.out) hb); have n4_ := Aside0.mk (Kd.R_below (by (with_reducible repeat (first | apply Kd.R_alloc | apply Kd.R_drewN | apply Kd.R_drew)); exact HO438.out) hb); have n5_ := Aside0.mk (Kd.R_below (by (with_reducible repeat (first | apply Kd.R_alloc | apply Kd.R_drewN | apply Kd.R_drew)); exact HO442.out) hb); have n6_ := Aside0.mk (below_step (by repeat (first | (with_reducible first | exact HB.out | apply below_alloc | apply pw_below_drewN | apply below_drew1) | exact HB.out)) hb); clear HO_10; clear HO_15; clear HO432; clear HO435; clear HO438; clear HO442; clear HB; have HO_10 := n0_; have HO_15 := n1_; have HO432 := n2_; have HO435 := n3_; have HO438 := n4_; have HO442 := n5_; have HB := n6_; clear n0_ n1_ n2_ n3_ n4_ n5_ n6_; (try clear hb); (try clear hb2); (try clear hk); (try clear hi)))); (go_meet); (case rel => exact ⟨_, (true), (by first | rfl | (simp; done) | (simp [*]; done)), H', ⟨by have := HJ17.out; have := HJ53.out; first | omega | exact Nat.le_refl _⟩, ⟨by (with_reducible repeat (first | apply Kd.R_alloc | apply Kd.R_drewN | apply Kd.R_drew)); exact Kd.R_mono HO_15.out (fun _ hk => trivial)⟩, ⟨by repeat (first | (with_reducible first | exact HB.out | apply below_alloc | apply pw_below_drewN | apply below_drew1) | exact HB.out)⟩⟩)
               case rest =>
                clear HC86; (try clear c1); (try clear c2); (try clear p2); (try clear c3); (try clear c4); (try clear c5); (try clear c5b0); (try clear c5b1); (try clear c6); (try clear c7); (try clear c7b0); (try clear c8); (try clear c9); (try clear c9b0); (try clear c10); (try clear c12); (try clear c13); (try clear c14); (try clear c16); (try clear c17); (try clear c18); (try clear c19); (try clear c20); (try clear c21); (try clear c22); (try clear c23); (try clear c24); (try clear c34); (try clear c41); (try clear c44); (try clear c47); (try clear c50); (try clear c66); (try clear c66b0); (try clear c68); (try clear c75); (try clear c78); (try clear c78b0); (try clear c81); (try clear c81b0); (try clear c81b1); (try clear c97); (try clear p2); (obtain ⟨kq, x136_85, rfl, HA, HJ85, HO_15, HB⟩ := hcut); (have hl15_85 := (Kd.R_reads' HO_15.out).1); (rw [hl15_85] at HO_15); ((try simp only [hl15_85]))
                cases kq with
                | zero => exact absurd HA.out (by simp [laws_FnExactRunCars.j2])
                | succ kj85 =>
                 (have H := HA.out); clear HA; (simp only [laws_FnExactRunCars.j2] at H); (by_cases c104 : x136_85 = true); (· (subst c104); (have H1 : (some false) = some r := by rw [if_pos rfl] at H; exact H); clear H; have H := H1; clear H1; (obtain rfl := Option.some.inj H); (go_wp2); go_ret; (exact ⟨by first | rfl | (simp [errW_none, errW_some] <;> rfl) | (simp [*, errW_none, errW_some] <;> rfl), by repeat (first | (with_reducible first | exact HB.out | apply below_alloc | apply pw_below_drewN | apply below_drew1) | exact HB.out)⟩))
                 ·
                  (replace c104 := Bool.eq_false_iff.mpr c104); (subst c104); (have H1 : ((laws_heldCarS.f kj85 t428 1).bind fun t444 => (if t444 < 0 then (some false) else (if t444 = t427 then (some true) else (some false)))) = some r := by rw [if_neg (show ¬ (false = true) by decide)] at H; exact H); clear H; have H := H1; clear H1; (replace H := Option.bind_eq_some_iff.mp H); (obtain ⟨t444, A1050, H⟩ := H); (replace H : (if t444 < 0 then (some false) else (if t444 = t427 then (some true) else (some false))) = some r := H); have A105 := Aside0.mk A1050; clear A1050; (by_cases c106 : t444 < 0)
                  · (rw [if_pos c106] at H); (have c106b0 : decide (t444 < 0) = true := decide_eq_true c106); clear c106; (obtain rfl := Option.some.inj H); (go_wp2_with (first | ((with_reducible refine gate_callee (f := 22) rfl ?_); refine goesL_ (some 139) rfl rfl Try.func22 (by kernel_rfl) rfl #[.slice Ao87 t428.length co87, .int .i64 1] rfl (by (try simp only [List.map_toArray, List.map_cons, List.map_nil]); first | done | rfl | (simp only [List.length_drop, List.length_take]; rfl)) ?_; (with_reducible refine (laws_heldCarS.calls kj85 _ _ t428 1 t444 _ ?side1 ?side2 A105.out).mono ?_); (case side1 => repeat (first | exact (Kd.R_reads' HO_15.out).2.2 | (with_reducible refine Kd.C_alloc ?_ _) | (with_reducible refine Kd.C_drewN ?_ _) | (with_reducible refine Kd.C_drew ?_))); (case side2 => exact (Kd.R_reads' HO_15.out).2.1); rintro e w' ⟨rfl, ⟨nd, rfl⟩⟩; refine ⟨_, rfl, ?_⟩))); go_ret; (exact ⟨by first | rfl | (simp [errW_none, errW_some] <;> rfl) | (simp [*, errW_none, errW_some] <;> rfl), by repeat (first | (with_reducible first | exact HB.out | apply below_alloc | apply pw_below_drewN | apply below_drew1) | exact HB.out)⟩)
                  ·
                   (rw [if_neg c106] at H); (have c106b0 : decide (t444 < 0) = false := decide_eq_false c106); clear c106; (by_cases c107 : t444 = t427)
                   · (rw [if_pos c107] at H); (have c107b0 : (t444 == t427) = true := beq_iff_eq.mpr c107); (have c107b1 : (t444 != t427) = false := bne_eq_false_iff_eq.mpr c107); clear c107; (obtain rfl := Option.some.inj H); (go_wp2_with (first | ((with_reducible refine gate_callee (f := 22) rfl ?_); refine goesL_ (some 139) rfl rfl Try.func22 (by kernel_rfl) rfl #[.slice Ao87 t428.length co87, .int .i64 1] rfl (by (try simp only [List.map_toArray, List.map_cons, List.map_nil]); first | done | rfl | (simp only [List.length_drop, List.length_take]; rfl)) ?_; (with_reducible refine (laws_heldCarS.calls kj85 _ _ t428 1 t444 _ ?side1 ?side2 A105.out).mono ?_); (case side1 => repeat (first | exact (Kd.R_reads' HO_15.out).2.2 | (with_reducible refine Kd.C_alloc ?_ _) | (with_reducible refine Kd.C_drewN ?_ _) | (with_reducible refine Kd.C_drew ?_))); (case side2 => exact (Kd.R_reads' HO_15.out).2.1); rintro e w' ⟨rfl, ⟨nd, rfl⟩⟩; refine ⟨_, rfl, ?_⟩))); go_ret; (exact ⟨by first | rfl | (simp [errW_none, errW_some] <;> rfl) | (simp [*, errW_none, errW_some] <;> rfl), by repeat (first | (with_reducible first | exact HB.out | apply below_alloc | apply pw_below_drewN | apply below_drew1) | exact HB.out)⟩)
                   · (rw [if_neg c107] at H); (have c107b0 : (t444 == t427) = false := beq_eq_false_iff_ne.mpr c107); (have c107b1 : (t444 != t427) = true := bne_iff_ne.mpr c107); (obtain rfl := Option.some.inj H); (go_wp2_with (first | ((with_reducible refine gate_callee (f := 22) rfl ?_); refine goesL_ (some 139) rfl rfl Try.func22 (by kernel_rfl) rfl #[.slice Ao87 t428.length co87, .int .i64 1] rfl (by (try simp only [List.map_toArray, List.map_cons, List.map_nil]); first | done | rfl | (simp only [List.length_drop, List.length_take]; rfl)) ?_; (with_reducible refine (laws_heldCarS.calls kj85 _ _ t428 1 t444 _ ?side1 ?side2 A105.out).mono ?_); (case side1 => repeat (first | exact (Kd.R_reads' HO_15.out).2.2 | (with_reducible refine Kd.C_alloc ?_ _) | (with_reducible refine Kd.C_drewN ?_ _) | (with_reducible refine Kd.C_drew ?_))); (case side2 => exact (Kd.R_reads' HO_15.out).2.1); rintro e w' ⟨rfl, ⟨nd, rfl⟩⟩; refine ⟨_, rfl, ?_⟩))); go_ret; (exact ⟨by first | rfl | (simp [errW_none, errW_some] <;> rfl) | (simp [*, errW_none, errW_some] <;> rfl), by repeat (first | (with_reducible first | exact HB.out | apply below_alloc | apply pw_below_drewN | apply below_drew1) | exact HB.out)⟩)
              · (rw [if_neg c81] at H); (have c81b0 : (t429 == t427) = false := beq_eq_false_iff_ne.mpr c81); (have c81b1 : (t429 != t427) = true := bne_iff_ne.mpr c81); (obtain rfl := Option.some.inj H); (obtain ⟨Ao108, co108, eo108⟩ := Kd.R_slice HO_15.out); (subst eo108); (go_wp2_with (first | ((with_reducible refine gate_callee (f := 20) rfl ?_); refine goesL_ (some 108) rfl rfl Try.func20 (by kernel_rfl) rfl #[.slice Ao108 t403.length co108, .int .i64 1] rfl (by (try simp only [List.map_toArray, List.map_cons, List.map_nil]); first | done | rfl | (simp only [List.length_drop, List.length_take]; rfl)) ?_; (with_reducible refine (laws_markCarS.calls kj53 (fun k_ => some k_ = (.slice Ao108 t403.length co108 : Value).ownBlock) (.slice Ao108 t403.length co108) t403 1 t427 t428 w _ ?side1 ?side2 A76.out).mono ?_); (case side1 => repeat (first | (with_reducible first | exact HB.out | apply below_alloc | apply pw_below_drewN | apply below_drew1) | exact HB.out)); (case side2 => exact Kd.R_tight rfl HO_15.out); rintro e w109 ⟨rfl, hy0, hb, hkp⟩; refine ⟨_, rfl, ?_⟩; have n0_ := Aside0.mk (Kd.R_mono (ok' := fun k_ => some k_ ≠ (.slice Ao108 t403.length co108 : Value).ownBlock) (Kd.R_keptB (HO_10.out) hkp (fun k_ hk_ hs_ => (hk_) hs_)) (fun k_ hk_ => hk_.1)); have n1_ := Aside0.mk (Kd.R_reok rfl hy0 (fun k_ e_ => HO_15.out.1 k_ e_)); have n2_ := Aside0.mk (hb); clear HO_10; clear HO_15; clear HB; have HO_10 := n0_; have HO_15 := n1_; have HB := n2_; clear n0_ n1_ n2_; (try clear hb); (try clear hkp); (try clear hy0)) | ((with_reducible refine gate_callee (f := 22) rfl ?_); refine goesL_ (some 111) rfl rfl Try.func22 (by kernel_rfl) rfl #[.slice Ao108 t428.length co108, .int .i64 1] rfl (by (try simp only [List.map_toArray, List.map_cons, List.map_nil]); first | done | (rw [show t428.length = t403.length from (Kd.R_reads' HO_15.out).1.symm] <;> rfl) | rfl | (simp only [List.length_drop, List.length_take]; rfl)) ?_; (with_reducible refine (laws_heldCarS.calls kj53 _ _ t428 1 t429 _ ?side1 ?side2 A77.out).mono ?_); (case side1 => repeat (first | exact (Kd.R_reads' HO_15.out).2.2 | (with_reducible refine Kd.C_alloc ?_ _) | (with_reducible refine Kd.C_drewN ?_ _) | (with_reducible refine Kd.C_drew ?_))); (case side2 => rw [show t428.length = t403.length from (Kd.R_reads' HO_15.out).1.symm]; exact (Kd.R_reads' HO_15.out).2.1); rintro e w' ⟨rfl, ⟨nd, rfl⟩⟩; refine ⟨_, rfl, ?_⟩))); go_ret; (exact ⟨by first | rfl | (simp [errW_none, errW_some] <;> rfl) | (simp [*, errW_none, errW_some] <;> rfl), by repeat (first | (with_reducible first | exact HB.out | apply below_alloc | apply pw_below_drewN | apply below_drew1) | exact HB.out)⟩)
         · (replace c50 := Bool.eq_false_iff.mpr c50); (subst c50); (have H1 : (some false) = some r := by rw [if_neg (show ¬ (false = true) by decide)] at H; exact H); clear H; have H := H1; clear H1; (obtain rfl := Option.some.inj H); (go_wp2_with (first | ((with_reducible refine gate_callee (f := 12) rfl ?_); refine goesL_ (some 71) rfl rfl Try.func12 (by kernel_rfl) rfl #[.slice A0 l0.length c0] rfl (by (try simp only [List.map_toArray, List.map_cons, List.map_nil]); first | done | rfl | (simp only [List.length_drop, List.length_take]; rfl)) ?_; (with_reducible refine (laws_toStreetS.calls kj17 _ _ l0 t408 _ ?side1 ?side2 A42.out).mono ?_); (case side1 => repeat (first | exact (Kd.C_below HR0.out HB.out) | (with_reducible refine Kd.C_alloc ?_ _) | (with_reducible refine Kd.C_drewN ?_ _) | (with_reducible refine Kd.C_drew ?_))); (case side2 => exact HC0.out); rintro e w110 ⟨v409, rfl, ho0, hb⟩; refine ⟨_, rfl, ?_⟩; have n0_ := Aside0.mk (Kd.R_below (by (with_reducible repeat (first | apply Kd.R_alloc | apply Kd.R_drewN | apply Kd.R_drew)); exact HO_10.out) hb); have n1_ := Aside0.mk (Kd.R_elder' (by (with_reducible repeat (first | apply Kd.R_alloc | apply Kd.R_drewN | apply Kd.R_drew)); exact HO_12.out) (Kd.R_base ho0) hb); have n2_ := Aside0.mk (Kd.R_below (by (with_reducible repeat (first | apply Kd.R_alloc | apply Kd.R_drewN | apply Kd.R_drew)); exact HO_13.out) hb); have n3_ := Aside0.mk (Kd.R_below (by (with_reducible repeat (first | apply Kd.R_alloc | apply Kd.R_drewN | apply Kd.R_drew)); exact HO_14.out) hb); have n4_ := Aside0.mk (Kd.R_below (by (with_reducible repeat (first | apply Kd.R_alloc | apply Kd.R_drewN | apply Kd.R_drew)); exact HO_15.out) hb); have n5_ := Aside0.mk (Kd.R_lower (Kd.R_new' ho0 (Kd.R_lt (by (with_reducible repeat (first | apply Kd.R_alloc | apply Kd.R_drewN | apply Kd.R_drew)); exact HO_12.out))) (below_size (by repeat (first | (with_reducible first | exact HB.out | apply below_alloc | apply pw_below_drewN | apply below_drew1) | exact HB.out)))); have n6_ := Aside0.mk (below_step (by repeat (first | (with_reducible first | exact HB.out | apply below_alloc | apply pw_below_drewN | apply below_drew1) | exact HB.out)) hb); clear HO_10; clear HO_12; clear HO_13; clear HO_14; clear HO_15; clear HB; have HO_10 := n0_; have HO_12 := n1_; have HO_13 := n2_; have HO_14 := n3_; have HO_15 := n4_; have HO410 := n5_; have HB := n6_; clear n0_ n1_ n2_ n3_ n4_ n5_ n6_; (try clear hb); (try clear hb2); (try clear hk); (try clear hi); (try clear ho0); obtain ⟨Ao111, co111, eo111⟩ := Kd.R_slice HO410.out; subst eo111) | ((with_reducible refine gate_callee (f := 17) rfl ?_); refine goesL_ (some 72) rfl rfl Try.func17 (by kernel_rfl) rfl #[.slice Ao29 t394.length co29, .slice Ao111 t408.length co111] rfl (by (try simp only [List.map_toArray, List.map_cons, List.map_nil]); first | done | rfl | (simp only [List.length_drop, List.length_take]; rfl)) ?_; (with_reducible refine (laws_eqStreetS.calls kj17 _ _ t394 _ _ t408 true _ ?side1 ?side2 ?side3 ?side4 A43.out).mono ?_); (case side1 => repeat (first | exact (Kd.R_reads' HO_12.out).2.2 | (with_reducible refine Kd.C_alloc ?_ _) | (with_reducible refine Kd.C_drewN ?_ _) | (with_reducible refine Kd.C_drew ?_))); (case side2 => exact (Kd.R_reads' HO_12.out).2.1); (case side3 => repeat (first | exact (Kd.R_reads' HO410.out).2.2 | (with_reducible refine Kd.C_alloc ?_ _) | (with_reducible refine Kd.C_drewN ?_ _) | (with_reducible refine Kd.C_drew ?_))); (case side4 => exact (Kd.R_reads' HO410.out).2.1); rintro e w112 ⟨rfl, hb⟩; refine ⟨_, rfl, ?_⟩; have n0_ := Aside0.mk (Kd.R_below (by (with_reducible repeat (first | apply Kd.R_alloc | apply Kd.R_drewN | apply Kd.R_drew)); exact HO_10.out) hb); have n1_ := Aside0.mk (Kd.R_below (by (with_reducible repeat (first | apply Kd.R_alloc | apply Kd.R_drewN | apply Kd.R_drew)); exact HO_12.out) hb); have n2_ := Aside0.mk (Kd.R_below (by (with_reducible repeat (first | apply Kd.R_alloc | apply Kd.R_drewN | apply Kd.R_drew)); exact HO_13.out) hb); have n3_ := Aside0.mk (Kd.R_below (by (with_reducible repeat (first | apply Kd.R_alloc | apply Kd.R_drewN | apply Kd.R_drew)); exact HO_14.out) hb); have n4_ := Aside0.mk (Kd.R_below (by (with_reducible repeat (first | apply Kd.R_alloc | apply Kd.R_drewN | apply Kd.R_drew)); exact HO_15.out) hb); have n5_ := Aside0.mk (Kd.R_below (by (with_reducible repeat (first | apply Kd.R_alloc | apply Kd.R_drewN | apply Kd.R_drew)); exact HO410.out) hb); have n6_ := Aside0.mk (below_step (by repeat (first | (with_reducible first | exact HB.out | apply below_alloc | apply pw_below_drewN | apply below_drew1) | exact HB.out)) hb); clear HO_10; clear HO_12; clear HO_13; clear HO_14; clear HO_15; clear HO410; clear HB; have HO_10 := n0_; have HO_12 := n1_; have HO_13 := n2_; have HO_14 := n3_; have HO_15 := n4_; have HO410 := n5_; have HB := n6_; clear n0_ n1_ n2_ n3_ n4_ n5_ n6_; (try clear hb); (try clear hb2); (try clear hk); (try clear hi)) | ((with_reducible refine gate_callee (f := 13) rfl ?_); refine goesL_ (some 76) rfl rfl Try.func13 (by kernel_rfl) rfl #[.slice A1 l1.length c1] rfl (by (try simp only [List.map_toArray, List.map_cons, List.map_nil]); first | done | rfl | (simp only [List.length_drop, List.length_take]; rfl)) ?_; (with_reducible refine (laws_toCarS.calls kj17 _ _ l1 t412 _ ?side1 ?side2 A45.out).mono ?_); (case side1 => repeat (first | exact (Kd.C_below HR1.out HB.out) | (with_reducible refine Kd.C_alloc ?_ _) | (with_reducible refine Kd.C_drewN ?_ _) | (with_reducible refine Kd.C_drew ?_))); (case side2 => exact HC1.out); rintro e w113 ⟨v413, rfl, ho0, hb⟩; refine ⟨_, rfl, ?_⟩; have n0_ := Aside0.mk (Kd.R_elder' (by (with_reducible repeat (first | apply Kd.R_alloc | apply Kd.R_drewN | apply Kd.R_drew)); exact HO_10.out) (Kd.R_base ho0) hb); have n1_ := Aside0.mk (Kd.R_below (by (with_reducible repeat (first | apply Kd.R_alloc | apply Kd.R_drewN | apply Kd.R_drew)); exact HO_12.out) hb); have n2_ := Aside0.mk (Kd.R_elder' (by (with_reducible repeat (first | apply Kd.R_alloc | apply Kd.R_drewN | apply Kd.R_drew)); exact HO_13.out) (Kd.R_base ho0) hb); have n3_ := Aside0.mk (Kd.R_below (by (with_reducible repeat (first | apply Kd.R_alloc | apply Kd.R_drewN | apply Kd.R_drew)); exact HO_14.out) hb); have n4_ := Aside0.mk (Kd.R_elder' (by (with_reducible repeat (first | apply Kd.R_alloc | apply Kd.R_drewN | apply Kd.R_drew)); exact HO_15.out) (Kd.R_base ho0) hb); have n5_ := Aside0.mk (Kd.R_below (by (with_reducible repeat (first | apply Kd.R_alloc | apply Kd.R_drewN | apply Kd.R_drew)); exact HO410.out) hb); have n6_ := Aside0.mk (Kd.R_lower (Kd.R_new' (Kd.R_new' (Kd.R_new' ho0 (Kd.R_lt (by (with_reducible repeat (first | apply Kd.R_alloc | apply Kd.R_drewN | apply Kd.R_drew)); exact HO_10.out))) (Kd.R_lt (by (with_reducible repeat (first | apply Kd.R_alloc | apply Kd.R_drewN | apply Kd.R_drew)); exact HO_13.out))) (Kd.R_lt (by (with_reducible repeat (first | apply Kd.R_alloc | apply Kd.R_drewN | apply Kd.R_drew)); exact HO_15.out))) (below_size (by repeat (first | (with_reducible first | exact HB.out | apply below_alloc | apply pw_below_drewN | apply below_drew1) | exact HB.out)))); have n7_ := Aside0.mk (below_step (by repeat (first | (with_reducible first | exact HB.out | apply below_alloc | apply pw_below_drewN | apply below_drew1) | exact HB.out)) hb); clear HO_10; clear HO_12; clear HO_13; clear HO_14; clear HO_15; clear HO410; clear HB; have HO_10 := n0_; have HO_12 := n1_; have HO_13 := n2_; have HO_14 := n3_; have HO_15 := n4_; have HO410 := n5_; have HO414 := n6_; have HB := n7_; clear n0_ n1_ n2_ n3_ n4_ n5_ n6_ n7_; (try clear hb); (try clear hb2); (try clear hk); (try clear hi); (try clear ho0); obtain ⟨Ao114, co114, eo114⟩ := Kd.R_slice HO414.out; subst eo114) | ((with_reducible refine gate_callee (f := 16) rfl ?_); refine goesL_ (some 77) rfl rfl Try.func16 (by kernel_rfl) rfl #[.slice Ao30 t397.length co30, .slice Ao114 t412.length co114] rfl (by (try simp only [List.map_toArray, List.map_cons, List.map_nil]); first | done | rfl | (simp only [List.length_drop, List.length_take]; rfl)) ?_; (with_reducible refine (laws_eqCarS.calls kj17 _ _ t397 _ _ t412 true _ ?side1 ?side2 ?side3 ?side4 A46.out).mono ?_); (case side1 => repeat (first | exact (Kd.R_reads' HO_13.out).2.2 | (with_reducible refine Kd.C_alloc ?_ _) | (with_reducible refine Kd.C_drewN ?_ _) | (with_reducible refine Kd.C_drew ?_))); (case side2 => exact (Kd.R_reads' HO_13.out).2.1); (case side3 => repeat (first | exact (Kd.R_reads' HO414.out).2.2 | (with_reducible refine Kd.C_alloc ?_ _) | (with_reducible refine Kd.C_drewN ?_ _) | (with_reducible refine Kd.C_drew ?_))); (case side4 => exact (Kd.R_reads' HO414.out).2.1); rintro e w115 ⟨rfl, hb⟩; refine ⟨_, rfl, ?_⟩; have n0_ := Aside0.mk (Kd.R_below (by (with_reducible repeat (first | apply Kd.R_alloc | apply Kd.R_drewN | apply Kd.R_drew)); exact HO_10.out) hb); have n1_ := Aside0.mk (Kd.R_below (by (with_reducible repeat (first | apply Kd.R_alloc | apply Kd.R_drewN | apply Kd.R_drew)); exact HO_12.out) hb); have n2_ := Aside0.mk (Kd.R_below (by (with_reducible repeat (first | apply Kd.R_alloc | apply Kd.R_drewN | apply Kd.R_drew)); exact HO_13.out) hb); have n3_ := Aside0.mk (Kd.R_below (by (with_reducible repeat (first | apply Kd.R_alloc | apply Kd.R_drewN | apply Kd.R_drew)); exact HO_14.out) hb); have n4_ := Aside0.mk (Kd.R_below (by (with_reducible repeat (first | apply Kd.R_alloc | apply Kd.R_drewN | apply Kd.R_drew)); exact HO_15.out) hb); have n5_ := Aside0.mk (Kd.R_below (by (with_reducible repeat (first | apply Kd.R_alloc | apply Kd.R_drewN | apply Kd.R_drew)); exact HO410.out) hb); have n6_ := Aside0.mk (Kd.R_below (by (with_reducible repeat (first | apply Kd.R_alloc | apply Kd.R_drewN | apply Kd.R_drew)); exact HO414.out) hb); have n7_ := Aside0.mk (below_step (by repeat (first | (with_reducible first | exact HB.out | apply below_alloc | apply pw_below_drewN | apply below_drew1) | exact HB.out)) hb); clear HO_10; clear HO_12; clear HO_13; clear HO_14; clear HO_15; clear HO410; clear HO414; clear HB; have HO_10 := n0_; have HO_12 := n1_; have HO_13 := n2_; have HO_14 := n3_; have HO_15 := n4_; have HO410 := n5_; have HO414 := n6_; have HB := n7_; clear n0_ n1_ n2_ n3_ n4_ n5_ n6_ n7_; (try clear hb); (try clear hb2); (try clear hk); (try clear hi)) | ((with_reducible refine gate_callee (f := 14) rfl ?_); refine goesL_ (some 81) rfl rfl Try.func14 (by kernel_rfl) rfl #[.slice A2 l2.length c2] rfl (by (try simp only [List.map_toArray, List.map_cons, List.map_nil]); first | done | rfl | (simp only [List.length_drop, List.length_take]; rfl)) ?_; (with_reducible refine (laws_toIntS.calls kj17 _ _ l2 t416 _ ?side1 ?side2 A48.out).mono ?_); (case side1 => repeat (first | exact (Kd.C_below HR2.out HB.out) | (with_reducible refine Kd.C_alloc ?_ _) | (with_reducible refine Kd.C_drewN ?_ _) | (with_reducible refine Kd.C_drew ?_))); (case side2 => exact HC2.out); rintro e w116 ⟨v417, rfl, ho0, hb⟩; refine ⟨_, rfl, ?_⟩; have n0_ := Aside0.mk (Kd.R_below (by (with_reducible repeat (first | apply Kd.R_alloc | apply Kd.R_drewN | apply Kd.R_drew)); exact HO_10.out) hb); have n1_ := Aside0.mk (Kd.R_below (by (with_reducible repeat (first | apply Kd.R_alloc | apply Kd.R_drewN | apply Kd.R_drew)); exact HO_12.out) hb); have n2_ := Aside0.mk (Kd.R_below (by (with_reducible repeat (first | apply Kd.R_alloc | apply Kd.R_drewN | apply Kd.R_drew)); exact HO_13.out) hb); have n3_ := Aside0.mk (Kd.R_elder' (by (with_reducible repeat (first | apply Kd.R_alloc | apply Kd.R_drewN | apply Kd.R_drew)); exact HO_14.out) (Kd.R_base ho0) hb); have n4_ := Aside0.mk (Kd.R_below (by (with_reducible repeat (first | apply Kd.R_alloc | apply Kd.R_drewN | apply Kd.R_drew)); exact HO_15.out) hb); have n5_ := Aside0.mk (Kd.R_below (by (with_reducible repeat (first | apply Kd.R_alloc | apply Kd.R_drewN | apply Kd.R_drew)); exact HO410.out) hb); have n6_ := Aside0.mk (Kd.R_below (by (with_reducible repeat (first | apply Kd.R_alloc | apply Kd.R_drewN | apply Kd.R_drew)); exact HO414.out) hb); have n7_ := Aside0.mk (Kd.R_lower (Kd.R_new' ho0 (Kd.R_lt (by (with_reducible repeat (first | apply Kd.R_alloc | apply Kd.R_drewN | apply Kd.R_drew)); exact HO_14.out))) (below_size (by repeat (first | (with_reducible first | exact HB.out | apply below_alloc | apply pw_below_drewN | apply below_drew1) | exact HB.out)))); have n8_ := Aside0.mk (below_step (by repeat (first | (with_reducible first | exact HB.out | apply below_alloc | apply pw_below_drewN | apply below_drew1) | exact HB.out)) hb); clear HO_10; clear HO_12; clear HO_13; clear HO_14; clear HO_15; clear HO410; clear HO414; clear HB; have HO_10 := n0_; have HO_12 := n1_; have HO_13 := n2_; have HO_14 := n3_; have HO_15 := n4_; have HO410 := n5_; have HO414 := n6_; have HO418 := n7_; have HB := n8_; clear n0_ n1_ n2_ n3_ n4_ n5_ n6_ n7_ n8_; (try clear hb); (try clear hb2); (try clear hk); (try clear hi); (try clear ho0); obtain ⟨Ao117, co117, eo117⟩ := Kd.R_slice HO418.out; subst eo117) | ((with_reducible refine gate_callee (f := 18) rfl ?_); refine goesL_ (some 82) rfl rfl Try.func18 (by kernel_rfl) rfl #[.slice Ao31 t400.length co31, .slice Ao117 t416.length co117] rfl (by (try simp only [List.map_toArray, List.map_cons, List.map_nil]); first | done | rfl | (simp only [List.length_drop, List.length_take]; rfl)) ?_; (with_reducible refine (laws_eqIntS.calls kj17 _ _ t400 _ _ t416 false _ ?side1 ?side2 ?side3 ?side4 A49.out).mono ?_); (case side1 => repeat (first | exact (Kd.R_reads' HO_14.out).2.2 | (with_reducible refine Kd.C_alloc ?_ _) | (with_reducible refine Kd.C_drewN ?_ _) | (with_reducible refine Kd.C_drew ?_))); (case side2 => exact (Kd.R_reads' HO_14.out).2.1); (case side3 => repeat (first | exact (Kd.R_reads' HO418.out).2.2 | (with_reducible refine Kd.C_alloc ?_ _) | (with_reducible refine Kd.C_drewN ?_ _) | (with_reducible refine Kd.C_drew ?_))); (case side4 => exact (Kd.R_reads' HO418.out).2.1); rintro e w' ⟨rfl, ⟨nd, rfl⟩⟩; refine ⟨_, rfl, ?_⟩))); go_ret; (exact ⟨by first | rfl | (simp [errW_none, errW_some] <;> rfl) | (simp [*, errW_none, errW_some] <;> rfl), by repeat (first | (with_reducible first | exact HB.out | apply below_alloc | apply pw_below_drewN | apply below_drew1) | exact HB.out)⟩)
        · (replace c47 := Bool.eq_false_iff.mpr c47); (subst c47); (have H1 : (some false) = some r := by rw [if_neg (show ¬ (false = true) by decide)] at H; exact H); clear H; have H := H1; clear H1; (obtain rfl := Option.some.inj H); (go_wp2_with (first | ((with_reducible refine gate_callee (f := 12) rfl ?_); refine goesL_ (some 71) rfl rfl Try.func12 (by kernel_rfl) rfl #[.slice A0 l0.length c0] rfl (by (try simp only [List.map_toArray, List.map_cons, List.map_nil]); first | done | rfl | (simp only [List.length_drop, List.length_take]; rfl)) ?_; (with_reducible refine (laws_toStreetS.calls kj17 _ _ l0 t408 _ ?side1 ?side2 A42.out).mono ?_); (case side1 => repeat (first | exact (Kd.C_below HR0.out HB.out) | (with_reducible refine Kd.C_alloc ?_ _) | (with_reducible refine Kd.C_drewN ?_ _) | (with_reducible refine Kd.C_drew ?_))); (case side2 => exact HC0.out); rintro e w118 ⟨v409, rfl, ho0, hb⟩; refine ⟨_, rfl, ?_⟩; have n0_ := Aside0.mk (Kd.R_below (by (with_reducible repeat (first | apply Kd.R_alloc | apply Kd.R_drewN | apply Kd.R_drew)); exact HO_10.out) hb); have n1_ := Aside0.mk (Kd.R_elder' (by (with_reducible repeat (first | apply Kd.R_alloc | apply Kd.R_drewN | apply Kd.R_drew)); exact HO_12.out) (Kd.R_base ho0) hb); have n2_ := Aside0.mk (Kd.R_below (by (with_reducible repeat (first | apply Kd.R_alloc | apply Kd.R_drewN | apply Kd.R_drew)); exact HO_13.out) hb); have n3_ := Aside0.mk (Kd.R_below (by (with_reducible repeat (first | apply Kd.R_alloc | apply Kd.R_drewN | apply Kd.R_drew)); exact HO_14.out) hb); have n4_ := Aside0.mk (Kd.R_below (by (with_reducible repeat (first | apply Kd.R_alloc | apply Kd.R_drewN | apply Kd.R_drew)); exact HO_15.out) hb); have n5_ := Aside0.mk (Kd.R_lower (Kd.R_new' ho0 (Kd.R_lt (by (with_reducible repeat (first | apply Kd.R_alloc | apply Kd.R_drewN | apply Kd.R_drew)); exact HO_12.out))) (below_size (by repeat (first | (with_reducible first | exact HB.out | apply below_alloc | apply pw_below_drewN | apply below_drew1) | exact HB.out)))); have n6_ := Aside0.mk (below_step (by repeat (first | (with_reducible first | exact HB.out | apply below_alloc | apply pw_below_drewN | apply below_drew1) | exact HB.out)) hb); clear HO_10; clear HO_12; clear HO_13; clear HO_14; clear HO_15; clear HB; have HO_10 := n0_; have HO_12 := n1_; have HO_13 := n2_; have HO_14 := n3_; have HO_15 := n4_; have HO410 := n5_; have HB := n6_; clear n0_ n1_ n2_ n3_ n4_ n5_ n6_; (try clear hb); (try clear hb2); (try clear hk); (try clear hi); (try clear ho0); obtain ⟨Ao119, co119, eo119⟩ := Kd.R_slice HO410.out; subst eo119) | ((with_reducible refine gate_callee (f := 17) rfl ?_); refine goesL_ (some 72) rfl rfl Try.func17 (by kernel_rfl) rfl #[.slice Ao29 t394.length co29, .slice Ao119 t408.length co119] rfl (by (try simp only [List.map_toArray, List.map_cons, List.map_nil]); first | done | rfl | (simp only [List.length_drop, List.length_take]; rfl)) ?_; (with_reducible refine (laws_eqStreetS.calls kj17 _ _ t394 _ _ t408 true _ ?side1 ?side2 ?side3 ?side4 A43.out).mono ?_); (case side1 => repeat (first | exact (Kd.R_reads' HO_12.out).2.2 | (with_reducible refine Kd.C_alloc ?_ _) | (with_reducible refine Kd.C_drewN ?_ _) | (with_reducible refine Kd.C_drew ?_))); (case side2 => exact (Kd.R_reads' HO_12.out).2.1); (case side3 => repeat (first | exact (Kd.R_reads' HO410.out).2.2 | (with_reducible refine Kd.C_alloc ?_ _) | (with_reducible refine Kd.C_drewN ?_ _) | (with_reducible refine Kd.C_drew ?_))); (case side4 => exact (Kd.R_reads' HO410.out).2.1); rintro e w120 ⟨rfl, hb⟩; refine ⟨_, rfl, ?_⟩; have n0_ := Aside0.mk (Kd.R_below (by (with_reducible repeat (first | apply Kd.R_alloc | apply Kd.R_drewN | apply Kd.R_drew)); exact HO_10.out) hb); have n1_ := Aside0.mk (Kd.R_below (by (with_reducible repeat (first | apply Kd.R_alloc | apply Kd.R_drewN | apply Kd.R_drew)); exact HO_12.out) hb); have n2_ := Aside0.mk (Kd.R_below (by (with_reducible repeat (first | apply Kd.R_alloc | apply Kd.R_drewN | apply Kd.R_drew)); exact HO_13.out) hb); have n3_ := Aside0.mk (Kd.R_below (by (with_reducible repeat (first | apply Kd.R_alloc | apply Kd.R_drewN | apply Kd.R_drew)); exact HO_14.out) hb); have n4_ := Aside0.mk (Kd.R_below (by (with_reducible repeat (first | apply Kd.R_alloc | apply Kd.R_drewN | apply Kd.R_drew)); exact HO_15.out) hb); have n5_ := Aside0.mk (Kd.R_below (by (with_reducible repeat (first | apply Kd.R_alloc | apply Kd.R_drewN | apply Kd.R_drew)); exact HO410.out) hb); have n6_ := Aside0.mk (below_step (by repeat (first | (with_reducible first | exact HB.out | apply below_alloc | apply pw_below_drewN | apply below_drew1) | exact HB.out)) hb); clear HO_10; clear HO_12; clear HO_13; clear HO_14; clear HO_15; clear HO410; clear HB; have HO_10 := n0_; have HO_12 := n1_; have HO_13 := n2_; have HO_14 := n3_; have HO_15 := n4_; have HO410 := n5_; have HB := n6_; clear n0_ n1_ n2_ n3_ n4_ n5_ n6_; (try clear hb); (try clear hb2); (try clear hk); (try clear hi)) | ((with_reducible refine gate_callee (f := 13) rfl ?_); refine goesL_ (some 76) rfl rfl Try.func13 (by kernel_rfl) rfl #[.slice A1 l1.length c1] rfl (by (try simp only [List.map_toArray, List.map_cons, List.map_nil]); first | done | rfl | (simp only [List.length_drop, List.length_take]; rfl)) ?_; (with_reducible refine (laws_toCarS.calls kj17 _ _ l1 t412 _ ?side1 ?side2 A45.out).mono ?_); (case side1 => repeat (first | exact (Kd.C_below HR1.out HB.out) | (with_reducible refine Kd.C_alloc ?_ _) | (with_reducible refine Kd.C_drewN ?_ _) | (with_reducible refine Kd.C_drew ?_))); (case side2 => exact HC1.out); rintro e w121 ⟨v413, rfl, ho0, hb⟩; refine ⟨_, rfl, ?_⟩; have n0_ := Aside0.mk (Kd.R_elder' (by (with_reducible repeat (first | apply Kd.R_alloc | apply Kd.R_drewN | apply Kd.R_drew)); exact HO_10.out) (Kd.R_base ho0) hb); have n1_ := Aside0.mk (Kd.R_below (by (with_reducible repeat (first | apply Kd.R_alloc | apply Kd.R_drewN | apply Kd.R_drew)); exact HO_12.out) hb); have n2_ := Aside0.mk (Kd.R_elder' (by (with_reducible repeat (first | apply Kd.R_alloc | apply Kd.R_drewN | apply Kd.R_drew)); exact HO_13.out) (Kd.R_base ho0) hb); have n3_ := Aside0.mk (Kd.R_below (by (with_reducible repeat (first | apply Kd.R_alloc | apply Kd.R_drewN | apply Kd.R_drew)); exact HO_14.out) hb); have n4_ := Aside0.mk (Kd.R_elder' (by (with_reducible repeat (first | apply Kd.R_alloc | apply Kd.R_drewN | apply Kd.R_drew)); exact HO_15.out) (Kd.R_base ho0) hb); have n5_ := Aside0.mk (Kd.R_below (by (with_reducible repeat (first | apply Kd.R_alloc | apply Kd.R_drewN | apply Kd.R_drew)); exact HO410.out) hb); have n6_ := Aside0.mk (Kd.R_lower (Kd.R_new' (Kd.R_new' (Kd.R_new' ho0 (Kd.R_lt (by (with_reducible repeat (first | apply Kd.R_alloc | apply Kd.R_drewN | apply Kd.R_drew)); exact HO_10.out))) (Kd.R_lt (by (with_reducible repeat (first | apply Kd.R_alloc | apply Kd.R_drewN | apply Kd.R_drew)); exact HO_13.out))) (Kd.R_lt (by (with_reducible repeat (first | apply Kd.R_alloc | apply Kd.R_drewN | apply Kd.R_drew)); exact HO_15.out))) (below_size (by repeat (first | (with_reducible first | exact HB.out | apply below_alloc | apply pw_below_drewN | apply below_drew1) | exact HB.out)))); have n7_ := Aside0.mk (below_step (by repeat (first | (with_reducible first | exact HB.out | apply below_alloc | apply pw_below_drewN | apply below_drew1) | exact HB.out)) hb); clear HO_10; clear HO_12; clear HO_13; clear HO_14; clear HO_15; clear HO410; clear HB; have HO_10 := n0_; have HO_12 := n1_; have HO_13 := n2_; have HO_14 := n3_; have HO_15 := n4_; have HO410 := n5_; have HO414 := n6_; have HB := n7_; clear n0_ n1_ n2_ n3_ n4_ n5_ n6_ n7_; (try clear hb); (try clear hb2); (try clear hk); (try clear hi); (try clear ho0); obtain ⟨Ao122, co122, eo122⟩ := Kd.R_slice HO414.out; subst eo122) | ((with_reducible refine gate_callee (f := 16) rfl ?_); refine goesL_ (some 77) rfl rfl Try.func16 (by kernel_rfl) rfl #[.slice Ao30 t397.length co30, .slice Ao122 t412.length co122] rfl (by (try simp only [List.map_toArray, List.map_cons, List.map_nil]); first | done | rfl | (simp only [List.length_drop, List.length_take]; rfl)) ?_; (with_reducible refine (laws_eqCarS.calls kj17 _ _ t397 _ _ t412 false _ ?side1 ?side2 ?side3 ?side4 A46.out).mono ?_); (case side1 => repeat (first | exact (Kd.R_reads' HO_13.out).2.2 | (with_reducible refine Kd.C_alloc ?_ _) | (with_reducible refine Kd.C_drewN ?_ _) | (with_reducible refine Kd.C_drew ?_))); (case side2 => exact (Kd.R_reads' HO_13.out).2.1); (case side3 => repeat (first | exact (Kd.R_reads' HO414.out).2.2 | (with_reducible refine Kd.C_alloc ?_ _) | (with_reducible refine Kd.C_drewN ?_ _) | (with_reducible refine Kd.C_drew ?_))); (case side4 => exact (Kd.R_reads' HO414.out).2.1); rintro e w123 ⟨rfl, hb⟩; refine ⟨_, rfl, ?_⟩; have n0_ := Aside0.mk (Kd.R_below (by (with_reducible repeat (first | apply Kd.R_alloc | apply Kd.R_drewN | apply Kd.R_drew)); exact HO_10.out) hb); have n1_ := Aside0.mk (Kd.R_below (by (with_reducible repeat (first | apply Kd.R_alloc | apply Kd.R_drewN | apply Kd.R_drew)); exact HO_12.out) hb); have n2_ := Aside0.mk (Kd.R_below (by (with_reducible repeat (first | apply Kd.R_alloc | apply Kd.R_drewN | apply Kd.R_drew)); exact HO_13.out) hb); have n3_ := Aside0.mk (Kd.R_below (by (with_reducible repeat (first | apply Kd.R_alloc | apply Kd.R_drewN | apply Kd.R_drew)); exact HO_14.out) hb); have n4_ := Aside0.mk (Kd.R_below (by (with_reducible repeat (first | apply Kd.R_alloc | apply Kd.R_drewN | apply Kd.R_drew)); exact HO_15.out) hb); have n5_ := Aside0.mk (Kd.R_below (by (with_reducible repeat (first | apply Kd.R_alloc | apply Kd.R_drewN | apply Kd.R_drew)); exact HO410.out) hb); have n6_ := Aside0.mk (Kd.R_below (by (with_reducible repeat (first | apply Kd.R_alloc | apply Kd.R_drewN | apply Kd.R_drew)); exact HO414.out) hb); have n7_ := Aside0.mk (below_step (by repeat (first | (with_reducible first | exact HB.out | apply below_alloc | apply pw_below_drewN | apply below_drew1) | exact HB.out)) hb); clear HO_10; clear HO_12; clear HO_13; clear HO_14; clear HO_15; clear HO410; clear HO414; clear HB; have HO_10 := n0_; have HO_12 := n1_; have HO_13 := n2_; have HO_14 := n3_; have HO_15 := n4_; have HO410 := n5_; have HO414 := n6_; have HB := n7_; clear n0_ n1_ n2_ n3_ n4_ n5_ n6_ n7_; (try clear hb); (try clear hb2); (try clear hk); (try clear hi)))); go_ret; (exact ⟨by first | rfl | (simp [errW_none, errW_some] <;> rfl) | (simp [*, errW_none, errW_some] <;> rfl), by repeat (first | (with_reducible first | exact HB.out | apply below_alloc | apply pw_below_drewN | apply below_drew1) | exact HB.out)⟩)
       · (replace c44 := Bool.eq_false_iff.mpr c44); (subst c44); (have H1 : (some false) = some r := by rw [if_neg (show ¬ (false = true) by decide)] at H; exact H); clear H; have H := H1; clear H1; (obtain rfl := Option.some.inj H); (go_wp2_with (first | ((with_reducible refine gate_callee (f := 12) rfl ?_); refine goesL_ (some 71) rfl rfl Try.func12 (by kernel_rfl) rfl #[.slice A0 l0.length c0] rfl (by (try simp only [List.map_toArray, List.map_cons, List.map_nil]); first | done | rfl | (simp only [List.length_drop, List.length_take]; rfl)) ?_; (with_reducible refine (laws_toStreetS.calls kj17 _ _ l0 t408 _ ?side1 ?side2 A42.out).mono ?_); (case side1 => repeat (first | exact (Kd.C_below HR0.out HB.out) | (with_reducible refine Kd.C_alloc ?_ _) | (with_reducible refine Kd.C_drewN ?_ _) | (with_reducible refine Kd.C_drew ?_))); (case side2 => exact HC0.out); rintro e w124 ⟨v409, rfl, ho0, hb⟩; refine ⟨_, rfl, ?_⟩; have n0_ := Aside0.mk (Kd.R_below (by (with_reducible repeat (first | apply Kd.R_alloc | apply Kd.R_drewN | apply Kd.R_drew)); exact HO_10.out) hb); have n1_ := Aside0.mk (Kd.R_elder' (by (with_reducible repeat (first | apply Kd.R_alloc | apply Kd.R_drewN | apply Kd.R_drew)); exact HO_12.out) (Kd.R_base ho0) hb); have n2_ := Aside0.mk (Kd.R_below (by (with_reducible repeat (first | apply Kd.R_alloc | apply Kd.R_drewN | apply Kd.R_drew)); exact HO_13.out) hb); have n3_ := Aside0.mk (Kd.R_below (by (with_reducible repeat (first | apply Kd.R_alloc | apply Kd.R_drewN | apply Kd.R_drew)); exact HO_14.out) hb); have n4_ := Aside0.mk (Kd.R_below (by (with_reducible repeat (first | apply Kd.R_alloc | apply Kd.R_drewN | apply Kd.R_drew)); exact HO_15.out) hb); have n5_ := Aside0.mk (Kd.R_lower (Kd.R_new' ho0 (Kd.R_lt (by (with_reducible repeat (first | apply Kd.R_alloc | apply Kd.R_drewN | apply Kd.R_drew)); exact HO_12.out))) (below_size (by repeat (first | (with_reducible first | exact HB.out | apply below_alloc | apply pw_below_drewN | apply below_drew1) | exact HB.out)))); have n6_ := Aside0.mk (below_step (by repeat (first | (with_reducible first | exact HB.out | apply below_alloc | apply pw_below_drewN | apply below_drew1) | exact HB.out)) hb); clear HO_10; clear HO_12; clear HO_13; clear HO_14; clear HO_15; clear HB; have HO_10 := n0_; have HO_12 := n1_; have HO_13 := n2_; have HO_14 := n3_; have HO_15 := n4_; have HO410 := n5_; have HB := n6_; clear n0_ n1_ n2_ n3_ n4_ n5_ n6_; (try clear hb); (try clear hb2); (try clear hk); (try clear hi); (try clear ho0); obtain ⟨Ao125, co125, eo125⟩ := Kd.R_slice HO410.out; subst eo125) | ((with_reducible refine gate_callee (f := 17) rfl ?_); refine goesL_ (some 72) rfl rfl Try.func17 (by kernel_rfl) rfl #[.slice Ao29 t394.length co29, .slice Ao125 t408.length co125] rfl (by (try simp only [List.map_toArray, List.map_cons, List.map_nil]); first | done | rfl | (simp only [List.length_drop, List.length_take]; rfl)) ?_; (with_reducible refine (laws_eqStreetS.calls kj17 _ _ t394 _ _ t408 false _ ?side1 ?side2 ?side3 ?side4 A43.out).mono ?_); (case side1 => repeat (first | exact (Kd.R_reads' HO_12.out).2.2 | (with_reducible refine Kd.C_alloc ?_ _) | (with_reducible refine Kd.C_drewN ?_ _) | (with_reducible refine Kd.C_drew ?_))); (case side2 => exact (Kd.R_reads' HO_12.out).2.1); (case side3 => repeat (first | exact (Kd.R_reads' HO410.out).2.2 | (with_reducible refine Kd.C_alloc ?_ _) | (with_reducible refine Kd.C_drewN ?_ _) | (with_reducible refine Kd.C_drew ?_))); (case side4 => exact (Kd.R_reads' HO410.out).2.1); rintro e w126 ⟨rfl, hb⟩; refine ⟨_, rfl, ?_⟩; have n0_ := Aside0.mk (Kd.R_below (by (with_reducible repeat (first | apply Kd.R_alloc | apply Kd.R_drewN | apply Kd.R_drew)); exact HO_10.out) hb); have n1_ := Aside0.mk (Kd.R_below (by (with_reducible repeat (first | apply Kd.R_alloc | apply Kd.R_drewN | apply Kd.R_drew)); exact HO_12.out) hb); have n2_ := Aside0.mk (Kd.R_below (by (with_reducible repeat (first | apply Kd.R_alloc | apply Kd.R_drewN | apply Kd.R_drew)); exact HO_13.out) hb); have n3_ := Aside0.mk (Kd.R_below (by (with_reducible repeat (first | apply Kd.R_alloc | apply Kd.R_drewN | apply Kd.R_drew)); exact HO_14.out) hb); have n4_ := Aside0.mk (Kd.R_below (by (with_reducible repeat (first | apply Kd.R_alloc | apply Kd.R_drewN | apply Kd.R_drew)); exact HO_15.out) hb); have n5_ := Aside0.mk (Kd.R_below (by (with_reducible repeat (first | apply Kd.R_alloc | apply Kd.R_drewN | apply Kd.R_drew)); exact HO410.out) hb); have n6_ := Aside0.mk (below_step (by repeat (first | (with_reducible first | exact HB.out | apply below_alloc | apply pw_below_drewN | apply below_drew1) | exact HB.out)) hb); clear HO_10; clear HO_12; clear HO_13; clear HO_14; clear HO_15; clear HO410; clear HB; have HO_10 := n0_; have HO_12 := n1_; have HO_13 := n2_; have HO_14 := n3_; have HO_15 := n4_; have HO410 := n5_; have HB := n6_; clear n0_ n1_ n2_ n3_ n4_ n5_ n6_; (try clear hb); (try clear hb2); (try clear hk); (try clear hi)))); go_ret; (exact ⟨by first | rfl | (simp [errW_none, errW_some] <;> rfl) | (simp [*, errW_none, errW_some] <;> rfl), by repeat (first | (with_reducible first | exact HB.out | apply below_alloc | apply pw_below_drewN | apply below_drew1) | exact HB.out)⟩)
end Go.Proofs.Ytmpncnphndafnac.PCars
end

section
namespace Go.Proofs.Ytmpncnphndafnac.Aid
open Go.RowKit Go.Proofs.YtmpncnphndafnacW.PrintWords Go.Proofs.YtmpncnphndafnacW.PrintMore
set_option linter.unusedVariables false

theorem w64 {x : Int} (h0 : -9223372036854775808 ≤ x) (h1 : x ≤ 9223372036854775807) : wrap64 x = x := by
  unfold wrap64
  omega
theorem w64_range (x : Int) : -9223372036854775808 ≤ wrap64 x ∧ wrap64 x ≤ 9223372036854775807 := by
  unfold wrap64
  omega
/-- A number of Go's int. -/
def I64 (x : Int) : Prop := -9223372036854775808 ≤ x ∧ x ≤ 9223372036854775807
theorem i64_of {x : Int} (h : (Lit.int .i64 x).wf = true) : I64 x := by
  simp [Lit.wf, IntKind.min, IntKind.max, IntKind.bits, IntKind.signed] at h
  unfold I64
  omega

/-- A byte. -/
def U8 (x : Int) : Prop := 0 ≤ x ∧ x ≤ 255
theorem u8_of {x : Int} (h : (Lit.int .u8 x).wf = true) : U8 x := by
  simp [Lit.wf, IntKind.min, IntKind.max, IntKind.bits, IntKind.signed] at h
  unfold U8
  omega

/-- A slice within the reach (B: an element's bytes), all of whose elements are as WF says. -/
def wfS {α : Type} (B : Nat) (WF : α → Prop) (xs : List α) : Prop := xs.length ≤ maxLen ∧ xs.length * B ≤ 140737488351232 ∧ ∀ x ∈ xs, WF x

theorem shift {α : Type} {g : Nat → Option α} {r : α} (h : Ev (fun k => g (k + 1)) r) : Ev g r := Ev.step (fun _ => rfl) h
theorem pos {α : Type} {c : Prop} [Decidable c] {a b : Nat → Option α} {r : α} (hc : c) (h : Ev a r) : Ev (fun k => if c then a k else b k) r := by
  simpa only [if_pos hc] using h
theorem neg {α : Type} {c : Prop} [Decidable c] {a b : Nat → Option α} {r : α} (hc : ¬ c) (h : Ev b r) : Ev (fun k => if c then a k else b k) r := by
  simpa only [if_neg hc] using h
theorem now {α : Type} {r s : α} (h : r = s) : Ev (fun _ => some r) s := h ▸ Ev.now r
theorem known {α : Type} {x : Option α} {r : α} (h : x = some r) : Ev (fun _ => x) r := h ▸ Ev.now r
theorem bindc {α β : Type} {x : Option α} {f : Nat → α → Option β} {a : α} {r : β} (h : x = some a) (k : Ev (fun n => f n a) r) : Ev (fun n => x.bind (f n)) r := by
  subst h
  exact k
theorem same {α : Type} {g : Nat → Option α} {r s : α} (h : Ev g r) (e : r = s) : Ev g s := e ▸ h
theorem of_const {α : Type} {x : Option α} {r : α} (h : Ev (fun _ => x) r) : x = some r := by
  obtain ⟨k, hk⟩ := Ev.rounds h
  exact hk

/-- A loop whose round j leads from state j to state j + 1, and whose N-th state is its end. -/
theorem loop {α : Type} {g : Nat → Nat → Option α} {r : α} (N : Nat) (hs : ∀ j, j < N → Ev (fun k => g k (j + 1)) r → Ev (fun k => g k j) r) (he : Ev (fun k => g k N) r) : Ev (fun k => g k 0) r := by
  have : ∀ d j, j + d = N → Ev (fun k => g k j) r := by
    intro d
    induction d with
    | zero =>
      intro j hj
      have : j = N := by omega
      subst this
      exact he
    | succ d ih => exact fun j hj => hs j (by omega) (ih (j + 1) (by omega))
  exact this N 0 (by omega)
/-- The same from state i on. -/
theorem loop_from {α : Type} {g : Nat → Nat → Option α} {r : α} (i N : Nat) (hi : i ≤ N) (hs : ∀ j, i ≤ j → j < N → Ev (fun k => g k (j + 1)) r → Ev (fun k => g k j) r) (he : Ev (fun k => g k N) r) : Ev (fun k => g k i) r := by
  have : ∀ d j, i ≤ j → j + d = N → Ev (fun k => g k j) r := by
    intro d
    induction d with
    | zero =>
      intro j _ hj
      have : j = N := by omega
      subst this
      exact he
    | succ d ih => exact fun j h0 hj => hs j h0 (by omega) (ih (j + 1) (by omega) (by omega))
  exact this (N - i) i (Nat.le_refl _) (by omega)

theorem rd_nat (xs : List Int) (j : Nat) : rd xs (j : Int) = xs.getD j 0 := by simp [rd]
theorem rd_get (xs : List Int) (j : Nat) (h : j < xs.length) : rd xs (j : Int) = xs[j] := by simp [rd, h]
theorem nat_lt {a b : Nat} (h : a < b) : (a : Int) < (b : Int) := by omega
theorem nat_ge {a b : Nat} (h : b ≤ a) : ¬ (a : Int) < (b : Int) := by omega
theorem succ_wrap {j : Nat} (h : j < 9223372036854775807) : wrap64 ((j : Int) + 1) = ((j + 1 : Nat) : Int) := by
  rw [w64 (by omega) (by omega)]
  omega

/-- A loop that fills a row, one place a round. -/
theorem copied {α β : Type} {g : Nat → List β → Int → Option (List β)} (l : List α) (f : α → β) (z : β) (hs : ∀ (j : Nat) (hj : j < l.length) (y : List β) (r : List β), y.length = l.length → Ev (fun k => g k (y.set j (f l[j])) ((j + 1 : Nat) : Int)) r → Ev (fun k => g k y (j : Int)) r)
    (he : ∀ y, Ev (fun k => g k y (l.length : Int)) y) : Ev (fun k => g k (List.replicate l.length z) 0) (l.map f) := by
  refine loop (g := fun k j => g k ((l.map f).take j ++ List.replicate (l.length - j) z) (j : Int)) (r := l.map f) l.length ?_ ?_ |> (fun h => by simpa using h)
  · intro j hj h
    refine hs j hj _ _ (by simp; omega) ?_
    refine Eq.mp ?_ h
    congr 1
    funext k
    congr 1
    rw [List.set_append_right _ _ (by simp; omega)]
    have h1 : (l.map f).take (j + 1) = (l.map f).take j ++ [f l[j]] := by
      rw [List.take_succ_eq_append_getElem (by simpa using hj)]
      simp
    have h2 : l.length - j = (l.length - (j + 1)) + 1 := by omega
    have h3 : j - ((l.map f).take j).length = 0 := by simp; omega
    rw [h1, h3, h2, List.replicate_succ, List.set_cons_zero]
    simp
  · have h := he (l.map f)
    have e : (l.map f).take l.length = l.map f := List.take_of_length_le (by simp)
    simpa [e] using h

/-- A loop that looks at each place and answers no at the first that is not as it ought to be. -/
theorem all_loop {g : Nat → Nat → Option Bool} (N : Nat) (ok : Nat → Bool) (b : Bool) (hs : ∀ j r, j < N → ok j = true → Ev (fun k => g k (j + 1)) r → Ev (fun k => g k j) r)
    (hf : ∀ j, j < N → ok j = false → Ev (fun k => g k j) false) (he : Ev (fun k => g k N) b) : Ev (fun k => g k 0) ((List.range N).all ok && b) := by
  have : ∀ d j, j + d = N → Ev (fun k => g k j) ((List.range' j d).all ok && b) := by
    intro d
    induction d with
    | zero =>
      intro j hj
      have : j = N := by omega
      subst this
      simpa using he
    | succ d ih =>
      intro j hj
      rw [List.range'_succ, List.all_cons]
      cases h : ok j with
      | true => simpa using hs j _ (by omega) h (ih (j + 1) (by omega))
      | false => simpa using hf j (by omega) h
  have h := this N 0 (by omega)
  rwa [← List.range_eq_range'] at h
/-- The same where all places are as they ought to be, .. -/
theorem ok_loop {α : Type} {g : Nat → Nat → Option α} (N : Nat) (ok : Nat → Bool) {r : α} (h : (List.range N).all ok = true) (hs : ∀ j r, j < N → ok j = true → Ev (fun k => g k (j + 1)) r → Ev (fun k => g k j) r)
    (he : Ev (fun k => g k N) r) : Ev (fun k => g k 0) r :=
  loop N (fun j hj hn => hs j r hj (List.all_eq_true.1 h j (List.mem_range.2 hj)) hn) he
/-- .. and where one isn't: the first that isn't decides. -/
theorem bad_loop {α : Type} {g : Nat → Nat → Option α} (N : Nat) (ok : Nat → Bool) (r : α) (h : ¬ (List.range N).all ok = true) (hs : ∀ j r, j < N → ok j = true → Ev (fun k => g k (j + 1)) r → Ev (fun k => g k j) r)
    (hf : ∀ j, j < N → ok j = false → Ev (fun k => g k j) r) : Ev (fun k => g k 0) r := by
  have : ∀ d j, j + d = N → ¬ (List.range' j d).all ok = true → Ev (fun k => g k j) r := by
    intro d
    induction d with
    | zero => exact fun j _ hn => absurd rfl hn
    | succ d ih =>
      intro j hj hn
      rw [List.range'_succ, List.all_cons] at hn
      cases ho : ok j with
      | true => exact hs j _ (by omega) ho (ih (j + 1) (by omega) (by simpa [ho] using hn))
      | false => exact hf j (by omega) ho
  exact this N 0 (by omega) (by rwa [← List.range_eq_range'])
/-- n numbers from a on. -/
def iota (a : Int) (n : Nat) : List Int := (List.range n).map fun (i : Nat) => a + (i : Int)
theorem iota_length (a : Int) (n : Nat) : (iota a n).length = n := by simp [iota]
theorem iota_get (a : Int) (n j : Nat) (h : j < n) : rd (iota a n) (j : Int) = a + j := by simp [rd, iota, h]
theorem iota_set (a : Int) (l : List Int) (j : Nat) (h : j < l.length) : (iota a j ++ l.drop j).set j (a + j) = iota a (j + 1) ++ l.drop (j + 1) := by
  rw [List.set_append_right _ _ (by rw [iota_length]; exact Nat.le_refl _), iota_length, Nat.sub_self, List.drop_eq_getElem_cons h, List.set_cons_zero]
  have : iota a (j + 1) = iota a j ++ [a + j] := by simp [iota, List.range_succ]
  rw [this]
  simp
end Go.Proofs.Ytmpncnphndafnac.Aid
end

section
namespace Go.Proofs.Ytmpncnphndafnac.Opens
open Go.ChangeShapes Go.WideShapes Go.RowKit Go.Proofs.YtmpncnphndafnacW.PrintWords Go.Proofs.Ytmpncnphndafnac.Aid
set_option linter.unusedVariables false

/-- Whatever can be read as data of type t is of kind kd, and meets WF. -/
def Opens {α : Type} (P : Program) (t : TypeId) (kd : Kd α) (WF : α → Prop) : Prop :=
  P.cellsOf t = kd.sz ∧ ∀ (H : Type) (enc : TypeId × Value → H) (w : World) (base : Nat) (spare : Nat → Bool) (held : Bool) (fuel : Nat) (cs : List Value) (d : DataW H) (ps : List MemPlace),
    DataW.trod enc P w base spare held fuel t cs = some (d, ps) → (∀ n ∈ d.weights P t, n ≤ reachBytes) → ∃ x, kd.K w x cs ∧ WF x

theorem opens_int {P : Program} {t : TypeId} (ht : P.underlying t = some (.int .i64)) (hc : P.cellsOf t = 1) : Opens P t (Kd.int .i64) I64 := by
  refine ⟨hc, fun H enc w base spare held fuel cs d ps h _ => ?_⟩
  obtain ⟨n, rfl, _, hw⟩ := DataW.trod_int ht h
  exact ⟨n, rfl, i64_of hw⟩

/-- The same of bytes. -/
theorem opens_u8 {P : Program} {t : TypeId} (ht : P.underlying t = some (.int .u8)) (hc : P.cellsOf t = 1) : Opens P t (Kd.int .u8) U8 := by
  refine ⟨hc, fun H enc w base spare held fuel cs d ps h _ => ?_⟩
  obtain ⟨n, rfl, _, hw⟩ := DataW.trod_int ht h
  exact ⟨n, rfl, u8_of hw⟩

theorem opens_bool {P : Program} {t : TypeId} (ht : P.underlying t = some .bool) (hc : P.cellsOf t = 1) : Opens P t Kd.bool (fun _ => True) := by
  refine ⟨hc, fun H enc w base spare held fuel cs d ps h _ => ?_⟩
  obtain ⟨b, rfl, _⟩ := DataW.trod_bool ht h
  exact ⟨b, rfl, trivial⟩

theorem weights_elem {H : Type} {P : Program} {e : TypeId} {n : Nat} : ∀ {ds : List (DataW H)} {d : DataW H}, d ∈ ds → n ∈ d.weights P e → n ∈ DataW.weightsAll P e ds
  | [], _, h, _ => by simp at h
  | d0 :: r, d, h, hn => by
    rw [DataW.weightsAll]
    rcases List.mem_cons.1 h with rfl | h
    · exact List.mem_append_left _ hn
    · exact List.mem_append_right _ (weights_elem h hn)

theorem choose_list {α : Type} {n : Nat} {Q : Nat → α → Prop} (h : ∀ i, i < n → ∃ x, Q i x) : ∃ xs : List α, xs.length = n ∧ ∀ i x, xs[i]? = some x → Q i x := by
  induction n with
  | zero => exact ⟨[], rfl, fun i x hx => by simp at hx⟩
  | succ n ih =>
    obtain ⟨xs, hl, hx⟩ := ih (fun i hi => h i (by omega))
    obtain ⟨y, hy⟩ := h n (by omega)
    refine ⟨xs ++ [y], by simp [hl], fun i x hi => ?_⟩
    by_cases hlt : i < n
    · rw [List.getElem?_append_left (by omega)] at hi
      exact hx i x hi
    · have hl2 := (List.getElem?_eq_some_iff.1 hi).1
      simp at hl2
      have : i = n := by omega
      subst this
      rw [List.getElem?_append_right (by omega)] at hi
      simp [hl] at hi
      exact hi ▸ hy

theorem opens_slice {α : Type} {P : Program} {t e : TypeId} {kd : Kd α} {WF : α → Prop} (ht : P.underlying t = some (.slice e)) (hc : P.cellsOf t = 1) {B : Nat} (hB : P.bytesOf e = B) (he : Opens P e kd WF) :
    Opens P t (Kd.slice e kd) (wfS B WF) := by
  subst hB
  refine ⟨hc, fun H enc w base spare held fuel cs d ps h hw => ?_⟩
  rcases DataW.trod_slice ht h with ⟨rfl, _⟩ | ⟨a, len, cap, elems, rest, n, _, rfl, hx, hb, hl, hm, hlen, hel, _, _⟩
  · exact ⟨[], ⟨none, 0, rfl, Nat.le_refl _, ⟨rfl, by simp, fun h => absurd h (by simp)⟩⟩, by simp [maxLen], by simp, by simp⟩
  · simp only [Prod.mk.injEq] at hx
    obtain ⟨rfl, _⟩ := hx
    have each : ∀ i, i < len → ∃ x, (∃ c, c.length = kd.sz ∧ kd.K w x c ∧ ∀ j u, c[j]? = some u → w.cell? (a.add (i * kd.sz + j)) = some u) ∧ WF x := by
      intro i hi
      have h1 := hel i hi
      have h2 : i < elems.length := by omega
      rw [List.getElem?_eq_getElem h2] at h1
      obtain ⟨c, hc1, hc2⟩ := Option.bind_eq_some_iff.1 h1
      obtain ⟨_, hcl, hcc⟩ := World.cells?_some hc1
      obtain ⟨x, hx1, hx2⟩ := he.2 H enc w base spare held n c elems[i].1 elems[i].2 hc2 (fun m hm' => hw m (by
        rw [DataW.weights, ht]
        simp only [List.mem_cons, List.mem_append]
        exact .inr (.inl (weights_elem (List.mem_map.2 ⟨elems[i], List.getElem_mem h2, rfl⟩) hm'))))
      refine ⟨x, ⟨c, by rw [hcl, he.1], hx1, fun j u hj => ?_⟩, hx2⟩
      have hj2 := (List.getElem?_eq_some_iff.1 hj).1
      have := hcc j (by omega)
      rw [hj, he.1] at this
      rw [← this, Addr.add_add]
    obtain ⟨xs, hxl, hxs⟩ := choose_list each
    subst hxl
    refine ⟨xs, ⟨some a, cap, rfl, hl, ⟨rfl, by simp [maxLen] at hm; omega, fun _ => ⟨a, rfl, fun j p hj => ?_⟩⟩⟩, by omega, ?_, fun x hx => ?_⟩
    · exact (hxs j p hj).1
    · have := hw ((elems.length + rest.length) * P.bytesOf e) (by rw [DataW.weights, ht]; simp)
      exact Nat.le_trans (Nat.mul_le_mul_right _ (by omega)) this
    · obtain ⟨i, hi⟩ := List.getElem?_of_mem hx
      exact (hxs i x hi).2

/-- The same of a struct's fields from one on, which begins at cell off. -/
def OpensF {α : Type} (P : Program) (fs : List Field) (off : Nat) (kd : Kd α) (WF : α → Prop) : Prop :=
  ∀ (H : Type) (enc : TypeId × Value → H) (w : World) (base : Nat) (spare : Nat → Bool) (held : Bool) (fuel : Nat) (cs : List Value) (ys : List (DataW H × List MemPlace)),
    cs.length = off + kd.sz → ys.length = fs.length → (∀ (i : Nat) (f : Field), fs[i]? = some f → DataW.trod enc P w base spare held fuel f.type ((cs.drop f.offset).take (P.cellsOf f.type)) = ys[i]?) →
    (∀ n ∈ DataW.weightsEach P (fs.map (·.type)) (ys.map (·.1)), n ≤ reachBytes) → ∃ x, kd.K w x (cs.drop off) ∧ WF x

theorem opensF_last {α : Type} {P : Program} {f : Field} {off : Nat} {kd : Kd α} {WF : α → Prop} (ho : f.offset = off) (h : Opens P f.type kd WF) : OpensF P [f] off kd WF := by
  intro H enc w base spare held fuel cs ys hcs hys hf hw
  match ys, hys with
  | [y], _ =>
    have h1 := hf 0 f rfl
    rw [ho, h.1, List.take_of_length_le (by simp; omega)] at h1
    exact h.2 H enc w base spare held fuel _ y.1 y.2 h1 (fun n hn => hw n (by simp [DataW.weightsEach, hn]))

theorem opensF_cons {α β : Type} {P : Program} {f : Field} {fs : List Field} {off : Nat} {kd : Kd α} {kr : Kd β} {WF : α → Prop} {WR : β → Prop} (ho : f.offset = off) (h : Opens P f.type kd WF)
    (hr : OpensF P fs (off + kd.sz) kr WR) : OpensF P (f :: fs) off (Kd.pair kd kr) (fun x => WF x.1 ∧ WR x.2) := by
  intro H enc w base spare held fuel cs ys hcs hys hf hw
  match ys, hys with
  | y :: ys, hys =>
    have h1 := hf 0 f rfl
    rw [ho, h.1] at h1
    obtain ⟨x, hx1, hx2⟩ := h.2 H enc w base spare held fuel _ y.1 y.2 h1 (fun n hn => hw n (by simp [DataW.weightsEach, hn]))
    have hs : (Kd.pair kd kr).sz = kd.sz + kr.sz := rfl
    obtain ⟨z, hz1, hz2⟩ := hr H enc w base spare held fuel cs ys (by omega) (by simpa using hys) (fun i g hg => hf (i + 1) g hg) (fun n hn => hw n (by simp [DataW.weightsEach]; exact .inr (by simpa using hn)))
    refine ⟨(x, z), ⟨_, _, ?_, hx1, hz1⟩, hx2, hz2⟩
    rw [← List.drop_drop, List.take_append_drop]

theorem opens_struct {α β : Type} {P : Program} {t : TypeId} {fs : Array Field} {kd : Kd α} {WF : α → Prop} (f : β → α) (g : α → β) (hg : ∀ x, f (g x) = x) (ht : P.underlying t = some (.struct fs)) (hc : P.cellsOf t = kd.sz)
    (h : OpensF P fs.toList 0 kd WF) : Opens P t (Kd.iso kd f) (fun x => WF (f x)) := by
  refine ⟨hc, fun H enc w base spare held fuel cs d ps hd hw => ?_⟩
  obtain ⟨xs, n, _, hx, hl, hxl, hf⟩ := DataW.trod_struct ht hd
  simp only [Prod.mk.injEq] at hx
  obtain ⟨rfl, _⟩ := hx
  obtain ⟨y, hy1, hy2⟩ := h H enc w base spare held n cs xs (by omega) (by simpa using hxl) (fun i f' hf' => hf i f' (by simpa using hf')) (fun m hm => hw m (by rw [DataW.weights, ht]; simpa using hm))
  refine ⟨g y, ?_, ?_⟩
  · show kd.K w (f (g y)) cs
    rw [hg]
    simpa using hy1
  · show WF (f (g y))
    rw [hg]
    exact hy2

/-- An argument, opened. -/
theorem opens_arg {α : Type} {H : Type} {enc : TypeId × Value → H} {P : Program} {w : World} {base : Nat} {spare : Nat → Bool} {held : Bool} {t : TypeId} {v : Value} {kd : Kd α} {WF : α → Prop} {d : DataW H} {ps : List MemPlace} (h : Opens P t kd WF)
    {ts : List TypeId} {ds : List (DataW H)} {j : Nat} (hsz : (DataW.weightsEach P ts ds).all (· ≤ reachBytes) = true) (ht : ts[j]? = some t) (hd : ds[j]? = some d) (hv : DataW.Trod enc P w base spare held t v d ps) :
    ∃ x, kd.K w x v.cells.toList ∧ WF x := by
  obtain ⟨fuel, hf⟩ := hv
  refine h.2 H enc w base spare held fuel _ d ps hf (fun n hn => ?_)
  have := List.all_eq_true.1 hsz n (DataW.weights_mem_each ht hd n hn)
  simpa using this

/-- A slice argument: its address, its capacity, its row. -/
theorem opens_row {α : Type} {P : Program} {w : World} {t e : TypeId} {r : Reach} {b0 : Nat} {v : Value} {kd : Kd α} {x : List α} (ht : P.underlying t = some (.slice e)) (hval : Value.okWide P w r b0 t v) (h : (Kd.slice e kd).K w x v.cells.toList) :
    ∃ A c, v = .slice A x.length c ∧ x.length ≤ c ∧ Kd.C kd w A x.length x := by
  obtain ⟨a, len, cap, rfl⟩ := okWide_slice ht hval
  obtain ⟨A, c, hv, hl, hC⟩ := h
  simp [Value.cells] at hv
  obtain ⟨rfl, rfl, rfl⟩ := hv
  exact ⟨_, _, rfl, hl, hC⟩

/-- A struct argument by value: its cells. -/
theorem opens_agg {P : Program} {w : World} {t : TypeId} {fs : Array Field} {r : Reach} {b0 : Nat} {v : Value} {cs : List Value} (ht : P.underlying t = some (.struct fs)) (hval : Value.okWide P w r b0 t v) (h : v.cells.toList = cs) :
    v = .agg cs.toArray := by
  obtain ⟨c, rfl, _⟩ := okWide_struct ht hval
  simp [Value.cells] at h
  simp [← h]

end Go.Proofs.Ytmpncnphndafnac.Opens
end

section
namespace Go.Proofs.Ytmpncnphndafnac.PureFnExactRunCars
open Go.RowKit Go.Proofs.YtmpncnphndafnacW.PrintWords Go.Proofs.YtmpncnphndafnacW.PrintLast Go.Proofs.YtmpncnphndafnacW.PrintMore Go.Proofs.Ytmpncnphndafnac.PCars Go.Proofs.Ytmpncnphndafnac.Aid
set_option linter.unusedVariables false
set_option linter.unusedSimpArgs false

/-- Every number of it is one of Go's int, every slice within the reach. -/
def wf80 (x : S80) : Prop := I64 x.f0 ∧ I64 x.f1 ∧ I64 x.f2
/-- Every number of it is one of Go's int, every slice within the reach. -/
def wf82 (x : S82) : Prop := I64 x.f0 ∧ I64 x.f1 ∧ I64 x.f2 ∧ I64 x.f3

theorem laws_szStreetS_eq (l : List S80) (a : Int) (ha : 0 ≤ a) (ha2 : a ≤ 1048576) (hl : l.length ≤ 140737488355328) : ∃ r, laws_szStreetS.f l a = some r ∧ r ≤ a ∧ (¬ r < 0 → l.length ≤ 1048576) := by
  unfold laws_szStreetS.f
  rw [w64 (by omega) (by omega)]
  by_cases h : a - (l.length : Int) < 0
  · exact ⟨-1, by rw [if_pos h], by omega, by omega⟩
  · exact ⟨_, by rw [if_neg h], by omega, by omega⟩

theorem laws_szCarS_eq (l : List S82) (a : Int) (ha : 0 ≤ a) (ha2 : a ≤ 1048576) (hl : l.length ≤ 140737488355328) : ∃ r, laws_szCarS.f l a = some r ∧ r ≤ a ∧ (¬ r < 0 → l.length ≤ 1048576) := by
  unfold laws_szCarS.f
  rw [w64 (by omega) (by omega)]
  by_cases h : a - (l.length : Int) < 0
  · exact ⟨-1, by rw [if_pos h], by omega, by omega⟩
  · exact ⟨_, by rw [if_neg h], by omega, by omega⟩

theorem spec_l1In_eq (a b c : Int) : spec_l1In.f a b c = some (decide (b ≤ a ∧ a ≤ c)) := by
  unfold spec_l1In.f
  by_cases h : b ≤ a
  · rw [if_pos h]
    simp [h]
  · rw [if_neg h]
    simp [h]

theorem impl_streetOf_eq (l : List S78) (a b : Int) : impl_streetOf.f l a b = some (impl_streetOf.from_ a b l 0) := rfl
theorem streetOf_neg (a b : Int) : ∀ (l : List S78) (i : Int), 0 ≤ i → (impl_streetOf.from_ a b l i < 0 ↔ ∀ x ∈ l, ¬ (x.f0 = a ∧ x.f1 = b))
  | [], i, _ => by simp [impl_streetOf.from_]
  | x :: r, i, hi => by
    have ih := streetOf_neg a b r (i + 1) (by omega)
    simp only [impl_streetOf.from_, List.mem_cons, forall_eq_or_imp, ← ih]
    by_cases h : x.f0 = a ∧ x.f1 = b
    · simp [h, hi]
    · have : ¬ ((x.f0 == a) && (x.f1 == b)) = true := by simpa using h
      rw [if_neg this]
      exact ⟨fun g => ⟨h, g⟩, fun g => g.2⟩
def noSame (l : List S78) (a b : Int) (i : Nat) : Bool := !decide ((rd_T78 l i).f0 = a ∧ (rd_T78 l i).f1 = b)
theorem streetOf_iff (l : List S78) (j : Nat) (hj : j ≤ l.length) (a b : Int) : (List.range j).all (noSame l a b) = true ↔ impl_streetOf.from_ a b (l.take j) 0 < 0 := by
  rw [streetOf_neg _ _ _ _ (Int.le_refl _), List.all_eq_true]
  constructor
  · intro h x hx
    obtain ⟨i, hi, rfl⟩ := List.getElem_of_mem hx
    have hi2 : i < j ∧ i < l.length := by rw [List.length_take] at hi; omega
    have := h i (List.mem_range.2 hi2.1)
    rw [List.getElem_take]
    intro ⟨h1, h2⟩
    simp [noSame, rd_T78, hi2.2, h1, h2] at this
  · intro h i hi
    have hij := List.mem_range.1 hi
    have hil : i < l.length := by omega
    have := h l[i] (List.mem_take_iff_getElem.2 ⟨i, by omega, rfl⟩)
    have e : rd_T78 l (i : Int) = l[i] := by simp [rd_T78, hil]
    simp only [noSame, e, Bool.not_eq_true', decide_eq_false_iff_not]
    exact this

def streetRng (s : S78) : Bool := decide (1 ≤ s.f0 ∧ s.f0 ≤ 8 ∧ 1 ≤ s.f1 ∧ s.f1 ≤ 8 ∧ ¬ s.f0 = s.f1 ∧ 1 ≤ s.f2 ∧ s.f2 ≤ 300)
def streetAt (l : List S78) (j : Nat) : Bool := streetRng (rd_T78 l j) && (List.range j).all (noSame l (rd_T78 l j).f0 (rd_T78 l j).f1)
def areStreets (l : List S78) : Bool := (List.range l.length).all (streetAt l) && decide (l.length ≤ 16)
theorem spec_AreStreets_flag (l : List S78) (j : Nat) (h : ¬ streetRng (rd_T78 l j) = true) (hj : j < l.length) : Ev (fun k => spec_AreStreets.l0 k l (j : Int)) false := by
  have hs : ∀ a b c, Ev (fun k => spec_AreStreets.j1 k l (j : Int) true a b c) false := fun a b c => by
    refine shift ?_
    simp only [spec_AreStreets.j1]
    exact pos trivial (now rfl)
  simp only [streetRng, decide_eq_true_eq] at h
  refine shift ?_
  simp only [spec_AreStreets.l0]
  refine pos (nat_lt hj) (pos (by omega) (bindc (spec_l1In_eq _ _ _) ?_))
  by_cases h1 : 1 ≤ (rd_T78 l j).f0 ∧ (rd_T78 l j).f0 ≤ 8
  · refine pos (by simp [h1]) (bindc (spec_l1In_eq _ _ _) ?_)
    by_cases h2 : 1 ≤ (rd_T78 l j).f1 ∧ (rd_T78 l j).f1 ≤ 8
    · refine pos (by simp [h2]) ?_
      by_cases h3 : (rd_T78 l j).f0 = (rd_T78 l j).f1
      · exact pos h3 (hs _ _ _)
      · refine neg h3 (bindc (spec_l1In_eq _ _ _) ?_)
        have h4 : ¬ (1 ≤ (rd_T78 l j).f2 ∧ (rd_T78 l j).f2 ≤ 300) := by omega
        rw [decide_eq_false h4]
        exact hs _ _ _
    · exact neg (by simpa using h2) (hs _ _ _)
  · exact neg (by simpa using h1) (hs _ _ _)
theorem spec_AreStreets_ev (l : List S78) (hl : l.length ≤ 9223372036854775806) : Ev (fun k => spec_AreStreets.f k l) (areStreets l) := by
  unfold spec_AreStreets.f areStreets
  have head : ∀ (j : Nat) (r : Bool), j < l.length → streetRng (rd_T78 l j) = true → Ev (fun k => spec_AreStreets.l1 k l (j : Int) 0 (rd_T78 l j).f0 (rd_T78 l j).f1 (rd_T78 l j).f2) r → Ev (fun k => spec_AreStreets.l0 k l (j : Int)) r := by
    intro j r hj h1 h
    simp only [streetRng, decide_eq_true_eq] at h1
    refine shift ?_
    simp only [spec_AreStreets.l0]
    refine pos (nat_lt hj) (pos (by omega) (bindc (spec_l1In_eq _ _ _) (pos (by simp; omega) (bindc (spec_l1In_eq _ _ _) (pos (by simp; omega) (neg (by omega) (bindc (spec_l1In_eq _ _ _) ?_)))))))
    rw [decide_eq_true (show 1 ≤ (rd_T78 l j).f2 ∧ (rd_T78 l j).f2 ≤ 300 by omega)]
    refine shift ?_
    simp only [spec_AreStreets.j1]
    exact neg (by simp) h
  refine all_loop (g := fun k j => spec_AreStreets.l0 k l (j : Int)) l.length (streetAt l) _ ?_ ?_ ?_
  · intro j r hj ok h
    simp only [streetAt, Bool.and_eq_true] at ok
    refine head j r hj ok.1 (ok_loop (g := fun k i => spec_AreStreets.l1 k l (j : Int) (i : Int) (rd_T78 l j).f0 (rd_T78 l j).f1 (rd_T78 l j).f2) _ _ ok.2 ?_ ?_)
    · intro i r hi oki hh
      simp only [noSame, Bool.not_eq_true', decide_eq_false_iff_not] at oki
      refine shift ?_
      simp only [spec_AreStreets.l1]
      refine pos (nat_lt hi) (pos (by omega) (pos (by omega) ?_))
      rw [succ_wrap (by omega)]
      by_cases h1 : (rd_T78 l i).f0 = (rd_T78 l j).f0
      · exact pos h1 (neg (fun h2 => oki ⟨h1, h2⟩) hh)
      · exact neg h1 hh
    · refine shift ?_
      simp only [spec_AreStreets.l1]
      refine neg (nat_ge (Nat.le_refl _)) ?_
      rw [succ_wrap (by omega)]
      exact h
  · intro j hj ok
    by_cases h1 : streetRng (rd_T78 l j) = true
    · have h2 : ¬ (List.range j).all (noSame l (rd_T78 l j).f0 (rd_T78 l j).f1) = true := by
        intro h2
        simp [streetAt, h1, h2] at ok
      refine head j _ hj h1 (bad_loop (g := fun k i => spec_AreStreets.l1 k l (j : Int) (i : Int) (rd_T78 l j).f0 (rd_T78 l j).f1 (rd_T78 l j).f2) _ _ _ h2 ?_ ?_)
      · intro i r hi oki hh
        simp only [noSame, Bool.not_eq_true', decide_eq_false_iff_not] at oki
        refine shift ?_
        simp only [spec_AreStreets.l1]
        refine pos (nat_lt hi) (pos (by omega) (pos (by omega) ?_))
        rw [succ_wrap (by omega)]
        by_cases h1 : (rd_T78 l i).f0 = (rd_T78 l j).f0
        · exact pos h1 (neg (fun h2 => oki ⟨h1, h2⟩) hh)
        · exact neg h1 hh
      · intro i hi oki
        simp only [noSame, Bool.not_eq_false', decide_eq_true_eq] at oki
        refine shift ?_
        simp only [spec_AreStreets.l1]
        exact pos (nat_lt hi) (pos (by omega) (pos (by omega) (pos oki.1 (pos oki.2 (now rfl)))))
    · exact spec_AreStreets_flag l j h1 hj
  · refine shift ?_
    simp only [spec_AreStreets.l0]
    refine neg (nat_ge (Nat.le_refl _)) (now ?_)
    exact decide_eq_decide.2 (by omega)

def carAt (ss : List S78) (cs : List S52) (j : Nat) : Bool :=
  decide (1 ≤ (rd_T52 cs j).f0 ∧ (rd_T52 cs j).f0 ≤ 999 ∧ 0 ≤ (rd_T52 cs j).f1 ∧ (rd_T52 cs j).f1 < (ss.length : Int) ∧ 0 ≤ (rd_T52 cs j).f2 ∧ (rd_T52 cs j).f2 ≤ (rd_T78 ss (rd_T52 cs j).f1).f2 ∧ 1 ≤ (rd_T52 cs j).f3 ∧ (rd_T52 cs j).f3 ≤ 20 ∧ (0 < j → (rd_T52 cs ((j : Int) - 1)).f0 < (rd_T52 cs j).f0))
theorem carAt_iff (ss : List S78) (cs : List S52) (j : Nat) : carAt ss cs j = true ↔ (1 ≤ (rd_T52 cs j).f0 ∧ (rd_T52 cs j).f0 ≤ 999 ∧ 0 ≤ (rd_T52 cs j).f1 ∧ (rd_T52 cs j).f1 < (ss.length : Int) ∧ 0 ≤ (rd_T52 cs j).f2 ∧ (rd_T52 cs j).f2 ≤ (rd_T78 ss (rd_T52 cs j).f1).f2 ∧ 1 ≤ (rd_T52 cs j).f3 ∧ (rd_T52 cs j).f3 ≤ 20 ∧ (0 < j → (rd_T52 cs ((j : Int) - 1)).f0 < (rd_T52 cs j).f0)) := by unfold carAt; exact decide_eq_true_iff
def areCars (ss : List S78) (cs : List S52) : Bool := areStreets ss && ((List.range cs.length).all (carAt ss cs) && decide (cs.length ≤ 30))
theorem spec_AreCars_ev (ss : List S78) (cs : List S52) (hs : ss.length ≤ 9223372036854775806) (hl : cs.length ≤ 9223372036854775806) : Ev (fun k => spec_AreCars.f k ss cs) (areCars ss cs) := by
  unfold spec_AreCars.f areCars
  refine Ev.bind (spec_AreStreets_ev ss hs) ?_
  by_cases h : areStreets ss = true
  · rw [h, Bool.true_and]
    refine pos rfl (all_loop (g := fun k j => spec_AreCars.l0 k ss cs (j : Int)) cs.length (carAt ss cs) _ ?_ ?_ ?_)
    · intro j r hj ok h
      rw [carAt_iff] at ok
      obtain ⟨o1, o2, o3, o4, o5, o6, o7, o8, o9⟩ := ok
      refine shift ?_
      simp only [spec_AreCars.l0]
      rw [w64 (x := (ss.length : Int) - 1) (by omega) (by omega), succ_wrap (by omega)]
      refine pos (nat_lt hj) (pos (by omega) (bindc (spec_l1In_eq _ _ _) (pos (by simp; omega) (bindc (spec_l1In_eq _ _ _) (pos (by simp; omega) (pos o3 (pos o4 (bindc (spec_l1In_eq _ _ _) (pos (by simp; omega) (bindc (spec_l1In_eq _ _ _) (pos (by simp; omega) ?_))))))))))) 
      by_cases h0 : (j : Int) > 0
      · rw [w64 (by omega) (by omega)]
        exact pos h0 (pos (by omega) (pos (by omega) (neg (by have := o9 (by omega); omega) h)))
      · exact neg h0 h
    · intro j hj ok
      have ok : ¬ carAt ss cs j = true := by simp [ok]
      rw [carAt_iff] at ok
      refine shift ?_
      simp only [spec_AreCars.l0]
      rw [w64 (x := (ss.length : Int) - 1) (by omega) (by omega)]
      refine pos (nat_lt hj) (pos (by omega) (bindc (spec_l1In_eq _ _ _) ?_))
      by_cases h1 : 1 ≤ (rd_T52 cs j).f0 ∧ (rd_T52 cs j).f0 ≤ 999
      · refine pos (by simp [h1]) (bindc (spec_l1In_eq _ _ _) ?_)
        by_cases h2 : 0 ≤ (rd_T52 cs j).f1 ∧ (rd_T52 cs j).f1 ≤ (ss.length : Int) - 1
        · refine pos (by simpa using h2) (pos h2.1 (pos (by omega) (bindc (spec_l1In_eq _ _ _) ?_)))
          by_cases h3 : 0 ≤ (rd_T52 cs j).f2 ∧ (rd_T52 cs j).f2 ≤ (rd_T78 ss (rd_T52 cs j).f1).f2
          · refine pos (by simpa using h3) (bindc (spec_l1In_eq _ _ _) ?_)
            by_cases h4 : 1 ≤ (rd_T52 cs j).f3 ∧ (rd_T52 cs j).f3 ≤ 20
            · refine pos (by simpa using h4) ?_
              rw [w64 (x := (j : Int) - 1) (by omega) (by omega)]
              exact pos (by omega) (pos (by omega) (pos (by omega) (pos (by omega) (now rfl))))
            · exact neg (by simpa using h4) (now rfl)
          · exact neg (by simpa using h3) (now rfl)
        · exact neg (by simpa using h2) (now rfl)
      · exact neg (by simpa using h1) (now rfl)
    · refine shift ?_
      simp only [spec_AreCars.l0]
      refine neg (nat_ge (Nat.le_refl _)) (now ?_)
      exact decide_eq_decide.2 (by omega)
  · exact neg h (now (by simp [h]))

theorem spec_l6Has_ev (l : List Int) (a : Int) (hl : l.length ≤ 9223372036854775806) : Ev (fun k => spec_l6Has.f k l a) (decide (a ∈ l)) := by
  unfold spec_l6Has.f
  have : ∀ d j, j + d = l.length → Ev (fun k => spec_l6Has.l0 k l a (j : Int)) (decide (a ∈ l.drop j)) := by
    intro d
    induction d with
    | zero =>
      intro j hj
      refine shift ?_
      simp only [spec_l6Has.l0]
      exact neg (by omega) (now (by rw [List.drop_eq_nil_of_le (by omega)]; simp))
    | succ d ih =>
      intro j hj
      have hjl : j < l.length := by omega
      refine shift ?_
      simp only [spec_l6Has.l0]
      rw [List.drop_eq_getElem_cons hjl, rd_get l j hjl]
      refine pos (nat_lt hjl) (pos (by omega) ?_)
      by_cases h : l[j] = a
      · exact pos h (now (by simp [h]))
      · refine neg h ?_
        rw [succ_wrap (by omega)]
        have e : decide (a ∈ l[j] :: l.drop (j + 1)) = decide (a ∈ l.drop (j + 1)) := decide_eq_decide.2 ⟨fun g => (List.mem_cons.1 g).resolve_left (fun x => h x.symm), fun g => List.mem_cons_of_mem _ g⟩
        rw [e]
        exact ih (j + 1) (by omega)
  simpa using this l.length 0 (by omega)

theorem spec_l6Put_ev (l : List Int) (a : Int) (hl : l.length ≤ 1048576) : ∃ r, Ev (fun k => spec_l6Put.f k l a) r ∧ (∀ s, s ∈ r ↔ s ∈ l ∨ s = a) ∧ r.length ≤ l.length + 1 := by
  unfold spec_l6Put.f
  have split : ∀ (j : Nat) s, s ∈ l.take j ++ [a] ++ l.drop j ↔ s ∈ l ∨ s = a := by
    intro j s
    have e : s ∈ l ↔ s ∈ l.take j ∨ s ∈ l.drop j := by rw [← List.mem_append, List.take_append_drop]
    simp only [List.mem_append, List.mem_singleton, e]
    constructor
    · rintro ((h | h) | h)
      · exact .inl (.inl h)
      · exact .inr h
      · exact .inl (.inr h)
    · rintro ((h | h) | h)
      · exact .inl (.inl h)
      · exact .inr h
      · exact .inl (.inr h)
  have : ∀ d j, j + d = l.length → ∃ r, Ev (fun k => spec_l6Put.l0 k l a (j : Int)) r ∧ (∀ s, s ∈ r ↔ s ∈ l ∨ s = a) ∧ r.length ≤ l.length + 1 := by
    intro d
    induction d with
    | zero =>
      intro j hj
      refine ⟨l.take j ++ [a] ++ l.drop j, shift ?_, split j, by simp; omega⟩
      simp only [spec_l6Put.l0, Option.bind_some, List.nil_append, Int.toNat_natCast]
      exact neg (by omega) (pos (by omega) (pos (by omega) (pos (by simp; omega) (pos (by simp; omega) (pos (by simp; omega) (now rfl))))))
    | succ d ih =>
      intro j hj
      have hjl : j < l.length := by omega
      by_cases h1 : l[j] < a
      · obtain ⟨r, h, h2, h3⟩ := ih (j + 1) (by omega)
        refine ⟨r, shift ?_, h2, h3⟩
        simp only [spec_l6Put.l0]
        rw [rd_get l j hjl, succ_wrap (by omega)]
        exact pos (nat_lt hjl) (pos (by omega) (pos h1 h))
      · by_cases h2 : l[j] = a
        · refine ⟨l, shift ?_, fun s => ⟨.inl, fun g => g.elim id (fun e => by rw [e, ← h2]; exact List.getElem_mem hjl)⟩, by omega⟩
          simp only [spec_l6Put.l0, Option.bind_some, List.nil_append]
          rw [rd_get l j hjl]
          exact pos (nat_lt hjl) (pos (by omega) (neg h1 (pos h2 (pos (by simp; omega) (now rfl)))))
        · refine ⟨l.take j ++ [a] ++ l.drop j, shift ?_, split j, by simp; omega⟩
          simp only [spec_l6Put.l0, Option.bind_some, List.nil_append, Int.toNat_natCast]
          rw [rd_get l j hjl]
          exact pos (nat_lt hjl) (pos (by omega) (neg h1 (neg h2 (pos (by omega) (pos (by simp; omega) (pos (by simp; omega) (pos (by simp; omega) (now rfl))))))))
  exact this l.length 0 (by omega)

/-- One minute: the cars that are left to go, what has gone on of the way, the cars that left, the streets whose first car is told. -/
def mv (l2 : List Int) : List S52 → List S52 → Int → List Bool → List S52 × Int
  | [], out, n, _ => (out, n)
  | c :: r, out, n, fl =>
    if c.f2 > 0 then mv l2 r (out ++ [⟨c.f0, c.f1, wrap64 (c.f2 - 1), c.f3⟩]) n fl
    else if rdOf false fl c.f1 = true then mv l2 r (out ++ [⟨c.f0, c.f1, c.f2, c.f3⟩]) n fl
    else if c.f3 ∈ l2 then mv l2 r out (wrap64 (n + 1)) (fl.set c.f1.toNat true)
    else mv l2 r (out ++ [⟨c.f0, c.f1, c.f2, c.f3⟩]) n (fl.set c.f1.toNat true)
theorem mv_length (l2 : List Int) : ∀ (r out : List S52) (n : Int) (fl : List Bool), (mv l2 r out n fl).1.length ≤ out.length + r.length
  | [], out, n, fl => by simp [mv]
  | c :: r, out, n, fl => by
    have h1 := mv_length l2 r (out ++ [⟨c.f0, c.f1, wrap64 (c.f2 - 1), c.f3⟩]) n fl
    have h2 := mv_length l2 r (out ++ [⟨c.f0, c.f1, c.f2, c.f3⟩]) n fl
    have h3 := mv_length l2 r out (wrap64 (n + 1)) (fl.set c.f1.toNat true)
    have h4 := mv_length l2 r (out ++ [⟨c.f0, c.f1, c.f2, c.f3⟩]) n (fl.set c.f1.toNat true)
    simp only [List.length_append, List.length_cons, List.length_nil] at *
    rw [mv]
    split
    · omega
    · split
      · omega
      · split <;> omega
def moveCars (ss : List S78) (cs : List S52) (l2 : List Int) : List S52 × Int := if areCars ss cs = true then mv l2 cs [] 0 (List.replicate ss.length false) else (cs, 0)
theorem moveCars_length (ss : List S78) (cs : List S52) (l2 : List Int) : (moveCars ss cs l2).1.length ≤ cs.length := by
  unfold moveCars
  split
  · simpa using mv_length l2 cs [] 0 (List.replicate ss.length false)
  · exact Nat.le_refl _
theorem areCars_at {ss : List S78} {cs : List S52} (h : areCars ss cs = true) : cs.length ≤ 30 ∧ ∀ j (hj : j < cs.length), 0 ≤ cs[j].f1 ∧ cs[j].f1 < (ss.length : Int) := by
  simp only [areCars, Bool.and_eq_true, decide_eq_true_eq, List.all_eq_true, List.mem_range] at h
  refine ⟨h.2.2, fun j hj => ?_⟩
  have := (carAt_iff ss cs j).1 (h.2.1 j hj)
  have e : rd_T52 cs (j : Int) = cs[j] := by simp [rd_T52, hj]
  rw [e] at this
  exact ⟨this.2.2.1, this.2.2.2.1⟩
theorem spec_mv (ss : List S78) (cs : List S52) (l2 : List Int) (hl2 : l2.length ≤ 1048576) (h : areCars ss cs = true) : ∀ d j, j + d = cs.length → ∀ (out : List S52) (used : List Int) (n : Int) (fl : List Bool), out.length ≤ j → used.length ≤ j → fl.length = ss.length → (∀ s : Nat, s < ss.length → ((s : Int) ∈ used ↔ rdOf false fl (s : Int) = true)) → Ev (fun k => spec_MoveCars.l0 k cs l2 out used n (j : Int)) (mv l2 (cs.drop j) out n fl) := by
  obtain ⟨h30, hat⟩ := areCars_at h
  intro d
  induction d with
  | zero =>
    intro j hj out used n fl ho hu hf hrel
    refine shift ?_
    simp only [spec_MoveCars.l0]
    exact neg (by omega) (now (by rw [List.drop_eq_nil_of_le (by omega), mv]))
  | succ d ih =>
    intro j hj out used n fl ho hu hf hrel
    have hjl : j < cs.length := by omega
    obtain ⟨a1, a2⟩ := hat j hjl
    have hg : rd_T52 cs (j : Int) = cs[j] := by simp [rd_T52, hjl]
    refine shift ?_
    simp only [spec_MoveCars.l0]
    rw [List.drop_eq_getElem_cons hjl, hg, mv, succ_wrap (by omega)]
    refine pos (nat_lt hjl) (pos (by omega) ?_)
    by_cases c2 : cs[j].f2 > 0
    · rw [if_pos c2]
      exact pos c2 (pos (by omega) (ih (j + 1) (by omega) _ _ _ _ (by simp; omega) (by omega) hf hrel))
    · rw [if_neg c2]
      obtain ⟨u2, hp, hm, hul⟩ := spec_l6Put_ev used cs[j].f1 (by omega)
      refine neg c2 (Ev.bind (spec_l6Has_ev _ _ (by omega)) (Ev.bind hp ?_))
      obtain ⟨s, hs⟩ := Int.eq_ofNat_of_zero_le a1
      have hsl : s < ss.length := by omega
      have hr := hrel s hsl
      rw [← hs] at hr
      have rel2 : ∀ t : Nat, t < ss.length → ((t : Int) ∈ u2 ↔ rdOf false (fl.set cs[j].f1.toNat true) (t : Int) = true) := by
        intro t ht
        rw [hm, hrel t ht]
        simp only [rdOf, Int.toNat_natCast, List.getD_eq_getElem?_getD, List.getElem?_set]
        by_cases e : (t : Int) = cs[j].f1
        · have e2 : cs[j].f1.toNat = t := by omega
          simp [e, e2, hf, ht]
        · have e2 : ¬ cs[j].f1.toNat = t := by omega
          simp [e, e2]
      by_cases c3 : cs[j].f1 ∈ used
      · rw [if_pos (hr.1 c3)]
        have rel3 : ∀ t : Nat, t < ss.length → ((t : Int) ∈ u2 ↔ rdOf false fl (t : Int) = true) := by
          intro t ht
          rw [hm, hrel t ht]
          constructor
          · rintro (g | g)
            · exact g
            · rw [g]; exact hr.1 c3
          · exact .inl
        exact pos (by simpa using c3) (pos (by omega) (ih (j + 1) (by omega) _ _ _ _ (by simp; omega) (by omega) hf rel3))
      · rw [if_neg (fun g => c3 (hr.2 g))]
        refine neg (by simpa using c3) (Ev.bind (spec_l6Has_ev _ _ (by omega)) ?_)
        by_cases c4 : cs[j].f3 ∈ l2
        · rw [if_pos c4]
          exact pos (by simpa using c4) (ih (j + 1) (by omega) _ _ _ _ (by omega) (by omega) (by simpa using hf) rel2)
        · rw [if_neg c4]
          exact neg (by simpa using c4) (pos (by omega) (ih (j + 1) (by omega) _ _ _ _ (by simp; omega) (by omega) (by simpa using hf) rel2))
theorem spec_MoveCars_ev (ss : List S78) (cs : List S52) (l2 : List Int) (hs : ss.length ≤ 1048576) (hc : cs.length ≤ 1048576) (hl2 : l2.length ≤ 1048576) : Ev (fun k => spec_MoveCars.f k ss cs l2) (moveCars ss cs l2) := by
  unfold spec_MoveCars.f moveCars
  refine Ev.bind (spec_AreCars_ev ss cs (by omega) (by omega)) ?_
  by_cases h : areCars ss cs = true
  · rw [if_pos h]
    refine pos h ?_
    simpa using spec_mv ss cs l2 hl2 h cs.length 0 (by omega) [] [] 0 (List.replicate ss.length false) (by simp) (by simp) (by simp) (fun s hs => by simp [rdOf, List.getD_eq_getElem?_getD, List.getElem?_replicate, hs])
  · rw [if_neg h]
    exact neg h (bindc rfl (pos (by simp; omega) (now (by simp))))

def cStreet (x : S80) : S78 := ⟨x.f0, x.f1, x.f2⟩
theorem laws_toStreetS_ev (l : List S80) (hl : l.length ≤ 1048576) : Ev (fun k => laws_toStreetS.f k l) (l.map cStreet) := by
  unfold laws_toStreetS.f
  refine pos (by omega) (pos (by omega) ?_)
  exact copied (g := fun k y i => laws_toStreetS.l0 k l y i) l cStreet z78 (fun j hj y r hy h => by
    refine shift ?_
    simp only [laws_toStreetS.l0]
    refine pos (nat_lt hj) (pos (by omega) (bindc rfl (pos (by omega) ?_)))
    rw [succ_wrap (by omega)]
    simpa [rd_T80, cStreet, hj] using h) (fun y => by
    refine shift ?_
    simp only [laws_toStreetS.l0]
    exact neg (nat_ge (Nat.le_refl _)) (now rfl))

def cCar (x : S82) : S52 := ⟨x.f0, x.f1, x.f2, x.f3⟩
theorem laws_toCarS_ev (l : List S82) (hl : l.length ≤ 1048576) : Ev (fun k => laws_toCarS.f k l) (l.map cCar) := by
  unfold laws_toCarS.f
  refine pos (by omega) (pos (by omega) ?_)
  exact copied (g := fun k y i => laws_toCarS.l0 k l y i) l cCar z52 (fun j hj y r hy h => by
    refine shift ?_
    simp only [laws_toCarS.l0]
    refine pos (nat_lt hj) (pos (by omega) (bindc rfl (pos (by omega) ?_)))
    rw [succ_wrap (by omega)]
    simpa [rd_T82, cCar, hj] using h) (fun y => by
    refine shift ?_
    simp only [laws_toCarS.l0]
    exact neg (nat_ge (Nat.le_refl _)) (now rfl))

theorem laws_toIntS_ev (l : List Int) (hl : l.length ≤ 17592186044416) : Ev (fun k => laws_toIntS.f k l) l := by
  unfold laws_toIntS.f
  refine pos (by omega) (pos (by omega) ?_)
  have h := copied (g := fun k y i => laws_toIntS.l0 k l y i) l id 0 (fun j hj y r hy h => by
    refine shift ?_
    simp only [laws_toIntS.l0]
    refine pos (nat_lt hj) (pos (by omega) (pos (by omega) ?_))
    rw [rd_get _ _ hj, succ_wrap (by omega)]
    exact h) (fun y => by
    refine shift ?_
    simp only [laws_toIntS.l0]
    exact neg (nat_ge (Nat.le_refl _)) (now rfl))
  simpa using h

theorem impl_InRange_eq (a b c : Int) : impl_InRange.f a b c = some (decide (b ≤ a ∧ a ≤ c)) := by
  unfold impl_InRange.f
  by_cases h : b ≤ a
  · rw [if_pos h]
    simp [h]
  · rw [if_neg h]
    simp [h]

theorem impl_isCrossing_eq (a : Int) : impl_isCrossing.f a = some (decide (1 ≤ a ∧ a ≤ 8)) := by
  unfold impl_isCrossing.f
  rw [impl_InRange_eq, Option.bind_some]

theorem impl_AreStreets_ev (l : List S78) : Ev (fun k => impl_AreStreets.f k l) (areStreets l) := by
  unfold impl_AreStreets.f areStreets
  by_cases hr : l.length ≤ 16
  · rw [decide_eq_true hr]
    refine neg (by omega) (all_loop (g := fun k j => impl_AreStreets.l0 k l l (l.length : Int) (j : Int)) l.length (streetAt l) _ ?_ ?_ ?_)
    · intro j r hj ok h
      simp only [streetAt, Bool.and_eq_true] at ok
      have ok2 := (streetOf_iff l j (by omega) _ _).1 ok.2
      have ok1 := ok.1
      simp only [streetRng, decide_eq_true_eq] at ok1
      refine shift ?_
      simp only [impl_AreStreets.l0]
      refine pos (nat_lt hj) (pos (by omega) (pos (nat_lt hj) (bindc (impl_isCrossing_eq _) (pos (by simp; omega) (bindc (impl_isCrossing_eq _) (pos (by simp; omega) (neg (by omega) (bindc (impl_InRange_eq _ _ _) ?_))))))))
      rw [decide_eq_true (show 1 ≤ (rd_T78 l j).f2 ∧ (rd_T78 l j).f2 ≤ 300 by omega)]
      refine shift ?_
      simp only [impl_AreStreets.j1]
      refine neg (by simp) (pos (by omega) (pos (by omega) (bindc (impl_streetOf_eq _ _ _) (neg (by rw [Int.toNat_natCast]; omega) ?_))))
      rw [succ_wrap (by omega)]
      exact h
    · intro j hj ok
      have hs : ∀ a b c, Ev (fun k => impl_AreStreets.j1 k l (j : Int) l (l.length : Int) (j : Int) true a b c) false := fun a b c => by
        refine shift ?_
        simp only [impl_AreStreets.j1]
        exact pos trivial (now rfl)
      refine shift ?_
      simp only [impl_AreStreets.l0]
      refine pos (nat_lt hj) (pos (by omega) (pos (nat_lt hj) (bindc (impl_isCrossing_eq _) ?_)))
      by_cases h1 : 1 ≤ (rd_T78 l j).f0 ∧ (rd_T78 l j).f0 ≤ 8
      · refine pos (by simp [h1]) (bindc (impl_isCrossing_eq _) ?_)
        by_cases h2 : 1 ≤ (rd_T78 l j).f1 ∧ (rd_T78 l j).f1 ≤ 8
        · refine pos (by simp [h2]) ?_
          by_cases h3 : (rd_T78 l j).f0 = (rd_T78 l j).f1
          · exact pos h3 (hs _ _ _)
          · refine neg h3 (bindc (impl_InRange_eq _ _ _) ?_)
            by_cases h4 : 1 ≤ (rd_T78 l j).f2 ∧ (rd_T78 l j).f2 ≤ 300
            · rw [decide_eq_true h4]
              refine shift ?_
              simp only [impl_AreStreets.j1]
              have h5 : ¬ (List.range j).all (noSame l (rd_T78 l j).f0 (rd_T78 l j).f1) = true := by
                intro h5
                have : streetRng (rd_T78 l j) = true := by simp only [streetRng, decide_eq_true_eq]; omega
                simp [streetAt, this, h5] at ok
              rw [streetOf_iff l j (by omega)] at h5
              exact neg (by simp) (pos (by omega) (pos (by omega) (bindc (impl_streetOf_eq _ _ _) (pos (by rw [Int.toNat_natCast]; omega) (now rfl)))))
            · rw [decide_eq_false h4]
              exact hs _ _ _
        · exact neg (by simpa using h2) (hs _ _ _)
      · exact neg (by simpa using h1) (hs _ _ _)
    · refine shift ?_
      simp only [impl_AreStreets.l0]
      exact neg (nat_ge (Nat.le_refl _)) (now rfl)
  · rw [decide_eq_false hr, Bool.and_false]
    exact pos (by omega) (now rfl)

theorem impl_AreCars_ev (ss : List S78) (cs : List S52) : Ev (fun k => impl_AreCars.f k ss cs) (areCars ss cs) := by
  unfold impl_AreCars.f areCars
  refine Ev.bind (impl_AreStreets_ev ss) ?_
  by_cases h : areStreets ss = true
  · rw [h, Bool.true_and]
    refine pos rfl (shift ?_)
    simp only [impl_AreCars.j0]
    by_cases hl : cs.length ≤ 30
    · rw [decide_eq_true hl]
      refine neg (by simp; omega) (all_loop (g := fun k j => impl_AreCars.l0 k ss cs cs (cs.length : Int) (j : Int)) cs.length (carAt ss cs) _ ?_ ?_ ?_)
      · intro j r hj ok h
        rw [carAt_iff] at ok
        obtain ⟨o1, o2, o3, o4, o5, o6, o7, o8, o9⟩ := ok
        refine shift ?_
        simp only [impl_AreCars.l0]
        rw [succ_wrap (by omega)]
        refine pos (nat_lt hj) (pos (by omega) (pos (nat_lt hj) (bindc (impl_InRange_eq _ _ _) (pos (by simp; omega) ?_))))
        by_cases h0 : (j : Int) > 0
        · rw [w64 (by omega) (by omega)]
          exact pos h0 (pos (by omega) (pos (by omega) (neg (by have := o9 (by omega); omega) (neg (by omega) (neg (by omega) (pos o3 (pos o4 (bindc (impl_InRange_eq _ _ _) (pos (by simp; omega) (bindc (impl_InRange_eq _ _ _) (pos (by simp; omega) h)))))))))))
        · exact neg h0 (neg (by omega) (neg (by omega) (pos o3 (pos o4 (bindc (impl_InRange_eq _ _ _) (pos (by simp; omega) (bindc (impl_InRange_eq _ _ _) (pos (by simp; omega) h))))))))
      · intro j hj ok
        have ok : ¬ carAt ss cs j = true := by simp [ok]
        rw [carAt_iff] at ok
        refine shift ?_
        simp only [impl_AreCars.l0]
        rw [w64 (x := (j : Int) - 1) (by omega) (by omega)]
        refine pos (nat_lt hj) (pos (by omega) (pos (nat_lt hj) (bindc (impl_InRange_eq _ _ _) ?_)))
        by_cases h1 : 1 ≤ (rd_T52 cs j).f0 ∧ (rd_T52 cs j).f0 ≤ 999
        · refine pos (by simp [h1]) ?_
          by_cases h0 : (j : Int) > 0
          · refine pos h0 (pos (by omega) (pos (by omega) ?_))
            by_cases h5 : (rd_T52 cs j).f0 ≤ (rd_T52 cs ((j : Int) - 1)).f0
            · exact pos h5 (now rfl)
            refine neg h5 ?_
            by_cases h2 : (rd_T52 cs j).f1 < 0
            · exact pos h2 (now rfl)
            refine neg h2 ?_
            by_cases h2b : (rd_T52 cs j).f1 ≥ (ss.length : Int)
            · exact pos h2b (now rfl)
            refine neg h2b (pos (by omega) (pos (by omega) (bindc (impl_InRange_eq _ _ _) ?_)))
            by_cases h3 : 0 ≤ (rd_T52 cs j).f2 ∧ (rd_T52 cs j).f2 ≤ (rd_T78 ss (rd_T52 cs j).f1).f2
            · refine pos (by simpa using h3) (bindc (impl_InRange_eq _ _ _) ?_)
              exact neg (by simp; omega) (now rfl)
            · exact neg (by simpa using h3) (now rfl)
          · refine neg h0 ?_
            by_cases h2 : (rd_T52 cs j).f1 < 0
            · exact pos h2 (now rfl)
            refine neg h2 ?_
            by_cases h2b : (rd_T52 cs j).f1 ≥ (ss.length : Int)
            · exact pos h2b (now rfl)
            refine neg h2b (pos (by omega) (pos (by omega) (bindc (impl_InRange_eq _ _ _) ?_)))
            by_cases h3 : 0 ≤ (rd_T52 cs j).f2 ∧ (rd_T52 cs j).f2 ≤ (rd_T78 ss (rd_T52 cs j).f1).f2
            · refine pos (by simpa using h3) (bindc (impl_InRange_eq _ _ _) ?_)
              exact neg (by simp; omega) (now rfl)
            · exact neg (by simpa using h3) (now rfl)
        · exact neg (by simpa using h1) (now rfl)
      · refine shift ?_
        simp only [impl_AreCars.l0]
        exact neg (nat_ge (Nat.le_refl _)) (now rfl)
    · rw [decide_eq_false hl, Bool.and_false]
      exact pos (by simp; omega) (now rfl)
  · refine neg h (shift ?_)
    simp only [impl_AreCars.j0]
    exact pos trivial (now (by simp [h]))

theorem impl_Car_eq (l : List S52) (hl : l.length < 4398046511104) : impl_Car.f l = some l := by
  unfold impl_Car.f
  rw [Option.bind_some, if_pos (by simpa using hl)]
  rfl

theorem slices_Index_int_int_ev (l : List Int) (a : Int) (hl : l.length ≤ 9223372036854775806) : ∃ r, Ev (fun k => slices_Index_int_int.f k l a) r ∧ (r ≥ 0 ↔ a ∈ l) := by
  unfold slices_Index_int_int.f
  have : ∀ d j, j + d = l.length → ∃ r, Ev (fun k => slices_Index_int_int.l0 k l a (l.length : Int) (j : Int)) r ∧ (r ≥ 0 ↔ a ∈ l.drop j) := by
    intro d
    induction d with
    | zero =>
      intro j hj
      refine ⟨-1, shift ?_, by rw [List.drop_eq_nil_of_le (by omega)]; simp⟩
      simp only [slices_Index_int_int.l0]
      exact neg (by omega) (now rfl)
    | succ d ih =>
      intro j hj
      have hjl : j < l.length := by omega
      by_cases h : a = l[j]
      · refine ⟨(j : Int), shift ?_, ⟨fun _ => by rw [List.drop_eq_getElem_cons hjl, h]; exact List.mem_cons_self, fun _ => by omega⟩⟩
        simp only [slices_Index_int_int.l0]
        rw [rd_get l j hjl]
        exact pos (nat_lt hjl) (pos (by omega) (pos (nat_lt hjl) (pos h (now rfl))))
      · obtain ⟨r, h1, h2⟩ := ih (j + 1) (by omega)
        refine ⟨r, shift ?_, by rw [h2, List.drop_eq_getElem_cons hjl, List.mem_cons]; exact ⟨.inr, fun g => g.resolve_left h⟩⟩
        simp only [slices_Index_int_int.l0]
        rw [rd_get l j hjl, succ_wrap (by omega)]
        exact pos (nat_lt hjl) (pos (by omega) (pos (nat_lt hjl) (neg h h1)))
  simpa using this l.length 0 (by omega)

theorem slices_Contains_int_int_ev (l : List Int) (a : Int) (hl : l.length ≤ 9223372036854775806) : Ev (fun k => slices_Contains_int_int.f k l a) (decide (a ∈ l)) := by
  unfold slices_Contains_int_int.f
  obtain ⟨r, h1, h2⟩ := slices_Index_int_int_ev l a hl
  exact Ev.bind h1 (now (decide_eq_decide.2 h2))

theorem impl_mv (ss : List S78) (cs : List S52) (l2 : List Int) (hl2 : l2.length ≤ 1048576) (h : areCars ss cs = true) : ∀ d j, j + d = cs.length → ∀ (out : List S52) (n : Int) (fl : List Bool), out.length ≤ j → fl.length = ss.length → Ev (fun k => impl_MoveCars.l0 k l2 out n fl cs (cs.length : Int) (j : Int)) (mv l2 (cs.drop j) out n fl) := by
  obtain ⟨h30, hat⟩ := areCars_at h
  intro d
  induction d with
  | zero =>
    intro j hj out n fl ho hf
    refine shift ?_
    simp only [impl_MoveCars.l0]
    exact neg (by omega) (now (by rw [List.drop_eq_nil_of_le (by omega), mv]))
  | succ d ih =>
    intro j hj out n fl ho hf
    have hjl : j < cs.length := by omega
    obtain ⟨a1, a2⟩ := hat j hjl
    have hg : rd_T52 cs (j : Int) = cs[j] := by simp [rd_T52, hjl]
    refine shift ?_
    simp only [impl_MoveCars.l0]
    rw [List.drop_eq_getElem_cons hjl, hg, mv, succ_wrap (by omega)]
    refine pos (nat_lt hjl) (pos (by omega) (pos (nat_lt hjl) ?_))
    by_cases c2 : cs[j].f2 > 0
    · rw [if_pos c2]
      exact pos c2 (pos (by omega) (ih (j + 1) (by omega) _ _ _ (by simp; omega) hf))
    · rw [if_neg c2]
      refine neg c2 (pos a1 (pos (by omega) ?_))
      by_cases c3 : rdOf false fl cs[j].f1 = true
      · rw [if_pos c3]
        exact pos c3 (pos (by omega) (ih (j + 1) (by omega) _ _ _ (by simp; omega) hf))
      · rw [if_neg c3]
        refine neg c3 (bindc rfl (Ev.bind (slices_Contains_int_int_ev _ _ (by omega)) ?_))
        by_cases c4 : cs[j].f3 ∈ l2
        · rw [if_pos c4]
          exact pos (by simpa using c4) (ih (j + 1) (by omega) _ _ _ (by omega) (by simpa using hf))
        · rw [if_neg c4]
          exact neg (by simpa using c4) (pos (by omega) (ih (j + 1) (by omega) _ _ _ (by simp; omega) (by simpa using hf)))
theorem impl_MoveCars_ev (ss : List S78) (cs : List S52) (l2 : List Int) (hs : ss.length ≤ 1048576) (hc : cs.length ≤ 1048576) (hl2 : l2.length ≤ 1048576) : Ev (fun k => impl_MoveCars.f k ss cs l2) (moveCars ss cs l2) := by
  unfold impl_MoveCars.f moveCars
  refine Ev.bind (impl_AreCars_ev ss cs) ?_
  by_cases h : areCars ss cs = true
  · rw [if_pos h]
    refine pos h (pos (by omega) (pos (by omega) ?_))
    simpa using impl_mv ss cs l2 hl2 h cs.length 0 (by omega) [] 0 (List.replicate ss.length false) (by simp) (by simp)
  · rw [if_neg h]
    exact neg h (bindc (impl_Car_eq cs (by omega)) (now rfl))

theorem laws_eqCarS_refl (l : List S52) (hl : l.length < 9223372036854775807) : Ev (fun k => laws_eqCarS.f k l l) true := by
  unfold laws_eqCarS.f
  refine pos rfl (loop (g := fun k j => laws_eqCarS.l0 k l l (j : Int)) l.length ?_ ?_)
  · intro j hj h
    refine shift ?_
    simp only [laws_eqCarS.l0]
    refine pos (nat_lt hj) (pos (by omega) (pos (nat_lt hj) (bindc (a := true) (by simp [laws_eqCar.f]) (pos (by simp) ?_))))
    rw [succ_wrap (by omega)]
    exact h
  · refine shift ?_
    simp only [laws_eqCarS.l0]
    exact neg (nat_ge (Nat.le_refl _)) (now rfl)

theorem laws_eqStreetS_refl (l : List S78) (hl : l.length < 9223372036854775807) : Ev (fun k => laws_eqStreetS.f k l l) true := by
  unfold laws_eqStreetS.f
  refine pos rfl (loop (g := fun k j => laws_eqStreetS.l0 k l l (j : Int)) l.length ?_ ?_)
  · intro j hj h
    refine shift ?_
    simp only [laws_eqStreetS.l0]
    refine pos (nat_lt hj) (pos (by omega) (pos (nat_lt hj) (bindc (a := true) (by simp [laws_eqStreet.f]) (pos (by simp) ?_))))
    rw [succ_wrap (by omega)]
    exact h
  · refine shift ?_
    simp only [laws_eqStreetS.l0]
    exact neg (nat_ge (Nat.le_refl _)) (now rfl)

theorem laws_eqIntS_refl (l : List Int) (hl : l.length < 9223372036854775807) : Ev (fun k => laws_eqIntS.f k l l) true := by
  unfold laws_eqIntS.f
  refine pos rfl (loop (g := fun k j => laws_eqIntS.l0 k l l (j : Int)) l.length ?_ ?_)
  · intro j hj h
    refine shift ?_
    simp only [laws_eqIntS.l0]
    refine pos (nat_lt hj) (pos (by omega) (pos (nat_lt hj) (pos (by simp) ?_)))
    rw [succ_wrap (by omega)]
    exact h
  · refine shift ?_
    simp only [laws_eqIntS.l0]
    exact neg (nat_ge (Nat.le_refl _)) (now rfl)

theorem setC {α : Type} (A B : List α) (x v : α) (j : Nat) (hj : A.length = j) : (A ++ x :: B).set j v = A ++ v :: B := by
  rw [List.set_append_right _ _ (by omega), hj, Nat.sub_self, List.set_cons_zero]
theorem getC {α : Type} (A B : List α) (x d : α) (j : Nat) (hj : A.length = j) : (A ++ x :: B).getD j d = x := by
  rw [List.getD_eq_getElem?_getD, List.getElem?_append_right (by omega), hj, Nat.sub_self]
  rfl

def markSt (a : Int) : S78 := ⟨a, a + 1, a + 2⟩
def marksSt (a : Int) (n : Nat) : List S78 := (List.range n).map fun (i : Nat) => markSt (a + 3 * (i : Int))
theorem marksSt_length (a : Int) (n : Nat) : (marksSt a n).length = n := by simp [marksSt]
theorem marksSt_succ (a : Int) (n : Nat) : marksSt a (n + 1) = marksSt a n ++ [markSt (a + 3 * (n : Int))] := by simp [marksSt, List.range_succ]
theorem laws_markStreetS_ev (l : List S78) (a : Int) (ha : 0 ≤ a) (ha2 : a ≤ 1000000000000) (hl : l.length ≤ 1000000000000) : Ev (fun k => laws_markStreetS.f k l a) (a + 3 * l.length, marksSt a l.length) := by
  unfold laws_markStreetS.f
  refine loop (g := fun k j => laws_markStreetS.l0 k (marksSt a j ++ l.drop j) (a + 3 * (j : Int)) (j : Int)) l.length ?_ ?_ |> (fun h => by simpa [show marksSt a 0 = [] from rfl] using h)
  · intro j hj h
    refine shift ?_
    have e1 : wrap64 (a + 3 * (j : Int) + 1) = a + 3 * (j : Int) + 1 := w64 (by omega) (by omega)
    have e2 : wrap64 (a + 3 * (j : Int) + 1 + 1) = a + 3 * (j : Int) + 2 := by rw [w64 (by omega) (by omega)]; omega
    have e4 : wrap64 (a + 3 * (j : Int) + 2 + 1) = a + 3 * ((j + 1 : Nat) : Int) := by rw [w64 (by omega) (by omega)]; omega
    simp only [laws_markStreetS.l0, Option.bind_some]
    rw [List.drop_eq_getElem_cons hj]
    simp only [rd_T78, Int.toNat_natCast, setC _ _ _ _ _ (marksSt_length a j), getC _ _ _ _ _ (marksSt_length a j), e1, e2, e4]
    refine pos (by simp [marksSt_length]; omega) (pos (by omega) ?_)
    rw [succ_wrap (by omega)]
    rw [marksSt_succ, List.append_assoc] at h
    exact h
  · refine shift ?_
    simp only [laws_markStreetS.l0]
    exact neg (by simp [marksSt_length]) (now (by simp))

def markC (a : Int) : S52 := ⟨a, a + 1, a + 2, a + 3⟩
def marksC (a : Int) (n : Nat) : List S52 := (List.range n).map fun (i : Nat) => markC (a + 4 * (i : Int))
theorem marksC_length (a : Int) (n : Nat) : (marksC a n).length = n := by simp [marksC]
theorem marksC_succ (a : Int) (n : Nat) : marksC a (n + 1) = marksC a n ++ [markC (a + 4 * (n : Int))] := by simp [marksC, List.range_succ]
theorem laws_markCarS_ev (l : List S52) (a : Int) (ha : 0 ≤ a) (ha2 : a ≤ 1000000000000) (hl : l.length ≤ 1000000000000) : Ev (fun k => laws_markCarS.f k l a) (a + 4 * l.length, marksC a l.length) := by
  unfold laws_markCarS.f
  refine loop (g := fun k j => laws_markCarS.l0 k (marksC a j ++ l.drop j) (a + 4 * (j : Int)) (j : Int)) l.length ?_ ?_ |> (fun h => by simpa [show marksC a 0 = [] from rfl] using h)
  · intro j hj h
    refine shift ?_
    have e1 : wrap64 (a + 4 * (j : Int) + 1) = a + 4 * (j : Int) + 1 := w64 (by omega) (by omega)
    have e2 : wrap64 (a + 4 * (j : Int) + 1 + 1) = a + 4 * (j : Int) + 2 := by rw [w64 (by omega) (by omega)]; omega
    have e3 : wrap64 (a + 4 * (j : Int) + 2 + 1) = a + 4 * (j : Int) + 3 := by rw [w64 (by omega) (by omega)]; omega
    have e4 : wrap64 (a + 4 * (j : Int) + 3 + 1) = a + 4 * ((j + 1 : Nat) : Int) := by rw [w64 (by omega) (by omega)]; omega
    simp only [laws_markCarS.l0, Option.bind_some]
    rw [List.drop_eq_getElem_cons hj]
    simp only [rd_T52, Int.toNat_natCast, setC _ _ _ _ _ (marksC_length a j), getC _ _ _ _ _ (marksC_length a j), e1, e2, e3, e4]
    refine pos (by simp [marksC_length]; omega) (pos (by omega) ?_)
    rw [succ_wrap (by omega)]
    rw [marksC_succ, List.append_assoc] at h
    exact h
  · refine shift ?_
    simp only [laws_markCarS.l0]
    exact neg (by simp [marksC_length]) (now (by simp))

theorem laws_markIntS_ev (l : List Int) (a : Int) (ha : 0 ≤ a) (ha2 : a ≤ 1000000000000) (hl : l.length ≤ 1000000000000) : Ev (fun k => laws_markIntS.f k l a) (a + l.length, iota a l.length) := by
  unfold laws_markIntS.f
  refine loop (g := fun k j => laws_markIntS.l0 k (iota a j ++ l.drop j) (a + (j : Int)) (j : Int)) l.length ?_ ?_ |> (fun h => by simpa [show iota a 0 = [] from rfl] using h)
  · intro j hj h
    refine shift ?_
    simp only [laws_markIntS.l0]
    refine pos (by simp [iota_length]; omega) (pos (by omega) ?_)
    rw [succ_wrap (by omega), w64 (by omega) (by omega), Int.toNat_natCast, iota_set a l j hj]
    have e : a + (j : Int) + 1 = a + ((j + 1 : Nat) : Int) := by omega
    rw [e]
    exact h
  · refine shift ?_
    simp only [laws_markIntS.l0]
    exact neg (by simp [iota_length]) (now (by simp))

theorem marksC_get (a : Int) (n j : Nat) (h : j < n) : rd_T52 (marksC a n) (j : Int) = markC (a + 4 * (j : Int)) := by simp [rd_T52, marksC, h]
theorem laws_heldCarS_ev (a : Int) (n : Nat) (ha : 0 ≤ a) (ha2 : a ≤ 1000000000000) (hn : n ≤ 1000000000000) : Ev (fun k => laws_heldCarS.f k (marksC a n) a) (a + 4 * n) := by
  unfold laws_heldCarS.f
  refine loop (g := fun k j => laws_heldCarS.l0 k (marksC a n) (a + 4 * (j : Int)) (j : Int)) n ?_ ?_ |> (fun h => by simpa using h)
  · intro j hj h
    refine shift ?_
    have e1 : wrap64 (a + 4 * (j : Int) + 1) = a + 4 * (j : Int) + 1 := w64 (by omega) (by omega)
    have e2 : wrap64 (a + 4 * (j : Int) + 1 + 1) = a + 4 * (j : Int) + 2 := by rw [w64 (by omega) (by omega)]; omega
    have e3 : wrap64 (a + 4 * (j : Int) + 2 + 1) = a + 4 * (j : Int) + 3 := by rw [w64 (by omega) (by omega)]; omega
    have e4 : wrap64 (a + 4 * (j : Int) + 3 + 1) = a + 4 * ((j + 1 : Nat) : Int) := by rw [w64 (by omega) (by omega)]; omega
    simp only [laws_heldCarS.l0, marksC_get a n j hj, e1, e2, e3, e4, markC]
    refine pos (by rw [marksC_length]; omega) (pos (by omega) (pos trivial (pos trivial (pos trivial (pos trivial ?_)))))
    rw [succ_wrap (by omega)]
    exact h
  · refine shift ?_
    simp only [laws_heldCarS.l0]
    exact neg (by rw [marksC_length]; omega) (now rfl)

def runCars (ss : List S78) (l2 : List Int) : Nat → List S52 → Int → List S52 × Int
  | 0, cs, n => (cs, n)
  | d + 1, cs, n => runCars ss l2 d (moveCars ss cs l2).1 (wrap64 (n + (moveCars ss cs l2).2))
theorem runCars_length (ss : List S78) (l2 : List Int) : ∀ (d : Nat) (cs : List S52) (n : Int), (runCars ss l2 d cs n).1.length ≤ cs.length
  | 0, _, _ => Nat.le_refl _
  | d + 1, cs, n => Nat.le_trans (runCars_length ss l2 d _ _) (moveCars_length ss cs l2)
/-- All minutes, where their number is one from 0 to 1000; none else. -/
def ranCars (ss : List S78) (cs : List S52) (l2 : List Int) (t : Int) : List S52 × Int := if 0 ≤ t ∧ t ≤ 1000 then runCars ss l2 t.toNat cs 0 else (cs, 0)
theorem ranCars_length (ss : List S78) (cs : List S52) (l2 : List Int) (t : Int) : (ranCars ss cs l2 t).1.length ≤ cs.length := by
  unfold ranCars
  split
  · exact runCars_length ss l2 _ cs 0
  · exact Nat.le_refl _
theorem spec_RunCars_ev (ss : List S78) (cs : List S52) (l2 : List Int) (t : Int) (hs : ss.length ≤ 1048576) (hc : cs.length ≤ 1048576) (hl2 : l2.length ≤ 1048576) : Ev (fun k => spec_RunCars.f k ss cs l2 t) (ranCars ss cs l2 t) := by
  unfold spec_RunCars.f ranCars
  refine bindc rfl (pos (by simp; omega) ?_)
  rw [List.nil_append]
  by_cases h : 0 ≤ t ∧ t ≤ 1000
  · rw [if_pos h]
    obtain ⟨N, rfl⟩ := Int.eq_ofNat_of_zero_le h.1
    have : ∀ d j, j + d = N → ∀ (cs : List S52) (n : Int), cs.length ≤ 1048576 → Ev (fun k => spec_RunCars.l0 k ss l2 (N : Int) cs n (j : Int)) (runCars ss l2 d cs n) := by
      intro d
      induction d with
      | zero =>
        intro j hj cs n hc
        refine shift ?_
        simp only [spec_RunCars.l0]
        exact neg (by omega) (now rfl)
      | succ d ih =>
        intro j hj cs n hc
        refine shift ?_
        simp only [spec_RunCars.l0]
        refine pos (by omega) (pos (by omega) (Ev.bind (spec_MoveCars_ev ss cs l2 hs hc hl2) ?_))
        rw [succ_wrap (by omega)]
        exact ih (j + 1) (by omega) _ _ (Nat.le_trans (moveCars_length ss cs l2) hc)
    rw [Int.toNat_natCast]
    simpa using this N 0 (by omega) cs 0 hc
  · rw [if_neg h]
    refine shift ?_
    simp only [spec_RunCars.l0]
    by_cases h2 : 0 < t
    · exact pos h2 (neg (by omega) (now rfl))
    · by_cases h3 : t = 0
      · omega
      · exact neg h2 (now rfl)

theorem impl_RunCars_ev (ss : List S78) (cs : List S52) (l2 : List Int) (t : Int) (hs : ss.length ≤ 1048576) (hc : cs.length ≤ 1048576) (hl2 : l2.length ≤ 1048576) : Ev (fun k => impl_RunCars.f k ss cs l2 t) (ranCars ss cs l2 t) := by
  unfold impl_RunCars.f ranCars
  refine bindc (impl_Car_eq cs (by omega)) (bindc (impl_InRange_eq _ _ _) ?_)
  by_cases h : 0 ≤ t ∧ t ≤ 1000
  · rw [if_pos h]
    refine pos (by simpa using h) ?_
    obtain ⟨N, rfl⟩ := Int.eq_ofNat_of_zero_le h.1
    have : ∀ d j, j + d = N → ∀ (cs : List S52) (n : Int), cs.length ≤ 1048576 → Ev (fun k => impl_RunCars.l0 k ss l2 cs n (N : Int) (j : Int)) (runCars ss l2 d cs n) := by
      intro d
      induction d with
      | zero =>
        intro j hj cs n hc
        refine shift ?_
        simp only [impl_RunCars.l0]
        exact neg (by omega) (now rfl)
      | succ d ih =>
        intro j hj cs n hc
        refine shift ?_
        simp only [impl_RunCars.l0]
        refine pos (by omega) (Ev.bind (impl_MoveCars_ev ss cs l2 hs hc hl2) ?_)
        rw [succ_wrap (by omega)]
        exact ih (j + 1) (by omega) _ _ (Nat.le_trans (moveCars_length ss cs l2) hc)
    rw [Int.toNat_natCast]
    simpa using this N 0 (by omega) cs 0 hc
  · rw [if_neg h]
    exact neg (by simpa using h) (now rfl)

theorem FnExactRunCars (p : List S80) (hp : wfS 24 wf80 p) (l : List S82) (hw : wfS 32 wf82 l) (l2 : List Int) (hw2 : wfS 8 I64 l2) (t : Int) (ht : I64 t) : ∃ k, laws_FnExactRunCars.f k p l l2 t = some true := by
  refine Ev.rounds ?_
  have hm := hw.2.1
  have hm0 := hp.2.1
  have hm2 := hw2.2.1
  unfold laws_FnExactRunCars.f
  by_cases h2 : (l2.length : Int) > 1048576
  · exact pos h2 (now rfl)
  obtain ⟨q, hq, hq2, hpl⟩ := laws_szStreetS_eq p 1048576 (by omega) (by omega) (by omega)
  refine neg h2 (bindc hq ?_)
  by_cases h0 : q < 0
  · exact pos h0 (now rfl)
  have hpl := hpl h0
  obtain ⟨r, hr, _, hl⟩ := laws_szCarS_eq l q (by omega) (by omega) (by omega)
  refine neg h0 (bindc hr ?_)
  by_cases h : r < 0
  · exact pos h (now rfl)
  have hl := hl h
  have hpc : (p.map cStreet).length ≤ 1048576 := by simpa using hpl
  have hc : (l.map cCar).length ≤ 1048576 := by simpa using hl
  have tp := laws_toStreetS_ev p hpl
  have tl := laws_toCarS_ev l hl
  have t2 := laws_toIntS_ev l2 (by omega)
  have sp := spec_RunCars_ev (p.map cStreet) (l.map cCar) l2 t hpc hc (by omega)
  have im := impl_RunCars_ev (p.map cStreet) (l.map cCar) l2 t hpc hc (by omega)
  have hlen := ranCars_length (p.map cStreet) (l.map cCar) l2 t
  generalize ranCars (p.map cStreet) (l.map cCar) l2 t = R at *
  have m1 := laws_markStreetS_ev (p.map cStreet) 1 (by omega) (by omega) (by omega)
  have m2 := laws_markCarS_ev (l.map cCar) (1 + 3 * (p.map cStreet).length) (by omega) (by omega) (by omega)
  have m3 := laws_markIntS_ev l2 (1 + 3 * (p.map cStreet).length + 4 * (l.map cCar).length) (by omega) (by omega) (by omega)
  have m4 := laws_markCarS_ev R.1 1 (by omega) (by omega) (by omega)
  have e4 := laws_heldCarS_ev 1 R.1.length (by omega) (by omega) (by omega)
  refine neg h (Ev.bind tp (Ev.bind tl (Ev.bind t2 (Ev.bind sp (Ev.bind tp (Ev.bind tl (Ev.bind t2 (Ev.bind im (Ev.bind (laws_eqCarS_refl _ (by omega)) (pos rfl ?_))))))))))
  refine shift ?_
  simp only [laws_FnExactRunCars.j0]
  refine neg (by simp) (Ev.bind tp (Ev.bind (laws_eqStreetS_refl _ (by omega)) (pos rfl (Ev.bind tl (Ev.bind (laws_eqCarS_refl _ (by omega)) (pos rfl (Ev.bind t2 (Ev.bind (laws_eqIntS_refl _ (by omega)) (pos rfl (Ev.bind m1 (Ev.bind m2 (Ev.bind m3 (neg (by simp; omega) (Ev.bind (laws_eqCarS_refl _ (by omega)) (pos rfl ?_)))))))))))))))
  refine shift ?_
  simp only [laws_FnExactRunCars.j1]
  refine neg (by simp) (Ev.bind m4 (Ev.bind e4 (neg (by omega) (pos rfl (Ev.bind tp (Ev.bind tl (Ev.bind t2 (Ev.bind im (Ev.bind (laws_eqCarS_refl _ (by omega)) (pos rfl ?_))))))))))
  refine shift ?_
  simp only [laws_FnExactRunCars.j2]
  exact neg (by simp) (Ev.bind e4 (neg (by omega) (pos rfl (now rfl))))

end Go.Proofs.Ytmpncnphndafnac.PureFnExactRunCars
end

section
namespace Go.Proofs.Ytmpncnphndafnac.fnExactRunCars
open Go.ChangeShapes Go.WideShapes Go.ChangeAt Go.RowKit
open Go.Proofs.YtmpncnphndafnacW.PrintWords Go.Proofs.Ytmpncnphndafnac.PCars Go.Proofs.Ytmpncnphndafnac.Opens Go.Proofs.Ytmpncnphndafnac.Aid Go.Proofs.Ytmpncnphndafnac.PureFnExactRunCars
set_option linter.unusedVariables false
theorem own : ownKnob Try.prog.godebug = none := by kernel_rfl
theorem laidOut : laidOutB Try.prog = true := by kernel_rfl
theorem o80 : Opens Try.prog 80 k80 wf80 := opens_struct (fun x : S80 => (x.f0, x.f1, x.f2)) (fun p => (⟨p.1, p.2.1, p.2.2⟩ : S80)) (fun _ => rfl) Try.underlying80 (by kernel_rfl) (opensF_cons rfl (opens_int Try.underlying3 (by kernel_rfl)) (opensF_cons rfl (opens_int Try.underlying3 (by kernel_rfl)) (opensF_last rfl (opens_int Try.underlying3 (by kernel_rfl)))))
theorem o82 : Opens Try.prog 82 k82 wf82 := opens_struct (fun x : S82 => (x.f0, x.f1, x.f2, x.f3)) (fun p => (⟨p.1, p.2.1, p.2.2.1, p.2.2.2⟩ : S82)) (fun _ => rfl) Try.underlying82 (by kernel_rfl) (opensF_cons rfl (opens_int Try.underlying3 (by kernel_rfl)) (opensF_cons rfl (opens_int Try.underlying3 (by kernel_rfl)) (opensF_cons rfl (opens_int Try.underlying3 (by kernel_rfl)) (opensF_last rfl (opens_int Try.underlying3 (by kernel_rfl))))))
theorem arg0 : Opens Try.prog 22 (Kd.slice 80 k80) (wfS 24 wf80) := (opens_slice Try.underlying22 (by kernel_rfl) (B := 24) (by kernel_rfl) o80)
theorem arg1 : Opens Try.prog 23 (Kd.slice 82 k82) (wfS 32 wf82) := (opens_slice Try.underlying23 (by kernel_rfl) (B := 32) (by kernel_rfl) o82)
theorem arg2 : Opens Try.prog 24 (Kd.slice 3 (Kd.int .i64)) (wfS 8 I64) := (opens_slice Try.underlying24 (by kernel_rfl) (B := 8) (by kernel_rfl) (opens_int Try.underlying3 (by kernel_rfl)))
set_option maxRecDepth 100000 in
theorem lifted (os : Os) (started : os.Started) (H : Type) (enc : TypeId × Value → H) :
    ReturnsInHanded {} Try.checked os 4 .any (Rows.fnExactRunCarsSpec.pre6 enc Try.prog Try.f4 Rows.fnExactRunCarsRow.domain false) (Rows.fnExactRunCarsSpec.post enc Try.prog Try.f4 false true false false) := by
  refine returnsInHanded_of_change_sized (C := Try.checked) own started (by kernel_rfl) Try.func4
    (ChangeSpec.witness6 (enc := enc) (C := Try.checked) false ⟨#[], #[.slice none 0 0, .slice none 0 0, .slice none 0 0, .int .i64 0], []⟩ 8 (by kernel_rfl) (by kernel_rfl) (by kernel_rfl) (by kernel_rfl)) ?_
  intro W base args ds gs before hval0 hW hcnd hsz0 _
  have hsz : (DataW.weightsEach Try.prog (Try.f4.params.toList ++ Rows.fnExactRunCarsSpec.plain.varTypes Try.prog) (ds ++ gs)).all (· ≤ reachBytes) = true := hsz0
  have hval : ∀ (j : Nat) t v, Try.f4.params[j]? = some t → args[j]? = some v → Value.okWide Try.prog W .any base t v := hval0
  have hW' := hW
  obtain ⟨p, q, hA0, hV, rfl, hfz, hnd⟩ := hW
  have hA : DataW.TrodAll enc Try.prog W 0 (fun _ => true) true Try.f4.params.toList args.toList ds p := hA0
  rw [Try.params4] at hA hval hsz
  obtain ⟨v0, vs0, d0, ds0, p0, q0, hargs, rfl, rfl, h0, r0⟩ := trodAll_cons hA
  obtain ⟨v1, vs1, d1, ds1, p1, q1, rfl, rfl, rfl, h1, r1⟩ := trodAll_cons r0
  obtain ⟨v2, vs2, d2, ds2, p2, q2, rfl, rfl, rfl, h2, r2⟩ := trodAll_cons r1
  obtain ⟨v3, vs3, d3, ds3, p3, q3, rfl, rfl, rfl, h3, r3⟩ := trodAll_cons r2
  obtain ⟨rfl, rfl, rfl⟩ := trodAll_nil r3
  obtain rfl : args = #[v0, v1, v2, v3] := by cases args; simp_all
  obtain ⟨rfl, rfl⟩ := trodVars_none hV
  have k0 := h0
  have lt0 : ∀ x ∈ p0, x.block < W.heap.size := by obtain ⟨m, hm⟩ := k0; exact DataW.trod_lt m _ _ _ hm
  obtain ⟨x0, hK0, hW0⟩ := opens_arg arg0 hsz (j := 0) rfl rfl h0
  obtain ⟨A0, c0, rfl, hc0, hC0⟩ := opens_row Try.underlying22 (hval 0 22 v0 rfl rfl) hK0
  have k1 := h1
  have lt1 : ∀ x ∈ p1, x.block < W.heap.size := by obtain ⟨m, hm⟩ := k1; exact DataW.trod_lt m _ _ _ hm
  obtain ⟨x1, hK1, hW1⟩ := opens_arg arg1 hsz (j := 1) rfl rfl h1
  obtain ⟨A1, c1, rfl, hc1, hC1⟩ := opens_row Try.underlying23 (hval 1 23 v1 rfl rfl) hK1
  have k2 := h2
  have lt2 : ∀ x ∈ p2, x.block < W.heap.size := by obtain ⟨m, hm⟩ := k2; exact DataW.trod_lt m _ _ _ hm
  obtain ⟨x2, hK2, hW2⟩ := opens_arg arg2 hsz (j := 2) rfl rfl h2
  obtain ⟨A2, c2, rfl, hc2, hC2⟩ := opens_row Try.underlying24 (hval 2 24 v2 rfl rfl) hK2
  obtain ⟨a3, rfl, rfl, rfl, w3⟩ := open_int Try.underlying3 (hval 3 3 v3 rfl rfl) h3
  clear hA0 hval0 hsz0 hsz
  obtain ⟨k, hk⟩ := Go.Proofs.Ytmpncnphndafnac.PureFnExactRunCars.FnExactRunCars x0 hW0 x1 hW1 x2 hW2 a3 (i64_of w3)
  refine (laws_FnExactRunCars.calls k _ _ x0 _ _ x1 _ _ x2 a3 true W hC0 hc0 hC1 hc1 hC2 hc2 hk).mono fun e W' ⟨he, bel0⟩ => ?_
  have bel : Below W.heap.size W W' := by first | exact bel0 | exact bel0.below
  subst he
  exact ⟨_, rfl, _, _, _, [], _, [], hW', trodAll_mk1 (shut_bool Try.underlying4 _), (trodAll_cons_mk (Below.trod laidOut (by kernel_rfl) (of_decide_eq_true (by kernel_rfl)) k0 bel lt0) (trodAll_cons_mk (Below.trod laidOut (by kernel_rfl) (of_decide_eq_true (by kernel_rfl)) k1 bel lt1) (trodAll_cons_mk (Below.trod laidOut (by kernel_rfl) (of_decide_eq_true (by kernel_rfl)) k2 bel lt2) (trodAll_cons_mk (shut_int Try.underlying3 w3) trodAll_mk0)))), rfl, bel.frame _, fun h => by cases h⟩
theorem over : Rows.fnExactRunCarsRow.holds Try.pinned (OpenSpec.ofChange Rows.fnExactRunCarsSpec) :=
  OpenClaim.holds_of_wide 4 Try.f4 rfl rfl rfl rfl rfl rfl rfl ⟨rfl, rfl, rfl, rfl, rfl⟩ rfl rfl rfl rfl rfl (by kernel_rfl) Try.func4 (by kernel_rfl)
    (of_decide_eq_true (by kernel_rfl)) (by unfold Func.isWrapper; first | (rw [if_pos (by decide +kernel)]; kernel_rfl) | (rw [if_neg (by decide +kernel)]; exact ⟨rfl, rfl⟩))
    (fun os started H enc _ => lifted os started H enc)
theorem proved : Rows.FnExactRunCarsSaid := over
#print axioms proved
end Go.Proofs.Ytmpncnphndafnac.fnExactRunCars
namespace Go.Proofs.Ytmpncnphndafnac
/-- The row, under a short name, for the claim. -/
theorem fnExactRunCars_holds : Rows.FnExactRunCarsSaid := fnExactRunCars.proved
end Go.Proofs.Ytmpncnphndafnac
end
