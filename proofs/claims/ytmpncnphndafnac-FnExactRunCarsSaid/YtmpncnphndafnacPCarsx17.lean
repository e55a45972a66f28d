-- Written by a program of this session (wip/myprint.py) for this claim.
import Derived.Test.YtmpncnphndafnacPCarsx0
namespace Go.Proofs.Ytmpncnphndafnac.PCars
open Go.RowKit Go.Proofs.YtmpncnphndafnacW.PrintWords Go.Proofs.YtmpncnphndafnacW.PrintLast Go.Proofs.YtmpncnphndafnacW.PrintMore
attribute [local go_sem] max2_int min2_int max_two min_two max_three min_three max_four min_four   -- for this text's walks alone
set_option linter.unusedVariables false
set_option linter.unusedSimpArgs false

/-! ### impl_streetOf: function 87 -/
-- the closure, slices.IndexFunc over it, and the function itself
def impl_streetOf.from_ (a1 : Int) (a2 : Int) : List (S78) → Int → Int
  | [], _ => -1
  | x :: r, i => if ((x.f0 == a1) && (x.f1 == a2)) = true then i else impl_streetOf.from_ a1 a2 r (i + 1)
def impl_streetOf.f (l0 : List (S78)) (a1 : Int) (a2 : Int) : Option (Int) := some (impl_streetOf.from_ a1 a2 l0 0)
theorem impl_streetOf.asks (x : S78) (g1 : Nat) (g2 : Nat) (a1 : Int) (a2 : Int) (w : World) (hg_g1 : g1 < w.heap.size) (hc_g1 : w.cell? ⟨g1, 0, none⟩ = some (.int .i64 a1)) (hg_g2 : g2 < w.heap.size) (hc_g2 : w.cell? ⟨g2, 0, none⟩ = some (.int .i64 a2)) :
    Calls Try.prog 103 #[.agg #[.int .i64 x.f0, .int .i64 x.f1, .int .i64 x.f2], .pointer (some ⟨g1, 0, none⟩), .pointer (some ⟨g2, 0, none⟩)] w fun e w' => e = .returned (.bool (((x.f0 == a1) && (x.f1 == a2)))) ∧ Below w.heap.size w w' := by
  have hu_ := Try.underlying78
  have hn_g1 : g1 ≠ w.heap.size := by omega
  have hn_g2 : g2 ≠ w.heap.size := by omega
  cases hq0 : (x.f0 == a1) with
  | true =>
    cases hq1 : (x.f1 == a2) with
    | true =>
      go_enter Try.func103, Try.ntmps103
      go_wp2
      go_ret
      exact ⟨by simp_all, (Below.refl _ _).alloc (Nat.le_refl _) _⟩
    | false =>
      go_enter Try.func103, Try.ntmps103
      go_wp2
      go_ret
      exact ⟨by simp_all, (Below.refl _ _).alloc (Nat.le_refl _) _⟩
  | false =>
    cases hq1 : (x.f1 == a2) with
    | true =>
      go_enter Try.func103, Try.ntmps103
      go_wp2
      go_ret
      exact ⟨by simp_all, (Below.refl _ _).alloc (Nat.le_refl _) _⟩
    | false =>
      go_enter Try.func103, Try.ntmps103
      go_wp2
      go_ret
      exact ⟨by simp_all, (Below.refl _ _).alloc (Nat.le_refl _) _⟩
theorem impl_streetOf.finds (A0 : Option Addr) (c0 : Nat) (l0 : List (S78)) (a1 : Int) (a2 : Int) (g1 : Nat) (g2 : Nat) (w : World) (hr0 : Kd.C k78 w A0 l0.length l0) (hc0 : l0.length ≤ c0) (hg_g1 : g1 < w.heap.size) (hc_g1 : w.cell? ⟨g1, 0, none⟩ = some (.int .i64 a1)) (hg_g2 : g2 < w.heap.size) (hc_g2 : w.cell? ⟨g2, 0, none⟩ = some (.int .i64 a2)) :
    Calls Try.prog 102 #[.slice A0 l0.length c0, .func (.func 103) #[] #[.pointer (some ⟨g1, 0, none⟩), .pointer (some ⟨g2, 0, none⟩)]] w fun e w' => e = .returned (.int .i64 (impl_streetOf.from_ a1 a2 l0 0)) ∧ Below w.heap.size w w' := by
  have hbig : l0.length ≤ 9223372036854775807 := hr0.2.1
  have HR := Aside0.mk hr0
  have HC_g1 := Aside0.mk hc_g1
  have HC_g2 := Aside0.mk hc_g2
  clear hr0 hc_g1 hc_g2
  go_enter Try.func102, Try.ntmps102
  go_wp2
  go_loopw [8] (fun i wr => ∃ j : Nat, j ≤ l0.length ∧ i = .int .i64 j ∧ Aside0 (Below w.heap.size w wr) ∧ Aside0 (impl_streetOf.from_ a1 a2 l0 0 = impl_streetOf.from_ a1 a2 (l0.drop j) j)) (fun i _ => l0.length - (intOf i).toNat)
  case atStart => exact ⟨0, Nat.zero_le _, rfl, ⟨Below.refl _ _⟩, ⟨rfl⟩⟩
  case round =>
    obtain ⟨j, hj, rfl, HB, HF⟩ := hrel
    by_cases hlt : j < l0.length
    · obtain ⟨ad, eA, h0_, h1_, h2_⟩ := at_T78 HR.out (j : Int) (by omega) (by omega)
      cases eA
      have hb := HB.out
      replace h0_ := (hb.cell (World.block_lt_of_cell? w _ h0_)).trans h0_
      replace h1_ := (hb.cell (World.block_lt_of_cell? w _ h1_)).trans h1_
      replace h2_ := (hb.cell (World.block_lt_of_cell? w _ h2_)).trans h2_
      clear hb
      simp only [Int.toNat_natCast] at h0_ h1_ h2_
      have HE : Aside0 (rd_T78 l0 (j : Int) = l0[j]) := ⟨by simp [rd_T78, hlt]⟩
      generalize rd_T78 l0 (j : Int) = x at h0_ h1_ h2_ HE
      have HG_g1 : Aside0 (g1 < wr.heap.size) := ⟨Nat.lt_of_lt_of_le hg_g1 (below_size HB.out)⟩
      have HG_g2 : Aside0 (g2 < wr.heap.size) := ⟨Nat.lt_of_lt_of_le hg_g2 (below_size HB.out)⟩
      have HD_g1 : Aside0 (wr.cell? ⟨g1, 0, none⟩ = some (.int .i64 a1)) := ⟨(HB.out.cell (p := ⟨g1, 0, none⟩) hg_g1).trans HC_g1.out⟩
      have HD_g2 : Aside0 (wr.cell? ⟨g2, 0, none⟩ = some (.int .i64 a2)) := ⟨(HB.out.cell (p := ⟨g2, 0, none⟩) hg_g2).trans HC_g2.out⟩
      cases hq : (((x.f0 == a1) && (x.f1 == a2))) with
      | true =>
        have HP := Aside0.mk hq
        go_wp2_with (go_at_call 103; refine (impl_streetOf.asks x g1 g2 a1 a2 wr HG_g1.out HD_g1.out HG_g2.out HD_g2.out).mono ?_; rintro e w' ⟨rfl, hb'⟩; have HB' := Aside0.mk hb'; clear hb')
        go_ret
        refine ⟨?_, HB.out.trans (HB'.out.mono (below_size HB.out))⟩
        rw [HF.out, List.drop_eq_getElem_cons hlt, impl_streetOf.from_, if_pos (by rw [← HE.out]; exact HP.out)]
        rfl
      | false =>
        have HP := Aside0.mk hq
        go_wp2_with (go_at_call 103; refine (impl_streetOf.asks x g1 g2 a1 a2 wr HG_g1.out HD_g1.out HG_g2.out HD_g2.out).mono ?_; rintro e w' ⟨rfl, hb'⟩; have HB' := Aside0.mk hb'; clear hb')
        go_roundw
        case rel => exact ⟨j + 1, by omega, by go_num, ⟨HB.out.trans (HB'.out.mono (below_size HB.out))⟩, ⟨by rw [HF.out, List.drop_eq_getElem_cons hlt, impl_streetOf.from_, if_neg (by rw [← HE.out, HP.out]; exact Bool.false_ne_true)]; rfl⟩⟩
        case measure => simp [intOf]; omega
    · have e : j = l0.length := by omega
      subst e
      go_wp2
      go_ret
      refine ⟨?_, HB.out⟩
      rw [HF.out, List.drop_length, impl_streetOf.from_]
      rfl
theorem impl_streetOf.calls (A0 : Option Addr) (c0 : Nat) (l0 : List (S78)) (a1 : Int) (a2 : Int) (r : Int) (w : World) (hr0 : Kd.C k78 w A0 l0.length l0) (hc0 : l0.length ≤ c0) (h : impl_streetOf.f l0 a1 a2 = some r) :
    Calls Try.prog 87 #[.slice A0 l0.length c0, .int .i64 a1, .int .i64 a2] w fun e w' => e = .returned (.int .i64 r) ∧ Below w.heap.size w w' := by
  obtain rfl := Option.some.inj h
  have HR := Aside0.mk hr0
  clear hr0 h
  go_enter Try.func87, Try.ntmps87
  go_wp2_with (go_at_call 102; refine (impl_streetOf.finds A0 c0 l0 a1 a2 w.heap.size (w.heap.size + 1) _ (by (with_reducible repeat (first | exact HR.out | apply Kd.C_alloc))) hc0 (by first | (simp; done) | (simp; omega)) (by first | (simp; done) | (simp; omega)) (by first | (simp; done) | (simp; omega)) (by first | (simp; done) | (simp; omega))).mono ?_; rintro e w' ⟨rfl, hb'⟩; have HB' := Aside0.mk hb'; clear hb')
  go_ret
  exact ⟨rfl, (((Below.refl _ w).alloc (Nat.le_refl _) _).alloc (by simp) _).trans (HB'.out.mono (by first | (simp; done) | (simp; omega)))⟩


end Go.Proofs.Ytmpncnphndafnac.PCars
