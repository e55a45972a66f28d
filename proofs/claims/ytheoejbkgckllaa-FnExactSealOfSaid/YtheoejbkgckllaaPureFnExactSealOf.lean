/- The pure statement of FnExactSealOf: for all arguments of their kinds there is a number of rounds behind which the law answers true; condition: every number is one of Go's int, every slice is within the reach. -/
import Derived.Test.YtheoejbkgckllaaPFnExactSealOfx0
import Derived.Test.YtheoejbkgckllaaPFnExactSealOfx1
import Derived.Test.YtheoejbkgckllaaAid
namespace Go.Proofs.Ytheoejbkgckllaa.PureFnExactSealOf
open Go.RowKit Go.Proofs.YtheoejbkgckllaaW.PrintWords Go.Proofs.YtheoejbkgckllaaW.PrintLast Go.Proofs.YtheoejbkgckllaaW.PrintMore Go.Proofs.Ytheoejbkgckllaa.PFnExactSealOf Go.Proofs.Ytheoejbkgckllaa.Aid
set_option linter.unusedVariables false
set_option linter.unusedSimpArgs false


theorem spec_l1In_eq (a b c : Int) : spec_l1In.f a b c = some (decide (b ≤ a ∧ a ≤ c)) := by
  unfold spec_l1In.f
  by_cases h : b ≤ a
  · rw [if_pos h]
    simp [h]
  · rw [if_neg h]
    simp [h]

theorem tmod_emod {a m : Int} (hm : 0 < m) : Int.tmod a m = if Int.tmod a m < 0 then a % m - m else a % m := by
  have h1 := Int.emod_nonneg a (by omega : m ≠ 0)
  have h2 := Int.emod_lt_of_pos a hm
  have h3 := Int.tmod_eq_emod (a := a) (b := m)
  by_cases hc : 0 ≤ a ∨ m ∣ a
  · rw [if_pos hc] at h3
    rw [if_neg (by omega)]
    omega
  · rw [if_neg hc] at h3
    rw [if_pos (by omega)]
    omega
theorem tmod_range {a m : Int} (hm : 0 < m) : -m ≤ Int.tmod a m ∧ Int.tmod a m < m := by
  have h := tmod_emod (a := a) hm
  have h1 := Int.emod_nonneg a (by omega : m ≠ 0)
  have h2 := Int.emod_lt_of_pos a hm
  by_cases hc : Int.tmod a m < 0
  · rw [if_pos hc] at h
    omega
  · rw [if_neg hc] at h
    omega
theorem spec_Mod_eq (a m : Int) (h1 : 1 ≤ m) (h2 : m ≤ 1000000000000) : spec_Mod.f a m = some (a % m) := by
  unfold spec_Mod.f
  rw [spec_l1In_eq, Option.bind_some, if_pos (by simp [h1, h2]), if_neg (by omega)]
  have hr := tmod_range (a := a) (m := m) (by omega)
  have he := tmod_emod (a := a) (m := m) (by omega)
  have h3 := Int.emod_nonneg a (by omega : m ≠ 0)
  have h4 := Int.emod_lt_of_pos a (by omega : 0 < m)
  rw [w64 (by omega) (by omega), Int.tmod_eq_emod_of_nonneg (by omega)]
  congr 1
  by_cases hn : Int.tmod a m < 0
  · rw [if_pos hn] at he
    rw [he, show a % m - m + m = a % m by omega, Int.emod_emod_of_dvd _ (Int.dvd_refl m)]
  · rw [if_neg hn] at he
    rw [he, Int.add_emod_right, Int.emod_emod_of_dvd _ (Int.dvd_refl m)]

/-- One more value taken into a hash. -/
def hstep (acc v : Int) : Int := (acc * 1000003 + v % 2147483647 + 13) % 2147483647
theorem hstep_range (a v : Int) : 0 ≤ hstep a v ∧ hstep a v < 2147483647 := ⟨Int.emod_nonneg _ (by omega), Int.emod_lt_of_pos _ (by omega)⟩
theorem hfold_range (l : List Int) : ∀ a : Int, 0 ≤ a → a < 2147483647 → 0 ≤ l.foldl hstep a ∧ l.foldl hstep a < 2147483647 := by
  induction l with
  | nil => exact fun a h0 h1 => ⟨h0, h1⟩
  | cons v r ih => exact fun a _ _ => ih _ (hstep_range a v).1 (hstep_range a v).2
theorem hfold_take (l : List Int) (j : Nat) (h : j < l.length) (a : Int) : (l.take (j + 1)).foldl hstep a = hstep ((l.take j).foldl hstep a) l[j] := by
  rw [List.take_succ_eq_append_getElem h, List.foldl_append]
  rfl
theorem hstep_go (a v : Int) (h0 : 0 ≤ a) (h1 : a < 2147483647) : Int.tmod (wrap64 ((wrap64 ((wrap64 (a * 1000003)) + v % 2147483647)) + 13)) 2147483647 = hstep a v := by
  have h2 := Int.emod_nonneg v (by omega : (2147483647 : Int) ≠ 0)
  have h3 := Int.emod_lt_of_pos v (by omega : (0 : Int) < 2147483647)
  rw [w64 (x := a * 1000003) (by omega) (by omega), w64 (x := a * 1000003 + _) (by omega) (by omega), w64 (by omega) (by omega), Int.tmod_eq_emod_of_nonneg (by omega)]
  rfl
theorem spec_Hash_ev (l : List Int) (hl : l.length < 9223372036854775807) : Ev (fun k => spec_Hash.f k l) (l.foldl hstep 11) := by
  unfold spec_Hash.f
  refine loop (g := fun k j => spec_Hash.l0 k l ((l.take j).foldl hstep 11) (j : Int)) l.length ?_ ?_
  · intro j hj h
    refine shift ?_
    simp only [spec_Hash.l0]
    refine pos (nat_lt hj) (pos (by omega) (bindc (spec_Mod_eq _ _ (by omega) (by omega)) ?_))
    obtain ⟨b0, b1⟩ := hfold_range (l.take j) 11 (by omega) (by omega)
    rw [hstep_go _ _ b0 b1, rd_get _ _ hj, ← hfold_take l j hj, succ_wrap (by omega)]
    exact h
  · refine shift ?_
    simp only [spec_Hash.l0]
    exact neg (nat_ge (Nat.le_refl _)) (now (by rw [List.take_length]))

def sealL (b s : Int) (l : List Int) : Int := ([b, s] ++ l).foldl hstep 11
theorem spec_SealOf_ev (b s : Int) (l : List Int) (hl : l.length ≤ 1048576) : Ev (fun k => spec_SealOf.f k b s l) (sealL b s l) := by
  unfold spec_SealOf.f
  refine bindc rfl (pos (by simp; omega) (Ev.bind (spec_Hash_ev _ (by simp; omega)) (now rfl)))

theorem laws_toIntS_ev (l : List Int) (hl : l.length ≤ 17592186044416) : Ev (fun k => laws_toIntS.f k l) l := by
  unfold laws_toIntS.f
  refine pos (by omega) (pos (by omega) ?_)
  have h := copied (g := fun k y i => laws_toIntS.l0 k l y i) l id 0 (fun j hj y r hy h => by
    refine shift ?_
    simp only [laws_toIntS.l0]
    refine pos (nat_lt hj) (pos (by omega) (pos (by omega) ?_))
    rw [rd_get _ _ hj, succ_wrap (by omega)]
    exact h) (fun y => by
    refine shift ?_
    simp only [laws_toIntS.l0]
    exact neg (nat_ge (Nat.le_refl _)) (now rfl))
  simpa using h

theorem impl_InRange_eq (a b c : Int) : impl_InRange.f a b c = some (decide (b ≤ a ∧ a ≤ c)) := by
  unfold impl_InRange.f
  by_cases h : b ≤ a
  · rw [if_pos h]
    simp [h]
  · rw [if_neg h]
    simp [h]

theorem impl_Mod_eq (a m : Int) (h1 : 1 ≤ m) (h2 : m ≤ 1000000000000) : impl_Mod.f a m = some (a % m) := by
  unfold impl_Mod.f
  rw [impl_InRange_eq, Option.bind_some, if_pos (by simp [h1, h2]), if_neg (by omega)]
  have he := tmod_emod (a := a) (m := m) (by omega)
  have h3 := Int.emod_nonneg a (by omega : m ≠ 0)
  have h4 := Int.emod_lt_of_pos a (by omega : 0 < m)
  by_cases hn : Int.tmod a m < 0
  · rw [if_pos hn] at he
    rw [if_pos hn, w64 (by omega) (by omega), he]
    congr 1
    omega
  · rw [if_neg hn] at he
    rw [if_neg hn, he]

theorem impl_fold_eq (a v : Int) (h0 : 0 ≤ a) (h1 : a < 2147483647) : impl_fold.f a v = some (hstep a v) := by
  unfold impl_fold.f
  rw [impl_Mod_eq _ _ (by omega) (by omega), Option.bind_some, hstep_go a v h0 h1]

theorem impl_Hash_ev (l : List Int) (hl : l.length < 9223372036854775807) : Ev (fun k => impl_Hash.f k l) (l.foldl hstep 11) := by
  unfold impl_Hash.f
  refine loop (g := fun k j => impl_Hash.l0 k ((l.take j).foldl hstep 11) l (l.length : Int) (j : Int)) l.length ?_ ?_
  · intro j hj h
    refine shift ?_
    simp only [impl_Hash.l0]
    obtain ⟨b0, b1⟩ := hfold_range (l.take j) 11 (by omega) (by omega)
    refine pos (nat_lt hj) (pos (by omega) (pos (nat_lt hj) (bindc (impl_fold_eq _ _ b0 b1) ?_)))
    rw [rd_get _ _ hj, ← hfold_take l j hj, succ_wrap (by omega)]
    exact h
  · refine shift ?_
    simp only [impl_Hash.l0]
    exact neg (nat_ge (Nat.le_refl _)) (now (by rw [List.take_length]))


theorem impl_SealOf_ev (b s : Int) (l : List Int) (hl : l.length ≤ 1048576) : Ev (fun k => impl_SealOf.f k b s l) (sealL b s l) := by
  unfold impl_SealOf.f
  refine bindc rfl (pos (by simp; omega) (Ev.bind (impl_Hash_ev _ (by simp; omega)) (now rfl)))

theorem laws_eqIntS_refl (l : List Int) (hl : l.length < 9223372036854775807) : Ev (fun k => laws_eqIntS.f k l l) true := by
  unfold laws_eqIntS.f
  refine pos rfl (loop (g := fun k j => laws_eqIntS.l0 k l l (j : Int)) l.length ?_ ?_)
  · intro j hj h
    refine shift ?_
    simp only [laws_eqIntS.l0]
    refine pos (nat_lt hj) (pos (by omega) (pos (nat_lt hj) (pos (by simp) ?_)))
    rw [succ_wrap (by omega)]
    exact h
  · refine shift ?_
    simp only [laws_eqIntS.l0]
    exact neg (nat_ge (Nat.le_refl _)) (now rfl)

theorem FnExactSealOf (a0 : Int) (h0 : I64 a0) (a1 : Int) (h1 : I64 a1) (l : List Int) (hw : wfS 8 I64 l) : ∃ k, laws_FnExactSealOf.f k a0 a1 l = some true := by
  refine Ev.rounds ?_
  have hl := hw.2.1
  unfold laws_FnExactSealOf.f
  by_cases h : (l.length : Int) > 1048576
  · exact pos h (now rfl)
  · refine neg h (Ev.bind (laws_toIntS_ev l (by omega)) (Ev.bind (spec_SealOf_ev _ _ _ (by omega)) (Ev.bind (laws_toIntS_ev l (by omega)) (Ev.bind (impl_SealOf_ev _ _ _ (by omega)) (pos rfl (Ev.bind (laws_toIntS_ev l (by omega)) (Ev.bind (laws_eqIntS_refl l (by omega)) (pos rfl (now rfl)))))))))

end Go.Proofs.Ytheoejbkgckllaa.PureFnExactSealOf
