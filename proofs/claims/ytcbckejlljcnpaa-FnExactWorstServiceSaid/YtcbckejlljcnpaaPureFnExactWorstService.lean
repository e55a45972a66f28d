/- The pure statement of FnExactWorstService: for all arguments of their kinds there is a number of rounds behind which the law answers true; condition: every number is one of Go's int, every slice is within the reach. -/
import Derived.Test.YtcbckejlljcnpaaPFnExactWorstServicex0
import Derived.Test.YtcbckejlljcnpaaPFnExactWorstServicex1
import Derived.Test.YtcbckejlljcnpaaPFnExactWorstServicex2
import Derived.Test.YtcbckejlljcnpaaAid
namespace Go.Proofs.Ytcbckejlljcnpaa.PureFnExactWorstService
open Go.RowKit Go.Proofs.YtcbckejlljcnpaaW.PrintWords Go.Proofs.YtcbckejlljcnpaaW.PrintLast Go.Proofs.YtcbckejlljcnpaaW.PrintMore Go.Proofs.Ytcbckejlljcnpaa.PFnExactWorstService Go.Proofs.Ytcbckejlljcnpaa.Aid
set_option linter.unusedVariables false
set_option linter.unusedSimpArgs false

/-- Every number of it is one of Go's int, every slice within the reach. -/
def wf55 (x : S55) : Prop := I64 x.f0 ∧ I64 x.f1 ∧ I64 x.f2 ∧ I64 x.f3

theorem laws_szServiceS_eq (l : List S55) (a : Int) (ha : 0 ≤ a) (ha2 : a ≤ 1048576) (hl : l.length ≤ 140737488355328) : ∃ r, laws_szServiceS.f l a = some r ∧ r ≤ a ∧ (¬ r < 0 → l.length ≤ 1048576) := by
  unfold laws_szServiceS.f
  rw [w64 (by omega) (by omega)]
  by_cases h : a - (l.length : Int) < 0
  · exact ⟨-1, by rw [if_pos h], by omega, by omega⟩
  · exact ⟨_, by rw [if_neg h], by omega, by omega⟩

def cService (x : S55) : S53 := ⟨x.f0, x.f1, x.f2, x.f3⟩
theorem laws_toServiceS_ev (l : List S55) (hl : l.length ≤ 1048576) : Ev (fun k => laws_toServiceS.f k l) (l.map cService) := by
  unfold laws_toServiceS.f
  refine pos (by omega) (pos (by omega) ?_)
  exact copied (g := fun k y i => laws_toServiceS.l0 k l y i) l cService z53 (fun j hj y r hy h => by
    refine shift ?_
    simp only [laws_toServiceS.l0]
    refine pos (nat_lt hj) (pos (by omega) (bindc rfl (pos (by omega) ?_)))
    rw [succ_wrap (by omega)]
    simpa [rd_T55, cService, hj] using h) (fun y => by
    refine shift ?_
    simp only [laws_toServiceS.l0]
    exact neg (nat_ge (Nat.le_refl _)) (now rfl))

theorem laws_eqServiceS_refl (l : List S53) (hl : l.length < 9223372036854775807) : Ev (fun k => laws_eqServiceS.f k l l) true := by
  unfold laws_eqServiceS.f
  refine pos rfl (loop (g := fun k j => laws_eqServiceS.l0 k l l (j : Int)) l.length ?_ ?_)
  · intro j hj h
    refine shift ?_
    simp only [laws_eqServiceS.l0]
    refine pos (nat_lt hj) (pos (by omega) (pos (nat_lt hj) (bindc (a := true) (by simp [laws_eqService.f]) (pos (by simp) ?_))))
    rw [succ_wrap (by omega)]
    exact h
  · refine shift ?_
    simp only [laws_eqServiceS.l0]
    exact neg (nat_ge (Nat.le_refl _)) (now rfl)

/-- The place of the first of the longest waits among the first j, or -1. -/
def worstAt (l : List S53) : Nat → Int
  | 0 => -1
  | j + 1 => if worstAt l j < 0 ∨ (rd_T53 l (worstAt l j)).f2 < (rd_T53 l j).f2 then (j : Int) else worstAt l j
theorem worstAt_range (l : List S53) (j : Nat) : -1 ≤ worstAt l j ∧ worstAt l j < j ∧ (0 < j → 0 ≤ worstAt l j) := by
  induction j with
  | zero => simp [worstAt]
  | succ j ih =>
    rw [worstAt]
    split <;> omega
theorem spec_WorstService_ev (l : List S53) (hl : l.length ≤ 1048576) : Ev (fun k => spec_WorstService.f k l) (if l.length = 0 then 0 else (rd_T53 l (worstAt l l.length)).f0) := by
  unfold spec_WorstService.f
  refine loop (g := fun k j => spec_WorstService.l0 k l (worstAt l j) (j : Int)) l.length ?_ ?_
  · intro j hj h
    have hr := worstAt_range l j
    refine shift ?_
    simp only [spec_WorstService.l0]
    refine pos (nat_lt hj) ?_
    rw [succ_wrap (by omega)]
    rw [worstAt] at h
    by_cases h1 : worstAt l j < 0
    · rw [if_pos (.inl h1)] at h
      exact pos h1 h
    · refine neg h1 (pos (by omega) (pos (by omega) (pos (by omega) ?_)))
      by_cases h2 : (rd_T53 l (worstAt l j)).f2 < (rd_T53 l j).f2
      · rw [if_pos (.inr h2)] at h
        exact pos h2 h
      · rw [if_neg (by omega)] at h
        exact neg h2 h
  · have hr := worstAt_range l l.length
    refine shift ?_
    simp only [spec_WorstService.l0]
    refine neg (nat_ge (Nat.le_refl _)) ?_
    by_cases h : l.length = 0
    · rw [if_pos h]
      exact pos (by omega) (now rfl)
    · rw [if_neg h]
      exact neg (by omega) (pos (by omega) (pos (by omega) (now rfl)))

theorem impl_WorstService_ev (l : List S53) (hl : l.length ≤ 1048576) : Ev (fun k => impl_WorstService.f k l) (if l.length = 0 then 0 else (rd_T53 l (worstAt l l.length)).f0) := by
  unfold impl_WorstService.f
  by_cases h0 : l.length = 0
  · rw [if_pos h0]
    exact pos (by omega) (now rfl)
  · rw [if_neg h0]
    refine neg (by omega) (pos (by omega) ?_)
    refine loop (g := fun k j => impl_WorstService.l0 k l (l.length : Int) (j : Int) (rd_T53 l (worstAt l j)).f0 (rd_T53 l (worstAt l j)).f1 (rd_T53 l (worstAt l j)).f2 (rd_T53 l (worstAt l j)).f3) l.length ?_ ?_
    · intro j hj h
      have hr := worstAt_range l j
      refine shift ?_
      simp only [impl_WorstService.l0]
      refine pos (nat_lt hj) (pos (by omega) (pos (nat_lt hj) ?_))
      rw [succ_wrap (by omega)]
      rw [worstAt] at h
      by_cases h1 : worstAt l j < 0
      · have hj0 : j = 0 := by omega
        subst hj0
        rw [if_pos (.inl h1)] at h
        exact neg (by simp [worstAt, rd_T53]) h
      · by_cases h2 : (rd_T53 l (worstAt l j)).f2 < (rd_T53 l j).f2
        · rw [if_pos (.inr h2)] at h
          exact pos h2 h
        · rw [if_neg (by omega)] at h
          exact neg h2 h
    · refine shift ?_
      simp only [impl_WorstService.l0]
      exact neg (nat_ge (Nat.le_refl _)) (now rfl)

theorem FnExactWorstService (l : List S55) (hw : wfS 32 wf55 l) : ∃ k, laws_FnExactWorstService.f k l = some true := by
  refine Ev.rounds ?_
  have hm := hw.2.1
  unfold laws_FnExactWorstService.f
  obtain ⟨r, hr, _, hl⟩ := laws_szServiceS_eq l 1048576 (by omega) (by omega) (by omega)
  refine bindc hr ?_
  by_cases h : r < 0
  · exact pos h (now rfl)
  · have hl := hl h
    have hc : (l.map cService).length ≤ 1048576 := by simpa using hl
    refine neg h (Ev.bind (laws_toServiceS_ev l hl) (Ev.bind (spec_WorstService_ev _ hc) (Ev.bind (laws_toServiceS_ev l hl) (Ev.bind (impl_WorstService_ev _ hc) ?_))))
    exact pos rfl (Ev.bind (laws_toServiceS_ev l hl) (Ev.bind (laws_eqServiceS_refl _ (by omega)) (pos rfl (now rfl))))

end Go.Proofs.Ytcbckejlljcnpaa.PureFnExactWorstService
