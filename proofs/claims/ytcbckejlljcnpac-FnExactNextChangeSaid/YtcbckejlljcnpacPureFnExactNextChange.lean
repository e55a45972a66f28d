/- The pure statement of FnExactNextChange: for all arguments of their kinds there is a number of rounds behind which the law answers true; condition: every number is one of Go's int, every slice is within the reach. -/
import Derived.Test.YtcbckejlljcnpacPFnExactNextChangex0
import Derived.Test.YtcbckejlljcnpacPFnExactNextChangex1
import Derived.Test.YtcbckejlljcnpacPFnExactNextChangex2
import Derived.Test.YtcbckejlljcnpacPFnExactNextChangex3
import Derived.Test.YtcbckejlljcnpacPFnExactNextChangex4
import Derived.Test.YtcbckejlljcnpacAid
namespace Go.Proofs.Ytcbckejlljcnpac.PureFnExactNextChange
open Go.RowKit Go.Proofs.YtcbckejlljcnpacW.PrintWords Go.Proofs.YtcbckejlljcnpacW.PrintLast Go.Proofs.YtcbckejlljcnpacW.PrintMore Go.Proofs.Ytcbckejlljcnpac.PFnExactNextChange Go.Proofs.Ytcbckejlljcnpac.Aid
set_option linter.unusedVariables false
set_option linter.unusedSimpArgs false

/-- Every number of it is one of Go's int, every slice within the reach. -/
def wf79 (x : S79) : Prop := I64 x.f0 ∧ I64 x.f1

theorem laws_szSlotS_eq (l : List S79) (a : Int) (ha : 0 ≤ a) (ha2 : a ≤ 1048576) (hl : l.length ≤ 140737488355328) : ∃ r, laws_szSlotS.f l a = some r ∧ r ≤ a ∧ (¬ r < 0 → l.length ≤ 1048576) := by
  unfold laws_szSlotS.f
  rw [w64 (by omega) (by omega)]
  by_cases h : a - (l.length : Int) < 0
  · exact ⟨-1, by rw [if_pos h], by omega, by omega⟩
  · exact ⟨_, by rw [if_neg h], by omega, by omega⟩

def cSlot (x : S79) : S77 := ⟨x.f0, x.f1⟩
theorem laws_toSlotS_ev (l : List S79) (hl : l.length ≤ 1048576) : Ev (fun k => laws_toSlotS.f k l) (l.map cSlot) := by
  unfold laws_toSlotS.f
  refine pos (by omega) (pos (by omega) ?_)
  exact copied (g := fun k y i => laws_toSlotS.l0 k l y i) l cSlot z77 (fun j hj y r hy h => by
    refine shift ?_
    simp only [laws_toSlotS.l0]
    refine pos (nat_lt hj) (pos (by omega) (bindc rfl (pos (by omega) ?_)))
    rw [succ_wrap (by omega)]
    simpa [rd_T79, cSlot, hj] using h) (fun y => by
    refine shift ?_
    simp only [laws_toSlotS.l0]
    exact neg (nat_ge (Nat.le_refl _)) (now rfl))

theorem laws_eqSlotS_refl (l : List S77) (hl : l.length < 9223372036854775807) : Ev (fun k => laws_eqSlotS.f k l l) true := by
  unfold laws_eqSlotS.f
  refine pos rfl (loop (g := fun k j => laws_eqSlotS.l0 k l l (j : Int)) l.length ?_ ?_)
  · intro j hj h
    refine shift ?_
    simp only [laws_eqSlotS.l0]
    refine pos (nat_lt hj) (pos (by omega) (pos (nat_lt hj) (bindc (a := true) (by simp [laws_eqSlot.f]) (pos (by simp) ?_))))
    rw [succ_wrap (by omega)]
    exact h
  · refine shift ?_
    simp only [laws_eqSlotS.l0]
    exact neg (nat_ge (Nat.le_refl _)) (now rfl)

theorem spec_l1In_eq (a b c : Int) : spec_l1In.f a b c = some (decide (b ≤ a ∧ a ≤ c)) := by
  unfold spec_l1In.f
  by_cases h : b ≤ a
  · rw [if_pos h]
    simp [h]
  · rw [if_neg h]
    simp [h]

/-- Slot j is in its ranges and behind slot j - 1. -/
def okSlot (l : List S77) (j : Nat) : Bool := decide (0 ≤ (rd_T77 l j).f0 ∧ (rd_T77 l j).f0 ≤ 1439 ∧ 1 ≤ (rd_T77 l j).f1 ∧ (rd_T77 l j).f1 ≤ 99 ∧ (0 < j → (rd_T77 l ((j : Int) - 1)).f0 < (rd_T77 l j).f0))
theorem okSlot_iff (l : List S77) (j : Nat) : okSlot l j = true ↔ (0 ≤ (rd_T77 l j).f0 ∧ (rd_T77 l j).f0 ≤ 1439 ∧ 1 ≤ (rd_T77 l j).f1 ∧ (rd_T77 l j).f1 ≤ 99 ∧ (0 < j → (rd_T77 l ((j : Int) - 1)).f0 < (rd_T77 l j).f0)) := by unfold okSlot; exact decide_eq_true_iff
def slotsOk (l : List S77) : Bool := (List.range l.length).all (okSlot l) && decide (1 ≤ l.length ∧ l.length ≤ 24)
theorem spec_AreSlots_ev (l : List S77) (hl : l.length ≤ 9223372036854775806) : Ev (fun k => spec_AreSlots.f k l) (slotsOk l) := by
  unfold spec_AreSlots.f
  refine all_loop (g := fun k j => spec_AreSlots.l0 k l (j : Int)) l.length (okSlot l) _ ?_ ?_ ?_
  · intro j r hj ok h
    rw [okSlot_iff] at ok
    refine shift ?_
    simp only [spec_AreSlots.l0]
    refine pos (nat_lt hj) (pos (by omega) (bindc (spec_l1In_eq _ _ _) (pos (by simp; omega) (bindc (spec_l1In_eq _ _ _) (pos (by simp; omega) ?_)))))
    rw [succ_wrap (by omega)]
    by_cases h0 : (j : Int) > 0
    · rw [w64 (by omega) (by omega)]
      exact pos h0 (pos (by omega) (pos (by omega) (neg (by have := ok.2.2.2.2 (by omega); omega) h)))
    · exact neg h0 h
  · intro j hj ok
    have ok : ¬ okSlot l j = true := by simp [ok]
    rw [okSlot_iff] at ok
    refine shift ?_
    simp only [spec_AreSlots.l0]
    refine pos (nat_lt hj) (pos (by omega) (bindc (spec_l1In_eq _ _ _) ?_))
    by_cases h1 : 0 ≤ (rd_T77 l j).f0 ∧ (rd_T77 l j).f0 ≤ 1439
    · refine pos (by simp [h1]) (bindc (spec_l1In_eq _ _ _) ?_)
      by_cases h2 : 1 ≤ (rd_T77 l j).f1 ∧ (rd_T77 l j).f1 ≤ 99
      · refine pos (by simp [h2]) ?_
        rw [w64 (x := (j : Int) - 1) (by omega) (by omega)]
        exact pos (by omega) (pos (by omega) (pos (by omega) (pos (by omega) (now rfl))))
      · exact neg (by simpa using h2) (now rfl)
    · exact neg (by simpa using h1) (now rfl)
  · refine shift ?_
    simp only [spec_AreSlots.l0]
    refine neg (nat_ge (Nat.le_refl _)) (bindc (spec_l1In_eq _ _ _) (now ?_))
    exact decide_eq_decide.2 (by omega)

def planSt (l : List S77) (m : Int) : Nat → Int
  | 0 => (rd_T77 l ((l.length : Int) - 1)).f1
  | j + 1 => if (rd_T77 l j).f0 ≤ Int.tmod m 1440 then (rd_T77 l j).f1 else planSt l m j
def planAt (l : List S77) (m : Int) : Int := if slotsOk l = true ∧ 0 ≤ m ∧ m ≤ 1000000 then planSt l m l.length else 0
theorem slotsOk_len (l : List S77) (h : slotsOk l = true) : 1 ≤ l.length ∧ l.length ≤ 24 := by
  unfold slotsOk at h
  rw [Bool.and_eq_true, decide_eq_true_iff] at h
  exact h.2
theorem spec_PlanAt_ev (l : List S77) (m : Int) (hl : l.length ≤ 1048576) : Ev (fun k => spec_PlanAt.f k l m) (planAt l m) := by
  unfold spec_PlanAt.f planAt
  refine Ev.bind (spec_AreSlots_ev l (by omega)) ?_
  by_cases h : slotsOk l = true
  · have hn := slotsOk_len l h
    refine pos h (bindc (spec_l1In_eq _ _ _) (shift ?_))
    simp only [spec_PlanAt.j0]
    by_cases h2 : 0 ≤ m ∧ m ≤ 1000000
    · rw [if_pos ⟨h, h2⟩, w64 (x := (l.length : Int) - 1) (by omega) (by omega)]
      refine neg (by simp [h2]) (pos (by omega) (pos (by omega) ?_))
      refine loop (g := fun k j => spec_PlanAt.l0 k l m (planSt l m j) (j : Int)) l.length ?_ ?_
      · intro j hj ih
        refine shift ?_
        simp only [spec_PlanAt.l0]
        refine pos (nat_lt hj) (pos (by omega) ?_)
        rw [succ_wrap (by omega)]
        rw [planSt] at ih
        by_cases h3 : (rd_T77 l j).f0 ≤ Int.tmod m 1440
        · rw [if_pos h3] at ih
          exact pos h3 ih
        · rw [if_neg h3] at ih
          exact neg h3 ih
      · refine shift ?_
        simp only [spec_PlanAt.l0]
        exact neg (nat_ge (Nat.le_refl _)) (now rfl)
    · rw [if_neg (fun q => h2 q.2)]
      exact pos (by simp; omega) (now rfl)
  · rw [if_neg (fun q => h q.1)]
    refine neg h (shift ?_)
    simp only [spec_PlanAt.j0]
    exact pos (by simp) (now rfl)

theorem planAt_in {l : List S77} {m : Int} (h : slotsOk l = true) (h0 : 0 ≤ m) (h1 : m ≤ 1000000) : planAt l m = planSt l m l.length := by
  unfold planAt
  rw [if_pos ⟨h, h0, h1⟩]

theorem tmod_day (m : Int) (h : 0 ≤ m) : 0 ≤ Int.tmod m 1440 ∧ Int.tmod m 1440 ≤ 1439 ∧ Int.tmod (Int.tmod m 1440) 1440 = Int.tmod m 1440 := by
  rw [Int.tmod_eq_emod_of_nonneg h]
  have h1 := Int.emod_nonneg m (by omega : (1440 : Int) ≠ 0)
  have h2 := Int.emod_lt_of_pos m (by omega : (0 : Int) < 1440)
  refine ⟨h1, by omega, ?_⟩
  rw [Int.tmod_eq_emod_of_nonneg h1, Int.emod_eq_of_lt h1 h2]
theorem planSt_day (l : List S77) (m : Int) (h : 0 ≤ m) (j : Nat) : planSt l (Int.tmod m 1440) j = planSt l m j := by
  induction j with
  | zero => rfl
  | succ j ih => rw [planSt, planSt, (tmod_day m h).2.2, ih]
/-- The first minute from m on, among d, at which the plan changes, or -1. -/
def nextFrom (l : List S77) : Nat → Int → Int
  | 0, _ => -1
  | d + 1, m => if planSt l m l.length = planSt l (m - 1) l.length then nextFrom l d (m + 1) else m
theorem spec_NextChange_at (l : List S77) (s : Int) (hl : l.length ≤ 1048576) (h : slotsOk l = true) (h0 : 0 ≤ s) (h1 : s ≤ 1000000) : ∀ (d : Nat) (m : Int), m + d = s + 1441 → 1 ≤ m → m ≤ 1001441 → Ev (fun k => spec_NextChange.l0 k l s m) (nextFrom l d m) := by
  intro d
  induction d with
  | zero =>
    intro m hm hm1 hm2
    refine shift ?_
    simp only [spec_NextChange.l0]
    rw [w64 (x := s + 1440) (by omega) (by omega)]
    exact neg (by omega) (now rfl)
  | succ d ih =>
    intro m hm hm1 hm2
    refine shift ?_
    simp only [spec_NextChange.l0]
    rw [w64 (x := s + 1440) (by omega) (by omega), w64 (x := m - 1) (by omega) (by omega), w64 (x := m + 1) (by omega) (by omega)]
    have d1 := tmod_day m (by omega)
    have d2 := tmod_day (m - 1) (by omega)
    refine pos (by omega) (Ev.bind (spec_PlanAt_ev l _ hl) (Ev.bind (spec_PlanAt_ev l _ hl) ?_))
    rw [planAt_in h (by omega) (by omega), planAt_in h (by omega) (by omega), planSt_day l m (by omega), planSt_day l (m - 1) (by omega), nextFrom]
    by_cases hp : planSt l m l.length = planSt l (m - 1) l.length
    · rw [if_pos hp]
      exact pos hp (ih (m + 1) (by omega) (by omega) (by omega))
    · rw [if_neg hp]
      exact neg hp (now rfl)
def nextChange (l : List S77) (s : Int) : Int := if slotsOk l = true ∧ 0 ≤ s ∧ s ≤ 1000000 then nextFrom l 1440 (s + 1) else -1
theorem spec_NextChange_ev (l : List S77) (s : Int) (hl : l.length ≤ 1048576) : Ev (fun k => spec_NextChange.f k l s) (nextChange l s) := by
  unfold spec_NextChange.f nextChange
  refine Ev.bind (spec_AreSlots_ev l (by omega)) ?_
  by_cases h : slotsOk l = true
  · refine pos h (bindc (spec_l1In_eq _ _ _) (shift ?_))
    simp only [spec_NextChange.j0]
    by_cases h2 : 0 ≤ s ∧ s ≤ 1000000
    · rw [if_pos ⟨h, h2⟩, w64 (x := s + 1) (by omega) (by omega)]
      exact neg (by simp [h2]) (spec_NextChange_at l s hl h h2.1 h2.2 1440 _ (by omega) (by omega) (by omega))
    · rw [if_neg (fun q => h2 q.2)]
      exact pos (by simp; omega) (now rfl)
  · rw [if_neg (fun q => h q.1)]
    refine neg h (shift ?_)
    simp only [spec_NextChange.j0]
    exact pos (by simp) (now rfl)

theorem impl_InRange_eq (a b c : Int) : impl_InRange.f a b c = some (decide (b ≤ a ∧ a ≤ c)) := by
  unfold impl_InRange.f
  by_cases h : b ≤ a
  · rw [if_pos h]
    simp [h]
  · rw [if_neg h]
    simp [h]

theorem impl_AreSlots_ev (l : List S77) (hl : l.length ≤ 9223372036854775806) : Ev (fun k => impl_AreSlots.f k l) (slotsOk l) := by
  unfold impl_AreSlots.f slotsOk
  refine bindc (impl_InRange_eq _ _ _) ?_
  by_cases hr : 1 ≤ l.length ∧ l.length ≤ 24
  · rw [decide_eq_true hr]
    refine pos (by simp; omega) (all_loop (g := fun k j => impl_AreSlots.l0 k l l (l.length : Int) (j : Int)) l.length (okSlot l) _ ?_ ?_ ?_)
    · intro j r hj ok h
      rw [okSlot_iff] at ok
      refine shift ?_
      simp only [impl_AreSlots.l0]
      refine pos (nat_lt hj) (pos (by omega) (pos (nat_lt hj) (bindc (impl_InRange_eq _ _ _) (pos (by simp; omega) (bindc (impl_InRange_eq _ _ _) (pos (by simp; omega) ?_))))))
      rw [succ_wrap (by omega)]
      by_cases h0 : (j : Int) > 0
      · rw [w64 (by omega) (by omega)]
        exact pos h0 (pos (by omega) (pos (by omega) (neg (by have := ok.2.2.2.2 (by omega); omega) h)))
      · exact neg h0 h
    · intro j hj ok
      have ok : ¬ okSlot l j = true := by simp [ok]
      rw [okSlot_iff] at ok
      refine shift ?_
      simp only [impl_AreSlots.l0]
      refine pos (nat_lt hj) (pos (by omega) (pos (nat_lt hj) (bindc (impl_InRange_eq _ _ _) ?_)))
      by_cases h1 : 0 ≤ (rd_T77 l j).f0 ∧ (rd_T77 l j).f0 ≤ 1439
      · refine pos (by simp [h1]) (bindc (impl_InRange_eq _ _ _) ?_)
        by_cases h2 : 1 ≤ (rd_T77 l j).f1 ∧ (rd_T77 l j).f1 ≤ 99
        · refine pos (by simp [h2]) ?_
          rw [w64 (x := (j : Int) - 1) (by omega) (by omega)]
          exact pos (by omega) (pos (by omega) (pos (by omega) (pos (by omega) (now rfl))))
        · exact neg (by simpa using h2) (now rfl)
      · exact neg (by simpa using h1) (now rfl)
    · refine shift ?_
      simp only [impl_AreSlots.l0]
      exact neg (nat_ge (Nat.le_refl _)) (now rfl)
  · rw [decide_eq_false hr, Bool.and_false]
    exact neg (by simp; omega) (now rfl)

theorem impl_planOf_ev (l : List S77) (m : Int) (hl : 1 ≤ l.length) (hl2 : l.length ≤ 1048576) : Ev (fun k => impl_planOf.f k l m) (planSt l m l.length) := by
  unfold impl_planOf.f
  rw [w64 (x := (l.length : Int) - 1) (by omega) (by omega)]
  refine pos (by omega) (pos (by omega) ?_)
  refine loop (g := fun k j => impl_planOf.l0 k m (planSt l m j) l (l.length : Int) (j : Int)) l.length ?_ ?_
  · intro j hj ih
    refine shift ?_
    simp only [impl_planOf.l0]
    refine pos (nat_lt hj) (pos (by omega) (pos (nat_lt hj) ?_))
    rw [succ_wrap (by omega)]
    rw [planSt] at ih
    by_cases h3 : (rd_T77 l j).f0 ≤ Int.tmod m 1440
    · rw [if_pos h3] at ih
      exact pos h3 ih
    · rw [if_neg h3] at ih
      exact neg h3 ih
  · refine shift ?_
    simp only [impl_planOf.l0]
    exact neg (nat_ge (Nat.le_refl _)) (now rfl)

theorem impl_NextChange_at (l : List S77) (s : Int) (hl : l.length ≤ 1048576) (h : slotsOk l = true) (h0 : 0 ≤ s) (h1 : s ≤ 1000000) : ∀ (d : Nat) (m : Int), m + d = s + 1441 → 1 ≤ m → m ≤ 1001441 → Ev (fun k => impl_NextChange.l0 k l s m) (nextFrom l d m) := by
  have hn := slotsOk_len l h
  intro d
  induction d with
  | zero =>
    intro m hm hm1 hm2
    refine shift ?_
    simp only [impl_NextChange.l0]
    rw [w64 (x := s + 1440) (by omega) (by omega)]
    exact neg (by omega) (now rfl)
  | succ d ih =>
    intro m hm hm1 hm2
    refine shift ?_
    simp only [impl_NextChange.l0]
    rw [w64 (x := s + 1440) (by omega) (by omega), w64 (x := m - 1) (by omega) (by omega), w64 (x := m + 1) (by omega) (by omega)]
    refine pos (by omega) (Ev.bind (impl_planOf_ev l _ hn.1 hl) (Ev.bind (impl_planOf_ev l _ hn.1 hl) ?_))
    rw [nextFrom]
    by_cases hp : planSt l m l.length = planSt l (m - 1) l.length
    · rw [if_pos hp]
      exact pos hp (ih (m + 1) (by omega) (by omega) (by omega))
    · rw [if_neg hp]
      exact neg hp (now rfl)
theorem impl_NextChange_ev (l : List S77) (s : Int) (hl : l.length ≤ 1048576) : Ev (fun k => impl_NextChange.f k l s) (nextChange l s) := by
  unfold impl_NextChange.f nextChange
  refine Ev.bind (impl_AreSlots_ev l (by omega)) ?_
  by_cases h : slotsOk l = true
  · refine pos h (bindc (impl_InRange_eq _ _ _) (shift ?_))
    simp only [impl_NextChange.j0]
    by_cases h2 : 0 ≤ s ∧ s ≤ 1000000
    · rw [if_pos ⟨h, h2⟩, w64 (x := s + 1) (by omega) (by omega)]
      exact neg (by simp [h2]) (impl_NextChange_at l s hl h h2.1 h2.2 1440 _ (by omega) (by omega) (by omega))
    · rw [if_neg (fun q => h2 q.2)]
      exact pos (by simp; omega) (now rfl)
  · rw [if_neg (fun q => h q.1)]
    refine neg h (shift ?_)
    simp only [impl_NextChange.j0]
    exact pos (by simp) (now rfl)

theorem FnExactNextChange (l : List S79) (hw : wfS 16 wf79 l) (a1 : Int) (h1 : I64 a1) : ∃ k, laws_FnExactNextChange.f k l a1 = some true := by
  refine Ev.rounds ?_
  have hm := hw.2.1
  unfold laws_FnExactNextChange.f
  obtain ⟨r, hr, _, hl⟩ := laws_szSlotS_eq l 1048576 (by omega) (by omega) (by omega)
  refine bindc hr ?_
  by_cases h : r < 0
  · exact pos h (now rfl)
  · have hl := hl h
    have hc : (l.map cSlot).length ≤ 1048576 := by simpa using hl
    refine neg h (Ev.bind (laws_toSlotS_ev l hl) (Ev.bind (spec_NextChange_ev _ _ hc) (Ev.bind (laws_toSlotS_ev l hl) (Ev.bind (impl_NextChange_ev _ _ hc) ?_))))
    exact pos rfl (Ev.bind (laws_toSlotS_ev l hl) (Ev.bind (laws_eqSlotS_refl _ (by omega)) (pos rfl (now rfl))))

end Go.Proofs.Ytcbckejlljcnpac.PureFnExactNextChange
