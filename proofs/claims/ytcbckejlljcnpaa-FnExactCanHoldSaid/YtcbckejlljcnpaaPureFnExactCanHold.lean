/- The pure statement of FnExactCanHold: for all arguments of their kinds there is a number of rounds behind which the law answers true; condition: every number is one of Go's int, every slice is within the reach. -/
import Derived.Test.YtcbckejlljcnpaaPFnExactCanHoldx0
import Derived.Test.YtcbckejlljcnpaaPFnExactCanHoldx1
import Derived.Test.YtcbckejlljcnpaaPFnExactCanHoldx2
import Derived.Test.YtcbckejlljcnpaaAid
namespace Go.Proofs.Ytcbckejlljcnpaa.PureFnExactCanHold
open Go.RowKit Go.Proofs.YtcbckejlljcnpaaW.PrintWords Go.Proofs.YtcbckejlljcnpaaW.PrintLast Go.Proofs.YtcbckejlljcnpaaW.PrintMore Go.Proofs.Ytcbckejlljcnpaa.PFnExactCanHold Go.Proofs.Ytcbckejlljcnpaa.Aid
set_option linter.unusedVariables false
set_option linter.unusedSimpArgs false

/-- Every number of it is one of Go's int, every slice within the reach. -/
def wf73 (x : S73) : Prop := I64 x.f0 ∧ I64 x.f1 ∧ I64 x.f2

theorem laws_szTallyS_eq (l : List S73) (a : Int) (ha : 0 ≤ a) (ha2 : a ≤ 1048576) (hl : l.length ≤ 140737488355328) : ∃ r, laws_szTallyS.f l a = some r ∧ r ≤ a ∧ (¬ r < 0 → l.length ≤ 1048576) := by
  unfold laws_szTallyS.f
  rw [w64 (by omega) (by omega)]
  by_cases h : a - (l.length : Int) < 0
  · exact ⟨-1, by rw [if_pos h], by omega, by omega⟩
  · exact ⟨_, by rw [if_neg h], by omega, by omega⟩

theorem spec_l1In_eq (a b c : Int) : spec_l1In.f a b c = some (decide (b ≤ a ∧ a ≤ c)) := by
  unfold spec_l1In.f
  by_cases h : b ≤ a
  · rw [if_pos h]
    simp [h]
  · rw [if_neg h]
    simp [h]

def isTally (i o r : Int) : Bool := decide (0 ≤ i ∧ i ≤ 1000000 ∧ 0 ≤ o ∧ o ≤ i ∧ 0 ≤ r ∧ r ≤ 100 ∧ i - o ≤ r)
theorem isTally_iff (i o r : Int) : isTally i o r = true ↔ 0 ≤ i ∧ i ≤ 1000000 ∧ 0 ≤ o ∧ o ≤ i ∧ 0 ≤ r ∧ r ≤ 100 ∧ i - o ≤ r := by simp [isTally]
theorem spec_IsTally_eq (i o r : Int) : spec_IsTally.f i o r = some (isTally i o r) := by
  unfold spec_IsTally.f isTally
  simp only [spec_l1In_eq, Option.bind_some, decide_eq_true_eq]
  repeat' split
  all_goals first
    | (refine congrArg some (decide_eq_decide.2 ?_); unfold wrap64; omega)
    | (refine congrArg some (Eq.symm (decide_eq_false ?_)); omega)

/-- A tally behind another one, if both are valid and so many may come or go. -/
def countTo (i o r i2 o2 n : Int) : Int × Int × Int × Bool := if isTally i o r = true ∧ (0 ≤ n ∧ n ≤ 1000) ∧ isTally i2 o2 r = true then (i2, o2, r, true) else (i, o, r, false)
theorem spec_CountIn_ev (i o r n : Int) : Ev (fun k => spec_CountIn.f k i o r n) (countTo i o r (wrap64 (i + n)) o n) := by
  unfold spec_CountIn.f countTo
  refine bindc (spec_IsTally_eq _ _ _) ?_
  by_cases h : isTally i o r = true
  · refine pos h (bindc (spec_l1In_eq _ _ _) (shift ?_))
    simp only [spec_CountIn.j0]
    by_cases h2 : 0 ≤ n ∧ n ≤ 1000
    · refine neg (by simp [h2]) (bindc (spec_IsTally_eq _ _ _) ?_)
      by_cases h3 : isTally (wrap64 (i + n)) o r = true
      · exact pos h3 (now (by rw [if_pos ⟨h, h2, h3⟩]))
      · exact neg h3 (now (by rw [if_neg (fun q => h3 q.2.2)]))
    · refine pos (by simp [h2]) (now (by rw [if_neg (fun q => h2 q.2.1)]))
  · refine neg h (shift ?_)
    simp only [spec_CountIn.j0]
    exact pos (by simp) (now (by rw [if_neg (fun q => h q.1)]))

def holds (l : List S69) (s n : Int) : Bool := if 0 ≤ s ∧ s < l.length then (countTo (rd_T69 l s).f0 (rd_T69 l s).f1 (rd_T69 l s).f2 (wrap64 ((rd_T69 l s).f0 + n)) (rd_T69 l s).f1 n).2.2.2 else false
theorem spec_CanHold_ev (l : List S69) (s n : Int) (hl : l.length ≤ 1048576) : Ev (fun k => spec_CanHold.f k l s n) (holds l s n) := by
  unfold spec_CanHold.f holds
  rw [w64 (x := (l.length : Int) - 1) (by omega) (by omega)]
  refine bindc (spec_l1In_eq _ _ _) ?_
  by_cases h : 0 ≤ s ∧ s < l.length
  · rw [if_pos h]
    exact pos (by simp; omega) (pos h.1 (pos h.2 (Ev.bind (spec_CountIn_ev _ _ _ _) (now rfl))))
  · rw [if_neg h]
    exact neg (by simp; omega) (now rfl)

def cTally (x : S73) : S69 := ⟨x.f0, x.f1, x.f2⟩
theorem laws_toTallyS_ev (l : List S73) (hl : l.length ≤ 1048576) : Ev (fun k => laws_toTallyS.f k l) (l.map cTally) := by
  unfold laws_toTallyS.f
  refine pos (by omega) (pos (by omega) ?_)
  exact copied (g := fun k y i => laws_toTallyS.l0 k l y i) l cTally z69 (fun j hj y r hy h => by
    refine shift ?_
    simp only [laws_toTallyS.l0]
    refine pos (nat_lt hj) (pos (by omega) (bindc rfl (pos (by omega) ?_)))
    rw [succ_wrap (by omega)]
    simpa [rd_T73, cTally, hj] using h) (fun y => by
    refine shift ?_
    simp only [laws_toTallyS.l0]
    exact neg (nat_ge (Nat.le_refl _)) (now rfl))

theorem impl_InRange_eq (a b c : Int) : impl_InRange.f a b c = some (decide (b ≤ a ∧ a ≤ c)) := by
  unfold impl_InRange.f
  by_cases h : b ≤ a
  · rw [if_pos h]
    simp [h]
  · rw [if_neg h]
    simp [h]

theorem impl_IsTally_eq (i o r : Int) : impl_IsTally.f i o r = some (isTally i o r) := by
  unfold impl_IsTally.f isTally
  simp only [impl_InRange_eq, Option.bind_some, decide_eq_true_eq]
  repeat' split
  all_goals first
    | (refine congrArg some (decide_eq_decide.2 ?_); unfold wrap64; omega)
    | (refine congrArg some (Eq.symm (decide_eq_false ?_)); omega)

theorem impl_counted_eq (i o r i2 o2 n : Int) : impl_counted.f i o r i2 o2 r n = some (countTo i o r i2 o2 n) := by
  unfold impl_counted.f countTo
  simp only [impl_IsTally_eq, impl_InRange_eq, Option.bind_some, decide_eq_true_eq]
  by_cases h : isTally i o r = true
  · by_cases h3 : isTally i2 o2 r = true
    · by_cases h2 : 0 ≤ n ∧ n ≤ 1000
      · rw [if_pos h, if_pos h3, if_pos h2, if_pos ⟨h, h2, h3⟩]
      · rw [if_pos h, if_pos h3, if_neg h2, if_neg (fun q => h2 q.2.1)]
    · rw [if_pos h, if_neg h3, if_neg (fun q => h3 q.2.2)]
  · rw [if_neg h, if_neg (fun q => h q.1)]

theorem impl_CountIn_eq (i o r n : Int) : impl_CountIn.f i o r n = some (countTo i o r (wrap64 (i + n)) o n) := by
  unfold impl_CountIn.f
  rw [impl_counted_eq]
  rfl

theorem impl_CanHold_eq (l : List S69) (s n : Int) (hl : l.length ≤ 1048576) : impl_CanHold.f l s n = some (holds l s n) := by
  unfold impl_CanHold.f holds
  by_cases h0 : s < 0
  · rw [if_pos h0, if_neg (by omega)]
  · rw [if_neg h0]
    by_cases h1 : s ≥ l.length
    · rw [if_pos h1, if_neg (by omega)]
    · rw [if_neg h1, if_pos (by omega), if_pos (by omega), if_pos (by omega), impl_CountIn_eq]
      rfl

theorem laws_eqTally_refl (a b c : Int) : laws_eqTally.f a b c a b c = some true := by
  simp [laws_eqTally.f]

theorem laws_eqTallyS_refl (l : List S69) (hl : l.length < 9223372036854775807) : Ev (fun k => laws_eqTallyS.f k l l) true := by
  unfold laws_eqTallyS.f
  refine pos rfl (loop (g := fun k j => laws_eqTallyS.l0 k l l (j : Int)) l.length ?_ ?_)
  · intro j hj h
    refine shift ?_
    simp only [laws_eqTallyS.l0]
    refine pos (nat_lt hj) (pos (by omega) (pos (nat_lt hj) (bindc (a := true) (by simp [laws_eqTally.f]) (pos (by simp) ?_))))
    rw [succ_wrap (by omega)]
    exact h
  · refine shift ?_
    simp only [laws_eqTallyS.l0]
    exact neg (nat_ge (Nat.le_refl _)) (now rfl)

theorem FnExactCanHold (l : List S73) (hw : wfS 24 wf73 l) (a1 : Int) (h1 : I64 a1) (a2 : Int) (h2 : I64 a2) : ∃ k, laws_FnExactCanHold.f k l a1 a2 = some true := by
  refine Ev.rounds ?_
  have hm := hw.2.1
  unfold laws_FnExactCanHold.f
  obtain ⟨r, hr, _, hl⟩ := laws_szTallyS_eq l 1048576 (by omega) (by omega) (by omega)
  refine bindc hr ?_
  by_cases h : r < 0
  · exact pos h (now rfl)
  · have hl := hl h
    have hc : (l.map cTally).length ≤ 1048576 := by simpa using hl
    refine neg h (Ev.bind (laws_toTallyS_ev l hl) (Ev.bind (spec_CanHold_ev _ _ _ hc) (Ev.bind (laws_toTallyS_ev l hl) (bindc (impl_CanHold_eq _ _ _ hc) ?_))))
    exact neg (by simp) (Ev.bind (laws_toTallyS_ev l hl) (Ev.bind (laws_eqTallyS_refl _ (by omega)) (pos rfl (now rfl))))

end Go.Proofs.Ytcbckejlljcnpaa.PureFnExactCanHold
