/- The pure statement of FnExactTotalInside: for all arguments of their kinds there is a number of rounds behind which the law answers true; condition: every number is one of Go's int, every slice is within the reach. -/
import Derived.Test.YtcbckejlljcnpaaPFnExactTotalInsidex0
import Derived.Test.YtcbckejlljcnpaaPFnExactTotalInsidex1
import Derived.Test.YtcbckejlljcnpaaPFnExactTotalInsidex2
import Derived.Test.YtcbckejlljcnpaaAid
namespace Go.Proofs.Ytcbckejlljcnpaa.PureFnExactTotalInside
open Go.RowKit Go.Proofs.YtcbckejlljcnpaaW.PrintWords Go.Proofs.YtcbckejlljcnpaaW.PrintLast Go.Proofs.YtcbckejlljcnpaaW.PrintMore Go.Proofs.Ytcbckejlljcnpaa.PFnExactTotalInside Go.Proofs.Ytcbckejlljcnpaa.Aid
set_option linter.unusedVariables false
set_option linter.unusedSimpArgs false

/-- Every number of it is one of Go's int, every slice within the reach. -/
def wf73 (x : S73) : Prop := I64 x.f0 ∧ I64 x.f1 ∧ I64 x.f2

theorem laws_szTallyS_eq (l : List S73) (a : Int) (ha : 0 ≤ a) (ha2 : a ≤ 1048576) (hl : l.length ≤ 140737488355328) : ∃ r, laws_szTallyS.f l a = some r ∧ r ≤ a ∧ (¬ r < 0 → l.length ≤ 1048576) := by
  unfold laws_szTallyS.f
  rw [w64 (by omega) (by omega)]
  by_cases h : a - (l.length : Int) < 0
  · exact ⟨-1, by rw [if_pos h], by omega, by omega⟩
  · exact ⟨_, by rw [if_neg h], by omega, by omega⟩

def cTally (x : S73) : S69 := ⟨x.f0, x.f1, x.f2⟩
theorem laws_toTallyS_ev (l : List S73) (hl : l.length ≤ 1048576) : Ev (fun k => laws_toTallyS.f k l) (l.map cTally) := by
  unfold laws_toTallyS.f
  refine pos (by omega) (pos (by omega) ?_)
  exact copied (g := fun k y i => laws_toTallyS.l0 k l y i) l cTally z69 (fun j hj y r hy h => by
    refine shift ?_
    simp only [laws_toTallyS.l0]
    refine pos (nat_lt hj) (pos (by omega) (bindc rfl (pos (by omega) ?_)))
    rw [succ_wrap (by omega)]
    simpa [rd_T73, cTally, hj] using h) (fun y => by
    refine shift ?_
    simp only [laws_toTallyS.l0]
    exact neg (nat_ge (Nat.le_refl _)) (now rfl))

theorem laws_eqTally_refl (a b c : Int) : laws_eqTally.f a b c a b c = some true := by
  simp [laws_eqTally.f]

theorem laws_eqTallyS_refl (l : List S69) (hl : l.length < 9223372036854775807) : Ev (fun k => laws_eqTallyS.f k l l) true := by
  unfold laws_eqTallyS.f
  refine pos rfl (loop (g := fun k j => laws_eqTallyS.l0 k l l (j : Int)) l.length ?_ ?_)
  · intro j hj h
    refine shift ?_
    simp only [laws_eqTallyS.l0]
    refine pos (nat_lt hj) (pos (by omega) (pos (nat_lt hj) (bindc (a := true) (by simp [laws_eqTally.f]) (pos (by simp) ?_))))
    rw [succ_wrap (by omega)]
    exact h
  · refine shift ?_
    simp only [laws_eqTallyS.l0]
    exact neg (nat_ge (Nat.le_refl _)) (now rfl)

theorem spec_Max_eq (a b : Int) : spec_Max.f a b = some (mx a b) := by
  unfold spec_Max.f mx
  by_cases h : b > a
  · rw [if_pos h, if_pos (by omega)]
  · rw [if_neg h, if_neg (by omega)]

theorem spec_l1In_eq (a b c : Int) : spec_l1In.f a b c = some (decide (b ≤ a ∧ a ≤ c)) := by
  unfold spec_l1In.f
  by_cases h : b ≤ a
  · rw [if_pos h]
    simp [h]
  · rw [if_neg h]
    simp [h]

def isTally (i o r : Int) : Bool := decide (0 ≤ i ∧ i ≤ 1000000 ∧ 0 ≤ o ∧ o ≤ i ∧ 0 ≤ r ∧ r ≤ 100 ∧ i - o ≤ r)
theorem isTally_iff (i o r : Int) : isTally i o r = true ↔ 0 ≤ i ∧ i ≤ 1000000 ∧ 0 ≤ o ∧ o ≤ i ∧ 0 ≤ r ∧ r ≤ 100 ∧ i - o ≤ r := by simp [isTally]
theorem spec_IsTally_eq (i o r : Int) : spec_IsTally.f i o r = some (isTally i o r) := by
  unfold spec_IsTally.f isTally
  simp only [spec_l1In_eq, Option.bind_some, decide_eq_true_eq]
  repeat' split
  all_goals first
    | (refine congrArg some (decide_eq_decide.2 ?_); unfold wrap64; omega)
    | (refine congrArg some (Eq.symm (decide_eq_false ?_)); omega)

theorem spec_Inside_eq (i o r : Int) : spec_Inside.f i o r = some (if isTally i o r = true then i - o else -1) := by
  unfold spec_Inside.f
  rw [spec_IsTally_eq, Option.bind_some]
  by_cases h : isTally i o r = true
  · have h2 := (isTally_iff i o r).1 h
    rw [if_pos h, if_pos h, w64 (by omega) (by omega)]
  · rw [if_neg h, if_neg h]

def insideAt (l : List S69) (j : Nat) : Int := mx 0 (if isTally (rd_T69 l j).f0 (rd_T69 l j).f1 (rd_T69 l j).f2 = true then (rd_T69 l j).f0 - (rd_T69 l j).f1 else -1)
theorem insideAt_range (l : List S69) (j : Nat) : 0 ≤ insideAt l j ∧ insideAt l j ≤ 100 := by
  unfold insideAt
  by_cases h : isTally (rd_T69 l j).f0 (rd_T69 l j).f1 (rd_T69 l j).f2 = true
  · have h2 := (isTally_iff _ _ _).1 h
    rw [if_pos h]
    unfold mx
    split <;> omega
  · rw [if_neg h]
    unfold mx
    omega
def insideSum (l : List S69) : Nat → Int
  | 0 => 0
  | j + 1 => insideSum l j + insideAt l j
theorem insideSum_range (l : List S69) (j : Nat) : 0 ≤ insideSum l j ∧ insideSum l j ≤ 100 * j := by
  induction j with
  | zero => simp [insideSum]
  | succ j ih =>
    have := insideAt_range l j
    rw [insideSum]
    omega
theorem spec_TotalInside_ev (l : List S69) (hl : l.length ≤ 1048576) : Ev (fun k => spec_TotalInside.f k l) (insideSum l l.length) := by
  unfold spec_TotalInside.f
  refine loop (g := fun k j => spec_TotalInside.l0 k l (insideSum l j) (j : Int)) l.length ?_ ?_
  · intro j hj h
    have h1 := insideSum_range l j
    have h2 := insideAt_range l j
    refine shift ?_
    simp only [spec_TotalInside.l0]
    refine pos (nat_lt hj) (pos (by omega) (bindc (spec_Inside_eq _ _ _) (bindc (spec_Max_eq _ _) ?_)))
    rw [succ_wrap (by omega)]
    show Ev (fun k => spec_TotalInside.l0 k l (wrap64 (insideSum l j + insideAt l j)) _) _
    rw [w64 (by omega) (by omega)]
    exact h
  · refine shift ?_
    simp only [spec_TotalInside.l0]
    exact neg (nat_ge (Nat.le_refl _)) (now rfl)

theorem impl_InRange_eq (a b c : Int) : impl_InRange.f a b c = some (decide (b ≤ a ∧ a ≤ c)) := by
  unfold impl_InRange.f
  by_cases h : b ≤ a
  · rw [if_pos h]
    simp [h]
  · rw [if_neg h]
    simp [h]

theorem impl_IsTally_eq (i o r : Int) : impl_IsTally.f i o r = some (isTally i o r) := by
  unfold impl_IsTally.f isTally
  simp only [impl_InRange_eq, Option.bind_some, decide_eq_true_eq]
  repeat' split
  all_goals first
    | (refine congrArg some (decide_eq_decide.2 ?_); unfold wrap64; omega)
    | (refine congrArg some (Eq.symm (decide_eq_false ?_)); omega)

theorem impl_Inside_eq (i o r : Int) : impl_Inside.f i o r = some (if isTally i o r = true then i - o else -1) := by
  unfold impl_Inside.f
  rw [impl_IsTally_eq, Option.bind_some]
  by_cases h : isTally i o r = true
  · have h2 := (isTally_iff i o r).1 h
    rw [if_pos h, if_pos h, w64 (by omega) (by omega)]
  · rw [if_neg h, if_neg h]

theorem impl_TotalInside_ev (l : List S69) (hl : l.length ≤ 1048576) : Ev (fun k => impl_TotalInside.f k l) (insideSum l l.length) := by
  unfold impl_TotalInside.f
  refine loop (g := fun k j => impl_TotalInside.l0 k (insideSum l j) l (l.length : Int) (j : Int)) l.length ?_ ?_
  · intro j hj h
    have h1 := insideSum_range l j
    have h2 := insideAt_range l j
    refine shift ?_
    simp only [impl_TotalInside.l0]
    refine pos (nat_lt hj) (pos (by omega) (pos (nat_lt hj) (bindc (impl_Inside_eq _ _ _) ?_)))
    rw [succ_wrap (by omega)]
    show Ev (fun k => impl_TotalInside.l0 k (wrap64 (insideSum l j + insideAt l j)) _ _ _) _
    rw [w64 (by omega) (by omega)]
    exact h
  · refine shift ?_
    simp only [impl_TotalInside.l0]
    exact neg (nat_ge (Nat.le_refl _)) (now rfl)

theorem FnExactTotalInside (l : List S73) (hw : wfS 24 wf73 l) : ∃ k, laws_FnExactTotalInside.f k l = some true := by
  refine Ev.rounds ?_
  have hm := hw.2.1
  unfold laws_FnExactTotalInside.f
  obtain ⟨r, hr, _, hl⟩ := laws_szTallyS_eq l 1048576 (by omega) (by omega) (by omega)
  refine bindc hr ?_
  by_cases h : r < 0
  · exact pos h (now rfl)
  · have hl := hl h
    have hc : (l.map cTally).length ≤ 1048576 := by simpa using hl
    refine neg h (Ev.bind (laws_toTallyS_ev l hl) (Ev.bind (spec_TotalInside_ev _ hc) (Ev.bind (laws_toTallyS_ev l hl) (Ev.bind (impl_TotalInside_ev _ hc) ?_))))
    exact pos rfl (Ev.bind (laws_toTallyS_ev l hl) (Ev.bind (laws_eqTallyS_refl _ (by omega)) (pos rfl (now rfl))))

end Go.Proofs.Ytcbckejlljcnpaa.PureFnExactTotalInside
