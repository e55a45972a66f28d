/- The pure statement of FnExactWaitingOn: for all arguments of their kinds there is a number of rounds behind which the law answers true; condition: every number is one of Go's int, every slice is within the reach. -/
import Derived.Test.YtcbckejlljcnpaaPFnExactWaitingOnx0
import Derived.Test.YtcbckejlljcnpaaPFnExactWaitingOnx1
import Derived.Test.YtcbckejlljcnpaaPFnExactWaitingOnx2
import Derived.Test.YtcbckejlljcnpaaAid
namespace Go.Proofs.Ytcbckejlljcnpaa.PureFnExactWaitingOn
open Go.RowKit Go.Proofs.YtcbckejlljcnpaaW.PrintWords Go.Proofs.YtcbckejlljcnpaaW.PrintLast Go.Proofs.YtcbckejlljcnpaaW.PrintMore Go.Proofs.Ytcbckejlljcnpaa.PFnExactWaitingOn Go.Proofs.Ytcbckejlljcnpaa.Aid
set_option linter.unusedVariables false
set_option linter.unusedSimpArgs false

/-- Every number of it is one of Go's int, every slice within the reach. -/
def wf60 (x : S60) : Prop := I64 x.f0 ∧ I64 x.f1 ∧ I64 x.f2 ∧ I64 x.f3

theorem laws_szCarS_eq (l : List S60) (a : Int) (ha : 0 ≤ a) (ha2 : a ≤ 1048576) (hl : l.length ≤ 140737488355328) : ∃ r, laws_szCarS.f l a = some r ∧ r ≤ a ∧ (¬ r < 0 → l.length ≤ 1048576) := by
  unfold laws_szCarS.f
  rw [w64 (by omega) (by omega)]
  by_cases h : a - (l.length : Int) < 0
  · exact ⟨-1, by rw [if_pos h], by omega, by omega⟩
  · exact ⟨_, by rw [if_neg h], by omega, by omega⟩

def waitsOn (l : List S58) (s : Int) (j : Nat) : Bool := decide ((rd_T58 l j).f1 = s ∧ (rd_T58 l j).f2 = 0)
def waitCount (l : List S58) (s : Int) (j : Nat) : Nat := (List.range j).countP (waitsOn l s)
theorem waitCount_le (l : List S58) (s : Int) (j : Nat) : waitCount l s j ≤ j := by
  have := List.countP_le_length (p := waitsOn l s) (l := List.range j)
  simpa [waitCount] using this
theorem waitCount_yes (l : List S58) (s : Int) (j : Nat) (h : waitsOn l s j = true) : waitCount l s (j + 1) = waitCount l s j + 1 := by
  simp [waitCount, List.range_succ, List.countP_append, h]
theorem waitCount_no (l : List S58) (s : Int) (j : Nat) (h : ¬ waitsOn l s j = true) : waitCount l s (j + 1) = waitCount l s j := by
  simp [waitCount, List.range_succ, List.countP_append, h]
theorem spec_WaitingOn_ev (l : List S58) (s : Int) (hl : l.length ≤ 1048576) : Ev (fun k => spec_WaitingOn.f k l s) (waitCount l s l.length : Int) := by
  unfold spec_WaitingOn.f
  refine loop (g := fun k j => spec_WaitingOn.l0 k l s (waitCount l s j : Int) (j : Int)) l.length ?_ ?_
  · intro j hj h
    have hc := waitCount_le l s j
    refine shift ?_
    simp only [spec_WaitingOn.l0]
    refine pos (nat_lt hj) (pos (by omega) ?_)
    rw [succ_wrap (j := j) (by omega)]
    by_cases hw : waitsOn l s j = true
    · rw [waitCount_yes l s j hw] at h
      have hw2 : (rd_T58 l j).f1 = s ∧ (rd_T58 l j).f2 = 0 := by simpa [waitsOn] using hw
      refine pos hw2.1 (pos hw2.2 ?_)
      rw [succ_wrap (j := waitCount l s j) (by omega)]
      exact h
    · rw [waitCount_no l s j hw] at h
      have hw2 : ¬ ((rd_T58 l j).f1 = s ∧ (rd_T58 l j).f2 = 0) := by simpa [waitsOn] using hw
      by_cases h1 : (rd_T58 l j).f1 = s
      · exact pos h1 (neg (fun q => hw2 ⟨h1, q⟩) h)
      · exact neg h1 h
  · refine shift ?_
    simp only [spec_WaitingOn.l0]
    exact neg (nat_ge (Nat.le_refl _)) (now rfl)

def cCar (x : S60) : S58 := ⟨x.f0, x.f1, x.f2, x.f3⟩
theorem laws_toCarS_ev (l : List S60) (hl : l.length ≤ 1048576) : Ev (fun k => laws_toCarS.f k l) (l.map cCar) := by
  unfold laws_toCarS.f
  refine pos (by omega) (pos (by omega) ?_)
  exact copied (g := fun k y i => laws_toCarS.l0 k l y i) l cCar z58 (fun j hj y r hy h => by
    refine shift ?_
    simp only [laws_toCarS.l0]
    refine pos (nat_lt hj) (pos (by omega) (bindc rfl (pos (by omega) ?_)))
    rw [succ_wrap (by omega)]
    simpa [rd_T60, cCar, hj] using h) (fun y => by
    refine shift ?_
    simp only [laws_toCarS.l0]
    exact neg (nat_ge (Nat.le_refl _)) (now rfl))

theorem impl_WaitingOn_ev (l : List S58) (s : Int) (hl : l.length ≤ 1048576) : Ev (fun k => impl_WaitingOn.f k l s) (waitCount l s l.length : Int) := by
  unfold impl_WaitingOn.f
  refine loop (g := fun k j => impl_WaitingOn.l0 k s (waitCount l s j : Int) l (l.length : Int) (j : Int)) l.length ?_ ?_
  · intro j hj h
    have hc := waitCount_le l s j
    refine shift ?_
    simp only [impl_WaitingOn.l0]
    refine pos (nat_lt hj) (pos (by omega) (pos (nat_lt hj) ?_))
    rw [succ_wrap (j := j) (by omega)]
    by_cases hw : waitsOn l s j = true
    · rw [waitCount_yes l s j hw] at h
      have hw2 : (rd_T58 l j).f1 = s ∧ (rd_T58 l j).f2 = 0 := by simpa [waitsOn] using hw
      refine pos hw2.1 (pos hw2.2 ?_)
      rw [succ_wrap (j := waitCount l s j) (by omega)]
      exact h
    · rw [waitCount_no l s j hw] at h
      have hw2 : ¬ ((rd_T58 l j).f1 = s ∧ (rd_T58 l j).f2 = 0) := by simpa [waitsOn] using hw
      by_cases h1 : (rd_T58 l j).f1 = s
      · exact pos h1 (neg (fun q => hw2 ⟨h1, q⟩) h)
      · exact neg h1 h
  · refine shift ?_
    simp only [impl_WaitingOn.l0]
    exact neg (nat_ge (Nat.le_refl _)) (now rfl)

theorem laws_eqCarS_refl (l : List S58) (hl : l.length < 9223372036854775807) : Ev (fun k => laws_eqCarS.f k l l) true := by
  unfold laws_eqCarS.f
  refine pos rfl (loop (g := fun k j => laws_eqCarS.l0 k l l (j : Int)) l.length ?_ ?_)
  · intro j hj h
    refine shift ?_
    simp only [laws_eqCarS.l0]
    refine pos (nat_lt hj) (pos (by omega) (pos (nat_lt hj) (bindc (a := true) (by simp [laws_eqCar.f]) (pos (by simp) ?_))))
    rw [succ_wrap (by omega)]
    exact h
  · refine shift ?_
    simp only [laws_eqCarS.l0]
    exact neg (nat_ge (Nat.le_refl _)) (now rfl)

theorem FnExactWaitingOn (l : List S60) (hw : wfS 32 wf60 l) (a1 : Int) (h1 : I64 a1) : ∃ k, laws_FnExactWaitingOn.f k l a1 = some true := by
  refine Ev.rounds ?_
  have hm := hw.2.1
  unfold laws_FnExactWaitingOn.f
  obtain ⟨r, hr, _, hl⟩ := laws_szCarS_eq l 1048576 (by omega) (by omega) (by omega)
  refine bindc hr ?_
  by_cases h : r < 0
  · exact pos h (now rfl)
  · have hl := hl h
    have hc : (l.map cCar).length ≤ 1048576 := by simpa using hl
    refine neg h (Ev.bind (laws_toCarS_ev l hl) (Ev.bind (spec_WaitingOn_ev _ _ hc) (Ev.bind (laws_toCarS_ev l hl) (Ev.bind (impl_WaitingOn_ev _ _ hc) ?_))))
    exact pos rfl (Ev.bind (laws_toCarS_ev l hl) (Ev.bind (laws_eqCarS_refl _ (by omega)) (pos rfl (now rfl))))

end Go.Proofs.Ytcbckejlljcnpaa.PureFnExactWaitingOn
