/- The pure statement of FnExactPromises: for all arguments of their kinds there is a number of rounds behind which the law answers true; condition: every number is one of Go's int, every slice is within the reach. -/
import Derived.Test.YtcbckejlljcnpaaPFnExactPromisesx0
import Derived.Test.YtcbckejlljcnpaaPFnExactPromisesx1
import Derived.Test.YtcbckejlljcnpaaPFnExactPromisesx2
import Derived.Test.YtcbckejlljcnpaaAid
namespace Go.Proofs.Ytcbckejlljcnpaa.PureFnExactPromises
open Go.RowKit Go.Proofs.YtcbckejlljcnpaaW.PrintWords Go.Proofs.YtcbckejlljcnpaaW.PrintLast Go.Proofs.YtcbckejlljcnpaaW.PrintMore Go.Proofs.Ytcbckejlljcnpaa.PFnExactPromises Go.Proofs.Ytcbckejlljcnpaa.Aid
set_option linter.unusedVariables false
set_option linter.unusedSimpArgs false

/-- Every number of it is one of Go's int, every slice within the reach. -/
def wf55 (x : S55) : Prop := I64 x.f0 ∧ I64 x.f1 ∧ I64 x.f2 ∧ I64 x.f3

theorem laws_szServiceS_eq (l : List S55) (a : Int) (ha : 0 ≤ a) (ha2 : a ≤ 1048576) (hl : l.length ≤ 140737488355328) : ∃ r, laws_szServiceS.f l a = some r ∧ r ≤ a ∧ (¬ r < 0 → l.length ≤ 1048576) := by
  unfold laws_szServiceS.f
  rw [w64 (by omega) (by omega)]
  by_cases h : a - (l.length : Int) < 0
  · exact ⟨-1, by rw [if_pos h], by omega, by omega⟩
  · exact ⟨_, by rw [if_neg h], by omega, by omega⟩

def okWait (l : List S53) (w : Int) (j : Nat) : Bool := decide ((rd_T53 l j).f2 ≤ w)
def promised (l : List S53) (w : Int) : Bool := (List.range l.length).all (okWait l w) && true
theorem spec_Promises_ev (l : List S53) (w : Int) (hl : l.length ≤ 1048576) : Ev (fun k => spec_Promises.f k l w) (promised l w) := by
  unfold spec_Promises.f
  refine all_loop (g := fun k j => spec_Promises.l0 k l w (j : Int)) l.length (okWait l w) _ ?_ ?_ ?_
  · intro j r hj ok h
    have ok : (rd_T53 l j).f2 ≤ w := by simpa [okWait] using ok
    refine shift ?_
    simp only [spec_Promises.l0]
    refine pos (nat_lt hj) (pos (by omega) (neg (by omega) ?_))
    rw [succ_wrap (by omega)]
    exact h
  · intro j hj ok
    have ok : ¬ (rd_T53 l j).f2 ≤ w := by simpa [okWait] using ok
    refine shift ?_
    simp only [spec_Promises.l0]
    exact pos (nat_lt hj) (pos (by omega) (pos (by omega) (now rfl)))
  · refine shift ?_
    simp only [spec_Promises.l0]
    exact neg (nat_ge (Nat.le_refl _)) (now rfl)

def cService (x : S55) : S53 := ⟨x.f0, x.f1, x.f2, x.f3⟩
theorem laws_toServiceS_ev (l : List S55) (hl : l.length ≤ 1048576) : Ev (fun k => laws_toServiceS.f k l) (l.map cService) := by
  unfold laws_toServiceS.f
  refine pos (by omega) (pos (by omega) ?_)
  exact copied (g := fun k y i => laws_toServiceS.l0 k l y i) l cService z53 (fun j hj y r hy h => by
    refine shift ?_
    simp only [laws_toServiceS.l0]
    refine pos (nat_lt hj) (pos (by omega) (bindc rfl (pos (by omega) ?_)))
    rw [succ_wrap (by omega)]
    simpa [rd_T55, cService, hj] using h) (fun y => by
    refine shift ?_
    simp only [laws_toServiceS.l0]
    exact neg (nat_ge (Nat.le_refl _)) (now rfl))

theorem impl_Promises_ev (l : List S53) (w : Int) (hl : l.length ≤ 1048576) : Ev (fun k => impl_Promises.f k l w) (promised l w) := by
  unfold impl_Promises.f
  refine all_loop (g := fun k j => impl_Promises.l0 k w l (l.length : Int) (j : Int)) l.length (okWait l w) _ ?_ ?_ ?_
  · intro j r hj ok h
    have ok : (rd_T53 l j).f2 ≤ w := by simpa [okWait] using ok
    refine shift ?_
    simp only [impl_Promises.l0]
    refine pos (nat_lt hj) (pos (by omega) (pos (nat_lt hj) (neg (by omega) ?_)))
    rw [succ_wrap (by omega)]
    exact h
  · intro j hj ok
    have ok : ¬ (rd_T53 l j).f2 ≤ w := by simpa [okWait] using ok
    refine shift ?_
    simp only [impl_Promises.l0]
    exact pos (nat_lt hj) (pos (by omega) (pos (nat_lt hj) (pos (by omega) (now rfl))))
  · refine shift ?_
    simp only [impl_Promises.l0]
    exact neg (nat_ge (Nat.le_refl _)) (now rfl)

theorem laws_eqServiceS_refl (l : List S53) (hl : l.length < 9223372036854775807) : Ev (fun k => laws_eqServiceS.f k l l) true := by
  unfold laws_eqServiceS.f
  refine pos rfl (loop (g := fun k j => laws_eqServiceS.l0 k l l (j : Int)) l.length ?_ ?_)
  · intro j hj h
    refine shift ?_
    simp only [laws_eqServiceS.l0]
    refine pos (nat_lt hj) (pos (by omega) (pos (nat_lt hj) (bindc (a := true) (by simp [laws_eqService.f]) (pos (by simp) ?_))))
    rw [succ_wrap (by omega)]
    exact h
  · refine shift ?_
    simp only [laws_eqServiceS.l0]
    exact neg (nat_ge (Nat.le_refl _)) (now rfl)

theorem FnExactPromises (l : List S55) (hw : wfS 32 wf55 l) (a1 : Int) (h1 : I64 a1) : ∃ k, laws_FnExactPromises.f k l a1 = some true := by
  refine Ev.rounds ?_
  have hm := hw.2.1
  unfold laws_FnExactPromises.f
  obtain ⟨r, hr, _, hl⟩ := laws_szServiceS_eq l 1048576 (by omega) (by omega) (by omega)
  refine bindc hr ?_
  by_cases h : r < 0
  · exact pos h (now rfl)
  · have hl := hl h
    have hc : (l.map cService).length ≤ 1048576 := by simpa using hl
    refine neg h (Ev.bind (laws_toServiceS_ev l hl) (Ev.bind (spec_Promises_ev _ _ hc) (Ev.bind (laws_toServiceS_ev l hl) (Ev.bind (impl_Promises_ev _ _ hc) ?_))))
    exact neg (by simp) (Ev.bind (laws_toServiceS_ev l hl) (Ev.bind (laws_eqServiceS_refl _ (by omega)) (pos rfl (now rfl))))

end Go.Proofs.Ytcbckejlljcnpaa.PureFnExactPromises
