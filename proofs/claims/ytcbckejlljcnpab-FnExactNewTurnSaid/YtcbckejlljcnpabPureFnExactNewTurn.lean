/- The pure statement of FnExactNewTurn: for all arguments of their kinds there is a number of rounds behind which the law answers true; condition: every number is one of Go's int, every slice is within the reach. -/
import Derived.Test.YtcbckejlljcnpabPFnExactNewTurnx0
import Derived.Test.YtcbckejlljcnpabPFnExactNewTurnx1
import Derived.Test.YtcbckejlljcnpabPFnExactNewTurnx2
import Derived.Test.YtcbckejlljcnpabPFnExactNewTurnx3
import Derived.Test.YtcbckejlljcnpabAid
namespace Go.Proofs.Ytcbckejlljcnpab.PureFnExactNewTurn
open Go.RowKit Go.Proofs.YtcbckejlljcnpabW.PrintWords Go.Proofs.YtcbckejlljcnpabW.PrintLast Go.Proofs.YtcbckejlljcnpabW.PrintMore Go.Proofs.Ytcbckejlljcnpab.PFnExactNewTurn Go.Proofs.Ytcbckejlljcnpab.Aid
set_option linter.unusedVariables false
set_option linter.unusedSimpArgs false


theorem spec_l1In_eq (a b c : Int) : spec_l1In.f a b c = some (decide (b ≤ a ∧ a ≤ c)) := by
  unfold spec_l1In.f
  by_cases h : b ≤ a
  · rw [if_pos h]
    simp [h]
  · rw [if_neg h]
    simp [h]

def okVote (v : List Int) (j : Nat) : Bool := decide (0 ≤ rd v j ∧ rd v j ≤ 2)
def isTurn (p a : Int) (v : List Int) : Bool := (List.range v.length).all (okVote v) && decide (1 ≤ p ∧ p ≤ 99 ∧ 0 ≤ a ∧ a ≤ 1000000 ∧ 1 ≤ v.length ∧ v.length ≤ 8)
theorem isTurn_iff (p a : Int) (v : List Int) : isTurn p a v = true ↔ (∀ j, j < v.length → 0 ≤ rd v j ∧ rd v j ≤ 2) ∧ 1 ≤ p ∧ p ≤ 99 ∧ 0 ≤ a ∧ a ≤ 1000000 ∧ 1 ≤ v.length ∧ v.length ≤ 8 := by
  unfold isTurn
  rw [Bool.and_eq_true, List.all_eq_true, decide_eq_true_iff]
  simp [okVote]
theorem spec_IsTurn_ev (p a : Int) (v : List Int) (hl : v.length ≤ 1048576) : Ev (fun k => spec_IsTurn.f k p a v) (isTurn p a v) := by
  unfold spec_IsTurn.f isTurn
  refine all_loop (g := fun k j => spec_IsTurn.l0 k (j : Int) p a v) v.length (okVote v) _ ?_ ?_ ?_
  · intro j r hj ok h
    have ok : 0 ≤ rd v j ∧ rd v j ≤ 2 := by simpa [okVote] using ok
    refine shift ?_
    simp only [spec_IsTurn.l0]
    refine pos (nat_lt hj) (pos (by omega) (bindc (spec_l1In_eq _ _ _) (pos (by simp [ok]) ?_)))
    rw [succ_wrap (by omega)]
    exact h
  · intro j hj ok
    have ok : ¬ (0 ≤ rd v j ∧ rd v j ≤ 2) := by simpa [okVote] using ok
    refine shift ?_
    simp only [spec_IsTurn.l0]
    exact pos (nat_lt hj) (pos (by omega) (bindc (spec_l1In_eq _ _ _) (neg (by simpa using ok) (now rfl))))
  · refine shift ?_
    simp only [spec_IsTurn.l0]
    refine neg (nat_ge (Nat.le_refl _)) (bindc (spec_l1In_eq _ _ _) ?_)
    by_cases h1 : 1 ≤ p ∧ p ≤ 99
    · refine pos (by simp [h1]) (bindc (spec_l1In_eq _ _ _) ?_)
      by_cases h2 : 0 ≤ a ∧ a ≤ 1000000
      · refine pos (by simp [h2]) (bindc (spec_l1In_eq _ _ _) (now ?_))
        exact decide_eq_decide.2 (by omega)
      · exact neg (by simpa using h2) (now (Eq.symm (decide_eq_false (by omega))))
    · exact neg (by simpa using h1) (now (Eq.symm (decide_eq_false (by omega))))

def newTurn (p a c : Int) : Int × Int × List Int × Bool := if 1 ≤ c ∧ c ≤ 8 ∧ isTurn p a (List.replicate c.toNat 0) = true then (p, a, List.replicate c.toNat 0, true) else (0, 0, [], false)
theorem isTurn_long (p a : Int) (v : List Int) (h : ¬ (1 ≤ v.length ∧ v.length ≤ 8)) : ¬ isTurn p a v = true := by
  rw [isTurn_iff]
  omega
theorem spec_NewTurn_ev (p a c : Int) (hc : I64 c) : Ev (fun k => spec_NewTurn.f k p a c) (newTurn p a c) := by
  unfold I64 at hc
  unfold spec_NewTurn.f
  have fin : ∀ n : Nat, n ≤ 9 → (n : Int) = mn (mx c 0) 9 → Ev (fun k => (spec_IsTurn.f k p a (List.replicate n 0)).bind fun t => if t = true then some (p, a, List.replicate n (0 : Int), true) else some (0, 0, [], false)) (newTurn p a c) := by
    intro n hn hm
    unfold mn mx at hm
    refine Ev.bind (spec_IsTurn_ev p a _ (by simp; omega)) ?_
    unfold newTurn
    by_cases h : isTurn p a (List.replicate n 0) = true
    · have h2 := (isTurn_iff _ _ _).1 h
      simp at h2
      have e : c.toNat = n := by omega
      refine pos h (now ?_)
      rw [e, if_pos ⟨by omega, by omega, h⟩]
    · refine neg h (now ?_)
      by_cases hr : 1 ≤ c ∧ c ≤ 8
      · have e : c.toNat = n := by omega
        rw [e, if_neg (fun q => h q.2.2)]
      · rw [if_neg (fun q => hr ⟨q.1, q.2.1⟩)]
  have hN : ∃ n : Nat, n ≤ 9 ∧ (n : Int) = mn (mx c 0) 9 := ⟨(mn (mx c 0) 9).toNat, by unfold mn mx; omega, by unfold mn mx; omega⟩
  obtain ⟨n, hn, hm⟩ := hN
  refine loop (g := fun k j => spec_NewTurn.l0 k c (j : Int) p a (List.replicate j 0)) n ?_ ?_
  · intro j hj h
    have hm2 := hm
    unfold mn mx at hm2
    refine shift ?_
    simp only [spec_NewTurn.l0]
    refine pos (by omega) (pos (by omega) (pos (by simp; omega) ?_))
    rw [succ_wrap (by omega), ← List.replicate_succ']
    exact h
  · have hm2 := hm
    unfold mn mx at hm2
    refine shift ?_
    simp only [spec_NewTurn.l0]
    by_cases h : (n : Int) < c
    · exact pos h (neg (by omega) (fin n hn hm))
    · exact neg h (fin n hn hm)

theorem impl_InRange_eq (a b c : Int) : impl_InRange.f a b c = some (decide (b ≤ a ∧ a ≤ c)) := by
  unfold impl_InRange.f
  by_cases h : b ≤ a
  · rw [if_pos h]
    simp [h]
  · rw [if_neg h]
    simp [h]

theorem impl_IsTurn_ev (p a : Int) (v : List Int) (hl : v.length ≤ 1048576) : Ev (fun k => impl_IsTurn.f k p a v) (isTurn p a v) := by
  unfold impl_IsTurn.f isTurn
  refine all_loop (g := fun k j => impl_IsTurn.l0 k v (v.length : Int) (j : Int) p a v) v.length (okVote v) _ ?_ ?_ ?_
  · intro j r hj ok h
    have ok : 0 ≤ rd v j ∧ rd v j ≤ 2 := by simpa [okVote] using ok
    refine shift ?_
    simp only [impl_IsTurn.l0]
    refine pos (nat_lt hj) (pos (by omega) (pos (nat_lt hj) (bindc (impl_InRange_eq _ _ _) (pos (by simp [ok]) ?_))))
    rw [succ_wrap (by omega)]
    exact h
  · intro j hj ok
    have ok : ¬ (0 ≤ rd v j ∧ rd v j ≤ 2) := by simpa [okVote] using ok
    refine shift ?_
    simp only [impl_IsTurn.l0]
    exact pos (nat_lt hj) (pos (by omega) (pos (nat_lt hj) (bindc (impl_InRange_eq _ _ _) (neg (by simpa using ok) (now rfl)))))
  · refine shift ?_
    simp only [impl_IsTurn.l0]
    refine neg (nat_ge (Nat.le_refl _)) (bindc (impl_InRange_eq _ _ _) ?_)
    by_cases h1 : 1 ≤ p ∧ p ≤ 99
    · refine pos (by simp [h1]) (bindc (impl_InRange_eq _ _ _) ?_)
      by_cases h2 : 0 ≤ a ∧ a ≤ 1000000
      · refine pos (by simp [h2]) (bindc (impl_InRange_eq _ _ _) (now ?_))
        exact decide_eq_decide.2 (by omega)
      · exact neg (by simpa using h2) (now (Eq.symm (decide_eq_false (by omega))))
    · exact neg (by simpa using h1) (now (Eq.symm (decide_eq_false (by omega))))

theorem impl_NewTurn_ev (p a c : Int) (hc : I64 c) : Ev (fun k => impl_NewTurn.f k p a c) (newTurn p a c) := by
  unfold impl_NewTurn.f newTurn
  refine bindc (impl_InRange_eq _ _ _) ?_
  by_cases h : 1 ≤ c ∧ c ≤ 8
  · refine pos (by simp [h]) (pos (by omega) (pos (by omega) (bindc rfl (Ev.bind (impl_IsTurn_ev p a _ (by simp; omega)) ?_))))
    by_cases h2 : isTurn p a (List.replicate c.toNat 0) = true
    · exact pos h2 (now (by rw [if_pos ⟨h.1, h.2, h2⟩]))
    · exact neg h2 (now (by rw [if_neg (fun q => h2 q.2.2)]))
  · exact neg (by simpa using h) (now (by rw [if_neg (fun q => h ⟨q.1, q.2.1⟩)]))

theorem laws_eqIntS_refl (l : List Int) (hl : l.length < 9223372036854775807) : Ev (fun k => laws_eqIntS.f k l l) true := by
  unfold laws_eqIntS.f
  refine pos rfl (loop (g := fun k j => laws_eqIntS.l0 k l l (j : Int)) l.length ?_ ?_)
  · intro j hj h
    refine shift ?_
    simp only [laws_eqIntS.l0]
    refine pos (nat_lt hj) (pos (by omega) (pos (nat_lt hj) (pos (by simp) ?_)))
    rw [succ_wrap (by omega)]
    exact h
  · refine shift ?_
    simp only [laws_eqIntS.l0]
    exact neg (nat_ge (Nat.le_refl _)) (now rfl)

theorem laws_eqTurn_refl (p a : Int) (l : List Int) (hl : l.length < 9223372036854775807) : Ev (fun k => laws_eqTurn.f k p a l p a l) true := by
  unfold laws_eqTurn.f
  exact pos rfl (pos rfl (Ev.bind (laws_eqIntS_refl l hl) (pos rfl (now rfl))))

theorem laws_markIntS_ev (l : List Int) (a : Int) (ha : 0 ≤ a) (ha2 : a ≤ 1000000000000) (hl : l.length ≤ 1000000000000) : Ev (fun k => laws_markIntS.f k l a) (a + l.length, iota a l.length) := by
  unfold laws_markIntS.f
  refine loop (g := fun k j => laws_markIntS.l0 k (iota a j ++ l.drop j) (a + (j : Int)) (j : Int)) l.length ?_ ?_ |> (fun h => by simpa [show iota a 0 = [] from rfl] using h)
  · intro j hj h
    refine shift ?_
    simp only [laws_markIntS.l0]
    refine pos (by simp [iota_length]; omega) (pos (by omega) ?_)
    rw [succ_wrap (by omega), w64 (by omega) (by omega), Int.toNat_natCast, iota_set a l j hj]
    have e : a + (j : Int) + 1 = a + ((j + 1 : Nat) : Int) := by omega
    rw [e]
    exact h
  · refine shift ?_
    simp only [laws_markIntS.l0]
    exact neg (by simp [iota_length]) (now (by simp))

theorem laws_markTurn_ev (p t : Int) (l : List Int) (a : Int) (ha : 0 ≤ a) (ha2 : a ≤ 1000000000000) (hl : l.length ≤ 1000000000000) : Ev (fun k => laws_markTurn.f k p t l a) (a + l.length, iota a l.length) := by
  unfold laws_markTurn.f
  exact Ev.bind (laws_markIntS_ev l a ha ha2 hl) (now rfl)

theorem laws_heldIntS_ev (a : Int) (n : Nat) (ha : 0 ≤ a) (ha2 : a ≤ 1000000000000) (hn : n ≤ 1000000000000) : Ev (fun k => laws_heldIntS.f k (iota a n) a) (a + n) := by
  unfold laws_heldIntS.f
  refine loop (g := fun k j => laws_heldIntS.l0 k (iota a n) (a + (j : Int)) (j : Int)) n ?_ ?_ |> (fun h => by simpa using h)
  · intro j hj h
    refine shift ?_
    simp only [laws_heldIntS.l0]
    refine pos (by rw [iota_length]; omega) (pos (by omega) (pos (iota_get a n j hj) ?_))
    rw [succ_wrap (by omega), w64 (by omega) (by omega)]
    have e : a + (j : Int) + 1 = a + ((j + 1 : Nat) : Int) := by omega
    rw [e]
    exact h
  · refine shift ?_
    simp only [laws_heldIntS.l0]
    exact neg (by rw [iota_length]; omega) (now rfl)

theorem laws_heldTurn_ev (p t : Int) (a : Int) (n : Nat) (ha : 0 ≤ a) (ha2 : a ≤ 1000000000000) (hn : n ≤ 1000000000000) : Ev (fun k => laws_heldTurn.f k p t (iota a n) a) (a + n) := by
  unfold laws_heldTurn.f
  exact Ev.bind (laws_heldIntS_ev a n ha ha2 hn) (neg (by omega) (now rfl))

theorem newTurn_short (p a c : Int) : (newTurn p a c).2.2.1.length ≤ 8 := by
  unfold newTurn
  split
  · simp
    omega
  · simp
theorem FnExactNewTurn (a0 : Int) (h0 : I64 a0) (a1 : Int) (h1 : I64 a1) (a2 : Int) (h2 : I64 a2) : ∃ k, laws_FnExactNewTurn.f k a0 a1 a2 = some true := by
  refine Ev.rounds ?_
  have hs := newTurn_short a0 a1 a2
  unfold laws_FnExactNewTurn.f
  refine Ev.bind (spec_NewTurn_ev _ _ _ h2) (Ev.bind (impl_NewTurn_ev _ _ _ h2) (Ev.bind (laws_eqTurn_refl _ _ _ (by omega)) (pos rfl (shift ?_))))
  simp only [laws_FnExactNewTurn.j0]
  refine neg (by simp) (Ev.bind (laws_markTurn_ev _ _ _ _ (by omega) (by omega) (by omega)) (Ev.bind (laws_heldTurn_ev _ _ _ _ (by omega) (by omega) (by omega)) (neg (by omega) (pos rfl (Ev.bind (impl_NewTurn_ev _ _ _ h2) (Ev.bind (laws_eqTurn_refl _ _ _ (by omega)) (pos rfl (shift ?_))))))))
  simp only [laws_FnExactNewTurn.j1]
  exact neg (by simp) (Ev.bind (laws_heldTurn_ev _ _ _ _ (by omega) (by omega) (by omega)) (neg (by omega) (pos rfl (now rfl))))

end Go.Proofs.Ytcbckejlljcnpab.PureFnExactNewTurn
