/- The pure statement of FnExactVoteTurn: for all arguments of their kinds there is a number of rounds behind which the law answers true; condition: every number is one of Go's int, every slice is within the reach. -/
import Derived.Test.YtcbckejlljcnpacPFnExactVoteTurnx0
import Derived.Test.YtcbckejlljcnpacPFnExactVoteTurnx1
import Derived.Test.YtcbckejlljcnpacPFnExactVoteTurnx2
import Derived.Test.YtcbckejlljcnpacPFnExactVoteTurnx3
import Derived.Test.YtcbckejlljcnpacPFnExactVoteTurnx4
import Derived.Test.YtcbckejlljcnpacPFnExactVoteTurnx5
import Derived.Test.YtcbckejlljcnpacAid
namespace Go.Proofs.Ytcbckejlljcnpac.PureFnExactVoteTurn
open Go.RowKit Go.Proofs.YtcbckejlljcnpacW.PrintWords Go.Proofs.YtcbckejlljcnpacW.PrintLast Go.Proofs.YtcbckejlljcnpacW.PrintMore Go.Proofs.Ytcbckejlljcnpac.PFnExactVoteTurn Go.Proofs.Ytcbckejlljcnpac.Aid
set_option linter.unusedVariables false
set_option linter.unusedSimpArgs false

/-! #### struct type 39 -/
structure S39 where
  f0 : Int
  f1 : Int
  f2 : (List Int)
def z39 : S39 := ⟨(0 : Int), (0 : Int), ([] : List Int)⟩
def k39 : Kd S39 := Kd.iso (Kd.pair (Kd.int .i64) (Kd.pair (Kd.int .i64) (Kd.slice 3 (Kd.int .i64)))) (fun x : S39 => (x.f0, x.f1, x.f2))
theorem k39_open {w : World} {x : S39} {cs : List Value} (h : k39.K w x cs) : ∃ A2 c2, cs = [.int .i64 x.f0, .int .i64 x.f1, .slice A2 x.f2.length c2] ∧ x.f2.length ≤ c2 ∧ (Kd.int .i64).C w A2 x.f2.length x.f2 := by
  obtain ⟨_, _, rfl, rfl, ⟨_, _, rfl, rfl, ⟨A2, c2, rfl, l2, g2⟩⟩⟩ := h
  exact ⟨A2, c2, rfl, l2, g2⟩
theorem k39_openM {w : World} {base : Nat} {ok : Nat → Prop} {x : S39} {cs : List Value} (h : k39.M w base ok x cs) : ∃ v2, cs = [.int .i64 x.f0, .int .i64 x.f1, v2] ∧ (Kd.int .i64).R 3 w base ok v2 x.f2 := by
  obtain ⟨_, _, rfl, rfl, ⟨_, _, rfl, rfl, ⟨v2, rfl, g2⟩⟩⟩ := h
  exact ⟨v2, rfl, g2⟩
theorem k39_mk (w : World) (x : S39) {A2 : Option Addr} {c2 : Nat} (l2 : x.f2.length ≤ c2) (g2 : (Kd.int .i64).C w A2 x.f2.length x.f2) : k39.K w x [.int .i64 x.f0, .int .i64 x.f1, .slice A2 x.f2.length c2] := ⟨[.int .i64 x.f0], [.int .i64 x.f1, .slice A2 x.f2.length c2], rfl, rfl, ⟨[.int .i64 x.f1], [.slice A2 x.f2.length c2], rfl, rfl, ⟨A2, c2, rfl, l2, g2⟩⟩⟩
theorem k39_mkM (w : World) (base : Nat) (ok : Nat → Prop) (x : S39) {v2 : Value} (g2 : (Kd.int .i64).R 3 w base ok v2 x.f2) : k39.M w base ok x [.int .i64 x.f0, .int .i64 x.f1, v2] := ⟨[.int .i64 x.f0], [.int .i64 x.f1, v2], rfl, rfl, ⟨[.int .i64 x.f1], [v2], rfl, rfl, ⟨v2, rfl, g2⟩⟩⟩
def rd_T39 (xs : List S39) (i : Int) : S39 := xs.getD i.toNat z39
theorem at_T39 {w : World} {A : Option Addr} {n : Nat} {xs : List S39} (h : Kd.C k39 w A n xs) (i : Int) (h0 : 0 ≤ i) (h1 : i < n) : ∃ ad A2 c2, A = some ad ∧ w.cell? (ad.add (i.toNat * 3)) = some (.int .i64 (rd_T39 xs i).f0) ∧ w.cell? ⟨(ad.add (i.toNat * 3)).block, (ad.add (i.toNat * 3)).off + 1, none⟩ = some (.int .i64 (rd_T39 xs i).f1) ∧ w.cell? ⟨(ad.add (i.toNat * 3)).block, (ad.add (i.toNat * 3)).off + 2, none⟩ = some (.slice A2 (rd_T39 xs i).f2.length c2) ∧ (rd_T39 xs i).f2.length ≤ c2 ∧ (Kd.int .i64).C w A2 (rd_T39 xs i).f2.length (rd_T39 xs i).f2 := by
  obtain ⟨ad, c, e, _, hK, hc0⟩ := Kd.C_get h z39 i h0 h1
  have hc : ∀ j u, c[j]? = some u → w.cell? (ad.add (i.toNat * 3 + j)) = some u := hc0
  obtain ⟨A2, c2, rfl, l2, g2⟩ := k39_open hK
  exact ⟨ad, A2, c2, e, hc 0 _ rfl, by rw [← add_field _ _ 1 (by omega)]; exact hc 1 _ rfl, by rw [← add_field _ _ 2 (by omega)]; exact hc 2 _ rfl, l2, g2⟩

/-- Every number of it is one of Go's int, every slice within the reach. -/
def wf39 (x : S39) : Prop := I64 x.f0 ∧ I64 x.f1 ∧ (wfS 8 I64) x.f2

theorem laws_szIntS_eq (l : List Int) (a : Int) (ha : 0 ≤ a) (ha2 : a ≤ 1048576) (hl : l.length ≤ 140737488355328) : ∃ r, laws_szIntS.f l a = some r ∧ r ≤ a ∧ (¬ r < 0 → l.length ≤ 1048576) := by
  unfold laws_szIntS.f
  rw [w64 (by omega) (by omega)]
  by_cases h : a - (l.length : Int) < 0
  · exact ⟨-1, by rw [if_pos h], by omega, by omega⟩
  · exact ⟨_, by rw [if_neg h], by omega, by omega⟩

theorem laws_szTurn_eq (p t : Int) (l : List Int) (a : Int) (ha : 0 ≤ a) (ha2 : a ≤ 1048576) (hl : l.length ≤ 140737488355328) : ∃ r, laws_szTurn.f p t l a = some r ∧ r ≤ a ∧ (¬ r < 0 → l.length ≤ 1048576) := by
  unfold laws_szTurn.f
  obtain ⟨r, h1, h2, h3⟩ := laws_szIntS_eq l a ha ha2 hl
  rw [h1, Option.bind_some]
  by_cases h : r < 0
  · exact ⟨-1, by rw [if_pos h], by omega, by omega⟩
  · exact ⟨r, by rw [if_neg h], h2, h3⟩

theorem laws_toIntS_ev (l : List Int) (hl : l.length ≤ 17592186044416) : Ev (fun k => laws_toIntS.f k l) l := by
  unfold laws_toIntS.f
  refine pos (by omega) (pos (by omega) ?_)
  have h := copied (g := fun k y i => laws_toIntS.l0 k l y i) l id 0 (fun j hj y r hy h => by
    refine shift ?_
    simp only [laws_toIntS.l0]
    refine pos (nat_lt hj) (pos (by omega) (pos (by omega) ?_))
    rw [rd_get _ _ hj, succ_wrap (by omega)]
    exact h) (fun y => by
    refine shift ?_
    simp only [laws_toIntS.l0]
    exact neg (nat_ge (Nat.le_refl _)) (now rfl))
  simpa using h

theorem laws_toTurn_ev (p t : Int) (l : List Int) (hl : l.length ≤ 1048576) : Ev (fun k => laws_toTurn.f k p t l) (p, t, l) := by
  unfold laws_toTurn.f
  exact Ev.bind (laws_toIntS_ev l (by omega)) (now rfl)

theorem laws_eqIntS_refl (l : List Int) (hl : l.length < 9223372036854775807) : Ev (fun k => laws_eqIntS.f k l l) true := by
  unfold laws_eqIntS.f
  refine pos rfl (loop (g := fun k j => laws_eqIntS.l0 k l l (j : Int)) l.length ?_ ?_)
  · intro j hj h
    refine shift ?_
    simp only [laws_eqIntS.l0]
    refine pos (nat_lt hj) (pos (by omega) (pos (nat_lt hj) (pos (by simp) ?_)))
    rw [succ_wrap (by omega)]
    exact h
  · refine shift ?_
    simp only [laws_eqIntS.l0]
    exact neg (nat_ge (Nat.le_refl _)) (now rfl)

theorem laws_eqTurn_refl (p a : Int) (l : List Int) (hl : l.length < 9223372036854775807) : Ev (fun k => laws_eqTurn.f k p a l p a l) true := by
  unfold laws_eqTurn.f
  exact pos rfl (pos rfl (Ev.bind (laws_eqIntS_refl l hl) (pos rfl (now rfl))))

theorem spec_l1In_eq (a b c : Int) : spec_l1In.f a b c = some (decide (b ≤ a ∧ a ≤ c)) := by
  unfold spec_l1In.f
  by_cases h : b ≤ a
  · rw [if_pos h]
    simp [h]
  · rw [if_neg h]
    simp [h]

def okVote (v : List Int) (j : Nat) : Bool := decide (0 ≤ rd v j ∧ rd v j ≤ 2)
def isTurn (p a : Int) (v : List Int) : Bool := (List.range v.length).all (okVote v) && decide (1 ≤ p ∧ p ≤ 99 ∧ 0 ≤ a ∧ a ≤ 1000000 ∧ 1 ≤ v.length ∧ v.length ≤ 8)
theorem isTurn_iff (p a : Int) (v : List Int) : isTurn p a v = true ↔ (∀ j, j < v.length → 0 ≤ rd v j ∧ rd v j ≤ 2) ∧ 1 ≤ p ∧ p ≤ 99 ∧ 0 ≤ a ∧ a ≤ 1000000 ∧ 1 ≤ v.length ∧ v.length ≤ 8 := by
  unfold isTurn
  rw [Bool.and_eq_true, List.all_eq_true, decide_eq_true_iff]
  simp [okVote]
theorem spec_IsTurn_ev (p a : Int) (v : List Int) (hl : v.length ≤ 1048576) : Ev (fun k => spec_IsTurn.f k p a v) (isTurn p a v) := by
  unfold spec_IsTurn.f isTurn
  refine all_loop (g := fun k j => spec_IsTurn.l0 k (j : Int) p a v) v.length (okVote v) _ ?_ ?_ ?_
  · intro j r hj ok h
    have ok : 0 ≤ rd v j ∧ rd v j ≤ 2 := by simpa [okVote] using ok
    refine shift ?_
    simp only [spec_IsTurn.l0]
    refine pos (nat_lt hj) (pos (by omega) (bindc (spec_l1In_eq _ _ _) (pos (by simp [ok]) ?_)))
    rw [succ_wrap (by omega)]
    exact h
  · intro j hj ok
    have ok : ¬ (0 ≤ rd v j ∧ rd v j ≤ 2) := by simpa [okVote] using ok
    refine shift ?_
    simp only [spec_IsTurn.l0]
    exact pos (nat_lt hj) (pos (by omega) (bindc (spec_l1In_eq _ _ _) (neg (by simpa using ok) (now rfl))))
  · refine shift ?_
    simp only [spec_IsTurn.l0]
    refine neg (nat_ge (Nat.le_refl _)) (bindc (spec_l1In_eq _ _ _) ?_)
    by_cases h1 : 1 ≤ p ∧ p ≤ 99
    · refine pos (by simp [h1]) (bindc (spec_l1In_eq _ _ _) ?_)
      by_cases h2 : 0 ≤ a ∧ a ≤ 1000000
      · refine pos (by simp [h2]) (bindc (spec_l1In_eq _ _ _) (now ?_))
        exact decide_eq_decide.2 (by omega)
      · exact neg (by simpa using h2) (now (Eq.symm (decide_eq_false (by omega))))
    · exact neg (by simpa using h1) (now (Eq.symm (decide_eq_false (by omega))))

def mayVote (p a : Int) (v : List Int) (c n : Int) : Bool := isTurn p a v && decide (1 ≤ c ∧ c ≤ v.length ∧ rd v (c - 1) = 0 ∧ n < a)
theorem mayVote_iff (p a : Int) (v : List Int) (c n : Int) : mayVote p a v c n = true ↔ isTurn p a v = true ∧ 1 ≤ c ∧ c ≤ v.length ∧ rd v (c - 1) = 0 ∧ n < a := by
  unfold mayVote
  rw [Bool.and_eq_true, decide_eq_true_iff]
def voteTurn (p a : Int) (v : List Int) (c : Int) (yes : Bool) (n : Int) : Int × Int × List Int × Bool :=
  if mayVote p a v c n = true then (p, a, v.set (c - 1).toNat (if yes = true then 1 else 2), true) else (p, a, v, false)
theorem voteTurn_length (p a : Int) (v : List Int) (c : Int) (yes : Bool) (n : Int) : (voteTurn p a v c yes n).2.2.1.length = v.length := by
  unfold voteTurn
  split <;> simp
theorem spec_VoteTurn_no (k : Nat) (c : Int) (yes : Bool) (p a : Int) (v : List Int) : spec_VoteTurn.j0 (k + 1) c yes true p a v = some (p, a, v, false) := by
  simp [spec_VoteTurn.j0]
theorem spec_VoteTurn_ev (p a : Int) (v : List Int) (c : Int) (yes : Bool) (n : Int) (hl : v.length ≤ 1048576) : Ev (fun k => spec_VoteTurn.f k p a v c yes n) (voteTurn p a v c yes n) := by
  unfold spec_VoteTurn.f
  refine bindc rfl (pos (by simp; omega) (bindc rfl (Ev.bind (spec_IsTurn_ev p a v hl) ?_)))
  have no : ¬ mayVote p a v c n = true → Ev (fun k => spec_VoteTurn.j0 k c yes true p a v) (voteTurn p a v c yes n) := by
    intro h
    refine Ev.step (fun k => spec_VoteTurn_no k c yes p a v) (now ?_)
    unfold voteTurn
    rw [if_neg h]
  rw [List.nil_append]
  by_cases h1 : isTurn p a v = true
  · refine pos h1 (bindc (spec_l1In_eq _ _ _) ?_)
    by_cases h2 : 1 ≤ c ∧ c ≤ v.length
    · rw [w64 (x := c - 1) (by omega) (by omega)]
      refine pos (by simp; omega) (pos (by omega) (pos (by omega) ?_))
      by_cases h3 : rd v (c - 1) = 0
      · refine pos h3 ?_
        by_cases h4 : n ≥ a
        · rw [decide_eq_true h4]
          exact no (fun q => by have := (mayVote_iff _ _ _ _ _).1 q; omega)
        · rw [decide_eq_false h4]
          refine shift ?_
          simp only [spec_VoteTurn.j0]
          rw [w64 (x := c - 1) (by omega) (by omega)]
          refine neg (by simp) (pos (by omega) (pos (by omega) (bindc rfl ?_)))
          have hm := (mayVote_iff p a v c n).2 ⟨h1, h2.1, h2.2, h3, by omega⟩
          cases yes with
          | true => exact pos rfl (now (by unfold voteTurn; rw [if_pos hm, if_pos rfl, List.set_set]))
          | false => exact neg (by simp) (now (by unfold voteTurn; rw [if_pos hm, if_neg (by simp)]))
      · exact neg h3 (no (fun q => h3 ((mayVote_iff _ _ _ _ _).1 q).2.2.2.1))
    · exact neg (by simp; omega) (no (fun q => h2 ⟨((mayVote_iff _ _ _ _ _).1 q).2.1, ((mayVote_iff _ _ _ _ _).1 q).2.2.1⟩))
  · exact neg h1 (no (fun q => h1 ((mayVote_iff _ _ _ _ _).1 q).1))

theorem impl_InRange_eq (a b c : Int) : impl_InRange.f a b c = some (decide (b ≤ a ∧ a ≤ c)) := by
  unfold impl_InRange.f
  by_cases h : b ≤ a
  · rw [if_pos h]
    simp [h]
  · rw [if_neg h]
    simp [h]

theorem slices_Clone_int_int_eq (l : List Int) (hl : l.length ≤ 1048576) : slices_Clone_int_int.f l = some l := by
  unfold slices_Clone_int_int.f
  rw [Option.bind_some, if_pos (by simp; omega)]
  simp

theorem impl_cloneTurn_eq (p a : Int) (v : List Int) (hl : v.length ≤ 1048576) : impl_cloneTurn.f p a v = some (p, a, v) := by
  unfold impl_cloneTurn.f
  rw [slices_Clone_int_int_eq v hl]
  rfl

theorem impl_IsTurn_ev (p a : Int) (v : List Int) (hl : v.length ≤ 1048576) : Ev (fun k => impl_IsTurn.f k p a v) (isTurn p a v) := by
  unfold impl_IsTurn.f isTurn
  refine all_loop (g := fun k j => impl_IsTurn.l0 k v (v.length : Int) (j : Int) p a v) v.length (okVote v) _ ?_ ?_ ?_
  · intro j r hj ok h
    have ok : 0 ≤ rd v j ∧ rd v j ≤ 2 := by simpa [okVote] using ok
    refine shift ?_
    simp only [impl_IsTurn.l0]
    refine pos (nat_lt hj) (pos (by omega) (pos (nat_lt hj) (bindc (impl_InRange_eq _ _ _) (pos (by simp [ok]) ?_))))
    rw [succ_wrap (by omega)]
    exact h
  · intro j hj ok
    have ok : ¬ (0 ≤ rd v j ∧ rd v j ≤ 2) := by simpa [okVote] using ok
    refine shift ?_
    simp only [impl_IsTurn.l0]
    exact pos (nat_lt hj) (pos (by omega) (pos (nat_lt hj) (bindc (impl_InRange_eq _ _ _) (neg (by simpa using ok) (now rfl)))))
  · refine shift ?_
    simp only [impl_IsTurn.l0]
    refine neg (nat_ge (Nat.le_refl _)) (bindc (impl_InRange_eq _ _ _) ?_)
    by_cases h1 : 1 ≤ p ∧ p ≤ 99
    · refine pos (by simp [h1]) (bindc (impl_InRange_eq _ _ _) ?_)
      by_cases h2 : 0 ≤ a ∧ a ≤ 1000000
      · refine pos (by simp [h2]) (bindc (impl_InRange_eq _ _ _) (now ?_))
        exact decide_eq_decide.2 (by omega)
      · exact neg (by simpa using h2) (now (Eq.symm (decide_eq_false (by omega))))
    · exact neg (by simpa using h1) (now (Eq.symm (decide_eq_false (by omega))))

theorem impl_VoteTurn_no (k : Nat) (c : Int) (yes : Bool) (p a : Int) (v : List Int) : impl_VoteTurn.j0 (k + 1) c yes true p a v = some (p, a, v, false) := by
  simp [impl_VoteTurn.j0]
theorem impl_VoteTurn_ev (p a : Int) (v : List Int) (c : Int) (yes : Bool) (n : Int) (hl : v.length ≤ 1048576) : Ev (fun k => impl_VoteTurn.f k p a v c yes n) (voteTurn p a v c yes n) := by
  unfold impl_VoteTurn.f
  refine bindc (impl_cloneTurn_eq p a v hl) (Ev.bind (impl_IsTurn_ev p a v hl) ?_)
  have no : ¬ mayVote p a v c n = true → Ev (fun k => impl_VoteTurn.j0 k c yes true p a v) (voteTurn p a v c yes n) := by
    intro h
    refine Ev.step (fun k => impl_VoteTurn_no k c yes p a v) (now ?_)
    unfold voteTurn
    rw [if_neg h]
  by_cases h1 : isTurn p a v = true
  · refine pos h1 (bindc (impl_InRange_eq _ _ _) ?_)
    by_cases h2 : 1 ≤ c ∧ c ≤ v.length
    · rw [w64 (x := c - 1) (by omega) (by omega)]
      refine pos (by simp; omega) (pos (by omega) (pos (by omega) ?_))
      by_cases h3 : rd v (c - 1) = 0
      · refine pos h3 ?_
        by_cases h4 : n ≥ a
        · rw [decide_eq_true h4]
          exact no (fun q => by have := (mayVote_iff _ _ _ _ _).1 q; omega)
        · rw [decide_eq_false h4]
          refine shift ?_
          simp only [impl_VoteTurn.j0]
          rw [w64 (x := c - 1) (by omega) (by omega)]
          refine neg (by simp) (pos (by omega) (pos (by omega) (bindc rfl ?_)))
          have hm := (mayVote_iff p a v c n).2 ⟨h1, h2.1, h2.2, h3, by omega⟩
          cases yes with
          | true => exact pos rfl (now (by unfold voteTurn; rw [if_pos hm, if_pos rfl, List.set_set]))
          | false => exact neg (by simp) (now (by unfold voteTurn; rw [if_pos hm, if_neg (by simp)]))
      · exact neg h3 (no (fun q => h3 ((mayVote_iff _ _ _ _ _).1 q).2.2.2.1))
    · exact neg (by simp; omega) (no (fun q => h2 ⟨((mayVote_iff _ _ _ _ _).1 q).2.1, ((mayVote_iff _ _ _ _ _).1 q).2.2.1⟩))
  · exact neg h1 (no (fun q => h1 ((mayVote_iff _ _ _ _ _).1 q).1))

theorem laws_markIntS_ev (l : List Int) (a : Int) (ha : 0 ≤ a) (ha2 : a ≤ 1000000000000) (hl : l.length ≤ 1000000000000) : Ev (fun k => laws_markIntS.f k l a) (a + l.length, iota a l.length) := by
  unfold laws_markIntS.f
  refine loop (g := fun k j => laws_markIntS.l0 k (iota a j ++ l.drop j) (a + (j : Int)) (j : Int)) l.length ?_ ?_ |> (fun h => by simpa [show iota a 0 = [] from rfl] using h)
  · intro j hj h
    refine shift ?_
    simp only [laws_markIntS.l0]
    refine pos (by simp [iota_length]; omega) (pos (by omega) ?_)
    rw [succ_wrap (by omega), w64 (by omega) (by omega), Int.toNat_natCast, iota_set a l j hj]
    have e : a + (j : Int) + 1 = a + ((j + 1 : Nat) : Int) := by omega
    rw [e]
    exact h
  · refine shift ?_
    simp only [laws_markIntS.l0]
    exact neg (by simp [iota_length]) (now (by simp))

theorem laws_markTurn_ev (p t : Int) (l : List Int) (a : Int) (ha : 0 ≤ a) (ha2 : a ≤ 1000000000000) (hl : l.length ≤ 1000000000000) : Ev (fun k => laws_markTurn.f k p t l a) (a + l.length, iota a l.length) := by
  unfold laws_markTurn.f
  exact Ev.bind (laws_markIntS_ev l a ha ha2 hl) (now rfl)

theorem laws_heldIntS_ev (a : Int) (n : Nat) (ha : 0 ≤ a) (ha2 : a ≤ 1000000000000) (hn : n ≤ 1000000000000) : Ev (fun k => laws_heldIntS.f k (iota a n) a) (a + n) := by
  unfold laws_heldIntS.f
  refine loop (g := fun k j => laws_heldIntS.l0 k (iota a n) (a + (j : Int)) (j : Int)) n ?_ ?_ |> (fun h => by simpa using h)
  · intro j hj h
    refine shift ?_
    simp only [laws_heldIntS.l0]
    refine pos (by rw [iota_length]; omega) (pos (by omega) (pos (iota_get a n j hj) ?_))
    rw [succ_wrap (by omega), w64 (by omega) (by omega)]
    have e : a + (j : Int) + 1 = a + ((j + 1 : Nat) : Int) := by omega
    rw [e]
    exact h
  · refine shift ?_
    simp only [laws_heldIntS.l0]
    exact neg (by rw [iota_length]; omega) (now rfl)

theorem laws_heldTurn_ev (p t : Int) (a : Int) (n : Nat) (ha : 0 ≤ a) (ha2 : a ≤ 1000000000000) (hn : n ≤ 1000000000000) : Ev (fun k => laws_heldTurn.f k p t (iota a n) a) (a + n) := by
  unfold laws_heldTurn.f
  exact Ev.bind (laws_heldIntS_ev a n ha ha2 hn) (neg (by omega) (now rfl))

theorem FnExactVoteTurn (x : S39) (hx : wf39 x) (a1 : Int) (h1 : I64 a1) (a2 : Bool) (a3 : Int) (h3 : I64 a3) : ∃ k, laws_FnExactVoteTurn.f k x.f0 x.f1 x.f2 a1 a2 a3 = some true := by
  refine Ev.rounds ?_
  have hm := hx.2.2.2.1
  unfold laws_FnExactVoteTurn.f
  obtain ⟨r, hr, _, hl⟩ := laws_szTurn_eq x.f0 x.f1 x.f2 1048576 (by omega) (by omega) (by omega)
  refine bindc hr ?_
  by_cases h : r < 0
  · exact pos h (now rfl)
  · have hl := hl h
    have hv := voteTurn_length x.f0 x.f1 x.f2 a1 a2 a3
    have hv2 : (voteTurn x.f0 x.f1 x.f2 a1 a2 a3).2.2.1.length ≤ 1048576 := by omega
    refine neg h (Ev.bind (laws_toTurn_ev _ _ _ hl) (Ev.bind (spec_VoteTurn_ev x.f0 x.f1 x.f2 a1 a2 a3 hl) (Ev.bind (laws_toTurn_ev _ _ _ hl) (Ev.bind (impl_VoteTurn_ev x.f0 x.f1 x.f2 a1 a2 a3 hl) (Ev.bind (laws_eqTurn_refl _ _ _ (by omega)) (pos rfl (shift ?_)))))))
    simp only [laws_FnExactVoteTurn.j0]
    refine neg (by simp) (Ev.bind (laws_toTurn_ev _ _ _ hl) (Ev.bind (laws_eqTurn_refl x.f0 x.f1 x.f2 (by omega)) (pos rfl (Ev.bind (laws_markTurn_ev x.f0 x.f1 x.f2 1 (by omega) (by omega) (by omega)) (neg (by show ¬ (1 : Int) + (x.f2.length : Int) < 0; omega) (Ev.bind (laws_eqTurn_refl _ _ _ (by omega)) (pos rfl (shift ?_))))))))
    simp only [laws_FnExactVoteTurn.j1]
    refine neg (by simp) (Ev.bind (laws_markTurn_ev _ _ _ _ (by omega) (by omega) (by omega)) (Ev.bind (laws_heldTurn_ev _ _ _ _ (by omega) (by omega) (by omega)) (neg (by omega) (pos rfl (Ev.bind (laws_toTurn_ev _ _ _ hl) (Ev.bind (impl_VoteTurn_ev x.f0 x.f1 x.f2 a1 a2 a3 hl) (Ev.bind (laws_eqTurn_refl _ _ _ (by omega)) (pos rfl (shift ?_)))))))))
    simp only [laws_FnExactVoteTurn.j2]
    exact neg (by simp) (Ev.bind (laws_heldTurn_ev _ _ _ _ (by omega) (by omega) (by omega)) (neg (by omega) (pos rfl (now rfl))))

end Go.Proofs.Ytcbckejlljcnpac.PureFnExactVoteTurn
