/- The pure statement of FnExactAreCars: for all arguments of their kinds there is a number of rounds behind which the law answers true; condition: every number is one of Go's int, every slice is within the reach. -/
import Derived.Test.YtmpncnphndafnaaPCarx0
import Derived.Test.YtmpncnphndafnaaPCarx1
import Derived.Test.YtmpncnphndafnaaPCarx2
import Derived.Test.YtmpncnphndafnaaPCarx3
import Derived.Test.YtmpncnphndafnaaPCarx4
import Derived.Test.YtmpncnphndafnaaPCarx5
import Derived.Test.YtmpncnphndafnaaPCarx6
import Derived.Test.YtmpncnphndafnaaPCarx7
import Derived.Test.YtmpncnphndafnaaPCarx8
import Derived.Test.YtmpncnphndafnaaPCarx9
import Derived.Test.YtmpncnphndafnaaPCarx10
import Derived.Test.YtmpncnphndafnaaPCarx11
import Derived.Test.YtmpncnphndafnaaPCarx13
import Derived.Test.YtmpncnphndafnaaPCarx14
import Derived.Test.YtmpncnphndafnaaPCarx15
import Derived.Test.YtmpncnphndafnaaPCarx16
import Derived.Test.YtmpncnphndafnaaPCarx17
import Derived.Test.YtmpncnphndafnaaPCarx18
import Derived.Test.YtmpncnphndafnaaPCarx19
import Derived.Test.YtmpncnphndafnaaPCarx20
import Derived.Test.YtmpncnphndafnaaAid
namespace Go.Proofs.Ytmpncnphndafnaa.PureFnExactAreCars
open Go.RowKit Go.Proofs.YtmpncnphndafnaaW.PrintWords Go.Proofs.YtmpncnphndafnaaW.PrintLast Go.Proofs.YtmpncnphndafnaaW.PrintMore Go.Proofs.Ytmpncnphndafnaa.PCar Go.Proofs.Ytmpncnphndafnaa.Aid
set_option linter.unusedVariables false
set_option linter.unusedSimpArgs false

/-- Every number of it is one of Go's int, every slice within the reach. -/
def wf76 (x : S76) : Prop := I64 x.f0 ∧ I64 x.f1 ∧ I64 x.f2
/-- Every number of it is one of Go's int, every slice within the reach. -/
def wf78 (x : S78) : Prop := I64 x.f0 ∧ I64 x.f1 ∧ I64 x.f2 ∧ I64 x.f3

theorem laws_szStreetS_eq (l : List S76) (a : Int) (ha : 0 ≤ a) (ha2 : a ≤ 1048576) (hl : l.length ≤ 140737488355328) : ∃ r, laws_szStreetS.f l a = some r ∧ r ≤ a ∧ (¬ r < 0 → l.length ≤ 1048576) := by
  unfold laws_szStreetS.f
  rw [w64 (by omega) (by omega)]
  by_cases h : a - (l.length : Int) < 0
  · exact ⟨-1, by rw [if_pos h], by omega, by omega⟩
  · exact ⟨_, by rw [if_neg h], by omega, by omega⟩

theorem laws_szCarS_eq (l : List S78) (a : Int) (ha : 0 ≤ a) (ha2 : a ≤ 1048576) (hl : l.length ≤ 140737488355328) : ∃ r, laws_szCarS.f l a = some r ∧ r ≤ a ∧ (¬ r < 0 → l.length ≤ 1048576) := by
  unfold laws_szCarS.f
  rw [w64 (by omega) (by omega)]
  by_cases h : a - (l.length : Int) < 0
  · exact ⟨-1, by rw [if_pos h], by omega, by omega⟩
  · exact ⟨_, by rw [if_neg h], by omega, by omega⟩

theorem spec_l1In_eq (a b c : Int) : spec_l1In.f a b c = some (decide (b ≤ a ∧ a ≤ c)) := by
  unfold spec_l1In.f
  by_cases h : b ≤ a
  · rw [if_pos h]
    simp [h]
  · rw [if_neg h]
    simp [h]

theorem impl_streetOf_eq (l : List S74) (a b : Int) : impl_streetOf.f l a b = some (impl_streetOf.from_ a b l 0) := rfl
theorem streetOf_neg (a b : Int) : ∀ (l : List S74) (i : Int), 0 ≤ i → (impl_streetOf.from_ a b l i < 0 ↔ ∀ x ∈ l, ¬ (x.f0 = a ∧ x.f1 = b))
  | [], i, _ => by simp [impl_streetOf.from_]
  | x :: r, i, hi => by
    have ih := streetOf_neg a b r (i + 1) (by omega)
    simp only [impl_streetOf.from_, List.mem_cons, forall_eq_or_imp, ← ih]
    by_cases h : x.f0 = a ∧ x.f1 = b
    · simp [h, hi]
    · have : ¬ ((x.f0 == a) && (x.f1 == b)) = true := by simpa using h
      rw [if_neg this]
      exact ⟨fun g => ⟨h, g⟩, fun g => g.2⟩
def noSame (l : List S74) (a b : Int) (i : Nat) : Bool := !decide ((rd_T74 l i).f0 = a ∧ (rd_T74 l i).f1 = b)
theorem streetOf_iff (l : List S74) (j : Nat) (hj : j ≤ l.length) (a b : Int) : (List.range j).all (noSame l a b) = true ↔ impl_streetOf.from_ a b (l.take j) 0 < 0 := by
  rw [streetOf_neg _ _ _ _ (Int.le_refl _), List.all_eq_true]
  constructor
  · intro h x hx
    obtain ⟨i, hi, rfl⟩ := List.getElem_of_mem hx
    have hi2 : i < j ∧ i < l.length := by rw [List.length_take] at hi; omega
    have := h i (List.mem_range.2 hi2.1)
    rw [List.getElem_take]
    intro ⟨h1, h2⟩
    simp [noSame, rd_T74, hi2.2, h1, h2] at this
  · intro h i hi
    have hij := List.mem_range.1 hi
    have hil : i < l.length := by omega
    have := h l[i] (List.mem_take_iff_getElem.2 ⟨i, by omega, rfl⟩)
    have e : rd_T74 l (i : Int) = l[i] := by simp [rd_T74, hil]
    simp only [noSame, e, Bool.not_eq_true', decide_eq_false_iff_not]
    exact this

def streetRng (s : S74) : Bool := decide (1 ≤ s.f0 ∧ s.f0 ≤ 8 ∧ 1 ≤ s.f1 ∧ s.f1 ≤ 8 ∧ ¬ s.f0 = s.f1 ∧ 1 ≤ s.f2 ∧ s.f2 ≤ 300)
def streetAt (l : List S74) (j : Nat) : Bool := streetRng (rd_T74 l j) && (List.range j).all (noSame l (rd_T74 l j).f0 (rd_T74 l j).f1)
def areStreets (l : List S74) : Bool := (List.range l.length).all (streetAt l) && decide (l.length ≤ 16)
theorem spec_AreStreets_flag (l : List S74) (j : Nat) (h : ¬ streetRng (rd_T74 l j) = true) (hj : j < l.length) : Ev (fun k => spec_AreStreets.l0 k l (j : Int)) false := by
  have hs : ∀ a b c, Ev (fun k => spec_AreStreets.j1 k l (j : Int) true a b c) false := fun a b c => by
    refine shift ?_
    simp only [spec_AreStreets.j1]
    exact pos trivial (now rfl)
  simp only [streetRng, decide_eq_true_eq] at h
  refine shift ?_
  simp only [spec_AreStreets.l0]
  refine pos (nat_lt hj) (pos (by omega) (bindc (spec_l1In_eq _ _ _) ?_))
  by_cases h1 : 1 ≤ (rd_T74 l j).f0 ∧ (rd_T74 l j).f0 ≤ 8
  · refine pos (by simp [h1]) (bindc (spec_l1In_eq _ _ _) ?_)
    by_cases h2 : 1 ≤ (rd_T74 l j).f1 ∧ (rd_T74 l j).f1 ≤ 8
    · refine pos (by simp [h2]) ?_
      by_cases h3 : (rd_T74 l j).f0 = (rd_T74 l j).f1
      · exact pos h3 (hs _ _ _)
      · refine neg h3 (bindc (spec_l1In_eq _ _ _) ?_)
        have h4 : ¬ (1 ≤ (rd_T74 l j).f2 ∧ (rd_T74 l j).f2 ≤ 300) := by omega
        rw [decide_eq_false h4]
        exact hs _ _ _
    · exact neg (by simpa using h2) (hs _ _ _)
  · exact neg (by simpa using h1) (hs _ _ _)
theorem spec_AreStreets_ev (l : List S74) (hl : l.length ≤ 9223372036854775806) : Ev (fun k => spec_AreStreets.f k l) (areStreets l) := by
  unfold spec_AreStreets.f areStreets
  have head : ∀ (j : Nat) (r : Bool), j < l.length → streetRng (rd_T74 l j) = true → Ev (fun k => spec_AreStreets.l1 k l (j : Int) 0 (rd_T74 l j).f0 (rd_T74 l j).f1 (rd_T74 l j).f2) r → Ev (fun k => spec_AreStreets.l0 k l (j : Int)) r := by
    intro j r hj h1 h
    simp only [streetRng, decide_eq_true_eq] at h1
    refine shift ?_
    simp only [spec_AreStreets.l0]
    refine pos (nat_lt hj) (pos (by omega) (bindc (spec_l1In_eq _ _ _) (pos (by simp; omega) (bindc (spec_l1In_eq _ _ _) (pos (by simp; omega) (neg (by omega) (bindc (spec_l1In_eq _ _ _) ?_)))))))
    rw [decide_eq_true (show 1 ≤ (rd_T74 l j).f2 ∧ (rd_T74 l j).f2 ≤ 300 by omega)]
    refine shift ?_
    simp only [spec_AreStreets.j1]
    exact neg (by simp) h
  refine all_loop (g := fun k j => spec_AreStreets.l0 k l (j : Int)) l.length (streetAt l) _ ?_ ?_ ?_
  · intro j r hj ok h
    simp only [streetAt, Bool.and_eq_true] at ok
    refine head j r hj ok.1 (ok_loop (g := fun k i => spec_AreStreets.l1 k l (j : Int) (i : Int) (rd_T74 l j).f0 (rd_T74 l j).f1 (rd_T74 l j).f2) _ _ ok.2 ?_ ?_)
    · intro i r hi oki hh
      simp only [noSame, Bool.not_eq_true', decide_eq_false_iff_not] at oki
      refine shift ?_
      simp only [spec_AreStreets.l1]
      refine pos (nat_lt hi) (pos (by omega) (pos (by omega) ?_))
      rw [succ_wrap (by omega)]
      by_cases h1 : (rd_T74 l i).f0 = (rd_T74 l j).f0
      · exact pos h1 (neg (fun h2 => oki ⟨h1, h2⟩) hh)
      · exact neg h1 hh
    · refine shift ?_
      simp only [spec_AreStreets.l1]
      refine neg (nat_ge (Nat.le_refl _)) ?_
      rw [succ_wrap (by omega)]
      exact h
  · intro j hj ok
    by_cases h1 : streetRng (rd_T74 l j) = true
    · have h2 : ¬ (List.range j).all (noSame l (rd_T74 l j).f0 (rd_T74 l j).f1) = true := by
        intro h2
        simp [streetAt, h1, h2] at ok
      refine head j _ hj h1 (bad_loop (g := fun k i => spec_AreStreets.l1 k l (j : Int) (i : Int) (rd_T74 l j).f0 (rd_T74 l j).f1 (rd_T74 l j).f2) _ _ _ h2 ?_ ?_)
      · intro i r hi oki hh
        simp only [noSame, Bool.not_eq_true', decide_eq_false_iff_not] at oki
        refine shift ?_
        simp only [spec_AreStreets.l1]
        refine pos (nat_lt hi) (pos (by omega) (pos (by omega) ?_))
        rw [succ_wrap (by omega)]
        by_cases h1 : (rd_T74 l i).f0 = (rd_T74 l j).f0
        · exact pos h1 (neg (fun h2 => oki ⟨h1, h2⟩) hh)
        · exact neg h1 hh
      · intro i hi oki
        simp only [noSame, Bool.not_eq_false', decide_eq_true_eq] at oki
        refine shift ?_
        simp only [spec_AreStreets.l1]
        exact pos (nat_lt hi) (pos (by omega) (pos (by omega) (pos oki.1 (pos oki.2 (now rfl)))))
    · exact spec_AreStreets_flag l j h1 hj
  · refine shift ?_
    simp only [spec_AreStreets.l0]
    refine neg (nat_ge (Nat.le_refl _)) (now ?_)
    exact decide_eq_decide.2 (by omega)

def carAt (ss : List S74) (cs : List S72) (j : Nat) : Bool :=
  decide (1 ≤ (rd_T72 cs j).f0 ∧ (rd_T72 cs j).f0 ≤ 999 ∧ 0 ≤ (rd_T72 cs j).f1 ∧ (rd_T72 cs j).f1 < (ss.length : Int) ∧ 0 ≤ (rd_T72 cs j).f2 ∧ (rd_T72 cs j).f2 ≤ (rd_T74 ss (rd_T72 cs j).f1).f2 ∧ 1 ≤ (rd_T72 cs j).f3 ∧ (rd_T72 cs j).f3 ≤ 20 ∧ (0 < j → (rd_T72 cs ((j : Int) - 1)).f0 < (rd_T72 cs j).f0))
theorem carAt_iff (ss : List S74) (cs : List S72) (j : Nat) : carAt ss cs j = true ↔ (1 ≤ (rd_T72 cs j).f0 ∧ (rd_T72 cs j).f0 ≤ 999 ∧ 0 ≤ (rd_T72 cs j).f1 ∧ (rd_T72 cs j).f1 < (ss.length : Int) ∧ 0 ≤ (rd_T72 cs j).f2 ∧ (rd_T72 cs j).f2 ≤ (rd_T74 ss (rd_T72 cs j).f1).f2 ∧ 1 ≤ (rd_T72 cs j).f3 ∧ (rd_T72 cs j).f3 ≤ 20 ∧ (0 < j → (rd_T72 cs ((j : Int) - 1)).f0 < (rd_T72 cs j).f0)) := by unfold carAt; exact decide_eq_true_iff
def areCars (ss : List S74) (cs : List S72) : Bool := areStreets ss && ((List.range cs.length).all (carAt ss cs) && decide (cs.length ≤ 30))
theorem spec_AreCars_ev (ss : List S74) (cs : List S72) (hs : ss.length ≤ 9223372036854775806) (hl : cs.length ≤ 9223372036854775806) : Ev (fun k => spec_AreCars.f k ss cs) (areCars ss cs) := by
  unfold spec_AreCars.f areCars
  refine Ev.bind (spec_AreStreets_ev ss hs) ?_
  by_cases h : areStreets ss = true
  · rw [h, Bool.true_and]
    refine pos rfl (all_loop (g := fun k j => spec_AreCars.l0 k ss cs (j : Int)) cs.length (carAt ss cs) _ ?_ ?_ ?_)
    · intro j r hj ok h
      rw [carAt_iff] at ok
      obtain ⟨o1, o2, o3, o4, o5, o6, o7, o8, o9⟩ := ok
      refine shift ?_
      simp only [spec_AreCars.l0]
      rw [w64 (x := (ss.length : Int) - 1) (by omega) (by omega), succ_wrap (by omega)]
      refine pos (nat_lt hj) (pos (by omega) (bindc (spec_l1In_eq _ _ _) (pos (by simp; omega) (bindc (spec_l1In_eq _ _ _) (pos (by simp; omega) (pos o3 (pos o4 (bindc (spec_l1In_eq _ _ _) (pos (by simp; omega) (bindc (spec_l1In_eq _ _ _) (pos (by simp; omega) ?_))))))))))) 
      by_cases h0 : (j : Int) > 0
      · rw [w64 (by omega) (by omega)]
        exact pos h0 (pos (by omega) (pos (by omega) (neg (by have := o9 (by omega); omega) h)))
      · exact neg h0 h
    · intro j hj ok
      have ok : ¬ carAt ss cs j = true := by simp [ok]
      rw [carAt_iff] at ok
      refine shift ?_
      simp only [spec_AreCars.l0]
      rw [w64 (x := (ss.length : Int) - 1) (by omega) (by omega)]
      refine pos (nat_lt hj) (pos (by omega) (bindc (spec_l1In_eq _ _ _) ?_))
      by_cases h1 : 1 ≤ (rd_T72 cs j).f0 ∧ (rd_T72 cs j).f0 ≤ 999
      · refine pos (by simp [h1]) (bindc (spec_l1In_eq _ _ _) ?_)
        by_cases h2 : 0 ≤ (rd_T72 cs j).f1 ∧ (rd_T72 cs j).f1 ≤ (ss.length : Int) - 1
        · refine pos (by simpa using h2) (pos h2.1 (pos (by omega) (bindc (spec_l1In_eq _ _ _) ?_)))
          by_cases h3 : 0 ≤ (rd_T72 cs j).f2 ∧ (rd_T72 cs j).f2 ≤ (rd_T74 ss (rd_T72 cs j).f1).f2
          · refine pos (by simpa using h3) (bindc (spec_l1In_eq _ _ _) ?_)
            by_cases h4 : 1 ≤ (rd_T72 cs j).f3 ∧ (rd_T72 cs j).f3 ≤ 20
            · refine pos (by simpa using h4) ?_
              rw [w64 (x := (j : Int) - 1) (by omega) (by omega)]
              exact pos (by omega) (pos (by omega) (pos (by omega) (pos (by omega) (now rfl))))
            · exact neg (by simpa using h4) (now rfl)
          · exact neg (by simpa using h3) (now rfl)
        · exact neg (by simpa using h2) (now rfl)
      · exact neg (by simpa using h1) (now rfl)
    · refine shift ?_
      simp only [spec_AreCars.l0]
      refine neg (nat_ge (Nat.le_refl _)) (now ?_)
      exact decide_eq_decide.2 (by omega)
  · exact neg h (now (by simp [h]))

def cStreet (x : S76) : S74 := ⟨x.f0, x.f1, x.f2⟩
theorem laws_toStreetS_ev (l : List S76) (hl : l.length ≤ 1048576) : Ev (fun k => laws_toStreetS.f k l) (l.map cStreet) := by
  unfold laws_toStreetS.f
  refine pos (by omega) (pos (by omega) ?_)
  exact copied (g := fun k y i => laws_toStreetS.l0 k l y i) l cStreet z74 (fun j hj y r hy h => by
    refine shift ?_
    simp only [laws_toStreetS.l0]
    refine pos (nat_lt hj) (pos (by omega) (bindc rfl (pos (by omega) ?_)))
    rw [succ_wrap (by omega)]
    simpa [rd_T76, cStreet, hj] using h) (fun y => by
    refine shift ?_
    simp only [laws_toStreetS.l0]
    exact neg (nat_ge (Nat.le_refl _)) (now rfl))

def cCar (x : S78) : S72 := ⟨x.f0, x.f1, x.f2, x.f3⟩
theorem laws_toCarS_ev (l : List S78) (hl : l.length ≤ 1048576) : Ev (fun k => laws_toCarS.f k l) (l.map cCar) := by
  unfold laws_toCarS.f
  refine pos (by omega) (pos (by omega) ?_)
  exact copied (g := fun k y i => laws_toCarS.l0 k l y i) l cCar z72 (fun j hj y r hy h => by
    refine shift ?_
    simp only [laws_toCarS.l0]
    refine pos (nat_lt hj) (pos (by omega) (bindc rfl (pos (by omega) ?_)))
    rw [succ_wrap (by omega)]
    simpa [rd_T78, cCar, hj] using h) (fun y => by
    refine shift ?_
    simp only [laws_toCarS.l0]
    exact neg (nat_ge (Nat.le_refl _)) (now rfl))

theorem impl_InRange_eq (a b c : Int) : impl_InRange.f a b c = some (decide (b ≤ a ∧ a ≤ c)) := by
  unfold impl_InRange.f
  by_cases h : b ≤ a
  · rw [if_pos h]
    simp [h]
  · rw [if_neg h]
    simp [h]

theorem impl_isCrossing_eq (a : Int) : impl_isCrossing.f a = some (decide (1 ≤ a ∧ a ≤ 8)) := by
  unfold impl_isCrossing.f
  rw [impl_InRange_eq, Option.bind_some]

theorem impl_AreStreets_ev (l : List S74) : Ev (fun k => impl_AreStreets.f k l) (areStreets l) := by
  unfold impl_AreStreets.f areStreets
  by_cases hr : l.length ≤ 16
  · rw [decide_eq_true hr]
    refine neg (by omega) (all_loop (g := fun k j => impl_AreStreets.l0 k l l (l.length : Int) (j : Int)) l.length (streetAt l) _ ?_ ?_ ?_)
    · intro j r hj ok h
      simp only [streetAt, Bool.and_eq_true] at ok
      have ok2 := (streetOf_iff l j (by omega) _ _).1 ok.2
      have ok1 := ok.1
      simp only [streetRng, decide_eq_true_eq] at ok1
      refine shift ?_
      simp only [impl_AreStreets.l0]
      refine pos (nat_lt hj) (pos (by omega) (pos (nat_lt hj) (bindc (impl_isCrossing_eq _) (pos (by simp; omega) (bindc (impl_isCrossing_eq _) (pos (by simp; omega) (neg (by omega) (bindc (impl_InRange_eq _ _ _) ?_))))))))
      rw [decide_eq_true (show 1 ≤ (rd_T74 l j).f2 ∧ (rd_T74 l j).f2 ≤ 300 by omega)]
      refine shift ?_
      simp only [impl_AreStreets.j1]
      refine neg (by simp) (pos (by omega) (pos (by omega) (bindc (impl_streetOf_eq _ _ _) (neg (by rw [Int.toNat_natCast]; omega) ?_))))
      rw [succ_wrap (by omega)]
      exact h
    · intro j hj ok
      have hs : ∀ a b c, Ev (fun k => impl_AreStreets.j1 k l (j : Int) l (l.length : Int) (j : Int) true a b c) false := fun a b c => by
        refine shift ?_
        simp only [impl_AreStreets.j1]
        exact pos trivial (now rfl)
      refine shift ?_
      simp only [impl_AreStreets.l0]
      refine pos (nat_lt hj) (pos (by omega) (pos (nat_lt hj) (bindc (impl_isCrossing_eq _) ?_)))
      by_cases h1 : 1 ≤ (rd_T74 l j).f0 ∧ (rd_T74 l j).f0 ≤ 8
      · refine pos (by simp [h1]) (bindc (impl_isCrossing_eq _) ?_)
        by_cases h2 : 1 ≤ (rd_T74 l j).f1 ∧ (rd_T74 l j).f1 ≤ 8
        · refine pos (by simp [h2]) ?_
          by_cases h3 : (rd_T74 l j).f0 = (rd_T74 l j).f1
          · exact pos h3 (hs _ _ _)
          · refine neg h3 (bindc (impl_InRange_eq _ _ _) ?_)
            by_cases h4 : 1 ≤ (rd_T74 l j).f2 ∧ (rd_T74 l j).f2 ≤ 300
            · rw [decide_eq_true h4]
              refine shift ?_
              simp only [impl_AreStreets.j1]
              have h5 : ¬ (List.range j).all (noSame l (rd_T74 l j).f0 (rd_T74 l j).f1) = true := by
                intro h5
                have : streetRng (rd_T74 l j) = true := by simp only [streetRng, decide_eq_true_eq]; omega
                simp [streetAt, this, h5] at ok
              rw [streetOf_iff l j (by omega)] at h5
              exact neg (by simp) (pos (by omega) (pos (by omega) (bindc (impl_streetOf_eq _ _ _) (pos (by rw [Int.toNat_natCast]; omega) (now rfl)))))
            · rw [decide_eq_false h4]
              exact hs _ _ _
        · exact neg (by simpa using h2) (hs _ _ _)
      · exact neg (by simpa using h1) (hs _ _ _)
    · refine shift ?_
      simp only [impl_AreStreets.l0]
      exact neg (nat_ge (Nat.le_refl _)) (now rfl)
  · rw [decide_eq_false hr, Bool.and_false]
    exact pos (by omega) (now rfl)

theorem impl_AreCars_ev (ss : List S74) (cs : List S72) : Ev (fun k => impl_AreCars.f k ss cs) (areCars ss cs) := by
  unfold impl_AreCars.f areCars
  refine Ev.bind (impl_AreStreets_ev ss) ?_
  by_cases h : areStreets ss = true
  · rw [h, Bool.true_and]
    refine pos rfl (shift ?_)
    simp only [impl_AreCars.j0]
    by_cases hl : cs.length ≤ 30
    · rw [decide_eq_true hl]
      refine neg (by simp; omega) (all_loop (g := fun k j => impl_AreCars.l0 k ss cs cs (cs.length : Int) (j : Int)) cs.length (carAt ss cs) _ ?_ ?_ ?_)
      · intro j r hj ok h
        rw [carAt_iff] at ok
        obtain ⟨o1, o2, o3, o4, o5, o6, o7, o8, o9⟩ := ok
        refine shift ?_
        simp only [impl_AreCars.l0]
        rw [succ_wrap (by omega)]
        refine pos (nat_lt hj) (pos (by omega) (pos (nat_lt hj) (bindc (impl_InRange_eq _ _ _) (pos (by simp; omega) ?_))))
        by_cases h0 : (j : Int) > 0
        · rw [w64 (by omega) (by omega)]
          exact pos h0 (pos (by omega) (pos (by omega) (neg (by have := o9 (by omega); omega) (neg (by omega) (neg (by omega) (pos o3 (pos o4 (bindc (impl_InRange_eq _ _ _) (pos (by simp; omega) (bindc (impl_InRange_eq _ _ _) (pos (by simp; omega) h)))))))))))
        · exact neg h0 (neg (by omega) (neg (by omega) (pos o3 (pos o4 (bindc (impl_InRange_eq _ _ _) (pos (by simp; omega) (bindc (impl_InRange_eq _ _ _) (pos (by simp; omega) h))))))))
      · intro j hj ok
        have ok : ¬ carAt ss cs j = true := by simp [ok]
        rw [carAt_iff] at ok
        refine shift ?_
        simp only [impl_AreCars.l0]
        rw [w64 (x := (j : Int) - 1) (by omega) (by omega)]
        refine pos (nat_lt hj) (pos (by omega) (pos (nat_lt hj) (bindc (impl_InRange_eq _ _ _) ?_)))
        by_cases h1 : 1 ≤ (rd_T72 cs j).f0 ∧ (rd_T72 cs j).f0 ≤ 999
        · refine pos (by simp [h1]) ?_
          by_cases h0 : (j : Int) > 0
          · refine pos h0 (pos (by omega) (pos (by omega) ?_))
            by_cases h5 : (rd_T72 cs j).f0 ≤ (rd_T72 cs ((j : Int) - 1)).f0
            · exact pos h5 (now rfl)
            refine neg h5 ?_
            by_cases h2 : (rd_T72 cs j).f1 < 0
            · exact pos h2 (now rfl)
            refine neg h2 ?_
            by_cases h2b : (rd_T72 cs j).f1 ≥ (ss.length : Int)
            · exact pos h2b (now rfl)
            refine neg h2b (pos (by omega) (pos (by omega) (bindc (impl_InRange_eq _ _ _) ?_)))
            by_cases h3 : 0 ≤ (rd_T72 cs j).f2 ∧ (rd_T72 cs j).f2 ≤ (rd_T74 ss (rd_T72 cs j).f1).f2
            · refine pos (by simpa using h3) (bindc (impl_InRange_eq _ _ _) ?_)
              exact neg (by simp; omega) (now rfl)
            · exact neg (by simpa using h3) (now rfl)
          · refine neg h0 ?_
            by_cases h2 : (rd_T72 cs j).f1 < 0
            · exact pos h2 (now rfl)
            refine neg h2 ?_
            by_cases h2b : (rd_T72 cs j).f1 ≥ (ss.length : Int)
            · exact pos h2b (now rfl)
            refine neg h2b (pos (by omega) (pos (by omega) (bindc (impl_InRange_eq _ _ _) ?_)))
            by_cases h3 : 0 ≤ (rd_T72 cs j).f2 ∧ (rd_T72 cs j).f2 ≤ (rd_T74 ss (rd_T72 cs j).f1).f2
            · refine pos (by simpa using h3) (bindc (impl_InRange_eq _ _ _) ?_)
              exact neg (by simp; omega) (now rfl)
            · exact neg (by simpa using h3) (now rfl)
        · exact neg (by simpa using h1) (now rfl)
      · refine shift ?_
        simp only [impl_AreCars.l0]
        exact neg (nat_ge (Nat.le_refl _)) (now rfl)
    · rw [decide_eq_false hl, Bool.and_false]
      exact pos (by simp; omega) (now rfl)
  · refine neg h (shift ?_)
    simp only [impl_AreCars.j0]
    exact pos trivial (now (by simp [h]))

theorem laws_eqStreetS_refl (l : List S74) (hl : l.length < 9223372036854775807) : Ev (fun k => laws_eqStreetS.f k l l) true := by
  unfold laws_eqStreetS.f
  refine pos rfl (loop (g := fun k j => laws_eqStreetS.l0 k l l (j : Int)) l.length ?_ ?_)
  · intro j hj h
    refine shift ?_
    simp only [laws_eqStreetS.l0]
    refine pos (nat_lt hj) (pos (by omega) (pos (nat_lt hj) (bindc (a := true) (by simp [laws_eqStreet.f]) (pos (by simp) ?_))))
    rw [succ_wrap (by omega)]
    exact h
  · refine shift ?_
    simp only [laws_eqStreetS.l0]
    exact neg (nat_ge (Nat.le_refl _)) (now rfl)

theorem laws_eqCarS_refl (l : List S72) (hl : l.length < 9223372036854775807) : Ev (fun k => laws_eqCarS.f k l l) true := by
  unfold laws_eqCarS.f
  refine pos rfl (loop (g := fun k j => laws_eqCarS.l0 k l l (j : Int)) l.length ?_ ?_)
  · intro j hj h
    refine shift ?_
    simp only [laws_eqCarS.l0]
    refine pos (nat_lt hj) (pos (by omega) (pos (nat_lt hj) (bindc (a := true) (by simp [laws_eqCar.f]) (pos (by simp) ?_))))
    rw [succ_wrap (by omega)]
    exact h
  · refine shift ?_
    simp only [laws_eqCarS.l0]
    exact neg (nat_ge (Nat.le_refl _)) (now rfl)

theorem FnExactAreCars (p : List S76) (hp : wfS 24 wf76 p) (l : List S78) (hw : wfS 32 wf78 l) : ∃ k, laws_FnExactAreCars.f k p l = some true := by
  refine Ev.rounds ?_
  have hm := hw.2.1
  have hm0 := hp.2.1
  unfold laws_FnExactAreCars.f
  obtain ⟨q, hq, hq2, hpl⟩ := laws_szStreetS_eq p 1048576 (by omega) (by omega) (by omega)
  refine bindc hq ?_
  by_cases h0 : q < 0
  · exact pos h0 (now rfl)
  have hpl := hpl h0
  obtain ⟨r, hr, _, hl⟩ := laws_szCarS_eq l q (by omega) (by omega) (by omega)
  refine neg h0 (bindc hr ?_)
  by_cases h : r < 0
  · exact pos h (now rfl)
  have hl := hl h
  have hpc : (p.map cStreet).length ≤ 1048576 := by simpa using hpl
  have hc : (l.map cCar).length ≤ 1048576 := by simpa using hl
  refine neg h (Ev.bind (laws_toStreetS_ev p hpl) (Ev.bind (laws_toCarS_ev l hl) (Ev.bind (spec_AreCars_ev _ _ (by omega) (by omega)) (Ev.bind (laws_toStreetS_ev p hpl) (Ev.bind (laws_toCarS_ev l hl) (Ev.bind (impl_AreCars_ev _ _) ?_))))))
  exact neg (by simp) (Ev.bind (laws_toStreetS_ev p hpl) (Ev.bind (laws_eqStreetS_refl _ (by omega)) (pos rfl (Ev.bind (laws_toCarS_ev l hl) (Ev.bind (laws_eqCarS_refl _ (by omega)) (pos rfl (now rfl)))))))

end Go.Proofs.Ytmpncnphndafnaa.PureFnExactAreCars
