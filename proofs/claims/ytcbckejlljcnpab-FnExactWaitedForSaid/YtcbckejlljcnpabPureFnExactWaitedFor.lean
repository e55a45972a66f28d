/- The pure statement of FnExactWaitedFor: for all arguments of their kinds there is a number of rounds behind which the law answers true; condition: every number is one of Go's int, every slice is within the reach. -/
import Derived.Test.YtcbckejlljcnpabPFnExactWaitedForx0
import Derived.Test.YtcbckejlljcnpabPFnExactWaitedForx1
import Derived.Test.YtcbckejlljcnpabPFnExactWaitedForx2
import Derived.Test.YtcbckejlljcnpabAid
namespace Go.Proofs.Ytcbckejlljcnpab.PureFnExactWaitedFor
open Go.RowKit Go.Proofs.YtcbckejlljcnpabW.PrintWords Go.Proofs.YtcbckejlljcnpabW.PrintLast Go.Proofs.YtcbckejlljcnpabW.PrintMore Go.Proofs.Ytcbckejlljcnpab.PFnExactWaitedFor Go.Proofs.Ytcbckejlljcnpab.Aid
set_option linter.unusedVariables false
set_option linter.unusedSimpArgs false


theorem laws_szIntS_eq (l : List Int) (a : Int) (ha : 0 ≤ a) (ha2 : a ≤ 1048576) (hl : l.length ≤ 140737488355328) : ∃ r, laws_szIntS.f l a = some r ∧ r ≤ a ∧ (¬ r < 0 → l.length ≤ 1048576) := by
  unfold laws_szIntS.f
  rw [w64 (by omega) (by omega)]
  by_cases h : a - (l.length : Int) < 0
  · exact ⟨-1, by rw [if_pos h], by omega, by omega⟩
  · exact ⟨_, by rw [if_neg h], by omega, by omega⟩

theorem laws_szIntSS_ev (l : List (List Int)) (a : Int) (ha : 0 ≤ a) (ha2 : a ≤ 1048576) (hl : l.length ≤ 140737488355328) (he : ∀ x ∈ l, x.length ≤ 140737488355328) :
    ∃ r, Ev (fun k => laws_szIntSS.f k l a) r ∧ r ≤ a ∧ (¬ r < 0 → l.length ≤ 1048576 ∧ ∀ x ∈ l, x.length ≤ 1048576) := by
  unfold laws_szIntSS.f
  rw [w64 (by omega) (by omega)]
  by_cases h : a - (l.length : Int) < 0
  · exact ⟨-1, pos h (now rfl), by omega, by omega⟩
  · have main : ∀ (d j : Nat) (b : Int), j + d = l.length → 0 ≤ b → b ≤ 1048576 → ∃ r, Ev (fun k => laws_szIntSS.l0 k l b (j : Int)) r ∧ r ≤ b ∧ (¬ r < 0 → ∀ i (hi : i < l.length), j ≤ i → l[i].length ≤ 1048576) := by
      intro d
      induction d with
      | zero =>
        intro j b hj hb hb2
        refine ⟨b, shift ?_, by omega, fun _ i hi hji => by omega⟩
        simp only [laws_szIntSS.l0]
        exact neg (by omega) (now rfl)
      | succ d ih =>
        intro j b hj hb hb2
        have hjl : j < l.length := by omega
        have hg : rd_L1 l (j : Int) = l[j] := by simp [rd_L1, hjl]
        obtain ⟨r, hr, hra, hrl⟩ := laws_szIntS_eq l[j] b hb hb2 (he _ (List.getElem_mem hjl))
        by_cases hneg : r < 0
        · refine ⟨-1, shift ?_, by omega, by omega⟩
          simp only [laws_szIntSS.l0]
          refine pos (nat_lt hjl) (pos (by omega) ?_)
          rw [hg]
          exact bindc hr (pos hneg (now rfl))
        · obtain ⟨r2, h1, h2, h3⟩ := ih (j + 1) r (by omega) (by omega) (by omega)
          refine ⟨r2, shift ?_, by omega, fun hn i hi hji => ?_⟩
          · simp only [laws_szIntSS.l0]
            refine pos (nat_lt hjl) (pos (by omega) ?_)
            rw [hg, succ_wrap (by omega)]
            exact bindc hr (neg hneg h1)
          · by_cases e : i = j
            · subst e
              exact hrl hneg
            · exact h3 hn i hi (by omega)
    obtain ⟨r, h1, h2, h3⟩ := main l.length 0 (a - (l.length : Int)) (by omega) (by omega) (by omega)
    refine ⟨r, neg h (by simpa using h1), by omega, fun hn => ⟨by omega, fun x hx => ?_⟩⟩
    obtain ⟨i, hi, rfl⟩ := List.getElem_of_mem hx
    exact h3 hn i hi (by omega)

theorem spec_l1In_eq (a b c : Int) : spec_l1In.f a b c = some (decide (b ≤ a ∧ a ≤ c)) := by
  unfold spec_l1In.f
  by_cases h : b ≤ a
  · rw [if_pos h]
    simp [h]
  · rw [if_neg h]
    simp [h]

theorem spec_Max_eq (a b : Int) : spec_Max.f a b = some (mx a b) := by
  unfold spec_Max.f mx
  by_cases h : b > a
  · rw [if_pos h, if_pos (by omega)]
  · rw [if_neg h, if_neg (by omega)]

def greenAt (x : List Int) (i : Int) : Bool := decide (0 ≤ i ∧ i < x.length ∧ rd x i = 1)
theorem greenAt_iff (x : List Int) (i : Int) : greenAt x i = true ↔ (0 ≤ i ∧ i < x.length ∧ rd x i = 1) := by unfold greenAt; exact decide_eq_true_iff

def redRun (h : List (List Int)) (i : Int) : Nat → Int
  | 0 => 0
  | j + 1 => if greenAt (rd_L1 h j) i = true then 0 else redRun h i j + 1
def redMost (h : List (List Int)) (i : Int) : Nat → Int
  | 0 => 0
  | j + 1 => mx (redMost h i j) (redRun h i (j + 1))
theorem redRun_range (h : List (List Int)) (i : Int) (j : Nat) : 0 ≤ redRun h i j ∧ redRun h i j ≤ j := by
  induction j with
  | zero => simp [redRun]
  | succ j ih =>
    rw [redRun]
    split <;> omega
theorem redRun_green {h : List (List Int)} {i : Int} {j : Nat} (g : greenAt (rd_L1 h j) i = true) : redRun h i (j + 1) = 0 := by rw [redRun, if_pos g]
theorem redRun_red {h : List (List Int)} {i : Int} {j : Nat} (g : ¬ greenAt (rd_L1 h j) i = true) : redRun h i (j + 1) = redRun h i j + 1 := by rw [redRun, if_neg g]
theorem spec_WaitedFor_ev (h : List (List Int)) (i : Int) (hl : h.length ≤ 1048576) (he : ∀ x ∈ h, x.length ≤ 1048576) : Ev (fun k => spec_WaitedFor.f k h i) (redMost h i h.length) := by
  unfold spec_WaitedFor.f
  refine loop (g := fun k j => spec_WaitedFor.l0 k h i (redMost h i j) (redRun h i j) (j : Int)) h.length ?_ ?_
  · intro j hj ih
    have hx : (rd_L1 h (j : Int)).length ≤ 1048576 := by
      have : rd_L1 h (j : Int) = h[j] := by simp [rd_L1, hj]
      rw [this]
      exact he _ (List.getElem_mem hj)
    have hb := redRun_range h i j
    refine shift ?_
    simp only [spec_WaitedFor.l0]
    refine pos (nat_lt hj) (pos (by omega) (bindc (spec_l1In_eq _ _ _) ?_))
    rw [succ_wrap (by omega), w64 (x := ((rd_L1 h (j : Int)).length : Int) - 1) (by omega) (by omega), w64 (x := redRun h i j + 1) (by omega) (by omega)]
    rw [redMost] at ih
    by_cases hr : 0 ≤ i ∧ i < (rd_L1 h (j : Int)).length
    · refine pos (by simp; omega) (pos hr.1 (pos hr.2 ?_))
      by_cases h1 : rd (rd_L1 h (j : Int)) i = 1
      · rw [redRun_green ((greenAt_iff _ _).2 ⟨hr.1, hr.2, h1⟩)] at ih
        exact pos h1 (bindc (spec_Max_eq _ _) ih)
      · rw [redRun_red (fun q => h1 ((greenAt_iff _ _).1 q).2.2)] at ih
        exact neg h1 (bindc (spec_Max_eq _ _) ih)
    · rw [redRun_red (fun q => hr ⟨((greenAt_iff _ _).1 q).1, ((greenAt_iff _ _).1 q).2.1⟩)] at ih
      exact neg (by simp; omega) (bindc (spec_Max_eq _ _) ih)
  · refine shift ?_
    simp only [spec_WaitedFor.l0]
    exact neg (nat_ge (Nat.le_refl _)) (now rfl)

theorem laws_toIntS_ev (l : List Int) (hl : l.length ≤ 17592186044416) : Ev (fun k => laws_toIntS.f k l) l := by
  unfold laws_toIntS.f
  refine pos (by omega) (pos (by omega) ?_)
  have h := copied (g := fun k y i => laws_toIntS.l0 k l y i) l id 0 (fun j hj y r hy h => by
    refine shift ?_
    simp only [laws_toIntS.l0]
    refine pos (nat_lt hj) (pos (by omega) (pos (by omega) ?_))
    rw [rd_get _ _ hj, succ_wrap (by omega)]
    exact h) (fun y => by
    refine shift ?_
    simp only [laws_toIntS.l0]
    exact neg (nat_ge (Nat.le_refl _)) (now rfl))
  simpa using h

theorem laws_toIntSS_ev (l : List (List Int)) (hl : l.length ≤ 1048576) (he : ∀ x ∈ l, x.length ≤ 1048576) : Ev (fun k => laws_toIntSS.f k l) l := by
  unfold laws_toIntSS.f
  refine pos (by omega) (pos (by omega) ?_)
  have h := copied (g := fun k y i => laws_toIntSS.l0 k l y i) l id [] (fun j hj y r hy h => by
    refine shift ?_
    simp only [laws_toIntSS.l0]
    have hg : rd_L1 l (j : Int) = l[j] := by simp [rd_L1, hj]
    rw [hg]
    refine pos (nat_lt hj) (pos (by omega) (Ev.bind (laws_toIntS_ev _ (by have := he _ (List.getElem_mem hj); omega)) (pos (by omega) ?_)))
    rw [succ_wrap (by omega)]
    exact h) (fun y => by
    refine shift ?_
    simp only [laws_toIntSS.l0]
    exact neg (nat_ge (Nat.le_refl _)) (now rfl))
  simpa using h

theorem impl_isGreen_eq (x : List Int) (i : Int) : impl_isGreen.f x i = some (greenAt x i) := by
  unfold impl_isGreen.f greenAt
  by_cases h0 : i ≥ 0
  · rw [if_pos h0]
    by_cases h1 : i < (x.length : Int)
    · rw [if_pos h1, if_pos h0]
      refine congrArg some ?_
      rw [Bool.eq_iff_iff]
      simp [h1]
      omega
    · rw [if_neg h1]
      exact congrArg some (Eq.symm (decide_eq_false (by omega)))
  · rw [if_neg h0]
    exact congrArg some (Eq.symm (decide_eq_false (by omega)))

theorem impl_WaitedFor_ev (h : List (List Int)) (i : Int) (hl : h.length ≤ 1048576) : Ev (fun k => impl_WaitedFor.f k h i) (redMost h i h.length) := by
  unfold impl_WaitedFor.f
  refine loop (g := fun k j => impl_WaitedFor.l0 k i (redMost h i j) (redRun h i j) h (h.length : Int) (j : Int)) h.length ?_ ?_
  · intro j hj ih
    have hb := redRun_range h i j
    refine shift ?_
    simp only [impl_WaitedFor.l0]
    refine pos (nat_lt hj) (pos (by omega) (pos (nat_lt hj) (bindc (impl_isGreen_eq _ _) ?_)))
    rw [succ_wrap (by omega), w64 (x := redRun h i j + 1) (by omega) (by omega)]
    rw [redMost] at ih
    by_cases hg : greenAt (rd_L1 h (j : Int)) i = true
    · rw [redRun_green hg] at ih
      exact pos hg ih
    · rw [redRun_red hg] at ih
      exact neg hg ih
  · refine shift ?_
    simp only [impl_WaitedFor.l0]
    exact neg (nat_ge (Nat.le_refl _)) (now rfl)

theorem laws_eqIntS_refl (l : List Int) (hl : l.length < 9223372036854775807) : Ev (fun k => laws_eqIntS.f k l l) true := by
  unfold laws_eqIntS.f
  refine pos rfl (loop (g := fun k j => laws_eqIntS.l0 k l l (j : Int)) l.length ?_ ?_)
  · intro j hj h
    refine shift ?_
    simp only [laws_eqIntS.l0]
    refine pos (nat_lt hj) (pos (by omega) (pos (nat_lt hj) (pos (by simp) ?_)))
    rw [succ_wrap (by omega)]
    exact h
  · refine shift ?_
    simp only [laws_eqIntS.l0]
    exact neg (nat_ge (Nat.le_refl _)) (now rfl)

theorem laws_eqIntSS_refl (l : List (List Int)) (hl : l.length ≤ 1048576) (he : ∀ x ∈ l, x.length ≤ 1048576) : Ev (fun k => laws_eqIntSS.f k l l) true := by
  unfold laws_eqIntSS.f
  refine pos rfl (loop (g := fun k j => laws_eqIntSS.l0 k l l (j : Int)) l.length ?_ ?_)
  · intro j hj h
    refine shift ?_
    simp only [laws_eqIntSS.l0]
    have hg : rd_L1 l (j : Int) = l[j] := by simp [rd_L1, hj]
    rw [hg]
    refine pos (nat_lt hj) (pos (by omega) (pos (nat_lt hj) (Ev.bind (laws_eqIntS_refl _ (by have := he _ (List.getElem_mem hj); omega)) (pos rfl ?_))))
    rw [succ_wrap (by omega)]
    exact h
  · refine shift ?_
    simp only [laws_eqIntSS.l0]
    exact neg (nat_ge (Nat.le_refl _)) (now rfl)

theorem FnExactWaitedFor (l : List (List Int)) (hw : wfS 24 (wfS 8 I64) l) (a1 : Int) (h1 : I64 a1) : ∃ k, laws_FnExactWaitedFor.f k l a1 = some true := by
  refine Ev.rounds ?_
  have hm := hw.2.1
  have hme : ∀ x ∈ l, x.length ≤ 140737488355328 := fun x hx => by have := (hw.2.2 x hx).2.1; omega
  unfold laws_FnExactWaitedFor.f
  obtain ⟨r, hr, _, hl⟩ := laws_szIntSS_ev l 1048576 (by omega) (by omega) (by omega) hme
  refine Ev.bind hr ?_
  by_cases h : r < 0
  · exact pos h (now rfl)
  · obtain ⟨hl, he⟩ := hl h
    refine neg h (Ev.bind (laws_toIntSS_ev l hl he) (Ev.bind (spec_WaitedFor_ev _ _ hl he) (Ev.bind (laws_toIntSS_ev l hl he) (Ev.bind (impl_WaitedFor_ev _ _ hl) ?_))))
    exact pos rfl (Ev.bind (laws_toIntSS_ev l hl he) (Ev.bind (laws_eqIntSS_refl _ hl he) (pos rfl (now rfl))))

end Go.Proofs.Ytcbckejlljcnpab.PureFnExactWaitedFor
