/- The pure statement of FnExactSameUntil: for all arguments of their kinds there is a number of rounds behind which the law answers true; condition: every number is one of Go's int, every slice is within the reach. -/
import Derived.Test.YtcbckejlljcnpabPFnExactSameUntilx0
import Derived.Test.YtcbckejlljcnpabPFnExactSameUntilx1
import Derived.Test.YtcbckejlljcnpabPFnExactSameUntilx2
import Derived.Test.YtcbckejlljcnpabAid
namespace Go.Proofs.Ytcbckejlljcnpab.PureFnExactSameUntil
open Go.RowKit Go.Proofs.YtcbckejlljcnpabW.PrintWords Go.Proofs.YtcbckejlljcnpabW.PrintLast Go.Proofs.YtcbckejlljcnpabW.PrintMore Go.Proofs.Ytcbckejlljcnpab.PFnExactSameUntil Go.Proofs.Ytcbckejlljcnpab.Aid
set_option linter.unusedVariables false
set_option linter.unusedSimpArgs false

/-- Every number of it is one of Go's int, every slice within the reach. -/
def wf69 (x : S69) : Prop := I64 x.f0 ∧ (wfS 8 I64) x.f1 ∧ I64 x.f2

theorem laws_szIntS_eq (l : List Int) (a : Int) (ha : 0 ≤ a) (ha2 : a ≤ 1048576) (hl : l.length ≤ 140737488355328) : ∃ r, laws_szIntS.f l a = some r ∧ r ≤ a ∧ (¬ r < 0 → l.length ≤ 1048576) := by
  unfold laws_szIntS.f
  rw [w64 (by omega) (by omega)]
  by_cases h : a - (l.length : Int) < 0
  · exact ⟨-1, by rw [if_pos h], by omega, by omega⟩
  · exact ⟨_, by rw [if_neg h], by omega, by omega⟩

theorem laws_szEntry_eq (x : S69) (a : Int) (ha : 0 ≤ a) (ha2 : a ≤ 1048576) (hl : x.f1.length ≤ 140737488355328) : ∃ r, laws_szEntry.f x.f0 x.f1 x.f2 a = some r ∧ r ≤ a ∧ (¬ r < 0 → x.f1.length ≤ 1048576) := by
  unfold laws_szEntry.f
  obtain ⟨r, h1, h2, h3⟩ := laws_szIntS_eq x.f1 a ha ha2 hl
  rw [h1, Option.bind_some]
  by_cases h : r < 0
  · exact ⟨-1, by rw [if_pos h], by omega, by omega⟩
  · exact ⟨r, by rw [if_neg h], h2, h3⟩

theorem laws_szEntryS_ev (l : List S69) (a : Int) (ha : 0 ≤ a) (ha2 : a ≤ 1048576) (hl : l.length ≤ 140737488355328) (he : ∀ x ∈ l, x.f1.length ≤ 140737488355328) :
    ∃ r, Ev (fun k => laws_szEntryS.f k l a) r ∧ r ≤ a ∧ (¬ r < 0 → l.length ≤ 1048576 ∧ ∀ x ∈ l, x.f1.length ≤ 1048576) := by
  unfold laws_szEntryS.f
  rw [w64 (by omega) (by omega)]
  by_cases h : a - (l.length : Int) < 0
  · exact ⟨-1, pos h (now rfl), by omega, by omega⟩
  · have main : ∀ (d j : Nat) (b : Int), j + d = l.length → 0 ≤ b → b ≤ 1048576 → ∃ r, Ev (fun k => laws_szEntryS.l0 k l b (j : Int)) r ∧ r ≤ b ∧ (¬ r < 0 → ∀ i (hi : i < l.length), j ≤ i → l[i].f1.length ≤ 1048576) := by
      intro d
      induction d with
      | zero =>
        intro j b hj hb hb2
        refine ⟨b, shift ?_, by omega, fun _ i hi hji => by omega⟩
        simp only [laws_szEntryS.l0]
        exact neg (by omega) (now rfl)
      | succ d ih =>
        intro j b hj hb hb2
        have hjl : j < l.length := by omega
        have hg : rd_T69 l (j : Int) = l[j] := by simp [rd_T69, hjl]
        obtain ⟨r, hr, hra, hrl⟩ := laws_szEntry_eq l[j] b hb hb2 (he _ (List.getElem_mem hjl))
        by_cases hneg : r < 0
        · refine ⟨-1, shift ?_, by omega, by omega⟩
          simp only [laws_szEntryS.l0]
          refine pos (nat_lt hjl) (pos (by omega) ?_)
          rw [hg]
          exact bindc hr (pos hneg (now rfl))
        · obtain ⟨r2, h1, h2, h3⟩ := ih (j + 1) r (by omega) (by omega) (by omega)
          refine ⟨r2, shift ?_, by omega, fun hn i hi hji => ?_⟩
          · simp only [laws_szEntryS.l0]
            refine pos (nat_lt hjl) (pos (by omega) ?_)
            rw [hg, succ_wrap (by omega)]
            exact bindc hr (neg hneg h1)
          · by_cases e : i = j
            · subst e
              exact hrl hneg
            · exact h3 hn i hi (by omega)
    obtain ⟨r, h1, h2, h3⟩ := main l.length 0 (a - (l.length : Int)) (by omega) (by omega) (by omega)
    refine ⟨r, neg h (by simpa using h1), by omega, fun hn => ⟨by omega, fun x hx => ?_⟩⟩
    obtain ⟨i, hi, rfl⟩ := List.getElem_of_mem hx
    exact h3 hn i hi (by omega)

theorem laws_toIntS_ev (l : List Int) (hl : l.length ≤ 17592186044416) : Ev (fun k => laws_toIntS.f k l) l := by
  unfold laws_toIntS.f
  refine pos (by omega) (pos (by omega) ?_)
  have h := copied (g := fun k y i => laws_toIntS.l0 k l y i) l id 0 (fun j hj y r hy h => by
    refine shift ?_
    simp only [laws_toIntS.l0]
    refine pos (nat_lt hj) (pos (by omega) (pos (by omega) ?_))
    rw [rd_get _ _ hj, succ_wrap (by omega)]
    exact h) (fun y => by
    refine shift ?_
    simp only [laws_toIntS.l0]
    exact neg (nat_ge (Nat.le_refl _)) (now rfl))
  simpa using h

theorem laws_toEntry_ev (x : S69) (hl : x.f1.length ≤ 1048576) : Ev (fun k => laws_toEntry.f k x.f0 x.f1 x.f2) (x.f0, x.f1, x.f2) := by
  unfold laws_toEntry.f
  exact Ev.bind (laws_toIntS_ev x.f1 (by omega)) (now rfl)

def cEntry (x : S69) : S70 := ⟨x.f0, x.f1, x.f2⟩
theorem laws_toEntryS_ev (l : List S69) (hl : l.length ≤ 1048576) (he : ∀ x ∈ l, x.f1.length ≤ 1048576) : Ev (fun k => laws_toEntryS.f k l) (l.map cEntry) := by
  unfold laws_toEntryS.f
  refine pos (by omega) (pos (by omega) ?_)
  exact copied (g := fun k y i => laws_toEntryS.l0 k l y i) l cEntry z70 (fun j hj y r hy h => by
    refine shift ?_
    simp only [laws_toEntryS.l0]
    have hg : rd_T69 l (j : Int) = l[j] := by simp [rd_T69, hj]
    rw [hg]
    refine pos (nat_lt hj) (pos (by omega) (Ev.bind (laws_toEntry_ev _ (he _ (List.getElem_mem hj))) (pos (by omega) ?_)))
    rw [succ_wrap (by omega)]
    exact h) (fun y => by
    refine shift ?_
    simp only [laws_toEntryS.l0]
    exact neg (nat_ge (Nat.le_refl _)) (now rfl))
theorem cEntry_short (l : List S69) (he : ∀ x ∈ l, x.f1.length ≤ 1048576) : ∀ x ∈ l.map cEntry, x.f1.length ≤ 1048576 := by
  intro x hx
  obtain ⟨y, hy, rfl⟩ := List.mem_map.1 hx
  exact he y hy

theorem laws_eqIntS_refl (l : List Int) (hl : l.length < 9223372036854775807) : Ev (fun k => laws_eqIntS.f k l l) true := by
  unfold laws_eqIntS.f
  refine pos rfl (loop (g := fun k j => laws_eqIntS.l0 k l l (j : Int)) l.length ?_ ?_)
  · intro j hj h
    refine shift ?_
    simp only [laws_eqIntS.l0]
    refine pos (nat_lt hj) (pos (by omega) (pos (nat_lt hj) (pos (by simp) ?_)))
    rw [succ_wrap (by omega)]
    exact h
  · refine shift ?_
    simp only [laws_eqIntS.l0]
    exact neg (nat_ge (Nat.le_refl _)) (now rfl)

theorem laws_eqEntry_refl (x : S70) (hl : x.f1.length < 9223372036854775807) : Ev (fun k => laws_eqEntry.f k x.f0 x.f1 x.f2 x.f0 x.f1 x.f2) true := by
  unfold laws_eqEntry.f
  repeat (first | exact now rfl | refine pos rfl ?_ | refine Ev.bind (laws_eqIntS_refl x.f1 hl) ?_)

theorem laws_eqEntryS_refl (l : List S70) (hl : l.length ≤ 1048576) (he : ∀ x ∈ l, x.f1.length ≤ 1048576) : Ev (fun k => laws_eqEntryS.f k l l) true := by
  unfold laws_eqEntryS.f
  refine pos rfl (loop (g := fun k j => laws_eqEntryS.l0 k l l (j : Int)) l.length ?_ ?_)
  · intro j hj h
    refine shift ?_
    simp only [laws_eqEntryS.l0]
    have hg : rd_T70 l (j : Int) = l[j] := by simp [rd_T70, hj]
    rw [hg]
    refine pos (nat_lt hj) (pos (by omega) (pos (nat_lt hj) (Ev.bind (laws_eqEntry_refl _ (by have := he _ (List.getElem_mem hj); omega)) (pos rfl ?_))))
    rw [succ_wrap (by omega)]
    exact h
  · refine shift ?_
    simp only [laws_eqEntryS.l0]
    exact neg (nat_ge (Nat.le_refl _)) (now rfl)

/-- How many entries bear the same seals, from place j on. -/
def sameFrom (a b : List S70) : Nat → Nat → Nat
  | 0, j => j
  | d + 1, j => if j < a.length ∧ j < b.length ∧ (rd_T70 a j).f2 = (rd_T70 b j).f2 then sameFrom a b d (j + 1) else j
theorem spec_SameUntil_at (a b : List S70) (ha : a.length ≤ 1048577) (hb : b.length ≤ 1048577) : ∀ d j : Nat, a.length ≤ j + d → Ev (fun k => spec_SameUntil.l0 k a b (j : Int)) (sameFrom a b d j : Int) := by
  intro d
  induction d with
  | zero =>
    intro j hj
    refine shift ?_
    simp only [spec_SameUntil.l0]
    exact neg (nat_ge (by omega)) (now rfl)
  | succ d ih =>
    intro j hj
    refine shift ?_
    simp only [spec_SameUntil.l0]
    rw [sameFrom]
    by_cases h1 : j < a.length
    · refine pos (nat_lt h1) ?_
      by_cases h2 : j < b.length
      · refine pos (nat_lt h2) (pos (by omega) ?_)
        by_cases h3 : (rd_T70 a j).f2 = (rd_T70 b j).f2
        · rw [if_pos ⟨h1, h2, h3⟩]
          refine pos h3 ?_
          rw [succ_wrap (by omega)]
          exact ih (j + 1) (by omega)
        · rw [if_neg (fun q => h3 q.2.2)]
          exact neg h3 (now rfl)
      · rw [if_neg (fun q => h2 q.2.1)]
        exact neg (nat_ge (by omega)) (now rfl)
    · rw [if_neg (fun q => h1 q.1)]
      exact neg (nat_ge (by omega)) (now rfl)
theorem spec_SameUntil_ev (a b : List S70) (ha : a.length ≤ 1048577) (hb : b.length ≤ 1048577) : Ev (fun k => spec_SameUntil.f k a b) (sameFrom a b a.length 0 : Int) := spec_SameUntil_at a b ha hb a.length 0 (by omega)

theorem impl_SameUntil_at (a b : List S70) (ha : a.length ≤ 1048577) (hb : b.length ≤ 1048577) : ∀ d j : Nat, a.length ≤ j + d → Ev (fun k => impl_SameUntil.l0 k a b (j : Int)) (sameFrom a b d j : Int) := by
  intro d
  induction d with
  | zero =>
    intro j hj
    refine shift ?_
    simp only [impl_SameUntil.l0]
    exact neg (nat_ge (by omega)) (now rfl)
  | succ d ih =>
    intro j hj
    refine shift ?_
    simp only [impl_SameUntil.l0]
    rw [sameFrom]
    by_cases h1 : j < a.length
    · refine pos (nat_lt h1) ?_
      by_cases h2 : j < b.length
      · refine pos (nat_lt h2) (pos (by omega) ?_)
        by_cases h3 : (rd_T70 a j).f2 = (rd_T70 b j).f2
        · rw [if_pos ⟨h1, h2, h3⟩]
          refine pos h3 ?_
          rw [succ_wrap (by omega)]
          exact ih (j + 1) (by omega)
        · rw [if_neg (fun q => h3 q.2.2)]
          exact neg h3 (now rfl)
      · rw [if_neg (fun q => h2 q.2.1)]
        exact neg (nat_ge (by omega)) (now rfl)
    · rw [if_neg (fun q => h1 q.1)]
      exact neg (nat_ge (by omega)) (now rfl)
theorem impl_SameUntil_ev (a b : List S70) (ha : a.length ≤ 1048577) (hb : b.length ≤ 1048577) : Ev (fun k => impl_SameUntil.f k a b) (sameFrom a b a.length 0 : Int) := impl_SameUntil_at a b ha hb a.length 0 (by omega)

theorem FnExactSameUntil (l : List S69) (hw : wfS 40 wf69 l) (l2 : List S69) (hw2 : wfS 40 wf69 l2) : ∃ k, laws_FnExactSameUntil.f k l l2 = some true := by
  refine Ev.rounds ?_
  have hm := hw.2.1
  have hme : ∀ x ∈ l, x.f1.length ≤ 140737488355328 := fun x hx => by have := (hw.2.2 x hx).2.1.2.1; omega
  have hm2 := hw2.2.1
  have hme2 : ∀ x ∈ l2, x.f1.length ≤ 140737488355328 := fun x hx => by have := (hw2.2.2 x hx).2.1.2.1; omega
  unfold laws_FnExactSameUntil.f
  obtain ⟨r, hr, hra, hl⟩ := laws_szEntryS_ev l 1048576 (by omega) (by omega) (by omega) hme
  refine Ev.bind hr ?_
  by_cases h : r < 0
  · exact pos h (now rfl)
  · obtain ⟨hl, he⟩ := hl h
    have hc : (l.map cEntry).length ≤ 1048576 := by simpa using hl
    have hec := cEntry_short l he
    obtain ⟨r2, hr2, _, hl2⟩ := laws_szEntryS_ev l2 r (by omega) (by omega) (by omega) hme2
    refine neg h (Ev.bind hr2 ?_)
    by_cases h2 : r2 < 0
    · exact pos h2 (now rfl)
    · obtain ⟨hl2, he2⟩ := hl2 h2
      have hc2 : (l2.map cEntry).length ≤ 1048576 := by simpa using hl2
      have hec2 := cEntry_short l2 he2
      refine neg h2 (Ev.bind (laws_toEntryS_ev l hl he) (Ev.bind (laws_toEntryS_ev l2 hl2 he2) (Ev.bind (spec_SameUntil_ev _ _ (by omega) (by omega)) (Ev.bind (laws_toEntryS_ev l hl he) (Ev.bind (laws_toEntryS_ev l2 hl2 he2) (Ev.bind (impl_SameUntil_ev _ _ (by omega) (by omega)) ?_))))))
      exact pos rfl (Ev.bind (laws_toEntryS_ev l hl he) (Ev.bind (laws_eqEntryS_refl _ hc hec) (pos rfl (Ev.bind (laws_toEntryS_ev l2 hl2 he2) (Ev.bind (laws_eqEntryS_refl _ hc2 hec2) (pos rfl (now rfl)))))))

end Go.Proofs.Ytcbckejlljcnpab.PureFnExactSameUntil
