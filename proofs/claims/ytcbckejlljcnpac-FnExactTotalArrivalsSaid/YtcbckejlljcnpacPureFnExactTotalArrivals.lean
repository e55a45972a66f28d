/- The pure statement of FnExactTotalArrivals: for all arguments of their kinds there is a number of rounds behind which the law answers true; condition: every number is one of Go's int, every slice is within the reach. -/
import Derived.Test.YtcbckejlljcnpacPFnExactTotalArrivalsx0
import Derived.Test.YtcbckejlljcnpacPFnExactTotalArrivalsx1
import Derived.Test.YtcbckejlljcnpacPFnExactTotalArrivalsx2
import Derived.Test.YtcbckejlljcnpacPFnExactTotalArrivalsx3
import Derived.Test.YtcbckejlljcnpacAid
namespace Go.Proofs.Ytcbckejlljcnpac.PureFnExactTotalArrivals
open Go.RowKit Go.Proofs.YtcbckejlljcnpacW.PrintWords Go.Proofs.YtcbckejlljcnpacW.PrintLast Go.Proofs.YtcbckejlljcnpacW.PrintMore Go.Proofs.Ytcbckejlljcnpac.PFnExactTotalArrivals Go.Proofs.Ytcbckejlljcnpac.Aid
set_option linter.unusedVariables false
set_option linter.unusedSimpArgs false

/-- Every number of it is one of Go's int, every slice within the reach. -/
def wf83 (x : S83) : Prop := I64 x.f0 ∧ (wfS 8 I64) x.f1

theorem laws_szIntS_eq (l : List Int) (a : Int) (ha : 0 ≤ a) (ha2 : a ≤ 1048576) (hl : l.length ≤ 140737488355328) : ∃ r, laws_szIntS.f l a = some r ∧ r ≤ a ∧ (¬ r < 0 → l.length ≤ 1048576) := by
  unfold laws_szIntS.f
  rw [w64 (by omega) (by omega)]
  by_cases h : a - (l.length : Int) < 0
  · exact ⟨-1, by rw [if_pos h], by omega, by omega⟩
  · exact ⟨_, by rw [if_neg h], by omega, by omega⟩

theorem laws_szStream_eq (x : S83) (a : Int) (ha : 0 ≤ a) (ha2 : a ≤ 1048576) (hl : x.f1.length ≤ 140737488355328) : ∃ r, laws_szStream.f x.f0 x.f1 a = some r ∧ r ≤ a ∧ (¬ r < 0 → x.f1.length ≤ 1048576) := by
  unfold laws_szStream.f
  obtain ⟨r, h1, h2, h3⟩ := laws_szIntS_eq x.f1 a ha ha2 hl
  rw [h1, Option.bind_some]
  by_cases h : r < 0
  · exact ⟨-1, by rw [if_pos h], by omega, by omega⟩
  · exact ⟨r, by rw [if_neg h], h2, h3⟩

theorem laws_szStreamS_ev (l : List S83) (a : Int) (ha : 0 ≤ a) (ha2 : a ≤ 1048576) (hl : l.length ≤ 140737488355328) (he : ∀ x ∈ l, x.f1.length ≤ 140737488355328) :
    ∃ r, Ev (fun k => laws_szStreamS.f k l a) r ∧ r ≤ a ∧ (¬ r < 0 → l.length ≤ 1048576 ∧ ∀ x ∈ l, x.f1.length ≤ 1048576) := by
  unfold laws_szStreamS.f
  rw [w64 (by omega) (by omega)]
  by_cases h : a - (l.length : Int) < 0
  · exact ⟨-1, pos h (now rfl), by omega, by omega⟩
  · have main : ∀ (d j : Nat) (b : Int), j + d = l.length → 0 ≤ b → b ≤ 1048576 → ∃ r, Ev (fun k => laws_szStreamS.l0 k l b (j : Int)) r ∧ r ≤ b ∧ (¬ r < 0 → ∀ i (hi : i < l.length), j ≤ i → l[i].f1.length ≤ 1048576) := by
      intro d
      induction d with
      | zero =>
        intro j b hj hb hb2
        refine ⟨b, shift ?_, by omega, fun _ i hi hji => by omega⟩
        simp only [laws_szStreamS.l0]
        exact neg (by omega) (now rfl)
      | succ d ih =>
        intro j b hj hb hb2
        have hjl : j < l.length := by omega
        have hg : rd_T83 l (j : Int) = l[j] := by simp [rd_T83, hjl]
        obtain ⟨r, hr, hra, hrl⟩ := laws_szStream_eq l[j] b hb hb2 (he _ (List.getElem_mem hjl))
        by_cases hneg : r < 0
        · refine ⟨-1, shift ?_, by omega, by omega⟩
          simp only [laws_szStreamS.l0]
          refine pos (nat_lt hjl) (pos (by omega) ?_)
          rw [hg]
          exact bindc hr (pos hneg (now rfl))
        · obtain ⟨r2, h1, h2, h3⟩ := ih (j + 1) r (by omega) (by omega) (by omega)
          refine ⟨r2, shift ?_, by omega, fun hn i hi hji => ?_⟩
          · simp only [laws_szStreamS.l0]
            refine pos (nat_lt hjl) (pos (by omega) ?_)
            rw [hg, succ_wrap (by omega)]
            exact bindc hr (neg hneg h1)
          · by_cases e : i = j
            · subst e
              exact hrl hneg
            · exact h3 hn i hi (by omega)
    obtain ⟨r, h1, h2, h3⟩ := main l.length 0 (a - (l.length : Int)) (by omega) (by omega) (by omega)
    refine ⟨r, neg h (by simpa using h1), by omega, fun hn => ⟨by omega, fun x hx => ?_⟩⟩
    obtain ⟨i, hi, rfl⟩ := List.getElem_of_mem hx
    exact h3 hn i hi (by omega)

theorem spec_Max_eq (a b : Int) : spec_Max.f a b = some (mx a b) := by
  unfold spec_Max.f mx
  by_cases h : b > a
  · rw [if_pos h, if_pos (by omega)]
  · rw [if_neg h, if_neg (by omega)]

theorem spec_Min_eq (a b : Int) : spec_Min.f a b = some (mn a b) := by
  unfold spec_Min.f mn
  by_cases h : b < a
  · rw [if_pos h, if_pos h]
  · rw [if_neg h, if_neg h]

def clip (x : Int) : Int := mx 0 (mn x 20)
theorem clip_range (x : Int) : 0 ≤ clip x ∧ clip x ≤ 20 := by
  unfold clip mx mn
  split <;> split <;> omega
theorem clip_swap (x : Int) : mx 0 (mn 20 x) = clip x := by
  unfold clip mx mn
  split <;> split <;> split <;> omega
def rowSum (x : List Int) : Nat → Int
  | 0 => 0
  | j + 1 => rowSum x j + clip (rd x j)
theorem rowSum_range (x : List Int) (j : Nat) : 0 ≤ rowSum x j ∧ rowSum x j ≤ 20 * j := by
  induction j with
  | zero => simp [rowSum]
  | succ j ih =>
    have := clip_range (rd x j)
    rw [rowSum]
    omega
def allSum (l : List S84) : Nat → Int
  | 0 => 0
  | i + 1 => allSum l i + rowSum (rd_T84 l i).f1 (rd_T84 l i).f1.length
theorem stream_short (l : List S84) (he : ∀ x ∈ l, x.f1.length ≤ 1048576) (i : Nat) (hi : i < l.length) : (rd_T84 l i).f1.length ≤ 1048576 := by
  have : rd_T84 l (i : Int) = l[i] := by simp [rd_T84, hi]
  rw [this]
  exact he _ (List.getElem_mem hi)
theorem allSum_range (l : List S84) (he : ∀ x ∈ l, x.f1.length ≤ 1048576) (i : Nat) (hi : i ≤ l.length) : 0 ≤ allSum l i ∧ allSum l i ≤ 20971520 * i := by
  induction i with
  | zero => simp [allSum]
  | succ i ih =>
    have h1 := ih (by omega)
    have h2 := stream_short l he i (by omega)
    have h3 := rowSum_range (rd_T84 l i).f1 (rd_T84 l i).f1.length
    rw [allSum]
    omega
theorem spec_TotalArrivals_ev (l : List S84) (hl : l.length ≤ 1048576) (he : ∀ x ∈ l, x.f1.length ≤ 1048576) : Ev (fun k => spec_TotalArrivals.f k l) (allSum l l.length) := by
  unfold spec_TotalArrivals.f
  refine loop (g := fun k i => spec_TotalArrivals.l0 k l (allSum l i) (i : Int)) l.length ?_ ?_
  · intro i hi h
    have h1 := allSum_range l he i (by omega)
    have h2 := stream_short l he i hi
    refine shift ?_
    simp only [spec_TotalArrivals.l0]
    refine pos (nat_lt hi) ?_
    have inner := loop (g := fun k j => spec_TotalArrivals.l1 k l (allSum l i + rowSum (rd_T84 l i).f1 j) (i : Int) (j : Int)) (r := allSum l l.length) (rd_T84 l i).f1.length (fun j hj hh => by
      have h3 := rowSum_range (rd_T84 l i).f1 j
      have h4 := clip_range (rd (rd_T84 l i).f1 j)
      refine shift ?_
      simp only [spec_TotalArrivals.l1]
      refine pos (by omega) (pos (nat_lt hi) (pos (nat_lt hj) (pos (by omega) (bindc (spec_Min_eq _ _) (bindc (spec_Max_eq _ _) ?_)))))
      rw [clip_swap, succ_wrap (by omega), w64 (by omega) (by omega), Int.add_assoc]
      exact hh) (by
      refine shift ?_
      simp only [spec_TotalArrivals.l1]
      refine pos (by omega) (pos (nat_lt hi) (neg (nat_ge (Nat.le_refl _)) ?_))
      rw [succ_wrap (by omega)]
      exact h)
    simpa [rowSum] using inner
  · refine shift ?_
    simp only [spec_TotalArrivals.l0]
    exact neg (nat_ge (Nat.le_refl _)) (now rfl)

theorem laws_toIntS_ev (l : List Int) (hl : l.length ≤ 17592186044416) : Ev (fun k => laws_toIntS.f k l) l := by
  unfold laws_toIntS.f
  refine pos (by omega) (pos (by omega) ?_)
  have h := copied (g := fun k y i => laws_toIntS.l0 k l y i) l id 0 (fun j hj y r hy h => by
    refine shift ?_
    simp only [laws_toIntS.l0]
    refine pos (nat_lt hj) (pos (by omega) (pos (by omega) ?_))
    rw [rd_get _ _ hj, succ_wrap (by omega)]
    exact h) (fun y => by
    refine shift ?_
    simp only [laws_toIntS.l0]
    exact neg (nat_ge (Nat.le_refl _)) (now rfl))
  simpa using h

theorem laws_toStream_ev (x : S83) (hl : x.f1.length ≤ 1048576) : Ev (fun k => laws_toStream.f k x.f0 x.f1) (x.f0, x.f1) := by
  unfold laws_toStream.f
  exact Ev.bind (laws_toIntS_ev x.f1 (by omega)) (now rfl)

def cStream (x : S83) : S84 := ⟨x.f0, x.f1⟩
theorem laws_toStreamS_ev (l : List S83) (hl : l.length ≤ 1048576) (he : ∀ x ∈ l, x.f1.length ≤ 1048576) : Ev (fun k => laws_toStreamS.f k l) (l.map cStream) := by
  unfold laws_toStreamS.f
  refine pos (by omega) (pos (by omega) ?_)
  exact copied (g := fun k y i => laws_toStreamS.l0 k l y i) l cStream z84 (fun j hj y r hy h => by
    refine shift ?_
    simp only [laws_toStreamS.l0]
    have hg : rd_T83 l (j : Int) = l[j] := by simp [rd_T83, hj]
    rw [hg]
    refine pos (nat_lt hj) (pos (by omega) (Ev.bind (laws_toStream_ev _ (he _ (List.getElem_mem hj))) (pos (by omega) ?_)))
    rw [succ_wrap (by omega)]
    exact h) (fun y => by
    refine shift ?_
    simp only [laws_toStreamS.l0]
    exact neg (nat_ge (Nat.le_refl _)) (now rfl))
theorem cStream_short (l : List S83) (he : ∀ x ∈ l, x.f1.length ≤ 1048576) : ∀ x ∈ l.map cStream, x.f1.length ≤ 1048576 := by
  intro x hx
  obtain ⟨y, hy, rfl⟩ := List.mem_map.1 hx
  exact he y hy

theorem impl_TotalArrivals_ev (l : List S84) (hl : l.length ≤ 1048576) (he : ∀ x ∈ l, x.f1.length ≤ 1048576) : Ev (fun k => impl_TotalArrivals.f k l) (allSum l l.length) := by
  unfold impl_TotalArrivals.f
  refine loop (g := fun k i => impl_TotalArrivals.l0 k (allSum l i) l (l.length : Int) (i : Int)) l.length ?_ ?_
  · intro i hi h
    have h1 := allSum_range l he i (by omega)
    have h2 := stream_short l he i hi
    refine shift ?_
    simp only [impl_TotalArrivals.l0]
    refine pos (nat_lt hi) (pos (by omega) (pos (nat_lt hi) ?_))
    have inner := loop (g := fun k j => impl_TotalArrivals.l1 k (allSum l i + rowSum (rd_T84 l i).f1 j) l (l.length : Int) (i : Int) (rd_T84 l i).f1 ((rd_T84 l i).f1.length : Int) (j : Int)) (r := allSum l l.length) (rd_T84 l i).f1.length (fun j hj hh => by
      have h3 := rowSum_range (rd_T84 l i).f1 j
      have h4 := clip_range (rd (rd_T84 l i).f1 j)
      refine shift ?_
      simp only [impl_TotalArrivals.l1]
      refine pos (nat_lt hj) (pos (by omega) (pos (nat_lt hj) ?_))
      rw [succ_wrap (by omega)]
      show Ev (fun k => impl_TotalArrivals.l1 k (wrap64 (_ + clip _)) _ _ _ _ _ _) _
      rw [w64 (by omega) (by omega), Int.add_assoc]
      exact hh) (by
      refine shift ?_
      simp only [impl_TotalArrivals.l1]
      refine neg (nat_ge (Nat.le_refl _)) ?_
      rw [succ_wrap (by omega)]
      exact h)
    simpa [rowSum] using inner
  · refine shift ?_
    simp only [impl_TotalArrivals.l0]
    exact neg (nat_ge (Nat.le_refl _)) (now rfl)

theorem laws_eqIntS_refl (l : List Int) (hl : l.length < 9223372036854775807) : Ev (fun k => laws_eqIntS.f k l l) true := by
  unfold laws_eqIntS.f
  refine pos rfl (loop (g := fun k j => laws_eqIntS.l0 k l l (j : Int)) l.length ?_ ?_)
  · intro j hj h
    refine shift ?_
    simp only [laws_eqIntS.l0]
    refine pos (nat_lt hj) (pos (by omega) (pos (nat_lt hj) (pos (by simp) ?_)))
    rw [succ_wrap (by omega)]
    exact h
  · refine shift ?_
    simp only [laws_eqIntS.l0]
    exact neg (nat_ge (Nat.le_refl _)) (now rfl)

theorem laws_eqStream_refl (x : S84) (hl : x.f1.length < 9223372036854775807) : Ev (fun k => laws_eqStream.f k x.f0 x.f1 x.f0 x.f1) true := by
  unfold laws_eqStream.f
  repeat (first | exact now rfl | refine pos rfl ?_ | refine Ev.bind (laws_eqIntS_refl x.f1 hl) ?_)

theorem laws_eqStreamS_refl (l : List S84) (hl : l.length ≤ 1048576) (he : ∀ x ∈ l, x.f1.length ≤ 1048576) : Ev (fun k => laws_eqStreamS.f k l l) true := by
  unfold laws_eqStreamS.f
  refine pos rfl (loop (g := fun k j => laws_eqStreamS.l0 k l l (j : Int)) l.length ?_ ?_)
  · intro j hj h
    refine shift ?_
    simp only [laws_eqStreamS.l0]
    have hg : rd_T84 l (j : Int) = l[j] := by simp [rd_T84, hj]
    rw [hg]
    refine pos (nat_lt hj) (pos (by omega) (pos (nat_lt hj) (Ev.bind (laws_eqStream_refl _ (by have := he _ (List.getElem_mem hj); omega)) (pos rfl ?_))))
    rw [succ_wrap (by omega)]
    exact h
  · refine shift ?_
    simp only [laws_eqStreamS.l0]
    exact neg (nat_ge (Nat.le_refl _)) (now rfl)

theorem FnExactTotalArrivals (l : List S83) (hw : wfS 32 wf83 l) : ∃ k, laws_FnExactTotalArrivals.f k l = some true := by
  refine Ev.rounds ?_
  have hm := hw.2.1
  have hme : ∀ x ∈ l, x.f1.length ≤ 140737488355328 := fun x hx => by have := (hw.2.2 x hx).2.2.1; omega
  unfold laws_FnExactTotalArrivals.f
  obtain ⟨r, hr, _, hl⟩ := laws_szStreamS_ev l 1048576 (by omega) (by omega) (by omega) hme
  refine Ev.bind hr ?_
  by_cases h : r < 0
  · exact pos h (now rfl)
  · obtain ⟨hl, he⟩ := hl h
    have hc : (l.map cStream).length ≤ 1048576 := by simpa using hl
    have he2 := cStream_short l he
    refine neg h (Ev.bind (laws_toStreamS_ev l hl he) (Ev.bind (spec_TotalArrivals_ev _ hc he2) (Ev.bind (laws_toStreamS_ev l hl he) (Ev.bind (impl_TotalArrivals_ev _ hc he2) ?_))))
    exact pos rfl (Ev.bind (laws_toStreamS_ev l hl he) (Ev.bind (laws_eqStreamS_refl _ hc he2) (pos rfl (now rfl))))

end Go.Proofs.Ytcbckejlljcnpac.PureFnExactTotalArrivals
