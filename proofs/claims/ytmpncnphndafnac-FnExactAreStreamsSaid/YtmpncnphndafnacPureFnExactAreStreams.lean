/- The pure statement of FnExactAreStreams: for all arguments of their kinds there is a number of rounds behind which the law answers true; condition: every number is one of Go's int, every slice is within the reach. -/
import Derived.Test.YtmpncnphndafnacPStrx0
import Derived.Test.YtmpncnphndafnacPStrx1
import Derived.Test.YtmpncnphndafnacPStrx2
import Derived.Test.YtmpncnphndafnacPStrx3
import Derived.Test.YtmpncnphndafnacPStrx4
import Derived.Test.YtmpncnphndafnacPStrx5
import Derived.Test.YtmpncnphndafnacPStrx6
import Derived.Test.YtmpncnphndafnacPStrx7
import Derived.Test.YtmpncnphndafnacPStrx8
import Derived.Test.YtmpncnphndafnacPStrx9
import Derived.Test.YtmpncnphndafnacPStrx10
import Derived.Test.YtmpncnphndafnacPStrx11
import Derived.Test.YtmpncnphndafnacPStrx12
import Derived.Test.YtmpncnphndafnacPStrx13
import Derived.Test.YtmpncnphndafnacPStrx14
import Derived.Test.YtmpncnphndafnacPStrx15
import Derived.Test.YtmpncnphndafnacPStrx16
import Derived.Test.YtmpncnphndafnacPStrx17
import Derived.Test.YtmpncnphndafnacPStrx19
import Derived.Test.YtmpncnphndafnacPStrx20
import Derived.Test.YtmpncnphndafnacPStrx21
import Derived.Test.YtmpncnphndafnacPStrx22
import Derived.Test.YtmpncnphndafnacPStrx23
import Derived.Test.YtmpncnphndafnacPStrx24
import Derived.Test.YtmpncnphndafnacPStrx25
import Derived.Test.YtmpncnphndafnacPStrx26
import Derived.Test.YtmpncnphndafnacAid
namespace Go.Proofs.Ytmpncnphndafnac.PureFnExactAreStreams
open Go.RowKit Go.Proofs.YtmpncnphndafnacW.PrintWords Go.Proofs.YtmpncnphndafnacW.PrintLast Go.Proofs.YtmpncnphndafnacW.PrintMore Go.Proofs.Ytmpncnphndafnac.PStr Go.Proofs.Ytmpncnphndafnac.Aid
set_option linter.unusedVariables false
set_option linter.unusedSimpArgs false

/-- Every number of it is one of Go's int, every slice within the reach. -/
def wf105 (x : S105) : Prop := I64 x.f0 ∧ I64 x.f1 ∧ I64 x.f2 ∧ I64 x.f3
/-- Every number of it is one of Go's int, every slice within the reach. -/
def wf98 (x : S98) : Prop := I64 x.f0 ∧ (wfS 8 I64) x.f1

theorem laws_szPathS_eq (l : List S105) (a : Int) (ha : 0 ≤ a) (ha2 : a ≤ 1048576) (hl : l.length ≤ 140737488355328) : ∃ r, laws_szPathS.f l a = some r ∧ r ≤ a ∧ (¬ r < 0 → l.length ≤ 1048576) := by
  unfold laws_szPathS.f
  rw [w64 (by omega) (by omega)]
  by_cases h : a - (l.length : Int) < 0
  · exact ⟨-1, by rw [if_pos h], by omega, by omega⟩
  · exact ⟨_, by rw [if_neg h], by omega, by omega⟩

theorem laws_szIntS_eq (l : List Int) (a : Int) (ha : 0 ≤ a) (ha2 : a ≤ 1048576) (hl : l.length ≤ 140737488355328) : ∃ r, laws_szIntS.f l a = some r ∧ r ≤ a ∧ (¬ r < 0 → l.length ≤ 1048576) := by
  unfold laws_szIntS.f
  rw [w64 (by omega) (by omega)]
  by_cases h : a - (l.length : Int) < 0
  · exact ⟨-1, by rw [if_pos h], by omega, by omega⟩
  · exact ⟨_, by rw [if_neg h], by omega, by omega⟩

theorem laws_szStream_eq (x : S98) (a : Int) (ha : 0 ≤ a) (ha2 : a ≤ 1048576) (hl : x.f1.length ≤ 140737488355328) : ∃ r, laws_szStream.f x.f0 x.f1 a = some r ∧ r ≤ a ∧ (¬ r < 0 → x.f1.length ≤ 1048576) := by
  unfold laws_szStream.f
  obtain ⟨r, h1, h2, h3⟩ := laws_szIntS_eq x.f1 a ha ha2 hl
  rw [h1, Option.bind_some]
  by_cases h : r < 0
  · exact ⟨-1, by rw [if_pos h], by omega, by omega⟩
  · exact ⟨r, by rw [if_neg h], h2, h3⟩

theorem laws_szStreamS_ev (l : List S98) (a : Int) (ha : 0 ≤ a) (ha2 : a ≤ 1048576) (hl : l.length ≤ 140737488355328) (he : ∀ x ∈ l, x.f1.length ≤ 140737488355328) :
    ∃ r, Ev (fun k => laws_szStreamS.f k l a) r ∧ r ≤ a ∧ (¬ r < 0 → l.length ≤ 1048576 ∧ ∀ x ∈ l, x.f1.length ≤ 1048576) := by
  unfold laws_szStreamS.f
  rw [w64 (by omega) (by omega)]
  by_cases h : a - (l.length : Int) < 0
  · exact ⟨-1, pos h (now rfl), by omega, by omega⟩
  · have main : ∀ (d j : Nat) (b : Int), j + d = l.length → 0 ≤ b → b ≤ 1048576 → ∃ r, Ev (fun k => laws_szStreamS.l0 k l b (j : Int)) r ∧ r ≤ b ∧ (¬ r < 0 → ∀ i (hi : i < l.length), j ≤ i → l[i].f1.length ≤ 1048576) := by
      intro d
      induction d with
      | zero =>
        intro j b hj hb hb2
        refine ⟨b, shift ?_, by omega, fun _ i hi hji => by omega⟩
        simp only [laws_szStreamS.l0]
        exact neg (by omega) (now rfl)
      | succ d ih =>
        intro j b hj hb hb2
        have hjl : j < l.length := by omega
        have hg : rd_T98 l (j : Int) = l[j] := by simp [rd_T98, hjl]
        obtain ⟨r, hr, hra, hrl⟩ := laws_szStream_eq l[j] b hb hb2 (he _ (List.getElem_mem hjl))
        by_cases hneg : r < 0
        · refine ⟨-1, shift ?_, by omega, by omega⟩
          simp only [laws_szStreamS.l0]
          refine pos (nat_lt hjl) (pos (by omega) ?_)
          rw [hg]
          exact bindc hr (pos hneg (now rfl))
        · obtain ⟨r2, h1, h2, h3⟩ := ih (j + 1) r (by omega) (by omega) (by omega)
          refine ⟨r2, shift ?_, by omega, fun hn i hi hji => ?_⟩
          · simp only [laws_szStreamS.l0]
            refine pos (nat_lt hjl) (pos (by omega) ?_)
            rw [hg, succ_wrap (by omega)]
            exact bindc hr (neg hneg h1)
          · by_cases e : i = j
            · subst e
              exact hrl hneg
            · exact h3 hn i hi (by omega)
    obtain ⟨r, h1, h2, h3⟩ := main l.length 0 (a - (l.length : Int)) (by omega) (by omega) (by omega)
    refine ⟨r, neg h (by simpa using h1), by omega, fun hn => ⟨by omega, fun x hx => ?_⟩⟩
    obtain ⟨i, hi, rfl⟩ := List.getElem_of_mem hx
    exact h3 hn i hi (by omega)

theorem spec_l1In_eq (a b c : Int) : spec_l1In.f a b c = some (decide (b ≤ a ∧ a ≤ c)) := by
  unfold spec_l1In.f
  by_cases h : b ≤ a
  · rw [if_pos h]
    simp [h]
  · rw [if_neg h]
    simp [h]

theorem impl_FindPath_eq (l : List S103) (a : Int) : impl_FindPath.f l a = some (impl_FindPath.from_ a l 0) := rfl
theorem findPath_range (a : Int) : ∀ (l : List S103) (i : Int), impl_FindPath.from_ a l i = -1 ∨ (i ≤ impl_FindPath.from_ a l i ∧ impl_FindPath.from_ a l i < i + l.length)
  | [], _ => .inl rfl
  | x :: r, i => by
    have := findPath_range a r (i + 1)
    simp only [impl_FindPath.from_, List.length_cons]
    split <;> omega

theorem spec_FindPath_ev (l : List S103) (a : Int) (hl : l.length ≤ 9223372036854775806) : Ev (fun k => spec_FindPath.f k l a) (impl_FindPath.from_ a l 0) := by
  unfold spec_FindPath.f
  have : ∀ d j, j + d = l.length → Ev (fun k => spec_FindPath.l0 k l a (j : Int)) (impl_FindPath.from_ a (l.drop j) (j : Int)) := by
    intro d
    induction d with
    | zero =>
      intro j hj
      refine shift ?_
      simp only [spec_FindPath.l0]
      exact neg (by omega) (now (by rw [List.drop_eq_nil_of_le (by omega)]; rfl))
    | succ d ih =>
      intro j hj
      have hjl : j < l.length := by omega
      have hg : rd_T103 l (j : Int) = l[j] := by simp [rd_T103, hjl]
      refine shift ?_
      simp only [spec_FindPath.l0]
      rw [List.drop_eq_getElem_cons hjl, hg, impl_FindPath.from_]
      refine pos (nat_lt hjl) (pos (by omega) ?_)
      by_cases h : l[j].f0 = a
      · exact pos h (now (by simp [h]))
      · refine neg h ?_
        rw [succ_wrap (by omega), if_neg (by simpa using h)]
        exact ih (j + 1) (by omega)
  simpa using this l.length 0 (by omega)

/-- A path's number, kind, and ends are in their ranges, and it crosses on foot just where its ends are the same. -/
def isPath (a b c d : Int) : Bool := decide (1 ≤ a ∧ a ≤ 20) && (decide (1 ≤ b ∧ b ≤ 3) && (decide (0 ≤ c ∧ c ≤ 3) && (decide (0 ≤ d ∧ d ≤ 3) && ((c == d) == (b == 2)))))
theorem spec_IsPath_eq (a b c d : Int) : spec_IsPath.f a b c d = some (isPath a b c d) := by
  unfold spec_IsPath.f isPath
  simp only [spec_l1In_eq, Option.bind_some]
  by_cases h1 : 1 ≤ a ∧ a ≤ 20 <;> by_cases h2 : 1 ≤ b ∧ b ≤ 3 <;> by_cases h3 : 0 ≤ c ∧ c ≤ 3 <;> by_cases h4 : 0 ≤ d ∧ d ≤ 3 <;> simp [h1, h2, h3, h4]

def pathAt (l : List S103) (j : Nat) : Bool := isPath (rd_T103 l j).f0 (rd_T103 l j).f1 (rd_T103 l j).f2 (rd_T103 l j).f3 && decide (0 < j → (rd_T103 l ((j : Int) - 1)).f0 < (rd_T103 l j).f0)
def arePaths (l : List S103) : Bool := (List.range l.length).all (pathAt l) && decide (l.length ≤ 12)
theorem spec_ArePaths_ev (l : List S103) (hl : l.length ≤ 9223372036854775806) : Ev (fun k => spec_ArePaths.f k l) (arePaths l) := by
  unfold spec_ArePaths.f arePaths
  refine all_loop (g := fun k j => spec_ArePaths.l0 k l (j : Int)) l.length (pathAt l) _ ?_ ?_ ?_
  · intro j r hj ok h
    simp only [pathAt, Bool.and_eq_true, decide_eq_true_eq] at ok
    refine shift ?_
    simp only [spec_ArePaths.l0]
    refine pos (nat_lt hj) (pos (by omega) (bindc (spec_IsPath_eq _ _ _ _) (pos ok.1 ?_)))
    rw [succ_wrap (by omega)]
    by_cases h0 : (j : Int) > 0
    · rw [w64 (by omega) (by omega)]
      exact pos h0 (pos (by omega) (pos (by omega) (neg (by have := ok.2 (by omega); omega) h)))
    · exact neg h0 h
  · intro j hj ok
    refine shift ?_
    simp only [spec_ArePaths.l0]
    refine pos (nat_lt hj) (pos (by omega) (bindc (spec_IsPath_eq _ _ _ _) ?_))
    by_cases h1 : isPath (rd_T103 l j).f0 (rd_T103 l j).f1 (rd_T103 l j).f2 (rd_T103 l j).f3 = true
    · refine pos h1 ?_
      have h2 : ¬ (0 < j → (rd_T103 l ((j : Int) - 1)).f0 < (rd_T103 l j).f0) := by simpa [pathAt, h1] using ok
      rw [w64 (x := (j : Int) - 1) (by omega) (by omega)]
      exact pos (by omega) (pos (by omega) (pos (by omega) (pos (by omega) (now rfl))))
    · exact neg h1 (now rfl)
  · refine shift ?_
    simp only [spec_ArePaths.l0]
    refine neg (nat_ge (Nat.le_refl _)) (now ?_)
    exact decide_eq_decide.2 (by omega)

def rangeAt (row : List Int) (a b : Int) (i : Nat) : Bool := decide (a ≤ rd row i ∧ rd row i ≤ b)
def streamAt (ps : List S103) (ss : List S100) (j : Nat) : Bool :=
  decide (¬ impl_FindPath.from_ (rd_T100 ss j).f0 ps 0 < 0 ∧ (rd_T100 ss j).f1.length = (rd_T100 ss 0).f1.length ∧ (rd_T100 ss j).f1.length ≤ 300) && (List.range (rd_T100 ss j).f1.length).all (rangeAt (rd_T100 ss j).f1 0 20)
def areStreams (ps : List S103) (ss : List S100) : Bool := (List.range ss.length).all (streamAt ps ss) && (arePaths ps && decide (ss.length ≤ 12))
theorem spec_AreStreams_ev (ps : List S103) (ss : List S100) (hp : ps.length ≤ 9223372036854775806) (hl : ss.length ≤ 9223372036854775806) : Ev (fun k => spec_AreStreams.f k ps ss) (areStreams ps ss) := by
  unfold spec_AreStreams.f areStreams
  refine all_loop (g := fun k j => spec_AreStreams.l0 k ps ss (j : Int)) ss.length (streamAt ps ss) _ ?_ ?_ ?_
  · intro j r hj ok h
    simp only [streamAt, Bool.and_eq_true, decide_eq_true_eq] at ok
    obtain ⟨⟨h1, h2, h3⟩, h4⟩ := ok
    refine shift ?_
    simp only [spec_AreStreams.l0]
    refine pos (nat_lt hj) (pos (by omega) (Ev.bind (spec_FindPath_ev _ _ hp) (neg h1 (pos (by omega) (pos (by omega) ?_)))))
    refine shift ?_
    simp only [spec_AreStreams.j1]
    refine neg (by simp; omega) (ok_loop (g := fun k i => spec_AreStreams.l1 k ps ss (j : Int) (i : Int)) _ _ h4 ?_ ?_)
    · intro i r hi oki hh
      refine shift ?_
      simp only [spec_AreStreams.l1]
      refine pos (by omega) (pos (nat_lt hj) (pos (nat_lt hi) (pos (by omega) (bindc (spec_l1In_eq _ _ _) (pos oki ?_)))))
      rw [succ_wrap (by omega)]
      exact hh
    · refine shift ?_
      simp only [spec_AreStreams.l1]
      refine pos (by omega) (pos (nat_lt hj) (neg (nat_ge (Nat.le_refl _)) ?_))
      rw [succ_wrap (by omega)]
      exact h
  · intro j hj ok
    refine shift ?_
    simp only [spec_AreStreams.l0]
    refine pos (nat_lt hj) (pos (by omega) (Ev.bind (spec_FindPath_ev _ _ hp) ?_))
    by_cases h1 : impl_FindPath.from_ (rd_T100 ss j).f0 ps 0 < 0
    · refine pos h1 (shift ?_)
      simp only [spec_AreStreams.j1]
      exact pos trivial (now rfl)
    refine neg h1 (pos (by omega) ?_)
    by_cases h2 : ((rd_T100 ss j).f1.length : Int) = ((rd_T100 ss 0).f1.length : Int)
    · refine pos h2 (shift ?_)
      simp only [spec_AreStreams.j1]
      by_cases h3 : (rd_T100 ss j).f1.length ≤ 300
      · have h4 : ¬ (List.range (rd_T100 ss j).f1.length).all (rangeAt (rd_T100 ss j).f1 0 20) = true := by
          intro h4
          simp only [streamAt, h4, Bool.and_true] at ok
          simp at ok
          omega
        refine neg (by simp; omega) (bad_loop (g := fun k i => spec_AreStreams.l1 k ps ss (j : Int) (i : Int)) _ _ _ h4 ?_ ?_)
        · intro i r hi oki hh
          refine shift ?_
          simp only [spec_AreStreams.l1]
          refine pos (by omega) (pos (nat_lt hj) (pos (nat_lt hi) (pos (by omega) (bindc (spec_l1In_eq _ _ _) (pos oki ?_)))))
          rw [succ_wrap (by omega)]
          exact hh
        · intro i hi oki
          refine shift ?_
          simp only [spec_AreStreams.l1]
          exact pos (by omega) (pos (nat_lt hj) (pos (nat_lt hi) (pos (by omega) (bindc (spec_l1In_eq _ _ _) (neg (by rw [rangeAt] at oki; rw [oki]; simp) (now rfl))))))
      · exact pos (by simp; omega) (now rfl)
    · refine neg h2 (shift ?_)
      simp only [spec_AreStreams.j1]
      exact pos trivial (now rfl)
  · refine shift ?_
    simp only [spec_AreStreams.l0]
    refine neg (nat_ge (Nat.le_refl _)) (Ev.bind (spec_ArePaths_ev _ hp) ?_)
    by_cases h : arePaths ps = true
    · refine pos h (now ?_)
      rw [h, Bool.true_and]
      exact decide_eq_decide.2 (by omega)
    · refine neg h (now ?_)
      simp [h]

def cPath (x : S105) : S103 := ⟨x.f0, x.f1, x.f2, x.f3⟩
theorem laws_toPathS_ev (l : List S105) (hl : l.length ≤ 1048576) : Ev (fun k => laws_toPathS.f k l) (l.map cPath) := by
  unfold laws_toPathS.f
  refine pos (by omega) (pos (by omega) ?_)
  exact copied (g := fun k y i => laws_toPathS.l0 k l y i) l cPath z103 (fun j hj y r hy h => by
    refine shift ?_
    simp only [laws_toPathS.l0]
    refine pos (nat_lt hj) (pos (by omega) (bindc rfl (pos (by omega) ?_)))
    rw [succ_wrap (by omega)]
    simpa [rd_T105, cPath, hj] using h) (fun y => by
    refine shift ?_
    simp only [laws_toPathS.l0]
    exact neg (nat_ge (Nat.le_refl _)) (now rfl))

theorem laws_toIntS_ev (l : List Int) (hl : l.length ≤ 17592186044416) : Ev (fun k => laws_toIntS.f k l) l := by
  unfold laws_toIntS.f
  refine pos (by omega) (pos (by omega) ?_)
  have h := copied (g := fun k y i => laws_toIntS.l0 k l y i) l id 0 (fun j hj y r hy h => by
    refine shift ?_
    simp only [laws_toIntS.l0]
    refine pos (nat_lt hj) (pos (by omega) (pos (by omega) ?_))
    rw [rd_get _ _ hj, succ_wrap (by omega)]
    exact h) (fun y => by
    refine shift ?_
    simp only [laws_toIntS.l0]
    exact neg (nat_ge (Nat.le_refl _)) (now rfl))
  simpa using h

theorem laws_toStream_ev (x : S98) (hl : x.f1.length ≤ 1048576) : Ev (fun k => laws_toStream.f k x.f0 x.f1) (x.f0, x.f1) := by
  unfold laws_toStream.f
  exact Ev.bind (laws_toIntS_ev x.f1 (by omega)) (now rfl)

def cStream (x : S98) : S100 := ⟨x.f0, x.f1⟩
theorem laws_toStreamS_ev (l : List S98) (hl : l.length ≤ 1048576) (he : ∀ x ∈ l, x.f1.length ≤ 1048576) : Ev (fun k => laws_toStreamS.f k l) (l.map cStream) := by
  unfold laws_toStreamS.f
  refine pos (by omega) (pos (by omega) ?_)
  exact copied (g := fun k y i => laws_toStreamS.l0 k l y i) l cStream z100 (fun j hj y r hy h => by
    refine shift ?_
    simp only [laws_toStreamS.l0]
    have hg : rd_T98 l (j : Int) = l[j] := by simp [rd_T98, hj]
    rw [hg]
    refine pos (nat_lt hj) (pos (by omega) (Ev.bind (laws_toStream_ev _ (he _ (List.getElem_mem hj))) (pos (by omega) ?_)))
    rw [succ_wrap (by omega)]
    exact h) (fun y => by
    refine shift ?_
    simp only [laws_toStreamS.l0]
    exact neg (nat_ge (Nat.le_refl _)) (now rfl))
theorem cStream_short (l : List S98) (he : ∀ x ∈ l, x.f1.length ≤ 1048576) : ∀ x ∈ l.map cStream, x.f1.length ≤ 1048576 := by
  intro x hx
  obtain ⟨y, hy, rfl⟩ := List.mem_map.1 hx
  exact he y hy

theorem impl_InRange_eq (a b c : Int) : impl_InRange.f a b c = some (decide (b ≤ a ∧ a ≤ c)) := by
  unfold impl_InRange.f
  by_cases h : b ≤ a
  · rw [if_pos h]
    simp [h]
  · rw [if_neg h]
    simp [h]

theorem impl_IsPath_eq (a b c d : Int) : impl_IsPath.f a b c d = some (isPath a b c d) := by
  unfold impl_IsPath.f isPath
  simp only [impl_InRange_eq, Option.bind_some]
  by_cases h1 : 1 ≤ a ∧ a ≤ 20 <;> by_cases h2 : 1 ≤ b ∧ b ≤ 3 <;> by_cases h3 : 0 ≤ c ∧ c ≤ 3 <;> by_cases h4 : 0 ≤ d ∧ d ≤ 3 <;> simp [h1, h2, h3, h4]

theorem impl_ArePaths_ev (l : List S103) : Ev (fun k => impl_ArePaths.f k l) (arePaths l) := by
  unfold impl_ArePaths.f arePaths
  by_cases hr : l.length ≤ 12
  · rw [decide_eq_true hr]
    refine neg (by omega) (all_loop (g := fun k j => impl_ArePaths.l0 k l l (l.length : Int) (j : Int)) l.length (pathAt l) _ ?_ ?_ ?_)
    · intro j r hj ok h
      simp only [pathAt, Bool.and_eq_true, decide_eq_true_eq] at ok
      refine shift ?_
      simp only [impl_ArePaths.l0]
      refine pos (nat_lt hj) (pos (by omega) (pos (nat_lt hj) (bindc (impl_IsPath_eq _ _ _ _) (pos ok.1 ?_))))
      rw [succ_wrap (by omega)]
      by_cases h0 : (j : Int) > 0
      · rw [w64 (by omega) (by omega)]
        exact pos h0 (pos (by omega) (pos (by omega) (neg (by have := ok.2 (by omega); omega) h)))
      · exact neg h0 h
    · intro j hj ok
      refine shift ?_
      simp only [impl_ArePaths.l0]
      refine pos (nat_lt hj) (pos (by omega) (pos (nat_lt hj) (bindc (impl_IsPath_eq _ _ _ _) ?_)))
      by_cases h1 : isPath (rd_T103 l j).f0 (rd_T103 l j).f1 (rd_T103 l j).f2 (rd_T103 l j).f3 = true
      · refine pos h1 ?_
        have h2 : ¬ (0 < j → (rd_T103 l ((j : Int) - 1)).f0 < (rd_T103 l j).f0) := by simpa [pathAt, h1] using ok
        rw [w64 (x := (j : Int) - 1) (by omega) (by omega)]
        exact pos (by omega) (pos (by omega) (pos (by omega) (pos (by omega) (now rfl))))
      · exact neg h1 (now rfl)
    · refine shift ?_
      simp only [impl_ArePaths.l0]
      exact neg (nat_ge (Nat.le_refl _)) (now rfl)
  · rw [decide_eq_false hr, Bool.and_false]
    exact pos (by omega) (now rfl)

theorem impl_AreStreams_ev (ps : List S103) (ss : List S100) : Ev (fun k => impl_AreStreams.f k ps ss) (areStreams ps ss) := by
  unfold impl_AreStreams.f areStreams
  refine Ev.bind (impl_ArePaths_ev _) ?_
  by_cases h : arePaths ps = true
  · rw [h, Bool.true_and]
    refine pos rfl (shift ?_)
    simp only [impl_AreStreams.j0]
    by_cases hl : ss.length ≤ 12
    · rw [decide_eq_true hl]
      refine neg (by simp; omega) (all_loop (g := fun k j => impl_AreStreams.l0 k ps ss ss (ss.length : Int) (j : Int)) ss.length (streamAt ps ss) _ ?_ ?_ ?_)
      · intro j r hj ok h
        simp only [streamAt, Bool.and_eq_true, decide_eq_true_eq] at ok
        obtain ⟨⟨h1, h2, h3⟩, h4⟩ := ok
        refine shift ?_
        simp only [impl_AreStreams.l0]
        refine pos (nat_lt hj) (pos (by omega) (pos (nat_lt hj) (bindc (impl_FindPath_eq _ _) (neg h1 (neg (by omega) (pos (by omega) ?_))))))
        refine shift ?_
        simp only [impl_AreStreams.j2]
        refine neg (by simp; omega) (ok_loop (g := fun k i => impl_AreStreams.l1 k ps ss ss (ss.length : Int) (j : Int) (rd_T100 ss j).f1 ((rd_T100 ss j).f1.length : Int) (i : Int)) _ _ h4 ?_ ?_)
        · intro i r hi oki hh
          refine shift ?_
          simp only [impl_AreStreams.l1]
          refine pos (nat_lt hi) (pos (by omega) (pos (nat_lt hi) (bindc (impl_InRange_eq _ _ _) (pos oki ?_))))
          rw [succ_wrap (by omega)]
          exact hh
        · refine shift ?_
          simp only [impl_AreStreams.l1]
          refine neg (nat_ge (Nat.le_refl _)) ?_
          rw [succ_wrap (by omega)]
          exact h
      · intro j hj ok
        refine shift ?_
        simp only [impl_AreStreams.l0]
        refine pos (nat_lt hj) (pos (by omega) (pos (nat_lt hj) (bindc (impl_FindPath_eq _ _) ?_)))
        by_cases h1 : impl_FindPath.from_ (rd_T100 ss j).f0 ps 0 < 0
        · refine pos h1 (shift ?_)
          simp only [impl_AreStreams.j2]
          exact pos trivial (now rfl)
        refine neg h1 ?_
        by_cases h3 : (rd_T100 ss j).f1.length ≤ 300
        · refine neg (by omega) (pos (by omega) (shift ?_))
          simp only [impl_AreStreams.j2]
          by_cases h2 : ((rd_T100 ss j).f1.length : Int) = ((rd_T100 ss 0).f1.length : Int)
          · have h4 : ¬ (List.range (rd_T100 ss j).f1.length).all (rangeAt (rd_T100 ss j).f1 0 20) = true := by
              intro h4
              simp only [streamAt, h4, Bool.and_true] at ok
              simp at ok
              omega
            refine neg (by simp; omega) (bad_loop (g := fun k i => impl_AreStreams.l1 k ps ss ss (ss.length : Int) (j : Int) (rd_T100 ss j).f1 ((rd_T100 ss j).f1.length : Int) (i : Int)) _ _ _ h4 ?_ ?_)
            · intro i r hi oki hh
              refine shift ?_
              simp only [impl_AreStreams.l1]
              refine pos (nat_lt hi) (pos (by omega) (pos (nat_lt hi) (bindc (impl_InRange_eq _ _ _) (pos oki ?_))))
              rw [succ_wrap (by omega)]
              exact hh
            · intro i hi oki
              refine shift ?_
              simp only [impl_AreStreams.l1]
              exact pos (nat_lt hi) (pos (by omega) (pos (nat_lt hi) (bindc (impl_InRange_eq _ _ _) (neg (by rw [rangeAt] at oki; rw [oki]; simp) (now rfl)))))
          · exact pos (by simp; omega) (now rfl)
        · refine pos (by omega) (shift ?_)
          simp only [impl_AreStreams.j2]
          exact pos trivial (now rfl)
      · refine shift ?_
        simp only [impl_AreStreams.l0]
        exact neg (nat_ge (Nat.le_refl _)) (now rfl)
    · rw [decide_eq_false hl, Bool.and_false]
      exact pos (by simp; omega) (now rfl)
  · refine neg h (shift ?_)
    simp only [impl_AreStreams.j0]
    exact pos trivial (now (by simp [h]))

theorem laws_eqPathS_refl (l : List S103) (hl : l.length < 9223372036854775807) : Ev (fun k => laws_eqPathS.f k l l) true := by
  unfold laws_eqPathS.f
  refine pos rfl (loop (g := fun k j => laws_eqPathS.l0 k l l (j : Int)) l.length ?_ ?_)
  · intro j hj h
    refine shift ?_
    simp only [laws_eqPathS.l0]
    refine pos (nat_lt hj) (pos (by omega) (pos (nat_lt hj) (bindc (a := true) (by simp [laws_eqPath.f]) (pos (by simp) ?_))))
    rw [succ_wrap (by omega)]
    exact h
  · refine shift ?_
    simp only [laws_eqPathS.l0]
    exact neg (nat_ge (Nat.le_refl _)) (now rfl)

theorem laws_eqIntS_refl (l : List Int) (hl : l.length < 9223372036854775807) : Ev (fun k => laws_eqIntS.f k l l) true := by
  unfold laws_eqIntS.f
  refine pos rfl (loop (g := fun k j => laws_eqIntS.l0 k l l (j : Int)) l.length ?_ ?_)
  · intro j hj h
    refine shift ?_
    simp only [laws_eqIntS.l0]
    refine pos (nat_lt hj) (pos (by omega) (pos (nat_lt hj) (pos (by simp) ?_)))
    rw [succ_wrap (by omega)]
    exact h
  · refine shift ?_
    simp only [laws_eqIntS.l0]
    exact neg (nat_ge (Nat.le_refl _)) (now rfl)

theorem laws_eqStream_refl (x : S100) (hl : x.f1.length < 9223372036854775807) : Ev (fun k => laws_eqStream.f k x.f0 x.f1 x.f0 x.f1) true := by
  unfold laws_eqStream.f
  repeat (first | exact now rfl | refine pos rfl ?_ | refine Ev.bind (laws_eqIntS_refl x.f1 hl) ?_)

theorem laws_eqStreamS_refl (l : List S100) (hl : l.length ≤ 1048576) (he : ∀ x ∈ l, x.f1.length ≤ 1048576) : Ev (fun k => laws_eqStreamS.f k l l) true := by
  unfold laws_eqStreamS.f
  refine pos rfl (loop (g := fun k j => laws_eqStreamS.l0 k l l (j : Int)) l.length ?_ ?_)
  · intro j hj h
    refine shift ?_
    simp only [laws_eqStreamS.l0]
    have hg : rd_T100 l (j : Int) = l[j] := by simp [rd_T100, hj]
    rw [hg]
    refine pos (nat_lt hj) (pos (by omega) (pos (nat_lt hj) (Ev.bind (laws_eqStream_refl _ (by have := he _ (List.getElem_mem hj); omega)) (pos rfl ?_))))
    rw [succ_wrap (by omega)]
    exact h
  · refine shift ?_
    simp only [laws_eqStreamS.l0]
    exact neg (nat_ge (Nat.le_refl _)) (now rfl)

theorem FnExactAreStreams (p : List S105) (hp : wfS 32 wf105 p) (l : List S98) (hw : wfS 32 wf98 l) : ∃ k, laws_FnExactAreStreams.f k p l = some true := by
  refine Ev.rounds ?_
  have hm := hw.2.1
  have hm0 := hp.2.1
  have hme : ∀ x ∈ l, x.f1.length ≤ 140737488355328 := fun x hx => by have := (hw.2.2 x hx).2.2.1; omega
  unfold laws_FnExactAreStreams.f
  obtain ⟨q, hq, hq2, hpl⟩ := laws_szPathS_eq p 1048576 (by omega) (by omega) (by omega)
  refine bindc hq ?_
  by_cases h0 : q < 0
  · exact pos h0 (now rfl)
  have hpl := hpl h0
  have hpc : (p.map cPath).length ≤ 1048576 := by simpa using hpl
  obtain ⟨r, hr, _, hl⟩ := laws_szStreamS_ev l q (by omega) (by omega) (by omega) hme
  refine neg h0 (Ev.bind hr ?_)
  by_cases h : r < 0
  · exact pos h (now rfl)
  obtain ⟨hl, he⟩ := hl h
  have hc : (l.map cStream).length ≤ 1048576 := by simpa using hl
  have he2 := cStream_short l he
  refine neg h (Ev.bind (laws_toPathS_ev p hpl) (Ev.bind (laws_toStreamS_ev l hl he) (Ev.bind (spec_AreStreams_ev _ _ (by omega) (by omega)) (Ev.bind (laws_toPathS_ev p hpl) (Ev.bind (laws_toStreamS_ev l hl he) (Ev.bind (impl_AreStreams_ev _ _) ?_))))))
  exact neg (by simp) (Ev.bind (laws_toPathS_ev p hpl) (Ev.bind (laws_eqPathS_refl _ (by omega)) (pos rfl (Ev.bind (laws_toStreamS_ev l hl he) (Ev.bind (laws_eqStreamS_refl _ hc he2) (pos rfl (now rfl)))))))

end Go.Proofs.Ytmpncnphndafnac.PureFnExactAreStreams
