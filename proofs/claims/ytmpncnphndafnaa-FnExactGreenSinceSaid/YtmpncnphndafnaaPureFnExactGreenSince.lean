/- The pure statement of FnExactGreenSince: for all arguments of their kinds there is a number of rounds behind which the law answers true; condition: every number is one of Go's int, every slice is within the reach. -/
import Derived.Test.YtmpncnphndafnaaPChgx0
import Derived.Test.YtmpncnphndafnaaPChgx1
import Derived.Test.YtmpncnphndafnaaPChgx2
import Derived.Test.YtmpncnphndafnaaPChgx3
import Derived.Test.YtmpncnphndafnaaPChgx4
import Derived.Test.YtmpncnphndafnaaPChgx5
import Derived.Test.YtmpncnphndafnaaPChgx6
import Derived.Test.YtmpncnphndafnaaPChgx7
import Derived.Test.YtmpncnphndafnaaPChgx8
import Derived.Test.YtmpncnphndafnaaPChgx9
import Derived.Test.YtmpncnphndafnaaPChgx10
import Derived.Test.YtmpncnphndafnaaPChgx11
import Derived.Test.YtmpncnphndafnaaPChgx12
import Derived.Test.YtmpncnphndafnaaPChgx13
import Derived.Test.YtmpncnphndafnaaPChgx14
import Derived.Test.YtmpncnphndafnaaPChgx16
import Derived.Test.YtmpncnphndafnaaPChgx17
import Derived.Test.YtmpncnphndafnaaPChgx18
import Derived.Test.YtmpncnphndafnaaPChgx19
import Derived.Test.YtmpncnphndafnaaPChgx20
import Derived.Test.YtmpncnphndafnaaPChgx21
import Derived.Test.YtmpncnphndafnaaPChgx22
import Derived.Test.YtmpncnphndafnaaPChgx25
import Derived.Test.YtmpncnphndafnaaPChgx26
import Derived.Test.YtmpncnphndafnaaPChgx27
import Derived.Test.YtmpncnphndafnaaPChgx28
import Derived.Test.YtmpncnphndafnaaPChgx29
import Derived.Test.YtmpncnphndafnaaPChgx30
import Derived.Test.YtmpncnphndafnaaPChgx31
import Derived.Test.YtmpncnphndafnaaAid
namespace Go.Proofs.Ytmpncnphndafnaa.PureFnExactGreenSince
open Go.RowKit Go.Proofs.YtmpncnphndafnaaW.PrintWords Go.Proofs.YtmpncnphndafnaaW.PrintLast Go.Proofs.YtmpncnphndafnaaW.PrintMore Go.Proofs.Ytmpncnphndafnaa.PChg Go.Proofs.Ytmpncnphndafnaa.Aid
set_option linter.unusedVariables false
set_option linter.unusedSimpArgs false

/-- Every number of it is one of Go's int, every slice within the reach. -/
def wf64 (x : S64) : Prop := I64 x.f0 ∧ (wfS 8 I64) x.f1 ∧ I64 x.f2

theorem laws_szIntS_eq (l : List Int) (a : Int) (ha : 0 ≤ a) (ha2 : a ≤ 1048576) (hl : l.length ≤ 140737488355328) : ∃ r, laws_szIntS.f l a = some r ∧ r ≤ a ∧ (¬ r < 0 → l.length ≤ 1048576) := by
  unfold laws_szIntS.f
  rw [w64 (by omega) (by omega)]
  by_cases h : a - (l.length : Int) < 0
  · exact ⟨-1, by rw [if_pos h], by omega, by omega⟩
  · exact ⟨_, by rw [if_neg h], by omega, by omega⟩

theorem laws_szEntry_eq (x : S64) (a : Int) (ha : 0 ≤ a) (ha2 : a ≤ 1048576) (hl : x.f1.length ≤ 140737488355328) : ∃ r, laws_szEntry.f x.f0 x.f1 x.f2 a = some r ∧ r ≤ a ∧ (¬ r < 0 → x.f1.length ≤ 1048576) := by
  unfold laws_szEntry.f
  obtain ⟨r, h1, h2, h3⟩ := laws_szIntS_eq x.f1 a ha ha2 hl
  rw [h1, Option.bind_some]
  by_cases h : r < 0
  · exact ⟨-1, by rw [if_pos h], by omega, by omega⟩
  · exact ⟨r, by rw [if_neg h], h2, h3⟩

theorem laws_szEntryS_ev (l : List S64) (a : Int) (ha : 0 ≤ a) (ha2 : a ≤ 1048576) (hl : l.length ≤ 140737488355328) (he : ∀ x ∈ l, x.f1.length ≤ 140737488355328) :
    ∃ r, Ev (fun k => laws_szEntryS.f k l a) r ∧ r ≤ a ∧ (¬ r < 0 → l.length ≤ 1048576 ∧ ∀ x ∈ l, x.f1.length ≤ 1048576) := by
  unfold laws_szEntryS.f
  rw [w64 (by omega) (by omega)]
  by_cases h : a - (l.length : Int) < 0
  · exact ⟨-1, pos h (now rfl), by omega, by omega⟩
  · have main : ∀ (d j : Nat) (b : Int), j + d = l.length → 0 ≤ b → b ≤ 1048576 → ∃ r, Ev (fun k => laws_szEntryS.l0 k l b (j : Int)) r ∧ r ≤ b ∧ (¬ r < 0 → ∀ i (hi : i < l.length), j ≤ i → l[i].f1.length ≤ 1048576) := by
      intro d
      induction d with
      | zero =>
        intro j b hj hb hb2
        refine ⟨b, shift ?_, by omega, fun _ i hi hji => by omega⟩
        simp only [laws_szEntryS.l0]
        exact neg (by omega) (now rfl)
      | succ d ih =>
        intro j b hj hb hb2
        have hjl : j < l.length := by omega
        have hg : rd_T64 l (j : Int) = l[j] := by simp [rd_T64, hjl]
        obtain ⟨r, hr, hra, hrl⟩ := laws_szEntry_eq l[j] b hb hb2 (he _ (List.getElem_mem hjl))
        by_cases hneg : r < 0
        · refine ⟨-1, shift ?_, by omega, by omega⟩
          simp only [laws_szEntryS.l0]
          refine pos (nat_lt hjl) (pos (by omega) ?_)
          rw [hg]
          exact bindc hr (pos hneg (now rfl))
        · obtain ⟨r2, h1, h2, h3⟩ := ih (j + 1) r (by omega) (by omega) (by omega)
          refine ⟨r2, shift ?_, by omega, fun hn i hi hji => ?_⟩
          · simp only [laws_szEntryS.l0]
            refine pos (nat_lt hjl) (pos (by omega) ?_)
            rw [hg, succ_wrap (by omega)]
            exact bindc hr (neg hneg h1)
          · by_cases e : i = j
            · subst e
              exact hrl hneg
            · exact h3 hn i hi (by omega)
    obtain ⟨r, h1, h2, h3⟩ := main l.length 0 (a - (l.length : Int)) (by omega) (by omega) (by omega)
    refine ⟨r, neg h (by simpa using h1), by omega, fun hn => ⟨by omega, fun x hx => ?_⟩⟩
    obtain ⟨i, hi, rfl⟩ := List.getElem_of_mem hx
    exact h3 hn i hi (by omega)

theorem laws_toIntS_ev (l : List Int) (hl : l.length ≤ 17592186044416) : Ev (fun k => laws_toIntS.f k l) l := by
  unfold laws_toIntS.f
  refine pos (by omega) (pos (by omega) ?_)
  have h := copied (g := fun k y i => laws_toIntS.l0 k l y i) l id 0 (fun j hj y r hy h => by
    refine shift ?_
    simp only [laws_toIntS.l0]
    refine pos (nat_lt hj) (pos (by omega) (pos (by omega) ?_))
    rw [rd_get _ _ hj, succ_wrap (by omega)]
    exact h) (fun y => by
    refine shift ?_
    simp only [laws_toIntS.l0]
    exact neg (nat_ge (Nat.le_refl _)) (now rfl))
  simpa using h

theorem laws_toEntry_ev (x : S64) (hl : x.f1.length ≤ 1048576) : Ev (fun k => laws_toEntry.f k x.f0 x.f1 x.f2) (x.f0, x.f1, x.f2) := by
  unfold laws_toEntry.f
  exact Ev.bind (laws_toIntS_ev x.f1 (by omega)) (now rfl)

def cEntry (x : S64) : S66 := ⟨x.f0, x.f1, x.f2⟩
theorem laws_toEntryS_ev (l : List S64) (hl : l.length ≤ 1048576) (he : ∀ x ∈ l, x.f1.length ≤ 1048576) : Ev (fun k => laws_toEntryS.f k l) (l.map cEntry) := by
  unfold laws_toEntryS.f
  refine pos (by omega) (pos (by omega) ?_)
  exact copied (g := fun k y i => laws_toEntryS.l0 k l y i) l cEntry z66 (fun j hj y r hy h => by
    refine shift ?_
    simp only [laws_toEntryS.l0]
    have hg : rd_T64 l (j : Int) = l[j] := by simp [rd_T64, hj]
    rw [hg]
    refine pos (nat_lt hj) (pos (by omega) (Ev.bind (laws_toEntry_ev _ (he _ (List.getElem_mem hj))) (pos (by omega) ?_)))
    rw [succ_wrap (by omega)]
    exact h) (fun y => by
    refine shift ?_
    simp only [laws_toEntryS.l0]
    exact neg (nat_ge (Nat.le_refl _)) (now rfl))
theorem cEntry_short (l : List S64) (he : ∀ x ∈ l, x.f1.length ≤ 1048576) : ∀ x ∈ l.map cEntry, x.f1.length ≤ 1048576 := by
  intro x hx
  obtain ⟨y, hy, rfl⟩ := List.mem_map.1 hx
  exact he y hy

theorem laws_eqIntS_refl (l : List Int) (hl : l.length < 9223372036854775807) : Ev (fun k => laws_eqIntS.f k l l) true := by
  unfold laws_eqIntS.f
  refine pos rfl (loop (g := fun k j => laws_eqIntS.l0 k l l (j : Int)) l.length ?_ ?_)
  · intro j hj h
    refine shift ?_
    simp only [laws_eqIntS.l0]
    refine pos (nat_lt hj) (pos (by omega) (pos (nat_lt hj) (pos (by simp) ?_)))
    rw [succ_wrap (by omega)]
    exact h
  · refine shift ?_
    simp only [laws_eqIntS.l0]
    exact neg (nat_ge (Nat.le_refl _)) (now rfl)

theorem laws_eqEntry_refl (x : S66) (hl : x.f1.length < 9223372036854775807) : Ev (fun k => laws_eqEntry.f k x.f0 x.f1 x.f2 x.f0 x.f1 x.f2) true := by
  unfold laws_eqEntry.f
  repeat (first | exact now rfl | refine pos rfl ?_ | refine Ev.bind (laws_eqIntS_refl x.f1 hl) ?_)

theorem laws_eqEntryS_refl (l : List S66) (hl : l.length ≤ 1048576) (he : ∀ x ∈ l, x.f1.length ≤ 1048576) : Ev (fun k => laws_eqEntryS.f k l l) true := by
  unfold laws_eqEntryS.f
  refine pos rfl (loop (g := fun k j => laws_eqEntryS.l0 k l l (j : Int)) l.length ?_ ?_)
  · intro j hj h
    refine shift ?_
    simp only [laws_eqEntryS.l0]
    have hg : rd_T66 l (j : Int) = l[j] := by simp [rd_T66, hj]
    rw [hg]
    refine pos (nat_lt hj) (pos (by omega) (pos (nat_lt hj) (Ev.bind (laws_eqEntry_refl _ (by have := he _ (List.getElem_mem hj); omega)) (pos rfl ?_))))
    rw [succ_wrap (by omega)]
    exact h
  · refine shift ?_
    simp only [laws_eqEntryS.l0]
    exact neg (nat_ge (Nat.le_refl _)) (now rfl)

theorem spec_l1In_eq (a b c : Int) : spec_l1In.f a b c = some (decide (b ≤ a ∧ a ≤ c)) := by
  unfold spec_l1In.f
  by_cases h : b ≤ a
  · rw [if_pos h]
    simp [h]
  · rw [if_neg h]
    simp [h]

theorem tmod_emod {a m : Int} (hm : 0 < m) : Int.tmod a m = if Int.tmod a m < 0 then a % m - m else a % m := by
  have h1 := Int.emod_nonneg a (by omega : m ≠ 0)
  have h2 := Int.emod_lt_of_pos a hm
  have h3 := Int.tmod_eq_emod (a := a) (b := m)
  by_cases hc : 0 ≤ a ∨ m ∣ a
  · rw [if_pos hc] at h3
    rw [if_neg (by omega)]
    omega
  · rw [if_neg hc] at h3
    rw [if_pos (by omega)]
    omega
theorem tmod_range {a m : Int} (hm : 0 < m) : -m ≤ Int.tmod a m ∧ Int.tmod a m < m := by
  have h := tmod_emod (a := a) hm
  have h1 := Int.emod_nonneg a (by omega : m ≠ 0)
  have h2 := Int.emod_lt_of_pos a hm
  by_cases hc : Int.tmod a m < 0
  · rw [if_pos hc] at h
    omega
  · rw [if_neg hc] at h
    omega
theorem spec_Mod_eq (a m : Int) (h1 : 1 ≤ m) (h2 : m ≤ 1000000000000) : spec_Mod.f a m = some (a % m) := by
  unfold spec_Mod.f
  rw [spec_l1In_eq, Option.bind_some, if_pos (by simp [h1, h2]), if_neg (by omega)]
  have hr := tmod_range (a := a) (m := m) (by omega)
  have he := tmod_emod (a := a) (m := m) (by omega)
  have h3 := Int.emod_nonneg a (by omega : m ≠ 0)
  have h4 := Int.emod_lt_of_pos a (by omega : 0 < m)
  rw [w64 (by omega) (by omega), Int.tmod_eq_emod_of_nonneg (by omega)]
  congr 1
  by_cases hn : Int.tmod a m < 0
  · rw [if_pos hn] at he
    rw [he, show a % m - m + m = a % m by omega, Int.emod_emod_of_dvd _ (Int.dvd_refl m)]
  · rw [if_neg hn] at he
    rw [he, Int.add_emod_right, Int.emod_emod_of_dvd _ (Int.dvd_refl m)]

/-- One more value taken into a hash. -/
def hstep (acc v : Int) : Int := (acc * 1000003 + v % 2147483647 + 13) % 2147483647
theorem hstep_range (a v : Int) : 0 ≤ hstep a v ∧ hstep a v < 2147483647 := ⟨Int.emod_nonneg _ (by omega), Int.emod_lt_of_pos _ (by omega)⟩
theorem hfold_range (l : List Int) : ∀ a : Int, 0 ≤ a → a < 2147483647 → 0 ≤ l.foldl hstep a ∧ l.foldl hstep a < 2147483647 := by
  induction l with
  | nil => exact fun a h0 h1 => ⟨h0, h1⟩
  | cons v r ih => exact fun a _ _ => ih _ (hstep_range a v).1 (hstep_range a v).2
theorem hfold_take (l : List Int) (j : Nat) (h : j < l.length) (a : Int) : (l.take (j + 1)).foldl hstep a = hstep ((l.take j).foldl hstep a) l[j] := by
  rw [List.take_succ_eq_append_getElem h, List.foldl_append]
  rfl
theorem hstep_go (a v : Int) (h0 : 0 ≤ a) (h1 : a < 2147483647) : Int.tmod (wrap64 ((wrap64 ((wrap64 (a * 1000003)) + v % 2147483647)) + 13)) 2147483647 = hstep a v := by
  have h2 := Int.emod_nonneg v (by omega : (2147483647 : Int) ≠ 0)
  have h3 := Int.emod_lt_of_pos v (by omega : (0 : Int) < 2147483647)
  rw [w64 (x := a * 1000003) (by omega) (by omega), w64 (x := a * 1000003 + _) (by omega) (by omega), w64 (by omega) (by omega), Int.tmod_eq_emod_of_nonneg (by omega)]
  rfl
theorem spec_Hash_ev (l : List Int) (hl : l.length < 9223372036854775807) : Ev (fun k => spec_Hash.f k l) (l.foldl hstep 11) := by
  unfold spec_Hash.f
  refine loop (g := fun k j => spec_Hash.l0 k l ((l.take j).foldl hstep 11) (j : Int)) l.length ?_ ?_
  · intro j hj h
    refine shift ?_
    simp only [spec_Hash.l0]
    refine pos (nat_lt hj) (pos (by omega) (bindc (spec_Mod_eq _ _ (by omega) (by omega)) ?_))
    obtain ⟨b0, b1⟩ := hfold_range (l.take j) 11 (by omega) (by omega)
    rw [hstep_go _ _ b0 b1, rd_get _ _ hj, ← hfold_take l j hj, succ_wrap (by omega)]
    exact h
  · refine shift ?_
    simp only [spec_Hash.l0]
    exact neg (nat_ge (Nat.le_refl _)) (now (by rw [List.take_length]))

def sealL (b s : Int) (l : List Int) : Int := ([b, s] ++ l).foldl hstep 11
theorem spec_SealOf_ev (b s : Int) (l : List Int) (hl : l.length ≤ 1048576) : Ev (fun k => spec_SealOf.f k b s l) (sealL b s l) := by
  unfold spec_SealOf.f
  refine bindc rfl (pos (by simp; omega) (Ev.bind (spec_Hash_ev _ (by simp; omega)) (now rfl)))

def okLight (v : List Int) (i : Nat) : Bool := decide (0 ≤ rd v i ∧ rd v i ≤ 2)
def prevSeal (l : List S66) (j : Nat) : Int := if j = 0 then 0 else (rd_T66 l ((j : Int) - 1)).f2
theorem prevSeal_succ (l : List S66) (j : Nat) : prevSeal l (j + 1) = (rd_T66 l j).f2 := by
  have e : ((j + 1 : Nat) : Int) - 1 = (j : Int) := by omega
  rw [prevSeal, if_neg (by omega), e]
/-- Entry j is in its ranges, behind the one before, sealed, and as long as the first. -/
def entryHead (l : List S66) (j : Nat) : Prop := 0 ≤ (rd_T66 l j).f0 ∧ (rd_T66 l j).f0 ≤ 1000000 ∧ (rd_T66 l j).f1.length ≤ 12 ∧ (rd_T66 l j).f1.length = (rd_T66 l 0).f1.length ∧
  (rd_T66 l j).f2 = sealL (prevSeal l j) (rd_T66 l j).f0 (rd_T66 l j).f1 ∧ (0 < j → (rd_T66 l ((j : Int) - 1)).f0 < (rd_T66 l j).f0)
instance (l : List S66) (j : Nat) : Decidable (entryHead l j) := by unfold entryHead; infer_instance
def entryLights (l : List S66) (j : Nat) : Bool := (List.range (rd_T66 l j).f1.length).all (okLight (rd_T66 l j).f1)
def okEntry (l : List S66) (j : Nat) : Bool := decide (entryHead l j) && entryLights l j
theorem okEntry_iff (l : List S66) (j : Nat) : okEntry l j = true ↔ entryHead l j ∧ entryLights l j = true := by
  unfold okEntry
  rw [Bool.and_eq_true, decide_eq_true_iff]
def isRecord (l : List S66) : Bool := (List.range l.length).all (okEntry l) && decide (l.length ≤ 60)
theorem isRecord_iff (l : List S66) : isRecord l = true ↔ (∀ j, j < l.length → entryHead l j ∧ entryLights l j = true) ∧ l.length ≤ 60 := by
  unfold isRecord
  rw [Bool.and_eq_true, List.all_eq_true, decide_eq_true_iff]
  exact ⟨fun h => ⟨fun j hj => (okEntry_iff l j).1 (h.1 j (List.mem_range.2 hj)), h.2⟩, fun h => ⟨fun j hj => (okEntry_iff l j).2 (h.1 j (List.mem_range.1 hj)), h.2⟩⟩
theorem entry_short (l : List S66) (he : ∀ x ∈ l, x.f1.length ≤ 1048576) (i : Nat) (hi : i < l.length) : (rd_T66 l i).f1.length ≤ 1048576 := by
  have : rd_T66 l (i : Int) = l[i] := by simp [rd_T66, hi]
  rw [this]
  exact he _ (List.getElem_mem hi)
theorem spec_IsRecord_lights (l : List S66) (s : Int) (j : Nat) (hj : j < l.length) (hx : (rd_T66 l j).f1.length ≤ 1048576) (i : Nat) (hi : i < (rd_T66 l j).f1.length) :
    (∀ r, okLight (rd_T66 l j).f1 i = true → Ev (fun k => spec_IsRecord.l1 k l s (j : Int) ((i + 1 : Nat) : Int)) r → Ev (fun k => spec_IsRecord.l1 k l s (j : Int) (i : Int)) r) ∧
    (okLight (rd_T66 l j).f1 i = false → Ev (fun k => spec_IsRecord.l1 k l s (j : Int) (i : Int)) false) := by
  constructor
  · intro r ok h
    have ok : 0 ≤ rd (rd_T66 l j).f1 i ∧ rd (rd_T66 l j).f1 i ≤ 2 := by simpa [okLight] using ok
    refine shift ?_
    simp only [spec_IsRecord.l1]
    refine pos (by omega) (pos (nat_lt hj) (pos (nat_lt hi) (pos (by omega) (bindc (spec_l1In_eq _ _ _) (pos (by simp [ok]) ?_)))))
    rw [succ_wrap (by omega)]
    exact h
  · intro ok
    have ok : ¬ (0 ≤ rd (rd_T66 l j).f1 i ∧ rd (rd_T66 l j).f1 i ≤ 2) := by simpa [okLight] using ok
    refine shift ?_
    simp only [spec_IsRecord.l1]
    exact pos (by omega) (pos (nat_lt hj) (pos (nat_lt hi) (pos (by omega) (bindc (spec_l1In_eq _ _ _) (neg (by simpa using ok) (now rfl))))))
theorem spec_IsRecord_in (l : List S66) (h60 : l.length ≤ 60) (he : ∀ x ∈ l, x.f1.length ≤ 1048576) : Ev (fun k => spec_IsRecord.l0 k l (prevSeal l 0) 0) ((List.range l.length).all (okEntry l) && true) := by
  refine all_loop (g := fun k j => spec_IsRecord.l0 k l (prevSeal l j) (j : Int)) l.length (okEntry l) true ?_ ?_ ?_
  · intro j r hj ok h
    have hx := entry_short l he j hj
    obtain ⟨⟨h1, h2, h3, h4, h5, h6⟩, hli⟩ := (okEntry_iff l j).1 ok
    refine shift ?_
    simp only [spec_IsRecord.l0]
    refine pos (nat_lt hj) (shift ?_)
    simp only [spec_IsRecord.j1]
    refine pos (by simp; omega) (pos (by omega) (pos (nat_lt hj) (Ev.bind (spec_SealOf_ev _ _ _ hx) (bindc (spec_l1In_eq _ _ _) (pos (by simp [h1, h2]) (neg (by omega) (pos (by omega) (pos (by omega) (pos h5 ?_)))))))))
    have last : Ev (fun k => spec_IsRecord.j2 k l (sealL (prevSeal l j) (rd_T66 l j).f0 (rd_T66 l j).f1) (j : Int) false) r := by
      refine shift ?_
      simp only [spec_IsRecord.j2]
      refine neg (by simp) ?_
      refine ok_loop (g := fun k i => spec_IsRecord.l1 k l _ (j : Int) (i : Int)) (rd_T66 l j).f1.length (okLight (rd_T66 l j).f1) hli (fun i r hi => (spec_IsRecord_lights l _ j hj hx i hi).1 r) (shift ?_)
      simp only [spec_IsRecord.l1]
      refine pos (by omega) (pos (nat_lt hj) (neg (nat_ge (Nat.le_refl _)) ?_))
      rw [succ_wrap (by omega), ← h5, ← prevSeal_succ]
      exact h
    by_cases h0 : (j : Int) > 0
    · rw [w64 (x := (j : Int) - 1) (by omega) (by omega), decide_eq_false (by have := h6 (by omega); omega)]
      exact pos h0 (pos (by omega) (pos (by omega) last))
    · exact neg h0 last
  · intro j hj ok
    have hx := entry_short l he j hj
    have ok : ¬ (entryHead l j ∧ entryLights l j = true) := by rw [← okEntry_iff, ok]; simp
    unfold entryHead at ok
    have no : ∀ s, Ev (fun k => spec_IsRecord.j2 k l s (j : Int) true) false := by
      intro s
      refine shift ?_
      simp only [spec_IsRecord.j2]
      exact pos (by simp) (now rfl)
    refine shift ?_
    simp only [spec_IsRecord.l0]
    refine pos (nat_lt hj) (shift ?_)
    simp only [spec_IsRecord.j1]
    refine pos (by simp; omega) (pos (by omega) (pos (nat_lt hj) (Ev.bind (spec_SealOf_ev _ _ _ hx) (bindc (spec_l1In_eq _ _ _) ?_))))
    by_cases h1 : 0 ≤ (rd_T66 l j).f0 ∧ (rd_T66 l j).f0 ≤ 1000000
    · refine pos (by simp [h1]) ?_
      by_cases h3 : (rd_T66 l j).f1.length ≤ 12
      · refine neg (by omega) (pos (by omega) ?_)
        by_cases h4 : (rd_T66 l j).f1.length = (rd_T66 l 0).f1.length
        · refine pos (by omega) ?_
          by_cases h5 : (rd_T66 l j).f2 = sealL (prevSeal l j) (rd_T66 l j).f0 (rd_T66 l j).f1
          · refine pos h5 ?_
            have last : (0 < j → (rd_T66 l ((j : Int) - 1)).f0 < (rd_T66 l j).f0) → Ev (fun k => spec_IsRecord.j2 k l (sealL (prevSeal l j) (rd_T66 l j).f0 (rd_T66 l j).f1) (j : Int) false) false := by
              intro h6
              have hli : ¬ entryLights l j = true := fun q => ok ⟨⟨h1.1, h1.2, h3, h4, h5, h6⟩, q⟩
              refine shift ?_
              simp only [spec_IsRecord.j2]
              refine neg (by simp) ?_
              exact bad_loop (g := fun k i => spec_IsRecord.l1 k l _ (j : Int) (i : Int)) (rd_T66 l j).f1.length (okLight (rd_T66 l j).f1) false hli (fun i r hi => (spec_IsRecord_lights l _ j hj hx i hi).1 r) (fun i hi => (spec_IsRecord_lights l _ j hj hx i hi).2)
            by_cases h0 : (j : Int) > 0
            · rw [w64 (x := (j : Int) - 1) (by omega) (by omega)]
              refine pos h0 (pos (by omega) (pos (by omega) ?_))
              by_cases h6 : (rd_T66 l ((j : Int) - 1)).f0 < (rd_T66 l j).f0
              · rw [decide_eq_false (by omega)]
                exact last (fun _ => h6)
              · rw [decide_eq_true (by omega)]
                exact no _
            · exact neg h0 (last (fun q => absurd q (by omega)))
          · exact neg h5 (no _)
        · exact neg (by omega) (no _)
      · exact pos (by omega) (no _)
    · exact neg (by simpa using h1) (no _)
  · refine shift ?_
    simp only [spec_IsRecord.l0]
    refine neg (nat_ge (Nat.le_refl _)) (shift ?_)
    simp only [spec_IsRecord.j1]
    exact neg (by simp) (now (decide_eq_true (by omega)))
theorem spec_IsRecord_ev (l : List S66) (hl : l.length ≤ 1048577) (he : ∀ x ∈ l, x.f1.length ≤ 1048576) : Ev (fun k => spec_IsRecord.f k l) (isRecord l) := by
  unfold spec_IsRecord.f isRecord
  by_cases h60 : l.length ≤ 60
  · rw [decide_eq_true h60]
    exact spec_IsRecord_in l h60 he
  · rw [decide_eq_false h60, Bool.and_false]
    refine shift ?_
    simp only [spec_IsRecord.l0]
    refine pos (by omega) (shift ?_)
    simp only [spec_IsRecord.j1]
    exact neg (by simp; omega) (now (decide_eq_false (by omega)))

theorem impl_InRange_eq (a b c : Int) : impl_InRange.f a b c = some (decide (b ≤ a ∧ a ≤ c)) := by
  unfold impl_InRange.f
  by_cases h : b ≤ a
  · rw [if_pos h]
    simp [h]
  · rw [if_neg h]
    simp [h]

theorem impl_Mod_eq (a m : Int) (h1 : 1 ≤ m) (h2 : m ≤ 1000000000000) : impl_Mod.f a m = some (a % m) := by
  unfold impl_Mod.f
  rw [impl_InRange_eq, Option.bind_some, if_pos (by simp [h1, h2]), if_neg (by omega)]
  have he := tmod_emod (a := a) (m := m) (by omega)
  have h3 := Int.emod_nonneg a (by omega : m ≠ 0)
  have h4 := Int.emod_lt_of_pos a (by omega : 0 < m)
  by_cases hn : Int.tmod a m < 0
  · rw [if_pos hn] at he
    rw [if_pos hn, w64 (by omega) (by omega), he]
    congr 1
    omega
  · rw [if_neg hn] at he
    rw [if_neg hn, he]

theorem impl_fold_eq (a v : Int) (h0 : 0 ≤ a) (h1 : a < 2147483647) : impl_fold.f a v = some (hstep a v) := by
  unfold impl_fold.f
  rw [impl_Mod_eq _ _ (by omega) (by omega), Option.bind_some, hstep_go a v h0 h1]

theorem impl_Hash_ev (l : List Int) (hl : l.length < 9223372036854775807) : Ev (fun k => impl_Hash.f k l) (l.foldl hstep 11) := by
  unfold impl_Hash.f
  refine loop (g := fun k j => impl_Hash.l0 k ((l.take j).foldl hstep 11) l (l.length : Int) (j : Int)) l.length ?_ ?_
  · intro j hj h
    refine shift ?_
    simp only [impl_Hash.l0]
    obtain ⟨b0, b1⟩ := hfold_range (l.take j) 11 (by omega) (by omega)
    refine pos (nat_lt hj) (pos (by omega) (pos (nat_lt hj) (bindc (impl_fold_eq _ _ b0 b1) ?_)))
    rw [rd_get _ _ hj, ← hfold_take l j hj, succ_wrap (by omega)]
    exact h
  · refine shift ?_
    simp only [impl_Hash.l0]
    exact neg (nat_ge (Nat.le_refl _)) (now (by rw [List.take_length]))


theorem impl_SealOf_ev (b s : Int) (l : List Int) (hl : l.length ≤ 1048576) : Ev (fun k => impl_SealOf.f k b s l) (sealL b s l) := by
  unfold impl_SealOf.f
  refine bindc rfl (pos (by simp; omega) (Ev.bind (impl_Hash_ev _ (by simp; omega)) (now rfl)))

theorem impl_IsRecord_lights (l : List S66) (n : Int) (j : Nat) (hx : (rd_T66 l j).f1.length ≤ 1048576) (i : Nat) (hi : i < (rd_T66 l j).f1.length) :
    (∀ r, okLight (rd_T66 l j).f1 i = true → Ev (fun k => impl_IsRecord.l1 k l l n (j : Int) (rd_T66 l j).f1 ((rd_T66 l j).f1.length : Int) ((i + 1 : Nat) : Int) (rd_T66 l j).f0 (rd_T66 l j).f1 (rd_T66 l j).f2) r → Ev (fun k => impl_IsRecord.l1 k l l n (j : Int) (rd_T66 l j).f1 ((rd_T66 l j).f1.length : Int) (i : Int) (rd_T66 l j).f0 (rd_T66 l j).f1 (rd_T66 l j).f2) r) ∧
    (okLight (rd_T66 l j).f1 i = false → Ev (fun k => impl_IsRecord.l1 k l l n (j : Int) (rd_T66 l j).f1 ((rd_T66 l j).f1.length : Int) (i : Int) (rd_T66 l j).f0 (rd_T66 l j).f1 (rd_T66 l j).f2) false) := by
  constructor
  · intro r ok h
    have ok : 0 ≤ rd (rd_T66 l j).f1 i ∧ rd (rd_T66 l j).f1 i ≤ 2 := by simpa [okLight] using ok
    refine shift ?_
    simp only [impl_IsRecord.l1]
    refine pos (nat_lt hi) (pos (by omega) (pos (nat_lt hi) (bindc (impl_InRange_eq _ _ _) (pos (by simp [ok]) ?_))))
    rw [succ_wrap (by omega)]
    exact h
  · intro ok
    have ok : ¬ (0 ≤ rd (rd_T66 l j).f1 i ∧ rd (rd_T66 l j).f1 i ≤ 2) := by simpa [okLight] using ok
    refine shift ?_
    simp only [impl_IsRecord.l1]
    exact pos (nat_lt hi) (pos (by omega) (pos (nat_lt hi) (bindc (impl_InRange_eq _ _ _) (neg (by simpa using ok) (now rfl)))))
theorem impl_IsRecord_in (l : List S66) (h60 : l.length ≤ 60) (he : ∀ x ∈ l, x.f1.length ≤ 1048576) : Ev (fun k => impl_IsRecord.l0 k l (prevSeal l 0) l (l.length : Int) 0) ((List.range l.length).all (okEntry l) && true) := by
  refine all_loop (g := fun k j => impl_IsRecord.l0 k l (prevSeal l j) l (l.length : Int) (j : Int)) l.length (okEntry l) true ?_ ?_ ?_
  · intro j r hj ok h
    have hx := entry_short l he j hj
    obtain ⟨⟨h1, h2, h3, h4, h5, h6⟩, hli⟩ := (okEntry_iff l j).1 ok
    have last : Ev (fun k => impl_IsRecord.j1 k l l (l.length : Int) (j : Int) ((rd_T66 l j).f2 != sealL (prevSeal l j) (rd_T66 l j).f0 (rd_T66 l j).f1) (rd_T66 l j).f0 (rd_T66 l j).f1 (rd_T66 l j).f2) r := by
      refine shift ?_
      simp only [impl_IsRecord.j1]
      refine neg (by rw [← h5]; simp) ?_
      refine ok_loop (g := fun k i => impl_IsRecord.l1 k l l (l.length : Int) (j : Int) (rd_T66 l j).f1 ((rd_T66 l j).f1.length : Int) (i : Int) (rd_T66 l j).f0 (rd_T66 l j).f1 (rd_T66 l j).f2) (rd_T66 l j).f1.length (okLight (rd_T66 l j).f1) hli (fun i r hi => (impl_IsRecord_lights l _ j hx i hi).1 r) (shift ?_)
      simp only [impl_IsRecord.l1]
      refine neg (nat_ge (Nat.le_refl _)) ?_
      rw [succ_wrap (by omega), ← prevSeal_succ]
      exact h
    refine shift ?_
    simp only [impl_IsRecord.l0]
    refine pos (nat_lt hj) (pos (by omega) (pos (nat_lt hj) (bindc (impl_InRange_eq _ _ _) (pos (by simp [h1, h2]) ?_))))
    by_cases h0 : (j : Int) > 0
    · rw [w64 (x := (j : Int) - 1) (by omega) (by omega)]
      exact pos h0 (pos (by omega) (pos (by omega) (neg (by have := h6 (by omega); omega) (neg (by omega) (pos (by omega) (pos (by omega) (Ev.bind (impl_SealOf_ev _ _ _ hx) last)))))))
    · exact neg h0 (neg (by omega) (pos (by omega) (pos (by omega) (Ev.bind (impl_SealOf_ev _ _ _ hx) last))))
  · intro j hj ok
    have hx := entry_short l he j hj
    have ok : ¬ (entryHead l j ∧ entryLights l j = true) := by rw [← okEntry_iff, ok]; simp
    unfold entryHead at ok
    have no : Ev (fun k => impl_IsRecord.j1 k l l (l.length : Int) (j : Int) true (rd_T66 l j).f0 (rd_T66 l j).f1 (rd_T66 l j).f2) false := by
      refine shift ?_
      simp only [impl_IsRecord.j1]
      exact pos (by simp) (now rfl)
    refine shift ?_
    simp only [impl_IsRecord.l0]
    refine pos (nat_lt hj) (pos (by omega) (pos (nat_lt hj) (bindc (impl_InRange_eq _ _ _) ?_)))
    by_cases h1 : 0 ≤ (rd_T66 l j).f0 ∧ (rd_T66 l j).f0 ≤ 1000000
    · refine pos (by simp [h1]) ?_
      have more : (0 < j → (rd_T66 l ((j : Int) - 1)).f0 < (rd_T66 l j).f0) → (rd_T66 l j).f1.length ≤ 12 → (rd_T66 l j).f1.length = (rd_T66 l 0).f1.length →
          Ev (fun k => impl_IsRecord.j1 k l l (l.length : Int) (j : Int) ((rd_T66 l j).f2 != sealL (prevSeal l j) (rd_T66 l j).f0 (rd_T66 l j).f1) (rd_T66 l j).f0 (rd_T66 l j).f1 (rd_T66 l j).f2) false := by
        intro h6 h3 h4
        by_cases h5 : (rd_T66 l j).f2 = sealL (prevSeal l j) (rd_T66 l j).f0 (rd_T66 l j).f1
        · have hli : ¬ entryLights l j = true := fun q => ok ⟨⟨h1.1, h1.2, h3, h4, h5, h6⟩, q⟩
          refine shift ?_
          simp only [impl_IsRecord.j1]
          refine neg (by rw [← h5]; simp) ?_
          exact bad_loop (g := fun k i => impl_IsRecord.l1 k l l (l.length : Int) (j : Int) (rd_T66 l j).f1 ((rd_T66 l j).f1.length : Int) (i : Int) (rd_T66 l j).f0 (rd_T66 l j).f1 (rd_T66 l j).f2) (rd_T66 l j).f1.length (okLight (rd_T66 l j).f1) false hli (fun i r hi => (impl_IsRecord_lights l _ j hx i hi).1 r) (fun i hi => (impl_IsRecord_lights l _ j hx i hi).2)
        · rw [show ((rd_T66 l j).f2 != sealL (prevSeal l j) (rd_T66 l j).f0 (rd_T66 l j).f1) = true by simpa using h5]
          exact no
      by_cases h0 : (j : Int) > 0
      · rw [w64 (x := (j : Int) - 1) (by omega) (by omega)]
        refine pos h0 (pos (by omega) (pos (by omega) ?_))
        by_cases h6 : (rd_T66 l ((j : Int) - 1)).f0 < (rd_T66 l j).f0
        · refine neg (by omega) ?_
          by_cases h3 : (rd_T66 l j).f1.length ≤ 12
          · refine neg (by omega) (pos (by omega) ?_)
            by_cases h4 : (rd_T66 l j).f1.length = (rd_T66 l 0).f1.length
            · exact pos (by omega) (Ev.bind (impl_SealOf_ev _ _ _ hx) (more (fun _ => h6) h3 h4))
            · exact neg (by omega) no
          · exact pos (by omega) no
        · exact pos (by omega) no
      · refine neg h0 ?_
        by_cases h3 : (rd_T66 l j).f1.length ≤ 12
        · refine neg (by omega) (pos (by omega) ?_)
          by_cases h4 : (rd_T66 l j).f1.length = (rd_T66 l 0).f1.length
          · exact pos (by omega) (Ev.bind (impl_SealOf_ev _ _ _ hx) (more (fun q => absurd q (by omega)) h3 h4))
          · exact neg (by omega) no
        · exact pos (by omega) no
    · exact neg (by simpa using h1) no
  · refine shift ?_
    simp only [impl_IsRecord.l0]
    exact neg (nat_ge (Nat.le_refl _)) (now rfl)
theorem impl_IsRecord_ev (l : List S66) (hl : l.length ≤ 1048577) (he : ∀ x ∈ l, x.f1.length ≤ 1048576) : Ev (fun k => impl_IsRecord.f k l) (isRecord l) := by
  unfold impl_IsRecord.f isRecord
  by_cases h60 : l.length ≤ 60
  · rw [decide_eq_true h60]
    exact neg (by omega) (impl_IsRecord_in l h60 he)
  · rw [decide_eq_false h60, Bool.and_false]
    exact pos (by omega) (now rfl)

def lightOf (v : List Int) (i : Int) : Int := if 0 ≤ i ∧ i < v.length then rd v i else -1
theorem lightOf_in {v : List Int} {i : Int} (h : 0 ≤ i ∧ i < v.length) : lightOf v i = rd v i := by rw [lightOf, if_pos h]
theorem lightOf_out {v : List Int} {i : Int} (h : ¬ (0 ≤ i ∧ i < v.length)) : lightOf v i = -1 := by rw [lightOf, if_neg h]
theorem record_len {l : List S66} (h : isRecord l = true) (j : Nat) (hj : j < l.length) : (rd_T66 l j).f1.length = (rd_T66 l 0).f1.length := ((isRecord_iff l).1 h).1 j hj |>.1.2.2.2.1
theorem record_pred {l : List S66} (h : isRecord l = true) (j : Nat) (h0 : 0 < j) (hj : j < l.length) : (rd_T66 l ((j : Int) - 1)).f1.length = (rd_T66 l j).f1.length := by
  have e : (j : Int) - 1 = ((j - 1 : Nat) : Int) := by omega
  rw [e, record_len h (j - 1) (by omega), record_len h j hj]

theorem impl_lightOf_eq (a : Int) (v : List Int) (b i : Int) : impl_lightOf.f a v b i = some (lightOf v i) := by
  unfold impl_lightOf.f lightOf
  by_cases h0 : i < 0
  · rw [if_pos h0, if_neg (by omega)]
  · rw [if_neg h0]
    by_cases h1 : i ≥ v.length
    · rw [if_pos h1, if_neg (by omega)]
    · rw [if_neg h1, if_pos (by omega), if_pos (by omega), if_pos (by omega)]

def lastAt (l : List S66) (t : Int) : Nat → Int
  | 0 => -1
  | j + 1 => if (rd_T66 l j).f0 ≤ t then (j : Int) else lastAt l t j
theorem lastAt_range (l : List S66) (t : Int) (j : Nat) : -1 ≤ lastAt l t j ∧ lastAt l t j < j := by
  induction j with
  | zero => simp [lastAt]
  | succ j ih =>
    rw [lastAt]
    split <;> omega
def entryAt (l : List S66) (t : Int) : Int := if isRecord l = true then lastAt l t l.length else -1
theorem entryAt_range (l : List S66) (t : Int) : -1 ≤ entryAt l t ∧ entryAt l t < l.length := by
  have := lastAt_range l t l.length
  unfold entryAt
  split <;> omega
theorem entryAt_record (l : List S66) (t : Int) (h : 0 ≤ entryAt l t) : isRecord l = true := by
  by_cases hr : isRecord l = true
  · exact hr
  · unfold entryAt at h
    rw [if_neg hr] at h
    omega
theorem spec_l28At_ev (l : List S66) (t : Int) (hl : l.length ≤ 1048577) (he : ∀ x ∈ l, x.f1.length ≤ 1048576) : Ev (fun k => spec_l28At.f k l t) (entryAt l t) := by
  unfold spec_l28At.f entryAt
  by_cases hr : isRecord l = true
  · rw [if_pos hr]
    refine loop (g := fun k j => spec_l28At.l0 k l t (lastAt l t j) (j : Int)) l.length ?_ ?_
    · intro j hj h
      refine shift ?_
      simp only [spec_l28At.l0]
      refine pos (nat_lt hj) (Ev.bind (spec_IsRecord_ev l hl he) (shift ?_))
      simp only [spec_l28At.j1]
      refine pos hr (pos (by omega) (pos (nat_lt hj) ?_))
      rw [succ_wrap (by omega)]
      rw [lastAt] at h
      by_cases h1 : (rd_T66 l j).f0 ≤ t
      · rw [if_pos h1] at h
        exact pos h1 h
      · rw [if_neg h1] at h
        exact neg h1 h
    · refine shift ?_
      simp only [spec_l28At.l0]
      refine neg (nat_ge (Nat.le_refl _)) (shift ?_)
      simp only [spec_l28At.j1]
      exact neg (by simp) (now rfl)
  · rw [if_neg hr]
    refine shift ?_
    simp only [spec_l28At.l0]
    by_cases h0 : (0 : Int) < l.length
    · refine pos h0 (Ev.bind (spec_IsRecord_ev l hl he) (shift ?_))
      simp only [spec_l28At.j1]
      exact neg hr (now rfl)
    · refine neg h0 (shift ?_)
      simp only [spec_l28At.j1]
      exact neg (by simp) (now rfl)

def shownAt (l : List S66) (t : Int) : List Int × Bool := if entryAt l t < 0 then ([], false) else ((rd_T66 l (entryAt l t)).f1, true)
theorem entryAt_short (l : List S66) (t : Int) (he : ∀ x ∈ l, x.f1.length ≤ 1048576) (h : 0 ≤ entryAt l t) : (rd_T66 l (entryAt l t)).f1.length ≤ 1048576 := by
  have hr := entryAt_range l t
  have e : entryAt l t = ((entryAt l t).toNat : Int) := by omega
  rw [e]
  exact entry_short l he _ (by omega)
theorem shownAt_short (l : List S66) (t : Int) (he : ∀ x ∈ l, x.f1.length ≤ 1048576) : (shownAt l t).1.length ≤ 1048576 := by
  unfold shownAt
  by_cases h : entryAt l t < 0
  · rw [if_pos h]
    simp
  · rw [if_neg h]
    exact entryAt_short l t he (by omega)
theorem spec_ShownAt_ev (l : List S66) (t : Int) (hl : l.length ≤ 1048577) (he : ∀ x ∈ l, x.f1.length ≤ 1048576) : Ev (fun k => spec_ShownAt.f k l t) (shownAt l t) := by
  unfold spec_ShownAt.f shownAt
  have hr := entryAt_range l t
  refine Ev.bind (spec_l28At_ev l t hl he) ?_
  by_cases h : entryAt l t < 0
  · exact pos h (now (by rw [if_pos h]))
  · have hs := entryAt_short l t he (by omega)
    exact neg h (bindc rfl (pos (by omega) (pos (by omega) (pos (by simp; omega) (now (by rw [if_neg h]; rfl))))))

def lightShown (l : List S66) (i t : Int) : Int := if entryAt l t < 0 then -1 else lightOf (rd_T66 l (entryAt l t)).f1 i
theorem spec_LightShown_ev (l : List S66) (i t : Int) (hl : l.length ≤ 1048577) (he : ∀ x ∈ l, x.f1.length ≤ 1048576) : Ev (fun k => spec_LightShown.f k l i t) (lightShown l i t) := by
  unfold spec_LightShown.f
  have hs := shownAt_short l t he
  refine Ev.bind (spec_ShownAt_ev l t hl he) (bindc (spec_l1In_eq _ _ _) ?_)
  rw [w64 (x := ((shownAt l t).1.length : Int) - 1) (by omega) (by omega)]
  have e : lightShown l i t = lightOf (shownAt l t).1 i := by
    unfold lightShown shownAt
    by_cases h : entryAt l t < 0
    · rw [if_pos h, if_pos h]
      exact (lightOf_out (by simp)).symm
    · rw [if_neg h, if_neg h]
  rw [e]
  by_cases h : 0 ≤ i ∧ i < (shownAt l t).1.length
  · rw [lightOf_in h]
    exact pos (by simp; omega) (pos h.1 (pos h.2 (now rfl)))
  · rw [lightOf_out h]
    exact neg (by simp; omega) (now rfl)

/-- The first of the places up to k from which on the light is green. -/
def greenFrom (l : List S66) (i : Int) : Nat → Nat
  | 0 => 0
  | k + 1 => if lightOf (rd_T66 l k).f1 i = 1 then greenFrom l i k else k + 1
theorem greenFrom_le (l : List S66) (i : Int) (k : Nat) : greenFrom l i k ≤ k := by
  induction k with
  | zero => exact Nat.le_refl _
  | succ k ih =>
    rw [greenFrom]
    split <;> omega
def greenSince (l : List S66) (i t : Int) : Int := if lightShown l i t = 1 then wrap64 (t - (rd_T66 l (greenFrom l i (entryAt l t).toNat)).f0) else -1
theorem lightShown_green (l : List S66) (i t : Int) (h : lightShown l i t = 1) : 0 ≤ entryAt l t ∧ lightOf (rd_T66 l (entryAt l t)).f1 i = 1 ∧ 0 ≤ i ∧ i < (rd_T66 l (entryAt l t)).f1.length := by
  unfold lightShown at h
  by_cases h0 : entryAt l t < 0
  · rw [if_pos h0] at h
    omega
  · rw [if_neg h0] at h
    refine ⟨by omega, h, ?_⟩
    by_cases hi : 0 ≤ i ∧ i < (rd_T66 l (entryAt l t)).f1.length
    · exact hi
    · rw [lightOf_out hi] at h
      omega
theorem spec_GreenSince_at (l : List S66) (i t : Int) (hl : l.length ≤ 1048577) (hr : isRecord l = true) (hi : 0 ≤ i ∧ i < (rd_T66 l 0).f1.length) : ∀ k : Nat, k < l.length → Ev (fun n => spec_GreenSince.l0 n l i t (k : Int)) (wrap64 (t - (rd_T66 l (greenFrom l i k)).f0)) := by
  intro k
  induction k with
  | zero =>
    intro hk
    refine shift ?_
    simp only [spec_GreenSince.l0]
    exact neg (by omega) (pos (by omega) (pos (by omega) (now rfl)))
  | succ k ih =>
    intro hk
    have hlen := record_len hr k (by omega)
    have e : ((k + 1 : Nat) : Int) - 1 = (k : Int) := by omega
    refine shift ?_
    simp only [spec_GreenSince.l0]
    rw [w64 (x := ((k + 1 : Nat) : Int) - 1) (by omega) (by omega), e]
    refine pos (by omega) (pos (by omega) (pos (by omega) (pos hi.1 (pos (by omega) ?_))))
    rw [greenFrom, lightOf_in (v := (rd_T66 l (k : Int)).f1) (by omega)]
    by_cases h : rd (rd_T66 l (k : Int)).f1 i = 1
    · rw [if_pos h]
      exact pos h (ih (by omega))
    · rw [if_neg h]
      exact neg h (pos (by omega) (pos (by omega) (now rfl)))
theorem spec_GreenSince_ev (l : List S66) (i t : Int) (hl : l.length ≤ 1048577) (he : ∀ x ∈ l, x.f1.length ≤ 1048576) : Ev (fun k => spec_GreenSince.f k l i t) (greenSince l i t) := by
  unfold spec_GreenSince.f greenSince
  refine Ev.bind (spec_LightShown_ev l i t hl he) ?_
  by_cases h : lightShown l i t = 1
  · rw [if_pos h]
    obtain ⟨h0, _, hi0, hi⟩ := lightShown_green l i t h
    have hr := entryAt_record l t h0
    have hb := entryAt_range l t
    have e : entryAt l t = ((entryAt l t).toNat : Int) := by omega
    refine pos h (Ev.bind (spec_l28At_ev l t hl he) ?_)
    rw [e, record_len hr _ (by omega)] at hi
    have main := spec_GreenSince_at l i t hl hr ⟨hi0, hi⟩ (entryAt l t).toNat (by omega)
    rw [← e] at main
    exact main
  · rw [if_neg h]
    exact neg h (now rfl)

theorem impl_entryAt_ev (l : List S66) (t : Int) (hl : l.length ≤ 1048577) (he : ∀ x ∈ l, x.f1.length ≤ 1048576) : Ev (fun k => impl_entryAt.f k l t) (entryAt l t) := by
  unfold impl_entryAt.f entryAt
  refine Ev.bind (impl_IsRecord_ev l hl he) ?_
  by_cases hr : isRecord l = true
  · rw [if_pos hr]
    refine pos hr (loop (g := fun k j => impl_entryAt.l0 k t (lastAt l t j) l (l.length : Int) (j : Int)) l.length ?_ ?_)
    · intro j hj h
      refine shift ?_
      simp only [impl_entryAt.l0]
      refine pos (nat_lt hj) (pos (by omega) (pos (nat_lt hj) ?_))
      rw [succ_wrap (by omega)]
      rw [lastAt] at h
      by_cases h1 : (rd_T66 l j).f0 ≤ t
      · rw [if_pos h1] at h
        exact pos h1 h
      · rw [if_neg h1] at h
        exact neg h1 h
    · refine shift ?_
      simp only [impl_entryAt.l0]
      exact neg (nat_ge (Nat.le_refl _)) (now rfl)
  · rw [if_neg hr]
    exact neg hr (now rfl)

theorem impl_GreenSince_at (l : List S66) (i t : Int) (hl : l.length ≤ 1048577) : ∀ k : Nat, k < l.length → Ev (fun n => impl_GreenSince.l0 n l i t (k : Int)) (wrap64 (t - (rd_T66 l (greenFrom l i k)).f0)) := by
  intro k
  induction k with
  | zero =>
    intro hk
    refine shift ?_
    simp only [impl_GreenSince.l0]
    exact neg (by omega) (pos (by omega) (pos (by omega) (now rfl)))
  | succ k ih =>
    intro hk
    have e : ((k + 1 : Nat) : Int) - 1 = (k : Int) := by omega
    refine shift ?_
    simp only [impl_GreenSince.l0]
    rw [w64 (x := ((k + 1 : Nat) : Int) - 1) (by omega) (by omega), e]
    refine pos (by omega) (pos (by omega) (pos (by omega) (bindc (impl_lightOf_eq _ _ _ _) ?_)))
    rw [greenFrom]
    by_cases h : lightOf (rd_T66 l (k : Int)).f1 i = 1
    · rw [if_pos h]
      exact pos h (ih (by omega))
    · rw [if_neg h]
      exact neg h (pos (by omega) (pos (by omega) (now rfl)))
theorem impl_GreenSince_ev (l : List S66) (i t : Int) (hl : l.length ≤ 1048577) (he : ∀ x ∈ l, x.f1.length ≤ 1048576) : Ev (fun k => impl_GreenSince.f k l i t) (greenSince l i t) := by
  unfold impl_GreenSince.f greenSince
  have hb := entryAt_range l t
  refine Ev.bind (impl_entryAt_ev l t hl he) ?_
  by_cases h0 : entryAt l t < 0
  · have hn : ¬ lightShown l i t = 1 := by
      unfold lightShown
      rw [if_pos h0]
      omega
    rw [if_neg hn]
    refine pos h0 (shift ?_)
    simp only [impl_GreenSince.j0]
    exact pos (by simp) (now rfl)
  · refine neg h0 (pos (by omega) (pos (by omega) (bindc (impl_lightOf_eq _ _ _ _) (shift ?_))))
    simp only [impl_GreenSince.j0]
    have e : entryAt l t = ((entryAt l t).toNat : Int) := by omega
    by_cases h : lightShown l i t = 1
    · rw [if_pos h]
      obtain ⟨_, h2, _⟩ := lightShown_green l i t h
      have main := impl_GreenSince_at l i t hl (entryAt l t).toNat (by omega)
      rw [← e] at main
      exact neg (by rw [h2]; simp) main
    · rw [if_neg h]
      refine pos ?_ (now rfl)
      unfold lightShown at h
      rw [if_neg h0] at h
      simpa using h

theorem FnExactGreenSince (l : List S64) (hw : wfS 40 wf64 l) (a1 : Int) (h1 : I64 a1) (a2 : Int) (h2 : I64 a2) : ∃ k, laws_FnExactGreenSince.f k l a1 a2 = some true := by
  refine Ev.rounds ?_
  have hm := hw.2.1
  have hme : ∀ x ∈ l, x.f1.length ≤ 140737488355328 := fun x hx => by have := (hw.2.2 x hx).2.1.2.1; omega
  unfold laws_FnExactGreenSince.f
  obtain ⟨r, hr, _, hl⟩ := laws_szEntryS_ev l 1048576 (by omega) (by omega) (by omega) hme
  refine Ev.bind hr ?_
  by_cases h : r < 0
  · exact pos h (now rfl)
  · obtain ⟨hl, he⟩ := hl h
    have hc : (l.map cEntry).length ≤ 1048577 := by simp; omega
    have hc0 : (l.map cEntry).length ≤ 1048576 := by simpa using hl
    have he2 := cEntry_short l he
    refine neg h (Ev.bind (laws_toEntryS_ev l hl he) (Ev.bind (spec_GreenSince_ev _ _ _ hc he2) (Ev.bind (laws_toEntryS_ev l hl he) (Ev.bind (impl_GreenSince_ev _ _ _ hc he2) ?_))))
    exact pos rfl (Ev.bind (laws_toEntryS_ev l hl he) (Ev.bind (laws_eqEntryS_refl _ hc0 he2) (pos rfl (now rfl))))

end Go.Proofs.Ytmpncnphndafnaa.PureFnExactGreenSince
