/- The pure statement of FnTallies: for all arguments of their kinds there is a number of rounds behind which the law answers true; condition: every number is one of Go's int, every slice is within the reach. -/
import Derived.Test.YtcbckejlljcnpacPTalx0
import Derived.Test.YtcbckejlljcnpacPTalx1
import Derived.Test.YtcbckejlljcnpacPTalx2
import Derived.Test.YtcbckejlljcnpacPTalx3
import Derived.Test.YtcbckejlljcnpacPTalx4
import Derived.Test.YtcbckejlljcnpacPTalx5
import Derived.Test.YtcbckejlljcnpacPTalx6
import Derived.Test.YtcbckejlljcnpacPTalx7
import Derived.Test.YtcbckejlljcnpacPTalx8
import Derived.Test.YtcbckejlljcnpacPTalx9
import Derived.Test.YtcbckejlljcnpacPTalx10
import Derived.Test.YtcbckejlljcnpacPTalx11
import Derived.Test.YtcbckejlljcnpacPTalx12
import Derived.Test.YtcbckejlljcnpacPTalx13
import Derived.Test.YtcbckejlljcnpacPTalx14
import Derived.Test.YtcbckejlljcnpacPTalx15
import Derived.Test.YtcbckejlljcnpacPTalx16
import Derived.Test.YtcbckejlljcnpacPTalx17
import Derived.Test.YtcbckejlljcnpacPTalx18
import Derived.Test.YtcbckejlljcnpacPTalx19
import Derived.Test.YtcbckejlljcnpacPTalx20
import Derived.Test.YtcbckejlljcnpacAid
namespace Go.Proofs.Ytcbckejlljcnpac.PureFnTallies
open Go.RowKit Go.Proofs.YtcbckejlljcnpacW.PrintWords Go.Proofs.YtcbckejlljcnpacW.PrintLast Go.Proofs.YtcbckejlljcnpacW.PrintMore Go.Proofs.Ytcbckejlljcnpac.PTal Go.Proofs.Ytcbckejlljcnpac.Aid
set_option linter.unusedVariables false
set_option linter.unusedSimpArgs false


theorem laws_big_eq (l : List Int) : laws_big.f l = some (decide ((l.length : Int) > 1048576)) := rfl

theorem spec_l1New_ev (l : List Int) : ∃ s, Ev (fun k => spec_l1New.f k l) (l, 0, s) := by
  unfold spec_l1New.f
  have : ∀ d j s, j + d = l.length → (j : Nat) ≤ 4000 → ∃ s2, Ev (fun k => spec_l1New.l0 k l s (j : Int)) (l, 0, s2) := by
    intro d
    induction d with
    | zero =>
      intro j s hj _
      refine ⟨s, shift ?_⟩
      simp only [spec_l1New.l0]
      exact neg (by omega) (now rfl)
    | succ d ih =>
      intro j s hj hk
      by_cases h : j < 4000
      · obtain ⟨s2, h2⟩ := ih (j + 1) (Go.bits .and .i64 (wrap64 ((wrap64 ((wrap64 (s * 137)) + (wrap64 (rd l j)))) + 11)) 1073741823) (by omega) (by omega)
        refine ⟨s2, shift ?_⟩
        simp only [spec_l1New.l0]
        rw [succ_wrap (by omega)]
        exact pos (by omega) (pos (by omega) (pos (by omega) h2))
      · refine ⟨s, shift ?_⟩
        simp only [spec_l1New.l0]
        exact pos (by omega) (neg (by omega) (now rfl))
  exact this l.length 0 _ (by omega) (by omega)

theorem and255 (x : Int) : 0 ≤ Go.bits .and .i64 x 255 ∧ Go.bits .and .i64 x 255 ≤ 255 := by
  have h : (BitVec.ofInt 64 x &&& BitVec.ofInt 64 255).toNat ≤ 255 := by
    rw [BitVec.toNat_and]
    exact Nat.le_trans Nat.and_le_right (by decide)
  show 0 ≤ IntKind.wrap .i64 ((BitVec.ofInt 64 x &&& BitVec.ofInt 64 255).toNat : Int) ∧ IntKind.wrap .i64 ((BitVec.ofInt 64 x &&& BitVec.ofInt 64 255).toNat : Int) ≤ 255
  generalize (BitVec.ofInt 64 x &&& BitVec.ofInt 64 255).toNat = n at h
  have e : IntKind.wrap .i64 (n : Int) = wrap64 (n : Int) := by simp only [i64_w]
  rw [e, w64 (by omega) (by omega)]
  omega
theorem spec_l1Byte_ok (d : List Int) (p s : Int) (hd : d.length ≤ 1048576) (hp : 0 ≤ p ∧ p ≤ d.length) : ∃ v p2 s2, spec_l1Byte.f d p s = some (v, p2, s2) ∧ (0 ≤ p2 ∧ p2 ≤ d.length) ∧ 0 ≤ v ∧ v ≤ 255 := by
  unfold spec_l1Byte.f
  by_cases h : p < (d.length : Int)
  · refine ⟨_, _, _, by rw [if_pos h, if_pos hp.1], ?_, and255 _⟩
    rw [w64 (by omega) (by omega)]
    omega
  · exact ⟨_, _, _, by rw [if_neg h], hp, and255 _⟩

theorem spec_l1Below_ok (d : List Int) (p s a : Int) (hd : d.length ≤ 1048576) (hp : 0 ≤ p ∧ p ≤ d.length) : ∃ v p2 s2, spec_l1Below.f d p s a = some (v, p2, s2) ∧ (0 ≤ p2 ∧ p2 ≤ d.length) ∧ 0 ≤ v ∧ (0 < a → v < a) := by
  unfold spec_l1Below.f
  by_cases h : a ≤ 0
  · exact ⟨0, p, s, by rw [if_pos h], hp, by omega, by omega⟩
  rw [if_neg h]
  obtain ⟨v1, p1, s1, e1, r1, b1⟩ := spec_l1Byte_ok d p s hd hp
  by_cases h2 : a ≤ 256
  · refine ⟨Int.tmod v1 a, p1, s1, by rw [if_pos h2, e1, Option.bind_some, if_neg (by omega)], r1, Int.tmod_nonneg _ b1.1, fun h3 => Int.tmod_lt_of_pos _ h3⟩
  · obtain ⟨v2, p2, s2, e2, r2, b2⟩ := spec_l1Byte_ok d p1 s1 hd r1
    obtain ⟨v3, p3, s3, e3, r3, b3⟩ := spec_l1Byte_ok d p2 s2 hd r2
    refine ⟨_, p3, s3, by rw [if_neg h2, e1, Option.bind_some]; simp only [e2, e3, Option.bind_some]; rw [if_neg (by omega)], r3, Int.tmod_nonneg _ ?_, fun h3 => Int.tmod_lt_of_pos _ h3⟩
    rw [w64 (x := v1 * 65536) (by omega) (by omega), w64 (x := v2 * 256) (by omega) (by omega), w64 (x := v1 * 65536 + v2 * 256) (by omega) (by omega), w64 (by omega) (by omega)]
    omega

theorem spec_l1Int_ok (d : List Int) (p s : Int) (l : List Int) (hd : d.length ≤ 1048576) (hp : 0 ≤ p ∧ p ≤ d.length) (hl : 0 < l.length) : ∃ v p2 s2, spec_l1Int.f d p s l = some (v, p2, s2) ∧ (0 ≤ p2 ∧ p2 ≤ d.length) ∧ v ∈ l := by
  unfold spec_l1Int.f
  obtain ⟨v, p2, s2, e, r, h0, h1⟩ := spec_l1Below_ok d p s (l.length : Int) hd hp
  have h1 := h1 (by omega)
  refine ⟨rd l v, p2, s2, by rw [e, Option.bind_some, if_pos h0, if_pos h1], r, ?_⟩
  obtain ⟨n, rfl⟩ := Int.eq_ofNat_of_zero_le h0
  rw [rd_get l n (by omega)]
  exact List.getElem_mem _

def isTally (i o r : Int) : Bool := decide (0 ≤ i ∧ i ≤ 1000000 ∧ 0 ≤ o ∧ o ≤ i ∧ 0 ≤ r ∧ r ≤ 100 ∧ i - o ≤ r)
theorem isTally_iff (i o r : Int) : isTally i o r = true ↔ 0 ≤ i ∧ i ≤ 1000000 ∧ 0 ≤ o ∧ o ≤ i ∧ 0 ≤ r ∧ r ≤ 100 ∧ i - o ≤ r := by simp [isTally]
def countTo (i o r i2 o2 n : Int) : Int × Int × Int × Bool := if isTally i o r = true ∧ (0 ≤ n ∧ n ≤ 1000) ∧ isTally i2 o2 r = true then (i2, o2, r, true) else (i, o, r, false)
def holds (l : List S25) (s n : Int) : Bool := if 0 ≤ s ∧ s < l.length then (countTo (rd_T25 l s).f0 (rd_T25 l s).f1 (rd_T25 l s).f2 (wrap64 ((rd_T25 l s).f0 + n)) (rd_T25 l s).f1 n).2.2.2 else false
def insideAt (l : List S25) (j : Nat) : Int := mx 0 (if isTally (rd_T25 l j).f0 (rd_T25 l j).f1 (rd_T25 l j).f2 = true then (rd_T25 l j).f0 - (rd_T25 l j).f1 else -1)
theorem insideAt_range (l : List S25) (j : Nat) : 0 ≤ insideAt l j ∧ insideAt l j ≤ 100 := by
  unfold insideAt
  by_cases h : isTally (rd_T25 l j).f0 (rd_T25 l j).f1 (rd_T25 l j).f2 = true
  · have h2 := (isTally_iff _ _ _).1 h
    rw [if_pos h]
    unfold mx
    split <;> omega
  · rw [if_neg h]
    unfold mx
    omega
def insideSum (l : List S25) : Nat → Int
  | 0 => 0
  | j + 1 => insideSum l j + insideAt l j
theorem insideSum_range (l : List S25) (j : Nat) : 0 ≤ insideSum l j ∧ insideSum l j ≤ 100 * j := by
  induction j with
  | zero => simp [insideSum]
  | succ j ih =>
    have := insideAt_range l j
    rw [insideSum]
    omega

theorem spec_l26Draw_ok (d : List Int) (p s : Int) (hd : d.length ≤ 1048576) (hp : 0 ≤ p ∧ p ≤ d.length) : ∃ x y z p2 s2, spec_l26Draw.f d p s = some (x, y, z, p2, s2) ∧ (0 ≤ p2 ∧ p2 ≤ d.length) := by
  unfold spec_l26Draw.f
  obtain ⟨v1, p1, s1, e1, r1, _⟩ := spec_l1Below_ok d p s 30 hd hp
  obtain ⟨v2, p2, s2, e2, r2, _⟩ := spec_l1Below_ok d p1 s1 12 hd r1
  obtain ⟨v3, p3, s3, e3, r3, _⟩ := spec_l1Below_ok d p2 s2 (wrap64 (v2 + 1)) hd r2
  exact ⟨wrap64 (v1 + v3), v1, v2, p3, s3, by simp only [e1, e2, e3, Option.bind_some], r3⟩

theorem spec_l4Raw_ok (d : List Int) (p s : Int) (hd : d.length ≤ 1048576) (hp : 0 ≤ p ∧ p ≤ d.length) : ∃ v p2 s2, spec_l4Raw.f d p s = some (v, p2, s2) ∧ (0 ≤ p2 ∧ p2 ≤ d.length) ∧ v ∈ ([-1, 0, 4, 7, 20, 21, 9223372036854775807, -9223372036854775808] : List Int) := by
  unfold spec_l4Raw.f
  obtain ⟨v, p2, s2, e, r, h⟩ := spec_l1Int_ok d p s [-1, 0, 4, 7, 20, 21, 9223372036854775807, -9223372036854775808] hd hp (by simp)
  exact ⟨v, p2, s2, by rw [e, Option.bind_some], r, h⟩

theorem spec_l26Any_ok (d : List Int) (p s : Int) (hd : d.length ≤ 1048576) (hp : 0 ≤ p ∧ p ≤ d.length) : ∃ x y z p2 s2, spec_l26Any.f d p s = some (x, y, z, p2, s2) ∧ (0 ≤ p2 ∧ p2 ≤ d.length) := by
  unfold spec_l26Any.f
  obtain ⟨x, y, z, p1, s1, e1, r1⟩ := spec_l26Draw_ok d p s hd hp
  obtain ⟨v2, p2, s2, e2, r2, _⟩ := spec_l1Below_ok d p1 s1 10 hd r1
  obtain ⟨v3, p3, s3, e3, r3, _⟩ := spec_l4Raw_ok d p2 s2 hd r2
  obtain ⟨v4, p4, s4, e4, r4, _⟩ := spec_l1Int_ok d p2 s2 [-1, 100, 101] hd r2 (by simp)
  simp only [e1, e2, e3, e4, Option.bind_some]
  by_cases h0 : v2 = 0
  · exact ⟨_, _, _, p3, s3, by rw [if_pos h0], r3⟩
  by_cases h1 : v2 = 1
  · exact ⟨_, _, _, p3, s3, by rw [if_neg h0, if_pos h1], r3⟩
  by_cases h2 : v2 = 2
  · exact ⟨_, _, _, p4, s4, by rw [if_neg h0, if_neg h1, if_pos h2], r4⟩
  by_cases h3 : v2 = 3
  · exact ⟨_, _, _, p2, s2, by rw [if_neg h0, if_neg h1, if_neg h2, if_pos h3], r2⟩
  · exact ⟨_, _, _, p2, s2, by rw [if_neg h0, if_neg h1, if_neg h2, if_neg h3], r2⟩

theorem spec_DrawCountIn_ev (l : List Int) (hl : l.length ≤ 1048576) : ∃ x y z n, Ev (fun k => spec_DrawCountIn.f k l) (x, y, z, n) := by
  obtain ⟨s, hs⟩ := spec_l1New_ev l
  obtain ⟨x, y, z, p1, s1, e1, r1⟩ := spec_l26Any_ok l 0 s hl (by omega)
  obtain ⟨v, p2, s2, e2, r2, _⟩ := spec_l1Int_ok l p1 s1 [0, 1, 2, 5, 1000, 1001, -1] hl r1 (by simp)
  exact ⟨x, y, z, v, Ev.bind hs (bindc e1 (bindc e2 (now rfl)))⟩

theorem impl_InRange_eq (a b c : Int) : impl_InRange.f a b c = some (decide (b ≤ a ∧ a ≤ c)) := by
  unfold impl_InRange.f
  by_cases h : b ≤ a
  · rw [if_pos h]
    simp [h]
  · rw [if_neg h]
    simp [h]

theorem impl_IsTally_eq (i o r : Int) : impl_IsTally.f i o r = some (isTally i o r) := by
  unfold impl_IsTally.f isTally
  simp only [impl_InRange_eq, Option.bind_some, decide_eq_true_eq]
  repeat' split
  all_goals first
    | (refine congrArg some (decide_eq_decide.2 ?_); unfold wrap64; omega)
    | (refine congrArg some (Eq.symm (decide_eq_false ?_)); omega)

theorem impl_counted_eq (i o r i2 o2 n : Int) : impl_counted.f i o r i2 o2 r n = some (countTo i o r i2 o2 n) := by
  unfold impl_counted.f countTo
  simp only [impl_IsTally_eq, impl_InRange_eq, Option.bind_some, decide_eq_true_eq]
  by_cases h : isTally i o r = true
  · by_cases h3 : isTally i2 o2 r = true
    · by_cases h2 : 0 ≤ n ∧ n ≤ 1000
      · rw [if_pos h, if_pos h3, if_pos h2, if_pos ⟨h, h2, h3⟩]
      · rw [if_pos h, if_pos h3, if_neg h2, if_neg (fun q => h2 q.2.1)]
    · rw [if_pos h, if_neg h3, if_neg (fun q => h3 q.2.2)]
  · rw [if_neg h, if_neg (fun q => h q.1)]

theorem impl_CountIn_eq (i o r n : Int) : impl_CountIn.f i o r n = some (countTo i o r (wrap64 (i + n)) o n) := by
  unfold impl_CountIn.f
  rw [impl_counted_eq]
  rfl

theorem impl_Inside_eq (i o r : Int) : impl_Inside.f i o r = some (if isTally i o r = true then i - o else -1) := by
  unfold impl_Inside.f
  rw [impl_IsTally_eq, Option.bind_some]
  by_cases h : isTally i o r = true
  · have h2 := (isTally_iff i o r).1 h
    rw [if_pos h, if_pos h, w64 (by omega) (by omega)]
  · rw [if_neg h, if_neg h]

theorem impl_CountOut_eq (i o r n : Int) : impl_CountOut.f i o r n = some (countTo i o r i (wrap64 (o + n)) n) := by
  unfold impl_CountOut.f
  rw [impl_counted_eq]
  rfl

theorem spec_DrawCanHold_ev (l : List Int) (hl : l.length ≤ 1048576) : ∃ ls a n, Ev (fun k => spec_DrawCanHold.f k l) (ls, a, n) ∧ ls.length ≤ 4 := by
  obtain ⟨s, hs⟩ := spec_l1New_ev l
  obtain ⟨v, p1, s1, e1, r1, h0, h1⟩ := spec_l1Below_ok l 0 s 4 hl (by omega)
  have h1 := h1 (by omega)
  have : ∀ (c : Nat) (x6 : List S25) (p s : Int), (0 ≤ p ∧ p ≤ l.length) → x6.length + c ≤ 4 → ∃ ls a n, Ev (fun k => spec_DrawCanHold.l0 k x6 (c : Int) l p s) (ls, a, n) ∧ ls.length ≤ 4 := by
    intro c
    induction c with
    | zero =>
      intro x6 p s hp hx
      obtain ⟨v2, p2, s2, e2, r2, _⟩ := spec_l1Below_ok l p s 5 hl hp
      obtain ⟨v3, p3, s3, e3, r3, _⟩ := spec_l1Int_ok l p2 s2 [0, 1, 4, 1001] hl r2 (by simp)
      refine ⟨x6, wrap64 (v2 - 1), v3, shift ?_, by omega⟩
      simp only [spec_DrawCanHold.l0]
      exact neg (by omega) (bindc e2 (bindc e3 (now rfl)))
    | succ c ih =>
      intro x6 p s hp hx
      obtain ⟨x, y, z, p1, s1, e1, r1⟩ := spec_l26Any_ok l p s hl hp
      obtain ⟨ls, a, n, h, hn⟩ := ih (x6 ++ [⟨x, y, z⟩]) p1 s1 r1 (by simp; omega)
      refine ⟨ls, a, n, shift ?_, hn⟩
      simp only [spec_DrawCanHold.l0]
      refine pos (by omega) (bindc e1 (pos (by omega) ?_))
      rw [w64 (by omega) (by omega), show ((c + 1 : Nat) : Int) - 1 = (c : Int) by omega]
      exact h
  obtain ⟨c, hc⟩ := Int.eq_ofNat_of_zero_le h0
  subst hc
  obtain ⟨ls, a, n, h, hn⟩ := this c [] p1 s1 r1 (by simp; omega)
  exact ⟨ls, a, n, Ev.bind hs (bindc e1 h), hn⟩

theorem impl_CanHold_eq (l : List S25) (s n : Int) (hl : l.length ≤ 1048576) : impl_CanHold.f l s n = some (holds l s n) := by
  unfold impl_CanHold.f holds
  by_cases h0 : s < 0
  · rw [if_pos h0, if_neg (by omega)]
  · rw [if_neg h0]
    by_cases h1 : s ≥ l.length
    · rw [if_pos h1, if_neg (by omega)]
    · rw [if_neg h1, if_pos (by omega), if_pos (by omega), if_pos (by omega), impl_CountIn_eq]
      rfl

theorem impl_TotalInside_ev (l : List S25) (hl : l.length ≤ 1048576) : Ev (fun k => impl_TotalInside.f k l) (insideSum l l.length) := by
  unfold impl_TotalInside.f
  refine loop (g := fun k j => impl_TotalInside.l0 k (insideSum l j) l (l.length : Int) (j : Int)) l.length ?_ ?_
  · intro j hj h
    have h1 := insideSum_range l j
    have h2 := insideAt_range l j
    refine shift ?_
    simp only [impl_TotalInside.l0]
    refine pos (nat_lt hj) (pos (by omega) (pos (nat_lt hj) (bindc (impl_Inside_eq _ _ _) ?_)))
    rw [succ_wrap (by omega)]
    show Ev (fun k => impl_TotalInside.l0 k (wrap64 (insideSum l j + insideAt l j)) _ _ _) _
    rw [w64 (by omega) (by omega)]
    exact h
  · refine shift ?_
    simp only [impl_TotalInside.l0]
    exact neg (nat_ge (Nat.le_refl _)) (now rfl)

theorem FnTallies_j1 (l : List Int) (hl : l.length ≤ 1048576) : Ev (fun k => laws_FnTallies.j1 k l) true := by
  obtain ⟨ls, a, n, h, hn⟩ := spec_DrawCanHold_ev l hl
  have ht := impl_TotalInside_ev ls (by omega)
  have hr := (insideSum_range ls ls.length).1
  refine shift ?_
  simp only [laws_FnTallies.j1]
  refine Ev.bind h (bindc (impl_CanHold_eq ls a n (by omega)) ?_)
  have last : Ev (fun k => (impl_TotalInside.f k ls).bind fun t => some (decide (t ≥ 0))) true := Ev.bind ht (now (by simpa using hr))
  by_cases c : holds ls a n = true
  · refine pos c ?_
    unfold holds at c
    by_cases c2 : 0 ≤ a ∧ a < ls.length
    · rw [if_pos c2] at c
      refine pos c2.1 (pos c2.2 (bindc (impl_IsTally_eq _ _ _) ?_))
      unfold countTo at c
      generalize (rd_T25 ls a).f0 = i at *
      generalize (rd_T25 ls a).f1 = o at *
      generalize (rd_T25 ls a).f2 = r at *
      by_cases c3 : isTally i o r = true ∧ (0 ≤ n ∧ n ≤ 1000) ∧ isTally (wrap64 (i + n)) o r = true
      · have t1 := (isTally_iff _ _ _).1 c3.1
        have t2 := (isTally_iff _ _ _).1 c3.2.2
        rw [w64 (by omega) (by omega)] at t2
        refine pos c3.1 (bindc (impl_Inside_eq _ _ _) (neg ?_ last))
        show ¬ wrap64 ((if isTally i o r = true then i - o else -1) + n) > r
        rw [if_pos c3.1, w64 (by omega) (by omega)]
        omega
      · rw [if_neg c3] at c
        exact absurd c (by simp)
    · rw [if_neg c2] at c
      exact absurd c (by decide)
  · exact neg c last
theorem FnTallies (l : List Int) (hw : wfS 1 U8 l) : ∃ k, laws_FnTallies.f k l = some true := by
  refine Ev.rounds ?_
  unfold laws_FnTallies.f
  refine bindc (laws_big_eq l) ?_
  by_cases hl : (l.length : Int) > 1048576
  · exact pos (by simpa using hl) (now rfl)
  have hl : l.length ≤ 1048576 := by omega
  obtain ⟨i, o, r, n, h⟩ := spec_DrawCountIn_ev l hl
  refine neg (by simp; omega) (Ev.bind h (bindc (impl_CountIn_eq _ _ _ _) ?_))
  unfold countTo
  by_cases c : isTally i o r = true ∧ (0 ≤ n ∧ n ≤ 1000) ∧ isTally (wrap64 (i + n)) o r = true
  · rw [if_pos c]
    have t1 := (isTally_iff _ _ _).1 c.1
    have t2 := (isTally_iff _ _ _).1 c.2.2
    have e : wrap64 (i + n) = i + n := w64 (by omega) (by omega)
    rw [e] at t2
    have c2 := c.2.2
    rw [e] at c2
    rw [e]
    refine pos rfl (bindc (impl_Inside_eq _ _ _) (bindc (impl_Inside_eq _ _ _) ?_))
    rw [if_pos c2, if_pos c.1]
    refine pos (by show i + n - o = wrap64 (i - o + n); rw [w64 (by omega) (by omega)]; omega) (bindc (impl_Inside_eq _ _ _) ?_)
    rw [if_pos c2]
    refine neg (by show ¬ i + n - o > r; omega) (shift ?_)
    simp only [laws_FnTallies.j0]
    refine neg (by simp) (pos trivial (bindc (impl_CountOut_eq _ _ _ _) ?_))
    have e2 : wrap64 (o + n) = o + n := w64 (by omega) (by omega)
    have c4 : isTally (i + n) (o + n) r = true := (isTally_iff _ _ _).2 (by omega)
    unfold countTo
    rw [e2, if_pos ⟨c2, c.2.1, c4⟩]
    refine pos rfl (bindc (impl_Inside_eq _ _ _) (bindc (impl_Inside_eq _ _ _) ?_))
    rw [if_pos c4, if_pos c.1]
    exact pos (by show i + n - (o + n) = i - o; omega) (FnTallies_j1 l hl)
  · rw [if_neg c]
    refine neg (by simp) (shift ?_)
    simp only [laws_FnTallies.j0]
    exact neg (by simp) (neg (by simp) (FnTallies_j1 l hl))

end Go.Proofs.Ytcbckejlljcnpac.PureFnTallies
