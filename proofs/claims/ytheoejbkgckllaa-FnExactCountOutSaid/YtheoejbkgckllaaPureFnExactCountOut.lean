/- The pure statement of FnExactCountOut: for all arguments of their kinds there is a number of rounds behind which the law answers true; condition: every number is one of Go's int, every slice is within the reach. -/
import Derived.Test.YtheoejbkgckllaaPFnExactCountOutx0
import Derived.Test.YtheoejbkgckllaaPFnExactCountOutx1
import Derived.Test.YtheoejbkgckllaaAid
namespace Go.Proofs.Ytheoejbkgckllaa.PureFnExactCountOut
open Go.RowKit Go.Proofs.YtheoejbkgckllaaW.PrintWords Go.Proofs.YtheoejbkgckllaaW.PrintLast Go.Proofs.YtheoejbkgckllaaW.PrintMore Go.Proofs.Ytheoejbkgckllaa.PFnExactCountOut Go.Proofs.Ytheoejbkgckllaa.Aid
set_option linter.unusedVariables false
set_option linter.unusedSimpArgs false

/-! #### struct type 23 -/
structure S23 where
  f0 : Int
  f1 : Int
  f2 : Int
def z23 : S23 := ⟨(0 : Int), (0 : Int), (0 : Int)⟩
def k23 : Kd S23 := Kd.iso (Kd.pair (Kd.int .i64) (Kd.pair (Kd.int .i64) (Kd.int .i64))) (fun x : S23 => (x.f0, x.f1, x.f2))
theorem k23_open {w : World} {x : S23} {cs : List Value} (h : k23.K w x cs) : cs = [.int .i64 x.f0, .int .i64 x.f1, .int .i64 x.f2] := by
  obtain ⟨_, _, rfl, rfl, ⟨_, _, rfl, rfl, rfl⟩⟩ := h
  exact rfl
theorem k23_openM {w : World} {base : Nat} {ok : Nat → Prop} {x : S23} {cs : List Value} (h : k23.M w base ok x cs) : cs = [.int .i64 x.f0, .int .i64 x.f1, .int .i64 x.f2] := by
  obtain ⟨_, _, rfl, rfl, ⟨_, _, rfl, rfl, rfl⟩⟩ := h
  exact rfl
theorem k23_mk (w : World) (x : S23)  : k23.K w x [.int .i64 x.f0, .int .i64 x.f1, .int .i64 x.f2] := ⟨[.int .i64 x.f0], [.int .i64 x.f1, .int .i64 x.f2], rfl, rfl, ⟨[.int .i64 x.f1], [.int .i64 x.f2], rfl, rfl, rfl⟩⟩
theorem k23_mkM (w : World) (base : Nat) (ok : Nat → Prop) (x : S23)  : k23.M w base ok x [.int .i64 x.f0, .int .i64 x.f1, .int .i64 x.f2] := ⟨[.int .i64 x.f0], [.int .i64 x.f1, .int .i64 x.f2], rfl, rfl, ⟨[.int .i64 x.f1], [.int .i64 x.f2], rfl, rfl, rfl⟩⟩
def rd_T23 (xs : List S23) (i : Int) : S23 := xs.getD i.toNat z23
theorem at_T23 {w : World} {A : Option Addr} {n : Nat} {xs : List S23} (h : Kd.C k23 w A n xs) (i : Int) (h0 : 0 ≤ i) (h1 : i < n) : ∃ ad , A = some ad ∧ w.cell? (ad.add (i.toNat * 3)) = some (.int .i64 (rd_T23 xs i).f0) ∧ w.cell? ⟨(ad.add (i.toNat * 3)).block, (ad.add (i.toNat * 3)).off + 1, none⟩ = some (.int .i64 (rd_T23 xs i).f1) ∧ w.cell? ⟨(ad.add (i.toNat * 3)).block, (ad.add (i.toNat * 3)).off + 2, none⟩ = some (.int .i64 (rd_T23 xs i).f2) := by
  obtain ⟨ad, c, e, _, hK, hc0⟩ := Kd.C_get h z23 i h0 h1
  have hc : ∀ j u, c[j]? = some u → w.cell? (ad.add (i.toNat * 3 + j)) = some u := hc0
  obtain rfl := k23_open hK
  exact ⟨ad, e, hc 0 _ rfl, by rw [← add_field _ _ 1 (by omega)]; exact hc 1 _ rfl, by rw [← add_field _ _ 2 (by omega)]; exact hc 2 _ rfl⟩

/-- Every number of it is one of Go's int, every slice within the reach. -/
def wf23 (x : S23) : Prop := I64 x.f0 ∧ I64 x.f1 ∧ I64 x.f2

theorem laws_eqTally_refl (a b c : Int) : laws_eqTally.f a b c a b c = some true := by
  simp [laws_eqTally.f]

theorem spec_l1In_eq (a b c : Int) : spec_l1In.f a b c = some (decide (b ≤ a ∧ a ≤ c)) := by
  unfold spec_l1In.f
  by_cases h : b ≤ a
  · rw [if_pos h]
    simp [h]
  · rw [if_neg h]
    simp [h]

def isTally (i o r : Int) : Bool := decide (0 ≤ i ∧ i ≤ 1000000 ∧ 0 ≤ o ∧ o ≤ i ∧ 0 ≤ r ∧ r ≤ 100 ∧ i - o ≤ r)
theorem isTally_iff (i o r : Int) : isTally i o r = true ↔ 0 ≤ i ∧ i ≤ 1000000 ∧ 0 ≤ o ∧ o ≤ i ∧ 0 ≤ r ∧ r ≤ 100 ∧ i - o ≤ r := by simp [isTally]
theorem spec_IsTally_eq (i o r : Int) : spec_IsTally.f i o r = some (isTally i o r) := by
  unfold spec_IsTally.f isTally
  simp only [spec_l1In_eq, Option.bind_some, decide_eq_true_eq]
  repeat' split
  all_goals first
    | (refine congrArg some (decide_eq_decide.2 ?_); unfold wrap64; omega)
    | (refine congrArg some (Eq.symm (decide_eq_false ?_)); omega)

/-- A tally behind another one, if both are valid and so many may come or go. -/
def countTo (i o r i2 o2 n : Int) : Int × Int × Int × Bool := if isTally i o r = true ∧ (0 ≤ n ∧ n ≤ 1000) ∧ isTally i2 o2 r = true then (i2, o2, r, true) else (i, o, r, false)
theorem spec_CountOut_ev (i o r n : Int) : Ev (fun k => spec_CountOut.f k i o r n) (countTo i o r i (wrap64 (o + n)) n) := by
  unfold spec_CountOut.f countTo
  refine bindc (spec_IsTally_eq _ _ _) ?_
  by_cases h : isTally i o r = true
  · refine pos h (bindc (spec_l1In_eq _ _ _) (shift ?_))
    simp only [spec_CountOut.j0]
    by_cases h2 : 0 ≤ n ∧ n ≤ 1000
    · refine neg (by simp [h2]) (bindc (spec_IsTally_eq _ _ _) ?_)
      by_cases h3 : isTally i (wrap64 (o + n)) r = true
      · exact pos h3 (now (by rw [if_pos ⟨h, h2, h3⟩]))
      · exact neg h3 (now (by rw [if_neg (fun q => h3 q.2.2)]))
    · refine pos (by simp [h2]) (now (by rw [if_neg (fun q => h2 q.2.1)]))
  · refine neg h (shift ?_)
    simp only [spec_CountOut.j0]
    exact pos (by simp) (now (by rw [if_neg (fun q => h q.1)]))

theorem impl_InRange_eq (a b c : Int) : impl_InRange.f a b c = some (decide (b ≤ a ∧ a ≤ c)) := by
  unfold impl_InRange.f
  by_cases h : b ≤ a
  · rw [if_pos h]
    simp [h]
  · rw [if_neg h]
    simp [h]

theorem impl_IsTally_eq (i o r : Int) : impl_IsTally.f i o r = some (isTally i o r) := by
  unfold impl_IsTally.f isTally
  simp only [impl_InRange_eq, Option.bind_some, decide_eq_true_eq]
  repeat' split
  all_goals first
    | (refine congrArg some (decide_eq_decide.2 ?_); unfold wrap64; omega)
    | (refine congrArg some (Eq.symm (decide_eq_false ?_)); omega)

theorem impl_counted_eq (i o r i2 o2 n : Int) : impl_counted.f i o r i2 o2 r n = some (countTo i o r i2 o2 n) := by
  unfold impl_counted.f countTo
  simp only [impl_IsTally_eq, impl_InRange_eq, Option.bind_some, decide_eq_true_eq]
  by_cases h : isTally i o r = true
  · by_cases h3 : isTally i2 o2 r = true
    · by_cases h2 : 0 ≤ n ∧ n ≤ 1000
      · rw [if_pos h, if_pos h3, if_pos h2, if_pos ⟨h, h2, h3⟩]
      · rw [if_pos h, if_pos h3, if_neg h2, if_neg (fun q => h2 q.2.1)]
    · rw [if_pos h, if_neg h3, if_neg (fun q => h3 q.2.2)]
  · rw [if_neg h, if_neg (fun q => h q.1)]

theorem impl_CountOut_eq (i o r n : Int) : impl_CountOut.f i o r n = some (countTo i o r i (wrap64 (o + n)) n) := by
  unfold impl_CountOut.f
  rw [impl_counted_eq]
  rfl

theorem FnExactCountOut (x0 : S23) (h0 : wf23 x0) (a1 : Int) (h1 : I64 a1) : ∃ k, laws_FnExactCountOut.f k x0.f0 x0.f1 x0.f2 a1 = some true := by
  refine Ev.rounds ?_
  unfold laws_FnExactCountOut.f laws_toTally.f
  refine bindc rfl (Ev.bind (spec_CountOut_ev _ _ _ _) (bindc rfl (bindc (impl_CountOut_eq _ _ _ _) (bindc (laws_eqTally_refl _ _ _) ?_))))
  exact pos rfl (neg (by simp) (now rfl))

end Go.Proofs.Ytheoejbkgckllaa.PureFnExactCountOut
