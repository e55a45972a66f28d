/- The pure statement of FnExactInside: for all arguments of their kinds there is a number of rounds behind which the law answers true; condition: every number is one of Go's int, every slice is within the reach. -/
import Derived.Test.YtheoejbkgckllaaPFnExactInsidex0
import Derived.Test.YtheoejbkgckllaaPFnExactInsidex1
import Derived.Test.YtheoejbkgckllaaAid
namespace Go.Proofs.Ytheoejbkgckllaa.PureFnExactInside
open Go.RowKit Go.Proofs.YtheoejbkgckllaaW.PrintWords Go.Proofs.YtheoejbkgckllaaW.PrintLast Go.Proofs.YtheoejbkgckllaaW.PrintMore Go.Proofs.Ytheoejbkgckllaa.PFnExactInside Go.Proofs.Ytheoejbkgckllaa.Aid
set_option linter.unusedVariables false
set_option linter.unusedSimpArgs false

/-! #### struct type 23 -/
structure S23 where
  f0 : Int
  f1 : Int
  f2 : Int
def z23 : S23 := ⟨(0 : Int), (0 : Int), (0 : Int)⟩
def k23 : Kd S23 := Kd.iso (Kd.pair (Kd.int .i64) (Kd.pair (Kd.int .i64) (Kd.int .i64))) (fun x : S23 => (x.f0, x.f1, x.f2))
theorem k23_open {w : World} {x : S23} {cs : List Value} (h : k23.K w x cs) : cs = [.int .i64 x.f0, .int .i64 x.f1, .int .i64 x.f2] := by
  obtain ⟨_, _, rfl, rfl, ⟨_, _, rfl, rfl, rfl⟩⟩ := h
  exact rfl
theorem k23_openM {w : World} {base : Nat} {ok : Nat → Prop} {x : S23} {cs : List Value} (h : k23.M w base ok x cs) : cs = [.int .i64 x.f0, .int .i64 x.f1, .int .i64 x.f2] := by
  obtain ⟨_, _, rfl, rfl, ⟨_, _, rfl, rfl, rfl⟩⟩ := h
  exact rfl
theorem k23_mk (w : World) (x : S23)  : k23.K w x [.int .i64 x.f0, .int .i64 x.f1, .int .i64 x.f2] := ⟨[.int .i64 x.f0], [.int .i64 x.f1, .int .i64 x.f2], rfl, rfl, ⟨[.int .i64 x.f1], [.int .i64 x.f2], rfl, rfl, rfl⟩⟩
theorem k23_mkM (w : World) (base : Nat) (ok : Nat → Prop) (x : S23)  : k23.M w base ok x [.int .i64 x.f0, .int .i64 x.f1, .int .i64 x.f2] := ⟨[.int .i64 x.f0], [.int .i64 x.f1, .int .i64 x.f2], rfl, rfl, ⟨[.int .i64 x.f1], [.int .i64 x.f2], rfl, rfl, rfl⟩⟩
def rd_T23 (xs : List S23) (i : Int) : S23 := xs.getD i.toNat z23
theorem at_T23 {w : World} {A : Option Addr} {n : Nat} {xs : List S23} (h : Kd.C k23 w A n xs) (i : Int) (h0 : 0 ≤ i) (h1 : i < n) : ∃ ad , A = some ad ∧ w.cell? (ad.add (i.toNat * 3)) = some (.int .i64 (rd_T23 xs i).f0) ∧ w.cell? ⟨(ad.add (i.toNat * 3)).block, (ad.add (i.toNat * 3)).off + 1, none⟩ = some (.int .i64 (rd_T23 xs i).f1) ∧ w.cell? ⟨(ad.add (i.toNat * 3)).block, (ad.add (i.toNat * 3)).off + 2, none⟩ = some (.int .i64 (rd_T23 xs i).f2) := by
  obtain ⟨ad, c, e, _, hK, hc0⟩ := Kd.C_get h z23 i h0 h1
  have hc : ∀ j u, c[j]? = some u → w.cell? (ad.add (i.toNat * 3 + j)) = some u := hc0
  obtain rfl := k23_open hK
  exact ⟨ad, e, hc 0 _ rfl, by rw [← add_field _ _ 1 (by omega)]; exact hc 1 _ rfl, by rw [← add_field _ _ 2 (by omega)]; exact hc 2 _ rfl⟩

/-- Every number of it is one of Go's int, every slice within the reach. -/
def wf23 (x : S23) : Prop := I64 x.f0 ∧ I64 x.f1 ∧ I64 x.f2

theorem spec_l1In_eq (a b c : Int) : spec_l1In.f a b c = some (decide (b ≤ a ∧ a ≤ c)) := by
  unfold spec_l1In.f
  by_cases h : b ≤ a
  · rw [if_pos h]
    simp [h]
  · rw [if_neg h]
    simp [h]

def isTally (i o r : Int) : Bool := decide (0 ≤ i ∧ i ≤ 1000000 ∧ 0 ≤ o ∧ o ≤ i ∧ 0 ≤ r ∧ r ≤ 100 ∧ i - o ≤ r)
theorem isTally_iff (i o r : Int) : isTally i o r = true ↔ 0 ≤ i ∧ i ≤ 1000000 ∧ 0 ≤ o ∧ o ≤ i ∧ 0 ≤ r ∧ r ≤ 100 ∧ i - o ≤ r := by simp [isTally]
theorem spec_IsTally_eq (i o r : Int) : spec_IsTally.f i o r = some (isTally i o r) := by
  unfold spec_IsTally.f isTally
  simp only [spec_l1In_eq, Option.bind_some, decide_eq_true_eq]
  repeat' split
  all_goals first
    | (refine congrArg some (decide_eq_decide.2 ?_); unfold wrap64; omega)
    | (refine congrArg some (Eq.symm (decide_eq_false ?_)); omega)

theorem spec_Inside_eq (i o r : Int) : spec_Inside.f i o r = some (if isTally i o r = true then i - o else -1) := by
  unfold spec_Inside.f
  rw [spec_IsTally_eq, Option.bind_some]
  by_cases h : isTally i o r = true
  · have h2 := (isTally_iff i o r).1 h
    rw [if_pos h, if_pos h, w64 (by omega) (by omega)]
  · rw [if_neg h, if_neg h]

theorem impl_InRange_eq (a b c : Int) : impl_InRange.f a b c = some (decide (b ≤ a ∧ a ≤ c)) := by
  unfold impl_InRange.f
  by_cases h : b ≤ a
  · rw [if_pos h]
    simp [h]
  · rw [if_neg h]
    simp [h]

theorem impl_IsTally_eq (i o r : Int) : impl_IsTally.f i o r = some (isTally i o r) := by
  unfold impl_IsTally.f isTally
  simp only [impl_InRange_eq, Option.bind_some, decide_eq_true_eq]
  repeat' split
  all_goals first
    | (refine congrArg some (decide_eq_decide.2 ?_); unfold wrap64; omega)
    | (refine congrArg some (Eq.symm (decide_eq_false ?_)); omega)

theorem impl_Inside_eq (i o r : Int) : impl_Inside.f i o r = some (if isTally i o r = true then i - o else -1) := by
  unfold impl_Inside.f
  rw [impl_IsTally_eq, Option.bind_some]
  by_cases h : isTally i o r = true
  · have h2 := (isTally_iff i o r).1 h
    rw [if_pos h, if_pos h, w64 (by omega) (by omega)]
  · rw [if_neg h, if_neg h]

theorem FnExactInside (x0 : S23) (h0 : wf23 x0) : laws_FnExactInside.f x0.f0 x0.f1 x0.f2 = some true := by
  unfold laws_FnExactInside.f laws_toTally.f
  simp only [Option.bind_some, spec_Inside_eq, impl_Inside_eq, if_true]

end Go.Proofs.Ytheoejbkgckllaa.PureFnExactInside
