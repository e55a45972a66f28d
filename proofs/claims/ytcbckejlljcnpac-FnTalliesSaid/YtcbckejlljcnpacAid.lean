/- Small lemmas on functions that go round ('Ev': from some number of rounds on, the answer is r), on whole numbers that do not wrap and on lists; conditions as each states. -/
import Derived.Test.YtcbckejlljcnpacWWords
import Derived.Test.YtcbckejlljcnpacWMore
namespace Go.Proofs.Ytcbckejlljcnpac.Aid
open Go.RowKit Go.Proofs.YtcbckejlljcnpacW.PrintWords Go.Proofs.YtcbckejlljcnpacW.PrintMore
set_option linter.unusedVariables false

theorem w64 {x : Int} (h0 : -9223372036854775808 ≤ x) (h1 : x ≤ 9223372036854775807) : wrap64 x = x := by
  unfold wrap64
  omega
theorem w64_range (x : Int) : -9223372036854775808 ≤ wrap64 x ∧ wrap64 x ≤ 9223372036854775807 := by
  unfold wrap64
  omega
/-- A number of Go's int. -/
def I64 (x : Int) : Prop := -9223372036854775808 ≤ x ∧ x ≤ 9223372036854775807
theorem i64_of {x : Int} (h : (Lit.int .i64 x).wf = true) : I64 x := by
  simp [Lit.wf, IntKind.min, IntKind.max, IntKind.bits, IntKind.signed] at h
  unfold I64
  omega

/-- A byte. -/
def U8 (x : Int) : Prop := 0 ≤ x ∧ x ≤ 255
theorem u8_of {x : Int} (h : (Lit.int .u8 x).wf = true) : U8 x := by
  simp [Lit.wf, IntKind.min, IntKind.max, IntKind.bits, IntKind.signed] at h
  unfold U8
  omega

/-- A slice within the reach (B: an element's bytes), all of whose elements are as WF says. -/
def wfS {α : Type} (B : Nat) (WF : α → Prop) (xs : List α) : Prop := xs.length ≤ maxLen ∧ xs.length * B ≤ 140737488351232 ∧ ∀ x ∈ xs, WF x

theorem shift {α : Type} {g : Nat → Option α} {r : α} (h : Ev (fun k => g (k + 1)) r) : Ev g r := Ev.step (fun _ => rfl) h
theorem pos {α : Type} {c : Prop} [Decidable c] {a b : Nat → Option α} {r : α} (hc : c) (h : Ev a r) : Ev (fun k => if c then a k else b k) r := by
  simpa only [if_pos hc] using h
theorem neg {α : Type} {c : Prop} [Decidable c] {a b : Nat → Option α} {r : α} (hc : ¬ c) (h : Ev b r) : Ev (fun k => if c then a k else b k) r := by
  simpa only [if_neg hc] using h
theorem now {α : Type} {r s : α} (h : r = s) : Ev (fun _ => some r) s := h ▸ Ev.now r
theorem known {α : Type} {x : Option α} {r : α} (h : x = some r) : Ev (fun _ => x) r := h ▸ Ev.now r
theorem bindc {α β : Type} {x : Option α} {f : Nat → α → Option β} {a : α} {r : β} (h : x = some a) (k : Ev (fun n => f n a) r) : Ev (fun n => x.bind (f n)) r := by
  subst h
  exact k
theorem same {α : Type} {g : Nat → Option α} {r s : α} (h : Ev g r) (e : r = s) : Ev g s := e ▸ h
theorem of_const {α : Type} {x : Option α} {r : α} (h : Ev (fun _ => x) r) : x = some r := by
  obtain ⟨k, hk⟩ := Ev.rounds h
  exact hk

/-- A loop whose round j leads from state j to state j + 1, and whose N-th state is its end. -/
theorem loop {α : Type} {g : Nat → Nat → Option α} {r : α} (N : Nat) (hs : ∀ j, j < N → Ev (fun k => g k (j + 1)) r → Ev (fun k => g k j) r) (he : Ev (fun k => g k N) r) : Ev (fun k => g k 0) r := by
  have : ∀ d j, j + d = N → Ev (fun k => g k j) r := by
    intro d
    induction d with
    | zero =>
      intro j hj
      have : j = N := by omega
      subst this
      exact he
    | succ d ih => exact fun j hj => hs j (by omega) (ih (j + 1) (by omega))
  exact this N 0 (by omega)
/-- The same from state i on. -/
theorem loop_from {α : Type} {g : Nat → Nat → Option α} {r : α} (i N : Nat) (hi : i ≤ N) (hs : ∀ j, i ≤ j → j < N → Ev (fun k => g k (j + 1)) r → Ev (fun k => g k j) r) (he : Ev (fun k => g k N) r) : Ev (fun k => g k i) r := by
  have : ∀ d j, i ≤ j → j + d = N → Ev (fun k => g k j) r := by
    intro d
    induction d with
    | zero =>
      intro j _ hj
      have : j = N := by omega
      subst this
      exact he
    | succ d ih => exact fun j h0 hj => hs j h0 (by omega) (ih (j + 1) (by omega) (by omega))
  exact this (N - i) i (Nat.le_refl _) (by omega)

theorem rd_nat (xs : List Int) (j : Nat) : rd xs (j : Int) = xs.getD j 0 := by simp [rd]
theorem rd_get (xs : List Int) (j : Nat) (h : j < xs.length) : rd xs (j : Int) = xs[j] := by simp [rd, h]
theorem nat_lt {a b : Nat} (h : a < b) : (a : Int) < (b : Int) := by omega
theorem nat_ge {a b : Nat} (h : b ≤ a) : ¬ (a : Int) < (b : Int) := by omega
theorem succ_wrap {j : Nat} (h : j < 9223372036854775807) : wrap64 ((j : Int) + 1) = ((j + 1 : Nat) : Int) := by
  rw [w64 (by omega) (by omega)]
  omega

/-- A loop that fills a row, one place a round. -/
theorem copied {α β : Type} {g : Nat → List β → Int → Option (List β)} (l : List α) (f : α → β) (z : β) (hs : ∀ (j : Nat) (hj : j < l.length) (y : List β) (r : List β), y.length = l.length → Ev (fun k => g k (y.set j (f l[j])) ((j + 1 : Nat) : Int)) r → Ev (fun k => g k y (j : Int)) r)
    (he : ∀ y, Ev (fun k => g k y (l.length : Int)) y) : Ev (fun k => g k (List.replicate l.length z) 0) (l.map f) := by
  refine loop (g := fun k j => g k ((l.map f).take j ++ List.replicate (l.length - j) z) (j : Int)) (r := l.map f) l.length ?_ ?_ |> (fun h => by simpa using h)
  · intro j hj h
    refine hs j hj _ _ (by simp; omega) ?_
    refine Eq.mp ?_ h
    congr 1
    funext k
    congr 1
    rw [List.set_append_right _ _ (by simp; omega)]
    have h1 : (l.map f).take (j + 1) = (l.map f).take j ++ [f l[j]] := by
      rw [List.take_succ_eq_append_getElem (by simpa using hj)]
      simp
    have h2 : l.length - j = (l.length - (j + 1)) + 1 := by omega
    have h3 : j - ((l.map f).take j).length = 0 := by simp; omega
    rw [h1, h3, h2, List.replicate_succ, List.set_cons_zero]
    simp
  · have h := he (l.map f)
    have e : (l.map f).take l.length = l.map f := List.take_of_length_le (by simp)
    simpa [e] using h

/-- A loop that looks at each place and answers no at the first that is not as it ought to be. -/
theorem all_loop {g : Nat → Nat → Option Bool} (N : Nat) (ok : Nat → Bool) (b : Bool) (hs : ∀ j r, j < N → ok j = true → Ev (fun k => g k (j + 1)) r → Ev (fun k => g k j) r)
    (hf : ∀ j, j < N → ok j = false → Ev (fun k => g k j) false) (he : Ev (fun k => g k N) b) : Ev (fun k => g k 0) ((List.range N).all ok && b) := by
  have : ∀ d j, j + d = N → Ev (fun k => g k j) ((List.range' j d).all ok && b) := by
    intro d
    induction d with
    | zero =>
      intro j hj
      have : j = N := by omega
      subst this
      simpa using he
    | succ d ih =>
      intro j hj
      rw [List.range'_succ, List.all_cons]
      cases h : ok j with
      | true => simpa using hs j _ (by omega) h (ih (j + 1) (by omega))
      | false => simpa using hf j (by omega) h
  have h := this N 0 (by omega)
  rwa [← List.range_eq_range'] at h
/-- The same where all places are as they ought to be, .. -/
theorem ok_loop {α : Type} {g : Nat → Nat → Option α} (N : Nat) (ok : Nat → Bool) {r : α} (h : (List.range N).all ok = true) (hs : ∀ j r, j < N → ok j = true → Ev (fun k => g k (j + 1)) r → Ev (fun k => g k j) r)
    (he : Ev (fun k => g k N) r) : Ev (fun k => g k 0) r :=
  loop N (fun j hj hn => hs j r hj (List.all_eq_true.1 h j (List.mem_range.2 hj)) hn) he
/-- .. and where one isn't: the first that isn't decides. -/
theorem bad_loop {α : Type} {g : Nat → Nat → Option α} (N : Nat) (ok : Nat → Bool) (r : α) (h : ¬ (List.range N).all ok = true) (hs : ∀ j r, j < N → ok j = true → Ev (fun k => g k (j + 1)) r → Ev (fun k => g k j) r)
    (hf : ∀ j, j < N → ok j = false → Ev (fun k => g k j) r) : Ev (fun k => g k 0) r := by
  have : ∀ d j, j + d = N → ¬ (List.range' j d).all ok = true → Ev (fun k => g k j) r := by
    intro d
    induction d with
    | zero => exact fun j _ hn => absurd rfl hn
    | succ d ih =>
      intro j hj hn
      rw [List.range'_succ, List.all_cons] at hn
      cases ho : ok j with
      | true => exact hs j _ (by omega) ho (ih (j + 1) (by omega) (by simpa [ho] using hn))
      | false => exact hf j (by omega) ho
  exact this N 0 (by omega) (by rwa [← List.range_eq_range'])
/-- n numbers from a on. -/
def iota (a : Int) (n : Nat) : List Int := (List.range n).map fun (i : Nat) => a + (i : Int)
theorem iota_length (a : Int) (n : Nat) : (iota a n).length = n := by simp [iota]
theorem iota_get (a : Int) (n j : Nat) (h : j < n) : rd (iota a n) (j : Int) = a + j := by simp [rd, iota, h]
theorem iota_set (a : Int) (l : List Int) (j : Nat) (h : j < l.length) : (iota a j ++ l.drop j).set j (a + j) = iota a (j + 1) ++ l.drop (j + 1) := by
  rw [List.set_append_right _ _ (by rw [iota_length]; exact Nat.le_refl _), iota_length, Nat.sub_self, List.drop_eq_getElem_cons h, List.set_cons_zero]
  have : iota a (j + 1) = iota a j ++ [a + j] := by simp [iota, List.range_succ]
  rw [this]
  simp
end Go.Proofs.Ytcbckejlljcnpac.Aid
