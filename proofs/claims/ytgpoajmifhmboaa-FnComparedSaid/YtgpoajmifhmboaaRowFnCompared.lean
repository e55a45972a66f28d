/- The statement FnCompared, whole: for every input the law returns true and leaves its arguments as they were; no condition. Out of the contract of the law's walk and the pure theorem. -/
import Derived.Test.YtgpoajmifhmboaaBFnCompared0
import Derived.Test.YtgpoajmifhmboaaBFnCompared1
import Derived.Test.YtgpoajmifhmboaaBFnCompared2
import Derived.Test.YtgpoajmifhmboaaBFnCompared3
import Derived.Test.YtgpoajmifhmboaaBFnCompared4
import Derived.Test.YtgpoajmifhmboaaBFnCompared5
import Derived.Test.YtgpoajmifhmboaaBFnCompared6
import Derived.Test.YtgpoajmifhmboaaBFnCompared7
import Derived.Test.YtgpoajmifhmboaaBFnCompared8
import Derived.Test.YtgpoajmifhmboaaBFnCompared9
import Derived.Test.YtgpoajmifhmboaaBFnCompared10
import Derived.Test.YtgpoajmifhmboaaBFnCompared11
import Derived.Test.YtgpoajmifhmboaaBFnCompared12
import Derived.Test.YtgpoajmifhmboaaWWords
import Derived.Test.YtgpoajmifhmboaaWMore
import Derived.SizedLaws
import Derived.ChangeSlices
import Derived.ChangeArms
import Derived.WideShapes
import Derived.Below
import Derived.Test.YtgpoajmifhmboaaRows
import Derived.WalkKit
import Derived.ProofKit
import Derived.OpenShut
import Derived.ShutString
import Derived.ChangeOld
section
namespace Go.Proofs.Ytgpoajmifhmboaa.Aid
open Go.RowKit Go.Proofs.YtgpoajmifhmboaaW.PrintWords Go.Proofs.YtgpoajmifhmboaaW.PrintMore
set_option linter.unusedVariables false

theorem w64 {x : Int} (h0 : -9223372036854775808 ≤ x) (h1 : x ≤ 9223372036854775807) : wrap64 x = x := by
  unfold wrap64
  omega
theorem w64_range (x : Int) : -9223372036854775808 ≤ wrap64 x ∧ wrap64 x ≤ 9223372036854775807 := by
  unfold wrap64
  omega
/-- A number of Go's int. -/
def I64 (x : Int) : Prop := -9223372036854775808 ≤ x ∧ x ≤ 9223372036854775807
theorem i64_of {x : Int} (h : (Lit.int .i64 x).wf = true) : I64 x := by
  simp [Lit.wf, IntKind.min, IntKind.max, IntKind.bits, IntKind.signed] at h
  unfold I64
  omega

/-- A byte. -/
def U8 (x : Int) : Prop := 0 ≤ x ∧ x ≤ 255
theorem u8_of {x : Int} (h : (Lit.int .u8 x).wf = true) : U8 x := by
  simp [Lit.wf, IntKind.min, IntKind.max, IntKind.bits, IntKind.signed] at h
  unfold U8
  omega

/-- A slice within the reach (B: an element's bytes), all of whose elements are as WF says. -/
def wfS {α : Type} (B : Nat) (WF : α → Prop) (xs : List α) : Prop := xs.length ≤ maxLen ∧ xs.length * B ≤ 140737488351232 ∧ ∀ x ∈ xs, WF x

theorem shift {α : Type} {g : Nat → Option α} {r : α} (h : Ev (fun k => g (k + 1)) r) : Ev g r := Ev.step (fun _ => rfl) h
theorem pos {α : Type} {c : Prop} [Decidable c] {a b : Nat → Option α} {r : α} (hc : c) (h : Ev a r) : Ev (fun k => if c then a k else b k) r := by
  simpa only [if_pos hc] using h
theorem neg {α : Type} {c : Prop} [Decidable c] {a b : Nat → Option α} {r : α} (hc : ¬ c) (h : Ev b r) : Ev (fun k => if c then a k else b k) r := by
  simpa only [if_neg hc] using h
theorem now {α : Type} {r s : α} (h : r = s) : Ev (fun _ => some r) s := h ▸ Ev.now r
theorem known {α : Type} {x : Option α} {r : α} (h : x = some r) : Ev (fun _ => x) r := h ▸ Ev.now r
theorem bindc {α β : Type} {x : Option α} {f : Nat → α → Option β} {a : α} {r : β} (h : x = some a) (k : Ev (fun n => f n a) r) : Ev (fun n => x.bind (f n)) r := by
  subst h
  exact k
theorem same {α : Type} {g : Nat → Option α} {r s : α} (h : Ev g r) (e : r = s) : Ev g s := e ▸ h
theorem of_const {α : Type} {x : Option α} {r : α} (h : Ev (fun _ => x) r) : x = some r := by
  obtain ⟨k, hk⟩ := Ev.rounds h
  exact hk

/-- A loop whose round j leads from state j to state j + 1, and whose N-th state is its end. -/
theorem loop {α : Type} {g : Nat → Nat → Option α} {r : α} (N : Nat) (hs : ∀ j, j < N → Ev (fun k => g k (j + 1)) r → Ev (fun k => g k j) r) (he : Ev (fun k => g k N) r) : Ev (fun k => g k 0) r := by
  have : ∀ d j, j + d = N → Ev (fun k => g k j) r := by
    intro d
    induction d with
    | zero =>
      intro j hj
      have : j = N := by omega
      subst this
      exact he
    | succ d ih => exact fun j hj => hs j (by omega) (ih (j + 1) (by omega))
  exact this N 0 (by omega)
/-- The same from state i on. -/
theorem loop_from {α : Type} {g : Nat → Nat → Option α} {r : α} (i N : Nat) (hi : i ≤ N) (hs : ∀ j, i ≤ j → j < N → Ev (fun k => g k (j + 1)) r → Ev (fun k => g k j) r) (he : Ev (fun k => g k N) r) : Ev (fun k => g k i) r := by
  have : ∀ d j, i ≤ j → j + d = N → Ev (fun k => g k j) r := by
    intro d
    induction d with
    | zero =>
      intro j _ hj
      have : j = N := by omega
      subst this
      exact he
    | succ d ih => exact fun j h0 hj => hs j h0 (by omega) (ih (j + 1) (by omega) (by omega))
  exact this (N - i) i (Nat.le_refl _) (by omega)

theorem rd_nat (xs : List Int) (j : Nat) : rd xs (j : Int) = xs.getD j 0 := by simp [rd]
theorem rd_get (xs : List Int) (j : Nat) (h : j < xs.length) : rd xs (j : Int) = xs[j] := by simp [rd, h]
theorem nat_lt {a b : Nat} (h : a < b) : (a : Int) < (b : Int) := by omega
theorem nat_ge {a b : Nat} (h : b ≤ a) : ¬ (a : Int) < (b : Int) := by omega
theorem succ_wrap {j : Nat} (h : j < 9223372036854775807) : wrap64 ((j : Int) + 1) = ((j + 1 : Nat) : Int) := by
  rw [w64 (by omega) (by omega)]
  omega

/-- A loop that fills a row, one place a round. -/
theorem copied {α β : Type} {g : Nat → List β → Int → Option (List β)} (l : List α) (f : α → β) (z : β) (hs : ∀ (j : Nat) (hj : j < l.length) (y : List β) (r : List β), y.length = l.length → Ev (fun k => g k (y.set j (f l[j])) ((j + 1 : Nat) : Int)) r → Ev (fun k => g k y (j : Int)) r)
    (he : ∀ y, Ev (fun k => g k y (l.length : Int)) y) : Ev (fun k => g k (List.replicate l.length z) 0) (l.map f) := by
  refine loop (g := fun k j => g k ((l.map f).take j ++ List.replicate (l.length - j) z) (j : Int)) (r := l.map f) l.length ?_ ?_ |> (fun h => by simpa using h)
  · intro j hj h
    refine hs j hj _ _ (by simp; omega) ?_
    refine Eq.mp ?_ h
    congr 1
    funext k
    congr 1
    rw [List.set_append_right _ _ (by simp; omega)]
    have h1 : (l.map f).take (j + 1) = (l.map f).take j ++ [f l[j]] := by
      rw [List.take_succ_eq_append_getElem (by simpa using hj)]
      simp
    have h2 : l.length - j = (l.length - (j + 1)) + 1 := by omega
    have h3 : j - ((l.map f).take j).length = 0 := by simp; omega
    rw [h1, h3, h2, List.replicate_succ, List.set_cons_zero]
    simp
  · have h := he (l.map f)
    have e : (l.map f).take l.length = l.map f := List.take_of_length_le (by simp)
    simpa [e] using h

/-- A loop that looks at each place and answers no at the first that is not as it ought to be. -/
theorem all_loop {g : Nat → Nat → Option Bool} (N : Nat) (ok : Nat → Bool) (b : Bool) (hs : ∀ j r, j < N → ok j = true → Ev (fun k => g k (j + 1)) r → Ev (fun k => g k j) r)
    (hf : ∀ j, j < N → ok j = false → Ev (fun k => g k j) false) (he : Ev (fun k => g k N) b) : Ev (fun k => g k 0) ((List.range N).all ok && b) := by
  have : ∀ d j, j + d = N → Ev (fun k => g k j) ((List.range' j d).all ok && b) := by
    intro d
    induction d with
    | zero =>
      intro j hj
      have : j = N := by omega
      subst this
      simpa using he
    | succ d ih =>
      intro j hj
      rw [List.range'_succ, List.all_cons]
      cases h : ok j with
      | true => simpa using hs j _ (by omega) h (ih (j + 1) (by omega))
      | false => simpa using hf j (by omega) h
  have h := this N 0 (by omega)
  rwa [← List.range_eq_range'] at h
/-- The same where all places are as they ought to be, .. -/
theorem ok_loop {α : Type} {g : Nat → Nat → Option α} (N : Nat) (ok : Nat → Bool) {r : α} (h : (List.range N).all ok = true) (hs : ∀ j r, j < N → ok j = true → Ev (fun k => g k (j + 1)) r → Ev (fun k => g k j) r)
    (he : Ev (fun k => g k N) r) : Ev (fun k => g k 0) r :=
  loop N (fun j hj hn => hs j r hj (List.all_eq_true.1 h j (List.mem_range.2 hj)) hn) he
/-- .. and where one isn't: the first that isn't decides. -/
theorem bad_loop {α : Type} {g : Nat → Nat → Option α} (N : Nat) (ok : Nat → Bool) (r : α) (h : ¬ (List.range N).all ok = true) (hs : ∀ j r, j < N → ok j = true → Ev (fun k => g k (j + 1)) r → Ev (fun k => g k j) r)
    (hf : ∀ j, j < N → ok j = false → Ev (fun k => g k j) r) : Ev (fun k => g k 0) r := by
  have : ∀ d j, j + d = N → ¬ (List.range' j d).all ok = true → Ev (fun k => g k j) r := by
    intro d
    induction d with
    | zero => exact fun j _ hn => absurd rfl hn
    | succ d ih =>
      intro j hj hn
      rw [List.range'_succ, List.all_cons] at hn
      cases ho : ok j with
      | true => exact hs j _ (by omega) ho (ih (j + 1) (by omega) (by simpa [ho] using hn))
      | false => exact hf j (by omega) ho
  exact this N 0 (by omega) (by rwa [← List.range_eq_range'])
/-- n numbers from a on. -/
def iota (a : Int) (n : Nat) : List Int := (List.range n).map fun (i : Nat) => a + (i : Int)
theorem iota_length (a : Int) (n : Nat) : (iota a n).length = n := by simp [iota]
theorem iota_get (a : Int) (n j : Nat) (h : j < n) : rd (iota a n) (j : Int) = a + j := by simp [rd, iota, h]
theorem iota_set (a : Int) (l : List Int) (j : Nat) (h : j < l.length) : (iota a j ++ l.drop j).set j (a + j) = iota a (j + 1) ++ l.drop (j + 1) := by
  rw [List.set_append_right _ _ (by rw [iota_length]; exact Nat.le_refl _), iota_length, Nat.sub_self, List.drop_eq_getElem_cons h, List.set_cons_zero]
  have : iota a (j + 1) = iota a j ++ [a + j] := by simp [iota, List.range_succ]
  rw [this]
  simp
end Go.Proofs.Ytgpoajmifhmboaa.Aid
end

section
namespace Go.Proofs.Ytgpoajmifhmboaa.Opens
open Go.ChangeShapes Go.WideShapes Go.RowKit Go.Proofs.YtgpoajmifhmboaaW.PrintWords Go.Proofs.Ytgpoajmifhmboaa.Aid
set_option linter.unusedVariables false

/-- Whatever can be read as data of type t is of kind kd, and meets WF. -/
def Opens {α : Type} (P : Program) (t : TypeId) (kd : Kd α) (WF : α → Prop) : Prop :=
  P.cellsOf t = kd.sz ∧ ∀ (H : Type) (enc : TypeId × Value → H) (w : World) (base : Nat) (spare : Nat → Bool) (held : Bool) (fuel : Nat) (cs : List Value) (d : DataW H) (ps : List MemPlace),
    DataW.trod enc P w base spare held fuel t cs = some (d, ps) → (∀ n ∈ d.weights P t, n ≤ reachBytes) → ∃ x, kd.K w x cs ∧ WF x

theorem opens_int {P : Program} {t : TypeId} (ht : P.underlying t = some (.int .i64)) (hc : P.cellsOf t = 1) : Opens P t (Kd.int .i64) I64 := by
  refine ⟨hc, fun H enc w base spare held fuel cs d ps h _ => ?_⟩
  obtain ⟨n, rfl, _, hw⟩ := DataW.trod_int ht h
  exact ⟨n, rfl, i64_of hw⟩

/-- The same of bytes. -/
theorem opens_u8 {P : Program} {t : TypeId} (ht : P.underlying t = some (.int .u8)) (hc : P.cellsOf t = 1) : Opens P t (Kd.int .u8) U8 := by
  refine ⟨hc, fun H enc w base spare held fuel cs d ps h _ => ?_⟩
  obtain ⟨n, rfl, _, hw⟩ := DataW.trod_int ht h
  exact ⟨n, rfl, u8_of hw⟩

theorem opens_bool {P : Program} {t : TypeId} (ht : P.underlying t = some .bool) (hc : P.cellsOf t = 1) : Opens P t Kd.bool (fun _ => True) := by
  refine ⟨hc, fun H enc w base spare held fuel cs d ps h _ => ?_⟩
  obtain ⟨b, rfl, _⟩ := DataW.trod_bool ht h
  exact ⟨b, rfl, trivial⟩

theorem weights_elem {H : Type} {P : Program} {e : TypeId} {n : Nat} : ∀ {ds : List (DataW H)} {d : DataW H}, d ∈ ds → n ∈ d.weights P e → n ∈ DataW.weightsAll P e ds
  | [], _, h, _ => by simp at h
  | d0 :: r, d, h, hn => by
    rw [DataW.weightsAll]
    rcases List.mem_cons.1 h with rfl | h
    · exact List.mem_append_left _ hn
    · exact List.mem_append_right _ (weights_elem h hn)

theorem choose_list {α : Type} {n : Nat} {Q : Nat → α → Prop} (h : ∀ i, i < n → ∃ x, Q i x) : ∃ xs : List α, xs.length = n ∧ ∀ i x, xs[i]? = some x → Q i x := by
  induction n with
  | zero => exact ⟨[], rfl, fun i x hx => by simp at hx⟩
  | succ n ih =>
    obtain ⟨xs, hl, hx⟩ := ih (fun i hi => h i (by omega))
    obtain ⟨y, hy⟩ := h n (by omega)
    refine ⟨xs ++ [y], by simp [hl], fun i x hi => ?_⟩
    by_cases hlt : i < n
    · rw [List.getElem?_append_left (by omega)] at hi
      exact hx i x hi
    · have hl2 := (List.getElem?_eq_some_iff.1 hi).1
      simp at hl2
      have : i = n := by omega
      subst this
      rw [List.getElem?_append_right (by omega)] at hi
      simp [hl] at hi
      exact hi ▸ hy

theorem opens_slice {α : Type} {P : Program} {t e : TypeId} {kd : Kd α} {WF : α → Prop} (ht : P.underlying t = some (.slice e)) (hc : P.cellsOf t = 1) {B : Nat} (hB : P.bytesOf e = B) (he : Opens P e kd WF) :
    Opens P t (Kd.slice e kd) (wfS B WF) := by
  subst hB
  refine ⟨hc, fun H enc w base spare held fuel cs d ps h hw => ?_⟩
  rcases DataW.trod_slice ht h with ⟨rfl, _⟩ | ⟨a, len, cap, elems, rest, n, _, rfl, hx, hb, hl, hm, hlen, hel, _, _⟩
  · exact ⟨[], ⟨none, 0, rfl, Nat.le_refl _, ⟨rfl, by simp, fun h => absurd h (by simp)⟩⟩, by simp [maxLen], by simp, by simp⟩
  · simp only [Prod.mk.injEq] at hx
    obtain ⟨rfl, _⟩ := hx
    have each : ∀ i, i < len → ∃ x, (∃ c, c.length = kd.sz ∧ kd.K w x c ∧ ∀ j u, c[j]? = some u → w.cell? (a.add (i * kd.sz + j)) = some u) ∧ WF x := by
      intro i hi
      have h1 := hel i hi
      have h2 : i < elems.length := by omega
      rw [List.getElem?_eq_getElem h2] at h1
      obtain ⟨c, hc1, hc2⟩ := Option.bind_eq_some_iff.1 h1
      obtain ⟨_, hcl, hcc⟩ := World.cells?_some hc1
      obtain ⟨x, hx1, hx2⟩ := he.2 H enc w base spare held n c elems[i].1 elems[i].2 hc2 (fun m hm' => hw m (by
        rw [DataW.weights, ht]
        simp only [List.mem_cons, List.mem_append]
        exact .inr (.inl (weights_elem (List.mem_map.2 ⟨elems[i], List.getElem_mem h2, rfl⟩) hm'))))
      refine ⟨x, ⟨c, by rw [hcl, he.1], hx1, fun j u hj => ?_⟩, hx2⟩
      have hj2 := (List.getElem?_eq_some_iff.1 hj).1
      have := hcc j (by omega)
      rw [hj, he.1] at this
      rw [← this, Addr.add_add]
    obtain ⟨xs, hxl, hxs⟩ := choose_list each
    subst hxl
    refine ⟨xs, ⟨some a, cap, rfl, hl, ⟨rfl, by simp [maxLen] at hm; omega, fun _ => ⟨a, rfl, fun j p hj => ?_⟩⟩⟩, by omega, ?_, fun x hx => ?_⟩
    · exact (hxs j p hj).1
    · have := hw ((elems.length + rest.length) * P.bytesOf e) (by rw [DataW.weights, ht]; simp)
      exact Nat.le_trans (Nat.mul_le_mul_right _ (by omega)) this
    · obtain ⟨i, hi⟩ := List.getElem?_of_mem hx
      exact (hxs i x hi).2

/-- The same of a struct's fields from one on, which begins at cell off. -/
def OpensF {α : Type} (P : Program) (fs : List Field) (off : Nat) (kd : Kd α) (WF : α → Prop) : Prop :=
  ∀ (H : Type) (enc : TypeId × Value → H) (w : World) (base : Nat) (spare : Nat → Bool) (held : Bool) (fuel : Nat) (cs : List Value) (ys : List (DataW H × List MemPlace)),
    cs.length = off + kd.sz → ys.length = fs.length → (∀ (i : Nat) (f : Field), fs[i]? = some f → DataW.trod enc P w base spare held fuel f.type ((cs.drop f.offset).take (P.cellsOf f.type)) = ys[i]?) →
    (∀ n ∈ DataW.weightsEach P (fs.map (·.type)) (ys.map (·.1)), n ≤ reachBytes) → ∃ x, kd.K w x (cs.drop off) ∧ WF x

theorem opensF_last {α : Type} {P : Program} {f : Field} {off : Nat} {kd : Kd α} {WF : α → Prop} (ho : f.offset = off) (h : Opens P f.type kd WF) : OpensF P [f] off kd WF := by
  intro H enc w base spare held fuel cs ys hcs hys hf hw
  match ys, hys with
  | [y], _ =>
    have h1 := hf 0 f rfl
    rw [ho, h.1, List.take_of_length_le (by simp; omega)] at h1
    exact h.2 H enc w base spare held fuel _ y.1 y.2 h1 (fun n hn => hw n (by simp [DataW.weightsEach, hn]))

theorem opensF_cons {α β : Type} {P : Program} {f : Field} {fs : List Field} {off : Nat} {kd : Kd α} {kr : Kd β} {WF : α → Prop} {WR : β → Prop} (ho : f.offset = off) (h : Opens P f.type kd WF)
    (hr : OpensF P fs (off + kd.sz) kr WR) : OpensF P (f :: fs) off (Kd.pair kd kr) (fun x => WF x.1 ∧ WR x.2) := by
  intro H enc w base spare held fuel cs ys hcs hys hf hw
  match ys, hys with
  | y :: ys, hys =>
    have h1 := hf 0 f rfl
    rw [ho, h.1] at h1
    obtain ⟨x, hx1, hx2⟩ := h.2 H enc w base spare held fuel _ y.1 y.2 h1 (fun n hn => hw n (by simp [DataW.weightsEach, hn]))
    have hs : (Kd.pair kd kr).sz = kd.sz + kr.sz := rfl
    obtain ⟨z, hz1, hz2⟩ := hr H enc w base spare held fuel cs ys (by omega) (by simpa using hys) (fun i g hg => hf (i + 1) g hg) (fun n hn => hw n (by simp [DataW.weightsEach]; exact .inr (by simpa using hn)))
    refine ⟨(x, z), ⟨_, _, ?_, hx1, hz1⟩, hx2, hz2⟩
    rw [← List.drop_drop, List.take_append_drop]

theorem opens_struct {α β : Type} {P : Program} {t : TypeId} {fs : Array Field} {kd : Kd α} {WF : α → Prop} (f : β → α) (g : α → β) (hg : ∀ x, f (g x) = x) (ht : P.underlying t = some (.struct fs)) (hc : P.cellsOf t = kd.sz)
    (h : OpensF P fs.toList 0 kd WF) : Opens P t (Kd.iso kd f) (fun x => WF (f x)) := by
  refine ⟨hc, fun H enc w base spare held fuel cs d ps hd hw => ?_⟩
  obtain ⟨xs, n, _, hx, hl, hxl, hf⟩ := DataW.trod_struct ht hd
  simp only [Prod.mk.injEq] at hx
  obtain ⟨rfl, _⟩ := hx
  obtain ⟨y, hy1, hy2⟩ := h H enc w base spare held n cs xs (by omega) (by simpa using hxl) (fun i f' hf' => hf i f' (by simpa using hf')) (fun m hm => hw m (by rw [DataW.weights, ht]; simpa using hm))
  refine ⟨g y, ?_, ?_⟩
  · show kd.K w (f (g y)) cs
    rw [hg]
    simpa using hy1
  · show WF (f (g y))
    rw [hg]
    exact hy2

/-- An argument, opened. -/
theorem opens_arg {α : Type} {H : Type} {enc : TypeId × Value → H} {P : Program} {w : World} {base : Nat} {spare : Nat → Bool} {held : Bool} {t : TypeId} {v : Value} {kd : Kd α} {WF : α → Prop} {d : DataW H} {ps : List MemPlace} (h : Opens P t kd WF)
    {ts : List TypeId} {ds : List (DataW H)} {j : Nat} (hsz : (DataW.weightsEach P ts ds).all (· ≤ reachBytes) = true) (ht : ts[j]? = some t) (hd : ds[j]? = some d) (hv : DataW.Trod enc P w base spare held t v d ps) :
    ∃ x, kd.K w x v.cells.toList ∧ WF x := by
  obtain ⟨fuel, hf⟩ := hv
  refine h.2 H enc w base spare held fuel _ d ps hf (fun n hn => ?_)
  have := List.all_eq_true.1 hsz n (DataW.weights_mem_each ht hd n hn)
  simpa using this

/-- A slice argument: its address, its capacity, its row. -/
theorem opens_row {α : Type} {P : Program} {w : World} {t e : TypeId} {r : Reach} {b0 : Nat} {v : Value} {kd : Kd α} {x : List α} (ht : P.underlying t = some (.slice e)) (hval : Value.okWide P w r b0 t v) (h : (Kd.slice e kd).K w x v.cells.toList) :
    ∃ A c, v = .slice A x.length c ∧ x.length ≤ c ∧ Kd.C kd w A x.length x := by
  obtain ⟨a, len, cap, rfl⟩ := okWide_slice ht hval
  obtain ⟨A, c, hv, hl, hC⟩ := h
  simp [Value.cells] at hv
  obtain ⟨rfl, rfl, rfl⟩ := hv
  exact ⟨_, _, rfl, hl, hC⟩

/-- A struct argument by value: its cells. -/
theorem opens_agg {P : Program} {w : World} {t : TypeId} {fs : Array Field} {r : Reach} {b0 : Nat} {v : Value} {cs : List Value} (ht : P.underlying t = some (.struct fs)) (hval : Value.okWide P w r b0 t v) (h : v.cells.toList = cs) :
    v = .agg cs.toArray := by
  obtain ⟨c, rfl, _⟩ := okWide_struct ht hval
  simp [Value.cells] at h
  simp [← h]

end Go.Proofs.Ytgpoajmifhmboaa.Opens
end

section
namespace Go.Proofs.Ytgpoajmifhmboaa.PureFnCompared
open Go.RowKit Go.Proofs.YtgpoajmifhmboaaW.PrintWords Go.Proofs.YtgpoajmifhmboaaW.PrintLast Go.Proofs.YtgpoajmifhmboaaW.PrintMore Go.Proofs.Ytgpoajmifhmboaa.PCmp Go.Proofs.Ytgpoajmifhmboaa.Aid
set_option linter.unusedVariables false
set_option linter.unusedSimpArgs false


theorem slices_Index_int_int_ev (l : List Int) (a : Int) (hl : l.length ≤ 9223372036854775806) : ∃ r, Ev (fun k => slices_Index_int_int.f k l a) r ∧ (r ≥ 0 ↔ a ∈ l) := by
  unfold slices_Index_int_int.f
  have : ∀ d j, j + d = l.length → ∃ r, Ev (fun k => slices_Index_int_int.l0 k l a (l.length : Int) (j : Int)) r ∧ (r ≥ 0 ↔ a ∈ l.drop j) := by
    intro d
    induction d with
    | zero =>
      intro j hj
      refine ⟨-1, shift ?_, by rw [List.drop_eq_nil_of_le (by omega)]; simp⟩
      simp only [slices_Index_int_int.l0]
      exact neg (by omega) (now rfl)
    | succ d ih =>
      intro j hj
      have hjl : j < l.length := by omega
      by_cases h : a = l[j]
      · refine ⟨(j : Int), shift ?_, ⟨fun _ => by rw [List.drop_eq_getElem_cons hjl, h]; exact List.mem_cons_self, fun _ => by omega⟩⟩
        simp only [slices_Index_int_int.l0]
        rw [rd_get l j hjl]
        exact pos (nat_lt hjl) (pos (by omega) (pos (nat_lt hjl) (pos h (now rfl))))
      · obtain ⟨r, h1, h2⟩ := ih (j + 1) (by omega)
        refine ⟨r, shift ?_, by rw [h2, List.drop_eq_getElem_cons hjl, List.mem_cons]; exact ⟨.inr, fun g => g.resolve_left h⟩⟩
        simp only [slices_Index_int_int.l0]
        rw [rd_get l j hjl, succ_wrap (by omega)]
        exact pos (nat_lt hjl) (pos (by omega) (pos (nat_lt hjl) (neg h h1)))
  simpa using this l.length 0 (by omega)

theorem slices_Contains_int_int_ev (l : List Int) (a : Int) (hl : l.length ≤ 9223372036854775806) : Ev (fun k => slices_Contains_int_int.f k l a) (decide (a ∈ l)) := by
  unfold slices_Contains_int_int.f
  obtain ⟨r, h1, h2⟩ := slices_Index_int_int_ev l a hl
  exact Ev.bind h1 (now (decide_eq_decide.2 h2))

theorem laws_big_eq (l : List Int) : laws_big.f l = some (decide ((l.length : Int) > 1048576)) := rfl

theorem spec_l1New_ev (l : List Int) : ∃ s, Ev (fun k => spec_l1New.f k l) (l, 0, s) := by
  unfold spec_l1New.f
  have : ∀ d j s, j + d = l.length → (j : Nat) ≤ 4000 → ∃ s2, Ev (fun k => spec_l1New.l0 k l s (j : Int)) (l, 0, s2) := by
    intro d
    induction d with
    | zero =>
      intro j s hj _
      refine ⟨s, shift ?_⟩
      simp only [spec_l1New.l0]
      exact neg (by omega) (now rfl)
    | succ d ih =>
      intro j s hj hk
      by_cases h : j < 4000
      · obtain ⟨s2, h2⟩ := ih (j + 1) (Go.bits .and .i64 (wrap64 ((wrap64 ((wrap64 (s * 137)) + (wrap64 (rd l j)))) + 11)) 1073741823) (by omega) (by omega)
        refine ⟨s2, shift ?_⟩
        simp only [spec_l1New.l0]
        rw [succ_wrap (by omega)]
        exact pos (by omega) (pos (by omega) (pos (by omega) h2))
      · refine ⟨s, shift ?_⟩
        simp only [spec_l1New.l0]
        exact pos (by omega) (neg (by omega) (now rfl))
  exact this l.length 0 _ (by omega) (by omega)

theorem spec_l1In_eq (a b c : Int) : spec_l1In.f a b c = some (decide (b ≤ a ∧ a ≤ c)) := by
  unfold spec_l1In.f
  by_cases h : b ≤ a
  · rw [if_pos h]
    simp [h]
  · rw [if_neg h]
    simp [h]

/-- A path's number, kind, and ends are in their ranges, and it crosses on foot just where its ends are the same. -/
def isPath (a b c d : Int) : Bool := decide (1 ≤ a ∧ a ≤ 20) && (decide (1 ≤ b ∧ b ≤ 3) && (decide (0 ≤ c ∧ c ≤ 3) && (decide (0 ≤ d ∧ d ≤ 3) && ((c == d) == (b == 2)))))
theorem spec_IsPath_eq (a b c d : Int) : spec_IsPath.f a b c d = some (isPath a b c d) := by
  unfold spec_IsPath.f isPath
  simp only [spec_l1In_eq, Option.bind_some]
  by_cases h1 : 1 ≤ a ∧ a ≤ 20 <;> by_cases h2 : 1 ≤ b ∧ b ≤ 3 <;> by_cases h3 : 0 ≤ c ∧ c ≤ 3 <;> by_cases h4 : 0 ≤ d ∧ d ≤ 3 <;> simp [h1, h2, h3, h4]

def pathAt (l : List S73) (j : Nat) : Bool := isPath (rd_T73 l j).f0 (rd_T73 l j).f1 (rd_T73 l j).f2 (rd_T73 l j).f3 && decide (0 < j → (rd_T73 l ((j : Int) - 1)).f0 < (rd_T73 l j).f0)
def arePaths (l : List S73) : Bool := (List.range l.length).all (pathAt l) && decide (l.length ≤ 12)
theorem spec_ArePaths_ev (l : List S73) (hl : l.length ≤ 9223372036854775806) : Ev (fun k => spec_ArePaths.f k l) (arePaths l) := by
  unfold spec_ArePaths.f arePaths
  refine all_loop (g := fun k j => spec_ArePaths.l0 k l (j : Int)) l.length (pathAt l) _ ?_ ?_ ?_
  · intro j r hj ok h
    simp only [pathAt, Bool.and_eq_true, decide_eq_true_eq] at ok
    refine shift ?_
    simp only [spec_ArePaths.l0]
    refine pos (nat_lt hj) (pos (by omega) (bindc (spec_IsPath_eq _ _ _ _) (pos ok.1 ?_)))
    rw [succ_wrap (by omega)]
    by_cases h0 : (j : Int) > 0
    · rw [w64 (by omega) (by omega)]
      exact pos h0 (pos (by omega) (pos (by omega) (neg (by have := ok.2 (by omega); omega) h)))
    · exact neg h0 h
  · intro j hj ok
    refine shift ?_
    simp only [spec_ArePaths.l0]
    refine pos (nat_lt hj) (pos (by omega) (bindc (spec_IsPath_eq _ _ _ _) ?_))
    by_cases h1 : isPath (rd_T73 l j).f0 (rd_T73 l j).f1 (rd_T73 l j).f2 (rd_T73 l j).f3 = true
    · refine pos h1 ?_
      have h2 : ¬ (0 < j → (rd_T73 l ((j : Int) - 1)).f0 < (rd_T73 l j).f0) := by simpa [pathAt, h1] using ok
      rw [w64 (x := (j : Int) - 1) (by omega) (by omega)]
      exact pos (by omega) (pos (by omega) (pos (by omega) (pos (by omega) (now rfl))))
    · exact neg h1 (now rfl)
  · refine shift ?_
    simp only [spec_ArePaths.l0]
    refine neg (nat_ge (Nat.le_refl _)) (now ?_)
    exact decide_eq_decide.2 (by omega)

theorem spec_l6Has_ev (l : List Int) (a : Int) (hl : l.length ≤ 9223372036854775806) : Ev (fun k => spec_l6Has.f k l a) (decide (a ∈ l)) := by
  unfold spec_l6Has.f
  have : ∀ d j, j + d = l.length → Ev (fun k => spec_l6Has.l0 k l a (j : Int)) (decide (a ∈ l.drop j)) := by
    intro d
    induction d with
    | zero =>
      intro j hj
      refine shift ?_
      simp only [spec_l6Has.l0]
      exact neg (by omega) (now (by rw [List.drop_eq_nil_of_le (by omega)]; simp))
    | succ d ih =>
      intro j hj
      have hjl : j < l.length := by omega
      refine shift ?_
      simp only [spec_l6Has.l0]
      rw [List.drop_eq_getElem_cons hjl, rd_get l j hjl]
      refine pos (nat_lt hjl) (pos (by omega) ?_)
      by_cases h : l[j] = a
      · exact pos h (now (by simp [h]))
      · refine neg h ?_
        rw [succ_wrap (by omega)]
        have e : decide (a ∈ l[j] :: l.drop (j + 1)) = decide (a ∈ l.drop (j + 1)) := decide_eq_decide.2 ⟨fun g => (List.mem_cons.1 g).resolve_left (fun x => h x.symm), fun g => List.mem_cons_of_mem _ g⟩
        rw [e]
        exact ih (j + 1) (by omega)
  simpa using this l.length 0 (by omega)

theorem spec_l6Put_ev (l : List Int) (a : Int) (hl : l.length ≤ 1048576) : ∃ r, Ev (fun k => spec_l6Put.f k l a) r ∧ (∀ s, s ∈ r ↔ s ∈ l ∨ s = a) ∧ r.length ≤ l.length + 1 := by
  unfold spec_l6Put.f
  have split : ∀ (j : Nat) s, s ∈ l.take j ++ [a] ++ l.drop j ↔ s ∈ l ∨ s = a := by
    intro j s
    have e : s ∈ l ↔ s ∈ l.take j ∨ s ∈ l.drop j := by rw [← List.mem_append, List.take_append_drop]
    simp only [List.mem_append, List.mem_singleton, e]
    constructor
    · rintro ((h | h) | h)
      · exact .inl (.inl h)
      · exact .inr h
      · exact .inl (.inr h)
    · rintro ((h | h) | h)
      · exact .inl (.inl h)
      · exact .inr h
      · exact .inl (.inr h)
  have : ∀ d j, j + d = l.length → ∃ r, Ev (fun k => spec_l6Put.l0 k l a (j : Int)) r ∧ (∀ s, s ∈ r ↔ s ∈ l ∨ s = a) ∧ r.length ≤ l.length + 1 := by
    intro d
    induction d with
    | zero =>
      intro j hj
      refine ⟨l.take j ++ [a] ++ l.drop j, shift ?_, split j, by simp; omega⟩
      simp only [spec_l6Put.l0, Option.bind_some, List.nil_append, Int.toNat_natCast]
      exact neg (by omega) (pos (by omega) (pos (by omega) (pos (by simp; omega) (pos (by simp; omega) (pos (by simp; omega) (now rfl))))))
    | succ d ih =>
      intro j hj
      have hjl : j < l.length := by omega
      by_cases h1 : l[j] < a
      · obtain ⟨r, h, h2, h3⟩ := ih (j + 1) (by omega)
        refine ⟨r, shift ?_, h2, h3⟩
        simp only [spec_l6Put.l0]
        rw [rd_get l j hjl, succ_wrap (by omega)]
        exact pos (nat_lt hjl) (pos (by omega) (pos h1 h))
      · by_cases h2 : l[j] = a
        · refine ⟨l, shift ?_, fun s => ⟨.inl, fun g => g.elim id (fun e => by rw [e, ← h2]; exact List.getElem_mem hjl)⟩, by omega⟩
          simp only [spec_l6Put.l0, Option.bind_some, List.nil_append]
          rw [rd_get l j hjl]
          exact pos (nat_lt hjl) (pos (by omega) (neg h1 (pos h2 (pos (by simp; omega) (now rfl)))))
        · refine ⟨l.take j ++ [a] ++ l.drop j, shift ?_, split j, by simp; omega⟩
          simp only [spec_l6Put.l0, Option.bind_some, List.nil_append, Int.toNat_natCast]
          rw [rd_get l j hjl]
          exact pos (nat_lt hjl) (pos (by omega) (neg h1 (neg h2 (pos (by omega) (pos (by simp; omega) (pos (by simp; omega) (pos (by simp; omega) (now rfl))))))))
  exact this l.length 0 (by omega)

theorem impl_FindPath_eq (l : List S73) (a : Int) : impl_FindPath.f l a = some (impl_FindPath.from_ a l 0) := rfl
theorem findPath_range (a : Int) : ∀ (l : List S73) (i : Int), impl_FindPath.from_ a l i = -1 ∨ (i ≤ impl_FindPath.from_ a l i ∧ impl_FindPath.from_ a l i < i + l.length)
  | [], _ => .inl rfl
  | x :: r, i => by
    have := findPath_range a r (i + 1)
    simp only [impl_FindPath.from_, List.length_cons]
    split <;> omega

theorem spec_FindPath_ev (l : List S73) (a : Int) (hl : l.length ≤ 9223372036854775806) : Ev (fun k => spec_FindPath.f k l a) (impl_FindPath.from_ a l 0) := by
  unfold spec_FindPath.f
  have : ∀ d j, j + d = l.length → Ev (fun k => spec_FindPath.l0 k l a (j : Int)) (impl_FindPath.from_ a (l.drop j) (j : Int)) := by
    intro d
    induction d with
    | zero =>
      intro j hj
      refine shift ?_
      simp only [spec_FindPath.l0]
      exact neg (by omega) (now (by rw [List.drop_eq_nil_of_le (by omega)]; rfl))
    | succ d ih =>
      intro j hj
      have hjl : j < l.length := by omega
      have hg : rd_T73 l (j : Int) = l[j] := by simp [rd_T73, hjl]
      refine shift ?_
      simp only [spec_FindPath.l0]
      rw [List.drop_eq_getElem_cons hjl, hg, impl_FindPath.from_]
      refine pos (nat_lt hjl) (pos (by omega) ?_)
      by_cases h : l[j].f0 = a
      · exact pos h (now (by simp [h]))
      · refine neg h ?_
        rw [succ_wrap (by omega), if_neg (by simpa using h)]
        exact ih (j + 1) (by omega)
  simpa using this l.length 0 (by omega)

/-- The two ways cross: one's places lie on both sides of the other's. -/
def interB (a b c d : Int) : Bool := (decide (Int.tmod (c - a + 8) 8 < Int.tmod (b - a + 8) 8)) != (decide (Int.tmod (d - a + 8) 8 < Int.tmod (b - a + 8) 8))
theorem four_of {a : Int} (h : 0 ≤ a ∧ a ≤ 3) : a = 0 ∨ a = 1 ∨ a = 2 ∨ a = 3 := by omega
set_option maxRecDepth 10000 in
theorem spec_Interleave_ev (a b c d : Int) (ha : 0 ≤ a ∧ a ≤ 3) (hb : 0 ≤ b ∧ b ≤ 3) (hc : 0 ≤ c ∧ c ≤ 3) (hd : 0 ≤ d ∧ d ≤ 3) (hac : a ≠ c) (hbd : b ≠ d) : Ev (fun k => spec_Interleave.f k (2 * a) (2 * b + 1) (2 * c) (2 * d + 1)) (interB (2 * a) (2 * b + 1) (2 * c) (2 * d + 1)) := by
  refine ⟨40, fun k hk => ?_⟩
  obtain ⟨m, rfl⟩ := Nat.exists_eq_add_of_le' hk
  rcases four_of ha with rfl | rfl | rfl | rfl <;> rcases four_of hb with rfl | rfl | rfl | rfl <;> rcases four_of hc with rfl | rfl | rfl | rfl <;> rcases four_of hd with rfl | rfl | rfl | rfl <;> first | exact absurd rfl hac | exact absurd rfl hbd | (show spec_Interleave.f (m + 40) _ _ _ _ = some _; kernel_rfl)

theorem spec_InPlace_eq (a : Int) (h : 0 ≤ a ∧ a ≤ 3) : spec_InPlace.f a = some (2 * a) := by
  unfold spec_InPlace.f
  rw [spec_l1In_eq, Option.bind_some, if_pos (by simpa using h), w64 (by omega) (by omega)]

theorem spec_OutPlace_eq (a : Int) (h : 0 ≤ a ∧ a ≤ 3) : spec_OutPlace.f a = some (2 * a + 1) := by
  unfold spec_OutPlace.f
  rw [spec_l1In_eq, Option.bind_some, if_pos (by simpa using h), w64 (x := 2 * a) (by omega) (by omega), w64 (by omega) (by omega)]

theorem isPath_iff (a b c d : Int) : isPath a b c d = true ↔ (1 ≤ a ∧ a ≤ 20) ∧ (1 ≤ b ∧ b ≤ 3) ∧ (0 ≤ c ∧ c ≤ 3) ∧ (0 ≤ d ∧ d ≤ 3) ∧ ((c == d) == (b == 2)) = true := by simp only [isPath, Bool.and_eq_true, decide_eq_true_eq]
def confl (a1 a2 a3 b1 b2 b3 : Int) : Bool := if a1 = 2 then (b2 == a2 || b3 == a2) else if b1 = 2 then (a2 == b2 || a3 == b2) else if a2 = b2 then false else if a3 = b3 then true else interB (2 * a2) (2 * a3 + 1) (2 * b2) (2 * b3 + 1)
def conflict (a0 a1 a2 a3 b0 b1 b2 b3 : Int) : Bool := if isPath a0 a1 a2 a3 = true ∧ isPath b0 b1 b2 b3 = true ∧ ¬ (a1 = 2 ∧ b1 = 2) then confl a1 a2 a3 b1 b2 b3 else false
theorem spec_Conflict_ev (a0 a1 a2 a3 b0 b1 b2 b3 : Int) : Ev (fun k => spec_Conflict.f k a0 a1 a2 a3 b0 b1 b2 b3) (conflict a0 a1 a2 a3 b0 b1 b2 b3) := by
  have yes : Ev (fun k => spec_Conflict.j0 k true a0 a1 a2 a3 b0 b1 b2 b3) false := by
    refine shift ?_
    simp only [spec_Conflict.j0]
    exact pos trivial (now rfl)
  have no : isPath a0 a1 a2 a3 = true → isPath b0 b1 b2 b3 = true → Ev (fun k => spec_Conflict.j0 k false a0 a1 a2 a3 b0 b1 b2 b3) (confl a1 a2 a3 b1 b2 b3) := by
    intro h1 h2
    have h1 := (isPath_iff _ _ _ _).1 h1
    have h2 := (isPath_iff _ _ _ _).1 h2
    refine shift ?_
    simp only [spec_Conflict.j0]
    refine neg (by simp) ?_
    unfold confl
    by_cases c1 : a1 = 2
    · rw [if_pos c1]
      refine pos c1 ?_
      by_cases c2 : b2 = a2
      · exact pos c2 (now (by simp [c2]))
      · exact neg c2 (now (by simp [c2]))
    · rw [if_neg c1]
      refine neg c1 ?_
      by_cases c2 : b1 = 2
      · rw [if_pos c2]
        refine pos c2 ?_
        by_cases c3 : a2 = b2
        · exact pos c3 (now (by simp [c3]))
        · exact neg c3 (now (by simp [c3]))
      · rw [if_neg c2]
        refine neg c2 ?_
        by_cases c3 : a2 = b2
        · rw [if_pos c3]
          exact pos c3 (now rfl)
        · rw [if_neg c3]
          refine neg c3 ?_
          by_cases c4 : a3 = b3
          · rw [if_pos c4]
            exact pos c4 (now rfl)
          · rw [if_neg c4]
            exact neg c4 (bindc (spec_InPlace_eq _ h1.2.2.1) (bindc (spec_OutPlace_eq _ h1.2.2.2.1) (bindc (spec_InPlace_eq _ h2.2.2.1) (bindc (spec_OutPlace_eq _ h2.2.2.2.1) (Ev.bind (spec_Interleave_ev _ _ _ _ h1.2.2.1 h1.2.2.2.1 h2.2.2.1 h2.2.2.2.1 c3 c4) (now rfl))))))
  unfold spec_Conflict.f conflict
  refine bindc (spec_IsPath_eq _ _ _ _) ?_
  by_cases h1 : isPath a0 a1 a2 a3 = true
  · refine pos h1 (bindc (spec_IsPath_eq _ _ _ _) ?_)
    by_cases h2 : isPath b0 b1 b2 b3 = true
    · refine pos h2 ?_
      by_cases c1 : a1 = 2
      · refine pos c1 ?_
        by_cases c2 : b1 = 2
        · rw [if_neg (fun g => g.2.2 ⟨c1, c2⟩), show (b1 == 2) = true by simp [c2]]
          exact yes
        · rw [if_pos ⟨h1, h2, fun g => c2 g.2⟩, show (b1 == 2) = false by simp [c2]]
          exact no h1 h2
      · rw [if_pos ⟨h1, h2, fun g => c1 g.1⟩]
        exact neg c1 (no h1 h2)
    · rw [if_neg (fun g => h2 g.2.1)]
      exact neg h2 yes
  · rw [if_neg (fun g => h1 g.1)]
    exact neg h1 yes

/-- As all_loop, with what the earlier places are known to be. -/
theorem all_loopI {g : Nat → Nat → Option Bool} (N : Nat) (ok : Nat → Bool) (b : Bool) (hs : ∀ j r, j < N → (∀ i, i ≤ j → ok i = true) → Ev (fun k => g k (j + 1)) r → Ev (fun k => g k j) r)
    (hf : ∀ j, j < N → (∀ i, i < j → ok i = true) → ok j = false → Ev (fun k => g k j) false) (he : (∀ i, i < N → ok i = true) → Ev (fun k => g k N) b) : Ev (fun k => g k 0) ((List.range N).all ok && b) := by
  have : ∀ d j, j + d = N → (∀ i, i < j → ok i = true) → Ev (fun k => g k j) ((List.range' j d).all ok && b) := by
    intro d
    induction d with
    | zero =>
      intro j hj hb
      have : j = N := by omega
      subst this
      simpa using he hb
    | succ d ih =>
      intro j hj hb
      rw [List.range'_succ, List.all_cons]
      cases h : ok j with
      | true =>
        have hb2 : ∀ i, i < j + 1 → ok i = true := fun i hi => by
          by_cases e : i = j
          · rw [e]; exact h
          · exact hb i (by omega)
        simpa using hs j _ (by omega) (fun i hi => hb2 i (by omega)) (ih (j + 1) (by omega) hb2)
      | false => simpa using hf j (by omega) hb h
  have h := this N 0 (by omega) (fun i hi => by omega)
  rwa [← List.range_eq_range'] at h
theorem rd_take (xs : List Int) (j k : Nat) (h : k < j) : rd (xs.take j) (k : Int) = rd xs (k : Int) := by simp [rd, List.getD_eq_getElem?_getD, List.getElem?_take, h]
theorem take_len {α : Type} (xs : List α) (j : Nat) (h : j < xs.length) : (xs.take j).length = j := by rw [List.length_take]; omega
theorem take_snoc {α : Type} (xs : List α) (j : Nat) (h : j < xs.length) : xs.take (j + 1) = xs.take j ++ [xs[j]] := by rw [List.take_succ_eq_append_getElem h]

def clearOf (a b c d : Int) : Int := if isPath a b c d = true then (if b = 1 then 2 else if b = 3 then 3 else 5) else 0
theorem clearOf_le (a b c d : Int) : clearOf a b c d ≤ 5 := by
  unfold clearOf
  split
  · split
    · omega
    · split <;> omega
  · omega

def fp (l : List S73) (a : Int) : Int := impl_FindPath.from_ a l 0
theorem fp_range (l : List S73) (a : Int) : fp l a = -1 ∨ (0 ≤ fp l a ∧ fp l a < l.length) := by
  have := findPath_range a l 0
  unfold fp
  omega
theorem from_id (a : Int) : ∀ (l : List S73) (i : Nat), impl_FindPath.from_ a l i = -1 ∨ ∃ j : Nat, impl_FindPath.from_ a l i = ((i + j : Nat) : Int) ∧ (l.getD j z73).f0 = a
  | [], _ => .inl rfl
  | x :: r, i => by
    simp only [impl_FindPath.from_]
    by_cases h : x.f0 = a
    · rw [if_pos (by simp [h])]
      exact .inr ⟨0, by simp, by simp [h]⟩
    · rw [if_neg (by simp [h])]
      rcases from_id a r (i + 1) with e | ⟨j, e1, e2⟩
      · left
        have : ((i : Int) + 1) = ((i + 1 : Nat) : Int) := by omega
        rw [this]
        exact e
      · right
        refine ⟨j + 1, ?_, by simpa using e2⟩
        have : ((i : Int) + 1) = ((i + 1 : Nat) : Int) := by omega
        rw [this, e1]
        omega
theorem fp_id (l : List S73) (a : Int) (h : ¬ fp l a < 0) : (rd_T73 l (fp l a)).f0 = a := by
  unfold fp at h ⊢
  rcases from_id a l 0 with e | ⟨j, e1, e2⟩
  · rw [show ((0 : Nat) : Int) = 0 from rfl] at e
    omega
  · rw [show ((0 : Nat) : Int) = 0 from rfl] at e1
    rw [e1]
    simpa [rd_T73] using e2
def conP (x y : S73) : Bool := conflict x.f0 x.f1 x.f2 x.f3 y.f0 y.f1 y.f2 y.f3
def clrP (x : S73) : Int := clearOf x.f0 x.f1 x.f2 x.f3
theorem clrP_range (x : S73) : 0 ≤ clrP x ∧ clrP x ≤ 5 := by
  unfold clrP clearOf
  split
  · split
    · omega
    · split <;> omega
  · omega
def togPair (l : List S73) (ids : List Int) (i k : Nat) : Bool := !conP (rd_T73 l (fp l (rd ids i))) (rd_T73 l (fp l (rd ids k)))
def togHead (l : List S73) (ids : List Int) (i : Nat) : Bool := decide (¬ fp l (rd ids i) < 0 ∧ (0 < i → rd ids ((i : Int) - 1) < rd ids i))
def togAt (l : List S73) (ids : List Int) (i : Nat) : Bool := togHead l ids i && (List.range i).all (togPair l ids i)
def together (l : List S73) (ids : List Int) : Bool := (List.range ids.length).all (togAt l ids) && arePaths l
theorem togAt_found {l : List S73} {ids : List Int} {i : Nat} (h : togAt l ids i = true) : 0 ≤ fp l (rd ids i) ∧ fp l (rd ids i) < l.length := by
  simp only [togAt, togHead, Bool.and_eq_true, decide_eq_true_eq] at h
  have := fp_range l (rd ids i)
  omega
theorem together_found {l : List S73} {ids : List Int} (h : together l ids = true) (n : Int) (hn : n ∈ ids) : 0 ≤ fp l n ∧ fp l n < l.length := by
  simp only [together, Bool.and_eq_true] at h
  obtain ⟨i, hi, rfl⟩ := List.getElem_of_mem hn
  have := togAt_found (List.all_eq_true.1 h.1 i (List.mem_range.2 hi))
  rwa [rd_get ids i hi] at this

theorem spec_IsTogether_ev (l : List S73) (ids : List Int) (hl : l.length ≤ 1048576) (hi : ids.length ≤ 1048576) : Ev (fun k => spec_IsTogether.f k l ids) (together l ids) := by
  unfold spec_IsTogether.f together
  have find : ∀ n, Ev (fun k => spec_FindPath.f k l n) (fp l n) := fun n => spec_FindPath_ev l n (by omega)
  have yes : ∀ i x : Int, Ev (fun k => spec_IsTogether.j1 k l ids i x true) false := by
    intro i x
    refine shift ?_
    simp only [spec_IsTogether.j1]
    exact pos trivial (now rfl)
  have head : ∀ (j : Nat) (r : Bool), j < ids.length → togHead l ids j = true → Ev (fun k => spec_IsTogether.l1 k l ids (j : Int) (fp l (rd ids j)) 0) r → Ev (fun k => spec_IsTogether.l0 k l ids (j : Int)) r := by
    intro j r hj ok h
    simp only [togHead, decide_eq_true_eq] at ok
    have no : Ev (fun k => spec_IsTogether.j1 k l ids (j : Int) (fp l (rd ids j)) false) r := by
      refine shift ?_
      simp only [spec_IsTogether.j1]
      exact neg (by decide) h
    refine shift ?_
    simp only [spec_IsTogether.l0]
    refine pos (nat_lt hj) (pos (by omega) (Ev.bind (find _) (neg ok.1 ?_)))
    by_cases h0 : (j : Int) > 0
    · rw [w64 (x := (j : Int) - 1) (by omega) (by omega)]
      refine pos h0 (pos (by omega) (pos (by omega) ?_))
      rw [show decide (rd ids ((j : Int) - 1) ≥ rd ids (j : Int)) = false from decide_eq_false (by have := ok.2 (by omega); omega)]
      exact no
    · exact neg h0 no
  have good : ∀ (i j : Nat) (r : Bool), i < ids.length → (∀ q, q < i → 0 ≤ fp l (rd ids q) ∧ fp l (rd ids q) < l.length) → (0 ≤ fp l (rd ids i) ∧ fp l (rd ids i) < l.length) → j < i → togPair l ids i j = true →
      Ev (fun k => spec_IsTogether.l1 k l ids (i : Int) (fp l (rd ids i)) ((j + 1 : Nat) : Int)) r → Ev (fun k => spec_IsTogether.l1 k l ids (i : Int) (fp l (rd ids i)) (j : Int)) r := by
    intro i j r hil hq hf hj ok h
    have hf2 := hq j hj
    refine shift ?_
    simp only [spec_IsTogether.l1]
    rw [succ_wrap (by omega)]
    refine pos (nat_lt hj) (pos hf.1 (pos hf.2 (pos (by omega) (pos (by omega) (Ev.bind (find _) (pos hf2.1 (pos hf2.2 (Ev.bind (spec_Conflict_ev _ _ _ _ _ _ _ _) (neg ?_ h)))))))))
    simpa [togPair, conP] using ok
  have bad : ∀ (i j : Nat), i < ids.length → (∀ q, q < i → 0 ≤ fp l (rd ids q) ∧ fp l (rd ids q) < l.length) → (0 ≤ fp l (rd ids i) ∧ fp l (rd ids i) < l.length) → j < i → togPair l ids i j = false →
      Ev (fun k => spec_IsTogether.l1 k l ids (i : Int) (fp l (rd ids i)) (j : Int)) false := by
    intro i j hil hq hf hj ok
    have hf2 := hq j hj
    refine shift ?_
    simp only [spec_IsTogether.l1]
    refine pos (nat_lt hj) (pos hf.1 (pos hf.2 (pos (by omega) (pos (by omega) (Ev.bind (find _) (pos hf2.1 (pos hf2.2 (Ev.bind (spec_Conflict_ev _ _ _ _ _ _ _ _) (pos ?_ (now rfl))))))))))
    simpa [togPair, conP] using ok
  refine all_loopI (g := fun k j => spec_IsTogether.l0 k l ids (j : Int)) ids.length (togAt l ids) (arePaths l) ?_ ?_ ?_
  · intro j r hj ok h
    have okj := ok j (Nat.le_refl _)
    have hf := togAt_found okj
    simp only [togAt, Bool.and_eq_true] at okj
    refine head j r hj okj.1 ?_
    refine ok_loop (g := fun k i => spec_IsTogether.l1 k l ids (j : Int) (fp l (rd ids j)) (i : Int)) j _ okj.2 (fun i r hi o g => good j i r hj (fun q hq => togAt_found (ok q (by omega))) hf hi o g) ?_
    refine shift ?_
    simp only [spec_IsTogether.l1]
    refine neg (nat_ge (Nat.le_refl _)) ?_
    rw [succ_wrap (by omega)]
    exact h
  · intro j hj ok okj
    by_cases hh : togHead l ids j = true
    · have hall : ¬ (List.range j).all (togPair l ids j) = true := by
        intro g
        rw [togAt, hh, g] at okj
        exact absurd okj (by decide)
      have hf : 0 ≤ fp l (rd ids j) ∧ fp l (rd ids j) < l.length := by
        have := hh
        simp only [togHead, decide_eq_true_eq] at this
        have := fp_range l (rd ids j)
        omega
      refine head j false hj hh ?_
      exact bad_loop (g := fun k i => spec_IsTogether.l1 k l ids (j : Int) (fp l (rd ids j)) (i : Int)) j _ false hall (fun i r hi o g => good j i r hj (fun q hq => togAt_found (ok q hq)) hf hi o g) (fun i hi o => bad j i hj (fun q hq => togAt_found (ok q hq)) hf hi o)
    · refine shift ?_
      simp only [spec_IsTogether.l0]
      refine pos (nat_lt hj) (pos (by omega) (Ev.bind (find _) ?_))
      by_cases h1 : fp l (rd ids j) < 0
      · exact pos h1 (yes _ _)
      · have h2 : ¬ (0 < j → rd ids ((j : Int) - 1) < rd ids j) := fun g => hh (by simp only [togHead]; exact decide_eq_true ⟨h1, g⟩)
        refine neg h1 (pos (by omega) ?_)
        rw [w64 (x := (j : Int) - 1) (by omega) (by omega)]
        refine pos (by omega) (pos (by omega) ?_)
        rw [show decide (rd ids ((j : Int) - 1) ≥ rd ids (j : Int)) = true from decide_eq_true (by omega)]
        exact yes _ _
  · intro _
    refine shift ?_
    simp only [spec_IsTogether.l0]
    exact neg (nat_ge (Nat.le_refl _)) (Ev.bind (spec_ArePaths_ev l (by omega)) (now rfl))

theorem spec_AddToStage_ev (l : List S73) (ids : List Int) (hl : l.length ≤ 1000) (hi : 1 ≤ ids.length ∧ ids.length ≤ 1000) : ∃ r, Ev (fun k => spec_AddToStage.f k l ids) r ∧ 1 ≤ r.length ∧ r.length ≤ ids.length + l.length := by
  unfold spec_AddToStage.f
  have ht := spec_IsTogether_ev l ids (by omega) (by omega)
  have : ∀ d j (out : List Int), j + d = l.length → 1 ≤ out.length ∧ out.length ≤ ids.length + j → ∃ r, Ev (fun k => spec_AddToStage.l0 k l ids out (j : Int)) r ∧ 1 ≤ r.length ∧ r.length ≤ ids.length + l.length := by
    intro d
    induction d with
    | zero =>
      intro j out hj ho
      refine ⟨out, shift ?_, ho.1, by omega⟩
      simp only [spec_AddToStage.l0]
      refine neg (by omega) (shift ?_)
      simp only [spec_AddToStage.j1]
      exact neg (by decide) (now rfl)
    | succ d ih =>
      intro j out hj ho
      by_cases h : together l ids = true
      · obtain ⟨x, hx, hm, hlx⟩ := spec_l6Put_ev out (rd_T73 l (j : Int)).f0 (by omega)
        have h1 : 1 ≤ x.length := List.length_pos_of_mem ((hm _).2 (.inr rfl))
        have hxt := spec_IsTogether_ev l x (by omega) (by omega)
        by_cases g : together l x = true
        · obtain ⟨r, hr, b⟩ := ih (j + 1) x (by omega) (by omega)
          refine ⟨r, shift ?_, b⟩
          simp only [spec_AddToStage.l0]
          refine pos (by omega) (Ev.bind ht (shift ?_))
          simp only [spec_AddToStage.j1]
          rw [succ_wrap (by omega)]
          exact pos h (pos (by omega) (pos (by omega) (Ev.bind hx (Ev.bind hxt (pos g hr)))))
        · obtain ⟨r, hr, b⟩ := ih (j + 1) out (by omega) (by omega)
          refine ⟨r, shift ?_, b⟩
          simp only [spec_AddToStage.l0]
          refine pos (by omega) (Ev.bind ht (shift ?_))
          simp only [spec_AddToStage.j1]
          rw [succ_wrap (by omega)]
          exact pos h (pos (by omega) (pos (by omega) (Ev.bind hx (Ev.bind hxt (neg g hr)))))
      · refine ⟨out, shift ?_, ho.1, by omega⟩
        simp only [spec_AddToStage.l0]
        refine pos (by omega) (Ev.bind ht (shift ?_))
        simp only [spec_AddToStage.j1]
        exact neg h (now rfl)
  obtain ⟨r, hr, b⟩ := this l.length 0 ids (by omega) (by omega)
  refine ⟨r, bindc rfl (pos (by simp; omega) ?_), b⟩
  simpa using hr

def stagesOk (r : List (List Int)) : Prop := ∀ x ∈ r, 1 ≤ x.length ∧ x.length ≤ 20
theorem spec_CoverOf_put (l : List S73) (out : List (List Int)) (i : Nat) (s : List Int) (hs : s.length ≤ 20) (R : List (List Int) → Prop)
    (nx : ∀ dn : List Int, dn.length ≤ 20 * (i + 1) → ∃ r, Ev (fun k => spec_CoverOf.l0 k l ([] : List Int) out dn ((i + 1 : Nat) : Int)) r ∧ R r) (hi : i ≤ 1000) :
    ∀ d j (dn : List Int), j + d = s.length → dn.length ≤ 20 * i + j → ∃ r, Ev (fun k => spec_CoverOf.l1 k l s out dn (i : Int) (j : Int)) r ∧ R r := by
  intro d
  induction d with
  | zero =>
    intro j dn hj hd
    obtain ⟨r, hr, b⟩ := nx dn (by omega)
    refine ⟨r, shift ?_, b⟩
    simp only [spec_CoverOf.l1]
    rw [succ_wrap (j := i) (by omega)]
    exact neg (by omega) hr
  | succ d ih =>
    intro j dn hj hd
    obtain ⟨x, hx, _, hlx⟩ := spec_l6Put_ev dn (rd s (j : Int)) (by omega)
    obtain ⟨r, hr, b⟩ := ih (j + 1) x (by omega) (by omega)
    refine ⟨r, shift ?_, b⟩
    simp only [spec_CoverOf.l1]
    rw [succ_wrap (j := j) (by omega)]
    exact pos (by omega) (pos (by omega) (Ev.bind hx hr))
theorem spec_CoverOf_ev (l : List S73) (hl : l.length ≤ 12) : ∃ r, Ev (fun k => spec_CoverOf.f k l) r ∧ r.length ≤ l.length ∧ stagesOk r := by
  unfold spec_CoverOf.f
  have hp := spec_ArePaths_ev l (by omega)
  have : ∀ d i (out : List (List Int)) (dn : List Int), i + d = l.length → out.length ≤ i → stagesOk out → dn.length ≤ 20 * i → ∃ r, Ev (fun k => spec_CoverOf.l0 k l ([] : List Int) out dn (i : Int)) r ∧ (r.length ≤ l.length ∧ stagesOk r) := by
    intro d
    induction d with
    | zero =>
      intro i out dn hi ho hs hd
      refine ⟨out, shift ?_, by omega, hs⟩
      simp only [spec_CoverOf.l0]
      refine neg (by omega) (shift ?_)
      simp only [spec_CoverOf.j1]
      exact neg (by decide) (now rfl)
    | succ d ih =>
      intro i out dn hi ho hs hd
      by_cases h : arePaths l = true
      · have hh := spec_l6Has_ev dn (rd_T73 l (i : Int)).f0 (by omega)
        by_cases g : (rd_T73 l (i : Int)).f0 ∈ dn
        · obtain ⟨r, hr, b⟩ := ih (i + 1) out dn (by omega) (by omega) hs (by omega)
          refine ⟨r, shift ?_, b⟩
          simp only [spec_CoverOf.l0]
          refine pos (by omega) (Ev.bind hp (shift ?_))
          simp only [spec_CoverOf.j1]
          rw [succ_wrap (by omega)]
          exact pos h (pos (by omega) (pos (by omega) (Ev.bind hh (pos (by simpa using g) hr))))
        · obtain ⟨s, hs1, hs2, hs3⟩ := spec_AddToStage_ev l [(rd_T73 l (i : Int)).f0] (by omega) (by simp)
          simp only [List.length_cons, List.length_nil] at hs3
          have hso : stagesOk (out ++ [s]) := by
            intro x hx
            rcases List.mem_append.1 hx with q | q
            · exact hs x q
            · rw [List.mem_singleton.1 q]
              omega
          obtain ⟨r, hr, b⟩ := spec_CoverOf_put l (out ++ [s]) i s (by omega) (fun r => r.length ≤ l.length ∧ stagesOk r) (fun dn2 h2 => ih (i + 1) (out ++ [s]) dn2 (by omega) (by simp; omega) hso h2) (by omega) s.length 0 dn (by omega) (by omega)
          refine ⟨r, shift ?_, b⟩
          simp only [spec_CoverOf.l0]
          refine pos (by omega) (Ev.bind hp (shift ?_))
          simp only [spec_CoverOf.j1]
          exact pos h (pos (by omega) (pos (by omega) (Ev.bind hh (neg (by simpa using g) (Ev.bind hs1 (pos (by omega) hr))))))
      · refine ⟨out, shift ?_, by omega, hs⟩
        simp only [spec_CoverOf.l0]
        refine pos (by omega) (Ev.bind hp (shift ?_))
        simp only [spec_CoverOf.j1]
        exact neg h (now rfl)
  obtain ⟨r, hr, b⟩ := this l.length 0 [] [] (by omega) (by simp) (fun x hx => absurd hx (by simp)) (by simp)
  exact ⟨r, hr, b⟩

def notWalk (l : List S73) (st : List Int) (i : Nat) : Bool := !decide (fp l (rd st i) ≥ 0 ∧ (rd_T73 l (fp l (rd st i))).f1 = 2)
def leastG (l : List S73) (st : List Int) : Int := if (List.range st.length).all (notWalk l st) = true then 5 else 7
theorem leastG_range (l : List S73) (st : List Int) : 5 ≤ leastG l st := by unfold leastG; split <;> omega
theorem spec_LeastGreen_ev (l : List S73) (st : List Int) (hl : l.length ≤ 1048576) (hs : st.length ≤ 1048576) : Ev (fun k => spec_LeastGreen.f k l st) (leastG l st) := by
  unfold spec_LeastGreen.f leastG
  have find : ∀ n, Ev (fun k => spec_FindPath.f k l n) (fp l n) := fun n => spec_FindPath_ev l n (by omega)
  have good : ∀ j r, j < st.length → notWalk l st j = true → Ev (fun k => spec_LeastGreen.l0 k l st ((j + 1 : Nat) : Int)) r → Ev (fun k => spec_LeastGreen.l0 k l st (j : Int)) r := by
    intro j r hj ok h
    simp only [notWalk, Bool.not_eq_true', decide_eq_false_iff_not] at ok
    have := fp_range l (rd st j)
    refine shift ?_
    simp only [spec_LeastGreen.l0]
    rw [succ_wrap (by omega)]
    refine pos (nat_lt hj) (pos (by omega) (Ev.bind (find _) ?_))
    by_cases h0 : fp l (rd st j) ≥ 0
    · exact pos h0 (pos h0 (pos (by omega) (neg (fun g => ok ⟨h0, g⟩) h)))
    · exact neg h0 h
  by_cases h : (List.range st.length).all (notWalk l st) = true
  · rw [if_pos h]
    refine ok_loop (g := fun k j => spec_LeastGreen.l0 k l st (j : Int)) st.length _ h good ?_
    refine shift ?_
    simp only [spec_LeastGreen.l0]
    exact neg (nat_ge (Nat.le_refl _)) (now rfl)
  · rw [if_neg h]
    refine bad_loop (g := fun k j => spec_LeastGreen.l0 k l st (j : Int)) st.length _ 7 h good ?_
    intro j hj ok
    simp only [notWalk, Bool.not_eq_false', decide_eq_true_eq] at ok
    have := fp_range l (rd st j)
    refine shift ?_
    simp only [spec_LeastGreen.l0]
    exact pos (nat_lt hj) (pos (by omega) (Ev.bind (find _) (pos ok.1 (pos ok.1 (pos (by omega) (pos ok.2 (now rfl)))))))

def rowL (ss : List (List Int)) (i : Int) : List Int := rd_L3 ss i
theorem rowL_get (ss : List (List Int)) (i : Nat) (h : i < ss.length) : rowL ss i = ss[i] := by simp [rowL, rd_L3, h]
def covAt (l : List S73) (ss : List (List Int)) (i : Nat) : Bool := ss.any fun s => decide ((rd_T73 l i).f0 ∈ s)
def covers (l : List S73) (ss : List (List Int)) : Bool := (List.range ss.length).all (fun k => together l (rowL ss k)) && ((List.range l.length).all (covAt l ss) && arePaths l)
theorem rowL_short (ss : List (List Int)) (hs : ∀ x ∈ ss, x.length ≤ 1048576) (i : Nat) (h : i < ss.length) : (rowL ss i).length ≤ 1048576 := by
  rw [rowL_get ss i h]
  exact hs _ (List.getElem_mem h)
theorem spec_Covers_ev (l : List S73) (ss : List (List Int)) (hl : l.length ≤ 1048576) (hn : ss.length ≤ 1048576) (hs : ∀ x ∈ ss, x.length ≤ 1048576) : Ev (fun k => spec_Covers.f k l ss) (covers l ss) := by
  unfold spec_Covers.f covers
  have inner : ∀ (i : Nat) (r : Bool), i < l.length → Ev (fun k => spec_Covers.l2 k l ss (i : Int) (covAt l ss i) (ss.length : Int)) r → Ev (fun k => spec_Covers.l2 k l ss (i : Int) false 0) r := by
    intro i r hi h
    refine loop (g := fun k j => spec_Covers.l2 k l ss (i : Int) ((ss.take j).any fun s => decide ((rd_T73 l i).f0 ∈ s)) (j : Int)) ss.length ?_ ?_ |> (fun h => by simpa using h)
    · intro j hj hh
      refine shift ?_
      simp only [spec_Covers.l2]
      rw [succ_wrap (by omega)]
      rw [take_snoc ss j hj, List.any_append] at hh
      refine pos (nat_lt hj) ?_
      by_cases c : ((ss.take j).any fun s => decide ((rd_T73 l i).f0 ∈ s)) = true
      · rw [c, Bool.true_or] at hh
        exact pos c hh
      · have c2 : ((ss.take j).any fun s => decide ((rd_T73 l i).f0 ∈ s)) = false := by simpa using c
        rw [c2, Bool.false_or] at hh
        have hx := rowL_short ss hs j hj
        refine neg c (pos (by omega) (pos (by omega) (pos (by omega) (Ev.bind (spec_l6Has_ev (rowL ss j) _ (by omega)) ?_))))
        rw [rowL_get ss j hj]
        simpa using hh
    · rw [List.take_length]
      exact h
  refine all_loop (g := fun k j => spec_Covers.l0 k l ss (j : Int)) ss.length (fun k => together l (rowL ss k)) _ ?_ ?_ ?_
  · intro j r hj ok h
    refine shift ?_
    simp only [spec_Covers.l0]
    rw [succ_wrap (by omega)]
    exact pos (nat_lt hj) (pos (by omega) (Ev.bind (spec_IsTogether_ev l (rowL ss j) hl (rowL_short ss hs j hj)) (pos ok h)))
  · intro j hj ok
    refine shift ?_
    simp only [spec_Covers.l0]
    exact pos (nat_lt hj) (pos (by omega) (Ev.bind (spec_IsTogether_ev l (rowL ss j) hl (rowL_short ss hs j hj)) (neg (by rw [ok]; decide) (now rfl))))
  · refine shift ?_
    simp only [spec_Covers.l0]
    refine neg (nat_ge (Nat.le_refl _)) ?_
    refine all_loop (g := fun k i => spec_Covers.l1 k l ss (i : Int)) l.length (covAt l ss) _ ?_ ?_ ?_
    · intro i r hi ok h
      refine shift ?_
      simp only [spec_Covers.l1]
      refine pos (nat_lt hi) (inner i r hi (shift ?_))
      simp only [spec_Covers.l2]
      rw [succ_wrap (j := i) (by omega)]
      exact neg (nat_ge (Nat.le_refl _)) (pos ok h)
    · intro i hi ok
      refine shift ?_
      simp only [spec_Covers.l1]
      refine pos (nat_lt hi) (inner i false hi (shift ?_))
      simp only [spec_Covers.l2]
      exact neg (nat_ge (Nat.le_refl _)) (neg (by rw [ok]; decide) (now rfl))
    · refine shift ?_
      simp only [spec_Covers.l1]
      exact neg (nat_ge (Nat.le_refl _)) (Ev.bind (spec_ArePaths_ev l (by omega)) (now rfl))

theorem rdPart (p : List S50) (j : Nat) (h : j < p.length) : rd_T50 p (j : Int) = p[j] := by simp [rd_T50, h]
theorem spec_l8Stages_ev (p : List S50) (hp : p.length ≤ 1048576) : Ev (fun k => spec_l8Stages.f k p) (p.map (·.f0)) := by
  unfold spec_l8Stages.f
  refine loop (g := fun k j => spec_l8Stages.l0 k p ((p.take j).map (·.f0)) (j : Int)) p.length ?_ ?_ |> (fun h => by simpa using h)
  · intro j hj h
    refine shift ?_
    simp only [spec_l8Stages.l0]
    rw [succ_wrap (by omega), rdPart p j hj]
    rw [take_snoc p j hj, List.map_append] at h
    exact pos (nat_lt hj) (pos (by omega) (pos (by simp; omega) h))
  · refine shift ?_
    simp only [spec_l8Stages.l0]
    exact neg (nat_ge (Nat.le_refl _)) (now (by rw [List.take_length]))

def partOk (l : List S73) (p : List S50) (i : Nat) : Bool :=
  decide (¬ ((rd_T50 p i).f0.length : Int) = 0) && (together l (rd_T50 p i).f0 && decide (leastG l (rd_T50 p i).f0 ≤ (rd_T50 p i).f1 ∧ (rd_T50 p i).f1 ≤ 60))
def isPlan (l : List S73) (p : List S50) : Bool := decide (1 ≤ (p.length : Int) ∧ (p.length : Int) ≤ 6) && ((List.range p.length).all (partOk l p) && covers l (p.map (·.f0)))
theorem part_short (p : List S50) (hs : ∀ x ∈ p, x.f0.length ≤ 1048576) (i : Nat) (h : i < p.length) : (rd_T50 p i).f0.length ≤ 1048576 := by
  rw [rdPart p i h]
  exact hs _ (List.getElem_mem h)
theorem stages_short (p : List S50) (hs : ∀ x ∈ p, x.f0.length ≤ 1048576) : ∀ x ∈ p.map (·.f0), x.length ≤ 1048576 := by
  intro x hx
  obtain ⟨y, hy, rfl⟩ := List.mem_map.1 hx
  exact hs y hy
theorem spec_IsPlan_ev (l : List S73) (p : List S50) (hl : l.length ≤ 1048576) (hp : p.length ≤ 1048576) (hs : ∀ x ∈ p, x.f0.length ≤ 1048576) : Ev (fun k => spec_IsPlan.f k l p) (isPlan l p) := by
  unfold spec_IsPlan.f isPlan
  refine bindc (spec_l1In_eq _ _ _) ?_
  by_cases hr : 1 ≤ (p.length : Int) ∧ (p.length : Int) ≤ 6
  · rw [decide_eq_true hr, Bool.true_and]
    refine pos rfl (all_loop (g := fun k j => spec_IsPlan.l0 k l p (j : Int)) p.length (partOk l p) _ ?_ ?_ ?_)
    · intro j r hj ok h
      simp only [partOk, Bool.and_eq_true, decide_eq_true_eq] at ok
      have hx := part_short p hs j hj
      refine shift ?_
      simp only [spec_IsPlan.l0]
      rw [succ_wrap (by omega)]
      exact pos (nat_lt hj) (pos (by omega) (neg ok.1 (Ev.bind (spec_IsTogether_ev l _ hl hx) (pos ok.2.1 (Ev.bind (spec_LeastGreen_ev l _ hl hx) (bindc (spec_l1In_eq _ _ _) (pos (decide_eq_true ok.2.2) h)))))))
    · intro j hj ok
      have hx := part_short p hs j hj
      refine shift ?_
      simp only [spec_IsPlan.l0]
      refine pos (nat_lt hj) (pos (by omega) ?_)
      by_cases h1 : ((rd_T50 p j).f0.length : Int) = 0
      · exact pos h1 (now rfl)
      refine neg h1 (Ev.bind (spec_IsTogether_ev l _ hl hx) ?_)
      by_cases h2 : together l (rd_T50 p j).f0 = true
      · have h3 : decide (leastG l (rd_T50 p j).f0 ≤ (rd_T50 p j).f1 ∧ (rd_T50 p j).f1 ≤ 60) = false := by
          rw [partOk, decide_eq_true h1, h2, Bool.true_and, Bool.true_and] at ok
          exact ok
        exact pos h2 (Ev.bind (spec_LeastGreen_ev l _ hl hx) (bindc (spec_l1In_eq _ _ _) (neg (by rw [h3]; decide) (now rfl))))
      · exact neg h2 (now rfl)
    · refine shift ?_
      simp only [spec_IsPlan.l0]
      exact neg (nat_ge (Nat.le_refl _)) (Ev.bind (spec_l8Stages_ev p hp) (Ev.bind (spec_Covers_ev l _ hl (by simpa using hp) (stages_short p hs)) (now rfl)))
  · rw [decide_eq_false hr, Bool.false_and]
    exact neg (by decide) (now rfl)
theorem isPlan_part {l : List S73} {p : List S50} (h : isPlan l p = true) : (1 ≤ p.length ∧ p.length ≤ 6) ∧ ∀ i, i < p.length → 5 ≤ (rd_T50 p i).f1 ∧ (rd_T50 p i).f1 ≤ 60 ∧ together l (rd_T50 p i).f0 = true := by
  simp only [isPlan, Bool.and_eq_true, decide_eq_true_eq] at h
  refine ⟨by omega, fun i hi => ?_⟩
  have := List.all_eq_true.1 h.2.1 i (List.mem_range.2 hi)
  simp only [partOk, Bool.and_eq_true, decide_eq_true_eq] at this
  have h5 := leastG_range l (rd_T50 p i).f0
  exact ⟨by omega, this.2.2.2, this.2.1⟩

def planOk (p : List S50) : Prop := p.length ≤ 12 ∧ ∀ x ∈ p, 1 ≤ x.f0.length ∧ x.f0.length ≤ 20
theorem planOk_nil : planOk [] := ⟨by simp, fun x hx => absurd hx (by simp)⟩
theorem rd_L_mem (r : List (List Int)) (i : Nat) (h : i < r.length) : rd_L3 r (i : Int) ∈ r := by
  have : rd_L3 r (i : Int) = r[i] := by simp [rd_L3, h]
  rw [this]
  exact List.getElem_mem h
theorem spec_PlanFor_ev (l : List S73) (hl : l.length ≤ 12) : ∃ p, Ev (fun k => spec_PlanFor.f k l) p ∧ planOk p := by
  unfold spec_PlanFor.f
  obtain ⟨r, hr, hrl, hrs⟩ := spec_CoverOf_ev l hl
  have : ∀ d i (p : List S50), i + d = r.length → p.length ≤ i → planOk p → ∃ p2, Ev (fun k => spec_PlanFor.l0 k l p r (i : Int)) p2 ∧ planOk p2 := by
    intro d
    induction d with
    | zero =>
      intro i p hi hp ho
      have hq := spec_IsPlan_ev l p (by omega) (by omega) (fun x hx => by have := (ho.2 x hx).2; omega)
      by_cases g : isPlan l p = true
      · refine ⟨p, shift ?_, ho⟩
        simp only [spec_PlanFor.l0]
        exact neg (by omega) (Ev.bind hq (pos g (now rfl)))
      · refine ⟨[], shift ?_, planOk_nil⟩
        simp only [spec_PlanFor.l0]
        exact neg (by omega) (Ev.bind hq (neg g (now rfl)))
    | succ d ih =>
      intro i p hi hp ho
      have hm := hrs _ (rd_L_mem r i (by omega))
      have hg := spec_LeastGreen_ev l (rd_L3 r (i : Int)) (by omega) (by omega)
      obtain ⟨p2, h2, b⟩ := ih (i + 1) (p ++ [⟨rd_L3 r (i : Int), leastG l (rd_L3 r (i : Int))⟩]) (by omega) (by simp; omega) ⟨by simp; omega, fun x hx => by
        rcases List.mem_append.1 hx with q | q
        · exact ho.2 x q
        · rw [List.mem_singleton.1 q]
          exact hm⟩
      refine ⟨p2, shift ?_, b⟩
      simp only [spec_PlanFor.l0]
      rw [succ_wrap (by omega)]
      exact pos (by omega) (pos (by omega) (Ev.bind hg (pos (by omega) h2)))
  obtain ⟨p, hp, b⟩ := this r.length 0 [] (by omega) (by simp) planOk_nil
  exact ⟨p, Ev.bind hr hp, b⟩

theorem and255 (x : Int) : 0 ≤ Go.bits .and .i64 x 255 ∧ Go.bits .and .i64 x 255 ≤ 255 := by
  have h : (BitVec.ofInt 64 x &&& BitVec.ofInt 64 255).toNat ≤ 255 := by
    rw [BitVec.toNat_and]
    exact Nat.le_trans Nat.and_le_right (by decide)
  show 0 ≤ IntKind.wrap .i64 ((BitVec.ofInt 64 x &&& BitVec.ofInt 64 255).toNat : Int) ∧ IntKind.wrap .i64 ((BitVec.ofInt 64 x &&& BitVec.ofInt 64 255).toNat : Int) ≤ 255
  generalize (BitVec.ofInt 64 x &&& BitVec.ofInt 64 255).toNat = n at h
  have e : IntKind.wrap .i64 (n : Int) = wrap64 (n : Int) := by simp only [i64_w]
  rw [e, w64 (by omega) (by omega)]
  omega
theorem spec_l1Byte_ok (d : List Int) (p s : Int) (hd : d.length ≤ 1048576) (hp : 0 ≤ p ∧ p ≤ d.length) : ∃ v p2 s2, spec_l1Byte.f d p s = some (v, p2, s2) ∧ (0 ≤ p2 ∧ p2 ≤ d.length) ∧ 0 ≤ v ∧ v ≤ 255 := by
  unfold spec_l1Byte.f
  by_cases h : p < (d.length : Int)
  · refine ⟨_, _, _, by rw [if_pos h, if_pos hp.1], ?_, and255 _⟩
    rw [w64 (by omega) (by omega)]
    omega
  · exact ⟨_, _, _, by rw [if_neg h], hp, and255 _⟩

theorem spec_l1Below_ok (d : List Int) (p s a : Int) (hd : d.length ≤ 1048576) (hp : 0 ≤ p ∧ p ≤ d.length) : ∃ v p2 s2, spec_l1Below.f d p s a = some (v, p2, s2) ∧ (0 ≤ p2 ∧ p2 ≤ d.length) ∧ 0 ≤ v ∧ (0 < a → v < a) := by
  unfold spec_l1Below.f
  by_cases h : a ≤ 0
  · exact ⟨0, p, s, by rw [if_pos h], hp, by omega, by omega⟩
  rw [if_neg h]
  obtain ⟨v1, p1, s1, e1, r1, b1⟩ := spec_l1Byte_ok d p s hd hp
  by_cases h2 : a ≤ 256
  · refine ⟨Int.tmod v1 a, p1, s1, by rw [if_pos h2, e1, Option.bind_some, if_neg (by omega)], r1, Int.tmod_nonneg _ b1.1, fun h3 => Int.tmod_lt_of_pos _ h3⟩
  · obtain ⟨v2, p2, s2, e2, r2, b2⟩ := spec_l1Byte_ok d p1 s1 hd r1
    obtain ⟨v3, p3, s3, e3, r3, b3⟩ := spec_l1Byte_ok d p2 s2 hd r2
    refine ⟨_, p3, s3, by rw [if_neg h2, e1, Option.bind_some]; simp only [e2, e3, Option.bind_some]; rw [if_neg (by omega)], r3, Int.tmod_nonneg _ ?_, fun h3 => Int.tmod_lt_of_pos _ h3⟩
    rw [w64 (x := v1 * 65536) (by omega) (by omega), w64 (x := v2 * 256) (by omega) (by omega), w64 (x := v1 * 65536 + v2 * 256) (by omega) (by omega), w64 (by omega) (by omega)]
    omega

theorem spec_l1Int_ok (d : List Int) (p s : Int) (l : List Int) (hd : d.length ≤ 1048576) (hp : 0 ≤ p ∧ p ≤ d.length) (hl : 0 < l.length) : ∃ v p2 s2, spec_l1Int.f d p s l = some (v, p2, s2) ∧ (0 ≤ p2 ∧ p2 ≤ d.length) ∧ v ∈ l := by
  unfold spec_l1Int.f
  obtain ⟨v, p2, s2, e, r, h0, h1⟩ := spec_l1Below_ok d p s (l.length : Int) hd hp
  have h1 := h1 (by omega)
  refine ⟨rd l v, p2, s2, by rw [e, Option.bind_some, if_pos h0, if_pos h1], r, ?_⟩
  obtain ⟨n, rfl⟩ := Int.eq_ofNat_of_zero_le h0
  rw [rd_get l n (by omega)]
  exact List.getElem_mem _

theorem spec_l4Draw_ok (d : List Int) (hd : d.length ≤ 1048576) (q s a : Int) (hq : 0 ≤ q ∧ q ≤ d.length) : ∃ x0 x1 x2 x3 q2 s2, spec_l4Draw.f d q s a = some (x0, x1, x2, x3, q2, s2) ∧ (0 ≤ q2 ∧ q2 ≤ d.length) := by
  unfold spec_l4Draw.f
  obtain ⟨c1, q1, s1, e1, hq1, _⟩ := spec_l1Below_ok d q s 3 hd hq
  obtain ⟨c2, q2, s2, e2, hq2, _⟩ := spec_l1Below_ok d q1 s1 4 hd hq1
  rw [e1, Option.bind_some]
  simp only [e2, Option.bind_some]
  by_cases c : wrap64 (1 + c1) = 2
  · rw [if_pos c]
    exact ⟨_, _, _, _, q2, s2, rfl, hq2⟩
  · obtain ⟨c3, q3, s3, e3, hq3, _⟩ := spec_l1Below_ok d q2 s2 3 hd hq2
    rw [if_neg c, e3, Option.bind_some]
    exact ⟨_, _, _, _, q3, s3, rfl, hq3⟩

theorem spec_l5Draw_at (d : List Int) (hd : d.length ≤ 1048576) : ∀ (dd i : Nat) (l : List S73) (q s : Int), i + dd = 8 → 1 ≤ i → l.length + 1 = i → (0 ≤ q ∧ q ≤ d.length) →
    ∃ l2 q2 s2, Ev (fun k => spec_l5Draw.l0 k l (i : Int) d q s) (l2, q2, s2) ∧ (2 ≤ l2.length ∧ l2.length ≤ 7) ∧ (0 ≤ q2 ∧ q2 ≤ d.length) := by
  intro dd
  induction dd with
  | zero =>
    intro i l q s hi h1 hl hq
    obtain ⟨v, q1, s1, e1, hq1, v0, v1⟩ := spec_l1Below_ok d q s 6 hd hq
    have v1 := v1 (by omega)
    refine ⟨l, q1, s1, shift ?_, by omega, hq1⟩
    simp only [spec_l5Draw.l0]
    exact bindc e1 (neg (by dsimp only; rw [w64 (by omega) (by omega)]; omega) (now rfl))
  | succ dd ih =>
    intro i l q s hi h1 hl hq
    obtain ⟨v, q1, s1, e1, hq1, v0, v1⟩ := spec_l1Below_ok d q s 6 hd hq
    have v1 := v1 (by omega)
    have hw : wrap64 (2 + v) = 2 + v := w64 (by omega) (by omega)
    by_cases c : (i : Int) ≤ 2 + v
    · obtain ⟨y0, y1, y2, y3, q2, s2, e2, hq2⟩ := spec_l4Draw_ok d hd q1 s1 (i : Int) hq1
      obtain ⟨l3, q3, s3, h3, r⟩ := ih (i + 1) (l ++ [⟨y0, y1, y2, y3⟩]) q2 s2 (by omega) (by omega) (by simp; omega) hq2
      refine ⟨l3, q3, s3, shift ?_, r⟩
      simp only [spec_l5Draw.l0]
      rw [succ_wrap (by omega)]
      exact bindc e1 (pos (by dsimp only; rw [hw]; exact c) (bindc e2 (pos (by omega) h3)))
    · refine ⟨l, q1, s1, shift ?_, by omega, hq1⟩
      simp only [spec_l5Draw.l0]
      exact bindc e1 (neg (by dsimp only; rw [hw]; exact c) (now rfl))
theorem spec_l5Draw_ev (d : List Int) (hd : d.length ≤ 1048576) (q s : Int) (hq : 0 ≤ q ∧ q ≤ d.length) :
    ∃ l2 q2 s2, Ev (fun k => spec_l5Draw.f k d q s) (l2, q2, s2) ∧ (2 ≤ l2.length ∧ l2.length ≤ 7) ∧ (0 ≤ q2 ∧ q2 ≤ d.length) := by
  unfold spec_l5Draw.f
  exact spec_l5Draw_at d hd 7 1 [] q s (by omega) (by omega) (by simp) hq

theorem rd_P_mem (p : List S50) (i : Nat) (h : i < p.length) : rd_T50 p (i : Int) ∈ p := by
  have : rd_T50 p (i : Int) = p[i] := by simp [rd_T50, h]
  rw [this]
  exact List.getElem_mem h
theorem planOk_set {p : List S50} (h : planOk p) (i : Nat) (x : S50) (hx : 1 ≤ x.f0.length ∧ x.f0.length ≤ 20) : planOk (p.set i x) := by
  refine ⟨by simpa using h.1, fun y hy => ?_⟩
  rcases List.mem_or_eq_of_mem_set hy with q | q
  · exact h.2 y q
  · rw [q]
    exact hx
theorem spec_l8Draw_green (d : List Int) (hd : d.length ≤ 1048576) (l : List S73) : ∀ dd i (p : List S50) (q s : Int), i + dd = p.length → planOk p → (0 ≤ q ∧ q ≤ d.length) →
    ∃ p2 q2 s2, Ev (fun k => spec_l8Draw.l1 k l p (i : Int) d q s) (l, p2, q2, s2) ∧ planOk p2 ∧ (0 ≤ q2 ∧ q2 ≤ d.length) := by
  intro dd
  induction dd with
  | zero =>
    intro i p q s hi ho hq
    refine ⟨p, q, s, shift ?_, ho, hq⟩
    simp only [spec_l8Draw.l1]
    exact neg (by omega) (now rfl)
  | succ dd ih =>
    intro i p q s hi ho hq
    have h12 := ho.1
    have hm := ho.2 _ (rd_P_mem p i (by omega))
    obtain ⟨v, q1, s1, e1, hq1, _⟩ := spec_l1Below_ok d q s 12 hd hq
    obtain ⟨p2, q2, s2, h2, b⟩ := ih (i + 1) (p.set i ⟨(rd_T50 p (i : Int)).f0, wrap64 ((rd_T50 p (i : Int)).f1 + v)⟩) q1 s1 (by simp; omega) (planOk_set ho i _ hm) hq1
    refine ⟨p2, q2, s2, shift ?_, b⟩
    simp only [spec_l8Draw.l1, Int.toNat_natCast]
    rw [succ_wrap (by omega)]
    exact pos (by omega) (pos (by omega) (bindc e1 h2))
theorem spec_l8Draw_ev (d : List Int) (hd : d.length ≤ 1048576) (q s : Int) (hq : 0 ≤ q ∧ q ≤ d.length) :
    ∃ l p q2 s2, Ev (fun k => spec_l8Draw.f k d q s) (l, p, q2, s2) ∧ (2 ≤ l.length ∧ l.length ≤ 7) ∧ planOk p ∧ (0 ≤ q2 ∧ q2 ≤ d.length) := by
  unfold spec_l8Draw.f
  have last : ∀ (l : List S73) (p : List S50) (i : Nat) (q s : Int), (2 ≤ l.length ∧ l.length ≤ 7) → planOk p → (0 ≤ q ∧ q ≤ d.length) → ∃ l2 p2 q2 s2, Ev (fun k => spec_l8Draw.j1 k l p (i : Int) false d q s) (l2, p2, q2, s2) ∧ (2 ≤ l2.length ∧ l2.length ≤ 7) ∧ planOk p2 ∧ (0 ≤ q2 ∧ q2 ≤ d.length) := by
    intro l p i q s hl ho hq
    obtain ⟨p2, q2, s2, h2, b⟩ := spec_l8Draw_green d hd l p.length 0 p q s (by omega) ho hq
    refine ⟨l, p2, q2, s2, shift ?_, hl, b⟩
    simp only [spec_l8Draw.j1]
    exact neg (by decide) h2
  have main : ∀ (dd i : Nat) (l : List S73) (p : List S50) (q s : Int), i + dd = 4 → (2 ≤ l.length ∧ l.length ≤ 7) → planOk p → (0 ≤ q ∧ q ≤ d.length) → ∃ l2 p2 q2 s2, Ev (fun k => spec_l8Draw.l0 k l p (i : Int) d q s) (l2, p2, q2, s2) ∧ (2 ≤ l2.length ∧ l2.length ≤ 7) ∧ planOk p2 ∧ (0 ≤ q2 ∧ q2 ≤ d.length) := by
    intro dd
    induction dd with
    | zero =>
      intro i l p q s hi hl ho hq
      obtain ⟨l2, p2, q2, s2, h2, b⟩ := last l p i q s hl ho hq
      refine ⟨l2, p2, q2, s2, shift ?_, b⟩
      simp only [spec_l8Draw.l0]
      exact neg (by omega) h2
    | succ dd ih =>
      intro i l p q s hi hl ho hq
      by_cases c : (p.length : Int) = 0
      · obtain ⟨l1, q1, s1, h1, hl1, hq1⟩ := spec_l5Draw_ev d hd q s hq
        obtain ⟨p1, hp1, ho1⟩ := spec_PlanFor_ev l1 (by omega)
        obtain ⟨l2, p2, q2, s2, h2, b⟩ := ih (i + 1) l1 p1 q1 s1 (by omega) hl1 ho1 hq1
        refine ⟨l2, p2, q2, s2, shift ?_, b⟩
        simp only [spec_l8Draw.l0]
        refine pos (by omega) (shift ?_)
        simp only [spec_l8Draw.j1]
        rw [succ_wrap (by omega)]
        exact pos (beq_iff_eq.2 c) (Ev.bind h1 (Ev.bind hp1 h2))
      · obtain ⟨l2, p2, q2, s2, h2, b⟩ := last l p i q s hl ho hq
        refine ⟨l2, p2, q2, s2, shift ?_, b⟩
        simp only [spec_l8Draw.l0]
        rw [beq_eq_false_iff_ne.2 c]
        exact pos (by omega) h2
  obtain ⟨l1, q1, s1, h1, hl1, hq1⟩ := spec_l5Draw_ev d hd q s hq
  obtain ⟨p1, hp1, ho1⟩ := spec_PlanFor_ev l1 (by omega)
  obtain ⟨l2, p2, q2, s2, h2, b⟩ := main 4 0 l1 p1 q1 s1 (by omega) hl1 ho1 hq1
  exact ⟨l2, p2, q2, s2, Ev.bind h1 (Ev.bind hp1 h2), b⟩

theorem spec_l1Once_ok (d : List Int) (p s a : Int) (hd : d.length ≤ 1048576) (hp : 0 ≤ p ∧ p ≤ d.length) : ∃ v p2 s2, spec_l1Once.f d p s a = some (v, p2, s2) ∧ (0 ≤ p2 ∧ p2 ≤ d.length) := by
  unfold spec_l1Once.f
  obtain ⟨v, p2, s2, e, r, _⟩ := spec_l1Below_ok d p s a hd hp
  exact ⟨_, p2, s2, by rw [e, Option.bind_some], r⟩

theorem spec_l4Raw_ok (d : List Int) (p s : Int) (hd : d.length ≤ 1048576) (hp : 0 ≤ p ∧ p ≤ d.length) : ∃ v p2 s2, spec_l4Raw.f d p s = some (v, p2, s2) ∧ (0 ≤ p2 ∧ p2 ≤ d.length) ∧ v ∈ ([-1, 0, 4, 7, 20, 21, 9223372036854775807, -9223372036854775808] : List Int) := by
  unfold spec_l4Raw.f
  obtain ⟨v, p2, s2, e, r, h⟩ := spec_l1Int_ok d p s [-1, 0, 4, 7, 20, 21, 9223372036854775807, -9223372036854775808] hd hp (by simp)
  exact ⟨v, p2, s2, by rw [e, Option.bind_some], r, h⟩

theorem spec_l4Any_ok (d : List Int) (hd : d.length ≤ 1048576) (q s : Int) (hq : 0 ≤ q ∧ q ≤ d.length) : ∃ x0 x1 x2 x3 q2 s2, spec_l4Any.f d q s = some (x0, x1, x2, x3, q2, s2) ∧ (0 ≤ q2 ∧ q2 ≤ d.length) := by
  unfold spec_l4Any.f
  obtain ⟨c1, q1, s1, e1, hq1, _⟩ := spec_l1Below_ok d q s 20 hd hq
  obtain ⟨y0, y1, y2, y3, q2, s2, e2, hq2⟩ := spec_l4Draw_ok d hd q1 s1 (wrap64 (1 + c1)) hq1
  obtain ⟨c3, q3, s3, e3, hq3, _⟩ := spec_l1Below_ok d q2 s2 10 hd hq2
  rw [e1, Option.bind_some]
  simp only [e2, Option.bind_some]
  rw [e3, Option.bind_some]
  dsimp only
  by_cases c : c3 = 0
  · obtain ⟨v, q4, s4, e4, hq4, _⟩ := spec_l1Int_ok d q3 s3 [0, 20, 21] hd hq3 (by simp)
    rw [if_pos c, e4, Option.bind_some]
    exact ⟨_, _, _, _, q4, s4, rfl, hq4⟩
  rw [if_neg c]
  by_cases c : c3 = 1
  · obtain ⟨v, q4, s4, e4, hq4, _⟩ := spec_l1Int_ok d q3 s3 [0, 2, 4] hd hq3 (by simp)
    rw [if_pos c, e4, Option.bind_some]
    exact ⟨_, _, _, _, q4, s4, rfl, hq4⟩
  rw [if_neg c]
  by_cases c : c3 = 2
  · obtain ⟨v, q4, s4, e4, hq4, _⟩ := spec_l4Raw_ok d q3 s3 hd hq3
    rw [if_pos c, e4, Option.bind_some]
    exact ⟨_, _, _, _, q4, s4, rfl, hq4⟩
  rw [if_neg c]
  by_cases c : c3 = 3
  · obtain ⟨v, q4, s4, e4, hq4, _⟩ := spec_l4Raw_ok d q3 s3 hd hq3
    rw [if_pos c, e4, Option.bind_some]
    exact ⟨_, _, _, _, q4, s4, rfl, hq4⟩
  rw [if_neg c]
  exact ⟨_, _, _, _, q3, s3, rfl, hq3⟩

theorem spec_l5Any_ev (d : List Int) (hd : d.length ≤ 1048576) (q s : Int) (hq : 0 ≤ q ∧ q ≤ d.length) :
    ∃ l2 q2 s2, Ev (fun k => spec_l5Any.f k d q s) (l2, q2, s2) ∧ (2 ≤ l2.length ∧ l2.length ≤ 7) ∧ (0 ≤ q2 ∧ q2 ≤ d.length) := by
  unfold spec_l5Any.f
  obtain ⟨l, q1, s1, h1, hl, hq1⟩ := spec_l5Draw_ev d hd q s hq
  obtain ⟨c, q2, s2, e2, hq2⟩ := spec_l1Once_ok d q1 s1 6 hd hq1
  by_cases g : c = true
  · obtain ⟨i, q3, s3, e3, hq3, i0, i1⟩ := spec_l1Below_ok d q2 s2 (l.length : Int) hd hq2
    have i1 := i1 (by omega)
    obtain ⟨y0, y1, y2, y3, q4, s4, e4, hq4⟩ := spec_l4Any_ok d hd q3 s3 hq3
    exact ⟨_, q4, s4, Ev.bind h1 (bindc e2 (pos g (bindc e3 (bindc e4 (pos i0 (pos i1 (now rfl))))))), by simpa using hl, hq4⟩
  · exact ⟨l, q2, s2, Ev.bind h1 (bindc e2 (neg g (now rfl))), hl, hq2⟩

/-- A drawn plan: not too long. -/
def planSh (p : List S50) : Prop := p.length ≤ 12 ∧ ∀ x ∈ p, x.f0.length ≤ 20
theorem planSh_of {p : List S50} (h : planOk p) : planSh p := ⟨h.1, fun x hx => (h.2 x hx).2⟩
theorem planSh_set {p : List S50} (h : planSh p) (i : Nat) (x : S50) (hx : x.f0.length ≤ 20) : planSh (p.set i x) := by
  refine ⟨by simpa using h.1, fun y hy => ?_⟩
  rcases List.mem_or_eq_of_mem_set hy with q | q
  · exact h.2 y q
  · rw [q]
    exact hx
theorem spec_l8Any_ev (d : List Int) (hd : d.length ≤ 1048576) (q s : Int) (hq : 0 ≤ q ∧ q ≤ d.length) :
    ∃ l p q2 s2, Ev (fun k => spec_l8Any.f k d q s) (l, p, q2, s2) ∧ (2 ≤ l.length ∧ l.length ≤ 7) ∧ planSh p ∧ (0 ≤ q2 ∧ q2 ≤ d.length) := by
  unfold spec_l8Any.f
  obtain ⟨l, p, q1, s1, h1, hl, ho, hq1⟩ := spec_l8Draw_ev d hd q s hq
  by_cases c : (p.length : Int) = 0
  · exact ⟨l, p, q1, s1, Ev.bind h1 (pos c (now rfl)), hl, planSh_of ho, hq1⟩
  have h12 := ho.1
  obtain ⟨i, q2, s2, e2, hq2, i0, i1⟩ := spec_l1Below_ok d q1 s1 (p.length : Int) hd hq1
  have i1 := i1 (by omega)
  obtain ⟨n, rfl⟩ := Int.eq_ofNat_of_zero_le i0
  have hm := ho.2 _ (rd_P_mem p n (by omega))
  obtain ⟨j, q3, s3, e3, hq3, _⟩ := spec_l1Below_ok d q2 s2 10 hd hq2
  by_cases c0 : j = 0
  · obtain ⟨x, q4, s4, e4, hq4, _⟩ := spec_l1Int_ok d q3 s3 [4, 60, 61, 9223372036854775807] hd hq3 (by simp)
    exact ⟨l, _, q4, s4, Ev.bind h1 (neg c (bindc e2 (bindc e3 (pos c0 (bindc e4 (pos i0 (pos i1 (now rfl)))))))), hl, planSh_set (planSh_of ho) _ _ hm.2, hq4⟩
  by_cases c1 : j = 1
  · exact ⟨l, _, q3, s3, Ev.bind h1 (neg c (bindc e2 (bindc e3 (neg c0 (pos c1 (pos i0 (pos i1 (pos (by dsimp only; omega) (now rfl))))))))), hl, planSh_set (planSh_of ho) _ _ (by simp; omega), hq3⟩
  by_cases c2 : j = 2
  · obtain ⟨l5, q5, s5, h5, hl5, hq5⟩ := spec_l5Any_ev d hd q3 s3 hq3
    exact ⟨l5, p, q5, s5, Ev.bind h1 (neg c (bindc e2 (bindc e3 (neg c0 (neg c1 (pos c2 (Ev.bind h5 (now rfl)))))))), hl5, planSh_of ho, hq5⟩
  by_cases c3 : j = 3
  · exact ⟨l, _, q3, s3, Ev.bind h1 (neg c (bindc e2 (bindc e3 (neg c0 (neg c1 (neg c2 (pos c3 (pos (by dsimp only; omega) (now rfl))))))))), hl, ⟨by simp; omega, fun x hx => (ho.2 x (List.mem_of_mem_drop hx)).2⟩, hq3⟩
  · exact ⟨l, p, q3, s3, Ev.bind h1 (neg c (bindc e2 (bindc e3 (neg c0 (neg c1 (neg c2 (neg c3 (now rfl)))))))), hl, planSh_of ho, hq3⟩

theorem spec_l8Copy_ev (p : List S50) (hp : p.length ≤ 1048576) (hs : ∀ x ∈ p, x.f0.length ≤ 1048576) : Ev (fun k => spec_l8Copy.f k p) p := by
  unfold spec_l8Copy.f
  have : ∀ d j (out : List S50), j + d = p.length → out.length ≤ j → Ev (fun k => spec_l8Copy.l0 k p out (j : Int)) (out ++ p.drop j) := by
    intro d
    induction d with
    | zero =>
      intro j out hj ho
      refine shift ?_
      simp only [spec_l8Copy.l0]
      exact neg (by omega) (now (by rw [List.drop_eq_nil_of_le (by omega)]; simp))
    | succ d ih =>
      intro j out hj ho
      have hjl : j < p.length := by omega
      have e : rd_T50 p (j : Int) = p[j] := by simp [rd_T50, hjl]
      have hm := hs _ (List.getElem_mem hjl)
      refine shift ?_
      simp only [spec_l8Copy.l0]
      rw [succ_wrap (by omega), e]
      refine pos (by omega) (bindc rfl (pos (by omega) (pos (by simp; omega) (pos (by omega) ?_))))
      have := ih (j + 1) (out ++ [p[j]]) (by omega) (by simp; omega)
      rw [List.drop_eq_getElem_cons hjl]
      rw [List.append_assoc] at this
      exact this
  have := this p.length 0 [] (by omega) (by simp)
  simpa using this

theorem spec_Min_eq (a b : Int) : spec_Min.f a b = some (mn a b) := by
  unfold spec_Min.f mn
  by_cases h : b < a
  · rw [if_pos h, if_pos h]
  · rw [if_neg h, if_neg h]

theorem spec_Max_eq (a b : Int) : spec_Max.f a b = some (mx a b) := by
  unfold spec_Max.f mx
  by_cases h : b > a
  · rw [if_pos h, if_pos (by omega)]
  · rw [if_neg h, if_neg (by omega)]

theorem planSh_app {a b : List S50} (h : ∀ x ∈ a, x.f0.length ≤ 20) (h2 : ∀ x ∈ b, x.f0.length ≤ 20) (hl : a.length + b.length ≤ 12) : planSh (a ++ b) := by
  refine ⟨by simpa using hl, fun x hx => ?_⟩
  rcases List.mem_append.1 hx with q | q
  · exact h x q
  · exact h2 x q
theorem spec_RotatePlan_ev (p : List S50) (a : Int) (hp : planSh p) : ∃ r, Ev (fun k => spec_RotatePlan.f k p a) r ∧ planSh r := by
  have h12 := hp.1
  have hs : ∀ x ∈ p, x.f0.length ≤ 1048576 := fun x hx => by have := hp.2 x hx; omega
  unfold spec_RotatePlan.f
  by_cases h : 0 ≤ a ∧ a ≤ (p.length : Int) - 1
  · refine ⟨p.drop a.toNat ++ p.take a.toNat, bindc (spec_l1In_eq _ _ _) ?_, planSh_app (fun x hx => hp.2 x (List.mem_of_mem_drop hx)) (fun x hx => hp.2 x (List.mem_of_mem_take hx)) (by simp; omega)⟩
    rw [w64 (x := (p.length : Int) - 1) (by omega) (by omega)]
    exact pos (by simpa using h) (pos h.1 (pos (by omega) (Ev.bind (spec_l8Copy_ev _ (by simp; omega) (fun x hx => hs x (List.mem_of_mem_drop hx))) (Ev.bind (spec_l8Copy_ev _ (by simp; omega) (fun x hx => hs x (List.mem_of_mem_take hx))) (pos (by simp; omega) (now rfl))))))
  · refine ⟨p, bindc (spec_l1In_eq _ _ _) ?_, hp⟩
    rw [w64 (x := (p.length : Int) - 1) (by omega) (by omega)]
    exact neg (by simpa using h) (Ev.bind (spec_l8Copy_ev p (by omega) hs) (now rfl))

theorem spec_l18Two_ev (d : List Int) (hd : d.length ≤ 1048576) (q s : Int) (hq : 0 ≤ q ∧ q ≤ d.length) :
    ∃ l a b q2 s2, Ev (fun k => spec_l18Two.f k d q s) (l, a, b, q2, s2) ∧ (2 ≤ l.length ∧ l.length ≤ 7) ∧ planSh a ∧ planSh b ∧ (0 ≤ q2 ∧ q2 ≤ d.length) := by
  unfold spec_l18Two.f
  obtain ⟨l, a, q1, s1, h1, hl, ha, hq1⟩ := spec_l8Any_ev d hd q s hq
  have h12 := ha.1
  have hs : ∀ x ∈ a, x.f0.length ≤ 1048576 := fun x hx => by have := ha.2 x hx; omega
  have last : ∀ (b : List S50) (q s : Int), planSh b → (0 ≤ q ∧ q ≤ d.length) → ∃ b2 q2 s2, Ev (fun k => spec_l18Two.j2 k l a b d q s) (l, a, b2, q2, s2) ∧ planSh b2 ∧ (0 ≤ q2 ∧ q2 ≤ d.length) := by
    intro b q s hb hq
    obtain ⟨v, q2, s2, e2, hq2⟩ := spec_l1Once_ok d q s 6 hd hq
    by_cases c : v = true
    · obtain ⟨p, hp, ho⟩ := spec_PlanFor_ev l (by omega)
      refine ⟨p, q2, s2, shift ?_, planSh_of ho, hq2⟩
      simp only [spec_l18Two.j2]
      exact bindc e2 (pos c (Ev.bind hp (now rfl)))
    · refine ⟨b, q2, s2, shift ?_, hb, hq2⟩
      simp only [spec_l18Two.j2]
      exact bindc e2 (neg c (now rfl))
  have mid : ∀ (b : List S50) (v : Bool) (q s : Int), planSh b → (0 ≤ q ∧ q ≤ d.length) → ∃ b2 q2 s2, Ev (fun k => spec_l18Two.j1 k l a b v d q s) (l, a, b2, q2, s2) ∧ planSh b2 ∧ (0 ≤ q2 ∧ q2 ≤ d.length) := by
    intro b v q s hb hq
    by_cases c : v = true
    · obtain ⟨n, q2, s2, e2, hq2, _⟩ := spec_l1Below_ok d q s (b.length : Int) hd hq
      obtain ⟨r, hr, hrs⟩ := spec_RotatePlan_ev b n hb
      obtain ⟨b3, q3, s3, h3, r3⟩ := last r q2 s2 hrs hq2
      refine ⟨b3, q3, s3, shift ?_, r3⟩
      simp only [spec_l18Two.j1]
      exact pos c (bindc e2 (Ev.bind hr h3))
    · obtain ⟨b3, q3, s3, h3, r3⟩ := last b q s hb hq
      refine ⟨b3, q3, s3, shift ?_, r3⟩
      simp only [spec_l18Two.j1]
      exact neg c h3
  have main : ∀ (dd i : Nat) (b : List S50) (q s : Int), i + dd = b.length → planSh b → (0 ≤ q ∧ q ≤ d.length) → ∃ b2 q2 s2, Ev (fun k => spec_l18Two.l0 k l a b (i : Int) d q s) (l, a, b2, q2, s2) ∧ planSh b2 ∧ (0 ≤ q2 ∧ q2 ≤ d.length) := by
    intro dd
    induction dd with
    | zero =>
      intro i b q s hi hb hq
      have hb12 := hb.1
      by_cases c : (b.length : Int) > 0
      · obtain ⟨v, q2, s2, e2, hq2⟩ := spec_l1Once_ok d q s 2 hd hq
        obtain ⟨b3, q3, s3, h3, r3⟩ := mid b v q2 s2 hb hq2
        refine ⟨b3, q3, s3, shift ?_, r3⟩
        simp only [spec_l18Two.l0]
        exact neg (by omega) (pos c (bindc e2 h3))
      · obtain ⟨b3, q3, s3, h3, r3⟩ := mid b false q s hb hq
        refine ⟨b3, q3, s3, shift ?_, r3⟩
        simp only [spec_l18Two.l0]
        exact neg (by omega) (neg c h3)
    | succ dd ih =>
      intro i b q s hi hb hq
      have hb12 := hb.1
      obtain ⟨v, q2, s2, e2, hq2, _⟩ := spec_l1Below_ok d q s 5 hd hq
      have hm : (rd_T50 b (i : Int)).f0.length ≤ 20 := hb.2 _ (rd_P_mem b i (by omega))
      obtain ⟨b3, q3, s3, h3, r3⟩ := ih (i + 1) (b.set i ⟨(rd_T50 b (i : Int)).f0, mn 60 (mx 7 (wrap64 (mn 60 (rd_T50 b (i : Int)).f1 + v)))⟩) q2 s2 (by simp; omega) (planSh_set hb i _ hm) hq2
      refine ⟨b3, q3, s3, shift ?_, r3⟩
      simp only [spec_l18Two.l0, Int.toNat_natCast]
      rw [succ_wrap (by omega)]
      exact pos (by omega) (pos (by omega) (bindc (spec_Min_eq _ _) (bindc e2 (bindc (spec_Max_eq _ _) (bindc (spec_Min_eq _ _) h3)))))
  obtain ⟨b2, q2, s2, h2, hb, hq2⟩ := main a.length 0 a q1 s1 (by omega) ha hq1
  exact ⟨l, a, b2, q2, s2, Ev.bind h1 (Ev.bind (spec_l8Copy_ev a (by omega) hs) h2), hl, ha, hb, hq2⟩

theorem spec_l12Arrivals_ev (d : List Int) (hd : d.length ≤ 1048576) (n : Nat) (hn : n ≤ 1000) (q s : Int) (hq : 0 ≤ q ∧ q ≤ d.length) :
    ∃ r q2 s2, Ev (fun k => spec_l12Arrivals.f k d q s (n : Int)) (r, q2, s2) ∧ r.length = n ∧ (0 ≤ q2 ∧ q2 ≤ d.length) := by
  unfold spec_l12Arrivals.f
  have : ∀ (dd i : Nat) (out : List Int) (q s : Int), i + dd = n → out.length = i → (0 ≤ q ∧ q ≤ d.length) → ∃ r q2 s2, Ev (fun k => spec_l12Arrivals.l0 k (n : Int) out (i : Int) d q s) (r, q2, s2) ∧ r.length = n ∧ (0 ≤ q2 ∧ q2 ≤ d.length) := by
    intro dd
    induction dd with
    | zero =>
      intro i out q s hi ho hq
      refine ⟨out, q, s, shift ?_, by omega, hq⟩
      simp only [spec_l12Arrivals.l0]
      exact neg (by omega) (now rfl)
    | succ dd ih =>
      intro i out q s hi ho hq
      obtain ⟨v, q1, s1, e1, hq1, _⟩ := spec_l1Int_ok d q s [0, 0, 0, 1, 1, 2] hd hq (by simp)
      obtain ⟨r, q2, s2, h2, b⟩ := ih (i + 1) (out ++ [v]) q1 s1 (by omega) (by simp; omega) hq1
      refine ⟨r, q2, s2, shift ?_, b⟩
      simp only [spec_l12Arrivals.l0]
      rw [succ_wrap (by omega)]
      exact pos (by omega) (bindc e1 (pos (by omega) h2))
  exact this n 0 [] q s (by omega) (by simp) hq

def strmsSh (s : List S36) : Prop := s.length ≤ 12 ∧ ∀ x ∈ s, x.f1.length ≤ 50
theorem rd_Strm_mem (s : List S36) (h : 0 < s.length) : rd_T36 s 0 ∈ s := by
  have : rd_T36 s 0 = s[0] := by simp [rd_T36, h]
  rw [this]
  exact List.getElem_mem h
theorem strmsSh_set {s : List S36} (h : strmsSh s) (x : S36) (hx : x.f1.length ≤ 50) : strmsSh (s.set 0 x) := by
  refine ⟨by simpa using h.1, fun y hy => ?_⟩
  rcases List.mem_or_eq_of_mem_set hy with q | q
  · exact h.2 y q
  · rw [q]
    exact hx
theorem spec_l30Streams_ev (d : List Int) (hd : d.length ≤ 1048576) (l : List S73) (hl : l.length ≤ 12) (q s : Int) (hq : 0 ≤ q ∧ q ≤ d.length) :
    ∃ r q2 s2, Ev (fun k => spec_l30Streams.f k d q s l) (r, q2, s2) ∧ strmsSh r ∧ (0 ≤ q2 ∧ q2 ≤ d.length) := by
  unfold spec_l30Streams.f
  obtain ⟨n0, q0, s0, e0, hq0, n00, n01⟩ := spec_l1Below_ok d q s 40 hd hq
  have n01 := n01 (by omega)
  obtain ⟨n, rfl⟩ := Int.eq_ofNat_of_zero_le n00
  have : ∀ (dd i : Nat) (out : List S36) (q s : Int), i + dd = l.length → out.length ≤ i → (∀ x ∈ out, x.f1.length = n) → (0 ≤ q ∧ q ≤ d.length) → ∃ r q2 s2, Ev (fun k => spec_l30Streams.l0 k l out (n : Int) (i : Int) d q s) (r, q2, s2) ∧ strmsSh r ∧ (0 ≤ q2 ∧ q2 ≤ d.length) := by
    intro dd
    induction dd with
    | zero =>
      intro i out q s hi ho hx hq
      have hsh : strmsSh out := ⟨by omega, fun x h => by rw [hx x h]; omega⟩
      by_cases c : (out.length : Int) > 0
      · have hm := hx _ (rd_Strm_mem out (by omega))
        obtain ⟨j, q1, s1, e1, hq1, _⟩ := spec_l1Below_ok d q s 10 hd hq
        by_cases c0 : j = 0
        · obtain ⟨x, q2, s2, e2, hq2, _⟩ := spec_l1Below_ok d q1 s1 22 hd hq1
          refine ⟨_, q2, s2, shift ?_, strmsSh_set hsh ⟨x, (rd_T36 out 0).f1⟩ (by dsimp only; omega), hq2⟩
          simp only [spec_l30Streams.l0]
          exact neg (by omega) (pos c (bindc e1 (pos c0 (bindc e2 (pos (by omega) (now rfl))))))
        by_cases c1 : j = 1
        · refine ⟨_, q1, s1, shift ?_, strmsSh_set hsh ⟨(rd_T36 out 0).f0, (rd_T36 out 0).f1 ++ [1]⟩ (by simp; omega), hq1⟩
          simp only [spec_l30Streams.l0]
          exact neg (by omega) (pos c (bindc e1 (neg c0 (pos c1 (pos (by omega) (pos (by omega) (now rfl)))))))
        by_cases c2 : j = 2
        · by_cases c3 : (n : Int) > 0
          · obtain ⟨x, q2, s2, e2, hq2, _⟩ := spec_l1Int_ok d q1 s1 [(-1), 20, 21] hd hq1 (by simp)
            refine ⟨_, q2, s2, shift ?_, strmsSh_set hsh ⟨(rd_T36 out 0).f0, (rd_T36 out 0).f1.set 0 x⟩ (by simp; omega), hq2⟩
            simp only [spec_l30Streams.l0]
            exact neg (by omega) (pos c (bindc e1 (neg c0 (neg c1 (pos c2 (pos c3 (pos (by omega) (bindc e2 (pos (by omega) (now rfl))))))))))
          · refine ⟨out, q1, s1, shift ?_, hsh, hq1⟩
            simp only [spec_l30Streams.l0]
            exact neg (by omega) (pos c (bindc e1 (neg c0 (neg c1 (pos c2 (neg c3 (now rfl)))))))
        · refine ⟨out, q1, s1, shift ?_, hsh, hq1⟩
          simp only [spec_l30Streams.l0]
          exact neg (by omega) (pos c (bindc e1 (neg c0 (neg c1 (neg c2 (now rfl))))))
      · refine ⟨out, q, s, shift ?_, hsh, hq⟩
        simp only [spec_l30Streams.l0]
        exact neg (by omega) (neg c (now rfl))
    | succ dd ih =>
      intro i out q s hi ho hx hq
      obtain ⟨v, q1, s1, e1, hq1⟩ := spec_l1Once_ok d q s 2 hd hq
      by_cases c : v = true
      · obtain ⟨a, q2, s2, h2, ha, hq2⟩ := spec_l12Arrivals_ev d hd n (by omega) q1 s1 hq1
        obtain ⟨r, q3, s3, h3, b⟩ := ih (i + 1) (out ++ [⟨(rd_T73 l (i : Int)).f0, a⟩]) q2 s2 (by omega) (by simp; omega) (fun x h => by
          rcases List.mem_append.1 h with g | g
          · exact hx x g
          · rw [List.mem_singleton.1 g]
            exact ha) hq2
        refine ⟨r, q3, s3, shift ?_, b⟩
        simp only [spec_l30Streams.l0]
        rw [succ_wrap (by omega)]
        exact pos (by omega) (bindc e1 (pos c (pos (by omega) (Ev.bind h2 (pos (by omega) h3)))))
      · obtain ⟨r, q3, s3, h3, b⟩ := ih (i + 1) out q1 s1 (by omega) (by omega) hx hq1
        refine ⟨r, q3, s3, shift ?_, b⟩
        simp only [spec_l30Streams.l0]
        rw [succ_wrap (by omega)]
        exact pos (by omega) (bindc e1 (neg c h3))
  obtain ⟨r, q2, s2, h2, b⟩ := this l.length 0 [] q0 s0 (by omega) (by simp) (fun x h => absurd h (by simp)) hq0
  exact ⟨r, q2, s2, bindc e0 h2, b⟩

theorem spec_DrawBetterPlan_ev (d : List Int) (hd : d.length ≤ 1048576) : ∃ l q s, Ev (fun k => spec_DrawBetterPlan.f k d) (l, q, s) ∧ (2 ≤ l.length ∧ l.length ≤ 7) ∧ (q.length = 3 ∧ ∀ p ∈ q, planSh p) ∧ strmsSh s := by
  unfold spec_DrawBetterPlan.f
  obtain ⟨s, h1⟩ := spec_l1New_ev d
  obtain ⟨l, a, b, q1, s1, h2, hl, ha, hb, hq1⟩ := spec_l18Two_ev d hd 0 s (by omega)
  obtain ⟨p, hp, ho⟩ := spec_PlanFor_ev l (by omega)
  obtain ⟨st, q2, s2, h3, hst, _⟩ := spec_l30Streams_ev d hd l (by omega) q1 s1 hq1
  refine ⟨l, [a, b, p], st, Ev.bind h1 (Ev.bind h2 (Ev.bind hp (Ev.bind h3 (now rfl)))), hl, ⟨rfl, fun x hx => ?_⟩, hst⟩
  simp only [List.mem_cons, List.not_mem_nil, or_false] at hx
  rcases hx with rfl | rfl | rfl
  · exact ha
  · exact hb
  · exact planSh_of ho

theorem impl_InRange_eq (a b c : Int) : impl_InRange.f a b c = some (decide (b ≤ a ∧ a ≤ c)) := by
  unfold impl_InRange.f
  by_cases h : b ≤ a
  · rw [if_pos h]
    simp [h]
  · rw [if_neg h]
    simp [h]

theorem impl_IsPath_eq (a b c d : Int) : impl_IsPath.f a b c d = some (isPath a b c d) := by
  unfold impl_IsPath.f isPath
  simp only [impl_InRange_eq, Option.bind_some]
  by_cases h1 : 1 ≤ a ∧ a ≤ 20 <;> by_cases h2 : 1 ≤ b ∧ b ≤ 3 <;> by_cases h3 : 0 ≤ c ∧ c ≤ 3 <;> by_cases h4 : 0 ≤ d ∧ d ≤ 3 <;> simp [h1, h2, h3, h4]

theorem impl_ArePaths_ev (l : List S73) : Ev (fun k => impl_ArePaths.f k l) (arePaths l) := by
  unfold impl_ArePaths.f arePaths
  by_cases hr : l.length ≤ 12
  · rw [decide_eq_true hr]
    refine neg (by omega) (all_loop (g := fun k j => impl_ArePaths.l0 k l l (l.length : Int) (j : Int)) l.length (pathAt l) _ ?_ ?_ ?_)
    · intro j r hj ok h
      simp only [pathAt, Bool.and_eq_true, decide_eq_true_eq] at ok
      refine shift ?_
      simp only [impl_ArePaths.l0]
      refine pos (nat_lt hj) (pos (by omega) (pos (nat_lt hj) (bindc (impl_IsPath_eq _ _ _ _) (pos ok.1 ?_))))
      rw [succ_wrap (by omega)]
      by_cases h0 : (j : Int) > 0
      · rw [w64 (by omega) (by omega)]
        exact pos h0 (pos (by omega) (pos (by omega) (neg (by have := ok.2 (by omega); omega) h)))
      · exact neg h0 h
    · intro j hj ok
      refine shift ?_
      simp only [impl_ArePaths.l0]
      refine pos (nat_lt hj) (pos (by omega) (pos (nat_lt hj) (bindc (impl_IsPath_eq _ _ _ _) ?_)))
      by_cases h1 : isPath (rd_T73 l j).f0 (rd_T73 l j).f1 (rd_T73 l j).f2 (rd_T73 l j).f3 = true
      · refine pos h1 ?_
        have h2 : ¬ (0 < j → (rd_T73 l ((j : Int) - 1)).f0 < (rd_T73 l j).f0) := by simpa [pathAt, h1] using ok
        rw [w64 (x := (j : Int) - 1) (by omega) (by omega)]
        exact pos (by omega) (pos (by omega) (pos (by omega) (pos (by omega) (now rfl))))
      · exact neg h1 (now rfl)
    · refine shift ?_
      simp only [impl_ArePaths.l0]
      exact neg (nat_ge (Nat.le_refl _)) (now rfl)
  · rw [decide_eq_false hr, Bool.and_false]
    exact pos (by omega) (now rfl)

set_option maxRecDepth 10000 in
theorem impl_Interleave_ev (a b c d : Int) (ha : 0 ≤ a ∧ a ≤ 3) (hb : 0 ≤ b ∧ b ≤ 3) (hc : 0 ≤ c ∧ c ≤ 3) (hd : 0 ≤ d ∧ d ≤ 3) : Ev (fun k => impl_Interleave.f k (2 * a) (2 * b + 1) (2 * c) (2 * d + 1)) (if a = c ∨ b = d then false else interB (2 * a) (2 * b + 1) (2 * c) (2 * d + 1)) := by
  refine ⟨10, fun k hk => ?_⟩
  obtain ⟨m, rfl⟩ := Nat.exists_eq_add_of_le' hk
  rcases four_of ha with rfl | rfl | rfl | rfl <;> rcases four_of hb with rfl | rfl | rfl | rfl <;> rcases four_of hc with rfl | rfl | rfl | rfl <;> rcases four_of hd with rfl | rfl | rfl | rfl <;> (show impl_Interleave.f (m + 10) _ _ _ _ = some _; kernel_rfl)

theorem impl_InPlace_eq (a : Int) (h : 0 ≤ a ∧ a ≤ 3) : impl_InPlace.f a = some (2 * a) := by
  unfold impl_InPlace.f
  rw [impl_InRange_eq, Option.bind_some, if_pos (by simpa using h), w64 (by omega) (by omega)]

theorem impl_OutPlace_eq (a : Int) (h : 0 ≤ a ∧ a ≤ 3) : impl_OutPlace.f a = some (2 * a + 1) := by
  unfold impl_OutPlace.f
  rw [impl_InRange_eq, Option.bind_some, if_pos (by simpa using h), w64 (x := 2 * a) (by omega) (by omega), w64 (by omega) (by omega)]

theorem impl_Conflict_ev (a0 a1 a2 a3 b0 b1 b2 b3 : Int) : Ev (fun k => impl_Conflict.f k a0 a1 a2 a3 b0 b1 b2 b3) (conflict a0 a1 a2 a3 b0 b1 b2 b3) := by
  have yes : Ev (fun k => impl_Conflict.j0 k true a0 a1 a2 a3 b0 b1 b2 b3) false := by
    refine shift ?_
    simp only [impl_Conflict.j0]
    exact pos trivial (now rfl)
  have no : isPath a0 a1 a2 a3 = true → isPath b0 b1 b2 b3 = true → Ev (fun k => impl_Conflict.j0 k false a0 a1 a2 a3 b0 b1 b2 b3) (confl a1 a2 a3 b1 b2 b3) := by
    intro h1 h2
    have h1 := (isPath_iff _ _ _ _).1 h1
    have h2 := (isPath_iff _ _ _ _).1 h2
    refine shift ?_
    simp only [impl_Conflict.j0]
    refine neg (by simp) ?_
    unfold confl
    by_cases c1 : a1 = 2
    · rw [if_pos c1]
      refine pos c1 ?_
      by_cases c2 : b2 = a2
      · exact pos c2 (now (by simp [c2]))
      · exact neg c2 (now (by simp [c2]))
    · rw [if_neg c1]
      refine neg c1 ?_
      by_cases c2 : b1 = 2
      · rw [if_pos c2]
        refine pos c2 ?_
        by_cases c3 : a2 = b2
        · exact pos c3 (now (by simp [c3]))
        · exact neg c3 (now (by simp [c3]))
      · rw [if_neg c2]
        refine neg c2 ?_
        by_cases c3 : a2 = b2
        · rw [if_pos c3]
          have hi := impl_Interleave_ev a2 a3 b2 b3 h1.2.2.1 h1.2.2.2.1 h2.2.2.1 h2.2.2.2.1
          rw [if_pos (.inl c3)] at hi
          exact pos c3 (bindc (impl_InPlace_eq _ h1.2.2.1) (bindc (impl_OutPlace_eq _ h1.2.2.2.1) (bindc (impl_InPlace_eq _ h2.2.2.1) (bindc (impl_OutPlace_eq _ h2.2.2.2.1) (Ev.bind hi (now rfl))))))
        · rw [if_neg c3]
          refine neg c3 ?_
          by_cases c4 : a3 = b3
          · rw [if_pos c4]
            exact pos c4 (now rfl)
          · rw [if_neg c4]
            have hi := impl_Interleave_ev a2 a3 b2 b3 h1.2.2.1 h1.2.2.2.1 h2.2.2.1 h2.2.2.2.1
            rw [if_neg (fun g => g.elim c3 c4)] at hi
            exact neg c4 (bindc (impl_InPlace_eq _ h1.2.2.1) (bindc (impl_OutPlace_eq _ h1.2.2.2.1) (bindc (impl_InPlace_eq _ h2.2.2.1) (bindc (impl_OutPlace_eq _ h2.2.2.2.1) (Ev.bind hi (now rfl))))))
  unfold impl_Conflict.f conflict
  refine bindc (impl_IsPath_eq _ _ _ _) ?_
  by_cases h1 : isPath a0 a1 a2 a3 = true
  · refine pos h1 (bindc (impl_IsPath_eq _ _ _ _) ?_)
    by_cases h2 : isPath b0 b1 b2 b3 = true
    · refine pos h2 ?_
      by_cases c1 : a1 = 2
      · refine pos c1 ?_
        by_cases c2 : b1 = 2
        · rw [if_neg (fun g => g.2.2 ⟨c1, c2⟩), show (b1 == 2) = true by simp [c2]]
          exact yes
        · rw [if_pos ⟨h1, h2, fun g => c2 g.2⟩, show (b1 == 2) = false by simp [c2]]
          exact no h1 h2
      · rw [if_pos ⟨h1, h2, fun g => c1 g.1⟩]
        exact neg c1 (no h1 h2)
    · rw [if_neg (fun g => h2 g.2.1)]
      exact neg h2 yes
  · rw [if_neg (fun g => h1 g.1)]
    exact neg h1 yes

theorem impl_IsTogether_ev (l : List S73) (ids : List Int) (hl : l.length ≤ 1048576) (hi : ids.length ≤ 1048576) : Ev (fun k => impl_IsTogether.f k l ids) (together l ids) := by
  unfold impl_IsTogether.f together
  have find : ∀ n, impl_FindPath.f l n = some (fp l n) := fun n => impl_FindPath_eq l n
  refine Ev.bind (impl_ArePaths_ev l) ?_
  by_cases hp : arePaths l = true
  · rw [hp]
    refine pos rfl ?_
    have yes : ∀ i x y z : Int, Ev (fun k => impl_IsTogether.j1 k l ids i x ids y z true) false := by
      intro i x y z
      refine shift ?_
      simp only [impl_IsTogether.j1]
      exact pos trivial (now rfl)
    have head : ∀ (j : Nat) (r : Bool), j < ids.length → togHead l ids j = true → Ev (fun k => impl_IsTogether.l1 k l ids (fp l (rd ids j)) ids (ids.length : Int) (j : Int) (ids.take j) (j : Int) 0) r → Ev (fun k => impl_IsTogether.l0 k l ids ids (ids.length : Int) (j : Int)) r := by
      intro j r hj ok h
      simp only [togHead, decide_eq_true_eq] at ok
      have no : Ev (fun k => impl_IsTogether.j1 k l ids (j : Int) (fp l (rd ids j)) ids (ids.length : Int) (j : Int) false) r := by
        refine shift ?_
        simp only [impl_IsTogether.j1]
        refine neg (by decide) (pos (by omega) (pos (by omega) ?_))
        rw [Int.toNat_natCast, take_len ids j hj]
        exact h
      refine shift ?_
      simp only [impl_IsTogether.l0]
      refine pos (nat_lt hj) (pos (by omega) (pos (nat_lt hj) (bindc (find _) (neg ok.1 ?_))))
      by_cases h0 : (j : Int) > 0
      · rw [w64 (x := (j : Int) - 1) (by omega) (by omega)]
        refine pos h0 (pos (by omega) (pos (by omega) ?_))
        rw [show decide (rd ids (j : Int) ≤ rd ids ((j : Int) - 1)) = false from decide_eq_false (by have := ok.2 (by omega); omega)]
        exact no
      · exact neg h0 no
    have good : ∀ (i j : Nat) (r : Bool), i < ids.length → (∀ q, q < i → 0 ≤ fp l (rd ids q) ∧ fp l (rd ids q) < l.length) → (0 ≤ fp l (rd ids i) ∧ fp l (rd ids i) < l.length) → j < i → togPair l ids i j = true →
        Ev (fun k => impl_IsTogether.l1 k l ids (fp l (rd ids i)) ids (ids.length : Int) (i : Int) (ids.take i) (i : Int) ((j + 1 : Nat) : Int)) r → Ev (fun k => impl_IsTogether.l1 k l ids (fp l (rd ids i)) ids (ids.length : Int) (i : Int) (ids.take i) (i : Int) (j : Int)) r := by
      intro i j r hil hq hf hj ok h
      have hf2 := hq j hj
      refine shift ?_
      simp only [impl_IsTogether.l1]
      rw [succ_wrap (by omega), take_len ids i hil, rd_take ids i j hj]
      refine pos (nat_lt hj) (pos (by omega) (pos (nat_lt hj) (pos hf.1 (pos hf.2 (bindc (find _) (pos hf2.1 (pos hf2.2 (Ev.bind (impl_Conflict_ev _ _ _ _ _ _ _ _) (neg ?_ h)))))))))
      simpa [togPair, conP] using ok
    have bad : ∀ (i j : Nat), i < ids.length → (∀ q, q < i → 0 ≤ fp l (rd ids q) ∧ fp l (rd ids q) < l.length) → (0 ≤ fp l (rd ids i) ∧ fp l (rd ids i) < l.length) → j < i → togPair l ids i j = false →
        Ev (fun k => impl_IsTogether.l1 k l ids (fp l (rd ids i)) ids (ids.length : Int) (i : Int) (ids.take i) (i : Int) (j : Int)) false := by
      intro i j hil hq hf hj ok
      have hf2 := hq j hj
      refine shift ?_
      simp only [impl_IsTogether.l1]
      rw [take_len ids i hil, rd_take ids i j hj]
      refine pos (nat_lt hj) (pos (by omega) (pos (nat_lt hj) (pos hf.1 (pos hf.2 (bindc (find _) (pos hf2.1 (pos hf2.2 (Ev.bind (impl_Conflict_ev _ _ _ _ _ _ _ _) (pos ?_ (now rfl))))))))))
      simpa [togPair, conP] using ok
    refine all_loopI (g := fun k j => impl_IsTogether.l0 k l ids ids (ids.length : Int) (j : Int)) ids.length (togAt l ids) true ?_ ?_ ?_
    · intro j r hj ok h
      have okj := ok j (Nat.le_refl _)
      have hf := togAt_found okj
      simp only [togAt, Bool.and_eq_true] at okj
      refine head j r hj okj.1 ?_
      refine ok_loop (g := fun k i => impl_IsTogether.l1 k l ids (fp l (rd ids j)) ids (ids.length : Int) (j : Int) (ids.take j) (j : Int) (i : Int)) j _ okj.2 (fun i r hi o g => good j i r hj (fun q hq => togAt_found (ok q (by omega))) hf hi o g) ?_
      refine shift ?_
      simp only [impl_IsTogether.l1]
      refine neg (nat_ge (Nat.le_refl _)) ?_
      rw [succ_wrap (by omega)]
      exact h
    · intro j hj ok okj
      by_cases hh : togHead l ids j = true
      · have hall : ¬ (List.range j).all (togPair l ids j) = true := by
          intro g
          rw [togAt, hh, g] at okj
          exact absurd okj (by decide)
        have hf : 0 ≤ fp l (rd ids j) ∧ fp l (rd ids j) < l.length := by
          have := hh
          simp only [togHead, decide_eq_true_eq] at this
          have := fp_range l (rd ids j)
          omega
        refine head j false hj hh ?_
        exact bad_loop (g := fun k i => impl_IsTogether.l1 k l ids (fp l (rd ids j)) ids (ids.length : Int) (j : Int) (ids.take j) (j : Int) (i : Int)) j _ false hall (fun i r hi o g => good j i r hj (fun q hq => togAt_found (ok q hq)) hf hi o g) (fun i hi o => bad j i hj (fun q hq => togAt_found (ok q hq)) hf hi o)
      · refine shift ?_
        simp only [impl_IsTogether.l0]
        refine pos (nat_lt hj) (pos (by omega) (pos (nat_lt hj) (bindc (find _) ?_)))
        by_cases h1 : fp l (rd ids j) < 0
        · exact pos h1 (yes _ _ _ _)
        · have h2 : ¬ (0 < j → rd ids ((j : Int) - 1) < rd ids j) := fun g => hh (by simp only [togHead]; exact decide_eq_true ⟨h1, g⟩)
          refine neg h1 (pos (by omega) ?_)
          rw [w64 (x := (j : Int) - 1) (by omega) (by omega)]
          refine pos (by omega) (pos (by omega) ?_)
          rw [show decide (rd ids (j : Int) ≤ rd ids ((j : Int) - 1)) = true from decide_eq_true (by omega)]
          exact yes _ _ _ _
    · intro _
      refine shift ?_
      simp only [impl_IsTogether.l0]
      exact neg (nat_ge (Nat.le_refl _)) (now rfl)
  · exact neg hp (now (by simp [hp]))

theorem impl_LeastGreen_ev (l : List S73) (st : List Int) (hs : st.length ≤ 1048576) : Ev (fun k => impl_LeastGreen.f k l st) (leastG l st) := by
  unfold impl_LeastGreen.f leastG
  have find : ∀ n, impl_FindPath.f l n = some (fp l n) := fun n => impl_FindPath_eq l n
  have good : ∀ j r, j < st.length → notWalk l st j = true → Ev (fun k => impl_LeastGreen.l0 k l st (st.length : Int) ((j + 1 : Nat) : Int)) r → Ev (fun k => impl_LeastGreen.l0 k l st (st.length : Int) (j : Int)) r := by
    intro j r hj ok h
    simp only [notWalk, Bool.not_eq_true', decide_eq_false_iff_not] at ok
    have := fp_range l (rd st j)
    refine shift ?_
    simp only [impl_LeastGreen.l0]
    rw [succ_wrap (by omega)]
    refine pos (nat_lt hj) (pos (by omega) (pos (nat_lt hj) (bindc (find _) ?_)))
    by_cases h0 : fp l (rd st j) ≥ 0
    · exact pos h0 (pos h0 (pos (by omega) (neg (fun g => ok ⟨h0, g⟩) h)))
    · exact neg h0 h
  by_cases h : (List.range st.length).all (notWalk l st) = true
  · rw [if_pos h]
    refine ok_loop (g := fun k j => impl_LeastGreen.l0 k l st (st.length : Int) (j : Int)) st.length _ h good ?_
    refine shift ?_
    simp only [impl_LeastGreen.l0]
    exact neg (nat_ge (Nat.le_refl _)) (now rfl)
  · rw [if_neg h]
    refine bad_loop (g := fun k j => impl_LeastGreen.l0 k l st (st.length : Int) (j : Int)) st.length _ 7 h good ?_
    intro j hj ok
    simp only [notWalk, Bool.not_eq_false', decide_eq_true_eq] at ok
    have := fp_range l (rd st j)
    refine shift ?_
    simp only [impl_LeastGreen.l0]
    exact pos (nat_lt hj) (pos (by omega) (pos (nat_lt hj) (bindc (find _) (pos ok.1 (pos ok.1 (pos (by omega) (pos ok.2 (now rfl))))))))

theorem impl_isCovered_ev (l : List (List Int)) (a : Int) (h : ∀ x ∈ l, x.length ≤ 1048576) : Ev (fun k => impl_isCovered.f k l a) (l.any fun s => decide (a ∈ s)) := by
  unfold impl_isCovered.f
  induction l with
  | nil => exact now rfl
  | cons x r ih =>
    simp only [impl_isCovered.from_, List.any_cons]
    have hx := h x List.mem_cons_self
    refine Ev.bind (slices_Contains_int_int_ev x a (by omega)) ?_
    by_cases c : a ∈ x
    · rw [decide_eq_true c, Bool.true_or]
      exact pos rfl (now rfl)
    · rw [decide_eq_false c, Bool.false_or]
      exact neg (by decide) (ih fun y hy => h y (List.mem_cons_of_mem _ hy))

theorem impl_Covers_ev (l : List S73) (ss : List (List Int)) (hl : l.length ≤ 1048576) (hn : ss.length ≤ 1048576) (hs : ∀ x ∈ ss, x.length ≤ 1048576) : Ev (fun k => impl_Covers.f k l ss) (covers l ss) := by
  unfold impl_Covers.f covers
  refine Ev.bind (impl_ArePaths_ev l) ?_
  by_cases hp : arePaths l = true
  · rw [hp]
    refine pos rfl ?_
    refine all_loop (g := fun k j => impl_Covers.l0 k l ss ss (ss.length : Int) (j : Int)) ss.length (fun k => together l (rowL ss k)) _ ?_ ?_ ?_
    · intro j r hj ok h
      refine shift ?_
      simp only [impl_Covers.l0]
      rw [succ_wrap (by omega)]
      exact pos (nat_lt hj) (pos (by omega) (pos (nat_lt hj) (Ev.bind (impl_IsTogether_ev l (rowL ss j) hl (rowL_short ss hs j hj)) (pos ok h))))
    · intro j hj ok
      refine shift ?_
      simp only [impl_Covers.l0]
      exact pos (nat_lt hj) (pos (by omega) (pos (nat_lt hj) (Ev.bind (impl_IsTogether_ev l (rowL ss j) hl (rowL_short ss hs j hj)) (neg (by rw [ok]; decide) (now rfl)))))
    · refine shift ?_
      simp only [impl_Covers.l0]
      refine neg (nat_ge (Nat.le_refl _)) ?_
      refine all_loop (g := fun k i => impl_Covers.l1 k ss l (l.length : Int) (i : Int)) l.length (covAt l ss) _ ?_ ?_ ?_
      · intro i r hi ok h
        refine shift ?_
        simp only [impl_Covers.l1]
        rw [succ_wrap (by omega)]
        exact pos (nat_lt hi) (pos (by omega) (pos (nat_lt hi) (Ev.bind (impl_isCovered_ev ss _ hs) (pos ok h))))
      · intro i hi ok
        refine shift ?_
        simp only [impl_Covers.l1]
        refine pos (nat_lt hi) (pos (by omega) (pos (nat_lt hi) (Ev.bind (impl_isCovered_ev ss _ hs) (neg ?_ (now rfl)))))
        show ¬ covAt l ss i = true
        rw [ok]
        decide
      · refine shift ?_
        simp only [impl_Covers.l1]
        exact neg (nat_ge (Nat.le_refl _)) (now rfl)
  · exact neg hp (now (by simp [hp]))

theorem impl_IsPlan_ev (l : List S73) (p : List S50) (hl : l.length ≤ 1048576) (hp : p.length ≤ 1048576) (hs : ∀ x ∈ p, x.f0.length ≤ 1048576) : Ev (fun k => impl_IsPlan.f k l p) (isPlan l p) := by
  unfold impl_IsPlan.f isPlan
  refine bindc (impl_InRange_eq _ _ _) ?_
  by_cases hr : 1 ≤ (p.length : Int) ∧ (p.length : Int) ≤ 6
  · rw [decide_eq_true hr, Bool.true_and]
    refine pos rfl (all_loop (g := fun k j => impl_IsPlan.l0 k l ((p.take j).map (·.f0)) p (p.length : Int) (j : Int)) p.length (partOk l p) _ ?_ ?_ ?_ |> (fun h => by simpa using h))
    · intro j r hj ok h
      simp only [partOk, Bool.and_eq_true, decide_eq_true_eq] at ok
      have hx := part_short p hs j hj
      refine shift ?_
      simp only [impl_IsPlan.l0]
      rw [succ_wrap (by omega)]
      rw [take_snoc p j hj, List.map_append] at h
      refine pos (nat_lt hj) (pos (by omega) (pos (nat_lt hj) (neg ok.1 (Ev.bind (impl_IsTogether_ev l _ hl hx) (pos ok.2.1 (Ev.bind (impl_LeastGreen_ev l _ hx) (bindc (impl_InRange_eq _ _ _) (pos (decide_eq_true ok.2.2) (pos (by simp; omega) ?_)))))))))
      rw [rdPart p j hj]
      exact h
    · intro j hj ok
      have hx := part_short p hs j hj
      refine shift ?_
      simp only [impl_IsPlan.l0]
      refine pos (nat_lt hj) (pos (by omega) (pos (nat_lt hj) ?_))
      by_cases h1 : ((rd_T50 p j).f0.length : Int) = 0
      · exact pos h1 (now rfl)
      refine neg h1 (Ev.bind (impl_IsTogether_ev l _ hl hx) ?_)
      by_cases h2 : together l (rd_T50 p j).f0 = true
      · have h3 : decide (leastG l (rd_T50 p j).f0 ≤ (rd_T50 p j).f1 ∧ (rd_T50 p j).f1 ≤ 60) = false := by
          rw [partOk, decide_eq_true h1, h2, Bool.true_and, Bool.true_and] at ok
          exact ok
        exact pos h2 (Ev.bind (impl_LeastGreen_ev l _ hx) (bindc (impl_InRange_eq _ _ _) (neg (by rw [h3]; decide) (now rfl))))
      · exact neg h2 (now rfl)
    · refine shift ?_
      simp only [impl_IsPlan.l0]
      rw [List.take_length]
      exact neg (nat_ge (Nat.le_refl _)) (Ev.bind (impl_Covers_ev l _ hl (by simpa using hp) (stages_short p hs)) (now rfl))
  · rw [decide_eq_false hr, Bool.false_and]
    exact neg (by decide) (now rfl)

def rangeAt (row : List Int) (a b : Int) (i : Nat) : Bool := decide (a ≤ rd row i ∧ rd row i ≤ b)
def streamAt (ps : List S73) (ss : List S36) (j : Nat) : Bool :=
  decide (¬ impl_FindPath.from_ (rd_T36 ss j).f0 ps 0 < 0 ∧ (rd_T36 ss j).f1.length = (rd_T36 ss 0).f1.length ∧ (rd_T36 ss j).f1.length ≤ 300) && (List.range (rd_T36 ss j).f1.length).all (rangeAt (rd_T36 ss j).f1 0 20)
def areStreams (ps : List S73) (ss : List S36) : Bool := (List.range ss.length).all (streamAt ps ss) && (arePaths ps && decide (ss.length ≤ 12))

theorem impl_AreStreams_ev (ps : List S73) (ss : List S36) : Ev (fun k => impl_AreStreams.f k ps ss) (areStreams ps ss) := by
  unfold impl_AreStreams.f areStreams
  refine Ev.bind (impl_ArePaths_ev _) ?_
  by_cases h : arePaths ps = true
  · rw [h, Bool.true_and]
    refine pos rfl (shift ?_)
    simp only [impl_AreStreams.j0]
    by_cases hl : ss.length ≤ 12
    · rw [decide_eq_true hl]
      refine neg (by simp; omega) (all_loop (g := fun k j => impl_AreStreams.l0 k ps ss ss (ss.length : Int) (j : Int)) ss.length (streamAt ps ss) _ ?_ ?_ ?_)
      · intro j r hj ok h
        simp only [streamAt, Bool.and_eq_true, decide_eq_true_eq] at ok
        obtain ⟨⟨h1, h2, h3⟩, h4⟩ := ok
        refine shift ?_
        simp only [impl_AreStreams.l0]
        refine pos (nat_lt hj) (pos (by omega) (pos (nat_lt hj) (bindc (impl_FindPath_eq _ _) (neg h1 (neg (by omega) (pos (by omega) ?_))))))
        refine shift ?_
        simp only [impl_AreStreams.j2]
        refine neg (by simp; omega) (ok_loop (g := fun k i => impl_AreStreams.l1 k ps ss ss (ss.length : Int) (j : Int) (rd_T36 ss j).f1 ((rd_T36 ss j).f1.length : Int) (i : Int)) _ _ h4 ?_ ?_)
        · intro i r hi oki hh
          refine shift ?_
          simp only [impl_AreStreams.l1]
          refine pos (nat_lt hi) (pos (by omega) (pos (nat_lt hi) (bindc (impl_InRange_eq _ _ _) (pos oki ?_))))
          rw [succ_wrap (by omega)]
          exact hh
        · refine shift ?_
          simp only [impl_AreStreams.l1]
          refine neg (nat_ge (Nat.le_refl _)) ?_
          rw [succ_wrap (by omega)]
          exact h
      · intro j hj ok
        refine shift ?_
        simp only [impl_AreStreams.l0]
        refine pos (nat_lt hj) (pos (by omega) (pos (nat_lt hj) (bindc (impl_FindPath_eq _ _) ?_)))
        by_cases h1 : impl_FindPath.from_ (rd_T36 ss j).f0 ps 0 < 0
        · refine pos h1 (shift ?_)
          simp only [impl_AreStreams.j2]
          exact pos trivial (now rfl)
        refine neg h1 ?_
        by_cases h3 : (rd_T36 ss j).f1.length ≤ 300
        · refine neg (by omega) (pos (by omega) (shift ?_))
          simp only [impl_AreStreams.j2]
          by_cases h2 : ((rd_T36 ss j).f1.length : Int) = ((rd_T36 ss 0).f1.length : Int)
          · have h4 : ¬ (List.range (rd_T36 ss j).f1.length).all (rangeAt (rd_T36 ss j).f1 0 20) = true := by
              intro h4
              simp only [streamAt, h4, Bool.and_true] at ok
              simp at ok
              omega
            refine neg (by simp; omega) (bad_loop (g := fun k i => impl_AreStreams.l1 k ps ss ss (ss.length : Int) (j : Int) (rd_T36 ss j).f1 ((rd_T36 ss j).f1.length : Int) (i : Int)) _ _ _ h4 ?_ ?_)
            · intro i r hi oki hh
              refine shift ?_
              simp only [impl_AreStreams.l1]
              refine pos (nat_lt hi) (pos (by omega) (pos (nat_lt hi) (bindc (impl_InRange_eq _ _ _) (pos oki ?_))))
              rw [succ_wrap (by omega)]
              exact hh
            · intro i hi oki
              refine shift ?_
              simp only [impl_AreStreams.l1]
              exact pos (nat_lt hi) (pos (by omega) (pos (nat_lt hi) (bindc (impl_InRange_eq _ _ _) (neg (by rw [rangeAt] at oki; rw [oki]; simp) (now rfl)))))
          · exact pos (by simp; omega) (now rfl)
        · refine pos (by omega) (shift ?_)
          simp only [impl_AreStreams.j2]
          exact pos trivial (now rfl)
      · refine shift ?_
        simp only [impl_AreStreams.l0]
        exact neg (nat_ge (Nat.le_refl _)) (now rfl)
    · rw [decide_eq_false hl, Bool.and_false]
      exact pos (by simp; omega) (now rfl)
  · refine neg h (shift ?_)
    simp only [impl_AreStreams.j0]
    exact pos trivial (now (by simp [h]))

def qStep (w a : Int) (o : Bool) : Int := if (0 ≤ w ∧ w ≤ 10000) ∧ (0 ≤ a ∧ a ≤ 10000) then (if o = true then mx 0 (mn 10000 (w + a - 1)) else mx 0 (mn 10000 (w + a))) else 0
theorem mn_comm (a b : Int) : mn a b = mn b a := by unfold mn; split <;> split <;> omega

def twFrom (q : List Int) : Nat → Nat → Int → Int
  | 0, _, n => n
  | d + 1, i, n => twFrom q d (i + 1) (wrap64 (n + mx 0 (mn 10000 (rd q (i : Int)))))
def totalW (q : List Int) : Int := twFrom q q.length 0 0

theorem impl_TotalWait_ev (q : List Int) (hq : q.length ≤ 1048576) : Ev (fun k => impl_TotalWait.f k q) (totalW q) := by
  unfold impl_TotalWait.f totalW
  have main : ∀ d i n, i + d = q.length → Ev (fun k => impl_TotalWait.l0 k n q (q.length : Int) (i : Int)) (twFrom q d i n) := by
    intro d
    induction d with
    | zero =>
      intro i n hi
      refine shift ?_
      simp only [impl_TotalWait.l0, twFrom]
      exact neg (by omega) (now rfl)
    | succ d ih =>
      intro i n hi
      refine shift ?_
      simp only [impl_TotalWait.l0, twFrom]
      rw [succ_wrap (by omega), mn_comm (rd q (i : Int))]
      exact pos (by omega) (pos (by omega) (pos (by omega) (ih (i + 1) _ (by omega))))
  exact main q.length 0 0 (by omega)

theorem impl_QueueStep_ev (w a : Int) (o : Bool) : Ev (fun k => impl_QueueStep.f k w a o) (qStep w a o) := by
  unfold impl_QueueStep.f qStep
  have stop : Ev (fun k => impl_QueueStep.j0 k w a o true) 0 := by
    refine shift ?_
    simp only [impl_QueueStep.j0]
    exact pos trivial (now rfl)
  refine bindc (impl_InRange_eq _ _ _) ?_
  by_cases h1 : 0 ≤ w ∧ w ≤ 10000
  · refine pos (decide_eq_true h1) (bindc (impl_InRange_eq _ _ _) ?_)
    by_cases h2 : 0 ≤ a ∧ a ≤ 10000
    · rw [if_pos ⟨h1, h2⟩, decide_eq_true h2]
      refine shift ?_
      simp only [impl_QueueStep.j0]
      refine neg (by decide) ?_
      rw [w64 (x := w + a) (by omega) (by omega)]
      by_cases c : o = true
      · refine pos c ?_
        rw [if_pos c, w64 (by omega) (by omega)]
        rw [mn_comm (w + a - 1) 10000]
        exact now rfl
      · refine neg c ?_
        rw [if_neg c]
        rw [mn_comm (w + a) 10000]
        exact now rfl
    · rw [if_neg (fun g => h2 g.2), decide_eq_false h2]
      exact stop
  · rw [if_neg (fun g => h1 g.1)]
    exact neg (by simpa using h1) stop

def qFrom (a : List Int) (o : List Bool) : Nat → Nat → Int → List Int → List Int
  | 0, _, _, acc => acc
  | d + 1, i, w, acc => if 0 ≤ rd a (i : Int) ∧ rd a (i : Int) ≤ 10000 then qFrom a o d (i + 1) (qStep w (rd a (i : Int)) (rdOf false o (i : Int))) (acc ++ [qStep w (rd a (i : Int)) (rdOf false o (i : Int))]) else []
def qRun (a : List Int) (o : List Bool) : List Int := if a.length = o.length ∧ o.length ≤ 1000 then qFrom a o o.length 0 0 [] else []
theorem qFrom_length (a : List Int) (o : List Bool) : ∀ d i w acc, (qFrom a o d i w acc).length ≤ acc.length + d
  | 0, _, _, _ => by simp [qFrom]
  | d + 1, i, w, acc => by
    simp only [qFrom]
    split
    · have := qFrom_length a o d (i + 1) (qStep w (rd a (i : Int)) (rdOf false o (i : Int))) (acc ++ [qStep w (rd a (i : Int)) (rdOf false o (i : Int))])
      simp at this
      omega
    · simp
theorem qRun_length (a : List Int) (o : List Bool) : (qRun a o).length ≤ 1000 := by
  unfold qRun
  split
  · have := qFrom_length a o o.length 0 0 []
    simp at this
    omega
  · simp

theorem impl_QueueRun_ev (a : List Int) (o : List Bool) : Ev (fun k => impl_QueueRun.f k a o) (qRun a o) := by
  unfold impl_QueueRun.f qRun
  have stop : Ev (fun k => impl_QueueRun.j0 k a o [] true) [] := by
    refine shift ?_
    simp only [impl_QueueRun.j0]
    exact pos trivial (now rfl)
  refine bindc rfl ?_
  by_cases h1 : a.length = o.length
  · refine pos (by omega) ?_
    by_cases h2 : o.length ≤ 1000
    · rw [if_pos ⟨h1, h2⟩, decide_eq_false (by omega)]
      refine shift ?_
      simp only [impl_QueueRun.j0]
      refine neg (by decide) ?_
      have main : ∀ d i w (acc : List Int), i + d = o.length → acc.length = i → Ev (fun k => impl_QueueRun.l0 k o acc w a (a.length : Int) (i : Int)) (qFrom a o d i w acc) := by
        intro d
        induction d with
        | zero =>
          intro i w acc hi _
          refine shift ?_
          simp only [impl_QueueRun.l0, qFrom]
          exact neg (by omega) (now rfl)
        | succ d ih =>
          intro i w acc hi ha
          refine shift ?_
          simp only [impl_QueueRun.l0, qFrom]
          refine pos (by omega) (pos (by omega) (pos (by omega) (bindc (impl_InRange_eq _ _ _) ?_)))
          by_cases c : 0 ≤ rd a (i : Int) ∧ rd a (i : Int) ≤ 10000
          · rw [if_pos c]
            refine pos (decide_eq_true c) (pos (by omega) (Ev.bind (impl_QueueStep_ev _ _ _) (pos (by omega) ?_)))
            rw [succ_wrap (by omega)]
            exact ih (i + 1) _ _ (by omega) (by simp; omega)
          · rw [if_neg c]
            exact neg (by simpa using c) (now rfl)
      exact main o.length 0 0 [] (by omega) rfl
    · rw [if_neg (fun g => h2 g.2), decide_eq_true (by omega)]
      exact stop
  · rw [if_neg (fun g => h1 g.1)]
    exact neg (by omega) stop

theorem impl_ClearOf_eq (a b c d : Int) : impl_ClearOf.f a b c d = some (clearOf a b c d) := by
  unfold impl_ClearOf.f clearOf
  rw [impl_IsPath_eq, Option.bind_some]
  split
  · split
    · rfl
    · split <;> rfl
  · rfl

def closesL (a b : List Int) : List Int := a.filter fun n => !decide (n ∈ b)
theorem closesL_mem {a b : List Int} {n : Int} (h : n ∈ closesL a b) : n ∈ a := (List.mem_filter.1 h).1
theorem closesL_length (a b : List Int) : (closesL a b).length ≤ a.length := List.length_filter_le _ _

theorem impl_sieve_ev (a b : List Int) (ha : a.length ≤ 1048576) (hb : b.length ≤ 1048576) : Ev (fun k => impl_sieve.f k a b false) (closesL a b) := by
  unfold impl_sieve.f
  refine loop (g := fun k j => impl_sieve.l0 k b false (closesL (a.take j) b) a (a.length : Int) (j : Int)) (r := closesL a b) a.length ?_ ?_ |> (fun h => by simpa [closesL] using h)
  · intro j hj h
    refine shift ?_
    simp only [impl_sieve.l0]
    rw [succ_wrap (by omega), rd_get a j hj]
    rw [closesL, take_snoc a j hj, List.filter_append] at h
    refine pos (nat_lt hj) (pos (by omega) (pos (nat_lt hj) (Ev.bind (slices_Contains_int_int_ev b _ (by omega)) ?_)))
    by_cases c : a[j] ∈ b
    · rw [List.filter_cons, List.filter_nil, decide_eq_true c] at h
      rw [decide_eq_true c]
      refine neg (by decide) ?_
      simpa [closesL] using h
    · rw [List.filter_cons, List.filter_nil, decide_eq_false c] at h
      have hl := closesL_length (a.take j) b
      rw [take_len a j hj] at hl
      rw [decide_eq_false c]
      refine pos rfl (pos (by omega) ?_)
      simpa [closesL] using h
  · refine shift ?_
    simp only [impl_sieve.l0]
    exact neg (nat_ge (Nat.le_refl _)) (now (by rw [List.take_length]))

theorem impl_Closes_ev (a b : List Int) (ha : a.length ≤ 1048576) (hb : b.length ≤ 1048576) : Ev (fun k => impl_Closes.f k a b) (closesL a b) := by
  unfold impl_Closes.f
  exact Ev.bind (impl_sieve_ev a b ha hb) (now rfl)

def clrStep (l : List S73) (i : Int) (n : Int) (k : Int) : Int := if conP (rd_T73 l (fp l i)) (rd_T73 l (fp l k)) = true then mx n (clrP (rd_T73 l (fp l i))) else n
def clrIn (l : List S73) (ys : List Int) (n : Int) (i : Int) : Int := ys.foldl (clrStep l i) n
def clearB (l : List S73) (a b : List Int) : Int := if together l a = true ∧ together l b = true then (closesL a b).foldl (clrIn l (closesL b a)) 0 else 0
theorem foldl_inv {α β : Type} (P : β → Prop) (f : β → α → β) (hf : ∀ b a, P b → P (f b a)) : ∀ (l : List α) (b : β), P b → P (l.foldl f b)
  | [], _, h => h
  | x :: r, b, h => foldl_inv P f hf r (f b x) (hf b x h)
theorem clearB_range (l : List S73) (a b : List Int) : 0 ≤ clearB l a b ∧ clearB l a b ≤ 5 := by
  have h1 : ∀ i n k, (0 ≤ n ∧ n ≤ 5) → 0 ≤ clrStep l i n k ∧ clrStep l i n k ≤ 5 := by
    intro i n k h
    have := clrP_range (rd_T73 l (fp l i))
    unfold clrStep mx
    split
    · split <;> omega
    · exact h
  unfold clearB
  split
  · refine foldl_inv (fun n => 0 ≤ n ∧ n ≤ 5) _ (fun n i h => ?_) _ _ (by omega)
    exact foldl_inv (fun n => 0 ≤ n ∧ n ≤ 5) _ (fun n k h => h1 i n k h) _ _ h
  · omega
theorem foldl_take {α β : Type} (f : β → α → β) (b : β) (l : List α) (j : Nat) (h : j < l.length) : (l.take (j + 1)).foldl f b = f ((l.take j).foldl f b) l[j] := by
  rw [take_snoc l j h, List.foldl_append]
  rfl

theorem impl_ClearBetween_ev (l : List S73) (a b : List Int) (hl : l.length ≤ 1048576) (ha : a.length ≤ 1048576) (hb : b.length ≤ 1048576) : Ev (fun k => impl_ClearBetween.f k l a b) (clearB l a b) := by
  unfold impl_ClearBetween.f clearB
  have find : ∀ n, impl_FindPath.f l n = some (fp l n) := fun n => impl_FindPath_eq l n
  have hx := closesL_length a b
  have hy := closesL_length b a
  have ca := impl_Closes_ev a b ha hb
  have cb := impl_Closes_ev b a hb ha
  have stop : Ev (fun k => impl_ClearBetween.j0 k l a b 0 true) 0 := by
    refine shift ?_
    simp only [impl_ClearBetween.j0]
    exact pos trivial (now rfl)
  refine Ev.bind (impl_IsTogether_ev l a hl ha) ?_
  by_cases h1 : together l a = true
  · refine pos h1 (Ev.bind (impl_IsTogether_ev l b hl hb) ?_)
    by_cases h2 : together l b = true
    · rw [if_pos ⟨h1, h2⟩, h2]
      have fa : ∀ n, n ∈ closesL a b → 0 ≤ fp l n ∧ fp l n < l.length := fun n hn => together_found h1 n (closesL_mem hn)
      have fb : ∀ n, n ∈ closesL b a → 0 ≤ fp l n ∧ fp l n < l.length := fun n hn => together_found h2 n (closesL_mem hn)
      refine shift ?_
      simp only [impl_ClearBetween.j0]
      refine neg (by decide) (Ev.bind ca ?_)
      generalize closesL a b = xs at hx fa ⊢
      generalize closesL b a = ys at hy fb cb ⊢
      refine loop (g := fun k j => impl_ClearBetween.l0 k l a b ((xs.take j).foldl (clrIn l ys) 0) xs (xs.length : Int) (j : Int)) (r := xs.foldl (clrIn l ys) 0) xs.length ?_ ?_ |> (fun h => by simpa using h)
      · intro j hj hh
        rw [foldl_take _ _ _ _ hj] at hh
        generalize (xs.take j).foldl (clrIn l ys) 0 = n at hh ⊢
        have hfa := fa _ (List.getElem_mem hj)
        refine shift ?_
        simp only [impl_ClearBetween.l0]
        rw [rd_get xs j hj]
        refine pos (nat_lt hj) (pos (by omega) (pos (nat_lt hj) (Ev.bind cb ?_)))
        refine loop (g := fun k i => impl_ClearBetween.l1 k l a b ((ys.take i).foldl (clrStep l xs[j]) n) xs[j] xs (xs.length : Int) (j : Int) ys (ys.length : Int) (i : Int)) (r := xs.foldl (clrIn l ys) 0) ys.length ?_ ?_ |> (fun h => by simpa using h)
        · intro i hi h2
          rw [foldl_take _ _ _ _ hi] at h2
          generalize (ys.take i).foldl (clrStep l xs[j]) n = m at h2 ⊢
          have hfb := fb _ (List.getElem_mem hi)
          refine shift ?_
          simp only [impl_ClearBetween.l1]
          rw [succ_wrap (j := i) (by omega), rd_get ys i hi]
          refine pos (nat_lt hi) (pos (by omega) (pos (nat_lt hi) (bindc (find _) (pos hfa.1 (pos hfa.2 (bindc (find _) (pos hfb.1 (pos hfb.2 (Ev.bind (impl_Conflict_ev _ _ _ _ _ _ _ _) ?_)))))))))
          rw [clrStep] at h2
          by_cases c : conP (rd_T73 l (fp l xs[j])) (rd_T73 l (fp l ys[i])) = true
          · rw [if_pos c] at h2
            exact pos c (bindc (impl_ClearOf_eq _ _ _ _) h2)
          · rw [if_neg c] at h2
            exact neg c h2
        · refine shift ?_
          simp only [impl_ClearBetween.l1]
          rw [succ_wrap (j := j) (by omega), List.take_length]
          exact neg (nat_ge (Nat.le_refl _)) hh
      · refine shift ?_
        simp only [impl_ClearBetween.l0]
        rw [List.take_length]
        exact neg (nat_ge (Nat.le_refl _)) (now rfl)
    · rw [if_neg (fun g => h2 g.2), show together l b = false by simpa using h2]
      exact stop
  · rw [if_neg (fun g => h1 g.1)]
    exact neg h1 stop

def nxt (p : List S50) (i : Nat) : Nat := (i + 1) % p.length
def longP (l : List S73) (p : List S50) (i : Nat) : Int := (rd_T50 p i).f1 + clearB l (rd_T50 p i).f0 (rd_T50 p (nxt p i)).f0
theorem nxt_lt (p : List S50) (i : Nat) (h : i < p.length) : nxt p i < p.length := Nat.mod_lt _ (by omega)
theorem nxt_tmod (p : List S50) (i : Nat) (h : i < 1048576) : Int.tmod (wrap64 ((i : Int) + 1)) (p.length : Int) = ((nxt p i : Nat) : Int) := by
  rw [succ_wrap (by omega)]
  exact (Int.ofNat_tmod (i + 1) p.length).symm
theorem longP_range {l : List S73} {p : List S50} (h : isPlan l p = true) (i : Nat) (hi : i < p.length) : 5 ≤ longP l p i ∧ longP l p i ≤ 65 := by
  have h1 := (isPlan_part h).2 i hi
  have h2 := clearB_range l (rd_T50 p i).f0 (rd_T50 p (nxt p i)).f0
  unfold longP
  omega

theorem impl_nextStage_eq (p : List S50) (i : Nat) (hi : i < p.length) (h : p.length ≤ 1048576) : impl_nextStage.f p (i : Int) = some (rd_T50 p (nxt p i)).f0 := by
  have hn := nxt_lt p i hi
  unfold impl_nextStage.f
  rw [nxt_tmod p i (by omega), if_neg (by omega), if_pos (by omega), if_pos (by omega)]

theorem impl_longOf_ev (l : List S73) (p : List S50) (hl : l.length ≤ 1048576) (hs : ∀ x ∈ p, x.f0.length ≤ 1048576) (h : isPlan l p = true) (i : Nat) (hi : i < p.length) : Ev (fun k => impl_longOf.f k l p (i : Int)) (longP l p i) := by
  have hp := (isPlan_part h).1
  have hr := longP_range h i hi
  have hn := nxt_lt p i hi
  unfold impl_longOf.f
  refine pos (by omega) (pos (by omega) (bindc (impl_nextStage_eq p i hi (by omega)) (Ev.bind (impl_ClearBetween_ev l _ _ hl (part_short p hs i hi) (part_short p hs _ hn)) (now ?_))))
  exact w64 (by unfold longP at hr; omega) (by unfold longP at hr; omega)

/-- How long d parts from the i-th on take. -/
def sumF (L : Nat → Int) : Nat → Nat → Int
  | 0, _ => 0
  | d + 1, i => L i + sumF L d (i + 1)
/-- The part, and the second in it, that lies s seconds behind the begin of the i-th. -/
def partF (L : Nat → Int) : Nat → Nat → Int → Nat × Int
  | 0, i, s => (i, s)
  | d + 1, i, s => if s < L i then (i, s) else partF L d (i + 1) (s - L i)
theorem sumF_range {L : Nat → Int} {n : Nat} (h : ∀ i, i < n → 5 ≤ L i ∧ L i ≤ 65) : ∀ d i, i + d = n → 5 * (d : Int) ≤ sumF L d i ∧ sumF L d i ≤ 65 * (d : Int)
  | 0, _, _ => by simp [sumF]
  | d + 1, i, hi => by
    have h1 := h i (by omega)
    have h2 := sumF_range h d (i + 1) (by omega)
    simp only [sumF]
    omega
theorem partF_spec {L : Nat → Int} : ∀ d i s, 0 ≤ s → s < sumF L d i → i ≤ (partF L d i s).1 ∧ (partF L d i s).1 < i + d ∧ 0 ≤ (partF L d i s).2 ∧ (partF L d i s).2 < L (partF L d i s).1
  | 0, _, s, h0, h1 => by simp only [sumF] at h1; omega
  | d + 1, i, s, h0, h1 => by
    simp only [sumF] at h1
    simp only [partF]
    by_cases c : s < L i
    · rw [if_pos c]
      exact ⟨Nat.le_refl _, by omega, h0, c⟩
    · rw [if_neg c]
      have := partF_spec (L := L) d (i + 1) (s - L i) (by omega) (by omega)
      omega
def cycP (l : List S73) (p : List S50) : Int := sumF (longP l p) p.length 0
theorem cycP_range {l : List S73} {p : List S50} (h : isPlan l p = true) : 5 ≤ cycP l p ∧ cycP l p ≤ 390 := by
  have h1 := (isPlan_part h).1
  have := sumF_range (longP_range h) p.length 0 (by omega)
  unfold cycP
  omega
def partT (l : List S73) (p : List S50) (t : Int) : Nat × Int := partF (longP l p) p.length 0 t
theorem partT_spec {l : List S73} {p : List S50} {t : Int} (h0 : 0 ≤ t) (h1 : t < cycP l p) : (partT l p t).1 < p.length ∧ 0 ≤ (partT l p t).2 ∧ (partT l p t).2 < longP l p (partT l p t).1 := by
  have := partF_spec (L := longP l p) p.length 0 t h0 h1
  unfold partT
  omega
/-- A light, so many seconds behind the begin of a part. -/
def lightP (l : List S73) (p : List S50) (id : Int) (r : Nat × Int) : Int :=
  if id ∈ (rd_T50 p r.1).f0 then (if r.2 < (rd_T50 p r.1).f1 ∨ id ∈ (rd_T50 p (nxt p r.1)).f0 then 1 else if r.2 < (rd_T50 p r.1).f1 + clrP (rd_T73 l (fp l id)) then 2 else 0) else 0
def rowF (L : Nat → Int) (f : Nat × Int → Int) : Nat → Nat → List Int
  | 0, _ => []
  | d + 1, i => (List.range (L i).toNat).map (fun (s : Nat) => f (i, (s : Int))) ++ rowF L f d (i + 1)
theorem rowF_length {L : Nat → Int} (f : Nat × Int → Int) : ∀ d i, (∀ q, i ≤ q → q < i + d → 0 ≤ L q) → ((rowF L f d i).length : Int) = sumF L d i
  | 0, _, _ => rfl
  | d + 1, i, h => by
    have h1 := h i (Nat.le_refl _) (by omega)
    have := rowF_length f d (i + 1) (fun q h1 h2 => h q (by omega) (by omega))
    simp only [rowF, sumF, List.length_append, List.length_map, List.length_range]
    omega
theorem rowF_get {L : Nat → Int} (f : Nat × Int → Int) : ∀ d i (t : Nat), (∀ q, i ≤ q → q < i + d → 0 ≤ L q) → (t : Int) < sumF L d i → (rowF L f d i)[t]? = some (f (partF L d i (t : Int)))
  | 0, _, t, _, h => by simp only [sumF] at h; omega
  | d + 1, i, t, h, ht => by
    have h1 := h i (Nat.le_refl _) (by omega)
    simp only [sumF] at ht
    simp only [rowF, partF]
    by_cases c : (t : Int) < L i
    · rw [if_pos c, List.getElem?_append_left (by simp; omega)]
      have : t < (L i).toNat := by omega
      simp [this]
    · rw [if_neg c, List.getElem?_append_right (by simp; omega)]
      have e : (t : Int) - L i = ((t - (L i).toNat : Nat) : Int) := by omega
      rw [e, ← rowF_get f d (i + 1) (t - (L i).toNat) (fun q h1 h2 => h q (by omega) (by omega)) (by omega)]
      simp
def rowP (l : List S73) (p : List S50) (id : Int) : List Int := (List.range (cycP l p).toNat).map fun (t : Nat) => lightP l p id (partT l p (t : Int))
theorem rowP_eq {l : List S73} {p : List S50} (h : isPlan l p = true) (id : Int) : rowF (longP l p) (lightP l p id) p.length 0 = rowP l p id := by
  have hL : ∀ q, 0 ≤ q → q < 0 + p.length → 0 ≤ longP l p q := fun q _ h2 => by have := longP_range h q (by omega); omega
  have hlen := rowF_length (lightP l p id) p.length 0 hL
  apply List.ext_getElem?
  intro t
  by_cases c : (t : Int) < cycP l p
  · rw [rowF_get _ _ _ _ hL c, rowP, List.getElem?_map, List.getElem?_range (by omega)]
    rfl
  · have : cycP l p = sumF (longP l p) p.length 0 := rfl
    rw [List.getElem?_eq_none (by omega), List.getElem?_eq_none (by simp [rowP]; omega)]
theorem rowP_length (l : List S73) (p : List S50) (id : Int) : (rowP l p id).length = (cycP l p).toNat := by simp [rowP]
theorem rowP_rd (l : List S73) (p : List S50) (id : Int) (t : Nat) (h : t < (cycP l p).toNat) : rd (rowP l p id) (t : Int) = lightP l p id (partT l p (t : Int)) := by
  rw [rd_get _ _ (by rw [rowP_length]; exact h)]
  simp [rowP]

def cycle (l : List S73) (p : List S50) : Int := if isPlan l p = true then cycP l p else 0
theorem impl_Cycle_ev (l : List S73) (p : List S50) (hl : l.length ≤ 1048576) (hp : p.length ≤ 1048576) (hs : ∀ x ∈ p, x.f0.length ≤ 1048576) : Ev (fun k => impl_Cycle.f k l p) (cycle l p) := by
  unfold impl_Cycle.f cycle
  refine Ev.bind (impl_IsPlan_ev l p hl hp hs) ?_
  by_cases h : isPlan l p = true
  · rw [if_pos h]
    have hr := sumF_range (longP_range h)
    have h6 := (isPlan_part h).1
    refine pos h (loop (g := fun k j => impl_Cycle.l0 k l p (cycP l p - sumF (longP l p) (p.length - j) j) (p.length : Int) (j : Int)) (r := cycP l p) p.length ?_ ?_ |> (fun h => by simpa [cycP] using h))
    · intro j hj hh
      have e : p.length - j = (p.length - (j + 1)) + 1 := by omega
      have h1 := hr p.length 0 (by omega)
      have h2 := hr (p.length - (j + 1)) (j + 1) (by omega)
      have h3 := longP_range h j hj
      refine shift ?_
      simp only [impl_Cycle.l0]
      rw [succ_wrap (by omega)]
      refine pos (nat_lt hj) (Ev.bind (impl_longOf_ev l p hl hs h j hj) ?_)
      have e2 : wrap64 (cycP l p - sumF (longP l p) (p.length - j) j + longP l p j) = cycP l p - sumF (longP l p) (p.length - (j + 1)) (j + 1) := by
        rw [e]
        simp only [sumF]
        have : cycP l p = sumF (longP l p) p.length 0 := rfl
        rw [w64 (by omega) (by omega)]
        omega
      rw [e2]
      exact hh
    · refine shift ?_
      simp only [impl_Cycle.l0]
      exact neg (nat_ge (Nat.le_refl _)) (now (by simp [sumF]))
  · rw [if_neg h]
    exact neg h (now rfl)

def secT (l : List S73) (p : List S50) (t : Int) : Int := Int.tmod t (cycP l p)
theorem secT_range {l : List S73} {p : List S50} (h : isPlan l p = true) {t : Int} (ht : 0 ≤ t) : 0 ≤ secT l p t ∧ secT l p t < cycP l p := by
  have := cycP_range h
  exact ⟨Int.tmod_nonneg _ ht, Int.tmod_lt_of_pos _ (by omega)⟩
theorem secT_small {l : List S73} {p : List S50} {t : Int} (ht : 0 ≤ t) (h1 : t < cycP l p) : secT l p t = t := Int.tmod_eq_of_lt ht h1
theorem impl_PartAt_ev (l : List S73) (p : List S50) (hl : l.length ≤ 1048576) (hp : p.length ≤ 1048576) (hs : ∀ x ∈ p, x.f0.length ≤ 1048576) (h : isPlan l p = true) (t : Int) (ht : 0 ≤ t ∧ t ≤ 1000000) :
    Ev (fun k => impl_PartAt.f k l p t) (((partT l p (secT l p t)).1 : Int), (partT l p (secT l p t)).2) := by
  unfold impl_PartAt.f
  have hc := cycP_range h
  have h6 := (isPlan_part h).1
  refine Ev.bind (impl_Cycle_ev l p hl hp hs) ?_
  rw [show cycle l p = cycP l p from if_pos h]
  refine neg (by omega) (bindc (impl_InRange_eq _ _ _) ?_)
  rw [decide_eq_true ht]
  refine shift ?_
  simp only [impl_PartAt.j0]
  refine neg (by decide) (neg (by omega) ?_)
  have hr := secT_range h ht.1
  have main : ∀ d i s, i + d = p.length → 0 ≤ s → s < sumF (longP l p) d i → Ev (fun k => impl_PartAt.l0 k l p s (i : Int)) (((partF (longP l p) d i s).1 : Int), (partF (longP l p) d i s).2) := by
    intro d
    induction d with
    | zero => intro i s _ h0 h1; simp only [sumF] at h1; omega
    | succ d ih =>
      intro i s hi h0 h1
      simp only [sumF] at h1
      have hL := longP_range h i (by omega)
      have hsum := sumF_range (longP_range h) d (i + 1) (by omega)
      have e := impl_longOf_ev l p hl hs h i (by omega)
      refine shift ?_
      simp only [impl_PartAt.l0, partF]
      refine Ev.bind e ?_
      by_cases c : s < longP l p i
      · rw [if_pos c]
        exact neg (by omega) (now rfl)
      · rw [if_neg c]
        refine pos (by omega) (Ev.bind e ?_)
        rw [succ_wrap (by omega), w64 (x := s - longP l p i) (by omega) (by omega)]
        exact ih (i + 1) (s - longP l p i) (by omega) (by omega) (by omega)
  exact main p.length 0 (secT l p t) (by omega) hr.1 hr.2

theorem impl_shown_ev (l : List S73) (p : List S50) (hl : l.length ≤ 1048576) (hp : p.length ≤ 1048576) (hs : ∀ x ∈ p, x.f0.length ≤ 1048576) (h : isPlan l p = true) (t : Int) (ht : 0 ≤ t ∧ t ≤ 1000000) (id : Int) (hf : ¬ fp l id < 0) :
    Ev (fun k => impl_shown.f k l p t (rd_T73 l (fp l id)).f0 (rd_T73 l (fp l id)).f1 (rd_T73 l (fp l id)).f2 (rd_T73 l (fp l id)).f3) (lightP l p id (partT l p (secT l p t))) := by
  unfold impl_shown.f
  have h6 := (isPlan_part h).1
  have hr := secT_range h ht.1
  have hpt := partT_spec hr.1 hr.2
  refine Ev.bind (impl_PartAt_ev l p hl hp hs h t ht) ?_
  generalize partT l p (secT l p t) = r at hpt ⊢
  obtain ⟨i, s⟩ := r
  dsimp only at hpt ⊢
  have hg := (isPlan_part h).2 i hpt.1
  have hn := nxt_lt p i hpt.1
  have hcl := clrP_range (rd_T73 l (fp l id))
  have hx := part_short p hs i hpt.1
  have hy := part_short p hs _ hn
  rw [fp_id l id hf]
  unfold lightP
  refine neg (by omega) (pos (by omega) (pos (by omega) (Ev.bind (slices_Contains_int_int_ev _ id (by omega)) ?_)))
  by_cases c : id ∈ (rd_T50 p i).f0
  · rw [if_pos c, decide_eq_true c]
    refine shift ?_
    simp only [impl_shown.j0]
    refine neg (by decide) (pos (by omega) (pos (by omega) ?_))
    have yes : ∀ a b c d : Int, Ev (fun k => impl_shown.j1 k p (i : Int) s true a b c d) 1 := by
      intro a b c d
      refine shift ?_
      simp only [impl_shown.j1]
      exact pos trivial (now rfl)
    by_cases c1 : s < (rd_T50 p i).f1
    · rw [if_pos (.inl c1)]
      exact pos c1 (yes _ _ _ _)
    · refine neg c1 (bindc (impl_nextStage_eq p i hpt.1 hp) (Ev.bind (slices_Contains_int_int_ev _ id (by omega)) ?_))
      by_cases c2 : id ∈ (rd_T50 p (nxt p i)).f0
      · rw [if_pos (.inr c2), decide_eq_true c2]
        exact yes _ _ _ _
      · rw [if_neg (fun g => g.elim c1 c2), decide_eq_false c2]
        refine shift ?_
        simp only [impl_shown.j1]
        refine neg (by decide) (pos (by omega) (pos (by omega) (bindc (impl_ClearOf_eq _ _ _ _) ?_)))
        have e : clearOf id (rd_T73 l (fp l id)).f1 (rd_T73 l (fp l id)).f2 (rd_T73 l (fp l id)).f3 = clrP (rd_T73 l (fp l id)) := by rw [clrP, fp_id l id hf]
        rw [e, w64 (by omega) (by omega)]
        by_cases c3 : s < (rd_T50 p i).f1 + clrP (rd_T73 l (fp l id))
        · exact pos c3 (now (if_pos c3).symm)
        · exact neg c3 (now (if_neg c3).symm)
  · rw [if_neg c, decide_eq_false c]
    refine shift ?_
    simp only [impl_shown.j0]
    exact pos (by decide) (now rfl)

theorem impl_LightAt_ev (l : List S73) (p : List S50) (hl : l.length ≤ 1048576) (hp : p.length ≤ 1048576) (hs : ∀ x ∈ p, x.f0.length ≤ 1048576) (h : isPlan l p = true) (t : Int) (ht : 0 ≤ t ∧ t ≤ 1000000) (id : Int) (hf : ¬ fp l id < 0) :
    Ev (fun k => impl_LightAt.f k l p t id) (lightP l p id (partT l p (secT l p t))) := by
  unfold impl_LightAt.f
  have hfr := fp_range l id
  exact bindc (show impl_FindPath.f l id = some (fp l id) from impl_FindPath_eq l id) (neg hf (pos (by omega) (pos (by omega) (Ev.bind (impl_shown_ev l p hl hp hs h t ht id hf) (now rfl)))))


def rowS (l : List S73) (p : List S50) (id : Int) : List Int := if isPlan l p = true ∧ ¬ fp l id < 0 then rowP l p id else []
theorem rowS_length (l : List S73) (p : List S50) (id : Int) : (rowS l p id).length ≤ 390 := by
  unfold rowS
  split
  · rename_i h
    have := cycP_range h.1
    rw [rowP_length]
    omega
  · simp

def greensP (l : List S73) (p : List S50) (id : Int) : List Bool := (rowS l p id).map (· == 1)
theorem greensP_length (l : List S73) (p : List S50) (id : Int) : (greensP l p id).length = (rowS l p id).length := by simp [greensP]
theorem greensP_rd (l : List S73) (p : List S50) (id : Int) (j : Nat) (h : j < (rowS l p id).length) : rdOf false (greensP l p id) (j : Int) = (rd (rowS l p id) (j : Int) == 1) := by
  simp [greensP, rdOf, rd, h]
theorem impl_greens_ev (l : List S73) (p : List S50) (hl : l.length ≤ 1048576) (hp : p.length ≤ 1048576) (hs : ∀ x ∈ p, x.f0.length ≤ 1048576) (id : Int) : Ev (fun k => impl_greens.f k l p id) (greensP l p id) := by
  unfold impl_greens.f greensP rowS
  refine bindc (show impl_FindPath.f l id = some (fp l id) from impl_FindPath_eq l id) ?_
  by_cases hf : fp l id < 0
  · rw [if_neg (fun g => g.2 hf)]
    exact pos hf (now rfl)
  refine neg hf (Ev.bind (impl_Cycle_ev l p hl hp hs) ?_)
  unfold cycle
  by_cases h : isPlan l p = true
  · have hc := cycP_range h
    rw [if_pos h, if_pos ⟨h, hf⟩]
    refine pos (by omega) (pos (by omega) (bindc rfl ?_))
    rw [List.length_replicate]
    have e : (rowP l p id).map (· == 1) = (List.range (cycP l p).toNat).map (fun (t : Nat) => (lightP l p id (partT l p (t : Int)) == 1)) := by simp [rowP, Function.comp_def]
    rw [e]
    have := copied (g := fun k y i => impl_greens.l0 k l p id y (((cycP l p).toNat : Nat) : Int) i) (List.range (cycP l p).toNat) (fun (t : Nat) => (lightP l p id (partT l p (t : Int)) == 1)) false ?_ ?_
    · rw [List.length_range] at this
      exact this
    · intro j hj y r hy hh
      rw [List.length_range] at hj hy
      rw [List.getElem_range] at hh
      refine shift ?_
      simp only [impl_greens.l0]
      have e2 := impl_LightAt_ev l p hl hp hs h (j : Int) (by omega) id hf
      rw [secT_small (by omega) (by omega)] at e2
      refine pos (by omega) (Ev.bind e2 (pos (by omega) (pos (by omega) ?_)))
      rw [succ_wrap (by omega), Int.toNat_natCast]
      exact hh
    · intro y
      rw [List.length_range]
      refine shift ?_
      simp only [impl_greens.l0]
      exact neg (nat_ge (Nat.le_refl _)) (now rfl)
  · rw [if_neg h, if_neg (fun g => h g.1)]
    refine pos (by decide) (pos (by decide) (bindc rfl ?_))
    refine shift ?_
    simp only [impl_greens.l0]
    exact neg (by simp) (now rfl)

/-- Is the path open: from second 0 on, so many seconds. -/
def openL (l : List S73) (p : List S50) (id : Int) (n : Nat) : List Bool :=
  if (rowS l p id).length = 0 ∨ 1000 < n then [] else (List.range n).map fun (i : Nat) => (rd (rowS l p id) ((i % (rowS l p id).length : Nat) : Int) == 1)
theorem openL_length (l : List S73) (p : List S50) (id : Int) (n : Nat) : (openL l p id n).length ≤ 1000 := by
  unfold openL
  split
  · simp
  · simp; omega

theorem impl_OpenIn_ev (l : List S73) (p : List S50) (hl : l.length ≤ 1048576) (hp : p.length ≤ 1048576) (hs : ∀ x ∈ p, x.f0.length ≤ 1048576) (id : Int) (n : Nat) (hn : n ≤ 1048576) : Ev (fun k => impl_OpenIn.f k l p id 0 (n : Int)) (openL l p id n) := by
  unfold impl_OpenIn.f openL
  have hr := rowS_length l p id
  have hg := greensP_length l p id
  have hrd := greensP_rd l p id
  refine bindc rfl (Ev.bind (impl_greens_ev l p hl hp hs id) ?_)
  generalize rowS l p id = r at hr hg hrd ⊢
  generalize greensP l p id = q at hg hrd ⊢
  have stop : Ev (fun k => impl_OpenIn.j0 k 0 (n : Int) [] q true) [] := by
    refine shift ?_
    simp only [impl_OpenIn.j0]
    exact pos trivial (now rfl)
  by_cases h0 : r.length = 0
  · rw [if_pos (.inl h0)]
    exact pos (by omega) stop
  refine neg (by omega) (bindc (impl_InRange_eq _ _ _) (pos (by decide) (bindc (impl_InRange_eq _ _ _) ?_)))
  by_cases h1 : 1000 < n
  · rw [if_pos (.inr h1), decide_eq_false (by omega)]
    exact stop
  · rw [if_neg (fun g => g.elim h0 h1), decide_eq_true (by omega)]
    refine shift ?_
    simp only [impl_OpenIn.j0]
    refine neg (by decide) ?_
    refine loop (g := fun k j => impl_OpenIn.l0 k 0 ((List.range j).map fun (i : Nat) => (rd r ((i % r.length : Nat) : Int) == 1)) q (n : Int) (j : Int)) n ?_ ?_ |> (fun h => by simpa using h)
    · intro j hj h
      rw [List.range_succ, List.map_append] at h
      refine shift ?_
      simp only [impl_OpenIn.l0]
      have e : Int.tmod (wrap64 (0 + (j : Int))) (q.length : Int) = ((j % r.length : Nat) : Int) := by
        rw [Int.zero_add, w64 (by omega) (by omega), hg]
        exact (Int.ofNat_tmod j r.length).symm
      have hlt := Nat.mod_lt j (y := r.length) (by omega)
      rw [e, succ_wrap (by omega), hrd _ hlt]
      exact pos (by omega) (neg (by omega) (pos (by omega) (pos (by omega) (pos (by simp; omega) h))))
    · refine shift ?_
      simp only [impl_OpenIn.l0]
      exact neg (by omega) (now rfl)

def streamW (l : List S73) (p : List S50) (id : Int) (a : List Int) : Int := totalW (qRun a (openL l p id a.length))

theorem impl_StreamWait_ev (l : List S73) (p : List S50) (hl : l.length ≤ 1048576) (hp : p.length ≤ 1048576) (hs : ∀ x ∈ p, x.f0.length ≤ 1048576) (id : Int) (a : List Int) (ha : a.length ≤ 1048576) : Ev (fun k => impl_StreamWait.f k l p id a) (streamW l p id a) := by
  unfold impl_StreamWait.f streamW
  have := qRun_length a (openL l p id a.length)
  exact Ev.bind (impl_OpenIn_ev l p hl hp hs id a.length ha) (Ev.bind (impl_QueueRun_ev _ _) (Ev.bind (impl_TotalWait_ev _ (by omega)) (now rfl)))

def pwFrom (l : List S73) (p : List S50) (s : List S36) : Nat → Nat → Int → Int
  | 0, _, n => n
  | d + 1, i, n => pwFrom l p s d (i + 1) (wrap64 (n + streamW l p (rd_T36 s i).f0 (rd_T36 s i).f1))
def planW (l : List S73) (p : List S50) (s : List S36) : Int := if areStreams l s = true ∧ isPlan l p = true then pwFrom l p s s.length 0 0 else -1
theorem strm_short (s : List S36) (he : ∀ x ∈ s, x.f1.length ≤ 1048576) (i : Nat) (hi : i < s.length) : (rd_T36 s i).f1.length ≤ 1048576 := by
  have : rd_T36 s (i : Int) = s[i] := by simp [rd_T36, hi]
  rw [this]
  exact he _ (List.getElem_mem hi)

theorem impl_PlanWait_ev (l : List S73) (p : List S50) (s : List S36) (hl : l.length ≤ 1048576) (hp : p.length ≤ 1048576) (hs : ∀ x ∈ p, x.f0.length ≤ 1048576) (hn : s.length ≤ 1048576) (he : ∀ x ∈ s, x.f1.length ≤ 1048576) :
    Ev (fun k => impl_PlanWait.f k l p s) (planW l p s) := by
  unfold impl_PlanWait.f planW
  have stop : Ev (fun k => impl_PlanWait.j0 k l p s true) (-1) := by
    refine shift ?_
    simp only [impl_PlanWait.j0]
    exact pos trivial (now rfl)
  refine Ev.bind (impl_AreStreams_ev l s) ?_
  by_cases h1 : areStreams l s = true
  · refine pos h1 (Ev.bind (impl_IsPlan_ev l p hl hp hs) ?_)
    by_cases h2 : isPlan l p = true
    · rw [if_pos ⟨h1, h2⟩, h2]
      refine shift ?_
      simp only [impl_PlanWait.j0]
      refine neg (by decide) ?_
      have main : ∀ d i n, i + d = s.length → Ev (fun k => impl_PlanWait.l0 k l p n s (s.length : Int) (i : Int)) (pwFrom l p s d i n) := by
        intro d
        induction d with
        | zero =>
          intro i n hi
          refine shift ?_
          simp only [impl_PlanWait.l0, pwFrom]
          exact neg (by omega) (now rfl)
        | succ d ih =>
          intro i n hi
          refine shift ?_
          simp only [impl_PlanWait.l0, pwFrom]
          rw [succ_wrap (by omega)]
          exact pos (by omega) (pos (by omega) (pos (by omega) (Ev.bind (impl_StreamWait_ev l p hl hp hs _ _ (strm_short s he i (by omega))) (ih (i + 1) _ (by omega)))))
      exact main s.length 0 0 (by omega)
    · rw [if_neg (fun g => h2 g.2), show isPlan l p = false by simpa using h2]
      exact stop
  · rw [if_neg (fun g => h1 g.1)]
    exact neg h1 stop

/-- A wait is not negative: each sum stays far below Go's bounds. -/
theorem twFrom_range (q : List Int) : ∀ (d i : Nat) (n : Int), 0 ≤ n → n ≤ 10000 * (i : Int) → i + d ≤ 1000 → 0 ≤ twFrom q d i n ∧ twFrom q d i n ≤ 10000000
  | 0, i, n, h0, h1, h2 => by simp only [twFrom]; omega
  | d + 1, i, n, h0, h1, h2 => by
    simp only [twFrom]
    have : 0 ≤ mx 0 (mn 10000 (rd q (i : Int))) ∧ mx 0 (mn 10000 (rd q (i : Int))) ≤ 10000 := by unfold mx mn; split <;> split <;> omega
    rw [w64 (by omega) (by omega)]
    exact twFrom_range q d (i + 1) _ (by omega) (by omega) (by omega)
theorem streamW_range (l : List S73) (p : List S50) (id : Int) (a : List Int) : 0 ≤ streamW l p id a ∧ streamW l p id a ≤ 10000000 := by
  have := qRun_length a (openL l p id a.length)
  exact twFrom_range _ _ 0 0 (by omega) (by omega) (by omega)
theorem pwFrom_range (l : List S73) (p : List S50) (s : List S36) : ∀ (d i : Nat) (n : Int), 0 ≤ n → n ≤ 10000000 * (i : Int) → i + d ≤ 1048576 → 0 ≤ pwFrom l p s d i n
  | 0, i, n, h0, h1, h2 => by simp only [pwFrom]; omega
  | d + 1, i, n, h0, h1, h2 => by
    simp only [pwFrom]
    have := streamW_range l p (rd_T36 s i).f0 (rd_T36 s i).f1
    rw [w64 (by omega) (by omega)]
    exact pwFrom_range l p s d (i + 1) _ (by omega) (by omega) (by omega)
theorem planW_range (l : List S73) (p : List S50) (s : List S36) (hn : s.length ≤ 1048576) : planW l p s = -1 ∨ 0 ≤ planW l p s := by
  unfold planW
  split
  · exact .inr (pwFrom_range l p s s.length 0 0 (by omega) (by omega) (by omega))
  · exact .inl rfl

def rowQ (q : List (List S50)) (i : Int) : List S50 := rd_L6 q i
theorem rowQ_mem (q : List (List S50)) (i : Nat) (h : i < q.length) : rowQ q i ∈ q := by
  have : rowQ q i = q[i] := by simp [rowQ, rd_L6, h]
  rw [this]
  exact List.getElem_mem h
def bpFrom (l : List S73) (q : List (List S50)) (s : List S36) : Nat → Nat → Int → Int → Int
  | 0, _, b, _ => b
  | d + 1, i, b, m => if planW l (rowQ q i) s ≥ 0 ∧ (b < 0 ∨ planW l (rowQ q i) s < m) then bpFrom l q s d (i + 1) i (planW l (rowQ q i) s) else bpFrom l q s d (i + 1) b m

theorem impl_BetterPlan_ev (l : List S73) (q : List (List S50)) (s : List S36) (hl : l.length ≤ 1048576) (hq : q.length ≤ 1048576) (hs : ∀ p ∈ q, p.length ≤ 1048576 ∧ ∀ x ∈ p, x.f0.length ≤ 1048576) (hn : s.length ≤ 1048576) (he : ∀ x ∈ s, x.f1.length ≤ 1048576) :
    Ev (fun k => impl_BetterPlan.f k l q s) (bpFrom l q s q.length 0 (-1) 0) := by
  unfold impl_BetterPlan.f
  have main : ∀ d i b m, i + d = q.length → Ev (fun k => impl_BetterPlan.l0 k l s b m q (q.length : Int) (i : Int)) (bpFrom l q s d i b m) := by
    intro d
    induction d with
    | zero =>
      intro i b m hi
      refine shift ?_
      simp only [impl_BetterPlan.l0, bpFrom]
      exact neg (by omega) (now rfl)
    | succ d ih =>
      intro i b m hi
      have hm := hs _ (rowQ_mem q i (by omega))
      have hr := planW_range l (rowQ q i) s hn
      refine shift ?_
      simp only [impl_BetterPlan.l0, bpFrom]
      rw [succ_wrap (by omega)]
      refine pos (by omega) (pos (by omega) (pos (by omega) (Ev.bind (impl_PlanWait_ev l (rowQ q i) s hl hm.1 hm.2 hn he) ?_)))
      by_cases c1 : planW l (rowQ q i) s ≥ 0
      · refine neg (by omega) ?_
        by_cases c2 : b < 0
        · rw [if_pos ⟨c1, .inl c2⟩]
          exact pos c2 (ih (i + 1) _ _ (by omega))
        · by_cases c3 : planW l (rowQ q i) s < m
          · rw [if_pos ⟨c1, .inr c3⟩]
            exact neg c2 (pos c3 (ih (i + 1) _ _ (by omega)))
          · rw [if_neg (fun g => g.2.elim c2 c3)]
            exact neg c2 (neg c3 (ih (i + 1) _ _ (by omega)))
      · rw [if_neg (fun g => c1 g.1)]
        exact pos (by omega) (ih (i + 1) _ _ (by omega))
  exact main q.length 0 (-1) 0 (by omega)

theorem spec_DrawPlanWait_ev (d : List Int) (hd : d.length ≤ 1048576) : ∃ l p s, Ev (fun k => spec_DrawPlanWait.f k d) (l, p, s) ∧ (2 ≤ l.length ∧ l.length ≤ 7) ∧ planSh p ∧ strmsSh s := by
  unfold spec_DrawPlanWait.f
  obtain ⟨s, h1⟩ := spec_l1New_ev d
  obtain ⟨l, p, q1, s1, h2, hl, hp, hq1⟩ := spec_l8Any_ev d hd 0 s (by omega)
  obtain ⟨st, q2, s2, h3, hst, _⟩ := spec_l30Streams_ev d hd l (by omega) q1 s1 hq1
  exact ⟨l, p, st, Ev.bind h1 (Ev.bind h2 (Ev.bind h3 (now rfl))), hl, hp, hst⟩

theorem spec_DrawStreamWait_ev (d : List Int) (hd : d.length ≤ 1048576) : ∃ l p id a, Ev (fun k => spec_DrawStreamWait.f k d) (l, p, id, a) ∧ (2 ≤ l.length ∧ l.length ≤ 7) ∧ planSh p ∧ a.length ≤ 50 := by
  unfold spec_DrawStreamWait.f
  obtain ⟨l, p, s, h1, hl, hp, hs⟩ := spec_DrawPlanWait_ev d hd
  by_cases c : (s.length : Int) = 0
  · exact ⟨l, p, 0, [], Ev.bind h1 (pos c (now rfl)), hl, hp, by simp⟩
  · exact ⟨l, p, _, _, Ev.bind h1 (neg c (pos (by dsimp only; omega) (now rfl))), hl, hp, hs.2 _ (rd_Strm_mem s (by omega))⟩

def clip (x : Int) : Int := mx 0 (mn x 20)
theorem clip_range (x : Int) : 0 ≤ clip x ∧ clip x ≤ 20 := by
  unfold clip mx mn
  split <;> split <;> omega
theorem clip_swap (x : Int) : mx 0 (mn 20 x) = clip x := by
  unfold clip mx mn
  split <;> split <;> split <;> omega
def rowSum (x : List Int) : Nat → Int
  | 0 => 0
  | j + 1 => rowSum x j + clip (rd x j)
theorem rowSum_range (x : List Int) (j : Nat) : 0 ≤ rowSum x j ∧ rowSum x j ≤ 20 * j := by
  induction j with
  | zero => simp [rowSum]
  | succ j ih =>
    have := clip_range (rd x j)
    rw [rowSum]
    omega
def allSum (l : List S36) : Nat → Int
  | 0 => 0
  | i + 1 => allSum l i + rowSum (rd_T36 l i).f1 (rd_T36 l i).f1.length
theorem stream_short (l : List S36) (he : ∀ x ∈ l, x.f1.length ≤ 1048576) (i : Nat) (hi : i < l.length) : (rd_T36 l i).f1.length ≤ 1048576 := by
  have : rd_T36 l (i : Int) = l[i] := by simp [rd_T36, hi]
  rw [this]
  exact he _ (List.getElem_mem hi)
theorem allSum_range (l : List S36) (he : ∀ x ∈ l, x.f1.length ≤ 1048576) (i : Nat) (hi : i ≤ l.length) : 0 ≤ allSum l i ∧ allSum l i ≤ 20971520 * i := by
  induction i with
  | zero => simp [allSum]
  | succ i ih =>
    have h1 := ih (by omega)
    have h2 := stream_short l he i (by omega)
    have h3 := rowSum_range (rd_T36 l i).f1 (rd_T36 l i).f1.length
    rw [allSum]
    omega

theorem impl_TotalArrivals_ev (l : List S36) (hl : l.length ≤ 1048576) (he : ∀ x ∈ l, x.f1.length ≤ 1048576) : Ev (fun k => impl_TotalArrivals.f k l) (allSum l l.length) := by
  unfold impl_TotalArrivals.f
  refine loop (g := fun k i => impl_TotalArrivals.l0 k (allSum l i) l (l.length : Int) (i : Int)) l.length ?_ ?_
  · intro i hi h
    have h1 := allSum_range l he i (by omega)
    have h2 := stream_short l he i hi
    refine shift ?_
    simp only [impl_TotalArrivals.l0]
    refine pos (nat_lt hi) (pos (by omega) (pos (nat_lt hi) ?_))
    have inner := loop (g := fun k j => impl_TotalArrivals.l1 k (allSum l i + rowSum (rd_T36 l i).f1 j) l (l.length : Int) (i : Int) (rd_T36 l i).f1 ((rd_T36 l i).f1.length : Int) (j : Int)) (r := allSum l l.length) (rd_T36 l i).f1.length (fun j hj hh => by
      have h3 := rowSum_range (rd_T36 l i).f1 j
      have h4 := clip_range (rd (rd_T36 l i).f1 j)
      refine shift ?_
      simp only [impl_TotalArrivals.l1]
      refine pos (nat_lt hj) (pos (by omega) (pos (nat_lt hj) ?_))
      rw [succ_wrap (by omega)]
      show Ev (fun k => impl_TotalArrivals.l1 k (wrap64 (_ + clip _)) _ _ _ _ _ _) _
      rw [w64 (by omega) (by omega), Int.add_assoc]
      exact hh) (by
      refine shift ?_
      simp only [impl_TotalArrivals.l1]
      refine neg (nat_ge (Nat.le_refl _)) ?_
      rw [succ_wrap (by omega)]
      exact h)
    simpa [rowSum] using inner
  · refine shift ?_
    simp only [impl_TotalArrivals.l0]
    exact neg (nat_ge (Nat.le_refl _)) (now rfl)

theorem bpFrom_spec (l : List S73) (q : List (List S50)) (s : List S36) : ∀ (d i : Nat) (b m : Int), (b = -1 ∧ ∀ j : Nat, j < i → ¬ 0 ≤ planW l (rowQ q j) s) ∨ (∃ n : Nat, b = n ∧ n < i ∧ 0 ≤ m ∧ planW l (rowQ q n) s = m ∧ (∀ j : Nat, j < i → 0 ≤ planW l (rowQ q j) s → m ≤ planW l (rowQ q j) s) ∧ ∀ j : Nat, j < n → ¬ planW l (rowQ q j) s = m) →
    (bpFrom l q s d i b m = -1 ∧ ∀ j : Nat, j < i + d → ¬ 0 ≤ planW l (rowQ q j) s) ∨ ∃ n : Nat, bpFrom l q s d i b m = n ∧ n < i + d ∧ 0 ≤ planW l (rowQ q n) s ∧ (∀ j : Nat, j < i + d → 0 ≤ planW l (rowQ q j) s → planW l (rowQ q n) s ≤ planW l (rowQ q j) s) ∧ ∀ j : Nat, j < n → ¬ planW l (rowQ q j) s = planW l (rowQ q n) s
  | 0, i, b, m, h => by
    rw [bpFrom]
    rcases h with ⟨h1, h2⟩ | ⟨n, h1, h2, h3, h4, h5, h6⟩
    · exact .inl ⟨h1, h2⟩
    · exact .inr ⟨n, h1, h2, by omega, fun j hj h0 => by rw [h4]; exact h5 j hj h0, fun j hj => by rw [h4]; exact h6 j hj⟩
  | d + 1, i, b, m, h => by
    rw [bpFrom]
    have e : i + (d + 1) = i + 1 + d := by omega
    rw [e]
    by_cases c : planW l (rowQ q (i : Int)) s ≥ 0 ∧ (b < 0 ∨ planW l (rowQ q (i : Int)) s < m)
    · rw [if_pos c]
      refine bpFrom_spec l q s d (i + 1) _ _ (.inr ⟨i, rfl, by omega, c.1, rfl, fun j hj h0 => ?_, fun j hj => ?_⟩)
      · by_cases ej : j = i
        · rw [ej]
          exact Int.le_refl _
        · rcases h with ⟨h1, h2⟩ | ⟨n, h1, h2, h3, h4, h5, h6⟩
          · exact absurd h0 (h2 j (by omega))
          · have := h5 j (by omega) h0
            omega
      · rcases h with ⟨h1, h2⟩ | ⟨n, h1, h2, h3, h4, h5, h6⟩
        · have := h2 j hj
          omega
        · intro g
          have := h5 j hj (by omega)
          omega
    · rw [if_neg c]
      refine bpFrom_spec l q s d (i + 1) b m ?_
      rcases h with ⟨h1, h2⟩ | ⟨n, h1, h2, h3, h4, h5, h6⟩
      · refine .inl ⟨h1, fun j hj => ?_⟩
        by_cases ej : j = i
        · rw [ej]
          intro g
          exact c ⟨g, .inl (by omega)⟩
        · exact h2 j (by omega)
      · refine .inr ⟨n, h1, by omega, h3, h4, fun j hj h0 => ?_, h6⟩
        by_cases ej : j = i
        · rw [ej] at h0 ⊢
          by_cases g : planW l (rowQ q (i : Int)) s < m
          · exact absurd ⟨h0, .inr g⟩ c
          · omega
        · exact h5 j (by omega) h0
theorem FnCompared (d : List Int) (hw : wfS 1 U8 d) : ∃ k, laws_FnCompared.f k d = some true := by
  refine Ev.rounds ?_
  unfold laws_FnCompared.f
  refine bindc (laws_big_eq d) ?_
  by_cases hd : (d.length : Int) > 1048576
  · exact pos (by simpa using hd) (now rfl)
  have hd : d.length ≤ 1048576 := by omega
  obtain ⟨l, q, s, h1, hl, ⟨hq3, hq⟩, hst⟩ := spec_DrawBetterPlan_ev d hd
  have hs12 := hst.1
  have he : ∀ x ∈ s, x.f1.length ≤ 1048576 := fun x hx => by have := hst.2 x hx; omega
  have hqs : ∀ p ∈ q, p.length ≤ 1048576 ∧ ∀ x ∈ p, x.f0.length ≤ 1048576 := fun p hp => ⟨by have := (hq p hp).1; omega, fun x hx => by have := (hq p hp).2 x hx; omega⟩
  have hb := bpFrom_spec l q s q.length 0 (-1) 0 (.inl ⟨rfl, fun j hj => absurd hj (Nat.not_lt_zero j)⟩)
  rw [Nat.zero_add] at hb
  refine neg (by simp; omega) (Ev.bind h1 (Ev.bind (impl_BetterPlan_ev l q s (by omega) (by omega) hqs (by omega) he) ?_))
  dsimp only
  generalize bpFrom l q s q.length 0 (-1) 0 = b at hb
  have pw : ∀ n : Nat, n < q.length → Ev (fun k => impl_PlanWait.f k l (rowQ q (n : Int)) s) (planW l (rowQ q (n : Int)) s) := fun n hn => impl_PlanWait_ev l _ s (by omega) (hqs _ (rowQ_mem q n hn)).1 (hqs _ (rowQ_mem q n hn)).2 (by omega) he
  refine loop (g := fun k j => laws_FnCompared.l0 k d l q s b (j : Int)) q.length ?_ ?_
  · intro j hj ih
    have hr := planW_range l (rowQ q (j : Int)) s (by omega)
    have hip := impl_IsPlan_ev l (rowQ q (j : Int)) (by omega) (hqs _ (rowQ_mem q j hj)).1 (hqs _ (rowQ_mem q j hj)).2
    have hst2 := impl_AreStreams_ev l s
    refine shift ?_
    simp only [laws_FnCompared.l0]
    rw [succ_wrap (by omega)]
    refine pos (by omega) (pos (by omega) (Ev.bind (pw j hj) ?_))
    by_cases c : planW l (rowQ q (j : Int)) s ≥ 0
    · have both : areStreams l s = true ∧ isPlan l (rowQ q (j : Int)) = true := by
        by_cases g : areStreams l s = true ∧ isPlan l (rowQ q (j : Int)) = true
        · exact g
        · rw [planW, if_neg g] at c
          exact absurd c (by decide)
      have fin : ((decide (planW l (rowQ q (j : Int)) s ≥ 0)) != areStreams l s) = false := by rw [both.1, decide_eq_true c]; rfl
      rcases hb with ⟨_, h2⟩ | ⟨n, rfl, h2, h3, h4, h5⟩
      · exact absurd c (h2 j hj)
      · have h6 := h4 j hj c
        refine pos c (neg (by omega) (pos (by omega) (pos (by omega) (Ev.bind (pw n h2) (neg (by omega) ?_)))))
        by_cases g : (j : Int) < (n : Int)
        · refine pos g (Ev.bind (pw n h2) (neg (fun e => h5 j (by omega) e.symm) (Ev.bind hip (pos both.2 (Ev.bind hst2 (neg ?_ ih))))))
          rw [fin]
          decide
        · refine neg g (Ev.bind hip (pos both.2 (Ev.bind hst2 (neg ?_ ih))))
          rw [fin]
          decide
    · have no : ¬ (areStreams l s = true ∧ isPlan l (rowQ q (j : Int)) = true) := by
        intro g
        have := pwFrom_range l (rowQ q (j : Int)) s s.length 0 0 (by omega) (by omega) (by omega)
        rw [planW, if_pos g] at c
        omega
      have e : decide (planW l (rowQ q (j : Int)) s ≥ 0) = false := decide_eq_false c
      refine neg c (Ev.bind hip ?_)
      by_cases g : isPlan l (rowQ q (j : Int)) = true
      · have g2 : areStreams l s = false := by
          cases h : areStreams l s with
          | true => exact absurd ⟨h, g⟩ no
          | false => rfl
        refine pos g (Ev.bind hst2 (neg ?_ ih))
        rw [e, g2]
        decide
      · refine neg g (neg ?_ ih)
        rw [e]
        decide
  · obtain ⟨l2, p2, id, a, h2, hl2, hp2, ha⟩ := spec_DrawStreamWait_ev d hd
    have hp12 := hp2.1
    have hsw := streamW_range l2 p2 id a
    have hal := (allSum_range s he s.length (Nat.le_refl _)).1
    refine shift ?_
    simp only [laws_FnCompared.l0]
    exact neg (by omega) (Ev.bind h2 (Ev.bind (impl_StreamWait_ev l2 p2 (by omega) (by omega) (fun x hx => by have := hp2.2 x hx; omega) id a (by omega)) (pos hsw.1 (Ev.bind (impl_TotalArrivals_ev s (by omega) he) (now (decide_eq_true hal))))))

end Go.Proofs.Ytgpoajmifhmboaa.PureFnCompared
end

section
namespace Go.Proofs.Ytgpoajmifhmboaa.fnCompared
open Go.ChangeShapes Go.WideShapes Go.ChangeAt Go.RowKit
open Go.Proofs.YtgpoajmifhmboaaW.PrintWords Go.Proofs.Ytgpoajmifhmboaa.PCmp Go.Proofs.Ytgpoajmifhmboaa.Opens Go.Proofs.Ytgpoajmifhmboaa.Aid Go.Proofs.Ytgpoajmifhmboaa.PureFnCompared
set_option linter.unusedVariables false
theorem own : ownKnob Try.prog.godebug = none := by kernel_rfl
theorem laidOut : laidOutB Try.prog = true := by kernel_rfl
theorem arg0 : Opens Try.prog 22 (Kd.slice 5 (Kd.int .u8)) (wfS 1 U8) := (opens_slice Try.underlying22 (by kernel_rfl) (B := 1) (by kernel_rfl) (opens_u8 Try.underlying5 (by kernel_rfl)))
set_option maxRecDepth 100000 in
theorem lifted (os : Os) (started : os.Started) (H : Type) (enc : TypeId × Value → H) :
    ReturnsInHanded {} Try.checked os 3 .any (Rows.fnComparedSpec.pre6 enc Try.prog Try.f3 Rows.fnComparedRow.domain false) (Rows.fnComparedSpec.post enc Try.prog Try.f3 false true false false) := by
  refine returnsInHanded_of_change_sized (C := Try.checked) own started (by kernel_rfl) Try.func3
    (ChangeSpec.witness6 (enc := enc) (C := Try.checked) false ⟨#[], #[.slice none 0 0], []⟩ 8 (by kernel_rfl) (by kernel_rfl) (by kernel_rfl) (by kernel_rfl)) ?_
  intro W base args ds gs before hval0 hW hcnd hsz0 _
  have hsz : (DataW.weightsEach Try.prog (Try.f3.params.toList ++ Rows.fnComparedSpec.plain.varTypes Try.prog) (ds ++ gs)).all (· ≤ reachBytes) = true := hsz0
  have hval : ∀ (j : Nat) t v, Try.f3.params[j]? = some t → args[j]? = some v → Value.okWide Try.prog W .any base t v := hval0
  have hW' := hW
  obtain ⟨p, q, hA0, hV, rfl, hfz, hnd⟩ := hW
  have hA : DataW.TrodAll enc Try.prog W 0 (fun _ => true) true Try.f3.params.toList args.toList ds p := hA0
  rw [Try.params3] at hA hval hsz
  obtain ⟨v0, vs0, d0, ds0, p0, q0, hargs, rfl, rfl, h0, r0⟩ := trodAll_cons hA
  obtain ⟨rfl, rfl, rfl⟩ := trodAll_nil r0
  obtain rfl : args = #[v0] := by cases args; simp_all
  obtain ⟨rfl, rfl⟩ := trodVars_none hV
  have k0 := h0
  have lt0 : ∀ x ∈ p0, x.block < W.heap.size := by obtain ⟨m, hm⟩ := k0; exact DataW.trod_lt m _ _ _ hm
  obtain ⟨x0, hK0, hW0⟩ := opens_arg arg0 hsz (j := 0) rfl rfl h0
  obtain ⟨A0, c0, rfl, hc0, hC0⟩ := opens_row Try.underlying22 (hval 0 22 v0 rfl rfl) hK0
  clear hA0 hval0 hsz0 hsz
  obtain ⟨k, hk⟩ := Go.Proofs.Ytgpoajmifhmboaa.PureFnCompared.FnCompared x0 hW0
  refine (laws_FnCompared.calls k _ _ x0 true W hC0 hc0 hk).mono fun e W' ⟨he, bel0⟩ => ?_
  have bel : Below W.heap.size W W' := by first | exact bel0 | exact bel0.below
  subst he
  exact ⟨_, rfl, _, _, _, [], _, [], hW', trodAll_mk1 (shut_bool Try.underlying4 _), (trodAll_cons_mk (Below.trod laidOut (by kernel_rfl) (of_decide_eq_true (by kernel_rfl)) k0 bel lt0) trodAll_mk0), rfl, bel.frame _, fun h => by cases h⟩
theorem over : Rows.fnComparedRow.holds Try.pinned (OpenSpec.ofChange Rows.fnComparedSpec) :=
  OpenClaim.holds_of_wide 3 Try.f3 rfl rfl rfl rfl rfl rfl rfl ⟨rfl, rfl, rfl, rfl, rfl⟩ rfl rfl rfl rfl rfl (by kernel_rfl) Try.func3 (by kernel_rfl)
    (of_decide_eq_true (by kernel_rfl)) (by unfold Func.isWrapper; first | (rw [if_pos (by decide +kernel)]; kernel_rfl) | (rw [if_neg (by decide +kernel)]; exact ⟨rfl, rfl⟩))
    (fun os started H enc _ => lifted os started H enc)
theorem proved : Rows.FnComparedSaid := over
#print axioms proved
end Go.Proofs.Ytgpoajmifhmboaa.fnCompared
namespace Go.Proofs.Ytgpoajmifhmboaa
/-- The row, under a short name, for the claim. -/
theorem fnCompared_holds : Rows.FnComparedSaid := fnCompared.proved
end Go.Proofs.Ytgpoajmifhmboaa
end
