/- The statement FnCars, whole: for every input the law returns true and leaves its arguments as they were; no condition. Out of the contract of the law's walk and the pure theorem. -/
import Derived.Test.YthbebbhfgffdfaaBFnCars0
import Derived.Test.YthbebbhfgffdfaaBFnCars1
import Derived.Test.YthbebbhfgffdfaaBFnCars2
import Derived.Test.YthbebbhfgffdfaaBFnCars3
import Derived.Test.YthbebbhfgffdfaaBFnCars4
import Derived.Test.YthbebbhfgffdfaaBFnCars5
import Derived.Test.YthbebbhfgffdfaaBFnCars6
import Derived.Test.YthbebbhfgffdfaaBFnCars7
import Derived.Test.YthbebbhfgffdfaaBFnCars8
import Derived.Test.YthbebbhfgffdfaaBFnCars9
import Derived.Test.YthbebbhfgffdfaaBFnCars10
import Derived.Test.YthbebbhfgffdfaaWWords
import Derived.Test.YthbebbhfgffdfaaWMore
import Derived.SizedLaws
import Derived.ChangeSlices
import Derived.ChangeArms
import Derived.WideShapes
import Derived.Below
import Derived.Test.YthbebbhfgffdfaaRows
import Derived.WalkKit
import Derived.ProofKit
import Derived.OpenShut
import Derived.ShutString
import Derived.ChangeOld
section
namespace Go.Proofs.Ythbebbhfgffdfaa.Aid
open Go.RowKit Go.Proofs.YthbebbhfgffdfaaW.PrintWords Go.Proofs.YthbebbhfgffdfaaW.PrintMore
set_option linter.unusedVariables false

theorem w64 {x : Int} (h0 : -9223372036854775808 ≤ x) (h1 : x ≤ 9223372036854775807) : wrap64 x = x := by
  unfold wrap64
  omega
theorem w64_range (x : Int) : -9223372036854775808 ≤ wrap64 x ∧ wrap64 x ≤ 9223372036854775807 := by
  unfold wrap64
  omega
/-- A number of Go's int. -/
def I64 (x : Int) : Prop := -9223372036854775808 ≤ x ∧ x ≤ 9223372036854775807
theorem i64_of {x : Int} (h : (Lit.int .i64 x).wf = true) : I64 x := by
  simp [Lit.wf, IntKind.min, IntKind.max, IntKind.bits, IntKind.signed] at h
  unfold I64
  omega

/-- A byte. -/
def U8 (x : Int) : Prop := 0 ≤ x ∧ x ≤ 255
theorem u8_of {x : Int} (h : (Lit.int .u8 x).wf = true) : U8 x := by
  simp [Lit.wf, IntKind.min, IntKind.max, IntKind.bits, IntKind.signed] at h
  unfold U8
  omega

/-- A slice within the reach (B: an element's bytes), all of whose elements are as WF says. -/
def wfS {α : Type} (B : Nat) (WF : α → Prop) (xs : List α) : Prop := xs.length ≤ maxLen ∧ xs.length * B ≤ 140737488351232 ∧ ∀ x ∈ xs, WF x

theorem shift {α : Type} {g : Nat → Option α} {r : α} (h : Ev (fun k => g (k + 1)) r) : Ev g r := Ev.step (fun _ => rfl) h
theorem pos {α : Type} {c : Prop} [Decidable c] {a b : Nat → Option α} {r : α} (hc : c) (h : Ev a r) : Ev (fun k => if c then a k else b k) r := by
  simpa only [if_pos hc] using h
theorem neg {α : Type} {c : Prop} [Decidable c] {a b : Nat → Option α} {r : α} (hc : ¬ c) (h : Ev b r) : Ev (fun k => if c then a k else b k) r := by
  simpa only [if_neg hc] using h
theorem now {α : Type} {r s : α} (h : r = s) : Ev (fun _ => some r) s := h ▸ Ev.now r
theorem known {α : Type} {x : Option α} {r : α} (h : x = some r) : Ev (fun _ => x) r := h ▸ Ev.now r
theorem bindc {α β : Type} {x : Option α} {f : Nat → α → Option β} {a : α} {r : β} (h : x = some a) (k : Ev (fun n => f n a) r) : Ev (fun n => x.bind (f n)) r := by
  subst h
  exact k
theorem same {α : Type} {g : Nat → Option α} {r s : α} (h : Ev g r) (e : r = s) : Ev g s := e ▸ h
theorem of_const {α : Type} {x : Option α} {r : α} (h : Ev (fun _ => x) r) : x = some r := by
  obtain ⟨k, hk⟩ := Ev.rounds h
  exact hk

/-- A loop whose round j leads from state j to state j + 1, and whose N-th state is its end. -/
theorem loop {α : Type} {g : Nat → Nat → Option α} {r : α} (N : Nat) (hs : ∀ j, j < N → Ev (fun k => g k (j + 1)) r → Ev (fun k => g k j) r) (he : Ev (fun k => g k N) r) : Ev (fun k => g k 0) r := by
  have : ∀ d j, j + d = N → Ev (fun k => g k j) r := by
    intro d
    induction d with
    | zero =>
      intro j hj
      have : j = N := by omega
      subst this
      exact he
    | succ d ih => exact fun j hj => hs j (by omega) (ih (j + 1) (by omega))
  exact this N 0 (by omega)
/-- The same from state i on. -/
theorem loop_from {α : Type} {g : Nat → Nat → Option α} {r : α} (i N : Nat) (hi : i ≤ N) (hs : ∀ j, i ≤ j → j < N → Ev (fun k => g k (j + 1)) r → Ev (fun k => g k j) r) (he : Ev (fun k => g k N) r) : Ev (fun k => g k i) r := by
  have : ∀ d j, i ≤ j → j + d = N → Ev (fun k => g k j) r := by
    intro d
    induction d with
    | zero =>
      intro j _ hj
      have : j = N := by omega
      subst this
      exact he
    | succ d ih => exact fun j h0 hj => hs j h0 (by omega) (ih (j + 1) (by omega) (by omega))
  exact this (N - i) i (Nat.le_refl _) (by omega)

theorem rd_nat (xs : List Int) (j : Nat) : rd xs (j : Int) = xs.getD j 0 := by simp [rd]
theorem rd_get (xs : List Int) (j : Nat) (h : j < xs.length) : rd xs (j : Int) = xs[j] := by simp [rd, h]
theorem nat_lt {a b : Nat} (h : a < b) : (a : Int) < (b : Int) := by omega
theorem nat_ge {a b : Nat} (h : b ≤ a) : ¬ (a : Int) < (b : Int) := by omega
theorem succ_wrap {j : Nat} (h : j < 9223372036854775807) : wrap64 ((j : Int) + 1) = ((j + 1 : Nat) : Int) := by
  rw [w64 (by omega) (by omega)]
  omega

/-- A loop that fills a row, one place a round. -/
theorem copied {α β : Type} {g : Nat → List β → Int → Option (List β)} (l : List α) (f : α → β) (z : β) (hs : ∀ (j : Nat) (hj : j < l.length) (y : List β) (r : List β), y.length = l.length → Ev (fun k => g k (y.set j (f l[j])) ((j + 1 : Nat) : Int)) r → Ev (fun k => g k y (j : Int)) r)
    (he : ∀ y, Ev (fun k => g k y (l.length : Int)) y) : Ev (fun k => g k (List.replicate l.length z) 0) (l.map f) := by
  refine loop (g := fun k j => g k ((l.map f).take j ++ List.replicate (l.length - j) z) (j : Int)) (r := l.map f) l.length ?_ ?_ |> (fun h => by simpa using h)
  · intro j hj h
    refine hs j hj _ _ (by simp; omega) ?_
    refine Eq.mp ?_ h
    congr 1
    funext k
    congr 1
    rw [List.set_append_right _ _ (by simp; omega)]
    have h1 : (l.map f).take (j + 1) = (l.map f).take j ++ [f l[j]] := by
      rw [List.take_succ_eq_append_getElem (by simpa using hj)]
      simp
    have h2 : l.length - j = (l.length - (j + 1)) + 1 := by omega
    have h3 : j - ((l.map f).take j).length = 0 := by simp; omega
    rw [h1, h3, h2, List.replicate_succ, List.set_cons_zero]
    simp
  · have h := he (l.map f)
    have e : (l.map f).take l.length = l.map f := List.take_of_length_le (by simp)
    simpa [e] using h

/-- A loop that looks at each place and answers no at the first that is not as it ought to be. -/
theorem all_loop {g : Nat → Nat → Option Bool} (N : Nat) (ok : Nat → Bool) (b : Bool) (hs : ∀ j r, j < N → ok j = true → Ev (fun k => g k (j + 1)) r → Ev (fun k => g k j) r)
    (hf : ∀ j, j < N → ok j = false → Ev (fun k => g k j) false) (he : Ev (fun k => g k N) b) : Ev (fun k => g k 0) ((List.range N).all ok && b) := by
  have : ∀ d j, j + d = N → Ev (fun k => g k j) ((List.range' j d).all ok && b) := by
    intro d
    induction d with
    | zero =>
      intro j hj
      have : j = N := by omega
      subst this
      simpa using he
    | succ d ih =>
      intro j hj
      rw [List.range'_succ, List.all_cons]
      cases h : ok j with
      | true => simpa using hs j _ (by omega) h (ih (j + 1) (by omega))
      | false => simpa using hf j (by omega) h
  have h := this N 0 (by omega)
  rwa [← List.range_eq_range'] at h
/-- The same where all places are as they ought to be, .. -/
theorem ok_loop {α : Type} {g : Nat → Nat → Option α} (N : Nat) (ok : Nat → Bool) {r : α} (h : (List.range N).all ok = true) (hs : ∀ j r, j < N → ok j = true → Ev (fun k => g k (j + 1)) r → Ev (fun k => g k j) r)
    (he : Ev (fun k => g k N) r) : Ev (fun k => g k 0) r :=
  loop N (fun j hj hn => hs j r hj (List.all_eq_true.1 h j (List.mem_range.2 hj)) hn) he
/-- .. and where one isn't: the first that isn't decides. -/
theorem bad_loop {α : Type} {g : Nat → Nat → Option α} (N : Nat) (ok : Nat → Bool) (r : α) (h : ¬ (List.range N).all ok = true) (hs : ∀ j r, j < N → ok j = true → Ev (fun k => g k (j + 1)) r → Ev (fun k => g k j) r)
    (hf : ∀ j, j < N → ok j = false → Ev (fun k => g k j) r) : Ev (fun k => g k 0) r := by
  have : ∀ d j, j + d = N → ¬ (List.range' j d).all ok = true → Ev (fun k => g k j) r := by
    intro d
    induction d with
    | zero => exact fun j _ hn => absurd rfl hn
    | succ d ih =>
      intro j hj hn
      rw [List.range'_succ, List.all_cons] at hn
      cases ho : ok j with
      | true => exact hs j _ (by omega) ho (ih (j + 1) (by omega) (by simpa [ho] using hn))
      | false => exact hf j (by omega) ho
  exact this N 0 (by omega) (by rwa [← List.range_eq_range'])
/-- n numbers from a on. -/
def iota (a : Int) (n : Nat) : List Int := (List.range n).map fun (i : Nat) => a + (i : Int)
theorem iota_length (a : Int) (n : Nat) : (iota a n).length = n := by simp [iota]
theorem iota_get (a : Int) (n j : Nat) (h : j < n) : rd (iota a n) (j : Int) = a + j := by simp [rd, iota, h]
theorem iota_set (a : Int) (l : List Int) (j : Nat) (h : j < l.length) : (iota a j ++ l.drop j).set j (a + j) = iota a (j + 1) ++ l.drop (j + 1) := by
  rw [List.set_append_right _ _ (by rw [iota_length]; exact Nat.le_refl _), iota_length, Nat.sub_self, List.drop_eq_getElem_cons h, List.set_cons_zero]
  have : iota a (j + 1) = iota a j ++ [a + j] := by simp [iota, List.range_succ]
  rw [this]
  simp
end Go.Proofs.Ythbebbhfgffdfaa.Aid
end

section
namespace Go.Proofs.Ythbebbhfgffdfaa.Opens
open Go.ChangeShapes Go.WideShapes Go.RowKit Go.Proofs.YthbebbhfgffdfaaW.PrintWords Go.Proofs.Ythbebbhfgffdfaa.Aid
set_option linter.unusedVariables false

/-- Whatever can be read as data of type t is of kind kd, and meets WF. -/
def Opens {α : Type} (P : Program) (t : TypeId) (kd : Kd α) (WF : α → Prop) : Prop :=
  P.cellsOf t = kd.sz ∧ ∀ (H : Type) (enc : TypeId × Value → H) (w : World) (base : Nat) (spare : Nat → Bool) (held : Bool) (fuel : Nat) (cs : List Value) (d : DataW H) (ps : List MemPlace),
    DataW.trod enc P w base spare held fuel t cs = some (d, ps) → (∀ n ∈ d.weights P t, n ≤ reachBytes) → ∃ x, kd.K w x cs ∧ WF x

theorem opens_int {P : Program} {t : TypeId} (ht : P.underlying t = some (.int .i64)) (hc : P.cellsOf t = 1) : Opens P t (Kd.int .i64) I64 := by
  refine ⟨hc, fun H enc w base spare held fuel cs d ps h _ => ?_⟩
  obtain ⟨n, rfl, _, hw⟩ := DataW.trod_int ht h
  exact ⟨n, rfl, i64_of hw⟩

/-- The same of bytes. -/
theorem opens_u8 {P : Program} {t : TypeId} (ht : P.underlying t = some (.int .u8)) (hc : P.cellsOf t = 1) : Opens P t (Kd.int .u8) U8 := by
  refine ⟨hc, fun H enc w base spare held fuel cs d ps h _ => ?_⟩
  obtain ⟨n, rfl, _, hw⟩ := DataW.trod_int ht h
  exact ⟨n, rfl, u8_of hw⟩

theorem opens_bool {P : Program} {t : TypeId} (ht : P.underlying t = some .bool) (hc : P.cellsOf t = 1) : Opens P t Kd.bool (fun _ => True) := by
  refine ⟨hc, fun H enc w base spare held fuel cs d ps h _ => ?_⟩
  obtain ⟨b, rfl, _⟩ := DataW.trod_bool ht h
  exact ⟨b, rfl, trivial⟩

theorem weights_elem {H : Type} {P : Program} {e : TypeId} {n : Nat} : ∀ {ds : List (DataW H)} {d : DataW H}, d ∈ ds → n ∈ d.weights P e → n ∈ DataW.weightsAll P e ds
  | [], _, h, _ => by simp at h
  | d0 :: r, d, h, hn => by
    rw [DataW.weightsAll]
    rcases List.mem_cons.1 h with rfl | h
    · exact List.mem_append_left _ hn
    · exact List.mem_append_right _ (weights_elem h hn)

theorem choose_list {α : Type} {n : Nat} {Q : Nat → α → Prop} (h : ∀ i, i < n → ∃ x, Q i x) : ∃ xs : List α, xs.length = n ∧ ∀ i x, xs[i]? = some x → Q i x := by
  induction n with
  | zero => exact ⟨[], rfl, fun i x hx => by simp at hx⟩
  | succ n ih =>
    obtain ⟨xs, hl, hx⟩ := ih (fun i hi => h i (by omega))
    obtain ⟨y, hy⟩ := h n (by omega)
    refine ⟨xs ++ [y], by simp [hl], fun i x hi => ?_⟩
    by_cases hlt : i < n
    · rw [List.getElem?_append_left (by omega)] at hi
      exact hx i x hi
    · have hl2 := (List.getElem?_eq_some_iff.1 hi).1
      simp at hl2
      have : i = n := by omega
      subst this
      rw [List.getElem?_append_right (by omega)] at hi
      simp [hl] at hi
      exact hi ▸ hy

theorem opens_slice {α : Type} {P : Program} {t e : TypeId} {kd : Kd α} {WF : α → Prop} (ht : P.underlying t = some (.slice e)) (hc : P.cellsOf t = 1) {B : Nat} (hB : P.bytesOf e = B) (he : Opens P e kd WF) :
    Opens P t (Kd.slice e kd) (wfS B WF) := by
  subst hB
  refine ⟨hc, fun H enc w base spare held fuel cs d ps h hw => ?_⟩
  rcases DataW.trod_slice ht h with ⟨rfl, _⟩ | ⟨a, len, cap, elems, rest, n, _, rfl, hx, hb, hl, hm, hlen, hel, _, _⟩
  · exact ⟨[], ⟨none, 0, rfl, Nat.le_refl _, ⟨rfl, by simp, fun h => absurd h (by simp)⟩⟩, by simp [maxLen], by simp, by simp⟩
  · simp only [Prod.mk.injEq] at hx
    obtain ⟨rfl, _⟩ := hx
    have each : ∀ i, i < len → ∃ x, (∃ c, c.length = kd.sz ∧ kd.K w x c ∧ ∀ j u, c[j]? = some u → w.cell? (a.add (i * kd.sz + j)) = some u) ∧ WF x := by
      intro i hi
      have h1 := hel i hi
      have h2 : i < elems.length := by omega
      rw [List.getElem?_eq_getElem h2] at h1
      obtain ⟨c, hc1, hc2⟩ := Option.bind_eq_some_iff.1 h1
      obtain ⟨_, hcl, hcc⟩ := World.cells?_some hc1
      obtain ⟨x, hx1, hx2⟩ := he.2 H enc w base spare held n c elems[i].1 elems[i].2 hc2 (fun m hm' => hw m (by
        rw [DataW.weights, ht]
        simp only [List.mem_cons, List.mem_append]
        exact .inr (.inl (weights_elem (List.mem_map.2 ⟨elems[i], List.getElem_mem h2, rfl⟩) hm'))))
      refine ⟨x, ⟨c, by rw [hcl, he.1], hx1, fun j u hj => ?_⟩, hx2⟩
      have hj2 := (List.getElem?_eq_some_iff.1 hj).1
      have := hcc j (by omega)
      rw [hj, he.1] at this
      rw [← this, Addr.add_add]
    obtain ⟨xs, hxl, hxs⟩ := choose_list each
    subst hxl
    refine ⟨xs, ⟨some a, cap, rfl, hl, ⟨rfl, by simp [maxLen] at hm; omega, fun _ => ⟨a, rfl, fun j p hj => ?_⟩⟩⟩, by omega, ?_, fun x hx => ?_⟩
    · exact (hxs j p hj).1
    · have := hw ((elems.length + rest.length) * P.bytesOf e) (by rw [DataW.weights, ht]; simp)
      exact Nat.le_trans (Nat.mul_le_mul_right _ (by omega)) this
    · obtain ⟨i, hi⟩ := List.getElem?_of_mem hx
      exact (hxs i x hi).2

/-- The same of a struct's fields from one on, which begins at cell off. -/
def OpensF {α : Type} (P : Program) (fs : List Field) (off : Nat) (kd : Kd α) (WF : α → Prop) : Prop :=
  ∀ (H : Type) (enc : TypeId × Value → H) (w : World) (base : Nat) (spare : Nat → Bool) (held : Bool) (fuel : Nat) (cs : List Value) (ys : List (DataW H × List MemPlace)),
    cs.length = off + kd.sz → ys.length = fs.length → (∀ (i : Nat) (f : Field), fs[i]? = some f → DataW.trod enc P w base spare held fuel f.type ((cs.drop f.offset).take (P.cellsOf f.type)) = ys[i]?) →
    (∀ n ∈ DataW.weightsEach P (fs.map (·.type)) (ys.map (·.1)), n ≤ reachBytes) → ∃ x, kd.K w x (cs.drop off) ∧ WF x

theorem opensF_last {α : Type} {P : Program} {f : Field} {off : Nat} {kd : Kd α} {WF : α → Prop} (ho : f.offset = off) (h : Opens P f.type kd WF) : OpensF P [f] off kd WF := by
  intro H enc w base spare held fuel cs ys hcs hys hf hw
  match ys, hys with
  | [y], _ =>
    have h1 := hf 0 f rfl
    rw [ho, h.1, List.take_of_length_le (by simp; omega)] at h1
    exact h.2 H enc w base spare held fuel _ y.1 y.2 h1 (fun n hn => hw n (by simp [DataW.weightsEach, hn]))

theorem opensF_cons {α β : Type} {P : Program} {f : Field} {fs : List Field} {off : Nat} {kd : Kd α} {kr : Kd β} {WF : α → Prop} {WR : β → Prop} (ho : f.offset = off) (h : Opens P f.type kd WF)
    (hr : OpensF P fs (off + kd.sz) kr WR) : OpensF P (f :: fs) off (Kd.pair kd kr) (fun x => WF x.1 ∧ WR x.2) := by
  intro H enc w base spare held fuel cs ys hcs hys hf hw
  match ys, hys with
  | y :: ys, hys =>
    have h1 := hf 0 f rfl
    rw [ho, h.1] at h1
    obtain ⟨x, hx1, hx2⟩ := h.2 H enc w base spare held fuel _ y.1 y.2 h1 (fun n hn => hw n (by simp [DataW.weightsEach, hn]))
    have hs : (Kd.pair kd kr).sz = kd.sz + kr.sz := rfl
    obtain ⟨z, hz1, hz2⟩ := hr H enc w base spare held fuel cs ys (by omega) (by simpa using hys) (fun i g hg => hf (i + 1) g hg) (fun n hn => hw n (by simp [DataW.weightsEach]; exact .inr (by simpa using hn)))
    refine ⟨(x, z), ⟨_, _, ?_, hx1, hz1⟩, hx2, hz2⟩
    rw [← List.drop_drop, List.take_append_drop]

theorem opens_struct {α β : Type} {P : Program} {t : TypeId} {fs : Array Field} {kd : Kd α} {WF : α → Prop} (f : β → α) (g : α → β) (hg : ∀ x, f (g x) = x) (ht : P.underlying t = some (.struct fs)) (hc : P.cellsOf t = kd.sz)
    (h : OpensF P fs.toList 0 kd WF) : Opens P t (Kd.iso kd f) (fun x => WF (f x)) := by
  refine ⟨hc, fun H enc w base spare held fuel cs d ps hd hw => ?_⟩
  obtain ⟨xs, n, _, hx, hl, hxl, hf⟩ := DataW.trod_struct ht hd
  simp only [Prod.mk.injEq] at hx
  obtain ⟨rfl, _⟩ := hx
  obtain ⟨y, hy1, hy2⟩ := h H enc w base spare held n cs xs (by omega) (by simpa using hxl) (fun i f' hf' => hf i f' (by simpa using hf')) (fun m hm => hw m (by rw [DataW.weights, ht]; simpa using hm))
  refine ⟨g y, ?_, ?_⟩
  · show kd.K w (f (g y)) cs
    rw [hg]
    simpa using hy1
  · show WF (f (g y))
    rw [hg]
    exact hy2

/-- An argument, opened. -/
theorem opens_arg {α : Type} {H : Type} {enc : TypeId × Value → H} {P : Program} {w : World} {base : Nat} {spare : Nat → Bool} {held : Bool} {t : TypeId} {v : Value} {kd : Kd α} {WF : α → Prop} {d : DataW H} {ps : List MemPlace} (h : Opens P t kd WF)
    {ts : List TypeId} {ds : List (DataW H)} {j : Nat} (hsz : (DataW.weightsEach P ts ds).all (· ≤ reachBytes) = true) (ht : ts[j]? = some t) (hd : ds[j]? = some d) (hv : DataW.Trod enc P w base spare held t v d ps) :
    ∃ x, kd.K w x v.cells.toList ∧ WF x := by
  obtain ⟨fuel, hf⟩ := hv
  refine h.2 H enc w base spare held fuel _ d ps hf (fun n hn => ?_)
  have := List.all_eq_true.1 hsz n (DataW.weights_mem_each ht hd n hn)
  simpa using this

/-- A slice argument: its address, its capacity, its row. -/
theorem opens_row {α : Type} {P : Program} {w : World} {t e : TypeId} {r : Reach} {b0 : Nat} {v : Value} {kd : Kd α} {x : List α} (ht : P.underlying t = some (.slice e)) (hval : Value.okWide P w r b0 t v) (h : (Kd.slice e kd).K w x v.cells.toList) :
    ∃ A c, v = .slice A x.length c ∧ x.length ≤ c ∧ Kd.C kd w A x.length x := by
  obtain ⟨a, len, cap, rfl⟩ := okWide_slice ht hval
  obtain ⟨A, c, hv, hl, hC⟩ := h
  simp [Value.cells] at hv
  obtain ⟨rfl, rfl, rfl⟩ := hv
  exact ⟨_, _, rfl, hl, hC⟩

/-- A struct argument by value: its cells. -/
theorem opens_agg {P : Program} {w : World} {t : TypeId} {fs : Array Field} {r : Reach} {b0 : Nat} {v : Value} {cs : List Value} (ht : P.underlying t = some (.struct fs)) (hval : Value.okWide P w r b0 t v) (h : v.cells.toList = cs) :
    v = .agg cs.toArray := by
  obtain ⟨c, rfl, _⟩ := okWide_struct ht hval
  simp [Value.cells] at h
  simp [← h]

end Go.Proofs.Ythbebbhfgffdfaa.Opens
end

section
namespace Go.Proofs.Ythbebbhfgffdfaa.PureFnCars
open Go.RowKit Go.Proofs.YthbebbhfgffdfaaW.PrintWords Go.Proofs.YthbebbhfgffdfaaW.PrintLast Go.Proofs.YthbebbhfgffdfaaW.PrintMore Go.Proofs.Ythbebbhfgffdfaa.PCrs Go.Proofs.Ythbebbhfgffdfaa.Aid
set_option linter.unusedVariables false
set_option linter.unusedSimpArgs false


theorem slices_Index_int_int_ev (l : List Int) (a : Int) (hl : l.length ≤ 9223372036854775806) : ∃ r, Ev (fun k => slices_Index_int_int.f k l a) r ∧ (r ≥ 0 ↔ a ∈ l) := by
  unfold slices_Index_int_int.f
  have : ∀ d j, j + d = l.length → ∃ r, Ev (fun k => slices_Index_int_int.l0 k l a (l.length : Int) (j : Int)) r ∧ (r ≥ 0 ↔ a ∈ l.drop j) := by
    intro d
    induction d with
    | zero =>
      intro j hj
      refine ⟨-1, shift ?_, by rw [List.drop_eq_nil_of_le (by omega)]; simp⟩
      simp only [slices_Index_int_int.l0]
      exact neg (by omega) (now rfl)
    | succ d ih =>
      intro j hj
      have hjl : j < l.length := by omega
      by_cases h : a = l[j]
      · refine ⟨(j : Int), shift ?_, ⟨fun _ => by rw [List.drop_eq_getElem_cons hjl, h]; exact List.mem_cons_self, fun _ => by omega⟩⟩
        simp only [slices_Index_int_int.l0]
        rw [rd_get l j hjl]
        exact pos (nat_lt hjl) (pos (by omega) (pos (nat_lt hjl) (pos h (now rfl))))
      · obtain ⟨r, h1, h2⟩ := ih (j + 1) (by omega)
        refine ⟨r, shift ?_, by rw [h2, List.drop_eq_getElem_cons hjl, List.mem_cons]; exact ⟨.inr, fun g => g.resolve_left h⟩⟩
        simp only [slices_Index_int_int.l0]
        rw [rd_get l j hjl, succ_wrap (by omega)]
        exact pos (nat_lt hjl) (pos (by omega) (pos (nat_lt hjl) (neg h h1)))
  simpa using this l.length 0 (by omega)

theorem slices_Contains_int_int_ev (l : List Int) (a : Int) (hl : l.length ≤ 9223372036854775806) : Ev (fun k => slices_Contains_int_int.f k l a) (decide (a ∈ l)) := by
  unfold slices_Contains_int_int.f
  obtain ⟨r, h1, h2⟩ := slices_Index_int_int_ev l a hl
  exact Ev.bind h1 (now (decide_eq_decide.2 h2))

theorem laws_big_eq (l : List Int) : laws_big.f l = some (decide ((l.length : Int) > 1048576)) := rfl

theorem spec_l1New_ev (l : List Int) : ∃ s, Ev (fun k => spec_l1New.f k l) (l, 0, s) := by
  unfold spec_l1New.f
  have : ∀ d j s, j + d = l.length → (j : Nat) ≤ 4000 → ∃ s2, Ev (fun k => spec_l1New.l0 k l s (j : Int)) (l, 0, s2) := by
    intro d
    induction d with
    | zero =>
      intro j s hj _
      refine ⟨s, shift ?_⟩
      simp only [spec_l1New.l0]
      exact neg (by omega) (now rfl)
    | succ d ih =>
      intro j s hj hk
      by_cases h : j < 4000
      · obtain ⟨s2, h2⟩ := ih (j + 1) (Go.bits .and .i64 (wrap64 ((wrap64 ((wrap64 (s * 137)) + (wrap64 (rd l j)))) + 11)) 1073741823) (by omega) (by omega)
        refine ⟨s2, shift ?_⟩
        simp only [spec_l1New.l0]
        rw [succ_wrap (by omega)]
        exact pos (by omega) (pos (by omega) (pos (by omega) h2))
      · refine ⟨s, shift ?_⟩
        simp only [spec_l1New.l0]
        exact pos (by omega) (neg (by omega) (now rfl))
  exact this l.length 0 _ (by omega) (by omega)

theorem and255 (x : Int) : 0 ≤ Go.bits .and .i64 x 255 ∧ Go.bits .and .i64 x 255 ≤ 255 := by
  have h : (BitVec.ofInt 64 x &&& BitVec.ofInt 64 255).toNat ≤ 255 := by
    rw [BitVec.toNat_and]
    exact Nat.le_trans Nat.and_le_right (by decide)
  show 0 ≤ IntKind.wrap .i64 ((BitVec.ofInt 64 x &&& BitVec.ofInt 64 255).toNat : Int) ∧ IntKind.wrap .i64 ((BitVec.ofInt 64 x &&& BitVec.ofInt 64 255).toNat : Int) ≤ 255
  generalize (BitVec.ofInt 64 x &&& BitVec.ofInt 64 255).toNat = n at h
  have e : IntKind.wrap .i64 (n : Int) = wrap64 (n : Int) := by simp only [i64_w]
  rw [e, w64 (by omega) (by omega)]
  omega
theorem spec_l1Byte_ok (d : List Int) (p s : Int) (hd : d.length ≤ 1048576) (hp : 0 ≤ p ∧ p ≤ d.length) : ∃ v p2 s2, spec_l1Byte.f d p s = some (v, p2, s2) ∧ (0 ≤ p2 ∧ p2 ≤ d.length) ∧ 0 ≤ v ∧ v ≤ 255 := by
  unfold spec_l1Byte.f
  by_cases h : p < (d.length : Int)
  · refine ⟨_, _, _, by rw [if_pos h, if_pos hp.1], ?_, and255 _⟩
    rw [w64 (by omega) (by omega)]
    omega
  · exact ⟨_, _, _, by rw [if_neg h], hp, and255 _⟩

theorem spec_l1Below_ok (d : List Int) (p s a : Int) (hd : d.length ≤ 1048576) (hp : 0 ≤ p ∧ p ≤ d.length) : ∃ v p2 s2, spec_l1Below.f d p s a = some (v, p2, s2) ∧ (0 ≤ p2 ∧ p2 ≤ d.length) ∧ 0 ≤ v ∧ (0 < a → v < a) := by
  unfold spec_l1Below.f
  by_cases h : a ≤ 0
  · exact ⟨0, p, s, by rw [if_pos h], hp, by omega, by omega⟩
  rw [if_neg h]
  obtain ⟨v1, p1, s1, e1, r1, b1⟩ := spec_l1Byte_ok d p s hd hp
  by_cases h2 : a ≤ 256
  · refine ⟨Int.tmod v1 a, p1, s1, by rw [if_pos h2, e1, Option.bind_some, if_neg (by omega)], r1, Int.tmod_nonneg _ b1.1, fun h3 => Int.tmod_lt_of_pos _ h3⟩
  · obtain ⟨v2, p2, s2, e2, r2, b2⟩ := spec_l1Byte_ok d p1 s1 hd r1
    obtain ⟨v3, p3, s3, e3, r3, b3⟩ := spec_l1Byte_ok d p2 s2 hd r2
    refine ⟨_, p3, s3, by rw [if_neg h2, e1, Option.bind_some]; simp only [e2, e3, Option.bind_some]; rw [if_neg (by omega)], r3, Int.tmod_nonneg _ ?_, fun h3 => Int.tmod_lt_of_pos _ h3⟩
    rw [w64 (x := v1 * 65536) (by omega) (by omega), w64 (x := v2 * 256) (by omega) (by omega), w64 (x := v1 * 65536 + v2 * 256) (by omega) (by omega), w64 (by omega) (by omega)]
    omega

theorem spec_l1Int_ok (d : List Int) (p s : Int) (l : List Int) (hd : d.length ≤ 1048576) (hp : 0 ≤ p ∧ p ≤ d.length) (hl : 0 < l.length) : ∃ v p2 s2, spec_l1Int.f d p s l = some (v, p2, s2) ∧ (0 ≤ p2 ∧ p2 ≤ d.length) ∧ v ∈ l := by
  unfold spec_l1Int.f
  obtain ⟨v, p2, s2, e, r, h0, h1⟩ := spec_l1Below_ok d p s (l.length : Int) hd hp
  have h1 := h1 (by omega)
  refine ⟨rd l v, p2, s2, by rw [e, Option.bind_some, if_pos h0, if_pos h1], r, ?_⟩
  obtain ⟨n, rfl⟩ := Int.eq_ofNat_of_zero_le h0
  rw [rd_get l n (by omega)]
  exact List.getElem_mem _

theorem spec_l20Seconds_ev (l : List S76) (a b : Int) (hl : l.length ≤ 1048576) : ∃ v, Ev (fun k => spec_l20Seconds.f k l a b) v := by
  unfold spec_l20Seconds.f
  have : ∀ d j, j + d = l.length → ∃ v, Ev (fun k => spec_l20Seconds.l0 k l a b (j : Int)) v := by
    intro d
    induction d with
    | zero =>
      intro j hj
      refine ⟨0, shift ?_⟩
      simp only [spec_l20Seconds.l0]
      exact neg (by omega) (now rfl)
    | succ d ih =>
      intro j hj
      obtain ⟨v, hv⟩ := ih (j + 1) (by omega)
      by_cases h1 : (rd_T76 l (j : Int)).f0 = a
      · by_cases h2 : (rd_T76 l (j : Int)).f1 = b
        · refine ⟨(rd_T76 l (j : Int)).f2, shift ?_⟩
          simp only [spec_l20Seconds.l0]
          exact pos (by omega) (pos (by omega) (pos h1 (pos h2 (now rfl))))
        · refine ⟨v, shift ?_⟩
          simp only [spec_l20Seconds.l0]
          rw [succ_wrap (by omega)]
          exact pos (by omega) (pos (by omega) (pos h1 (neg h2 hv)))
      · refine ⟨v, shift ?_⟩
        simp only [spec_l20Seconds.l0]
        rw [succ_wrap (by omega)]
        exact pos (by omega) (pos (by omega) (neg h1 hv))
  exact this l.length 0 (by omega)

theorem spec_l20Draw_at (d : List Int) (hd : d.length ≤ 1048576) : ∀ (i : Nat) (l : List S76) (q s : Int), l.length + i ≤ 1000 → (0 ≤ q ∧ q ≤ d.length) →
    ∃ l2 q2 s2, Ev (fun k => spec_l20Draw.l0 k l (i : Int) d q s) (l2, q2, s2) ∧ l2.length ≤ l.length + i ∧ (0 ≤ q2 ∧ q2 ≤ d.length) := by
  intro i
  induction i with
  | zero =>
    intro l q s hl hq
    refine ⟨l, q, s, shift ?_, by omega, hq⟩
    simp only [spec_l20Draw.l0]
    exact neg (by omega) (now rfl)
  | succ i ih =>
    intro l q s hl hq
    obtain ⟨c1, q1, s1, e1, hq1, _⟩ := spec_l1Below_ok d q s 4 hd hq
    obtain ⟨c2, q2, s2, e2, hq2, _⟩ := spec_l1Below_ok d q1 s1 4 hd hq1
    obtain ⟨c3, q3, s3, e3, hq3, _⟩ := spec_l1Below_ok d q2 s2 40 hd hq2
    have e5 : wrap64 (((i + 1 : Nat) : Int) - 1) = (i : Int) := by rw [w64 (by omega) (by omega)]; omega
    by_cases c : wrap64 (1 + c1) = wrap64 (1 + c2)
    · obtain ⟨l4, q4, s4, h4, n4, r4⟩ := ih l q3 s3 (by omega) hq3
      refine ⟨l4, q4, s4, shift ?_, by omega, r4⟩
      simp only [spec_l20Draw.l0]
      rw [e5]
      exact pos (by omega) (bindc e1 (bindc e2 (bindc e3 (pos c h4))))
    · obtain ⟨v, hv⟩ := spec_l20Seconds_ev l (wrap64 (1 + c1)) (wrap64 (1 + c2)) (by omega)
      by_cases c0 : v = 0
      · obtain ⟨l4, q4, s4, h4, n4, r4⟩ := ih (l ++ [⟨wrap64 (1 + c1), wrap64 (1 + c2), wrap64 (5 + c3)⟩]) q3 s3 (by simp; omega) hq3
        refine ⟨l4, q4, s4, shift ?_, by simp at n4; omega, r4⟩
        simp only [spec_l20Draw.l0]
        rw [e5]
        exact pos (by omega) (bindc e1 (bindc e2 (bindc e3 (neg c (Ev.bind hv (pos c0 (pos (by omega) h4)))))))
      · obtain ⟨l4, q4, s4, h4, n4, r4⟩ := ih l q3 s3 (by omega) hq3
        refine ⟨l4, q4, s4, shift ?_, by omega, r4⟩
        simp only [spec_l20Draw.l0]
        rw [e5]
        exact pos (by omega) (bindc e1 (bindc e2 (bindc e3 (neg c (Ev.bind hv (neg c0 h4))))))
theorem spec_l20Draw_ev (d : List Int) (hd : d.length ≤ 1048576) (q s : Int) (hq : 0 ≤ q ∧ q ≤ d.length) :
    ∃ l2 q2 s2, Ev (fun k => spec_l20Draw.f k d q s) (l2, q2, s2) ∧ l2.length ≤ 9 ∧ (0 ≤ q2 ∧ q2 ≤ d.length) := by
  unfold spec_l20Draw.f
  obtain ⟨c1, q1, s1, e1, hq1, c10, c11⟩ := spec_l1Below_ok d q s 10 hd hq
  have c11 := c11 (by omega)
  obtain ⟨i, rfl⟩ := Int.eq_ofNat_of_zero_le c10
  obtain ⟨l2, q2, s2, h2, n2, r⟩ := spec_l20Draw_at d hd i [] q1 s1 (by simp; omega) hq1
  exact ⟨l2, q2, s2, bindc e1 h2, by simp at n2; omega, r⟩

theorem spec_l20Any_ev (d : List Int) (hd : d.length ≤ 1048576) (q s : Int) (hq : 0 ≤ q ∧ q ≤ d.length) :
    ∃ l2 q2 s2, Ev (fun k => spec_l20Any.f k d q s) (l2, q2, s2) ∧ l2.length ≤ 10 ∧ (0 ≤ q2 ∧ q2 ≤ d.length) := by
  unfold spec_l20Any.f
  obtain ⟨l, q1, s1, h1, hl, hq1⟩ := spec_l20Draw_ev d hd q s hq
  by_cases c : (l.length : Int) = 0
  · exact ⟨l, q1, s1, Ev.bind h1 (pos c (now rfl)), by omega, hq1⟩
  obtain ⟨i, q2, s2, e2, hq2, i0, i1⟩ := spec_l1Below_ok d q1 s1 (l.length : Int) hd hq1
  have i1 := i1 (by omega)
  obtain ⟨j, q3, s3, e3, hq3, _⟩ := spec_l1Below_ok d q2 s2 10 hd hq2
  by_cases c0 : j = 0
  · obtain ⟨x, q4, s4, e4, hq4, _⟩ := spec_l1Int_ok d q3 s3 [0, 8, 9] hd hq3 (by simp)
    exact ⟨_, q4, s4, Ev.bind h1 (neg c (bindc e2 (bindc e3 (pos c0 (bindc e4 (pos i0 (pos i1 (now rfl)))))))), by simp; omega, hq4⟩
  by_cases c1 : j = 1
  · obtain ⟨x, q4, s4, e4, hq4, _⟩ := spec_l1Int_ok d q3 s3 [0, 300, 301] hd hq3 (by simp)
    exact ⟨_, q4, s4, Ev.bind h1 (neg c (bindc e2 (bindc e3 (neg c0 (pos c1 (bindc e4 (pos i0 (pos i1 (now rfl))))))))), by simp; omega, hq4⟩
  by_cases c2 : j = 2
  · exact ⟨_, q3, s3, Ev.bind h1 (neg c (bindc e2 (bindc e3 (neg c0 (neg c1 (pos c2 (pos (by dsimp only; omega) (pos (by dsimp only; omega) (now rfl))))))))), by simp; omega, hq3⟩
  · exact ⟨l, q3, s3, Ev.bind h1 (neg c (bindc e2 (bindc e3 (neg c0 (neg c1 (neg c2 (now rfl))))))), by omega, hq3⟩

theorem spec_l1In_eq (a b c : Int) : spec_l1In.f a b c = some (decide (b ≤ a ∧ a ≤ c)) := by
  unfold spec_l1In.f
  by_cases h : b ≤ a
  · rw [if_pos h]
    simp [h]
  · rw [if_neg h]
    simp [h]

theorem impl_streetOf_eq (l : List S76) (a b : Int) : impl_streetOf.f l a b = some (impl_streetOf.from_ a b l 0) := rfl
theorem streetOf_neg (a b : Int) : ∀ (l : List S76) (i : Int), 0 ≤ i → (impl_streetOf.from_ a b l i < 0 ↔ ∀ x ∈ l, ¬ (x.f0 = a ∧ x.f1 = b))
  | [], i, _ => by simp [impl_streetOf.from_]
  | x :: r, i, hi => by
    have ih := streetOf_neg a b r (i + 1) (by omega)
    simp only [impl_streetOf.from_, List.mem_cons, forall_eq_or_imp, ← ih]
    by_cases h : x.f0 = a ∧ x.f1 = b
    · simp [h, hi]
    · have : ¬ ((x.f0 == a) && (x.f1 == b)) = true := by simpa using h
      rw [if_neg this]
      exact ⟨fun g => ⟨h, g⟩, fun g => g.2⟩
def noSame (l : List S76) (a b : Int) (i : Nat) : Bool := !decide ((rd_T76 l i).f0 = a ∧ (rd_T76 l i).f1 = b)
theorem streetOf_iff (l : List S76) (j : Nat) (hj : j ≤ l.length) (a b : Int) : (List.range j).all (noSame l a b) = true ↔ impl_streetOf.from_ a b (l.take j) 0 < 0 := by
  rw [streetOf_neg _ _ _ _ (Int.le_refl _), List.all_eq_true]
  constructor
  · intro h x hx
    obtain ⟨i, hi, rfl⟩ := List.getElem_of_mem hx
    have hi2 : i < j ∧ i < l.length := by rw [List.length_take] at hi; omega
    have := h i (List.mem_range.2 hi2.1)
    rw [List.getElem_take]
    intro ⟨h1, h2⟩
    simp [noSame, rd_T76, hi2.2, h1, h2] at this
  · intro h i hi
    have hij := List.mem_range.1 hi
    have hil : i < l.length := by omega
    have := h l[i] (List.mem_take_iff_getElem.2 ⟨i, by omega, rfl⟩)
    have e : rd_T76 l (i : Int) = l[i] := by simp [rd_T76, hil]
    simp only [noSame, e, Bool.not_eq_true', decide_eq_false_iff_not]
    exact this

def streetRng (s : S76) : Bool := decide (1 ≤ s.f0 ∧ s.f0 ≤ 8 ∧ 1 ≤ s.f1 ∧ s.f1 ≤ 8 ∧ ¬ s.f0 = s.f1 ∧ 1 ≤ s.f2 ∧ s.f2 ≤ 300)
def streetAt (l : List S76) (j : Nat) : Bool := streetRng (rd_T76 l j) && (List.range j).all (noSame l (rd_T76 l j).f0 (rd_T76 l j).f1)
def areStreets (l : List S76) : Bool := (List.range l.length).all (streetAt l) && decide (l.length ≤ 16)
theorem spec_AreStreets_flag (l : List S76) (j : Nat) (h : ¬ streetRng (rd_T76 l j) = true) (hj : j < l.length) : Ev (fun k => spec_AreStreets.l0 k l (j : Int)) false := by
  have hs : ∀ a b c, Ev (fun k => spec_AreStreets.j1 k l (j : Int) true a b c) false := fun a b c => by
    refine shift ?_
    simp only [spec_AreStreets.j1]
    exact pos trivial (now rfl)
  simp only [streetRng, decide_eq_true_eq] at h
  refine shift ?_
  simp only [spec_AreStreets.l0]
  refine pos (nat_lt hj) (pos (by omega) (bindc (spec_l1In_eq _ _ _) ?_))
  by_cases h1 : 1 ≤ (rd_T76 l j).f0 ∧ (rd_T76 l j).f0 ≤ 8
  · refine pos (by simp [h1]) (bindc (spec_l1In_eq _ _ _) ?_)
    by_cases h2 : 1 ≤ (rd_T76 l j).f1 ∧ (rd_T76 l j).f1 ≤ 8
    · refine pos (by simp [h2]) ?_
      by_cases h3 : (rd_T76 l j).f0 = (rd_T76 l j).f1
      · exact pos h3 (hs _ _ _)
      · refine neg h3 (bindc (spec_l1In_eq _ _ _) ?_)
        have h4 : ¬ (1 ≤ (rd_T76 l j).f2 ∧ (rd_T76 l j).f2 ≤ 300) := by omega
        rw [decide_eq_false h4]
        exact hs _ _ _
    · exact neg (by simpa using h2) (hs _ _ _)
  · exact neg (by simpa using h1) (hs _ _ _)
theorem spec_AreStreets_ev (l : List S76) (hl : l.length ≤ 9223372036854775806) : Ev (fun k => spec_AreStreets.f k l) (areStreets l) := by
  unfold spec_AreStreets.f areStreets
  have head : ∀ (j : Nat) (r : Bool), j < l.length → streetRng (rd_T76 l j) = true → Ev (fun k => spec_AreStreets.l1 k l (j : Int) 0 (rd_T76 l j).f0 (rd_T76 l j).f1 (rd_T76 l j).f2) r → Ev (fun k => spec_AreStreets.l0 k l (j : Int)) r := by
    intro j r hj h1 h
    simp only [streetRng, decide_eq_true_eq] at h1
    refine shift ?_
    simp only [spec_AreStreets.l0]
    refine pos (nat_lt hj) (pos (by omega) (bindc (spec_l1In_eq _ _ _) (pos (by simp; omega) (bindc (spec_l1In_eq _ _ _) (pos (by simp; omega) (neg (by omega) (bindc (spec_l1In_eq _ _ _) ?_)))))))
    rw [decide_eq_true (show 1 ≤ (rd_T76 l j).f2 ∧ (rd_T76 l j).f2 ≤ 300 by omega)]
    refine shift ?_
    simp only [spec_AreStreets.j1]
    exact neg (by simp) h
  refine all_loop (g := fun k j => spec_AreStreets.l0 k l (j : Int)) l.length (streetAt l) _ ?_ ?_ ?_
  · intro j r hj ok h
    simp only [streetAt, Bool.and_eq_true] at ok
    refine head j r hj ok.1 (ok_loop (g := fun k i => spec_AreStreets.l1 k l (j : Int) (i : Int) (rd_T76 l j).f0 (rd_T76 l j).f1 (rd_T76 l j).f2) _ _ ok.2 ?_ ?_)
    · intro i r hi oki hh
      simp only [noSame, Bool.not_eq_true', decide_eq_false_iff_not] at oki
      refine shift ?_
      simp only [spec_AreStreets.l1]
      refine pos (nat_lt hi) (pos (by omega) (pos (by omega) ?_))
      rw [succ_wrap (by omega)]
      by_cases h1 : (rd_T76 l i).f0 = (rd_T76 l j).f0
      · exact pos h1 (neg (fun h2 => oki ⟨h1, h2⟩) hh)
      · exact neg h1 hh
    · refine shift ?_
      simp only [spec_AreStreets.l1]
      refine neg (nat_ge (Nat.le_refl _)) ?_
      rw [succ_wrap (by omega)]
      exact h
  · intro j hj ok
    by_cases h1 : streetRng (rd_T76 l j) = true
    · have h2 : ¬ (List.range j).all (noSame l (rd_T76 l j).f0 (rd_T76 l j).f1) = true := by
        intro h2
        simp [streetAt, h1, h2] at ok
      refine head j _ hj h1 (bad_loop (g := fun k i => spec_AreStreets.l1 k l (j : Int) (i : Int) (rd_T76 l j).f0 (rd_T76 l j).f1 (rd_T76 l j).f2) _ _ _ h2 ?_ ?_)
      · intro i r hi oki hh
        simp only [noSame, Bool.not_eq_true', decide_eq_false_iff_not] at oki
        refine shift ?_
        simp only [spec_AreStreets.l1]
        refine pos (nat_lt hi) (pos (by omega) (pos (by omega) ?_))
        rw [succ_wrap (by omega)]
        by_cases h1 : (rd_T76 l i).f0 = (rd_T76 l j).f0
        · exact pos h1 (neg (fun h2 => oki ⟨h1, h2⟩) hh)
        · exact neg h1 hh
      · intro i hi oki
        simp only [noSame, Bool.not_eq_false', decide_eq_true_eq] at oki
        refine shift ?_
        simp only [spec_AreStreets.l1]
        exact pos (nat_lt hi) (pos (by omega) (pos (by omega) (pos oki.1 (pos oki.2 (now rfl)))))
    · exact spec_AreStreets_flag l j h1 hj
  · refine shift ?_
    simp only [spec_AreStreets.l0]
    refine neg (nat_ge (Nat.le_refl _)) (now ?_)
    exact decide_eq_decide.2 (by omega)

theorem spec_l25Draw_at (d : List Int) (hd : d.length ≤ 1048576) (ss : List S76) (hs : ss.length ≤ 1048576) : ∀ (dd i : Nat) (cs : List S51) (q s : Int), i + dd = 9 → cs.length ≤ i → (0 ≤ q ∧ q ≤ d.length) →
    ∃ l2 q2 s2, Ev (fun k => spec_l25Draw.l0 k ss cs (i : Int) d q s) (l2, q2, s2) ∧ l2.length ≤ 9 ∧ (0 ≤ q2 ∧ q2 ≤ d.length) := by
  intro dd
  induction dd with
  | zero =>
    intro i cs q s hi hl hq
    obtain ⟨v, q1, s1, e1, hq1, v0, v1⟩ := spec_l1Below_ok d q s 9 hd hq
    have v1 := v1 (by omega)
    refine ⟨cs, q1, s1, shift ?_, by omega, hq1⟩
    simp only [spec_l25Draw.l0]
    refine bindc e1 (neg (by dsimp only; omega) (shift ?_))
    simp only [spec_l25Draw.j1]
    exact neg (by decide) (now rfl)
  | succ dd ih =>
    intro i cs q s hi hl hq
    obtain ⟨v, q1, s1, e1, hq1, v0, v1⟩ := spec_l1Below_ok d q s 9 hd hq
    by_cases c : (i : Int) < v
    · by_cases g : (ss.length : Int) > 0
      · obtain ⟨a, q2, s2, e2, hq2, a0, a1⟩ := spec_l1Below_ok d q1 s1 (ss.length : Int) hd hq1
        have a1 := a1 (by omega)
        obtain ⟨b, q3, s3, e3, hq3, _⟩ := spec_l1Int_ok d q2 s2 [0, 0, 1, (rd_T76 ss a).f2] hd hq2 (by simp)
        obtain ⟨p, q4, s4, e4, hq4, _⟩ := spec_l1Below_ok d q3 s3 3 hd hq3
        obtain ⟨l5, q5, s5, h5, r⟩ := ih (i + 1) (cs ++ [⟨wrap64 ((wrap64 (2 * (i : Int))) + 1), a, b, wrap64 (1 + p)⟩]) q4 s4 (by omega) (by simp; omega) hq4
        refine ⟨l5, q5, s5, shift ?_, r⟩
        simp only [spec_l25Draw.l0]
        refine bindc e1 (pos c (shift ?_))
        simp only [spec_l25Draw.j1]
        rw [succ_wrap (by omega)]
        exact pos (by simpa using g) (bindc e2 (pos a0 (pos a1 (bindc e3 (bindc e4 (pos (by omega) h5))))))
      · refine ⟨cs, q1, s1, shift ?_, by omega, hq1⟩
        simp only [spec_l25Draw.l0]
        refine bindc e1 (pos c (shift ?_))
        simp only [spec_l25Draw.j1]
        exact neg (by simpa using g) (now rfl)
    · refine ⟨cs, q1, s1, shift ?_, by omega, hq1⟩
      simp only [spec_l25Draw.l0]
      refine bindc e1 (neg c (shift ?_))
      simp only [spec_l25Draw.j1]
      exact neg (by decide) (now rfl)
theorem spec_l25Draw_ev (d : List Int) (hd : d.length ≤ 1048576) (q s : Int) (hq : 0 ≤ q ∧ q ≤ d.length) (ss : List S76) (hs : ss.length ≤ 1048576) :
    ∃ l2 q2 s2, Ev (fun k => spec_l25Draw.f k d q s ss) (l2, q2, s2) ∧ l2.length ≤ 9 ∧ (0 ≤ q2 ∧ q2 ≤ d.length) := by
  unfold spec_l25Draw.f
  exact spec_l25Draw_at d hd ss hs 9 0 [] q s (by omega) (by simp) hq

theorem spec_l4Raw_ok (d : List Int) (p s : Int) (hd : d.length ≤ 1048576) (hp : 0 ≤ p ∧ p ≤ d.length) : ∃ v p2 s2, spec_l4Raw.f d p s = some (v, p2, s2) ∧ (0 ≤ p2 ∧ p2 ≤ d.length) ∧ v ∈ ([-1, 0, 4, 7, 20, 21, 9223372036854775807, -9223372036854775808] : List Int) := by
  unfold spec_l4Raw.f
  obtain ⟨v, p2, s2, e, r, h⟩ := spec_l1Int_ok d p s [-1, 0, 4, 7, 20, 21, 9223372036854775807, -9223372036854775808] hd hp (by simp)
  exact ⟨v, p2, s2, by rw [e, Option.bind_some], r, h⟩

theorem spec_l25Any_ev (d : List Int) (hd : d.length ≤ 1048576) (q s : Int) (hq : 0 ≤ q ∧ q ≤ d.length) :
    ∃ ss cs q2 s2, Ev (fun k => spec_l25Any.f k d q s) (ss, cs, q2, s2) ∧ ss.length ≤ 10 ∧ cs.length ≤ 9 ∧ (0 ≤ q2 ∧ q2 ≤ d.length) := by
  unfold spec_l25Any.f
  obtain ⟨ss, q1, s1, h1, hs, hq1⟩ := spec_l20Any_ev d hd q s hq
  have ha := spec_AreStreets_ev ss (by omega)
  by_cases g : areStreets ss = true
  · obtain ⟨cs, q2, s2, h2, hc, hq2⟩ := spec_l25Draw_ev d hd q1 s1 hq1 ss (by omega)
    by_cases c : (cs.length : Int) = 0
    · exact ⟨ss, cs, q2, s2, Ev.bind h1 (Ev.bind ha (pos g (Ev.bind h2 (pos c (now rfl))))), hs, hc, hq2⟩
    obtain ⟨i, q3, s3, e3, hq3, i0, i1⟩ := spec_l1Below_ok d q2 s2 (cs.length : Int) hd hq2
    have i1 := i1 (by omega)
    obtain ⟨j, q4, s4, e4, hq4, _⟩ := spec_l1Below_ok d q3 s3 10 hd hq3
    by_cases c0 : j = 0
    · obtain ⟨x, q5, s5, e5, hq5, _⟩ := spec_l1Int_ok d q4 s4 [0, 1, 999, 1000] hd hq4 (by simp)
      exact ⟨ss, _, q5, s5, Ev.bind h1 (Ev.bind ha (pos g (Ev.bind h2 (neg c (bindc e3 (bindc e4 (pos c0 (bindc e5 (pos i0 (pos i1 (now rfl))))))))))), hs, by simpa using hc, hq5⟩
    by_cases c1 : j = 1
    · obtain ⟨x, q5, s5, e5, hq5, _⟩ := spec_l4Raw_ok d q4 s4 hd hq4
      exact ⟨ss, _, q5, s5, Ev.bind h1 (Ev.bind ha (pos g (Ev.bind h2 (neg c (bindc e3 (bindc e4 (neg c0 (pos c1 (bindc e5 (pos i0 (pos i1 (now rfl)))))))))))), hs, by simpa using hc, hq5⟩
    by_cases c2 : j = 2
    · obtain ⟨x, q5, s5, e5, hq5, _⟩ := spec_l4Raw_ok d q4 s4 hd hq4
      exact ⟨ss, _, q5, s5, Ev.bind h1 (Ev.bind ha (pos g (Ev.bind h2 (neg c (bindc e3 (bindc e4 (neg c0 (neg c1 (pos c2 (bindc e5 (pos i0 (pos i1 (now rfl))))))))))))), hs, by simpa using hc, hq5⟩
    by_cases c3 : j = 3
    · obtain ⟨x, q5, s5, e5, hq5, _⟩ := spec_l1Int_ok d q4 s4 [0, 20, 21] hd hq4 (by simp)
      exact ⟨ss, _, q5, s5, Ev.bind h1 (Ev.bind ha (pos g (Ev.bind h2 (neg c (bindc e3 (bindc e4 (neg c0 (neg c1 (neg c2 (pos c3 (bindc e5 (pos i0 (pos i1 (now rfl)))))))))))))), hs, by simpa using hc, hq5⟩
    · exact ⟨ss, cs, q4, s4, Ev.bind h1 (Ev.bind ha (pos g (Ev.bind h2 (neg c (bindc e3 (bindc e4 (neg c0 (neg c1 (neg c2 (neg c3 (now rfl))))))))))), hs, hc, hq4⟩
  · exact ⟨ss, [], q1, s1, Ev.bind h1 (Ev.bind ha (neg g (now rfl))), hs, by simp, hq1⟩

theorem spec_DrawAreCars_ev (d : List Int) (hd : d.length ≤ 1048576) : ∃ ss cs, Ev (fun k => spec_DrawAreCars.f k d) (ss, cs) ∧ ss.length ≤ 10 ∧ cs.length ≤ 9 := by
  unfold spec_DrawAreCars.f
  obtain ⟨s, h1⟩ := spec_l1New_ev d
  obtain ⟨ss, cs, q1, s1, h2, hs, hc, _⟩ := spec_l25Any_ev d hd 0 s (by omega)
  exact ⟨ss, cs, Ev.bind h1 (Ev.bind h2 (now rfl)), hs, hc⟩

theorem spec_DrawMoveCars_ev (d : List Int) (hd : d.length ≤ 1048576) : ∃ ss cs op, Ev (fun k => spec_DrawMoveCars.f k d) (ss, cs, op) ∧ ss.length ≤ 10 ∧ cs.length ≤ 9 ∧ op.length ≤ 2 := by
  unfold spec_DrawMoveCars.f
  obtain ⟨ss, cs, h1, hs, hc⟩ := spec_DrawAreCars_ev d hd
  obtain ⟨s, h2⟩ := spec_l1New_ev d
  obtain ⟨a, q1, s1, e1, hq1, _⟩ := spec_l1Below_ok d 0 s 3 hd (by omega)
  obtain ⟨b, q2, s2, e2, hq2, _⟩ := spec_l1Below_ok d q1 s1 3 hd hq1
  exact ⟨ss, cs, _, Ev.bind h1 (Ev.bind h2 (bindc e1 (bindc e2 (now rfl)))), hs, hc, by simp⟩

theorem impl_InRange_eq (a b c : Int) : impl_InRange.f a b c = some (decide (b ≤ a ∧ a ≤ c)) := by
  unfold impl_InRange.f
  by_cases h : b ≤ a
  · rw [if_pos h]
    simp [h]
  · rw [if_neg h]
    simp [h]

theorem impl_isCrossing_eq (a : Int) : impl_isCrossing.f a = some (decide (1 ≤ a ∧ a ≤ 8)) := by
  unfold impl_isCrossing.f
  rw [impl_InRange_eq, Option.bind_some]

theorem impl_AreStreets_ev (l : List S76) : Ev (fun k => impl_AreStreets.f k l) (areStreets l) := by
  unfold impl_AreStreets.f areStreets
  by_cases hr : l.length ≤ 16
  · rw [decide_eq_true hr]
    refine neg (by omega) (all_loop (g := fun k j => impl_AreStreets.l0 k l l (l.length : Int) (j : Int)) l.length (streetAt l) _ ?_ ?_ ?_)
    · intro j r hj ok h
      simp only [streetAt, Bool.and_eq_true] at ok
      have ok2 := (streetOf_iff l j (by omega) _ _).1 ok.2
      have ok1 := ok.1
      simp only [streetRng, decide_eq_true_eq] at ok1
      refine shift ?_
      simp only [impl_AreStreets.l0]
      refine pos (nat_lt hj) (pos (by omega) (pos (nat_lt hj) (bindc (impl_isCrossing_eq _) (pos (by simp; omega) (bindc (impl_isCrossing_eq _) (pos (by simp; omega) (neg (by omega) (bindc (impl_InRange_eq _ _ _) ?_))))))))
      rw [decide_eq_true (show 1 ≤ (rd_T76 l j).f2 ∧ (rd_T76 l j).f2 ≤ 300 by omega)]
      refine shift ?_
      simp only [impl_AreStreets.j1]
      refine neg (by simp) (pos (by omega) (pos (by omega) (bindc (impl_streetOf_eq _ _ _) (neg (by rw [Int.toNat_natCast]; omega) ?_))))
      rw [succ_wrap (by omega)]
      exact h
    · intro j hj ok
      have hs : ∀ a b c, Ev (fun k => impl_AreStreets.j1 k l (j : Int) l (l.length : Int) (j : Int) true a b c) false := fun a b c => by
        refine shift ?_
        simp only [impl_AreStreets.j1]
        exact pos trivial (now rfl)
      refine shift ?_
      simp only [impl_AreStreets.l0]
      refine pos (nat_lt hj) (pos (by omega) (pos (nat_lt hj) (bindc (impl_isCrossing_eq _) ?_)))
      by_cases h1 : 1 ≤ (rd_T76 l j).f0 ∧ (rd_T76 l j).f0 ≤ 8
      · refine pos (by simp [h1]) (bindc (impl_isCrossing_eq _) ?_)
        by_cases h2 : 1 ≤ (rd_T76 l j).f1 ∧ (rd_T76 l j).f1 ≤ 8
        · refine pos (by simp [h2]) ?_
          by_cases h3 : (rd_T76 l j).f0 = (rd_T76 l j).f1
          · exact pos h3 (hs _ _ _)
          · refine neg h3 (bindc (impl_InRange_eq _ _ _) ?_)
            by_cases h4 : 1 ≤ (rd_T76 l j).f2 ∧ (rd_T76 l j).f2 ≤ 300
            · rw [decide_eq_true h4]
              refine shift ?_
              simp only [impl_AreStreets.j1]
              have h5 : ¬ (List.range j).all (noSame l (rd_T76 l j).f0 (rd_T76 l j).f1) = true := by
                intro h5
                have : streetRng (rd_T76 l j) = true := by simp only [streetRng, decide_eq_true_eq]; omega
                simp [streetAt, this, h5] at ok
              rw [streetOf_iff l j (by omega)] at h5
              exact neg (by simp) (pos (by omega) (pos (by omega) (bindc (impl_streetOf_eq _ _ _) (pos (by rw [Int.toNat_natCast]; omega) (now rfl)))))
            · rw [decide_eq_false h4]
              exact hs _ _ _
        · exact neg (by simpa using h2) (hs _ _ _)
      · exact neg (by simpa using h1) (hs _ _ _)
    · refine shift ?_
      simp only [impl_AreStreets.l0]
      exact neg (nat_ge (Nat.le_refl _)) (now rfl)
  · rw [decide_eq_false hr, Bool.and_false]
    exact pos (by omega) (now rfl)

def carAt (ss : List S76) (cs : List S51) (j : Nat) : Bool :=
  decide (1 ≤ (rd_T51 cs j).f0 ∧ (rd_T51 cs j).f0 ≤ 999 ∧ 0 ≤ (rd_T51 cs j).f1 ∧ (rd_T51 cs j).f1 < (ss.length : Int) ∧ 0 ≤ (rd_T51 cs j).f2 ∧ (rd_T51 cs j).f2 ≤ (rd_T76 ss (rd_T51 cs j).f1).f2 ∧ 1 ≤ (rd_T51 cs j).f3 ∧ (rd_T51 cs j).f3 ≤ 20 ∧ (0 < j → (rd_T51 cs ((j : Int) - 1)).f0 < (rd_T51 cs j).f0))
theorem carAt_iff (ss : List S76) (cs : List S51) (j : Nat) : carAt ss cs j = true ↔ (1 ≤ (rd_T51 cs j).f0 ∧ (rd_T51 cs j).f0 ≤ 999 ∧ 0 ≤ (rd_T51 cs j).f1 ∧ (rd_T51 cs j).f1 < (ss.length : Int) ∧ 0 ≤ (rd_T51 cs j).f2 ∧ (rd_T51 cs j).f2 ≤ (rd_T76 ss (rd_T51 cs j).f1).f2 ∧ 1 ≤ (rd_T51 cs j).f3 ∧ (rd_T51 cs j).f3 ≤ 20 ∧ (0 < j → (rd_T51 cs ((j : Int) - 1)).f0 < (rd_T51 cs j).f0)) := by unfold carAt; exact decide_eq_true_iff
def areCars (ss : List S76) (cs : List S51) : Bool := areStreets ss && ((List.range cs.length).all (carAt ss cs) && decide (cs.length ≤ 30))

theorem impl_AreCars_ev (ss : List S76) (cs : List S51) : Ev (fun k => impl_AreCars.f k ss cs) (areCars ss cs) := by
  unfold impl_AreCars.f areCars
  refine Ev.bind (impl_AreStreets_ev ss) ?_
  by_cases h : areStreets ss = true
  · rw [h, Bool.true_and]
    refine pos rfl (shift ?_)
    simp only [impl_AreCars.j0]
    by_cases hl : cs.length ≤ 30
    · rw [decide_eq_true hl]
      refine neg (by simp; omega) (all_loop (g := fun k j => impl_AreCars.l0 k ss cs cs (cs.length : Int) (j : Int)) cs.length (carAt ss cs) _ ?_ ?_ ?_)
      · intro j r hj ok h
        rw [carAt_iff] at ok
        obtain ⟨o1, o2, o3, o4, o5, o6, o7, o8, o9⟩ := ok
        refine shift ?_
        simp only [impl_AreCars.l0]
        rw [succ_wrap (by omega)]
        refine pos (nat_lt hj) (pos (by omega) (pos (nat_lt hj) (bindc (impl_InRange_eq _ _ _) (pos (by simp; omega) ?_))))
        by_cases h0 : (j : Int) > 0
        · rw [w64 (by omega) (by omega)]
          exact pos h0 (pos (by omega) (pos (by omega) (neg (by have := o9 (by omega); omega) (neg (by omega) (neg (by omega) (pos o3 (pos o4 (bindc (impl_InRange_eq _ _ _) (pos (by simp; omega) (bindc (impl_InRange_eq _ _ _) (pos (by simp; omega) h)))))))))))
        · exact neg h0 (neg (by omega) (neg (by omega) (pos o3 (pos o4 (bindc (impl_InRange_eq _ _ _) (pos (by simp; omega) (bindc (impl_InRange_eq _ _ _) (pos (by simp; omega) h))))))))
      · intro j hj ok
        have ok : ¬ carAt ss cs j = true := by simp [ok]
        rw [carAt_iff] at ok
        refine shift ?_
        simp only [impl_AreCars.l0]
        rw [w64 (x := (j : Int) - 1) (by omega) (by omega)]
        refine pos (nat_lt hj) (pos (by omega) (pos (nat_lt hj) (bindc (impl_InRange_eq _ _ _) ?_)))
        by_cases h1 : 1 ≤ (rd_T51 cs j).f0 ∧ (rd_T51 cs j).f0 ≤ 999
        · refine pos (by simp [h1]) ?_
          by_cases h0 : (j : Int) > 0
          · refine pos h0 (pos (by omega) (pos (by omega) ?_))
            by_cases h5 : (rd_T51 cs j).f0 ≤ (rd_T51 cs ((j : Int) - 1)).f0
            · exact pos h5 (now rfl)
            refine neg h5 ?_
            by_cases h2 : (rd_T51 cs j).f1 < 0
            · exact pos h2 (now rfl)
            refine neg h2 ?_
            by_cases h2b : (rd_T51 cs j).f1 ≥ (ss.length : Int)
            · exact pos h2b (now rfl)
            refine neg h2b (pos (by omega) (pos (by omega) (bindc (impl_InRange_eq _ _ _) ?_)))
            by_cases h3 : 0 ≤ (rd_T51 cs j).f2 ∧ (rd_T51 cs j).f2 ≤ (rd_T76 ss (rd_T51 cs j).f1).f2
            · refine pos (by simpa using h3) (bindc (impl_InRange_eq _ _ _) ?_)
              exact neg (by simp; omega) (now rfl)
            · exact neg (by simpa using h3) (now rfl)
          · refine neg h0 ?_
            by_cases h2 : (rd_T51 cs j).f1 < 0
            · exact pos h2 (now rfl)
            refine neg h2 ?_
            by_cases h2b : (rd_T51 cs j).f1 ≥ (ss.length : Int)
            · exact pos h2b (now rfl)
            refine neg h2b (pos (by omega) (pos (by omega) (bindc (impl_InRange_eq _ _ _) ?_)))
            by_cases h3 : 0 ≤ (rd_T51 cs j).f2 ∧ (rd_T51 cs j).f2 ≤ (rd_T76 ss (rd_T51 cs j).f1).f2
            · refine pos (by simpa using h3) (bindc (impl_InRange_eq _ _ _) ?_)
              exact neg (by simp; omega) (now rfl)
            · exact neg (by simpa using h3) (now rfl)
        · exact neg (by simpa using h1) (now rfl)
      · refine shift ?_
        simp only [impl_AreCars.l0]
        exact neg (nat_ge (Nat.le_refl _)) (now rfl)
    · rw [decide_eq_false hl, Bool.and_false]
      exact pos (by simp; omega) (now rfl)
  · refine neg h (shift ?_)
    simp only [impl_AreCars.j0]
    exact pos trivial (now (by simp [h]))

/-- One minute: the cars that are left to go, what has gone on of the way, the cars that left, the streets whose first car is told. -/
def mv (l2 : List Int) : List S51 → List S51 → Int → List Bool → List S51 × Int
  | [], out, n, _ => (out, n)
  | c :: r, out, n, fl =>
    if c.f2 > 0 then mv l2 r (out ++ [⟨c.f0, c.f1, wrap64 (c.f2 - 1), c.f3⟩]) n fl
    else if rdOf false fl c.f1 = true then mv l2 r (out ++ [⟨c.f0, c.f1, c.f2, c.f3⟩]) n fl
    else if c.f3 ∈ l2 then mv l2 r out (wrap64 (n + 1)) (fl.set c.f1.toNat true)
    else mv l2 r (out ++ [⟨c.f0, c.f1, c.f2, c.f3⟩]) n (fl.set c.f1.toNat true)
theorem mv_length (l2 : List Int) : ∀ (r out : List S51) (n : Int) (fl : List Bool), (mv l2 r out n fl).1.length ≤ out.length + r.length
  | [], out, n, fl => by simp [mv]
  | c :: r, out, n, fl => by
    have h1 := mv_length l2 r (out ++ [⟨c.f0, c.f1, wrap64 (c.f2 - 1), c.f3⟩]) n fl
    have h2 := mv_length l2 r (out ++ [⟨c.f0, c.f1, c.f2, c.f3⟩]) n fl
    have h3 := mv_length l2 r out (wrap64 (n + 1)) (fl.set c.f1.toNat true)
    have h4 := mv_length l2 r (out ++ [⟨c.f0, c.f1, c.f2, c.f3⟩]) n (fl.set c.f1.toNat true)
    simp only [List.length_append, List.length_cons, List.length_nil] at *
    rw [mv]
    split
    · omega
    · split
      · omega
      · split <;> omega
def moveCars (ss : List S76) (cs : List S51) (l2 : List Int) : List S51 × Int := if areCars ss cs = true then mv l2 cs [] 0 (List.replicate ss.length false) else (cs, 0)
theorem moveCars_length (ss : List S76) (cs : List S51) (l2 : List Int) : (moveCars ss cs l2).1.length ≤ cs.length := by
  unfold moveCars
  split
  · simpa using mv_length l2 cs [] 0 (List.replicate ss.length false)
  · exact Nat.le_refl _
theorem areCars_at {ss : List S76} {cs : List S51} (h : areCars ss cs = true) : cs.length ≤ 30 ∧ ∀ j (hj : j < cs.length), 0 ≤ cs[j].f1 ∧ cs[j].f1 < (ss.length : Int) := by
  simp only [areCars, Bool.and_eq_true, decide_eq_true_eq, List.all_eq_true, List.mem_range] at h
  refine ⟨h.2.2, fun j hj => ?_⟩
  have := (carAt_iff ss cs j).1 (h.2.1 j hj)
  have e : rd_T51 cs (j : Int) = cs[j] := by simp [rd_T51, hj]
  rw [e] at this
  exact ⟨this.2.2.1, this.2.2.2.1⟩

theorem impl_Car_eq (l : List S51) (hl : l.length < 4398046511104) : impl_Car_42.f l = some l := by
  unfold impl_Car_42.f
  rw [Option.bind_some, if_pos (by simpa using hl)]
  rfl

theorem impl_mv (ss : List S76) (cs : List S51) (l2 : List Int) (hl2 : l2.length ≤ 1048576) (h : areCars ss cs = true) : ∀ d j, j + d = cs.length → ∀ (out : List S51) (n : Int) (fl : List Bool), out.length ≤ j → fl.length = ss.length → Ev (fun k => impl_MoveCars.l0 k l2 out n fl cs (cs.length : Int) (j : Int)) (mv l2 (cs.drop j) out n fl) := by
  obtain ⟨h30, hat⟩ := areCars_at h
  intro d
  induction d with
  | zero =>
    intro j hj out n fl ho hf
    refine shift ?_
    simp only [impl_MoveCars.l0]
    exact neg (by omega) (now (by rw [List.drop_eq_nil_of_le (by omega), mv]))
  | succ d ih =>
    intro j hj out n fl ho hf
    have hjl : j < cs.length := by omega
    obtain ⟨a1, a2⟩ := hat j hjl
    have hg : rd_T51 cs (j : Int) = cs[j] := by simp [rd_T51, hjl]
    refine shift ?_
    simp only [impl_MoveCars.l0]
    rw [List.drop_eq_getElem_cons hjl, hg, mv, succ_wrap (by omega)]
    refine pos (nat_lt hjl) (pos (by omega) (pos (nat_lt hjl) ?_))
    by_cases c2 : cs[j].f2 > 0
    · rw [if_pos c2]
      exact pos c2 (pos (by omega) (ih (j + 1) (by omega) _ _ _ (by simp; omega) hf))
    · rw [if_neg c2]
      refine neg c2 (pos a1 (pos (by omega) ?_))
      by_cases c3 : rdOf false fl cs[j].f1 = true
      · rw [if_pos c3]
        exact pos c3 (pos (by omega) (ih (j + 1) (by omega) _ _ _ (by simp; omega) hf))
      · rw [if_neg c3]
        refine neg c3 (bindc rfl (Ev.bind (slices_Contains_int_int_ev _ _ (by omega)) ?_))
        by_cases c4 : cs[j].f3 ∈ l2
        · rw [if_pos c4]
          exact pos (by simpa using c4) (ih (j + 1) (by omega) _ _ _ (by omega) (by simpa using hf))
        · rw [if_neg c4]
          exact neg (by simpa using c4) (pos (by omega) (ih (j + 1) (by omega) _ _ _ (by simp; omega) (by simpa using hf)))
theorem impl_MoveCars_ev (ss : List S76) (cs : List S51) (l2 : List Int) (hs : ss.length ≤ 1048576) (hc : cs.length ≤ 1048576) (hl2 : l2.length ≤ 1048576) : Ev (fun k => impl_MoveCars.f k ss cs l2) (moveCars ss cs l2) := by
  unfold impl_MoveCars.f moveCars
  refine Ev.bind (impl_AreCars_ev ss cs) ?_
  by_cases h : areCars ss cs = true
  · rw [if_pos h]
    refine pos h (pos (by omega) (pos (by omega) ?_))
    simpa using impl_mv ss cs l2 hl2 h cs.length 0 (by omega) [] 0 (List.replicate ss.length false) (by simp) (by simp)
  · rw [if_neg h]
    exact neg h (bindc (impl_Car_eq cs (by omega)) (now rfl))

theorem laws_contains_ev (l : List Int) (a : Int) (hl : l.length ≤ 9223372036854775806) : Ev (fun k => laws_contains.f k l a) (decide (a ∈ l)) := by
  unfold laws_contains.f
  have : ∀ d j, j + d = l.length → Ev (fun k => laws_contains.l0 k l a (j : Int)) (decide (a ∈ l.drop j)) := by
    intro d
    induction d with
    | zero =>
      intro j hj
      refine shift ?_
      simp only [laws_contains.l0]
      exact neg (by omega) (now (by rw [List.drop_eq_nil_of_le (by omega)]; simp))
    | succ d ih =>
      intro j hj
      have hjl : j < l.length := by omega
      refine shift ?_
      simp only [laws_contains.l0]
      rw [List.drop_eq_getElem_cons hjl, rd_get l j hjl]
      refine pos (nat_lt hjl) (pos (by omega) ?_)
      by_cases h : l[j] = a
      · exact pos h (now (by simp [h]))
      · refine neg h ?_
        rw [succ_wrap (by omega)]
        have e : decide (a ∈ l[j] :: l.drop (j + 1)) = decide (a ∈ l.drop (j + 1)) := decide_eq_decide.2 ⟨fun g => (List.mem_cons.1 g).resolve_left (fun x => h x.symm), fun g => List.mem_cons_of_mem _ g⟩
        rw [e]
        exact ih (j + 1) (by omega)
  simpa using this l.length 0 (by omega)

theorem spec_DrawRunCars_ev (d : List Int) (hd : d.length ≤ 1048576) : ∃ ss cs op t, Ev (fun k => spec_DrawRunCars.f k d) (ss, cs, op, t) ∧ ss.length ≤ 10 ∧ cs.length ≤ 9 ∧ op.length ≤ 2 := by
  unfold spec_DrawRunCars.f
  obtain ⟨ss, cs, op, h1, r⟩ := spec_DrawMoveCars_ev d hd
  obtain ⟨s, h2⟩ := spec_l1New_ev d
  obtain ⟨t, q1, s1, e1, hq1, _⟩ := spec_l1Int_ok d 0 s [0, 1, 5, 40, 1000, 1001, (-1)] hd (by omega) (by simp)
  exact ⟨ss, cs, op, t, Ev.bind h1 (Ev.bind h2 (bindc e1 (now rfl))), r⟩

def runCars (ss : List S76) (l2 : List Int) : Nat → List S51 → Int → List S51 × Int
  | 0, cs, n => (cs, n)
  | d + 1, cs, n => runCars ss l2 d (moveCars ss cs l2).1 (wrap64 (n + (moveCars ss cs l2).2))
theorem runCars_length (ss : List S76) (l2 : List Int) : ∀ (d : Nat) (cs : List S51) (n : Int), (runCars ss l2 d cs n).1.length ≤ cs.length
  | 0, _, _ => Nat.le_refl _
  | d + 1, cs, n => Nat.le_trans (runCars_length ss l2 d _ _) (moveCars_length ss cs l2)
/-- All minutes, where their number is one from 0 to 1000; none else. -/
def ranCars (ss : List S76) (cs : List S51) (l2 : List Int) (t : Int) : List S51 × Int := if 0 ≤ t ∧ t ≤ 1000 then runCars ss l2 t.toNat cs 0 else (cs, 0)
theorem ranCars_length (ss : List S76) (cs : List S51) (l2 : List Int) (t : Int) : (ranCars ss cs l2 t).1.length ≤ cs.length := by
  unfold ranCars
  split
  · exact runCars_length ss l2 _ cs 0
  · exact Nat.le_refl _

theorem impl_RunCars_ev (ss : List S76) (cs : List S51) (l2 : List Int) (t : Int) (hs : ss.length ≤ 1048576) (hc : cs.length ≤ 1048576) (hl2 : l2.length ≤ 1048576) : Ev (fun k => impl_RunCars.f k ss cs l2 t) (ranCars ss cs l2 t) := by
  unfold impl_RunCars.f ranCars
  refine bindc (impl_Car_eq cs (by omega)) (bindc (impl_InRange_eq _ _ _) ?_)
  by_cases h : 0 ≤ t ∧ t ≤ 1000
  · rw [if_pos h]
    refine pos (by simpa using h) ?_
    obtain ⟨N, rfl⟩ := Int.eq_ofNat_of_zero_le h.1
    have : ∀ d j, j + d = N → ∀ (cs : List S51) (n : Int), cs.length ≤ 1048576 → Ev (fun k => impl_RunCars.l0 k ss l2 cs n (N : Int) (j : Int)) (runCars ss l2 d cs n) := by
      intro d
      induction d with
      | zero =>
        intro j hj cs n hc
        refine shift ?_
        simp only [impl_RunCars.l0]
        exact neg (by omega) (now rfl)
      | succ d ih =>
        intro j hj cs n hc
        refine shift ?_
        simp only [impl_RunCars.l0]
        refine pos (by omega) (Ev.bind (impl_MoveCars_ev ss cs l2 hs hc hl2) ?_)
        rw [succ_wrap (by omega)]
        exact ih (j + 1) (by omega) _ _ (Nat.le_trans (moveCars_length ss cs l2) hc)
    rw [Int.toNat_natCast]
    simpa using this N 0 (by omega) cs 0 hc
  · rw [if_neg h]
    exact neg (by simpa using h) (now rfl)

theorem spec_DrawEnterCar_ev (d : List Int) (hd : d.length ≤ 1048576) : ∃ ss cs id st pa, Ev (fun k => spec_DrawEnterCar.f k d) (ss, cs, id, st, pa) ∧ ss.length ≤ 10 ∧ cs.length ≤ 9 := by
  unfold spec_DrawEnterCar.f
  obtain ⟨ss, cs, h1, r⟩ := spec_DrawAreCars_ev d hd
  obtain ⟨s, h2⟩ := spec_l1New_ev d
  obtain ⟨id, q1, s1, e1, hq1, _⟩ := spec_l1Int_ok d 0 s [0, 1, 2, 6, 999, 1000] hd (by omega) (by simp)
  obtain ⟨st, q2, s2, e2, hq2, _⟩ := spec_l1Below_ok d q1 s1 5 hd hq1
  obtain ⟨pa, q3, s3, e3, hq3, _⟩ := spec_l1Int_ok d q2 s2 [1, 3, 20, 21] hd hq2 (by simp)
  exact ⟨ss, cs, id, _, pa, Ev.bind h1 (Ev.bind h2 (bindc e1 (bindc e2 (bindc e3 (now rfl))))), r⟩

def enterAt (cs : List S51) (id : Int) : Nat → Nat → Nat
  | 0, j => j
  | d + 1, j => if j < cs.length ∧ (rd_T51 cs (j : Int)).f0 < id then enterAt cs id d (j + 1) else j
theorem enterAt_range (cs : List S51) (id : Int) : ∀ d j, j ≤ cs.length → enterAt cs id d j ≤ cs.length
  | 0, _, h => h
  | d + 1, j, h => by
    simp only [enterAt]
    split
    · rename_i c
      exact enterAt_range cs id d (j + 1) (by omega)
    · exact h
def newCar (ss : List S76) (id st pa : Int) : S51 := ⟨id, st, (rd_T76 ss st).f2, pa⟩
def carsWith (cs : List S51) (c : S51) (j : Nat) : List S51 := cs.take j ++ [c] ++ cs.drop j
theorem carsWith_length (cs : List S51) (c : S51) (j : Nat) (h : j ≤ cs.length) : (carsWith cs c j).length = cs.length + 1 := by simp [carsWith]; omega
def enterTo (ss : List S76) (cs : List S51) (c : S51) (j : Nat) : List S51 × Bool := if areCars ss (carsWith cs c j) = true then (carsWith cs c j, true) else (cs, false)
def enterC (ss : List S76) (cs : List S51) (id st pa : Int) : List S51 × Bool :=
  if areCars ss cs = true ∧ 0 ≤ st ∧ st < (ss.length : Int) then enterTo ss cs (newCar ss id st pa) (enterAt cs id cs.length 0) else (cs, false)
theorem enterC_length (ss : List S76) (cs : List S51) (id st pa : Int) : (enterC ss cs id st pa).1.length ≤ cs.length + 1 := by
  unfold enterC enterTo
  split
  · split
    · rw [carsWith_length _ _ _ (enterAt_range _ _ _ _ (Nat.zero_le _))]
      exact Nat.le_refl _
    · exact Nat.le_succ _
  · exact Nat.le_succ _

theorem impl_EnterCar_clone (l : List S51) (hl : l.length ≤ 1048576) : impl_Car_42.f l = some l := by
  unfold impl_Car_42.f
  rw [Option.bind_some, if_pos (by simp; omega)]
  simp
theorem impl_EnterCar_ev (ss : List S76) (cs : List S51) (id st pa : Int) (hs : ss.length ≤ 1048576) (hl : cs.length ≤ 1048576) : Ev (fun k => impl_EnterCar.f k ss cs id st pa) (enterC ss cs id st pa) := by
  unfold impl_EnterCar.f enterC
  have no : Ev (fun k => impl_EnterCar.j0 k ss cs id st pa cs true) (cs, false) := by
    refine shift ?_
    simp only [impl_EnterCar.j0]
    exact pos trivial (now rfl)
  refine bindc (impl_EnterCar_clone cs hl) (Ev.bind (impl_AreCars_ev ss cs) ?_)
  by_cases h : areCars ss cs = true
  · refine pos h ?_
    by_cases h1 : st < 0
    · rw [if_neg (fun g => by omega)]
      exact pos h1 no
    refine neg h1 ?_
    by_cases h2 : st < (ss.length : Int)
    · rw [if_pos ⟨h, by omega, h2⟩, decide_eq_false (show ¬ st ≥ (ss.length : Int) by omega)]
      refine shift ?_
      simp only [impl_EnterCar.j0]
      refine neg (by decide) ?_
      have fin : ∀ j : Nat, j ≤ cs.length → Ev (fun k => impl_EnterCar.j2 k ss cs id st pa cs (j : Int)) (enterTo ss cs (newCar ss id st pa) j) := by
        intro j hj
        refine shift ?_
        simp only [impl_EnterCar.j2]
        refine pos (by omega) (pos h2 (pos (by omega) (pos (by omega) (pos (by omega) (bindc rfl (Ev.bind (impl_AreCars_ev ss (carsWith cs (newCar ss id st pa) j)) ?_))))))
        unfold enterTo
        by_cases g : areCars ss (carsWith cs (newCar ss id st pa) j) = true
        · simp only [if_pos g]
          exact now rfl
        · simp only [if_neg g]
          exact (bindc (impl_EnterCar_clone cs hl) (now rfl))
      have main : ∀ d (j : Nat), cs.length ≤ j + d → j ≤ cs.length → Ev (fun k => impl_EnterCar.l0 k ss cs id st pa cs (j : Int)) (enterTo ss cs (newCar ss id st pa) (enterAt cs id d j)) := by
        intro d
        induction d with
        | zero =>
          intro j hd hj
          refine shift ?_
          simp only [impl_EnterCar.l0, enterAt]
          exact neg (by omega) (fin j hj)
        | succ d ih =>
          intro j hd hj
          refine shift ?_
          simp only [impl_EnterCar.l0, enterAt]
          by_cases c1 : j < cs.length
          · refine pos (by omega) (pos (by omega) ?_)
            by_cases c2 : (rd_T51 cs (j : Int)).f0 < id
            · rw [if_pos ⟨c1, c2⟩]
              refine pos c2 ?_
              rw [succ_wrap (by omega)]
              exact ih (j + 1) (by omega) (by omega)
            · rw [if_neg (fun g => c2 g.2)]
              exact neg c2 (fin j hj)
          · rw [if_neg (fun g => c1 g.1)]
            exact neg (by omega) (fin j hj)
      exact main cs.length 0 (by omega) (Nat.zero_le _)
    · rw [if_neg (fun g => h2 g.2.2), decide_eq_true (show st ≥ (ss.length : Int) by omega)]
      exact no
  · rw [if_neg (fun g => h g.1)]
    exact neg h no

def waitsOn (l : List S51) (s : Int) (j : Nat) : Bool := decide ((rd_T51 l j).f1 = s ∧ (rd_T51 l j).f2 = 0)
def waitCount (l : List S51) (s : Int) (j : Nat) : Nat := (List.range j).countP (waitsOn l s)
theorem waitCount_le (l : List S51) (s : Int) (j : Nat) : waitCount l s j ≤ j := by
  have := List.countP_le_length (p := waitsOn l s) (l := List.range j)
  simpa [waitCount] using this
theorem waitCount_yes (l : List S51) (s : Int) (j : Nat) (h : waitsOn l s j = true) : waitCount l s (j + 1) = waitCount l s j + 1 := by
  simp [waitCount, List.range_succ, List.countP_append, h]
theorem waitCount_no (l : List S51) (s : Int) (j : Nat) (h : ¬ waitsOn l s j = true) : waitCount l s (j + 1) = waitCount l s j := by
  simp [waitCount, List.range_succ, List.countP_append, h]

theorem impl_WaitingOn_ev (l : List S51) (s : Int) (hl : l.length ≤ 1048576) : Ev (fun k => impl_WaitingOn.f k l s) (waitCount l s l.length : Int) := by
  unfold impl_WaitingOn.f
  refine loop (g := fun k j => impl_WaitingOn.l0 k s (waitCount l s j : Int) l (l.length : Int) (j : Int)) l.length ?_ ?_
  · intro j hj h
    have hc := waitCount_le l s j
    refine shift ?_
    simp only [impl_WaitingOn.l0]
    refine pos (nat_lt hj) (pos (by omega) (pos (nat_lt hj) ?_))
    rw [succ_wrap (j := j) (by omega)]
    by_cases hw : waitsOn l s j = true
    · rw [waitCount_yes l s j hw] at h
      have hw2 : (rd_T51 l j).f1 = s ∧ (rd_T51 l j).f2 = 0 := by simpa [waitsOn] using hw
      refine pos hw2.1 (pos hw2.2 ?_)
      rw [succ_wrap (j := waitCount l s j) (by omega)]
      exact h
    · rw [waitCount_no l s j hw] at h
      have hw2 : ¬ ((rd_T51 l j).f1 = s ∧ (rd_T51 l j).f2 = 0) := by simpa [waitsOn] using hw
      by_cases h1 : (rd_T51 l j).f1 = s
      · exact pos h1 (neg (fun q => hw2 ⟨h1, q⟩) h)
      · exact neg h1 h
  · refine shift ?_
    simp only [impl_WaitingOn.l0]
    exact neg (nat_ge (Nat.le_refl _)) (now rfl)

theorem rd_car (cs : List S51) (j : Nat) (h : j < cs.length) : rd_T51 cs (j : Int) = cs[j] := by simp [rd_T51, h]
def carOk (ss : List S76) (c : S51) : Prop := 1 ≤ c.f0 ∧ c.f0 ≤ 999 ∧ 0 ≤ c.f1 ∧ c.f1 < (ss.length : Int) ∧ 0 ≤ c.f2 ∧ c.f2 ≤ (rd_T76 ss c.f1).f2 ∧ 1 ≤ c.f3 ∧ c.f3 ≤ 20
def earlier (a b : S51) : Prop := a.f0 < b.f0
theorem areCars_iff (ss : List S76) (cs : List S51) : areCars ss cs = true ↔ areStreets ss = true ∧ (∀ c ∈ cs, carOk ss c) ∧ cs.Pairwise earlier ∧ cs.length ≤ 30 := by
  unfold areCars
  rw [Bool.and_eq_true, Bool.and_eq_true, decide_eq_true_eq, List.all_eq_true]
  constructor
  · rintro ⟨h1, h2, h3⟩
    have at_ : ∀ j (hj : j < cs.length), carOk ss cs[j] ∧ (0 < j → (rd_T51 cs ((j : Int) - 1)).f0 < cs[j].f0) := by
      intro j hj
      have := (carAt_iff ss cs j).1 (h2 j (List.mem_range.2 hj))
      rw [rd_car cs j hj] at this
      obtain ⟨a1, a2, a3, a4, a5, a6, a7, a8, a9⟩ := this
      exact ⟨⟨a1, a2, a3, a4, a5, a6, a7, a8⟩, a9⟩
    refine ⟨h1, fun c hc => ?_, ?_, h3⟩
    · obtain ⟨j, hj, rfl⟩ := List.getElem_of_mem hc
      exact (at_ j hj).1
    · rw [List.pairwise_iff_getElem]
      have up : ∀ d i (h : i + 1 + d < cs.length), cs[i].f0 < cs[i + 1 + d].f0 := by
        intro d
        induction d with
        | zero =>
          intro i h
          have := (at_ (i + 1) h).2 (by omega)
          rw [show ((i + 1 : Nat) : Int) - 1 = (i : Int) by omega, rd_car cs i (by omega)] at this
          exact this
        | succ d ih =>
          intro i h
          have h1 := ih i (by omega)
          have h2 := (at_ (i + 1 + (d + 1)) h).2 (by omega)
          rw [show ((i + 1 + (d + 1) : Nat) : Int) - 1 = ((i + 1 + d : Nat) : Int) by omega, rd_car cs (i + 1 + d) (by omega)] at h2
          exact Int.lt_trans h1 h2
      intro i j hi hj hij
      have e : i + 1 + (j - (i + 1)) = j := by omega
      have := up (j - (i + 1)) i (by omega)
      simp only [e] at this
      exact this
  · rintro ⟨h1, h2, h3, h4⟩
    refine ⟨h1, fun j hj => ?_, h4⟩
    have hj := List.mem_range.1 hj
    obtain ⟨a1, a2, a3, a4, a5, a6, a7, a8⟩ := h2 cs[j] (List.getElem_mem hj)
    rw [carAt_iff, rd_car cs j hj]
    refine ⟨a1, a2, a3, a4, a5, a6, a7, a8, fun h0 => ?_⟩
    rw [show (j : Int) - 1 = ((j - 1 : Nat) : Int) by omega, rd_car cs (j - 1) (by omega)]
    exact List.pairwise_iff_getElem.1 h3 (j - 1) j (by omega) hj (by omega)
theorem street_len {ss : List S76} (h : areStreets ss = true) {i : Int} (h0 : 0 ≤ i) (h1 : i < (ss.length : Int)) : 1 ≤ (rd_T76 ss i).f2 ∧ (rd_T76 ss i).f2 ≤ 300 := by
  obtain ⟨j, rfl⟩ := Int.eq_ofNat_of_zero_le h0
  unfold areStreets at h
  rw [Bool.and_eq_true] at h
  have := List.all_eq_true.1 h.1 j (List.mem_range.2 (by omega))
  unfold streetAt streetRng at this
  rw [Bool.and_eq_true, decide_eq_true_eq] at this
  omega
/-- The cars ys are what a minute leaves of the cars in r, those on op alone gone. -/
def moved (op : List Int) : List S51 → List S51 → Prop
  | [], ys => ys = []
  | c :: r, ys => (c.f2 > 0 ∧ ∃ y, ys = ⟨c.f0, c.f1, wrap64 (c.f2 - 1), c.f3⟩ :: y ∧ moved op r y) ∨ (¬ c.f2 > 0 ∧ ∃ y, ys = c :: y ∧ moved op r y) ∨ (¬ c.f2 > 0 ∧ c.f3 ∈ op ∧ moved op r ys)
theorem mv_moved (op : List Int) : ∀ (r out : List S51) (n : Int) (fl : List Bool), 0 ≤ n → n + r.length ≤ 4000000 → ∃ y, (mv op r out n fl).1 = out ++ y ∧ moved op r y ∧ (y.length : Int) + (mv op r out n fl).2 = n + r.length ∧ n ≤ (mv op r out n fl).2
  | [], out, n, fl, _, _ => ⟨[], by simp [mv], rfl, by simp [mv], by simp [mv]⟩
  | c :: r, out, n, fl, h0, h1 => by
    rw [List.length_cons] at h1
    rw [mv]
    by_cases c1 : c.f2 > 0
    · rw [if_pos c1]
      obtain ⟨y, e, m, l, g⟩ := mv_moved op r (out ++ [⟨c.f0, c.f1, wrap64 (c.f2 - 1), c.f3⟩]) n fl h0 (by omega)
      exact ⟨_ :: y, by rw [e, List.append_assoc]; rfl, .inl ⟨c1, y, rfl, m⟩, by rw [List.length_cons, List.length_cons]; omega, g⟩
    rw [if_neg c1]
    by_cases c2 : rdOf false fl c.f1 = true
    · rw [if_pos c2]
      obtain ⟨y, e, m, l, g⟩ := mv_moved op r (out ++ [⟨c.f0, c.f1, c.f2, c.f3⟩]) n fl h0 (by omega)
      exact ⟨c :: y, by rw [e, List.append_assoc]; rfl, .inr (.inl ⟨c1, y, rfl, m⟩), by rw [List.length_cons, List.length_cons]; omega, g⟩
    rw [if_neg c2]
    by_cases c3 : c.f3 ∈ op
    · rw [if_pos c3, w64 (x := n + 1) (by omega) (by omega)]
      obtain ⟨y, e, m, l, g⟩ := mv_moved op r out (n + 1) (fl.set c.f1.toNat true) (by omega) (by omega)
      exact ⟨y, e, .inr (.inr ⟨c1, c3, m⟩), by rw [List.length_cons]; omega, by omega⟩
    · rw [if_neg c3]
      obtain ⟨y, e, m, l, g⟩ := mv_moved op r (out ++ [⟨c.f0, c.f1, c.f2, c.f3⟩]) n (fl.set c.f1.toNat true) h0 (by omega)
      exact ⟨c :: y, by rw [e, List.append_assoc]; rfl, .inr (.inl ⟨c1, y, rfl, m⟩), by rw [List.length_cons, List.length_cons]; omega, g⟩
theorem flags_set (fl : List Bool) (i : Nat) (h : i < fl.length) (hf : ¬ fl[i] = true) : (fl.set i true).count true = fl.count true + 1 := by
  have e : fl[i] = false := by simpa using hf
  rw [List.count_set h, e]
  simp
theorem mv_streets (op : List Int) : ∀ (r out : List S51) (n : Int) (fl : List Bool), (∀ c ∈ r, 0 ≤ c.f1 ∧ c.f1 < (fl.length : Int)) → 0 ≤ n → n ≤ (fl.count true : Int) → fl.length ≤ 4000000 → (mv op r out n fl).2 ≤ (fl.length : Int)
  | [], out, n, fl, _, _, h1, _ => by
    have := List.count_le_length (a := true) (l := fl)
    rw [mv]
    dsimp only
    omega
  | c :: r, out, n, fl, hc, h0, h1, h2 => by
    have hr : ∀ c ∈ r, 0 ≤ c.f1 ∧ c.f1 < (fl.length : Int) := fun x hx => hc x (List.mem_cons_of_mem _ hx)
    have hle := List.count_le_length (a := true) (l := fl)
    obtain ⟨i, hi⟩ := Int.eq_ofNat_of_zero_le (hc c List.mem_cons_self).1
    have hil : i < fl.length := by have := (hc c List.mem_cons_self).2; omega
    rw [mv]
    by_cases c1 : c.f2 > 0
    · rw [if_pos c1]
      exact mv_streets op r _ n fl hr h0 h1 h2
    rw [if_neg c1]
    by_cases c2 : rdOf false fl c.f1 = true
    · rw [if_pos c2]
      exact mv_streets op r _ n fl hr h0 h1 h2
    rw [if_neg c2]
    have hf : ¬ fl[i] = true := by
      rw [hi] at c2
      simpa [rdOf, List.getD_eq_getElem?_getD, hil] using c2
    have hs := flags_set fl i hil hf
    have hl : (fl.set i true).length = fl.length := by simp
    rw [hi, Int.toNat_natCast]
    by_cases c3 : c.f3 ∈ op
    · rw [if_pos c3, w64 (x := n + 1) (by omega) (by omega)]
      have := mv_streets op r out (n + 1) (fl.set i true) (by rw [hl]; exact hr) (by omega) (by omega) (by omega)
      omega
    · rw [if_neg c3]
      have := mv_streets op r (out ++ [⟨c.f0, (i : Int), c.f2, c.f3⟩]) n (fl.set i true) (by rw [hl]; exact hr) (by omega) (by omega) (by omega)
      rw [hl] at this
      exact this
theorem moved_from (op : List Int) : ∀ (r ys : List S51), moved op r ys → ∀ y ∈ ys, ∃ c ∈ r, y.f0 = c.f0 ∧ y.f1 = c.f1 ∧ y.f3 = c.f3 ∧ (y.f2 = c.f2 ∨ c.f2 > 0 ∧ y.f2 = wrap64 (c.f2 - 1))
  | [], ys, h, y, hy => by
    rw [show ys = [] from h] at hy
    exact absurd hy (by simp)
  | c :: r, ys, h, y, hy => by
    have more : ∀ zs, moved op r zs → y ∈ zs → ∃ x ∈ c :: r, y.f0 = x.f0 ∧ y.f1 = x.f1 ∧ y.f3 = x.f3 ∧ (y.f2 = x.f2 ∨ x.f2 > 0 ∧ y.f2 = wrap64 (x.f2 - 1)) := by
      intro zs hm hz
      obtain ⟨x, hx, g⟩ := moved_from op r zs hm y hz
      exact ⟨x, List.mem_cons_of_mem _ hx, g⟩
    rcases h with ⟨h1, z, rfl, hm⟩ | ⟨h1, z, rfl, hm⟩ | ⟨h1, h2, hm⟩
    · rcases List.mem_cons.1 hy with rfl | hz
      · exact ⟨c, List.mem_cons_self, rfl, rfl, rfl, .inr ⟨h1, rfl⟩⟩
      · exact more z hm hz
    · rcases List.mem_cons.1 hy with rfl | hz
      · exact ⟨y, List.mem_cons_self, rfl, rfl, rfl, .inl rfl⟩
      · exact more z hm hz
    · exact more ys hm hy
theorem moved_later (op : List Int) {r ys : List S51} (h : moved op r ys) (a : Int) (ha : ∀ c ∈ r, a < c.f0) : ∀ y ∈ ys, a < y.f0 := by
  intro y hy
  obtain ⟨c, hc, e, _⟩ := moved_from op r ys h y hy
  rw [e]
  exact ha c hc
theorem moved_up (op : List Int) : ∀ (r ys : List S51), moved op r ys → r.Pairwise earlier → ys.Pairwise earlier
  | [], ys, h, _ => by rw [show ys = [] from h]; exact List.Pairwise.nil
  | c :: r, ys, h, hp => by
    have hp := List.pairwise_cons.1 hp
    rcases h with ⟨h1, z, rfl, hm⟩ | ⟨h1, z, rfl, hm⟩ | ⟨h1, h2, hm⟩
    · exact List.pairwise_cons.2 ⟨moved_later op hm c.f0 hp.1, moved_up op r z hm hp.2⟩
    · exact List.pairwise_cons.2 ⟨moved_later op hm c.f0 hp.1, moved_up op r z hm hp.2⟩
    · exact moved_up op r ys hm hp.2
theorem moved_length (op : List Int) : ∀ (r ys : List S51), moved op r ys → ys.length ≤ r.length
  | [], ys, h => by rw [show ys = [] from h]; exact Nat.le_refl _
  | c :: r, ys, h => by
    rcases h with ⟨h1, z, rfl, hm⟩ | ⟨h1, z, rfl, hm⟩ | ⟨h1, h2, hm⟩
    · exact Nat.succ_le_succ (moved_length op r z hm)
    · exact Nat.succ_le_succ (moved_length op r z hm)
    · exact Nat.le_succ_of_le (moved_length op r ys hm)
theorem moved_cars (ss : List S76) (op : List Int) (cs ys : List S51) (h : areCars ss cs = true) (hm : moved op cs ys) : areCars ss ys = true := by
  rw [areCars_iff] at h ⊢
  obtain ⟨h1, h2, h3, h4⟩ := h
  refine ⟨h1, fun y hy => ?_, moved_up op cs ys hm h3, Nat.le_trans (moved_length op cs ys hm) h4⟩
  obtain ⟨c, hc, e0, e1, e3, e2⟩ := moved_from op cs ys hm y hy
  obtain ⟨a1, a2, a3, a4, a5, a6, a7, a8⟩ := h2 c hc
  have hs := street_len h1 a3 a4
  unfold carOk
  rw [e0, e1, e3]
  refine ⟨a1, a2, a3, a4, ?_, ?_, a7, a8⟩
  · rcases e2 with e2 | ⟨g, e2⟩
    · rw [e2]; exact a5
    · rw [e2, w64 (by omega) (by omega)]; omega
  · rcases e2 with e2 | ⟨g, e2⟩
    · rw [e2]; exact a6
    · rw [e2, w64 (by omega) (by omega)]; omega
theorem runCars_count (ss : List S76) (op : List Int) : ∀ (d : Nat) (cs : List S51) (n : Int), 0 ≤ n → n + cs.length ≤ 4000000 → ((runCars ss op d cs n).1.length : Int) + (runCars ss op d cs n).2 = n + cs.length
  | 0, cs, n, _, _ => by rw [runCars]; dsimp only; omega
  | d + 1, cs, n, h0, h1 => by
    have hm : ((moveCars ss cs op).1.length : Int) + (moveCars ss cs op).2 = cs.length ∧ 0 ≤ (moveCars ss cs op).2 := by
      unfold moveCars
      split
      · obtain ⟨y, e, _, l, g⟩ := mv_moved op cs [] 0 (List.replicate ss.length false) (Int.le_refl _) (by omega)
        rw [e, List.nil_append]
        exact ⟨by omega, g⟩
      · exact ⟨by dsimp only; omega, Int.le_refl _⟩
    rw [runCars, w64 (x := n + _) (by omega) (by omega), runCars_count ss op d _ _ (by omega) (by omega)]
    omega
theorem drop_rd {x y : List S51} {k : Nat} {a : S51} (h : x.drop k = a :: y) : k < x.length ∧ rd_T51 x (k : Int) = a ∧ x.drop (k + 1) = y := by
  have hk : k < x.length := by
    by_cases g : k < x.length
    · exact g
    · rw [List.drop_eq_nil_of_le (by omega)] at h
      exact absurd h (by simp)
  rw [List.drop_eq_getElem_cons hk] at h
  injection h with h1 h2
  exact ⟨hk, by rw [rd_car x k hk, h1], h2⟩
theorem FnCars_l0 (d : List Int) (cs x : List S51) (op : List Int) (hop : op.length ≤ 1048576) (hcl : cs.length ≤ 1048576) (hxl : x.length ≤ 1048576) (hj3 : Ev (fun k => laws_FnCars.j3 k d) true) : ∀ (r : List S51) (i k0 k : Nat), cs.drop i = r → i ≤ cs.length → r.Pairwise earlier → moved op r (x.drop k0) → k ≤ k0 → k0 ≤ x.length →
    (∀ q : Nat, k ≤ q → q < k0 → ∀ c ∈ r, (rd_T51 x (q : Int)).f0 < c.f0) → Ev (fun g => laws_FnCars.l0 g d cs op x (k : Int) (i : Int)) true := by
  intro r
  induction r with
  | nil =>
    intro i k0 k hi hil hp hm hk hk0 hlt
    have : cs.length ≤ i := List.drop_eq_nil_iff.1 hi
    refine shift ?_
    simp only [laws_FnCars.l0]
    exact neg (by omega) hj3
  | cons c r ih =>
    intro i k0 k hi hil hp hm hk hk0 hlt
    obtain ⟨hic, hrd, hdr⟩ := drop_rd hi
    have hp := List.pairwise_cons.1 hp
    have hlt : ∀ q : Nat, k ≤ q → q < k0 → (rd_T51 x (q : Int)).f0 < c.f0 := fun q h1 h2 => hlt q h1 h2 c List.mem_cons_self
    refine shift ?_
    simp only [laws_FnCars.l0]
    refine pos (by omega) ?_
    have inner : ∀ dd k : Nat, k + dd = k0 → (∀ q : Nat, k ≤ q → q < k0 → (rd_T51 x (q : Int)).f0 < c.f0) → Ev (fun g => laws_FnCars.l1 g d cs op x (k : Int) (i : Int)) true := by
      intro dd
      induction dd with
      | zero =>
        intro k hk _
        have hk : k = k0 := by omega
        subst hk
        rcases hm with ⟨h1, y, e, hm⟩ | ⟨h1, y, e, hm⟩ | ⟨h1, h2, hm⟩
        · obtain ⟨hkx, hrx, hdx⟩ := drop_rd e
          have nx := ih (i + 1) (k + 1) k hdr (by omega) hp.2 (by rw [hdx]; exact hm) (by omega) (by omega) (fun q h3 h4 c2 hc2 => by
            have : q = k := by omega
            subst this
            rw [hrx]
            exact hp.1 c2 hc2)
          refine shift ?_
          simp only [laws_FnCars.l1]
          rw [hrd, hrx, succ_wrap (j := i) (by omega)]
          exact pos (by omega) (pos (by omega) (pos (by omega) (pos (by omega) (neg (Int.lt_irrefl _) (neg (by omega) (pos rfl (neg (fun g => g rfl) (pos h1 (pos rfl nx)))))))))
        · obtain ⟨hkx, hrx, hdx⟩ := drop_rd e
          have nx := ih (i + 1) (k + 1) k hdr (by omega) hp.2 (by rw [hdx]; exact hm) (by omega) (by omega) (fun q h3 h4 c2 hc2 => by
            have : q = k := by omega
            subst this
            rw [hrx]
            exact hp.1 c2 hc2)
          refine shift ?_
          simp only [laws_FnCars.l1]
          rw [hrd, hrx, succ_wrap (j := i) (by omega)]
          exact pos (by omega) (pos (by omega) (pos (by omega) (pos (by omega) (neg (Int.lt_irrefl _) (neg (by omega) (pos rfl (neg (fun g => g rfl) (neg h1 nx))))))))
        · have nx := ih (i + 1) k k hdr (by omega) hp.2 hm (Nat.le_refl _) hk0 (fun q h3 h4 => absurd h3 (by omega))
          refine shift ?_
          simp only [laws_FnCars.l1]
          rw [hrd, succ_wrap (j := i) (by omega)]
          by_cases g : k < x.length
          · have hx : c.f0 < (rd_T51 x (k : Int)).f0 := by
              refine moved_later op hm c.f0 hp.1 _ ?_
              rw [List.drop_eq_getElem_cons g, rd_car x k g]
              exact List.mem_cons_self
            exact pos (by omega) (pos (by omega) (pos (by omega) (pos (by omega) (neg (by omega) (neg (by omega) (neg (by omega) (neg h1 (Ev.bind (laws_contains_ev op c.f3 (by omega)) (pos (by simpa using h2) (pos (by omega) nx))))))))))
          · exact neg (by omega) (pos (by omega) (pos (by omega) (pos (by omega) (neg h1 (Ev.bind (laws_contains_ev op c.f3 (by omega)) (pos (by simpa using h2) nx))))))
      | succ dd ihd =>
        intro k hk hl
        refine shift ?_
        simp only [laws_FnCars.l1]
        rw [hrd, succ_wrap (j := k) (by omega)]
        exact pos (by omega) (pos (by omega) (pos (by omega) (pos (by omega) (pos (hl k (Nat.le_refl _) (by omega)) (ihd (k + 1) (by omega) (fun q h1 h2 => hl q (by omega) h2))))))
    exact inner (k0 - k) k (by omega) hlt
theorem waitCount_list (l : List S51) (s : Int) : waitCount l s l.length = l.countP (fun c => decide (c.f1 = s ∧ c.f2 = 0)) := by
  have e : (List.range l.length).map (fun (j : Nat) => rd_T51 l (j : Int)) = l := by
    apply List.ext_getElem
    · simp
    · intro i h1 h2
      rw [List.getElem_map, List.getElem_range, rd_car l i h2]
  have : l.countP (fun c => decide (c.f1 = s ∧ c.f2 = 0)) = ((List.range l.length).map (fun (j : Nat) => rd_T51 l (j : Int))).countP (fun c => decide (c.f1 = s ∧ c.f2 = 0)) := by rw [e]
  rw [this, List.countP_map]
  rfl
theorem waitCount_with (cs : List S51) (c : S51) (j : Nat) (s : Int) (h : ¬ c.f2 = 0) : waitCount (carsWith cs c j) s (carsWith cs c j).length = waitCount cs s cs.length := by
  rw [waitCount_list, waitCount_list, carsWith, List.countP_append, List.countP_append]
  have e : List.countP (fun c => decide (c.f1 = s ∧ c.f2 = 0)) [c] = 0 := by simp [h]
  have e2 : cs.countP (fun c => decide (c.f1 = s ∧ c.f2 = 0)) = (cs.take j ++ cs.drop j).countP (fun c => decide (c.f1 = s ∧ c.f2 = 0)) := by rw [List.take_append_drop]
  rw [e, e2, List.countP_append]
  rfl
theorem enterC_yes (ss : List S76) (cs : List S51) (id st pa : Int) (h : (enterC ss cs id st pa).2 = true) : areCars ss (enterC ss cs id st pa).1 = true ∧ (enterC ss cs id st pa).1.length = cs.length + 1 ∧ waitCount (enterC ss cs id st pa).1 st (enterC ss cs id st pa).1.length = waitCount cs st cs.length := by
  have hj := enterAt_range cs id cs.length 0 (Nat.zero_le _)
  unfold enterC at h ⊢
  by_cases g : areCars ss cs = true ∧ 0 ≤ st ∧ st < (ss.length : Int)
  · rw [if_pos g] at h ⊢
    unfold enterTo at h ⊢
    by_cases q : areCars ss (carsWith cs (newCar ss id st pa) (enterAt cs id cs.length 0)) = true
    · rw [if_pos q]
      dsimp only
      have hs := street_len ((areCars_iff ss cs).1 g.1).1 g.2.1 g.2.2
      exact ⟨q, carsWith_length _ _ _ hj, waitCount_with _ _ _ _ (by simp only [newCar]; omega)⟩
    · rw [if_neg q] at h
      exact absurd h (by simp)
  · rw [if_neg g] at h
    exact absurd h (by simp)
theorem enterC_no (ss : List S76) (cs : List S51) (id st pa : Int) (h : ¬ (enterC ss cs id st pa).2 = true) : (enterC ss cs id st pa).1 = cs := by
  unfold enterC enterTo at h ⊢
  split
  · rename_i g
    rw [if_pos g] at h
    split
    · rename_i q
      rw [if_pos q] at h
      exact absurd rfl h
    · rfl
  · rfl
theorem FnCars_j3 (d : List Int) (hd : d.length ≤ 1048576) : Ev (fun k => laws_FnCars.j3 k d) true := by
  obtain ⟨ss, cs, op, t, h1, hs, hc, ho⟩ := spec_DrawRunCars_ev d hd
  obtain ⟨s2, c2, id, st, pa, h2, hs2, hc2⟩ := spec_DrawEnterCar_ev d hd
  have hr : ((ranCars ss cs op t).1.length : Int) + (ranCars ss cs op t).2 = cs.length := by
    unfold ranCars
    split
    · rw [runCars_count ss op _ cs 0 (Int.le_refl _) (by omega)]
      omega
    · dsimp only
      omega
  have hn := enterC_no s2 c2 id st pa
  have hy := enterC_yes s2 c2 id st pa
  have hlen := enterC_length s2 c2 id st pa
  have he := impl_EnterCar_ev s2 c2 id st pa (by omega) (by omega)
  generalize enterC s2 c2 id st pa = R at hn hy he hlen
  refine shift ?_
  simp only [laws_FnCars.j3]
  refine Ev.bind h1 (Ev.bind (impl_RunCars_ev ss cs op t (by omega) (by omega) (by omega)) (pos (by dsimp only; rw [hr, w64 (by omega) (by omega)]) (Ev.bind h2 (Ev.bind he ?_))))
  dsimp only
  by_cases g : R.2 = true
  · obtain ⟨a, l, w⟩ := hy g
    refine pos g (Ev.bind (impl_AreCars_ev s2 R.1) (pos a (pos ?_ (Ev.bind (impl_WaitingOn_ev R.1 st (by omega)) (Ev.bind (impl_WaitingOn_ev c2 st (by omega)) (pos ?_ (now rfl)))))))
    · rw [w64 (by omega) (by omega)]
      omega
    · rw [w]
  · refine neg g (now ?_)
    rw [hn g]
    simp
theorem FnCars (d : List Int) (hw : wfS 1 U8 d) : ∃ k, laws_FnCars.f k d = some true := by
  refine Ev.rounds ?_
  unfold laws_FnCars.f
  refine bindc (laws_big_eq d) ?_
  by_cases hd : (d.length : Int) > 1048576
  · exact pos (by simpa using hd) (now rfl)
  have hd : d.length ≤ 1048576 := by omega
  have hj3 := FnCars_j3 d hd
  obtain ⟨ss, cs, op, h1, hs, hc, ho⟩ := spec_DrawMoveCars_ev d hd
  have hmv := impl_MoveCars_ev ss cs op (by omega) (by omega) (by omega)
  refine neg (by simp; omega) (Ev.bind h1 (Ev.bind hmv ?_))
  dsimp only
  by_cases g : areCars ss cs = true
  · have e : moveCars ss cs op = mv op cs [] 0 (List.replicate ss.length false) := by rw [moveCars, if_pos g]
    obtain ⟨g1, g2, g3, g4⟩ := (areCars_iff ss cs).1 g
    obtain ⟨y, ey, hm, hl, _⟩ := mv_moved op cs [] 0 (List.replicate ss.length false) (Int.le_refl _) (by omega)
    have hst := mv_streets op cs [] 0 (List.replicate ss.length false) (fun c hx => by
      obtain ⟨a1, a2, a3, a4, _⟩ := g2 c hx
      rw [List.length_replicate]
      exact ⟨a3, a4⟩) (Int.le_refl _) (by omega) (by rw [List.length_replicate]; omega)
    rw [List.length_replicate] at hst
    have hyl := moved_length op cs y hm
    rw [e]
    rw [List.nil_append] at ey
    rw [ey]
    refine pos (by rw [hl, w64 (by omega) (by omega)]; omega) (Ev.bind (impl_AreCars_ev ss cs) (pos g (Ev.bind (impl_AreCars_ev ss y) (pos (moved_cars ss op cs y g hm) ?_))))
    rw [decide_eq_false (by omega)]
    refine shift ?_
    simp only [laws_FnCars.j0]
    exact neg (by decide) (FnCars_l0 d cs y op (by omega) (by omega) (by omega) hj3 cs 0 0 0 rfl (Nat.zero_le _) g3 hm (Nat.le_refl _) (Nat.zero_le _) (fun q h1 h2 => absurd h2 (by omega)))
  · have e : moveCars ss cs op = (cs, 0) := by rw [moveCars, if_neg g]
    rw [e]
    exact pos (by dsimp only; rw [w64 (by omega) (by omega)]; omega) (Ev.bind (impl_AreCars_ev ss cs) (neg g hj3))

end Go.Proofs.Ythbebbhfgffdfaa.PureFnCars
end

section
namespace Go.Proofs.Ythbebbhfgffdfaa.fnCars
open Go.ChangeShapes Go.WideShapes Go.ChangeAt Go.RowKit
open Go.Proofs.YthbebbhfgffdfaaW.PrintWords Go.Proofs.Ythbebbhfgffdfaa.PCrs Go.Proofs.Ythbebbhfgffdfaa.Opens Go.Proofs.Ythbebbhfgffdfaa.Aid Go.Proofs.Ythbebbhfgffdfaa.PureFnCars
set_option linter.unusedVariables false
theorem own : ownKnob Try.prog.godebug = none := by kernel_rfl
theorem laidOut : laidOutB Try.prog = true := by kernel_rfl
theorem arg0 : Opens Try.prog 35 (Kd.slice 5 (Kd.int .u8)) (wfS 1 U8) := (opens_slice Try.underlying35 (by kernel_rfl) (B := 1) (by kernel_rfl) (opens_u8 Try.underlying5 (by kernel_rfl)))
set_option maxRecDepth 100000 in
theorem lifted (os : Os) (started : os.Started) (H : Type) (enc : TypeId × Value → H) :
    ReturnsInHanded {} Try.checked os 5 .any (Rows.fnCarsSpec.pre6 enc Try.prog Try.f5 Rows.fnCarsRow.domain false) (Rows.fnCarsSpec.post enc Try.prog Try.f5 false true false false) := by
  refine returnsInHanded_of_change_sized (C := Try.checked) own started (by kernel_rfl) Try.func5
    (ChangeSpec.witness6 (enc := enc) (C := Try.checked) false ⟨#[], #[.slice none 0 0], []⟩ 8 (by kernel_rfl) (by kernel_rfl) (by kernel_rfl) (by kernel_rfl)) ?_
  intro W base args ds gs before hval0 hW hcnd hsz0 _
  have hsz : (DataW.weightsEach Try.prog (Try.f5.params.toList ++ Rows.fnCarsSpec.plain.varTypes Try.prog) (ds ++ gs)).all (· ≤ reachBytes) = true := hsz0
  have hval : ∀ (j : Nat) t v, Try.f5.params[j]? = some t → args[j]? = some v → Value.okWide Try.prog W .any base t v := hval0
  have hW' := hW
  obtain ⟨p, q, hA0, hV, rfl, hfz, hnd⟩ := hW
  have hA : DataW.TrodAll enc Try.prog W 0 (fun _ => true) true Try.f5.params.toList args.toList ds p := hA0
  rw [Try.params5] at hA hval hsz
  obtain ⟨v0, vs0, d0, ds0, p0, q0, hargs, rfl, rfl, h0, r0⟩ := trodAll_cons hA
  obtain ⟨rfl, rfl, rfl⟩ := trodAll_nil r0
  obtain rfl : args = #[v0] := by cases args; simp_all
  obtain ⟨rfl, rfl⟩ := trodVars_none hV
  have k0 := h0
  have lt0 : ∀ x ∈ p0, x.block < W.heap.size := by obtain ⟨m, hm⟩ := k0; exact DataW.trod_lt m _ _ _ hm
  obtain ⟨x0, hK0, hW0⟩ := opens_arg arg0 hsz (j := 0) rfl rfl h0
  obtain ⟨A0, c0, rfl, hc0, hC0⟩ := opens_row Try.underlying35 (hval 0 35 v0 rfl rfl) hK0
  clear hA0 hval0 hsz0 hsz
  obtain ⟨k, hk⟩ := Go.Proofs.Ythbebbhfgffdfaa.PureFnCars.FnCars x0 hW0
  refine (laws_FnCars.calls k _ _ x0 true W hC0 hc0 hk).mono fun e W' ⟨he, bel0⟩ => ?_
  have bel : Below W.heap.size W W' := by first | exact bel0 | exact bel0.below
  subst he
  exact ⟨_, rfl, _, _, _, [], _, [], hW', trodAll_mk1 (shut_bool Try.underlying4 _), (trodAll_cons_mk (Below.trod laidOut (by kernel_rfl) (of_decide_eq_true (by kernel_rfl)) k0 bel lt0) trodAll_mk0), rfl, bel.frame _, fun h => by cases h⟩
theorem over : Rows.fnCarsRow.holds Try.pinned (OpenSpec.ofChange Rows.fnCarsSpec) :=
  OpenClaim.holds_of_wide 5 Try.f5 rfl rfl rfl rfl rfl rfl rfl ⟨rfl, rfl, rfl, rfl, rfl⟩ rfl rfl rfl rfl rfl (by kernel_rfl) Try.func5 (by kernel_rfl)
    (of_decide_eq_true (by kernel_rfl)) (by unfold Func.isWrapper; first | (rw [if_pos (by decide +kernel)]; kernel_rfl) | (rw [if_neg (by decide +kernel)]; exact ⟨rfl, rfl⟩))
    (fun os started H enc _ => lifted os started H enc)
theorem proved : Rows.FnCarsSaid := over
#print axioms proved
end Go.Proofs.Ythbebbhfgffdfaa.fnCars
namespace Go.Proofs.Ythbebbhfgffdfaa
/-- The row, under a short name, for the claim. -/
theorem fnCars_holds : Rows.FnCarsSaid := fnCars.proved
end Go.Proofs.Ythbebbhfgffdfaa
end
