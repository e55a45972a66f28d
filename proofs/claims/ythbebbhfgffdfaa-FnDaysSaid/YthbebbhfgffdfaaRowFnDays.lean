/- The statement FnDays, whole: for every input the law returns true and leaves its arguments as they were; no condition. Out of the contract of the law's walk and the pure theorem. -/
import Derived.Test.YthbebbhfgffdfaaBFnDays0
import Derived.Test.YthbebbhfgffdfaaBFnDays1
import Derived.Test.YthbebbhfgffdfaaBFnDays2
import Derived.Test.YthbebbhfgffdfaaBFnDays3
import Derived.Test.YthbebbhfgffdfaaBFnDays4
import Derived.Test.YthbebbhfgffdfaaBFnDays5
import Derived.Test.YthbebbhfgffdfaaBFnDays6
import Derived.Test.YthbebbhfgffdfaaBFnDays7
import Derived.Test.YthbebbhfgffdfaaWWords
import Derived.Test.YthbebbhfgffdfaaWMore
import Derived.SizedLaws
import Derived.ChangeSlices
import Derived.ChangeArms
import Derived.WideShapes
import Derived.Below
import Derived.Test.YthbebbhfgffdfaaRows
import Derived.WalkKit
import Derived.ProofKit
import Derived.OpenShut
import Derived.ShutString
import Derived.ChangeOld
section
namespace Go.Proofs.Ythbebbhfgffdfaa.Aid
open Go.RowKit Go.Proofs.YthbebbhfgffdfaaW.PrintWords Go.Proofs.YthbebbhfgffdfaaW.PrintMore
set_option linter.unusedVariables false

theorem w64 {x : Int} (h0 : -9223372036854775808 ≤ x) (h1 : x ≤ 9223372036854775807) : wrap64 x = x := by
  unfold wrap64
  omega
theorem w64_range (x : Int) : -9223372036854775808 ≤ wrap64 x ∧ wrap64 x ≤ 9223372036854775807 := by
  unfold wrap64
  omega
/-- A number of Go's int. -/
def I64 (x : Int) : Prop := -9223372036854775808 ≤ x ∧ x ≤ 9223372036854775807
theorem i64_of {x : Int} (h : (Lit.int .i64 x).wf = true) : I64 x := by
  simp [Lit.wf, IntKind.min, IntKind.max, IntKind.bits, IntKind.signed] at h
  unfold I64
  omega

/-- A byte. -/
def U8 (x : Int) : Prop := 0 ≤ x ∧ x ≤ 255
theorem u8_of {x : Int} (h : (Lit.int .u8 x).wf = true) : U8 x := by
  simp [Lit.wf, IntKind.min, IntKind.max, IntKind.bits, IntKind.signed] at h
  unfold U8
  omega

/-- A slice within the reach (B: an element's bytes), all of whose elements are as WF says. -/
def wfS {α : Type} (B : Nat) (WF : α → Prop) (xs : List α) : Prop := xs.length ≤ maxLen ∧ xs.length * B ≤ 140737488351232 ∧ ∀ x ∈ xs, WF x

theorem shift {α : Type} {g : Nat → Option α} {r : α} (h : Ev (fun k => g (k + 1)) r) : Ev g r := Ev.step (fun _ => rfl) h
theorem pos {α : Type} {c : Prop} [Decidable c] {a b : Nat → Option α} {r : α} (hc : c) (h : Ev a r) : Ev (fun k => if c then a k else b k) r := by
  simpa only [if_pos hc] using h
theorem neg {α : Type} {c : Prop} [Decidable c] {a b : Nat → Option α} {r : α} (hc : ¬ c) (h : Ev b r) : Ev (fun k => if c then a k else b k) r := by
  simpa only [if_neg hc] using h
theorem now {α : Type} {r s : α} (h : r = s) : Ev (fun _ => some r) s := h ▸ Ev.now r
theorem known {α : Type} {x : Option α} {r : α} (h : x = some r) : Ev (fun _ => x) r := h ▸ Ev.now r
theorem bindc {α β : Type} {x : Option α} {f : Nat → α → Option β} {a : α} {r : β} (h : x = some a) (k : Ev (fun n => f n a) r) : Ev (fun n => x.bind (f n)) r := by
  subst h
  exact k
theorem same {α : Type} {g : Nat → Option α} {r s : α} (h : Ev g r) (e : r = s) : Ev g s := e ▸ h
theorem of_const {α : Type} {x : Option α} {r : α} (h : Ev (fun _ => x) r) : x = some r := by
  obtain ⟨k, hk⟩ := Ev.rounds h
  exact hk

/-- A loop whose round j leads from state j to state j + 1, and whose N-th state is its end. -/
theorem loop {α : Type} {g : Nat → Nat → Option α} {r : α} (N : Nat) (hs : ∀ j, j < N → Ev (fun k => g k (j + 1)) r → Ev (fun k => g k j) r) (he : Ev (fun k => g k N) r) : Ev (fun k => g k 0) r := by
  have : ∀ d j, j + d = N → Ev (fun k => g k j) r := by
    intro d
    induction d with
    | zero =>
      intro j hj
      have : j = N := by omega
      subst this
      exact he
    | succ d ih => exact fun j hj => hs j (by omega) (ih (j + 1) (by omega))
  exact this N 0 (by omega)
/-- The same from state i on. -/
theorem loop_from {α : Type} {g : Nat → Nat → Option α} {r : α} (i N : Nat) (hi : i ≤ N) (hs : ∀ j, i ≤ j → j < N → Ev (fun k => g k (j + 1)) r → Ev (fun k => g k j) r) (he : Ev (fun k => g k N) r) : Ev (fun k => g k i) r := by
  have : ∀ d j, i ≤ j → j + d = N → Ev (fun k => g k j) r := by
    intro d
    induction d with
    | zero =>
      intro j _ hj
      have : j = N := by omega
      subst this
      exact he
    | succ d ih => exact fun j h0 hj => hs j h0 (by omega) (ih (j + 1) (by omega) (by omega))
  exact this (N - i) i (Nat.le_refl _) (by omega)

theorem rd_nat (xs : List Int) (j : Nat) : rd xs (j : Int) = xs.getD j 0 := by simp [rd]
theorem rd_get (xs : List Int) (j : Nat) (h : j < xs.length) : rd xs (j : Int) = xs[j] := by simp [rd, h]
theorem nat_lt {a b : Nat} (h : a < b) : (a : Int) < (b : Int) := by omega
theorem nat_ge {a b : Nat} (h : b ≤ a) : ¬ (a : Int) < (b : Int) := by omega
theorem succ_wrap {j : Nat} (h : j < 9223372036854775807) : wrap64 ((j : Int) + 1) = ((j + 1 : Nat) : Int) := by
  rw [w64 (by omega) (by omega)]
  omega

/-- A loop that fills a row, one place a round. -/
theorem copied {α β : Type} {g : Nat → List β → Int → Option (List β)} (l : List α) (f : α → β) (z : β) (hs : ∀ (j : Nat) (hj : j < l.length) (y : List β) (r : List β), y.length = l.length → Ev (fun k => g k (y.set j (f l[j])) ((j + 1 : Nat) : Int)) r → Ev (fun k => g k y (j : Int)) r)
    (he : ∀ y, Ev (fun k => g k y (l.length : Int)) y) : Ev (fun k => g k (List.replicate l.length z) 0) (l.map f) := by
  refine loop (g := fun k j => g k ((l.map f).take j ++ List.replicate (l.length - j) z) (j : Int)) (r := l.map f) l.length ?_ ?_ |> (fun h => by simpa using h)
  · intro j hj h
    refine hs j hj _ _ (by simp; omega) ?_
    refine Eq.mp ?_ h
    congr 1
    funext k
    congr 1
    rw [List.set_append_right _ _ (by simp; omega)]
    have h1 : (l.map f).take (j + 1) = (l.map f).take j ++ [f l[j]] := by
      rw [List.take_succ_eq_append_getElem (by simpa using hj)]
      simp
    have h2 : l.length - j = (l.length - (j + 1)) + 1 := by omega
    have h3 : j - ((l.map f).take j).length = 0 := by simp; omega
    rw [h1, h3, h2, List.replicate_succ, List.set_cons_zero]
    simp
  · have h := he (l.map f)
    have e : (l.map f).take l.length = l.map f := List.take_of_length_le (by simp)
    simpa [e] using h

/-- A loop that looks at each place and answers no at the first that is not as it ought to be. -/
theorem all_loop {g : Nat → Nat → Option Bool} (N : Nat) (ok : Nat → Bool) (b : Bool) (hs : ∀ j r, j < N → ok j = true → Ev (fun k => g k (j + 1)) r → Ev (fun k => g k j) r)
    (hf : ∀ j, j < N → ok j = false → Ev (fun k => g k j) false) (he : Ev (fun k => g k N) b) : Ev (fun k => g k 0) ((List.range N).all ok && b) := by
  have : ∀ d j, j + d = N → Ev (fun k => g k j) ((List.range' j d).all ok && b) := by
    intro d
    induction d with
    | zero =>
      intro j hj
      have : j = N := by omega
      subst this
      simpa using he
    | succ d ih =>
      intro j hj
      rw [List.range'_succ, List.all_cons]
      cases h : ok j with
      | true => simpa using hs j _ (by omega) h (ih (j + 1) (by omega))
      | false => simpa using hf j (by omega) h
  have h := this N 0 (by omega)
  rwa [← List.range_eq_range'] at h
/-- The same where all places are as they ought to be, .. -/
theorem ok_loop {α : Type} {g : Nat → Nat → Option α} (N : Nat) (ok : Nat → Bool) {r : α} (h : (List.range N).all ok = true) (hs : ∀ j r, j < N → ok j = true → Ev (fun k => g k (j + 1)) r → Ev (fun k => g k j) r)
    (he : Ev (fun k => g k N) r) : Ev (fun k => g k 0) r :=
  loop N (fun j hj hn => hs j r hj (List.all_eq_true.1 h j (List.mem_range.2 hj)) hn) he
/-- .. and where one isn't: the first that isn't decides. -/
theorem bad_loop {α : Type} {g : Nat → Nat → Option α} (N : Nat) (ok : Nat → Bool) (r : α) (h : ¬ (List.range N).all ok = true) (hs : ∀ j r, j < N → ok j = true → Ev (fun k => g k (j + 1)) r → Ev (fun k => g k j) r)
    (hf : ∀ j, j < N → ok j = false → Ev (fun k => g k j) r) : Ev (fun k => g k 0) r := by
  have : ∀ d j, j + d = N → ¬ (List.range' j d).all ok = true → Ev (fun k => g k j) r := by
    intro d
    induction d with
    | zero => exact fun j _ hn => absurd rfl hn
    | succ d ih =>
      intro j hj hn
      rw [List.range'_succ, List.all_cons] at hn
      cases ho : ok j with
      | true => exact hs j _ (by omega) ho (ih (j + 1) (by omega) (by simpa [ho] using hn))
      | false => exact hf j (by omega) ho
  exact this N 0 (by omega) (by rwa [← List.range_eq_range'])
/-- n numbers from a on. -/
def iota (a : Int) (n : Nat) : List Int := (List.range n).map fun (i : Nat) => a + (i : Int)
theorem iota_length (a : Int) (n : Nat) : (iota a n).length = n := by simp [iota]
theorem iota_get (a : Int) (n j : Nat) (h : j < n) : rd (iota a n) (j : Int) = a + j := by simp [rd, iota, h]
theorem iota_set (a : Int) (l : List Int) (j : Nat) (h : j < l.length) : (iota a j ++ l.drop j).set j (a + j) = iota a (j + 1) ++ l.drop (j + 1) := by
  rw [List.set_append_right _ _ (by rw [iota_length]; exact Nat.le_refl _), iota_length, Nat.sub_self, List.drop_eq_getElem_cons h, List.set_cons_zero]
  have : iota a (j + 1) = iota a j ++ [a + j] := by simp [iota, List.range_succ]
  rw [this]
  simp
end Go.Proofs.Ythbebbhfgffdfaa.Aid
end

section
namespace Go.Proofs.Ythbebbhfgffdfaa.Opens
open Go.ChangeShapes Go.WideShapes Go.RowKit Go.Proofs.YthbebbhfgffdfaaW.PrintWords Go.Proofs.Ythbebbhfgffdfaa.Aid
set_option linter.unusedVariables false

/-- Whatever can be read as data of type t is of kind kd, and meets WF. -/
def Opens {α : Type} (P : Program) (t : TypeId) (kd : Kd α) (WF : α → Prop) : Prop :=
  P.cellsOf t = kd.sz ∧ ∀ (H : Type) (enc : TypeId × Value → H) (w : World) (base : Nat) (spare : Nat → Bool) (held : Bool) (fuel : Nat) (cs : List Value) (d : DataW H) (ps : List MemPlace),
    DataW.trod enc P w base spare held fuel t cs = some (d, ps) → (∀ n ∈ d.weights P t, n ≤ reachBytes) → ∃ x, kd.K w x cs ∧ WF x

theorem opens_int {P : Program} {t : TypeId} (ht : P.underlying t = some (.int .i64)) (hc : P.cellsOf t = 1) : Opens P t (Kd.int .i64) I64 := by
  refine ⟨hc, fun H enc w base spare held fuel cs d ps h _ => ?_⟩
  obtain ⟨n, rfl, _, hw⟩ := DataW.trod_int ht h
  exact ⟨n, rfl, i64_of hw⟩

/-- The same of bytes. -/
theorem opens_u8 {P : Program} {t : TypeId} (ht : P.underlying t = some (.int .u8)) (hc : P.cellsOf t = 1) : Opens P t (Kd.int .u8) U8 := by
  refine ⟨hc, fun H enc w base spare held fuel cs d ps h _ => ?_⟩
  obtain ⟨n, rfl, _, hw⟩ := DataW.trod_int ht h
  exact ⟨n, rfl, u8_of hw⟩

theorem opens_bool {P : Program} {t : TypeId} (ht : P.underlying t = some .bool) (hc : P.cellsOf t = 1) : Opens P t Kd.bool (fun _ => True) := by
  refine ⟨hc, fun H enc w base spare held fuel cs d ps h _ => ?_⟩
  obtain ⟨b, rfl, _⟩ := DataW.trod_bool ht h
  exact ⟨b, rfl, trivial⟩

theorem weights_elem {H : Type} {P : Program} {e : TypeId} {n : Nat} : ∀ {ds : List (DataW H)} {d : DataW H}, d ∈ ds → n ∈ d.weights P e → n ∈ DataW.weightsAll P e ds
  | [], _, h, _ => by simp at h
  | d0 :: r, d, h, hn => by
    rw [DataW.weightsAll]
    rcases List.mem_cons.1 h with rfl | h
    · exact List.mem_append_left _ hn
    · exact List.mem_append_right _ (weights_elem h hn)

theorem choose_list {α : Type} {n : Nat} {Q : Nat → α → Prop} (h : ∀ i, i < n → ∃ x, Q i x) : ∃ xs : List α, xs.length = n ∧ ∀ i x, xs[i]? = some x → Q i x := by
  induction n with
  | zero => exact ⟨[], rfl, fun i x hx => by simp at hx⟩
  | succ n ih =>
    obtain ⟨xs, hl, hx⟩ := ih (fun i hi => h i (by omega))
    obtain ⟨y, hy⟩ := h n (by omega)
    refine ⟨xs ++ [y], by simp [hl], fun i x hi => ?_⟩
    by_cases hlt : i < n
    · rw [List.getElem?_append_left (by omega)] at hi
      exact hx i x hi
    · have hl2 := (List.getElem?_eq_some_iff.1 hi).1
      simp at hl2
      have : i = n := by omega
      subst this
      rw [List.getElem?_append_right (by omega)] at hi
      simp [hl] at hi
      exact hi ▸ hy

theorem opens_slice {α : Type} {P : Program} {t e : TypeId} {kd : Kd α} {WF : α → Prop} (ht : P.underlying t = some (.slice e)) (hc : P.cellsOf t = 1) {B : Nat} (hB : P.bytesOf e = B) (he : Opens P e kd WF) :
    Opens P t (Kd.slice e kd) (wfS B WF) := by
  subst hB
  refine ⟨hc, fun H enc w base spare held fuel cs d ps h hw => ?_⟩
  rcases DataW.trod_slice ht h with ⟨rfl, _⟩ | ⟨a, len, cap, elems, rest, n, _, rfl, hx, hb, hl, hm, hlen, hel, _, _⟩
  · exact ⟨[], ⟨none, 0, rfl, Nat.le_refl _, ⟨rfl, by simp, fun h => absurd h (by simp)⟩⟩, by simp [maxLen], by simp, by simp⟩
  · simp only [Prod.mk.injEq] at hx
    obtain ⟨rfl, _⟩ := hx
    have each : ∀ i, i < len → ∃ x, (∃ c, c.length = kd.sz ∧ kd.K w x c ∧ ∀ j u, c[j]? = some u → w.cell? (a.add (i * kd.sz + j)) = some u) ∧ WF x := by
      intro i hi
      have h1 := hel i hi
      have h2 : i < elems.length := by omega
      rw [List.getElem?_eq_getElem h2] at h1
      obtain ⟨c, hc1, hc2⟩ := Option.bind_eq_some_iff.1 h1
      obtain ⟨_, hcl, hcc⟩ := World.cells?_some hc1
      obtain ⟨x, hx1, hx2⟩ := he.2 H enc w base spare held n c elems[i].1 elems[i].2 hc2 (fun m hm' => hw m (by
        rw [DataW.weights, ht]
        simp only [List.mem_cons, List.mem_append]
        exact .inr (.inl (weights_elem (List.mem_map.2 ⟨elems[i], List.getElem_mem h2, rfl⟩) hm'))))
      refine ⟨x, ⟨c, by rw [hcl, he.1], hx1, fun j u hj => ?_⟩, hx2⟩
      have hj2 := (List.getElem?_eq_some_iff.1 hj).1
      have := hcc j (by omega)
      rw [hj, he.1] at this
      rw [← this, Addr.add_add]
    obtain ⟨xs, hxl, hxs⟩ := choose_list each
    subst hxl
    refine ⟨xs, ⟨some a, cap, rfl, hl, ⟨rfl, by simp [maxLen] at hm; omega, fun _ => ⟨a, rfl, fun j p hj => ?_⟩⟩⟩, by omega, ?_, fun x hx => ?_⟩
    · exact (hxs j p hj).1
    · have := hw ((elems.length + rest.length) * P.bytesOf e) (by rw [DataW.weights, ht]; simp)
      exact Nat.le_trans (Nat.mul_le_mul_right _ (by omega)) this
    · obtain ⟨i, hi⟩ := List.getElem?_of_mem hx
      exact (hxs i x hi).2

/-- The same of a struct's fields from one on, which begins at cell off. -/
def OpensF {α : Type} (P : Program) (fs : List Field) (off : Nat) (kd : Kd α) (WF : α → Prop) : Prop :=
  ∀ (H : Type) (enc : TypeId × Value → H) (w : World) (base : Nat) (spare : Nat → Bool) (held : Bool) (fuel : Nat) (cs : List Value) (ys : List (DataW H × List MemPlace)),
    cs.length = off + kd.sz → ys.length = fs.length → (∀ (i : Nat) (f : Field), fs[i]? = some f → DataW.trod enc P w base spare held fuel f.type ((cs.drop f.offset).take (P.cellsOf f.type)) = ys[i]?) →
    (∀ n ∈ DataW.weightsEach P (fs.map (·.type)) (ys.map (·.1)), n ≤ reachBytes) → ∃ x, kd.K w x (cs.drop off) ∧ WF x

theorem opensF_last {α : Type} {P : Program} {f : Field} {off : Nat} {kd : Kd α} {WF : α → Prop} (ho : f.offset = off) (h : Opens P f.type kd WF) : OpensF P [f] off kd WF := by
  intro H enc w base spare held fuel cs ys hcs hys hf hw
  match ys, hys with
  | [y], _ =>
    have h1 := hf 0 f rfl
    rw [ho, h.1, List.take_of_length_le (by simp; omega)] at h1
    exact h.2 H enc w base spare held fuel _ y.1 y.2 h1 (fun n hn => hw n (by simp [DataW.weightsEach, hn]))

theorem opensF_cons {α β : Type} {P : Program} {f : Field} {fs : List Field} {off : Nat} {kd : Kd α} {kr : Kd β} {WF : α → Prop} {WR : β → Prop} (ho : f.offset = off) (h : Opens P f.type kd WF)
    (hr : OpensF P fs (off + kd.sz) kr WR) : OpensF P (f :: fs) off (Kd.pair kd kr) (fun x => WF x.1 ∧ WR x.2) := by
  intro H enc w base spare held fuel cs ys hcs hys hf hw
  match ys, hys with
  | y :: ys, hys =>
    have h1 := hf 0 f rfl
    rw [ho, h.1] at h1
    obtain ⟨x, hx1, hx2⟩ := h.2 H enc w base spare held fuel _ y.1 y.2 h1 (fun n hn => hw n (by simp [DataW.weightsEach, hn]))
    have hs : (Kd.pair kd kr).sz = kd.sz + kr.sz := rfl
    obtain ⟨z, hz1, hz2⟩ := hr H enc w base spare held fuel cs ys (by omega) (by simpa using hys) (fun i g hg => hf (i + 1) g hg) (fun n hn => hw n (by simp [DataW.weightsEach]; exact .inr (by simpa using hn)))
    refine ⟨(x, z), ⟨_, _, ?_, hx1, hz1⟩, hx2, hz2⟩
    rw [← List.drop_drop, List.take_append_drop]

theorem opens_struct {α β : Type} {P : Program} {t : TypeId} {fs : Array Field} {kd : Kd α} {WF : α → Prop} (f : β → α) (g : α → β) (hg : ∀ x, f (g x) = x) (ht : P.underlying t = some (.struct fs)) (hc : P.cellsOf t = kd.sz)
    (h : OpensF P fs.toList 0 kd WF) : Opens P t (Kd.iso kd f) (fun x => WF (f x)) := by
  refine ⟨hc, fun H enc w base spare held fuel cs d ps hd hw => ?_⟩
  obtain ⟨xs, n, _, hx, hl, hxl, hf⟩ := DataW.trod_struct ht hd
  simp only [Prod.mk.injEq] at hx
  obtain ⟨rfl, _⟩ := hx
  obtain ⟨y, hy1, hy2⟩ := h H enc w base spare held n cs xs (by omega) (by simpa using hxl) (fun i f' hf' => hf i f' (by simpa using hf')) (fun m hm => hw m (by rw [DataW.weights, ht]; simpa using hm))
  refine ⟨g y, ?_, ?_⟩
  · show kd.K w (f (g y)) cs
    rw [hg]
    simpa using hy1
  · show WF (f (g y))
    rw [hg]
    exact hy2

/-- An argument, opened. -/
theorem opens_arg {α : Type} {H : Type} {enc : TypeId × Value → H} {P : Program} {w : World} {base : Nat} {spare : Nat → Bool} {held : Bool} {t : TypeId} {v : Value} {kd : Kd α} {WF : α → Prop} {d : DataW H} {ps : List MemPlace} (h : Opens P t kd WF)
    {ts : List TypeId} {ds : List (DataW H)} {j : Nat} (hsz : (DataW.weightsEach P ts ds).all (· ≤ reachBytes) = true) (ht : ts[j]? = some t) (hd : ds[j]? = some d) (hv : DataW.Trod enc P w base spare held t v d ps) :
    ∃ x, kd.K w x v.cells.toList ∧ WF x := by
  obtain ⟨fuel, hf⟩ := hv
  refine h.2 H enc w base spare held fuel _ d ps hf (fun n hn => ?_)
  have := List.all_eq_true.1 hsz n (DataW.weights_mem_each ht hd n hn)
  simpa using this

/-- A slice argument: its address, its capacity, its row. -/
theorem opens_row {α : Type} {P : Program} {w : World} {t e : TypeId} {r : Reach} {b0 : Nat} {v : Value} {kd : Kd α} {x : List α} (ht : P.underlying t = some (.slice e)) (hval : Value.okWide P w r b0 t v) (h : (Kd.slice e kd).K w x v.cells.toList) :
    ∃ A c, v = .slice A x.length c ∧ x.length ≤ c ∧ Kd.C kd w A x.length x := by
  obtain ⟨a, len, cap, rfl⟩ := okWide_slice ht hval
  obtain ⟨A, c, hv, hl, hC⟩ := h
  simp [Value.cells] at hv
  obtain ⟨rfl, rfl, rfl⟩ := hv
  exact ⟨_, _, rfl, hl, hC⟩

/-- A struct argument by value: its cells. -/
theorem opens_agg {P : Program} {w : World} {t : TypeId} {fs : Array Field} {r : Reach} {b0 : Nat} {v : Value} {cs : List Value} (ht : P.underlying t = some (.struct fs)) (hval : Value.okWide P w r b0 t v) (h : v.cells.toList = cs) :
    v = .agg cs.toArray := by
  obtain ⟨c, rfl, _⟩ := okWide_struct ht hval
  simp [Value.cells] at h
  simp [← h]

end Go.Proofs.Ythbebbhfgffdfaa.Opens
end

section
namespace Go.Proofs.Ythbebbhfgffdfaa.PureFnDays
open Go.RowKit Go.Proofs.YthbebbhfgffdfaaW.PrintWords Go.Proofs.YthbebbhfgffdfaaW.PrintLast Go.Proofs.YthbebbhfgffdfaaW.PrintMore Go.Proofs.Ythbebbhfgffdfaa.PDay Go.Proofs.Ythbebbhfgffdfaa.Aid
set_option linter.unusedVariables false
set_option linter.unusedSimpArgs false


theorem impl_InRange_eq (a b c : Int) : impl_InRange.f a b c = some (decide (b ≤ a ∧ a ≤ c)) := by
  unfold impl_InRange.f
  by_cases h : b ≤ a
  · rw [if_pos h]
    simp [h]
  · rw [if_neg h]
    simp [h]

theorem spec_l1In_eq (a b c : Int) : spec_l1In.f a b c = some (decide (b ≤ a ∧ a ≤ c)) := by
  unfold spec_l1In.f
  by_cases h : b ≤ a
  · rw [if_pos h]
    simp [h]
  · rw [if_neg h]
    simp [h]

/-- Slot j is in its ranges and behind slot j - 1. -/
def okSlot (l : List S30) (j : Nat) : Bool := decide (0 ≤ (rd_T30 l j).f0 ∧ (rd_T30 l j).f0 ≤ 1439 ∧ 1 ≤ (rd_T30 l j).f1 ∧ (rd_T30 l j).f1 ≤ 99 ∧ (0 < j → (rd_T30 l ((j : Int) - 1)).f0 < (rd_T30 l j).f0))
theorem okSlot_iff (l : List S30) (j : Nat) : okSlot l j = true ↔ (0 ≤ (rd_T30 l j).f0 ∧ (rd_T30 l j).f0 ≤ 1439 ∧ 1 ≤ (rd_T30 l j).f1 ∧ (rd_T30 l j).f1 ≤ 99 ∧ (0 < j → (rd_T30 l ((j : Int) - 1)).f0 < (rd_T30 l j).f0)) := by unfold okSlot; exact decide_eq_true_iff
def slotsOk (l : List S30) : Bool := (List.range l.length).all (okSlot l) && decide (1 ≤ l.length ∧ l.length ≤ 24)
theorem slotsOk_len24 (l : List S30) (h : slotsOk l = true) : 1 ≤ l.length ∧ l.length ≤ 24 := by
  unfold slotsOk at h
  rw [Bool.and_eq_true, decide_eq_true_iff] at h
  exact h.2
theorem spec_AreSlots_ev (l : List S30) (hl : l.length ≤ 9223372036854775806) : Ev (fun k => spec_AreSlots.f k l) (slotsOk l) := by
  unfold spec_AreSlots.f
  refine all_loop (g := fun k j => spec_AreSlots.l0 k l (j : Int)) l.length (okSlot l) _ ?_ ?_ ?_
  · intro j r hj ok h
    rw [okSlot_iff] at ok
    refine shift ?_
    simp only [spec_AreSlots.l0]
    refine pos (nat_lt hj) (pos (by omega) (bindc (spec_l1In_eq _ _ _) (pos (by simp; omega) (bindc (spec_l1In_eq _ _ _) (pos (by simp; omega) ?_)))))
    rw [succ_wrap (by omega)]
    by_cases h0 : (j : Int) > 0
    · rw [w64 (by omega) (by omega)]
      exact pos h0 (pos (by omega) (pos (by omega) (neg (by have := ok.2.2.2.2 (by omega); omega) h)))
    · exact neg h0 h
  · intro j hj ok
    have ok : ¬ okSlot l j = true := by simp [ok]
    rw [okSlot_iff] at ok
    refine shift ?_
    simp only [spec_AreSlots.l0]
    refine pos (nat_lt hj) (pos (by omega) (bindc (spec_l1In_eq _ _ _) ?_))
    by_cases h1 : 0 ≤ (rd_T30 l j).f0 ∧ (rd_T30 l j).f0 ≤ 1439
    · refine pos (by simp [h1]) (bindc (spec_l1In_eq _ _ _) ?_)
      by_cases h2 : 1 ≤ (rd_T30 l j).f1 ∧ (rd_T30 l j).f1 ≤ 99
      · refine pos (by simp [h2]) ?_
        rw [w64 (x := (j : Int) - 1) (by omega) (by omega)]
        exact pos (by omega) (pos (by omega) (pos (by omega) (pos (by omega) (now rfl))))
      · exact neg (by simpa using h2) (now rfl)
    · exact neg (by simpa using h1) (now rfl)
  · refine shift ?_
    simp only [spec_AreSlots.l0]
    refine neg (nat_ge (Nat.le_refl _)) (bindc (spec_l1In_eq _ _ _) (now ?_))
    exact decide_eq_decide.2 (by omega)

theorem impl_AreSlots_ev (l : List S30) (hl : l.length ≤ 9223372036854775806) : Ev (fun k => impl_AreSlots.f k l) (slotsOk l) := by
  unfold impl_AreSlots.f slotsOk
  refine bindc (impl_InRange_eq _ _ _) ?_
  by_cases hr : 1 ≤ l.length ∧ l.length ≤ 24
  · rw [decide_eq_true hr]
    refine pos (by simp; omega) (all_loop (g := fun k j => impl_AreSlots.l0 k l l (l.length : Int) (j : Int)) l.length (okSlot l) _ ?_ ?_ ?_)
    · intro j r hj ok h
      rw [okSlot_iff] at ok
      refine shift ?_
      simp only [impl_AreSlots.l0]
      refine pos (nat_lt hj) (pos (by omega) (pos (nat_lt hj) (bindc (impl_InRange_eq _ _ _) (pos (by simp; omega) (bindc (impl_InRange_eq _ _ _) (pos (by simp; omega) ?_))))))
      rw [succ_wrap (by omega)]
      by_cases h0 : (j : Int) > 0
      · rw [w64 (by omega) (by omega)]
        exact pos h0 (pos (by omega) (pos (by omega) (neg (by have := ok.2.2.2.2 (by omega); omega) h)))
      · exact neg h0 h
    · intro j hj ok
      have ok : ¬ okSlot l j = true := by simp [ok]
      rw [okSlot_iff] at ok
      refine shift ?_
      simp only [impl_AreSlots.l0]
      refine pos (nat_lt hj) (pos (by omega) (pos (nat_lt hj) (bindc (impl_InRange_eq _ _ _) ?_)))
      by_cases h1 : 0 ≤ (rd_T30 l j).f0 ∧ (rd_T30 l j).f0 ≤ 1439
      · refine pos (by simp [h1]) (bindc (impl_InRange_eq _ _ _) ?_)
        by_cases h2 : 1 ≤ (rd_T30 l j).f1 ∧ (rd_T30 l j).f1 ≤ 99
        · refine pos (by simp [h2]) ?_
          rw [w64 (x := (j : Int) - 1) (by omega) (by omega)]
          exact pos (by omega) (pos (by omega) (pos (by omega) (pos (by omega) (now rfl))))
        · exact neg (by simpa using h2) (now rfl)
      · exact neg (by simpa using h1) (now rfl)
    · refine shift ?_
      simp only [impl_AreSlots.l0]
      exact neg (nat_ge (Nat.le_refl _)) (now rfl)
  · rw [decide_eq_false hr, Bool.and_false]
    exact neg (by simp; omega) (now rfl)

def putAt (l : List S30) (m : Int) : Nat → Nat → Nat
  | 0, j => j
  | d + 1, j => if j < l.length ∧ (rd_T30 l (j : Int)).f0 < m then putAt l m d (j + 1) else j
theorem putAt_range (l : List S30) (m : Int) : ∀ d j, j ≤ l.length → putAt l m d j ≤ l.length
  | 0, _, h => h
  | d + 1, j, h => by
    simp only [putAt]
    split
    · rename_i c
      exact putAt_range l m d (j + 1) (by omega)
    · exact h
def slotHit (l : List S30) (m : Int) (j : Nat) : Prop := j < l.length ∧ (rd_T30 l (j : Int)).f0 = m
instance (l : List S30) (m : Int) (j : Nat) : Decidable (slotHit l m j) := by unfold slotHit; infer_instance
def putOut (l : List S30) (x : S30) (j : Nat) : List S30 := l.take j ++ [x] ++ (if slotHit l x.f0 j then l.drop (j + 1) else l.drop j)
theorem putOut_length (l : List S30) (x : S30) (j : Nat) (h : j ≤ l.length) : (putOut l x j).length ≤ l.length + 1 := by
  unfold putOut
  split <;> simp <;> omega
def putTo (l : List S30) (x : S30) (j : Nat) : List S30 × Bool := if slotsOk (putOut l x j) = true then (putOut l x j, true) else (l, false)
def putS (l : List S30) (x : S30) : List S30 × Bool := putTo l x (putAt l x.f0 l.length 0)
theorem putS_length (l : List S30) (x : S30) : (putS l x).1.length ≤ l.length + 1 := by
  unfold putS putTo
  split
  · exact putOut_length _ _ _ (putAt_range _ _ _ _ (Nat.zero_le _))
  · exact Nat.le_succ _
theorem spec_PutSlot_ev (l : List S30) (x : S30) (hl : l.length ≤ 1048576) : Ev (fun k => spec_PutSlot.f k l x.f0 x.f1) (putS l x) := by
  unfold spec_PutSlot.f putS
  have last : ∀ j : Nat, j ≤ l.length → Ev (fun k => spec_PutSlot.j1 k l (j : Int) x.f0 x.f1) (putTo l x j) := by
    intro j hj
    have hlen := putOut_length l x j hj
    have two : ∀ b, b = decide (slotHit l x.f0 j) → Ev (fun k => spec_PutSlot.j2 k l (j : Int) (l.drop j) b x.f0 x.f1) (putTo l x j) := by
      intro b hb
      by_cases hh : slotHit l x.f0 j
      · have hj2 : j < l.length := hh.1
        have ho : putOut l x j = l.take j ++ [x] ++ (l.drop j).drop 1 := by rw [putOut, if_pos hh, List.drop_drop]
        rw [hb, decide_eq_true hh]
        refine shift ?_
        simp only [spec_PutSlot.j2, Int.toNat_natCast]
        refine pos trivial (pos (by simp; omega) (bindc rfl (bindc rfl (pos (by omega) (pos (by omega) (bindc rfl (pos (by simp; omega) (bindc rfl (bindc rfl (pos (by simp; omega) (bindc rfl (pos (by simp; omega) (bindc rfl ?_)))))))))))))
        unfold putTo
        rw [ho]
        rw [ho] at hlen
        refine Ev.bind (spec_AreSlots_ev (l.take j ++ [x] ++ (l.drop j).drop 1) (by omega)) ?_
        by_cases g : slotsOk (l.take j ++ [x] ++ (l.drop j).drop 1) = true
        · simp only [if_pos g]
          exact now rfl
        · simp only [if_neg g]
          exact (bindc rfl (pos (by simp; omega) (now rfl)))
      · have ho : putOut l x j = l.take j ++ [x] ++ l.drop j := by rw [putOut, if_neg hh]
        rw [hb, decide_eq_false hh]
        refine shift ?_
        simp only [spec_PutSlot.j2, Int.toNat_natCast]
        refine neg (by decide) (bindc rfl (pos (by omega) (pos (by omega) (bindc rfl (pos (by simp; omega) (bindc rfl (bindc rfl (pos (by simp; omega) (bindc rfl (pos (by simp; omega) (bindc rfl ?_)))))))))))
        unfold putTo
        rw [ho]
        rw [ho] at hlen
        refine Ev.bind (spec_AreSlots_ev (l.take j ++ [x] ++ l.drop j) (by omega)) ?_
        by_cases g : slotsOk (l.take j ++ [x] ++ l.drop j) = true
        · simp only [if_pos g]
          exact now rfl
        · simp only [if_neg g]
          exact (bindc rfl (pos (by simp; omega) (now rfl)))
    refine shift ?_
    simp only [spec_PutSlot.j1, Int.toNat_natCast]
    refine pos (by omega) (pos (by omega) (bindc rfl ?_))
    by_cases c : j < l.length
    · refine pos (by simp; omega) (pos (by simp; omega) (two _ ?_))
      have e : rd_T30 (l.drop j) 0 = rd_T30 l (j : Int) := by simp [rd_T30]
      rw [e]
      by_cases q : (rd_T30 l (j : Int)).f0 = x.f0
      · rw [decide_eq_true (show slotHit l x.f0 j from ⟨c, q⟩)]
        exact beq_iff_eq.2 q
      · rw [decide_eq_false (show ¬ slotHit l x.f0 j from fun g => q g.2)]
        exact beq_eq_false_iff_ne.2 q
    · exact neg (by simp; omega) (two _ (by rw [decide_eq_false (show ¬ slotHit l x.f0 j from fun g => c g.1)]))
  have main : ∀ d (j : Nat), l.length ≤ j + d → j ≤ l.length → Ev (fun k => spec_PutSlot.l0 k l (j : Int) x.f0 x.f1) (putTo l x (putAt l x.f0 d j)) := by
    intro d
    induction d with
    | zero =>
      intro j hd hj
      refine shift ?_
      simp only [spec_PutSlot.l0, putAt]
      exact neg (by omega) (last j hj)
    | succ d ih =>
      intro j hd hj
      refine shift ?_
      simp only [spec_PutSlot.l0, putAt]
      by_cases c1 : j < l.length
      · refine pos (by omega) (pos (by omega) ?_)
        by_cases c2 : (rd_T30 l (j : Int)).f0 < x.f0
        · rw [if_pos ⟨c1, c2⟩]
          refine pos c2 ?_
          rw [succ_wrap (by omega)]
          exact ih (j + 1) (by omega) (by omega)
        · rw [if_neg (fun g => c2 g.2)]
          exact neg c2 (last j hj)
      · rw [if_neg (fun g => c1 g.1)]
        exact neg (by omega) (last j hj)
  exact main l.length 0 (by omega) (Nat.zero_le _)

theorem impl_PutSlot_clone (l : List S30) (hl : l.length ≤ 1048576) : impl_Slot_31.f l = some l := by
  unfold impl_Slot_31.f
  rw [Option.bind_some, if_pos (by simp; omega)]
  simp
theorem impl_PutSlot_ev (l : List S30) (x : S30) (hl : l.length ≤ 1048576) : Ev (fun k => impl_PutSlot.f k l x.f0 x.f1) (putS l x) := by
  unfold impl_PutSlot.f putS
  refine bindc (impl_PutSlot_clone l hl) ?_
  have last : ∀ j : Nat, j ≤ l.length → Ev (fun k => impl_PutSlot.j1 k l l (j : Int) x.f0 x.f1) (putTo l x j) := by
    intro j hj
    have hlen := putOut_length l x j hj
    have fin : ∀ o, o = putOut l x j → Ev (fun k => impl_PutSlot.j3 k l o) (putTo l x j) := by
      intro o ho
      subst ho
      refine shift ?_
      simp only [impl_PutSlot.j3]
      refine Ev.bind (impl_AreSlots_ev _ (by omega)) ?_
      unfold putTo
      by_cases g : slotsOk (putOut l x j) = true
      · simp only [if_pos g]
        exact now rfl
      · simp only [if_neg g]
        exact bindc (impl_PutSlot_clone l hl) (now rfl)
    have two : ∀ b, b = decide (slotHit l x.f0 j) → Ev (fun k => impl_PutSlot.j2 k l l (j : Int) b x.f0 x.f1) (putTo l x j) := by
      intro b hb
      by_cases hh : slotHit l x.f0 j
      · have hj2 : j < l.length := hh.1
        rw [hb, decide_eq_true hh]
        refine shift ?_
        simp only [impl_PutSlot.j2, Int.toNat_natCast]
        refine pos trivial (pos (by omega) (pos (by omega) (fin _ ?_)))
        rw [putOut, if_pos hh, List.set_eq_take_append_cons_drop, if_pos hj2]
        simp
      · rw [hb, decide_eq_false hh]
        refine shift ?_
        simp only [impl_PutSlot.j2]
        refine neg (by decide) (pos (by omega) (pos (by omega) (pos (by omega) (fin _ ?_))))
        rw [putOut, if_neg hh]
        simp [insAt]
    refine shift ?_
    simp only [impl_PutSlot.j1]
    by_cases c : j < l.length
    · refine pos (by omega) (pos (by omega) (two _ ?_))
      by_cases q : (rd_T30 l (j : Int)).f0 = x.f0
      · rw [decide_eq_true (show slotHit l x.f0 j from ⟨c, q⟩)]
        exact beq_iff_eq.2 q
      · rw [decide_eq_false (show ¬ slotHit l x.f0 j from fun g => q g.2)]
        exact beq_eq_false_iff_ne.2 q
    · exact neg (by omega) (two _ (by rw [decide_eq_false (show ¬ slotHit l x.f0 j from fun g => c g.1)]))
  have main : ∀ d (j : Nat), l.length ≤ j + d → j ≤ l.length → Ev (fun k => impl_PutSlot.l0 k l l (j : Int) x.f0 x.f1) (putTo l x (putAt l x.f0 d j)) := by
    intro d
    induction d with
    | zero =>
      intro j hd hj
      refine shift ?_
      simp only [impl_PutSlot.l0, putAt]
      exact neg (by omega) (last j hj)
    | succ d ih =>
      intro j hd hj
      refine shift ?_
      simp only [impl_PutSlot.l0, putAt]
      by_cases c1 : j < l.length
      · refine pos (by omega) (pos (by omega) ?_)
        by_cases c2 : (rd_T30 l (j : Int)).f0 < x.f0
        · rw [if_pos ⟨c1, c2⟩]
          refine pos c2 ?_
          rw [succ_wrap (by omega)]
          exact ih (j + 1) (by omega) (by omega)
        · rw [if_neg (fun g => c2 g.2)]
          exact neg c2 (last j hj)
      · rw [if_neg (fun g => c1 g.1)]
        exact neg (by omega) (last j hj)
  exact main l.length 0 (by omega) (Nat.zero_le _)

theorem laws_big_eq (l : List Int) : laws_big.f l = some (decide ((l.length : Int) > 1048576)) := rfl

theorem spec_l1New_ev (l : List Int) : ∃ s, Ev (fun k => spec_l1New.f k l) (l, 0, s) := by
  unfold spec_l1New.f
  have : ∀ d j s, j + d = l.length → (j : Nat) ≤ 4000 → ∃ s2, Ev (fun k => spec_l1New.l0 k l s (j : Int)) (l, 0, s2) := by
    intro d
    induction d with
    | zero =>
      intro j s hj _
      refine ⟨s, shift ?_⟩
      simp only [spec_l1New.l0]
      exact neg (by omega) (now rfl)
    | succ d ih =>
      intro j s hj hk
      by_cases h : j < 4000
      · obtain ⟨s2, h2⟩ := ih (j + 1) (Go.bits .and .i64 (wrap64 ((wrap64 ((wrap64 (s * 137)) + (wrap64 (rd l j)))) + 11)) 1073741823) (by omega) (by omega)
        refine ⟨s2, shift ?_⟩
        simp only [spec_l1New.l0]
        rw [succ_wrap (by omega)]
        exact pos (by omega) (pos (by omega) (pos (by omega) h2))
      · refine ⟨s, shift ?_⟩
        simp only [spec_l1New.l0]
        exact pos (by omega) (neg (by omega) (now rfl))
  exact this l.length 0 _ (by omega) (by omega)

theorem and255 (x : Int) : 0 ≤ Go.bits .and .i64 x 255 ∧ Go.bits .and .i64 x 255 ≤ 255 := by
  have h : (BitVec.ofInt 64 x &&& BitVec.ofInt 64 255).toNat ≤ 255 := by
    rw [BitVec.toNat_and]
    exact Nat.le_trans Nat.and_le_right (by decide)
  show 0 ≤ IntKind.wrap .i64 ((BitVec.ofInt 64 x &&& BitVec.ofInt 64 255).toNat : Int) ∧ IntKind.wrap .i64 ((BitVec.ofInt 64 x &&& BitVec.ofInt 64 255).toNat : Int) ≤ 255
  generalize (BitVec.ofInt 64 x &&& BitVec.ofInt 64 255).toNat = n at h
  have e : IntKind.wrap .i64 (n : Int) = wrap64 (n : Int) := by simp only [i64_w]
  rw [e, w64 (by omega) (by omega)]
  omega
theorem spec_l1Byte_ok (d : List Int) (p s : Int) (hd : d.length ≤ 1048576) (hp : 0 ≤ p ∧ p ≤ d.length) : ∃ v p2 s2, spec_l1Byte.f d p s = some (v, p2, s2) ∧ (0 ≤ p2 ∧ p2 ≤ d.length) ∧ 0 ≤ v ∧ v ≤ 255 := by
  unfold spec_l1Byte.f
  by_cases h : p < (d.length : Int)
  · refine ⟨_, _, _, by rw [if_pos h, if_pos hp.1], ?_, and255 _⟩
    rw [w64 (by omega) (by omega)]
    omega
  · exact ⟨_, _, _, by rw [if_neg h], hp, and255 _⟩

theorem spec_l1Below_ok (d : List Int) (p s a : Int) (hd : d.length ≤ 1048576) (hp : 0 ≤ p ∧ p ≤ d.length) : ∃ v p2 s2, spec_l1Below.f d p s a = some (v, p2, s2) ∧ (0 ≤ p2 ∧ p2 ≤ d.length) ∧ 0 ≤ v ∧ (0 < a → v < a) := by
  unfold spec_l1Below.f
  by_cases h : a ≤ 0
  · exact ⟨0, p, s, by rw [if_pos h], hp, by omega, by omega⟩
  rw [if_neg h]
  obtain ⟨v1, p1, s1, e1, r1, b1⟩ := spec_l1Byte_ok d p s hd hp
  by_cases h2 : a ≤ 256
  · refine ⟨Int.tmod v1 a, p1, s1, by rw [if_pos h2, e1, Option.bind_some, if_neg (by omega)], r1, Int.tmod_nonneg _ b1.1, fun h3 => Int.tmod_lt_of_pos _ h3⟩
  · obtain ⟨v2, p2, s2, e2, r2, b2⟩ := spec_l1Byte_ok d p1 s1 hd r1
    obtain ⟨v3, p3, s3, e3, r3, b3⟩ := spec_l1Byte_ok d p2 s2 hd r2
    refine ⟨_, p3, s3, by rw [if_neg h2, e1, Option.bind_some]; simp only [e2, e3, Option.bind_some]; rw [if_neg (by omega)], r3, Int.tmod_nonneg _ ?_, fun h3 => Int.tmod_lt_of_pos _ h3⟩
    rw [w64 (x := v1 * 65536) (by omega) (by omega), w64 (x := v2 * 256) (by omega) (by omega), w64 (x := v1 * 65536 + v2 * 256) (by omega) (by omega), w64 (by omega) (by omega)]
    omega

theorem spec_l1Int_ok (d : List Int) (p s : Int) (l : List Int) (hd : d.length ≤ 1048576) (hp : 0 ≤ p ∧ p ≤ d.length) (hl : 0 < l.length) : ∃ v p2 s2, spec_l1Int.f d p s l = some (v, p2, s2) ∧ (0 ≤ p2 ∧ p2 ≤ d.length) ∧ v ∈ l := by
  unfold spec_l1Int.f
  obtain ⟨v, p2, s2, e, r, h0, h1⟩ := spec_l1Below_ok d p s (l.length : Int) hd hp
  have h1 := h1 (by omega)
  refine ⟨rd l v, p2, s2, by rw [e, Option.bind_some, if_pos h0, if_pos h1], r, ?_⟩
  obtain ⟨n, rfl⟩ := Int.eq_ofNat_of_zero_le h0
  rw [rd_get l n (by omega)]
  exact List.getElem_mem _

theorem putS_keeps (l : List S30) (x : S30) (h : slotsOk l = true) : slotsOk (putS l x).1 = true := by
  unfold putS putTo
  split
  · assumption
  · exact h
theorem slotsOk_one (x : S30) (h : 0 ≤ x.f0 ∧ x.f0 ≤ 1439) (h2 : 1 ≤ x.f1 ∧ x.f1 ≤ 99) : slotsOk [x] = true := by
  have e : rd_T30 [x] ((0 : Nat) : Int) = x := by simp [rd_T30]
  have o : okSlot [x] 0 = true := by
    rw [okSlot_iff, e]
    exact ⟨h.1, h.2, h2.1, h2.2, fun g => absurd g (Nat.lt_irrefl 0)⟩
  have r : List.range ([x] : List S30).length = [0] := rfl
  unfold slotsOk
  rw [r, List.all_cons, o]
  rfl
theorem putS_first (x : S30) (h : 0 ≤ x.f0 ∧ x.f0 ≤ 1439) (h2 : 1 ≤ x.f1 ∧ x.f1 ≤ 99) : slotsOk (putS [] x).1 = true := by
  have o := slotsOk_one x h h2
  have e : putOut [] x 0 = [x] := by simp [putOut]
  unfold putS
  show slotsOk (putTo [] x 0).1 = true
  unfold putTo
  rw [e, if_pos o]
  exact o
theorem spec_l29Draw_at (d : List Int) (hd : d.length ≤ 1048576) : ∀ (i : Nat) (l : List S30) (q s : Int), i ≤ 1000 → slotsOk l = true ∨ l = [] ∧ 0 < i → (0 ≤ q ∧ q ≤ d.length) →
    ∃ l2 q2 s2, Ev (fun k => spec_l29Draw.l0 k l (i : Int) d q s) (l2, q2, s2) ∧ slotsOk l2 = true ∧ (0 ≤ q2 ∧ q2 ≤ d.length) := by
  intro i
  induction i with
  | zero =>
    intro l q s hi hl hq
    refine ⟨l, q, s, shift ?_, ?_, hq⟩
    · simp only [spec_l29Draw.l0]
      exact neg (by omega) (now rfl)
    · rcases hl with h | h
      · exact h
      · exact absurd h.2 (Nat.lt_irrefl 0)
  | succ i ih =>
    intro l q s hi hl hq
    obtain ⟨c1, q1, s1, e1, hq1, hc1⟩ := spec_l1Int_ok d q s [0, 60, 360, 540, 960, 1200, 1439] hd hq (by simp)
    obtain ⟨c2, q2, s2, e2, hq2, c20, c21⟩ := spec_l1Below_ok d q1 s1 3 hd hq1
    have c21 := c21 (by omega)
    have hc : 0 ≤ c1 ∧ c1 ≤ 1439 := by
      simp at hc1
      omega
    have hw : wrap64 (1 + c2) = 1 + c2 := w64 (by omega) (by omega)
    have hn : slotsOk (putS l ⟨c1, 1 + c2⟩).1 = true := by
      rcases hl with h | h
      · exact putS_keeps _ _ h
      · rw [h.1]
        exact putS_first ⟨c1, 1 + c2⟩ hc (by constructor <;> dsimp only <;> omega)
    have hlen : l.length ≤ 1048576 := by
      rcases hl with h | h
      · have := slotsOk_len24 l h
        omega
      · rw [h.1]
        exact Nat.zero_le _
    obtain ⟨l3, q3, s3, h3, r⟩ := ih (putS l ⟨c1, 1 + c2⟩).1 q2 s2 (by omega) (.inl hn) hq2
    refine ⟨l3, q3, s3, shift ?_, r⟩
    simp only [spec_l29Draw.l0]
    have e5 : wrap64 (((i + 1 : Nat) : Int) - 1) = (i : Int) := by rw [w64 (by omega) (by omega)]; omega
    rw [e5]
    refine pos (by omega) (bindc e1 (bindc e2 ?_))
    dsimp only
    rw [hw]
    exact Ev.bind (spec_PutSlot_ev l ⟨c1, 1 + c2⟩ hlen) h3
theorem spec_l29Draw_ev (d : List Int) (hd : d.length ≤ 1048576) (q s : Int) (hq : 0 ≤ q ∧ q ≤ d.length) :
    ∃ l2 q2 s2, Ev (fun k => spec_l29Draw.f k d q s) (l2, q2, s2) ∧ slotsOk l2 = true ∧ (0 ≤ q2 ∧ q2 ≤ d.length) := by
  unfold spec_l29Draw.f
  obtain ⟨c1, q1, s1, e1, hq1, c10, c11⟩ := spec_l1Below_ok d q s 5 hd hq
  have c11 := c11 (by omega)
  obtain ⟨l2, q2, s2, h2, r⟩ := spec_l29Draw_at d hd (1 + c1).toNat [] q1 s1 (by omega) (.inr ⟨rfl, by omega⟩) hq1
  refine ⟨l2, q2, s2, bindc e1 ?_, r⟩
  dsimp only
  have e : wrap64 (1 + c1) = ((1 + c1).toNat : Int) := by rw [w64 (by omega) (by omega)]; omega
  rw [e]
  exact h2

theorem spec_l29Any_ev (d : List Int) (hd : d.length ≤ 1048576) (q s : Int) (hq : 0 ≤ q ∧ q ≤ d.length) :
    ∃ l2 q2 s2, Ev (fun k => spec_l29Any.f k d q s) (l2, q2, s2) ∧ l2.length ≤ 24 ∧ (0 ≤ q2 ∧ q2 ≤ d.length) := by
  unfold spec_l29Any.f
  obtain ⟨l, q1, s1, h1, hl, hq1⟩ := spec_l29Draw_ev d hd q s hq
  have hn := slotsOk_len24 l hl
  obtain ⟨c, q2, s2, e2, hq2, _⟩ := spec_l1Below_ok d q1 s1 10 hd hq1
  by_cases c0 : c = 0
  · obtain ⟨x, q3, s3, e3, hq3, _⟩ := spec_l1Int_ok d q2 s2 [(-1), 0, 1439, 1440] hd hq2 (by simp)
    exact ⟨_, q3, s3, Ev.bind h1 (bindc e2 (pos c0 (bindc e3 (pos (by dsimp only; omega) (now rfl))))), by simpa using hn.2, hq3⟩
  by_cases c1 : c = 1
  · obtain ⟨x, q3, s3, e3, hq3, _⟩ := spec_l1Int_ok d q2 s2 [0, 99, 100] hd hq2 (by simp)
    exact ⟨_, q3, s3, Ev.bind h1 (bindc e2 (neg c0 (pos c1 (bindc e3 (pos (by dsimp only; omega) (now rfl)))))), by simpa using hn.2, hq3⟩
  by_cases c2 : c = 2
  · exact ⟨[], q2, s2, Ev.bind h1 (bindc e2 (neg c0 (neg c1 (pos c2 (now rfl))))), by simp, hq2⟩
  · exact ⟨l, q2, s2, Ev.bind h1 (bindc e2 (neg c0 (neg c1 (neg c2 (now rfl))))), hn.2, hq2⟩

theorem spec_DrawPlanAt_ev (d : List Int) (hd : d.length ≤ 1048576) : ∃ l m, Ev (fun k => spec_DrawPlanAt.f k d) (l, m) ∧ l.length ≤ 24 ∧ (-1 ≤ m ∧ m ≤ 1000001) := by
  unfold spec_DrawPlanAt.f
  obtain ⟨s, h1⟩ := spec_l1New_ev d
  obtain ⟨l, q1, s1, h2, hl, hq1⟩ := spec_l29Any_ev d hd 0 s (by omega)
  obtain ⟨m, q2, s2, e3, hq2, hm⟩ := spec_l1Int_ok d q1 s1 [0, 59, 60, 400, 1439, 1440, 2000, 1000000, 1000001, (-1)] hd hq1 (by simp)
  refine ⟨l, m, Ev.bind h1 (Ev.bind h2 (bindc e3 (now rfl))), hl, ?_⟩
  simp at hm
  omega

theorem spec_DrawNextChange_ev (d : List Int) (hd : d.length ≤ 1048576) : ∃ l m, Ev (fun k => spec_DrawNextChange.f k d) (l, m) ∧ l.length ≤ 24 ∧ (-1 ≤ m ∧ m ≤ 1000001) := by
  unfold spec_DrawNextChange.f
  obtain ⟨l, m, h, r⟩ := spec_DrawPlanAt_ev d hd
  exact ⟨l, m, Ev.bind h (now rfl), r⟩

def planSt (l : List S30) (m : Int) : Nat → Int
  | 0 => (rd_T30 l ((l.length : Int) - 1)).f1
  | j + 1 => if (rd_T30 l j).f0 ≤ Int.tmod m 1440 then (rd_T30 l j).f1 else planSt l m j
def planAt (l : List S30) (m : Int) : Int := if slotsOk l = true ∧ 0 ≤ m ∧ m ≤ 1000000 then planSt l m l.length else 0
theorem slotsOk_len (l : List S30) (h : slotsOk l = true) : 1 ≤ l.length ∧ l.length ≤ 24 := by
  unfold slotsOk at h
  rw [Bool.and_eq_true, decide_eq_true_iff] at h
  exact h.2

theorem impl_planOf_ev (l : List S30) (m : Int) (hl : 1 ≤ l.length) (hl2 : l.length ≤ 1048576) : Ev (fun k => impl_planOf.f k l m) (planSt l m l.length) := by
  unfold impl_planOf.f
  rw [w64 (x := (l.length : Int) - 1) (by omega) (by omega)]
  refine pos (by omega) (pos (by omega) ?_)
  refine loop (g := fun k j => impl_planOf.l0 k m (planSt l m j) l (l.length : Int) (j : Int)) l.length ?_ ?_
  · intro j hj ih
    refine shift ?_
    simp only [impl_planOf.l0]
    refine pos (nat_lt hj) (pos (by omega) (pos (nat_lt hj) ?_))
    rw [succ_wrap (by omega)]
    rw [planSt] at ih
    by_cases h3 : (rd_T30 l j).f0 ≤ Int.tmod m 1440
    · rw [if_pos h3] at ih
      exact pos h3 ih
    · rw [if_neg h3] at ih
      exact neg h3 ih
  · refine shift ?_
    simp only [impl_planOf.l0]
    exact neg (nat_ge (Nat.le_refl _)) (now rfl)

theorem planAt_in {l : List S30} {m : Int} (h : slotsOk l = true) (h0 : 0 ≤ m) (h1 : m ≤ 1000000) : planAt l m = planSt l m l.length := by
  unfold planAt
  rw [if_pos ⟨h, h0, h1⟩]

theorem tmod_day (m : Int) (h : 0 ≤ m) : 0 ≤ Int.tmod m 1440 ∧ Int.tmod m 1440 ≤ 1439 ∧ Int.tmod (Int.tmod m 1440) 1440 = Int.tmod m 1440 := by
  rw [Int.tmod_eq_emod_of_nonneg h]
  have h1 := Int.emod_nonneg m (by omega : (1440 : Int) ≠ 0)
  have h2 := Int.emod_lt_of_pos m (by omega : (0 : Int) < 1440)
  refine ⟨h1, by omega, ?_⟩
  rw [Int.tmod_eq_emod_of_nonneg h1, Int.emod_eq_of_lt h1 h2]
theorem planSt_day (l : List S30) (m : Int) (h : 0 ≤ m) (j : Nat) : planSt l (Int.tmod m 1440) j = planSt l m j := by
  induction j with
  | zero => rfl
  | succ j ih => rw [planSt, planSt, (tmod_day m h).2.2, ih]
/-- The first minute from m on, among d, at which the plan changes, or -1. -/
def nextFrom (l : List S30) : Nat → Int → Int
  | 0, _ => -1
  | d + 1, m => if planSt l m l.length = planSt l (m - 1) l.length then nextFrom l d (m + 1) else m
def nextChange (l : List S30) (s : Int) : Int := if slotsOk l = true ∧ 0 ≤ s ∧ s ≤ 1000000 then nextFrom l 1440 (s + 1) else -1

theorem impl_NextChange_at (l : List S30) (s : Int) (hl : l.length ≤ 1048576) (h : slotsOk l = true) (h0 : 0 ≤ s) (h1 : s ≤ 1000000) : ∀ (d : Nat) (m : Int), m + d = s + 1441 → 1 ≤ m → m ≤ 1001441 → Ev (fun k => impl_NextChange.l0 k l s m) (nextFrom l d m) := by
  have hn := slotsOk_len l h
  intro d
  induction d with
  | zero =>
    intro m hm hm1 hm2
    refine shift ?_
    simp only [impl_NextChange.l0]
    rw [w64 (x := s + 1440) (by omega) (by omega)]
    exact neg (by omega) (now rfl)
  | succ d ih =>
    intro m hm hm1 hm2
    refine shift ?_
    simp only [impl_NextChange.l0]
    rw [w64 (x := s + 1440) (by omega) (by omega), w64 (x := m - 1) (by omega) (by omega), w64 (x := m + 1) (by omega) (by omega)]
    refine pos (by omega) (Ev.bind (impl_planOf_ev l _ hn.1 hl) (Ev.bind (impl_planOf_ev l _ hn.1 hl) ?_))
    rw [nextFrom]
    by_cases hp : planSt l m l.length = planSt l (m - 1) l.length
    · rw [if_pos hp]
      exact pos hp (ih (m + 1) (by omega) (by omega) (by omega))
    · rw [if_neg hp]
      exact neg hp (now rfl)
theorem impl_NextChange_ev (l : List S30) (s : Int) (hl : l.length ≤ 1048576) : Ev (fun k => impl_NextChange.f k l s) (nextChange l s) := by
  unfold impl_NextChange.f nextChange
  refine Ev.bind (impl_AreSlots_ev l (by omega)) ?_
  by_cases h : slotsOk l = true
  · refine pos h (bindc (impl_InRange_eq _ _ _) (shift ?_))
    simp only [impl_NextChange.j0]
    by_cases h2 : 0 ≤ s ∧ s ≤ 1000000
    · rw [if_pos ⟨h, h2⟩, w64 (x := s + 1) (by omega) (by omega)]
      exact neg (by simp [h2]) (impl_NextChange_at l s hl h h2.1 h2.2 1440 _ (by omega) (by omega) (by omega))
    · rw [if_neg (fun q => h2 q.2)]
      exact pos (by simp; omega) (now rfl)
  · rw [if_neg (fun q => h q.1)]
    refine neg h (shift ?_)
    simp only [impl_NextChange.j0]
    exact pos (by simp) (now rfl)

theorem impl_PlanAt_ev (l : List S30) (m : Int) (hl : l.length ≤ 1048576) : Ev (fun k => impl_PlanAt.f k l m) (planAt l m) := by
  unfold impl_PlanAt.f planAt
  refine Ev.bind (impl_AreSlots_ev l (by omega)) ?_
  by_cases h : slotsOk l = true
  · have hn := slotsOk_len l h
    refine pos h (bindc (impl_InRange_eq _ _ _) ?_)
    by_cases h2 : 0 ≤ m ∧ m ≤ 1000000
    · rw [if_pos ⟨h, h2⟩]
      exact pos (by simp [h2]) (Ev.bind (impl_planOf_ev l m hn.1 hl) (now rfl))
    · rw [if_neg (fun q => h2 q.2)]
      exact neg (by simpa using h2) (now rfl)
  · rw [if_neg (fun q => h q.1)]
    exact neg h (now rfl)

def hasPlan (l : List S30) (p : Int) (m : Nat) : Bool := decide (planSt l m l.length = p)
def planMinutes (l : List S30) (p : Int) (m : Nat) : Nat := (List.range m).countP (hasPlan l p)
theorem planMinutes_le (l : List S30) (p : Int) (m : Nat) : planMinutes l p m ≤ m := by
  have := List.countP_le_length (p := hasPlan l p) (l := List.range m)
  simpa [planMinutes] using this
theorem planMinutes_yes {l : List S30} {p : Int} {m : Nat} (h : planSt l m l.length = p) : planMinutes l p (m + 1) = planMinutes l p m + 1 := by
  simp [planMinutes, List.range_succ, List.countP_append, hasPlan, h]
theorem planMinutes_no {l : List S30} {p : Int} {m : Nat} (h : ¬ planSt l m l.length = p) : planMinutes l p (m + 1) = planMinutes l p m := by
  simp [planMinutes, List.range_succ, List.countP_append, hasPlan, h]

theorem impl_MinutesOf_ev (l : List S30) (p : Int) (hl : l.length ≤ 1048576) : Ev (fun k => impl_MinutesOf.f k l p) (if slotsOk l = true then (planMinutes l p 1440 : Int) else 0) := by
  unfold impl_MinutesOf.f
  refine Ev.bind (impl_AreSlots_ev l (by omega)) ?_
  by_cases h : slotsOk l = true
  · have hn := slotsOk_len l h
    rw [if_pos h]
    refine pos h (loop (g := fun k j => impl_MinutesOf.l0 k l p (planMinutes l p j : Int) (j : Int)) 1440 ?_ ?_)
    · intro j hj ih
      have hc := planMinutes_le l p j
      refine shift ?_
      simp only [impl_MinutesOf.l0]
      refine pos (by omega) (Ev.bind (impl_planOf_ev l _ hn.1 hl) ?_)
      rw [succ_wrap (j := j) (by omega), succ_wrap (j := planMinutes l p j) (by omega)]
      by_cases hp : planSt l (j : Int) l.length = p
      · rw [planMinutes_yes hp] at ih
        exact pos hp ih
      · rw [planMinutes_no hp] at ih
        exact neg hp ih
    · refine shift ?_
      simp only [impl_MinutesOf.l0]
      exact neg (by omega) (now rfl)
  · rw [if_neg h]
    exact neg h (now rfl)

theorem spec_DrawPutSlot_ev (d : List Int) (hd : d.length ≤ 1048576) : ∃ l a b, Ev (fun k => spec_DrawPutSlot.f k d) (l, a, b) ∧ l.length ≤ 24 := by
  unfold spec_DrawPutSlot.f
  obtain ⟨s, h1⟩ := spec_l1New_ev d
  obtain ⟨l, q1, s1, h2, hl, hq1⟩ := spec_l29Any_ev d hd 0 s (by omega)
  obtain ⟨a, q2, s2, e3, hq2, ha⟩ := spec_l1Int_ok d q1 s1 [0, 60, 700, 1439, 1440, (-1)] hd hq1 (by simp)
  obtain ⟨b, q3, s3, e4, hq3, hb⟩ := spec_l1Int_ok d q2 s2 [1, 2, 99, 100] hd hq2 (by simp)
  exact ⟨l, a, b, Ev.bind h1 (Ev.bind h2 (bindc e3 (bindc e4 (now rfl)))), hl⟩

theorem slots_at (l : List S30) (h : slotsOk l = true) (j : Nat) (hj : j < l.length) : okSlot l j = true := by
  unfold slotsOk at h
  rw [Bool.and_eq_true] at h
  exact List.all_eq_true.1 h.1 j (List.mem_range.2 hj)
theorem slots_up (l : List S30) (h : slotsOk l = true) (i : Nat) : ∀ d, i + 1 + d < l.length → (rd_T30 l (i : Int)).f0 < (rd_T30 l ((i + 1 + d : Nat) : Int)).f0 := by
  have st : ∀ j, 0 < j → j < l.length → (rd_T30 l ((j : Int) - 1)).f0 < (rd_T30 l (j : Int)).f0 := fun j h0 hj => ((okSlot_iff l j).1 (slots_at l h j hj)).2.2.2.2 h0
  intro d
  induction d with
  | zero =>
    intro hd
    have := st (i + 1) (by omega) hd
    have e : ((i + 1 : Nat) : Int) - 1 = (i : Int) := by omega
    rw [e] at this
    exact this
  | succ d ih =>
    intro hd
    have h1 := ih (by omega)
    have h2 := st (i + 1 + (d + 1)) (by omega) hd
    have e : ((i + 1 + (d + 1) : Nat) : Int) - 1 = ((i + 1 + d : Nat) : Int) := by omega
    rw [e] at h2
    exact Int.lt_trans h1 h2
theorem planSt_own (l : List S30) (h : slotsOk l = true) (i : Nat) (hi : i < l.length) : planSt l (rd_T30 l (i : Int)).f0 l.length = (rd_T30 l (i : Int)).f1 := by
  have o := (okSlot_iff l i).1 (slots_at l h i hi)
  have e : Int.tmod (rd_T30 l (i : Int)).f0 1440 = (rd_T30 l (i : Int)).f0 := by
    rw [Int.tmod_eq_emod_of_nonneg o.1, Int.emod_eq_of_lt o.1 (by omega)]
  have : ∀ d, i + 1 + d ≤ l.length → planSt l (rd_T30 l (i : Int)).f0 (i + 1 + d) = (rd_T30 l (i : Int)).f1 := by
    intro d
    induction d with
    | zero =>
      intro _
      rw [Nat.add_zero, planSt, e, if_pos (Int.le_refl _)]
    | succ d ih =>
      intro hd
      have := slots_up l h i d (by omega)
      rw [show i + 1 + (d + 1) = (i + 1 + d) + 1 from rfl, planSt, e, if_neg (by omega)]
      exact ih (by omega)
  have := this (l.length - (i + 1)) (by omega)
  rwa [show i + 1 + (l.length - (i + 1)) = l.length by omega] at this
theorem planSt_some (l : List S30) (m : Int) (h : 1 ≤ l.length) : ∀ n, n ≤ l.length → ∃ i : Nat, i < l.length ∧ planSt l m n = (rd_T30 l (i : Int)).f1 := by
  intro n
  induction n with
  | zero =>
    intro _
    refine ⟨l.length - 1, by omega, ?_⟩
    have e : ((l.length - 1 : Nat) : Int) = (l.length : Int) - 1 := by omega
    rw [planSt, e]
  | succ n ih =>
    intro hn
    rw [planSt]
    split
    · exact ⟨n, by omega, rfl⟩
    · exact ih (by omega)
theorem planSt_range (l : List S30) (h : slotsOk l = true) (m : Int) : 1 ≤ planSt l m l.length ∧ planSt l m l.length ≤ 99 := by
  obtain ⟨i, hi, e⟩ := planSt_some l m (slotsOk_len l h).1 l.length (Nat.le_refl _)
  have o := (okSlot_iff l i).1 (slots_at l h i hi)
  rw [e]
  exact ⟨o.2.2.1, o.2.2.2.1⟩
theorem planMinutes_none (l : List S30) (p : Int) (h : 1 ≤ l.length) (hn : ∀ i : Nat, i < l.length → ¬ (rd_T30 l (i : Int)).f1 = p) : ∀ m, planMinutes l p m = 0 := by
  intro m
  induction m with
  | zero => rfl
  | succ m ih =>
    obtain ⟨i, hi, e⟩ := planSt_some l (m : Int) h l.length (Nat.le_refl _)
    rw [planMinutes_no (by rw [e]; exact hn i hi), ih]
/-- The minutes of the plans 1 to c, of the first m minutes of a day. -/
def planTo (l : List S30) (m : Nat) : Nat → Nat
  | 0 => 0
  | c + 1 => planTo l m c + planMinutes l ((c + 1 : Nat) : Int) m
theorem planTo_zero (l : List S30) : ∀ c, planTo l 0 c = 0
  | 0 => rfl
  | c + 1 => by rw [planTo, planTo_zero l c]; rfl
theorem planTo_succ (l : List S30) (h : slotsOk l = true) (m : Nat) : ∀ c : Nat, planTo l (m + 1) c = planTo l m c + (if planSt l (m : Int) l.length ≤ (c : Int) then 1 else 0) := by
  have r := planSt_range l h (m : Int)
  intro c
  induction c with
  | zero => rw [if_neg (by omega)]; rfl
  | succ c ih =>
    rw [planTo, planTo, ih]
    by_cases e : planSt l (m : Int) l.length = ((c + 1 : Nat) : Int)
    · rw [planMinutes_yes e, if_neg (by omega), if_pos (by omega)]
      omega
    · rw [planMinutes_no e]
      by_cases g : planSt l (m : Int) l.length ≤ (c : Int)
      · rw [if_pos g, if_pos (by omega)]
        omega
      · rw [if_neg g, if_neg (by omega)]
        omega
theorem planTo_all (l : List S30) (h : slotsOk l = true) : ∀ m, planTo l m 99 = m := by
  intro m
  induction m with
  | zero => exact planTo_zero l 99
  | succ m ih =>
    have r := planSt_range l h (m : Int)
    rw [planTo_succ l h m 99, ih, if_pos (by omega)]
theorem planTo_le (l : List S30) (m : Nat) : ∀ c, planTo l m c ≤ c * m
  | 0 => Nat.zero_le _
  | c + 1 => by
    have h1 := planTo_le l m c
    have h2 := planMinutes_le l ((c + 1 : Nat) : Int) m
    rw [planTo, Nat.succ_mul]
    omega
theorem nextFrom_spec (l : List S30) : ∀ (d : Nat) (a : Int), nextFrom l d a = -1 ∨ (a ≤ nextFrom l d a ∧ nextFrom l d a < a + d ∧ ¬ planSt l (nextFrom l d a) l.length = planSt l (nextFrom l d a - 1) l.length ∧ planSt l (nextFrom l d a - 1) l.length = planSt l (a - 1) l.length) := by
  intro d
  induction d with
  | zero => exact fun a => .inl rfl
  | succ d ih =>
    intro a
    rw [nextFrom]
    by_cases c : planSt l a l.length = planSt l (a - 1) l.length
    · rw [if_pos c]
      rcases ih (a + 1) with g | g
      · exact .inl g
      · refine .inr ⟨by omega, by omega, g.2.2.1, ?_⟩
        rw [g.2.2.2, show a + 1 - 1 = a by omega, c]
    · rw [if_neg c]
      exact .inr ⟨Int.le_refl _, by omega, c, rfl⟩
theorem putS_at (l : List S30) (x : S30) (h : (putS l x).2 = true) : slotsOk (putS l x).1 = true ∧ (0 ≤ x.f0 ∧ x.f0 ≤ 1439) ∧ planSt (putS l x).1 x.f0 (putS l x).1.length = x.f1 := by
  have hj := putAt_range l x.f0 l.length 0 (Nat.zero_le _)
  unfold putS at h ⊢
  generalize putAt l x.f0 l.length 0 = j at h hj ⊢
  unfold putTo at h ⊢
  by_cases o : slotsOk (putOut l x j) = true
  · rw [if_pos o]
    dsimp only
    have e : rd_T30 (putOut l x j) (j : Int) = x := by
      have h2 : (l.take j).length = j := by simp; omega
      simp [rd_T30, putOut, List.append_assoc, List.getElem?_append_right, h2]
    have hl : j < (putOut l x j).length := by
      unfold putOut
      split <;> simp <;> omega
    have k := (okSlot_iff _ j).1 (slots_at _ o j hl)
    have p := planSt_own _ o j hl
    rw [e] at k p
    exact ⟨o, ⟨k.1, k.2.1⟩, p⟩
  · rw [if_neg o] at h
    exact absurd h (by simp)
theorem putS_no (l : List S30) (x : S30) (h : ¬ (putS l x).2 = true) : (putS l x).1 = l := by
  unfold putS putTo at h ⊢
  split
  · rename_i o
    rw [if_pos o] at h
    exact absurd rfl h
  · rfl
theorem FnDays_j5 (d : List Int) (hd : d.length ≤ 1048576) : Ev (fun k => laws_FnDays.j5 k d false) true := by
  obtain ⟨l, a, b, h1, hl⟩ := spec_DrawPutSlot_ev d hd
  have hp := impl_PutSlot_ev l ⟨a, b⟩ (by omega)
  have hlen := putS_length l ⟨a, b⟩
  have hy := putS_at l ⟨a, b⟩
  have hn := putS_no l ⟨a, b⟩
  generalize putS l ⟨a, b⟩ = R at hp hlen hy hn
  refine shift ?_
  simp only [laws_FnDays.j5]
  refine neg (by simp) (Ev.bind h1 (Ev.bind hp ?_))
  dsimp only
  by_cases c : R.2 = true
  · obtain ⟨o, r, e⟩ := hy c
    dsimp only at r e
    refine pos c (Ev.bind (impl_PlanAt_ev R.1 a (by omega)) ?_)
    rw [planAt_in o r.1 (by omega)]
    exact pos e (Ev.bind (impl_AreSlots_ev R.1 (by omega)) (pos o (now rfl)))
  · refine neg c (now ?_)
    rw [hn c]
    simp
theorem FnDays_l0 (d : List Int) (hd : d.length ≤ 1048576) (l : List S30) (hl : l.length ≤ 24) (h : slotsOk l = true) : Ev (fun k => laws_FnDays.l0 k d l 0 1) true := by
  have hn := slotsOk_len l h
  have hj5 := FnDays_j5 d hd
  refine loop (g := fun k c => laws_FnDays.l0 k d l (planTo l 1440 c : Int) ((c : Int) + 1)) 99 ?_ ?_
  · intro c hc ih
    have hle := planTo_le l 1440 c
    have hm := planMinutes_le l ((c + 1 : Nat) : Int) 1440
    refine shift ?_
    simp only [laws_FnDays.l0]
    refine pos (by omega) (Ev.bind (impl_AreSlots_ev l (by omega)) (shift ?_))
    simp only [laws_FnDays.j3]
    refine pos h ?_
    have e1 : wrap64 ((c : Int) + 1 + 1) = ((c + 1 : Nat) : Int) + 1 := by rw [w64 (by omega) (by omega)]; omega
    have e2 : wrap64 ((planTo l 1440 c : Int) + (planMinutes l ((c : Int) + 1) 1440 : Int)) = (planTo l 1440 (c + 1) : Int) := by
      have e : ((c : Int) + 1) = ((c + 1 : Nat) : Int) := by omega
      rw [planTo, e, w64 (by omega) (by omega)]
      omega
    have inner : ∀ dd (i : Nat), i + dd = l.length → (∀ q : Nat, q < i → ¬ (rd_T30 l (q : Int)).f1 = (c : Int) + 1) → Ev (fun k => laws_FnDays.l1 k d l (planTo l 1440 c : Int) ((c : Int) + 1) (i : Int)) true := by
      intro dd
      induction dd with
      | zero =>
        intro i hi hno
        have e : ((c : Int) + 1) = ((c + 1 : Nat) : Int) := by omega
        have z : planTo l 1440 (c + 1) = planTo l 1440 c := by
          rw [planTo, planMinutes_none l _ hn.1 (fun q hq => by rw [← e]; exact hno q (by omega)) 1440]
          rfl
        refine shift ?_
        simp only [laws_FnDays.l1]
        refine neg (by omega) ?_
        rw [e1, ← z]
        exact ih
      | succ dd ihd =>
        intro i hi hno
        refine shift ?_
        simp only [laws_FnDays.l1]
        refine pos (by omega) (pos (by omega) ?_)
        by_cases g : (rd_T30 l (i : Int)).f1 = (c : Int) + 1
        · refine pos g (Ev.bind (impl_MinutesOf_ev l _ (by omega)) ?_)
          rw [if_pos h, e1, e2]
          exact ih
        · refine neg g ?_
          rw [succ_wrap (j := i) (by omega)]
          refine ihd (i + 1) (by omega) (fun q hq => ?_)
          by_cases eq : q = i
          · rw [eq]
            exact g
          · exact hno q (by omega)
    exact inner l.length 0 (by omega) (fun q hq => absurd hq (Nat.not_lt_zero q))
  · refine shift ?_
    simp only [laws_FnDays.l0]
    refine neg (by omega) (shift ?_)
    simp only [laws_FnDays.j3]
    refine neg (by simp) (Ev.bind (impl_AreSlots_ev l (by omega)) (pos h ?_))
    rw [planTo_all l h 1440]
    exact hj5
theorem FnDays_j1 (d : List Int) (hd : d.length ≤ 1048576) (l : List S30) (hl : l.length ≤ 24) : Ev (fun k => laws_FnDays.j1 k d l) true := by
  refine shift ?_
  simp only [laws_FnDays.j1]
  by_cases h : slotsOk l = true
  · exact FnDays_l0 d hd l hl h
  · refine shift ?_
    simp only [laws_FnDays.l0]
    refine pos (by omega) (Ev.bind (impl_AreSlots_ev l (by omega)) (shift ?_))
    simp only [laws_FnDays.j3]
    exact neg h (Ev.bind (impl_AreSlots_ev l (by omega)) (neg h (FnDays_j5 d hd)))
theorem FnDays (d : List Int) (hw : wfS 1 U8 d) : ∃ k, laws_FnDays.f k d = some true := by
  refine Ev.rounds ?_
  unfold laws_FnDays.f
  refine bindc (laws_big_eq d) ?_
  by_cases hd : (d.length : Int) > 1048576
  · exact pos (by simpa using hd) (now rfl)
  have hd : d.length ≤ 1048576 := by omega
  obtain ⟨l, m, h1, hl, hm⟩ := spec_DrawNextChange_ev d hd
  have hj1 := FnDays_j1 d hd l hl
  refine neg (by simp; omega) (Ev.bind h1 (Ev.bind (impl_NextChange_ev l m (by omega)) ?_))
  dsimp only
  by_cases g : slotsOk l = true ∧ 0 ≤ m ∧ m ≤ 1000000
  · obtain ⟨o, g0, g1⟩ := g
    have sp := nextFrom_spec l 1440 (m + 1)
    have e : nextChange l m = nextFrom l 1440 (m + 1) := by rw [nextChange, if_pos ⟨o, g0, g1⟩]
    rw [e]
    generalize nextFrom l 1440 (m + 1) = n at sp
    rcases sp with rfl | ⟨n1, n2, n3, n4⟩
    · exact neg (by decide) hj1
    · rw [show m + 1 - 1 = m by omega] at n4
      have t1 := tmod_day n (by omega)
      have t2 := tmod_day m (by omega)
      refine pos (by omega) (neg (by omega) ?_)
      rw [w64 (x := m + 1440) (by omega) (by omega)]
      refine neg (by omega) (Ev.bind (impl_PlanAt_ev l _ (by omega)) (Ev.bind (impl_PlanAt_ev l _ (by omega)) ?_))
      rw [planAt_in o t1.1 (by omega), planAt_in o t2.1 (by omega), planSt_day l n (by omega), planSt_day l m (by omega)]
      have b : (planSt l n l.length == planSt l m l.length) = false := beq_eq_false_iff_ne.2 (by rw [← n4]; exact n3)
      rw [b]
      refine shift ?_
      simp only [laws_FnDays.j0]
      rw [w64 (x := n - 1) (by omega) (by omega)]
      refine neg (by simp) ?_
      by_cases q : n - 1 ≤ 1000000
      · refine pos q (Ev.bind (impl_PlanAt_ev l _ (by omega)) (Ev.bind (impl_PlanAt_ev l _ (by omega)) (pos ?_ hj1)))
        rw [planAt_in o (by omega) q, planAt_in o g0 g1]
        exact n4
      · exact neg q hj1
  · have e : nextChange l m = -1 := by rw [nextChange, if_neg g]
    rw [e]
    exact neg (by decide) hj1

end Go.Proofs.Ythbebbhfgffdfaa.PureFnDays
end

section
namespace Go.Proofs.Ythbebbhfgffdfaa.fnDays
open Go.ChangeShapes Go.WideShapes Go.ChangeAt Go.RowKit
open Go.Proofs.YthbebbhfgffdfaaW.PrintWords Go.Proofs.Ythbebbhfgffdfaa.PDay Go.Proofs.Ythbebbhfgffdfaa.Opens Go.Proofs.Ythbebbhfgffdfaa.Aid Go.Proofs.Ythbebbhfgffdfaa.PureFnDays
set_option linter.unusedVariables false
theorem own : ownKnob Try.prog.godebug = none := by kernel_rfl
theorem laidOut : laidOutB Try.prog = true := by kernel_rfl
theorem arg0 : Opens Try.prog 35 (Kd.slice 5 (Kd.int .u8)) (wfS 1 U8) := (opens_slice Try.underlying35 (by kernel_rfl) (B := 1) (by kernel_rfl) (opens_u8 Try.underlying5 (by kernel_rfl)))
set_option maxRecDepth 100000 in
theorem lifted (os : Os) (started : os.Started) (H : Type) (enc : TypeId × Value → H) :
    ReturnsInHanded {} Try.checked os 4 .any (Rows.fnDaysSpec.pre6 enc Try.prog Try.f4 Rows.fnDaysRow.domain false) (Rows.fnDaysSpec.post enc Try.prog Try.f4 false true false false) := by
  refine returnsInHanded_of_change_sized (C := Try.checked) own started (by kernel_rfl) Try.func4
    (ChangeSpec.witness6 (enc := enc) (C := Try.checked) false ⟨#[], #[.slice none 0 0], []⟩ 8 (by kernel_rfl) (by kernel_rfl) (by kernel_rfl) (by kernel_rfl)) ?_
  intro W base args ds gs before hval0 hW hcnd hsz0 _
  have hsz : (DataW.weightsEach Try.prog (Try.f4.params.toList ++ Rows.fnDaysSpec.plain.varTypes Try.prog) (ds ++ gs)).all (· ≤ reachBytes) = true := hsz0
  have hval : ∀ (j : Nat) t v, Try.f4.params[j]? = some t → args[j]? = some v → Value.okWide Try.prog W .any base t v := hval0
  have hW' := hW
  obtain ⟨p, q, hA0, hV, rfl, hfz, hnd⟩ := hW
  have hA : DataW.TrodAll enc Try.prog W 0 (fun _ => true) true Try.f4.params.toList args.toList ds p := hA0
  rw [Try.params4] at hA hval hsz
  obtain ⟨v0, vs0, d0, ds0, p0, q0, hargs, rfl, rfl, h0, r0⟩ := trodAll_cons hA
  obtain ⟨rfl, rfl, rfl⟩ := trodAll_nil r0
  obtain rfl : args = #[v0] := by cases args; simp_all
  obtain ⟨rfl, rfl⟩ := trodVars_none hV
  have k0 := h0
  have lt0 : ∀ x ∈ p0, x.block < W.heap.size := by obtain ⟨m, hm⟩ := k0; exact DataW.trod_lt m _ _ _ hm
  obtain ⟨x0, hK0, hW0⟩ := opens_arg arg0 hsz (j := 0) rfl rfl h0
  obtain ⟨A0, c0, rfl, hc0, hC0⟩ := opens_row Try.underlying35 (hval 0 35 v0 rfl rfl) hK0
  clear hA0 hval0 hsz0 hsz
  obtain ⟨k, hk⟩ := Go.Proofs.Ythbebbhfgffdfaa.PureFnDays.FnDays x0 hW0
  refine (laws_FnDays.calls k _ _ x0 true W hC0 hc0 hk).mono fun e W' ⟨he, bel0⟩ => ?_
  have bel : Below W.heap.size W W' := by first | exact bel0 | exact bel0.below
  subst he
  exact ⟨_, rfl, _, _, _, [], _, [], hW', trodAll_mk1 (shut_bool Try.underlying4 _), (trodAll_cons_mk (Below.trod laidOut (by kernel_rfl) (of_decide_eq_true (by kernel_rfl)) k0 bel lt0) trodAll_mk0), rfl, bel.frame _, fun h => by cases h⟩
theorem over : Rows.fnDaysRow.holds Try.pinned (OpenSpec.ofChange Rows.fnDaysSpec) :=
  OpenClaim.holds_of_wide 4 Try.f4 rfl rfl rfl rfl rfl rfl rfl ⟨rfl, rfl, rfl, rfl, rfl⟩ rfl rfl rfl rfl rfl (by kernel_rfl) Try.func4 (by kernel_rfl)
    (of_decide_eq_true (by kernel_rfl)) (by unfold Func.isWrapper; first | (rw [if_pos (by decide +kernel)]; kernel_rfl) | (rw [if_neg (by decide +kernel)]; exact ⟨rfl, rfl⟩))
    (fun os started H enc _ => lifted os started H enc)
theorem proved : Rows.FnDaysSaid := over
#print axioms proved
end Go.Proofs.Ythbebbhfgffdfaa.fnDays
namespace Go.Proofs.Ythbebbhfgffdfaa
/-- The row, under a short name, for the claim. -/
theorem fnDays_holds : Rows.FnDaysSaid := fnDays.proved
end Go.Proofs.Ythbebbhfgffdfaa
end
