/- The statement FnExactPutSlot, whole: for every input the law returns true and leaves its arguments as they were; no condition. Out of the contract of the law's walk and the pure theorem. -/
import Derived.Test.YthbebbhfgffdfaaBFnExactPutSlot0
import Derived.Test.YthbebbhfgffdfaaBFnExactPutSlot1
import Derived.Test.YthbebbhfgffdfaaBFnExactPutSlot2
import Derived.Test.YthbebbhfgffdfaaBFnExactPutSlot3
import Derived.Test.YthbebbhfgffdfaaBFnExactPutSlot4
import Derived.Test.YthbebbhfgffdfaaBFnExactPutSlot5
import Derived.Test.YthbebbhfgffdfaaBFnExactPutSlot6
import Derived.Test.YthbebbhfgffdfaaWWords
import Derived.Test.YthbebbhfgffdfaaWMore
import Derived.SizedLaws
import Derived.ChangeSlices
import Derived.ChangeArms
import Derived.WideShapes
import Derived.Below
import Derived.Test.YthbebbhfgffdfaaRows
import Derived.WalkKit
import Derived.ProofKit
import Derived.OpenShut
import Derived.ShutString
import Derived.ChangeOld
section
namespace Go.Proofs.Ythbebbhfgffdfaa.Aid
open Go.RowKit Go.Proofs.YthbebbhfgffdfaaW.PrintWords Go.Proofs.YthbebbhfgffdfaaW.PrintMore
set_option linter.unusedVariables false

theorem w64 {x : Int} (h0 : -9223372036854775808 ≤ x) (h1 : x ≤ 9223372036854775807) : wrap64 x = x := by
  unfold wrap64
  omega
theorem w64_range (x : Int) : -9223372036854775808 ≤ wrap64 x ∧ wrap64 x ≤ 9223372036854775807 := by
  unfold wrap64
  omega
/-- A number of Go's int. -/
def I64 (x : Int) : Prop := -9223372036854775808 ≤ x ∧ x ≤ 9223372036854775807
theorem i64_of {x : Int} (h : (Lit.int .i64 x).wf = true) : I64 x := by
  simp [Lit.wf, IntKind.min, IntKind.max, IntKind.bits, IntKind.signed] at h
  unfold I64
  omega

/-- A byte. -/
def U8 (x : Int) : Prop := 0 ≤ x ∧ x ≤ 255
theorem u8_of {x : Int} (h : (Lit.int .u8 x).wf = true) : U8 x := by
  simp [Lit.wf, IntKind.min, IntKind.max, IntKind.bits, IntKind.signed] at h
  unfold U8
  omega

/-- A slice within the reach (B: an element's bytes), all of whose elements are as WF says. -/
def wfS {α : Type} (B : Nat) (WF : α → Prop) (xs : List α) : Prop := xs.length ≤ maxLen ∧ xs.length * B ≤ 140737488351232 ∧ ∀ x ∈ xs, WF x

theorem shift {α : Type} {g : Nat → Option α} {r : α} (h : Ev (fun k => g (k + 1)) r) : Ev g r := Ev.step (fun _ => rfl) h
theorem pos {α : Type} {c : Prop} [Decidable c] {a b : Nat → Option α} {r : α} (hc : c) (h : Ev a r) : Ev (fun k => if c then a k else b k) r := by
  simpa only [if_pos hc] using h
theorem neg {α : Type} {c : Prop} [Decidable c] {a b : Nat → Option α} {r : α} (hc : ¬ c) (h : Ev b r) : Ev (fun k => if c then a k else b k) r := by
  simpa only [if_neg hc] using h
theorem now {α : Type} {r s : α} (h : r = s) : Ev (fun _ => some r) s := h ▸ Ev.now r
theorem known {α : Type} {x : Option α} {r : α} (h : x = some r) : Ev (fun _ => x) r := h ▸ Ev.now r
theorem bindc {α β : Type} {x : Option α} {f : Nat → α → Option β} {a : α} {r : β} (h : x = some a) (k : Ev (fun n => f n a) r) : Ev (fun n => x.bind (f n)) r := by
  subst h
  exact k
theorem same {α : Type} {g : Nat → Option α} {r s : α} (h : Ev g r) (e : r = s) : Ev g s := e ▸ h
theorem of_const {α : Type} {x : Option α} {r : α} (h : Ev (fun _ => x) r) : x = some r := by
  obtain ⟨k, hk⟩ := Ev.rounds h
  exact hk

/-- A loop whose round j leads from state j to state j + 1, and whose N-th state is its end. -/
theorem loop {α : Type} {g : Nat → Nat → Option α} {r : α} (N : Nat) (hs : ∀ j, j < N → Ev (fun k => g k (j + 1)) r → Ev (fun k => g k j) r) (he : Ev (fun k => g k N) r) : Ev (fun k => g k 0) r := by
  have : ∀ d j, j + d = N → Ev (fun k => g k j) r := by
    intro d
    induction d with
    | zero =>
      intro j hj
      have : j = N := by omega
      subst this
      exact he
    | succ d ih => exact fun j hj => hs j (by omega) (ih (j + 1) (by omega))
  exact this N 0 (by omega)
/-- The same from state i on. -/
theorem loop_from {α : Type} {g : Nat → Nat → Option α} {r : α} (i N : Nat) (hi : i ≤ N) (hs : ∀ j, i ≤ j → j < N → Ev (fun k => g k (j + 1)) r → Ev (fun k => g k j) r) (he : Ev (fun k => g k N) r) : Ev (fun k => g k i) r := by
  have : ∀ d j, i ≤ j → j + d = N → Ev (fun k => g k j) r := by
    intro d
    induction d with
    | zero =>
      intro j _ hj
      have : j = N := by omega
      subst this
      exact he
    | succ d ih => exact fun j h0 hj => hs j h0 (by omega) (ih (j + 1) (by omega) (by omega))
  exact this (N - i) i (Nat.le_refl _) (by omega)

theorem rd_nat (xs : List Int) (j : Nat) : rd xs (j : Int) = xs.getD j 0 := by simp [rd]
theorem rd_get (xs : List Int) (j : Nat) (h : j < xs.length) : rd xs (j : Int) = xs[j] := by simp [rd, h]
theorem nat_lt {a b : Nat} (h : a < b) : (a : Int) < (b : Int) := by omega
theorem nat_ge {a b : Nat} (h : b ≤ a) : ¬ (a : Int) < (b : Int) := by omega
theorem succ_wrap {j : Nat} (h : j < 9223372036854775807) : wrap64 ((j : Int) + 1) = ((j + 1 : Nat) : Int) := by
  rw [w64 (by omega) (by omega)]
  omega

/-- A loop that fills a row, one place a round. -/
theorem copied {α β : Type} {g : Nat → List β → Int → Option (List β)} (l : List α) (f : α → β) (z : β) (hs : ∀ (j : Nat) (hj : j < l.length) (y : List β) (r : List β), y.length = l.length → Ev (fun k => g k (y.set j (f l[j])) ((j + 1 : Nat) : Int)) r → Ev (fun k => g k y (j : Int)) r)
    (he : ∀ y, Ev (fun k => g k y (l.length : Int)) y) : Ev (fun k => g k (List.replicate l.length z) 0) (l.map f) := by
  refine loop (g := fun k j => g k ((l.map f).take j ++ List.replicate (l.length - j) z) (j : Int)) (r := l.map f) l.length ?_ ?_ |> (fun h => by simpa using h)
  · intro j hj h
    refine hs j hj _ _ (by simp; omega) ?_
    refine Eq.mp ?_ h
    congr 1
    funext k
    congr 1
    rw [List.set_append_right _ _ (by simp; omega)]
    have h1 : (l.map f).take (j + 1) = (l.map f).take j ++ [f l[j]] := by
      rw [List.take_succ_eq_append_getElem (by simpa using hj)]
      simp
    have h2 : l.length - j = (l.length - (j + 1)) + 1 := by omega
    have h3 : j - ((l.map f).take j).length = 0 := by simp; omega
    rw [h1, h3, h2, List.replicate_succ, List.set_cons_zero]
    simp
  · have h := he (l.map f)
    have e : (l.map f).take l.length = l.map f := List.take_of_length_le (by simp)
    simpa [e] using h

/-- A loop that looks at each place and answers no at the first that is not as it ought to be. -/
theorem all_loop {g : Nat → Nat → Option Bool} (N : Nat) (ok : Nat → Bool) (b : Bool) (hs : ∀ j r, j < N → ok j = true → Ev (fun k => g k (j + 1)) r → Ev (fun k => g k j) r)
    (hf : ∀ j, j < N → ok j = false → Ev (fun k => g k j) false) (he : Ev (fun k => g k N) b) : Ev (fun k => g k 0) ((List.range N).all ok && b) := by
  have : ∀ d j, j + d = N → Ev (fun k => g k j) ((List.range' j d).all ok && b) := by
    intro d
    induction d with
    | zero =>
      intro j hj
      have : j = N := by omega
      subst this
      simpa using he
    | succ d ih =>
      intro j hj
      rw [List.range'_succ, List.all_cons]
      cases h : ok j with
      | true => simpa using hs j _ (by omega) h (ih (j + 1) (by omega))
      | false => simpa using hf j (by omega) h
  have h := this N 0 (by omega)
  rwa [← List.range_eq_range'] at h
/-- The same where all places are as they ought to be, .. -/
theorem ok_loop {α : Type} {g : Nat → Nat → Option α} (N : Nat) (ok : Nat → Bool) {r : α} (h : (List.range N).all ok = true) (hs : ∀ j r, j < N → ok j = true → Ev (fun k => g k (j + 1)) r → Ev (fun k => g k j) r)
    (he : Ev (fun k => g k N) r) : Ev (fun k => g k 0) r :=
  loop N (fun j hj hn => hs j r hj (List.all_eq_true.1 h j (List.mem_range.2 hj)) hn) he
/-- .. and where one isn't: the first that isn't decides. -/
theorem bad_loop {α : Type} {g : Nat → Nat → Option α} (N : Nat) (ok : Nat → Bool) (r : α) (h : ¬ (List.range N).all ok = true) (hs : ∀ j r, j < N → ok j = true → Ev (fun k => g k (j + 1)) r → Ev (fun k => g k j) r)
    (hf : ∀ j, j < N → ok j = false → Ev (fun k => g k j) r) : Ev (fun k => g k 0) r := by
  have : ∀ d j, j + d = N → ¬ (List.range' j d).all ok = true → Ev (fun k => g k j) r := by
    intro d
    induction d with
    | zero => exact fun j _ hn => absurd rfl hn
    | succ d ih =>
      intro j hj hn
      rw [List.range'_succ, List.all_cons] at hn
      cases ho : ok j with
      | true => exact hs j _ (by omega) ho (ih (j + 1) (by omega) (by simpa [ho] using hn))
      | false => exact hf j (by omega) ho
  exact this N 0 (by omega) (by rwa [← List.range_eq_range'])
/-- n numbers from a on. -/
def iota (a : Int) (n : Nat) : List Int := (List.range n).map fun (i : Nat) => a + (i : Int)
theorem iota_length (a : Int) (n : Nat) : (iota a n).length = n := by simp [iota]
theorem iota_get (a : Int) (n j : Nat) (h : j < n) : rd (iota a n) (j : Int) = a + j := by simp [rd, iota, h]
theorem iota_set (a : Int) (l : List Int) (j : Nat) (h : j < l.length) : (iota a j ++ l.drop j).set j (a + j) = iota a (j + 1) ++ l.drop (j + 1) := by
  rw [List.set_append_right _ _ (by rw [iota_length]; exact Nat.le_refl _), iota_length, Nat.sub_self, List.drop_eq_getElem_cons h, List.set_cons_zero]
  have : iota a (j + 1) = iota a j ++ [a + j] := by simp [iota, List.range_succ]
  rw [this]
  simp
end Go.Proofs.Ythbebbhfgffdfaa.Aid
end

section
namespace Go.Proofs.Ythbebbhfgffdfaa.Opens
open Go.ChangeShapes Go.WideShapes Go.RowKit Go.Proofs.YthbebbhfgffdfaaW.PrintWords Go.Proofs.Ythbebbhfgffdfaa.Aid
set_option linter.unusedVariables false

/-- Whatever can be read as data of type t is of kind kd, and meets WF. -/
def Opens {α : Type} (P : Program) (t : TypeId) (kd : Kd α) (WF : α → Prop) : Prop :=
  P.cellsOf t = kd.sz ∧ ∀ (H : Type) (enc : TypeId × Value → H) (w : World) (base : Nat) (spare : Nat → Bool) (held : Bool) (fuel : Nat) (cs : List Value) (d : DataW H) (ps : List MemPlace),
    DataW.trod enc P w base spare held fuel t cs = some (d, ps) → (∀ n ∈ d.weights P t, n ≤ reachBytes) → ∃ x, kd.K w x cs ∧ WF x

theorem opens_int {P : Program} {t : TypeId} (ht : P.underlying t = some (.int .i64)) (hc : P.cellsOf t = 1) : Opens P t (Kd.int .i64) I64 := by
  refine ⟨hc, fun H enc w base spare held fuel cs d ps h _ => ?_⟩
  obtain ⟨n, rfl, _, hw⟩ := DataW.trod_int ht h
  exact ⟨n, rfl, i64_of hw⟩

/-- The same of bytes. -/
theorem opens_u8 {P : Program} {t : TypeId} (ht : P.underlying t = some (.int .u8)) (hc : P.cellsOf t = 1) : Opens P t (Kd.int .u8) U8 := by
  refine ⟨hc, fun H enc w base spare held fuel cs d ps h _ => ?_⟩
  obtain ⟨n, rfl, _, hw⟩ := DataW.trod_int ht h
  exact ⟨n, rfl, u8_of hw⟩

theorem opens_bool {P : Program} {t : TypeId} (ht : P.underlying t = some .bool) (hc : P.cellsOf t = 1) : Opens P t Kd.bool (fun _ => True) := by
  refine ⟨hc, fun H enc w base spare held fuel cs d ps h _ => ?_⟩
  obtain ⟨b, rfl, _⟩ := DataW.trod_bool ht h
  exact ⟨b, rfl, trivial⟩

theorem weights_elem {H : Type} {P : Program} {e : TypeId} {n : Nat} : ∀ {ds : List (DataW H)} {d : DataW H}, d ∈ ds → n ∈ d.weights P e → n ∈ DataW.weightsAll P e ds
  | [], _, h, _ => by simp at h
  | d0 :: r, d, h, hn => by
    rw [DataW.weightsAll]
    rcases List.mem_cons.1 h with rfl | h
    · exact List.mem_append_left _ hn
    · exact List.mem_append_right _ (weights_elem h hn)

theorem choose_list {α : Type} {n : Nat} {Q : Nat → α → Prop} (h : ∀ i, i < n → ∃ x, Q i x) : ∃ xs : List α, xs.length = n ∧ ∀ i x, xs[i]? = some x → Q i x := by
  induction n with
  | zero => exact ⟨[], rfl, fun i x hx => by simp at hx⟩
  | succ n ih =>
    obtain ⟨xs, hl, hx⟩ := ih (fun i hi => h i (by omega))
    obtain ⟨y, hy⟩ := h n (by omega)
    refine ⟨xs ++ [y], by simp [hl], fun i x hi => ?_⟩
    by_cases hlt : i < n
    · rw [List.getElem?_append_left (by omega)] at hi
      exact hx i x hi
    · have hl2 := (List.getElem?_eq_some_iff.1 hi).1
      simp at hl2
      have : i = n := by omega
      subst this
      rw [List.getElem?_append_right (by omega)] at hi
      simp [hl] at hi
      exact hi ▸ hy

theorem opens_slice {α : Type} {P : Program} {t e : TypeId} {kd : Kd α} {WF : α → Prop} (ht : P.underlying t = some (.slice e)) (hc : P.cellsOf t = 1) {B : Nat} (hB : P.bytesOf e = B) (he : Opens P e kd WF) :
    Opens P t (Kd.slice e kd) (wfS B WF) := by
  subst hB
  refine ⟨hc, fun H enc w base spare held fuel cs d ps h hw => ?_⟩
  rcases DataW.trod_slice ht h with ⟨rfl, _⟩ | ⟨a, len, cap, elems, rest, n, _, rfl, hx, hb, hl, hm, hlen, hel, _, _⟩
  · exact ⟨[], ⟨none, 0, rfl, Nat.le_refl _, ⟨rfl, by simp, fun h => absurd h (by simp)⟩⟩, by simp [maxLen], by simp, by simp⟩
  · simp only [Prod.mk.injEq] at hx
    obtain ⟨rfl, _⟩ := hx
    have each : ∀ i, i < len → ∃ x, (∃ c, c.length = kd.sz ∧ kd.K w x c ∧ ∀ j u, c[j]? = some u → w.cell? (a.add (i * kd.sz + j)) = some u) ∧ WF x := by
      intro i hi
      have h1 := hel i hi
      have h2 : i < elems.length := by omega
      rw [List.getElem?_eq_getElem h2] at h1
      obtain ⟨c, hc1, hc2⟩ := Option.bind_eq_some_iff.1 h1
      obtain ⟨_, hcl, hcc⟩ := World.cells?_some hc1
      obtain ⟨x, hx1, hx2⟩ := he.2 H enc w base spare held n c elems[i].1 elems[i].2 hc2 (fun m hm' => hw m (by
        rw [DataW.weights, ht]
        simp only [List.mem_cons, List.mem_append]
        exact .inr (.inl (weights_elem (List.mem_map.2 ⟨elems[i], List.getElem_mem h2, rfl⟩) hm'))))
      refine ⟨x, ⟨c, by rw [hcl, he.1], hx1, fun j u hj => ?_⟩, hx2⟩
      have hj2 := (List.getElem?_eq_some_iff.1 hj).1
      have := hcc j (by omega)
      rw [hj, he.1] at this
      rw [← this, Addr.add_add]
    obtain ⟨xs, hxl, hxs⟩ := choose_list each
    subst hxl
    refine ⟨xs, ⟨some a, cap, rfl, hl, ⟨rfl, by simp [maxLen] at hm; omega, fun _ => ⟨a, rfl, fun j p hj => ?_⟩⟩⟩, by omega, ?_, fun x hx => ?_⟩
    · exact (hxs j p hj).1
    · have := hw ((elems.length + rest.length) * P.bytesOf e) (by rw [DataW.weights, ht]; simp)
      exact Nat.le_trans (Nat.mul_le_mul_right _ (by omega)) this
    · obtain ⟨i, hi⟩ := List.getElem?_of_mem hx
      exact (hxs i x hi).2

/-- The same of a struct's fields from one on, which begins at cell off. -/
def OpensF {α : Type} (P : Program) (fs : List Field) (off : Nat) (kd : Kd α) (WF : α → Prop) : Prop :=
  ∀ (H : Type) (enc : TypeId × Value → H) (w : World) (base : Nat) (spare : Nat → Bool) (held : Bool) (fuel : Nat) (cs : List Value) (ys : List (DataW H × List MemPlace)),
    cs.length = off + kd.sz → ys.length = fs.length → (∀ (i : Nat) (f : Field), fs[i]? = some f → DataW.trod enc P w base spare held fuel f.type ((cs.drop f.offset).take (P.cellsOf f.type)) = ys[i]?) →
    (∀ n ∈ DataW.weightsEach P (fs.map (·.type)) (ys.map (·.1)), n ≤ reachBytes) → ∃ x, kd.K w x (cs.drop off) ∧ WF x

theorem opensF_last {α : Type} {P : Program} {f : Field} {off : Nat} {kd : Kd α} {WF : α → Prop} (ho : f.offset = off) (h : Opens P f.type kd WF) : OpensF P [f] off kd WF := by
  intro H enc w base spare held fuel cs ys hcs hys hf hw
  match ys, hys with
  | [y], _ =>
    have h1 := hf 0 f rfl
    rw [ho, h.1, List.take_of_length_le (by simp; omega)] at h1
    exact h.2 H enc w base spare held fuel _ y.1 y.2 h1 (fun n hn => hw n (by simp [DataW.weightsEach, hn]))

theorem opensF_cons {α β : Type} {P : Program} {f : Field} {fs : List Field} {off : Nat} {kd : Kd α} {kr : Kd β} {WF : α → Prop} {WR : β → Prop} (ho : f.offset = off) (h : Opens P f.type kd WF)
    (hr : OpensF P fs (off + kd.sz) kr WR) : OpensF P (f :: fs) off (Kd.pair kd kr) (fun x => WF x.1 ∧ WR x.2) := by
  intro H enc w base spare held fuel cs ys hcs hys hf hw
  match ys, hys with
  | y :: ys, hys =>
    have h1 := hf 0 f rfl
    rw [ho, h.1] at h1
    obtain ⟨x, hx1, hx2⟩ := h.2 H enc w base spare held fuel _ y.1 y.2 h1 (fun n hn => hw n (by simp [DataW.weightsEach, hn]))
    have hs : (Kd.pair kd kr).sz = kd.sz + kr.sz := rfl
    obtain ⟨z, hz1, hz2⟩ := hr H enc w base spare held fuel cs ys (by omega) (by simpa using hys) (fun i g hg => hf (i + 1) g hg) (fun n hn => hw n (by simp [DataW.weightsEach]; exact .inr (by simpa using hn)))
    refine ⟨(x, z), ⟨_, _, ?_, hx1, hz1⟩, hx2, hz2⟩
    rw [← List.drop_drop, List.take_append_drop]

theorem opens_struct {α β : Type} {P : Program} {t : TypeId} {fs : Array Field} {kd : Kd α} {WF : α → Prop} (f : β → α) (g : α → β) (hg : ∀ x, f (g x) = x) (ht : P.underlying t = some (.struct fs)) (hc : P.cellsOf t = kd.sz)
    (h : OpensF P fs.toList 0 kd WF) : Opens P t (Kd.iso kd f) (fun x => WF (f x)) := by
  refine ⟨hc, fun H enc w base spare held fuel cs d ps hd hw => ?_⟩
  obtain ⟨xs, n, _, hx, hl, hxl, hf⟩ := DataW.trod_struct ht hd
  simp only [Prod.mk.injEq] at hx
  obtain ⟨rfl, _⟩ := hx
  obtain ⟨y, hy1, hy2⟩ := h H enc w base spare held n cs xs (by omega) (by simpa using hxl) (fun i f' hf' => hf i f' (by simpa using hf')) (fun m hm => hw m (by rw [DataW.weights, ht]; simpa using hm))
  refine ⟨g y, ?_, ?_⟩
  · show kd.K w (f (g y)) cs
    rw [hg]
    simpa using hy1
  · show WF (f (g y))
    rw [hg]
    exact hy2

/-- An argument, opened. -/
theorem opens_arg {α : Type} {H : Type} {enc : TypeId × Value → H} {P : Program} {w : World} {base : Nat} {spare : Nat → Bool} {held : Bool} {t : TypeId} {v : Value} {kd : Kd α} {WF : α → Prop} {d : DataW H} {ps : List MemPlace} (h : Opens P t kd WF)
    {ts : List TypeId} {ds : List (DataW H)} {j : Nat} (hsz : (DataW.weightsEach P ts ds).all (· ≤ reachBytes) = true) (ht : ts[j]? = some t) (hd : ds[j]? = some d) (hv : DataW.Trod enc P w base spare held t v d ps) :
    ∃ x, kd.K w x v.cells.toList ∧ WF x := by
  obtain ⟨fuel, hf⟩ := hv
  refine h.2 H enc w base spare held fuel _ d ps hf (fun n hn => ?_)
  have := List.all_eq_true.1 hsz n (DataW.weights_mem_each ht hd n hn)
  simpa using this

/-- A slice argument: its address, its capacity, its row. -/
theorem opens_row {α : Type} {P : Program} {w : World} {t e : TypeId} {r : Reach} {b0 : Nat} {v : Value} {kd : Kd α} {x : List α} (ht : P.underlying t = some (.slice e)) (hval : Value.okWide P w r b0 t v) (h : (Kd.slice e kd).K w x v.cells.toList) :
    ∃ A c, v = .slice A x.length c ∧ x.length ≤ c ∧ Kd.C kd w A x.length x := by
  obtain ⟨a, len, cap, rfl⟩ := okWide_slice ht hval
  obtain ⟨A, c, hv, hl, hC⟩ := h
  simp [Value.cells] at hv
  obtain ⟨rfl, rfl, rfl⟩ := hv
  exact ⟨_, _, rfl, hl, hC⟩

/-- A struct argument by value: its cells. -/
theorem opens_agg {P : Program} {w : World} {t : TypeId} {fs : Array Field} {r : Reach} {b0 : Nat} {v : Value} {cs : List Value} (ht : P.underlying t = some (.struct fs)) (hval : Value.okWide P w r b0 t v) (h : v.cells.toList = cs) :
    v = .agg cs.toArray := by
  obtain ⟨c, rfl, _⟩ := okWide_struct ht hval
  simp [Value.cells] at h
  simp [← h]

end Go.Proofs.Ythbebbhfgffdfaa.Opens
end

section
namespace Go.Proofs.Ythbebbhfgffdfaa.PureFnExactPutSlot
open Go.RowKit Go.Proofs.YthbebbhfgffdfaaW.PrintWords Go.Proofs.YthbebbhfgffdfaaW.PrintLast Go.Proofs.YthbebbhfgffdfaaW.PrintMore Go.Proofs.Ythbebbhfgffdfaa.PPut Go.Proofs.Ythbebbhfgffdfaa.Aid
set_option linter.unusedVariables false
set_option linter.unusedSimpArgs false

/-- Every number of it is one of Go's int, every slice within the reach. -/
def wf24 (x : S24) : Prop := I64 x.f0 ∧ I64 x.f1

theorem laws_szSlotS_eq (l : List S24) (a : Int) (ha : 0 ≤ a) (ha2 : a ≤ 1048576) (hl : l.length ≤ 140737488355328) : ∃ r, laws_szSlotS.f l a = some r ∧ r ≤ a ∧ (¬ r < 0 → l.length ≤ 1048576) := by
  unfold laws_szSlotS.f
  rw [w64 (by omega) (by omega)]
  by_cases h : a - (l.length : Int) < 0
  · exact ⟨-1, by rw [if_pos h], by omega, by omega⟩
  · exact ⟨_, by rw [if_neg h], by omega, by omega⟩

theorem spec_l1In_eq (a b c : Int) : spec_l1In.f a b c = some (decide (b ≤ a ∧ a ≤ c)) := by
  unfold spec_l1In.f
  by_cases h : b ≤ a
  · rw [if_pos h]
    simp [h]
  · rw [if_neg h]
    simp [h]

/-- Slot j is in its ranges and behind slot j - 1. -/
def okSlot (l : List S30) (j : Nat) : Bool := decide (0 ≤ (rd_T30 l j).f0 ∧ (rd_T30 l j).f0 ≤ 1439 ∧ 1 ≤ (rd_T30 l j).f1 ∧ (rd_T30 l j).f1 ≤ 99 ∧ (0 < j → (rd_T30 l ((j : Int) - 1)).f0 < (rd_T30 l j).f0))
theorem okSlot_iff (l : List S30) (j : Nat) : okSlot l j = true ↔ (0 ≤ (rd_T30 l j).f0 ∧ (rd_T30 l j).f0 ≤ 1439 ∧ 1 ≤ (rd_T30 l j).f1 ∧ (rd_T30 l j).f1 ≤ 99 ∧ (0 < j → (rd_T30 l ((j : Int) - 1)).f0 < (rd_T30 l j).f0)) := by unfold okSlot; exact decide_eq_true_iff
def slotsOk (l : List S30) : Bool := (List.range l.length).all (okSlot l) && decide (1 ≤ l.length ∧ l.length ≤ 24)
theorem slotsOk_len24 (l : List S30) (h : slotsOk l = true) : 1 ≤ l.length ∧ l.length ≤ 24 := by
  unfold slotsOk at h
  rw [Bool.and_eq_true, decide_eq_true_iff] at h
  exact h.2
theorem spec_AreSlots_ev (l : List S30) (hl : l.length ≤ 9223372036854775806) : Ev (fun k => spec_AreSlots.f k l) (slotsOk l) := by
  unfold spec_AreSlots.f
  refine all_loop (g := fun k j => spec_AreSlots.l0 k l (j : Int)) l.length (okSlot l) _ ?_ ?_ ?_
  · intro j r hj ok h
    rw [okSlot_iff] at ok
    refine shift ?_
    simp only [spec_AreSlots.l0]
    refine pos (nat_lt hj) (pos (by omega) (bindc (spec_l1In_eq _ _ _) (pos (by simp; omega) (bindc (spec_l1In_eq _ _ _) (pos (by simp; omega) ?_)))))
    rw [succ_wrap (by omega)]
    by_cases h0 : (j : Int) > 0
    · rw [w64 (by omega) (by omega)]
      exact pos h0 (pos (by omega) (pos (by omega) (neg (by have := ok.2.2.2.2 (by omega); omega) h)))
    · exact neg h0 h
  · intro j hj ok
    have ok : ¬ okSlot l j = true := by simp [ok]
    rw [okSlot_iff] at ok
    refine shift ?_
    simp only [spec_AreSlots.l0]
    refine pos (nat_lt hj) (pos (by omega) (bindc (spec_l1In_eq _ _ _) ?_))
    by_cases h1 : 0 ≤ (rd_T30 l j).f0 ∧ (rd_T30 l j).f0 ≤ 1439
    · refine pos (by simp [h1]) (bindc (spec_l1In_eq _ _ _) ?_)
      by_cases h2 : 1 ≤ (rd_T30 l j).f1 ∧ (rd_T30 l j).f1 ≤ 99
      · refine pos (by simp [h2]) ?_
        rw [w64 (x := (j : Int) - 1) (by omega) (by omega)]
        exact pos (by omega) (pos (by omega) (pos (by omega) (pos (by omega) (now rfl))))
      · exact neg (by simpa using h2) (now rfl)
    · exact neg (by simpa using h1) (now rfl)
  · refine shift ?_
    simp only [spec_AreSlots.l0]
    refine neg (nat_ge (Nat.le_refl _)) (bindc (spec_l1In_eq _ _ _) (now ?_))
    exact decide_eq_decide.2 (by omega)

def putAt (l : List S30) (m : Int) : Nat → Nat → Nat
  | 0, j => j
  | d + 1, j => if j < l.length ∧ (rd_T30 l (j : Int)).f0 < m then putAt l m d (j + 1) else j
theorem putAt_range (l : List S30) (m : Int) : ∀ d j, j ≤ l.length → putAt l m d j ≤ l.length
  | 0, _, h => h
  | d + 1, j, h => by
    simp only [putAt]
    split
    · rename_i c
      exact putAt_range l m d (j + 1) (by omega)
    · exact h
def slotHit (l : List S30) (m : Int) (j : Nat) : Prop := j < l.length ∧ (rd_T30 l (j : Int)).f0 = m
instance (l : List S30) (m : Int) (j : Nat) : Decidable (slotHit l m j) := by unfold slotHit; infer_instance
def putOut (l : List S30) (x : S30) (j : Nat) : List S30 := l.take j ++ [x] ++ (if slotHit l x.f0 j then l.drop (j + 1) else l.drop j)
theorem putOut_length (l : List S30) (x : S30) (j : Nat) (h : j ≤ l.length) : (putOut l x j).length ≤ l.length + 1 := by
  unfold putOut
  split <;> simp <;> omega
def putTo (l : List S30) (x : S30) (j : Nat) : List S30 × Bool := if slotsOk (putOut l x j) = true then (putOut l x j, true) else (l, false)
def putS (l : List S30) (x : S30) : List S30 × Bool := putTo l x (putAt l x.f0 l.length 0)
theorem putS_length (l : List S30) (x : S30) : (putS l x).1.length ≤ l.length + 1 := by
  unfold putS putTo
  split
  · exact putOut_length _ _ _ (putAt_range _ _ _ _ (Nat.zero_le _))
  · exact Nat.le_succ _
theorem spec_PutSlot_ev (l : List S30) (x : S30) (hl : l.length ≤ 1048576) : Ev (fun k => spec_PutSlot.f k l x.f0 x.f1) (putS l x) := by
  unfold spec_PutSlot.f putS
  have last : ∀ j : Nat, j ≤ l.length → Ev (fun k => spec_PutSlot.j1 k l (j : Int) x.f0 x.f1) (putTo l x j) := by
    intro j hj
    have hlen := putOut_length l x j hj
    have two : ∀ b, b = decide (slotHit l x.f0 j) → Ev (fun k => spec_PutSlot.j2 k l (j : Int) (l.drop j) b x.f0 x.f1) (putTo l x j) := by
      intro b hb
      by_cases hh : slotHit l x.f0 j
      · have hj2 : j < l.length := hh.1
        have ho : putOut l x j = l.take j ++ [x] ++ (l.drop j).drop 1 := by rw [putOut, if_pos hh, List.drop_drop]
        rw [hb, decide_eq_true hh]
        refine shift ?_
        simp only [spec_PutSlot.j2, Int.toNat_natCast]
        refine pos trivial (pos (by simp; omega) (bindc rfl (bindc rfl (pos (by omega) (pos (by omega) (bindc rfl (pos (by simp; omega) (bindc rfl (bindc rfl (pos (by simp; omega) (bindc rfl (pos (by simp; omega) (bindc rfl ?_)))))))))))))
        unfold putTo
        rw [ho]
        rw [ho] at hlen
        refine Ev.bind (spec_AreSlots_ev (l.take j ++ [x] ++ (l.drop j).drop 1) (by omega)) ?_
        by_cases g : slotsOk (l.take j ++ [x] ++ (l.drop j).drop 1) = true
        · simp only [if_pos g]
          exact now rfl
        · simp only [if_neg g]
          exact (bindc rfl (pos (by simp; omega) (now rfl)))
      · have ho : putOut l x j = l.take j ++ [x] ++ l.drop j := by rw [putOut, if_neg hh]
        rw [hb, decide_eq_false hh]
        refine shift ?_
        simp only [spec_PutSlot.j2, Int.toNat_natCast]
        refine neg (by decide) (bindc rfl (pos (by omega) (pos (by omega) (bindc rfl (pos (by simp; omega) (bindc rfl (bindc rfl (pos (by simp; omega) (bindc rfl (pos (by simp; omega) (bindc rfl ?_)))))))))))
        unfold putTo
        rw [ho]
        rw [ho] at hlen
        refine Ev.bind (spec_AreSlots_ev (l.take j ++ [x] ++ l.drop j) (by omega)) ?_
        by_cases g : slotsOk (l.take j ++ [x] ++ l.drop j) = true
        · simp only [if_pos g]
          exact now rfl
        · simp only [if_neg g]
          exact (bindc rfl (pos (by simp; omega) (now rfl)))
    refine shift ?_
    simp only [spec_PutSlot.j1, Int.toNat_natCast]
    refine pos (by omega) (pos (by omega) (bindc rfl ?_))
    by_cases c : j < l.length
    · refine pos (by simp; omega) (pos (by simp; omega) (two _ ?_))
      have e : rd_T30 (l.drop j) 0 = rd_T30 l (j : Int) := by simp [rd_T30]
      rw [e]
      by_cases q : (rd_T30 l (j : Int)).f0 = x.f0
      · rw [decide_eq_true (show slotHit l x.f0 j from ⟨c, q⟩)]
        exact beq_iff_eq.2 q
      · rw [decide_eq_false (show ¬ slotHit l x.f0 j from fun g => q g.2)]
        exact beq_eq_false_iff_ne.2 q
    · exact neg (by simp; omega) (two _ (by rw [decide_eq_false (show ¬ slotHit l x.f0 j from fun g => c g.1)]))
  have main : ∀ d (j : Nat), l.length ≤ j + d → j ≤ l.length → Ev (fun k => spec_PutSlot.l0 k l (j : Int) x.f0 x.f1) (putTo l x (putAt l x.f0 d j)) := by
    intro d
    induction d with
    | zero =>
      intro j hd hj
      refine shift ?_
      simp only [spec_PutSlot.l0, putAt]
      exact neg (by omega) (last j hj)
    | succ d ih =>
      intro j hd hj
      refine shift ?_
      simp only [spec_PutSlot.l0, putAt]
      by_cases c1 : j < l.length
      · refine pos (by omega) (pos (by omega) ?_)
        by_cases c2 : (rd_T30 l (j : Int)).f0 < x.f0
        · rw [if_pos ⟨c1, c2⟩]
          refine pos c2 ?_
          rw [succ_wrap (by omega)]
          exact ih (j + 1) (by omega) (by omega)
        · rw [if_neg (fun g => c2 g.2)]
          exact neg c2 (last j hj)
      · rw [if_neg (fun g => c1 g.1)]
        exact neg (by omega) (last j hj)
  exact main l.length 0 (by omega) (Nat.zero_le _)

def cSlot (x : S24) : S30 := ⟨x.f0, x.f1⟩
theorem laws_toSlotS_ev (l : List S24) (hl : l.length ≤ 1048576) : Ev (fun k => laws_toSlotS.f k l) (l.map cSlot) := by
  unfold laws_toSlotS.f
  refine pos (by omega) (pos (by omega) ?_)
  exact copied (g := fun k y i => laws_toSlotS.l0 k l y i) l cSlot z30 (fun j hj y r hy h => by
    refine shift ?_
    simp only [laws_toSlotS.l0]
    refine pos (nat_lt hj) (pos (by omega) (bindc rfl (pos (by omega) ?_)))
    rw [succ_wrap (by omega)]
    simpa [rd_T24, cSlot, hj] using h) (fun y => by
    refine shift ?_
    simp only [laws_toSlotS.l0]
    exact neg (nat_ge (Nat.le_refl _)) (now rfl))

theorem impl_InRange_eq (a b c : Int) : impl_InRange.f a b c = some (decide (b ≤ a ∧ a ≤ c)) := by
  unfold impl_InRange.f
  by_cases h : b ≤ a
  · rw [if_pos h]
    simp [h]
  · rw [if_neg h]
    simp [h]

theorem impl_AreSlots_ev (l : List S30) (hl : l.length ≤ 9223372036854775806) : Ev (fun k => impl_AreSlots.f k l) (slotsOk l) := by
  unfold impl_AreSlots.f slotsOk
  refine bindc (impl_InRange_eq _ _ _) ?_
  by_cases hr : 1 ≤ l.length ∧ l.length ≤ 24
  · rw [decide_eq_true hr]
    refine pos (by simp; omega) (all_loop (g := fun k j => impl_AreSlots.l0 k l l (l.length : Int) (j : Int)) l.length (okSlot l) _ ?_ ?_ ?_)
    · intro j r hj ok h
      rw [okSlot_iff] at ok
      refine shift ?_
      simp only [impl_AreSlots.l0]
      refine pos (nat_lt hj) (pos (by omega) (pos (nat_lt hj) (bindc (impl_InRange_eq _ _ _) (pos (by simp; omega) (bindc (impl_InRange_eq _ _ _) (pos (by simp; omega) ?_))))))
      rw [succ_wrap (by omega)]
      by_cases h0 : (j : Int) > 0
      · rw [w64 (by omega) (by omega)]
        exact pos h0 (pos (by omega) (pos (by omega) (neg (by have := ok.2.2.2.2 (by omega); omega) h)))
      · exact neg h0 h
    · intro j hj ok
      have ok : ¬ okSlot l j = true := by simp [ok]
      rw [okSlot_iff] at ok
      refine shift ?_
      simp only [impl_AreSlots.l0]
      refine pos (nat_lt hj) (pos (by omega) (pos (nat_lt hj) (bindc (impl_InRange_eq _ _ _) ?_)))
      by_cases h1 : 0 ≤ (rd_T30 l j).f0 ∧ (rd_T30 l j).f0 ≤ 1439
      · refine pos (by simp [h1]) (bindc (impl_InRange_eq _ _ _) ?_)
        by_cases h2 : 1 ≤ (rd_T30 l j).f1 ∧ (rd_T30 l j).f1 ≤ 99
        · refine pos (by simp [h2]) ?_
          rw [w64 (x := (j : Int) - 1) (by omega) (by omega)]
          exact pos (by omega) (pos (by omega) (pos (by omega) (pos (by omega) (now rfl))))
        · exact neg (by simpa using h2) (now rfl)
      · exact neg (by simpa using h1) (now rfl)
    · refine shift ?_
      simp only [impl_AreSlots.l0]
      exact neg (nat_ge (Nat.le_refl _)) (now rfl)
  · rw [decide_eq_false hr, Bool.and_false]
    exact neg (by simp; omega) (now rfl)

theorem impl_PutSlot_clone (l : List S30) (hl : l.length ≤ 1048576) : impl_Slot_31.f l = some l := by
  unfold impl_Slot_31.f
  rw [Option.bind_some, if_pos (by simp; omega)]
  simp
theorem impl_PutSlot_ev (l : List S30) (x : S30) (hl : l.length ≤ 1048576) : Ev (fun k => impl_PutSlot.f k l x.f0 x.f1) (putS l x) := by
  unfold impl_PutSlot.f putS
  refine bindc (impl_PutSlot_clone l hl) ?_
  have last : ∀ j : Nat, j ≤ l.length → Ev (fun k => impl_PutSlot.j1 k l l (j : Int) x.f0 x.f1) (putTo l x j) := by
    intro j hj
    have hlen := putOut_length l x j hj
    have fin : ∀ o, o = putOut l x j → Ev (fun k => impl_PutSlot.j3 k l o) (putTo l x j) := by
      intro o ho
      subst ho
      refine shift ?_
      simp only [impl_PutSlot.j3]
      refine Ev.bind (impl_AreSlots_ev _ (by omega)) ?_
      unfold putTo
      by_cases g : slotsOk (putOut l x j) = true
      · simp only [if_pos g]
        exact now rfl
      · simp only [if_neg g]
        exact bindc (impl_PutSlot_clone l hl) (now rfl)
    have two : ∀ b, b = decide (slotHit l x.f0 j) → Ev (fun k => impl_PutSlot.j2 k l l (j : Int) b x.f0 x.f1) (putTo l x j) := by
      intro b hb
      by_cases hh : slotHit l x.f0 j
      · have hj2 : j < l.length := hh.1
        rw [hb, decide_eq_true hh]
        refine shift ?_
        simp only [impl_PutSlot.j2, Int.toNat_natCast]
        refine pos trivial (pos (by omega) (pos (by omega) (fin _ ?_)))
        rw [putOut, if_pos hh, List.set_eq_take_append_cons_drop, if_pos hj2]
        simp
      · rw [hb, decide_eq_false hh]
        refine shift ?_
        simp only [impl_PutSlot.j2]
        refine neg (by decide) (pos (by omega) (pos (by omega) (pos (by omega) (fin _ ?_))))
        rw [putOut, if_neg hh]
        simp [insAt]
    refine shift ?_
    simp only [impl_PutSlot.j1]
    by_cases c : j < l.length
    · refine pos (by omega) (pos (by omega) (two _ ?_))
      by_cases q : (rd_T30 l (j : Int)).f0 = x.f0
      · rw [decide_eq_true (show slotHit l x.f0 j from ⟨c, q⟩)]
        exact beq_iff_eq.2 q
      · rw [decide_eq_false (show ¬ slotHit l x.f0 j from fun g => q g.2)]
        exact beq_eq_false_iff_ne.2 q
    · exact neg (by omega) (two _ (by rw [decide_eq_false (show ¬ slotHit l x.f0 j from fun g => c g.1)]))
  have main : ∀ d (j : Nat), l.length ≤ j + d → j ≤ l.length → Ev (fun k => impl_PutSlot.l0 k l l (j : Int) x.f0 x.f1) (putTo l x (putAt l x.f0 d j)) := by
    intro d
    induction d with
    | zero =>
      intro j hd hj
      refine shift ?_
      simp only [impl_PutSlot.l0, putAt]
      exact neg (by omega) (last j hj)
    | succ d ih =>
      intro j hd hj
      refine shift ?_
      simp only [impl_PutSlot.l0, putAt]
      by_cases c1 : j < l.length
      · refine pos (by omega) (pos (by omega) ?_)
        by_cases c2 : (rd_T30 l (j : Int)).f0 < x.f0
        · rw [if_pos ⟨c1, c2⟩]
          refine pos c2 ?_
          rw [succ_wrap (by omega)]
          exact ih (j + 1) (by omega) (by omega)
        · rw [if_neg (fun g => c2 g.2)]
          exact neg c2 (last j hj)
      · rw [if_neg (fun g => c1 g.1)]
        exact neg (by omega) (last j hj)
  exact main l.length 0 (by omega) (Nat.zero_le _)

theorem laws_eqSlotS_refl (l : List S30) (hl : l.length < 9223372036854775807) : Ev (fun k => laws_eqSlotS.f k l l) true := by
  unfold laws_eqSlotS.f
  refine pos rfl (loop (g := fun k j => laws_eqSlotS.l0 k l l (j : Int)) l.length ?_ ?_)
  · intro j hj h
    refine shift ?_
    simp only [laws_eqSlotS.l0]
    refine pos (nat_lt hj) (pos (by omega) (pos (nat_lt hj) (bindc (a := true) (by simp [laws_eqSlot.f]) (pos (by simp) ?_))))
    rw [succ_wrap (by omega)]
    exact h
  · refine shift ?_
    simp only [laws_eqSlotS.l0]
    exact neg (nat_ge (Nat.le_refl _)) (now rfl)

theorem setC {α : Type} (A B : List α) (x v : α) (j : Nat) (hj : A.length = j) : (A ++ x :: B).set j v = A ++ v :: B := by
  rw [List.set_append_right _ _ (by omega), hj, Nat.sub_self, List.set_cons_zero]
theorem getC {α : Type} (A B : List α) (x d : α) (j : Nat) (hj : A.length = j) : (A ++ x :: B).getD j d = x := by
  rw [List.getD_eq_getElem?_getD, List.getElem?_append_right (by omega), hj, Nat.sub_self]
  rfl

def markSl (a : Int) : S30 := ⟨a, a + 1⟩
def marksSl (a : Int) (n : Nat) : List S30 := (List.range n).map fun (i : Nat) => markSl (a + 2 * (i : Int))
theorem marksSl_length (a : Int) (n : Nat) : (marksSl a n).length = n := by simp [marksSl]
theorem marksSl_succ (a : Int) (n : Nat) : marksSl a (n + 1) = marksSl a n ++ [markSl (a + 2 * (n : Int))] := by simp [marksSl, List.range_succ]
theorem laws_markSlotS_ev (l : List S30) (a : Int) (ha : 0 ≤ a) (ha2 : a ≤ 1000000000000) (hl : l.length ≤ 1000000000000) : Ev (fun k => laws_markSlotS.f k l a) (a + 2 * l.length, marksSl a l.length) := by
  unfold laws_markSlotS.f
  refine loop (g := fun k j => laws_markSlotS.l0 k (marksSl a j ++ l.drop j) (a + 2 * (j : Int)) (j : Int)) l.length ?_ ?_ |> (fun h => by simpa [show marksSl a 0 = [] from rfl] using h)
  · intro j hj h
    refine shift ?_
    have e1 : wrap64 (a + 2 * (j : Int) + 1) = a + 2 * (j : Int) + 1 := w64 (by omega) (by omega)
    have e4 : wrap64 (a + 2 * (j : Int) + 1 + 1) = a + 2 * ((j + 1 : Nat) : Int) := by rw [w64 (by omega) (by omega)]; omega
    simp only [laws_markSlotS.l0, Option.bind_some]
    rw [List.drop_eq_getElem_cons hj]
    simp only [rd_T30, Int.toNat_natCast, setC _ _ _ _ _ (marksSl_length a j), getC _ _ _ _ _ (marksSl_length a j), e1, e4]
    refine pos (by simp [marksSl_length]; omega) (pos (by omega) ?_)
    rw [succ_wrap (by omega)]
    rw [marksSl_succ, List.append_assoc] at h
    exact h
  · refine shift ?_
    simp only [laws_markSlotS.l0]
    exact neg (by simp [marksSl_length]) (now (by simp))

theorem marksSl_get (a : Int) (n j : Nat) (h : j < n) : rd_T30 (marksSl a n) (j : Int) = markSl (a + 2 * (j : Int)) := by simp [rd_T30, marksSl, h]
theorem laws_heldSlotS_ev (a : Int) (n : Nat) (ha : 0 ≤ a) (ha2 : a ≤ 1000000000000) (hn : n ≤ 1000000000000) : Ev (fun k => laws_heldSlotS.f k (marksSl a n) a) (a + 2 * n) := by
  unfold laws_heldSlotS.f
  refine loop (g := fun k j => laws_heldSlotS.l0 k (marksSl a n) (a + 2 * (j : Int)) (j : Int)) n ?_ ?_ |> (fun h => by simpa using h)
  · intro j hj h
    refine shift ?_
    have e1 : wrap64 (a + 2 * (j : Int) + 1) = a + 2 * (j : Int) + 1 := w64 (by omega) (by omega)
    have e4 : wrap64 (a + 2 * (j : Int) + 1 + 1) = a + 2 * ((j + 1 : Nat) : Int) := by rw [w64 (by omega) (by omega)]; omega
    simp only [laws_heldSlotS.l0, marksSl_get a n j hj, e1, e4, markSl]
    refine pos (by rw [marksSl_length]; omega) (pos (by omega) (pos trivial (pos trivial ?_)))
    rw [succ_wrap (by omega)]
    exact h
  · refine shift ?_
    simp only [laws_heldSlotS.l0]
    exact neg (by rw [marksSl_length]; omega) (now rfl)

theorem FnExactPutSlot (l : List S24) (hw : wfS 16 wf24 l) (x : S24) (hx : wf24 x) : ∃ k, laws_FnExactPutSlot.f k l x.f0 x.f1 = some true := by
  refine Ev.rounds ?_
  have hm := hw.2.1
  unfold laws_FnExactPutSlot.f
  obtain ⟨r, hr, _, hl⟩ := laws_szSlotS_eq l 1048576 (by omega) (by omega) (by omega)
  refine bindc hr ?_
  by_cases h : r < 0
  · exact pos h (now rfl)
  have hl := hl h
  have hc : (l.map cSlot).length ≤ 1048576 := by simpa using hl
  have tl := laws_toSlotS_ev l hl
  have tx : laws_toSlot.f x.f0 x.f1 = some ((cSlot x).f0, (cSlot x).f1) := rfl
  have sp := spec_PutSlot_ev (l.map cSlot) (cSlot x) hc
  have im := impl_PutSlot_ev (l.map cSlot) (cSlot x) hc
  have hlen := putS_length (l.map cSlot) (cSlot x)
  generalize putS (l.map cSlot) (cSlot x) = R at *
  have m1 := laws_markSlotS_ev (l.map cSlot) 1 (by omega) (by omega) (by omega)
  have m4 := laws_markSlotS_ev R.1 1 (by omega) (by omega) (by omega)
  have e4 := laws_heldSlotS_ev 1 R.1.length (by omega) (by omega) (by omega)
  have hb : (R.2 != R.2) = false := by cases R.2 <;> rfl
  refine neg h (Ev.bind tl (bindc tx (Ev.bind sp (Ev.bind tl (bindc tx (Ev.bind im (Ev.bind (laws_eqSlotS_refl _ (by omega)) (pos rfl ?_))))))))
  rw [hb]
  refine shift ?_
  simp only [laws_FnExactPutSlot.j0]
  refine neg (by simp) (Ev.bind tl (Ev.bind (laws_eqSlotS_refl _ (by omega)) (pos rfl (Ev.bind m1 (neg (by simp; omega) (Ev.bind (laws_eqSlotS_refl _ (by omega)) (pos rfl ?_)))))))
  rw [hb]
  refine shift ?_
  simp only [laws_FnExactPutSlot.j1]
  refine neg (by simp) (Ev.bind m4 (Ev.bind e4 (neg (by omega) (pos rfl (Ev.bind tl (bindc tx (Ev.bind im (Ev.bind (laws_eqSlotS_refl _ (by omega)) (pos rfl ?_)))))))))
  rw [hb]
  refine shift ?_
  simp only [laws_FnExactPutSlot.j2]
  exact neg (by simp) (Ev.bind e4 (neg (by omega) (pos rfl (now rfl))))

end Go.Proofs.Ythbebbhfgffdfaa.PureFnExactPutSlot
end

section
namespace Go.Proofs.Ythbebbhfgffdfaa.fnExactPutSlot
open Go.ChangeShapes Go.WideShapes Go.ChangeAt Go.RowKit
open Go.Proofs.YthbebbhfgffdfaaW.PrintWords Go.Proofs.Ythbebbhfgffdfaa.PPut Go.Proofs.Ythbebbhfgffdfaa.Opens Go.Proofs.Ythbebbhfgffdfaa.Aid Go.Proofs.Ythbebbhfgffdfaa.PureFnExactPutSlot
set_option linter.unusedVariables false
theorem own : ownKnob Try.prog.godebug = none := by kernel_rfl
theorem laidOut : laidOutB Try.prog = true := by kernel_rfl
theorem o24 : Opens Try.prog 24 k24 wf24 := opens_struct (fun x : S24 => (x.f0, x.f1)) (fun p => (⟨p.1, p.2⟩ : S24)) (fun _ => rfl) Try.underlying24 (by kernel_rfl) (opensF_cons rfl (opens_int Try.underlying3 (by kernel_rfl)) (opensF_last rfl (opens_int Try.underlying3 (by kernel_rfl))))
theorem arg0 : Opens Try.prog 22 (Kd.slice 24 k24) (wfS 16 wf24) := (opens_slice Try.underlying22 (by kernel_rfl) (B := 16) (by kernel_rfl) o24)
theorem arg1 : Opens Try.prog 24 k24 wf24 := o24
set_option maxRecDepth 100000 in
theorem lifted (os : Os) (started : os.Started) (H : Type) (enc : TypeId × Value → H) :
    ReturnsInHanded {} Try.checked os 3 .any (Rows.fnExactPutSlotSpec.pre6 enc Try.prog Try.f3 Rows.fnExactPutSlotRow.domain false) (Rows.fnExactPutSlotSpec.post enc Try.prog Try.f3 false true false false) := by
  refine returnsInHanded_of_change_sized (C := Try.checked) own started (by kernel_rfl) Try.func3
    (ChangeSpec.witness6 (enc := enc) (C := Try.checked) false ⟨#[], #[.slice none 0 0, .agg #[.int .i64 0, .int .i64 0]], []⟩ 8 (by kernel_rfl) (by kernel_rfl) (by kernel_rfl) (by kernel_rfl)) ?_
  intro W base args ds gs before hval0 hW hcnd hsz0 _
  have hsz : (DataW.weightsEach Try.prog (Try.f3.params.toList ++ Rows.fnExactPutSlotSpec.plain.varTypes Try.prog) (ds ++ gs)).all (· ≤ reachBytes) = true := hsz0
  have hval : ∀ (j : Nat) t v, Try.f3.params[j]? = some t → args[j]? = some v → Value.okWide Try.prog W .any base t v := hval0
  have hW' := hW
  obtain ⟨p, q, hA0, hV, rfl, hfz, hnd⟩ := hW
  have hA : DataW.TrodAll enc Try.prog W 0 (fun _ => true) true Try.f3.params.toList args.toList ds p := hA0
  rw [Try.params3] at hA hval hsz
  obtain ⟨v0, vs0, d0, ds0, p0, q0, hargs, rfl, rfl, h0, r0⟩ := trodAll_cons hA
  obtain ⟨v1, vs1, d1, ds1, p1, q1, rfl, rfl, rfl, h1, r1⟩ := trodAll_cons r0
  obtain ⟨rfl, rfl, rfl⟩ := trodAll_nil r1
  obtain rfl : args = #[v0, v1] := by cases args; simp_all
  obtain ⟨rfl, rfl⟩ := trodVars_none hV
  have k0 := h0
  have lt0 : ∀ x ∈ p0, x.block < W.heap.size := by obtain ⟨m, hm⟩ := k0; exact DataW.trod_lt m _ _ _ hm
  obtain ⟨x0, hK0, hW0⟩ := opens_arg arg0 hsz (j := 0) rfl rfl h0
  obtain ⟨A0, c0, rfl, hc0, hC0⟩ := opens_row Try.underlying22 (hval 0 22 v0 rfl rfl) hK0
  have k1 := h1
  have lt1 : ∀ x ∈ p1, x.block < W.heap.size := by obtain ⟨m, hm⟩ := k1; exact DataW.trod_lt m _ _ _ hm
  obtain ⟨x1, hK1, hW1⟩ := opens_arg arg1 hsz (j := 1) rfl rfl h1
  have e1 := k24_open hK1
  obtain rfl := opens_agg Try.underlying24 (hval 1 24 v1 rfl rfl) e1
  clear hA0 hval0 hsz0 hsz
  obtain ⟨k, hk⟩ := Go.Proofs.Ythbebbhfgffdfaa.PureFnExactPutSlot.FnExactPutSlot x0 hW0 x1 hW1
  refine (laws_FnExactPutSlot.calls k _ _ x0 x1.f0 x1.f1 true W hC0 hc0 hk).mono fun e W' ⟨he, bel0⟩ => ?_
  have bel : Below W.heap.size W W' := by first | exact bel0 | exact bel0.below
  subst he
  exact ⟨_, rfl, _, _, _, [], _, [], hW', trodAll_mk1 (shut_bool Try.underlying4 _), (trodAll_cons_mk (Below.trod laidOut (by kernel_rfl) (of_decide_eq_true (by kernel_rfl)) k0 bel lt0) (trodAll_cons_mk (Below.trod laidOut (by kernel_rfl) (of_decide_eq_true (by kernel_rfl)) k1 bel lt1) trodAll_mk0)), rfl, bel.frame _, fun h => by cases h⟩
theorem over : Rows.fnExactPutSlotRow.holds Try.pinned (OpenSpec.ofChange Rows.fnExactPutSlotSpec) :=
  OpenClaim.holds_of_wide 3 Try.f3 rfl rfl rfl rfl rfl rfl rfl ⟨rfl, rfl, rfl, rfl, rfl⟩ rfl rfl rfl rfl rfl (by kernel_rfl) Try.func3 (by kernel_rfl)
    (of_decide_eq_true (by kernel_rfl)) (by unfold Func.isWrapper; first | (rw [if_pos (by decide +kernel)]; kernel_rfl) | (rw [if_neg (by decide +kernel)]; exact ⟨rfl, rfl⟩))
    (fun os started H enc _ => lifted os started H enc)
theorem proved : Rows.FnExactPutSlotSaid := over
#print axioms proved
end Go.Proofs.Ythbebbhfgffdfaa.fnExactPutSlot
namespace Go.Proofs.Ythbebbhfgffdfaa
/-- The row, under a short name, for the claim. -/
theorem fnExactPutSlot_holds : Rows.FnExactPutSlotSaid := fnExactPutSlot.proved
end Go.Proofs.Ythbebbhfgffdfaa
end
