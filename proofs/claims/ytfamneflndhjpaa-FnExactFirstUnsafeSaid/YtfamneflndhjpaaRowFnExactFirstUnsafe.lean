/- The statement FnExactFirstUnsafe, whole: for every input the law returns true and leaves its arguments as they were; no condition. Out of the contract of the law's walk and the pure theorem. -/
import Derived.Test.YtfamneflndhjpaaBFnExactFirstUnsafe0
import Derived.Test.YtfamneflndhjpaaBFnExactFirstUnsafe1
import Derived.Test.YtfamneflndhjpaaBFnExactFirstUnsafe2
import Derived.Test.YtfamneflndhjpaaWWords
import Derived.Test.YtfamneflndhjpaaWMore
import Derived.SizedLaws
import Derived.ChangeSlices
import Derived.ChangeArms
import Derived.WideShapes
import Derived.Below
import Derived.Test.YtfamneflndhjpaaRows
import Derived.WalkKit
import Derived.ProofKit
import Derived.OpenShut
import Derived.ShutString
import Derived.ChangeOld
section
namespace Go.Proofs.Ytfamneflndhjpaa.Aid
open Go.RowKit Go.Proofs.YtfamneflndhjpaaW.PrintWords Go.Proofs.YtfamneflndhjpaaW.PrintMore
set_option linter.unusedVariables false

theorem w64 {x : Int} (h0 : -9223372036854775808 ≤ x) (h1 : x ≤ 9223372036854775807) : wrap64 x = x := by
  unfold wrap64
  omega
theorem w64_range (x : Int) : -9223372036854775808 ≤ wrap64 x ∧ wrap64 x ≤ 9223372036854775807 := by
  unfold wrap64
  omega
/-- A number of Go's int. -/
def I64 (x : Int) : Prop := -9223372036854775808 ≤ x ∧ x ≤ 9223372036854775807
theorem i64_of {x : Int} (h : (Lit.int .i64 x).wf = true) : I64 x := by
  simp [Lit.wf, IntKind.min, IntKind.max, IntKind.bits, IntKind.signed] at h
  unfold I64
  omega

/-- A byte. -/
def U8 (x : Int) : Prop := 0 ≤ x ∧ x ≤ 255
theorem u8_of {x : Int} (h : (Lit.int .u8 x).wf = true) : U8 x := by
  simp [Lit.wf, IntKind.min, IntKind.max, IntKind.bits, IntKind.signed] at h
  unfold U8
  omega

/-- A slice within the reach (B: an element's bytes), all of whose elements are as WF says. -/
def wfS {α : Type} (B : Nat) (WF : α → Prop) (xs : List α) : Prop := xs.length ≤ maxLen ∧ xs.length * B ≤ 140737488351232 ∧ ∀ x ∈ xs, WF x

theorem shift {α : Type} {g : Nat → Option α} {r : α} (h : Ev (fun k => g (k + 1)) r) : Ev g r := Ev.step (fun _ => rfl) h
theorem pos {α : Type} {c : Prop} [Decidable c] {a b : Nat → Option α} {r : α} (hc : c) (h : Ev a r) : Ev (fun k => if c then a k else b k) r := by
  simpa only [if_pos hc] using h
theorem neg {α : Type} {c : Prop} [Decidable c] {a b : Nat → Option α} {r : α} (hc : ¬ c) (h : Ev b r) : Ev (fun k => if c then a k else b k) r := by
  simpa only [if_neg hc] using h
theorem now {α : Type} {r s : α} (h : r = s) : Ev (fun _ => some r) s := h ▸ Ev.now r
theorem known {α : Type} {x : Option α} {r : α} (h : x = some r) : Ev (fun _ => x) r := h ▸ Ev.now r
theorem bindc {α β : Type} {x : Option α} {f : Nat → α → Option β} {a : α} {r : β} (h : x = some a) (k : Ev (fun n => f n a) r) : Ev (fun n => x.bind (f n)) r := by
  subst h
  exact k
theorem same {α : Type} {g : Nat → Option α} {r s : α} (h : Ev g r) (e : r = s) : Ev g s := e ▸ h
theorem of_const {α : Type} {x : Option α} {r : α} (h : Ev (fun _ => x) r) : x = some r := by
  obtain ⟨k, hk⟩ := Ev.rounds h
  exact hk

/-- A loop whose round j leads from state j to state j + 1, and whose N-th state is its end. -/
theorem loop {α : Type} {g : Nat → Nat → Option α} {r : α} (N : Nat) (hs : ∀ j, j < N → Ev (fun k => g k (j + 1)) r → Ev (fun k => g k j) r) (he : Ev (fun k => g k N) r) : Ev (fun k => g k 0) r := by
  have : ∀ d j, j + d = N → Ev (fun k => g k j) r := by
    intro d
    induction d with
    | zero =>
      intro j hj
      have : j = N := by omega
      subst this
      exact he
    | succ d ih => exact fun j hj => hs j (by omega) (ih (j + 1) (by omega))
  exact this N 0 (by omega)
/-- The same from state i on. -/
theorem loop_from {α : Type} {g : Nat → Nat → Option α} {r : α} (i N : Nat) (hi : i ≤ N) (hs : ∀ j, i ≤ j → j < N → Ev (fun k => g k (j + 1)) r → Ev (fun k => g k j) r) (he : Ev (fun k => g k N) r) : Ev (fun k => g k i) r := by
  have : ∀ d j, i ≤ j → j + d = N → Ev (fun k => g k j) r := by
    intro d
    induction d with
    | zero =>
      intro j _ hj
      have : j = N := by omega
      subst this
      exact he
    | succ d ih => exact fun j h0 hj => hs j h0 (by omega) (ih (j + 1) (by omega) (by omega))
  exact this (N - i) i (Nat.le_refl _) (by omega)

theorem rd_nat (xs : List Int) (j : Nat) : rd xs (j : Int) = xs.getD j 0 := by simp [rd]
theorem rd_get (xs : List Int) (j : Nat) (h : j < xs.length) : rd xs (j : Int) = xs[j] := by simp [rd, h]
theorem nat_lt {a b : Nat} (h : a < b) : (a : Int) < (b : Int) := by omega
theorem nat_ge {a b : Nat} (h : b ≤ a) : ¬ (a : Int) < (b : Int) := by omega
theorem succ_wrap {j : Nat} (h : j < 9223372036854775807) : wrap64 ((j : Int) + 1) = ((j + 1 : Nat) : Int) := by
  rw [w64 (by omega) (by omega)]
  omega

/-- A loop that fills a row, one place a round. -/
theorem copied {α β : Type} {g : Nat → List β → Int → Option (List β)} (l : List α) (f : α → β) (z : β) (hs : ∀ (j : Nat) (hj : j < l.length) (y : List β) (r : List β), y.length = l.length → Ev (fun k => g k (y.set j (f l[j])) ((j + 1 : Nat) : Int)) r → Ev (fun k => g k y (j : Int)) r)
    (he : ∀ y, Ev (fun k => g k y (l.length : Int)) y) : Ev (fun k => g k (List.replicate l.length z) 0) (l.map f) := by
  refine loop (g := fun k j => g k ((l.map f).take j ++ List.replicate (l.length - j) z) (j : Int)) (r := l.map f) l.length ?_ ?_ |> (fun h => by simpa using h)
  · intro j hj h
    refine hs j hj _ _ (by simp; omega) ?_
    refine Eq.mp ?_ h
    congr 1
    funext k
    congr 1
    rw [List.set_append_right _ _ (by simp; omega)]
    have h1 : (l.map f).take (j + 1) = (l.map f).take j ++ [f l[j]] := by
      rw [List.take_succ_eq_append_getElem (by simpa using hj)]
      simp
    have h2 : l.length - j = (l.length - (j + 1)) + 1 := by omega
    have h3 : j - ((l.map f).take j).length = 0 := by simp; omega
    rw [h1, h3, h2, List.replicate_succ, List.set_cons_zero]
    simp
  · have h := he (l.map f)
    have e : (l.map f).take l.length = l.map f := List.take_of_length_le (by simp)
    simpa [e] using h

/-- A loop that looks at each place and answers no at the first that is not as it ought to be. -/
theorem all_loop {g : Nat → Nat → Option Bool} (N : Nat) (ok : Nat → Bool) (b : Bool) (hs : ∀ j r, j < N → ok j = true → Ev (fun k => g k (j + 1)) r → Ev (fun k => g k j) r)
    (hf : ∀ j, j < N → ok j = false → Ev (fun k => g k j) false) (he : Ev (fun k => g k N) b) : Ev (fun k => g k 0) ((List.range N).all ok && b) := by
  have : ∀ d j, j + d = N → Ev (fun k => g k j) ((List.range' j d).all ok && b) := by
    intro d
    induction d with
    | zero =>
      intro j hj
      have : j = N := by omega
      subst this
      simpa using he
    | succ d ih =>
      intro j hj
      rw [List.range'_succ, List.all_cons]
      cases h : ok j with
      | true => simpa using hs j _ (by omega) h (ih (j + 1) (by omega))
      | false => simpa using hf j (by omega) h
  have h := this N 0 (by omega)
  rwa [← List.range_eq_range'] at h
/-- The same where all places are as they ought to be, .. -/
theorem ok_loop {α : Type} {g : Nat → Nat → Option α} (N : Nat) (ok : Nat → Bool) {r : α} (h : (List.range N).all ok = true) (hs : ∀ j r, j < N → ok j = true → Ev (fun k => g k (j + 1)) r → Ev (fun k => g k j) r)
    (he : Ev (fun k => g k N) r) : Ev (fun k => g k 0) r :=
  loop N (fun j hj hn => hs j r hj (List.all_eq_true.1 h j (List.mem_range.2 hj)) hn) he
/-- .. and where one isn't: the first that isn't decides. -/
theorem bad_loop {α : Type} {g : Nat → Nat → Option α} (N : Nat) (ok : Nat → Bool) (r : α) (h : ¬ (List.range N).all ok = true) (hs : ∀ j r, j < N → ok j = true → Ev (fun k => g k (j + 1)) r → Ev (fun k => g k j) r)
    (hf : ∀ j, j < N → ok j = false → Ev (fun k => g k j) r) : Ev (fun k => g k 0) r := by
  have : ∀ d j, j + d = N → ¬ (List.range' j d).all ok = true → Ev (fun k => g k j) r := by
    intro d
    induction d with
    | zero => exact fun j _ hn => absurd rfl hn
    | succ d ih =>
      intro j hj hn
      rw [List.range'_succ, List.all_cons] at hn
      cases ho : ok j with
      | true => exact hs j _ (by omega) ho (ih (j + 1) (by omega) (by simpa [ho] using hn))
      | false => exact hf j (by omega) ho
  exact this N 0 (by omega) (by rwa [← List.range_eq_range'])
/-- n numbers from a on. -/
def iota (a : Int) (n : Nat) : List Int := (List.range n).map fun (i : Nat) => a + (i : Int)
theorem iota_length (a : Int) (n : Nat) : (iota a n).length = n := by simp [iota]
theorem iota_get (a : Int) (n j : Nat) (h : j < n) : rd (iota a n) (j : Int) = a + j := by simp [rd, iota, h]
theorem iota_set (a : Int) (l : List Int) (j : Nat) (h : j < l.length) : (iota a j ++ l.drop j).set j (a + j) = iota a (j + 1) ++ l.drop (j + 1) := by
  rw [List.set_append_right _ _ (by rw [iota_length]; exact Nat.le_refl _), iota_length, Nat.sub_self, List.drop_eq_getElem_cons h, List.set_cons_zero]
  have : iota a (j + 1) = iota a j ++ [a + j] := by simp [iota, List.range_succ]
  rw [this]
  simp
end Go.Proofs.Ytfamneflndhjpaa.Aid
end

section
namespace Go.Proofs.Ytfamneflndhjpaa.Opens
open Go.ChangeShapes Go.WideShapes Go.RowKit Go.Proofs.YtfamneflndhjpaaW.PrintWords Go.Proofs.Ytfamneflndhjpaa.Aid
set_option linter.unusedVariables false

/-- Whatever can be read as data of type t is of kind kd, and meets WF. -/
def Opens {α : Type} (P : Program) (t : TypeId) (kd : Kd α) (WF : α → Prop) : Prop :=
  P.cellsOf t = kd.sz ∧ ∀ (H : Type) (enc : TypeId × Value → H) (w : World) (base : Nat) (spare : Nat → Bool) (held : Bool) (fuel : Nat) (cs : List Value) (d : DataW H) (ps : List MemPlace),
    DataW.trod enc P w base spare held fuel t cs = some (d, ps) → (∀ n ∈ d.weights P t, n ≤ reachBytes) → ∃ x, kd.K w x cs ∧ WF x

theorem opens_int {P : Program} {t : TypeId} (ht : P.underlying t = some (.int .i64)) (hc : P.cellsOf t = 1) : Opens P t (Kd.int .i64) I64 := by
  refine ⟨hc, fun H enc w base spare held fuel cs d ps h _ => ?_⟩
  obtain ⟨n, rfl, _, hw⟩ := DataW.trod_int ht h
  exact ⟨n, rfl, i64_of hw⟩

/-- The same of bytes. -/
theorem opens_u8 {P : Program} {t : TypeId} (ht : P.underlying t = some (.int .u8)) (hc : P.cellsOf t = 1) : Opens P t (Kd.int .u8) U8 := by
  refine ⟨hc, fun H enc w base spare held fuel cs d ps h _ => ?_⟩
  obtain ⟨n, rfl, _, hw⟩ := DataW.trod_int ht h
  exact ⟨n, rfl, u8_of hw⟩

theorem opens_bool {P : Program} {t : TypeId} (ht : P.underlying t = some .bool) (hc : P.cellsOf t = 1) : Opens P t Kd.bool (fun _ => True) := by
  refine ⟨hc, fun H enc w base spare held fuel cs d ps h _ => ?_⟩
  obtain ⟨b, rfl, _⟩ := DataW.trod_bool ht h
  exact ⟨b, rfl, trivial⟩

theorem weights_elem {H : Type} {P : Program} {e : TypeId} {n : Nat} : ∀ {ds : List (DataW H)} {d : DataW H}, d ∈ ds → n ∈ d.weights P e → n ∈ DataW.weightsAll P e ds
  | [], _, h, _ => by simp at h
  | d0 :: r, d, h, hn => by
    rw [DataW.weightsAll]
    rcases List.mem_cons.1 h with rfl | h
    · exact List.mem_append_left _ hn
    · exact List.mem_append_right _ (weights_elem h hn)

theorem choose_list {α : Type} {n : Nat} {Q : Nat → α → Prop} (h : ∀ i, i < n → ∃ x, Q i x) : ∃ xs : List α, xs.length = n ∧ ∀ i x, xs[i]? = some x → Q i x := by
  induction n with
  | zero => exact ⟨[], rfl, fun i x hx => by simp at hx⟩
  | succ n ih =>
    obtain ⟨xs, hl, hx⟩ := ih (fun i hi => h i (by omega))
    obtain ⟨y, hy⟩ := h n (by omega)
    refine ⟨xs ++ [y], by simp [hl], fun i x hi => ?_⟩
    by_cases hlt : i < n
    · rw [List.getElem?_append_left (by omega)] at hi
      exact hx i x hi
    · have hl2 := (List.getElem?_eq_some_iff.1 hi).1
      simp at hl2
      have : i = n := by omega
      subst this
      rw [List.getElem?_append_right (by omega)] at hi
      simp [hl] at hi
      exact hi ▸ hy

theorem opens_slice {α : Type} {P : Program} {t e : TypeId} {kd : Kd α} {WF : α → Prop} (ht : P.underlying t = some (.slice e)) (hc : P.cellsOf t = 1) {B : Nat} (hB : P.bytesOf e = B) (he : Opens P e kd WF) :
    Opens P t (Kd.slice e kd) (wfS B WF) := by
  subst hB
  refine ⟨hc, fun H enc w base spare held fuel cs d ps h hw => ?_⟩
  rcases DataW.trod_slice ht h with ⟨rfl, _⟩ | ⟨a, len, cap, elems, rest, n, _, rfl, hx, hb, hl, hm, hlen, hel, _, _⟩
  · exact ⟨[], ⟨none, 0, rfl, Nat.le_refl _, ⟨rfl, by simp, fun h => absurd h (by simp)⟩⟩, by simp [maxLen], by simp, by simp⟩
  · simp only [Prod.mk.injEq] at hx
    obtain ⟨rfl, _⟩ := hx
    have each : ∀ i, i < len → ∃ x, (∃ c, c.length = kd.sz ∧ kd.K w x c ∧ ∀ j u, c[j]? = some u → w.cell? (a.add (i * kd.sz + j)) = some u) ∧ WF x := by
      intro i hi
      have h1 := hel i hi
      have h2 : i < elems.length := by omega
      rw [List.getElem?_eq_getElem h2] at h1
      obtain ⟨c, hc1, hc2⟩ := Option.bind_eq_some_iff.1 h1
      obtain ⟨_, hcl, hcc⟩ := World.cells?_some hc1
      obtain ⟨x, hx1, hx2⟩ := he.2 H enc w base spare held n c elems[i].1 elems[i].2 hc2 (fun m hm' => hw m (by
        rw [DataW.weights, ht]
        simp only [List.mem_cons, List.mem_append]
        exact .inr (.inl (weights_elem (List.mem_map.2 ⟨elems[i], List.getElem_mem h2, rfl⟩) hm'))))
      refine ⟨x, ⟨c, by rw [hcl, he.1], hx1, fun j u hj => ?_⟩, hx2⟩
      have hj2 := (List.getElem?_eq_some_iff.1 hj).1
      have := hcc j (by omega)
      rw [hj, he.1] at this
      rw [← this, Addr.add_add]
    obtain ⟨xs, hxl, hxs⟩ := choose_list each
    subst hxl
    refine ⟨xs, ⟨some a, cap, rfl, hl, ⟨rfl, by simp [maxLen] at hm; omega, fun _ => ⟨a, rfl, fun j p hj => ?_⟩⟩⟩, by omega, ?_, fun x hx => ?_⟩
    · exact (hxs j p hj).1
    · have := hw ((elems.length + rest.length) * P.bytesOf e) (by rw [DataW.weights, ht]; simp)
      exact Nat.le_trans (Nat.mul_le_mul_right _ (by omega)) this
    · obtain ⟨i, hi⟩ := List.getElem?_of_mem hx
      exact (hxs i x hi).2

/-- The same of a struct's fields from one on, which begins at cell off. -/
def OpensF {α : Type} (P : Program) (fs : List Field) (off : Nat) (kd : Kd α) (WF : α → Prop) : Prop :=
  ∀ (H : Type) (enc : TypeId × Value → H) (w : World) (base : Nat) (spare : Nat → Bool) (held : Bool) (fuel : Nat) (cs : List Value) (ys : List (DataW H × List MemPlace)),
    cs.length = off + kd.sz → ys.length = fs.length → (∀ (i : Nat) (f : Field), fs[i]? = some f → DataW.trod enc P w base spare held fuel f.type ((cs.drop f.offset).take (P.cellsOf f.type)) = ys[i]?) →
    (∀ n ∈ DataW.weightsEach P (fs.map (·.type)) (ys.map (·.1)), n ≤ reachBytes) → ∃ x, kd.K w x (cs.drop off) ∧ WF x

theorem opensF_last {α : Type} {P : Program} {f : Field} {off : Nat} {kd : Kd α} {WF : α → Prop} (ho : f.offset = off) (h : Opens P f.type kd WF) : OpensF P [f] off kd WF := by
  intro H enc w base spare held fuel cs ys hcs hys hf hw
  match ys, hys with
  | [y], _ =>
    have h1 := hf 0 f rfl
    rw [ho, h.1, List.take_of_length_le (by simp; omega)] at h1
    exact h.2 H enc w base spare held fuel _ y.1 y.2 h1 (fun n hn => hw n (by simp [DataW.weightsEach, hn]))

theorem opensF_cons {α β : Type} {P : Program} {f : Field} {fs : List Field} {off : Nat} {kd : Kd α} {kr : Kd β} {WF : α → Prop} {WR : β → Prop} (ho : f.offset = off) (h : Opens P f.type kd WF)
    (hr : OpensF P fs (off + kd.sz) kr WR) : OpensF P (f :: fs) off (Kd.pair kd kr) (fun x => WF x.1 ∧ WR x.2) := by
  intro H enc w base spare held fuel cs ys hcs hys hf hw
  match ys, hys with
  | y :: ys, hys =>
    have h1 := hf 0 f rfl
    rw [ho, h.1] at h1
    obtain ⟨x, hx1, hx2⟩ := h.2 H enc w base spare held fuel _ y.1 y.2 h1 (fun n hn => hw n (by simp [DataW.weightsEach, hn]))
    have hs : (Kd.pair kd kr).sz = kd.sz + kr.sz := rfl
    obtain ⟨z, hz1, hz2⟩ := hr H enc w base spare held fuel cs ys (by omega) (by simpa using hys) (fun i g hg => hf (i + 1) g hg) (fun n hn => hw n (by simp [DataW.weightsEach]; exact .inr (by simpa using hn)))
    refine ⟨(x, z), ⟨_, _, ?_, hx1, hz1⟩, hx2, hz2⟩
    rw [← List.drop_drop, List.take_append_drop]

theorem opens_struct {α β : Type} {P : Program} {t : TypeId} {fs : Array Field} {kd : Kd α} {WF : α → Prop} (f : β → α) (g : α → β) (hg : ∀ x, f (g x) = x) (ht : P.underlying t = some (.struct fs)) (hc : P.cellsOf t = kd.sz)
    (h : OpensF P fs.toList 0 kd WF) : Opens P t (Kd.iso kd f) (fun x => WF (f x)) := by
  refine ⟨hc, fun H enc w base spare held fuel cs d ps hd hw => ?_⟩
  obtain ⟨xs, n, _, hx, hl, hxl, hf⟩ := DataW.trod_struct ht hd
  simp only [Prod.mk.injEq] at hx
  obtain ⟨rfl, _⟩ := hx
  obtain ⟨y, hy1, hy2⟩ := h H enc w base spare held n cs xs (by omega) (by simpa using hxl) (fun i f' hf' => hf i f' (by simpa using hf')) (fun m hm => hw m (by rw [DataW.weights, ht]; simpa using hm))
  refine ⟨g y, ?_, ?_⟩
  · show kd.K w (f (g y)) cs
    rw [hg]
    simpa using hy1
  · show WF (f (g y))
    rw [hg]
    exact hy2

/-- An argument, opened. -/
theorem opens_arg {α : Type} {H : Type} {enc : TypeId × Value → H} {P : Program} {w : World} {base : Nat} {spare : Nat → Bool} {held : Bool} {t : TypeId} {v : Value} {kd : Kd α} {WF : α → Prop} {d : DataW H} {ps : List MemPlace} (h : Opens P t kd WF)
    {ts : List TypeId} {ds : List (DataW H)} {j : Nat} (hsz : (DataW.weightsEach P ts ds).all (· ≤ reachBytes) = true) (ht : ts[j]? = some t) (hd : ds[j]? = some d) (hv : DataW.Trod enc P w base spare held t v d ps) :
    ∃ x, kd.K w x v.cells.toList ∧ WF x := by
  obtain ⟨fuel, hf⟩ := hv
  refine h.2 H enc w base spare held fuel _ d ps hf (fun n hn => ?_)
  have := List.all_eq_true.1 hsz n (DataW.weights_mem_each ht hd n hn)
  simpa using this

/-- A slice argument: its address, its capacity, its row. -/
theorem opens_row {α : Type} {P : Program} {w : World} {t e : TypeId} {r : Reach} {b0 : Nat} {v : Value} {kd : Kd α} {x : List α} (ht : P.underlying t = some (.slice e)) (hval : Value.okWide P w r b0 t v) (h : (Kd.slice e kd).K w x v.cells.toList) :
    ∃ A c, v = .slice A x.length c ∧ x.length ≤ c ∧ Kd.C kd w A x.length x := by
  obtain ⟨a, len, cap, rfl⟩ := okWide_slice ht hval
  obtain ⟨A, c, hv, hl, hC⟩ := h
  simp [Value.cells] at hv
  obtain ⟨rfl, rfl, rfl⟩ := hv
  exact ⟨_, _, rfl, hl, hC⟩

/-- A struct argument by value: its cells. -/
theorem opens_agg {P : Program} {w : World} {t : TypeId} {fs : Array Field} {r : Reach} {b0 : Nat} {v : Value} {cs : List Value} (ht : P.underlying t = some (.struct fs)) (hval : Value.okWide P w r b0 t v) (h : v.cells.toList = cs) :
    v = .agg cs.toArray := by
  obtain ⟨c, rfl, _⟩ := okWide_struct ht hval
  simp [Value.cells] at h
  simp [← h]

end Go.Proofs.Ytfamneflndhjpaa.Opens
end

section
namespace Go.Proofs.Ytfamneflndhjpaa.PureFnExactFirstUnsafe
open Go.RowKit Go.Proofs.YtfamneflndhjpaaW.PrintWords Go.Proofs.YtfamneflndhjpaaW.PrintLast Go.Proofs.YtfamneflndhjpaaW.PrintMore Go.Proofs.Ytfamneflndhjpaa.PPlan Go.Proofs.Ytfamneflndhjpaa.Aid
set_option linter.unusedVariables false
set_option linter.unusedSimpArgs false

/-- Every number of it is one of Go's int, every slice within the reach. -/
def wf84 (x : S84) : Prop := I64 x.f0 ∧ I64 x.f1 ∧ I64 x.f2 ∧ I64 x.f3
/-- Every number of it is one of Go's int, every slice within the reach. -/
def wf77 (x : S77) : Prop := I64 x.f0 ∧ (wfS 8 I64) x.f1 ∧ I64 x.f2

theorem laws_szPathS_eq (l : List S84) (a : Int) (ha : 0 ≤ a) (ha2 : a ≤ 1048576) (hl : l.length ≤ 140737488355328) : ∃ r, laws_szPathS.f l a = some r ∧ r ≤ a ∧ (¬ r < 0 → l.length ≤ 1048576) := by
  unfold laws_szPathS.f
  rw [w64 (by omega) (by omega)]
  by_cases h : a - (l.length : Int) < 0
  · exact ⟨-1, by rw [if_pos h], by omega, by omega⟩
  · exact ⟨_, by rw [if_neg h], by omega, by omega⟩

theorem laws_szIntS_eq (l : List Int) (a : Int) (ha : 0 ≤ a) (ha2 : a ≤ 1048576) (hl : l.length ≤ 140737488355328) : ∃ r, laws_szIntS.f l a = some r ∧ r ≤ a ∧ (¬ r < 0 → l.length ≤ 1048576) := by
  unfold laws_szIntS.f
  rw [w64 (by omega) (by omega)]
  by_cases h : a - (l.length : Int) < 0
  · exact ⟨-1, by rw [if_pos h], by omega, by omega⟩
  · exact ⟨_, by rw [if_neg h], by omega, by omega⟩

theorem laws_szEntry_eq (x : S77) (a : Int) (ha : 0 ≤ a) (ha2 : a ≤ 1048576) (hl : x.f1.length ≤ 140737488355328) : ∃ r, laws_szEntry.f x.f0 x.f1 x.f2 a = some r ∧ r ≤ a ∧ (¬ r < 0 → x.f1.length ≤ 1048576) := by
  unfold laws_szEntry.f
  obtain ⟨r, h1, h2, h3⟩ := laws_szIntS_eq x.f1 a ha ha2 hl
  rw [h1, Option.bind_some]
  by_cases h : r < 0
  · exact ⟨-1, by rw [if_pos h], by omega, by omega⟩
  · exact ⟨r, by rw [if_neg h], h2, h3⟩

theorem laws_szEntryS_ev (l : List S77) (a : Int) (ha : 0 ≤ a) (ha2 : a ≤ 1048576) (hl : l.length ≤ 140737488355328) (he : ∀ x ∈ l, x.f1.length ≤ 140737488355328) :
    ∃ r, Ev (fun k => laws_szEntryS.f k l a) r ∧ r ≤ a ∧ (¬ r < 0 → l.length ≤ 1048576 ∧ ∀ x ∈ l, x.f1.length ≤ 1048576) := by
  unfold laws_szEntryS.f
  rw [w64 (by omega) (by omega)]
  by_cases h : a - (l.length : Int) < 0
  · exact ⟨-1, pos h (now rfl), by omega, by omega⟩
  · have main : ∀ (d j : Nat) (b : Int), j + d = l.length → 0 ≤ b → b ≤ 1048576 → ∃ r, Ev (fun k => laws_szEntryS.l0 k l b (j : Int)) r ∧ r ≤ b ∧ (¬ r < 0 → ∀ i (hi : i < l.length), j ≤ i → l[i].f1.length ≤ 1048576) := by
      intro d
      induction d with
      | zero =>
        intro j b hj hb hb2
        refine ⟨b, shift ?_, by omega, fun _ i hi hji => by omega⟩
        simp only [laws_szEntryS.l0]
        exact neg (by omega) (now rfl)
      | succ d ih =>
        intro j b hj hb hb2
        have hjl : j < l.length := by omega
        have hg : rd_T77 l (j : Int) = l[j] := by simp [rd_T77, hjl]
        obtain ⟨r, hr, hra, hrl⟩ := laws_szEntry_eq l[j] b hb hb2 (he _ (List.getElem_mem hjl))
        by_cases hneg : r < 0
        · refine ⟨-1, shift ?_, by omega, by omega⟩
          simp only [laws_szEntryS.l0]
          refine pos (nat_lt hjl) (pos (by omega) ?_)
          rw [hg]
          exact bindc hr (pos hneg (now rfl))
        · obtain ⟨r2, h1, h2, h3⟩ := ih (j + 1) r (by omega) (by omega) (by omega)
          refine ⟨r2, shift ?_, by omega, fun hn i hi hji => ?_⟩
          · simp only [laws_szEntryS.l0]
            refine pos (nat_lt hjl) (pos (by omega) ?_)
            rw [hg, succ_wrap (by omega)]
            exact bindc hr (neg hneg h1)
          · by_cases e : i = j
            · subst e
              exact hrl hneg
            · exact h3 hn i hi (by omega)
    obtain ⟨r, h1, h2, h3⟩ := main l.length 0 (a - (l.length : Int)) (by omega) (by omega) (by omega)
    refine ⟨r, neg h (by simpa using h1), by omega, fun hn => ⟨by omega, fun x hx => ?_⟩⟩
    obtain ⟨i, hi, rfl⟩ := List.getElem_of_mem hx
    exact h3 hn i hi (by omega)

theorem spec_l1In_eq (a b c : Int) : spec_l1In.f a b c = some (decide (b ≤ a ∧ a ≤ c)) := by
  unfold spec_l1In.f
  by_cases h : b ≤ a
  · rw [if_pos h]
    simp [h]
  · rw [if_neg h]
    simp [h]

theorem tmod_emod {a m : Int} (hm : 0 < m) : Int.tmod a m = if Int.tmod a m < 0 then a % m - m else a % m := by
  have h1 := Int.emod_nonneg a (by omega : m ≠ 0)
  have h2 := Int.emod_lt_of_pos a hm
  have h3 := Int.tmod_eq_emod (a := a) (b := m)
  by_cases hc : 0 ≤ a ∨ m ∣ a
  · rw [if_pos hc] at h3
    rw [if_neg (by omega)]
    omega
  · rw [if_neg hc] at h3
    rw [if_pos (by omega)]
    omega
theorem tmod_range {a m : Int} (hm : 0 < m) : -m ≤ Int.tmod a m ∧ Int.tmod a m < m := by
  have h := tmod_emod (a := a) hm
  have h1 := Int.emod_nonneg a (by omega : m ≠ 0)
  have h2 := Int.emod_lt_of_pos a hm
  by_cases hc : Int.tmod a m < 0
  · rw [if_pos hc] at h
    omega
  · rw [if_neg hc] at h
    omega
theorem spec_Mod_eq (a m : Int) (h1 : 1 ≤ m) (h2 : m ≤ 1000000000000) : spec_Mod.f a m = some (a % m) := by
  unfold spec_Mod.f
  rw [spec_l1In_eq, Option.bind_some, if_pos (by simp [h1, h2]), if_neg (by omega)]
  have hr := tmod_range (a := a) (m := m) (by omega)
  have he := tmod_emod (a := a) (m := m) (by omega)
  have h3 := Int.emod_nonneg a (by omega : m ≠ 0)
  have h4 := Int.emod_lt_of_pos a (by omega : 0 < m)
  rw [w64 (by omega) (by omega), Int.tmod_eq_emod_of_nonneg (by omega)]
  congr 1
  by_cases hn : Int.tmod a m < 0
  · rw [if_pos hn] at he
    rw [he, show a % m - m + m = a % m by omega, Int.emod_emod_of_dvd _ (Int.dvd_refl m)]
  · rw [if_neg hn] at he
    rw [he, Int.add_emod_right, Int.emod_emod_of_dvd _ (Int.dvd_refl m)]

/-- One more value taken into a hash. -/
def hstep (acc v : Int) : Int := (acc * 1000003 + v % 2147483647 + 13) % 2147483647
theorem hstep_range (a v : Int) : 0 ≤ hstep a v ∧ hstep a v < 2147483647 := ⟨Int.emod_nonneg _ (by omega), Int.emod_lt_of_pos _ (by omega)⟩
theorem hfold_range (l : List Int) : ∀ a : Int, 0 ≤ a → a < 2147483647 → 0 ≤ l.foldl hstep a ∧ l.foldl hstep a < 2147483647 := by
  induction l with
  | nil => exact fun a h0 h1 => ⟨h0, h1⟩
  | cons v r ih => exact fun a _ _ => ih _ (hstep_range a v).1 (hstep_range a v).2
theorem hfold_take (l : List Int) (j : Nat) (h : j < l.length) (a : Int) : (l.take (j + 1)).foldl hstep a = hstep ((l.take j).foldl hstep a) l[j] := by
  rw [List.take_succ_eq_append_getElem h, List.foldl_append]
  rfl
theorem hstep_go (a v : Int) (h0 : 0 ≤ a) (h1 : a < 2147483647) : Int.tmod (wrap64 ((wrap64 ((wrap64 (a * 1000003)) + v % 2147483647)) + 13)) 2147483647 = hstep a v := by
  have h2 := Int.emod_nonneg v (by omega : (2147483647 : Int) ≠ 0)
  have h3 := Int.emod_lt_of_pos v (by omega : (0 : Int) < 2147483647)
  rw [w64 (x := a * 1000003) (by omega) (by omega), w64 (x := a * 1000003 + _) (by omega) (by omega), w64 (by omega) (by omega), Int.tmod_eq_emod_of_nonneg (by omega)]
  rfl
theorem spec_Hash_ev (l : List Int) (hl : l.length < 9223372036854775807) : Ev (fun k => spec_Hash.f k l) (l.foldl hstep 11) := by
  unfold spec_Hash.f
  refine loop (g := fun k j => spec_Hash.l0 k l ((l.take j).foldl hstep 11) (j : Int)) l.length ?_ ?_
  · intro j hj h
    refine shift ?_
    simp only [spec_Hash.l0]
    refine pos (nat_lt hj) (pos (by omega) (bindc (spec_Mod_eq _ _ (by omega) (by omega)) ?_))
    obtain ⟨b0, b1⟩ := hfold_range (l.take j) 11 (by omega) (by omega)
    rw [hstep_go _ _ b0 b1, rd_get _ _ hj, ← hfold_take l j hj, succ_wrap (by omega)]
    exact h
  · refine shift ?_
    simp only [spec_Hash.l0]
    exact neg (nat_ge (Nat.le_refl _)) (now (by rw [List.take_length]))

def sealL (b s : Int) (l : List Int) : Int := ([b, s] ++ l).foldl hstep 11
theorem spec_SealOf_ev (b s : Int) (l : List Int) (hl : l.length ≤ 1048576) : Ev (fun k => spec_SealOf.f k b s l) (sealL b s l) := by
  unfold spec_SealOf.f
  refine bindc rfl (pos (by simp; omega) (Ev.bind (spec_Hash_ev _ (by simp; omega)) (now rfl)))

def okLight (v : List Int) (i : Nat) : Bool := decide (0 ≤ rd v i ∧ rd v i ≤ 2)
def prevSeal (l : List S80) (j : Nat) : Int := if j = 0 then 0 else (rd_T80 l ((j : Int) - 1)).f2
theorem prevSeal_succ (l : List S80) (j : Nat) : prevSeal l (j + 1) = (rd_T80 l j).f2 := by
  have e : ((j + 1 : Nat) : Int) - 1 = (j : Int) := by omega
  rw [prevSeal, if_neg (by omega), e]
/-- Entry j is in its ranges, behind the one before, sealed, and as long as the first. -/
def entryHead (l : List S80) (j : Nat) : Prop := 0 ≤ (rd_T80 l j).f0 ∧ (rd_T80 l j).f0 ≤ 1000000 ∧ (rd_T80 l j).f1.length ≤ 12 ∧ (rd_T80 l j).f1.length = (rd_T80 l 0).f1.length ∧
  (rd_T80 l j).f2 = sealL (prevSeal l j) (rd_T80 l j).f0 (rd_T80 l j).f1 ∧ (0 < j → (rd_T80 l ((j : Int) - 1)).f0 < (rd_T80 l j).f0)
instance (l : List S80) (j : Nat) : Decidable (entryHead l j) := by unfold entryHead; infer_instance
def entryLights (l : List S80) (j : Nat) : Bool := (List.range (rd_T80 l j).f1.length).all (okLight (rd_T80 l j).f1)
def okEntry (l : List S80) (j : Nat) : Bool := decide (entryHead l j) && entryLights l j
theorem okEntry_iff (l : List S80) (j : Nat) : okEntry l j = true ↔ entryHead l j ∧ entryLights l j = true := by
  unfold okEntry
  rw [Bool.and_eq_true, decide_eq_true_iff]
def isRecord (l : List S80) : Bool := (List.range l.length).all (okEntry l) && decide (l.length ≤ 60)
theorem isRecord_iff (l : List S80) : isRecord l = true ↔ (∀ j, j < l.length → entryHead l j ∧ entryLights l j = true) ∧ l.length ≤ 60 := by
  unfold isRecord
  rw [Bool.and_eq_true, List.all_eq_true, decide_eq_true_iff]
  exact ⟨fun h => ⟨fun j hj => (okEntry_iff l j).1 (h.1 j (List.mem_range.2 hj)), h.2⟩, fun h => ⟨fun j hj => (okEntry_iff l j).2 (h.1 j (List.mem_range.1 hj)), h.2⟩⟩
theorem entry_short (l : List S80) (he : ∀ x ∈ l, x.f1.length ≤ 1048576) (i : Nat) (hi : i < l.length) : (rd_T80 l i).f1.length ≤ 1048576 := by
  have : rd_T80 l (i : Int) = l[i] := by simp [rd_T80, hi]
  rw [this]
  exact he _ (List.getElem_mem hi)
theorem spec_IsRecord_lights (l : List S80) (s : Int) (j : Nat) (hj : j < l.length) (hx : (rd_T80 l j).f1.length ≤ 1048576) (i : Nat) (hi : i < (rd_T80 l j).f1.length) :
    (∀ r, okLight (rd_T80 l j).f1 i = true → Ev (fun k => spec_IsRecord.l1 k l s (j : Int) ((i + 1 : Nat) : Int)) r → Ev (fun k => spec_IsRecord.l1 k l s (j : Int) (i : Int)) r) ∧
    (okLight (rd_T80 l j).f1 i = false → Ev (fun k => spec_IsRecord.l1 k l s (j : Int) (i : Int)) false) := by
  constructor
  · intro r ok h
    have ok : 0 ≤ rd (rd_T80 l j).f1 i ∧ rd (rd_T80 l j).f1 i ≤ 2 := by simpa [okLight] using ok
    refine shift ?_
    simp only [spec_IsRecord.l1]
    refine pos (by omega) (pos (nat_lt hj) (pos (nat_lt hi) (pos (by omega) (bindc (spec_l1In_eq _ _ _) (pos (by simp [ok]) ?_)))))
    rw [succ_wrap (by omega)]
    exact h
  · intro ok
    have ok : ¬ (0 ≤ rd (rd_T80 l j).f1 i ∧ rd (rd_T80 l j).f1 i ≤ 2) := by simpa [okLight] using ok
    refine shift ?_
    simp only [spec_IsRecord.l1]
    exact pos (by omega) (pos (nat_lt hj) (pos (nat_lt hi) (pos (by omega) (bindc (spec_l1In_eq _ _ _) (neg (by simpa using ok) (now rfl))))))
theorem spec_IsRecord_in (l : List S80) (h60 : l.length ≤ 60) (he : ∀ x ∈ l, x.f1.length ≤ 1048576) : Ev (fun k => spec_IsRecord.l0 k l (prevSeal l 0) 0) ((List.range l.length).all (okEntry l) && true) := by
  refine all_loop (g := fun k j => spec_IsRecord.l0 k l (prevSeal l j) (j : Int)) l.length (okEntry l) true ?_ ?_ ?_
  · intro j r hj ok h
    have hx := entry_short l he j hj
    obtain ⟨⟨h1, h2, h3, h4, h5, h6⟩, hli⟩ := (okEntry_iff l j).1 ok
    refine shift ?_
    simp only [spec_IsRecord.l0]
    refine pos (nat_lt hj) (shift ?_)
    simp only [spec_IsRecord.j1]
    refine pos (by simp; omega) (pos (by omega) (pos (nat_lt hj) (Ev.bind (spec_SealOf_ev _ _ _ hx) (bindc (spec_l1In_eq _ _ _) (pos (by simp [h1, h2]) (neg (by omega) (pos (by omega) (pos (by omega) (pos h5 ?_)))))))))
    have last : Ev (fun k => spec_IsRecord.j2 k l (sealL (prevSeal l j) (rd_T80 l j).f0 (rd_T80 l j).f1) (j : Int) false) r := by
      refine shift ?_
      simp only [spec_IsRecord.j2]
      refine neg (by simp) ?_
      refine ok_loop (g := fun k i => spec_IsRecord.l1 k l _ (j : Int) (i : Int)) (rd_T80 l j).f1.length (okLight (rd_T80 l j).f1) hli (fun i r hi => (spec_IsRecord_lights l _ j hj hx i hi).1 r) (shift ?_)
      simp only [spec_IsRecord.l1]
      refine pos (by omega) (pos (nat_lt hj) (neg (nat_ge (Nat.le_refl _)) ?_))
      rw [succ_wrap (by omega), ← h5, ← prevSeal_succ]
      exact h
    by_cases h0 : (j : Int) > 0
    · rw [w64 (x := (j : Int) - 1) (by omega) (by omega), decide_eq_false (by have := h6 (by omega); omega)]
      exact pos h0 (pos (by omega) (pos (by omega) last))
    · exact neg h0 last
  · intro j hj ok
    have hx := entry_short l he j hj
    have ok : ¬ (entryHead l j ∧ entryLights l j = true) := by rw [← okEntry_iff, ok]; simp
    unfold entryHead at ok
    have no : ∀ s, Ev (fun k => spec_IsRecord.j2 k l s (j : Int) true) false := by
      intro s
      refine shift ?_
      simp only [spec_IsRecord.j2]
      exact pos (by simp) (now rfl)
    refine shift ?_
    simp only [spec_IsRecord.l0]
    refine pos (nat_lt hj) (shift ?_)
    simp only [spec_IsRecord.j1]
    refine pos (by simp; omega) (pos (by omega) (pos (nat_lt hj) (Ev.bind (spec_SealOf_ev _ _ _ hx) (bindc (spec_l1In_eq _ _ _) ?_))))
    by_cases h1 : 0 ≤ (rd_T80 l j).f0 ∧ (rd_T80 l j).f0 ≤ 1000000
    · refine pos (by simp [h1]) ?_
      by_cases h3 : (rd_T80 l j).f1.length ≤ 12
      · refine neg (by omega) (pos (by omega) ?_)
        by_cases h4 : (rd_T80 l j).f1.length = (rd_T80 l 0).f1.length
        · refine pos (by omega) ?_
          by_cases h5 : (rd_T80 l j).f2 = sealL (prevSeal l j) (rd_T80 l j).f0 (rd_T80 l j).f1
          · refine pos h5 ?_
            have last : (0 < j → (rd_T80 l ((j : Int) - 1)).f0 < (rd_T80 l j).f0) → Ev (fun k => spec_IsRecord.j2 k l (sealL (prevSeal l j) (rd_T80 l j).f0 (rd_T80 l j).f1) (j : Int) false) false := by
              intro h6
              have hli : ¬ entryLights l j = true := fun q => ok ⟨⟨h1.1, h1.2, h3, h4, h5, h6⟩, q⟩
              refine shift ?_
              simp only [spec_IsRecord.j2]
              refine neg (by simp) ?_
              exact bad_loop (g := fun k i => spec_IsRecord.l1 k l _ (j : Int) (i : Int)) (rd_T80 l j).f1.length (okLight (rd_T80 l j).f1) false hli (fun i r hi => (spec_IsRecord_lights l _ j hj hx i hi).1 r) (fun i hi => (spec_IsRecord_lights l _ j hj hx i hi).2)
            by_cases h0 : (j : Int) > 0
            · rw [w64 (x := (j : Int) - 1) (by omega) (by omega)]
              refine pos h0 (pos (by omega) (pos (by omega) ?_))
              by_cases h6 : (rd_T80 l ((j : Int) - 1)).f0 < (rd_T80 l j).f0
              · rw [decide_eq_false (by omega)]
                exact last (fun _ => h6)
              · rw [decide_eq_true (by omega)]
                exact no _
            · exact neg h0 (last (fun q => absurd q (by omega)))
          · exact neg h5 (no _)
        · exact neg (by omega) (no _)
      · exact pos (by omega) (no _)
    · exact neg (by simpa using h1) (no _)
  · refine shift ?_
    simp only [spec_IsRecord.l0]
    refine neg (nat_ge (Nat.le_refl _)) (shift ?_)
    simp only [spec_IsRecord.j1]
    exact neg (by simp) (now (decide_eq_true (by omega)))
theorem spec_IsRecord_ev (l : List S80) (hl : l.length ≤ 1048577) (he : ∀ x ∈ l, x.f1.length ≤ 1048576) : Ev (fun k => spec_IsRecord.f k l) (isRecord l) := by
  unfold spec_IsRecord.f isRecord
  by_cases h60 : l.length ≤ 60
  · rw [decide_eq_true h60]
    exact spec_IsRecord_in l h60 he
  · rw [decide_eq_false h60, Bool.and_false]
    refine shift ?_
    simp only [spec_IsRecord.l0]
    refine pos (by omega) (shift ?_)
    simp only [spec_IsRecord.j1]
    exact neg (by simp; omega) (now (decide_eq_false (by omega)))

/-- A path's number, kind, and ends are in their ranges, and it crosses on foot just where its ends are the same. -/
def isPath (a b c d : Int) : Bool := decide (1 ≤ a ∧ a ≤ 20) && (decide (1 ≤ b ∧ b ≤ 3) && (decide (0 ≤ c ∧ c ≤ 3) && (decide (0 ≤ d ∧ d ≤ 3) && ((c == d) == (b == 2)))))
theorem spec_IsPath_eq (a b c d : Int) : spec_IsPath.f a b c d = some (isPath a b c d) := by
  unfold spec_IsPath.f isPath
  simp only [spec_l1In_eq, Option.bind_some]
  by_cases h1 : 1 ≤ a ∧ a ≤ 20 <;> by_cases h2 : 1 ≤ b ∧ b ≤ 3 <;> by_cases h3 : 0 ≤ c ∧ c ≤ 3 <;> by_cases h4 : 0 ≤ d ∧ d ≤ 3 <;> simp [h1, h2, h3, h4]

def pathAt (l : List S82) (j : Nat) : Bool := isPath (rd_T82 l j).f0 (rd_T82 l j).f1 (rd_T82 l j).f2 (rd_T82 l j).f3 && decide (0 < j → (rd_T82 l ((j : Int) - 1)).f0 < (rd_T82 l j).f0)
def arePaths (l : List S82) : Bool := (List.range l.length).all (pathAt l) && decide (l.length ≤ 12)
theorem spec_ArePaths_ev (l : List S82) (hl : l.length ≤ 9223372036854775806) : Ev (fun k => spec_ArePaths.f k l) (arePaths l) := by
  unfold spec_ArePaths.f arePaths
  refine all_loop (g := fun k j => spec_ArePaths.l0 k l (j : Int)) l.length (pathAt l) _ ?_ ?_ ?_
  · intro j r hj ok h
    simp only [pathAt, Bool.and_eq_true, decide_eq_true_eq] at ok
    refine shift ?_
    simp only [spec_ArePaths.l0]
    refine pos (nat_lt hj) (pos (by omega) (bindc (spec_IsPath_eq _ _ _ _) (pos ok.1 ?_)))
    rw [succ_wrap (by omega)]
    by_cases h0 : (j : Int) > 0
    · rw [w64 (by omega) (by omega)]
      exact pos h0 (pos (by omega) (pos (by omega) (neg (by have := ok.2 (by omega); omega) h)))
    · exact neg h0 h
  · intro j hj ok
    refine shift ?_
    simp only [spec_ArePaths.l0]
    refine pos (nat_lt hj) (pos (by omega) (bindc (spec_IsPath_eq _ _ _ _) ?_))
    by_cases h1 : isPath (rd_T82 l j).f0 (rd_T82 l j).f1 (rd_T82 l j).f2 (rd_T82 l j).f3 = true
    · refine pos h1 ?_
      have h2 : ¬ (0 < j → (rd_T82 l ((j : Int) - 1)).f0 < (rd_T82 l j).f0) := by simpa [pathAt, h1] using ok
      rw [w64 (x := (j : Int) - 1) (by omega) (by omega)]
      exact pos (by omega) (pos (by omega) (pos (by omega) (pos (by omega) (now rfl))))
    · exact neg h1 (now rfl)
  · refine shift ?_
    simp only [spec_ArePaths.l0]
    refine neg (nat_ge (Nat.le_refl _)) (now ?_)
    exact decide_eq_decide.2 (by omega)

/-- The two ways cross: one's places lie on both sides of the other's. -/
def interB (a b c d : Int) : Bool := (decide (Int.tmod (c - a + 8) 8 < Int.tmod (b - a + 8) 8)) != (decide (Int.tmod (d - a + 8) 8 < Int.tmod (b - a + 8) 8))
theorem four_of {a : Int} (h : 0 ≤ a ∧ a ≤ 3) : a = 0 ∨ a = 1 ∨ a = 2 ∨ a = 3 := by omega
set_option maxRecDepth 10000 in
theorem spec_Interleave_ev (a b c d : Int) (ha : 0 ≤ a ∧ a ≤ 3) (hb : 0 ≤ b ∧ b ≤ 3) (hc : 0 ≤ c ∧ c ≤ 3) (hd : 0 ≤ d ∧ d ≤ 3) (hac : a ≠ c) (hbd : b ≠ d) : Ev (fun k => spec_Interleave.f k (2 * a) (2 * b + 1) (2 * c) (2 * d + 1)) (interB (2 * a) (2 * b + 1) (2 * c) (2 * d + 1)) := by
  refine ⟨40, fun k hk => ?_⟩
  obtain ⟨m, rfl⟩ := Nat.exists_eq_add_of_le' hk
  rcases four_of ha with rfl | rfl | rfl | rfl <;> rcases four_of hb with rfl | rfl | rfl | rfl <;> rcases four_of hc with rfl | rfl | rfl | rfl <;> rcases four_of hd with rfl | rfl | rfl | rfl <;> first | exact absurd rfl hac | exact absurd rfl hbd | (show spec_Interleave.f (m + 40) _ _ _ _ = some _; kernel_rfl)

theorem spec_InPlace_eq (a : Int) (h : 0 ≤ a ∧ a ≤ 3) : spec_InPlace.f a = some (2 * a) := by
  unfold spec_InPlace.f
  rw [spec_l1In_eq, Option.bind_some, if_pos (by simpa using h), w64 (by omega) (by omega)]

theorem spec_OutPlace_eq (a : Int) (h : 0 ≤ a ∧ a ≤ 3) : spec_OutPlace.f a = some (2 * a + 1) := by
  unfold spec_OutPlace.f
  rw [spec_l1In_eq, Option.bind_some, if_pos (by simpa using h), w64 (x := 2 * a) (by omega) (by omega), w64 (by omega) (by omega)]

theorem isPath_iff (a b c d : Int) : isPath a b c d = true ↔ (1 ≤ a ∧ a ≤ 20) ∧ (1 ≤ b ∧ b ≤ 3) ∧ (0 ≤ c ∧ c ≤ 3) ∧ (0 ≤ d ∧ d ≤ 3) ∧ ((c == d) == (b == 2)) = true := by simp only [isPath, Bool.and_eq_true, decide_eq_true_eq]
def confl (a1 a2 a3 b1 b2 b3 : Int) : Bool := if a1 = 2 then (b2 == a2 || b3 == a2) else if b1 = 2 then (a2 == b2 || a3 == b2) else if a2 = b2 then false else if a3 = b3 then true else interB (2 * a2) (2 * a3 + 1) (2 * b2) (2 * b3 + 1)
def conflict (a0 a1 a2 a3 b0 b1 b2 b3 : Int) : Bool := if isPath a0 a1 a2 a3 = true ∧ isPath b0 b1 b2 b3 = true ∧ ¬ (a1 = 2 ∧ b1 = 2) then confl a1 a2 a3 b1 b2 b3 else false
theorem spec_Conflict_ev (a0 a1 a2 a3 b0 b1 b2 b3 : Int) : Ev (fun k => spec_Conflict.f k a0 a1 a2 a3 b0 b1 b2 b3) (conflict a0 a1 a2 a3 b0 b1 b2 b3) := by
  have yes : Ev (fun k => spec_Conflict.j0 k true a0 a1 a2 a3 b0 b1 b2 b3) false := by
    refine shift ?_
    simp only [spec_Conflict.j0]
    exact pos trivial (now rfl)
  have no : isPath a0 a1 a2 a3 = true → isPath b0 b1 b2 b3 = true → Ev (fun k => spec_Conflict.j0 k false a0 a1 a2 a3 b0 b1 b2 b3) (confl a1 a2 a3 b1 b2 b3) := by
    intro h1 h2
    have h1 := (isPath_iff _ _ _ _).1 h1
    have h2 := (isPath_iff _ _ _ _).1 h2
    refine shift ?_
    simp only [spec_Conflict.j0]
    refine neg (by simp) ?_
    unfold confl
    by_cases c1 : a1 = 2
    · rw [if_pos c1]
      refine pos c1 ?_
      by_cases c2 : b2 = a2
      · exact pos c2 (now (by simp [c2]))
      · exact neg c2 (now (by simp [c2]))
    · rw [if_neg c1]
      refine neg c1 ?_
      by_cases c2 : b1 = 2
      · rw [if_pos c2]
        refine pos c2 ?_
        by_cases c3 : a2 = b2
        · exact pos c3 (now (by simp [c3]))
        · exact neg c3 (now (by simp [c3]))
      · rw [if_neg c2]
        refine neg c2 ?_
        by_cases c3 : a2 = b2
        · rw [if_pos c3]
          exact pos c3 (now rfl)
        · rw [if_neg c3]
          refine neg c3 ?_
          by_cases c4 : a3 = b3
          · rw [if_pos c4]
            exact pos c4 (now rfl)
          · rw [if_neg c4]
            exact neg c4 (bindc (spec_InPlace_eq _ h1.2.2.1) (bindc (spec_OutPlace_eq _ h1.2.2.2.1) (bindc (spec_InPlace_eq _ h2.2.2.1) (bindc (spec_OutPlace_eq _ h2.2.2.2.1) (Ev.bind (spec_Interleave_ev _ _ _ _ h1.2.2.1 h1.2.2.2.1 h2.2.2.1 h2.2.2.2.1 c3 c4) (now rfl))))))
  unfold spec_Conflict.f conflict
  refine bindc (spec_IsPath_eq _ _ _ _) ?_
  by_cases h1 : isPath a0 a1 a2 a3 = true
  · refine pos h1 (bindc (spec_IsPath_eq _ _ _ _) ?_)
    by_cases h2 : isPath b0 b1 b2 b3 = true
    · refine pos h2 ?_
      by_cases c1 : a1 = 2
      · refine pos c1 ?_
        by_cases c2 : b1 = 2
        · rw [if_neg (fun g => g.2.2 ⟨c1, c2⟩), show (b1 == 2) = true by simp [c2]]
          exact yes
        · rw [if_pos ⟨h1, h2, fun g => c2 g.2⟩, show (b1 == 2) = false by simp [c2]]
          exact no h1 h2
      · rw [if_pos ⟨h1, h2, fun g => c1 g.1⟩]
        exact neg c1 (no h1 h2)
    · rw [if_neg (fun g => h2 g.2.1)]
      exact neg h2 yes
  · rw [if_neg (fun g => h1 g.1)]
    exact neg h1 yes

def confAt (ps : List S82) (i j : Nat) : Bool := conflict (rd_T82 ps i).f0 (rd_T82 ps i).f1 (rd_T82 ps i).f2 (rd_T82 ps i).f3 (rd_T82 ps j).f0 (rd_T82 ps j).f1 (rd_T82 ps j).f2 (rd_T82 ps j).f3
def pairOk (ps : List S82) (row : List Int) (i j : Nat) : Bool := decide (rd row i = 0 ∨ rd row j = 0 ∨ confAt ps i j = false)
def lightAt (ps : List S82) (row : List Int) (i : Nat) : Bool := decide (0 ≤ rd row i ∧ rd row i ≤ 2) && (List.range i).all (pairOk ps row i)
def lightsOk (ps : List S82) (row : List Int) : Bool := arePaths ps && (decide (row.length = ps.length) && (List.range ps.length).all (lightAt ps row))
theorem lightsOk_iff (ps : List S82) (row : List Int) : lightsOk ps row = true ↔ arePaths ps = true ∧ row.length = ps.length ∧ (List.range ps.length).all (lightAt ps row) = true := by simp only [lightsOk, Bool.and_eq_true, decide_eq_true_eq]
theorem spec_IsSafeLights_ev (ps : List S82) (row : List Int) (hp : ps.length ≤ 1048576) : Ev (fun k => spec_IsSafeLights.f k ps row) (lightsOk ps row) := by
  unfold spec_IsSafeLights.f lightsOk
  have yes : Ev (fun k => spec_IsSafeLights.j0 k ps row true) false := by
    refine shift ?_
    simp only [spec_IsSafeLights.j0]
    exact pos trivial (now rfl)
  refine Ev.bind (spec_ArePaths_ev ps (by omega)) ?_
  by_cases h : arePaths ps = true
  · rw [h, Bool.true_and]
    refine pos rfl ?_
    by_cases hl : row.length = ps.length
    · rw [decide_eq_true hl, Bool.true_and, show ((row.length : Int) != (ps.length : Int)) = false by simp [hl]]
      refine shift ?_
      simp only [spec_IsSafeLights.j0]
      refine neg (by simp) ?_
      have good : ∀ (i j : Nat) (r : Bool), i < ps.length → j < i → pairOk ps row i j = true → Ev (fun k => spec_IsSafeLights.l1 k ps row (i : Int) ((j + 1 : Nat) : Int)) r → Ev (fun k => spec_IsSafeLights.l1 k ps row (i : Int) (j : Int)) r := by
        intro i j r hi hj ok hh
        simp only [pairOk, decide_eq_true_eq] at ok
        refine shift ?_
        simp only [spec_IsSafeLights.l1]
        rw [succ_wrap (by omega)]
        refine pos (nat_lt hj) (pos (by omega) (pos (by omega) ?_))
        by_cases c1 : rd row (i : Int) = 0
        · exact pos c1 hh
        · refine neg c1 (pos (by omega) (pos (by omega) ?_))
          by_cases c2 : rd row (j : Int) = 0
          · exact pos c2 hh
          · have c3 : confAt ps i j = false := by rcases ok with g | g | g; exact absurd g c1; exact absurd g c2; exact g
            refine neg c2 (pos (by omega) (pos (by omega) (Ev.bind (spec_Conflict_ev _ _ _ _ _ _ _ _) (neg ?_ hh))))
            show ¬ confAt ps i j = true
            simp [c3]
      have bad : ∀ (i j : Nat), i < ps.length → j < i → pairOk ps row i j = false → Ev (fun k => spec_IsSafeLights.l1 k ps row (i : Int) (j : Int)) false := by
        intro i j hi hj ok
        have ok : ¬ pairOk ps row i j = true := by simp [ok]
        simp only [pairOk, decide_eq_true_eq, not_or, Bool.not_eq_false] at ok
        refine shift ?_
        simp only [spec_IsSafeLights.l1]
        exact pos (nat_lt hj) (pos (by omega) (pos (by omega) (neg ok.1 (pos (by omega) (pos (by omega) (neg ok.2.1 (pos (by omega) (pos (by omega) (Ev.bind (spec_Conflict_ev _ _ _ _ _ _ _ _) (pos ok.2.2 (now rfl)))))))))))
      refine all_loop (g := fun k i => spec_IsSafeLights.l0 k ps row (i : Int)) ps.length (lightAt ps row) true ?_ ?_ ?_ |> (fun h => by simpa using h)
      · intro i r hi ok hh
        simp only [lightAt, Bool.and_eq_true, decide_eq_true_eq] at ok
        refine shift ?_
        simp only [spec_IsSafeLights.l0]
        refine pos (nat_lt hi) (pos (by omega) (pos (by omega) (bindc (spec_l1In_eq _ _ _) (pos (by simp; omega) ?_))))
        refine ok_loop (g := fun k j => spec_IsSafeLights.l1 k ps row (i : Int) (j : Int)) _ _ ok.2 (fun j r hj o g => good i j r hi hj o g) ?_
        refine shift ?_
        simp only [spec_IsSafeLights.l1]
        refine neg (nat_ge (Nat.le_refl _)) ?_
        rw [succ_wrap (by omega)]
        exact hh
      · intro i hi ok
        refine shift ?_
        simp only [spec_IsSafeLights.l0]
        refine pos (nat_lt hi) (pos (by omega) (pos (by omega) (bindc (spec_l1In_eq _ _ _) ?_)))
        by_cases c : 0 ≤ rd row (i : Int) ∧ rd row (i : Int) ≤ 2
        · have h2 : ¬ (List.range i).all (pairOk ps row i) = true := by
            intro h2
            rw [lightAt, h2, decide_eq_true c] at ok
            exact absurd ok (by decide)
          exact pos (by simpa using c) (bad_loop (g := fun k j => spec_IsSafeLights.l1 k ps row (i : Int) (j : Int)) _ _ _ h2 (fun j r hj o g => good i j r hi hj o g) (fun j hj o => bad i j hi hj o))
        · exact neg (by simpa using c) (now rfl)
      · refine shift ?_
        simp only [spec_IsSafeLights.l0]
        exact neg (nat_ge (Nat.le_refl _)) (now rfl)
    · rw [decide_eq_false hl, Bool.false_and, show ((row.length : Int) != (ps.length : Int)) = true by simp; omega]
      exact yes
  · exact neg h (same yes (by simp [h]))

def firstBad (ps : List S82) (l : List S80) : Nat → Nat → Int
  | 0, _ => -1
  | d + 1, j => if lightsOk ps (rd_T80 l j).f1 = true then firstBad ps l d (j + 1) else (rd_T80 l j).f0
def firstUnsafe (ps : List S82) (l : List S80) : Int := if isRecord l = true then firstBad ps l l.length 0 else -1
theorem spec_FirstUnsafe_ev (ps : List S82) (l : List S80) (hp : ps.length ≤ 1048576) (hl : l.length ≤ 1048577) (he : ∀ x ∈ l, x.f1.length ≤ 1048576) : Ev (fun k => spec_FirstUnsafe.f k ps l) (firstUnsafe ps l) := by
  unfold spec_FirstUnsafe.f firstUnsafe
  have hrec := spec_IsRecord_ev l hl he
  have stop : Ev (fun k => spec_FirstUnsafe.j1 k ps l (l.length : Int) false) (-1) := by
    refine shift ?_
    simp only [spec_FirstUnsafe.j1]
    exact neg (by decide) (now rfl)
  by_cases h : isRecord l = true
  · rw [if_pos h]
    rw [h] at hrec
    have : ∀ d j, j + d = l.length → Ev (fun k => spec_FirstUnsafe.l0 k ps l (j : Int)) (firstBad ps l d j) := by
      intro d
      induction d with
      | zero =>
        intro j hj
        have : j = l.length := by omega
        subst this
        refine shift ?_
        simp only [spec_FirstUnsafe.l0]
        exact neg (nat_ge (Nat.le_refl _)) stop
      | succ d ih =>
        intro j hj
        have hjl : j < l.length := by omega
        refine shift ?_
        simp only [spec_FirstUnsafe.l0]
        refine pos (nat_lt hjl) (Ev.bind hrec (shift ?_))
        simp only [spec_FirstUnsafe.j1]
        refine pos trivial (pos (by omega) (pos (nat_lt hjl) (Ev.bind (spec_IsSafeLights_ev ps _ hp) ?_)))
        rw [firstBad]
        by_cases c : lightsOk ps (rd_T80 l j).f1 = true
        · rw [if_pos c, succ_wrap (by omega)]
          exact pos c (ih (j + 1) (by omega))
        · rw [if_neg c]
          exact neg c (now rfl)
    simpa using this l.length 0 (by omega)
  · rw [if_neg h]
    refine shift ?_
    simp only [spec_FirstUnsafe.l0]
    have j1 : ∀ i : Int, Ev (fun k => spec_FirstUnsafe.j1 k ps l i false) (-1) := by
      intro i
      refine shift ?_
      simp only [spec_FirstUnsafe.j1]
      exact neg (by decide) (now rfl)
    by_cases c : (0 : Int) < (l.length : Int)
    · refine pos c (Ev.bind hrec ?_)
      rw [show isRecord l = false by simpa using h]
      exact j1 0
    · exact neg c (j1 0)

def cPath (x : S84) : S82 := ⟨x.f0, x.f1, x.f2, x.f3⟩
theorem laws_toPathS_ev (l : List S84) (hl : l.length ≤ 1048576) : Ev (fun k => laws_toPathS.f k l) (l.map cPath) := by
  unfold laws_toPathS.f
  refine pos (by omega) (pos (by omega) ?_)
  exact copied (g := fun k y i => laws_toPathS.l0 k l y i) l cPath z82 (fun j hj y r hy h => by
    refine shift ?_
    simp only [laws_toPathS.l0]
    refine pos (nat_lt hj) (pos (by omega) (bindc rfl (pos (by omega) ?_)))
    rw [succ_wrap (by omega)]
    simpa [rd_T84, cPath, hj] using h) (fun y => by
    refine shift ?_
    simp only [laws_toPathS.l0]
    exact neg (nat_ge (Nat.le_refl _)) (now rfl))

theorem laws_toIntS_ev (l : List Int) (hl : l.length ≤ 17592186044416) : Ev (fun k => laws_toIntS.f k l) l := by
  unfold laws_toIntS.f
  refine pos (by omega) (pos (by omega) ?_)
  have h := copied (g := fun k y i => laws_toIntS.l0 k l y i) l id 0 (fun j hj y r hy h => by
    refine shift ?_
    simp only [laws_toIntS.l0]
    refine pos (nat_lt hj) (pos (by omega) (pos (by omega) ?_))
    rw [rd_get _ _ hj, succ_wrap (by omega)]
    exact h) (fun y => by
    refine shift ?_
    simp only [laws_toIntS.l0]
    exact neg (nat_ge (Nat.le_refl _)) (now rfl))
  simpa using h

theorem laws_toEntry_ev (x : S77) (hl : x.f1.length ≤ 1048576) : Ev (fun k => laws_toEntry.f k x.f0 x.f1 x.f2) (x.f0, x.f1, x.f2) := by
  unfold laws_toEntry.f
  exact Ev.bind (laws_toIntS_ev x.f1 (by omega)) (now rfl)

def cEntry (x : S77) : S80 := ⟨x.f0, x.f1, x.f2⟩
theorem laws_toEntryS_ev (l : List S77) (hl : l.length ≤ 1048576) (he : ∀ x ∈ l, x.f1.length ≤ 1048576) : Ev (fun k => laws_toEntryS.f k l) (l.map cEntry) := by
  unfold laws_toEntryS.f
  refine pos (by omega) (pos (by omega) ?_)
  exact copied (g := fun k y i => laws_toEntryS.l0 k l y i) l cEntry z80 (fun j hj y r hy h => by
    refine shift ?_
    simp only [laws_toEntryS.l0]
    have hg : rd_T77 l (j : Int) = l[j] := by simp [rd_T77, hj]
    rw [hg]
    refine pos (nat_lt hj) (pos (by omega) (Ev.bind (laws_toEntry_ev _ (he _ (List.getElem_mem hj))) (pos (by omega) ?_)))
    rw [succ_wrap (by omega)]
    exact h) (fun y => by
    refine shift ?_
    simp only [laws_toEntryS.l0]
    exact neg (nat_ge (Nat.le_refl _)) (now rfl))
theorem cEntry_short (l : List S77) (he : ∀ x ∈ l, x.f1.length ≤ 1048576) : ∀ x ∈ l.map cEntry, x.f1.length ≤ 1048576 := by
  intro x hx
  obtain ⟨y, hy, rfl⟩ := List.mem_map.1 hx
  exact he y hy

theorem impl_InRange_eq (a b c : Int) : impl_InRange.f a b c = some (decide (b ≤ a ∧ a ≤ c)) := by
  unfold impl_InRange.f
  by_cases h : b ≤ a
  · rw [if_pos h]
    simp [h]
  · rw [if_neg h]
    simp [h]

theorem impl_Mod_eq (a m : Int) (h1 : 1 ≤ m) (h2 : m ≤ 1000000000000) : impl_Mod.f a m = some (a % m) := by
  unfold impl_Mod.f
  rw [impl_InRange_eq, Option.bind_some, if_pos (by simp [h1, h2]), if_neg (by omega)]
  have he := tmod_emod (a := a) (m := m) (by omega)
  have h3 := Int.emod_nonneg a (by omega : m ≠ 0)
  have h4 := Int.emod_lt_of_pos a (by omega : 0 < m)
  by_cases hn : Int.tmod a m < 0
  · rw [if_pos hn] at he
    rw [if_pos hn, w64 (by omega) (by omega), he]
    congr 1
    omega
  · rw [if_neg hn] at he
    rw [if_neg hn, he]

theorem impl_fold_eq (a v : Int) (h0 : 0 ≤ a) (h1 : a < 2147483647) : impl_fold.f a v = some (hstep a v) := by
  unfold impl_fold.f
  rw [impl_Mod_eq _ _ (by omega) (by omega), Option.bind_some, hstep_go a v h0 h1]

theorem impl_Hash_ev (l : List Int) (hl : l.length < 9223372036854775807) : Ev (fun k => impl_Hash.f k l) (l.foldl hstep 11) := by
  unfold impl_Hash.f
  refine loop (g := fun k j => impl_Hash.l0 k ((l.take j).foldl hstep 11) l (l.length : Int) (j : Int)) l.length ?_ ?_
  · intro j hj h
    refine shift ?_
    simp only [impl_Hash.l0]
    obtain ⟨b0, b1⟩ := hfold_range (l.take j) 11 (by omega) (by omega)
    refine pos (nat_lt hj) (pos (by omega) (pos (nat_lt hj) (bindc (impl_fold_eq _ _ b0 b1) ?_)))
    rw [rd_get _ _ hj, ← hfold_take l j hj, succ_wrap (by omega)]
    exact h
  · refine shift ?_
    simp only [impl_Hash.l0]
    exact neg (nat_ge (Nat.le_refl _)) (now (by rw [List.take_length]))


theorem impl_SealOf_ev (b s : Int) (l : List Int) (hl : l.length ≤ 1048576) : Ev (fun k => impl_SealOf.f k b s l) (sealL b s l) := by
  unfold impl_SealOf.f
  refine bindc rfl (pos (by simp; omega) (Ev.bind (impl_Hash_ev _ (by simp; omega)) (now rfl)))

theorem impl_IsRecord_lights (l : List S80) (n : Int) (j : Nat) (hx : (rd_T80 l j).f1.length ≤ 1048576) (i : Nat) (hi : i < (rd_T80 l j).f1.length) :
    (∀ r, okLight (rd_T80 l j).f1 i = true → Ev (fun k => impl_IsRecord.l1 k l l n (j : Int) (rd_T80 l j).f1 ((rd_T80 l j).f1.length : Int) ((i + 1 : Nat) : Int) (rd_T80 l j).f0 (rd_T80 l j).f1 (rd_T80 l j).f2) r → Ev (fun k => impl_IsRecord.l1 k l l n (j : Int) (rd_T80 l j).f1 ((rd_T80 l j).f1.length : Int) (i : Int) (rd_T80 l j).f0 (rd_T80 l j).f1 (rd_T80 l j).f2) r) ∧
    (okLight (rd_T80 l j).f1 i = false → Ev (fun k => impl_IsRecord.l1 k l l n (j : Int) (rd_T80 l j).f1 ((rd_T80 l j).f1.length : Int) (i : Int) (rd_T80 l j).f0 (rd_T80 l j).f1 (rd_T80 l j).f2) false) := by
  constructor
  · intro r ok h
    have ok : 0 ≤ rd (rd_T80 l j).f1 i ∧ rd (rd_T80 l j).f1 i ≤ 2 := by simpa [okLight] using ok
    refine shift ?_
    simp only [impl_IsRecord.l1]
    refine pos (nat_lt hi) (pos (by omega) (pos (nat_lt hi) (bindc (impl_InRange_eq _ _ _) (pos (by simp [ok]) ?_))))
    rw [succ_wrap (by omega)]
    exact h
  · intro ok
    have ok : ¬ (0 ≤ rd (rd_T80 l j).f1 i ∧ rd (rd_T80 l j).f1 i ≤ 2) := by simpa [okLight] using ok
    refine shift ?_
    simp only [impl_IsRecord.l1]
    exact pos (nat_lt hi) (pos (by omega) (pos (nat_lt hi) (bindc (impl_InRange_eq _ _ _) (neg (by simpa using ok) (now rfl)))))
theorem impl_IsRecord_in (l : List S80) (h60 : l.length ≤ 60) (he : ∀ x ∈ l, x.f1.length ≤ 1048576) : Ev (fun k => impl_IsRecord.l0 k l (prevSeal l 0) l (l.length : Int) 0) ((List.range l.length).all (okEntry l) && true) := by
  refine all_loop (g := fun k j => impl_IsRecord.l0 k l (prevSeal l j) l (l.length : Int) (j : Int)) l.length (okEntry l) true ?_ ?_ ?_
  · intro j r hj ok h
    have hx := entry_short l he j hj
    obtain ⟨⟨h1, h2, h3, h4, h5, h6⟩, hli⟩ := (okEntry_iff l j).1 ok
    have last : Ev (fun k => impl_IsRecord.j1 k l l (l.length : Int) (j : Int) ((rd_T80 l j).f2 != sealL (prevSeal l j) (rd_T80 l j).f0 (rd_T80 l j).f1) (rd_T80 l j).f0 (rd_T80 l j).f1 (rd_T80 l j).f2) r := by
      refine shift ?_
      simp only [impl_IsRecord.j1]
      refine neg (by rw [← h5]; simp) ?_
      refine ok_loop (g := fun k i => impl_IsRecord.l1 k l l (l.length : Int) (j : Int) (rd_T80 l j).f1 ((rd_T80 l j).f1.length : Int) (i : Int) (rd_T80 l j).f0 (rd_T80 l j).f1 (rd_T80 l j).f2) (rd_T80 l j).f1.length (okLight (rd_T80 l j).f1) hli (fun i r hi => (impl_IsRecord_lights l _ j hx i hi).1 r) (shift ?_)
      simp only [impl_IsRecord.l1]
      refine neg (nat_ge (Nat.le_refl _)) ?_
      rw [succ_wrap (by omega), ← prevSeal_succ]
      exact h
    refine shift ?_
    simp only [impl_IsRecord.l0]
    refine pos (nat_lt hj) (pos (by omega) (pos (nat_lt hj) (bindc (impl_InRange_eq _ _ _) (pos (by simp [h1, h2]) ?_))))
    by_cases h0 : (j : Int) > 0
    · rw [w64 (x := (j : Int) - 1) (by omega) (by omega)]
      exact pos h0 (pos (by omega) (pos (by omega) (neg (by have := h6 (by omega); omega) (neg (by omega) (pos (by omega) (pos (by omega) (Ev.bind (impl_SealOf_ev _ _ _ hx) last)))))))
    · exact neg h0 (neg (by omega) (pos (by omega) (pos (by omega) (Ev.bind (impl_SealOf_ev _ _ _ hx) last))))
  · intro j hj ok
    have hx := entry_short l he j hj
    have ok : ¬ (entryHead l j ∧ entryLights l j = true) := by rw [← okEntry_iff, ok]; simp
    unfold entryHead at ok
    have no : Ev (fun k => impl_IsRecord.j1 k l l (l.length : Int) (j : Int) true (rd_T80 l j).f0 (rd_T80 l j).f1 (rd_T80 l j).f2) false := by
      refine shift ?_
      simp only [impl_IsRecord.j1]
      exact pos (by simp) (now rfl)
    refine shift ?_
    simp only [impl_IsRecord.l0]
    refine pos (nat_lt hj) (pos (by omega) (pos (nat_lt hj) (bindc (impl_InRange_eq _ _ _) ?_)))
    by_cases h1 : 0 ≤ (rd_T80 l j).f0 ∧ (rd_T80 l j).f0 ≤ 1000000
    · refine pos (by simp [h1]) ?_
      have more : (0 < j → (rd_T80 l ((j : Int) - 1)).f0 < (rd_T80 l j).f0) → (rd_T80 l j).f1.length ≤ 12 → (rd_T80 l j).f1.length = (rd_T80 l 0).f1.length →
          Ev (fun k => impl_IsRecord.j1 k l l (l.length : Int) (j : Int) ((rd_T80 l j).f2 != sealL (prevSeal l j) (rd_T80 l j).f0 (rd_T80 l j).f1) (rd_T80 l j).f0 (rd_T80 l j).f1 (rd_T80 l j).f2) false := by
        intro h6 h3 h4
        by_cases h5 : (rd_T80 l j).f2 = sealL (prevSeal l j) (rd_T80 l j).f0 (rd_T80 l j).f1
        · have hli : ¬ entryLights l j = true := fun q => ok ⟨⟨h1.1, h1.2, h3, h4, h5, h6⟩, q⟩
          refine shift ?_
          simp only [impl_IsRecord.j1]
          refine neg (by rw [← h5]; simp) ?_
          exact bad_loop (g := fun k i => impl_IsRecord.l1 k l l (l.length : Int) (j : Int) (rd_T80 l j).f1 ((rd_T80 l j).f1.length : Int) (i : Int) (rd_T80 l j).f0 (rd_T80 l j).f1 (rd_T80 l j).f2) (rd_T80 l j).f1.length (okLight (rd_T80 l j).f1) false hli (fun i r hi => (impl_IsRecord_lights l _ j hx i hi).1 r) (fun i hi => (impl_IsRecord_lights l _ j hx i hi).2)
        · rw [show ((rd_T80 l j).f2 != sealL (prevSeal l j) (rd_T80 l j).f0 (rd_T80 l j).f1) = true by simpa using h5]
          exact no
      by_cases h0 : (j : Int) > 0
      · rw [w64 (x := (j : Int) - 1) (by omega) (by omega)]
        refine pos h0 (pos (by omega) (pos (by omega) ?_))
        by_cases h6 : (rd_T80 l ((j : Int) - 1)).f0 < (rd_T80 l j).f0
        · refine neg (by omega) ?_
          by_cases h3 : (rd_T80 l j).f1.length ≤ 12
          · refine neg (by omega) (pos (by omega) ?_)
            by_cases h4 : (rd_T80 l j).f1.length = (rd_T80 l 0).f1.length
            · exact pos (by omega) (Ev.bind (impl_SealOf_ev _ _ _ hx) (more (fun _ => h6) h3 h4))
            · exact neg (by omega) no
          · exact pos (by omega) no
        · exact pos (by omega) no
      · refine neg h0 ?_
        by_cases h3 : (rd_T80 l j).f1.length ≤ 12
        · refine neg (by omega) (pos (by omega) ?_)
          by_cases h4 : (rd_T80 l j).f1.length = (rd_T80 l 0).f1.length
          · exact pos (by omega) (Ev.bind (impl_SealOf_ev _ _ _ hx) (more (fun q => absurd q (by omega)) h3 h4))
          · exact neg (by omega) no
        · exact pos (by omega) no
    · exact neg (by simpa using h1) no
  · refine shift ?_
    simp only [impl_IsRecord.l0]
    exact neg (nat_ge (Nat.le_refl _)) (now rfl)
theorem impl_IsRecord_ev (l : List S80) (hl : l.length ≤ 1048577) (he : ∀ x ∈ l, x.f1.length ≤ 1048576) : Ev (fun k => impl_IsRecord.f k l) (isRecord l) := by
  unfold impl_IsRecord.f isRecord
  by_cases h60 : l.length ≤ 60
  · rw [decide_eq_true h60]
    exact neg (by omega) (impl_IsRecord_in l h60 he)
  · rw [decide_eq_false h60, Bool.and_false]
    exact pos (by omega) (now rfl)

theorem impl_IsPath_eq (a b c d : Int) : impl_IsPath.f a b c d = some (isPath a b c d) := by
  unfold impl_IsPath.f isPath
  simp only [impl_InRange_eq, Option.bind_some]
  by_cases h1 : 1 ≤ a ∧ a ≤ 20 <;> by_cases h2 : 1 ≤ b ∧ b ≤ 3 <;> by_cases h3 : 0 ≤ c ∧ c ≤ 3 <;> by_cases h4 : 0 ≤ d ∧ d ≤ 3 <;> simp [h1, h2, h3, h4]

theorem impl_ArePaths_ev (l : List S82) : Ev (fun k => impl_ArePaths.f k l) (arePaths l) := by
  unfold impl_ArePaths.f arePaths
  by_cases hr : l.length ≤ 12
  · rw [decide_eq_true hr]
    refine neg (by omega) (all_loop (g := fun k j => impl_ArePaths.l0 k l l (l.length : Int) (j : Int)) l.length (pathAt l) _ ?_ ?_ ?_)
    · intro j r hj ok h
      simp only [pathAt, Bool.and_eq_true, decide_eq_true_eq] at ok
      refine shift ?_
      simp only [impl_ArePaths.l0]
      refine pos (nat_lt hj) (pos (by omega) (pos (nat_lt hj) (bindc (impl_IsPath_eq _ _ _ _) (pos ok.1 ?_))))
      rw [succ_wrap (by omega)]
      by_cases h0 : (j : Int) > 0
      · rw [w64 (by omega) (by omega)]
        exact pos h0 (pos (by omega) (pos (by omega) (neg (by have := ok.2 (by omega); omega) h)))
      · exact neg h0 h
    · intro j hj ok
      refine shift ?_
      simp only [impl_ArePaths.l0]
      refine pos (nat_lt hj) (pos (by omega) (pos (nat_lt hj) (bindc (impl_IsPath_eq _ _ _ _) ?_)))
      by_cases h1 : isPath (rd_T82 l j).f0 (rd_T82 l j).f1 (rd_T82 l j).f2 (rd_T82 l j).f3 = true
      · refine pos h1 ?_
        have h2 : ¬ (0 < j → (rd_T82 l ((j : Int) - 1)).f0 < (rd_T82 l j).f0) := by simpa [pathAt, h1] using ok
        rw [w64 (x := (j : Int) - 1) (by omega) (by omega)]
        exact pos (by omega) (pos (by omega) (pos (by omega) (pos (by omega) (now rfl))))
      · exact neg h1 (now rfl)
    · refine shift ?_
      simp only [impl_ArePaths.l0]
      exact neg (nat_ge (Nat.le_refl _)) (now rfl)
  · rw [decide_eq_false hr, Bool.and_false]
    exact pos (by omega) (now rfl)

set_option maxRecDepth 10000 in
theorem impl_Interleave_ev (a b c d : Int) (ha : 0 ≤ a ∧ a ≤ 3) (hb : 0 ≤ b ∧ b ≤ 3) (hc : 0 ≤ c ∧ c ≤ 3) (hd : 0 ≤ d ∧ d ≤ 3) : Ev (fun k => impl_Interleave.f k (2 * a) (2 * b + 1) (2 * c) (2 * d + 1)) (if a = c ∨ b = d then false else interB (2 * a) (2 * b + 1) (2 * c) (2 * d + 1)) := by
  refine ⟨10, fun k hk => ?_⟩
  obtain ⟨m, rfl⟩ := Nat.exists_eq_add_of_le' hk
  rcases four_of ha with rfl | rfl | rfl | rfl <;> rcases four_of hb with rfl | rfl | rfl | rfl <;> rcases four_of hc with rfl | rfl | rfl | rfl <;> rcases four_of hd with rfl | rfl | rfl | rfl <;> (show impl_Interleave.f (m + 10) _ _ _ _ = some _; kernel_rfl)

theorem impl_InPlace_eq (a : Int) (h : 0 ≤ a ∧ a ≤ 3) : impl_InPlace.f a = some (2 * a) := by
  unfold impl_InPlace.f
  rw [impl_InRange_eq, Option.bind_some, if_pos (by simpa using h), w64 (by omega) (by omega)]

theorem impl_OutPlace_eq (a : Int) (h : 0 ≤ a ∧ a ≤ 3) : impl_OutPlace.f a = some (2 * a + 1) := by
  unfold impl_OutPlace.f
  rw [impl_InRange_eq, Option.bind_some, if_pos (by simpa using h), w64 (x := 2 * a) (by omega) (by omega), w64 (by omega) (by omega)]

theorem impl_Conflict_ev (a0 a1 a2 a3 b0 b1 b2 b3 : Int) : Ev (fun k => impl_Conflict.f k a0 a1 a2 a3 b0 b1 b2 b3) (conflict a0 a1 a2 a3 b0 b1 b2 b3) := by
  have yes : Ev (fun k => impl_Conflict.j0 k true a0 a1 a2 a3 b0 b1 b2 b3) false := by
    refine shift ?_
    simp only [impl_Conflict.j0]
    exact pos trivial (now rfl)
  have no : isPath a0 a1 a2 a3 = true → isPath b0 b1 b2 b3 = true → Ev (fun k => impl_Conflict.j0 k false a0 a1 a2 a3 b0 b1 b2 b3) (confl a1 a2 a3 b1 b2 b3) := by
    intro h1 h2
    have h1 := (isPath_iff _ _ _ _).1 h1
    have h2 := (isPath_iff _ _ _ _).1 h2
    refine shift ?_
    simp only [impl_Conflict.j0]
    refine neg (by simp) ?_
    unfold confl
    by_cases c1 : a1 = 2
    · rw [if_pos c1]
      refine pos c1 ?_
      by_cases c2 : b2 = a2
      · exact pos c2 (now (by simp [c2]))
      · exact neg c2 (now (by simp [c2]))
    · rw [if_neg c1]
      refine neg c1 ?_
      by_cases c2 : b1 = 2
      · rw [if_pos c2]
        refine pos c2 ?_
        by_cases c3 : a2 = b2
        · exact pos c3 (now (by simp [c3]))
        · exact neg c3 (now (by simp [c3]))
      · rw [if_neg c2]
        refine neg c2 ?_
        by_cases c3 : a2 = b2
        · rw [if_pos c3]
          have hi := impl_Interleave_ev a2 a3 b2 b3 h1.2.2.1 h1.2.2.2.1 h2.2.2.1 h2.2.2.2.1
          rw [if_pos (.inl c3)] at hi
          exact pos c3 (bindc (impl_InPlace_eq _ h1.2.2.1) (bindc (impl_OutPlace_eq _ h1.2.2.2.1) (bindc (impl_InPlace_eq _ h2.2.2.1) (bindc (impl_OutPlace_eq _ h2.2.2.2.1) (Ev.bind hi (now rfl))))))
        · rw [if_neg c3]
          refine neg c3 ?_
          by_cases c4 : a3 = b3
          · rw [if_pos c4]
            exact pos c4 (now rfl)
          · rw [if_neg c4]
            have hi := impl_Interleave_ev a2 a3 b2 b3 h1.2.2.1 h1.2.2.2.1 h2.2.2.1 h2.2.2.2.1
            rw [if_neg (fun g => g.elim c3 c4)] at hi
            exact neg c4 (bindc (impl_InPlace_eq _ h1.2.2.1) (bindc (impl_OutPlace_eq _ h1.2.2.2.1) (bindc (impl_InPlace_eq _ h2.2.2.1) (bindc (impl_OutPlace_eq _ h2.2.2.2.1) (Ev.bind hi (now rfl))))))
  unfold impl_Conflict.f conflict
  refine bindc (impl_IsPath_eq _ _ _ _) ?_
  by_cases h1 : isPath a0 a1 a2 a3 = true
  · refine pos h1 (bindc (impl_IsPath_eq _ _ _ _) ?_)
    by_cases h2 : isPath b0 b1 b2 b3 = true
    · refine pos h2 ?_
      by_cases c1 : a1 = 2
      · refine pos c1 ?_
        by_cases c2 : b1 = 2
        · rw [if_neg (fun g => g.2.2 ⟨c1, c2⟩), show (b1 == 2) = true by simp [c2]]
          exact yes
        · rw [if_pos ⟨h1, h2, fun g => c2 g.2⟩, show (b1 == 2) = false by simp [c2]]
          exact no h1 h2
      · rw [if_pos ⟨h1, h2, fun g => c1 g.1⟩]
        exact neg c1 (no h1 h2)
    · rw [if_neg (fun g => h2 g.2.1)]
      exact neg h2 yes
  · rw [if_neg (fun g => h1 g.1)]
    exact neg h1 yes

theorem impl_IsSafeLights_ev (ps : List S82) (row : List Int) (hp : ps.length ≤ 1048576) : Ev (fun k => impl_IsSafeLights.f k ps row) (lightsOk ps row) := by
  unfold impl_IsSafeLights.f lightsOk
  have yes : Ev (fun k => impl_IsSafeLights.j0 k ps row true) false := by
    refine shift ?_
    simp only [impl_IsSafeLights.j0]
    exact pos trivial (now rfl)
  refine Ev.bind (impl_ArePaths_ev ps) ?_
  by_cases h : arePaths ps = true
  · rw [h, Bool.true_and]
    refine pos rfl ?_
    by_cases hl : row.length = ps.length
    · rw [decide_eq_true hl, Bool.true_and, show ((row.length : Int) != (ps.length : Int)) = false by simp [hl]]
      refine shift ?_
      simp only [impl_IsSafeLights.j0]
      refine neg (by simp) ?_
      have ht : ∀ (i j : Nat), j < i → rd_T82 (ps.take i) (j : Int) = rd_T82 ps (j : Int) := by
        intro i j hj
        simp [rd_T82, List.getD_eq_getElem?_getD, List.getElem?_take, hj]
      have hlen : ∀ i : Nat, i < ps.length → (ps.take i).length = i := fun i hi => by rw [List.length_take]; omega
      have good : ∀ (i j : Nat) (r : Bool), i < ps.length → j < i → pairOk ps row i j = true → Ev (fun k => impl_IsSafeLights.l1 k ps row (i : Int) ps (ps.length : Int) (i : Int) (ps.take i) (i : Int) ((j + 1 : Nat) : Int) (rd_T82 ps i).f0 (rd_T82 ps i).f1 (rd_T82 ps i).f2 (rd_T82 ps i).f3) r → Ev (fun k => impl_IsSafeLights.l1 k ps row (i : Int) ps (ps.length : Int) (i : Int) (ps.take i) (i : Int) (j : Int) (rd_T82 ps i).f0 (rd_T82 ps i).f1 (rd_T82 ps i).f2 (rd_T82 ps i).f3) r := by
        intro i j r hi hj ok hh
        simp only [pairOk, decide_eq_true_eq] at ok
        refine shift ?_
        simp only [impl_IsSafeLights.l1]
        rw [succ_wrap (by omega), ht i j hj]
        refine pos (nat_lt hj) (pos (by omega) (pos (by have := hlen i hi; omega) (Ev.bind (impl_Conflict_ev _ _ _ _ _ _ _ _) ?_)))
        by_cases c3 : confAt ps i j = true
        · refine pos c3 (pos (by omega) (pos (by omega) ?_))
          by_cases c1 : rd row (i : Int) = 0
          · exact pos c1 hh
          · have c2 : rd row (j : Int) = 0 := by rcases ok with g | g | g; exact absurd g c1; exact g; simp [c3] at g
            exact neg c1 (pos (by omega) (pos c2 hh))
        · exact neg c3 hh
      have bad : ∀ (i j : Nat), i < ps.length → j < i → pairOk ps row i j = false → Ev (fun k => impl_IsSafeLights.l1 k ps row (i : Int) ps (ps.length : Int) (i : Int) (ps.take i) (i : Int) (j : Int) (rd_T82 ps i).f0 (rd_T82 ps i).f1 (rd_T82 ps i).f2 (rd_T82 ps i).f3) false := by
        intro i j hi hj ok
        have ok : ¬ pairOk ps row i j = true := by simp [ok]
        simp only [pairOk, decide_eq_true_eq, not_or, Bool.not_eq_false] at ok
        refine shift ?_
        simp only [impl_IsSafeLights.l1]
        rw [ht i j hj]
        exact pos (nat_lt hj) (pos (by omega) (pos (by have := hlen i hi; omega) (Ev.bind (impl_Conflict_ev _ _ _ _ _ _ _ _) (pos ok.2.2 (pos (by omega) (pos (by omega) (neg ok.1 (pos (by omega) (neg ok.2.1 (now rfl))))))))))
      refine all_loop (g := fun k i => impl_IsSafeLights.l0 k ps row ps (ps.length : Int) (i : Int)) ps.length (lightAt ps row) true ?_ ?_ ?_ |> (fun h => by simpa using h)
      · intro i r hi ok hh
        simp only [lightAt, Bool.and_eq_true, decide_eq_true_eq] at ok
        refine shift ?_
        simp only [impl_IsSafeLights.l0]
        refine pos (nat_lt hi) (pos (by omega) (pos (nat_lt hi) (pos (by omega) (bindc (impl_InRange_eq _ _ _) (pos (by simp; omega) (pos (by omega) (bindc rfl ?_)))))))
        rw [Int.toNat_natCast, hlen i hi]
        refine ok_loop (g := fun k j => impl_IsSafeLights.l1 k ps row (i : Int) ps (ps.length : Int) (i : Int) (ps.take i) (i : Int) (j : Int) (rd_T82 ps i).f0 (rd_T82 ps i).f1 (rd_T82 ps i).f2 (rd_T82 ps i).f3) _ _ ok.2 (fun j r hj o g => good i j r hi hj o g) ?_
        refine shift ?_
        simp only [impl_IsSafeLights.l1]
        refine neg (nat_ge (Nat.le_refl _)) ?_
        rw [succ_wrap (by omega)]
        exact hh
      · intro i hi ok
        refine shift ?_
        simp only [impl_IsSafeLights.l0]
        refine pos (nat_lt hi) (pos (by omega) (pos (nat_lt hi) (pos (by omega) (bindc (impl_InRange_eq _ _ _) ?_))))
        by_cases c : 0 ≤ rd row (i : Int) ∧ rd row (i : Int) ≤ 2
        · have h2 : ¬ (List.range i).all (pairOk ps row i) = true := by
            intro h2
            rw [lightAt, h2, decide_eq_true c] at ok
            exact absurd ok (by decide)
          refine pos (by simpa using c) (pos (by omega) (bindc rfl ?_))
          rw [Int.toNat_natCast, hlen i hi]
          exact bad_loop (g := fun k j => impl_IsSafeLights.l1 k ps row (i : Int) ps (ps.length : Int) (i : Int) (ps.take i) (i : Int) (j : Int) (rd_T82 ps i).f0 (rd_T82 ps i).f1 (rd_T82 ps i).f2 (rd_T82 ps i).f3) _ _ _ h2 (fun j r hj o g => good i j r hi hj o g) (fun j hj o => bad i j hi hj o)
        · exact neg (by simpa using c) (now rfl)
      · refine shift ?_
        simp only [impl_IsSafeLights.l0]
        exact neg (nat_ge (Nat.le_refl _)) (now rfl)
    · rw [decide_eq_false hl, Bool.false_and, show ((row.length : Int) != (ps.length : Int)) = true by simp; omega]
      exact yes
  · exact neg h (same yes (by simp [h]))

theorem impl_FirstUnsafe_ev (ps : List S82) (l : List S80) (hp : ps.length ≤ 1048576) (hl : l.length ≤ 1048577) (he : ∀ x ∈ l, x.f1.length ≤ 1048576) : Ev (fun k => impl_FirstUnsafe.f k ps l) (firstUnsafe ps l) := by
  unfold impl_FirstUnsafe.f firstUnsafe
  refine Ev.bind (impl_IsRecord_ev l hl he) ?_
  by_cases h : isRecord l = true
  · rw [if_pos h]
    refine pos h ?_
    have : ∀ d j, j + d = l.length → Ev (fun k => impl_FirstUnsafe.l0 k ps l (l.length : Int) (j : Int)) (firstBad ps l d j) := by
      intro d
      induction d with
      | zero =>
        intro j hj
        refine shift ?_
        simp only [impl_FirstUnsafe.l0]
        exact neg (by omega) (now rfl)
      | succ d ih =>
        intro j hj
        have hjl : j < l.length := by omega
        refine shift ?_
        simp only [impl_FirstUnsafe.l0]
        refine pos (nat_lt hjl) (pos (by omega) (pos (nat_lt hjl) (Ev.bind (impl_IsSafeLights_ev ps _ hp) ?_)))
        rw [firstBad]
        by_cases c : lightsOk ps (rd_T80 l j).f1 = true
        · rw [if_pos c, succ_wrap (by omega)]
          exact pos c (ih (j + 1) (by omega))
        · rw [if_neg c]
          exact neg c (now rfl)
    simpa using this l.length 0 (by omega)
  · rw [if_neg h]
    exact neg h (now rfl)

theorem laws_eqPathS_refl (l : List S82) (hl : l.length < 9223372036854775807) : Ev (fun k => laws_eqPathS.f k l l) true := by
  unfold laws_eqPathS.f
  refine pos rfl (loop (g := fun k j => laws_eqPathS.l0 k l l (j : Int)) l.length ?_ ?_)
  · intro j hj h
    refine shift ?_
    simp only [laws_eqPathS.l0]
    refine pos (nat_lt hj) (pos (by omega) (pos (nat_lt hj) (bindc (a := true) (by simp [laws_eqPath.f]) (pos (by simp) ?_))))
    rw [succ_wrap (by omega)]
    exact h
  · refine shift ?_
    simp only [laws_eqPathS.l0]
    exact neg (nat_ge (Nat.le_refl _)) (now rfl)

theorem laws_eqIntS_refl (l : List Int) (hl : l.length < 9223372036854775807) : Ev (fun k => laws_eqIntS.f k l l) true := by
  unfold laws_eqIntS.f
  refine pos rfl (loop (g := fun k j => laws_eqIntS.l0 k l l (j : Int)) l.length ?_ ?_)
  · intro j hj h
    refine shift ?_
    simp only [laws_eqIntS.l0]
    refine pos (nat_lt hj) (pos (by omega) (pos (nat_lt hj) (pos (by simp) ?_)))
    rw [succ_wrap (by omega)]
    exact h
  · refine shift ?_
    simp only [laws_eqIntS.l0]
    exact neg (nat_ge (Nat.le_refl _)) (now rfl)

theorem laws_eqEntry_refl (x : S80) (hl : x.f1.length < 9223372036854775807) : Ev (fun k => laws_eqEntry.f k x.f0 x.f1 x.f2 x.f0 x.f1 x.f2) true := by
  unfold laws_eqEntry.f
  repeat (first | exact now rfl | refine pos rfl ?_ | refine Ev.bind (laws_eqIntS_refl x.f1 hl) ?_)

theorem laws_eqEntryS_refl (l : List S80) (hl : l.length ≤ 1048576) (he : ∀ x ∈ l, x.f1.length ≤ 1048576) : Ev (fun k => laws_eqEntryS.f k l l) true := by
  unfold laws_eqEntryS.f
  refine pos rfl (loop (g := fun k j => laws_eqEntryS.l0 k l l (j : Int)) l.length ?_ ?_)
  · intro j hj h
    refine shift ?_
    simp only [laws_eqEntryS.l0]
    have hg : rd_T80 l (j : Int) = l[j] := by simp [rd_T80, hj]
    rw [hg]
    refine pos (nat_lt hj) (pos (by omega) (pos (nat_lt hj) (Ev.bind (laws_eqEntry_refl _ (by have := he _ (List.getElem_mem hj); omega)) (pos rfl ?_))))
    rw [succ_wrap (by omega)]
    exact h
  · refine shift ?_
    simp only [laws_eqEntryS.l0]
    exact neg (nat_ge (Nat.le_refl _)) (now rfl)

theorem FnExactFirstUnsafe (p : List S84) (hp : wfS 32 wf84 p) (l : List S77) (hw : wfS 40 wf77 l) : ∃ k, laws_FnExactFirstUnsafe.f k p l = some true := by
  refine Ev.rounds ?_
  have hm := hw.2.1
  have hm0 := hp.2.1
  have hme : ∀ x ∈ l, x.f1.length ≤ 140737488355328 := fun x hx => by have := (hw.2.2 x hx).2.1.2.1; omega
  unfold laws_FnExactFirstUnsafe.f
  obtain ⟨q, hq, hq2, hpl⟩ := laws_szPathS_eq p 1048576 (by omega) (by omega) (by omega)
  refine bindc hq ?_
  by_cases h0 : q < 0
  · exact pos h0 (now rfl)
  have hpl := hpl h0
  have hpc : (p.map cPath).length ≤ 1048576 := by simpa using hpl
  obtain ⟨r, hr, _, hl⟩ := laws_szEntryS_ev l q (by omega) (by omega) (by omega) hme
  refine neg h0 (Ev.bind hr ?_)
  by_cases h : r < 0
  · exact pos h (now rfl)
  obtain ⟨hl, he⟩ := hl h
  have hc : (l.map cEntry).length ≤ 1048577 := by simp; omega
  have hc0 : (l.map cEntry).length ≤ 1048576 := by simpa using hl
  have he2 := cEntry_short l he
  refine neg h (Ev.bind (laws_toPathS_ev p hpl) (Ev.bind (laws_toEntryS_ev l hl he) (Ev.bind (spec_FirstUnsafe_ev _ _ hpc hc he2) (Ev.bind (laws_toPathS_ev p hpl) (Ev.bind (laws_toEntryS_ev l hl he) (Ev.bind (impl_FirstUnsafe_ev _ _ hpc hc he2) ?_))))))
  exact pos rfl (Ev.bind (laws_toPathS_ev p hpl) (Ev.bind (laws_eqPathS_refl _ (by omega)) (pos rfl (Ev.bind (laws_toEntryS_ev l hl he) (Ev.bind (laws_eqEntryS_refl _ hc0 he2) (pos rfl (now rfl)))))))

end Go.Proofs.Ytfamneflndhjpaa.PureFnExactFirstUnsafe
end

section
namespace Go.Proofs.Ytfamneflndhjpaa.fnExactFirstUnsafe
open Go.ChangeShapes Go.WideShapes Go.ChangeAt Go.RowKit
open Go.Proofs.YtfamneflndhjpaaW.PrintWords Go.Proofs.Ytfamneflndhjpaa.PPlan Go.Proofs.Ytfamneflndhjpaa.Opens Go.Proofs.Ytfamneflndhjpaa.Aid Go.Proofs.Ytfamneflndhjpaa.PureFnExactFirstUnsafe
set_option linter.unusedVariables false
theorem own : ownKnob Try.prog.godebug = none := by kernel_rfl
theorem laidOut : laidOutB Try.prog = true := by kernel_rfl
theorem o84 : Opens Try.prog 84 k84 wf84 := opens_struct (fun x : S84 => (x.f0, x.f1, x.f2, x.f3)) (fun p => (⟨p.1, p.2.1, p.2.2.1, p.2.2.2⟩ : S84)) (fun _ => rfl) Try.underlying84 (by kernel_rfl) (opensF_cons rfl (opens_int Try.underlying3 (by kernel_rfl)) (opensF_cons rfl (opens_int Try.underlying3 (by kernel_rfl)) (opensF_cons rfl (opens_int Try.underlying3 (by kernel_rfl)) (opensF_last rfl (opens_int Try.underlying3 (by kernel_rfl))))))
theorem o77 : Opens Try.prog 77 k77 wf77 := opens_struct (fun x : S77 => (x.f0, x.f1, x.f2)) (fun p => (⟨p.1, p.2.1, p.2.2⟩ : S77)) (fun _ => rfl) Try.underlying77 (by kernel_rfl) (opensF_cons rfl (opens_int Try.underlying3 (by kernel_rfl)) (opensF_cons rfl (opens_slice Try.underlying35 (by kernel_rfl) (B := 8) (by kernel_rfl) (opens_int Try.underlying3 (by kernel_rfl))) (opensF_last rfl (opens_int Try.underlying3 (by kernel_rfl)))))
theorem arg0 : Opens Try.prog 22 (Kd.slice 84 k84) (wfS 32 wf84) := (opens_slice Try.underlying22 (by kernel_rfl) (B := 32) (by kernel_rfl) o84)
theorem arg1 : Opens Try.prog 23 (Kd.slice 77 k77) (wfS 40 wf77) := (opens_slice Try.underlying23 (by kernel_rfl) (B := 40) (by kernel_rfl) o77)
set_option maxRecDepth 100000 in
theorem lifted (os : Os) (started : os.Started) (H : Type) (enc : TypeId × Value → H) :
    ReturnsInHanded {} Try.checked os 3 .any (Rows.fnExactFirstUnsafeSpec.pre6 enc Try.prog Try.f3 Rows.fnExactFirstUnsafeRow.domain false) (Rows.fnExactFirstUnsafeSpec.post enc Try.prog Try.f3 false true false false) := by
  refine returnsInHanded_of_change_sized (C := Try.checked) own started (by kernel_rfl) Try.func3
    (ChangeSpec.witness6 (enc := enc) (C := Try.checked) false ⟨#[], #[.slice none 0 0, .slice none 0 0], []⟩ 8 (by kernel_rfl) (by kernel_rfl) (by kernel_rfl) (by kernel_rfl)) ?_
  intro W base args ds gs before hval0 hW hcnd hsz0 _
  have hsz : (DataW.weightsEach Try.prog (Try.f3.params.toList ++ Rows.fnExactFirstUnsafeSpec.plain.varTypes Try.prog) (ds ++ gs)).all (· ≤ reachBytes) = true := hsz0
  have hval : ∀ (j : Nat) t v, Try.f3.params[j]? = some t → args[j]? = some v → Value.okWide Try.prog W .any base t v := hval0
  have hW' := hW
  obtain ⟨p, q, hA0, hV, rfl, hfz, hnd⟩ := hW
  have hA : DataW.TrodAll enc Try.prog W 0 (fun _ => true) true Try.f3.params.toList args.toList ds p := hA0
  rw [Try.params3] at hA hval hsz
  obtain ⟨v0, vs0, d0, ds0, p0, q0, hargs, rfl, rfl, h0, r0⟩ := trodAll_cons hA
  obtain ⟨v1, vs1, d1, ds1, p1, q1, rfl, rfl, rfl, h1, r1⟩ := trodAll_cons r0
  obtain ⟨rfl, rfl, rfl⟩ := trodAll_nil r1
  obtain rfl : args = #[v0, v1] := by cases args; simp_all
  obtain ⟨rfl, rfl⟩ := trodVars_none hV
  have k0 := h0
  have lt0 : ∀ x ∈ p0, x.block < W.heap.size := by obtain ⟨m, hm⟩ := k0; exact DataW.trod_lt m _ _ _ hm
  obtain ⟨x0, hK0, hW0⟩ := opens_arg arg0 hsz (j := 0) rfl rfl h0
  obtain ⟨A0, c0, rfl, hc0, hC0⟩ := opens_row Try.underlying22 (hval 0 22 v0 rfl rfl) hK0
  have k1 := h1
  have lt1 : ∀ x ∈ p1, x.block < W.heap.size := by obtain ⟨m, hm⟩ := k1; exact DataW.trod_lt m _ _ _ hm
  obtain ⟨x1, hK1, hW1⟩ := opens_arg arg1 hsz (j := 1) rfl rfl h1
  obtain ⟨A1, c1, rfl, hc1, hC1⟩ := opens_row Try.underlying23 (hval 1 23 v1 rfl rfl) hK1
  clear hA0 hval0 hsz0 hsz
  obtain ⟨k, hk⟩ := Go.Proofs.Ytfamneflndhjpaa.PureFnExactFirstUnsafe.FnExactFirstUnsafe x0 hW0 x1 hW1
  refine (laws_FnExactFirstUnsafe.calls k _ _ x0 _ _ x1 true W hC0 hc0 hC1 hc1 hk).mono fun e W' ⟨he, bel0⟩ => ?_
  have bel : Below W.heap.size W W' := by first | exact bel0 | exact bel0.below
  subst he
  exact ⟨_, rfl, _, _, _, [], _, [], hW', trodAll_mk1 (shut_bool Try.underlying4 _), (trodAll_cons_mk (Below.trod laidOut (by kernel_rfl) (of_decide_eq_true (by kernel_rfl)) k0 bel lt0) (trodAll_cons_mk (Below.trod laidOut (by kernel_rfl) (of_decide_eq_true (by kernel_rfl)) k1 bel lt1) trodAll_mk0)), rfl, bel.frame _, fun h => by cases h⟩
theorem over : Rows.fnExactFirstUnsafeRow.holds Try.pinned (OpenSpec.ofChange Rows.fnExactFirstUnsafeSpec) :=
  OpenClaim.holds_of_wide 3 Try.f3 rfl rfl rfl rfl rfl rfl rfl ⟨rfl, rfl, rfl, rfl, rfl⟩ rfl rfl rfl rfl rfl (by kernel_rfl) Try.func3 (by kernel_rfl)
    (of_decide_eq_true (by kernel_rfl)) (by unfold Func.isWrapper; first | (rw [if_pos (by decide +kernel)]; kernel_rfl) | (rw [if_neg (by decide +kernel)]; exact ⟨rfl, rfl⟩))
    (fun os started H enc _ => lifted os started H enc)
theorem proved : Rows.FnExactFirstUnsafeSaid := over
#print axioms proved
end Go.Proofs.Ytfamneflndhjpaa.fnExactFirstUnsafe
namespace Go.Proofs.Ytfamneflndhjpaa
/-- The row, under a short name, for the claim. -/
theorem fnExactFirstUnsafe_holds : Rows.FnExactFirstUnsafeSaid := fnExactFirstUnsafe.proved
end Go.Proofs.Ytfamneflndhjpaa
end
