/- The statement FnRecords, whole: for every input the law returns true and leaves its arguments as they were; no condition. Out of the contract of the law's walk and the pure theorem. -/
import Derived.Test.YtmpncnphndafnabBFnRecords0
import Derived.Test.YtmpncnphndafnabBFnRecords1
import Derived.Test.YtmpncnphndafnabBFnRecords2
import Derived.Test.YtmpncnphndafnabBFnRecords3
import Derived.Test.YtmpncnphndafnabBFnRecords4
import Derived.Test.YtmpncnphndafnabBFnRecords5
import Derived.Test.YtmpncnphndafnabBFnRecords6
import Derived.Test.YtmpncnphndafnabBFnRecords7
import Derived.Test.YtmpncnphndafnabBFnRecords8
import Derived.Test.YtmpncnphndafnabWWords
import Derived.Test.YtmpncnphndafnabWMore
import Derived.SizedLaws
import Derived.ChangeSlices
import Derived.ChangeArms
import Derived.WideShapes
import Derived.Below
import Derived.Test.YtmpncnphndafnabRows
import Derived.WalkKit
import Derived.ProofKit
import Derived.OpenShut
import Derived.ShutString
import Derived.ChangeOld
section
namespace Go.Proofs.Ytmpncnphndafnab.Aid
open Go.RowKit Go.Proofs.YtmpncnphndafnabW.PrintWords Go.Proofs.YtmpncnphndafnabW.PrintMore
set_option linter.unusedVariables false

theorem w64 {x : Int} (h0 : -9223372036854775808 ≤ x) (h1 : x ≤ 9223372036854775807) : wrap64 x = x := by
  unfold wrap64
  omega
theorem w64_range (x : Int) : -9223372036854775808 ≤ wrap64 x ∧ wrap64 x ≤ 9223372036854775807 := by
  unfold wrap64
  omega
/-- A number of Go's int. -/
def I64 (x : Int) : Prop := -9223372036854775808 ≤ x ∧ x ≤ 9223372036854775807
theorem i64_of {x : Int} (h : (Lit.int .i64 x).wf = true) : I64 x := by
  simp [Lit.wf, IntKind.min, IntKind.max, IntKind.bits, IntKind.signed] at h
  unfold I64
  omega

/-- A byte. -/
def U8 (x : Int) : Prop := 0 ≤ x ∧ x ≤ 255
theorem u8_of {x : Int} (h : (Lit.int .u8 x).wf = true) : U8 x := by
  simp [Lit.wf, IntKind.min, IntKind.max, IntKind.bits, IntKind.signed] at h
  unfold U8
  omega

/-- A slice within the reach (B: an element's bytes), all of whose elements are as WF says. -/
def wfS {α : Type} (B : Nat) (WF : α → Prop) (xs : List α) : Prop := xs.length ≤ maxLen ∧ xs.length * B ≤ 140737488351232 ∧ ∀ x ∈ xs, WF x

theorem shift {α : Type} {g : Nat → Option α} {r : α} (h : Ev (fun k => g (k + 1)) r) : Ev g r := Ev.step (fun _ => rfl) h
theorem pos {α : Type} {c : Prop} [Decidable c] {a b : Nat → Option α} {r : α} (hc : c) (h : Ev a r) : Ev (fun k => if c then a k else b k) r := by
  simpa only [if_pos hc] using h
theorem neg {α : Type} {c : Prop} [Decidable c] {a b : Nat → Option α} {r : α} (hc : ¬ c) (h : Ev b r) : Ev (fun k => if c then a k else b k) r := by
  simpa only [if_neg hc] using h
theorem now {α : Type} {r s : α} (h : r = s) : Ev (fun _ => some r) s := h ▸ Ev.now r
theorem known {α : Type} {x : Option α} {r : α} (h : x = some r) : Ev (fun _ => x) r := h ▸ Ev.now r
theorem bindc {α β : Type} {x : Option α} {f : Nat → α → Option β} {a : α} {r : β} (h : x = some a) (k : Ev (fun n => f n a) r) : Ev (fun n => x.bind (f n)) r := by
  subst h
  exact k
theorem same {α : Type} {g : Nat → Option α} {r s : α} (h : Ev g r) (e : r = s) : Ev g s := e ▸ h
theorem of_const {α : Type} {x : Option α} {r : α} (h : Ev (fun _ => x) r) : x = some r := by
  obtain ⟨k, hk⟩ := Ev.rounds h
  exact hk

/-- A loop whose round j leads from state j to state j + 1, and whose N-th state is its end. -/
theorem loop {α : Type} {g : Nat → Nat → Option α} {r : α} (N : Nat) (hs : ∀ j, j < N → Ev (fun k => g k (j + 1)) r → Ev (fun k => g k j) r) (he : Ev (fun k => g k N) r) : Ev (fun k => g k 0) r := by
  have : ∀ d j, j + d = N → Ev (fun k => g k j) r := by
    intro d
    induction d with
    | zero =>
      intro j hj
      have : j = N := by omega
      subst this
      exact he
    | succ d ih => exact fun j hj => hs j (by omega) (ih (j + 1) (by omega))
  exact this N 0 (by omega)
/-- The same from state i on. -/
theorem loop_from {α : Type} {g : Nat → Nat → Option α} {r : α} (i N : Nat) (hi : i ≤ N) (hs : ∀ j, i ≤ j → j < N → Ev (fun k => g k (j + 1)) r → Ev (fun k => g k j) r) (he : Ev (fun k => g k N) r) : Ev (fun k => g k i) r := by
  have : ∀ d j, i ≤ j → j + d = N → Ev (fun k => g k j) r := by
    intro d
    induction d with
    | zero =>
      intro j _ hj
      have : j = N := by omega
      subst this
      exact he
    | succ d ih => exact fun j h0 hj => hs j h0 (by omega) (ih (j + 1) (by omega) (by omega))
  exact this (N - i) i (Nat.le_refl _) (by omega)

theorem rd_nat (xs : List Int) (j : Nat) : rd xs (j : Int) = xs.getD j 0 := by simp [rd]
theorem rd_get (xs : List Int) (j : Nat) (h : j < xs.length) : rd xs (j : Int) = xs[j] := by simp [rd, h]
theorem nat_lt {a b : Nat} (h : a < b) : (a : Int) < (b : Int) := by omega
theorem nat_ge {a b : Nat} (h : b ≤ a) : ¬ (a : Int) < (b : Int) := by omega
theorem succ_wrap {j : Nat} (h : j < 9223372036854775807) : wrap64 ((j : Int) + 1) = ((j + 1 : Nat) : Int) := by
  rw [w64 (by omega) (by omega)]
  omega

/-- A loop that fills a row, one place a round. -/
theorem copied {α β : Type} {g : Nat → List β → Int → Option (List β)} (l : List α) (f : α → β) (z : β) (hs : ∀ (j : Nat) (hj : j < l.length) (y : List β) (r : List β), y.length = l.length → Ev (fun k => g k (y.set j (f l[j])) ((j + 1 : Nat) : Int)) r → Ev (fun k => g k y (j : Int)) r)
    (he : ∀ y, Ev (fun k => g k y (l.length : Int)) y) : Ev (fun k => g k (List.replicate l.length z) 0) (l.map f) := by
  refine loop (g := fun k j => g k ((l.map f).take j ++ List.replicate (l.length - j) z) (j : Int)) (r := l.map f) l.length ?_ ?_ |> (fun h => by simpa using h)
  · intro j hj h
    refine hs j hj _ _ (by simp; omega) ?_
    refine Eq.mp ?_ h
    congr 1
    funext k
    congr 1
    rw [List.set_append_right _ _ (by simp; omega)]
    have h1 : (l.map f).take (j + 1) = (l.map f).take j ++ [f l[j]] := by
      rw [List.take_succ_eq_append_getElem (by simpa using hj)]
      simp
    have h2 : l.length - j = (l.length - (j + 1)) + 1 := by omega
    have h3 : j - ((l.map f).take j).length = 0 := by simp; omega
    rw [h1, h3, h2, List.replicate_succ, List.set_cons_zero]
    simp
  · have h := he (l.map f)
    have e : (l.map f).take l.length = l.map f := List.take_of_length_le (by simp)
    simpa [e] using h

/-- A loop that looks at each place and answers no at the first that is not as it ought to be. -/
theorem all_loop {g : Nat → Nat → Option Bool} (N : Nat) (ok : Nat → Bool) (b : Bool) (hs : ∀ j r, j < N → ok j = true → Ev (fun k => g k (j + 1)) r → Ev (fun k => g k j) r)
    (hf : ∀ j, j < N → ok j = false → Ev (fun k => g k j) false) (he : Ev (fun k => g k N) b) : Ev (fun k => g k 0) ((List.range N).all ok && b) := by
  have : ∀ d j, j + d = N → Ev (fun k => g k j) ((List.range' j d).all ok && b) := by
    intro d
    induction d with
    | zero =>
      intro j hj
      have : j = N := by omega
      subst this
      simpa using he
    | succ d ih =>
      intro j hj
      rw [List.range'_succ, List.all_cons]
      cases h : ok j with
      | true => simpa using hs j _ (by omega) h (ih (j + 1) (by omega))
      | false => simpa using hf j (by omega) h
  have h := this N 0 (by omega)
  rwa [← List.range_eq_range'] at h
/-- The same where all places are as they ought to be, .. -/
theorem ok_loop {α : Type} {g : Nat → Nat → Option α} (N : Nat) (ok : Nat → Bool) {r : α} (h : (List.range N).all ok = true) (hs : ∀ j r, j < N → ok j = true → Ev (fun k => g k (j + 1)) r → Ev (fun k => g k j) r)
    (he : Ev (fun k => g k N) r) : Ev (fun k => g k 0) r :=
  loop N (fun j hj hn => hs j r hj (List.all_eq_true.1 h j (List.mem_range.2 hj)) hn) he
/-- .. and where one isn't: the first that isn't decides. -/
theorem bad_loop {α : Type} {g : Nat → Nat → Option α} (N : Nat) (ok : Nat → Bool) (r : α) (h : ¬ (List.range N).all ok = true) (hs : ∀ j r, j < N → ok j = true → Ev (fun k => g k (j + 1)) r → Ev (fun k => g k j) r)
    (hf : ∀ j, j < N → ok j = false → Ev (fun k => g k j) r) : Ev (fun k => g k 0) r := by
  have : ∀ d j, j + d = N → ¬ (List.range' j d).all ok = true → Ev (fun k => g k j) r := by
    intro d
    induction d with
    | zero => exact fun j _ hn => absurd rfl hn
    | succ d ih =>
      intro j hj hn
      rw [List.range'_succ, List.all_cons] at hn
      cases ho : ok j with
      | true => exact hs j _ (by omega) ho (ih (j + 1) (by omega) (by simpa [ho] using hn))
      | false => exact hf j (by omega) ho
  exact this N 0 (by omega) (by rwa [← List.range_eq_range'])
/-- n numbers from a on. -/
def iota (a : Int) (n : Nat) : List Int := (List.range n).map fun (i : Nat) => a + (i : Int)
theorem iota_length (a : Int) (n : Nat) : (iota a n).length = n := by simp [iota]
theorem iota_get (a : Int) (n j : Nat) (h : j < n) : rd (iota a n) (j : Int) = a + j := by simp [rd, iota, h]
theorem iota_set (a : Int) (l : List Int) (j : Nat) (h : j < l.length) : (iota a j ++ l.drop j).set j (a + j) = iota a (j + 1) ++ l.drop (j + 1) := by
  rw [List.set_append_right _ _ (by rw [iota_length]; exact Nat.le_refl _), iota_length, Nat.sub_self, List.drop_eq_getElem_cons h, List.set_cons_zero]
  have : iota a (j + 1) = iota a j ++ [a + j] := by simp [iota, List.range_succ]
  rw [this]
  simp
end Go.Proofs.Ytmpncnphndafnab.Aid
end

section
namespace Go.Proofs.Ytmpncnphndafnab.Opens
open Go.ChangeShapes Go.WideShapes Go.RowKit Go.Proofs.YtmpncnphndafnabW.PrintWords Go.Proofs.Ytmpncnphndafnab.Aid
set_option linter.unusedVariables false

/-- Whatever can be read as data of type t is of kind kd, and meets WF. -/
def Opens {α : Type} (P : Program) (t : TypeId) (kd : Kd α) (WF : α → Prop) : Prop :=
  P.cellsOf t = kd.sz ∧ ∀ (H : Type) (enc : TypeId × Value → H) (w : World) (base : Nat) (spare : Nat → Bool) (held : Bool) (fuel : Nat) (cs : List Value) (d : DataW H) (ps : List MemPlace),
    DataW.trod enc P w base spare held fuel t cs = some (d, ps) → (∀ n ∈ d.weights P t, n ≤ reachBytes) → ∃ x, kd.K w x cs ∧ WF x

theorem opens_int {P : Program} {t : TypeId} (ht : P.underlying t = some (.int .i64)) (hc : P.cellsOf t = 1) : Opens P t (Kd.int .i64) I64 := by
  refine ⟨hc, fun H enc w base spare held fuel cs d ps h _ => ?_⟩
  obtain ⟨n, rfl, _, hw⟩ := DataW.trod_int ht h
  exact ⟨n, rfl, i64_of hw⟩

/-- The same of bytes. -/
theorem opens_u8 {P : Program} {t : TypeId} (ht : P.underlying t = some (.int .u8)) (hc : P.cellsOf t = 1) : Opens P t (Kd.int .u8) U8 := by
  refine ⟨hc, fun H enc w base spare held fuel cs d ps h _ => ?_⟩
  obtain ⟨n, rfl, _, hw⟩ := DataW.trod_int ht h
  exact ⟨n, rfl, u8_of hw⟩

theorem opens_bool {P : Program} {t : TypeId} (ht : P.underlying t = some .bool) (hc : P.cellsOf t = 1) : Opens P t Kd.bool (fun _ => True) := by
  refine ⟨hc, fun H enc w base spare held fuel cs d ps h _ => ?_⟩
  obtain ⟨b, rfl, _⟩ := DataW.trod_bool ht h
  exact ⟨b, rfl, trivial⟩

theorem weights_elem {H : Type} {P : Program} {e : TypeId} {n : Nat} : ∀ {ds : List (DataW H)} {d : DataW H}, d ∈ ds → n ∈ d.weights P e → n ∈ DataW.weightsAll P e ds
  | [], _, h, _ => by simp at h
  | d0 :: r, d, h, hn => by
    rw [DataW.weightsAll]
    rcases List.mem_cons.1 h with rfl | h
    · exact List.mem_append_left _ hn
    · exact List.mem_append_right _ (weights_elem h hn)

theorem choose_list {α : Type} {n : Nat} {Q : Nat → α → Prop} (h : ∀ i, i < n → ∃ x, Q i x) : ∃ xs : List α, xs.length = n ∧ ∀ i x, xs[i]? = some x → Q i x := by
  induction n with
  | zero => exact ⟨[], rfl, fun i x hx => by simp at hx⟩
  | succ n ih =>
    obtain ⟨xs, hl, hx⟩ := ih (fun i hi => h i (by omega))
    obtain ⟨y, hy⟩ := h n (by omega)
    refine ⟨xs ++ [y], by simp [hl], fun i x hi => ?_⟩
    by_cases hlt : i < n
    · rw [List.getElem?_append_left (by omega)] at hi
      exact hx i x hi
    · have hl2 := (List.getElem?_eq_some_iff.1 hi).1
      simp at hl2
      have : i = n := by omega
      subst this
      rw [List.getElem?_append_right (by omega)] at hi
      simp [hl] at hi
      exact hi ▸ hy

theorem opens_slice {α : Type} {P : Program} {t e : TypeId} {kd : Kd α} {WF : α → Prop} (ht : P.underlying t = some (.slice e)) (hc : P.cellsOf t = 1) {B : Nat} (hB : P.bytesOf e = B) (he : Opens P e kd WF) :
    Opens P t (Kd.slice e kd) (wfS B WF) := by
  subst hB
  refine ⟨hc, fun H enc w base spare held fuel cs d ps h hw => ?_⟩
  rcases DataW.trod_slice ht h with ⟨rfl, _⟩ | ⟨a, len, cap, elems, rest, n, _, rfl, hx, hb, hl, hm, hlen, hel, _, _⟩
  · exact ⟨[], ⟨none, 0, rfl, Nat.le_refl _, ⟨rfl, by simp, fun h => absurd h (by simp)⟩⟩, by simp [maxLen], by simp, by simp⟩
  · simp only [Prod.mk.injEq] at hx
    obtain ⟨rfl, _⟩ := hx
    have each : ∀ i, i < len → ∃ x, (∃ c, c.length = kd.sz ∧ kd.K w x c ∧ ∀ j u, c[j]? = some u → w.cell? (a.add (i * kd.sz + j)) = some u) ∧ WF x := by
      intro i hi
      have h1 := hel i hi
      have h2 : i < elems.length := by omega
      rw [List.getElem?_eq_getElem h2] at h1
      obtain ⟨c, hc1, hc2⟩ := Option.bind_eq_some_iff.1 h1
      obtain ⟨_, hcl, hcc⟩ := World.cells?_some hc1
      obtain ⟨x, hx1, hx2⟩ := he.2 H enc w base spare held n c elems[i].1 elems[i].2 hc2 (fun m hm' => hw m (by
        rw [DataW.weights, ht]
        simp only [List.mem_cons, List.mem_append]
        exact .inr (.inl (weights_elem (List.mem_map.2 ⟨elems[i], List.getElem_mem h2, rfl⟩) hm'))))
      refine ⟨x, ⟨c, by rw [hcl, he.1], hx1, fun j u hj => ?_⟩, hx2⟩
      have hj2 := (List.getElem?_eq_some_iff.1 hj).1
      have := hcc j (by omega)
      rw [hj, he.1] at this
      rw [← this, Addr.add_add]
    obtain ⟨xs, hxl, hxs⟩ := choose_list each
    subst hxl
    refine ⟨xs, ⟨some a, cap, rfl, hl, ⟨rfl, by simp [maxLen] at hm; omega, fun _ => ⟨a, rfl, fun j p hj => ?_⟩⟩⟩, by omega, ?_, fun x hx => ?_⟩
    · exact (hxs j p hj).1
    · have := hw ((elems.length + rest.length) * P.bytesOf e) (by rw [DataW.weights, ht]; simp)
      exact Nat.le_trans (Nat.mul_le_mul_right _ (by omega)) this
    · obtain ⟨i, hi⟩ := List.getElem?_of_mem hx
      exact (hxs i x hi).2

/-- The same of a struct's fields from one on, which begins at cell off. -/
def OpensF {α : Type} (P : Program) (fs : List Field) (off : Nat) (kd : Kd α) (WF : α → Prop) : Prop :=
  ∀ (H : Type) (enc : TypeId × Value → H) (w : World) (base : Nat) (spare : Nat → Bool) (held : Bool) (fuel : Nat) (cs : List Value) (ys : List (DataW H × List MemPlace)),
    cs.length = off + kd.sz → ys.length = fs.length → (∀ (i : Nat) (f : Field), fs[i]? = some f → DataW.trod enc P w base spare held fuel f.type ((cs.drop f.offset).take (P.cellsOf f.type)) = ys[i]?) →
    (∀ n ∈ DataW.weightsEach P (fs.map (·.type)) (ys.map (·.1)), n ≤ reachBytes) → ∃ x, kd.K w x (cs.drop off) ∧ WF x

theorem opensF_last {α : Type} {P : Program} {f : Field} {off : Nat} {kd : Kd α} {WF : α → Prop} (ho : f.offset = off) (h : Opens P f.type kd WF) : OpensF P [f] off kd WF := by
  intro H enc w base spare held fuel cs ys hcs hys hf hw
  match ys, hys with
  | [y], _ =>
    have h1 := hf 0 f rfl
    rw [ho, h.1, List.take_of_length_le (by simp; omega)] at h1
    exact h.2 H enc w base spare held fuel _ y.1 y.2 h1 (fun n hn => hw n (by simp [DataW.weightsEach, hn]))

theorem opensF_cons {α β : Type} {P : Program} {f : Field} {fs : List Field} {off : Nat} {kd : Kd α} {kr : Kd β} {WF : α → Prop} {WR : β → Prop} (ho : f.offset = off) (h : Opens P f.type kd WF)
    (hr : OpensF P fs (off + kd.sz) kr WR) : OpensF P (f :: fs) off (Kd.pair kd kr) (fun x => WF x.1 ∧ WR x.2) := by
  intro H enc w base spare held fuel cs ys hcs hys hf hw
  match ys, hys with
  | y :: ys, hys =>
    have h1 := hf 0 f rfl
    rw [ho, h.1] at h1
    obtain ⟨x, hx1, hx2⟩ := h.2 H enc w base spare held fuel _ y.1 y.2 h1 (fun n hn => hw n (by simp [DataW.weightsEach, hn]))
    have hs : (Kd.pair kd kr).sz = kd.sz + kr.sz := rfl
    obtain ⟨z, hz1, hz2⟩ := hr H enc w base spare held fuel cs ys (by omega) (by simpa using hys) (fun i g hg => hf (i + 1) g hg) (fun n hn => hw n (by simp [DataW.weightsEach]; exact .inr (by simpa using hn)))
    refine ⟨(x, z), ⟨_, _, ?_, hx1, hz1⟩, hx2, hz2⟩
    rw [← List.drop_drop, List.take_append_drop]

theorem opens_struct {α β : Type} {P : Program} {t : TypeId} {fs : Array Field} {kd : Kd α} {WF : α → Prop} (f : β → α) (g : α → β) (hg : ∀ x, f (g x) = x) (ht : P.underlying t = some (.struct fs)) (hc : P.cellsOf t = kd.sz)
    (h : OpensF P fs.toList 0 kd WF) : Opens P t (Kd.iso kd f) (fun x => WF (f x)) := by
  refine ⟨hc, fun H enc w base spare held fuel cs d ps hd hw => ?_⟩
  obtain ⟨xs, n, _, hx, hl, hxl, hf⟩ := DataW.trod_struct ht hd
  simp only [Prod.mk.injEq] at hx
  obtain ⟨rfl, _⟩ := hx
  obtain ⟨y, hy1, hy2⟩ := h H enc w base spare held n cs xs (by omega) (by simpa using hxl) (fun i f' hf' => hf i f' (by simpa using hf')) (fun m hm => hw m (by rw [DataW.weights, ht]; simpa using hm))
  refine ⟨g y, ?_, ?_⟩
  · show kd.K w (f (g y)) cs
    rw [hg]
    simpa using hy1
  · show WF (f (g y))
    rw [hg]
    exact hy2

/-- An argument, opened. -/
theorem opens_arg {α : Type} {H : Type} {enc : TypeId × Value → H} {P : Program} {w : World} {base : Nat} {spare : Nat → Bool} {held : Bool} {t : TypeId} {v : Value} {kd : Kd α} {WF : α → Prop} {d : DataW H} {ps : List MemPlace} (h : Opens P t kd WF)
    {ts : List TypeId} {ds : List (DataW H)} {j : Nat} (hsz : (DataW.weightsEach P ts ds).all (· ≤ reachBytes) = true) (ht : ts[j]? = some t) (hd : ds[j]? = some d) (hv : DataW.Trod enc P w base spare held t v d ps) :
    ∃ x, kd.K w x v.cells.toList ∧ WF x := by
  obtain ⟨fuel, hf⟩ := hv
  refine h.2 H enc w base spare held fuel _ d ps hf (fun n hn => ?_)
  have := List.all_eq_true.1 hsz n (DataW.weights_mem_each ht hd n hn)
  simpa using this

/-- A slice argument: its address, its capacity, its row. -/
theorem opens_row {α : Type} {P : Program} {w : World} {t e : TypeId} {r : Reach} {b0 : Nat} {v : Value} {kd : Kd α} {x : List α} (ht : P.underlying t = some (.slice e)) (hval : Value.okWide P w r b0 t v) (h : (Kd.slice e kd).K w x v.cells.toList) :
    ∃ A c, v = .slice A x.length c ∧ x.length ≤ c ∧ Kd.C kd w A x.length x := by
  obtain ⟨a, len, cap, rfl⟩ := okWide_slice ht hval
  obtain ⟨A, c, hv, hl, hC⟩ := h
  simp [Value.cells] at hv
  obtain ⟨rfl, rfl, rfl⟩ := hv
  exact ⟨_, _, rfl, hl, hC⟩

/-- A struct argument by value: its cells. -/
theorem opens_agg {P : Program} {w : World} {t : TypeId} {fs : Array Field} {r : Reach} {b0 : Nat} {v : Value} {cs : List Value} (ht : P.underlying t = some (.struct fs)) (hval : Value.okWide P w r b0 t v) (h : v.cells.toList = cs) :
    v = .agg cs.toArray := by
  obtain ⟨c, rfl, _⟩ := okWide_struct ht hval
  simp [Value.cells] at h
  simp [← h]

end Go.Proofs.Ytmpncnphndafnab.Opens
end

section
namespace Go.Proofs.Ytmpncnphndafnab.PureFnRecords
open Go.RowKit Go.Proofs.YtmpncnphndafnabW.PrintWords Go.Proofs.YtmpncnphndafnabW.PrintLast Go.Proofs.YtmpncnphndafnabW.PrintMore Go.Proofs.Ytmpncnphndafnab.PEnt Go.Proofs.Ytmpncnphndafnab.Aid
set_option linter.unusedVariables false
set_option linter.unusedSimpArgs false


theorem spec_l1In_eq (a b c : Int) : spec_l1In.f a b c = some (decide (b ≤ a ∧ a ≤ c)) := by
  unfold spec_l1In.f
  by_cases h : b ≤ a
  · rw [if_pos h]
    simp [h]
  · rw [if_neg h]
    simp [h]

theorem tmod_emod {a m : Int} (hm : 0 < m) : Int.tmod a m = if Int.tmod a m < 0 then a % m - m else a % m := by
  have h1 := Int.emod_nonneg a (by omega : m ≠ 0)
  have h2 := Int.emod_lt_of_pos a hm
  have h3 := Int.tmod_eq_emod (a := a) (b := m)
  by_cases hc : 0 ≤ a ∨ m ∣ a
  · rw [if_pos hc] at h3
    rw [if_neg (by omega)]
    omega
  · rw [if_neg hc] at h3
    rw [if_pos (by omega)]
    omega
theorem tmod_range {a m : Int} (hm : 0 < m) : -m ≤ Int.tmod a m ∧ Int.tmod a m < m := by
  have h := tmod_emod (a := a) hm
  have h1 := Int.emod_nonneg a (by omega : m ≠ 0)
  have h2 := Int.emod_lt_of_pos a hm
  by_cases hc : Int.tmod a m < 0
  · rw [if_pos hc] at h
    omega
  · rw [if_neg hc] at h
    omega
theorem spec_Mod_eq (a m : Int) (h1 : 1 ≤ m) (h2 : m ≤ 1000000000000) : spec_Mod.f a m = some (a % m) := by
  unfold spec_Mod.f
  rw [spec_l1In_eq, Option.bind_some, if_pos (by simp [h1, h2]), if_neg (by omega)]
  have hr := tmod_range (a := a) (m := m) (by omega)
  have he := tmod_emod (a := a) (m := m) (by omega)
  have h3 := Int.emod_nonneg a (by omega : m ≠ 0)
  have h4 := Int.emod_lt_of_pos a (by omega : 0 < m)
  rw [w64 (by omega) (by omega), Int.tmod_eq_emod_of_nonneg (by omega)]
  congr 1
  by_cases hn : Int.tmod a m < 0
  · rw [if_pos hn] at he
    rw [he, show a % m - m + m = a % m by omega, Int.emod_emod_of_dvd _ (Int.dvd_refl m)]
  · rw [if_neg hn] at he
    rw [he, Int.add_emod_right, Int.emod_emod_of_dvd _ (Int.dvd_refl m)]

/-- One more value taken into a hash. -/
def hstep (acc v : Int) : Int := (acc * 1000003 + v % 2147483647 + 13) % 2147483647
theorem hstep_range (a v : Int) : 0 ≤ hstep a v ∧ hstep a v < 2147483647 := ⟨Int.emod_nonneg _ (by omega), Int.emod_lt_of_pos _ (by omega)⟩
theorem hfold_range (l : List Int) : ∀ a : Int, 0 ≤ a → a < 2147483647 → 0 ≤ l.foldl hstep a ∧ l.foldl hstep a < 2147483647 := by
  induction l with
  | nil => exact fun a h0 h1 => ⟨h0, h1⟩
  | cons v r ih => exact fun a _ _ => ih _ (hstep_range a v).1 (hstep_range a v).2
theorem hfold_take (l : List Int) (j : Nat) (h : j < l.length) (a : Int) : (l.take (j + 1)).foldl hstep a = hstep ((l.take j).foldl hstep a) l[j] := by
  rw [List.take_succ_eq_append_getElem h, List.foldl_append]
  rfl
theorem hstep_go (a v : Int) (h0 : 0 ≤ a) (h1 : a < 2147483647) : Int.tmod (wrap64 ((wrap64 ((wrap64 (a * 1000003)) + v % 2147483647)) + 13)) 2147483647 = hstep a v := by
  have h2 := Int.emod_nonneg v (by omega : (2147483647 : Int) ≠ 0)
  have h3 := Int.emod_lt_of_pos v (by omega : (0 : Int) < 2147483647)
  rw [w64 (x := a * 1000003) (by omega) (by omega), w64 (x := a * 1000003 + _) (by omega) (by omega), w64 (by omega) (by omega), Int.tmod_eq_emod_of_nonneg (by omega)]
  rfl
theorem spec_Hash_ev (l : List Int) (hl : l.length < 9223372036854775807) : Ev (fun k => spec_Hash.f k l) (l.foldl hstep 11) := by
  unfold spec_Hash.f
  refine loop (g := fun k j => spec_Hash.l0 k l ((l.take j).foldl hstep 11) (j : Int)) l.length ?_ ?_
  · intro j hj h
    refine shift ?_
    simp only [spec_Hash.l0]
    refine pos (nat_lt hj) (pos (by omega) (bindc (spec_Mod_eq _ _ (by omega) (by omega)) ?_))
    obtain ⟨b0, b1⟩ := hfold_range (l.take j) 11 (by omega) (by omega)
    rw [hstep_go _ _ b0 b1, rd_get _ _ hj, ← hfold_take l j hj, succ_wrap (by omega)]
    exact h
  · refine shift ?_
    simp only [spec_Hash.l0]
    exact neg (nat_ge (Nat.le_refl _)) (now (by rw [List.take_length]))

def sealL (b s : Int) (l : List Int) : Int := ([b, s] ++ l).foldl hstep 11
theorem spec_SealOf_ev (b s : Int) (l : List Int) (hl : l.length ≤ 1048576) : Ev (fun k => spec_SealOf.f k b s l) (sealL b s l) := by
  unfold spec_SealOf.f
  refine bindc rfl (pos (by simp; omega) (Ev.bind (spec_Hash_ev _ (by simp; omega)) (now rfl)))

def okLight (v : List Int) (i : Nat) : Bool := decide (0 ≤ rd v i ∧ rd v i ≤ 2)
def prevSeal (l : List S47) (j : Nat) : Int := if j = 0 then 0 else (rd_T47 l ((j : Int) - 1)).f2
theorem prevSeal_succ (l : List S47) (j : Nat) : prevSeal l (j + 1) = (rd_T47 l j).f2 := by
  have e : ((j + 1 : Nat) : Int) - 1 = (j : Int) := by omega
  rw [prevSeal, if_neg (by omega), e]
/-- Entry j is in its ranges, behind the one before, sealed, and as long as the first. -/
def entryHead (l : List S47) (j : Nat) : Prop := 0 ≤ (rd_T47 l j).f0 ∧ (rd_T47 l j).f0 ≤ 1000000 ∧ (rd_T47 l j).f1.length ≤ 12 ∧ (rd_T47 l j).f1.length = (rd_T47 l 0).f1.length ∧
  (rd_T47 l j).f2 = sealL (prevSeal l j) (rd_T47 l j).f0 (rd_T47 l j).f1 ∧ (0 < j → (rd_T47 l ((j : Int) - 1)).f0 < (rd_T47 l j).f0)
instance (l : List S47) (j : Nat) : Decidable (entryHead l j) := by unfold entryHead; infer_instance
def entryLights (l : List S47) (j : Nat) : Bool := (List.range (rd_T47 l j).f1.length).all (okLight (rd_T47 l j).f1)
def okEntry (l : List S47) (j : Nat) : Bool := decide (entryHead l j) && entryLights l j
theorem okEntry_iff (l : List S47) (j : Nat) : okEntry l j = true ↔ entryHead l j ∧ entryLights l j = true := by
  unfold okEntry
  rw [Bool.and_eq_true, decide_eq_true_iff]
def isRecord (l : List S47) : Bool := (List.range l.length).all (okEntry l) && decide (l.length ≤ 60)
theorem isRecord_iff (l : List S47) : isRecord l = true ↔ (∀ j, j < l.length → entryHead l j ∧ entryLights l j = true) ∧ l.length ≤ 60 := by
  unfold isRecord
  rw [Bool.and_eq_true, List.all_eq_true, decide_eq_true_iff]
  exact ⟨fun h => ⟨fun j hj => (okEntry_iff l j).1 (h.1 j (List.mem_range.2 hj)), h.2⟩, fun h => ⟨fun j hj => (okEntry_iff l j).2 (h.1 j (List.mem_range.1 hj)), h.2⟩⟩
theorem entry_short (l : List S47) (he : ∀ x ∈ l, x.f1.length ≤ 1048576) (i : Nat) (hi : i < l.length) : (rd_T47 l i).f1.length ≤ 1048576 := by
  have : rd_T47 l (i : Int) = l[i] := by simp [rd_T47, hi]
  rw [this]
  exact he _ (List.getElem_mem hi)
theorem spec_IsRecord_lights (l : List S47) (s : Int) (j : Nat) (hj : j < l.length) (hx : (rd_T47 l j).f1.length ≤ 1048576) (i : Nat) (hi : i < (rd_T47 l j).f1.length) :
    (∀ r, okLight (rd_T47 l j).f1 i = true → Ev (fun k => spec_IsRecord.l1 k l s (j : Int) ((i + 1 : Nat) : Int)) r → Ev (fun k => spec_IsRecord.l1 k l s (j : Int) (i : Int)) r) ∧
    (okLight (rd_T47 l j).f1 i = false → Ev (fun k => spec_IsRecord.l1 k l s (j : Int) (i : Int)) false) := by
  constructor
  · intro r ok h
    have ok : 0 ≤ rd (rd_T47 l j).f1 i ∧ rd (rd_T47 l j).f1 i ≤ 2 := by simpa [okLight] using ok
    refine shift ?_
    simp only [spec_IsRecord.l1]
    refine pos (by omega) (pos (nat_lt hj) (pos (nat_lt hi) (pos (by omega) (bindc (spec_l1In_eq _ _ _) (pos (by simp [ok]) ?_)))))
    rw [succ_wrap (by omega)]
    exact h
  · intro ok
    have ok : ¬ (0 ≤ rd (rd_T47 l j).f1 i ∧ rd (rd_T47 l j).f1 i ≤ 2) := by simpa [okLight] using ok
    refine shift ?_
    simp only [spec_IsRecord.l1]
    exact pos (by omega) (pos (nat_lt hj) (pos (nat_lt hi) (pos (by omega) (bindc (spec_l1In_eq _ _ _) (neg (by simpa using ok) (now rfl))))))
theorem spec_IsRecord_in (l : List S47) (h60 : l.length ≤ 60) (he : ∀ x ∈ l, x.f1.length ≤ 1048576) : Ev (fun k => spec_IsRecord.l0 k l (prevSeal l 0) 0) ((List.range l.length).all (okEntry l) && true) := by
  refine all_loop (g := fun k j => spec_IsRecord.l0 k l (prevSeal l j) (j : Int)) l.length (okEntry l) true ?_ ?_ ?_
  · intro j r hj ok h
    have hx := entry_short l he j hj
    obtain ⟨⟨h1, h2, h3, h4, h5, h6⟩, hli⟩ := (okEntry_iff l j).1 ok
    refine shift ?_
    simp only [spec_IsRecord.l0]
    refine pos (nat_lt hj) (shift ?_)
    simp only [spec_IsRecord.j1]
    refine pos (by simp; omega) (pos (by omega) (pos (nat_lt hj) (Ev.bind (spec_SealOf_ev _ _ _ hx) (bindc (spec_l1In_eq _ _ _) (pos (by simp [h1, h2]) (neg (by omega) (pos (by omega) (pos (by omega) (pos h5 ?_)))))))))
    have last : Ev (fun k => spec_IsRecord.j2 k l (sealL (prevSeal l j) (rd_T47 l j).f0 (rd_T47 l j).f1) (j : Int) false) r := by
      refine shift ?_
      simp only [spec_IsRecord.j2]
      refine neg (by simp) ?_
      refine ok_loop (g := fun k i => spec_IsRecord.l1 k l _ (j : Int) (i : Int)) (rd_T47 l j).f1.length (okLight (rd_T47 l j).f1) hli (fun i r hi => (spec_IsRecord_lights l _ j hj hx i hi).1 r) (shift ?_)
      simp only [spec_IsRecord.l1]
      refine pos (by omega) (pos (nat_lt hj) (neg (nat_ge (Nat.le_refl _)) ?_))
      rw [succ_wrap (by omega), ← h5, ← prevSeal_succ]
      exact h
    by_cases h0 : (j : Int) > 0
    · rw [w64 (x := (j : Int) - 1) (by omega) (by omega), decide_eq_false (by have := h6 (by omega); omega)]
      exact pos h0 (pos (by omega) (pos (by omega) last))
    · exact neg h0 last
  · intro j hj ok
    have hx := entry_short l he j hj
    have ok : ¬ (entryHead l j ∧ entryLights l j = true) := by rw [← okEntry_iff, ok]; simp
    unfold entryHead at ok
    have no : ∀ s, Ev (fun k => spec_IsRecord.j2 k l s (j : Int) true) false := by
      intro s
      refine shift ?_
      simp only [spec_IsRecord.j2]
      exact pos (by simp) (now rfl)
    refine shift ?_
    simp only [spec_IsRecord.l0]
    refine pos (nat_lt hj) (shift ?_)
    simp only [spec_IsRecord.j1]
    refine pos (by simp; omega) (pos (by omega) (pos (nat_lt hj) (Ev.bind (spec_SealOf_ev _ _ _ hx) (bindc (spec_l1In_eq _ _ _) ?_))))
    by_cases h1 : 0 ≤ (rd_T47 l j).f0 ∧ (rd_T47 l j).f0 ≤ 1000000
    · refine pos (by simp [h1]) ?_
      by_cases h3 : (rd_T47 l j).f1.length ≤ 12
      · refine neg (by omega) (pos (by omega) ?_)
        by_cases h4 : (rd_T47 l j).f1.length = (rd_T47 l 0).f1.length
        · refine pos (by omega) ?_
          by_cases h5 : (rd_T47 l j).f2 = sealL (prevSeal l j) (rd_T47 l j).f0 (rd_T47 l j).f1
          · refine pos h5 ?_
            have last : (0 < j → (rd_T47 l ((j : Int) - 1)).f0 < (rd_T47 l j).f0) → Ev (fun k => spec_IsRecord.j2 k l (sealL (prevSeal l j) (rd_T47 l j).f0 (rd_T47 l j).f1) (j : Int) false) false := by
              intro h6
              have hli : ¬ entryLights l j = true := fun q => ok ⟨⟨h1.1, h1.2, h3, h4, h5, h6⟩, q⟩
              refine shift ?_
              simp only [spec_IsRecord.j2]
              refine neg (by simp) ?_
              exact bad_loop (g := fun k i => spec_IsRecord.l1 k l _ (j : Int) (i : Int)) (rd_T47 l j).f1.length (okLight (rd_T47 l j).f1) false hli (fun i r hi => (spec_IsRecord_lights l _ j hj hx i hi).1 r) (fun i hi => (spec_IsRecord_lights l _ j hj hx i hi).2)
            by_cases h0 : (j : Int) > 0
            · rw [w64 (x := (j : Int) - 1) (by omega) (by omega)]
              refine pos h0 (pos (by omega) (pos (by omega) ?_))
              by_cases h6 : (rd_T47 l ((j : Int) - 1)).f0 < (rd_T47 l j).f0
              · rw [decide_eq_false (by omega)]
                exact last (fun _ => h6)
              · rw [decide_eq_true (by omega)]
                exact no _
            · exact neg h0 (last (fun q => absurd q (by omega)))
          · exact neg h5 (no _)
        · exact neg (by omega) (no _)
      · exact pos (by omega) (no _)
    · exact neg (by simpa using h1) (no _)
  · refine shift ?_
    simp only [spec_IsRecord.l0]
    refine neg (nat_ge (Nat.le_refl _)) (shift ?_)
    simp only [spec_IsRecord.j1]
    exact neg (by simp) (now (decide_eq_true (by omega)))
theorem spec_IsRecord_ev (l : List S47) (hl : l.length ≤ 1048577) (he : ∀ x ∈ l, x.f1.length ≤ 1048576) : Ev (fun k => spec_IsRecord.f k l) (isRecord l) := by
  unfold spec_IsRecord.f isRecord
  by_cases h60 : l.length ≤ 60
  · rw [decide_eq_true h60]
    exact spec_IsRecord_in l h60 he
  · rw [decide_eq_false h60, Bool.and_false]
    refine shift ?_
    simp only [spec_IsRecord.l0]
    refine pos (by omega) (shift ?_)
    simp only [spec_IsRecord.j1]
    exact neg (by simp; omega) (now (decide_eq_false (by omega)))

theorem impl_InRange_eq (a b c : Int) : impl_InRange.f a b c = some (decide (b ≤ a ∧ a ≤ c)) := by
  unfold impl_InRange.f
  by_cases h : b ≤ a
  · rw [if_pos h]
    simp [h]
  · rw [if_neg h]
    simp [h]

theorem impl_Mod_eq (a m : Int) (h1 : 1 ≤ m) (h2 : m ≤ 1000000000000) : impl_Mod.f a m = some (a % m) := by
  unfold impl_Mod.f
  rw [impl_InRange_eq, Option.bind_some, if_pos (by simp [h1, h2]), if_neg (by omega)]
  have he := tmod_emod (a := a) (m := m) (by omega)
  have h3 := Int.emod_nonneg a (by omega : m ≠ 0)
  have h4 := Int.emod_lt_of_pos a (by omega : 0 < m)
  by_cases hn : Int.tmod a m < 0
  · rw [if_pos hn] at he
    rw [if_pos hn, w64 (by omega) (by omega), he]
    congr 1
    omega
  · rw [if_neg hn] at he
    rw [if_neg hn, he]

theorem impl_fold_eq (a v : Int) (h0 : 0 ≤ a) (h1 : a < 2147483647) : impl_fold.f a v = some (hstep a v) := by
  unfold impl_fold.f
  rw [impl_Mod_eq _ _ (by omega) (by omega), Option.bind_some, hstep_go a v h0 h1]

theorem impl_Hash_ev (l : List Int) (hl : l.length < 9223372036854775807) : Ev (fun k => impl_Hash.f k l) (l.foldl hstep 11) := by
  unfold impl_Hash.f
  refine loop (g := fun k j => impl_Hash.l0 k ((l.take j).foldl hstep 11) l (l.length : Int) (j : Int)) l.length ?_ ?_
  · intro j hj h
    refine shift ?_
    simp only [impl_Hash.l0]
    obtain ⟨b0, b1⟩ := hfold_range (l.take j) 11 (by omega) (by omega)
    refine pos (nat_lt hj) (pos (by omega) (pos (nat_lt hj) (bindc (impl_fold_eq _ _ b0 b1) ?_)))
    rw [rd_get _ _ hj, ← hfold_take l j hj, succ_wrap (by omega)]
    exact h
  · refine shift ?_
    simp only [impl_Hash.l0]
    exact neg (nat_ge (Nat.le_refl _)) (now (by rw [List.take_length]))


theorem impl_SealOf_ev (b s : Int) (l : List Int) (hl : l.length ≤ 1048576) : Ev (fun k => impl_SealOf.f k b s l) (sealL b s l) := by
  unfold impl_SealOf.f
  refine bindc rfl (pos (by simp; omega) (Ev.bind (impl_Hash_ev _ (by simp; omega)) (now rfl)))

theorem impl_IsRecord_lights (l : List S47) (n : Int) (j : Nat) (hx : (rd_T47 l j).f1.length ≤ 1048576) (i : Nat) (hi : i < (rd_T47 l j).f1.length) :
    (∀ r, okLight (rd_T47 l j).f1 i = true → Ev (fun k => impl_IsRecord.l1 k l l n (j : Int) (rd_T47 l j).f1 ((rd_T47 l j).f1.length : Int) ((i + 1 : Nat) : Int) (rd_T47 l j).f0 (rd_T47 l j).f1 (rd_T47 l j).f2) r → Ev (fun k => impl_IsRecord.l1 k l l n (j : Int) (rd_T47 l j).f1 ((rd_T47 l j).f1.length : Int) (i : Int) (rd_T47 l j).f0 (rd_T47 l j).f1 (rd_T47 l j).f2) r) ∧
    (okLight (rd_T47 l j).f1 i = false → Ev (fun k => impl_IsRecord.l1 k l l n (j : Int) (rd_T47 l j).f1 ((rd_T47 l j).f1.length : Int) (i : Int) (rd_T47 l j).f0 (rd_T47 l j).f1 (rd_T47 l j).f2) false) := by
  constructor
  · intro r ok h
    have ok : 0 ≤ rd (rd_T47 l j).f1 i ∧ rd (rd_T47 l j).f1 i ≤ 2 := by simpa [okLight] using ok
    refine shift ?_
    simp only [impl_IsRecord.l1]
    refine pos (nat_lt hi) (pos (by omega) (pos (nat_lt hi) (bindc (impl_InRange_eq _ _ _) (pos (by simp [ok]) ?_))))
    rw [succ_wrap (by omega)]
    exact h
  · intro ok
    have ok : ¬ (0 ≤ rd (rd_T47 l j).f1 i ∧ rd (rd_T47 l j).f1 i ≤ 2) := by simpa [okLight] using ok
    refine shift ?_
    simp only [impl_IsRecord.l1]
    exact pos (nat_lt hi) (pos (by omega) (pos (nat_lt hi) (bindc (impl_InRange_eq _ _ _) (neg (by simpa using ok) (now rfl)))))
theorem impl_IsRecord_in (l : List S47) (h60 : l.length ≤ 60) (he : ∀ x ∈ l, x.f1.length ≤ 1048576) : Ev (fun k => impl_IsRecord.l0 k l (prevSeal l 0) l (l.length : Int) 0) ((List.range l.length).all (okEntry l) && true) := by
  refine all_loop (g := fun k j => impl_IsRecord.l0 k l (prevSeal l j) l (l.length : Int) (j : Int)) l.length (okEntry l) true ?_ ?_ ?_
  · intro j r hj ok h
    have hx := entry_short l he j hj
    obtain ⟨⟨h1, h2, h3, h4, h5, h6⟩, hli⟩ := (okEntry_iff l j).1 ok
    have last : Ev (fun k => impl_IsRecord.j1 k l l (l.length : Int) (j : Int) ((rd_T47 l j).f2 != sealL (prevSeal l j) (rd_T47 l j).f0 (rd_T47 l j).f1) (rd_T47 l j).f0 (rd_T47 l j).f1 (rd_T47 l j).f2) r := by
      refine shift ?_
      simp only [impl_IsRecord.j1]
      refine neg (by rw [← h5]; simp) ?_
      refine ok_loop (g := fun k i => impl_IsRecord.l1 k l l (l.length : Int) (j : Int) (rd_T47 l j).f1 ((rd_T47 l j).f1.length : Int) (i : Int) (rd_T47 l j).f0 (rd_T47 l j).f1 (rd_T47 l j).f2) (rd_T47 l j).f1.length (okLight (rd_T47 l j).f1) hli (fun i r hi => (impl_IsRecord_lights l _ j hx i hi).1 r) (shift ?_)
      simp only [impl_IsRecord.l1]
      refine neg (nat_ge (Nat.le_refl _)) ?_
      rw [succ_wrap (by omega), ← prevSeal_succ]
      exact h
    refine shift ?_
    simp only [impl_IsRecord.l0]
    refine pos (nat_lt hj) (pos (by omega) (pos (nat_lt hj) (bindc (impl_InRange_eq _ _ _) (pos (by simp [h1, h2]) ?_))))
    by_cases h0 : (j : Int) > 0
    · rw [w64 (x := (j : Int) - 1) (by omega) (by omega)]
      exact pos h0 (pos (by omega) (pos (by omega) (neg (by have := h6 (by omega); omega) (neg (by omega) (pos (by omega) (pos (by omega) (Ev.bind (impl_SealOf_ev _ _ _ hx) last)))))))
    · exact neg h0 (neg (by omega) (pos (by omega) (pos (by omega) (Ev.bind (impl_SealOf_ev _ _ _ hx) last))))
  · intro j hj ok
    have hx := entry_short l he j hj
    have ok : ¬ (entryHead l j ∧ entryLights l j = true) := by rw [← okEntry_iff, ok]; simp
    unfold entryHead at ok
    have no : Ev (fun k => impl_IsRecord.j1 k l l (l.length : Int) (j : Int) true (rd_T47 l j).f0 (rd_T47 l j).f1 (rd_T47 l j).f2) false := by
      refine shift ?_
      simp only [impl_IsRecord.j1]
      exact pos (by simp) (now rfl)
    refine shift ?_
    simp only [impl_IsRecord.l0]
    refine pos (nat_lt hj) (pos (by omega) (pos (nat_lt hj) (bindc (impl_InRange_eq _ _ _) ?_)))
    by_cases h1 : 0 ≤ (rd_T47 l j).f0 ∧ (rd_T47 l j).f0 ≤ 1000000
    · refine pos (by simp [h1]) ?_
      have more : (0 < j → (rd_T47 l ((j : Int) - 1)).f0 < (rd_T47 l j).f0) → (rd_T47 l j).f1.length ≤ 12 → (rd_T47 l j).f1.length = (rd_T47 l 0).f1.length →
          Ev (fun k => impl_IsRecord.j1 k l l (l.length : Int) (j : Int) ((rd_T47 l j).f2 != sealL (prevSeal l j) (rd_T47 l j).f0 (rd_T47 l j).f1) (rd_T47 l j).f0 (rd_T47 l j).f1 (rd_T47 l j).f2) false := by
        intro h6 h3 h4
        by_cases h5 : (rd_T47 l j).f2 = sealL (prevSeal l j) (rd_T47 l j).f0 (rd_T47 l j).f1
        · have hli : ¬ entryLights l j = true := fun q => ok ⟨⟨h1.1, h1.2, h3, h4, h5, h6⟩, q⟩
          refine shift ?_
          simp only [impl_IsRecord.j1]
          refine neg (by rw [← h5]; simp) ?_
          exact bad_loop (g := fun k i => impl_IsRecord.l1 k l l (l.length : Int) (j : Int) (rd_T47 l j).f1 ((rd_T47 l j).f1.length : Int) (i : Int) (rd_T47 l j).f0 (rd_T47 l j).f1 (rd_T47 l j).f2) (rd_T47 l j).f1.length (okLight (rd_T47 l j).f1) false hli (fun i r hi => (impl_IsRecord_lights l _ j hx i hi).1 r) (fun i hi => (impl_IsRecord_lights l _ j hx i hi).2)
        · rw [show ((rd_T47 l j).f2 != sealL (prevSeal l j) (rd_T47 l j).f0 (rd_T47 l j).f1) = true by simpa using h5]
          exact no
      by_cases h0 : (j : Int) > 0
      · rw [w64 (x := (j : Int) - 1) (by omega) (by omega)]
        refine pos h0 (pos (by omega) (pos (by omega) ?_))
        by_cases h6 : (rd_T47 l ((j : Int) - 1)).f0 < (rd_T47 l j).f0
        · refine neg (by omega) ?_
          by_cases h3 : (rd_T47 l j).f1.length ≤ 12
          · refine neg (by omega) (pos (by omega) ?_)
            by_cases h4 : (rd_T47 l j).f1.length = (rd_T47 l 0).f1.length
            · exact pos (by omega) (Ev.bind (impl_SealOf_ev _ _ _ hx) (more (fun _ => h6) h3 h4))
            · exact neg (by omega) no
          · exact pos (by omega) no
        · exact pos (by omega) no
      · refine neg h0 ?_
        by_cases h3 : (rd_T47 l j).f1.length ≤ 12
        · refine neg (by omega) (pos (by omega) ?_)
          by_cases h4 : (rd_T47 l j).f1.length = (rd_T47 l 0).f1.length
          · exact pos (by omega) (Ev.bind (impl_SealOf_ev _ _ _ hx) (more (fun q => absurd q (by omega)) h3 h4))
          · exact neg (by omega) no
        · exact pos (by omega) no
    · exact neg (by simpa using h1) no
  · refine shift ?_
    simp only [impl_IsRecord.l0]
    exact neg (nat_ge (Nat.le_refl _)) (now rfl)
theorem impl_IsRecord_ev (l : List S47) (hl : l.length ≤ 1048577) (he : ∀ x ∈ l, x.f1.length ≤ 1048576) : Ev (fun k => impl_IsRecord.f k l) (isRecord l) := by
  unfold impl_IsRecord.f isRecord
  by_cases h60 : l.length ≤ 60
  · rw [decide_eq_true h60]
    exact neg (by omega) (impl_IsRecord_in l h60 he)
  · rw [decide_eq_false h60, Bool.and_false]
    exact pos (by omega) (now rfl)

theorem slices_Clone_int_int_eq (l : List Int) (hl : l.length ≤ 1048576) : slices_Clone_int_int.f l = some l := by
  unfold slices_Clone_int_int.f
  rw [Option.bind_some, if_pos (by simp; omega)]
  simp

/-- As all_loop, with what the earlier places are known to be. -/
theorem all_loopI {g : Nat → Nat → Option Bool} (N : Nat) (ok : Nat → Bool) (b : Bool) (hs : ∀ j r, j < N → (∀ i, i ≤ j → ok i = true) → Ev (fun k => g k (j + 1)) r → Ev (fun k => g k j) r)
    (hf : ∀ j, j < N → (∀ i, i < j → ok i = true) → ok j = false → Ev (fun k => g k j) false) (he : (∀ i, i < N → ok i = true) → Ev (fun k => g k N) b) : Ev (fun k => g k 0) ((List.range N).all ok && b) := by
  have : ∀ d j, j + d = N → (∀ i, i < j → ok i = true) → Ev (fun k => g k j) ((List.range' j d).all ok && b) := by
    intro d
    induction d with
    | zero =>
      intro j hj hb
      have : j = N := by omega
      subst this
      simpa using he hb
    | succ d ih =>
      intro j hj hb
      rw [List.range'_succ, List.all_cons]
      cases h : ok j with
      | true =>
        have hb2 : ∀ i, i < j + 1 → ok i = true := fun i hi => by
          by_cases e : i = j
          · rw [e]; exact h
          · exact hb i (by omega)
        simpa using hs j _ (by omega) (fun i hi => hb2 i (by omega)) (ih (j + 1) (by omega) hb2)
      | false => simpa using hf j (by omega) hb h
  have h := this N 0 (by omega) (fun i hi => by omega)
  rwa [← List.range_eq_range'] at h
theorem rd_take (xs : List Int) (j k : Nat) (h : k < j) : rd (xs.take j) (k : Int) = rd xs (k : Int) := by simp [rd, List.getD_eq_getElem?_getD, List.getElem?_take, h]
theorem take_len {α : Type} (xs : List α) (j : Nat) (h : j < xs.length) : (xs.take j).length = j := by rw [List.length_take]; omega
theorem take_snoc {α : Type} (xs : List α) (j : Nat) (h : j < xs.length) : xs.take (j + 1) = xs.take j ++ [xs[j]] := by rw [List.take_succ_eq_append_getElem h]

theorem rdEntry (p : List S47) (j : Nat) (h : j < p.length) : rd_T47 p (j : Int) = p[j] := by simp [rd_T47, h]
theorem spec_l27Copy_ev (l : List S47) (hl : l.length ≤ 1048577) (he : ∀ x ∈ l, x.f1.length ≤ 1048576) : Ev (fun k => spec_l27Copy.f k l) l := by
  unfold spec_l27Copy.f
  refine loop (g := fun k j => spec_l27Copy.l0 k l (l.take j) (j : Int)) l.length ?_ ?_ |> (fun h => by simpa using h)
  · intro j hj h
    have hx := he _ (List.getElem_mem hj)
    refine shift ?_
    simp only [spec_l27Copy.l0]
    rw [succ_wrap (by omega), rdEntry l j hj]
    rw [take_snoc l j hj] at h
    exact pos (nat_lt hj) (pos (by omega) (bindc rfl (pos (by simp; omega) (pos (by simp; omega) h))))
  · refine shift ?_
    simp only [spec_l27Copy.l0]
    exact neg (nat_ge (Nat.le_refl _)) (now (by rw [List.take_length]))

def lastSeal (l : List S47) : Int := if l.length = 0 then 0 else (rd_T47 l ((l.length : Int) - 1)).f2
theorem spec_LastSeal_eq (l : List S47) (hl : l.length ≤ 1048577) : spec_LastSeal.f l = some (lastSeal l) := by
  unfold spec_LastSeal.f lastSeal
  by_cases h : l.length = 0
  · rw [if_pos (by omega), if_pos h]
  · rw [if_neg (by omega), if_neg h, w64 (by omega) (by omega), if_pos (by omega), if_pos (by omega)]

def moreE (l : List S47) (s : Int) (v : List Int) : List S47 := l ++ [⟨s, v, sealL (lastSeal l) s v⟩]
def addE (l : List S47) (s : Int) (v : List Int) : List S47 × Bool := if isRecord (moreE l s v) = true then (moreE l s v, true) else (l, false)
theorem moreE_short (l : List S47) (s : Int) (v : List Int) (he : ∀ x ∈ l, x.f1.length ≤ 1048576) (hv : v.length ≤ 1048576) : ∀ x ∈ moreE l s v, x.f1.length ≤ 1048576 := by
  intro x hx
  rcases List.mem_append.1 hx with h | h
  · exact he x h
  · rw [List.mem_singleton.1 h]
    exact hv
theorem moreE_length (l : List S47) (s : Int) (v : List Int) : (moreE l s v).length = l.length + 1 := by simp [moreE]
theorem addE_short (l : List S47) (s : Int) (v : List Int) (he : ∀ x ∈ l, x.f1.length ≤ 1048576) (hv : v.length ≤ 1048576) : ∀ x ∈ (addE l s v).1, x.f1.length ≤ 1048576 := by
  unfold addE
  split
  · exact moreE_short l s v he hv
  · exact he
theorem addE_length (l : List S47) (s : Int) (v : List Int) : (addE l s v).1.length ≤ l.length + 1 := by
  unfold addE
  split
  · rw [moreE_length]; omega
  · show l.length ≤ l.length + 1; omega
theorem spec_AddEntry_ev (l : List S47) (s : Int) (v : List Int) (hl : l.length ≤ 1048576) (he : ∀ x ∈ l, x.f1.length ≤ 1048576) (hv : v.length ≤ 1048576) : Ev (fun k => spec_AddEntry.f k l s v) (addE l s v) := by
  unfold spec_AddEntry.f addE
  have hc := spec_l27Copy_ev l (by omega) he
  refine Ev.bind hc (bindc rfl (pos (by simp; omega) (bindc (spec_LastSeal_eq l (by omega)) (Ev.bind (spec_SealOf_ev _ _ _ hv) (pos (by omega) (bindc rfl (Ev.bind (spec_IsRecord_ev (moreE l s v) (by rw [moreE_length]; omega) (moreE_short l s v he hv)) ?_)))))))
  by_cases h : isRecord (moreE l s v) = true
  · rw [if_pos h]
    exact pos h (now rfl)
  · rw [if_neg h]
    exact neg h (Ev.bind hc (now rfl))

theorem impl_LastSeal_eq (l : List S47) (hl : l.length ≤ 1048577) : impl_LastSeal.f l = some (lastSeal l) := by
  unfold impl_LastSeal.f lastSeal
  by_cases h : l.length = 0
  · rw [if_pos (by omega), if_pos h]
  · rw [if_neg (by omega), if_neg h, w64 (by omega) (by omega), if_pos (by omega), if_pos (by omega)]

theorem impl_cloneRecord_ev (l : List S47) (hl : l.length ≤ 1048577) (he : ∀ x ∈ l, x.f1.length ≤ 1048576) : Ev (fun k => impl_cloneRecord.f k l) l := by
  unfold impl_cloneRecord.f
  refine loop (g := fun k j => impl_cloneRecord.l0 k (l.take j) l (l.length : Int) (j : Int)) l.length ?_ ?_ |> (fun h => by simpa using h)
  · intro j hj h
    have hx := he _ (List.getElem_mem hj)
    refine shift ?_
    simp only [impl_cloneRecord.l0]
    rw [succ_wrap (by omega), rdEntry l j hj]
    rw [take_snoc l j hj] at h
    exact pos (nat_lt hj) (pos (by omega) (pos (nat_lt hj) (bindc (slices_Clone_int_int_eq _ hx) (pos (by simp; omega) h))))
  · refine shift ?_
    simp only [impl_cloneRecord.l0]
    exact neg (nat_ge (Nat.le_refl _)) (now (by rw [List.take_length]))

theorem impl_AddEntry_ev (l : List S47) (s : Int) (v : List Int) (hl : l.length ≤ 1048576) (he : ∀ x ∈ l, x.f1.length ≤ 1048576) (hv : v.length ≤ 1048576) : Ev (fun k => impl_AddEntry.f k l s v) (addE l s v) := by
  unfold impl_AddEntry.f addE
  have hc := impl_cloneRecord_ev l (by omega) he
  refine Ev.bind hc (bindc (slices_Clone_int_int_eq v hv) (bindc (impl_LastSeal_eq l (by omega)) (Ev.bind (impl_SealOf_ev _ _ _ hv) (pos (by omega) (bindc rfl (Ev.bind (impl_IsRecord_ev (moreE l s v) (by rw [moreE_length]; omega) (moreE_short l s v he hv)) ?_))))))
  by_cases h : isRecord (moreE l s v) = true
  · rw [if_pos h]
    exact pos h (now rfl)
  · rw [if_neg h]
    exact neg h (Ev.bind hc (now rfl))

theorem eqAll {a b : List Int} (hl : a.length = b.length) : (List.range b.length).all (fun i => decide (rd a (i : Int) = rd b (i : Int))) = decide (a = b) := by
  by_cases h : a = b
  · subst h
    simp
  · rw [decide_eq_false h]
    apply Bool.eq_false_iff.2
    intro g
    refine h (List.ext_getElem hl (fun i h1 h2 => ?_))
    have := List.all_eq_true.1 g i (List.mem_range.2 h2)
    simpa [rd_get a i h1, rd_get b i h2] using this
theorem spec_EqualInts_ev (a b : List Int) (ha : a.length ≤ 1048576) : Ev (fun k => spec_EqualInts.f k a b) (decide (a = b)) := by
  unfold spec_EqualInts.f
  by_cases h : a.length = b.length
  · refine pos (by omega) ?_
    rw [← eqAll h]
    refine all_loop (g := fun k j => spec_EqualInts.l0 k a b (j : Int)) b.length (fun i => decide (rd a (i : Int) = rd b (i : Int))) true ?_ ?_ ?_ |> (fun h => by simpa using h)
    · intro j r hj ok hh
      refine shift ?_
      simp only [spec_EqualInts.l0]
      rw [succ_wrap (by omega)]
      exact pos (by omega) (pos (by omega) (pos (by omega) (pos (of_decide_eq_true ok) hh)))
    · intro j hj ok
      refine shift ?_
      simp only [spec_EqualInts.l0]
      exact pos (by omega) (pos (by omega) (pos (by omega) (neg (of_decide_eq_false ok) (now rfl))))
    · refine shift ?_
      simp only [spec_EqualInts.l0]
      exact neg (by omega) (now rfl)
  · refine neg (by omega) (now ?_)
    rw [decide_eq_false (fun e => h (by rw [e]))]

def lastE (l : List S47) : S47 := rd_T47 l ((l.length : Int) - 1)
def noteE (l : List S47) (s : Int) (v : List Int) : List S47 × Bool :=
  if l.length = 0 ∨ ¬ (lastE l).f1 = v then addE l s v else (l, isRecord l && (decide (s > (lastE l).f0) && decide (0 ≤ s ∧ s ≤ 1000000)))
theorem noteE_short (l : List S47) (s : Int) (v : List Int) (he : ∀ x ∈ l, x.f1.length ≤ 1048576) (hv : v.length ≤ 1048576) : ∀ x ∈ (noteE l s v).1, x.f1.length ≤ 1048576 := by
  unfold noteE
  split
  · exact addE_short l s v he hv
  · exact he
theorem noteE_length (l : List S47) (s : Int) (v : List Int) : (noteE l s v).1.length ≤ l.length + 1 := by
  unfold noteE
  split
  · exact addE_length l s v
  · show l.length ≤ l.length + 1; omega
theorem lastE_short (l : List S47) (he : ∀ x ∈ l, x.f1.length ≤ 1048576) (h : ¬ l.length = 0) : (lastE l).f1.length ≤ 1048576 := by
  have e : (l.length : Int) - 1 = ((l.length - 1 : Nat) : Int) := by omega
  unfold lastE
  rw [e]
  exact entry_short l he _ (by omega)
theorem spec_NoteLights_ev (l : List S47) (s : Int) (v : List Int) (hl : l.length ≤ 1048576) (he : ∀ x ∈ l, x.f1.length ≤ 1048576) (hv : v.length ≤ 1048576) : Ev (fun k => spec_NoteLights.f k l s v) (noteE l s v) := by
  unfold spec_NoteLights.f noteE
  have add : Ev (fun k => spec_NoteLights.j0 k l s v true) (addE l s v) := by
    refine shift ?_
    simp only [spec_NoteLights.j0]
    exact pos trivial (Ev.bind (spec_AddEntry_ev l s v hl he hv) (now rfl))
  by_cases h0 : l.length = 0
  · rw [if_pos (.inl h0)]
    exact pos (by omega) add
  · rw [w64 (x := (l.length : Int) - 1) (by omega) (by omega)]
    refine neg (by omega) (pos (by omega) (pos (by omega) (Ev.bind (spec_EqualInts_ev (lastE l).f1 v (lastE_short l he h0)) ?_)))
    by_cases h1 : (lastE l).f1 = v
    · rw [if_neg (fun g => g.elim h0 (fun g => g h1)), decide_eq_true h1]
      refine shift ?_
      simp only [spec_NoteLights.j0]
      rw [w64 (x := (l.length : Int) - 1) (by omega) (by omega)]
      refine neg (by decide) (Ev.bind (spec_l27Copy_ev l (by omega) he) (Ev.bind (spec_IsRecord_ev l (by omega) he) ?_))
      by_cases h2 : isRecord l = true
      · refine pos h2 (pos (by omega) (pos (by omega) ?_))
        rw [h2, Bool.true_and]
        by_cases h3 : s > (lastE l).f0
        · exact pos h3 (bindc (spec_l1In_eq _ _ _) (now (by rw [decide_eq_true h3, Bool.true_and])))
        · exact neg h3 (now (by rw [decide_eq_false h3, Bool.false_and]))
      · exact neg h2 (now (by simp [h2]))
    · rw [if_pos (.inr h1), decide_eq_false h1]
      exact add

theorem slices_Equal_int_int_ev (a b : List Int) (ha : a.length ≤ 1048576) : Ev (fun k => slices_Equal_int_int.f k a b) (decide (a = b)) := by
  unfold slices_Equal_int_int.f
  by_cases h : a.length = b.length
  · refine pos (by omega) ?_
    rw [← eqAll h]
    refine all_loop (g := fun k j => slices_Equal_int_int.l0 k a b (a.length : Int) (j : Int)) b.length (fun i => decide (rd a (i : Int) = rd b (i : Int))) true ?_ ?_ ?_ |> (fun h => by simpa using h)
    · intro j r hj ok hh
      refine shift ?_
      simp only [slices_Equal_int_int.l0]
      rw [succ_wrap (by omega)]
      exact pos (by omega) (pos (by omega) (pos (by omega) (pos (by omega) (pos (of_decide_eq_true ok) hh))))
    · intro j hj ok
      refine shift ?_
      simp only [slices_Equal_int_int.l0]
      exact pos (by omega) (pos (by omega) (pos (by omega) (pos (by omega) (neg (of_decide_eq_false ok) (now rfl)))))
    · refine shift ?_
      simp only [slices_Equal_int_int.l0]
      exact neg (by omega) (now rfl)
  · refine neg (by omega) (now ?_)
    rw [decide_eq_false (fun e => h (by rw [e]))]

theorem impl_NoteLights_ev (l : List S47) (s : Int) (v : List Int) (hl : l.length ≤ 1048576) (he : ∀ x ∈ l, x.f1.length ≤ 1048576) (hv : v.length ≤ 1048576) : Ev (fun k => impl_NoteLights.f k l s v) (noteE l s v) := by
  unfold impl_NoteLights.f noteE
  have add : Ev (fun k => impl_NoteLights.j0 k l s v true) (addE l s v) := by
    refine shift ?_
    simp only [impl_NoteLights.j0]
    exact pos trivial (Ev.bind (impl_AddEntry_ev l s v hl he hv) (now rfl))
  by_cases h0 : l.length = 0
  · rw [if_pos (.inl h0)]
    exact pos (by omega) add
  · rw [w64 (x := (l.length : Int) - 1) (by omega) (by omega)]
    refine neg (by omega) (pos (by omega) (pos (by omega) (Ev.bind (slices_Equal_int_int_ev (lastE l).f1 v (lastE_short l he h0)) ?_)))
    by_cases h1 : (lastE l).f1 = v
    · rw [if_neg (fun g => g.elim h0 (fun g => g h1)), decide_eq_true h1]
      refine shift ?_
      simp only [impl_NoteLights.j0]
      rw [w64 (x := (l.length : Int) - 1) (by omega) (by omega)]
      refine neg (by decide) (Ev.bind (impl_cloneRecord_ev l (by omega) he) (Ev.bind (impl_IsRecord_ev l (by omega) he) ?_))
      by_cases h2 : isRecord l = true
      · refine pos h2 (pos (by omega) (pos (by omega) ?_))
        rw [h2, Bool.true_and]
        by_cases h3 : s > (lastE l).f0
        · exact pos h3 (bindc (impl_InRange_eq _ _ _) (now (by rw [decide_eq_true h3, Bool.true_and])))
        · exact neg h3 (now (by rw [decide_eq_false h3, Bool.false_and]))
      · exact neg h2 (now (by simp [h2]))
    · rw [if_pos (.inr h1), decide_eq_false h1]
      exact add

theorem laws_big_eq (l : List Int) : laws_big.f l = some (decide ((l.length : Int) > 1048576)) := rfl

theorem spec_l1New_ev (l : List Int) : ∃ s, Ev (fun k => spec_l1New.f k l) (l, 0, s) := by
  unfold spec_l1New.f
  have : ∀ d j s, j + d = l.length → (j : Nat) ≤ 4000 → ∃ s2, Ev (fun k => spec_l1New.l0 k l s (j : Int)) (l, 0, s2) := by
    intro d
    induction d with
    | zero =>
      intro j s hj _
      refine ⟨s, shift ?_⟩
      simp only [spec_l1New.l0]
      exact neg (by omega) (now rfl)
    | succ d ih =>
      intro j s hj hk
      by_cases h : j < 4000
      · obtain ⟨s2, h2⟩ := ih (j + 1) (Go.bits .and .i64 (wrap64 ((wrap64 ((wrap64 (s * 137)) + (wrap64 (rd l j)))) + 11)) 1073741823) (by omega) (by omega)
        refine ⟨s2, shift ?_⟩
        simp only [spec_l1New.l0]
        rw [succ_wrap (by omega)]
        exact pos (by omega) (pos (by omega) (pos (by omega) h2))
      · refine ⟨s, shift ?_⟩
        simp only [spec_l1New.l0]
        exact pos (by omega) (neg (by omega) (now rfl))
  exact this l.length 0 _ (by omega) (by omega)

theorem and255 (x : Int) : 0 ≤ Go.bits .and .i64 x 255 ∧ Go.bits .and .i64 x 255 ≤ 255 := by
  have h : (BitVec.ofInt 64 x &&& BitVec.ofInt 64 255).toNat ≤ 255 := by
    rw [BitVec.toNat_and]
    exact Nat.le_trans Nat.and_le_right (by decide)
  show 0 ≤ IntKind.wrap .i64 ((BitVec.ofInt 64 x &&& BitVec.ofInt 64 255).toNat : Int) ∧ IntKind.wrap .i64 ((BitVec.ofInt 64 x &&& BitVec.ofInt 64 255).toNat : Int) ≤ 255
  generalize (BitVec.ofInt 64 x &&& BitVec.ofInt 64 255).toNat = n at h
  have e : IntKind.wrap .i64 (n : Int) = wrap64 (n : Int) := by simp only [i64_w]
  rw [e, w64 (by omega) (by omega)]
  omega
theorem spec_l1Byte_ok (d : List Int) (p s : Int) (hd : d.length ≤ 1048576) (hp : 0 ≤ p ∧ p ≤ d.length) : ∃ v p2 s2, spec_l1Byte.f d p s = some (v, p2, s2) ∧ (0 ≤ p2 ∧ p2 ≤ d.length) ∧ 0 ≤ v ∧ v ≤ 255 := by
  unfold spec_l1Byte.f
  by_cases h : p < (d.length : Int)
  · refine ⟨_, _, _, by rw [if_pos h, if_pos hp.1], ?_, and255 _⟩
    rw [w64 (by omega) (by omega)]
    omega
  · exact ⟨_, _, _, by rw [if_neg h], hp, and255 _⟩

theorem spec_l1Below_ok (d : List Int) (p s a : Int) (hd : d.length ≤ 1048576) (hp : 0 ≤ p ∧ p ≤ d.length) : ∃ v p2 s2, spec_l1Below.f d p s a = some (v, p2, s2) ∧ (0 ≤ p2 ∧ p2 ≤ d.length) ∧ 0 ≤ v ∧ (0 < a → v < a) := by
  unfold spec_l1Below.f
  by_cases h : a ≤ 0
  · exact ⟨0, p, s, by rw [if_pos h], hp, by omega, by omega⟩
  rw [if_neg h]
  obtain ⟨v1, p1, s1, e1, r1, b1⟩ := spec_l1Byte_ok d p s hd hp
  by_cases h2 : a ≤ 256
  · refine ⟨Int.tmod v1 a, p1, s1, by rw [if_pos h2, e1, Option.bind_some, if_neg (by omega)], r1, Int.tmod_nonneg _ b1.1, fun h3 => Int.tmod_lt_of_pos _ h3⟩
  · obtain ⟨v2, p2, s2, e2, r2, b2⟩ := spec_l1Byte_ok d p1 s1 hd r1
    obtain ⟨v3, p3, s3, e3, r3, b3⟩ := spec_l1Byte_ok d p2 s2 hd r2
    refine ⟨_, p3, s3, by rw [if_neg h2, e1, Option.bind_some]; simp only [e2, e3, Option.bind_some]; rw [if_neg (by omega)], r3, Int.tmod_nonneg _ ?_, fun h3 => Int.tmod_lt_of_pos _ h3⟩
    rw [w64 (x := v1 * 65536) (by omega) (by omega), w64 (x := v2 * 256) (by omega) (by omega), w64 (x := v1 * 65536 + v2 * 256) (by omega) (by omega), w64 (by omega) (by omega)]
    omega

theorem spec_l1Int_ok (d : List Int) (p s : Int) (l : List Int) (hd : d.length ≤ 1048576) (hp : 0 ≤ p ∧ p ≤ d.length) (hl : 0 < l.length) : ∃ v p2 s2, spec_l1Int.f d p s l = some (v, p2, s2) ∧ (0 ≤ p2 ∧ p2 ≤ d.length) ∧ v ∈ l := by
  unfold spec_l1Int.f
  obtain ⟨v, p2, s2, e, r, h0, h1⟩ := spec_l1Below_ok d p s (l.length : Int) hd hp
  have h1 := h1 (by omega)
  refine ⟨rd l v, p2, s2, by rw [e, Option.bind_some, if_pos h0, if_pos h1], r, ?_⟩
  obtain ⟨n, rfl⟩ := Int.eq_ofNat_of_zero_le h0
  rw [rd_get l n (by omega)]
  exact List.getElem_mem _

theorem addE_all (P : List Int → Prop) (l : List S47) (s : Int) (v : List Int) (h : ∀ x ∈ l, P x.f1) (hv : P v) : ∀ x ∈ (addE l s v).1, P x.f1 := by
  unfold addE
  split
  · intro x hx
    rcases List.mem_append.1 hx with h1 | h1
    · exact h x h1
    · rw [List.mem_singleton.1 h1]
      exact hv
  · exact h
theorem noteE_all (P : List Int → Prop) (l : List S47) (s : Int) (v : List Int) (h : ∀ x ∈ l, P x.f1) (hv : P v) : ∀ x ∈ (noteE l s v).1, P x.f1 := by
  unfold noteE
  split
  · exact addE_all P l s v h hv
  · exact h
theorem spec_l27Draw_at (d : List Int) (hd : d.length ≤ 1048576) (n : Nat) (hn : 1 ≤ n ∧ n ≤ 4) : ∀ (i : Nat) (l : List S47) (t p s : Int), l.length + i ≤ 8 → (∀ x ∈ l, 1 ≤ x.f1.length ∧ x.f1.length ≤ 4) → (0 ≤ p ∧ p ≤ d.length) →
    ∃ l2 p2 s2, Ev (fun k => spec_l27Draw.l0 k (n : Int) l t (i : Int) d p s) (l2, p2, s2) ∧ (0 ≤ p2 ∧ p2 ≤ d.length) ∧ l2.length ≤ 8 ∧ ∀ x ∈ l2, 1 ≤ x.f1.length ∧ x.f1.length ≤ 4 := by
  intro i
  induction i with
  | zero =>
    intro l t p s hl he hp
    refine ⟨l, p, s, shift ?_, hp, by omega, he⟩
    simp only [spec_l27Draw.l0]
    exact neg (by omega) (now rfl)
  | succ i ih =>
    intro l t p s hl he hp
    have inner : ∀ (m j : Nat) (v : List Int) (p s : Int), j + m = n → v.length = j → (0 ≤ p ∧ p ≤ d.length) →
        ∃ l2 p2 s2, Ev (fun k => spec_l27Draw.l1 k (n : Int) l t ((i + 1 : Nat) : Int) v (j : Int) d p s) (l2, p2, s2) ∧ (0 ≤ p2 ∧ p2 ≤ d.length) ∧ l2.length ≤ 8 ∧ ∀ x ∈ l2, 1 ≤ x.f1.length ∧ x.f1.length ≤ 4 := by
      intro m
      induction m with
      | zero =>
        intro j v p s hj hv hp
        obtain ⟨c, p2, s2, e, hp2, _⟩ := spec_l1Below_ok d p s 9 hd hp
        obtain ⟨l3, p3, s3, h3, r⟩ := ih (noteE l t v).1 (wrap64 ((wrap64 (t + 1)) + c)) p2 s2 (by have := noteE_length l t v; omega) (noteE_all (fun y => 1 ≤ y.length ∧ y.length ≤ 4) l t v he ⟨by omega, by omega⟩) hp2
        refine ⟨l3, p3, s3, shift ?_, r⟩
        simp only [spec_l27Draw.l1]
        have e1 : wrap64 (((i + 1 : Nat) : Int) - 1) = (i : Int) := by rw [w64 (by omega) (by omega)]; omega
        refine neg (by omega) (Ev.bind (spec_NoteLights_ev l t v (by omega) (fun x hx => by have := he x hx; omega) (by omega)) (bindc e ?_))
        rw [e1]
        exact h3
      | succ m ihm =>
        intro j v p s hj hv hp
        obtain ⟨c, p2, s2, e, hp2, _⟩ := spec_l1Below_ok d p s 3 hd hp
        obtain ⟨l3, p3, s3, h3, r⟩ := ihm (j + 1) (v ++ [c]) p2 s2 (by omega) (by simp; omega) hp2
        refine ⟨l3, p3, s3, shift ?_, r⟩
        simp only [spec_l27Draw.l1]
        refine pos (by omega) (bindc e (pos (by omega) ?_))
        rw [succ_wrap (by omega)]
        exact h3
    obtain ⟨l2, p2, s2, h, r⟩ := inner n 0 [] p s (by omega) rfl hp
    refine ⟨l2, p2, s2, shift ?_, r⟩
    simp only [spec_l27Draw.l0]
    exact pos (by omega) h
theorem spec_l27Draw_ev (d : List Int) (hd : d.length ≤ 1048576) (n : Nat) (hn : 1 ≤ n ∧ n ≤ 4) (p s : Int) (hp : 0 ≤ p ∧ p ≤ d.length) :
    ∃ l2 p2 s2, Ev (fun k => spec_l27Draw.f k d p s (n : Int)) (l2, p2, s2) ∧ (0 ≤ p2 ∧ p2 ≤ d.length) ∧ l2.length ≤ 8 ∧ ∀ x ∈ l2, 1 ≤ x.f1.length ∧ x.f1.length ≤ 4 := by
  unfold spec_l27Draw.f
  obtain ⟨t, p2, s2, e2, hp2, _⟩ := spec_l1Below_ok d p s 5 hd hp
  obtain ⟨i, p3, s3, e3, hp3, i0, i1⟩ := spec_l1Below_ok d p2 s2 8 hd hp2
  have i1 := i1 (by omega)
  obtain ⟨m, rfl⟩ := Int.eq_ofNat_of_zero_le i0
  obtain ⟨l, p4, s4, h, r⟩ := spec_l27Draw_at d hd n hn m [] t p3 s3 (by simp; omega) (fun x hx => by cases hx) hp3
  exact ⟨l, p4, s4, bindc e2 (bindc e3 h), r⟩

theorem set_all (P : S47 → Prop) (l : List S47) (j : Nat) (y : S47) (h : ∀ x ∈ l, P x) (hy : P y) : ∀ x ∈ l.set j y, P x := by
  intro x hx
  rcases List.mem_or_eq_of_mem_set hx with h1 | h1
  · exact h x h1
  · exact h1 ▸ hy
theorem spec_l27Any_ev (d : List Int) (hd : d.length ≤ 1048576) (p s : Int) (hp : 0 ≤ p ∧ p ≤ d.length) :
    ∃ l2 p2 s2, Ev (fun k => spec_l27Any.f k d p s) (l2, p2, s2) ∧ (0 ≤ p2 ∧ p2 ≤ d.length) ∧ l2.length ≤ 8 ∧ ∀ x ∈ l2, x.f1.length ≤ 5 := by
  unfold spec_l27Any.f
  obtain ⟨n, p1, s1, e1, hp1, n0, n1⟩ := spec_l1Below_ok d p s 4 hd hp
  have n1 := n1 (by (try dsimp only); omega)
  obtain ⟨m, hm⟩ := Int.eq_ofNat_of_zero_le (show 0 ≤ 1 + n by omega)
  have hw : wrap64 (1 + n) = (m : Int) := by rw [w64 (by (try dsimp only); omega) (by (try dsimp only); omega), hm]
  obtain ⟨l, p2, s2, h2, hp2, hl, he⟩ := spec_l27Draw_ev d hd m (by (try dsimp only); omega) p1 s1 hp1
  by_cases h0 : l.length = 0
  · refine ⟨l, p2, s2, bindc e1 ?_, hp2, hl, fun x hx => by have := he x hx; omega⟩
    dsimp only
    rw [hw]
    exact Ev.bind h2 (pos (by (try dsimp only); omega) (now rfl))
  obtain ⟨i, p3, s3, e3, hp3, i0, i1⟩ := spec_l1Below_ok d p2 s2 (l.length : Int) hd hp2
  have i1 := i1 (by (try dsimp only); omega)
  obtain ⟨j, rfl⟩ := Int.eq_ofNat_of_zero_le i0
  have hj : j < l.length := by omega
  obtain ⟨c, p4, s4, e4, hp4, _⟩ := spec_l1Below_ok d p3 s3 9 hd hp3
  have hx := he _ (List.getElem_mem hj)
  have hg := rdEntry l j hj
  have he5 : ∀ x ∈ l, x.f1.length ≤ 5 := fun x hx => by have := he x hx; omega
  have start : ∀ {r : List S47 × Int × Int} {F : Nat → Option (List S47 × Int × Int)}, Ev F r → Ev F r := fun h => h
  by_cases c0 : c = 0
  · obtain ⟨v, p5, s5, e5, hp5, _⟩ := spec_l1Int_ok d p4 s4 [(-1), 0, 1000000, 1000001] hd hp4 (by simp)
    refine ⟨l.set j ⟨v, l[j].f1, l[j].f2⟩, p5, s5, bindc e1 ?_, hp5, by simpa using hl, set_all (fun x => x.f1.length ≤ 5) l j _ he5 (by show l[j].f1.length ≤ 5; omega)⟩
    dsimp only
    rw [hw]
    refine Ev.bind h2 (neg (by (try dsimp only); omega) (bindc e3 (bindc e4 (pos c0 (bindc e5 (pos (by (try dsimp only); omega) (pos (by dsimp only; omega) ?_)))))))
    dsimp only
    rw [hg]
    exact now rfl
  by_cases c1 : c = 1
  · refine ⟨l.set j ⟨l[j].f0, l[j].f1 ++ [1], l[j].f2⟩, p4, s4, bindc e1 ?_, hp4, by simpa using hl, set_all (fun x => x.f1.length ≤ 5) l j _ he5 (by show (l[j].f1 ++ [1]).length ≤ 5; simp; omega)⟩
    dsimp only
    rw [hw]
    refine Ev.bind h2 (neg (by (try dsimp only); omega) (bindc e3 (bindc e4 (neg c0 (pos c1 (pos (by (try dsimp only); omega) (pos (by dsimp only; omega) ?_)))))))
    dsimp only
    rw [hg]
    exact pos (by (try dsimp only); omega) (now rfl)
  by_cases c2 : c = 2
  · refine ⟨l.set j ⟨l[j].f0, l[j].f1, wrap64 (l[j].f2 + 1)⟩, p4, s4, bindc e1 ?_, hp4, by simpa using hl, set_all (fun x => x.f1.length ≤ 5) l j _ he5 (by show l[j].f1.length ≤ 5; omega)⟩
    dsimp only
    rw [hw]
    refine Ev.bind h2 (neg (by (try dsimp only); omega) (bindc e3 (bindc e4 (neg c0 (neg c1 (pos c2 (pos (by (try dsimp only); omega) (pos (by dsimp only; omega) ?_))))))))
    dsimp only
    rw [hg]
    exact now rfl
  by_cases c3 : c = 3
  · obtain ⟨v, p5, s5, e5, hp5, _⟩ := spec_l1Int_ok d p4 s4 [(-1), 3] hd hp4 (by simp)
    refine ⟨l.set j ⟨l[j].f0, l[j].f1.set 0 v, l[j].f2⟩, p5, s5, bindc e1 ?_, hp5, by simpa using hl, set_all (fun x => x.f1.length ≤ 5) l j _ he5 (by show (l[j].f1.set 0 v).length ≤ 5; simp; omega)⟩
    dsimp only
    rw [hw]
    refine Ev.bind h2 (neg (by (try dsimp only); omega) (bindc e3 (bindc e4 (neg c0 (neg c1 (neg c2 (pos c3 (pos (by (try dsimp only); omega) (pos (by dsimp only; omega) (bindc e5 ?_))))))))))
    dsimp only
    rw [hg]
    exact pos (by (try dsimp only); omega) (now rfl)
  · refine ⟨l, p4, s4, bindc e1 ?_, hp4, hl, he5⟩
    dsimp only
    rw [hw]
    exact Ev.bind h2 (neg (by (try dsimp only); omega) (bindc e3 (bindc e4 (neg c0 (neg c1 (neg c2 (neg c3 (now rfl))))))))

theorem spec_l1Once_ok (d : List Int) (p s a : Int) (hd : d.length ≤ 1048576) (hp : 0 ≤ p ∧ p ≤ d.length) : ∃ v p2 s2, spec_l1Once.f d p s a = some (v, p2, s2) ∧ (0 ≤ p2 ∧ p2 ≤ d.length) := by
  unfold spec_l1Once.f
  obtain ⟨v, p2, s2, e, r, _⟩ := spec_l1Below_ok d p s a hd hp
  exact ⟨_, p2, s2, by rw [e, Option.bind_some], r⟩

theorem spec_DrawAddEntry_j1 (l : List S47) (t : Int) (v d : List Int) (b : Bool) (hd : d.length ≤ 1048576) (hv : v.length ≤ 5) (hb : b = true → 0 < v.length) (p s : Int) (hp : 0 ≤ p ∧ p ≤ d.length) :
    ∃ v2, Ev (fun k => spec_DrawAddEntry.j1 k l t v b d p s) (l, t, v2) ∧ v2.length ≤ 6 := by
  by_cases h : b = true
  · obtain ⟨c, p1, s1, e1, hp1, _⟩ := spec_l1Below_ok d p s 4 hd hp
    obtain ⟨o, p2, s2, e2, hp2⟩ := spec_l1Once_ok d p1 s1 9 hd hp1
    have hb := hb h
    by_cases ho : o = true
    · refine ⟨v.set 0 c ++ [0], shift ?_, by simp; omega⟩
      simp only [spec_DrawAddEntry.j1]
      exact pos h (bindc e1 (pos (by omega) (bindc rfl (bindc e2 (pos ho (pos (by simp; omega) (now rfl)))))))
    · refine ⟨v.set 0 c, shift ?_, by simp; omega⟩
      simp only [spec_DrawAddEntry.j1]
      exact pos h (bindc e1 (pos (by omega) (bindc rfl (bindc e2 (neg ho (now rfl))))))
  · obtain ⟨o, p2, s2, e2, hp2⟩ := spec_l1Once_ok d p s 9 hd hp
    by_cases ho : o = true
    · refine ⟨v ++ [0], shift ?_, by simp; omega⟩
      simp only [spec_DrawAddEntry.j1]
      exact neg h (bindc e2 (pos ho (pos (by omega) (now rfl))))
    · refine ⟨v, shift ?_, by omega⟩
      simp only [spec_DrawAddEntry.j1]
      exact neg h (bindc e2 (neg ho (now rfl)))
theorem spec_DrawAddEntry_j0 (l : List S47) (t : Int) (v d : List Int) (hd : d.length ≤ 1048576) (hv : v.length ≤ 5) (p s : Int) (hp : 0 ≤ p ∧ p ≤ d.length) :
    ∃ v2, Ev (fun k => spec_DrawAddEntry.j0 k l t v d p s) (l, t, v2) ∧ v2.length ≤ 6 := by
  by_cases h : (v.length : Int) > 0
  · obtain ⟨o, p2, s2, e2, hp2⟩ := spec_l1Once_ok d p s 3 hd hp
    obtain ⟨v2, h2, hv2⟩ := spec_DrawAddEntry_j1 l t v d (!o) hd hv (fun _ => by omega) p2 s2 hp2
    refine ⟨v2, shift ?_, hv2⟩
    simp only [spec_DrawAddEntry.j0]
    exact pos h (bindc e2 h2)
  · obtain ⟨v2, h2, hv2⟩ := spec_DrawAddEntry_j1 l t v d false hd hv (fun h => by cases h) p s hp
    refine ⟨v2, shift ?_, hv2⟩
    simp only [spec_DrawAddEntry.j0]
    exact neg h h2
theorem spec_DrawAddEntry_ev (d : List Int) (hd : d.length ≤ 1048576) : ∃ l t v, Ev (fun k => spec_DrawAddEntry.f k d) (l, t, v) ∧ l.length ≤ 8 ∧ (∀ x ∈ l, x.f1.length ≤ 5) ∧ v.length ≤ 6 := by
  unfold spec_DrawAddEntry.f
  obtain ⟨s, h1⟩ := spec_l1New_ev d
  obtain ⟨l, p2, s2, h2, hp2, hl, he⟩ := spec_l27Any_ev d hd 0 s (by omega)
  obtain ⟨t, p3, s3, e3, hp3, _⟩ := spec_l1Int_ok d p2 s2 [0, 20, 60, 80, 1000000, 1000001] hd hp2 (by simp)
  by_cases h0 : (l.length : Int) > 0
  · have e : (l.length : Int) - 1 = ((l.length - 1 : Nat) : Int) := by omega
    have hx := he _ (List.getElem_mem (show l.length - 1 < l.length by omega))
    obtain ⟨v, h, hv⟩ := spec_DrawAddEntry_j0 l t ([] ++ l[l.length - 1].f1) d hd (by simpa using hx) p3 s3 hp3
    refine ⟨l, t, v, Ev.bind h1 (Ev.bind h2 (bindc e3 (bindc rfl (pos h0 ?_)))), hl, he, hv⟩
    dsimp only
    rw [w64 (x := (l.length : Int) - 1) (by omega) (by omega), e, rdEntry l _ (by omega)]
    exact pos (by omega) (pos (by omega) (pos (by simp; omega) h))
  · obtain ⟨v, h, hv⟩ := spec_DrawAddEntry_j0 l t [] d hd (by simp) p3 s3 hp3
    exact ⟨l, t, v, Ev.bind h1 (Ev.bind h2 (bindc e3 (bindc rfl (neg h0 h)))), hl, he, hv⟩

/-- How many entries bear the same seals, from place j on. -/
def sameFrom (a b : List S47) : Nat → Nat → Nat
  | 0, j => j
  | d + 1, j => if j < a.length ∧ j < b.length ∧ (rd_T47 a j).f2 = (rd_T47 b j).f2 then sameFrom a b d (j + 1) else j

theorem impl_SameUntil_at (a b : List S47) (ha : a.length ≤ 1048577) (hb : b.length ≤ 1048577) : ∀ d j : Nat, a.length ≤ j + d → Ev (fun k => impl_SameUntil.l0 k a b (j : Int)) (sameFrom a b d j : Int) := by
  intro d
  induction d with
  | zero =>
    intro j hj
    refine shift ?_
    simp only [impl_SameUntil.l0]
    exact neg (nat_ge (by omega)) (now rfl)
  | succ d ih =>
    intro j hj
    refine shift ?_
    simp only [impl_SameUntil.l0]
    rw [sameFrom]
    by_cases h1 : j < a.length
    · refine pos (nat_lt h1) ?_
      by_cases h2 : j < b.length
      · refine pos (nat_lt h2) (pos (by omega) ?_)
        by_cases h3 : (rd_T47 a j).f2 = (rd_T47 b j).f2
        · rw [if_pos ⟨h1, h2, h3⟩]
          refine pos h3 ?_
          rw [succ_wrap (by omega)]
          exact ih (j + 1) (by omega)
        · rw [if_neg (fun q => h3 q.2.2)]
          exact neg h3 (now rfl)
      · rw [if_neg (fun q => h2 q.2.1)]
        exact neg (nat_ge (by omega)) (now rfl)
    · rw [if_neg (fun q => h1 q.1)]
      exact neg (nat_ge (by omega)) (now rfl)
theorem impl_SameUntil_ev (a b : List S47) (ha : a.length ≤ 1048577) (hb : b.length ≤ 1048577) : Ev (fun k => impl_SameUntil.f k a b) (sameFrom a b a.length 0 : Int) := impl_SameUntil_at a b ha hb a.length 0 (by omega)

theorem spec_DrawNoteLights_ev (d : List Int) (hd : d.length ≤ 1048576) : ∃ l t v, Ev (fun k => spec_DrawNoteLights.f k d) (l, t, v) ∧ l.length ≤ 8 ∧ (∀ x ∈ l, x.f1.length ≤ 5) ∧ v.length ≤ 6 := by
  unfold spec_DrawNoteLights.f
  obtain ⟨l, t, v, h, r⟩ := spec_DrawAddEntry_ev d hd
  exact ⟨l, t, v, Ev.bind h (now rfl), r⟩

theorem laws_sameInts_ev (a b : List Int) (ha : a.length ≤ 1048576) : Ev (fun k => laws_sameInts.f k a b) (decide (a = b)) := by
  unfold laws_sameInts.f
  by_cases h : a.length = b.length
  · refine pos (by omega) ?_
    rw [← eqAll h]
    refine all_loop (g := fun k j => laws_sameInts.l0 k a b (j : Int)) b.length (fun i => decide (rd a (i : Int) = rd b (i : Int))) true ?_ ?_ ?_ |> (fun h => by simpa using h)
    · intro j r hj ok hh
      refine shift ?_
      simp only [laws_sameInts.l0]
      rw [succ_wrap (by omega)]
      exact pos (by omega) (pos (by omega) (pos (by omega) (pos (of_decide_eq_true ok) hh)))
    · intro j hj ok
      refine shift ?_
      simp only [laws_sameInts.l0]
      exact pos (by omega) (pos (by omega) (pos (by omega) (neg (of_decide_eq_false ok) (now rfl))))
    · refine shift ?_
      simp only [laws_sameInts.l0]
      exact neg (by omega) (now rfl)
  · refine neg (by omega) (now ?_)
    rw [decide_eq_false (fun e => h (by rw [e]))]

/-- What is drawn: a record, and a beginning of it, perhaps with one entry more. -/
def twin (a b : List S47) : Prop := ∃ m : Nat, m ≤ a.length ∧ (b = a.take m ∨ b = (addE (a.take m) 900 [1]).1)
theorem spec_DrawSameUntil_j1 (a : List S47) (m : Nat) (hm : m ≤ a.length) (d : List Int) (hd : d.length ≤ 1048576) (ha : a.length ≤ 8) (he : ∀ x ∈ a, x.f1.length ≤ 5) (p s : Int) (hp : 0 ≤ p ∧ p ≤ d.length) :
    ∃ b, Ev (fun k => spec_DrawSameUntil.j1 k a (a.take m) d p s) (a, b) ∧ twin a b := by
  obtain ⟨o, p2, s2, e2, hp2⟩ := spec_l1Once_ok d p s 3 hd hp
  by_cases h : o = true
  · refine ⟨_, shift ?_, m, hm, .inr rfl⟩
    simp only [spec_DrawSameUntil.j1]
    exact bindc e2 (pos h (Ev.bind (spec_AddEntry_ev (a.take m) 900 [1] (by simp; omega) (fun x hx => by have := he x (List.mem_of_mem_take hx); omega) (by simp)) (now rfl)))
  · refine ⟨_, shift ?_, m, hm, .inl rfl⟩
    simp only [spec_DrawSameUntil.j1]
    exact bindc e2 (neg h (now rfl))
theorem spec_DrawSameUntil_ev (d : List Int) (hd : d.length ≤ 1048576) : ∃ a b, Ev (fun k => spec_DrawSameUntil.f k d) (a, b) ∧ a.length ≤ 8 ∧ (∀ x ∈ a, x.f1.length ≤ 5) ∧ twin a b := by
  unfold spec_DrawSameUntil.f
  obtain ⟨s, h1⟩ := spec_l1New_ev d
  obtain ⟨a, p2, s2, h2, hp2, hl, he⟩ := spec_l27Any_ev d hd 0 s (by omega)
  have hc := spec_l27Copy_ev a (by omega) (fun x hx => by have := he x hx; omega)
  have whole : ∀ (p s : Int), 0 ≤ p ∧ p ≤ d.length → ∃ b, Ev (fun k => spec_DrawSameUntil.j0 k a a false d p s) (a, b) ∧ twin a b := by
    intro p s hp
    obtain ⟨b, h, ht⟩ := spec_DrawSameUntil_j1 a a.length (Nat.le_refl _) d hd hl he p s hp
    refine ⟨b, shift ?_, ht⟩
    simp only [spec_DrawSameUntil.j0]
    rw [List.take_length] at h
    exact neg (by decide) h
  by_cases h0 : (a.length : Int) > 0
  · obtain ⟨o, p3, s3, e3, hp3⟩ := spec_l1Once_ok d p2 s2 2 hd hp2
    cases o with
    | true =>
      obtain ⟨v, p4, s4, e4, hp4, v0, v1⟩ := spec_l1Below_ok d p3 s3 (a.length : Int) hd hp3
      have v1 := v1 (by omega)
      obtain ⟨m, rfl⟩ := Int.eq_ofNat_of_zero_le v0
      obtain ⟨b, h, ht⟩ := spec_DrawSameUntil_j1 a m (by omega) d hd hl he p4 s4 hp4
      refine ⟨a, b, Ev.bind h1 (Ev.bind h2 (Ev.bind hc (pos h0 (bindc e3 (shift ?_))))), hl, he, ht⟩
      simp only [spec_DrawSameUntil.j0]
      exact pos trivial (bindc e4 (pos (by omega) (pos (by dsimp only; omega) h)))
    | false =>
      obtain ⟨b, h, ht⟩ := whole p3 s3 hp3
      exact ⟨a, b, Ev.bind h1 (Ev.bind h2 (Ev.bind hc (pos h0 (bindc e3 h)))), hl, he, ht⟩
  · obtain ⟨b, h, ht⟩ := whole p2 s2 hp2
    exact ⟨a, b, Ev.bind h1 (Ev.bind h2 (Ev.bind hc (neg h0 h))), hl, he, ht⟩

theorem sameFrom_spec (a b : List S47) : ∀ d j, a.length ≤ j + d → j ≤ sameFrom a b d j ∧ (∀ i, j ≤ i → i < sameFrom a b d j → i < a.length ∧ i < b.length ∧ (rd_T47 a (i : Int)).f2 = (rd_T47 b (i : Int)).f2) ∧
    ¬ (sameFrom a b d j < a.length ∧ sameFrom a b d j < b.length ∧ (rd_T47 a (sameFrom a b d j : Int)).f2 = (rd_T47 b (sameFrom a b d j : Int)).f2) := by
  intro d
  induction d with
  | zero => exact fun j h => ⟨Nat.le_refl _, fun i h1 h2 => by simp only [sameFrom] at h2; omega, fun g => by simp only [sameFrom] at g; omega⟩
  | succ d ih =>
    intro j h
    simp only [sameFrom]
    by_cases c : j < a.length ∧ j < b.length ∧ (rd_T47 a (j : Int)).f2 = (rd_T47 b (j : Int)).f2
    · rw [if_pos c]
      obtain ⟨h1, h2, h3⟩ := ih (j + 1) (by omega)
      refine ⟨by omega, fun i hi1 hi2 => ?_, h3⟩
      by_cases e : i = j
      · exact e ▸ c
      · exact h2 i (by omega) hi2
    · rw [if_neg c]
      exact ⟨Nat.le_refl _, fun i h1 h2 => by omega, c⟩
def sameN (a b : List S47) : Nat := sameFrom a b a.length 0
theorem sameN_symm (a b : List S47) : sameN a b = sameN b a := by
  obtain ⟨_, h1, h2⟩ := sameFrom_spec a b a.length 0 (by omega)
  obtain ⟨_, h3, h4⟩ := sameFrom_spec b a b.length 0 (by omega)
  unfold sameN
  rcases Nat.lt_trichotomy (sameFrom a b a.length 0) (sameFrom b a b.length 0) with h | h | h
  · obtain ⟨g1, g2, g3⟩ := h3 _ (Nat.zero_le _) h
    exact absurd ⟨g2, g1, g3.symm⟩ h2
  · exact h
  · obtain ⟨g1, g2, g3⟩ := h1 _ (Nat.zero_le _) h
    exact absurd ⟨g2, g1, g3.symm⟩ h4
theorem sameN_le (a b : List S47) : sameN a b ≤ a.length ∧ sameN a b ≤ b.length := by
  obtain ⟨_, h1, _⟩ := sameFrom_spec a b a.length 0 (by omega)
  unfold sameN
  constructor
  · by_cases h : 0 < sameFrom a b a.length 0
    · have := (h1 (sameFrom a b a.length 0 - 1) (by omega) (by omega)).1
      omega
    · omega
  · by_cases h : 0 < sameFrom a b a.length 0
    · have := (h1 (sameFrom a b a.length 0 - 1) (by omega) (by omega)).2.1
      omega
    · omega
theorem rd_app (a e : List S47) (i : Nat) (h : i < a.length) : rd_T47 (a ++ e) (i : Int) = rd_T47 a (i : Int) := by
  simp [rd_T47, List.getElem?_append_left h]
theorem rd_end (a : List S47) (x : S47) (i : Nat) (h : i = a.length) : rd_T47 (a ++ [x]) (i : Int) = x := by
  subst h
  simp [rd_T47]
theorem rdE_take (a : List S47) (m i : Nat) (h : i < m) : rd_T47 (a.take m) (i : Int) = rd_T47 a (i : Int) := by
  simp [rd_T47, List.getElem?_take, h]
theorem sameN_more (a : List S47) (t : Int) (v : List Int) : sameN (moreE a t v) a = a.length := by
  obtain ⟨_, h1, h2⟩ := sameFrom_spec (moreE a t v) a (moreE a t v).length 0 (by omega)
  have hle := (sameN_le (moreE a t v) a).2
  unfold sameN at hle ⊢
  rw [moreE_length] at h2 hle ⊢
  by_cases h : sameFrom (moreE a t v) a (a.length + 1) 0 < a.length
  · exact absurd ⟨by omega, h, by rw [moreE, rd_app _ _ _ (by rw [moreE] at h; exact h)]⟩ h2
  · omega
theorem lastSeal_more (a : List S47) (t : Int) (v : List Int) : lastSeal (moreE a t v) = sealL (lastSeal a) t v := by
  have e : ((moreE a t v).length : Int) - 1 = (a.length : Int) := by rw [moreE_length]; omega
  have h : ¬ (moreE a t v).length = 0 := by rw [moreE_length]; omega
  rw [lastSeal, if_neg h, e, moreE, rd_end _ _ _ rfl]
theorem prevSeal_take (a : List S47) (m : Nat) (h : m ≤ a.length) : lastSeal (a.take m) = prevSeal a m := by
  unfold lastSeal prevSeal
  have hl : (a.take m).length = m := by simp; omega
  rw [hl]
  by_cases h0 : m = 0
  · rw [if_pos h0, if_pos h0]
  · have e : (m : Int) - 1 = ((m - 1 : Nat) : Int) := by omega
    rw [if_neg h0, if_neg h0, e, rdE_take _ _ _ (by omega)]
/-- A step of the hash taken back. -/
def unst (d x : Int) : Int := ((d - x - 13) * 1523789695) % 2147483647
theorem unst_hstep (a x : Int) (ha : 0 ≤ a ∧ a < 2147483647) (hx : 0 ≤ x ∧ x < 2147483647) : unst (hstep a x) x = a := by
  unfold unst hstep
  omega
def back (l : List Int) (d : Int) : Int := l.foldr (fun x acc => unst acc x) d
theorem back_fold : ∀ (l : List Int) (u : Int), 0 ≤ u ∧ u < 2147483647 → (∀ x ∈ l, 0 ≤ x ∧ x ≤ 2) → back l (l.foldl hstep u) = u
  | [], _, _, _ => rfl
  | x :: r, u, hu, h => by
    have hx := h x List.mem_cons_self
    have ih := back_fold r (hstep u x) (hstep_range u x) (fun y hy => h y (List.mem_cons_of_mem _ hy))
    simp only [back, List.foldl_cons, List.foldr_cons] at ih ⊢
    rw [ih]
    exact unst_hstep u x hu (by omega)
def combos : Nat → List (List Int)
  | 0 => [[]]
  | n + 1 => (combos n).flatMap fun r => [0 :: r, 1 :: r, 2 :: r]
theorem mem_combos : ∀ l : List Int, (∀ x ∈ l, 0 ≤ x ∧ x ≤ 2) → l ∈ combos l.length
  | [], _ => List.mem_singleton.2 rfl
  | x :: r, h => by
    have hx := h x List.mem_cons_self
    have ih := mem_combos r (fun y hy => h y (List.mem_cons_of_mem _ hy))
    simp only [List.length_cons, combos]
    refine List.mem_flatMap.2 ⟨r, ih, ?_⟩
    rcases (by omega : x = 0 ∨ x = 1 ∨ x = 2) with rfl | rfl | rfl <;> simp
def firstOk (l : List Int) : Bool := decide (1000000 < (back l (sealL 0 900 [1]) - 11000046 * 1000003 - 13) % 2147483647) || decide (l = [1])
theorem first_all : ((List.range 6).all fun n => (combos n).all firstOk) = true := by decide +kernel
theorem seal_first (t : Int) (ht : 0 ≤ t ∧ t ≤ 1000000) (l : List Int) (hl : l.length ≤ 5) (h : ∀ x ∈ l, 0 ≤ x ∧ x ≤ 2) (e : sealL 0 t l = sealL 0 900 [1]) : l = [1] := by
  have e0 : sealL 0 t l = l.foldl hstep (hstep 11000046 t) := rfl
  have hb := back_fold l (hstep 11000046 t) (hstep_range _ _) h
  rw [← e0, e] at hb
  have ht2 : (back l (sealL 0 900 [1]) - 11000046 * 1000003 - 13) % 2147483647 = t := by
    rw [hb]
    unfold hstep
    omega
  have := List.all_eq_true.1 (List.all_eq_true.1 first_all l.length (List.mem_range.2 (by omega))) l (mem_combos l h)
  unfold firstOk at this
  rw [ht2, decide_eq_false (by omega), Bool.false_or, decide_eq_true_eq] at this
  exact this
theorem seal_one (b t x : Int) (ht : 0 ≤ t ∧ t ≤ 1000000) (hx : 0 ≤ x ∧ x ≤ 2) (e : sealL b t [x] = sealL b 900 [1]) : t = 900 ∧ x = 1 := by
  have e0 : sealL b t [x] = hstep (hstep (hstep 11 b) t) x := rfl
  have e1 : sealL b 900 [1] = hstep (hstep (hstep 11 b) 900) 1 := rfl
  rw [e1] at e
  have h1 := unst_hstep (hstep (hstep 11 b) t) x (hstep_range _ _) (by omega)
  have h2 := unst_hstep (hstep (hstep 11 b) 900) 1 (hstep_range _ _) (by omega)
  rw [← e0, e] at h1
  generalize hstep (hstep (hstep 11 b) 900) 1 = D at h1 h2
  generalize hstep 11 b = h at h1 h2
  unfold unst hstep at h1 h2
  rcases (by omega : x = 0 ∨ x = 1 ∨ x = 2) with rfl | rfl | rfl <;> omega
theorem lights_mem (a : List S47) (j : Nat) (h : entryLights a j = true) : ∀ x ∈ (rd_T47 a (j : Int)).f1, 0 ≤ x ∧ x ≤ 2 := by
  intro x hx
  obtain ⟨i, hi, rfl⟩ := List.getElem_of_mem hx
  have := List.all_eq_true.1 h i (List.mem_range.2 hi)
  simp only [okLight, decide_eq_true_eq] at this
  rwa [rd_get _ i hi] at this
theorem twin_same (a b : List S47) (he : ∀ x ∈ a, x.f1.length ≤ 5) (h : twin a b) (ra : isRecord a = true) (rb : isRecord b = true) (i : Nat) (hi : i < sameN a b) :
    (rd_T47 a (i : Int)).f0 = (rd_T47 b (i : Int)).f0 ∧ (rd_T47 a (i : Int)).f1 = (rd_T47 b (i : Int)).f1 := by
  obtain ⟨m, hm, hb⟩ := h
  obtain ⟨_, hs, _⟩ := sameFrom_spec a b a.length 0 (by omega)
  obtain ⟨hia, hib, hseal⟩ := hs i (Nat.zero_le _) hi
  have hlt : (a.take m).length = m := by simp; omega
  have low : ∀ q : Nat, q < m → rd_T47 b (q : Int) = rd_T47 a (q : Int) := by
    intro q hq
    rcases hb with rfl | hb
    · exact rdE_take _ _ _ hq
    · rw [hb]
      unfold addE
      split
      · rw [moreE, rd_app _ _ _ (by omega), rdE_take _ _ _ hq]
      · exact rdE_take _ _ _ hq
  by_cases c : i < m
  · rw [low i c]
    exact ⟨rfl, rfl⟩
  rcases hb with rfl | hb
  · omega
  by_cases hr : isRecord (moreE (a.take m) 900 [1]) = true
  · have hb : b = moreE (a.take m) 900 [1] := by rw [hb, addE, if_pos hr]
    have hbl : b.length = m + 1 := by rw [hb, moreE_length, hlt]
    have him : i = m := by omega
    subst him
    have hbi : rd_T47 b (i : Int) = ⟨900, [1], sealL (lastSeal (a.take i)) 900 [1]⟩ := by rw [hb, moreE, rd_end _ _ _ hlt.symm]
    obtain ⟨⟨t0, t1, _, ha4, ha5, _⟩, hali⟩ := ((isRecord_iff a).1 ra).1 i hia
    obtain ⟨⟨_, _, _, hb4, _, _⟩, _⟩ := ((isRecord_iff b).1 rb).1 i hib
    rw [hbi] at hseal hb4 ⊢
    have hmem := lights_mem a i hali
    rw [ha5, prevSeal_take a i hm] at hseal
    dsimp only at hseal hb4 ⊢
    by_cases h0 : i = 0
    · subst h0
      have hp : prevSeal a 0 = 0 := if_pos rfl
      rw [hp] at hseal
      have h5 : (rd_T47 a ((0 : Nat) : Int)).f1.length ≤ 5 := by rw [rdEntry a 0 hia]; exact he _ (List.getElem_mem hia)
      have hl := seal_first _ ⟨t0, t1⟩ _ h5 hmem hseal
      rw [hl] at hseal
      exact ⟨(seal_one _ _ _ ⟨t0, t1⟩ (by omega) hseal).1, hl⟩
    · have hb0 : (rd_T47 b 0).f1.length = 1 := by have := hb4; simp at this; omega
      have l0 := low 0 (by omega)
      have ha1 : (rd_T47 a (i : Int)).f1.length = 1 := by
        rw [ha4]
        have : rd_T47 b ((0 : Nat) : Int) = rd_T47 a ((0 : Nat) : Int) := l0
        rw [show ((0 : Nat) : Int) = 0 from rfl] at this
        rw [← this]
        exact hb0
      obtain ⟨x, hx⟩ := List.length_eq_one_iff.1 ha1
      rw [hx] at hseal hmem ⊢
      obtain ⟨e1, e2⟩ := seal_one _ _ _ ⟨t0, t1⟩ (hmem x (by simp)) hseal
      exact ⟨e1, by rw [e2]⟩
  · have hb : b = a.take m := by rw [hb, addE, if_neg hr]
    rw [hb, hlt] at hib
    omega
theorem FnRecords_l0 (a b : List S47) (ha : a.length ≤ 9) (hb : b.length ≤ 9) (he : ∀ x ∈ a, x.f1.length ≤ 5) (he2 : ∀ x ∈ b, x.f1.length ≤ 5) (h : twin a b) :
    Ev (fun k => laws_FnRecords.l0 k a b (sameN a b : Int) 0) true := by
  have hle := sameN_le a b
  have ea : ∀ x ∈ a, x.f1.length ≤ 1048576 := fun x hx => by have := he x hx; omega
  have eb : ∀ x ∈ b, x.f1.length ≤ 1048576 := fun x hx => by have := he2 x hx; omega
  have stop : ∀ i, Ev (fun k => laws_FnRecords.j4 k a b (sameN a b : Int) i false) true := by
    intro i
    refine shift ?_
    simp only [laws_FnRecords.j4]
    exact neg (by decide) (now rfl)
  refine loop (g := fun k i => laws_FnRecords.l0 k a b (sameN a b : Int) (i : Int)) (sameN a b) ?_ ?_
  · intro i hi ih
    refine shift ?_
    simp only [laws_FnRecords.l0]
    refine pos (nat_lt hi) (Ev.bind (impl_IsRecord_ev a (by omega) ea) ?_)
    by_cases ra : isRecord a = true
    · refine pos ra (Ev.bind (impl_IsRecord_ev b (by omega) eb) ?_)
      by_cases rb : isRecord b = true
      · rw [rb]
        obtain ⟨e1, e2⟩ := twin_same a b he h ra rb i hi
        refine shift ?_
        simp only [laws_FnRecords.j4]
        refine pos trivial (pos (by omega) (pos (by omega) (pos (by omega) (pos e1 (Ev.bind (laws_sameInts_ev _ _ (entry_short a ea i (by omega))) (pos (decide_eq_true e2) ?_))))))
        rw [succ_wrap (by omega)]
        exact ih
      · rw [show isRecord b = false by simpa using rb]
        exact stop _
    · exact neg ra (stop _)
  · refine shift ?_
    simp only [laws_FnRecords.l0]
    exact neg (by omega) (stop _)
theorem FnRecords_j1 (l : List Int) (hl : l.length ≤ 1048576) : Ev (fun k => laws_FnRecords.j1 k l false) true := by
  obtain ⟨a, b, h, ha, he, ht⟩ := spec_DrawSameUntil_ev l hl
  have hb : b.length ≤ 9 ∧ ∀ x ∈ b, x.f1.length ≤ 5 := by
    obtain ⟨m, hm, rfl | rfl⟩ := ht
    · exact ⟨by simp; omega, fun x hx => he x (List.mem_of_mem_take hx)⟩
    · exact ⟨by have := addE_length (a.take m) 900 [1]; simp at this; omega, addE_all (fun y => y.length ≤ 5) _ _ _ (fun x hx => he x (List.mem_of_mem_take hx)) (by simp)⟩
  refine shift ?_
  simp only [laws_FnRecords.j1]
  refine neg (by decide) (Ev.bind h (Ev.bind (impl_SameUntil_ev a b (by omega) (by omega)) (Ev.bind (impl_SameUntil_ev b a (by omega) (by omega)) ?_)))
  have hs : (sameFrom a b a.length 0 : Int) = (sameFrom b a b.length 0 : Int) := by have := sameN_symm a b; unfold sameN at this; omega
  have hle := sameN_le a b
  refine pos hs ?_
  dsimp only
  refine neg (by have := hle.1; unfold sameN at this; omega) ?_
  rw [decide_eq_false (by have := hle.2; unfold sameN at this; omega)]
  refine shift ?_
  simp only [laws_FnRecords.j2]
  exact neg (by decide) (FnRecords_l0 a b (by omega) hb.1 he hb.2 ht)
theorem FnRecords_j0 (l : List Int) (hl : l.length ≤ 1048576) : Ev (fun k => laws_FnRecords.j0 k l false) true := by
  obtain ⟨a, t, v, h, ha, he, hv⟩ := spec_DrawNoteLights_ev l hl
  have ea : ∀ x ∈ a, x.f1.length ≤ 1048576 := fun x hx => by have := he x hx; omega
  have hj1 := FnRecords_j1 l hl
  have hlen := noteE_length a t v
  refine shift ?_
  simp only [laws_FnRecords.j0]
  refine neg (by decide) (Ev.bind h (Ev.bind (impl_NoteLights_ev a t v (by omega) ea (by omega)) ?_))
  have hsh := noteE_short a t v ea (by omega)
  have key : (noteE a t v).2 = true → isRecord (noteE a t v).1 = true ∧ ¬ (noteE a t v).1.length = 0 ∧ (lastE (noteE a t v).1).f1 = v := by
    unfold noteE
    by_cases c : a.length = 0 ∨ ¬ (lastE a).f1 = v
    · rw [if_pos c]
      unfold addE
      by_cases r : isRecord (moreE a t v) = true
      · rw [if_pos r]
        intro _
        have e : ((moreE a t v).length : Int) - 1 = (a.length : Int) := by rw [moreE_length]; omega
        refine ⟨r, by rw [moreE_length]; omega, ?_⟩
        rw [lastE, e, moreE, rd_end _ _ _ rfl]
      · rw [if_neg r]
        intro g
        cases g
    · rw [if_neg c]
      intro g
      dsimp only at g ⊢
      rw [Bool.and_eq_true] at g
      exact ⟨g.1, fun q => c (.inl q), Decidable.not_not.1 (fun q => c (.inr q))⟩
  have same : ¬ (noteE a t v).2 = true → (noteE a t v).1.length = a.length := by
    unfold noteE
    by_cases c : a.length = 0 ∨ ¬ (lastE a).f1 = v
    · rw [if_pos c]
      unfold addE
      by_cases r : isRecord (moreE a t v) = true
      · rw [if_pos r]
        exact fun g => absurd rfl g
      · rw [if_neg r]
        exact fun _ => rfl
    · rw [if_neg c]
      exact fun _ => rfl
  generalize noteE a t v = n at key same hlen hsh ⊢
  by_cases hn : n.2 = true
  · obtain ⟨k1, k2, k3⟩ := key hn
    have e : (n.1.length : Int) - 1 = ((n.1.length - 1 : Nat) : Int) := by omega
    refine pos hn (Ev.bind (impl_IsRecord_ev n.1 (by omega) hsh) (pos k1 (neg (by omega) ?_)))
    rw [w64 (x := (n.1.length : Int) - 1) (by omega) (by omega)]
    refine pos (by omega) (pos (by omega) (Ev.bind (laws_sameInts_ev (lastE n.1).f1 v (lastE_short n.1 hsh k2)) (pos (decide_eq_true k3) hj1)))
  · refine neg hn ?_
    have : ((n.1.length : Int) != (a.length : Int)) = false := by rw [same hn]; simp
    rw [this]
    exact hj1
theorem FnRecords (l : List Int) (hw : wfS 1 U8 l) : ∃ k, laws_FnRecords.f k l = some true := by
  refine Ev.rounds ?_
  unfold laws_FnRecords.f
  refine bindc (laws_big_eq l) ?_
  by_cases hl : (l.length : Int) > 1048576
  · exact pos (by simpa using hl) (now rfl)
  have hl : l.length ≤ 1048576 := by omega
  obtain ⟨a, t, v, h, ha, he, hv⟩ := spec_DrawAddEntry_ev l hl
  have ea : ∀ x ∈ a, x.f1.length ≤ 1048576 := fun x hx => by have := he x hx; omega
  have hj0 := FnRecords_j0 l hl
  refine neg (by simp; omega) (Ev.bind h (Ev.bind (impl_AddEntry_ev a t v (by omega) ea (by omega)) ?_))
  by_cases r : isRecord (moreE a t v) = true
  · have hadd : addE a t v = (moreE a t v, true) := by rw [addE, if_pos r]
    have hml := moreE_length a t v
    rw [hadd]
    refine pos rfl (Ev.bind (impl_IsRecord_ev (moreE a t v) (by omega) (moreE_short a t v ea (by omega))) (pos r (pos ?_ (Ev.bind (impl_SameUntil_ev (moreE a t v) a (by omega) (by omega)) (pos ?_ (bindc (impl_LastSeal_eq (moreE a t v) (by omega)) (bindc (impl_LastSeal_eq a (by omega)) (Ev.bind (impl_SealOf_ev (lastSeal a) t v (by omega)) (pos (lastSeal_more a t v) hj0)))))))))
    · dsimp only
      rw [w64 (by omega) (by omega), hml]
      omega
    · have := sameN_more a t v
      unfold sameN at this
      dsimp only
      omega
  · have hadd : addE a t v = (a, false) := by rw [addE, if_neg r]
    rw [hadd]
    refine neg (by simp) ?_
    have e2 : (((((a, false) : List S47 × Bool).1.length : Int)) != (a.length : Int)) = false := by simp
    rw [e2]
    exact hj0

end Go.Proofs.Ytmpncnphndafnab.PureFnRecords
end

section
namespace Go.Proofs.Ytmpncnphndafnab.fnRecords
open Go.ChangeShapes Go.WideShapes Go.ChangeAt Go.RowKit
open Go.Proofs.YtmpncnphndafnabW.PrintWords Go.Proofs.Ytmpncnphndafnab.PEnt Go.Proofs.Ytmpncnphndafnab.Opens Go.Proofs.Ytmpncnphndafnab.Aid Go.Proofs.Ytmpncnphndafnab.PureFnRecords
set_option linter.unusedVariables false
theorem own : ownKnob Try.prog.godebug = none := by kernel_rfl
theorem laidOut : laidOutB Try.prog = true := by kernel_rfl
theorem arg0 : Opens Try.prog 38 (Kd.slice 5 (Kd.int .u8)) (wfS 1 U8) := (opens_slice Try.underlying38 (by kernel_rfl) (B := 1) (by kernel_rfl) (opens_u8 Try.underlying5 (by kernel_rfl)))
set_option maxRecDepth 100000 in
theorem lifted (os : Os) (started : os.Started) (H : Type) (enc : TypeId × Value → H) :
    ReturnsInHanded {} Try.checked os 6 .any (Rows.fnRecordsSpec.pre6 enc Try.prog Try.f6 Rows.fnRecordsRow.domain false) (Rows.fnRecordsSpec.post enc Try.prog Try.f6 false true false false) := by
  refine returnsInHanded_of_change_sized (C := Try.checked) own started (by kernel_rfl) Try.func6
    (ChangeSpec.witness6 (enc := enc) (C := Try.checked) false ⟨#[], #[.slice none 0 0], []⟩ 8 (by kernel_rfl) (by kernel_rfl) (by kernel_rfl) (by kernel_rfl)) ?_
  intro W base args ds gs before hval0 hW hcnd hsz0 _
  have hsz : (DataW.weightsEach Try.prog (Try.f6.params.toList ++ Rows.fnRecordsSpec.plain.varTypes Try.prog) (ds ++ gs)).all (· ≤ reachBytes) = true := hsz0
  have hval : ∀ (j : Nat) t v, Try.f6.params[j]? = some t → args[j]? = some v → Value.okWide Try.prog W .any base t v := hval0
  have hW' := hW
  obtain ⟨p, q, hA0, hV, rfl, hfz, hnd⟩ := hW
  have hA : DataW.TrodAll enc Try.prog W 0 (fun _ => true) true Try.f6.params.toList args.toList ds p := hA0
  rw [Try.params6] at hA hval hsz
  obtain ⟨v0, vs0, d0, ds0, p0, q0, hargs, rfl, rfl, h0, r0⟩ := trodAll_cons hA
  obtain ⟨rfl, rfl, rfl⟩ := trodAll_nil r0
  obtain rfl : args = #[v0] := by cases args; simp_all
  obtain ⟨rfl, rfl⟩ := trodVars_none hV
  have k0 := h0
  have lt0 : ∀ x ∈ p0, x.block < W.heap.size := by obtain ⟨m, hm⟩ := k0; exact DataW.trod_lt m _ _ _ hm
  obtain ⟨x0, hK0, hW0⟩ := opens_arg arg0 hsz (j := 0) rfl rfl h0
  obtain ⟨A0, c0, rfl, hc0, hC0⟩ := opens_row Try.underlying38 (hval 0 38 v0 rfl rfl) hK0
  clear hA0 hval0 hsz0 hsz
  obtain ⟨k, hk⟩ := Go.Proofs.Ytmpncnphndafnab.PureFnRecords.FnRecords x0 hW0
  refine (laws_FnRecords.calls k _ _ x0 true W hC0 hc0 hk).mono fun e W' ⟨he, bel0⟩ => ?_
  have bel : Below W.heap.size W W' := by first | exact bel0 | exact bel0.below
  subst he
  exact ⟨_, rfl, _, _, _, [], _, [], hW', trodAll_mk1 (shut_bool Try.underlying4 _), (trodAll_cons_mk (Below.trod laidOut (by kernel_rfl) (of_decide_eq_true (by kernel_rfl)) k0 bel lt0) trodAll_mk0), rfl, bel.frame _, fun h => by cases h⟩
theorem over : Rows.fnRecordsRow.holds Try.pinned (OpenSpec.ofChange Rows.fnRecordsSpec) :=
  OpenClaim.holds_of_wide 6 Try.f6 rfl rfl rfl rfl rfl rfl rfl ⟨rfl, rfl, rfl, rfl, rfl⟩ rfl rfl rfl rfl rfl (by kernel_rfl) Try.func6 (by kernel_rfl)
    (of_decide_eq_true (by kernel_rfl)) (by unfold Func.isWrapper; first | (rw [if_pos (by decide +kernel)]; kernel_rfl) | (rw [if_neg (by decide +kernel)]; exact ⟨rfl, rfl⟩))
    (fun os started H enc _ => lifted os started H enc)
theorem proved : Rows.FnRecordsSaid := over
#print axioms proved
end Go.Proofs.Ytmpncnphndafnab.fnRecords
namespace Go.Proofs.Ytmpncnphndafnab
/-- The row, under a short name, for the claim. -/
theorem fnRecords_holds : Rows.FnRecordsSaid := fnRecords.proved
end Go.Proofs.Ytmpncnphndafnab
end
