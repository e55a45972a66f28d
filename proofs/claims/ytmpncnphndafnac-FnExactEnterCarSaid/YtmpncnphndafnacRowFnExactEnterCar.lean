/- The statement FnExactEnterCar, whole: for every input the law returns true and leaves its arguments as they were; no condition. Out of the contract of the law's walk and the pure theorem. -/
import Derived.Test.YtmpncnphndafnacBFnExactEnterCar0
import Derived.Test.YtmpncnphndafnacBFnExactEnterCar1
import Derived.Test.YtmpncnphndafnacBFnExactEnterCar2
import Derived.Test.YtmpncnphndafnacBFnExactEnterCar3
import Derived.Test.YtmpncnphndafnacBFnExactEnterCar4
import Derived.Test.YtmpncnphndafnacBFnExactEnterCar5
import Derived.Test.YtmpncnphndafnacBFnExactEnterCar6
import Derived.Test.YtmpncnphndafnacBFnExactEnterCar7
import Derived.Test.YtmpncnphndafnacBFnExactEnterCar8
import Derived.Test.YtmpncnphndafnacBFnExactEnterCar9
import Derived.Test.YtmpncnphndafnacWWords
import Derived.Test.YtmpncnphndafnacWMore
import Derived.SizedLaws
import Derived.ChangeSlices
import Derived.ChangeArms
import Derived.WideShapes
import Derived.Below
import Derived.Test.YtmpncnphndafnacRows
import Derived.WalkKit
import Derived.ProofKit
import Derived.OpenShut
import Derived.ShutString
import Derived.ChangeOld
section
namespace Go.Proofs.Ytmpncnphndafnac.Aid
open Go.RowKit Go.Proofs.YtmpncnphndafnacW.PrintWords Go.Proofs.YtmpncnphndafnacW.PrintMore
set_option linter.unusedVariables false

theorem w64 {x : Int} (h0 : -9223372036854775808 ≤ x) (h1 : x ≤ 9223372036854775807) : wrap64 x = x := by
  unfold wrap64
  omega
theorem w64_range (x : Int) : -9223372036854775808 ≤ wrap64 x ∧ wrap64 x ≤ 9223372036854775807 := by
  unfold wrap64
  omega
/-- A number of Go's int. -/
def I64 (x : Int) : Prop := -9223372036854775808 ≤ x ∧ x ≤ 9223372036854775807
theorem i64_of {x : Int} (h : (Lit.int .i64 x).wf = true) : I64 x := by
  simp [Lit.wf, IntKind.min, IntKind.max, IntKind.bits, IntKind.signed] at h
  unfold I64
  omega

/-- A byte. -/
def U8 (x : Int) : Prop := 0 ≤ x ∧ x ≤ 255
theorem u8_of {x : Int} (h : (Lit.int .u8 x).wf = true) : U8 x := by
  simp [Lit.wf, IntKind.min, IntKind.max, IntKind.bits, IntKind.signed] at h
  unfold U8
  omega

/-- A slice within the reach (B: an element's bytes), all of whose elements are as WF says. -/
def wfS {α : Type} (B : Nat) (WF : α → Prop) (xs : List α) : Prop := xs.length ≤ maxLen ∧ xs.length * B ≤ 140737488351232 ∧ ∀ x ∈ xs, WF x

theorem shift {α : Type} {g : Nat → Option α} {r : α} (h : Ev (fun k => g (k + 1)) r) : Ev g r := Ev.step (fun _ => rfl) h
theorem pos {α : Type} {c : Prop} [Decidable c] {a b : Nat → Option α} {r : α} (hc : c) (h : Ev a r) : Ev (fun k => if c then a k else b k) r := by
  simpa only [if_pos hc] using h
theorem neg {α : Type} {c : Prop} [Decidable c] {a b : Nat → Option α} {r : α} (hc : ¬ c) (h : Ev b r) : Ev (fun k => if c then a k else b k) r := by
  simpa only [if_neg hc] using h
theorem now {α : Type} {r s : α} (h : r = s) : Ev (fun _ => some r) s := h ▸ Ev.now r
theorem known {α : Type} {x : Option α} {r : α} (h : x = some r) : Ev (fun _ => x) r := h ▸ Ev.now r
theorem bindc {α β : Type} {x : Option α} {f : Nat → α → Option β} {a : α} {r : β} (h : x = some a) (k : Ev (fun n => f n a) r) : Ev (fun n => x.bind (f n)) r := by
  subst h
  exact k
theorem same {α : Type} {g : Nat → Option α} {r s : α} (h : Ev g r) (e : r = s) : Ev g s := e ▸ h
theorem of_const {α : Type} {x : Option α} {r : α} (h : Ev (fun _ => x) r) : x = some r := by
  obtain ⟨k, hk⟩ := Ev.rounds h
  exact hk

/-- A loop whose round j leads from state j to state j + 1, and whose N-th state is its end. -/
theorem loop {α : Type} {g : Nat → Nat → Option α} {r : α} (N : Nat) (hs : ∀ j, j < N → Ev (fun k => g k (j + 1)) r → Ev (fun k => g k j) r) (he : Ev (fun k => g k N) r) : Ev (fun k => g k 0) r := by
  have : ∀ d j, j + d = N → Ev (fun k => g k j) r := by
    intro d
    induction d with
    | zero =>
      intro j hj
      have : j = N := by omega
      subst this
      exact he
    | succ d ih => exact fun j hj => hs j (by omega) (ih (j + 1) (by omega))
  exact this N 0 (by omega)
/-- The same from state i on. -/
theorem loop_from {α : Type} {g : Nat → Nat → Option α} {r : α} (i N : Nat) (hi : i ≤ N) (hs : ∀ j, i ≤ j → j < N → Ev (fun k => g k (j + 1)) r → Ev (fun k => g k j) r) (he : Ev (fun k => g k N) r) : Ev (fun k => g k i) r := by
  have : ∀ d j, i ≤ j → j + d = N → Ev (fun k => g k j) r := by
    intro d
    induction d with
    | zero =>
      intro j _ hj
      have : j = N := by omega
      subst this
      exact he
    | succ d ih => exact fun j h0 hj => hs j h0 (by omega) (ih (j + 1) (by omega) (by omega))
  exact this (N - i) i (Nat.le_refl _) (by omega)

theorem rd_nat (xs : List Int) (j : Nat) : rd xs (j : Int) = xs.getD j 0 := by simp [rd]
theorem rd_get (xs : List Int) (j : Nat) (h : j < xs.length) : rd xs (j : Int) = xs[j] := by simp [rd, h]
theorem nat_lt {a b : Nat} (h : a < b) : (a : Int) < (b : Int) := by omega
theorem nat_ge {a b : Nat} (h : b ≤ a) : ¬ (a : Int) < (b : Int) := by omega
theorem succ_wrap {j : Nat} (h : j < 9223372036854775807) : wrap64 ((j : Int) + 1) = ((j + 1 : Nat) : Int) := by
  rw [w64 (by omega) (by omega)]
  omega

/-- A loop that fills a row, one place a round. -/
theorem copied {α β : Type} {g : Nat → List β → Int → Option (List β)} (l : List α) (f : α → β) (z : β) (hs : ∀ (j : Nat) (hj : j < l.length) (y : List β) (r : List β), y.length = l.length → Ev (fun k => g k (y.set j (f l[j])) ((j + 1 : Nat) : Int)) r → Ev (fun k => g k y (j : Int)) r)
    (he : ∀ y, Ev (fun k => g k y (l.length : Int)) y) : Ev (fun k => g k (List.replicate l.length z) 0) (l.map f) := by
  refine loop (g := fun k j => g k ((l.map f).take j ++ List.replicate (l.length - j) z) (j : Int)) (r := l.map f) l.length ?_ ?_ |> (fun h => by simpa using h)
  · intro j hj h
    refine hs j hj _ _ (by simp; omega) ?_
    refine Eq.mp ?_ h
    congr 1
    funext k
    congr 1
    rw [List.set_append_right _ _ (by simp; omega)]
    have h1 : (l.map f).take (j + 1) = (l.map f).take j ++ [f l[j]] := by
      rw [List.take_succ_eq_append_getElem (by simpa using hj)]
      simp
    have h2 : l.length - j = (l.length - (j + 1)) + 1 := by omega
    have h3 : j - ((l.map f).take j).length = 0 := by simp; omega
    rw [h1, h3, h2, List.replicate_succ, List.set_cons_zero]
    simp
  · have h := he (l.map f)
    have e : (l.map f).take l.length = l.map f := List.take_of_length_le (by simp)
    simpa [e] using h

/-- A loop that looks at each place and answers no at the first that is not as it ought to be. -/
theorem all_loop {g : Nat → Nat → Option Bool} (N : Nat) (ok : Nat → Bool) (b : Bool) (hs : ∀ j r, j < N → ok j = true → Ev (fun k => g k (j + 1)) r → Ev (fun k => g k j) r)
    (hf : ∀ j, j < N → ok j = false → Ev (fun k => g k j) false) (he : Ev (fun k => g k N) b) : Ev (fun k => g k 0) ((List.range N).all ok && b) := by
  have : ∀ d j, j + d = N → Ev (fun k => g k j) ((List.range' j d).all ok && b) := by
    intro d
    induction d with
    | zero =>
      intro j hj
      have : j = N := by omega
      subst this
      simpa using he
    | succ d ih =>
      intro j hj
      rw [List.range'_succ, List.all_cons]
      cases h : ok j with
      | true => simpa using hs j _ (by omega) h (ih (j + 1) (by omega))
      | false => simpa using hf j (by omega) h
  have h := this N 0 (by omega)
  rwa [← List.range_eq_range'] at h
/-- The same where all places are as they ought to be, .. -/
theorem ok_loop {α : Type} {g : Nat → Nat → Option α} (N : Nat) (ok : Nat → Bool) {r : α} (h : (List.range N).all ok = true) (hs : ∀ j r, j < N → ok j = true → Ev (fun k => g k (j + 1)) r → Ev (fun k => g k j) r)
    (he : Ev (fun k => g k N) r) : Ev (fun k => g k 0) r :=
  loop N (fun j hj hn => hs j r hj (List.all_eq_true.1 h j (List.mem_range.2 hj)) hn) he
/-- .. and where one isn't: the first that isn't decides. -/
theorem bad_loop {α : Type} {g : Nat → Nat → Option α} (N : Nat) (ok : Nat → Bool) (r : α) (h : ¬ (List.range N).all ok = true) (hs : ∀ j r, j < N → ok j = true → Ev (fun k => g k (j + 1)) r → Ev (fun k => g k j) r)
    (hf : ∀ j, j < N → ok j = false → Ev (fun k => g k j) r) : Ev (fun k => g k 0) r := by
  have : ∀ d j, j + d = N → ¬ (List.range' j d).all ok = true → Ev (fun k => g k j) r := by
    intro d
    induction d with
    | zero => exact fun j _ hn => absurd rfl hn
    | succ d ih =>
      intro j hj hn
      rw [List.range'_succ, List.all_cons] at hn
      cases ho : ok j with
      | true => exact hs j _ (by omega) ho (ih (j + 1) (by omega) (by simpa [ho] using hn))
      | false => exact hf j (by omega) ho
  exact this N 0 (by omega) (by rwa [← List.range_eq_range'])
/-- n numbers from a on. -/
def iota (a : Int) (n : Nat) : List Int := (List.range n).map fun (i : Nat) => a + (i : Int)
theorem iota_length (a : Int) (n : Nat) : (iota a n).length = n := by simp [iota]
theorem iota_get (a : Int) (n j : Nat) (h : j < n) : rd (iota a n) (j : Int) = a + j := by simp [rd, iota, h]
theorem iota_set (a : Int) (l : List Int) (j : Nat) (h : j < l.length) : (iota a j ++ l.drop j).set j (a + j) = iota a (j + 1) ++ l.drop (j + 1) := by
  rw [List.set_append_right _ _ (by rw [iota_length]; exact Nat.le_refl _), iota_length, Nat.sub_self, List.drop_eq_getElem_cons h, List.set_cons_zero]
  have : iota a (j + 1) = iota a j ++ [a + j] := by simp [iota, List.range_succ]
  rw [this]
  simp
end Go.Proofs.Ytmpncnphndafnac.Aid
end

section
namespace Go.Proofs.Ytmpncnphndafnac.Opens
open Go.ChangeShapes Go.WideShapes Go.RowKit Go.Proofs.YtmpncnphndafnacW.PrintWords Go.Proofs.Ytmpncnphndafnac.Aid
set_option linter.unusedVariables false

/-- Whatever can be read as data of type t is of kind kd, and meets WF. -/
def Opens {α : Type} (P : Program) (t : TypeId) (kd : Kd α) (WF : α → Prop) : Prop :=
  P.cellsOf t = kd.sz ∧ ∀ (H : Type) (enc : TypeId × Value → H) (w : World) (base : Nat) (spare : Nat → Bool) (held : Bool) (fuel : Nat) (cs : List Value) (d : DataW H) (ps : List MemPlace),
    DataW.trod enc P w base spare held fuel t cs = some (d, ps) → (∀ n ∈ d.weights P t, n ≤ reachBytes) → ∃ x, kd.K w x cs ∧ WF x

theorem opens_int {P : Program} {t : TypeId} (ht : P.underlying t = some (.int .i64)) (hc : P.cellsOf t = 1) : Opens P t (Kd.int .i64) I64 := by
  refine ⟨hc, fun H enc w base spare held fuel cs d ps h _ => ?_⟩
  obtain ⟨n, rfl, _, hw⟩ := DataW.trod_int ht h
  exact ⟨n, rfl, i64_of hw⟩

/-- The same of bytes. -/
theorem opens_u8 {P : Program} {t : TypeId} (ht : P.underlying t = some (.int .u8)) (hc : P.cellsOf t = 1) : Opens P t (Kd.int .u8) U8 := by
  refine ⟨hc, fun H enc w base spare held fuel cs d ps h _ => ?_⟩
  obtain ⟨n, rfl, _, hw⟩ := DataW.trod_int ht h
  exact ⟨n, rfl, u8_of hw⟩

theorem opens_bool {P : Program} {t : TypeId} (ht : P.underlying t = some .bool) (hc : P.cellsOf t = 1) : Opens P t Kd.bool (fun _ => True) := by
  refine ⟨hc, fun H enc w base spare held fuel cs d ps h _ => ?_⟩
  obtain ⟨b, rfl, _⟩ := DataW.trod_bool ht h
  exact ⟨b, rfl, trivial⟩

theorem weights_elem {H : Type} {P : Program} {e : TypeId} {n : Nat} : ∀ {ds : List (DataW H)} {d : DataW H}, d ∈ ds → n ∈ d.weights P e → n ∈ DataW.weightsAll P e ds
  | [], _, h, _ => by simp at h
  | d0 :: r, d, h, hn => by
    rw [DataW.weightsAll]
    rcases List.mem_cons.1 h with rfl | h
    · exact List.mem_append_left _ hn
    · exact List.mem_append_right _ (weights_elem h hn)

theorem choose_list {α : Type} {n : Nat} {Q : Nat → α → Prop} (h : ∀ i, i < n → ∃ x, Q i x) : ∃ xs : List α, xs.length = n ∧ ∀ i x, xs[i]? = some x → Q i x := by
  induction n with
  | zero => exact ⟨[], rfl, fun i x hx => by simp at hx⟩
  | succ n ih =>
    obtain ⟨xs, hl, hx⟩ := ih (fun i hi => h i (by omega))
    obtain ⟨y, hy⟩ := h n (by omega)
    refine ⟨xs ++ [y], by simp [hl], fun i x hi => ?_⟩
    by_cases hlt : i < n
    · rw [List.getElem?_append_left (by omega)] at hi
      exact hx i x hi
    · have hl2 := (List.getElem?_eq_some_iff.1 hi).1
      simp at hl2
      have : i = n := by omega
      subst this
      rw [List.getElem?_append_right (by omega)] at hi
      simp [hl] at hi
      exact hi ▸ hy

theorem opens_slice {α : Type} {P : Program} {t e : TypeId} {kd : Kd α} {WF : α → Prop} (ht : P.underlying t = some (.slice e)) (hc : P.cellsOf t = 1) {B : Nat} (hB : P.bytesOf e = B) (he : Opens P e kd WF) :
    Opens P t (Kd.slice e kd) (wfS B WF) := by
  subst hB
  refine ⟨hc, fun H enc w base spare held fuel cs d ps h hw => ?_⟩
  rcases DataW.trod_slice ht h with ⟨rfl, _⟩ | ⟨a, len, cap, elems, rest, n, _, rfl, hx, hb, hl, hm, hlen, hel, _, _⟩
  · exact ⟨[], ⟨none, 0, rfl, Nat.le_refl _, ⟨rfl, by simp, fun h => absurd h (by simp)⟩⟩, by simp [maxLen], by simp, by simp⟩
  · simp only [Prod.mk.injEq] at hx
    obtain ⟨rfl, _⟩ := hx
    have each : ∀ i, i < len → ∃ x, (∃ c, c.length = kd.sz ∧ kd.K w x c ∧ ∀ j u, c[j]? = some u → w.cell? (a.add (i * kd.sz + j)) = some u) ∧ WF x := by
      intro i hi
      have h1 := hel i hi
      have h2 : i < elems.length := by omega
      rw [List.getElem?_eq_getElem h2] at h1
      obtain ⟨c, hc1, hc2⟩ := Option.bind_eq_some_iff.1 h1
      obtain ⟨_, hcl, hcc⟩ := World.cells?_some hc1
      obtain ⟨x, hx1, hx2⟩ := he.2 H enc w base spare held n c elems[i].1 elems[i].2 hc2 (fun m hm' => hw m (by
        rw [DataW.weights, ht]
        simp only [List.mem_cons, List.mem_append]
        exact .inr (.inl (weights_elem (List.mem_map.2 ⟨elems[i], List.getElem_mem h2, rfl⟩) hm'))))
      refine ⟨x, ⟨c, by rw [hcl, he.1], hx1, fun j u hj => ?_⟩, hx2⟩
      have hj2 := (List.getElem?_eq_some_iff.1 hj).1
      have := hcc j (by omega)
      rw [hj, he.1] at this
      rw [← this, Addr.add_add]
    obtain ⟨xs, hxl, hxs⟩ := choose_list each
    subst hxl
    refine ⟨xs, ⟨some a, cap, rfl, hl, ⟨rfl, by simp [maxLen] at hm; omega, fun _ => ⟨a, rfl, fun j p hj => ?_⟩⟩⟩, by omega, ?_, fun x hx => ?_⟩
    · exact (hxs j p hj).1
    · have := hw ((elems.length + rest.length) * P.bytesOf e) (by rw [DataW.weights, ht]; simp)
      exact Nat.le_trans (Nat.mul_le_mul_right _ (by omega)) this
    · obtain ⟨i, hi⟩ := List.getElem?_of_mem hx
      exact (hxs i x hi).2

/-- The same of a struct's fields from one on, which begins at cell off. -/
def OpensF {α : Type} (P : Program) (fs : List Field) (off : Nat) (kd : Kd α) (WF : α → Prop) : Prop :=
  ∀ (H : Type) (enc : TypeId × Value → H) (w : World) (base : Nat) (spare : Nat → Bool) (held : Bool) (fuel : Nat) (cs : List Value) (ys : List (DataW H × List MemPlace)),
    cs.length = off + kd.sz → ys.length = fs.length → (∀ (i : Nat) (f : Field), fs[i]? = some f → DataW.trod enc P w base spare held fuel f.type ((cs.drop f.offset).take (P.cellsOf f.type)) = ys[i]?) →
    (∀ n ∈ DataW.weightsEach P (fs.map (·.type)) (ys.map (·.1)), n ≤ reachBytes) → ∃ x, kd.K w x (cs.drop off) ∧ WF x

theorem opensF_last {α : Type} {P : Program} {f : Field} {off : Nat} {kd : Kd α} {WF : α → Prop} (ho : f.offset = off) (h : Opens P f.type kd WF) : OpensF P [f] off kd WF := by
  intro H enc w base spare held fuel cs ys hcs hys hf hw
  match ys, hys with
  | [y], _ =>
    have h1 := hf 0 f rfl
    rw [ho, h.1, List.take_of_length_le (by simp; omega)] at h1
    exact h.2 H enc w base spare held fuel _ y.1 y.2 h1 (fun n hn => hw n (by simp [DataW.weightsEach, hn]))

theorem opensF_cons {α β : Type} {P : Program} {f : Field} {fs : List Field} {off : Nat} {kd : Kd α} {kr : Kd β} {WF : α → Prop} {WR : β → Prop} (ho : f.offset = off) (h : Opens P f.type kd WF)
    (hr : OpensF P fs (off + kd.sz) kr WR) : OpensF P (f :: fs) off (Kd.pair kd kr) (fun x => WF x.1 ∧ WR x.2) := by
  intro H enc w base spare held fuel cs ys hcs hys hf hw
  match ys, hys with
  | y :: ys, hys =>
    have h1 := hf 0 f rfl
    rw [ho, h.1] at h1
    obtain ⟨x, hx1, hx2⟩ := h.2 H enc w base spare held fuel _ y.1 y.2 h1 (fun n hn => hw n (by simp [DataW.weightsEach, hn]))
    have hs : (Kd.pair kd kr).sz = kd.sz + kr.sz := rfl
    obtain ⟨z, hz1, hz2⟩ := hr H enc w base spare held fuel cs ys (by omega) (by simpa using hys) (fun i g hg => hf (i + 1) g hg) (fun n hn => hw n (by simp [DataW.weightsEach]; exact .inr (by simpa using hn)))
    refine ⟨(x, z), ⟨_, _, ?_, hx1, hz1⟩, hx2, hz2⟩
    rw [← List.drop_drop, List.take_append_drop]

theorem opens_struct {α β : Type} {P : Program} {t : TypeId} {fs : Array Field} {kd : Kd α} {WF : α → Prop} (f : β → α) (g : α → β) (hg : ∀ x, f (g x) = x) (ht : P.underlying t = some (.struct fs)) (hc : P.cellsOf t = kd.sz)
    (h : OpensF P fs.toList 0 kd WF) : Opens P t (Kd.iso kd f) (fun x => WF (f x)) := by
  refine ⟨hc, fun H enc w base spare held fuel cs d ps hd hw => ?_⟩
  obtain ⟨xs, n, _, hx, hl, hxl, hf⟩ := DataW.trod_struct ht hd
  simp only [Prod.mk.injEq] at hx
  obtain ⟨rfl, _⟩ := hx
  obtain ⟨y, hy1, hy2⟩ := h H enc w base spare held n cs xs (by omega) (by simpa using hxl) (fun i f' hf' => hf i f' (by simpa using hf')) (fun m hm => hw m (by rw [DataW.weights, ht]; simpa using hm))
  refine ⟨g y, ?_, ?_⟩
  · show kd.K w (f (g y)) cs
    rw [hg]
    simpa using hy1
  · show WF (f (g y))
    rw [hg]
    exact hy2

/-- An argument, opened. -/
theorem opens_arg {α : Type} {H : Type} {enc : TypeId × Value → H} {P : Program} {w : World} {base : Nat} {spare : Nat → Bool} {held : Bool} {t : TypeId} {v : Value} {kd : Kd α} {WF : α → Prop} {d : DataW H} {ps : List MemPlace} (h : Opens P t kd WF)
    {ts : List TypeId} {ds : List (DataW H)} {j : Nat} (hsz : (DataW.weightsEach P ts ds).all (· ≤ reachBytes) = true) (ht : ts[j]? = some t) (hd : ds[j]? = some d) (hv : DataW.Trod enc P w base spare held t v d ps) :
    ∃ x, kd.K w x v.cells.toList ∧ WF x := by
  obtain ⟨fuel, hf⟩ := hv
  refine h.2 H enc w base spare held fuel _ d ps hf (fun n hn => ?_)
  have := List.all_eq_true.1 hsz n (DataW.weights_mem_each ht hd n hn)
  simpa using this

/-- A slice argument: its address, its capacity, its row. -/
theorem opens_row {α : Type} {P : Program} {w : World} {t e : TypeId} {r : Reach} {b0 : Nat} {v : Value} {kd : Kd α} {x : List α} (ht : P.underlying t = some (.slice e)) (hval : Value.okWide P w r b0 t v) (h : (Kd.slice e kd).K w x v.cells.toList) :
    ∃ A c, v = .slice A x.length c ∧ x.length ≤ c ∧ Kd.C kd w A x.length x := by
  obtain ⟨a, len, cap, rfl⟩ := okWide_slice ht hval
  obtain ⟨A, c, hv, hl, hC⟩ := h
  simp [Value.cells] at hv
  obtain ⟨rfl, rfl, rfl⟩ := hv
  exact ⟨_, _, rfl, hl, hC⟩

/-- A struct argument by value: its cells. -/
theorem opens_agg {P : Program} {w : World} {t : TypeId} {fs : Array Field} {r : Reach} {b0 : Nat} {v : Value} {cs : List Value} (ht : P.underlying t = some (.struct fs)) (hval : Value.okWide P w r b0 t v) (h : v.cells.toList = cs) :
    v = .agg cs.toArray := by
  obtain ⟨c, rfl, _⟩ := okWide_struct ht hval
  simp [Value.cells] at h
  simp [← h]

end Go.Proofs.Ytmpncnphndafnac.Opens
end

section
namespace Go.Proofs.Ytmpncnphndafnac.PureFnExactEnterCar
open Go.RowKit Go.Proofs.YtmpncnphndafnacW.PrintWords Go.Proofs.YtmpncnphndafnacW.PrintLast Go.Proofs.YtmpncnphndafnacW.PrintMore Go.Proofs.Ytmpncnphndafnac.PEcr Go.Proofs.Ytmpncnphndafnac.Aid
set_option linter.unusedVariables false
set_option linter.unusedSimpArgs false

/-- Every number of it is one of Go's int, every slice within the reach. -/
def wf80 (x : S80) : Prop := I64 x.f0 ∧ I64 x.f1 ∧ I64 x.f2
/-- Every number of it is one of Go's int, every slice within the reach. -/
def wf82 (x : S82) : Prop := I64 x.f0 ∧ I64 x.f1 ∧ I64 x.f2 ∧ I64 x.f3

theorem laws_szStreetS_eq (l : List S80) (a : Int) (ha : 0 ≤ a) (ha2 : a ≤ 1048576) (hl : l.length ≤ 140737488355328) : ∃ r, laws_szStreetS.f l a = some r ∧ r ≤ a ∧ (¬ r < 0 → l.length ≤ 1048576) := by
  unfold laws_szStreetS.f
  rw [w64 (by omega) (by omega)]
  by_cases h : a - (l.length : Int) < 0
  · exact ⟨-1, by rw [if_pos h], by omega, by omega⟩
  · exact ⟨_, by rw [if_neg h], by omega, by omega⟩

theorem laws_szCarS_eq (l : List S82) (a : Int) (ha : 0 ≤ a) (ha2 : a ≤ 1048576) (hl : l.length ≤ 140737488355328) : ∃ r, laws_szCarS.f l a = some r ∧ r ≤ a ∧ (¬ r < 0 → l.length ≤ 1048576) := by
  unfold laws_szCarS.f
  rw [w64 (by omega) (by omega)]
  by_cases h : a - (l.length : Int) < 0
  · exact ⟨-1, by rw [if_pos h], by omega, by omega⟩
  · exact ⟨_, by rw [if_neg h], by omega, by omega⟩

def cStreet (x : S80) : S78 := ⟨x.f0, x.f1, x.f2⟩
theorem laws_toStreetS_ev (l : List S80) (hl : l.length ≤ 1048576) : Ev (fun k => laws_toStreetS.f k l) (l.map cStreet) := by
  unfold laws_toStreetS.f
  refine pos (by omega) (pos (by omega) ?_)
  exact copied (g := fun k y i => laws_toStreetS.l0 k l y i) l cStreet z78 (fun j hj y r hy h => by
    refine shift ?_
    simp only [laws_toStreetS.l0]
    refine pos (nat_lt hj) (pos (by omega) (bindc rfl (pos (by omega) ?_)))
    rw [succ_wrap (by omega)]
    simpa [rd_T80, cStreet, hj] using h) (fun y => by
    refine shift ?_
    simp only [laws_toStreetS.l0]
    exact neg (nat_ge (Nat.le_refl _)) (now rfl))

def cCar (x : S82) : S52 := ⟨x.f0, x.f1, x.f2, x.f3⟩
theorem laws_toCarS_ev (l : List S82) (hl : l.length ≤ 1048576) : Ev (fun k => laws_toCarS.f k l) (l.map cCar) := by
  unfold laws_toCarS.f
  refine pos (by omega) (pos (by omega) ?_)
  exact copied (g := fun k y i => laws_toCarS.l0 k l y i) l cCar z52 (fun j hj y r hy h => by
    refine shift ?_
    simp only [laws_toCarS.l0]
    refine pos (nat_lt hj) (pos (by omega) (bindc rfl (pos (by omega) ?_)))
    rw [succ_wrap (by omega)]
    simpa [rd_T82, cCar, hj] using h) (fun y => by
    refine shift ?_
    simp only [laws_toCarS.l0]
    exact neg (nat_ge (Nat.le_refl _)) (now rfl))

theorem laws_eqCarS_refl (l : List S52) (hl : l.length < 9223372036854775807) : Ev (fun k => laws_eqCarS.f k l l) true := by
  unfold laws_eqCarS.f
  refine pos rfl (loop (g := fun k j => laws_eqCarS.l0 k l l (j : Int)) l.length ?_ ?_)
  · intro j hj h
    refine shift ?_
    simp only [laws_eqCarS.l0]
    refine pos (nat_lt hj) (pos (by omega) (pos (nat_lt hj) (bindc (a := true) (by simp [laws_eqCar.f]) (pos (by simp) ?_))))
    rw [succ_wrap (by omega)]
    exact h
  · refine shift ?_
    simp only [laws_eqCarS.l0]
    exact neg (nat_ge (Nat.le_refl _)) (now rfl)

theorem laws_eqStreetS_refl (l : List S78) (hl : l.length < 9223372036854775807) : Ev (fun k => laws_eqStreetS.f k l l) true := by
  unfold laws_eqStreetS.f
  refine pos rfl (loop (g := fun k j => laws_eqStreetS.l0 k l l (j : Int)) l.length ?_ ?_)
  · intro j hj h
    refine shift ?_
    simp only [laws_eqStreetS.l0]
    refine pos (nat_lt hj) (pos (by omega) (pos (nat_lt hj) (bindc (a := true) (by simp [laws_eqStreet.f]) (pos (by simp) ?_))))
    rw [succ_wrap (by omega)]
    exact h
  · refine shift ?_
    simp only [laws_eqStreetS.l0]
    exact neg (nat_ge (Nat.le_refl _)) (now rfl)

theorem setC {α : Type} (A B : List α) (x v : α) (j : Nat) (hj : A.length = j) : (A ++ x :: B).set j v = A ++ v :: B := by
  rw [List.set_append_right _ _ (by omega), hj, Nat.sub_self, List.set_cons_zero]
theorem getC {α : Type} (A B : List α) (x d : α) (j : Nat) (hj : A.length = j) : (A ++ x :: B).getD j d = x := by
  rw [List.getD_eq_getElem?_getD, List.getElem?_append_right (by omega), hj, Nat.sub_self]
  rfl

def markSt (a : Int) : S78 := ⟨a, a + 1, a + 2⟩
def marksSt (a : Int) (n : Nat) : List S78 := (List.range n).map fun (i : Nat) => markSt (a + 3 * (i : Int))
theorem marksSt_length (a : Int) (n : Nat) : (marksSt a n).length = n := by simp [marksSt]
theorem marksSt_succ (a : Int) (n : Nat) : marksSt a (n + 1) = marksSt a n ++ [markSt (a + 3 * (n : Int))] := by simp [marksSt, List.range_succ]
theorem laws_markStreetS_ev (l : List S78) (a : Int) (ha : 0 ≤ a) (ha2 : a ≤ 1000000000000) (hl : l.length ≤ 1000000000000) : Ev (fun k => laws_markStreetS.f k l a) (a + 3 * l.length, marksSt a l.length) := by
  unfold laws_markStreetS.f
  refine loop (g := fun k j => laws_markStreetS.l0 k (marksSt a j ++ l.drop j) (a + 3 * (j : Int)) (j : Int)) l.length ?_ ?_ |> (fun h => by simpa [show marksSt a 0 = [] from rfl] using h)
  · intro j hj h
    refine shift ?_
    have e1 : wrap64 (a + 3 * (j : Int) + 1) = a + 3 * (j : Int) + 1 := w64 (by omega) (by omega)
    have e2 : wrap64 (a + 3 * (j : Int) + 1 + 1) = a + 3 * (j : Int) + 2 := by rw [w64 (by omega) (by omega)]; omega
    have e4 : wrap64 (a + 3 * (j : Int) + 2 + 1) = a + 3 * ((j + 1 : Nat) : Int) := by rw [w64 (by omega) (by omega)]; omega
    simp only [laws_markStreetS.l0, Option.bind_some]
    rw [List.drop_eq_getElem_cons hj]
    simp only [rd_T78, Int.toNat_natCast, setC _ _ _ _ _ (marksSt_length a j), getC _ _ _ _ _ (marksSt_length a j), e1, e2, e4]
    refine pos (by simp [marksSt_length]; omega) (pos (by omega) ?_)
    rw [succ_wrap (by omega)]
    rw [marksSt_succ, List.append_assoc] at h
    exact h
  · refine shift ?_
    simp only [laws_markStreetS.l0]
    exact neg (by simp [marksSt_length]) (now (by simp))

def markC (a : Int) : S52 := ⟨a, a + 1, a + 2, a + 3⟩
def marksC (a : Int) (n : Nat) : List S52 := (List.range n).map fun (i : Nat) => markC (a + 4 * (i : Int))
theorem marksC_length (a : Int) (n : Nat) : (marksC a n).length = n := by simp [marksC]
theorem marksC_succ (a : Int) (n : Nat) : marksC a (n + 1) = marksC a n ++ [markC (a + 4 * (n : Int))] := by simp [marksC, List.range_succ]
theorem laws_markCarS_ev (l : List S52) (a : Int) (ha : 0 ≤ a) (ha2 : a ≤ 1000000000000) (hl : l.length ≤ 1000000000000) : Ev (fun k => laws_markCarS.f k l a) (a + 4 * l.length, marksC a l.length) := by
  unfold laws_markCarS.f
  refine loop (g := fun k j => laws_markCarS.l0 k (marksC a j ++ l.drop j) (a + 4 * (j : Int)) (j : Int)) l.length ?_ ?_ |> (fun h => by simpa [show marksC a 0 = [] from rfl] using h)
  · intro j hj h
    refine shift ?_
    have e1 : wrap64 (a + 4 * (j : Int) + 1) = a + 4 * (j : Int) + 1 := w64 (by omega) (by omega)
    have e2 : wrap64 (a + 4 * (j : Int) + 1 + 1) = a + 4 * (j : Int) + 2 := by rw [w64 (by omega) (by omega)]; omega
    have e3 : wrap64 (a + 4 * (j : Int) + 2 + 1) = a + 4 * (j : Int) + 3 := by rw [w64 (by omega) (by omega)]; omega
    have e4 : wrap64 (a + 4 * (j : Int) + 3 + 1) = a + 4 * ((j + 1 : Nat) : Int) := by rw [w64 (by omega) (by omega)]; omega
    simp only [laws_markCarS.l0, Option.bind_some]
    rw [List.drop_eq_getElem_cons hj]
    simp only [rd_T52, Int.toNat_natCast, setC _ _ _ _ _ (marksC_length a j), getC _ _ _ _ _ (marksC_length a j), e1, e2, e3, e4]
    refine pos (by simp [marksC_length]; omega) (pos (by omega) ?_)
    rw [succ_wrap (by omega)]
    rw [marksC_succ, List.append_assoc] at h
    exact h
  · refine shift ?_
    simp only [laws_markCarS.l0]
    exact neg (by simp [marksC_length]) (now (by simp))

theorem marksC_get (a : Int) (n j : Nat) (h : j < n) : rd_T52 (marksC a n) (j : Int) = markC (a + 4 * (j : Int)) := by simp [rd_T52, marksC, h]
theorem laws_heldCarS_ev (a : Int) (n : Nat) (ha : 0 ≤ a) (ha2 : a ≤ 1000000000000) (hn : n ≤ 1000000000000) : Ev (fun k => laws_heldCarS.f k (marksC a n) a) (a + 4 * n) := by
  unfold laws_heldCarS.f
  refine loop (g := fun k j => laws_heldCarS.l0 k (marksC a n) (a + 4 * (j : Int)) (j : Int)) n ?_ ?_ |> (fun h => by simpa using h)
  · intro j hj h
    refine shift ?_
    have e1 : wrap64 (a + 4 * (j : Int) + 1) = a + 4 * (j : Int) + 1 := w64 (by omega) (by omega)
    have e2 : wrap64 (a + 4 * (j : Int) + 1 + 1) = a + 4 * (j : Int) + 2 := by rw [w64 (by omega) (by omega)]; omega
    have e3 : wrap64 (a + 4 * (j : Int) + 2 + 1) = a + 4 * (j : Int) + 3 := by rw [w64 (by omega) (by omega)]; omega
    have e4 : wrap64 (a + 4 * (j : Int) + 3 + 1) = a + 4 * ((j + 1 : Nat) : Int) := by rw [w64 (by omega) (by omega)]; omega
    simp only [laws_heldCarS.l0, marksC_get a n j hj, e1, e2, e3, e4, markC]
    refine pos (by rw [marksC_length]; omega) (pos (by omega) (pos trivial (pos trivial (pos trivial (pos trivial ?_)))))
    rw [succ_wrap (by omega)]
    exact h
  · refine shift ?_
    simp only [laws_heldCarS.l0]
    exact neg (by rw [marksC_length]; omega) (now rfl)

theorem spec_l1In_eq (a b c : Int) : spec_l1In.f a b c = some (decide (b ≤ a ∧ a ≤ c)) := by
  unfold spec_l1In.f
  by_cases h : b ≤ a
  · rw [if_pos h]
    simp [h]
  · rw [if_neg h]
    simp [h]

theorem impl_streetOf_eq (l : List S78) (a b : Int) : impl_streetOf.f l a b = some (impl_streetOf.from_ a b l 0) := rfl
theorem streetOf_neg (a b : Int) : ∀ (l : List S78) (i : Int), 0 ≤ i → (impl_streetOf.from_ a b l i < 0 ↔ ∀ x ∈ l, ¬ (x.f0 = a ∧ x.f1 = b))
  | [], i, _ => by simp [impl_streetOf.from_]
  | x :: r, i, hi => by
    have ih := streetOf_neg a b r (i + 1) (by omega)
    simp only [impl_streetOf.from_, List.mem_cons, forall_eq_or_imp, ← ih]
    by_cases h : x.f0 = a ∧ x.f1 = b
    · simp [h, hi]
    · have : ¬ ((x.f0 == a) && (x.f1 == b)) = true := by simpa using h
      rw [if_neg this]
      exact ⟨fun g => ⟨h, g⟩, fun g => g.2⟩
def noSame (l : List S78) (a b : Int) (i : Nat) : Bool := !decide ((rd_T78 l i).f0 = a ∧ (rd_T78 l i).f1 = b)
theorem streetOf_iff (l : List S78) (j : Nat) (hj : j ≤ l.length) (a b : Int) : (List.range j).all (noSame l a b) = true ↔ impl_streetOf.from_ a b (l.take j) 0 < 0 := by
  rw [streetOf_neg _ _ _ _ (Int.le_refl _), List.all_eq_true]
  constructor
  · intro h x hx
    obtain ⟨i, hi, rfl⟩ := List.getElem_of_mem hx
    have hi2 : i < j ∧ i < l.length := by rw [List.length_take] at hi; omega
    have := h i (List.mem_range.2 hi2.1)
    rw [List.getElem_take]
    intro ⟨h1, h2⟩
    simp [noSame, rd_T78, hi2.2, h1, h2] at this
  · intro h i hi
    have hij := List.mem_range.1 hi
    have hil : i < l.length := by omega
    have := h l[i] (List.mem_take_iff_getElem.2 ⟨i, by omega, rfl⟩)
    have e : rd_T78 l (i : Int) = l[i] := by simp [rd_T78, hil]
    simp only [noSame, e, Bool.not_eq_true', decide_eq_false_iff_not]
    exact this

def streetRng (s : S78) : Bool := decide (1 ≤ s.f0 ∧ s.f0 ≤ 8 ∧ 1 ≤ s.f1 ∧ s.f1 ≤ 8 ∧ ¬ s.f0 = s.f1 ∧ 1 ≤ s.f2 ∧ s.f2 ≤ 300)
def streetAt (l : List S78) (j : Nat) : Bool := streetRng (rd_T78 l j) && (List.range j).all (noSame l (rd_T78 l j).f0 (rd_T78 l j).f1)
def areStreets (l : List S78) : Bool := (List.range l.length).all (streetAt l) && decide (l.length ≤ 16)
theorem spec_AreStreets_flag (l : List S78) (j : Nat) (h : ¬ streetRng (rd_T78 l j) = true) (hj : j < l.length) : Ev (fun k => spec_AreStreets.l0 k l (j : Int)) false := by
  have hs : ∀ a b c, Ev (fun k => spec_AreStreets.j1 k l (j : Int) true a b c) false := fun a b c => by
    refine shift ?_
    simp only [spec_AreStreets.j1]
    exact pos trivial (now rfl)
  simp only [streetRng, decide_eq_true_eq] at h
  refine shift ?_
  simp only [spec_AreStreets.l0]
  refine pos (nat_lt hj) (pos (by omega) (bindc (spec_l1In_eq _ _ _) ?_))
  by_cases h1 : 1 ≤ (rd_T78 l j).f0 ∧ (rd_T78 l j).f0 ≤ 8
  · refine pos (by simp [h1]) (bindc (spec_l1In_eq _ _ _) ?_)
    by_cases h2 : 1 ≤ (rd_T78 l j).f1 ∧ (rd_T78 l j).f1 ≤ 8
    · refine pos (by simp [h2]) ?_
      by_cases h3 : (rd_T78 l j).f0 = (rd_T78 l j).f1
      · exact pos h3 (hs _ _ _)
      · refine neg h3 (bindc (spec_l1In_eq _ _ _) ?_)
        have h4 : ¬ (1 ≤ (rd_T78 l j).f2 ∧ (rd_T78 l j).f2 ≤ 300) := by omega
        rw [decide_eq_false h4]
        exact hs _ _ _
    · exact neg (by simpa using h2) (hs _ _ _)
  · exact neg (by simpa using h1) (hs _ _ _)
theorem spec_AreStreets_ev (l : List S78) (hl : l.length ≤ 9223372036854775806) : Ev (fun k => spec_AreStreets.f k l) (areStreets l) := by
  unfold spec_AreStreets.f areStreets
  have head : ∀ (j : Nat) (r : Bool), j < l.length → streetRng (rd_T78 l j) = true → Ev (fun k => spec_AreStreets.l1 k l (j : Int) 0 (rd_T78 l j).f0 (rd_T78 l j).f1 (rd_T78 l j).f2) r → Ev (fun k => spec_AreStreets.l0 k l (j : Int)) r := by
    intro j r hj h1 h
    simp only [streetRng, decide_eq_true_eq] at h1
    refine shift ?_
    simp only [spec_AreStreets.l0]
    refine pos (nat_lt hj) (pos (by omega) (bindc (spec_l1In_eq _ _ _) (pos (by simp; omega) (bindc (spec_l1In_eq _ _ _) (pos (by simp; omega) (neg (by omega) (bindc (spec_l1In_eq _ _ _) ?_)))))))
    rw [decide_eq_true (show 1 ≤ (rd_T78 l j).f2 ∧ (rd_T78 l j).f2 ≤ 300 by omega)]
    refine shift ?_
    simp only [spec_AreStreets.j1]
    exact neg (by simp) h
  refine all_loop (g := fun k j => spec_AreStreets.l0 k l (j : Int)) l.length (streetAt l) _ ?_ ?_ ?_
  · intro j r hj ok h
    simp only [streetAt, Bool.and_eq_true] at ok
    refine head j r hj ok.1 (ok_loop (g := fun k i => spec_AreStreets.l1 k l (j : Int) (i : Int) (rd_T78 l j).f0 (rd_T78 l j).f1 (rd_T78 l j).f2) _ _ ok.2 ?_ ?_)
    · intro i r hi oki hh
      simp only [noSame, Bool.not_eq_true', decide_eq_false_iff_not] at oki
      refine shift ?_
      simp only [spec_AreStreets.l1]
      refine pos (nat_lt hi) (pos (by omega) (pos (by omega) ?_))
      rw [succ_wrap (by omega)]
      by_cases h1 : (rd_T78 l i).f0 = (rd_T78 l j).f0
      · exact pos h1 (neg (fun h2 => oki ⟨h1, h2⟩) hh)
      · exact neg h1 hh
    · refine shift ?_
      simp only [spec_AreStreets.l1]
      refine neg (nat_ge (Nat.le_refl _)) ?_
      rw [succ_wrap (by omega)]
      exact h
  · intro j hj ok
    by_cases h1 : streetRng (rd_T78 l j) = true
    · have h2 : ¬ (List.range j).all (noSame l (rd_T78 l j).f0 (rd_T78 l j).f1) = true := by
        intro h2
        simp [streetAt, h1, h2] at ok
      refine head j _ hj h1 (bad_loop (g := fun k i => spec_AreStreets.l1 k l (j : Int) (i : Int) (rd_T78 l j).f0 (rd_T78 l j).f1 (rd_T78 l j).f2) _ _ _ h2 ?_ ?_)
      · intro i r hi oki hh
        simp only [noSame, Bool.not_eq_true', decide_eq_false_iff_not] at oki
        refine shift ?_
        simp only [spec_AreStreets.l1]
        refine pos (nat_lt hi) (pos (by omega) (pos (by omega) ?_))
        rw [succ_wrap (by omega)]
        by_cases h1 : (rd_T78 l i).f0 = (rd_T78 l j).f0
        · exact pos h1 (neg (fun h2 => oki ⟨h1, h2⟩) hh)
        · exact neg h1 hh
      · intro i hi oki
        simp only [noSame, Bool.not_eq_false', decide_eq_true_eq] at oki
        refine shift ?_
        simp only [spec_AreStreets.l1]
        exact pos (nat_lt hi) (pos (by omega) (pos (by omega) (pos oki.1 (pos oki.2 (now rfl)))))
    · exact spec_AreStreets_flag l j h1 hj
  · refine shift ?_
    simp only [spec_AreStreets.l0]
    refine neg (nat_ge (Nat.le_refl _)) (now ?_)
    exact decide_eq_decide.2 (by omega)

def carAt (ss : List S78) (cs : List S52) (j : Nat) : Bool :=
  decide (1 ≤ (rd_T52 cs j).f0 ∧ (rd_T52 cs j).f0 ≤ 999 ∧ 0 ≤ (rd_T52 cs j).f1 ∧ (rd_T52 cs j).f1 < (ss.length : Int) ∧ 0 ≤ (rd_T52 cs j).f2 ∧ (rd_T52 cs j).f2 ≤ (rd_T78 ss (rd_T52 cs j).f1).f2 ∧ 1 ≤ (rd_T52 cs j).f3 ∧ (rd_T52 cs j).f3 ≤ 20 ∧ (0 < j → (rd_T52 cs ((j : Int) - 1)).f0 < (rd_T52 cs j).f0))
theorem carAt_iff (ss : List S78) (cs : List S52) (j : Nat) : carAt ss cs j = true ↔ (1 ≤ (rd_T52 cs j).f0 ∧ (rd_T52 cs j).f0 ≤ 999 ∧ 0 ≤ (rd_T52 cs j).f1 ∧ (rd_T52 cs j).f1 < (ss.length : Int) ∧ 0 ≤ (rd_T52 cs j).f2 ∧ (rd_T52 cs j).f2 ≤ (rd_T78 ss (rd_T52 cs j).f1).f2 ∧ 1 ≤ (rd_T52 cs j).f3 ∧ (rd_T52 cs j).f3 ≤ 20 ∧ (0 < j → (rd_T52 cs ((j : Int) - 1)).f0 < (rd_T52 cs j).f0)) := by unfold carAt; exact decide_eq_true_iff
def areCars (ss : List S78) (cs : List S52) : Bool := areStreets ss && ((List.range cs.length).all (carAt ss cs) && decide (cs.length ≤ 30))
theorem spec_AreCars_ev (ss : List S78) (cs : List S52) (hs : ss.length ≤ 9223372036854775806) (hl : cs.length ≤ 9223372036854775806) : Ev (fun k => spec_AreCars.f k ss cs) (areCars ss cs) := by
  unfold spec_AreCars.f areCars
  refine Ev.bind (spec_AreStreets_ev ss hs) ?_
  by_cases h : areStreets ss = true
  · rw [h, Bool.true_and]
    refine pos rfl (all_loop (g := fun k j => spec_AreCars.l0 k ss cs (j : Int)) cs.length (carAt ss cs) _ ?_ ?_ ?_)
    · intro j r hj ok h
      rw [carAt_iff] at ok
      obtain ⟨o1, o2, o3, o4, o5, o6, o7, o8, o9⟩ := ok
      refine shift ?_
      simp only [spec_AreCars.l0]
      rw [w64 (x := (ss.length : Int) - 1) (by omega) (by omega), succ_wrap (by omega)]
      refine pos (nat_lt hj) (pos (by omega) (bindc (spec_l1In_eq _ _ _) (pos (by simp; omega) (bindc (spec_l1In_eq _ _ _) (pos (by simp; omega) (pos o3 (pos o4 (bindc (spec_l1In_eq _ _ _) (pos (by simp; omega) (bindc (spec_l1In_eq _ _ _) (pos (by simp; omega) ?_))))))))))) 
      by_cases h0 : (j : Int) > 0
      · rw [w64 (by omega) (by omega)]
        exact pos h0 (pos (by omega) (pos (by omega) (neg (by have := o9 (by omega); omega) h)))
      · exact neg h0 h
    · intro j hj ok
      have ok : ¬ carAt ss cs j = true := by simp [ok]
      rw [carAt_iff] at ok
      refine shift ?_
      simp only [spec_AreCars.l0]
      rw [w64 (x := (ss.length : Int) - 1) (by omega) (by omega)]
      refine pos (nat_lt hj) (pos (by omega) (bindc (spec_l1In_eq _ _ _) ?_))
      by_cases h1 : 1 ≤ (rd_T52 cs j).f0 ∧ (rd_T52 cs j).f0 ≤ 999
      · refine pos (by simp [h1]) (bindc (spec_l1In_eq _ _ _) ?_)
        by_cases h2 : 0 ≤ (rd_T52 cs j).f1 ∧ (rd_T52 cs j).f1 ≤ (ss.length : Int) - 1
        · refine pos (by simpa using h2) (pos h2.1 (pos (by omega) (bindc (spec_l1In_eq _ _ _) ?_)))
          by_cases h3 : 0 ≤ (rd_T52 cs j).f2 ∧ (rd_T52 cs j).f2 ≤ (rd_T78 ss (rd_T52 cs j).f1).f2
          · refine pos (by simpa using h3) (bindc (spec_l1In_eq _ _ _) ?_)
            by_cases h4 : 1 ≤ (rd_T52 cs j).f3 ∧ (rd_T52 cs j).f3 ≤ 20
            · refine pos (by simpa using h4) ?_
              rw [w64 (x := (j : Int) - 1) (by omega) (by omega)]
              exact pos (by omega) (pos (by omega) (pos (by omega) (pos (by omega) (now rfl))))
            · exact neg (by simpa using h4) (now rfl)
          · exact neg (by simpa using h3) (now rfl)
        · exact neg (by simpa using h2) (now rfl)
      · exact neg (by simpa using h1) (now rfl)
    · refine shift ?_
      simp only [spec_AreCars.l0]
      refine neg (nat_ge (Nat.le_refl _)) (now ?_)
      exact decide_eq_decide.2 (by omega)
  · exact neg h (now (by simp [h]))

def enterAt (cs : List S52) (id : Int) : Nat → Nat → Nat
  | 0, j => j
  | d + 1, j => if j < cs.length ∧ (rd_T52 cs (j : Int)).f0 < id then enterAt cs id d (j + 1) else j
theorem enterAt_range (cs : List S52) (id : Int) : ∀ d j, j ≤ cs.length → enterAt cs id d j ≤ cs.length
  | 0, _, h => h
  | d + 1, j, h => by
    simp only [enterAt]
    split
    · rename_i c
      exact enterAt_range cs id d (j + 1) (by omega)
    · exact h
def newCar (ss : List S78) (id st pa : Int) : S52 := ⟨id, st, (rd_T78 ss st).f2, pa⟩
def carsWith (cs : List S52) (c : S52) (j : Nat) : List S52 := cs.take j ++ [c] ++ cs.drop j
theorem carsWith_length (cs : List S52) (c : S52) (j : Nat) (h : j ≤ cs.length) : (carsWith cs c j).length = cs.length + 1 := by simp [carsWith]; omega
def enterTo (ss : List S78) (cs : List S52) (c : S52) (j : Nat) : List S52 × Bool := if areCars ss (carsWith cs c j) = true then (carsWith cs c j, true) else (cs, false)
def enterC (ss : List S78) (cs : List S52) (id st pa : Int) : List S52 × Bool :=
  if areCars ss cs = true ∧ 0 ≤ st ∧ st < (ss.length : Int) then enterTo ss cs (newCar ss id st pa) (enterAt cs id cs.length 0) else (cs, false)
theorem enterC_length (ss : List S78) (cs : List S52) (id st pa : Int) : (enterC ss cs id st pa).1.length ≤ cs.length + 1 := by
  unfold enterC enterTo
  split
  · split
    · rw [carsWith_length _ _ _ (enterAt_range _ _ _ _ (Nat.zero_le _))]
      exact Nat.le_refl _
    · exact Nat.le_succ _
  · exact Nat.le_succ _
theorem spec_EnterCar_ev (ss : List S78) (cs : List S52) (id st pa : Int) (hs : ss.length ≤ 1048576) (hl : cs.length ≤ 1048576) : Ev (fun k => spec_EnterCar.f k ss cs id st pa) (enterC ss cs id st pa) := by
  unfold spec_EnterCar.f enterC
  have no : Ev (fun k => spec_EnterCar.j0 k ss cs id st pa true) (cs, false) := by
    refine shift ?_
    simp only [spec_EnterCar.j0]
    exact pos trivial (bindc rfl (pos (by simp; omega) (now rfl)))
  refine Ev.bind (spec_AreCars_ev ss cs (by omega) (by omega)) ?_
  by_cases h : areCars ss cs = true
  · refine pos h (bindc (spec_l1In_eq _ _ _) ?_)
    rw [w64 (x := (ss.length : Int) - 1) (by omega) (by omega)]
    by_cases h2 : 0 ≤ st ∧ st < (ss.length : Int)
    · rw [if_pos ⟨h, h2⟩, decide_eq_true (show 0 ≤ st ∧ st ≤ (ss.length : Int) - 1 by omega)]
      refine shift ?_
      simp only [spec_EnterCar.j0]
      refine neg (by decide) ?_
      have main : ∀ d (j : Nat), cs.length ≤ j + d → j ≤ cs.length → Ev (fun k => spec_EnterCar.l0 k ss cs id st pa (j : Int)) (enterTo ss cs (newCar ss id st pa) (enterAt cs id d j)) := by
        intro d
        induction d with
        | zero =>
          intro j hd hj
          have hlen := carsWith_length cs (newCar ss id st pa) j hj
          refine shift ?_
          simp only [spec_EnterCar.l0, enterAt, Int.toNat_natCast]
          refine neg (by omega) (bindc rfl (pos (by omega) (pos (by omega) (bindc rfl (pos (by simp; omega) (bindc rfl (pos h2.1 (pos h2.2 (bindc rfl (pos (by simp; omega) (bindc rfl (bindc rfl (pos (by simp; omega) (bindc rfl (Ev.bind (spec_AreCars_ev ss (carsWith cs (newCar ss id st pa) j) (by omega) (by omega)) ?_)))))))))))))))
          unfold enterTo
          by_cases g : areCars ss (carsWith cs (newCar ss id st pa) j) = true
          · simp only [if_pos g]
            exact now rfl
          · simp only [if_neg g]
            exact (bindc rfl (pos (by simp; omega) (now rfl)))
        | succ d ih =>
          intro j hd hj
          have hlen := carsWith_length cs (newCar ss id st pa) j hj
          refine shift ?_
          simp only [spec_EnterCar.l0, enterAt, Int.toNat_natCast]
          by_cases c1 : j < cs.length
          · refine pos (by omega) (pos (by omega) ?_)
            by_cases c2 : (rd_T52 cs (j : Int)).f0 < id
            · rw [if_pos ⟨c1, c2⟩]
              refine pos c2 ?_
              rw [succ_wrap (by omega)]
              exact ih (j + 1) (by omega) (by omega)
            · rw [if_neg (fun g => c2 g.2)]
              refine neg c2 (bindc rfl (pos (by omega) (bindc rfl (pos (by simp; omega) (bindc rfl (pos h2.1 (pos h2.2 (bindc rfl (pos (by simp; omega) (bindc rfl (bindc rfl (pos (by simp; omega) (bindc rfl (Ev.bind (spec_AreCars_ev ss (carsWith cs (newCar ss id st pa) j) (by omega) (by omega)) ?_))))))))))))))
              unfold enterTo
              by_cases g : areCars ss (carsWith cs (newCar ss id st pa) j) = true
              · simp only [if_pos g]
                exact now rfl
              · simp only [if_neg g]
                exact (bindc rfl (pos (by simp; omega) (now rfl)))
          · rw [if_neg (fun g => c1 g.1)]
            refine neg (by omega) (bindc rfl (pos (by omega) (pos (by omega) (bindc rfl (pos (by simp; omega) (bindc rfl (pos h2.1 (pos h2.2 (bindc rfl (pos (by simp; omega) (bindc rfl (bindc rfl (pos (by simp; omega) (bindc rfl (Ev.bind (spec_AreCars_ev ss (carsWith cs (newCar ss id st pa) j) (by omega) (by omega)) ?_)))))))))))))))
            unfold enterTo
            by_cases g : areCars ss (carsWith cs (newCar ss id st pa) j) = true
            · simp only [if_pos g]
              exact now rfl
            · simp only [if_neg g]
              exact (bindc rfl (pos (by simp; omega) (now rfl)))
      exact main cs.length 0 (by omega) (Nat.zero_le _)
    · rw [if_neg (fun g => h2 g.2), decide_eq_false (show ¬ (0 ≤ st ∧ st ≤ (ss.length : Int) - 1) by omega)]
      exact no
  · rw [if_neg (fun g => h g.1)]
    exact neg h no

theorem impl_InRange_eq (a b c : Int) : impl_InRange.f a b c = some (decide (b ≤ a ∧ a ≤ c)) := by
  unfold impl_InRange.f
  by_cases h : b ≤ a
  · rw [if_pos h]
    simp [h]
  · rw [if_neg h]
    simp [h]

theorem impl_isCrossing_eq (a : Int) : impl_isCrossing.f a = some (decide (1 ≤ a ∧ a ≤ 8)) := by
  unfold impl_isCrossing.f
  rw [impl_InRange_eq, Option.bind_some]

theorem impl_AreStreets_ev (l : List S78) : Ev (fun k => impl_AreStreets.f k l) (areStreets l) := by
  unfold impl_AreStreets.f areStreets
  by_cases hr : l.length ≤ 16
  · rw [decide_eq_true hr]
    refine neg (by omega) (all_loop (g := fun k j => impl_AreStreets.l0 k l l (l.length : Int) (j : Int)) l.length (streetAt l) _ ?_ ?_ ?_)
    · intro j r hj ok h
      simp only [streetAt, Bool.and_eq_true] at ok
      have ok2 := (streetOf_iff l j (by omega) _ _).1 ok.2
      have ok1 := ok.1
      simp only [streetRng, decide_eq_true_eq] at ok1
      refine shift ?_
      simp only [impl_AreStreets.l0]
      refine pos (nat_lt hj) (pos (by omega) (pos (nat_lt hj) (bindc (impl_isCrossing_eq _) (pos (by simp; omega) (bindc (impl_isCrossing_eq _) (pos (by simp; omega) (neg (by omega) (bindc (impl_InRange_eq _ _ _) ?_))))))))
      rw [decide_eq_true (show 1 ≤ (rd_T78 l j).f2 ∧ (rd_T78 l j).f2 ≤ 300 by omega)]
      refine shift ?_
      simp only [impl_AreStreets.j1]
      refine neg (by simp) (pos (by omega) (pos (by omega) (bindc (impl_streetOf_eq _ _ _) (neg (by rw [Int.toNat_natCast]; omega) ?_))))
      rw [succ_wrap (by omega)]
      exact h
    · intro j hj ok
      have hs : ∀ a b c, Ev (fun k => impl_AreStreets.j1 k l (j : Int) l (l.length : Int) (j : Int) true a b c) false := fun a b c => by
        refine shift ?_
        simp only [impl_AreStreets.j1]
        exact pos trivial (now rfl)
      refine shift ?_
      simp only [impl_AreStreets.l0]
      refine pos (nat_lt hj) (pos (by omega) (pos (nat_lt hj) (bindc (impl_isCrossing_eq _) ?_)))
      by_cases h1 : 1 ≤ (rd_T78 l j).f0 ∧ (rd_T78 l j).f0 ≤ 8
      · refine pos (by simp [h1]) (bindc (impl_isCrossing_eq _) ?_)
        by_cases h2 : 1 ≤ (rd_T78 l j).f1 ∧ (rd_T78 l j).f1 ≤ 8
        · refine pos (by simp [h2]) ?_
          by_cases h3 : (rd_T78 l j).f0 = (rd_T78 l j).f1
          · exact pos h3 (hs _ _ _)
          · refine neg h3 (bindc (impl_InRange_eq _ _ _) ?_)
            by_cases h4 : 1 ≤ (rd_T78 l j).f2 ∧ (rd_T78 l j).f2 ≤ 300
            · rw [decide_eq_true h4]
              refine shift ?_
              simp only [impl_AreStreets.j1]
              have h5 : ¬ (List.range j).all (noSame l (rd_T78 l j).f0 (rd_T78 l j).f1) = true := by
                intro h5
                have : streetRng (rd_T78 l j) = true := by simp only [streetRng, decide_eq_true_eq]; omega
                simp [streetAt, this, h5] at ok
              rw [streetOf_iff l j (by omega)] at h5
              exact neg (by simp) (pos (by omega) (pos (by omega) (bindc (impl_streetOf_eq _ _ _) (pos (by rw [Int.toNat_natCast]; omega) (now rfl)))))
            · rw [decide_eq_false h4]
              exact hs _ _ _
        · exact neg (by simpa using h2) (hs _ _ _)
      · exact neg (by simpa using h1) (hs _ _ _)
    · refine shift ?_
      simp only [impl_AreStreets.l0]
      exact neg (nat_ge (Nat.le_refl _)) (now rfl)
  · rw [decide_eq_false hr, Bool.and_false]
    exact pos (by omega) (now rfl)

theorem impl_AreCars_ev (ss : List S78) (cs : List S52) : Ev (fun k => impl_AreCars.f k ss cs) (areCars ss cs) := by
  unfold impl_AreCars.f areCars
  refine Ev.bind (impl_AreStreets_ev ss) ?_
  by_cases h : areStreets ss = true
  · rw [h, Bool.true_and]
    refine pos rfl (shift ?_)
    simp only [impl_AreCars.j0]
    by_cases hl : cs.length ≤ 30
    · rw [decide_eq_true hl]
      refine neg (by simp; omega) (all_loop (g := fun k j => impl_AreCars.l0 k ss cs cs (cs.length : Int) (j : Int)) cs.length (carAt ss cs) _ ?_ ?_ ?_)
      · intro j r hj ok h
        rw [carAt_iff] at ok
        obtain ⟨o1, o2, o3, o4, o5, o6, o7, o8, o9⟩ := ok
        refine shift ?_
        simp only [impl_AreCars.l0]
        rw [succ_wrap (by omega)]
        refine pos (nat_lt hj) (pos (by omega) (pos (nat_lt hj) (bindc (impl_InRange_eq _ _ _) (pos (by simp; omega) ?_))))
        by_cases h0 : (j : Int) > 0
        · rw [w64 (by omega) (by omega)]
          exact pos h0 (pos (by omega) (pos (by omega) (neg (by have := o9 (by omega); omega) (neg (by omega) (neg (by omega) (pos o3 (pos o4 (bindc (impl_InRange_eq _ _ _) (pos (by simp; omega) (bindc (impl_InRange_eq _ _ _) (pos (by simp; omega) h)))))))))))
        · exact neg h0 (neg (by omega) (neg (by omega) (pos o3 (pos o4 (bindc (impl_InRange_eq _ _ _) (pos (by simp; omega) (bindc (impl_InRange_eq _ _ _) (pos (by simp; omega) h))))))))
      · intro j hj ok
        have ok : ¬ carAt ss cs j = true := by simp [ok]
        rw [carAt_iff] at ok
        refine shift ?_
        simp only [impl_AreCars.l0]
        rw [w64 (x := (j : Int) - 1) (by omega) (by omega)]
        refine pos (nat_lt hj) (pos (by omega) (pos (nat_lt hj) (bindc (impl_InRange_eq _ _ _) ?_)))
        by_cases h1 : 1 ≤ (rd_T52 cs j).f0 ∧ (rd_T52 cs j).f0 ≤ 999
        · refine pos (by simp [h1]) ?_
          by_cases h0 : (j : Int) > 0
          · refine pos h0 (pos (by omega) (pos (by omega) ?_))
            by_cases h5 : (rd_T52 cs j).f0 ≤ (rd_T52 cs ((j : Int) - 1)).f0
            · exact pos h5 (now rfl)
            refine neg h5 ?_
            by_cases h2 : (rd_T52 cs j).f1 < 0
            · exact pos h2 (now rfl)
            refine neg h2 ?_
            by_cases h2b : (rd_T52 cs j).f1 ≥ (ss.length : Int)
            · exact pos h2b (now rfl)
            refine neg h2b (pos (by omega) (pos (by omega) (bindc (impl_InRange_eq _ _ _) ?_)))
            by_cases h3 : 0 ≤ (rd_T52 cs j).f2 ∧ (rd_T52 cs j).f2 ≤ (rd_T78 ss (rd_T52 cs j).f1).f2
            · refine pos (by simpa using h3) (bindc (impl_InRange_eq _ _ _) ?_)
              exact neg (by simp; omega) (now rfl)
            · exact neg (by simpa using h3) (now rfl)
          · refine neg h0 ?_
            by_cases h2 : (rd_T52 cs j).f1 < 0
            · exact pos h2 (now rfl)
            refine neg h2 ?_
            by_cases h2b : (rd_T52 cs j).f1 ≥ (ss.length : Int)
            · exact pos h2b (now rfl)
            refine neg h2b (pos (by omega) (pos (by omega) (bindc (impl_InRange_eq _ _ _) ?_)))
            by_cases h3 : 0 ≤ (rd_T52 cs j).f2 ∧ (rd_T52 cs j).f2 ≤ (rd_T78 ss (rd_T52 cs j).f1).f2
            · refine pos (by simpa using h3) (bindc (impl_InRange_eq _ _ _) ?_)
              exact neg (by simp; omega) (now rfl)
            · exact neg (by simpa using h3) (now rfl)
        · exact neg (by simpa using h1) (now rfl)
      · refine shift ?_
        simp only [impl_AreCars.l0]
        exact neg (nat_ge (Nat.le_refl _)) (now rfl)
    · rw [decide_eq_false hl, Bool.and_false]
      exact pos (by simp; omega) (now rfl)
  · refine neg h (shift ?_)
    simp only [impl_AreCars.j0]
    exact pos trivial (now (by simp [h]))

theorem impl_EnterCar_clone (l : List S52) (hl : l.length ≤ 1048576) : impl_Car_52.f l = some l := by
  unfold impl_Car_52.f
  rw [Option.bind_some, if_pos (by simp; omega)]
  simp
theorem impl_EnterCar_ev (ss : List S78) (cs : List S52) (id st pa : Int) (hs : ss.length ≤ 1048576) (hl : cs.length ≤ 1048576) : Ev (fun k => impl_EnterCar.f k ss cs id st pa) (enterC ss cs id st pa) := by
  unfold impl_EnterCar.f enterC
  have no : Ev (fun k => impl_EnterCar.j0 k ss cs id st pa cs true) (cs, false) := by
    refine shift ?_
    simp only [impl_EnterCar.j0]
    exact pos trivial (now rfl)
  refine bindc (impl_EnterCar_clone cs hl) (Ev.bind (impl_AreCars_ev ss cs) ?_)
  by_cases h : areCars ss cs = true
  · refine pos h ?_
    by_cases h1 : st < 0
    · rw [if_neg (fun g => by omega)]
      exact pos h1 no
    refine neg h1 ?_
    by_cases h2 : st < (ss.length : Int)
    · rw [if_pos ⟨h, by omega, h2⟩, decide_eq_false (show ¬ st ≥ (ss.length : Int) by omega)]
      refine shift ?_
      simp only [impl_EnterCar.j0]
      refine neg (by decide) ?_
      have fin : ∀ j : Nat, j ≤ cs.length → Ev (fun k => impl_EnterCar.j2 k ss cs id st pa cs (j : Int)) (enterTo ss cs (newCar ss id st pa) j) := by
        intro j hj
        refine shift ?_
        simp only [impl_EnterCar.j2]
        refine pos (by omega) (pos h2 (pos (by omega) (pos (by omega) (pos (by omega) (bindc rfl (Ev.bind (impl_AreCars_ev ss (carsWith cs (newCar ss id st pa) j)) ?_))))))
        unfold enterTo
        by_cases g : areCars ss (carsWith cs (newCar ss id st pa) j) = true
        · simp only [if_pos g]
          exact now rfl
        · simp only [if_neg g]
          exact (bindc (impl_EnterCar_clone cs hl) (now rfl))
      have main : ∀ d (j : Nat), cs.length ≤ j + d → j ≤ cs.length → Ev (fun k => impl_EnterCar.l0 k ss cs id st pa cs (j : Int)) (enterTo ss cs (newCar ss id st pa) (enterAt cs id d j)) := by
        intro d
        induction d with
        | zero =>
          intro j hd hj
          refine shift ?_
          simp only [impl_EnterCar.l0, enterAt]
          exact neg (by omega) (fin j hj)
        | succ d ih =>
          intro j hd hj
          refine shift ?_
          simp only [impl_EnterCar.l0, enterAt]
          by_cases c1 : j < cs.length
          · refine pos (by omega) (pos (by omega) ?_)
            by_cases c2 : (rd_T52 cs (j : Int)).f0 < id
            · rw [if_pos ⟨c1, c2⟩]
              refine pos c2 ?_
              rw [succ_wrap (by omega)]
              exact ih (j + 1) (by omega) (by omega)
            · rw [if_neg (fun g => c2 g.2)]
              exact neg c2 (fin j hj)
          · rw [if_neg (fun g => c1 g.1)]
            exact neg (by omega) (fin j hj)
      exact main cs.length 0 (by omega) (Nat.zero_le _)
    · rw [if_neg (fun g => h2 g.2.2), decide_eq_true (show st ≥ (ss.length : Int) by omega)]
      exact no
  · rw [if_neg (fun g => h g.1)]
    exact neg h no

theorem FnExactEnterCar (p : List S80) (hp : wfS 24 wf80 p) (l : List S82) (hw : wfS 32 wf82 l) (id : Int) (h1 : I64 id) (st : Int) (h2 : I64 st) (pa : Int) (h3 : I64 pa) : ∃ k, laws_FnExactEnterCar.f k p l id st pa = some true := by
  refine Ev.rounds ?_
  have hm := hw.2.1
  have hm0 := hp.2.1
  unfold laws_FnExactEnterCar.f
  obtain ⟨q, hq, hq2, hpl⟩ := laws_szStreetS_eq p 1048576 (by omega) (by omega) (by omega)
  refine bindc hq ?_
  by_cases h0 : q < 0
  · exact pos h0 (now rfl)
  have hpl := hpl h0
  obtain ⟨r, hr, _, hl⟩ := laws_szCarS_eq l q (by omega) (by omega) (by omega)
  refine neg h0 (bindc hr ?_)
  by_cases h : r < 0
  · exact pos h (now rfl)
  have hl := hl h
  have hpc : (p.map cStreet).length ≤ 1048576 := by simpa using hpl
  have hc : (l.map cCar).length ≤ 1048576 := by simpa using hl
  have tp := laws_toStreetS_ev p hpl
  have tl := laws_toCarS_ev l hl
  have sp := spec_EnterCar_ev (p.map cStreet) (l.map cCar) id st pa hpc hc
  have im := impl_EnterCar_ev (p.map cStreet) (l.map cCar) id st pa hpc hc
  have hlen := enterC_length (p.map cStreet) (l.map cCar) id st pa
  generalize enterC (p.map cStreet) (l.map cCar) id st pa = R at *
  have m1 := laws_markStreetS_ev (p.map cStreet) 1 (by omega) (by omega) (by omega)
  have m2 := laws_markCarS_ev (l.map cCar) (1 + 3 * (p.map cStreet).length) (by omega) (by omega) (by omega)
  have m4 := laws_markCarS_ev R.1 1 (by omega) (by omega) (by omega)
  have e4 := laws_heldCarS_ev 1 R.1.length (by omega) (by omega) (by omega)
  have hb : (R.2 != R.2) = false := by cases R.2 <;> rfl
  refine neg h (Ev.bind tp (Ev.bind tl (Ev.bind sp (Ev.bind tp (Ev.bind tl (Ev.bind im (Ev.bind (laws_eqCarS_refl _ (by omega)) (pos rfl ?_))))))))
  rw [hb]
  refine shift ?_
  simp only [laws_FnExactEnterCar.j0]
  refine neg (by simp) (Ev.bind tp (Ev.bind (laws_eqStreetS_refl _ (by omega)) (pos rfl (Ev.bind tl (Ev.bind (laws_eqCarS_refl _ (by omega)) (pos rfl (Ev.bind m1 (Ev.bind m2 (neg (by simp; omega) (Ev.bind (laws_eqCarS_refl _ (by omega)) (pos rfl ?_)))))))))))
  rw [hb]
  refine shift ?_
  simp only [laws_FnExactEnterCar.j1]
  refine neg (by simp) (Ev.bind m4 (Ev.bind e4 (neg (by omega) (pos rfl (Ev.bind tp (Ev.bind tl (Ev.bind im (Ev.bind (laws_eqCarS_refl _ (by omega)) (pos rfl ?_)))))))))
  rw [hb]
  refine shift ?_
  simp only [laws_FnExactEnterCar.j2]
  exact neg (by simp) (Ev.bind e4 (neg (by omega) (pos rfl (now rfl))))

end Go.Proofs.Ytmpncnphndafnac.PureFnExactEnterCar
end

section
namespace Go.Proofs.Ytmpncnphndafnac.fnExactEnterCar
open Go.ChangeShapes Go.WideShapes Go.ChangeAt Go.RowKit
open Go.Proofs.YtmpncnphndafnacW.PrintWords Go.Proofs.Ytmpncnphndafnac.PEcr Go.Proofs.Ytmpncnphndafnac.Opens Go.Proofs.Ytmpncnphndafnac.Aid Go.Proofs.Ytmpncnphndafnac.PureFnExactEnterCar
set_option linter.unusedVariables false
theorem own : ownKnob Try.prog.godebug = none := by kernel_rfl
theorem laidOut : laidOutB Try.prog = true := by kernel_rfl
theorem o80 : Opens Try.prog 80 k80 wf80 := opens_struct (fun x : S80 => (x.f0, x.f1, x.f2)) (fun p => (⟨p.1, p.2.1, p.2.2⟩ : S80)) (fun _ => rfl) Try.underlying80 (by kernel_rfl) (opensF_cons rfl (opens_int Try.underlying3 (by kernel_rfl)) (opensF_cons rfl (opens_int Try.underlying3 (by kernel_rfl)) (opensF_last rfl (opens_int Try.underlying3 (by kernel_rfl)))))
theorem o82 : Opens Try.prog 82 k82 wf82 := opens_struct (fun x : S82 => (x.f0, x.f1, x.f2, x.f3)) (fun p => (⟨p.1, p.2.1, p.2.2.1, p.2.2.2⟩ : S82)) (fun _ => rfl) Try.underlying82 (by kernel_rfl) (opensF_cons rfl (opens_int Try.underlying3 (by kernel_rfl)) (opensF_cons rfl (opens_int Try.underlying3 (by kernel_rfl)) (opensF_cons rfl (opens_int Try.underlying3 (by kernel_rfl)) (opensF_last rfl (opens_int Try.underlying3 (by kernel_rfl))))))
theorem arg0 : Opens Try.prog 22 (Kd.slice 80 k80) (wfS 24 wf80) := (opens_slice Try.underlying22 (by kernel_rfl) (B := 24) (by kernel_rfl) o80)
theorem arg1 : Opens Try.prog 23 (Kd.slice 82 k82) (wfS 32 wf82) := (opens_slice Try.underlying23 (by kernel_rfl) (B := 32) (by kernel_rfl) o82)
set_option maxRecDepth 100000 in
theorem lifted (os : Os) (started : os.Started) (H : Type) (enc : TypeId × Value → H) :
    ReturnsInHanded {} Try.checked os 5 .any (Rows.fnExactEnterCarSpec.pre6 enc Try.prog Try.f5 Rows.fnExactEnterCarRow.domain false) (Rows.fnExactEnterCarSpec.post enc Try.prog Try.f5 false true false false) := by
  refine returnsInHanded_of_change_sized (C := Try.checked) own started (by kernel_rfl) Try.func5
    (ChangeSpec.witness6 (enc := enc) (C := Try.checked) false ⟨#[], #[.slice none 0 0, .slice none 0 0, .int .i64 0, .int .i64 0, .int .i64 0], []⟩ 8 (by kernel_rfl) (by kernel_rfl) (by kernel_rfl) (by kernel_rfl)) ?_
  intro W base args ds gs before hval0 hW hcnd hsz0 _
  have hsz : (DataW.weightsEach Try.prog (Try.f5.params.toList ++ Rows.fnExactEnterCarSpec.plain.varTypes Try.prog) (ds ++ gs)).all (· ≤ reachBytes) = true := hsz0
  have hval : ∀ (j : Nat) t v, Try.f5.params[j]? = some t → args[j]? = some v → Value.okWide Try.prog W .any base t v := hval0
  have hW' := hW
  obtain ⟨p, q, hA0, hV, rfl, hfz, hnd⟩ := hW
  have hA : DataW.TrodAll enc Try.prog W 0 (fun _ => true) true Try.f5.params.toList args.toList ds p := hA0
  rw [Try.params5] at hA hval hsz
  obtain ⟨v0, vs0, d0, ds0, p0, q0, hargs, rfl, rfl, h0, r0⟩ := trodAll_cons hA
  obtain ⟨v1, vs1, d1, ds1, p1, q1, rfl, rfl, rfl, h1, r1⟩ := trodAll_cons r0
  obtain ⟨v2, vs2, d2, ds2, p2, q2, rfl, rfl, rfl, h2, r2⟩ := trodAll_cons r1
  obtain ⟨v3, vs3, d3, ds3, p3, q3, rfl, rfl, rfl, h3, r3⟩ := trodAll_cons r2
  obtain ⟨v4, vs4, d4, ds4, p4, q4, rfl, rfl, rfl, h4, r4⟩ := trodAll_cons r3
  obtain ⟨rfl, rfl, rfl⟩ := trodAll_nil r4
  obtain rfl : args = #[v0, v1, v2, v3, v4] := by cases args; simp_all
  obtain ⟨rfl, rfl⟩ := trodVars_none hV
  have k0 := h0
  have lt0 : ∀ x ∈ p0, x.block < W.heap.size := by obtain ⟨m, hm⟩ := k0; exact DataW.trod_lt m _ _ _ hm
  obtain ⟨x0, hK0, hW0⟩ := opens_arg arg0 hsz (j := 0) rfl rfl h0
  obtain ⟨A0, c0, rfl, hc0, hC0⟩ := opens_row Try.underlying22 (hval 0 22 v0 rfl rfl) hK0
  have k1 := h1
  have lt1 : ∀ x ∈ p1, x.block < W.heap.size := by obtain ⟨m, hm⟩ := k1; exact DataW.trod_lt m _ _ _ hm
  obtain ⟨x1, hK1, hW1⟩ := opens_arg arg1 hsz (j := 1) rfl rfl h1
  obtain ⟨A1, c1, rfl, hc1, hC1⟩ := opens_row Try.underlying23 (hval 1 23 v1 rfl rfl) hK1
  obtain ⟨a2, rfl, rfl, rfl, w2⟩ := open_int Try.underlying3 (hval 2 3 v2 rfl rfl) h2
  obtain ⟨a3, rfl, rfl, rfl, w3⟩ := open_int Try.underlying3 (hval 3 3 v3 rfl rfl) h3
  obtain ⟨a4, rfl, rfl, rfl, w4⟩ := open_int Try.underlying3 (hval 4 3 v4 rfl rfl) h4
  clear hA0 hval0 hsz0 hsz
  obtain ⟨k, hk⟩ := Go.Proofs.Ytmpncnphndafnac.PureFnExactEnterCar.FnExactEnterCar x0 hW0 x1 hW1 a2 (i64_of w2) a3 (i64_of w3) a4 (i64_of w4)
  refine (laws_FnExactEnterCar.calls k _ _ x0 _ _ x1 a2 a3 a4 true W hC0 hc0 hC1 hc1 hk).mono fun e W' ⟨he, bel0⟩ => ?_
  have bel : Below W.heap.size W W' := by first | exact bel0 | exact bel0.below
  subst he
  exact ⟨_, rfl, _, _, _, [], _, [], hW', trodAll_mk1 (shut_bool Try.underlying4 _), (trodAll_cons_mk (Below.trod laidOut (by kernel_rfl) (of_decide_eq_true (by kernel_rfl)) k0 bel lt0) (trodAll_cons_mk (Below.trod laidOut (by kernel_rfl) (of_decide_eq_true (by kernel_rfl)) k1 bel lt1) (trodAll_cons_mk (shut_int Try.underlying3 w2) (trodAll_cons_mk (shut_int Try.underlying3 w3) (trodAll_cons_mk (shut_int Try.underlying3 w4) trodAll_mk0))))), rfl, bel.frame _, fun h => by cases h⟩
theorem over : Rows.fnExactEnterCarRow.holds Try.pinned (OpenSpec.ofChange Rows.fnExactEnterCarSpec) :=
  OpenClaim.holds_of_wide 5 Try.f5 rfl rfl rfl rfl rfl rfl rfl ⟨rfl, rfl, rfl, rfl, rfl⟩ rfl rfl rfl rfl rfl (by kernel_rfl) Try.func5 (by kernel_rfl)
    (of_decide_eq_true (by kernel_rfl)) (by unfold Func.isWrapper; first | (rw [if_pos (by decide +kernel)]; kernel_rfl) | (rw [if_neg (by decide +kernel)]; exact ⟨rfl, rfl⟩))
    (fun os started H enc _ => lifted os started H enc)
theorem proved : Rows.FnExactEnterCarSaid := over
#print axioms proved
end Go.Proofs.Ytmpncnphndafnac.fnExactEnterCar
namespace Go.Proofs.Ytmpncnphndafnac
/-- The row, under a short name, for the claim. -/
theorem fnExactEnterCar_holds : Rows.FnExactEnterCarSaid := fnExactEnterCar.proved
end Go.Proofs.Ytmpncnphndafnac
end
