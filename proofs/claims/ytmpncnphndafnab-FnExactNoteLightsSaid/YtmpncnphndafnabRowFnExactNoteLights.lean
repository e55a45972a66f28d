/- The statement FnExactNoteLights, whole: for every input the law returns true and leaves its arguments as they were; no condition. Out of the contract of the law's walk and the pure theorem. -/
import Derived.Test.YtmpncnphndafnabBFnExactNoteLights0
import Derived.Test.YtmpncnphndafnabBFnExactNoteLights1
import Derived.Test.YtmpncnphndafnabBFnExactNoteLights2
import Derived.Test.YtmpncnphndafnabBFnExactNoteLights3
import Derived.Test.YtmpncnphndafnabBFnExactNoteLights4
import Derived.Test.YtmpncnphndafnabBFnExactNoteLights5
import Derived.Test.YtmpncnphndafnabBFnExactNoteLights6
import Derived.Test.YtmpncnphndafnabWWords
import Derived.Test.YtmpncnphndafnabWMore
import Derived.SizedLaws
import Derived.ChangeSlices
import Derived.ChangeArms
import Derived.WideShapes
import Derived.Below
import Derived.Test.YtmpncnphndafnabRows
import Derived.WalkKit
import Derived.ProofKit
import Derived.OpenShut
import Derived.ShutString
import Derived.ChangeOld
section
namespace Go.Proofs.Ytmpncnphndafnab.Aid
open Go.RowKit Go.Proofs.YtmpncnphndafnabW.PrintWords Go.Proofs.YtmpncnphndafnabW.PrintMore
set_option linter.unusedVariables false

theorem w64 {x : Int} (h0 : -9223372036854775808 ≤ x) (h1 : x ≤ 9223372036854775807) : wrap64 x = x := by
  unfold wrap64
  omega
theorem w64_range (x : Int) : -9223372036854775808 ≤ wrap64 x ∧ wrap64 x ≤ 9223372036854775807 := by
  unfold wrap64
  omega
/-- A number of Go's int. -/
def I64 (x : Int) : Prop := -9223372036854775808 ≤ x ∧ x ≤ 9223372036854775807
theorem i64_of {x : Int} (h : (Lit.int .i64 x).wf = true) : I64 x := by
  simp [Lit.wf, IntKind.min, IntKind.max, IntKind.bits, IntKind.signed] at h
  unfold I64
  omega

/-- A byte. -/
def U8 (x : Int) : Prop := 0 ≤ x ∧ x ≤ 255
theorem u8_of {x : Int} (h : (Lit.int .u8 x).wf = true) : U8 x := by
  simp [Lit.wf, IntKind.min, IntKind.max, IntKind.bits, IntKind.signed] at h
  unfold U8
  omega

/-- A slice within the reach (B: an element's bytes), all of whose elements are as WF says. -/
def wfS {α : Type} (B : Nat) (WF : α → Prop) (xs : List α) : Prop := xs.length ≤ maxLen ∧ xs.length * B ≤ 140737488351232 ∧ ∀ x ∈ xs, WF x

theorem shift {α : Type} {g : Nat → Option α} {r : α} (h : Ev (fun k => g (k + 1)) r) : Ev g r := Ev.step (fun _ => rfl) h
theorem pos {α : Type} {c : Prop} [Decidable c] {a b : Nat → Option α} {r : α} (hc : c) (h : Ev a r) : Ev (fun k => if c then a k else b k) r := by
  simpa only [if_pos hc] using h
theorem neg {α : Type} {c : Prop} [Decidable c] {a b : Nat → Option α} {r : α} (hc : ¬ c) (h : Ev b r) : Ev (fun k => if c then a k else b k) r := by
  simpa only [if_neg hc] using h
theorem now {α : Type} {r s : α} (h : r = s) : Ev (fun _ => some r) s := h ▸ Ev.now r
theorem known {α : Type} {x : Option α} {r : α} (h : x = some r) : Ev (fun _ => x) r := h ▸ Ev.now r
theorem bindc {α β : Type} {x : Option α} {f : Nat → α → Option β} {a : α} {r : β} (h : x = some a) (k : Ev (fun n => f n a) r) : Ev (fun n => x.bind (f n)) r := by
  subst h
  exact k
theorem same {α : Type} {g : Nat → Option α} {r s : α} (h : Ev g r) (e : r = s) : Ev g s := e ▸ h
theorem of_const {α : Type} {x : Option α} {r : α} (h : Ev (fun _ => x) r) : x = some r := by
  obtain ⟨k, hk⟩ := Ev.rounds h
  exact hk

/-- A loop whose round j leads from state j to state j + 1, and whose N-th state is its end. -/
theorem loop {α : Type} {g : Nat → Nat → Option α} {r : α} (N : Nat) (hs : ∀ j, j < N → Ev (fun k => g k (j + 1)) r → Ev (fun k => g k j) r) (he : Ev (fun k => g k N) r) : Ev (fun k => g k 0) r := by
  have : ∀ d j, j + d = N → Ev (fun k => g k j) r := by
    intro d
    induction d with
    | zero =>
      intro j hj
      have : j = N := by omega
      subst this
      exact he
    | succ d ih => exact fun j hj => hs j (by omega) (ih (j + 1) (by omega))
  exact this N 0 (by omega)
/-- The same from state i on. -/
theorem loop_from {α : Type} {g : Nat → Nat → Option α} {r : α} (i N : Nat) (hi : i ≤ N) (hs : ∀ j, i ≤ j → j < N → Ev (fun k => g k (j + 1)) r → Ev (fun k => g k j) r) (he : Ev (fun k => g k N) r) : Ev (fun k => g k i) r := by
  have : ∀ d j, i ≤ j → j + d = N → Ev (fun k => g k j) r := by
    intro d
    induction d with
    | zero =>
      intro j _ hj
      have : j = N := by omega
      subst this
      exact he
    | succ d ih => exact fun j h0 hj => hs j h0 (by omega) (ih (j + 1) (by omega) (by omega))
  exact this (N - i) i (Nat.le_refl _) (by omega)

theorem rd_nat (xs : List Int) (j : Nat) : rd xs (j : Int) = xs.getD j 0 := by simp [rd]
theorem rd_get (xs : List Int) (j : Nat) (h : j < xs.length) : rd xs (j : Int) = xs[j] := by simp [rd, h]
theorem nat_lt {a b : Nat} (h : a < b) : (a : Int) < (b : Int) := by omega
theorem nat_ge {a b : Nat} (h : b ≤ a) : ¬ (a : Int) < (b : Int) := by omega
theorem succ_wrap {j : Nat} (h : j < 9223372036854775807) : wrap64 ((j : Int) + 1) = ((j + 1 : Nat) : Int) := by
  rw [w64 (by omega) (by omega)]
  omega

/-- A loop that fills a row, one place a round. -/
theorem copied {α β : Type} {g : Nat → List β → Int → Option (List β)} (l : List α) (f : α → β) (z : β) (hs : ∀ (j : Nat) (hj : j < l.length) (y : List β) (r : List β), y.length = l.length → Ev (fun k => g k (y.set j (f l[j])) ((j + 1 : Nat) : Int)) r → Ev (fun k => g k y (j : Int)) r)
    (he : ∀ y, Ev (fun k => g k y (l.length : Int)) y) : Ev (fun k => g k (List.replicate l.length z) 0) (l.map f) := by
  refine loop (g := fun k j => g k ((l.map f).take j ++ List.replicate (l.length - j) z) (j : Int)) (r := l.map f) l.length ?_ ?_ |> (fun h => by simpa using h)
  · intro j hj h
    refine hs j hj _ _ (by simp; omega) ?_
    refine Eq.mp ?_ h
    congr 1
    funext k
    congr 1
    rw [List.set_append_right _ _ (by simp; omega)]
    have h1 : (l.map f).take (j + 1) = (l.map f).take j ++ [f l[j]] := by
      rw [List.take_succ_eq_append_getElem (by simpa using hj)]
      simp
    have h2 : l.length - j = (l.length - (j + 1)) + 1 := by omega
    have h3 : j - ((l.map f).take j).length = 0 := by simp; omega
    rw [h1, h3, h2, List.replicate_succ, List.set_cons_zero]
    simp
  · have h := he (l.map f)
    have e : (l.map f).take l.length = l.map f := List.take_of_length_le (by simp)
    simpa [e] using h

/-- A loop that looks at each place and answers no at the first that is not as it ought to be. -/
theorem all_loop {g : Nat → Nat → Option Bool} (N : Nat) (ok : Nat → Bool) (b : Bool) (hs : ∀ j r, j < N → ok j = true → Ev (fun k => g k (j + 1)) r → Ev (fun k => g k j) r)
    (hf : ∀ j, j < N → ok j = false → Ev (fun k => g k j) false) (he : Ev (fun k => g k N) b) : Ev (fun k => g k 0) ((List.range N).all ok && b) := by
  have : ∀ d j, j + d = N → Ev (fun k => g k j) ((List.range' j d).all ok && b) := by
    intro d
    induction d with
    | zero =>
      intro j hj
      have : j = N := by omega
      subst this
      simpa using he
    | succ d ih =>
      intro j hj
      rw [List.range'_succ, List.all_cons]
      cases h : ok j with
      | true => simpa using hs j _ (by omega) h (ih (j + 1) (by omega))
      | false => simpa using hf j (by omega) h
  have h := this N 0 (by omega)
  rwa [← List.range_eq_range'] at h
/-- The same where all places are as they ought to be, .. -/
theorem ok_loop {α : Type} {g : Nat → Nat → Option α} (N : Nat) (ok : Nat → Bool) {r : α} (h : (List.range N).all ok = true) (hs : ∀ j r, j < N → ok j = true → Ev (fun k => g k (j + 1)) r → Ev (fun k => g k j) r)
    (he : Ev (fun k => g k N) r) : Ev (fun k => g k 0) r :=
  loop N (fun j hj hn => hs j r hj (List.all_eq_true.1 h j (List.mem_range.2 hj)) hn) he
/-- .. and where one isn't: the first that isn't decides. -/
theorem bad_loop {α : Type} {g : Nat → Nat → Option α} (N : Nat) (ok : Nat → Bool) (r : α) (h : ¬ (List.range N).all ok = true) (hs : ∀ j r, j < N → ok j = true → Ev (fun k => g k (j + 1)) r → Ev (fun k => g k j) r)
    (hf : ∀ j, j < N → ok j = false → Ev (fun k => g k j) r) : Ev (fun k => g k 0) r := by
  have : ∀ d j, j + d = N → ¬ (List.range' j d).all ok = true → Ev (fun k => g k j) r := by
    intro d
    induction d with
    | zero => exact fun j _ hn => absurd rfl hn
    | succ d ih =>
      intro j hj hn
      rw [List.range'_succ, List.all_cons] at hn
      cases ho : ok j with
      | true => exact hs j _ (by omega) ho (ih (j + 1) (by omega) (by simpa [ho] using hn))
      | false => exact hf j (by omega) ho
  exact this N 0 (by omega) (by rwa [← List.range_eq_range'])
/-- n numbers from a on. -/
def iota (a : Int) (n : Nat) : List Int := (List.range n).map fun (i : Nat) => a + (i : Int)
theorem iota_length (a : Int) (n : Nat) : (iota a n).length = n := by simp [iota]
theorem iota_get (a : Int) (n j : Nat) (h : j < n) : rd (iota a n) (j : Int) = a + j := by simp [rd, iota, h]
theorem iota_set (a : Int) (l : List Int) (j : Nat) (h : j < l.length) : (iota a j ++ l.drop j).set j (a + j) = iota a (j + 1) ++ l.drop (j + 1) := by
  rw [List.set_append_right _ _ (by rw [iota_length]; exact Nat.le_refl _), iota_length, Nat.sub_self, List.drop_eq_getElem_cons h, List.set_cons_zero]
  have : iota a (j + 1) = iota a j ++ [a + j] := by simp [iota, List.range_succ]
  rw [this]
  simp
end Go.Proofs.Ytmpncnphndafnab.Aid
end

section
namespace Go.Proofs.Ytmpncnphndafnab.Opens
open Go.ChangeShapes Go.WideShapes Go.RowKit Go.Proofs.YtmpncnphndafnabW.PrintWords Go.Proofs.Ytmpncnphndafnab.Aid
set_option linter.unusedVariables false

/-- Whatever can be read as data of type t is of kind kd, and meets WF. -/
def Opens {α : Type} (P : Program) (t : TypeId) (kd : Kd α) (WF : α → Prop) : Prop :=
  P.cellsOf t = kd.sz ∧ ∀ (H : Type) (enc : TypeId × Value → H) (w : World) (base : Nat) (spare : Nat → Bool) (held : Bool) (fuel : Nat) (cs : List Value) (d : DataW H) (ps : List MemPlace),
    DataW.trod enc P w base spare held fuel t cs = some (d, ps) → (∀ n ∈ d.weights P t, n ≤ reachBytes) → ∃ x, kd.K w x cs ∧ WF x

theorem opens_int {P : Program} {t : TypeId} (ht : P.underlying t = some (.int .i64)) (hc : P.cellsOf t = 1) : Opens P t (Kd.int .i64) I64 := by
  refine ⟨hc, fun H enc w base spare held fuel cs d ps h _ => ?_⟩
  obtain ⟨n, rfl, _, hw⟩ := DataW.trod_int ht h
  exact ⟨n, rfl, i64_of hw⟩

/-- The same of bytes. -/
theorem opens_u8 {P : Program} {t : TypeId} (ht : P.underlying t = some (.int .u8)) (hc : P.cellsOf t = 1) : Opens P t (Kd.int .u8) U8 := by
  refine ⟨hc, fun H enc w base spare held fuel cs d ps h _ => ?_⟩
  obtain ⟨n, rfl, _, hw⟩ := DataW.trod_int ht h
  exact ⟨n, rfl, u8_of hw⟩

theorem opens_bool {P : Program} {t : TypeId} (ht : P.underlying t = some .bool) (hc : P.cellsOf t = 1) : Opens P t Kd.bool (fun _ => True) := by
  refine ⟨hc, fun H enc w base spare held fuel cs d ps h _ => ?_⟩
  obtain ⟨b, rfl, _⟩ := DataW.trod_bool ht h
  exact ⟨b, rfl, trivial⟩

theorem weights_elem {H : Type} {P : Program} {e : TypeId} {n : Nat} : ∀ {ds : List (DataW H)} {d : DataW H}, d ∈ ds → n ∈ d.weights P e → n ∈ DataW.weightsAll P e ds
  | [], _, h, _ => by simp at h
  | d0 :: r, d, h, hn => by
    rw [DataW.weightsAll]
    rcases List.mem_cons.1 h with rfl | h
    · exact List.mem_append_left _ hn
    · exact List.mem_append_right _ (weights_elem h hn)

theorem choose_list {α : Type} {n : Nat} {Q : Nat → α → Prop} (h : ∀ i, i < n → ∃ x, Q i x) : ∃ xs : List α, xs.length = n ∧ ∀ i x, xs[i]? = some x → Q i x := by
  induction n with
  | zero => exact ⟨[], rfl, fun i x hx => by simp at hx⟩
  | succ n ih =>
    obtain ⟨xs, hl, hx⟩ := ih (fun i hi => h i (by omega))
    obtain ⟨y, hy⟩ := h n (by omega)
    refine ⟨xs ++ [y], by simp [hl], fun i x hi => ?_⟩
    by_cases hlt : i < n
    · rw [List.getElem?_append_left (by omega)] at hi
      exact hx i x hi
    · have hl2 := (List.getElem?_eq_some_iff.1 hi).1
      simp at hl2
      have : i = n := by omega
      subst this
      rw [List.getElem?_append_right (by omega)] at hi
      simp [hl] at hi
      exact hi ▸ hy

theorem opens_slice {α : Type} {P : Program} {t e : TypeId} {kd : Kd α} {WF : α → Prop} (ht : P.underlying t = some (.slice e)) (hc : P.cellsOf t = 1) {B : Nat} (hB : P.bytesOf e = B) (he : Opens P e kd WF) :
    Opens P t (Kd.slice e kd) (wfS B WF) := by
  subst hB
  refine ⟨hc, fun H enc w base spare held fuel cs d ps h hw => ?_⟩
  rcases DataW.trod_slice ht h with ⟨rfl, _⟩ | ⟨a, len, cap, elems, rest, n, _, rfl, hx, hb, hl, hm, hlen, hel, _, _⟩
  · exact ⟨[], ⟨none, 0, rfl, Nat.le_refl _, ⟨rfl, by simp, fun h => absurd h (by simp)⟩⟩, by simp [maxLen], by simp, by simp⟩
  · simp only [Prod.mk.injEq] at hx
    obtain ⟨rfl, _⟩ := hx
    have each : ∀ i, i < len → ∃ x, (∃ c, c.length = kd.sz ∧ kd.K w x c ∧ ∀ j u, c[j]? = some u → w.cell? (a.add (i * kd.sz + j)) = some u) ∧ WF x := by
      intro i hi
      have h1 := hel i hi
      have h2 : i < elems.length := by omega
      rw [List.getElem?_eq_getElem h2] at h1
      obtain ⟨c, hc1, hc2⟩ := Option.bind_eq_some_iff.1 h1
      obtain ⟨_, hcl, hcc⟩ := World.cells?_some hc1
      obtain ⟨x, hx1, hx2⟩ := he.2 H enc w base spare held n c elems[i].1 elems[i].2 hc2 (fun m hm' => hw m (by
        rw [DataW.weights, ht]
        simp only [List.mem_cons, List.mem_append]
        exact .inr (.inl (weights_elem (List.mem_map.2 ⟨elems[i], List.getElem_mem h2, rfl⟩) hm'))))
      refine ⟨x, ⟨c, by rw [hcl, he.1], hx1, fun j u hj => ?_⟩, hx2⟩
      have hj2 := (List.getElem?_eq_some_iff.1 hj).1
      have := hcc j (by omega)
      rw [hj, he.1] at this
      rw [← this, Addr.add_add]
    obtain ⟨xs, hxl, hxs⟩ := choose_list each
    subst hxl
    refine ⟨xs, ⟨some a, cap, rfl, hl, ⟨rfl, by simp [maxLen] at hm; omega, fun _ => ⟨a, rfl, fun j p hj => ?_⟩⟩⟩, by omega, ?_, fun x hx => ?_⟩
    · exact (hxs j p hj).1
    · have := hw ((elems.length + rest.length) * P.bytesOf e) (by rw [DataW.weights, ht]; simp)
      exact Nat.le_trans (Nat.mul_le_mul_right _ (by omega)) this
    · obtain ⟨i, hi⟩ := List.getElem?_of_mem hx
      exact (hxs i x hi).2

/-- The same of a struct's fields from one on, which begins at cell off. -/
def OpensF {α : Type} (P : Program) (fs : List Field) (off : Nat) (kd : Kd α) (WF : α → Prop) : Prop :=
  ∀ (H : Type) (enc : TypeId × Value → H) (w : World) (base : Nat) (spare : Nat → Bool) (held : Bool) (fuel : Nat) (cs : List Value) (ys : List (DataW H × List MemPlace)),
    cs.length = off + kd.sz → ys.length = fs.length → (∀ (i : Nat) (f : Field), fs[i]? = some f → DataW.trod enc P w base spare held fuel f.type ((cs.drop f.offset).take (P.cellsOf f.type)) = ys[i]?) →
    (∀ n ∈ DataW.weightsEach P (fs.map (·.type)) (ys.map (·.1)), n ≤ reachBytes) → ∃ x, kd.K w x (cs.drop off) ∧ WF x

theorem opensF_last {α : Type} {P : Program} {f : Field} {off : Nat} {kd : Kd α} {WF : α → Prop} (ho : f.offset = off) (h : Opens P f.type kd WF) : OpensF P [f] off kd WF := by
  intro H enc w base spare held fuel cs ys hcs hys hf hw
  match ys, hys with
  | [y], _ =>
    have h1 := hf 0 f rfl
    rw [ho, h.1, List.take_of_length_le (by simp; omega)] at h1
    exact h.2 H enc w base spare held fuel _ y.1 y.2 h1 (fun n hn => hw n (by simp [DataW.weightsEach, hn]))

theorem opensF_cons {α β : Type} {P : Program} {f : Field} {fs : List Field} {off : Nat} {kd : Kd α} {kr : Kd β} {WF : α → Prop} {WR : β → Prop} (ho : f.offset = off) (h : Opens P f.type kd WF)
    (hr : OpensF P fs (off + kd.sz) kr WR) : OpensF P (f :: fs) off (Kd.pair kd kr) (fun x => WF x.1 ∧ WR x.2) := by
  intro H enc w base spare held fuel cs ys hcs hys hf hw
  match ys, hys with
  | y :: ys, hys =>
    have h1 := hf 0 f rfl
    rw [ho, h.1] at h1
    obtain ⟨x, hx1, hx2⟩ := h.2 H enc w base spare held fuel _ y.1 y.2 h1 (fun n hn => hw n (by simp [DataW.weightsEach, hn]))
    have hs : (Kd.pair kd kr).sz = kd.sz + kr.sz := rfl
    obtain ⟨z, hz1, hz2⟩ := hr H enc w base spare held fuel cs ys (by omega) (by simpa using hys) (fun i g hg => hf (i + 1) g hg) (fun n hn => hw n (by simp [DataW.weightsEach]; exact .inr (by simpa using hn)))
    refine ⟨(x, z), ⟨_, _, ?_, hx1, hz1⟩, hx2, hz2⟩
    rw [← List.drop_drop, List.take_append_drop]

theorem opens_struct {α β : Type} {P : Program} {t : TypeId} {fs : Array Field} {kd : Kd α} {WF : α → Prop} (f : β → α) (g : α → β) (hg : ∀ x, f (g x) = x) (ht : P.underlying t = some (.struct fs)) (hc : P.cellsOf t = kd.sz)
    (h : OpensF P fs.toList 0 kd WF) : Opens P t (Kd.iso kd f) (fun x => WF (f x)) := by
  refine ⟨hc, fun H enc w base spare held fuel cs d ps hd hw => ?_⟩
  obtain ⟨xs, n, _, hx, hl, hxl, hf⟩ := DataW.trod_struct ht hd
  simp only [Prod.mk.injEq] at hx
  obtain ⟨rfl, _⟩ := hx
  obtain ⟨y, hy1, hy2⟩ := h H enc w base spare held n cs xs (by omega) (by simpa using hxl) (fun i f' hf' => hf i f' (by simpa using hf')) (fun m hm => hw m (by rw [DataW.weights, ht]; simpa using hm))
  refine ⟨g y, ?_, ?_⟩
  · show kd.K w (f (g y)) cs
    rw [hg]
    simpa using hy1
  · show WF (f (g y))
    rw [hg]
    exact hy2

/-- An argument, opened. -/
theorem opens_arg {α : Type} {H : Type} {enc : TypeId × Value → H} {P : Program} {w : World} {base : Nat} {spare : Nat → Bool} {held : Bool} {t : TypeId} {v : Value} {kd : Kd α} {WF : α → Prop} {d : DataW H} {ps : List MemPlace} (h : Opens P t kd WF)
    {ts : List TypeId} {ds : List (DataW H)} {j : Nat} (hsz : (DataW.weightsEach P ts ds).all (· ≤ reachBytes) = true) (ht : ts[j]? = some t) (hd : ds[j]? = some d) (hv : DataW.Trod enc P w base spare held t v d ps) :
    ∃ x, kd.K w x v.cells.toList ∧ WF x := by
  obtain ⟨fuel, hf⟩ := hv
  refine h.2 H enc w base spare held fuel _ d ps hf (fun n hn => ?_)
  have := List.all_eq_true.1 hsz n (DataW.weights_mem_each ht hd n hn)
  simpa using this

/-- A slice argument: its address, its capacity, its row. -/
theorem opens_row {α : Type} {P : Program} {w : World} {t e : TypeId} {r : Reach} {b0 : Nat} {v : Value} {kd : Kd α} {x : List α} (ht : P.underlying t = some (.slice e)) (hval : Value.okWide P w r b0 t v) (h : (Kd.slice e kd).K w x v.cells.toList) :
    ∃ A c, v = .slice A x.length c ∧ x.length ≤ c ∧ Kd.C kd w A x.length x := by
  obtain ⟨a, len, cap, rfl⟩ := okWide_slice ht hval
  obtain ⟨A, c, hv, hl, hC⟩ := h
  simp [Value.cells] at hv
  obtain ⟨rfl, rfl, rfl⟩ := hv
  exact ⟨_, _, rfl, hl, hC⟩

/-- A struct argument by value: its cells. -/
theorem opens_agg {P : Program} {w : World} {t : TypeId} {fs : Array Field} {r : Reach} {b0 : Nat} {v : Value} {cs : List Value} (ht : P.underlying t = some (.struct fs)) (hval : Value.okWide P w r b0 t v) (h : v.cells.toList = cs) :
    v = .agg cs.toArray := by
  obtain ⟨c, rfl, _⟩ := okWide_struct ht hval
  simp [Value.cells] at h
  simp [← h]

end Go.Proofs.Ytmpncnphndafnab.Opens
end

section
namespace Go.Proofs.Ytmpncnphndafnab.PureFnExactNoteLights
open Go.RowKit Go.Proofs.YtmpncnphndafnabW.PrintWords Go.Proofs.YtmpncnphndafnabW.PrintLast Go.Proofs.YtmpncnphndafnabW.PrintMore Go.Proofs.Ytmpncnphndafnab.PEnt Go.Proofs.Ytmpncnphndafnab.Aid
set_option linter.unusedVariables false
set_option linter.unusedSimpArgs false

/-- Every number of it is one of Go's int, every slice within the reach. -/
def wf69 (x : S69) : Prop := I64 x.f0 ∧ (wfS 8 I64) x.f1 ∧ I64 x.f2

theorem laws_szIntS_eq (l : List Int) (a : Int) (ha : 0 ≤ a) (ha2 : a ≤ 1048576) (hl : l.length ≤ 140737488355328) : ∃ r, laws_szIntS.f l a = some r ∧ r ≤ a ∧ (¬ r < 0 → l.length ≤ 1048576) := by
  unfold laws_szIntS.f
  rw [w64 (by omega) (by omega)]
  by_cases h : a - (l.length : Int) < 0
  · exact ⟨-1, by rw [if_pos h], by omega, by omega⟩
  · exact ⟨_, by rw [if_neg h], by omega, by omega⟩

theorem laws_szEntry_eq (x : S69) (a : Int) (ha : 0 ≤ a) (ha2 : a ≤ 1048576) (hl : x.f1.length ≤ 140737488355328) : ∃ r, laws_szEntry.f x.f0 x.f1 x.f2 a = some r ∧ r ≤ a ∧ (¬ r < 0 → x.f1.length ≤ 1048576) := by
  unfold laws_szEntry.f
  obtain ⟨r, h1, h2, h3⟩ := laws_szIntS_eq x.f1 a ha ha2 hl
  rw [h1, Option.bind_some]
  by_cases h : r < 0
  · exact ⟨-1, by rw [if_pos h], by omega, by omega⟩
  · exact ⟨r, by rw [if_neg h], h2, h3⟩

theorem laws_szEntryS_ev (l : List S69) (a : Int) (ha : 0 ≤ a) (ha2 : a ≤ 1048576) (hl : l.length ≤ 140737488355328) (he : ∀ x ∈ l, x.f1.length ≤ 140737488355328) :
    ∃ r, Ev (fun k => laws_szEntryS.f k l a) r ∧ r ≤ a ∧ (¬ r < 0 → l.length ≤ 1048576 ∧ ∀ x ∈ l, x.f1.length ≤ 1048576) := by
  unfold laws_szEntryS.f
  rw [w64 (by omega) (by omega)]
  by_cases h : a - (l.length : Int) < 0
  · exact ⟨-1, pos h (now rfl), by omega, by omega⟩
  · have main : ∀ (d j : Nat) (b : Int), j + d = l.length → 0 ≤ b → b ≤ 1048576 → ∃ r, Ev (fun k => laws_szEntryS.l0 k l b (j : Int)) r ∧ r ≤ b ∧ (¬ r < 0 → ∀ i (hi : i < l.length), j ≤ i → l[i].f1.length ≤ 1048576) := by
      intro d
      induction d with
      | zero =>
        intro j b hj hb hb2
        refine ⟨b, shift ?_, by omega, fun _ i hi hji => by omega⟩
        simp only [laws_szEntryS.l0]
        exact neg (by omega) (now rfl)
      | succ d ih =>
        intro j b hj hb hb2
        have hjl : j < l.length := by omega
        have hg : rd_T69 l (j : Int) = l[j] := by simp [rd_T69, hjl]
        obtain ⟨r, hr, hra, hrl⟩ := laws_szEntry_eq l[j] b hb hb2 (he _ (List.getElem_mem hjl))
        by_cases hneg : r < 0
        · refine ⟨-1, shift ?_, by omega, by omega⟩
          simp only [laws_szEntryS.l0]
          refine pos (nat_lt hjl) (pos (by omega) ?_)
          rw [hg]
          exact bindc hr (pos hneg (now rfl))
        · obtain ⟨r2, h1, h2, h3⟩ := ih (j + 1) r (by omega) (by omega) (by omega)
          refine ⟨r2, shift ?_, by omega, fun hn i hi hji => ?_⟩
          · simp only [laws_szEntryS.l0]
            refine pos (nat_lt hjl) (pos (by omega) ?_)
            rw [hg, succ_wrap (by omega)]
            exact bindc hr (neg hneg h1)
          · by_cases e : i = j
            · subst e
              exact hrl hneg
            · exact h3 hn i hi (by omega)
    obtain ⟨r, h1, h2, h3⟩ := main l.length 0 (a - (l.length : Int)) (by omega) (by omega) (by omega)
    refine ⟨r, neg h (by simpa using h1), by omega, fun hn => ⟨by omega, fun x hx => ?_⟩⟩
    obtain ⟨i, hi, rfl⟩ := List.getElem_of_mem hx
    exact h3 hn i hi (by omega)

theorem spec_l1In_eq (a b c : Int) : spec_l1In.f a b c = some (decide (b ≤ a ∧ a ≤ c)) := by
  unfold spec_l1In.f
  by_cases h : b ≤ a
  · rw [if_pos h]
    simp [h]
  · rw [if_neg h]
    simp [h]

theorem tmod_emod {a m : Int} (hm : 0 < m) : Int.tmod a m = if Int.tmod a m < 0 then a % m - m else a % m := by
  have h1 := Int.emod_nonneg a (by omega : m ≠ 0)
  have h2 := Int.emod_lt_of_pos a hm
  have h3 := Int.tmod_eq_emod (a := a) (b := m)
  by_cases hc : 0 ≤ a ∨ m ∣ a
  · rw [if_pos hc] at h3
    rw [if_neg (by omega)]
    omega
  · rw [if_neg hc] at h3
    rw [if_pos (by omega)]
    omega
theorem tmod_range {a m : Int} (hm : 0 < m) : -m ≤ Int.tmod a m ∧ Int.tmod a m < m := by
  have h := tmod_emod (a := a) hm
  have h1 := Int.emod_nonneg a (by omega : m ≠ 0)
  have h2 := Int.emod_lt_of_pos a hm
  by_cases hc : Int.tmod a m < 0
  · rw [if_pos hc] at h
    omega
  · rw [if_neg hc] at h
    omega
theorem spec_Mod_eq (a m : Int) (h1 : 1 ≤ m) (h2 : m ≤ 1000000000000) : spec_Mod.f a m = some (a % m) := by
  unfold spec_Mod.f
  rw [spec_l1In_eq, Option.bind_some, if_pos (by simp [h1, h2]), if_neg (by omega)]
  have hr := tmod_range (a := a) (m := m) (by omega)
  have he := tmod_emod (a := a) (m := m) (by omega)
  have h3 := Int.emod_nonneg a (by omega : m ≠ 0)
  have h4 := Int.emod_lt_of_pos a (by omega : 0 < m)
  rw [w64 (by omega) (by omega), Int.tmod_eq_emod_of_nonneg (by omega)]
  congr 1
  by_cases hn : Int.tmod a m < 0
  · rw [if_pos hn] at he
    rw [he, show a % m - m + m = a % m by omega, Int.emod_emod_of_dvd _ (Int.dvd_refl m)]
  · rw [if_neg hn] at he
    rw [he, Int.add_emod_right, Int.emod_emod_of_dvd _ (Int.dvd_refl m)]

/-- One more value taken into a hash. -/
def hstep (acc v : Int) : Int := (acc * 1000003 + v % 2147483647 + 13) % 2147483647
theorem hstep_range (a v : Int) : 0 ≤ hstep a v ∧ hstep a v < 2147483647 := ⟨Int.emod_nonneg _ (by omega), Int.emod_lt_of_pos _ (by omega)⟩
theorem hfold_range (l : List Int) : ∀ a : Int, 0 ≤ a → a < 2147483647 → 0 ≤ l.foldl hstep a ∧ l.foldl hstep a < 2147483647 := by
  induction l with
  | nil => exact fun a h0 h1 => ⟨h0, h1⟩
  | cons v r ih => exact fun a _ _ => ih _ (hstep_range a v).1 (hstep_range a v).2
theorem hfold_take (l : List Int) (j : Nat) (h : j < l.length) (a : Int) : (l.take (j + 1)).foldl hstep a = hstep ((l.take j).foldl hstep a) l[j] := by
  rw [List.take_succ_eq_append_getElem h, List.foldl_append]
  rfl
theorem hstep_go (a v : Int) (h0 : 0 ≤ a) (h1 : a < 2147483647) : Int.tmod (wrap64 ((wrap64 ((wrap64 (a * 1000003)) + v % 2147483647)) + 13)) 2147483647 = hstep a v := by
  have h2 := Int.emod_nonneg v (by omega : (2147483647 : Int) ≠ 0)
  have h3 := Int.emod_lt_of_pos v (by omega : (0 : Int) < 2147483647)
  rw [w64 (x := a * 1000003) (by omega) (by omega), w64 (x := a * 1000003 + _) (by omega) (by omega), w64 (by omega) (by omega), Int.tmod_eq_emod_of_nonneg (by omega)]
  rfl
theorem spec_Hash_ev (l : List Int) (hl : l.length < 9223372036854775807) : Ev (fun k => spec_Hash.f k l) (l.foldl hstep 11) := by
  unfold spec_Hash.f
  refine loop (g := fun k j => spec_Hash.l0 k l ((l.take j).foldl hstep 11) (j : Int)) l.length ?_ ?_
  · intro j hj h
    refine shift ?_
    simp only [spec_Hash.l0]
    refine pos (nat_lt hj) (pos (by omega) (bindc (spec_Mod_eq _ _ (by omega) (by omega)) ?_))
    obtain ⟨b0, b1⟩ := hfold_range (l.take j) 11 (by omega) (by omega)
    rw [hstep_go _ _ b0 b1, rd_get _ _ hj, ← hfold_take l j hj, succ_wrap (by omega)]
    exact h
  · refine shift ?_
    simp only [spec_Hash.l0]
    exact neg (nat_ge (Nat.le_refl _)) (now (by rw [List.take_length]))

def sealL (b s : Int) (l : List Int) : Int := ([b, s] ++ l).foldl hstep 11
theorem spec_SealOf_ev (b s : Int) (l : List Int) (hl : l.length ≤ 1048576) : Ev (fun k => spec_SealOf.f k b s l) (sealL b s l) := by
  unfold spec_SealOf.f
  refine bindc rfl (pos (by simp; omega) (Ev.bind (spec_Hash_ev _ (by simp; omega)) (now rfl)))

def okLight (v : List Int) (i : Nat) : Bool := decide (0 ≤ rd v i ∧ rd v i ≤ 2)
def prevSeal (l : List S47) (j : Nat) : Int := if j = 0 then 0 else (rd_T47 l ((j : Int) - 1)).f2
theorem prevSeal_succ (l : List S47) (j : Nat) : prevSeal l (j + 1) = (rd_T47 l j).f2 := by
  have e : ((j + 1 : Nat) : Int) - 1 = (j : Int) := by omega
  rw [prevSeal, if_neg (by omega), e]
/-- Entry j is in its ranges, behind the one before, sealed, and as long as the first. -/
def entryHead (l : List S47) (j : Nat) : Prop := 0 ≤ (rd_T47 l j).f0 ∧ (rd_T47 l j).f0 ≤ 1000000 ∧ (rd_T47 l j).f1.length ≤ 12 ∧ (rd_T47 l j).f1.length = (rd_T47 l 0).f1.length ∧
  (rd_T47 l j).f2 = sealL (prevSeal l j) (rd_T47 l j).f0 (rd_T47 l j).f1 ∧ (0 < j → (rd_T47 l ((j : Int) - 1)).f0 < (rd_T47 l j).f0)
instance (l : List S47) (j : Nat) : Decidable (entryHead l j) := by unfold entryHead; infer_instance
def entryLights (l : List S47) (j : Nat) : Bool := (List.range (rd_T47 l j).f1.length).all (okLight (rd_T47 l j).f1)
def okEntry (l : List S47) (j : Nat) : Bool := decide (entryHead l j) && entryLights l j
theorem okEntry_iff (l : List S47) (j : Nat) : okEntry l j = true ↔ entryHead l j ∧ entryLights l j = true := by
  unfold okEntry
  rw [Bool.and_eq_true, decide_eq_true_iff]
def isRecord (l : List S47) : Bool := (List.range l.length).all (okEntry l) && decide (l.length ≤ 60)
theorem isRecord_iff (l : List S47) : isRecord l = true ↔ (∀ j, j < l.length → entryHead l j ∧ entryLights l j = true) ∧ l.length ≤ 60 := by
  unfold isRecord
  rw [Bool.and_eq_true, List.all_eq_true, decide_eq_true_iff]
  exact ⟨fun h => ⟨fun j hj => (okEntry_iff l j).1 (h.1 j (List.mem_range.2 hj)), h.2⟩, fun h => ⟨fun j hj => (okEntry_iff l j).2 (h.1 j (List.mem_range.1 hj)), h.2⟩⟩
theorem entry_short (l : List S47) (he : ∀ x ∈ l, x.f1.length ≤ 1048576) (i : Nat) (hi : i < l.length) : (rd_T47 l i).f1.length ≤ 1048576 := by
  have : rd_T47 l (i : Int) = l[i] := by simp [rd_T47, hi]
  rw [this]
  exact he _ (List.getElem_mem hi)
theorem spec_IsRecord_lights (l : List S47) (s : Int) (j : Nat) (hj : j < l.length) (hx : (rd_T47 l j).f1.length ≤ 1048576) (i : Nat) (hi : i < (rd_T47 l j).f1.length) :
    (∀ r, okLight (rd_T47 l j).f1 i = true → Ev (fun k => spec_IsRecord.l1 k l s (j : Int) ((i + 1 : Nat) : Int)) r → Ev (fun k => spec_IsRecord.l1 k l s (j : Int) (i : Int)) r) ∧
    (okLight (rd_T47 l j).f1 i = false → Ev (fun k => spec_IsRecord.l1 k l s (j : Int) (i : Int)) false) := by
  constructor
  · intro r ok h
    have ok : 0 ≤ rd (rd_T47 l j).f1 i ∧ rd (rd_T47 l j).f1 i ≤ 2 := by simpa [okLight] using ok
    refine shift ?_
    simp only [spec_IsRecord.l1]
    refine pos (by omega) (pos (nat_lt hj) (pos (nat_lt hi) (pos (by omega) (bindc (spec_l1In_eq _ _ _) (pos (by simp [ok]) ?_)))))
    rw [succ_wrap (by omega)]
    exact h
  · intro ok
    have ok : ¬ (0 ≤ rd (rd_T47 l j).f1 i ∧ rd (rd_T47 l j).f1 i ≤ 2) := by simpa [okLight] using ok
    refine shift ?_
    simp only [spec_IsRecord.l1]
    exact pos (by omega) (pos (nat_lt hj) (pos (nat_lt hi) (pos (by omega) (bindc (spec_l1In_eq _ _ _) (neg (by simpa using ok) (now rfl))))))
theorem spec_IsRecord_in (l : List S47) (h60 : l.length ≤ 60) (he : ∀ x ∈ l, x.f1.length ≤ 1048576) : Ev (fun k => spec_IsRecord.l0 k l (prevSeal l 0) 0) ((List.range l.length).all (okEntry l) && true) := by
  refine all_loop (g := fun k j => spec_IsRecord.l0 k l (prevSeal l j) (j : Int)) l.length (okEntry l) true ?_ ?_ ?_
  · intro j r hj ok h
    have hx := entry_short l he j hj
    obtain ⟨⟨h1, h2, h3, h4, h5, h6⟩, hli⟩ := (okEntry_iff l j).1 ok
    refine shift ?_
    simp only [spec_IsRecord.l0]
    refine pos (nat_lt hj) (shift ?_)
    simp only [spec_IsRecord.j1]
    refine pos (by simp; omega) (pos (by omega) (pos (nat_lt hj) (Ev.bind (spec_SealOf_ev _ _ _ hx) (bindc (spec_l1In_eq _ _ _) (pos (by simp [h1, h2]) (neg (by omega) (pos (by omega) (pos (by omega) (pos h5 ?_)))))))))
    have last : Ev (fun k => spec_IsRecord.j2 k l (sealL (prevSeal l j) (rd_T47 l j).f0 (rd_T47 l j).f1) (j : Int) false) r := by
      refine shift ?_
      simp only [spec_IsRecord.j2]
      refine neg (by simp) ?_
      refine ok_loop (g := fun k i => spec_IsRecord.l1 k l _ (j : Int) (i : Int)) (rd_T47 l j).f1.length (okLight (rd_T47 l j).f1) hli (fun i r hi => (spec_IsRecord_lights l _ j hj hx i hi).1 r) (shift ?_)
      simp only [spec_IsRecord.l1]
      refine pos (by omega) (pos (nat_lt hj) (neg (nat_ge (Nat.le_refl _)) ?_))
      rw [succ_wrap (by omega), ← h5, ← prevSeal_succ]
      exact h
    by_cases h0 : (j : Int) > 0
    · rw [w64 (x := (j : Int) - 1) (by omega) (by omega), decide_eq_false (by have := h6 (by omega); omega)]
      exact pos h0 (pos (by omega) (pos (by omega) last))
    · exact neg h0 last
  · intro j hj ok
    have hx := entry_short l he j hj
    have ok : ¬ (entryHead l j ∧ entryLights l j = true) := by rw [← okEntry_iff, ok]; simp
    unfold entryHead at ok
    have no : ∀ s, Ev (fun k => spec_IsRecord.j2 k l s (j : Int) true) false := by
      intro s
      refine shift ?_
      simp only [spec_IsRecord.j2]
      exact pos (by simp) (now rfl)
    refine shift ?_
    simp only [spec_IsRecord.l0]
    refine pos (nat_lt hj) (shift ?_)
    simp only [spec_IsRecord.j1]
    refine pos (by simp; omega) (pos (by omega) (pos (nat_lt hj) (Ev.bind (spec_SealOf_ev _ _ _ hx) (bindc (spec_l1In_eq _ _ _) ?_))))
    by_cases h1 : 0 ≤ (rd_T47 l j).f0 ∧ (rd_T47 l j).f0 ≤ 1000000
    · refine pos (by simp [h1]) ?_
      by_cases h3 : (rd_T47 l j).f1.length ≤ 12
      · refine neg (by omega) (pos (by omega) ?_)
        by_cases h4 : (rd_T47 l j).f1.length = (rd_T47 l 0).f1.length
        · refine pos (by omega) ?_
          by_cases h5 : (rd_T47 l j).f2 = sealL (prevSeal l j) (rd_T47 l j).f0 (rd_T47 l j).f1
          · refine pos h5 ?_
            have last : (0 < j → (rd_T47 l ((j : Int) - 1)).f0 < (rd_T47 l j).f0) → Ev (fun k => spec_IsRecord.j2 k l (sealL (prevSeal l j) (rd_T47 l j).f0 (rd_T47 l j).f1) (j : Int) false) false := by
              intro h6
              have hli : ¬ entryLights l j = true := fun q => ok ⟨⟨h1.1, h1.2, h3, h4, h5, h6⟩, q⟩
              refine shift ?_
              simp only [spec_IsRecord.j2]
              refine neg (by simp) ?_
              exact bad_loop (g := fun k i => spec_IsRecord.l1 k l _ (j : Int) (i : Int)) (rd_T47 l j).f1.length (okLight (rd_T47 l j).f1) false hli (fun i r hi => (spec_IsRecord_lights l _ j hj hx i hi).1 r) (fun i hi => (spec_IsRecord_lights l _ j hj hx i hi).2)
            by_cases h0 : (j : Int) > 0
            · rw [w64 (x := (j : Int) - 1) (by omega) (by omega)]
              refine pos h0 (pos (by omega) (pos (by omega) ?_))
              by_cases h6 : (rd_T47 l ((j : Int) - 1)).f0 < (rd_T47 l j).f0
              · rw [decide_eq_false (by omega)]
                exact last (fun _ => h6)
              · rw [decide_eq_true (by omega)]
                exact no _
            · exact neg h0 (last (fun q => absurd q (by omega)))
          · exact neg h5 (no _)
        · exact neg (by omega) (no _)
      · exact pos (by omega) (no _)
    · exact neg (by simpa using h1) (no _)
  · refine shift ?_
    simp only [spec_IsRecord.l0]
    refine neg (nat_ge (Nat.le_refl _)) (shift ?_)
    simp only [spec_IsRecord.j1]
    exact neg (by simp) (now (decide_eq_true (by omega)))
theorem spec_IsRecord_ev (l : List S47) (hl : l.length ≤ 1048577) (he : ∀ x ∈ l, x.f1.length ≤ 1048576) : Ev (fun k => spec_IsRecord.f k l) (isRecord l) := by
  unfold spec_IsRecord.f isRecord
  by_cases h60 : l.length ≤ 60
  · rw [decide_eq_true h60]
    exact spec_IsRecord_in l h60 he
  · rw [decide_eq_false h60, Bool.and_false]
    refine shift ?_
    simp only [spec_IsRecord.l0]
    refine pos (by omega) (shift ?_)
    simp only [spec_IsRecord.j1]
    exact neg (by simp; omega) (now (decide_eq_false (by omega)))

theorem laws_toIntS_ev (l : List Int) (hl : l.length ≤ 17592186044416) : Ev (fun k => laws_toIntS.f k l) l := by
  unfold laws_toIntS.f
  refine pos (by omega) (pos (by omega) ?_)
  have h := copied (g := fun k y i => laws_toIntS.l0 k l y i) l id 0 (fun j hj y r hy h => by
    refine shift ?_
    simp only [laws_toIntS.l0]
    refine pos (nat_lt hj) (pos (by omega) (pos (by omega) ?_))
    rw [rd_get _ _ hj, succ_wrap (by omega)]
    exact h) (fun y => by
    refine shift ?_
    simp only [laws_toIntS.l0]
    exact neg (nat_ge (Nat.le_refl _)) (now rfl))
  simpa using h

theorem laws_toEntry_ev (x : S69) (hl : x.f1.length ≤ 1048576) : Ev (fun k => laws_toEntry.f k x.f0 x.f1 x.f2) (x.f0, x.f1, x.f2) := by
  unfold laws_toEntry.f
  exact Ev.bind (laws_toIntS_ev x.f1 (by omega)) (now rfl)

def cEntry (x : S69) : S47 := ⟨x.f0, x.f1, x.f2⟩
theorem laws_toEntryS_ev (l : List S69) (hl : l.length ≤ 1048576) (he : ∀ x ∈ l, x.f1.length ≤ 1048576) : Ev (fun k => laws_toEntryS.f k l) (l.map cEntry) := by
  unfold laws_toEntryS.f
  refine pos (by omega) (pos (by omega) ?_)
  exact copied (g := fun k y i => laws_toEntryS.l0 k l y i) l cEntry z47 (fun j hj y r hy h => by
    refine shift ?_
    simp only [laws_toEntryS.l0]
    have hg : rd_T69 l (j : Int) = l[j] := by simp [rd_T69, hj]
    rw [hg]
    refine pos (nat_lt hj) (pos (by omega) (Ev.bind (laws_toEntry_ev _ (he _ (List.getElem_mem hj))) (pos (by omega) ?_)))
    rw [succ_wrap (by omega)]
    exact h) (fun y => by
    refine shift ?_
    simp only [laws_toEntryS.l0]
    exact neg (nat_ge (Nat.le_refl _)) (now rfl))
theorem cEntry_short (l : List S69) (he : ∀ x ∈ l, x.f1.length ≤ 1048576) : ∀ x ∈ l.map cEntry, x.f1.length ≤ 1048576 := by
  intro x hx
  obtain ⟨y, hy, rfl⟩ := List.mem_map.1 hx
  exact he y hy

theorem impl_InRange_eq (a b c : Int) : impl_InRange.f a b c = some (decide (b ≤ a ∧ a ≤ c)) := by
  unfold impl_InRange.f
  by_cases h : b ≤ a
  · rw [if_pos h]
    simp [h]
  · rw [if_neg h]
    simp [h]

theorem impl_Mod_eq (a m : Int) (h1 : 1 ≤ m) (h2 : m ≤ 1000000000000) : impl_Mod.f a m = some (a % m) := by
  unfold impl_Mod.f
  rw [impl_InRange_eq, Option.bind_some, if_pos (by simp [h1, h2]), if_neg (by omega)]
  have he := tmod_emod (a := a) (m := m) (by omega)
  have h3 := Int.emod_nonneg a (by omega : m ≠ 0)
  have h4 := Int.emod_lt_of_pos a (by omega : 0 < m)
  by_cases hn : Int.tmod a m < 0
  · rw [if_pos hn] at he
    rw [if_pos hn, w64 (by omega) (by omega), he]
    congr 1
    omega
  · rw [if_neg hn] at he
    rw [if_neg hn, he]

theorem impl_fold_eq (a v : Int) (h0 : 0 ≤ a) (h1 : a < 2147483647) : impl_fold.f a v = some (hstep a v) := by
  unfold impl_fold.f
  rw [impl_Mod_eq _ _ (by omega) (by omega), Option.bind_some, hstep_go a v h0 h1]

theorem impl_Hash_ev (l : List Int) (hl : l.length < 9223372036854775807) : Ev (fun k => impl_Hash.f k l) (l.foldl hstep 11) := by
  unfold impl_Hash.f
  refine loop (g := fun k j => impl_Hash.l0 k ((l.take j).foldl hstep 11) l (l.length : Int) (j : Int)) l.length ?_ ?_
  · intro j hj h
    refine shift ?_
    simp only [impl_Hash.l0]
    obtain ⟨b0, b1⟩ := hfold_range (l.take j) 11 (by omega) (by omega)
    refine pos (nat_lt hj) (pos (by omega) (pos (nat_lt hj) (bindc (impl_fold_eq _ _ b0 b1) ?_)))
    rw [rd_get _ _ hj, ← hfold_take l j hj, succ_wrap (by omega)]
    exact h
  · refine shift ?_
    simp only [impl_Hash.l0]
    exact neg (nat_ge (Nat.le_refl _)) (now (by rw [List.take_length]))


theorem impl_SealOf_ev (b s : Int) (l : List Int) (hl : l.length ≤ 1048576) : Ev (fun k => impl_SealOf.f k b s l) (sealL b s l) := by
  unfold impl_SealOf.f
  refine bindc rfl (pos (by simp; omega) (Ev.bind (impl_Hash_ev _ (by simp; omega)) (now rfl)))

theorem impl_IsRecord_lights (l : List S47) (n : Int) (j : Nat) (hx : (rd_T47 l j).f1.length ≤ 1048576) (i : Nat) (hi : i < (rd_T47 l j).f1.length) :
    (∀ r, okLight (rd_T47 l j).f1 i = true → Ev (fun k => impl_IsRecord.l1 k l l n (j : Int) (rd_T47 l j).f1 ((rd_T47 l j).f1.length : Int) ((i + 1 : Nat) : Int) (rd_T47 l j).f0 (rd_T47 l j).f1 (rd_T47 l j).f2) r → Ev (fun k => impl_IsRecord.l1 k l l n (j : Int) (rd_T47 l j).f1 ((rd_T47 l j).f1.length : Int) (i : Int) (rd_T47 l j).f0 (rd_T47 l j).f1 (rd_T47 l j).f2) r) ∧
    (okLight (rd_T47 l j).f1 i = false → Ev (fun k => impl_IsRecord.l1 k l l n (j : Int) (rd_T47 l j).f1 ((rd_T47 l j).f1.length : Int) (i : Int) (rd_T47 l j).f0 (rd_T47 l j).f1 (rd_T47 l j).f2) false) := by
  constructor
  · intro r ok h
    have ok : 0 ≤ rd (rd_T47 l j).f1 i ∧ rd (rd_T47 l j).f1 i ≤ 2 := by simpa [okLight] using ok
    refine shift ?_
    simp only [impl_IsRecord.l1]
    refine pos (nat_lt hi) (pos (by omega) (pos (nat_lt hi) (bindc (impl_InRange_eq _ _ _) (pos (by simp [ok]) ?_))))
    rw [succ_wrap (by omega)]
    exact h
  · intro ok
    have ok : ¬ (0 ≤ rd (rd_T47 l j).f1 i ∧ rd (rd_T47 l j).f1 i ≤ 2) := by simpa [okLight] using ok
    refine shift ?_
    simp only [impl_IsRecord.l1]
    exact pos (nat_lt hi) (pos (by omega) (pos (nat_lt hi) (bindc (impl_InRange_eq _ _ _) (neg (by simpa using ok) (now rfl)))))
theorem impl_IsRecord_in (l : List S47) (h60 : l.length ≤ 60) (he : ∀ x ∈ l, x.f1.length ≤ 1048576) : Ev (fun k => impl_IsRecord.l0 k l (prevSeal l 0) l (l.length : Int) 0) ((List.range l.length).all (okEntry l) && true) := by
  refine all_loop (g := fun k j => impl_IsRecord.l0 k l (prevSeal l j) l (l.length : Int) (j : Int)) l.length (okEntry l) true ?_ ?_ ?_
  · intro j r hj ok h
    have hx := entry_short l he j hj
    obtain ⟨⟨h1, h2, h3, h4, h5, h6⟩, hli⟩ := (okEntry_iff l j).1 ok
    have last : Ev (fun k => impl_IsRecord.j1 k l l (l.length : Int) (j : Int) ((rd_T47 l j).f2 != sealL (prevSeal l j) (rd_T47 l j).f0 (rd_T47 l j).f1) (rd_T47 l j).f0 (rd_T47 l j).f1 (rd_T47 l j).f2) r := by
      refine shift ?_
      simp only [impl_IsRecord.j1]
      refine neg (by rw [← h5]; simp) ?_
      refine ok_loop (g := fun k i => impl_IsRecord.l1 k l l (l.length : Int) (j : Int) (rd_T47 l j).f1 ((rd_T47 l j).f1.length : Int) (i : Int) (rd_T47 l j).f0 (rd_T47 l j).f1 (rd_T47 l j).f2) (rd_T47 l j).f1.length (okLight (rd_T47 l j).f1) hli (fun i r hi => (impl_IsRecord_lights l _ j hx i hi).1 r) (shift ?_)
      simp only [impl_IsRecord.l1]
      refine neg (nat_ge (Nat.le_refl _)) ?_
      rw [succ_wrap (by omega), ← prevSeal_succ]
      exact h
    refine shift ?_
    simp only [impl_IsRecord.l0]
    refine pos (nat_lt hj) (pos (by omega) (pos (nat_lt hj) (bindc (impl_InRange_eq _ _ _) (pos (by simp [h1, h2]) ?_))))
    by_cases h0 : (j : Int) > 0
    · rw [w64 (x := (j : Int) - 1) (by omega) (by omega)]
      exact pos h0 (pos (by omega) (pos (by omega) (neg (by have := h6 (by omega); omega) (neg (by omega) (pos (by omega) (pos (by omega) (Ev.bind (impl_SealOf_ev _ _ _ hx) last)))))))
    · exact neg h0 (neg (by omega) (pos (by omega) (pos (by omega) (Ev.bind (impl_SealOf_ev _ _ _ hx) last))))
  · intro j hj ok
    have hx := entry_short l he j hj
    have ok : ¬ (entryHead l j ∧ entryLights l j = true) := by rw [← okEntry_iff, ok]; simp
    unfold entryHead at ok
    have no : Ev (fun k => impl_IsRecord.j1 k l l (l.length : Int) (j : Int) true (rd_T47 l j).f0 (rd_T47 l j).f1 (rd_T47 l j).f2) false := by
      refine shift ?_
      simp only [impl_IsRecord.j1]
      exact pos (by simp) (now rfl)
    refine shift ?_
    simp only [impl_IsRecord.l0]
    refine pos (nat_lt hj) (pos (by omega) (pos (nat_lt hj) (bindc (impl_InRange_eq _ _ _) ?_)))
    by_cases h1 : 0 ≤ (rd_T47 l j).f0 ∧ (rd_T47 l j).f0 ≤ 1000000
    · refine pos (by simp [h1]) ?_
      have more : (0 < j → (rd_T47 l ((j : Int) - 1)).f0 < (rd_T47 l j).f0) → (rd_T47 l j).f1.length ≤ 12 → (rd_T47 l j).f1.length = (rd_T47 l 0).f1.length →
          Ev (fun k => impl_IsRecord.j1 k l l (l.length : Int) (j : Int) ((rd_T47 l j).f2 != sealL (prevSeal l j) (rd_T47 l j).f0 (rd_T47 l j).f1) (rd_T47 l j).f0 (rd_T47 l j).f1 (rd_T47 l j).f2) false := by
        intro h6 h3 h4
        by_cases h5 : (rd_T47 l j).f2 = sealL (prevSeal l j) (rd_T47 l j).f0 (rd_T47 l j).f1
        · have hli : ¬ entryLights l j = true := fun q => ok ⟨⟨h1.1, h1.2, h3, h4, h5, h6⟩, q⟩
          refine shift ?_
          simp only [impl_IsRecord.j1]
          refine neg (by rw [← h5]; simp) ?_
          exact bad_loop (g := fun k i => impl_IsRecord.l1 k l l (l.length : Int) (j : Int) (rd_T47 l j).f1 ((rd_T47 l j).f1.length : Int) (i : Int) (rd_T47 l j).f0 (rd_T47 l j).f1 (rd_T47 l j).f2) (rd_T47 l j).f1.length (okLight (rd_T47 l j).f1) false hli (fun i r hi => (impl_IsRecord_lights l _ j hx i hi).1 r) (fun i hi => (impl_IsRecord_lights l _ j hx i hi).2)
        · rw [show ((rd_T47 l j).f2 != sealL (prevSeal l j) (rd_T47 l j).f0 (rd_T47 l j).f1) = true by simpa using h5]
          exact no
      by_cases h0 : (j : Int) > 0
      · rw [w64 (x := (j : Int) - 1) (by omega) (by omega)]
        refine pos h0 (pos (by omega) (pos (by omega) ?_))
        by_cases h6 : (rd_T47 l ((j : Int) - 1)).f0 < (rd_T47 l j).f0
        · refine neg (by omega) ?_
          by_cases h3 : (rd_T47 l j).f1.length ≤ 12
          · refine neg (by omega) (pos (by omega) ?_)
            by_cases h4 : (rd_T47 l j).f1.length = (rd_T47 l 0).f1.length
            · exact pos (by omega) (Ev.bind (impl_SealOf_ev _ _ _ hx) (more (fun _ => h6) h3 h4))
            · exact neg (by omega) no
          · exact pos (by omega) no
        · exact pos (by omega) no
      · refine neg h0 ?_
        by_cases h3 : (rd_T47 l j).f1.length ≤ 12
        · refine neg (by omega) (pos (by omega) ?_)
          by_cases h4 : (rd_T47 l j).f1.length = (rd_T47 l 0).f1.length
          · exact pos (by omega) (Ev.bind (impl_SealOf_ev _ _ _ hx) (more (fun q => absurd q (by omega)) h3 h4))
          · exact neg (by omega) no
        · exact pos (by omega) no
    · exact neg (by simpa using h1) no
  · refine shift ?_
    simp only [impl_IsRecord.l0]
    exact neg (nat_ge (Nat.le_refl _)) (now rfl)
theorem impl_IsRecord_ev (l : List S47) (hl : l.length ≤ 1048577) (he : ∀ x ∈ l, x.f1.length ≤ 1048576) : Ev (fun k => impl_IsRecord.f k l) (isRecord l) := by
  unfold impl_IsRecord.f isRecord
  by_cases h60 : l.length ≤ 60
  · rw [decide_eq_true h60]
    exact neg (by omega) (impl_IsRecord_in l h60 he)
  · rw [decide_eq_false h60, Bool.and_false]
    exact pos (by omega) (now rfl)

theorem slices_Clone_int_int_eq (l : List Int) (hl : l.length ≤ 1048576) : slices_Clone_int_int.f l = some l := by
  unfold slices_Clone_int_int.f
  rw [Option.bind_some, if_pos (by simp; omega)]
  simp

theorem laws_eqIntS_refl (l : List Int) (hl : l.length < 9223372036854775807) : Ev (fun k => laws_eqIntS.f k l l) true := by
  unfold laws_eqIntS.f
  refine pos rfl (loop (g := fun k j => laws_eqIntS.l0 k l l (j : Int)) l.length ?_ ?_)
  · intro j hj h
    refine shift ?_
    simp only [laws_eqIntS.l0]
    refine pos (nat_lt hj) (pos (by omega) (pos (nat_lt hj) (pos (by simp) ?_)))
    rw [succ_wrap (by omega)]
    exact h
  · refine shift ?_
    simp only [laws_eqIntS.l0]
    exact neg (nat_ge (Nat.le_refl _)) (now rfl)

theorem laws_eqEntry_refl (x : S47) (hl : x.f1.length < 9223372036854775807) : Ev (fun k => laws_eqEntry.f k x.f0 x.f1 x.f2 x.f0 x.f1 x.f2) true := by
  unfold laws_eqEntry.f
  repeat (first | exact now rfl | refine pos rfl ?_ | refine Ev.bind (laws_eqIntS_refl x.f1 hl) ?_)

theorem laws_eqEntryS_refl' (l : List S47) (hl : l.length ≤ 1048577) (he : ∀ x ∈ l, x.f1.length ≤ 1048576) : Ev (fun k => laws_eqEntryS.f k l l) true := by
  unfold laws_eqEntryS.f
  refine pos rfl (loop (g := fun k j => laws_eqEntryS.l0 k l l (j : Int)) l.length ?_ ?_)
  · intro j hj h
    refine shift ?_
    simp only [laws_eqEntryS.l0]
    have hg : rd_T47 l (j : Int) = l[j] := by simp [rd_T47, hj]
    rw [hg]
    refine pos (nat_lt hj) (pos (by omega) (pos (nat_lt hj) (Ev.bind (laws_eqEntry_refl _ (by have := he _ (List.getElem_mem hj); omega)) (pos rfl ?_))))
    rw [succ_wrap (by omega)]
    exact h
  · refine shift ?_
    simp only [laws_eqEntryS.l0]
    exact neg (nat_ge (Nat.le_refl _)) (now rfl)

theorem laws_eqEntryS_refl (l : List S47) (hl : l.length ≤ 1048576) (he : ∀ x ∈ l, x.f1.length ≤ 1048576) : Ev (fun k => laws_eqEntryS.f k l l) true :=
  laws_eqEntryS_refl' l (by omega) he

theorem laws_markIntS_ev (l : List Int) (a : Int) (ha : 0 ≤ a) (ha2 : a ≤ 4000000000000) (hl : l.length ≤ 4000000000000) : Ev (fun k => laws_markIntS.f k l a) (a + l.length, iota a l.length) := by
  unfold laws_markIntS.f
  refine loop (g := fun k j => laws_markIntS.l0 k (iota a j ++ l.drop j) (a + (j : Int)) (j : Int)) l.length ?_ ?_ |> (fun h => by simpa [show iota a 0 = [] from rfl] using h)
  · intro j hj h
    refine shift ?_
    simp only [laws_markIntS.l0]
    refine pos (by simp [iota_length]; omega) (pos (by omega) ?_)
    rw [succ_wrap (by omega), w64 (by omega) (by omega), Int.toNat_natCast, iota_set a l j hj]
    have e : a + (j : Int) + 1 = a + ((j + 1 : Nat) : Int) := by omega
    rw [e]
    exact h
  · refine shift ?_
    simp only [laws_markIntS.l0]
    exact neg (by simp [iota_length]) (now (by simp))

theorem setC {α : Type} (A B : List α) (x v : α) (j : Nat) (hj : A.length = j) : (A ++ x :: B).set j v = A ++ v :: B := by
  rw [List.set_append_right _ _ (by omega), hj, Nat.sub_self, List.set_cons_zero]
theorem getC {α : Type} (A B : List α) (x d : α) (j : Nat) (hj : A.length = j) : (A ++ x :: B).getD j d = x := by
  rw [List.getD_eq_getElem?_getD, List.getElem?_append_right (by omega), hj, Nat.sub_self]
  rfl

def elE (a : Int) (x : S47) : S47 := ⟨a, iota (a + 1) x.f1.length, a + 1 + x.f1.length⟩
def endE : Int → List S47 → Int
  | a, [] => a
  | a, x :: r => endE (a + x.f1.length + 2) r
def mkE : Int → List S47 → List S47
  | _, [] => []
  | a, x :: r => elE a x :: mkE (a + x.f1.length + 2) r
theorem endE_append : ∀ (p q : List S47) (a : Int), endE a (p ++ q) = endE (endE a p) q
  | [], _, _ => rfl
  | x :: r, q, a => by
    simp only [List.cons_append, endE]
    exact endE_append r q _
theorem mkE_append : ∀ (p q : List S47) (a : Int), mkE a (p ++ q) = mkE a p ++ mkE (endE a p) q
  | [], _, _ => rfl
  | x :: r, q, a => by
    simp only [List.cons_append, endE, mkE]
    rw [mkE_append r q _]
theorem mkE_length : ∀ (p : List S47) (a : Int), (mkE a p).length = p.length
  | [], _ => rfl
  | x :: r, a => by simp [mkE, mkE_length r]
theorem endE_range : ∀ (p : List S47) (a : Int), (∀ x ∈ p, x.f1.length ≤ 1048576) → a ≤ endE a p ∧ endE a p ≤ a + 1048578 * (p.length : Int)
  | [], a, _ => by simp [endE]
  | x :: r, a, h => by
    have h1 := h x List.mem_cons_self
    have h2 := endE_range r (a + x.f1.length + 2) (fun y hy => h y (List.mem_cons_of_mem _ hy))
    simp only [endE, List.length_cons]
    omega
theorem take_short (p : List S47) (h : ∀ x ∈ p, x.f1.length ≤ 1048576) (j : Nat) : ∀ x ∈ p.take j, x.f1.length ≤ 1048576 := fun x hx => h x (List.mem_of_mem_take hx)
theorem laws_markEntryS_ev (l : List S47) (hl : l.length ≤ 1048577) (he : ∀ x ∈ l, x.f1.length ≤ 1048576) : Ev (fun k => laws_markEntryS.f k l 1) (endE 1 l, mkE 1 l) := by
  unfold laws_markEntryS.f
  refine loop (g := fun k j => laws_markEntryS.l0 k (mkE 1 (l.take j) ++ l.drop j) (endE 1 (l.take j)) (j : Int)) l.length ?_ ?_ |> (fun h => by simpa [mkE, endE] using h)
  · intro j hj h
    have hr := endE_range (l.take j) 1 (take_short l he j)
    have hlen := mkE_length (l.take j) 1
    rw [List.length_take] at hlen hr
    have hx := he _ (List.getElem_mem hj)
    have hmin : min j l.length = j := by omega
    rw [hmin] at hlen hr
    rw [List.take_succ_eq_append_getElem hj, mkE_append, endE_append, List.append_assoc] at h
    simp only [mkE, endE] at h
    refine shift ?_
    simp only [laws_markEntryS.l0]
    rw [List.drop_eq_getElem_cons hj]
    generalize endE 1 (l.take j) = a at hr h ⊢
    have e1 : wrap64 (a + 1) = a + 1 := w64 (by omega) (by omega)
    have hg : rd_T47 (mkE 1 (l.take j) ++ l[j] :: l.drop (j + 1)) (j : Int) = l[j] := by
      simp only [rd_T47, Int.toNat_natCast]
      exact getC _ _ _ _ _ hlen
    rw [hg, e1, Int.toNat_natCast]
    refine pos (by simp [mkE_length]; omega) (pos (by omega) (Ev.bind (laws_markIntS_ev _ (a + 1) (by omega) (by omega) (by omega)) ?_))
    dsimp only
    rw [setC _ _ _ _ _ hlen, succ_wrap (by omega), w64 (x := a + 1 + (l[j].f1.length : Int) + 1) (by omega) (by omega)]
    have e2 : a + 1 + (l[j].f1.length : Int) + 1 = a + (l[j].f1.length : Int) + 2 := by omega
    rw [e2]
    exact h
  · refine shift ?_
    simp only [laws_markEntryS.l0]
    exact neg (by simp [mkE_length]) (now (by simp))

theorem laws_heldIntS_ev (a : Int) (n : Nat) (ha : 0 ≤ a) (ha2 : a ≤ 4000000000000) (hn : n ≤ 4000000000000) : Ev (fun k => laws_heldIntS.f k (iota a n) a) (a + n) := by
  unfold laws_heldIntS.f
  refine loop (g := fun k j => laws_heldIntS.l0 k (iota a n) (a + (j : Int)) (j : Int)) n ?_ ?_ |> (fun h => by simpa using h)
  · intro j hj h
    refine shift ?_
    simp only [laws_heldIntS.l0]
    refine pos (by rw [iota_length]; omega) (pos (by omega) (pos (iota_get a n j hj) ?_))
    rw [succ_wrap (by omega), w64 (by omega) (by omega)]
    have e : a + (j : Int) + 1 = a + ((j + 1 : Nat) : Int) := by omega
    rw [e]
    exact h
  · refine shift ?_
    simp only [laws_heldIntS.l0]
    exact neg (by rw [iota_length]; omega) (now rfl)

/-- As all_loop, with what the earlier places are known to be. -/
theorem all_loopI {g : Nat → Nat → Option Bool} (N : Nat) (ok : Nat → Bool) (b : Bool) (hs : ∀ j r, j < N → (∀ i, i ≤ j → ok i = true) → Ev (fun k => g k (j + 1)) r → Ev (fun k => g k j) r)
    (hf : ∀ j, j < N → (∀ i, i < j → ok i = true) → ok j = false → Ev (fun k => g k j) false) (he : (∀ i, i < N → ok i = true) → Ev (fun k => g k N) b) : Ev (fun k => g k 0) ((List.range N).all ok && b) := by
  have : ∀ d j, j + d = N → (∀ i, i < j → ok i = true) → Ev (fun k => g k j) ((List.range' j d).all ok && b) := by
    intro d
    induction d with
    | zero =>
      intro j hj hb
      have : j = N := by omega
      subst this
      simpa using he hb
    | succ d ih =>
      intro j hj hb
      rw [List.range'_succ, List.all_cons]
      cases h : ok j with
      | true =>
        have hb2 : ∀ i, i < j + 1 → ok i = true := fun i hi => by
          by_cases e : i = j
          · rw [e]; exact h
          · exact hb i (by omega)
        simpa using hs j _ (by omega) (fun i hi => hb2 i (by omega)) (ih (j + 1) (by omega) hb2)
      | false => simpa using hf j (by omega) hb h
  have h := this N 0 (by omega) (fun i hi => by omega)
  rwa [← List.range_eq_range'] at h
theorem rd_take (xs : List Int) (j k : Nat) (h : k < j) : rd (xs.take j) (k : Int) = rd xs (k : Int) := by simp [rd, List.getD_eq_getElem?_getD, List.getElem?_take, h]
theorem take_len {α : Type} (xs : List α) (j : Nat) (h : j < xs.length) : (xs.take j).length = j := by rw [List.length_take]; omega
theorem take_snoc {α : Type} (xs : List α) (j : Nat) (h : j < xs.length) : xs.take (j + 1) = xs.take j ++ [xs[j]] := by rw [List.take_succ_eq_append_getElem h]

theorem rdEntry (p : List S47) (j : Nat) (h : j < p.length) : rd_T47 p (j : Int) = p[j] := by simp [rd_T47, h]
theorem spec_l27Copy_ev (l : List S47) (hl : l.length ≤ 1048577) (he : ∀ x ∈ l, x.f1.length ≤ 1048576) : Ev (fun k => spec_l27Copy.f k l) l := by
  unfold spec_l27Copy.f
  refine loop (g := fun k j => spec_l27Copy.l0 k l (l.take j) (j : Int)) l.length ?_ ?_ |> (fun h => by simpa using h)
  · intro j hj h
    have hx := he _ (List.getElem_mem hj)
    refine shift ?_
    simp only [spec_l27Copy.l0]
    rw [succ_wrap (by omega), rdEntry l j hj]
    rw [take_snoc l j hj] at h
    exact pos (nat_lt hj) (pos (by omega) (bindc rfl (pos (by simp; omega) (pos (by simp; omega) h))))
  · refine shift ?_
    simp only [spec_l27Copy.l0]
    exact neg (nat_ge (Nat.le_refl _)) (now (by rw [List.take_length]))

def lastSeal (l : List S47) : Int := if l.length = 0 then 0 else (rd_T47 l ((l.length : Int) - 1)).f2
theorem spec_LastSeal_eq (l : List S47) (hl : l.length ≤ 1048577) : spec_LastSeal.f l = some (lastSeal l) := by
  unfold spec_LastSeal.f lastSeal
  by_cases h : l.length = 0
  · rw [if_pos (by omega), if_pos h]
  · rw [if_neg (by omega), if_neg h, w64 (by omega) (by omega), if_pos (by omega), if_pos (by omega)]

def moreE (l : List S47) (s : Int) (v : List Int) : List S47 := l ++ [⟨s, v, sealL (lastSeal l) s v⟩]
def addE (l : List S47) (s : Int) (v : List Int) : List S47 × Bool := if isRecord (moreE l s v) = true then (moreE l s v, true) else (l, false)
theorem moreE_short (l : List S47) (s : Int) (v : List Int) (he : ∀ x ∈ l, x.f1.length ≤ 1048576) (hv : v.length ≤ 1048576) : ∀ x ∈ moreE l s v, x.f1.length ≤ 1048576 := by
  intro x hx
  rcases List.mem_append.1 hx with h | h
  · exact he x h
  · rw [List.mem_singleton.1 h]
    exact hv
theorem moreE_length (l : List S47) (s : Int) (v : List Int) : (moreE l s v).length = l.length + 1 := by simp [moreE]
theorem addE_short (l : List S47) (s : Int) (v : List Int) (he : ∀ x ∈ l, x.f1.length ≤ 1048576) (hv : v.length ≤ 1048576) : ∀ x ∈ (addE l s v).1, x.f1.length ≤ 1048576 := by
  unfold addE
  split
  · exact moreE_short l s v he hv
  · exact he
theorem addE_length (l : List S47) (s : Int) (v : List Int) : (addE l s v).1.length ≤ l.length + 1 := by
  unfold addE
  split
  · rw [moreE_length]; omega
  · show l.length ≤ l.length + 1; omega
theorem spec_AddEntry_ev (l : List S47) (s : Int) (v : List Int) (hl : l.length ≤ 1048576) (he : ∀ x ∈ l, x.f1.length ≤ 1048576) (hv : v.length ≤ 1048576) : Ev (fun k => spec_AddEntry.f k l s v) (addE l s v) := by
  unfold spec_AddEntry.f addE
  have hc := spec_l27Copy_ev l (by omega) he
  refine Ev.bind hc (bindc rfl (pos (by simp; omega) (bindc (spec_LastSeal_eq l (by omega)) (Ev.bind (spec_SealOf_ev _ _ _ hv) (pos (by omega) (bindc rfl (Ev.bind (spec_IsRecord_ev (moreE l s v) (by rw [moreE_length]; omega) (moreE_short l s v he hv)) ?_)))))))
  by_cases h : isRecord (moreE l s v) = true
  · rw [if_pos h]
    exact pos h (now rfl)
  · rw [if_neg h]
    exact neg h (Ev.bind hc (now rfl))

theorem impl_LastSeal_eq (l : List S47) (hl : l.length ≤ 1048577) : impl_LastSeal.f l = some (lastSeal l) := by
  unfold impl_LastSeal.f lastSeal
  by_cases h : l.length = 0
  · rw [if_pos (by omega), if_pos h]
  · rw [if_neg (by omega), if_neg h, w64 (by omega) (by omega), if_pos (by omega), if_pos (by omega)]

theorem impl_cloneRecord_ev (l : List S47) (hl : l.length ≤ 1048577) (he : ∀ x ∈ l, x.f1.length ≤ 1048576) : Ev (fun k => impl_cloneRecord.f k l) l := by
  unfold impl_cloneRecord.f
  refine loop (g := fun k j => impl_cloneRecord.l0 k (l.take j) l (l.length : Int) (j : Int)) l.length ?_ ?_ |> (fun h => by simpa using h)
  · intro j hj h
    have hx := he _ (List.getElem_mem hj)
    refine shift ?_
    simp only [impl_cloneRecord.l0]
    rw [succ_wrap (by omega), rdEntry l j hj]
    rw [take_snoc l j hj] at h
    exact pos (nat_lt hj) (pos (by omega) (pos (nat_lt hj) (bindc (slices_Clone_int_int_eq _ hx) (pos (by simp; omega) h))))
  · refine shift ?_
    simp only [impl_cloneRecord.l0]
    exact neg (nat_ge (Nat.le_refl _)) (now (by rw [List.take_length]))

theorem impl_AddEntry_ev (l : List S47) (s : Int) (v : List Int) (hl : l.length ≤ 1048576) (he : ∀ x ∈ l, x.f1.length ≤ 1048576) (hv : v.length ≤ 1048576) : Ev (fun k => impl_AddEntry.f k l s v) (addE l s v) := by
  unfold impl_AddEntry.f addE
  have hc := impl_cloneRecord_ev l (by omega) he
  refine Ev.bind hc (bindc (slices_Clone_int_int_eq v hv) (bindc (impl_LastSeal_eq l (by omega)) (Ev.bind (impl_SealOf_ev _ _ _ hv) (pos (by omega) (bindc rfl (Ev.bind (impl_IsRecord_ev (moreE l s v) (by rw [moreE_length]; omega) (moreE_short l s v he hv)) ?_))))))
  by_cases h : isRecord (moreE l s v) = true
  · rw [if_pos h]
    exact pos h (now rfl)
  · rw [if_neg h]
    exact neg h (Ev.bind hc (now rfl))

theorem laws_heldEntryS_ev (l : List S47) (hl : l.length ≤ 1048577) (he : ∀ x ∈ l, x.f1.length ≤ 1048576) : Ev (fun k => laws_heldEntryS.f k (mkE 1 l) 1) (endE 1 l) := by
  unfold laws_heldEntryS.f
  refine loop (g := fun k j => laws_heldEntryS.l0 k (mkE 1 l) (endE 1 (l.take j)) (j : Int)) l.length ?_ ?_ |> (fun h => by simpa [endE] using h)
  · intro j hj h
    have hr := endE_range (l.take j) 1 (take_short l he j)
    have hlen := mkE_length (l.take j) 1
    rw [List.length_take] at hlen hr
    have hx := he _ (List.getElem_mem hj)
    have hmin : min j l.length = j := by omega
    rw [hmin] at hlen hr
    have hg : rd_T47 (mkE 1 l) (j : Int) = elE (endE 1 (l.take j)) l[j] := by
      have e : l = l.take j ++ l[j] :: l.drop (j + 1) := by rw [← List.drop_eq_getElem_cons hj, List.take_append_drop]
      have e2 : mkE 1 l = mkE 1 (l.take j) ++ mkE (endE 1 (l.take j)) (l[j] :: l.drop (j + 1)) := by rw [← mkE_append, ← e]
      rw [e2]
      simp only [rd_T47, Int.toNat_natCast, mkE]
      exact getC _ _ _ _ _ hlen
    rw [List.take_succ_eq_append_getElem hj, endE_append] at h
    simp only [endE] at h
    refine shift ?_
    simp only [laws_heldEntryS.l0]
    rw [hg]
    generalize endE 1 (l.take j) = a at hr h ⊢
    have e1 : wrap64 (a + 1) = a + 1 := w64 (by omega) (by omega)
    rw [e1]
    refine pos (by rw [mkE_length]; omega) (pos (by omega) (pos rfl (Ev.bind (laws_heldIntS_ev (a + 1) l[j].f1.length (by omega) (by omega) (by omega)) (neg (by omega) (pos rfl ?_)))))
    rw [succ_wrap (by omega), w64 (x := a + 1 + (l[j].f1.length : Int) + 1) (by omega) (by omega)]
    have e2 : a + 1 + (l[j].f1.length : Int) + 1 = a + (l[j].f1.length : Int) + 2 := by omega
    rw [e2]
    exact h
  · refine shift ?_
    simp only [laws_heldEntryS.l0]
    exact neg (by rw [mkE_length]; omega) (now (by simp))

theorem eqAll {a b : List Int} (hl : a.length = b.length) : (List.range b.length).all (fun i => decide (rd a (i : Int) = rd b (i : Int))) = decide (a = b) := by
  by_cases h : a = b
  · subst h
    simp
  · rw [decide_eq_false h]
    apply Bool.eq_false_iff.2
    intro g
    refine h (List.ext_getElem hl (fun i h1 h2 => ?_))
    have := List.all_eq_true.1 g i (List.mem_range.2 h2)
    simpa [rd_get a i h1, rd_get b i h2] using this
theorem spec_EqualInts_ev (a b : List Int) (ha : a.length ≤ 1048576) : Ev (fun k => spec_EqualInts.f k a b) (decide (a = b)) := by
  unfold spec_EqualInts.f
  by_cases h : a.length = b.length
  · refine pos (by omega) ?_
    rw [← eqAll h]
    refine all_loop (g := fun k j => spec_EqualInts.l0 k a b (j : Int)) b.length (fun i => decide (rd a (i : Int) = rd b (i : Int))) true ?_ ?_ ?_ |> (fun h => by simpa using h)
    · intro j r hj ok hh
      refine shift ?_
      simp only [spec_EqualInts.l0]
      rw [succ_wrap (by omega)]
      exact pos (by omega) (pos (by omega) (pos (by omega) (pos (of_decide_eq_true ok) hh)))
    · intro j hj ok
      refine shift ?_
      simp only [spec_EqualInts.l0]
      exact pos (by omega) (pos (by omega) (pos (by omega) (neg (of_decide_eq_false ok) (now rfl))))
    · refine shift ?_
      simp only [spec_EqualInts.l0]
      exact neg (by omega) (now rfl)
  · refine neg (by omega) (now ?_)
    rw [decide_eq_false (fun e => h (by rw [e]))]

def lastE (l : List S47) : S47 := rd_T47 l ((l.length : Int) - 1)
def noteE (l : List S47) (s : Int) (v : List Int) : List S47 × Bool :=
  if l.length = 0 ∨ ¬ (lastE l).f1 = v then addE l s v else (l, isRecord l && (decide (s > (lastE l).f0) && decide (0 ≤ s ∧ s ≤ 1000000)))
theorem noteE_short (l : List S47) (s : Int) (v : List Int) (he : ∀ x ∈ l, x.f1.length ≤ 1048576) (hv : v.length ≤ 1048576) : ∀ x ∈ (noteE l s v).1, x.f1.length ≤ 1048576 := by
  unfold noteE
  split
  · exact addE_short l s v he hv
  · exact he
theorem noteE_length (l : List S47) (s : Int) (v : List Int) : (noteE l s v).1.length ≤ l.length + 1 := by
  unfold noteE
  split
  · exact addE_length l s v
  · show l.length ≤ l.length + 1; omega
theorem lastE_short (l : List S47) (he : ∀ x ∈ l, x.f1.length ≤ 1048576) (h : ¬ l.length = 0) : (lastE l).f1.length ≤ 1048576 := by
  have e : (l.length : Int) - 1 = ((l.length - 1 : Nat) : Int) := by omega
  unfold lastE
  rw [e]
  exact entry_short l he _ (by omega)
theorem spec_NoteLights_ev (l : List S47) (s : Int) (v : List Int) (hl : l.length ≤ 1048576) (he : ∀ x ∈ l, x.f1.length ≤ 1048576) (hv : v.length ≤ 1048576) : Ev (fun k => spec_NoteLights.f k l s v) (noteE l s v) := by
  unfold spec_NoteLights.f noteE
  have add : Ev (fun k => spec_NoteLights.j0 k l s v true) (addE l s v) := by
    refine shift ?_
    simp only [spec_NoteLights.j0]
    exact pos trivial (Ev.bind (spec_AddEntry_ev l s v hl he hv) (now rfl))
  by_cases h0 : l.length = 0
  · rw [if_pos (.inl h0)]
    exact pos (by omega) add
  · rw [w64 (x := (l.length : Int) - 1) (by omega) (by omega)]
    refine neg (by omega) (pos (by omega) (pos (by omega) (Ev.bind (spec_EqualInts_ev (lastE l).f1 v (lastE_short l he h0)) ?_)))
    by_cases h1 : (lastE l).f1 = v
    · rw [if_neg (fun g => g.elim h0 (fun g => g h1)), decide_eq_true h1]
      refine shift ?_
      simp only [spec_NoteLights.j0]
      rw [w64 (x := (l.length : Int) - 1) (by omega) (by omega)]
      refine neg (by decide) (Ev.bind (spec_l27Copy_ev l (by omega) he) (Ev.bind (spec_IsRecord_ev l (by omega) he) ?_))
      by_cases h2 : isRecord l = true
      · refine pos h2 (pos (by omega) (pos (by omega) ?_))
        rw [h2, Bool.true_and]
        by_cases h3 : s > (lastE l).f0
        · exact pos h3 (bindc (spec_l1In_eq _ _ _) (now (by rw [decide_eq_true h3, Bool.true_and])))
        · exact neg h3 (now (by rw [decide_eq_false h3, Bool.false_and]))
      · exact neg h2 (now (by simp [h2]))
    · rw [if_pos (.inr h1), decide_eq_false h1]
      exact add

theorem slices_Equal_int_int_ev (a b : List Int) (ha : a.length ≤ 1048576) : Ev (fun k => slices_Equal_int_int.f k a b) (decide (a = b)) := by
  unfold slices_Equal_int_int.f
  by_cases h : a.length = b.length
  · refine pos (by omega) ?_
    rw [← eqAll h]
    refine all_loop (g := fun k j => slices_Equal_int_int.l0 k a b (a.length : Int) (j : Int)) b.length (fun i => decide (rd a (i : Int) = rd b (i : Int))) true ?_ ?_ ?_ |> (fun h => by simpa using h)
    · intro j r hj ok hh
      refine shift ?_
      simp only [slices_Equal_int_int.l0]
      rw [succ_wrap (by omega)]
      exact pos (by omega) (pos (by omega) (pos (by omega) (pos (by omega) (pos (of_decide_eq_true ok) hh))))
    · intro j hj ok
      refine shift ?_
      simp only [slices_Equal_int_int.l0]
      exact pos (by omega) (pos (by omega) (pos (by omega) (pos (by omega) (neg (of_decide_eq_false ok) (now rfl)))))
    · refine shift ?_
      simp only [slices_Equal_int_int.l0]
      exact neg (by omega) (now rfl)
  · refine neg (by omega) (now ?_)
    rw [decide_eq_false (fun e => h (by rw [e]))]

theorem impl_NoteLights_ev (l : List S47) (s : Int) (v : List Int) (hl : l.length ≤ 1048576) (he : ∀ x ∈ l, x.f1.length ≤ 1048576) (hv : v.length ≤ 1048576) : Ev (fun k => impl_NoteLights.f k l s v) (noteE l s v) := by
  unfold impl_NoteLights.f noteE
  have add : Ev (fun k => impl_NoteLights.j0 k l s v true) (addE l s v) := by
    refine shift ?_
    simp only [impl_NoteLights.j0]
    exact pos trivial (Ev.bind (impl_AddEntry_ev l s v hl he hv) (now rfl))
  by_cases h0 : l.length = 0
  · rw [if_pos (.inl h0)]
    exact pos (by omega) add
  · rw [w64 (x := (l.length : Int) - 1) (by omega) (by omega)]
    refine neg (by omega) (pos (by omega) (pos (by omega) (Ev.bind (slices_Equal_int_int_ev (lastE l).f1 v (lastE_short l he h0)) ?_)))
    by_cases h1 : (lastE l).f1 = v
    · rw [if_neg (fun g => g.elim h0 (fun g => g h1)), decide_eq_true h1]
      refine shift ?_
      simp only [impl_NoteLights.j0]
      rw [w64 (x := (l.length : Int) - 1) (by omega) (by omega)]
      refine neg (by decide) (Ev.bind (impl_cloneRecord_ev l (by omega) he) (Ev.bind (impl_IsRecord_ev l (by omega) he) ?_))
      by_cases h2 : isRecord l = true
      · refine pos h2 (pos (by omega) (pos (by omega) ?_))
        rw [h2, Bool.true_and]
        by_cases h3 : s > (lastE l).f0
        · exact pos h3 (bindc (impl_InRange_eq _ _ _) (now (by rw [decide_eq_true h3, Bool.true_and])))
        · exact neg h3 (now (by rw [decide_eq_false h3, Bool.false_and]))
      · exact neg h2 (now (by simp [h2]))
    · rw [if_pos (.inr h1), decide_eq_false h1]
      exact add

theorem FnExactNoteLights (l : List S69) (hw : wfS 40 wf69 l) (a : Int) (ha : I64 a) (v : List Int) (hv : wfS 8 I64 v) : ∃ k, laws_FnExactNoteLights.f k l a v = some true := by
  refine Ev.rounds ?_
  have hm := hw.2.1
  have hme : ∀ x ∈ l, x.f1.length ≤ 140737488355328 := fun x hx => by have := (hw.2.2 x hx).2.1.2.1; omega
  unfold laws_FnExactNoteLights.f
  by_cases hv0 : (v.length : Int) > 1048576
  · exact pos hv0 (now rfl)
  have hvl : v.length ≤ 1048576 := by omega
  obtain ⟨r, hr, _, hl⟩ := laws_szEntryS_ev l 1048576 (by omega) (by omega) (by omega) hme
  refine neg hv0 (Ev.bind hr ?_)
  by_cases h : r < 0
  · exact pos h (now rfl)
  obtain ⟨hl, he⟩ := hl h
  have hc : (l.map cEntry).length ≤ 1048577 := by simp; omega
  have hc0 : (l.map cEntry).length ≤ 1048576 := by simpa using hl
  have he2 := cEntry_short l he
  have mE := endE_range (l.map cEntry) 1 he2
  have hg := noteE_short (l.map cEntry) a v he2 hvl
  have hgl := noteE_length (l.map cEntry) a v
  have hgl1 : (noteE (l.map cEntry) a v).1.length ≤ 1048577 := by omega
  have mG := endE_range (noteE (l.map cEntry) a v).1 1 hg
  have hto := laws_toEntryS_ev l hl he
  have htv := laws_toIntS_ev v (by omega)
  have him := impl_NoteLights_ev (l.map cEntry) a v hc0 he2 hvl
  have heq := laws_eqEntryS_refl' _ hgl1 hg
  refine neg h (Ev.bind hto (Ev.bind htv (Ev.bind (spec_NoteLights_ev _ a v hc0 he2 hvl) (Ev.bind hto (Ev.bind htv (Ev.bind him (Ev.bind heq (pos rfl (pos rfl ?_)))))))))
  refine Ev.bind hto (Ev.bind (laws_eqEntryS_refl' _ hc he2) (pos rfl (Ev.bind htv (Ev.bind (laws_eqIntS_refl _ (by omega)) (pos rfl ?_)))))
  refine Ev.bind (laws_markEntryS_ev _ hc he2) (Ev.bind (laws_markIntS_ev v _ (by dsimp only; omega) (by dsimp only; omega) (by omega)) (neg (by dsimp only; omega) (Ev.bind heq (pos rfl (pos rfl ?_)))))
  have held := laws_heldEntryS_ev (noteE (l.map cEntry) a v).1 hgl1 hg
  refine Ev.bind (laws_markEntryS_ev _ hgl1 hg) (Ev.bind held (neg (by omega) (pos rfl ?_)))
  exact Ev.bind hto (Ev.bind htv (Ev.bind him (Ev.bind heq (pos rfl (pos rfl (Ev.bind held (neg (by omega) (pos rfl (now rfl)))))))))

end Go.Proofs.Ytmpncnphndafnab.PureFnExactNoteLights
end

section
namespace Go.Proofs.Ytmpncnphndafnab.fnExactNoteLights
open Go.ChangeShapes Go.WideShapes Go.ChangeAt Go.RowKit
open Go.Proofs.YtmpncnphndafnabW.PrintWords Go.Proofs.Ytmpncnphndafnab.PEnt Go.Proofs.Ytmpncnphndafnab.Opens Go.Proofs.Ytmpncnphndafnab.Aid Go.Proofs.Ytmpncnphndafnab.PureFnExactNoteLights
set_option linter.unusedVariables false
theorem own : ownKnob Try.prog.godebug = none := by kernel_rfl
theorem laidOut : laidOutB Try.prog = true := by kernel_rfl
theorem o69 : Opens Try.prog 69 k69 wf69 := opens_struct (fun x : S69 => (x.f0, x.f1, x.f2)) (fun p => (⟨p.1, p.2.1, p.2.2⟩ : S69)) (fun _ => rfl) Try.underlying69 (by kernel_rfl) (opensF_cons rfl (opens_int Try.underlying3 (by kernel_rfl)) (opensF_cons rfl (opens_slice Try.underlying24 (by kernel_rfl) (B := 8) (by kernel_rfl) (opens_int Try.underlying3 (by kernel_rfl))) (opensF_last rfl (opens_int Try.underlying3 (by kernel_rfl)))))
theorem arg0 : Opens Try.prog 22 (Kd.slice 69 k69) (wfS 40 wf69) := (opens_slice Try.underlying22 (by kernel_rfl) (B := 40) (by kernel_rfl) o69)
theorem arg2 : Opens Try.prog 24 (Kd.slice 3 (Kd.int .i64)) (wfS 8 I64) := (opens_slice Try.underlying24 (by kernel_rfl) (B := 8) (by kernel_rfl) (opens_int Try.underlying3 (by kernel_rfl)))
set_option maxRecDepth 100000 in
theorem lifted (os : Os) (started : os.Started) (H : Type) (enc : TypeId × Value → H) :
    ReturnsInHanded {} Try.checked os 5 .any (Rows.fnExactNoteLightsSpec.pre6 enc Try.prog Try.f5 Rows.fnExactNoteLightsRow.domain false) (Rows.fnExactNoteLightsSpec.post enc Try.prog Try.f5 false true false false) := by
  refine returnsInHanded_of_change_sized (C := Try.checked) own started (by kernel_rfl) Try.func5
    (ChangeSpec.witness6 (enc := enc) (C := Try.checked) false ⟨#[], #[.slice none 0 0, .int .i64 0, .slice none 0 0], []⟩ 8 (by kernel_rfl) (by kernel_rfl) (by kernel_rfl) (by kernel_rfl)) ?_
  intro W base args ds gs before hval0 hW hcnd hsz0 _
  have hsz : (DataW.weightsEach Try.prog (Try.f5.params.toList ++ Rows.fnExactNoteLightsSpec.plain.varTypes Try.prog) (ds ++ gs)).all (· ≤ reachBytes) = true := hsz0
  have hval : ∀ (j : Nat) t v, Try.f5.params[j]? = some t → args[j]? = some v → Value.okWide Try.prog W .any base t v := hval0
  have hW' := hW
  obtain ⟨p, q, hA0, hV, rfl, hfz, hnd⟩ := hW
  have hA : DataW.TrodAll enc Try.prog W 0 (fun _ => true) true Try.f5.params.toList args.toList ds p := hA0
  rw [Try.params5] at hA hval hsz
  obtain ⟨v0, vs0, d0, ds0, p0, q0, hargs, rfl, rfl, h0, r0⟩ := trodAll_cons hA
  obtain ⟨v1, vs1, d1, ds1, p1, q1, rfl, rfl, rfl, h1, r1⟩ := trodAll_cons r0
  obtain ⟨v2, vs2, d2, ds2, p2, q2, rfl, rfl, rfl, h2, r2⟩ := trodAll_cons r1
  obtain ⟨rfl, rfl, rfl⟩ := trodAll_nil r2
  obtain rfl : args = #[v0, v1, v2] := by cases args; simp_all
  obtain ⟨rfl, rfl⟩ := trodVars_none hV
  have k0 := h0
  have lt0 : ∀ x ∈ p0, x.block < W.heap.size := by obtain ⟨m, hm⟩ := k0; exact DataW.trod_lt m _ _ _ hm
  obtain ⟨x0, hK0, hW0⟩ := opens_arg arg0 hsz (j := 0) rfl rfl h0
  obtain ⟨A0, c0, rfl, hc0, hC0⟩ := opens_row Try.underlying22 (hval 0 22 v0 rfl rfl) hK0
  obtain ⟨a1, rfl, rfl, rfl, w1⟩ := open_int Try.underlying3 (hval 1 3 v1 rfl rfl) h1
  have k2 := h2
  have lt2 : ∀ x ∈ p2, x.block < W.heap.size := by obtain ⟨m, hm⟩ := k2; exact DataW.trod_lt m _ _ _ hm
  obtain ⟨x2, hK2, hW2⟩ := opens_arg arg2 hsz (j := 2) rfl rfl h2
  obtain ⟨A2, c2, rfl, hc2, hC2⟩ := opens_row Try.underlying24 (hval 2 24 v2 rfl rfl) hK2
  clear hA0 hval0 hsz0 hsz
  obtain ⟨k, hk⟩ := Go.Proofs.Ytmpncnphndafnab.PureFnExactNoteLights.FnExactNoteLights x0 hW0 a1 (i64_of w1) x2 hW2
  refine (laws_FnExactNoteLights.calls k _ _ x0 a1 _ _ x2 true W hC0 hc0 hC2 hc2 hk).mono fun e W' ⟨he, bel0⟩ => ?_
  have bel : Below W.heap.size W W' := by first | exact bel0 | exact bel0.below
  subst he
  exact ⟨_, rfl, _, _, _, [], _, [], hW', trodAll_mk1 (shut_bool Try.underlying4 _), (trodAll_cons_mk (Below.trod laidOut (by kernel_rfl) (of_decide_eq_true (by kernel_rfl)) k0 bel lt0) (trodAll_cons_mk (shut_int Try.underlying3 w1) (trodAll_cons_mk (Below.trod laidOut (by kernel_rfl) (of_decide_eq_true (by kernel_rfl)) k2 bel lt2) trodAll_mk0))), rfl, bel.frame _, fun h => by cases h⟩
theorem over : Rows.fnExactNoteLightsRow.holds Try.pinned (OpenSpec.ofChange Rows.fnExactNoteLightsSpec) :=
  OpenClaim.holds_of_wide 5 Try.f5 rfl rfl rfl rfl rfl rfl rfl ⟨rfl, rfl, rfl, rfl, rfl⟩ rfl rfl rfl rfl rfl (by kernel_rfl) Try.func5 (by kernel_rfl)
    (of_decide_eq_true (by kernel_rfl)) (by unfold Func.isWrapper; first | (rw [if_pos (by decide +kernel)]; kernel_rfl) | (rw [if_neg (by decide +kernel)]; exact ⟨rfl, rfl⟩))
    (fun os started H enc _ => lifted os started H enc)
theorem proved : Rows.FnExactNoteLightsSaid := over
#print axioms proved
end Go.Proofs.Ytmpncnphndafnab.fnExactNoteLights
namespace Go.Proofs.Ytmpncnphndafnab
/-- The row, under a short name, for the claim. -/
theorem fnExactNoteLights_holds : Rows.FnExactNoteLightsSaid := fnExactNoteLights.proved
end Go.Proofs.Ytmpncnphndafnab
end
