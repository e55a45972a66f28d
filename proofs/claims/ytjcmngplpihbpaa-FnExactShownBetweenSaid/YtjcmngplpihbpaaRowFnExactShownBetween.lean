/- The statement FnExactShownBetween, whole: for every input the law returns true and leaves its arguments as they were; no condition. Out of the contract of the law's walk and the pure theorem. -/
import Derived.Test.YtjcmngplpihbpaaBFnExactShownBetween0
import Derived.Test.YtjcmngplpihbpaaBFnExactShownBetween1
import Derived.Test.YtjcmngplpihbpaaBFnExactShownBetween2
import Derived.Test.YtjcmngplpihbpaaBFnExactShownBetween3
import Derived.Test.YtjcmngplpihbpaaBFnExactShownBetween4
import Derived.Test.YtjcmngplpihbpaaBFnExactShownBetween5
import Derived.Test.YtjcmngplpihbpaaBFnExactShownBetween6
import Derived.Test.YtjcmngplpihbpaaWWords
import Derived.Test.YtjcmngplpihbpaaWMore
import Derived.SizedLaws
import Derived.ChangeSlices
import Derived.ChangeArms
import Derived.WideShapes
import Derived.Below
import Derived.Test.YtjcmngplpihbpaaRows
import Derived.WalkKit
import Derived.ProofKit
import Derived.OpenShut
import Derived.ShutString
import Derived.ChangeOld
section
namespace Go.Proofs.Ytjcmngplpihbpaa.Aid
open Go.RowKit Go.Proofs.YtjcmngplpihbpaaW.PrintWords Go.Proofs.YtjcmngplpihbpaaW.PrintMore
set_option linter.unusedVariables false

theorem w64 {x : Int} (h0 : -9223372036854775808 ≤ x) (h1 : x ≤ 9223372036854775807) : wrap64 x = x := by
  unfold wrap64
  omega
theorem w64_range (x : Int) : -9223372036854775808 ≤ wrap64 x ∧ wrap64 x ≤ 9223372036854775807 := by
  unfold wrap64
  omega
/-- A number of Go's int. -/
def I64 (x : Int) : Prop := -9223372036854775808 ≤ x ∧ x ≤ 9223372036854775807
theorem i64_of {x : Int} (h : (Lit.int .i64 x).wf = true) : I64 x := by
  simp [Lit.wf, IntKind.min, IntKind.max, IntKind.bits, IntKind.signed] at h
  unfold I64
  omega

/-- A byte. -/
def U8 (x : Int) : Prop := 0 ≤ x ∧ x ≤ 255
theorem u8_of {x : Int} (h : (Lit.int .u8 x).wf = true) : U8 x := by
  simp [Lit.wf, IntKind.min, IntKind.max, IntKind.bits, IntKind.signed] at h
  unfold U8
  omega

/-- A slice within the reach (B: an element's bytes), all of whose elements are as WF says. -/
def wfS {α : Type} (B : Nat) (WF : α → Prop) (xs : List α) : Prop := xs.length ≤ maxLen ∧ xs.length * B ≤ 140737488351232 ∧ ∀ x ∈ xs, WF x

theorem shift {α : Type} {g : Nat → Option α} {r : α} (h : Ev (fun k => g (k + 1)) r) : Ev g r := Ev.step (fun _ => rfl) h
theorem pos {α : Type} {c : Prop} [Decidable c] {a b : Nat → Option α} {r : α} (hc : c) (h : Ev a r) : Ev (fun k => if c then a k else b k) r := by
  simpa only [if_pos hc] using h
theorem neg {α : Type} {c : Prop} [Decidable c] {a b : Nat → Option α} {r : α} (hc : ¬ c) (h : Ev b r) : Ev (fun k => if c then a k else b k) r := by
  simpa only [if_neg hc] using h
theorem now {α : Type} {r s : α} (h : r = s) : Ev (fun _ => some r) s := h ▸ Ev.now r
theorem known {α : Type} {x : Option α} {r : α} (h : x = some r) : Ev (fun _ => x) r := h ▸ Ev.now r
theorem bindc {α β : Type} {x : Option α} {f : Nat → α → Option β} {a : α} {r : β} (h : x = some a) (k : Ev (fun n => f n a) r) : Ev (fun n => x.bind (f n)) r := by
  subst h
  exact k
theorem same {α : Type} {g : Nat → Option α} {r s : α} (h : Ev g r) (e : r = s) : Ev g s := e ▸ h
theorem of_const {α : Type} {x : Option α} {r : α} (h : Ev (fun _ => x) r) : x = some r := by
  obtain ⟨k, hk⟩ := Ev.rounds h
  exact hk

/-- A loop whose round j leads from state j to state j + 1, and whose N-th state is its end. -/
theorem loop {α : Type} {g : Nat → Nat → Option α} {r : α} (N : Nat) (hs : ∀ j, j < N → Ev (fun k => g k (j + 1)) r → Ev (fun k => g k j) r) (he : Ev (fun k => g k N) r) : Ev (fun k => g k 0) r := by
  have : ∀ d j, j + d = N → Ev (fun k => g k j) r := by
    intro d
    induction d with
    | zero =>
      intro j hj
      have : j = N := by omega
      subst this
      exact he
    | succ d ih => exact fun j hj => hs j (by omega) (ih (j + 1) (by omega))
  exact this N 0 (by omega)
/-- The same from state i on. -/
theorem loop_from {α : Type} {g : Nat → Nat → Option α} {r : α} (i N : Nat) (hi : i ≤ N) (hs : ∀ j, i ≤ j → j < N → Ev (fun k => g k (j + 1)) r → Ev (fun k => g k j) r) (he : Ev (fun k => g k N) r) : Ev (fun k => g k i) r := by
  have : ∀ d j, i ≤ j → j + d = N → Ev (fun k => g k j) r := by
    intro d
    induction d with
    | zero =>
      intro j _ hj
      have : j = N := by omega
      subst this
      exact he
    | succ d ih => exact fun j h0 hj => hs j h0 (by omega) (ih (j + 1) (by omega) (by omega))
  exact this (N - i) i (Nat.le_refl _) (by omega)

theorem rd_nat (xs : List Int) (j : Nat) : rd xs (j : Int) = xs.getD j 0 := by simp [rd]
theorem rd_get (xs : List Int) (j : Nat) (h : j < xs.length) : rd xs (j : Int) = xs[j] := by simp [rd, h]
theorem nat_lt {a b : Nat} (h : a < b) : (a : Int) < (b : Int) := by omega
theorem nat_ge {a b : Nat} (h : b ≤ a) : ¬ (a : Int) < (b : Int) := by omega
theorem succ_wrap {j : Nat} (h : j < 9223372036854775807) : wrap64 ((j : Int) + 1) = ((j + 1 : Nat) : Int) := by
  rw [w64 (by omega) (by omega)]
  omega

/-- A loop that fills a row, one place a round. -/
theorem copied {α β : Type} {g : Nat → List β → Int → Option (List β)} (l : List α) (f : α → β) (z : β) (hs : ∀ (j : Nat) (hj : j < l.length) (y : List β) (r : List β), y.length = l.length → Ev (fun k => g k (y.set j (f l[j])) ((j + 1 : Nat) : Int)) r → Ev (fun k => g k y (j : Int)) r)
    (he : ∀ y, Ev (fun k => g k y (l.length : Int)) y) : Ev (fun k => g k (List.replicate l.length z) 0) (l.map f) := by
  refine loop (g := fun k j => g k ((l.map f).take j ++ List.replicate (l.length - j) z) (j : Int)) (r := l.map f) l.length ?_ ?_ |> (fun h => by simpa using h)
  · intro j hj h
    refine hs j hj _ _ (by simp; omega) ?_
    refine Eq.mp ?_ h
    congr 1
    funext k
    congr 1
    rw [List.set_append_right _ _ (by simp; omega)]
    have h1 : (l.map f).take (j + 1) = (l.map f).take j ++ [f l[j]] := by
      rw [List.take_succ_eq_append_getElem (by simpa using hj)]
      simp
    have h2 : l.length - j = (l.length - (j + 1)) + 1 := by omega
    have h3 : j - ((l.map f).take j).length = 0 := by simp; omega
    rw [h1, h3, h2, List.replicate_succ, List.set_cons_zero]
    simp
  · have h := he (l.map f)
    have e : (l.map f).take l.length = l.map f := List.take_of_length_le (by simp)
    simpa [e] using h

/-- A loop that looks at each place and answers no at the first that is not as it ought to be. -/
theorem all_loop {g : Nat → Nat → Option Bool} (N : Nat) (ok : Nat → Bool) (b : Bool) (hs : ∀ j r, j < N → ok j = true → Ev (fun k => g k (j + 1)) r → Ev (fun k => g k j) r)
    (hf : ∀ j, j < N → ok j = false → Ev (fun k => g k j) false) (he : Ev (fun k => g k N) b) : Ev (fun k => g k 0) ((List.range N).all ok && b) := by
  have : ∀ d j, j + d = N → Ev (fun k => g k j) ((List.range' j d).all ok && b) := by
    intro d
    induction d with
    | zero =>
      intro j hj
      have : j = N := by omega
      subst this
      simpa using he
    | succ d ih =>
      intro j hj
      rw [List.range'_succ, List.all_cons]
      cases h : ok j with
      | true => simpa using hs j _ (by omega) h (ih (j + 1) (by omega))
      | false => simpa using hf j (by omega) h
  have h := this N 0 (by omega)
  rwa [← List.range_eq_range'] at h
/-- The same where all places are as they ought to be, .. -/
theorem ok_loop {α : Type} {g : Nat → Nat → Option α} (N : Nat) (ok : Nat → Bool) {r : α} (h : (List.range N).all ok = true) (hs : ∀ j r, j < N → ok j = true → Ev (fun k => g k (j + 1)) r → Ev (fun k => g k j) r)
    (he : Ev (fun k => g k N) r) : Ev (fun k => g k 0) r :=
  loop N (fun j hj hn => hs j r hj (List.all_eq_true.1 h j (List.mem_range.2 hj)) hn) he
/-- .. and where one isn't: the first that isn't decides. -/
theorem bad_loop {α : Type} {g : Nat → Nat → Option α} (N : Nat) (ok : Nat → Bool) (r : α) (h : ¬ (List.range N).all ok = true) (hs : ∀ j r, j < N → ok j = true → Ev (fun k => g k (j + 1)) r → Ev (fun k => g k j) r)
    (hf : ∀ j, j < N → ok j = false → Ev (fun k => g k j) r) : Ev (fun k => g k 0) r := by
  have : ∀ d j, j + d = N → ¬ (List.range' j d).all ok = true → Ev (fun k => g k j) r := by
    intro d
    induction d with
    | zero => exact fun j _ hn => absurd rfl hn
    | succ d ih =>
      intro j hj hn
      rw [List.range'_succ, List.all_cons] at hn
      cases ho : ok j with
      | true => exact hs j _ (by omega) ho (ih (j + 1) (by omega) (by simpa [ho] using hn))
      | false => exact hf j (by omega) ho
  exact this N 0 (by omega) (by rwa [← List.range_eq_range'])
/-- n numbers from a on. -/
def iota (a : Int) (n : Nat) : List Int := (List.range n).map fun (i : Nat) => a + (i : Int)
theorem iota_length (a : Int) (n : Nat) : (iota a n).length = n := by simp [iota]
theorem iota_get (a : Int) (n j : Nat) (h : j < n) : rd (iota a n) (j : Int) = a + j := by simp [rd, iota, h]
theorem iota_set (a : Int) (l : List Int) (j : Nat) (h : j < l.length) : (iota a j ++ l.drop j).set j (a + j) = iota a (j + 1) ++ l.drop (j + 1) := by
  rw [List.set_append_right _ _ (by rw [iota_length]; exact Nat.le_refl _), iota_length, Nat.sub_self, List.drop_eq_getElem_cons h, List.set_cons_zero]
  have : iota a (j + 1) = iota a j ++ [a + j] := by simp [iota, List.range_succ]
  rw [this]
  simp
end Go.Proofs.Ytjcmngplpihbpaa.Aid
end

section
namespace Go.Proofs.Ytjcmngplpihbpaa.Opens
open Go.ChangeShapes Go.WideShapes Go.RowKit Go.Proofs.YtjcmngplpihbpaaW.PrintWords Go.Proofs.Ytjcmngplpihbpaa.Aid
set_option linter.unusedVariables false

/-- Whatever can be read as data of type t is of kind kd, and meets WF. -/
def Opens {α : Type} (P : Program) (t : TypeId) (kd : Kd α) (WF : α → Prop) : Prop :=
  P.cellsOf t = kd.sz ∧ ∀ (H : Type) (enc : TypeId × Value → H) (w : World) (base : Nat) (spare : Nat → Bool) (held : Bool) (fuel : Nat) (cs : List Value) (d : DataW H) (ps : List MemPlace),
    DataW.trod enc P w base spare held fuel t cs = some (d, ps) → (∀ n ∈ d.weights P t, n ≤ reachBytes) → ∃ x, kd.K w x cs ∧ WF x

theorem opens_int {P : Program} {t : TypeId} (ht : P.underlying t = some (.int .i64)) (hc : P.cellsOf t = 1) : Opens P t (Kd.int .i64) I64 := by
  refine ⟨hc, fun H enc w base spare held fuel cs d ps h _ => ?_⟩
  obtain ⟨n, rfl, _, hw⟩ := DataW.trod_int ht h
  exact ⟨n, rfl, i64_of hw⟩

/-- The same of bytes. -/
theorem opens_u8 {P : Program} {t : TypeId} (ht : P.underlying t = some (.int .u8)) (hc : P.cellsOf t = 1) : Opens P t (Kd.int .u8) U8 := by
  refine ⟨hc, fun H enc w base spare held fuel cs d ps h _ => ?_⟩
  obtain ⟨n, rfl, _, hw⟩ := DataW.trod_int ht h
  exact ⟨n, rfl, u8_of hw⟩

theorem opens_bool {P : Program} {t : TypeId} (ht : P.underlying t = some .bool) (hc : P.cellsOf t = 1) : Opens P t Kd.bool (fun _ => True) := by
  refine ⟨hc, fun H enc w base spare held fuel cs d ps h _ => ?_⟩
  obtain ⟨b, rfl, _⟩ := DataW.trod_bool ht h
  exact ⟨b, rfl, trivial⟩

theorem weights_elem {H : Type} {P : Program} {e : TypeId} {n : Nat} : ∀ {ds : List (DataW H)} {d : DataW H}, d ∈ ds → n ∈ d.weights P e → n ∈ DataW.weightsAll P e ds
  | [], _, h, _ => by simp at h
  | d0 :: r, d, h, hn => by
    rw [DataW.weightsAll]
    rcases List.mem_cons.1 h with rfl | h
    · exact List.mem_append_left _ hn
    · exact List.mem_append_right _ (weights_elem h hn)

theorem choose_list {α : Type} {n : Nat} {Q : Nat → α → Prop} (h : ∀ i, i < n → ∃ x, Q i x) : ∃ xs : List α, xs.length = n ∧ ∀ i x, xs[i]? = some x → Q i x := by
  induction n with
  | zero => exact ⟨[], rfl, fun i x hx => by simp at hx⟩
  | succ n ih =>
    obtain ⟨xs, hl, hx⟩ := ih (fun i hi => h i (by omega))
    obtain ⟨y, hy⟩ := h n (by omega)
    refine ⟨xs ++ [y], by simp [hl], fun i x hi => ?_⟩
    by_cases hlt : i < n
    · rw [List.getElem?_append_left (by omega)] at hi
      exact hx i x hi
    · have hl2 := (List.getElem?_eq_some_iff.1 hi).1
      simp at hl2
      have : i = n := by omega
      subst this
      rw [List.getElem?_append_right (by omega)] at hi
      simp [hl] at hi
      exact hi ▸ hy

theorem opens_slice {α : Type} {P : Program} {t e : TypeId} {kd : Kd α} {WF : α → Prop} (ht : P.underlying t = some (.slice e)) (hc : P.cellsOf t = 1) {B : Nat} (hB : P.bytesOf e = B) (he : Opens P e kd WF) :
    Opens P t (Kd.slice e kd) (wfS B WF) := by
  subst hB
  refine ⟨hc, fun H enc w base spare held fuel cs d ps h hw => ?_⟩
  rcases DataW.trod_slice ht h with ⟨rfl, _⟩ | ⟨a, len, cap, elems, rest, n, _, rfl, hx, hb, hl, hm, hlen, hel, _, _⟩
  · exact ⟨[], ⟨none, 0, rfl, Nat.le_refl _, ⟨rfl, by simp, fun h => absurd h (by simp)⟩⟩, by simp [maxLen], by simp, by simp⟩
  · simp only [Prod.mk.injEq] at hx
    obtain ⟨rfl, _⟩ := hx
    have each : ∀ i, i < len → ∃ x, (∃ c, c.length = kd.sz ∧ kd.K w x c ∧ ∀ j u, c[j]? = some u → w.cell? (a.add (i * kd.sz + j)) = some u) ∧ WF x := by
      intro i hi
      have h1 := hel i hi
      have h2 : i < elems.length := by omega
      rw [List.getElem?_eq_getElem h2] at h1
      obtain ⟨c, hc1, hc2⟩ := Option.bind_eq_some_iff.1 h1
      obtain ⟨_, hcl, hcc⟩ := World.cells?_some hc1
      obtain ⟨x, hx1, hx2⟩ := he.2 H enc w base spare held n c elems[i].1 elems[i].2 hc2 (fun m hm' => hw m (by
        rw [DataW.weights, ht]
        simp only [List.mem_cons, List.mem_append]
        exact .inr (.inl (weights_elem (List.mem_map.2 ⟨elems[i], List.getElem_mem h2, rfl⟩) hm'))))
      refine ⟨x, ⟨c, by rw [hcl, he.1], hx1, fun j u hj => ?_⟩, hx2⟩
      have hj2 := (List.getElem?_eq_some_iff.1 hj).1
      have := hcc j (by omega)
      rw [hj, he.1] at this
      rw [← this, Addr.add_add]
    obtain ⟨xs, hxl, hxs⟩ := choose_list each
    subst hxl
    refine ⟨xs, ⟨some a, cap, rfl, hl, ⟨rfl, by simp [maxLen] at hm; omega, fun _ => ⟨a, rfl, fun j p hj => ?_⟩⟩⟩, by omega, ?_, fun x hx => ?_⟩
    · exact (hxs j p hj).1
    · have := hw ((elems.length + rest.length) * P.bytesOf e) (by rw [DataW.weights, ht]; simp)
      exact Nat.le_trans (Nat.mul_le_mul_right _ (by omega)) this
    · obtain ⟨i, hi⟩ := List.getElem?_of_mem hx
      exact (hxs i x hi).2

/-- The same of a struct's fields from one on, which begins at cell off. -/
def OpensF {α : Type} (P : Program) (fs : List Field) (off : Nat) (kd : Kd α) (WF : α → Prop) : Prop :=
  ∀ (H : Type) (enc : TypeId × Value → H) (w : World) (base : Nat) (spare : Nat → Bool) (held : Bool) (fuel : Nat) (cs : List Value) (ys : List (DataW H × List MemPlace)),
    cs.length = off + kd.sz → ys.length = fs.length → (∀ (i : Nat) (f : Field), fs[i]? = some f → DataW.trod enc P w base spare held fuel f.type ((cs.drop f.offset).take (P.cellsOf f.type)) = ys[i]?) →
    (∀ n ∈ DataW.weightsEach P (fs.map (·.type)) (ys.map (·.1)), n ≤ reachBytes) → ∃ x, kd.K w x (cs.drop off) ∧ WF x

theorem opensF_last {α : Type} {P : Program} {f : Field} {off : Nat} {kd : Kd α} {WF : α → Prop} (ho : f.offset = off) (h : Opens P f.type kd WF) : OpensF P [f] off kd WF := by
  intro H enc w base spare held fuel cs ys hcs hys hf hw
  match ys, hys with
  | [y], _ =>
    have h1 := hf 0 f rfl
    rw [ho, h.1, List.take_of_length_le (by simp; omega)] at h1
    exact h.2 H enc w base spare held fuel _ y.1 y.2 h1 (fun n hn => hw n (by simp [DataW.weightsEach, hn]))

theorem opensF_cons {α β : Type} {P : Program} {f : Field} {fs : List Field} {off : Nat} {kd : Kd α} {kr : Kd β} {WF : α → Prop} {WR : β → Prop} (ho : f.offset = off) (h : Opens P f.type kd WF)
    (hr : OpensF P fs (off + kd.sz) kr WR) : OpensF P (f :: fs) off (Kd.pair kd kr) (fun x => WF x.1 ∧ WR x.2) := by
  intro H enc w base spare held fuel cs ys hcs hys hf hw
  match ys, hys with
  | y :: ys, hys =>
    have h1 := hf 0 f rfl
    rw [ho, h.1] at h1
    obtain ⟨x, hx1, hx2⟩ := h.2 H enc w base spare held fuel _ y.1 y.2 h1 (fun n hn => hw n (by simp [DataW.weightsEach, hn]))
    have hs : (Kd.pair kd kr).sz = kd.sz + kr.sz := rfl
    obtain ⟨z, hz1, hz2⟩ := hr H enc w base spare held fuel cs ys (by omega) (by simpa using hys) (fun i g hg => hf (i + 1) g hg) (fun n hn => hw n (by simp [DataW.weightsEach]; exact .inr (by simpa using hn)))
    refine ⟨(x, z), ⟨_, _, ?_, hx1, hz1⟩, hx2, hz2⟩
    rw [← List.drop_drop, List.take_append_drop]

theorem opens_struct {α β : Type} {P : Program} {t : TypeId} {fs : Array Field} {kd : Kd α} {WF : α → Prop} (f : β → α) (g : α → β) (hg : ∀ x, f (g x) = x) (ht : P.underlying t = some (.struct fs)) (hc : P.cellsOf t = kd.sz)
    (h : OpensF P fs.toList 0 kd WF) : Opens P t (Kd.iso kd f) (fun x => WF (f x)) := by
  refine ⟨hc, fun H enc w base spare held fuel cs d ps hd hw => ?_⟩
  obtain ⟨xs, n, _, hx, hl, hxl, hf⟩ := DataW.trod_struct ht hd
  simp only [Prod.mk.injEq] at hx
  obtain ⟨rfl, _⟩ := hx
  obtain ⟨y, hy1, hy2⟩ := h H enc w base spare held n cs xs (by omega) (by simpa using hxl) (fun i f' hf' => hf i f' (by simpa using hf')) (fun m hm => hw m (by rw [DataW.weights, ht]; simpa using hm))
  refine ⟨g y, ?_, ?_⟩
  · show kd.K w (f (g y)) cs
    rw [hg]
    simpa using hy1
  · show WF (f (g y))
    rw [hg]
    exact hy2

/-- An argument, opened. -/
theorem opens_arg {α : Type} {H : Type} {enc : TypeId × Value → H} {P : Program} {w : World} {base : Nat} {spare : Nat → Bool} {held : Bool} {t : TypeId} {v : Value} {kd : Kd α} {WF : α → Prop} {d : DataW H} {ps : List MemPlace} (h : Opens P t kd WF)
    {ts : List TypeId} {ds : List (DataW H)} {j : Nat} (hsz : (DataW.weightsEach P ts ds).all (· ≤ reachBytes) = true) (ht : ts[j]? = some t) (hd : ds[j]? = some d) (hv : DataW.Trod enc P w base spare held t v d ps) :
    ∃ x, kd.K w x v.cells.toList ∧ WF x := by
  obtain ⟨fuel, hf⟩ := hv
  refine h.2 H enc w base spare held fuel _ d ps hf (fun n hn => ?_)
  have := List.all_eq_true.1 hsz n (DataW.weights_mem_each ht hd n hn)
  simpa using this

/-- A slice argument: its address, its capacity, its row. -/
theorem opens_row {α : Type} {P : Program} {w : World} {t e : TypeId} {r : Reach} {b0 : Nat} {v : Value} {kd : Kd α} {x : List α} (ht : P.underlying t = some (.slice e)) (hval : Value.okWide P w r b0 t v) (h : (Kd.slice e kd).K w x v.cells.toList) :
    ∃ A c, v = .slice A x.length c ∧ x.length ≤ c ∧ Kd.C kd w A x.length x := by
  obtain ⟨a, len, cap, rfl⟩ := okWide_slice ht hval
  obtain ⟨A, c, hv, hl, hC⟩ := h
  simp [Value.cells] at hv
  obtain ⟨rfl, rfl, rfl⟩ := hv
  exact ⟨_, _, rfl, hl, hC⟩

/-- A struct argument by value: its cells. -/
theorem opens_agg {P : Program} {w : World} {t : TypeId} {fs : Array Field} {r : Reach} {b0 : Nat} {v : Value} {cs : List Value} (ht : P.underlying t = some (.struct fs)) (hval : Value.okWide P w r b0 t v) (h : v.cells.toList = cs) :
    v = .agg cs.toArray := by
  obtain ⟨c, rfl, _⟩ := okWide_struct ht hval
  simp [Value.cells] at h
  simp [← h]

end Go.Proofs.Ytjcmngplpihbpaa.Opens
end

section
namespace Go.Proofs.Ytjcmngplpihbpaa.PureFnExactShownBetween
open Go.RowKit Go.Proofs.YtjcmngplpihbpaaW.PrintWords Go.Proofs.YtjcmngplpihbpaaW.PrintLast Go.Proofs.YtjcmngplpihbpaaW.PrintMore Go.Proofs.Ytjcmngplpihbpaa.PWit Go.Proofs.Ytjcmngplpihbpaa.Aid
set_option linter.unusedVariables false
set_option linter.unusedSimpArgs false

/-- Every number of it is one of Go's int, every slice within the reach. -/
def wf53 (x : S53) : Prop := I64 x.f0 ∧ (wfS 8 I64) x.f1 ∧ I64 x.f2

theorem laws_szIntS_eq (l : List Int) (a : Int) (ha : 0 ≤ a) (ha2 : a ≤ 1048576) (hl : l.length ≤ 140737488355328) : ∃ r, laws_szIntS.f l a = some r ∧ r ≤ a ∧ (¬ r < 0 → l.length ≤ 1048576) := by
  unfold laws_szIntS.f
  rw [w64 (by omega) (by omega)]
  by_cases h : a - (l.length : Int) < 0
  · exact ⟨-1, by rw [if_pos h], by omega, by omega⟩
  · exact ⟨_, by rw [if_neg h], by omega, by omega⟩

theorem laws_szEntry_eq (x : S53) (a : Int) (ha : 0 ≤ a) (ha2 : a ≤ 1048576) (hl : x.f1.length ≤ 140737488355328) : ∃ r, laws_szEntry.f x.f0 x.f1 x.f2 a = some r ∧ r ≤ a ∧ (¬ r < 0 → x.f1.length ≤ 1048576) := by
  unfold laws_szEntry.f
  obtain ⟨r, h1, h2, h3⟩ := laws_szIntS_eq x.f1 a ha ha2 hl
  rw [h1, Option.bind_some]
  by_cases h : r < 0
  · exact ⟨-1, by rw [if_pos h], by omega, by omega⟩
  · exact ⟨r, by rw [if_neg h], h2, h3⟩

theorem laws_szEntryS_ev (l : List S53) (a : Int) (ha : 0 ≤ a) (ha2 : a ≤ 1048576) (hl : l.length ≤ 140737488355328) (he : ∀ x ∈ l, x.f1.length ≤ 140737488355328) :
    ∃ r, Ev (fun k => laws_szEntryS.f k l a) r ∧ r ≤ a ∧ (¬ r < 0 → l.length ≤ 1048576 ∧ ∀ x ∈ l, x.f1.length ≤ 1048576) := by
  unfold laws_szEntryS.f
  rw [w64 (by omega) (by omega)]
  by_cases h : a - (l.length : Int) < 0
  · exact ⟨-1, pos h (now rfl), by omega, by omega⟩
  · have main : ∀ (d j : Nat) (b : Int), j + d = l.length → 0 ≤ b → b ≤ 1048576 → ∃ r, Ev (fun k => laws_szEntryS.l0 k l b (j : Int)) r ∧ r ≤ b ∧ (¬ r < 0 → ∀ i (hi : i < l.length), j ≤ i → l[i].f1.length ≤ 1048576) := by
      intro d
      induction d with
      | zero =>
        intro j b hj hb hb2
        refine ⟨b, shift ?_, by omega, fun _ i hi hji => by omega⟩
        simp only [laws_szEntryS.l0]
        exact neg (by omega) (now rfl)
      | succ d ih =>
        intro j b hj hb hb2
        have hjl : j < l.length := by omega
        have hg : rd_T53 l (j : Int) = l[j] := by simp [rd_T53, hjl]
        obtain ⟨r, hr, hra, hrl⟩ := laws_szEntry_eq l[j] b hb hb2 (he _ (List.getElem_mem hjl))
        by_cases hneg : r < 0
        · refine ⟨-1, shift ?_, by omega, by omega⟩
          simp only [laws_szEntryS.l0]
          refine pos (nat_lt hjl) (pos (by omega) ?_)
          rw [hg]
          exact bindc hr (pos hneg (now rfl))
        · obtain ⟨r2, h1, h2, h3⟩ := ih (j + 1) r (by omega) (by omega) (by omega)
          refine ⟨r2, shift ?_, by omega, fun hn i hi hji => ?_⟩
          · simp only [laws_szEntryS.l0]
            refine pos (nat_lt hjl) (pos (by omega) ?_)
            rw [hg, succ_wrap (by omega)]
            exact bindc hr (neg hneg h1)
          · by_cases e : i = j
            · subst e
              exact hrl hneg
            · exact h3 hn i hi (by omega)
    obtain ⟨r, h1, h2, h3⟩ := main l.length 0 (a - (l.length : Int)) (by omega) (by omega) (by omega)
    refine ⟨r, neg h (by simpa using h1), by omega, fun hn => ⟨by omega, fun x hx => ?_⟩⟩
    obtain ⟨i, hi, rfl⟩ := List.getElem_of_mem hx
    exact h3 hn i hi (by omega)

theorem spec_l1In_eq (a b c : Int) : spec_l1In.f a b c = some (decide (b ≤ a ∧ a ≤ c)) := by
  unfold spec_l1In.f
  by_cases h : b ≤ a
  · rw [if_pos h]
    simp [h]
  · rw [if_neg h]
    simp [h]

theorem tmod_emod {a m : Int} (hm : 0 < m) : Int.tmod a m = if Int.tmod a m < 0 then a % m - m else a % m := by
  have h1 := Int.emod_nonneg a (by omega : m ≠ 0)
  have h2 := Int.emod_lt_of_pos a hm
  have h3 := Int.tmod_eq_emod (a := a) (b := m)
  by_cases hc : 0 ≤ a ∨ m ∣ a
  · rw [if_pos hc] at h3
    rw [if_neg (by omega)]
    omega
  · rw [if_neg hc] at h3
    rw [if_pos (by omega)]
    omega
theorem tmod_range {a m : Int} (hm : 0 < m) : -m ≤ Int.tmod a m ∧ Int.tmod a m < m := by
  have h := tmod_emod (a := a) hm
  have h1 := Int.emod_nonneg a (by omega : m ≠ 0)
  have h2 := Int.emod_lt_of_pos a hm
  by_cases hc : Int.tmod a m < 0
  · rw [if_pos hc] at h
    omega
  · rw [if_neg hc] at h
    omega
theorem spec_Mod_eq (a m : Int) (h1 : 1 ≤ m) (h2 : m ≤ 1000000000000) : spec_Mod.f a m = some (a % m) := by
  unfold spec_Mod.f
  rw [spec_l1In_eq, Option.bind_some, if_pos (by simp [h1, h2]), if_neg (by omega)]
  have hr := tmod_range (a := a) (m := m) (by omega)
  have he := tmod_emod (a := a) (m := m) (by omega)
  have h3 := Int.emod_nonneg a (by omega : m ≠ 0)
  have h4 := Int.emod_lt_of_pos a (by omega : 0 < m)
  rw [w64 (by omega) (by omega), Int.tmod_eq_emod_of_nonneg (by omega)]
  congr 1
  by_cases hn : Int.tmod a m < 0
  · rw [if_pos hn] at he
    rw [he, show a % m - m + m = a % m by omega, Int.emod_emod_of_dvd _ (Int.dvd_refl m)]
  · rw [if_neg hn] at he
    rw [he, Int.add_emod_right, Int.emod_emod_of_dvd _ (Int.dvd_refl m)]

/-- One more value taken into a hash. -/
def hstep (acc v : Int) : Int := (acc * 1000003 + v % 2147483647 + 13) % 2147483647
theorem hstep_range (a v : Int) : 0 ≤ hstep a v ∧ hstep a v < 2147483647 := ⟨Int.emod_nonneg _ (by omega), Int.emod_lt_of_pos _ (by omega)⟩
theorem hfold_range (l : List Int) : ∀ a : Int, 0 ≤ a → a < 2147483647 → 0 ≤ l.foldl hstep a ∧ l.foldl hstep a < 2147483647 := by
  induction l with
  | nil => exact fun a h0 h1 => ⟨h0, h1⟩
  | cons v r ih => exact fun a _ _ => ih _ (hstep_range a v).1 (hstep_range a v).2
theorem hfold_take (l : List Int) (j : Nat) (h : j < l.length) (a : Int) : (l.take (j + 1)).foldl hstep a = hstep ((l.take j).foldl hstep a) l[j] := by
  rw [List.take_succ_eq_append_getElem h, List.foldl_append]
  rfl
theorem hstep_go (a v : Int) (h0 : 0 ≤ a) (h1 : a < 2147483647) : Int.tmod (wrap64 ((wrap64 ((wrap64 (a * 1000003)) + v % 2147483647)) + 13)) 2147483647 = hstep a v := by
  have h2 := Int.emod_nonneg v (by omega : (2147483647 : Int) ≠ 0)
  have h3 := Int.emod_lt_of_pos v (by omega : (0 : Int) < 2147483647)
  rw [w64 (x := a * 1000003) (by omega) (by omega), w64 (x := a * 1000003 + _) (by omega) (by omega), w64 (by omega) (by omega), Int.tmod_eq_emod_of_nonneg (by omega)]
  rfl
theorem spec_Hash_ev (l : List Int) (hl : l.length < 9223372036854775807) : Ev (fun k => spec_Hash.f k l) (l.foldl hstep 11) := by
  unfold spec_Hash.f
  refine loop (g := fun k j => spec_Hash.l0 k l ((l.take j).foldl hstep 11) (j : Int)) l.length ?_ ?_
  · intro j hj h
    refine shift ?_
    simp only [spec_Hash.l0]
    refine pos (nat_lt hj) (pos (by omega) (bindc (spec_Mod_eq _ _ (by omega) (by omega)) ?_))
    obtain ⟨b0, b1⟩ := hfold_range (l.take j) 11 (by omega) (by omega)
    rw [hstep_go _ _ b0 b1, rd_get _ _ hj, ← hfold_take l j hj, succ_wrap (by omega)]
    exact h
  · refine shift ?_
    simp only [spec_Hash.l0]
    exact neg (nat_ge (Nat.le_refl _)) (now (by rw [List.take_length]))

def sealL (b s : Int) (l : List Int) : Int := ([b, s] ++ l).foldl hstep 11
theorem spec_SealOf_ev (b s : Int) (l : List Int) (hl : l.length ≤ 1048576) : Ev (fun k => spec_SealOf.f k b s l) (sealL b s l) := by
  unfold spec_SealOf.f
  refine bindc rfl (pos (by simp; omega) (Ev.bind (spec_Hash_ev _ (by simp; omega)) (now rfl)))

def okLight (v : List Int) (i : Nat) : Bool := decide (0 ≤ rd v i ∧ rd v i ≤ 2)
def prevSeal (l : List S55) (j : Nat) : Int := if j = 0 then 0 else (rd_T55 l ((j : Int) - 1)).f2
theorem prevSeal_succ (l : List S55) (j : Nat) : prevSeal l (j + 1) = (rd_T55 l j).f2 := by
  have e : ((j + 1 : Nat) : Int) - 1 = (j : Int) := by omega
  rw [prevSeal, if_neg (by omega), e]
/-- Entry j is in its ranges, behind the one before, sealed, and as long as the first. -/
def entryHead (l : List S55) (j : Nat) : Prop := 0 ≤ (rd_T55 l j).f0 ∧ (rd_T55 l j).f0 ≤ 1000000 ∧ (rd_T55 l j).f1.length ≤ 12 ∧ (rd_T55 l j).f1.length = (rd_T55 l 0).f1.length ∧
  (rd_T55 l j).f2 = sealL (prevSeal l j) (rd_T55 l j).f0 (rd_T55 l j).f1 ∧ (0 < j → (rd_T55 l ((j : Int) - 1)).f0 < (rd_T55 l j).f0)
instance (l : List S55) (j : Nat) : Decidable (entryHead l j) := by unfold entryHead; infer_instance
def entryLights (l : List S55) (j : Nat) : Bool := (List.range (rd_T55 l j).f1.length).all (okLight (rd_T55 l j).f1)
def okEntry (l : List S55) (j : Nat) : Bool := decide (entryHead l j) && entryLights l j
theorem okEntry_iff (l : List S55) (j : Nat) : okEntry l j = true ↔ entryHead l j ∧ entryLights l j = true := by
  unfold okEntry
  rw [Bool.and_eq_true, decide_eq_true_iff]
def isRecord (l : List S55) : Bool := (List.range l.length).all (okEntry l) && decide (l.length ≤ 60)
theorem isRecord_iff (l : List S55) : isRecord l = true ↔ (∀ j, j < l.length → entryHead l j ∧ entryLights l j = true) ∧ l.length ≤ 60 := by
  unfold isRecord
  rw [Bool.and_eq_true, List.all_eq_true, decide_eq_true_iff]
  exact ⟨fun h => ⟨fun j hj => (okEntry_iff l j).1 (h.1 j (List.mem_range.2 hj)), h.2⟩, fun h => ⟨fun j hj => (okEntry_iff l j).2 (h.1 j (List.mem_range.1 hj)), h.2⟩⟩
theorem entry_short (l : List S55) (he : ∀ x ∈ l, x.f1.length ≤ 1048576) (i : Nat) (hi : i < l.length) : (rd_T55 l i).f1.length ≤ 1048576 := by
  have : rd_T55 l (i : Int) = l[i] := by simp [rd_T55, hi]
  rw [this]
  exact he _ (List.getElem_mem hi)
theorem spec_IsRecord_lights (l : List S55) (s : Int) (j : Nat) (hj : j < l.length) (hx : (rd_T55 l j).f1.length ≤ 1048576) (i : Nat) (hi : i < (rd_T55 l j).f1.length) :
    (∀ r, okLight (rd_T55 l j).f1 i = true → Ev (fun k => spec_IsRecord.l1 k l s (j : Int) ((i + 1 : Nat) : Int)) r → Ev (fun k => spec_IsRecord.l1 k l s (j : Int) (i : Int)) r) ∧
    (okLight (rd_T55 l j).f1 i = false → Ev (fun k => spec_IsRecord.l1 k l s (j : Int) (i : Int)) false) := by
  constructor
  · intro r ok h
    have ok : 0 ≤ rd (rd_T55 l j).f1 i ∧ rd (rd_T55 l j).f1 i ≤ 2 := by simpa [okLight] using ok
    refine shift ?_
    simp only [spec_IsRecord.l1]
    refine pos (by omega) (pos (nat_lt hj) (pos (nat_lt hi) (pos (by omega) (bindc (spec_l1In_eq _ _ _) (pos (by simp [ok]) ?_)))))
    rw [succ_wrap (by omega)]
    exact h
  · intro ok
    have ok : ¬ (0 ≤ rd (rd_T55 l j).f1 i ∧ rd (rd_T55 l j).f1 i ≤ 2) := by simpa [okLight] using ok
    refine shift ?_
    simp only [spec_IsRecord.l1]
    exact pos (by omega) (pos (nat_lt hj) (pos (nat_lt hi) (pos (by omega) (bindc (spec_l1In_eq _ _ _) (neg (by simpa using ok) (now rfl))))))
theorem spec_IsRecord_in (l : List S55) (h60 : l.length ≤ 60) (he : ∀ x ∈ l, x.f1.length ≤ 1048576) : Ev (fun k => spec_IsRecord.l0 k l (prevSeal l 0) 0) ((List.range l.length).all (okEntry l) && true) := by
  refine all_loop (g := fun k j => spec_IsRecord.l0 k l (prevSeal l j) (j : Int)) l.length (okEntry l) true ?_ ?_ ?_
  · intro j r hj ok h
    have hx := entry_short l he j hj
    obtain ⟨⟨h1, h2, h3, h4, h5, h6⟩, hli⟩ := (okEntry_iff l j).1 ok
    refine shift ?_
    simp only [spec_IsRecord.l0]
    refine pos (nat_lt hj) (shift ?_)
    simp only [spec_IsRecord.j1]
    refine pos (by simp; omega) (pos (by omega) (pos (nat_lt hj) (Ev.bind (spec_SealOf_ev _ _ _ hx) (bindc (spec_l1In_eq _ _ _) (pos (by simp [h1, h2]) (neg (by omega) (pos (by omega) (pos (by omega) (pos h5 ?_)))))))))
    have last : Ev (fun k => spec_IsRecord.j2 k l (sealL (prevSeal l j) (rd_T55 l j).f0 (rd_T55 l j).f1) (j : Int) false) r := by
      refine shift ?_
      simp only [spec_IsRecord.j2]
      refine neg (by simp) ?_
      refine ok_loop (g := fun k i => spec_IsRecord.l1 k l _ (j : Int) (i : Int)) (rd_T55 l j).f1.length (okLight (rd_T55 l j).f1) hli (fun i r hi => (spec_IsRecord_lights l _ j hj hx i hi).1 r) (shift ?_)
      simp only [spec_IsRecord.l1]
      refine pos (by omega) (pos (nat_lt hj) (neg (nat_ge (Nat.le_refl _)) ?_))
      rw [succ_wrap (by omega), ← h5, ← prevSeal_succ]
      exact h
    by_cases h0 : (j : Int) > 0
    · rw [w64 (x := (j : Int) - 1) (by omega) (by omega), decide_eq_false (by have := h6 (by omega); omega)]
      exact pos h0 (pos (by omega) (pos (by omega) last))
    · exact neg h0 last
  · intro j hj ok
    have hx := entry_short l he j hj
    have ok : ¬ (entryHead l j ∧ entryLights l j = true) := by rw [← okEntry_iff, ok]; simp
    unfold entryHead at ok
    have no : ∀ s, Ev (fun k => spec_IsRecord.j2 k l s (j : Int) true) false := by
      intro s
      refine shift ?_
      simp only [spec_IsRecord.j2]
      exact pos (by simp) (now rfl)
    refine shift ?_
    simp only [spec_IsRecord.l0]
    refine pos (nat_lt hj) (shift ?_)
    simp only [spec_IsRecord.j1]
    refine pos (by simp; omega) (pos (by omega) (pos (nat_lt hj) (Ev.bind (spec_SealOf_ev _ _ _ hx) (bindc (spec_l1In_eq _ _ _) ?_))))
    by_cases h1 : 0 ≤ (rd_T55 l j).f0 ∧ (rd_T55 l j).f0 ≤ 1000000
    · refine pos (by simp [h1]) ?_
      by_cases h3 : (rd_T55 l j).f1.length ≤ 12
      · refine neg (by omega) (pos (by omega) ?_)
        by_cases h4 : (rd_T55 l j).f1.length = (rd_T55 l 0).f1.length
        · refine pos (by omega) ?_
          by_cases h5 : (rd_T55 l j).f2 = sealL (prevSeal l j) (rd_T55 l j).f0 (rd_T55 l j).f1
          · refine pos h5 ?_
            have last : (0 < j → (rd_T55 l ((j : Int) - 1)).f0 < (rd_T55 l j).f0) → Ev (fun k => spec_IsRecord.j2 k l (sealL (prevSeal l j) (rd_T55 l j).f0 (rd_T55 l j).f1) (j : Int) false) false := by
              intro h6
              have hli : ¬ entryLights l j = true := fun q => ok ⟨⟨h1.1, h1.2, h3, h4, h5, h6⟩, q⟩
              refine shift ?_
              simp only [spec_IsRecord.j2]
              refine neg (by simp) ?_
              exact bad_loop (g := fun k i => spec_IsRecord.l1 k l _ (j : Int) (i : Int)) (rd_T55 l j).f1.length (okLight (rd_T55 l j).f1) false hli (fun i r hi => (spec_IsRecord_lights l _ j hj hx i hi).1 r) (fun i hi => (spec_IsRecord_lights l _ j hj hx i hi).2)
            by_cases h0 : (j : Int) > 0
            · rw [w64 (x := (j : Int) - 1) (by omega) (by omega)]
              refine pos h0 (pos (by omega) (pos (by omega) ?_))
              by_cases h6 : (rd_T55 l ((j : Int) - 1)).f0 < (rd_T55 l j).f0
              · rw [decide_eq_false (by omega)]
                exact last (fun _ => h6)
              · rw [decide_eq_true (by omega)]
                exact no _
            · exact neg h0 (last (fun q => absurd q (by omega)))
          · exact neg h5 (no _)
        · exact neg (by omega) (no _)
      · exact pos (by omega) (no _)
    · exact neg (by simpa using h1) (no _)
  · refine shift ?_
    simp only [spec_IsRecord.l0]
    refine neg (nat_ge (Nat.le_refl _)) (shift ?_)
    simp only [spec_IsRecord.j1]
    exact neg (by simp) (now (decide_eq_true (by omega)))
theorem spec_IsRecord_ev (l : List S55) (hl : l.length ≤ 1048577) (he : ∀ x ∈ l, x.f1.length ≤ 1048576) : Ev (fun k => spec_IsRecord.f k l) (isRecord l) := by
  unfold spec_IsRecord.f isRecord
  by_cases h60 : l.length ≤ 60
  · rw [decide_eq_true h60]
    exact spec_IsRecord_in l h60 he
  · rw [decide_eq_false h60, Bool.and_false]
    refine shift ?_
    simp only [spec_IsRecord.l0]
    refine pos (by omega) (shift ?_)
    simp only [spec_IsRecord.j1]
    exact neg (by simp; omega) (now (decide_eq_false (by omega)))

theorem spec_l6Put_ev (l : List Int) (a : Int) (hl : l.length ≤ 1048576) : ∃ r, Ev (fun k => spec_l6Put.f k l a) r ∧ (∀ s, s ∈ r ↔ s ∈ l ∨ s = a) ∧ r.length ≤ l.length + 1 := by
  unfold spec_l6Put.f
  have split : ∀ (j : Nat) s, s ∈ l.take j ++ [a] ++ l.drop j ↔ s ∈ l ∨ s = a := by
    intro j s
    have e : s ∈ l ↔ s ∈ l.take j ∨ s ∈ l.drop j := by rw [← List.mem_append, List.take_append_drop]
    simp only [List.mem_append, List.mem_singleton, e]
    constructor
    · rintro ((h | h) | h)
      · exact .inl (.inl h)
      · exact .inr h
      · exact .inl (.inr h)
    · rintro ((h | h) | h)
      · exact .inl (.inl h)
      · exact .inr h
      · exact .inl (.inr h)
  have : ∀ d j, j + d = l.length → ∃ r, Ev (fun k => spec_l6Put.l0 k l a (j : Int)) r ∧ (∀ s, s ∈ r ↔ s ∈ l ∨ s = a) ∧ r.length ≤ l.length + 1 := by
    intro d
    induction d with
    | zero =>
      intro j hj
      refine ⟨l.take j ++ [a] ++ l.drop j, shift ?_, split j, by simp; omega⟩
      simp only [spec_l6Put.l0, Option.bind_some, List.nil_append, Int.toNat_natCast]
      exact neg (by omega) (pos (by omega) (pos (by omega) (pos (by simp; omega) (pos (by simp; omega) (pos (by simp; omega) (now rfl))))))
    | succ d ih =>
      intro j hj
      have hjl : j < l.length := by omega
      by_cases h1 : l[j] < a
      · obtain ⟨r, h, h2, h3⟩ := ih (j + 1) (by omega)
        refine ⟨r, shift ?_, h2, h3⟩
        simp only [spec_l6Put.l0]
        rw [rd_get l j hjl, succ_wrap (by omega)]
        exact pos (nat_lt hjl) (pos (by omega) (pos h1 h))
      · by_cases h2 : l[j] = a
        · refine ⟨l, shift ?_, fun s => ⟨.inl, fun g => g.elim id (fun e => by rw [e, ← h2]; exact List.getElem_mem hjl)⟩, by omega⟩
          simp only [spec_l6Put.l0, Option.bind_some, List.nil_append]
          rw [rd_get l j hjl]
          exact pos (nat_lt hjl) (pos (by omega) (neg h1 (pos h2 (pos (by simp; omega) (now rfl)))))
        · refine ⟨l.take j ++ [a] ++ l.drop j, shift ?_, split j, by simp; omega⟩
          simp only [spec_l6Put.l0, Option.bind_some, List.nil_append, Int.toNat_natCast]
          rw [rd_get l j hjl]
          exact pos (nat_lt hjl) (pos (by omega) (neg h1 (neg h2 (pos (by omega) (pos (by simp; omega) (pos (by simp; omega) (pos (by simp; omega) (now rfl))))))))
  exact this l.length 0 (by omega)

def lightOf (v : List Int) (i : Int) : Int := if 0 ≤ i ∧ i < v.length then rd v i else -1
theorem lightOf_in {v : List Int} {i : Int} (h : 0 ≤ i ∧ i < v.length) : lightOf v i = rd v i := by rw [lightOf, if_pos h]
theorem lightOf_out {v : List Int} {i : Int} (h : ¬ (0 ≤ i ∧ i < v.length)) : lightOf v i = -1 := by rw [lightOf, if_neg h]
theorem record_len {l : List S55} (h : isRecord l = true) (j : Nat) (hj : j < l.length) : (rd_T55 l j).f1.length = (rd_T55 l 0).f1.length := ((isRecord_iff l).1 h).1 j hj |>.1.2.2.2.1
theorem record_pred {l : List S55} (h : isRecord l = true) (j : Nat) (h0 : 0 < j) (hj : j < l.length) : (rd_T55 l ((j : Int) - 1)).f1.length = (rd_T55 l j).f1.length := by
  have e : (j : Int) - 1 = ((j - 1 : Nat) : Int) := by omega
  rw [e, record_len h (j - 1) (by omega), record_len h j hj]

def putS : List Int → Int → List Int
  | [], a => [a]
  | x :: r, a => if x < a then x :: putS r a else if x = a then x :: r else a :: x :: r
theorem putS_len (l : List Int) (a : Int) : (putS l a).length ≤ l.length + 1 := by
  induction l with
  | nil => simp [putS]
  | cons x r ih =>
    simp only [putS]
    split
    · simp; omega
    · split <;> simp
theorem mem_putS (l : List Int) (a s : Int) : s ∈ putS l a ↔ s ∈ l ∨ s = a := by
  induction l with
  | nil => simp [putS]
  | cons x r ih =>
    simp only [putS]
    split
    · simp only [List.mem_cons, ih]
      constructor
      · rintro (h | h | h)
        · exact .inl (.inl h)
        · exact .inl (.inr h)
        · exact .inr h
      · rintro ((h | h) | h)
        · exact .inl h
        · exact .inr (.inl h)
        · exact .inr (.inr h)
    · split
      · rename_i _ e
        constructor
        · exact .inl
        · rintro (h | h)
          · exact h
          · rw [h, ← e]; exact List.mem_cons_self
      · simp only [List.mem_cons]
        constructor
        · rintro (h | h)
          · exact .inr h
          · exact .inl h
        · rintro (h | h)
          · exact .inr h
          · exact .inl h
theorem putS_asc (l : List Int) (a : Int) (h : l.Pairwise (· < ·)) : (putS l a).Pairwise (· < ·) := by
  induction l with
  | nil => simp [putS]
  | cons x r ih =>
    rw [List.pairwise_cons] at h
    simp only [putS]
    split
    · rename_i hx
      rw [List.pairwise_cons]
      refine ⟨fun s hs => ?_, ih h.2⟩
      rcases (mem_putS r a s).1 hs with q | q
      · exact h.1 s q
      · omega
    · split
      · rw [List.pairwise_cons]; exact h
      · rename_i hx he
        rw [List.pairwise_cons, List.pairwise_cons]
        refine ⟨fun s hs => ?_, h⟩
        rcases List.mem_cons.1 hs with q | q
        · omega
        · have := h.1 s q; omega
theorem putS_split (l : List Int) (a : Int) : ∀ j, j ≤ l.length → (∀ i, i < j → rd l (i : Int) < a) → putS l a = l.take j ++ putS (l.drop j) a := by
  intro j
  induction l generalizing j with
  | nil => intro hj _; have : j = 0 := by simpa using hj
           subst this; simp
  | cons x r ih =>
    intro hj h
    cases j with
    | zero => simp
    | succ j =>
      have hx : x < a := by simpa [rd] using h 0 (by omega)
      simp only [List.take_succ_cons, List.drop_succ_cons, List.cons_append, putS, if_pos hx]
      rw [ih j (by simpa using hj) (fun i hi => by have := h (i + 1) (by omega); simpa [rd] using this)]
theorem spec_l6Put_put (l : List Int) (a : Int) (hl : l.length ≤ 1048576) : Ev (fun k => spec_l6Put.f k l a) (putS l a) := by
  unfold spec_l6Put.f
  have : ∀ d j, j + d = l.length → (∀ i : Nat, i < j → rd l (i : Int) < a) → Ev (fun k => spec_l6Put.l0 k l a (j : Int)) (putS l a) := by
    intro d
    induction d with
    | zero =>
      intro j hj hb
      have e : putS l a = l.take j ++ [a] ++ l.drop j := by rw [putS_split l a j (by omega) hb, List.drop_eq_nil_of_le (by omega)]; simp [putS]
      refine shift ?_
      simp only [spec_l6Put.l0, Option.bind_some, List.nil_append, Int.toNat_natCast]
      rw [e]
      exact neg (by omega) (pos (by omega) (pos (by omega) (pos (by simp; omega) (pos (by simp; omega) (pos (by simp; omega) (now rfl))))))
    | succ d ih =>
      intro j hj hb
      have hjl : j < l.length := by omega
      have hd : l.drop j = l[j] :: l.drop (j + 1) := List.drop_eq_getElem_cons hjl
      by_cases h1 : l[j] < a
      · refine shift ?_
        simp only [spec_l6Put.l0]
        rw [rd_get l j hjl, succ_wrap (by omega)]
        refine pos (nat_lt hjl) (pos (by omega) (pos h1 (ih (j + 1) (by omega) (fun i hi => ?_))))
        rcases Nat.lt_or_ge i j with q | q
        · exact hb i q
        · have : i = j := by omega
          subst this
          rw [rd_get l i hjl]; exact h1
      · by_cases h2 : l[j] = a
        · have e : putS l a = l := by
            rw [putS_split l a j (by omega) hb, hd]
            simp only [putS, if_neg h1, if_pos h2]
            rw [← hd, List.take_append_drop]
          refine shift ?_
          simp only [spec_l6Put.l0, Option.bind_some, List.nil_append]
          rw [rd_get l j hjl, e]
          exact pos (nat_lt hjl) (pos (by omega) (neg h1 (pos h2 (pos (by simp; omega) (now rfl)))))
        · have e : putS l a = l.take j ++ [a] ++ l.drop j := by
            rw [putS_split l a j (by omega) hb, hd]
            simp only [putS, if_neg h1, if_neg h2, List.append_assoc, List.cons_append, List.nil_append]
          refine shift ?_
          simp only [spec_l6Put.l0, Option.bind_some, List.nil_append, Int.toNat_natCast]
          rw [rd_get l j hjl, e]
          exact pos (nat_lt hjl) (pos (by omega) (neg h1 (neg h2 (pos (by omega) (pos (by simp; omega) (pos (by simp; omega) (pos (by simp; omega) (now rfl))))))))
  exact this l.length 0 (by omega) (fun i hi => by omega)
/-- The numbers of a list, each once, ascending. -/
def putAll (l : List Int) : List Int := l.foldl putS []
theorem putAll_snoc (l : List Int) (a : Int) : putAll (l ++ [a]) = putS (putAll l) a := by simp [putAll]
theorem snoc_ind {P : List Int → Prop} (h0 : P []) (h1 : ∀ r a, P r → P (r ++ [a])) (l : List Int) : P l := by
  have : ∀ r : List Int, P r.reverse := by
    intro r
    induction r with
    | nil => exact h0
    | cons x r ih => rw [List.reverse_cons]; exact h1 _ _ ih
  simpa using this l.reverse
theorem putAll_len (l : List Int) : (putAll l).length ≤ l.length := by
  refine snoc_ind (P := fun l => (putAll l).length ≤ l.length) (by simp [putAll]) (fun r a ih => ?_) l
  rw [putAll_snoc]
  have := putS_len (putAll r) a
  simp; omega
theorem mem_putAll (l : List Int) (s : Int) : s ∈ putAll l ↔ s ∈ l := by
  refine snoc_ind (P := fun l => s ∈ putAll l ↔ s ∈ l) (by simp [putAll]) (fun r a ih => ?_) l
  rw [putAll_snoc, mem_putS, ih]; simp
theorem putAll_asc (l : List Int) : (putAll l).Pairwise (· < ·) := by
  refine snoc_ind (P := fun l => (putAll l).Pairwise (· < ·)) (by simp [putAll]) (fun r a ih => ?_) l
  rw [putAll_snoc]; exact putS_asc _ _ ih
theorem asc_ext : ∀ {a b : List Int}, a.Pairwise (· < ·) → b.Pairwise (· < ·) → (∀ s, s ∈ a ↔ s ∈ b) → a = b
  | [], [], _, _, _ => rfl
  | [], y :: b, _, _, h => by have := (h y).2 List.mem_cons_self; simp at this
  | x :: a, [], _, _, h => by have := (h x).1 List.mem_cons_self; simp at this
  | x :: a, y :: b, ha, hb, h => by
    rw [List.pairwise_cons] at ha hb
    have hxy : x = y := by
      rcases List.mem_cons.1 ((h x).1 List.mem_cons_self) with q | q
      · exact q
      · rcases List.mem_cons.1 ((h y).2 List.mem_cons_self) with q2 | q2
        · exact q2.symm
        · have := hb.1 x q; have := ha.1 y q2; omega
    subst hxy
    rw [asc_ext ha.2 hb.2 (fun s => ⟨fun hs => ?_, fun hs => ?_⟩)]
    · rcases List.mem_cons.1 ((h s).1 (List.mem_cons_of_mem _ hs)) with q | q
      · have := ha.1 s hs; omega
      · exact q
    · rcases List.mem_cons.1 ((h s).2 (List.mem_cons_of_mem _ hs)) with q | q
      · have := hb.1 s hs; omega
      · exact q
theorem rd_bang (l : List Int) (j : Nat) : l.toArray[j]! = rd l (j : Int) := by simp [rd, List.getD_eq_getElem?_getD]
theorem compact_asc (l : List Int) (h : l.Pairwise (· ≤ ·)) : (Go.Lib.compact l).Pairwise (· < ·) := by
  unfold Go.Lib.compact Go.Lib.compactUpTo
  rw [List.pairwise_map]
  refine List.Pairwise.imp_of_mem ?_ (List.Pairwise.filter _ List.pairwise_lt_range)
  intro i j hi hj hij
  have hj2 := List.mem_filter.1 hj
  have hjl : j < l.length := List.mem_range.1 hj2.1
  have hk : j = 0 ∨ l.toArray[j]! ≠ l.toArray[j - 1]! := by simpa [Go.Lib.keeps] using hj2.2
  rw [rd_bang, rd_bang] at *
  have hk2 : rd l (j : Int) ≠ rd l ((j - 1 : Nat) : Int) := hk.resolve_left (by omega)
  have g : ∀ a b : Nat, a ≤ b → b < l.length → rd l (a : Int) ≤ rd l (b : Int) := by
    intro a b hab hb
    rcases Nat.lt_or_ge a b with q | q
    · rw [rd_get l a (by omega), rd_get l b hb]
      exact List.pairwise_iff_getElem.1 h a b (by omega) hb q
    · have : a = b := by omega
      rw [this]; exact Int.le_refl _
  have g1 := g i (j - 1) (by omega) (by omega)
  have g2 := g (j - 1) j (by omega) hjl
  omega
theorem mem_compact (l : List Int) (s : Int) : s ∈ Go.Lib.compact l ↔ s ∈ l := by
  unfold Go.Lib.compact Go.Lib.compactUpTo
  rw [List.mem_map]
  constructor
  · rintro ⟨j, hj, rfl⟩
    have hjl : j < l.length := List.mem_range.1 (List.mem_filter.1 hj).1
    rw [rd_bang, rd_get l j hjl]
    exact List.getElem_mem hjl
  · intro hs
    obtain ⟨j, hj, rfl⟩ := List.mem_iff_getElem.1 hs
    have : ∀ n j, j ≤ n → (hj : j < l.length) → ∃ a, a ∈ (List.range l.length).filter (Go.Lib.keeps l.toArray) ∧ l.toArray[a]! = l[j] := by
      intro n
      induction n with
      | zero =>
        intro j h0 hj
        have : j = 0 := by omega
        subst this
        exact ⟨0, List.mem_filter.2 ⟨List.mem_range.2 hj, by simp [Go.Lib.keeps]⟩, by rw [rd_bang, rd_get l 0 hj]⟩
      | succ n ih =>
        intro j h0 hj
        by_cases hk : Go.Lib.keeps l.toArray j = true
        · exact ⟨j, List.mem_filter.2 ⟨List.mem_range.2 hj, hk⟩, by rw [rd_bang, rd_get l j hj]⟩
        · have hk2 : ¬ (j = 0 ∨ l.toArray[j]! ≠ l.toArray[j - 1]!) := by simpa [Go.Lib.keeps] using hk
          have h1 : j ≠ 0 := fun e => hk2 (.inl e)
          have h2 : l.toArray[j]! = l.toArray[j - 1]! := Decidable.not_not.1 (fun e => hk2 (.inr e))
          rw [rd_bang, rd_bang, rd_get l j hj, rd_get l (j - 1) (by omega)] at h2
          rw [h2]
          exact ih (j - 1) (by omega) (by omega)
    exact this j j (Nat.le_refl _) hj
theorem compact_sort (l : List Int) : Go.Lib.compact (l.mergeSort fun x y => decide (x ≤ y)) = putAll l := by
  refine asc_ext (compact_asc _ ?_) (putAll_asc l) (fun s => ?_)
  · have := List.pairwise_mergeSort (le := fun x y : Int => decide (x ≤ y)) (fun a b c h1 h2 => by simp at *; omega) (fun a b => by simp; omega) l
    exact this.imp (fun h => by simpa using h)
  · rw [mem_compact, mem_putAll]; exact (List.mergeSort_perm l _).mem_iff

def shownAdd (l : List S55) (i f u : Int) (j : Nat) : List Int := if 0 ≤ i ∧ i < (rd_T55 l j).f1.length ∧ (rd_T55 l j).f0 ≤ u ∧ (j + 1 = l.length ∨ f < (rd_T55 l ((j + 1 : Nat) : Int)).f0) then [rd (rd_T55 l j).f1 i] else []
def shownIn (l : List S55) (i f u : Int) : Nat → List Int
  | 0 => []
  | j + 1 => shownIn l i f u j ++ shownAdd l i f u j
theorem shownIn_len (l : List S55) (i f u : Int) (j : Nat) : (shownIn l i f u j).length ≤ j := by
  induction j with
  | zero => simp [shownIn]
  | succ j ih =>
    have : (shownAdd l i f u j).length ≤ 1 := by unfold shownAdd; split <;> simp
    simp only [shownIn, List.length_append]
    omega
def shownBetween (l : List S55) (i f u : Int) : List Int := if isRecord l = true ∧ f ≤ u then putAll (shownIn l i f u l.length) else []
theorem shownBetween_len (l : List S55) (i f u : Int) : (shownBetween l i f u).length ≤ 60 := by
  unfold shownBetween
  split
  · rename_i h
    have h60 := ((isRecord_iff l).1 h.1).2
    have h1 := putAll_len (shownIn l i f u l.length)
    have h2 := shownIn_len l i f u l.length
    omega
  · simp
theorem record_light {l : List S55} (h : isRecord l = true) (j : Nat) (hj : j < l.length) (i : Int) (h0 : 0 ≤ i) (hi : i < (rd_T55 l j).f1.length) : 0 ≤ rd (rd_T55 l j).f1 i ∧ rd (rd_T55 l j).f1 i ≤ 2 := by
  have hA := (((isRecord_iff l).1 h).1 j hj).2
  unfold entryLights at hA
  have := List.all_eq_true.1 hA i.toNat (List.mem_range.2 (by omega))
  have e : ((i.toNat : Nat) : Int) = i := by omega
  rw [okLight, decide_eq_true_eq, e] at this
  exact this

theorem spec_ShownBetween_ev (l : List S55) (i f u : Int) (hl : l.length ≤ 1048577) (he : ∀ x ∈ l, x.f1.length ≤ 1048576) : Ev (fun k => spec_ShownBetween.f k l i f u) (shownBetween l i f u) := by
  unfold spec_ShownBetween.f shownBetween
  by_cases hr : isRecord l = true
  · have h60 := ((isRecord_iff l).1 hr).2
    obtain ⟨acc, hacc⟩ : ∃ acc : Nat → List Int, acc = fun j => if f ≤ u then putAll (shownIn l i f u j) else [] := ⟨_, rfl⟩
    have he1 : (if isRecord l = true ∧ f ≤ u then putAll (shownIn l i f u l.length) else []) = acc l.length := by rw [hacc]; simp [hr]
    rw [he1]
    have main : Ev (fun k => spec_ShownBetween.l0 k l i f u (acc 0) ((0 : Nat) : Int)) (acc l.length) := by
      refine loop_from (g := fun k j => spec_ShownBetween.l0 k l i f u (acc j) (j : Int)) (r := acc l.length) 0 l.length (by omega) (fun j _ hj h => ?_) ?_
      · have hlen := entry_short l he j hj
        have step : ∀ b, b = decide (j + 1 = l.length ∨ f < (rd_T55 l ((j + 1 : Nat) : Int)).f0) → Ev (fun k => spec_ShownBetween.j2 k l i f u (acc j) (j : Int) b) (acc l.length) := by
          intro b hb
          have no : shownAdd l i f u j = [] ∨ ¬ f ≤ u → acc (j + 1) = acc j := by
            intro q
            rw [hacc]
            dsimp only
            rcases q with q | q
            · rw [shownIn, q, List.append_nil]
            · rw [if_neg q, if_neg q]
          refine shift ?_
          simp only [spec_ShownBetween.j2]
          rw [succ_wrap (j := j) (by omega), w64 (x := (((rd_T55 l (j : Int)).f1).length : Int) - 1) (by omega) (by omega)]
          refine pos (by omega) (pos (nat_lt hj) (bindc (spec_l1In_eq _ _ _) ?_))
          by_cases hi : 0 ≤ i ∧ i < (rd_T55 l (j : Int)).f1.length
          · refine pos (by simp; omega) ?_
            by_cases hu : (rd_T55 l (j : Int)).f0 ≤ u
            · refine pos hu ?_
              by_cases hbt : b = true
              · refine pos hbt ?_
                by_cases hfu : f ≤ u
                · have hc : j + 1 = l.length ∨ f < (rd_T55 l ((j + 1 : Nat) : Int)).f0 := of_decide_eq_true (by rw [← hb]; exact hbt)
                  have e : acc (j + 1) = putS (acc j) (rd (rd_T55 l (j : Int)).f1 i) := by
                    rw [hacc]
                    dsimp only
                    rw [if_pos hfu, if_pos hfu, shownIn, shownAdd, if_pos ⟨hi.1, hi.2, hu, hc⟩, putAll_snoc]
                  have hal : (acc j).length ≤ 1048576 := by
                    rw [hacc]
                    dsimp only
                    rw [if_pos hfu]
                    have h1 := putAll_len (shownIn l i f u j)
                    have h2 := shownIn_len l i f u j
                    omega
                  refine pos hfu (pos hi.1 (pos hi.2 (Ev.bind (spec_l6Put_put _ _ hal) ?_)))
                  rw [← e]
                  exact h
                · rw [no (.inr hfu)] at h
                  exact neg hfu h
              · have hc : ¬ (j + 1 = l.length ∨ f < (rd_T55 l ((j + 1 : Nat) : Int)).f0) := fun q => hbt (by rw [hb]; exact decide_eq_true q)
                rw [no (.inl (by rw [shownAdd, if_neg (fun q => hc q.2.2.2)]))] at h
                exact neg hbt h
            · rw [no (.inl (by rw [shownAdd, if_neg (fun q => hu q.2.2.1)]))] at h
              exact neg hu h
          · rw [no (.inl (by rw [shownAdd, if_neg (fun q => hi ⟨q.1, q.2.1⟩)]))] at h
            exact neg (by simp; omega) h
        refine shift ?_
        simp only [spec_ShownBetween.l0]
        refine pos (nat_lt hj) (Ev.bind (spec_IsRecord_ev l hl he) ?_)
        rw [hr]
        refine shift ?_
        simp only [spec_ShownBetween.j1]
        rw [succ_wrap (j := j) (by omega)]
        refine pos trivial ?_
        by_cases hlast : j + 1 = l.length
        · exact pos (by omega) (step true (by simp [hlast]))
        · exact neg (by omega) (pos (by omega) (pos (by omega) (step _ (by simp [hlast]))))
      · refine shift ?_
        simp only [spec_ShownBetween.l0]
        refine neg (nat_ge (Nat.le_refl _)) (shift ?_)
        simp only [spec_ShownBetween.j1]
        exact neg (by simp) (now rfl)
    have a0 : acc 0 = [] := by rw [hacc]; simp [shownIn, putAll]
    rw [a0] at main
    exact main
  · rw [if_neg (fun q => hr q.1)]
    have hf : isRecord l = false := by simpa using hr
    refine shift ?_
    simp only [spec_ShownBetween.l0]
    by_cases h0 : l.length = 0
    · refine neg (by omega) (shift ?_)
      simp only [spec_ShownBetween.j1]
      exact neg (by simp) (now rfl)
    · refine pos (by omega) (Ev.bind (spec_IsRecord_ev l hl he) ?_)
      rw [hf]
      refine shift ?_
      simp only [spec_ShownBetween.j1]
      exact neg (by simp) (now rfl)

theorem laws_toIntS_ev (l : List Int) (hl : l.length ≤ 17592186044416) : Ev (fun k => laws_toIntS.f k l) l := by
  unfold laws_toIntS.f
  refine pos (by omega) (pos (by omega) ?_)
  have h := copied (g := fun k y i => laws_toIntS.l0 k l y i) l id 0 (fun j hj y r hy h => by
    refine shift ?_
    simp only [laws_toIntS.l0]
    refine pos (nat_lt hj) (pos (by omega) (pos (by omega) ?_))
    rw [rd_get _ _ hj, succ_wrap (by omega)]
    exact h) (fun y => by
    refine shift ?_
    simp only [laws_toIntS.l0]
    exact neg (nat_ge (Nat.le_refl _)) (now rfl))
  simpa using h

theorem laws_toEntry_ev (x : S53) (hl : x.f1.length ≤ 1048576) : Ev (fun k => laws_toEntry.f k x.f0 x.f1 x.f2) (x.f0, x.f1, x.f2) := by
  unfold laws_toEntry.f
  exact Ev.bind (laws_toIntS_ev x.f1 (by omega)) (now rfl)

def cEntry (x : S53) : S55 := ⟨x.f0, x.f1, x.f2⟩
theorem laws_toEntryS_ev (l : List S53) (hl : l.length ≤ 1048576) (he : ∀ x ∈ l, x.f1.length ≤ 1048576) : Ev (fun k => laws_toEntryS.f k l) (l.map cEntry) := by
  unfold laws_toEntryS.f
  refine pos (by omega) (pos (by omega) ?_)
  exact copied (g := fun k y i => laws_toEntryS.l0 k l y i) l cEntry z55 (fun j hj y r hy h => by
    refine shift ?_
    simp only [laws_toEntryS.l0]
    have hg : rd_T53 l (j : Int) = l[j] := by simp [rd_T53, hj]
    rw [hg]
    refine pos (nat_lt hj) (pos (by omega) (Ev.bind (laws_toEntry_ev _ (he _ (List.getElem_mem hj))) (pos (by omega) ?_)))
    rw [succ_wrap (by omega)]
    exact h) (fun y => by
    refine shift ?_
    simp only [laws_toEntryS.l0]
    exact neg (nat_ge (Nat.le_refl _)) (now rfl))
theorem cEntry_short (l : List S53) (he : ∀ x ∈ l, x.f1.length ≤ 1048576) : ∀ x ∈ l.map cEntry, x.f1.length ≤ 1048576 := by
  intro x hx
  obtain ⟨y, hy, rfl⟩ := List.mem_map.1 hx
  exact he y hy

theorem impl_InRange_eq (a b c : Int) : impl_InRange.f a b c = some (decide (b ≤ a ∧ a ≤ c)) := by
  unfold impl_InRange.f
  by_cases h : b ≤ a
  · rw [if_pos h]
    simp [h]
  · rw [if_neg h]
    simp [h]

theorem impl_Mod_eq (a m : Int) (h1 : 1 ≤ m) (h2 : m ≤ 1000000000000) : impl_Mod.f a m = some (a % m) := by
  unfold impl_Mod.f
  rw [impl_InRange_eq, Option.bind_some, if_pos (by simp [h1, h2]), if_neg (by omega)]
  have he := tmod_emod (a := a) (m := m) (by omega)
  have h3 := Int.emod_nonneg a (by omega : m ≠ 0)
  have h4 := Int.emod_lt_of_pos a (by omega : 0 < m)
  by_cases hn : Int.tmod a m < 0
  · rw [if_pos hn] at he
    rw [if_pos hn, w64 (by omega) (by omega), he]
    congr 1
    omega
  · rw [if_neg hn] at he
    rw [if_neg hn, he]

theorem impl_fold_eq (a v : Int) (h0 : 0 ≤ a) (h1 : a < 2147483647) : impl_fold.f a v = some (hstep a v) := by
  unfold impl_fold.f
  rw [impl_Mod_eq _ _ (by omega) (by omega), Option.bind_some, hstep_go a v h0 h1]

theorem impl_Hash_ev (l : List Int) (hl : l.length < 9223372036854775807) : Ev (fun k => impl_Hash.f k l) (l.foldl hstep 11) := by
  unfold impl_Hash.f
  refine loop (g := fun k j => impl_Hash.l0 k ((l.take j).foldl hstep 11) l (l.length : Int) (j : Int)) l.length ?_ ?_
  · intro j hj h
    refine shift ?_
    simp only [impl_Hash.l0]
    obtain ⟨b0, b1⟩ := hfold_range (l.take j) 11 (by omega) (by omega)
    refine pos (nat_lt hj) (pos (by omega) (pos (nat_lt hj) (bindc (impl_fold_eq _ _ b0 b1) ?_)))
    rw [rd_get _ _ hj, ← hfold_take l j hj, succ_wrap (by omega)]
    exact h
  · refine shift ?_
    simp only [impl_Hash.l0]
    exact neg (nat_ge (Nat.le_refl _)) (now (by rw [List.take_length]))


theorem impl_SealOf_ev (b s : Int) (l : List Int) (hl : l.length ≤ 1048576) : Ev (fun k => impl_SealOf.f k b s l) (sealL b s l) := by
  unfold impl_SealOf.f
  refine bindc rfl (pos (by simp; omega) (Ev.bind (impl_Hash_ev _ (by simp; omega)) (now rfl)))

theorem impl_IsRecord_lights (l : List S55) (n : Int) (j : Nat) (hx : (rd_T55 l j).f1.length ≤ 1048576) (i : Nat) (hi : i < (rd_T55 l j).f1.length) :
    (∀ r, okLight (rd_T55 l j).f1 i = true → Ev (fun k => impl_IsRecord.l1 k l l n (j : Int) (rd_T55 l j).f1 ((rd_T55 l j).f1.length : Int) ((i + 1 : Nat) : Int) (rd_T55 l j).f0 (rd_T55 l j).f1 (rd_T55 l j).f2) r → Ev (fun k => impl_IsRecord.l1 k l l n (j : Int) (rd_T55 l j).f1 ((rd_T55 l j).f1.length : Int) (i : Int) (rd_T55 l j).f0 (rd_T55 l j).f1 (rd_T55 l j).f2) r) ∧
    (okLight (rd_T55 l j).f1 i = false → Ev (fun k => impl_IsRecord.l1 k l l n (j : Int) (rd_T55 l j).f1 ((rd_T55 l j).f1.length : Int) (i : Int) (rd_T55 l j).f0 (rd_T55 l j).f1 (rd_T55 l j).f2) false) := by
  constructor
  · intro r ok h
    have ok : 0 ≤ rd (rd_T55 l j).f1 i ∧ rd (rd_T55 l j).f1 i ≤ 2 := by simpa [okLight] using ok
    refine shift ?_
    simp only [impl_IsRecord.l1]
    refine pos (nat_lt hi) (pos (by omega) (pos (nat_lt hi) (bindc (impl_InRange_eq _ _ _) (pos (by simp [ok]) ?_))))
    rw [succ_wrap (by omega)]
    exact h
  · intro ok
    have ok : ¬ (0 ≤ rd (rd_T55 l j).f1 i ∧ rd (rd_T55 l j).f1 i ≤ 2) := by simpa [okLight] using ok
    refine shift ?_
    simp only [impl_IsRecord.l1]
    exact pos (nat_lt hi) (pos (by omega) (pos (nat_lt hi) (bindc (impl_InRange_eq _ _ _) (neg (by simpa using ok) (now rfl)))))
theorem impl_IsRecord_in (l : List S55) (h60 : l.length ≤ 60) (he : ∀ x ∈ l, x.f1.length ≤ 1048576) : Ev (fun k => impl_IsRecord.l0 k l (prevSeal l 0) l (l.length : Int) 0) ((List.range l.length).all (okEntry l) && true) := by
  refine all_loop (g := fun k j => impl_IsRecord.l0 k l (prevSeal l j) l (l.length : Int) (j : Int)) l.length (okEntry l) true ?_ ?_ ?_
  · intro j r hj ok h
    have hx := entry_short l he j hj
    obtain ⟨⟨h1, h2, h3, h4, h5, h6⟩, hli⟩ := (okEntry_iff l j).1 ok
    have last : Ev (fun k => impl_IsRecord.j1 k l l (l.length : Int) (j : Int) ((rd_T55 l j).f2 != sealL (prevSeal l j) (rd_T55 l j).f0 (rd_T55 l j).f1) (rd_T55 l j).f0 (rd_T55 l j).f1 (rd_T55 l j).f2) r := by
      refine shift ?_
      simp only [impl_IsRecord.j1]
      refine neg (by rw [← h5]; simp) ?_
      refine ok_loop (g := fun k i => impl_IsRecord.l1 k l l (l.length : Int) (j : Int) (rd_T55 l j).f1 ((rd_T55 l j).f1.length : Int) (i : Int) (rd_T55 l j).f0 (rd_T55 l j).f1 (rd_T55 l j).f2) (rd_T55 l j).f1.length (okLight (rd_T55 l j).f1) hli (fun i r hi => (impl_IsRecord_lights l _ j hx i hi).1 r) (shift ?_)
      simp only [impl_IsRecord.l1]
      refine neg (nat_ge (Nat.le_refl _)) ?_
      rw [succ_wrap (by omega), ← prevSeal_succ]
      exact h
    refine shift ?_
    simp only [impl_IsRecord.l0]
    refine pos (nat_lt hj) (pos (by omega) (pos (nat_lt hj) (bindc (impl_InRange_eq _ _ _) (pos (by simp [h1, h2]) ?_))))
    by_cases h0 : (j : Int) > 0
    · rw [w64 (x := (j : Int) - 1) (by omega) (by omega)]
      exact pos h0 (pos (by omega) (pos (by omega) (neg (by have := h6 (by omega); omega) (neg (by omega) (pos (by omega) (pos (by omega) (Ev.bind (impl_SealOf_ev _ _ _ hx) last)))))))
    · exact neg h0 (neg (by omega) (pos (by omega) (pos (by omega) (Ev.bind (impl_SealOf_ev _ _ _ hx) last))))
  · intro j hj ok
    have hx := entry_short l he j hj
    have ok : ¬ (entryHead l j ∧ entryLights l j = true) := by rw [← okEntry_iff, ok]; simp
    unfold entryHead at ok
    have no : Ev (fun k => impl_IsRecord.j1 k l l (l.length : Int) (j : Int) true (rd_T55 l j).f0 (rd_T55 l j).f1 (rd_T55 l j).f2) false := by
      refine shift ?_
      simp only [impl_IsRecord.j1]
      exact pos (by simp) (now rfl)
    refine shift ?_
    simp only [impl_IsRecord.l0]
    refine pos (nat_lt hj) (pos (by omega) (pos (nat_lt hj) (bindc (impl_InRange_eq _ _ _) ?_)))
    by_cases h1 : 0 ≤ (rd_T55 l j).f0 ∧ (rd_T55 l j).f0 ≤ 1000000
    · refine pos (by simp [h1]) ?_
      have more : (0 < j → (rd_T55 l ((j : Int) - 1)).f0 < (rd_T55 l j).f0) → (rd_T55 l j).f1.length ≤ 12 → (rd_T55 l j).f1.length = (rd_T55 l 0).f1.length →
          Ev (fun k => impl_IsRecord.j1 k l l (l.length : Int) (j : Int) ((rd_T55 l j).f2 != sealL (prevSeal l j) (rd_T55 l j).f0 (rd_T55 l j).f1) (rd_T55 l j).f0 (rd_T55 l j).f1 (rd_T55 l j).f2) false := by
        intro h6 h3 h4
        by_cases h5 : (rd_T55 l j).f2 = sealL (prevSeal l j) (rd_T55 l j).f0 (rd_T55 l j).f1
        · have hli : ¬ entryLights l j = true := fun q => ok ⟨⟨h1.1, h1.2, h3, h4, h5, h6⟩, q⟩
          refine shift ?_
          simp only [impl_IsRecord.j1]
          refine neg (by rw [← h5]; simp) ?_
          exact bad_loop (g := fun k i => impl_IsRecord.l1 k l l (l.length : Int) (j : Int) (rd_T55 l j).f1 ((rd_T55 l j).f1.length : Int) (i : Int) (rd_T55 l j).f0 (rd_T55 l j).f1 (rd_T55 l j).f2) (rd_T55 l j).f1.length (okLight (rd_T55 l j).f1) false hli (fun i r hi => (impl_IsRecord_lights l _ j hx i hi).1 r) (fun i hi => (impl_IsRecord_lights l _ j hx i hi).2)
        · rw [show ((rd_T55 l j).f2 != sealL (prevSeal l j) (rd_T55 l j).f0 (rd_T55 l j).f1) = true by simpa using h5]
          exact no
      by_cases h0 : (j : Int) > 0
      · rw [w64 (x := (j : Int) - 1) (by omega) (by omega)]
        refine pos h0 (pos (by omega) (pos (by omega) ?_))
        by_cases h6 : (rd_T55 l ((j : Int) - 1)).f0 < (rd_T55 l j).f0
        · refine neg (by omega) ?_
          by_cases h3 : (rd_T55 l j).f1.length ≤ 12
          · refine neg (by omega) (pos (by omega) ?_)
            by_cases h4 : (rd_T55 l j).f1.length = (rd_T55 l 0).f1.length
            · exact pos (by omega) (Ev.bind (impl_SealOf_ev _ _ _ hx) (more (fun _ => h6) h3 h4))
            · exact neg (by omega) no
          · exact pos (by omega) no
        · exact pos (by omega) no
      · refine neg h0 ?_
        by_cases h3 : (rd_T55 l j).f1.length ≤ 12
        · refine neg (by omega) (pos (by omega) ?_)
          by_cases h4 : (rd_T55 l j).f1.length = (rd_T55 l 0).f1.length
          · exact pos (by omega) (Ev.bind (impl_SealOf_ev _ _ _ hx) (more (fun q => absurd q (by omega)) h3 h4))
          · exact neg (by omega) no
        · exact pos (by omega) no
    · exact neg (by simpa using h1) no
  · refine shift ?_
    simp only [impl_IsRecord.l0]
    exact neg (nat_ge (Nat.le_refl _)) (now rfl)
theorem impl_IsRecord_ev (l : List S55) (hl : l.length ≤ 1048577) (he : ∀ x ∈ l, x.f1.length ≤ 1048576) : Ev (fun k => impl_IsRecord.f k l) (isRecord l) := by
  unfold impl_IsRecord.f isRecord
  by_cases h60 : l.length ≤ 60
  · rw [decide_eq_true h60]
    exact neg (by omega) (impl_IsRecord_in l h60 he)
  · rw [decide_eq_false h60, Bool.and_false]
    exact pos (by omega) (now rfl)

theorem impl_lightOf_eq (a : Int) (v : List Int) (b i : Int) : impl_lightOf.f a v b i = some (lightOf v i) := by
  unfold impl_lightOf.f lightOf
  by_cases h0 : i < 0
  · rw [if_pos h0, if_neg (by omega)]
  · rw [if_neg h0]
    by_cases h1 : i ≥ v.length
    · rw [if_pos h1, if_neg (by omega)]
    · rw [if_neg h1, if_pos (by omega), if_pos (by omega), if_pos (by omega)]

theorem impl_ShownBetween_ev (l : List S55) (i f u : Int) (hl : l.length ≤ 1048577) (he : ∀ x ∈ l, x.f1.length ≤ 1048576) : Ev (fun k => impl_ShownBetween.f k l i f u) (shownBetween l i f u) := by
  unfold impl_ShownBetween.f shownBetween
  simp only [Option.bind_some]
  refine Ev.bind (impl_IsRecord_ev l hl he) ?_
  by_cases hr : isRecord l = true
  · refine pos hr ?_
    by_cases hfu : f ≤ u
    · have h60 := ((isRecord_iff l).1 hr).2
      rw [if_pos ⟨hr, hfu⟩]
      refine shift ?_
      simp only [impl_ShownBetween.j0]
      refine neg (by simp; omega) ?_
      have main : Ev (fun k => impl_ShownBetween.l0 k l i f u (shownIn l i f u 0) l (l.length : Int) ((0 : Nat) : Int)) (putAll (shownIn l i f u l.length)) := by
        refine loop_from (g := fun k j => impl_ShownBetween.l0 k l i f u (shownIn l i f u j) l (l.length : Int) (j : Int)) (r := putAll (shownIn l i f u l.length)) 0 l.length (by omega) (fun j _ hj h => ?_) ?_
        · have hlen := shownIn_len l i f u j
          have no : shownAdd l i f u j = [] → shownIn l i f u (j + 1) = shownIn l i f u j := fun q => by rw [shownIn, q, List.append_nil]
          refine shift ?_
          simp only [impl_ShownBetween.l0]
          rw [succ_wrap (j := j) (by omega), w64 (x := (l.length : Int) - 1) (by omega) (by omega)]
          refine pos (nat_lt hj) (pos (by omega) (pos (nat_lt hj) (bindc (impl_lightOf_eq _ _ _ _) ?_)))
          by_cases hi : 0 ≤ i ∧ i < (rd_T55 l (j : Int)).f1.length
          · have hv := record_light hr j hj i hi.1 hi.2
            rw [lightOf_in hi]
            refine pos hv.1 ?_
            have yes : (rd_T55 l (j : Int)).f0 ≤ u → (j + 1 = l.length ∨ f < (rd_T55 l ((j + 1 : Nat) : Int)).f0) → shownIn l i f u (j + 1) = shownIn l i f u j ++ [rd (rd_T55 l (j : Int)).f1 i] := fun q1 q2 => by rw [shownIn, shownAdd, if_pos ⟨hi.1, hi.2, q1, q2⟩]
            by_cases hu : (rd_T55 l (j : Int)).f0 ≤ u
            · refine pos hu ?_
              by_cases hlast : j + 1 = l.length
              · rw [yes hu (.inl hlast)] at h
                exact pos (by omega) (pos (by omega) h)
              · refine neg (by omega) (pos (by omega) (pos (by omega) ?_))
                by_cases hf : f < (rd_T55 l ((j + 1 : Nat) : Int)).f0
                · rw [yes hu (.inr hf)] at h
                  exact pos hf (pos (by omega) h)
                · rw [no (by rw [shownAdd, if_neg (fun q => q.2.2.2.elim hlast hf)])] at h
                  exact neg hf h
            · rw [no (by rw [shownAdd, if_neg (fun q => hu q.2.2.1)])] at h
              exact neg hu h
          · rw [lightOf_out hi]
            rw [no (by rw [shownAdd, if_neg (fun q => hi ⟨q.1, q.2.1⟩)])] at h
            exact neg (by omega) h
        · have hlen := shownIn_len l i f u l.length
          refine shift ?_
          simp only [impl_ShownBetween.l0]
          refine neg (nat_ge (Nat.le_refl _)) (bindc (a := (shownIn l i f u l.length).mergeSort fun x y => decide (x ≤ y)) (by unfold slices_Sort_int_int.f; rw [if_pos (by omega)]) (bindc (a := putAll (shownIn l i f u l.length)) ?_ (now rfl)))
          unfold slices_Compact_int_int.f
          rw [if_pos (by simp; omega), compact_sort]
      exact main
    · rw [if_neg (fun q => hfu q.2)]
      refine shift ?_
      simp only [impl_ShownBetween.j0]
      exact pos (by simp; omega) (now rfl)
  · rw [if_neg (fun q => hr q.1)]
    refine neg hr (shift ?_)
    simp only [impl_ShownBetween.j0]
    exact pos trivial (now rfl)

theorem laws_eqIntS_refl (l : List Int) (hl : l.length < 9223372036854775807) : Ev (fun k => laws_eqIntS.f k l l) true := by
  unfold laws_eqIntS.f
  refine pos rfl (loop (g := fun k j => laws_eqIntS.l0 k l l (j : Int)) l.length ?_ ?_)
  · intro j hj h
    refine shift ?_
    simp only [laws_eqIntS.l0]
    refine pos (nat_lt hj) (pos (by omega) (pos (nat_lt hj) (pos (by simp) ?_)))
    rw [succ_wrap (by omega)]
    exact h
  · refine shift ?_
    simp only [laws_eqIntS.l0]
    exact neg (nat_ge (Nat.le_refl _)) (now rfl)

theorem laws_eqEntry_refl (x : S55) (hl : x.f1.length < 9223372036854775807) : Ev (fun k => laws_eqEntry.f k x.f0 x.f1 x.f2 x.f0 x.f1 x.f2) true := by
  unfold laws_eqEntry.f
  repeat (first | exact now rfl | refine pos rfl ?_ | refine Ev.bind (laws_eqIntS_refl x.f1 hl) ?_)

theorem laws_eqEntryS_refl' (l : List S55) (hl : l.length ≤ 1048577) (he : ∀ x ∈ l, x.f1.length ≤ 1048576) : Ev (fun k => laws_eqEntryS.f k l l) true := by
  unfold laws_eqEntryS.f
  refine pos rfl (loop (g := fun k j => laws_eqEntryS.l0 k l l (j : Int)) l.length ?_ ?_)
  · intro j hj h
    refine shift ?_
    simp only [laws_eqEntryS.l0]
    have hg : rd_T55 l (j : Int) = l[j] := by simp [rd_T55, hj]
    rw [hg]
    refine pos (nat_lt hj) (pos (by omega) (pos (nat_lt hj) (Ev.bind (laws_eqEntry_refl _ (by have := he _ (List.getElem_mem hj); omega)) (pos rfl ?_))))
    rw [succ_wrap (by omega)]
    exact h
  · refine shift ?_
    simp only [laws_eqEntryS.l0]
    exact neg (nat_ge (Nat.le_refl _)) (now rfl)

theorem laws_eqEntryS_refl (l : List S55) (hl : l.length ≤ 1048576) (he : ∀ x ∈ l, x.f1.length ≤ 1048576) : Ev (fun k => laws_eqEntryS.f k l l) true :=
  laws_eqEntryS_refl' l (by omega) he

theorem laws_markIntS_ev (l : List Int) (a : Int) (ha : 0 ≤ a) (ha2 : a ≤ 4000000000000) (hl : l.length ≤ 4000000000000) : Ev (fun k => laws_markIntS.f k l a) (a + l.length, iota a l.length) := by
  unfold laws_markIntS.f
  refine loop (g := fun k j => laws_markIntS.l0 k (iota a j ++ l.drop j) (a + (j : Int)) (j : Int)) l.length ?_ ?_ |> (fun h => by simpa [show iota a 0 = [] from rfl] using h)
  · intro j hj h
    refine shift ?_
    simp only [laws_markIntS.l0]
    refine pos (by simp [iota_length]; omega) (pos (by omega) ?_)
    rw [succ_wrap (by omega), w64 (by omega) (by omega), Int.toNat_natCast, iota_set a l j hj]
    have e : a + (j : Int) + 1 = a + ((j + 1 : Nat) : Int) := by omega
    rw [e]
    exact h
  · refine shift ?_
    simp only [laws_markIntS.l0]
    exact neg (by simp [iota_length]) (now (by simp))

theorem setC {α : Type} (A B : List α) (x v : α) (j : Nat) (hj : A.length = j) : (A ++ x :: B).set j v = A ++ v :: B := by
  rw [List.set_append_right _ _ (by omega), hj, Nat.sub_self, List.set_cons_zero]
theorem getC {α : Type} (A B : List α) (x d : α) (j : Nat) (hj : A.length = j) : (A ++ x :: B).getD j d = x := by
  rw [List.getD_eq_getElem?_getD, List.getElem?_append_right (by omega), hj, Nat.sub_self]
  rfl

def elE (a : Int) (x : S55) : S55 := ⟨a, iota (a + 1) x.f1.length, a + 1 + x.f1.length⟩
def endE : Int → List S55 → Int
  | a, [] => a
  | a, x :: r => endE (a + x.f1.length + 2) r
def mkE : Int → List S55 → List S55
  | _, [] => []
  | a, x :: r => elE a x :: mkE (a + x.f1.length + 2) r
theorem endE_append : ∀ (p q : List S55) (a : Int), endE a (p ++ q) = endE (endE a p) q
  | [], _, _ => rfl
  | x :: r, q, a => by
    simp only [List.cons_append, endE]
    exact endE_append r q _
theorem mkE_append : ∀ (p q : List S55) (a : Int), mkE a (p ++ q) = mkE a p ++ mkE (endE a p) q
  | [], _, _ => rfl
  | x :: r, q, a => by
    simp only [List.cons_append, endE, mkE]
    rw [mkE_append r q _]
theorem mkE_length : ∀ (p : List S55) (a : Int), (mkE a p).length = p.length
  | [], _ => rfl
  | x :: r, a => by simp [mkE, mkE_length r]
theorem endE_range : ∀ (p : List S55) (a : Int), (∀ x ∈ p, x.f1.length ≤ 1048576) → a ≤ endE a p ∧ endE a p ≤ a + 1048578 * (p.length : Int)
  | [], a, _ => by simp [endE]
  | x :: r, a, h => by
    have h1 := h x List.mem_cons_self
    have h2 := endE_range r (a + x.f1.length + 2) (fun y hy => h y (List.mem_cons_of_mem _ hy))
    simp only [endE, List.length_cons]
    omega
theorem take_short (p : List S55) (h : ∀ x ∈ p, x.f1.length ≤ 1048576) (j : Nat) : ∀ x ∈ p.take j, x.f1.length ≤ 1048576 := fun x hx => h x (List.mem_of_mem_take hx)
theorem laws_markEntryS_ev (l : List S55) (hl : l.length ≤ 1048577) (he : ∀ x ∈ l, x.f1.length ≤ 1048576) : Ev (fun k => laws_markEntryS.f k l 1) (endE 1 l, mkE 1 l) := by
  unfold laws_markEntryS.f
  refine loop (g := fun k j => laws_markEntryS.l0 k (mkE 1 (l.take j) ++ l.drop j) (endE 1 (l.take j)) (j : Int)) l.length ?_ ?_ |> (fun h => by simpa [mkE, endE] using h)
  · intro j hj h
    have hr := endE_range (l.take j) 1 (take_short l he j)
    have hlen := mkE_length (l.take j) 1
    rw [List.length_take] at hlen hr
    have hx := he _ (List.getElem_mem hj)
    have hmin : min j l.length = j := by omega
    rw [hmin] at hlen hr
    rw [List.take_succ_eq_append_getElem hj, mkE_append, endE_append, List.append_assoc] at h
    simp only [mkE, endE] at h
    refine shift ?_
    simp only [laws_markEntryS.l0]
    rw [List.drop_eq_getElem_cons hj]
    generalize endE 1 (l.take j) = a at hr h ⊢
    have e1 : wrap64 (a + 1) = a + 1 := w64 (by omega) (by omega)
    have hg : rd_T55 (mkE 1 (l.take j) ++ l[j] :: l.drop (j + 1)) (j : Int) = l[j] := by
      simp only [rd_T55, Int.toNat_natCast]
      exact getC _ _ _ _ _ hlen
    rw [hg, e1, Int.toNat_natCast]
    refine pos (by simp [mkE_length]; omega) (pos (by omega) (Ev.bind (laws_markIntS_ev _ (a + 1) (by omega) (by omega) (by omega)) ?_))
    dsimp only
    rw [setC _ _ _ _ _ hlen, succ_wrap (by omega), w64 (x := a + 1 + (l[j].f1.length : Int) + 1) (by omega) (by omega)]
    have e2 : a + 1 + (l[j].f1.length : Int) + 1 = a + (l[j].f1.length : Int) + 2 := by omega
    rw [e2]
    exact h
  · refine shift ?_
    simp only [laws_markEntryS.l0]
    exact neg (by simp [mkE_length]) (now (by simp))

theorem laws_heldIntS_ev (a : Int) (n : Nat) (ha : 0 ≤ a) (ha2 : a ≤ 4000000000000) (hn : n ≤ 4000000000000) : Ev (fun k => laws_heldIntS.f k (iota a n) a) (a + n) := by
  unfold laws_heldIntS.f
  refine loop (g := fun k j => laws_heldIntS.l0 k (iota a n) (a + (j : Int)) (j : Int)) n ?_ ?_ |> (fun h => by simpa using h)
  · intro j hj h
    refine shift ?_
    simp only [laws_heldIntS.l0]
    refine pos (by rw [iota_length]; omega) (pos (by omega) (pos (iota_get a n j hj) ?_))
    rw [succ_wrap (by omega), w64 (by omega) (by omega)]
    have e : a + (j : Int) + 1 = a + ((j + 1 : Nat) : Int) := by omega
    rw [e]
    exact h
  · refine shift ?_
    simp only [laws_heldIntS.l0]
    exact neg (by rw [iota_length]; omega) (now rfl)

theorem FnExactShownBetween (l : List S53) (hw : wfS 40 wf53 l) (i : Int) (hi : I64 i) (f : Int) (hf : I64 f) (u : Int) (hu : I64 u) : ∃ k, laws_FnExactShownBetween.f k l i f u = some true := by
  refine Ev.rounds ?_
  have hm := hw.2.1
  have hme : ∀ x ∈ l, x.f1.length ≤ 140737488355328 := fun x hx => by have := (hw.2.2 x hx).2.1.2.1; omega
  unfold laws_FnExactShownBetween.f
  obtain ⟨r, hr, _, hl⟩ := laws_szEntryS_ev l 1048576 (by omega) (by omega) (by omega) hme
  refine (Ev.bind hr ?_)
  by_cases h : r < 0
  · exact pos h (now rfl)
  obtain ⟨hl, he⟩ := hl h
  have hc : (l.map cEntry).length ≤ 1048577 := by simp; omega
  have hc0 : (l.map cEntry).length ≤ 1048576 := by simpa using hl
  have he2 := cEntry_short l he
  have mE := endE_range (l.map cEntry) 1 he2
  have hs := shownBetween_len (l.map cEntry) i f u
  refine neg h (Ev.bind (laws_toEntryS_ev l hl he) (Ev.bind (spec_ShownBetween_ev _ i f u hc he2) (Ev.bind (laws_toEntryS_ev l hl he) (Ev.bind (impl_ShownBetween_ev _ i f u hc he2) (Ev.bind (laws_eqIntS_refl _ (by omega)) (pos rfl ?_))))))
  refine Ev.bind (laws_toEntryS_ev l hl he) (Ev.bind (laws_eqEntryS_refl _ hc0 he2) (pos rfl (Ev.bind (laws_markEntryS_ev _ hc he2) (neg (by dsimp only; omega) (Ev.bind (laws_eqIntS_refl _ (by omega)) (pos rfl ?_))))))
  have held := laws_heldIntS_ev 1 (shownBetween (l.map cEntry) i f u).length (by omega) (by omega) (by omega)
  refine Ev.bind (laws_markIntS_ev _ 1 (by omega) (by omega) (by omega)) (Ev.bind held (neg (by omega) (pos rfl ?_)))
  exact Ev.bind (laws_toEntryS_ev l hl he) (Ev.bind (impl_ShownBetween_ev _ i f u hc he2) (Ev.bind (laws_eqIntS_refl _ (by omega)) (pos rfl (Ev.bind held (neg (by omega) (pos rfl (now rfl)))))))

end Go.Proofs.Ytjcmngplpihbpaa.PureFnExactShownBetween
end

section
namespace Go.Proofs.Ytjcmngplpihbpaa.fnExactShownBetween
open Go.ChangeShapes Go.WideShapes Go.ChangeAt Go.RowKit
open Go.Proofs.YtjcmngplpihbpaaW.PrintWords Go.Proofs.Ytjcmngplpihbpaa.PWit Go.Proofs.Ytjcmngplpihbpaa.Opens Go.Proofs.Ytjcmngplpihbpaa.Aid Go.Proofs.Ytjcmngplpihbpaa.PureFnExactShownBetween
set_option linter.unusedVariables false
theorem own : ownKnob Try.prog.godebug = none := by kernel_rfl
theorem laidOut : laidOutB Try.prog = true := by kernel_rfl
theorem o53 : Opens Try.prog 53 k53 wf53 := opens_struct (fun x : S53 => (x.f0, x.f1, x.f2)) (fun p => (⟨p.1, p.2.1, p.2.2⟩ : S53)) (fun _ => rfl) Try.underlying53 (by kernel_rfl) (opensF_cons rfl (opens_int Try.underlying3 (by kernel_rfl)) (opensF_cons rfl (opens_slice Try.underlying24 (by kernel_rfl) (B := 8) (by kernel_rfl) (opens_int Try.underlying3 (by kernel_rfl))) (opensF_last rfl (opens_int Try.underlying3 (by kernel_rfl)))))
theorem arg0 : Opens Try.prog 22 (Kd.slice 53 k53) (wfS 40 wf53) := (opens_slice Try.underlying22 (by kernel_rfl) (B := 40) (by kernel_rfl) o53)
set_option maxRecDepth 100000 in
theorem lifted (os : Os) (started : os.Started) (H : Type) (enc : TypeId × Value → H) :
    ReturnsInHanded {} Try.checked os 3 .any (Rows.fnExactShownBetweenSpec.pre6 enc Try.prog Try.f3 Rows.fnExactShownBetweenRow.domain false) (Rows.fnExactShownBetweenSpec.post enc Try.prog Try.f3 false true false false) := by
  refine returnsInHanded_of_change_sized (C := Try.checked) own started (by kernel_rfl) Try.func3
    (ChangeSpec.witness6 (enc := enc) (C := Try.checked) false ⟨#[], #[.slice none 0 0, .int .i64 0, .int .i64 0, .int .i64 0], []⟩ 8 (by kernel_rfl) (by kernel_rfl) (by kernel_rfl) (by kernel_rfl)) ?_
  intro W base args ds gs before hval0 hW hcnd hsz0 _
  have hsz : (DataW.weightsEach Try.prog (Try.f3.params.toList ++ Rows.fnExactShownBetweenSpec.plain.varTypes Try.prog) (ds ++ gs)).all (· ≤ reachBytes) = true := hsz0
  have hval : ∀ (j : Nat) t v, Try.f3.params[j]? = some t → args[j]? = some v → Value.okWide Try.prog W .any base t v := hval0
  have hW' := hW
  obtain ⟨p, q, hA0, hV, rfl, hfz, hnd⟩ := hW
  have hA : DataW.TrodAll enc Try.prog W 0 (fun _ => true) true Try.f3.params.toList args.toList ds p := hA0
  rw [Try.params3] at hA hval hsz
  obtain ⟨v0, vs0, d0, ds0, p0, q0, hargs, rfl, rfl, h0, r0⟩ := trodAll_cons hA
  obtain ⟨v1, vs1, d1, ds1, p1, q1, rfl, rfl, rfl, h1, r1⟩ := trodAll_cons r0
  obtain ⟨v2, vs2, d2, ds2, p2, q2, rfl, rfl, rfl, h2, r2⟩ := trodAll_cons r1
  obtain ⟨v3, vs3, d3, ds3, p3, q3, rfl, rfl, rfl, h3, r3⟩ := trodAll_cons r2
  obtain ⟨rfl, rfl, rfl⟩ := trodAll_nil r3
  obtain rfl : args = #[v0, v1, v2, v3] := by cases args; simp_all
  obtain ⟨rfl, rfl⟩ := trodVars_none hV
  have k0 := h0
  have lt0 : ∀ x ∈ p0, x.block < W.heap.size := by obtain ⟨m, hm⟩ := k0; exact DataW.trod_lt m _ _ _ hm
  obtain ⟨x0, hK0, hW0⟩ := opens_arg arg0 hsz (j := 0) rfl rfl h0
  obtain ⟨A0, c0, rfl, hc0, hC0⟩ := opens_row Try.underlying22 (hval 0 22 v0 rfl rfl) hK0
  obtain ⟨a1, rfl, rfl, rfl, w1⟩ := open_int Try.underlying3 (hval 1 3 v1 rfl rfl) h1
  obtain ⟨a2, rfl, rfl, rfl, w2⟩ := open_int Try.underlying3 (hval 2 3 v2 rfl rfl) h2
  obtain ⟨a3, rfl, rfl, rfl, w3⟩ := open_int Try.underlying3 (hval 3 3 v3 rfl rfl) h3
  clear hA0 hval0 hsz0 hsz
  obtain ⟨k, hk⟩ := Go.Proofs.Ytjcmngplpihbpaa.PureFnExactShownBetween.FnExactShownBetween x0 hW0 a1 (i64_of w1) a2 (i64_of w2) a3 (i64_of w3)
  refine (laws_FnExactShownBetween.calls k _ _ x0 a1 a2 a3 true W hC0 hc0 hk).mono fun e W' ⟨he, bel0⟩ => ?_
  have bel : Below W.heap.size W W' := by first | exact bel0 | exact bel0.below
  subst he
  exact ⟨_, rfl, _, _, _, [], _, [], hW', trodAll_mk1 (shut_bool Try.underlying4 _), (trodAll_cons_mk (Below.trod laidOut (by kernel_rfl) (of_decide_eq_true (by kernel_rfl)) k0 bel lt0) (trodAll_cons_mk (shut_int Try.underlying3 w1) (trodAll_cons_mk (shut_int Try.underlying3 w2) (trodAll_cons_mk (shut_int Try.underlying3 w3) trodAll_mk0)))), rfl, bel.frame _, fun h => by cases h⟩
theorem over : Rows.fnExactShownBetweenRow.holds Try.pinned (OpenSpec.ofChange Rows.fnExactShownBetweenSpec) :=
  OpenClaim.holds_of_wide 3 Try.f3 rfl rfl rfl rfl rfl rfl rfl ⟨rfl, rfl, rfl, rfl, rfl⟩ rfl rfl rfl rfl rfl (by kernel_rfl) Try.func3 (by kernel_rfl)
    (of_decide_eq_true (by kernel_rfl)) (by unfold Func.isWrapper; first | (rw [if_pos (by decide +kernel)]; kernel_rfl) | (rw [if_neg (by decide +kernel)]; exact ⟨rfl, rfl⟩))
    (fun os started H enc _ => lifted os started H enc)
theorem proved : Rows.FnExactShownBetweenSaid := over
#print axioms proved
end Go.Proofs.Ytjcmngplpihbpaa.fnExactShownBetween
namespace Go.Proofs.Ytjcmngplpihbpaa
/-- The row, under a short name, for the claim. -/
theorem fnExactShownBetween_holds : Rows.FnExactShownBetweenSaid := fnExactShownBetween.proved
end Go.Proofs.Ytjcmngplpihbpaa
end
