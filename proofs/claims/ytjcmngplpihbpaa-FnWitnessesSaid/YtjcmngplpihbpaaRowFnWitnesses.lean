/- The statement FnWitnesses, whole: for every input the law returns true and leaves its arguments as they were; no condition. Out of the contract of the law's walk and the pure theorem. -/
import Derived.Test.YtjcmngplpihbpaaBFnWitnesses0
import Derived.Test.YtjcmngplpihbpaaBFnWitnesses1
import Derived.Test.YtjcmngplpihbpaaBFnWitnesses2
import Derived.Test.YtjcmngplpihbpaaBFnWitnesses3
import Derived.Test.YtjcmngplpihbpaaBFnWitnesses4
import Derived.Test.YtjcmngplpihbpaaBFnWitnesses5
import Derived.Test.YtjcmngplpihbpaaBFnWitnesses6
import Derived.Test.YtjcmngplpihbpaaBFnWitnesses7
import Derived.Test.YtjcmngplpihbpaaBFnWitnesses8
import Derived.Test.YtjcmngplpihbpaaBFnWitnesses9
import Derived.Test.YtjcmngplpihbpaaBFnWitnesses10
import Derived.Test.YtjcmngplpihbpaaBFnWitnesses11
import Derived.Test.YtjcmngplpihbpaaWWords
import Derived.Test.YtjcmngplpihbpaaWMore
import Derived.SizedLaws
import Derived.ChangeSlices
import Derived.ChangeArms
import Derived.WideShapes
import Derived.Below
import Derived.Test.YtjcmngplpihbpaaRows
import Derived.WalkKit
import Derived.ProofKit
import Derived.OpenShut
import Derived.ShutString
import Derived.ChangeOld
section
namespace Go.Proofs.Ytjcmngplpihbpaa.Aid
open Go.RowKit Go.Proofs.YtjcmngplpihbpaaW.PrintWords Go.Proofs.YtjcmngplpihbpaaW.PrintMore
set_option linter.unusedVariables false

theorem w64 {x : Int} (h0 : -9223372036854775808 ≤ x) (h1 : x ≤ 9223372036854775807) : wrap64 x = x := by
  unfold wrap64
  omega
theorem w64_range (x : Int) : -9223372036854775808 ≤ wrap64 x ∧ wrap64 x ≤ 9223372036854775807 := by
  unfold wrap64
  omega
/-- A number of Go's int. -/
def I64 (x : Int) : Prop := -9223372036854775808 ≤ x ∧ x ≤ 9223372036854775807
theorem i64_of {x : Int} (h : (Lit.int .i64 x).wf = true) : I64 x := by
  simp [Lit.wf, IntKind.min, IntKind.max, IntKind.bits, IntKind.signed] at h
  unfold I64
  omega

/-- A byte. -/
def U8 (x : Int) : Prop := 0 ≤ x ∧ x ≤ 255
theorem u8_of {x : Int} (h : (Lit.int .u8 x).wf = true) : U8 x := by
  simp [Lit.wf, IntKind.min, IntKind.max, IntKind.bits, IntKind.signed] at h
  unfold U8
  omega

/-- A slice within the reach (B: an element's bytes), all of whose elements are as WF says. -/
def wfS {α : Type} (B : Nat) (WF : α → Prop) (xs : List α) : Prop := xs.length ≤ maxLen ∧ xs.length * B ≤ 140737488351232 ∧ ∀ x ∈ xs, WF x

theorem shift {α : Type} {g : Nat → Option α} {r : α} (h : Ev (fun k => g (k + 1)) r) : Ev g r := Ev.step (fun _ => rfl) h
theorem pos {α : Type} {c : Prop} [Decidable c] {a b : Nat → Option α} {r : α} (hc : c) (h : Ev a r) : Ev (fun k => if c then a k else b k) r := by
  simpa only [if_pos hc] using h
theorem neg {α : Type} {c : Prop} [Decidable c] {a b : Nat → Option α} {r : α} (hc : ¬ c) (h : Ev b r) : Ev (fun k => if c then a k else b k) r := by
  simpa only [if_neg hc] using h
theorem now {α : Type} {r s : α} (h : r = s) : Ev (fun _ => some r) s := h ▸ Ev.now r
theorem known {α : Type} {x : Option α} {r : α} (h : x = some r) : Ev (fun _ => x) r := h ▸ Ev.now r
theorem bindc {α β : Type} {x : Option α} {f : Nat → α → Option β} {a : α} {r : β} (h : x = some a) (k : Ev (fun n => f n a) r) : Ev (fun n => x.bind (f n)) r := by
  subst h
  exact k
theorem same {α : Type} {g : Nat → Option α} {r s : α} (h : Ev g r) (e : r = s) : Ev g s := e ▸ h
theorem of_const {α : Type} {x : Option α} {r : α} (h : Ev (fun _ => x) r) : x = some r := by
  obtain ⟨k, hk⟩ := Ev.rounds h
  exact hk

/-- A loop whose round j leads from state j to state j + 1, and whose N-th state is its end. -/
theorem loop {α : Type} {g : Nat → Nat → Option α} {r : α} (N : Nat) (hs : ∀ j, j < N → Ev (fun k => g k (j + 1)) r → Ev (fun k => g k j) r) (he : Ev (fun k => g k N) r) : Ev (fun k => g k 0) r := by
  have : ∀ d j, j + d = N → Ev (fun k => g k j) r := by
    intro d
    induction d with
    | zero =>
      intro j hj
      have : j = N := by omega
      subst this
      exact he
    | succ d ih => exact fun j hj => hs j (by omega) (ih (j + 1) (by omega))
  exact this N 0 (by omega)
/-- The same from state i on. -/
theorem loop_from {α : Type} {g : Nat → Nat → Option α} {r : α} (i N : Nat) (hi : i ≤ N) (hs : ∀ j, i ≤ j → j < N → Ev (fun k => g k (j + 1)) r → Ev (fun k => g k j) r) (he : Ev (fun k => g k N) r) : Ev (fun k => g k i) r := by
  have : ∀ d j, i ≤ j → j + d = N → Ev (fun k => g k j) r := by
    intro d
    induction d with
    | zero =>
      intro j _ hj
      have : j = N := by omega
      subst this
      exact he
    | succ d ih => exact fun j h0 hj => hs j h0 (by omega) (ih (j + 1) (by omega) (by omega))
  exact this (N - i) i (Nat.le_refl _) (by omega)

theorem rd_nat (xs : List Int) (j : Nat) : rd xs (j : Int) = xs.getD j 0 := by simp [rd]
theorem rd_get (xs : List Int) (j : Nat) (h : j < xs.length) : rd xs (j : Int) = xs[j] := by simp [rd, h]
theorem nat_lt {a b : Nat} (h : a < b) : (a : Int) < (b : Int) := by omega
theorem nat_ge {a b : Nat} (h : b ≤ a) : ¬ (a : Int) < (b : Int) := by omega
theorem succ_wrap {j : Nat} (h : j < 9223372036854775807) : wrap64 ((j : Int) + 1) = ((j + 1 : Nat) : Int) := by
  rw [w64 (by omega) (by omega)]
  omega

/-- A loop that fills a row, one place a round. -/
theorem copied {α β : Type} {g : Nat → List β → Int → Option (List β)} (l : List α) (f : α → β) (z : β) (hs : ∀ (j : Nat) (hj : j < l.length) (y : List β) (r : List β), y.length = l.length → Ev (fun k => g k (y.set j (f l[j])) ((j + 1 : Nat) : Int)) r → Ev (fun k => g k y (j : Int)) r)
    (he : ∀ y, Ev (fun k => g k y (l.length : Int)) y) : Ev (fun k => g k (List.replicate l.length z) 0) (l.map f) := by
  refine loop (g := fun k j => g k ((l.map f).take j ++ List.replicate (l.length - j) z) (j : Int)) (r := l.map f) l.length ?_ ?_ |> (fun h => by simpa using h)
  · intro j hj h
    refine hs j hj _ _ (by simp; omega) ?_
    refine Eq.mp ?_ h
    congr 1
    funext k
    congr 1
    rw [List.set_append_right _ _ (by simp; omega)]
    have h1 : (l.map f).take (j + 1) = (l.map f).take j ++ [f l[j]] := by
      rw [List.take_succ_eq_append_getElem (by simpa using hj)]
      simp
    have h2 : l.length - j = (l.length - (j + 1)) + 1 := by omega
    have h3 : j - ((l.map f).take j).length = 0 := by simp; omega
    rw [h1, h3, h2, List.replicate_succ, List.set_cons_zero]
    simp
  · have h := he (l.map f)
    have e : (l.map f).take l.length = l.map f := List.take_of_length_le (by simp)
    simpa [e] using h

/-- A loop that looks at each place and answers no at the first that is not as it ought to be. -/
theorem all_loop {g : Nat → Nat → Option Bool} (N : Nat) (ok : Nat → Bool) (b : Bool) (hs : ∀ j r, j < N → ok j = true → Ev (fun k => g k (j + 1)) r → Ev (fun k => g k j) r)
    (hf : ∀ j, j < N → ok j = false → Ev (fun k => g k j) false) (he : Ev (fun k => g k N) b) : Ev (fun k => g k 0) ((List.range N).all ok && b) := by
  have : ∀ d j, j + d = N → Ev (fun k => g k j) ((List.range' j d).all ok && b) := by
    intro d
    induction d with
    | zero =>
      intro j hj
      have : j = N := by omega
      subst this
      simpa using he
    | succ d ih =>
      intro j hj
      rw [List.range'_succ, List.all_cons]
      cases h : ok j with
      | true => simpa using hs j _ (by omega) h (ih (j + 1) (by omega))
      | false => simpa using hf j (by omega) h
  have h := this N 0 (by omega)
  rwa [← List.range_eq_range'] at h
/-- The same where all places are as they ought to be, .. -/
theorem ok_loop {α : Type} {g : Nat → Nat → Option α} (N : Nat) (ok : Nat → Bool) {r : α} (h : (List.range N).all ok = true) (hs : ∀ j r, j < N → ok j = true → Ev (fun k => g k (j + 1)) r → Ev (fun k => g k j) r)
    (he : Ev (fun k => g k N) r) : Ev (fun k => g k 0) r :=
  loop N (fun j hj hn => hs j r hj (List.all_eq_true.1 h j (List.mem_range.2 hj)) hn) he
/-- .. and where one isn't: the first that isn't decides. -/
theorem bad_loop {α : Type} {g : Nat → Nat → Option α} (N : Nat) (ok : Nat → Bool) (r : α) (h : ¬ (List.range N).all ok = true) (hs : ∀ j r, j < N → ok j = true → Ev (fun k => g k (j + 1)) r → Ev (fun k => g k j) r)
    (hf : ∀ j, j < N → ok j = false → Ev (fun k => g k j) r) : Ev (fun k => g k 0) r := by
  have : ∀ d j, j + d = N → ¬ (List.range' j d).all ok = true → Ev (fun k => g k j) r := by
    intro d
    induction d with
    | zero => exact fun j _ hn => absurd rfl hn
    | succ d ih =>
      intro j hj hn
      rw [List.range'_succ, List.all_cons] at hn
      cases ho : ok j with
      | true => exact hs j _ (by omega) ho (ih (j + 1) (by omega) (by simpa [ho] using hn))
      | false => exact hf j (by omega) ho
  exact this N 0 (by omega) (by rwa [← List.range_eq_range'])
/-- n numbers from a on. -/
def iota (a : Int) (n : Nat) : List Int := (List.range n).map fun (i : Nat) => a + (i : Int)
theorem iota_length (a : Int) (n : Nat) : (iota a n).length = n := by simp [iota]
theorem iota_get (a : Int) (n j : Nat) (h : j < n) : rd (iota a n) (j : Int) = a + j := by simp [rd, iota, h]
theorem iota_set (a : Int) (l : List Int) (j : Nat) (h : j < l.length) : (iota a j ++ l.drop j).set j (a + j) = iota a (j + 1) ++ l.drop (j + 1) := by
  rw [List.set_append_right _ _ (by rw [iota_length]; exact Nat.le_refl _), iota_length, Nat.sub_self, List.drop_eq_getElem_cons h, List.set_cons_zero]
  have : iota a (j + 1) = iota a j ++ [a + j] := by simp [iota, List.range_succ]
  rw [this]
  simp
end Go.Proofs.Ytjcmngplpihbpaa.Aid
end

section
namespace Go.Proofs.Ytjcmngplpihbpaa.Opens
open Go.ChangeShapes Go.WideShapes Go.RowKit Go.Proofs.YtjcmngplpihbpaaW.PrintWords Go.Proofs.Ytjcmngplpihbpaa.Aid
set_option linter.unusedVariables false

/-- Whatever can be read as data of type t is of kind kd, and meets WF. -/
def Opens {α : Type} (P : Program) (t : TypeId) (kd : Kd α) (WF : α → Prop) : Prop :=
  P.cellsOf t = kd.sz ∧ ∀ (H : Type) (enc : TypeId × Value → H) (w : World) (base : Nat) (spare : Nat → Bool) (held : Bool) (fuel : Nat) (cs : List Value) (d : DataW H) (ps : List MemPlace),
    DataW.trod enc P w base spare held fuel t cs = some (d, ps) → (∀ n ∈ d.weights P t, n ≤ reachBytes) → ∃ x, kd.K w x cs ∧ WF x

theorem opens_int {P : Program} {t : TypeId} (ht : P.underlying t = some (.int .i64)) (hc : P.cellsOf t = 1) : Opens P t (Kd.int .i64) I64 := by
  refine ⟨hc, fun H enc w base spare held fuel cs d ps h _ => ?_⟩
  obtain ⟨n, rfl, _, hw⟩ := DataW.trod_int ht h
  exact ⟨n, rfl, i64_of hw⟩

/-- The same of bytes. -/
theorem opens_u8 {P : Program} {t : TypeId} (ht : P.underlying t = some (.int .u8)) (hc : P.cellsOf t = 1) : Opens P t (Kd.int .u8) U8 := by
  refine ⟨hc, fun H enc w base spare held fuel cs d ps h _ => ?_⟩
  obtain ⟨n, rfl, _, hw⟩ := DataW.trod_int ht h
  exact ⟨n, rfl, u8_of hw⟩

theorem opens_bool {P : Program} {t : TypeId} (ht : P.underlying t = some .bool) (hc : P.cellsOf t = 1) : Opens P t Kd.bool (fun _ => True) := by
  refine ⟨hc, fun H enc w base spare held fuel cs d ps h _ => ?_⟩
  obtain ⟨b, rfl, _⟩ := DataW.trod_bool ht h
  exact ⟨b, rfl, trivial⟩

theorem weights_elem {H : Type} {P : Program} {e : TypeId} {n : Nat} : ∀ {ds : List (DataW H)} {d : DataW H}, d ∈ ds → n ∈ d.weights P e → n ∈ DataW.weightsAll P e ds
  | [], _, h, _ => by simp at h
  | d0 :: r, d, h, hn => by
    rw [DataW.weightsAll]
    rcases List.mem_cons.1 h with rfl | h
    · exact List.mem_append_left _ hn
    · exact List.mem_append_right _ (weights_elem h hn)

theorem choose_list {α : Type} {n : Nat} {Q : Nat → α → Prop} (h : ∀ i, i < n → ∃ x, Q i x) : ∃ xs : List α, xs.length = n ∧ ∀ i x, xs[i]? = some x → Q i x := by
  induction n with
  | zero => exact ⟨[], rfl, fun i x hx => by simp at hx⟩
  | succ n ih =>
    obtain ⟨xs, hl, hx⟩ := ih (fun i hi => h i (by omega))
    obtain ⟨y, hy⟩ := h n (by omega)
    refine ⟨xs ++ [y], by simp [hl], fun i x hi => ?_⟩
    by_cases hlt : i < n
    · rw [List.getElem?_append_left (by omega)] at hi
      exact hx i x hi
    · have hl2 := (List.getElem?_eq_some_iff.1 hi).1
      simp at hl2
      have : i = n := by omega
      subst this
      rw [List.getElem?_append_right (by omega)] at hi
      simp [hl] at hi
      exact hi ▸ hy

theorem opens_slice {α : Type} {P : Program} {t e : TypeId} {kd : Kd α} {WF : α → Prop} (ht : P.underlying t = some (.slice e)) (hc : P.cellsOf t = 1) {B : Nat} (hB : P.bytesOf e = B) (he : Opens P e kd WF) :
    Opens P t (Kd.slice e kd) (wfS B WF) := by
  subst hB
  refine ⟨hc, fun H enc w base spare held fuel cs d ps h hw => ?_⟩
  rcases DataW.trod_slice ht h with ⟨rfl, _⟩ | ⟨a, len, cap, elems, rest, n, _, rfl, hx, hb, hl, hm, hlen, hel, _, _⟩
  · exact ⟨[], ⟨none, 0, rfl, Nat.le_refl _, ⟨rfl, by simp, fun h => absurd h (by simp)⟩⟩, by simp [maxLen], by simp, by simp⟩
  · simp only [Prod.mk.injEq] at hx
    obtain ⟨rfl, _⟩ := hx
    have each : ∀ i, i < len → ∃ x, (∃ c, c.length = kd.sz ∧ kd.K w x c ∧ ∀ j u, c[j]? = some u → w.cell? (a.add (i * kd.sz + j)) = some u) ∧ WF x := by
      intro i hi
      have h1 := hel i hi
      have h2 : i < elems.length := by omega
      rw [List.getElem?_eq_getElem h2] at h1
      obtain ⟨c, hc1, hc2⟩ := Option.bind_eq_some_iff.1 h1
      obtain ⟨_, hcl, hcc⟩ := World.cells?_some hc1
      obtain ⟨x, hx1, hx2⟩ := he.2 H enc w base spare held n c elems[i].1 elems[i].2 hc2 (fun m hm' => hw m (by
        rw [DataW.weights, ht]
        simp only [List.mem_cons, List.mem_append]
        exact .inr (.inl (weights_elem (List.mem_map.2 ⟨elems[i], List.getElem_mem h2, rfl⟩) hm'))))
      refine ⟨x, ⟨c, by rw [hcl, he.1], hx1, fun j u hj => ?_⟩, hx2⟩
      have hj2 := (List.getElem?_eq_some_iff.1 hj).1
      have := hcc j (by omega)
      rw [hj, he.1] at this
      rw [← this, Addr.add_add]
    obtain ⟨xs, hxl, hxs⟩ := choose_list each
    subst hxl
    refine ⟨xs, ⟨some a, cap, rfl, hl, ⟨rfl, by simp [maxLen] at hm; omega, fun _ => ⟨a, rfl, fun j p hj => ?_⟩⟩⟩, by omega, ?_, fun x hx => ?_⟩
    · exact (hxs j p hj).1
    · have := hw ((elems.length + rest.length) * P.bytesOf e) (by rw [DataW.weights, ht]; simp)
      exact Nat.le_trans (Nat.mul_le_mul_right _ (by omega)) this
    · obtain ⟨i, hi⟩ := List.getElem?_of_mem hx
      exact (hxs i x hi).2

/-- The same of a struct's fields from one on, which begins at cell off. -/
def OpensF {α : Type} (P : Program) (fs : List Field) (off : Nat) (kd : Kd α) (WF : α → Prop) : Prop :=
  ∀ (H : Type) (enc : TypeId × Value → H) (w : World) (base : Nat) (spare : Nat → Bool) (held : Bool) (fuel : Nat) (cs : List Value) (ys : List (DataW H × List MemPlace)),
    cs.length = off + kd.sz → ys.length = fs.length → (∀ (i : Nat) (f : Field), fs[i]? = some f → DataW.trod enc P w base spare held fuel f.type ((cs.drop f.offset).take (P.cellsOf f.type)) = ys[i]?) →
    (∀ n ∈ DataW.weightsEach P (fs.map (·.type)) (ys.map (·.1)), n ≤ reachBytes) → ∃ x, kd.K w x (cs.drop off) ∧ WF x

theorem opensF_last {α : Type} {P : Program} {f : Field} {off : Nat} {kd : Kd α} {WF : α → Prop} (ho : f.offset = off) (h : Opens P f.type kd WF) : OpensF P [f] off kd WF := by
  intro H enc w base spare held fuel cs ys hcs hys hf hw
  match ys, hys with
  | [y], _ =>
    have h1 := hf 0 f rfl
    rw [ho, h.1, List.take_of_length_le (by simp; omega)] at h1
    exact h.2 H enc w base spare held fuel _ y.1 y.2 h1 (fun n hn => hw n (by simp [DataW.weightsEach, hn]))

theorem opensF_cons {α β : Type} {P : Program} {f : Field} {fs : List Field} {off : Nat} {kd : Kd α} {kr : Kd β} {WF : α → Prop} {WR : β → Prop} (ho : f.offset = off) (h : Opens P f.type kd WF)
    (hr : OpensF P fs (off + kd.sz) kr WR) : OpensF P (f :: fs) off (Kd.pair kd kr) (fun x => WF x.1 ∧ WR x.2) := by
  intro H enc w base spare held fuel cs ys hcs hys hf hw
  match ys, hys with
  | y :: ys, hys =>
    have h1 := hf 0 f rfl
    rw [ho, h.1] at h1
    obtain ⟨x, hx1, hx2⟩ := h.2 H enc w base spare held fuel _ y.1 y.2 h1 (fun n hn => hw n (by simp [DataW.weightsEach, hn]))
    have hs : (Kd.pair kd kr).sz = kd.sz + kr.sz := rfl
    obtain ⟨z, hz1, hz2⟩ := hr H enc w base spare held fuel cs ys (by omega) (by simpa using hys) (fun i g hg => hf (i + 1) g hg) (fun n hn => hw n (by simp [DataW.weightsEach]; exact .inr (by simpa using hn)))
    refine ⟨(x, z), ⟨_, _, ?_, hx1, hz1⟩, hx2, hz2⟩
    rw [← List.drop_drop, List.take_append_drop]

theorem opens_struct {α β : Type} {P : Program} {t : TypeId} {fs : Array Field} {kd : Kd α} {WF : α → Prop} (f : β → α) (g : α → β) (hg : ∀ x, f (g x) = x) (ht : P.underlying t = some (.struct fs)) (hc : P.cellsOf t = kd.sz)
    (h : OpensF P fs.toList 0 kd WF) : Opens P t (Kd.iso kd f) (fun x => WF (f x)) := by
  refine ⟨hc, fun H enc w base spare held fuel cs d ps hd hw => ?_⟩
  obtain ⟨xs, n, _, hx, hl, hxl, hf⟩ := DataW.trod_struct ht hd
  simp only [Prod.mk.injEq] at hx
  obtain ⟨rfl, _⟩ := hx
  obtain ⟨y, hy1, hy2⟩ := h H enc w base spare held n cs xs (by omega) (by simpa using hxl) (fun i f' hf' => hf i f' (by simpa using hf')) (fun m hm => hw m (by rw [DataW.weights, ht]; simpa using hm))
  refine ⟨g y, ?_, ?_⟩
  · show kd.K w (f (g y)) cs
    rw [hg]
    simpa using hy1
  · show WF (f (g y))
    rw [hg]
    exact hy2

/-- An argument, opened. -/
theorem opens_arg {α : Type} {H : Type} {enc : TypeId × Value → H} {P : Program} {w : World} {base : Nat} {spare : Nat → Bool} {held : Bool} {t : TypeId} {v : Value} {kd : Kd α} {WF : α → Prop} {d : DataW H} {ps : List MemPlace} (h : Opens P t kd WF)
    {ts : List TypeId} {ds : List (DataW H)} {j : Nat} (hsz : (DataW.weightsEach P ts ds).all (· ≤ reachBytes) = true) (ht : ts[j]? = some t) (hd : ds[j]? = some d) (hv : DataW.Trod enc P w base spare held t v d ps) :
    ∃ x, kd.K w x v.cells.toList ∧ WF x := by
  obtain ⟨fuel, hf⟩ := hv
  refine h.2 H enc w base spare held fuel _ d ps hf (fun n hn => ?_)
  have := List.all_eq_true.1 hsz n (DataW.weights_mem_each ht hd n hn)
  simpa using this

/-- A slice argument: its address, its capacity, its row. -/
theorem opens_row {α : Type} {P : Program} {w : World} {t e : TypeId} {r : Reach} {b0 : Nat} {v : Value} {kd : Kd α} {x : List α} (ht : P.underlying t = some (.slice e)) (hval : Value.okWide P w r b0 t v) (h : (Kd.slice e kd).K w x v.cells.toList) :
    ∃ A c, v = .slice A x.length c ∧ x.length ≤ c ∧ Kd.C kd w A x.length x := by
  obtain ⟨a, len, cap, rfl⟩ := okWide_slice ht hval
  obtain ⟨A, c, hv, hl, hC⟩ := h
  simp [Value.cells] at hv
  obtain ⟨rfl, rfl, rfl⟩ := hv
  exact ⟨_, _, rfl, hl, hC⟩

/-- A struct argument by value: its cells. -/
theorem opens_agg {P : Program} {w : World} {t : TypeId} {fs : Array Field} {r : Reach} {b0 : Nat} {v : Value} {cs : List Value} (ht : P.underlying t = some (.struct fs)) (hval : Value.okWide P w r b0 t v) (h : v.cells.toList = cs) :
    v = .agg cs.toArray := by
  obtain ⟨c, rfl, _⟩ := okWide_struct ht hval
  simp [Value.cells] at h
  simp [← h]

end Go.Proofs.Ytjcmngplpihbpaa.Opens
end

section
namespace Go.Proofs.Ytjcmngplpihbpaa.PureFnWitnesses
open Go.RowKit Go.Proofs.YtjcmngplpihbpaaW.PrintWords Go.Proofs.YtjcmngplpihbpaaW.PrintLast Go.Proofs.YtjcmngplpihbpaaW.PrintMore Go.Proofs.Ytjcmngplpihbpaa.PWit Go.Proofs.Ytjcmngplpihbpaa.Aid
set_option linter.unusedVariables false
set_option linter.unusedSimpArgs false


theorem spec_l1In_eq (a b c : Int) : spec_l1In.f a b c = some (decide (b ≤ a ∧ a ≤ c)) := by
  unfold spec_l1In.f
  by_cases h : b ≤ a
  · rw [if_pos h]
    simp [h]
  · rw [if_neg h]
    simp [h]

theorem tmod_emod {a m : Int} (hm : 0 < m) : Int.tmod a m = if Int.tmod a m < 0 then a % m - m else a % m := by
  have h1 := Int.emod_nonneg a (by omega : m ≠ 0)
  have h2 := Int.emod_lt_of_pos a hm
  have h3 := Int.tmod_eq_emod (a := a) (b := m)
  by_cases hc : 0 ≤ a ∨ m ∣ a
  · rw [if_pos hc] at h3
    rw [if_neg (by omega)]
    omega
  · rw [if_neg hc] at h3
    rw [if_pos (by omega)]
    omega
theorem tmod_range {a m : Int} (hm : 0 < m) : -m ≤ Int.tmod a m ∧ Int.tmod a m < m := by
  have h := tmod_emod (a := a) hm
  have h1 := Int.emod_nonneg a (by omega : m ≠ 0)
  have h2 := Int.emod_lt_of_pos a hm
  by_cases hc : Int.tmod a m < 0
  · rw [if_pos hc] at h
    omega
  · rw [if_neg hc] at h
    omega
theorem spec_Mod_eq (a m : Int) (h1 : 1 ≤ m) (h2 : m ≤ 1000000000000) : spec_Mod.f a m = some (a % m) := by
  unfold spec_Mod.f
  rw [spec_l1In_eq, Option.bind_some, if_pos (by simp [h1, h2]), if_neg (by omega)]
  have hr := tmod_range (a := a) (m := m) (by omega)
  have he := tmod_emod (a := a) (m := m) (by omega)
  have h3 := Int.emod_nonneg a (by omega : m ≠ 0)
  have h4 := Int.emod_lt_of_pos a (by omega : 0 < m)
  rw [w64 (by omega) (by omega), Int.tmod_eq_emod_of_nonneg (by omega)]
  congr 1
  by_cases hn : Int.tmod a m < 0
  · rw [if_pos hn] at he
    rw [he, show a % m - m + m = a % m by omega, Int.emod_emod_of_dvd _ (Int.dvd_refl m)]
  · rw [if_neg hn] at he
    rw [he, Int.add_emod_right, Int.emod_emod_of_dvd _ (Int.dvd_refl m)]

/-- One more value taken into a hash. -/
def hstep (acc v : Int) : Int := (acc * 1000003 + v % 2147483647 + 13) % 2147483647
theorem hstep_range (a v : Int) : 0 ≤ hstep a v ∧ hstep a v < 2147483647 := ⟨Int.emod_nonneg _ (by omega), Int.emod_lt_of_pos _ (by omega)⟩
theorem hfold_range (l : List Int) : ∀ a : Int, 0 ≤ a → a < 2147483647 → 0 ≤ l.foldl hstep a ∧ l.foldl hstep a < 2147483647 := by
  induction l with
  | nil => exact fun a h0 h1 => ⟨h0, h1⟩
  | cons v r ih => exact fun a _ _ => ih _ (hstep_range a v).1 (hstep_range a v).2
theorem hfold_take (l : List Int) (j : Nat) (h : j < l.length) (a : Int) : (l.take (j + 1)).foldl hstep a = hstep ((l.take j).foldl hstep a) l[j] := by
  rw [List.take_succ_eq_append_getElem h, List.foldl_append]
  rfl
theorem hstep_go (a v : Int) (h0 : 0 ≤ a) (h1 : a < 2147483647) : Int.tmod (wrap64 ((wrap64 ((wrap64 (a * 1000003)) + v % 2147483647)) + 13)) 2147483647 = hstep a v := by
  have h2 := Int.emod_nonneg v (by omega : (2147483647 : Int) ≠ 0)
  have h3 := Int.emod_lt_of_pos v (by omega : (0 : Int) < 2147483647)
  rw [w64 (x := a * 1000003) (by omega) (by omega), w64 (x := a * 1000003 + _) (by omega) (by omega), w64 (by omega) (by omega), Int.tmod_eq_emod_of_nonneg (by omega)]
  rfl
theorem spec_Hash_ev (l : List Int) (hl : l.length < 9223372036854775807) : Ev (fun k => spec_Hash.f k l) (l.foldl hstep 11) := by
  unfold spec_Hash.f
  refine loop (g := fun k j => spec_Hash.l0 k l ((l.take j).foldl hstep 11) (j : Int)) l.length ?_ ?_
  · intro j hj h
    refine shift ?_
    simp only [spec_Hash.l0]
    refine pos (nat_lt hj) (pos (by omega) (bindc (spec_Mod_eq _ _ (by omega) (by omega)) ?_))
    obtain ⟨b0, b1⟩ := hfold_range (l.take j) 11 (by omega) (by omega)
    rw [hstep_go _ _ b0 b1, rd_get _ _ hj, ← hfold_take l j hj, succ_wrap (by omega)]
    exact h
  · refine shift ?_
    simp only [spec_Hash.l0]
    exact neg (nat_ge (Nat.le_refl _)) (now (by rw [List.take_length]))

def sealL (b s : Int) (l : List Int) : Int := ([b, s] ++ l).foldl hstep 11
theorem spec_SealOf_ev (b s : Int) (l : List Int) (hl : l.length ≤ 1048576) : Ev (fun k => spec_SealOf.f k b s l) (sealL b s l) := by
  unfold spec_SealOf.f
  refine bindc rfl (pos (by simp; omega) (Ev.bind (spec_Hash_ev _ (by simp; omega)) (now rfl)))

def okLight (v : List Int) (i : Nat) : Bool := decide (0 ≤ rd v i ∧ rd v i ≤ 2)
def prevSeal (l : List S55) (j : Nat) : Int := if j = 0 then 0 else (rd_T55 l ((j : Int) - 1)).f2
theorem prevSeal_succ (l : List S55) (j : Nat) : prevSeal l (j + 1) = (rd_T55 l j).f2 := by
  have e : ((j + 1 : Nat) : Int) - 1 = (j : Int) := by omega
  rw [prevSeal, if_neg (by omega), e]
/-- Entry j is in its ranges, behind the one before, sealed, and as long as the first. -/
def entryHead (l : List S55) (j : Nat) : Prop := 0 ≤ (rd_T55 l j).f0 ∧ (rd_T55 l j).f0 ≤ 1000000 ∧ (rd_T55 l j).f1.length ≤ 12 ∧ (rd_T55 l j).f1.length = (rd_T55 l 0).f1.length ∧
  (rd_T55 l j).f2 = sealL (prevSeal l j) (rd_T55 l j).f0 (rd_T55 l j).f1 ∧ (0 < j → (rd_T55 l ((j : Int) - 1)).f0 < (rd_T55 l j).f0)
instance (l : List S55) (j : Nat) : Decidable (entryHead l j) := by unfold entryHead; infer_instance
def entryLights (l : List S55) (j : Nat) : Bool := (List.range (rd_T55 l j).f1.length).all (okLight (rd_T55 l j).f1)
def okEntry (l : List S55) (j : Nat) : Bool := decide (entryHead l j) && entryLights l j
theorem okEntry_iff (l : List S55) (j : Nat) : okEntry l j = true ↔ entryHead l j ∧ entryLights l j = true := by
  unfold okEntry
  rw [Bool.and_eq_true, decide_eq_true_iff]
def isRecord (l : List S55) : Bool := (List.range l.length).all (okEntry l) && decide (l.length ≤ 60)
theorem isRecord_iff (l : List S55) : isRecord l = true ↔ (∀ j, j < l.length → entryHead l j ∧ entryLights l j = true) ∧ l.length ≤ 60 := by
  unfold isRecord
  rw [Bool.and_eq_true, List.all_eq_true, decide_eq_true_iff]
  exact ⟨fun h => ⟨fun j hj => (okEntry_iff l j).1 (h.1 j (List.mem_range.2 hj)), h.2⟩, fun h => ⟨fun j hj => (okEntry_iff l j).2 (h.1 j (List.mem_range.1 hj)), h.2⟩⟩
theorem entry_short (l : List S55) (he : ∀ x ∈ l, x.f1.length ≤ 1048576) (i : Nat) (hi : i < l.length) : (rd_T55 l i).f1.length ≤ 1048576 := by
  have : rd_T55 l (i : Int) = l[i] := by simp [rd_T55, hi]
  rw [this]
  exact he _ (List.getElem_mem hi)
theorem spec_IsRecord_lights (l : List S55) (s : Int) (j : Nat) (hj : j < l.length) (hx : (rd_T55 l j).f1.length ≤ 1048576) (i : Nat) (hi : i < (rd_T55 l j).f1.length) :
    (∀ r, okLight (rd_T55 l j).f1 i = true → Ev (fun k => spec_IsRecord.l1 k l s (j : Int) ((i + 1 : Nat) : Int)) r → Ev (fun k => spec_IsRecord.l1 k l s (j : Int) (i : Int)) r) ∧
    (okLight (rd_T55 l j).f1 i = false → Ev (fun k => spec_IsRecord.l1 k l s (j : Int) (i : Int)) false) := by
  constructor
  · intro r ok h
    have ok : 0 ≤ rd (rd_T55 l j).f1 i ∧ rd (rd_T55 l j).f1 i ≤ 2 := by simpa [okLight] using ok
    refine shift ?_
    simp only [spec_IsRecord.l1]
    refine pos (by omega) (pos (nat_lt hj) (pos (nat_lt hi) (pos (by omega) (bindc (spec_l1In_eq _ _ _) (pos (by simp [ok]) ?_)))))
    rw [succ_wrap (by omega)]
    exact h
  · intro ok
    have ok : ¬ (0 ≤ rd (rd_T55 l j).f1 i ∧ rd (rd_T55 l j).f1 i ≤ 2) := by simpa [okLight] using ok
    refine shift ?_
    simp only [spec_IsRecord.l1]
    exact pos (by omega) (pos (nat_lt hj) (pos (nat_lt hi) (pos (by omega) (bindc (spec_l1In_eq _ _ _) (neg (by simpa using ok) (now rfl))))))
theorem spec_IsRecord_in (l : List S55) (h60 : l.length ≤ 60) (he : ∀ x ∈ l, x.f1.length ≤ 1048576) : Ev (fun k => spec_IsRecord.l0 k l (prevSeal l 0) 0) ((List.range l.length).all (okEntry l) && true) := by
  refine all_loop (g := fun k j => spec_IsRecord.l0 k l (prevSeal l j) (j : Int)) l.length (okEntry l) true ?_ ?_ ?_
  · intro j r hj ok h
    have hx := entry_short l he j hj
    obtain ⟨⟨h1, h2, h3, h4, h5, h6⟩, hli⟩ := (okEntry_iff l j).1 ok
    refine shift ?_
    simp only [spec_IsRecord.l0]
    refine pos (nat_lt hj) (shift ?_)
    simp only [spec_IsRecord.j1]
    refine pos (by simp; omega) (pos (by omega) (pos (nat_lt hj) (Ev.bind (spec_SealOf_ev _ _ _ hx) (bindc (spec_l1In_eq _ _ _) (pos (by simp [h1, h2]) (neg (by omega) (pos (by omega) (pos (by omega) (pos h5 ?_)))))))))
    have last : Ev (fun k => spec_IsRecord.j2 k l (sealL (prevSeal l j) (rd_T55 l j).f0 (rd_T55 l j).f1) (j : Int) false) r := by
      refine shift ?_
      simp only [spec_IsRecord.j2]
      refine neg (by simp) ?_
      refine ok_loop (g := fun k i => spec_IsRecord.l1 k l _ (j : Int) (i : Int)) (rd_T55 l j).f1.length (okLight (rd_T55 l j).f1) hli (fun i r hi => (spec_IsRecord_lights l _ j hj hx i hi).1 r) (shift ?_)
      simp only [spec_IsRecord.l1]
      refine pos (by omega) (pos (nat_lt hj) (neg (nat_ge (Nat.le_refl _)) ?_))
      rw [succ_wrap (by omega), ← h5, ← prevSeal_succ]
      exact h
    by_cases h0 : (j : Int) > 0
    · rw [w64 (x := (j : Int) - 1) (by omega) (by omega), decide_eq_false (by have := h6 (by omega); omega)]
      exact pos h0 (pos (by omega) (pos (by omega) last))
    · exact neg h0 last
  · intro j hj ok
    have hx := entry_short l he j hj
    have ok : ¬ (entryHead l j ∧ entryLights l j = true) := by rw [← okEntry_iff, ok]; simp
    unfold entryHead at ok
    have no : ∀ s, Ev (fun k => spec_IsRecord.j2 k l s (j : Int) true) false := by
      intro s
      refine shift ?_
      simp only [spec_IsRecord.j2]
      exact pos (by simp) (now rfl)
    refine shift ?_
    simp only [spec_IsRecord.l0]
    refine pos (nat_lt hj) (shift ?_)
    simp only [spec_IsRecord.j1]
    refine pos (by simp; omega) (pos (by omega) (pos (nat_lt hj) (Ev.bind (spec_SealOf_ev _ _ _ hx) (bindc (spec_l1In_eq _ _ _) ?_))))
    by_cases h1 : 0 ≤ (rd_T55 l j).f0 ∧ (rd_T55 l j).f0 ≤ 1000000
    · refine pos (by simp [h1]) ?_
      by_cases h3 : (rd_T55 l j).f1.length ≤ 12
      · refine neg (by omega) (pos (by omega) ?_)
        by_cases h4 : (rd_T55 l j).f1.length = (rd_T55 l 0).f1.length
        · refine pos (by omega) ?_
          by_cases h5 : (rd_T55 l j).f2 = sealL (prevSeal l j) (rd_T55 l j).f0 (rd_T55 l j).f1
          · refine pos h5 ?_
            have last : (0 < j → (rd_T55 l ((j : Int) - 1)).f0 < (rd_T55 l j).f0) → Ev (fun k => spec_IsRecord.j2 k l (sealL (prevSeal l j) (rd_T55 l j).f0 (rd_T55 l j).f1) (j : Int) false) false := by
              intro h6
              have hli : ¬ entryLights l j = true := fun q => ok ⟨⟨h1.1, h1.2, h3, h4, h5, h6⟩, q⟩
              refine shift ?_
              simp only [spec_IsRecord.j2]
              refine neg (by simp) ?_
              exact bad_loop (g := fun k i => spec_IsRecord.l1 k l _ (j : Int) (i : Int)) (rd_T55 l j).f1.length (okLight (rd_T55 l j).f1) false hli (fun i r hi => (spec_IsRecord_lights l _ j hj hx i hi).1 r) (fun i hi => (spec_IsRecord_lights l _ j hj hx i hi).2)
            by_cases h0 : (j : Int) > 0
            · rw [w64 (x := (j : Int) - 1) (by omega) (by omega)]
              refine pos h0 (pos (by omega) (pos (by omega) ?_))
              by_cases h6 : (rd_T55 l ((j : Int) - 1)).f0 < (rd_T55 l j).f0
              · rw [decide_eq_false (by omega)]
                exact last (fun _ => h6)
              · rw [decide_eq_true (by omega)]
                exact no _
            · exact neg h0 (last (fun q => absurd q (by omega)))
          · exact neg h5 (no _)
        · exact neg (by omega) (no _)
      · exact pos (by omega) (no _)
    · exact neg (by simpa using h1) (no _)
  · refine shift ?_
    simp only [spec_IsRecord.l0]
    refine neg (nat_ge (Nat.le_refl _)) (shift ?_)
    simp only [spec_IsRecord.j1]
    exact neg (by simp) (now (decide_eq_true (by omega)))
theorem spec_IsRecord_ev (l : List S55) (hl : l.length ≤ 1048577) (he : ∀ x ∈ l, x.f1.length ≤ 1048576) : Ev (fun k => spec_IsRecord.f k l) (isRecord l) := by
  unfold spec_IsRecord.f isRecord
  by_cases h60 : l.length ≤ 60
  · rw [decide_eq_true h60]
    exact spec_IsRecord_in l h60 he
  · rw [decide_eq_false h60, Bool.and_false]
    refine shift ?_
    simp only [spec_IsRecord.l0]
    refine pos (by omega) (shift ?_)
    simp only [spec_IsRecord.j1]
    exact neg (by simp; omega) (now (decide_eq_false (by omega)))

theorem impl_InRange_eq (a b c : Int) : impl_InRange.f a b c = some (decide (b ≤ a ∧ a ≤ c)) := by
  unfold impl_InRange.f
  by_cases h : b ≤ a
  · rw [if_pos h]
    simp [h]
  · rw [if_neg h]
    simp [h]

theorem impl_Mod_eq (a m : Int) (h1 : 1 ≤ m) (h2 : m ≤ 1000000000000) : impl_Mod.f a m = some (a % m) := by
  unfold impl_Mod.f
  rw [impl_InRange_eq, Option.bind_some, if_pos (by simp [h1, h2]), if_neg (by omega)]
  have he := tmod_emod (a := a) (m := m) (by omega)
  have h3 := Int.emod_nonneg a (by omega : m ≠ 0)
  have h4 := Int.emod_lt_of_pos a (by omega : 0 < m)
  by_cases hn : Int.tmod a m < 0
  · rw [if_pos hn] at he
    rw [if_pos hn, w64 (by omega) (by omega), he]
    congr 1
    omega
  · rw [if_neg hn] at he
    rw [if_neg hn, he]

theorem impl_fold_eq (a v : Int) (h0 : 0 ≤ a) (h1 : a < 2147483647) : impl_fold.f a v = some (hstep a v) := by
  unfold impl_fold.f
  rw [impl_Mod_eq _ _ (by omega) (by omega), Option.bind_some, hstep_go a v h0 h1]

theorem impl_Hash_ev (l : List Int) (hl : l.length < 9223372036854775807) : Ev (fun k => impl_Hash.f k l) (l.foldl hstep 11) := by
  unfold impl_Hash.f
  refine loop (g := fun k j => impl_Hash.l0 k ((l.take j).foldl hstep 11) l (l.length : Int) (j : Int)) l.length ?_ ?_
  · intro j hj h
    refine shift ?_
    simp only [impl_Hash.l0]
    obtain ⟨b0, b1⟩ := hfold_range (l.take j) 11 (by omega) (by omega)
    refine pos (nat_lt hj) (pos (by omega) (pos (nat_lt hj) (bindc (impl_fold_eq _ _ b0 b1) ?_)))
    rw [rd_get _ _ hj, ← hfold_take l j hj, succ_wrap (by omega)]
    exact h
  · refine shift ?_
    simp only [impl_Hash.l0]
    exact neg (nat_ge (Nat.le_refl _)) (now (by rw [List.take_length]))


theorem impl_SealOf_ev (b s : Int) (l : List Int) (hl : l.length ≤ 1048576) : Ev (fun k => impl_SealOf.f k b s l) (sealL b s l) := by
  unfold impl_SealOf.f
  refine bindc rfl (pos (by simp; omega) (Ev.bind (impl_Hash_ev _ (by simp; omega)) (now rfl)))

theorem impl_IsRecord_lights (l : List S55) (n : Int) (j : Nat) (hx : (rd_T55 l j).f1.length ≤ 1048576) (i : Nat) (hi : i < (rd_T55 l j).f1.length) :
    (∀ r, okLight (rd_T55 l j).f1 i = true → Ev (fun k => impl_IsRecord.l1 k l l n (j : Int) (rd_T55 l j).f1 ((rd_T55 l j).f1.length : Int) ((i + 1 : Nat) : Int) (rd_T55 l j).f0 (rd_T55 l j).f1 (rd_T55 l j).f2) r → Ev (fun k => impl_IsRecord.l1 k l l n (j : Int) (rd_T55 l j).f1 ((rd_T55 l j).f1.length : Int) (i : Int) (rd_T55 l j).f0 (rd_T55 l j).f1 (rd_T55 l j).f2) r) ∧
    (okLight (rd_T55 l j).f1 i = false → Ev (fun k => impl_IsRecord.l1 k l l n (j : Int) (rd_T55 l j).f1 ((rd_T55 l j).f1.length : Int) (i : Int) (rd_T55 l j).f0 (rd_T55 l j).f1 (rd_T55 l j).f2) false) := by
  constructor
  · intro r ok h
    have ok : 0 ≤ rd (rd_T55 l j).f1 i ∧ rd (rd_T55 l j).f1 i ≤ 2 := by simpa [okLight] using ok
    refine shift ?_
    simp only [impl_IsRecord.l1]
    refine pos (nat_lt hi) (pos (by omega) (pos (nat_lt hi) (bindc (impl_InRange_eq _ _ _) (pos (by simp [ok]) ?_))))
    rw [succ_wrap (by omega)]
    exact h
  · intro ok
    have ok : ¬ (0 ≤ rd (rd_T55 l j).f1 i ∧ rd (rd_T55 l j).f1 i ≤ 2) := by simpa [okLight] using ok
    refine shift ?_
    simp only [impl_IsRecord.l1]
    exact pos (nat_lt hi) (pos (by omega) (pos (nat_lt hi) (bindc (impl_InRange_eq _ _ _) (neg (by simpa using ok) (now rfl)))))
theorem impl_IsRecord_in (l : List S55) (h60 : l.length ≤ 60) (he : ∀ x ∈ l, x.f1.length ≤ 1048576) : Ev (fun k => impl_IsRecord.l0 k l (prevSeal l 0) l (l.length : Int) 0) ((List.range l.length).all (okEntry l) && true) := by
  refine all_loop (g := fun k j => impl_IsRecord.l0 k l (prevSeal l j) l (l.length : Int) (j : Int)) l.length (okEntry l) true ?_ ?_ ?_
  · intro j r hj ok h
    have hx := entry_short l he j hj
    obtain ⟨⟨h1, h2, h3, h4, h5, h6⟩, hli⟩ := (okEntry_iff l j).1 ok
    have last : Ev (fun k => impl_IsRecord.j1 k l l (l.length : Int) (j : Int) ((rd_T55 l j).f2 != sealL (prevSeal l j) (rd_T55 l j).f0 (rd_T55 l j).f1) (rd_T55 l j).f0 (rd_T55 l j).f1 (rd_T55 l j).f2) r := by
      refine shift ?_
      simp only [impl_IsRecord.j1]
      refine neg (by rw [← h5]; simp) ?_
      refine ok_loop (g := fun k i => impl_IsRecord.l1 k l l (l.length : Int) (j : Int) (rd_T55 l j).f1 ((rd_T55 l j).f1.length : Int) (i : Int) (rd_T55 l j).f0 (rd_T55 l j).f1 (rd_T55 l j).f2) (rd_T55 l j).f1.length (okLight (rd_T55 l j).f1) hli (fun i r hi => (impl_IsRecord_lights l _ j hx i hi).1 r) (shift ?_)
      simp only [impl_IsRecord.l1]
      refine neg (nat_ge (Nat.le_refl _)) ?_
      rw [succ_wrap (by omega), ← prevSeal_succ]
      exact h
    refine shift ?_
    simp only [impl_IsRecord.l0]
    refine pos (nat_lt hj) (pos (by omega) (pos (nat_lt hj) (bindc (impl_InRange_eq _ _ _) (pos (by simp [h1, h2]) ?_))))
    by_cases h0 : (j : Int) > 0
    · rw [w64 (x := (j : Int) - 1) (by omega) (by omega)]
      exact pos h0 (pos (by omega) (pos (by omega) (neg (by have := h6 (by omega); omega) (neg (by omega) (pos (by omega) (pos (by omega) (Ev.bind (impl_SealOf_ev _ _ _ hx) last)))))))
    · exact neg h0 (neg (by omega) (pos (by omega) (pos (by omega) (Ev.bind (impl_SealOf_ev _ _ _ hx) last))))
  · intro j hj ok
    have hx := entry_short l he j hj
    have ok : ¬ (entryHead l j ∧ entryLights l j = true) := by rw [← okEntry_iff, ok]; simp
    unfold entryHead at ok
    have no : Ev (fun k => impl_IsRecord.j1 k l l (l.length : Int) (j : Int) true (rd_T55 l j).f0 (rd_T55 l j).f1 (rd_T55 l j).f2) false := by
      refine shift ?_
      simp only [impl_IsRecord.j1]
      exact pos (by simp) (now rfl)
    refine shift ?_
    simp only [impl_IsRecord.l0]
    refine pos (nat_lt hj) (pos (by omega) (pos (nat_lt hj) (bindc (impl_InRange_eq _ _ _) ?_)))
    by_cases h1 : 0 ≤ (rd_T55 l j).f0 ∧ (rd_T55 l j).f0 ≤ 1000000
    · refine pos (by simp [h1]) ?_
      have more : (0 < j → (rd_T55 l ((j : Int) - 1)).f0 < (rd_T55 l j).f0) → (rd_T55 l j).f1.length ≤ 12 → (rd_T55 l j).f1.length = (rd_T55 l 0).f1.length →
          Ev (fun k => impl_IsRecord.j1 k l l (l.length : Int) (j : Int) ((rd_T55 l j).f2 != sealL (prevSeal l j) (rd_T55 l j).f0 (rd_T55 l j).f1) (rd_T55 l j).f0 (rd_T55 l j).f1 (rd_T55 l j).f2) false := by
        intro h6 h3 h4
        by_cases h5 : (rd_T55 l j).f2 = sealL (prevSeal l j) (rd_T55 l j).f0 (rd_T55 l j).f1
        · have hli : ¬ entryLights l j = true := fun q => ok ⟨⟨h1.1, h1.2, h3, h4, h5, h6⟩, q⟩
          refine shift ?_
          simp only [impl_IsRecord.j1]
          refine neg (by rw [← h5]; simp) ?_
          exact bad_loop (g := fun k i => impl_IsRecord.l1 k l l (l.length : Int) (j : Int) (rd_T55 l j).f1 ((rd_T55 l j).f1.length : Int) (i : Int) (rd_T55 l j).f0 (rd_T55 l j).f1 (rd_T55 l j).f2) (rd_T55 l j).f1.length (okLight (rd_T55 l j).f1) false hli (fun i r hi => (impl_IsRecord_lights l _ j hx i hi).1 r) (fun i hi => (impl_IsRecord_lights l _ j hx i hi).2)
        · rw [show ((rd_T55 l j).f2 != sealL (prevSeal l j) (rd_T55 l j).f0 (rd_T55 l j).f1) = true by simpa using h5]
          exact no
      by_cases h0 : (j : Int) > 0
      · rw [w64 (x := (j : Int) - 1) (by omega) (by omega)]
        refine pos h0 (pos (by omega) (pos (by omega) ?_))
        by_cases h6 : (rd_T55 l ((j : Int) - 1)).f0 < (rd_T55 l j).f0
        · refine neg (by omega) ?_
          by_cases h3 : (rd_T55 l j).f1.length ≤ 12
          · refine neg (by omega) (pos (by omega) ?_)
            by_cases h4 : (rd_T55 l j).f1.length = (rd_T55 l 0).f1.length
            · exact pos (by omega) (Ev.bind (impl_SealOf_ev _ _ _ hx) (more (fun _ => h6) h3 h4))
            · exact neg (by omega) no
          · exact pos (by omega) no
        · exact pos (by omega) no
      · refine neg h0 ?_
        by_cases h3 : (rd_T55 l j).f1.length ≤ 12
        · refine neg (by omega) (pos (by omega) ?_)
          by_cases h4 : (rd_T55 l j).f1.length = (rd_T55 l 0).f1.length
          · exact pos (by omega) (Ev.bind (impl_SealOf_ev _ _ _ hx) (more (fun q => absurd q (by omega)) h3 h4))
          · exact neg (by omega) no
        · exact pos (by omega) no
    · exact neg (by simpa using h1) no
  · refine shift ?_
    simp only [impl_IsRecord.l0]
    exact neg (nat_ge (Nat.le_refl _)) (now rfl)
theorem impl_IsRecord_ev (l : List S55) (hl : l.length ≤ 1048577) (he : ∀ x ∈ l, x.f1.length ≤ 1048576) : Ev (fun k => impl_IsRecord.f k l) (isRecord l) := by
  unfold impl_IsRecord.f isRecord
  by_cases h60 : l.length ≤ 60
  · rw [decide_eq_true h60]
    exact neg (by omega) (impl_IsRecord_in l h60 he)
  · rw [decide_eq_false h60, Bool.and_false]
    exact pos (by omega) (now rfl)

def lightOf (v : List Int) (i : Int) : Int := if 0 ≤ i ∧ i < v.length then rd v i else -1
theorem lightOf_in {v : List Int} {i : Int} (h : 0 ≤ i ∧ i < v.length) : lightOf v i = rd v i := by rw [lightOf, if_pos h]
theorem lightOf_out {v : List Int} {i : Int} (h : ¬ (0 ≤ i ∧ i < v.length)) : lightOf v i = -1 := by rw [lightOf, if_neg h]
theorem record_len {l : List S55} (h : isRecord l = true) (j : Nat) (hj : j < l.length) : (rd_T55 l j).f1.length = (rd_T55 l 0).f1.length := ((isRecord_iff l).1 h).1 j hj |>.1.2.2.2.1
theorem record_pred {l : List S55} (h : isRecord l = true) (j : Nat) (h0 : 0 < j) (hj : j < l.length) : (rd_T55 l ((j : Int) - 1)).f1.length = (rd_T55 l j).f1.length := by
  have e : (j : Int) - 1 = ((j - 1 : Nat) : Int) := by omega
  rw [e, record_len h (j - 1) (by omega), record_len h j hj]

theorem impl_lightOf_eq (a : Int) (v : List Int) (b i : Int) : impl_lightOf.f a v b i = some (lightOf v i) := by
  unfold impl_lightOf.f lightOf
  by_cases h0 : i < 0
  · rw [if_pos h0, if_neg (by omega)]
  · rw [if_neg h0]
    by_cases h1 : i ≥ v.length
    · rw [if_pos h1, if_neg (by omega)]
    · rw [if_neg h1, if_pos (by omega), if_pos (by omega), if_pos (by omega)]

def putS : List Int → Int → List Int
  | [], a => [a]
  | x :: r, a => if x < a then x :: putS r a else if x = a then x :: r else a :: x :: r
theorem putS_len (l : List Int) (a : Int) : (putS l a).length ≤ l.length + 1 := by
  induction l with
  | nil => simp [putS]
  | cons x r ih =>
    simp only [putS]
    split
    · simp; omega
    · split <;> simp
theorem mem_putS (l : List Int) (a s : Int) : s ∈ putS l a ↔ s ∈ l ∨ s = a := by
  induction l with
  | nil => simp [putS]
  | cons x r ih =>
    simp only [putS]
    split
    · simp only [List.mem_cons, ih]
      constructor
      · rintro (h | h | h)
        · exact .inl (.inl h)
        · exact .inl (.inr h)
        · exact .inr h
      · rintro ((h | h) | h)
        · exact .inl h
        · exact .inr (.inl h)
        · exact .inr (.inr h)
    · split
      · rename_i _ e
        constructor
        · exact .inl
        · rintro (h | h)
          · exact h
          · rw [h, ← e]; exact List.mem_cons_self
      · simp only [List.mem_cons]
        constructor
        · rintro (h | h)
          · exact .inr h
          · exact .inl h
        · rintro (h | h)
          · exact .inr h
          · exact .inl h
theorem putS_asc (l : List Int) (a : Int) (h : l.Pairwise (· < ·)) : (putS l a).Pairwise (· < ·) := by
  induction l with
  | nil => simp [putS]
  | cons x r ih =>
    rw [List.pairwise_cons] at h
    simp only [putS]
    split
    · rename_i hx
      rw [List.pairwise_cons]
      refine ⟨fun s hs => ?_, ih h.2⟩
      rcases (mem_putS r a s).1 hs with q | q
      · exact h.1 s q
      · omega
    · split
      · rw [List.pairwise_cons]; exact h
      · rename_i hx he
        rw [List.pairwise_cons, List.pairwise_cons]
        refine ⟨fun s hs => ?_, h⟩
        rcases List.mem_cons.1 hs with q | q
        · omega
        · have := h.1 s q; omega
theorem putS_split (l : List Int) (a : Int) : ∀ j, j ≤ l.length → (∀ i, i < j → rd l (i : Int) < a) → putS l a = l.take j ++ putS (l.drop j) a := by
  intro j
  induction l generalizing j with
  | nil => intro hj _; have : j = 0 := by simpa using hj
           subst this; simp
  | cons x r ih =>
    intro hj h
    cases j with
    | zero => simp
    | succ j =>
      have hx : x < a := by simpa [rd] using h 0 (by omega)
      simp only [List.take_succ_cons, List.drop_succ_cons, List.cons_append, putS, if_pos hx]
      rw [ih j (by simpa using hj) (fun i hi => by have := h (i + 1) (by omega); simpa [rd] using this)]
/-- The numbers of a list, each once, ascending. -/
def putAll (l : List Int) : List Int := l.foldl putS []
theorem putAll_snoc (l : List Int) (a : Int) : putAll (l ++ [a]) = putS (putAll l) a := by simp [putAll]
theorem snoc_ind {P : List Int → Prop} (h0 : P []) (h1 : ∀ r a, P r → P (r ++ [a])) (l : List Int) : P l := by
  have : ∀ r : List Int, P r.reverse := by
    intro r
    induction r with
    | nil => exact h0
    | cons x r ih => rw [List.reverse_cons]; exact h1 _ _ ih
  simpa using this l.reverse
theorem putAll_len (l : List Int) : (putAll l).length ≤ l.length := by
  refine snoc_ind (P := fun l => (putAll l).length ≤ l.length) (by simp [putAll]) (fun r a ih => ?_) l
  rw [putAll_snoc]
  have := putS_len (putAll r) a
  simp; omega
theorem mem_putAll (l : List Int) (s : Int) : s ∈ putAll l ↔ s ∈ l := by
  refine snoc_ind (P := fun l => s ∈ putAll l ↔ s ∈ l) (by simp [putAll]) (fun r a ih => ?_) l
  rw [putAll_snoc, mem_putS, ih]; simp
theorem putAll_asc (l : List Int) : (putAll l).Pairwise (· < ·) := by
  refine snoc_ind (P := fun l => (putAll l).Pairwise (· < ·)) (by simp [putAll]) (fun r a ih => ?_) l
  rw [putAll_snoc]; exact putS_asc _ _ ih
theorem asc_ext : ∀ {a b : List Int}, a.Pairwise (· < ·) → b.Pairwise (· < ·) → (∀ s, s ∈ a ↔ s ∈ b) → a = b
  | [], [], _, _, _ => rfl
  | [], y :: b, _, _, h => by have := (h y).2 List.mem_cons_self; simp at this
  | x :: a, [], _, _, h => by have := (h x).1 List.mem_cons_self; simp at this
  | x :: a, y :: b, ha, hb, h => by
    rw [List.pairwise_cons] at ha hb
    have hxy : x = y := by
      rcases List.mem_cons.1 ((h x).1 List.mem_cons_self) with q | q
      · exact q
      · rcases List.mem_cons.1 ((h y).2 List.mem_cons_self) with q2 | q2
        · exact q2.symm
        · have := hb.1 x q; have := ha.1 y q2; omega
    subst hxy
    rw [asc_ext ha.2 hb.2 (fun s => ⟨fun hs => ?_, fun hs => ?_⟩)]
    · rcases List.mem_cons.1 ((h s).1 (List.mem_cons_of_mem _ hs)) with q | q
      · have := ha.1 s hs; omega
      · exact q
    · rcases List.mem_cons.1 ((h s).2 (List.mem_cons_of_mem _ hs)) with q | q
      · have := hb.1 s hs; omega
      · exact q
theorem rd_bang (l : List Int) (j : Nat) : l.toArray[j]! = rd l (j : Int) := by simp [rd, List.getD_eq_getElem?_getD]
theorem compact_asc (l : List Int) (h : l.Pairwise (· ≤ ·)) : (Go.Lib.compact l).Pairwise (· < ·) := by
  unfold Go.Lib.compact Go.Lib.compactUpTo
  rw [List.pairwise_map]
  refine List.Pairwise.imp_of_mem ?_ (List.Pairwise.filter _ List.pairwise_lt_range)
  intro i j hi hj hij
  have hj2 := List.mem_filter.1 hj
  have hjl : j < l.length := List.mem_range.1 hj2.1
  have hk : j = 0 ∨ l.toArray[j]! ≠ l.toArray[j - 1]! := by simpa [Go.Lib.keeps] using hj2.2
  rw [rd_bang, rd_bang] at *
  have hk2 : rd l (j : Int) ≠ rd l ((j - 1 : Nat) : Int) := hk.resolve_left (by omega)
  have g : ∀ a b : Nat, a ≤ b → b < l.length → rd l (a : Int) ≤ rd l (b : Int) := by
    intro a b hab hb
    rcases Nat.lt_or_ge a b with q | q
    · rw [rd_get l a (by omega), rd_get l b hb]
      exact List.pairwise_iff_getElem.1 h a b (by omega) hb q
    · have : a = b := by omega
      rw [this]; exact Int.le_refl _
  have g1 := g i (j - 1) (by omega) (by omega)
  have g2 := g (j - 1) j (by omega) hjl
  omega
theorem mem_compact (l : List Int) (s : Int) : s ∈ Go.Lib.compact l ↔ s ∈ l := by
  unfold Go.Lib.compact Go.Lib.compactUpTo
  rw [List.mem_map]
  constructor
  · rintro ⟨j, hj, rfl⟩
    have hjl : j < l.length := List.mem_range.1 (List.mem_filter.1 hj).1
    rw [rd_bang, rd_get l j hjl]
    exact List.getElem_mem hjl
  · intro hs
    obtain ⟨j, hj, rfl⟩ := List.mem_iff_getElem.1 hs
    have : ∀ n j, j ≤ n → (hj : j < l.length) → ∃ a, a ∈ (List.range l.length).filter (Go.Lib.keeps l.toArray) ∧ l.toArray[a]! = l[j] := by
      intro n
      induction n with
      | zero =>
        intro j h0 hj
        have : j = 0 := by omega
        subst this
        exact ⟨0, List.mem_filter.2 ⟨List.mem_range.2 hj, by simp [Go.Lib.keeps]⟩, by rw [rd_bang, rd_get l 0 hj]⟩
      | succ n ih =>
        intro j h0 hj
        by_cases hk : Go.Lib.keeps l.toArray j = true
        · exact ⟨j, List.mem_filter.2 ⟨List.mem_range.2 hj, hk⟩, by rw [rd_bang, rd_get l j hj]⟩
        · have hk2 : ¬ (j = 0 ∨ l.toArray[j]! ≠ l.toArray[j - 1]!) := by simpa [Go.Lib.keeps] using hk
          have h1 : j ≠ 0 := fun e => hk2 (.inl e)
          have h2 : l.toArray[j]! = l.toArray[j - 1]! := Decidable.not_not.1 (fun e => hk2 (.inr e))
          rw [rd_bang, rd_bang, rd_get l j hj, rd_get l (j - 1) (by omega)] at h2
          rw [h2]
          exact ih (j - 1) (by omega) (by omega)
    exact this j j (Nat.le_refl _) hj
theorem compact_sort (l : List Int) : Go.Lib.compact (l.mergeSort fun x y => decide (x ≤ y)) = putAll l := by
  refine asc_ext (compact_asc _ ?_) (putAll_asc l) (fun s => ?_)
  · have := List.pairwise_mergeSort (le := fun x y : Int => decide (x ≤ y)) (fun a b c h1 h2 => by simp at *; omega) (fun a b => by simp; omega) l
    exact this.imp (fun h => by simpa using h)
  · rw [mem_compact, mem_putAll]; exact (List.mergeSort_perm l _).mem_iff

def shownAdd (l : List S55) (i f u : Int) (j : Nat) : List Int := if 0 ≤ i ∧ i < (rd_T55 l j).f1.length ∧ (rd_T55 l j).f0 ≤ u ∧ (j + 1 = l.length ∨ f < (rd_T55 l ((j + 1 : Nat) : Int)).f0) then [rd (rd_T55 l j).f1 i] else []
def shownIn (l : List S55) (i f u : Int) : Nat → List Int
  | 0 => []
  | j + 1 => shownIn l i f u j ++ shownAdd l i f u j
theorem shownIn_len (l : List S55) (i f u : Int) (j : Nat) : (shownIn l i f u j).length ≤ j := by
  induction j with
  | zero => simp [shownIn]
  | succ j ih =>
    have : (shownAdd l i f u j).length ≤ 1 := by unfold shownAdd; split <;> simp
    simp only [shownIn, List.length_append]
    omega
def shownBetween (l : List S55) (i f u : Int) : List Int := if isRecord l = true ∧ f ≤ u then putAll (shownIn l i f u l.length) else []
theorem shownBetween_len (l : List S55) (i f u : Int) : (shownBetween l i f u).length ≤ 60 := by
  unfold shownBetween
  split
  · rename_i h
    have h60 := ((isRecord_iff l).1 h.1).2
    have h1 := putAll_len (shownIn l i f u l.length)
    have h2 := shownIn_len l i f u l.length
    omega
  · simp
theorem record_light {l : List S55} (h : isRecord l = true) (j : Nat) (hj : j < l.length) (i : Int) (h0 : 0 ≤ i) (hi : i < (rd_T55 l j).f1.length) : 0 ≤ rd (rd_T55 l j).f1 i ∧ rd (rd_T55 l j).f1 i ≤ 2 := by
  have hA := (((isRecord_iff l).1 h).1 j hj).2
  unfold entryLights at hA
  have := List.all_eq_true.1 hA i.toNat (List.mem_range.2 (by omega))
  have e : ((i.toNat : Nat) : Int) = i := by omega
  rw [okLight, decide_eq_true_eq, e] at this
  exact this

theorem impl_ShownBetween_ev (l : List S55) (i f u : Int) (hl : l.length ≤ 1048577) (he : ∀ x ∈ l, x.f1.length ≤ 1048576) : Ev (fun k => impl_ShownBetween.f k l i f u) (shownBetween l i f u) := by
  unfold impl_ShownBetween.f shownBetween
  simp only [Option.bind_some]
  refine Ev.bind (impl_IsRecord_ev l hl he) ?_
  by_cases hr : isRecord l = true
  · refine pos hr ?_
    by_cases hfu : f ≤ u
    · have h60 := ((isRecord_iff l).1 hr).2
      rw [if_pos ⟨hr, hfu⟩]
      refine shift ?_
      simp only [impl_ShownBetween.j0]
      refine neg (by simp; omega) ?_
      have main : Ev (fun k => impl_ShownBetween.l0 k l i f u (shownIn l i f u 0) l (l.length : Int) ((0 : Nat) : Int)) (putAll (shownIn l i f u l.length)) := by
        refine loop_from (g := fun k j => impl_ShownBetween.l0 k l i f u (shownIn l i f u j) l (l.length : Int) (j : Int)) (r := putAll (shownIn l i f u l.length)) 0 l.length (by omega) (fun j _ hj h => ?_) ?_
        · have hlen := shownIn_len l i f u j
          have no : shownAdd l i f u j = [] → shownIn l i f u (j + 1) = shownIn l i f u j := fun q => by rw [shownIn, q, List.append_nil]
          refine shift ?_
          simp only [impl_ShownBetween.l0]
          rw [succ_wrap (j := j) (by omega), w64 (x := (l.length : Int) - 1) (by omega) (by omega)]
          refine pos (nat_lt hj) (pos (by omega) (pos (nat_lt hj) (bindc (impl_lightOf_eq _ _ _ _) ?_)))
          by_cases hi : 0 ≤ i ∧ i < (rd_T55 l (j : Int)).f1.length
          · have hv := record_light hr j hj i hi.1 hi.2
            rw [lightOf_in hi]
            refine pos hv.1 ?_
            have yes : (rd_T55 l (j : Int)).f0 ≤ u → (j + 1 = l.length ∨ f < (rd_T55 l ((j + 1 : Nat) : Int)).f0) → shownIn l i f u (j + 1) = shownIn l i f u j ++ [rd (rd_T55 l (j : Int)).f1 i] := fun q1 q2 => by rw [shownIn, shownAdd, if_pos ⟨hi.1, hi.2, q1, q2⟩]
            by_cases hu : (rd_T55 l (j : Int)).f0 ≤ u
            · refine pos hu ?_
              by_cases hlast : j + 1 = l.length
              · rw [yes hu (.inl hlast)] at h
                exact pos (by omega) (pos (by omega) h)
              · refine neg (by omega) (pos (by omega) (pos (by omega) ?_))
                by_cases hf : f < (rd_T55 l ((j + 1 : Nat) : Int)).f0
                · rw [yes hu (.inr hf)] at h
                  exact pos hf (pos (by omega) h)
                · rw [no (by rw [shownAdd, if_neg (fun q => q.2.2.2.elim hlast hf)])] at h
                  exact neg hf h
            · rw [no (by rw [shownAdd, if_neg (fun q => hu q.2.2.1)])] at h
              exact neg hu h
          · rw [lightOf_out hi]
            rw [no (by rw [shownAdd, if_neg (fun q => hi ⟨q.1, q.2.1⟩)])] at h
            exact neg (by omega) h
        · have hlen := shownIn_len l i f u l.length
          refine shift ?_
          simp only [impl_ShownBetween.l0]
          refine neg (nat_ge (Nat.le_refl _)) (bindc (a := (shownIn l i f u l.length).mergeSort fun x y => decide (x ≤ y)) (by unfold slices_Sort_int_int.f; rw [if_pos (by omega)]) (bindc (a := putAll (shownIn l i f u l.length)) ?_ (now rfl)))
          unfold slices_Compact_int_int.f
          rw [if_pos (by simp; omega), compact_sort]
      exact main
    · rw [if_neg (fun q => hfu q.2)]
      refine shift ?_
      simp only [impl_ShownBetween.j0]
      exact pos (by simp; omega) (now rfl)
  · rw [if_neg (fun q => hr q.1)]
    refine neg hr (shift ?_)
    simp only [impl_ShownBetween.j0]
    exact pos trivial (now rfl)

theorem laws_big_eq (l : List Int) : laws_big.f l = some (decide ((l.length : Int) > 1048576)) := rfl

theorem spec_l1New_ev (l : List Int) : ∃ s, Ev (fun k => spec_l1New.f k l) (l, 0, s) := by
  unfold spec_l1New.f
  have : ∀ d j s, j + d = l.length → (j : Nat) ≤ 4000 → ∃ s2, Ev (fun k => spec_l1New.l0 k l s (j : Int)) (l, 0, s2) := by
    intro d
    induction d with
    | zero =>
      intro j s hj _
      refine ⟨s, shift ?_⟩
      simp only [spec_l1New.l0]
      exact neg (by omega) (now rfl)
    | succ d ih =>
      intro j s hj hk
      by_cases h : j < 4000
      · obtain ⟨s2, h2⟩ := ih (j + 1) (Go.bits .and .i64 (wrap64 ((wrap64 ((wrap64 (s * 137)) + (wrap64 (rd l j)))) + 11)) 1073741823) (by omega) (by omega)
        refine ⟨s2, shift ?_⟩
        simp only [spec_l1New.l0]
        rw [succ_wrap (by omega)]
        exact pos (by omega) (pos (by omega) (pos (by omega) h2))
      · refine ⟨s, shift ?_⟩
        simp only [spec_l1New.l0]
        exact pos (by omega) (neg (by omega) (now rfl))
  exact this l.length 0 _ (by omega) (by omega)

theorem and255 (x : Int) : 0 ≤ Go.bits .and .i64 x 255 ∧ Go.bits .and .i64 x 255 ≤ 255 := by
  have h : (BitVec.ofInt 64 x &&& BitVec.ofInt 64 255).toNat ≤ 255 := by
    rw [BitVec.toNat_and]
    exact Nat.le_trans Nat.and_le_right (by decide)
  show 0 ≤ IntKind.wrap .i64 ((BitVec.ofInt 64 x &&& BitVec.ofInt 64 255).toNat : Int) ∧ IntKind.wrap .i64 ((BitVec.ofInt 64 x &&& BitVec.ofInt 64 255).toNat : Int) ≤ 255
  generalize (BitVec.ofInt 64 x &&& BitVec.ofInt 64 255).toNat = n at h
  have e : IntKind.wrap .i64 (n : Int) = wrap64 (n : Int) := by simp only [i64_w]
  rw [e, w64 (by omega) (by omega)]
  omega
theorem spec_l1Byte_ok (d : List Int) (p s : Int) (hd : d.length ≤ 1048576) (hp : 0 ≤ p ∧ p ≤ d.length) : ∃ v p2 s2, spec_l1Byte.f d p s = some (v, p2, s2) ∧ (0 ≤ p2 ∧ p2 ≤ d.length) ∧ 0 ≤ v ∧ v ≤ 255 := by
  unfold spec_l1Byte.f
  by_cases h : p < (d.length : Int)
  · refine ⟨_, _, _, by rw [if_pos h, if_pos hp.1], ?_, and255 _⟩
    rw [w64 (by omega) (by omega)]
    omega
  · exact ⟨_, _, _, by rw [if_neg h], hp, and255 _⟩

theorem spec_l1Below_ok (d : List Int) (p s a : Int) (hd : d.length ≤ 1048576) (hp : 0 ≤ p ∧ p ≤ d.length) : ∃ v p2 s2, spec_l1Below.f d p s a = some (v, p2, s2) ∧ (0 ≤ p2 ∧ p2 ≤ d.length) ∧ 0 ≤ v ∧ (0 < a → v < a) := by
  unfold spec_l1Below.f
  by_cases h : a ≤ 0
  · exact ⟨0, p, s, by rw [if_pos h], hp, by omega, by omega⟩
  rw [if_neg h]
  obtain ⟨v1, p1, s1, e1, r1, b1⟩ := spec_l1Byte_ok d p s hd hp
  by_cases h2 : a ≤ 256
  · refine ⟨Int.tmod v1 a, p1, s1, by rw [if_pos h2, e1, Option.bind_some, if_neg (by omega)], r1, Int.tmod_nonneg _ b1.1, fun h3 => Int.tmod_lt_of_pos _ h3⟩
  · obtain ⟨v2, p2, s2, e2, r2, b2⟩ := spec_l1Byte_ok d p1 s1 hd r1
    obtain ⟨v3, p3, s3, e3, r3, b3⟩ := spec_l1Byte_ok d p2 s2 hd r2
    refine ⟨_, p3, s3, by rw [if_neg h2, e1, Option.bind_some]; simp only [e2, e3, Option.bind_some]; rw [if_neg (by omega)], r3, Int.tmod_nonneg _ ?_, fun h3 => Int.tmod_lt_of_pos _ h3⟩
    rw [w64 (x := v1 * 65536) (by omega) (by omega), w64 (x := v2 * 256) (by omega) (by omega), w64 (x := v1 * 65536 + v2 * 256) (by omega) (by omega), w64 (by omega) (by omega)]
    omega

theorem eqAll {a b : List Int} (hl : a.length = b.length) : (List.range b.length).all (fun i => decide (rd a (i : Int) = rd b (i : Int))) = decide (a = b) := by
  by_cases h : a = b
  · subst h
    simp
  · rw [decide_eq_false h]
    apply Bool.eq_false_iff.2
    intro g
    refine h (List.ext_getElem hl (fun i h1 h2 => ?_))
    have := List.all_eq_true.1 g i (List.mem_range.2 h2)
    simpa [rd_get a i h1, rd_get b i h2] using this
theorem spec_EqualInts_ev (a b : List Int) (ha : a.length ≤ 1048576) : Ev (fun k => spec_EqualInts.f k a b) (decide (a = b)) := by
  unfold spec_EqualInts.f
  by_cases h : a.length = b.length
  · refine pos (by omega) ?_
    rw [← eqAll h]
    refine all_loop (g := fun k j => spec_EqualInts.l0 k a b (j : Int)) b.length (fun i => decide (rd a (i : Int) = rd b (i : Int))) true ?_ ?_ ?_ |> (fun h => by simpa using h)
    · intro j r hj ok hh
      refine shift ?_
      simp only [spec_EqualInts.l0]
      rw [succ_wrap (by omega)]
      exact pos (by omega) (pos (by omega) (pos (by omega) (pos (of_decide_eq_true ok) hh)))
    · intro j hj ok
      refine shift ?_
      simp only [spec_EqualInts.l0]
      exact pos (by omega) (pos (by omega) (pos (by omega) (neg (of_decide_eq_false ok) (now rfl))))
    · refine shift ?_
      simp only [spec_EqualInts.l0]
      exact neg (by omega) (now rfl)
  · refine neg (by omega) (now ?_)
    rw [decide_eq_false (fun e => h (by rw [e]))]

/-- As all_loop, with what the earlier places are known to be. -/
theorem all_loopI {g : Nat → Nat → Option Bool} (N : Nat) (ok : Nat → Bool) (b : Bool) (hs : ∀ j r, j < N → (∀ i, i ≤ j → ok i = true) → Ev (fun k => g k (j + 1)) r → Ev (fun k => g k j) r)
    (hf : ∀ j, j < N → (∀ i, i < j → ok i = true) → ok j = false → Ev (fun k => g k j) false) (he : (∀ i, i < N → ok i = true) → Ev (fun k => g k N) b) : Ev (fun k => g k 0) ((List.range N).all ok && b) := by
  have : ∀ d j, j + d = N → (∀ i, i < j → ok i = true) → Ev (fun k => g k j) ((List.range' j d).all ok && b) := by
    intro d
    induction d with
    | zero =>
      intro j hj hb
      have : j = N := by omega
      subst this
      simpa using he hb
    | succ d ih =>
      intro j hj hb
      rw [List.range'_succ, List.all_cons]
      cases h : ok j with
      | true =>
        have hb2 : ∀ i, i < j + 1 → ok i = true := fun i hi => by
          by_cases e : i = j
          · rw [e]; exact h
          · exact hb i (by omega)
        simpa using hs j _ (by omega) (fun i hi => hb2 i (by omega)) (ih (j + 1) (by omega) hb2)
      | false => simpa using hf j (by omega) hb h
  have h := this N 0 (by omega) (fun i hi => by omega)
  rwa [← List.range_eq_range'] at h
theorem rd_take (xs : List Int) (j k : Nat) (h : k < j) : rd (xs.take j) (k : Int) = rd xs (k : Int) := by simp [rd, List.getD_eq_getElem?_getD, List.getElem?_take, h]
theorem take_len {α : Type} (xs : List α) (j : Nat) (h : j < xs.length) : (xs.take j).length = j := by rw [List.length_take]; omega
theorem take_snoc {α : Type} (xs : List α) (j : Nat) (h : j < xs.length) : xs.take (j + 1) = xs.take j ++ [xs[j]] := by rw [List.take_succ_eq_append_getElem h]

theorem rdEntry (p : List S55) (j : Nat) (h : j < p.length) : rd_T55 p (j : Int) = p[j] := by simp [rd_T55, h]
theorem spec_l27Copy_ev (l : List S55) (hl : l.length ≤ 1048577) (he : ∀ x ∈ l, x.f1.length ≤ 1048576) : Ev (fun k => spec_l27Copy.f k l) l := by
  unfold spec_l27Copy.f
  refine loop (g := fun k j => spec_l27Copy.l0 k l (l.take j) (j : Int)) l.length ?_ ?_ |> (fun h => by simpa using h)
  · intro j hj h
    have hx := he _ (List.getElem_mem hj)
    refine shift ?_
    simp only [spec_l27Copy.l0]
    rw [succ_wrap (by omega), rdEntry l j hj]
    rw [take_snoc l j hj] at h
    exact pos (nat_lt hj) (pos (by omega) (bindc rfl (pos (by simp; omega) (pos (by simp; omega) h))))
  · refine shift ?_
    simp only [spec_l27Copy.l0]
    exact neg (nat_ge (Nat.le_refl _)) (now (by rw [List.take_length]))

def lastSeal (l : List S55) : Int := if l.length = 0 then 0 else (rd_T55 l ((l.length : Int) - 1)).f2
theorem spec_LastSeal_eq (l : List S55) (hl : l.length ≤ 1048577) : spec_LastSeal.f l = some (lastSeal l) := by
  unfold spec_LastSeal.f lastSeal
  by_cases h : l.length = 0
  · rw [if_pos (by omega), if_pos h]
  · rw [if_neg (by omega), if_neg h, w64 (by omega) (by omega), if_pos (by omega), if_pos (by omega)]

def moreE (l : List S55) (s : Int) (v : List Int) : List S55 := l ++ [⟨s, v, sealL (lastSeal l) s v⟩]
def addE (l : List S55) (s : Int) (v : List Int) : List S55 × Bool := if isRecord (moreE l s v) = true then (moreE l s v, true) else (l, false)
theorem moreE_short (l : List S55) (s : Int) (v : List Int) (he : ∀ x ∈ l, x.f1.length ≤ 1048576) (hv : v.length ≤ 1048576) : ∀ x ∈ moreE l s v, x.f1.length ≤ 1048576 := by
  intro x hx
  rcases List.mem_append.1 hx with h | h
  · exact he x h
  · rw [List.mem_singleton.1 h]
    exact hv
theorem moreE_length (l : List S55) (s : Int) (v : List Int) : (moreE l s v).length = l.length + 1 := by simp [moreE]
theorem addE_short (l : List S55) (s : Int) (v : List Int) (he : ∀ x ∈ l, x.f1.length ≤ 1048576) (hv : v.length ≤ 1048576) : ∀ x ∈ (addE l s v).1, x.f1.length ≤ 1048576 := by
  unfold addE
  split
  · exact moreE_short l s v he hv
  · exact he
theorem addE_length (l : List S55) (s : Int) (v : List Int) : (addE l s v).1.length ≤ l.length + 1 := by
  unfold addE
  split
  · rw [moreE_length]; omega
  · show l.length ≤ l.length + 1; omega
theorem spec_AddEntry_ev (l : List S55) (s : Int) (v : List Int) (hl : l.length ≤ 1048576) (he : ∀ x ∈ l, x.f1.length ≤ 1048576) (hv : v.length ≤ 1048576) : Ev (fun k => spec_AddEntry.f k l s v) (addE l s v) := by
  unfold spec_AddEntry.f addE
  have hc := spec_l27Copy_ev l (by omega) he
  refine Ev.bind hc (bindc rfl (pos (by simp; omega) (bindc (spec_LastSeal_eq l (by omega)) (Ev.bind (spec_SealOf_ev _ _ _ hv) (pos (by omega) (bindc rfl (Ev.bind (spec_IsRecord_ev (moreE l s v) (by rw [moreE_length]; omega) (moreE_short l s v he hv)) ?_)))))))
  by_cases h : isRecord (moreE l s v) = true
  · rw [if_pos h]
    exact pos h (now rfl)
  · rw [if_neg h]
    exact neg h (Ev.bind hc (now rfl))

def lastE (l : List S55) : S55 := rd_T55 l ((l.length : Int) - 1)
def noteE (l : List S55) (s : Int) (v : List Int) : List S55 × Bool :=
  if l.length = 0 ∨ ¬ (lastE l).f1 = v then addE l s v else (l, isRecord l && (decide (s > (lastE l).f0) && decide (0 ≤ s ∧ s ≤ 1000000)))
theorem noteE_short (l : List S55) (s : Int) (v : List Int) (he : ∀ x ∈ l, x.f1.length ≤ 1048576) (hv : v.length ≤ 1048576) : ∀ x ∈ (noteE l s v).1, x.f1.length ≤ 1048576 := by
  unfold noteE
  split
  · exact addE_short l s v he hv
  · exact he
theorem noteE_length (l : List S55) (s : Int) (v : List Int) : (noteE l s v).1.length ≤ l.length + 1 := by
  unfold noteE
  split
  · exact addE_length l s v
  · show l.length ≤ l.length + 1; omega
theorem lastE_short (l : List S55) (he : ∀ x ∈ l, x.f1.length ≤ 1048576) (h : ¬ l.length = 0) : (lastE l).f1.length ≤ 1048576 := by
  have e : (l.length : Int) - 1 = ((l.length - 1 : Nat) : Int) := by omega
  unfold lastE
  rw [e]
  exact entry_short l he _ (by omega)
theorem spec_NoteLights_ev (l : List S55) (s : Int) (v : List Int) (hl : l.length ≤ 1048576) (he : ∀ x ∈ l, x.f1.length ≤ 1048576) (hv : v.length ≤ 1048576) : Ev (fun k => spec_NoteLights.f k l s v) (noteE l s v) := by
  unfold spec_NoteLights.f noteE
  have add : Ev (fun k => spec_NoteLights.j0 k l s v true) (addE l s v) := by
    refine shift ?_
    simp only [spec_NoteLights.j0]
    exact pos trivial (Ev.bind (spec_AddEntry_ev l s v hl he hv) (now rfl))
  by_cases h0 : l.length = 0
  · rw [if_pos (.inl h0)]
    exact pos (by omega) add
  · rw [w64 (x := (l.length : Int) - 1) (by omega) (by omega)]
    refine neg (by omega) (pos (by omega) (pos (by omega) (Ev.bind (spec_EqualInts_ev (lastE l).f1 v (lastE_short l he h0)) ?_)))
    by_cases h1 : (lastE l).f1 = v
    · rw [if_neg (fun g => g.elim h0 (fun g => g h1)), decide_eq_true h1]
      refine shift ?_
      simp only [spec_NoteLights.j0]
      rw [w64 (x := (l.length : Int) - 1) (by omega) (by omega)]
      refine neg (by decide) (Ev.bind (spec_l27Copy_ev l (by omega) he) (Ev.bind (spec_IsRecord_ev l (by omega) he) ?_))
      by_cases h2 : isRecord l = true
      · refine pos h2 (pos (by omega) (pos (by omega) ?_))
        rw [h2, Bool.true_and]
        by_cases h3 : s > (lastE l).f0
        · exact pos h3 (bindc (spec_l1In_eq _ _ _) (now (by rw [decide_eq_true h3, Bool.true_and])))
        · exact neg h3 (now (by rw [decide_eq_false h3, Bool.false_and]))
      · exact neg h2 (now (by simp [h2]))
    · rw [if_pos (.inr h1), decide_eq_false h1]
      exact add

theorem addE_all (P : List Int → Prop) (l : List S55) (s : Int) (v : List Int) (h : ∀ x ∈ l, P x.f1) (hv : P v) : ∀ x ∈ (addE l s v).1, P x.f1 := by
  unfold addE
  split
  · intro x hx
    rcases List.mem_append.1 hx with h1 | h1
    · exact h x h1
    · rw [List.mem_singleton.1 h1]
      exact hv
  · exact h
theorem noteE_all (P : List Int → Prop) (l : List S55) (s : Int) (v : List Int) (h : ∀ x ∈ l, P x.f1) (hv : P v) : ∀ x ∈ (noteE l s v).1, P x.f1 := by
  unfold noteE
  split
  · exact addE_all P l s v h hv
  · exact h
theorem spec_l27Draw_at (cap : Nat) (hcap : cap ≤ 12) (d : List Int) (hd : d.length ≤ 1048576) (n : Nat) (hn : 1 ≤ n ∧ n ≤ cap) : ∀ (i : Nat) (l : List S55) (t p s : Int), l.length + i ≤ 8 → (∀ x ∈ l, 1 ≤ x.f1.length ∧ x.f1.length ≤ cap) → (0 ≤ p ∧ p ≤ d.length) →
    ∃ l2 p2 s2, Ev (fun k => spec_l27Draw.l0 k (n : Int) l t (i : Int) d p s) (l2, p2, s2) ∧ (0 ≤ p2 ∧ p2 ≤ d.length) ∧ l2.length ≤ 8 ∧ ∀ x ∈ l2, 1 ≤ x.f1.length ∧ x.f1.length ≤ cap := by
  intro i
  induction i with
  | zero =>
    intro l t p s hl he hp
    refine ⟨l, p, s, shift ?_, hp, by omega, he⟩
    simp only [spec_l27Draw.l0]
    exact neg (by omega) (now rfl)
  | succ i ih =>
    intro l t p s hl he hp
    have inner : ∀ (m j : Nat) (v : List Int) (p s : Int), j + m = n → v.length = j → (0 ≤ p ∧ p ≤ d.length) →
        ∃ l2 p2 s2, Ev (fun k => spec_l27Draw.l1 k (n : Int) l t ((i + 1 : Nat) : Int) v (j : Int) d p s) (l2, p2, s2) ∧ (0 ≤ p2 ∧ p2 ≤ d.length) ∧ l2.length ≤ 8 ∧ ∀ x ∈ l2, 1 ≤ x.f1.length ∧ x.f1.length ≤ cap := by
      intro m
      induction m with
      | zero =>
        intro j v p s hj hv hp
        obtain ⟨c, p2, s2, e, hp2, _⟩ := spec_l1Below_ok d p s 9 hd hp
        obtain ⟨l3, p3, s3, h3, r⟩ := ih (noteE l t v).1 (wrap64 ((wrap64 (t + 1)) + c)) p2 s2 (by have := noteE_length l t v; omega) (noteE_all (fun y => 1 ≤ y.length ∧ y.length ≤ cap) l t v he ⟨by omega, by omega⟩) hp2
        refine ⟨l3, p3, s3, shift ?_, r⟩
        simp only [spec_l27Draw.l1]
        have e1 : wrap64 (((i + 1 : Nat) : Int) - 1) = (i : Int) := by rw [w64 (by omega) (by omega)]; omega
        refine neg (by omega) (Ev.bind (spec_NoteLights_ev l t v (by omega) (fun x hx => by have := he x hx; omega) (by omega)) (bindc e ?_))
        rw [e1]
        exact h3
      | succ m ihm =>
        intro j v p s hj hv hp
        obtain ⟨c, p2, s2, e, hp2, _⟩ := spec_l1Below_ok d p s 3 hd hp
        obtain ⟨l3, p3, s3, h3, r⟩ := ihm (j + 1) (v ++ [c]) p2 s2 (by omega) (by simp; omega) hp2
        refine ⟨l3, p3, s3, shift ?_, r⟩
        simp only [spec_l27Draw.l1]
        refine pos (by omega) (bindc e (pos (by omega) ?_))
        rw [succ_wrap (by omega)]
        exact h3
    obtain ⟨l2, p2, s2, h, r⟩ := inner n 0 [] p s (by omega) rfl hp
    refine ⟨l2, p2, s2, shift ?_, r⟩
    simp only [spec_l27Draw.l0]
    exact pos (by omega) h
theorem spec_l27Draw_cap (cap : Nat) (hcap : cap ≤ 12) (d : List Int) (hd : d.length ≤ 1048576) (n : Nat) (hn : 1 ≤ n ∧ n ≤ cap) (p s : Int) (hp : 0 ≤ p ∧ p ≤ d.length) :
    ∃ l2 p2 s2, Ev (fun k => spec_l27Draw.f k d p s (n : Int)) (l2, p2, s2) ∧ (0 ≤ p2 ∧ p2 ≤ d.length) ∧ l2.length ≤ 8 ∧ ∀ x ∈ l2, 1 ≤ x.f1.length ∧ x.f1.length ≤ cap := by
  unfold spec_l27Draw.f
  obtain ⟨t, p2, s2, e2, hp2, _⟩ := spec_l1Below_ok d p s 5 hd hp
  obtain ⟨i, p3, s3, e3, hp3, i0, i1⟩ := spec_l1Below_ok d p2 s2 8 hd hp2
  have i1 := i1 (by omega)
  obtain ⟨m, rfl⟩ := Int.eq_ofNat_of_zero_le i0
  obtain ⟨l, p4, s4, h, r⟩ := spec_l27Draw_at cap hcap d hd n hn m [] t p3 s3 (by simp; omega) (fun x hx => by cases hx) hp3
  exact ⟨l, p4, s4, bindc e2 (bindc e3 h), r⟩
theorem spec_l27Draw_ev (d : List Int) (hd : d.length ≤ 1048576) (n : Nat) (hn : 1 ≤ n ∧ n ≤ 4) (p s : Int) (hp : 0 ≤ p ∧ p ≤ d.length) :
    ∃ l2 p2 s2, Ev (fun k => spec_l27Draw.f k d p s (n : Int)) (l2, p2, s2) ∧ (0 ≤ p2 ∧ p2 ≤ d.length) ∧ l2.length ≤ 8 ∧ ∀ x ∈ l2, 1 ≤ x.f1.length ∧ x.f1.length ≤ 4 := spec_l27Draw_cap 4 (by omega) d hd n hn p s hp

theorem spec_l1Int_ok (d : List Int) (p s : Int) (l : List Int) (hd : d.length ≤ 1048576) (hp : 0 ≤ p ∧ p ≤ d.length) (hl : 0 < l.length) : ∃ v p2 s2, spec_l1Int.f d p s l = some (v, p2, s2) ∧ (0 ≤ p2 ∧ p2 ≤ d.length) ∧ v ∈ l := by
  unfold spec_l1Int.f
  obtain ⟨v, p2, s2, e, r, h0, h1⟩ := spec_l1Below_ok d p s (l.length : Int) hd hp
  have h1 := h1 (by omega)
  refine ⟨rd l v, p2, s2, by rw [e, Option.bind_some, if_pos h0, if_pos h1], r, ?_⟩
  obtain ⟨n, rfl⟩ := Int.eq_ofNat_of_zero_le h0
  rw [rd_get l n (by omega)]
  exact List.getElem_mem _

theorem set_all (P : S55 → Prop) (l : List S55) (j : Nat) (y : S55) (h : ∀ x ∈ l, P x) (hy : P y) : ∀ x ∈ l.set j y, P x := by
  intro x hx
  rcases List.mem_or_eq_of_mem_set hx with h1 | h1
  · exact h x h1
  · exact h1 ▸ hy
theorem spec_l27Any_ev (d : List Int) (hd : d.length ≤ 1048576) (p s : Int) (hp : 0 ≤ p ∧ p ≤ d.length) :
    ∃ l2 p2 s2, Ev (fun k => spec_l27Any.f k d p s) (l2, p2, s2) ∧ (0 ≤ p2 ∧ p2 ≤ d.length) ∧ l2.length ≤ 8 ∧ ∀ x ∈ l2, x.f1.length ≤ 5 := by
  unfold spec_l27Any.f
  obtain ⟨n, p1, s1, e1, hp1, n0, n1⟩ := spec_l1Below_ok d p s 4 hd hp
  have n1 := n1 (by (try dsimp only); omega)
  obtain ⟨m, hm⟩ := Int.eq_ofNat_of_zero_le (show 0 ≤ 1 + n by omega)
  have hw : wrap64 (1 + n) = (m : Int) := by rw [w64 (by (try dsimp only); omega) (by (try dsimp only); omega), hm]
  obtain ⟨l, p2, s2, h2, hp2, hl, he⟩ := spec_l27Draw_ev d hd m (by (try dsimp only); omega) p1 s1 hp1
  by_cases h0 : l.length = 0
  · refine ⟨l, p2, s2, bindc e1 ?_, hp2, hl, fun x hx => by have := he x hx; omega⟩
    dsimp only
    rw [hw]
    exact Ev.bind h2 (pos (by (try dsimp only); omega) (now rfl))
  obtain ⟨i, p3, s3, e3, hp3, i0, i1⟩ := spec_l1Below_ok d p2 s2 (l.length : Int) hd hp2
  have i1 := i1 (by (try dsimp only); omega)
  obtain ⟨j, rfl⟩ := Int.eq_ofNat_of_zero_le i0
  have hj : j < l.length := by omega
  obtain ⟨c, p4, s4, e4, hp4, _⟩ := spec_l1Below_ok d p3 s3 9 hd hp3
  have hx := he _ (List.getElem_mem hj)
  have hg := rdEntry l j hj
  have he5 : ∀ x ∈ l, x.f1.length ≤ 5 := fun x hx => by have := he x hx; omega
  have start : ∀ {r : List S55 × Int × Int} {F : Nat → Option (List S55 × Int × Int)}, Ev F r → Ev F r := fun h => h
  by_cases c0 : c = 0
  · obtain ⟨v, p5, s5, e5, hp5, _⟩ := spec_l1Int_ok d p4 s4 [(-1), 0, 1000000, 1000001] hd hp4 (by simp)
    refine ⟨l.set j ⟨v, l[j].f1, l[j].f2⟩, p5, s5, bindc e1 ?_, hp5, by simpa using hl, set_all (fun x => x.f1.length ≤ 5) l j _ he5 (by show l[j].f1.length ≤ 5; omega)⟩
    dsimp only
    rw [hw]
    refine Ev.bind h2 (neg (by (try dsimp only); omega) (bindc e3 (bindc e4 (pos c0 (bindc e5 (pos (by (try dsimp only); omega) (pos (by dsimp only; omega) ?_)))))))
    dsimp only
    rw [hg]
    exact now rfl
  by_cases c1 : c = 1
  · refine ⟨l.set j ⟨l[j].f0, l[j].f1 ++ [1], l[j].f2⟩, p4, s4, bindc e1 ?_, hp4, by simpa using hl, set_all (fun x => x.f1.length ≤ 5) l j _ he5 (by show (l[j].f1 ++ [1]).length ≤ 5; simp; omega)⟩
    dsimp only
    rw [hw]
    refine Ev.bind h2 (neg (by (try dsimp only); omega) (bindc e3 (bindc e4 (neg c0 (pos c1 (pos (by (try dsimp only); omega) (pos (by dsimp only; omega) ?_)))))))
    dsimp only
    rw [hg]
    exact pos (by (try dsimp only); omega) (now rfl)
  by_cases c2 : c = 2
  · refine ⟨l.set j ⟨l[j].f0, l[j].f1, wrap64 (l[j].f2 + 1)⟩, p4, s4, bindc e1 ?_, hp4, by simpa using hl, set_all (fun x => x.f1.length ≤ 5) l j _ he5 (by show l[j].f1.length ≤ 5; omega)⟩
    dsimp only
    rw [hw]
    refine Ev.bind h2 (neg (by (try dsimp only); omega) (bindc e3 (bindc e4 (neg c0 (neg c1 (pos c2 (pos (by (try dsimp only); omega) (pos (by dsimp only; omega) ?_))))))))
    dsimp only
    rw [hg]
    exact now rfl
  by_cases c3 : c = 3
  · obtain ⟨v, p5, s5, e5, hp5, _⟩ := spec_l1Int_ok d p4 s4 [(-1), 3] hd hp4 (by simp)
    refine ⟨l.set j ⟨l[j].f0, l[j].f1.set 0 v, l[j].f2⟩, p5, s5, bindc e1 ?_, hp5, by simpa using hl, set_all (fun x => x.f1.length ≤ 5) l j _ he5 (by show (l[j].f1.set 0 v).length ≤ 5; simp; omega)⟩
    dsimp only
    rw [hw]
    refine Ev.bind h2 (neg (by (try dsimp only); omega) (bindc e3 (bindc e4 (neg c0 (neg c1 (neg c2 (pos c3 (pos (by (try dsimp only); omega) (pos (by dsimp only; omega) (bindc e5 ?_))))))))))
    dsimp only
    rw [hg]
    exact pos (by (try dsimp only); omega) (now rfl)
  · refine ⟨l, p4, s4, bindc e1 ?_, hp4, hl, he5⟩
    dsimp only
    rw [hw]
    exact Ev.bind h2 (neg (by (try dsimp only); omega) (bindc e3 (bindc e4 (neg c0 (neg c1 (neg c2 (neg c3 (now rfl))))))))

theorem spec_DrawShownAt_ev (d : List Int) (hd : d.length ≤ 1048576) : ∃ l t, Ev (fun k => spec_DrawShownAt.f k d) (l, t) ∧ l.length ≤ 8 ∧ (∀ x ∈ l, x.f1.length ≤ 5) ∧ -1 ≤ t ∧ t ≤ 1000000 := by
  unfold spec_DrawShownAt.f
  obtain ⟨s, h0⟩ := spec_l1New_ev d
  obtain ⟨l, p1, s1, h1, hp1, hl, he⟩ := spec_l27Any_ev d hd 0 s (by omega)
  obtain ⟨t, p2, s2, e2, hp2, ht⟩ := spec_l1Int_ok d p1 s1 [(-1), 0, 3, 9, 20, 40, 1000000] hd hp1 (by simp)
  have ht2 : -1 ≤ t ∧ t ≤ 1000000 := by
    simp only [List.mem_cons, List.not_mem_nil, or_false] at ht
    omega
  exact ⟨l, t, Ev.bind h0 (Ev.bind h1 (bindc e2 (now rfl))), hl, he, ht2⟩

theorem spec_DrawLightShown_ev (d : List Int) (hd : d.length ≤ 1048576) : ∃ l i t, Ev (fun k => spec_DrawLightShown.f k d) (l, i, t) ∧ l.length ≤ 8 ∧ (∀ x ∈ l, x.f1.length ≤ 5) ∧ -1 ≤ t ∧ t ≤ 1000000 := by
  unfold spec_DrawLightShown.f
  obtain ⟨l, t, h0, hl, he, ht⟩ := spec_DrawShownAt_ev d hd
  obtain ⟨s, h1⟩ := spec_l1New_ev d
  obtain ⟨i, p2, s2, e2, _⟩ := spec_l1Below_ok d 0 s 5 hd (by omega)
  exact ⟨l, wrap64 (i - 1), t, Ev.bind h0 (Ev.bind h1 (bindc e2 (now rfl))), hl, he, ht⟩

theorem spec_DrawShownBetween_ev (d : List Int) (hd : d.length ≤ 1048576) : ∃ l i t u, Ev (fun k => spec_DrawShownBetween.f k d) (l, i, t, u) ∧ l.length ≤ 8 ∧ (∀ x ∈ l, x.f1.length ≤ 5) := by
  unfold spec_DrawShownBetween.f
  obtain ⟨l, i, t, h0, hl, he, _⟩ := spec_DrawLightShown_ev d hd
  obtain ⟨s, h1⟩ := spec_l1New_ev d
  obtain ⟨c, p2, s2, e2, _⟩ := spec_l1Below_ok d 0 s 20 hd (by omega)
  exact ⟨l, i, t, wrap64 ((wrap64 (t + c)) - 2), Ev.bind h0 (Ev.bind h1 (bindc e2 (now rfl))), hl, he⟩

def lastAt (l : List S55) (t : Int) : Nat → Int
  | 0 => -1
  | j + 1 => if (rd_T55 l j).f0 ≤ t then (j : Int) else lastAt l t j
theorem lastAt_range (l : List S55) (t : Int) (j : Nat) : -1 ≤ lastAt l t j ∧ lastAt l t j < j := by
  induction j with
  | zero => simp [lastAt]
  | succ j ih =>
    rw [lastAt]
    split <;> omega
def entryAt (l : List S55) (t : Int) : Int := if isRecord l = true then lastAt l t l.length else -1
theorem entryAt_range (l : List S55) (t : Int) : -1 ≤ entryAt l t ∧ entryAt l t < l.length := by
  have := lastAt_range l t l.length
  unfold entryAt
  split <;> omega
theorem entryAt_record (l : List S55) (t : Int) (h : 0 ≤ entryAt l t) : isRecord l = true := by
  by_cases hr : isRecord l = true
  · exact hr
  · unfold entryAt at h
    rw [if_neg hr] at h
    omega

theorem impl_entryAt_ev (l : List S55) (t : Int) (hl : l.length ≤ 1048577) (he : ∀ x ∈ l, x.f1.length ≤ 1048576) : Ev (fun k => impl_entryAt.f k l t) (entryAt l t) := by
  unfold impl_entryAt.f entryAt
  refine Ev.bind (impl_IsRecord_ev l hl he) ?_
  by_cases hr : isRecord l = true
  · rw [if_pos hr]
    refine pos hr (loop (g := fun k j => impl_entryAt.l0 k t (lastAt l t j) l (l.length : Int) (j : Int)) l.length ?_ ?_)
    · intro j hj h
      refine shift ?_
      simp only [impl_entryAt.l0]
      refine pos (nat_lt hj) (pos (by omega) (pos (nat_lt hj) ?_))
      rw [succ_wrap (by omega)]
      rw [lastAt] at h
      by_cases h1 : (rd_T55 l j).f0 ≤ t
      · rw [if_pos h1] at h
        exact pos h1 h
      · rw [if_neg h1] at h
        exact neg h1 h
    · refine shift ?_
      simp only [impl_entryAt.l0]
      exact neg (nat_ge (Nat.le_refl _)) (now rfl)
  · rw [if_neg hr]
    exact neg hr (now rfl)

def shownAt (l : List S55) (t : Int) : List Int × Bool := if entryAt l t < 0 then ([], false) else ((rd_T55 l (entryAt l t)).f1, true)
theorem entryAt_short (l : List S55) (t : Int) (he : ∀ x ∈ l, x.f1.length ≤ 1048576) (h : 0 ≤ entryAt l t) : (rd_T55 l (entryAt l t)).f1.length ≤ 1048576 := by
  have hr := entryAt_range l t
  have e : entryAt l t = ((entryAt l t).toNat : Int) := by omega
  rw [e]
  exact entry_short l he _ (by omega)
theorem shownAt_short (l : List S55) (t : Int) (he : ∀ x ∈ l, x.f1.length ≤ 1048576) : (shownAt l t).1.length ≤ 1048576 := by
  unfold shownAt
  by_cases h : entryAt l t < 0
  · rw [if_pos h]
    simp
  · rw [if_neg h]
    exact entryAt_short l t he (by omega)

def lightShown (l : List S55) (i t : Int) : Int := if entryAt l t < 0 then -1 else lightOf (rd_T55 l (entryAt l t)).f1 i

theorem impl_LightShown_ev (l : List S55) (i t : Int) (hl : l.length ≤ 1048577) (he : ∀ x ∈ l, x.f1.length ≤ 1048576) : Ev (fun k => impl_LightShown.f k l i t) (lightShown l i t) := by
  unfold impl_LightShown.f lightShown
  have hr := entryAt_range l t
  refine Ev.bind (impl_entryAt_ev l t hl he) ?_
  by_cases h : entryAt l t < 0
  · exact pos h (now (by rw [if_pos h]))
  · exact neg h (pos (by omega) (pos (by omega) (bindc (impl_lightOf_eq _ _ _ _) (now (by rw [if_neg h])))))

theorem laws_ascends_ev (l : List Int) (h : l.Pairwise (· < ·)) (hl : l.length ≤ 1048576) : Ev (fun k => laws_ascends.f k l) true := by
  unfold laws_ascends.f
  by_cases hn : l.length ≤ 1
  · refine shift ?_
    simp only [laws_ascends.l0]
    exact neg (by omega) (now rfl)
  · have main : Ev (fun k => laws_ascends.l0 k l ((1 : Nat) : Int)) true := by
      refine loop_from (g := fun k j => laws_ascends.l0 k l (j : Int)) (r := true) 1 l.length (by omega) (fun j hj1 hj h2 => ?_) ?_
      · refine shift ?_
        simp only [laws_ascends.l0]
        rw [w64 (x := (j : Int) - 1) (by omega) (by omega), succ_wrap (j := j) (by omega)]
        have e : (j : Int) - 1 = ((j - 1 : Nat) : Int) := by omega
        have q := List.pairwise_iff_getElem.1 h (j - 1) j (by omega) hj (by omega)
        refine pos (nat_lt hj) (pos (by omega) (pos (by omega) (pos (by omega) (neg ?_ h2))))
        rw [e, rd_get l (j - 1) (by omega), rd_get l j hj]
        omega
      · refine shift ?_
        simp only [laws_ascends.l0]
        exact neg (nat_ge (Nat.le_refl _)) (now rfl)
    exact main

theorem laws_contains_ev (l : List Int) (a : Int) (hl : l.length ≤ 9223372036854775806) : Ev (fun k => laws_contains.f k l a) (decide (a ∈ l)) := by
  unfold laws_contains.f
  have : ∀ d j, j + d = l.length → Ev (fun k => laws_contains.l0 k l a (j : Int)) (decide (a ∈ l.drop j)) := by
    intro d
    induction d with
    | zero =>
      intro j hj
      refine shift ?_
      simp only [laws_contains.l0]
      exact neg (by omega) (now (by rw [List.drop_eq_nil_of_le (by omega)]; simp))
    | succ d ih =>
      intro j hj
      have hjl : j < l.length := by omega
      refine shift ?_
      simp only [laws_contains.l0]
      rw [List.drop_eq_getElem_cons hjl, rd_get l j hjl]
      refine pos (nat_lt hjl) (pos (by omega) ?_)
      by_cases h : l[j] = a
      · exact pos h (now (by simp [h]))
      · refine neg h ?_
        rw [succ_wrap (by omega)]
        have e : decide (a ∈ l[j] :: l.drop (j + 1)) = decide (a ∈ l.drop (j + 1)) := decide_eq_decide.2 ⟨fun g => (List.mem_cons.1 g).resolve_left (fun x => h x.symm), fun g => List.mem_cons_of_mem _ g⟩
        rw [e]
        exact ih (j + 1) (by omega)
  simpa using this l.length 0 (by omega)

theorem spec_DrawGreenSince_ev (d : List Int) (hd : d.length ≤ 1048576) : ∃ l i t, Ev (fun k => spec_DrawGreenSince.f k d) (l, i, t) ∧ l.length ≤ 8 ∧ (∀ x ∈ l, x.f1.length ≤ 5) ∧ -1 ≤ t ∧ t ≤ 1000000 := by
  unfold spec_DrawGreenSince.f
  obtain ⟨l, i, t, h0, r⟩ := spec_DrawLightShown_ev d hd
  exact ⟨l, i, t, Ev.bind h0 (now rfl), r⟩

/-- The first of the places up to k from which on the light is green. -/
def greenFrom (l : List S55) (i : Int) : Nat → Nat
  | 0 => 0
  | k + 1 => if lightOf (rd_T55 l k).f1 i = 1 then greenFrom l i k else k + 1
theorem greenFrom_le (l : List S55) (i : Int) (k : Nat) : greenFrom l i k ≤ k := by
  induction k with
  | zero => exact Nat.le_refl _
  | succ k ih =>
    rw [greenFrom]
    split <;> omega
def greenSince (l : List S55) (i t : Int) : Int := if lightShown l i t = 1 then wrap64 (t - (rd_T55 l (greenFrom l i (entryAt l t).toNat)).f0) else -1
theorem lightShown_green (l : List S55) (i t : Int) (h : lightShown l i t = 1) : 0 ≤ entryAt l t ∧ lightOf (rd_T55 l (entryAt l t)).f1 i = 1 ∧ 0 ≤ i ∧ i < (rd_T55 l (entryAt l t)).f1.length := by
  unfold lightShown at h
  by_cases h0 : entryAt l t < 0
  · rw [if_pos h0] at h
    omega
  · rw [if_neg h0] at h
    refine ⟨by omega, h, ?_⟩
    by_cases hi : 0 ≤ i ∧ i < (rd_T55 l (entryAt l t)).f1.length
    · exact hi
    · rw [lightOf_out hi] at h
      omega

theorem impl_GreenSince_at (l : List S55) (i t : Int) (hl : l.length ≤ 1048577) : ∀ k : Nat, k < l.length → Ev (fun n => impl_GreenSince.l0 n l i t (k : Int)) (wrap64 (t - (rd_T55 l (greenFrom l i k)).f0)) := by
  intro k
  induction k with
  | zero =>
    intro hk
    refine shift ?_
    simp only [impl_GreenSince.l0]
    exact neg (by omega) (pos (by omega) (pos (by omega) (now rfl)))
  | succ k ih =>
    intro hk
    have e : ((k + 1 : Nat) : Int) - 1 = (k : Int) := by omega
    refine shift ?_
    simp only [impl_GreenSince.l0]
    rw [w64 (x := ((k + 1 : Nat) : Int) - 1) (by omega) (by omega), e]
    refine pos (by omega) (pos (by omega) (pos (by omega) (bindc (impl_lightOf_eq _ _ _ _) ?_)))
    rw [greenFrom]
    by_cases h : lightOf (rd_T55 l (k : Int)).f1 i = 1
    · rw [if_pos h]
      exact pos h (ih (by omega))
    · rw [if_neg h]
      exact neg h (pos (by omega) (pos (by omega) (now rfl)))
theorem impl_GreenSince_ev (l : List S55) (i t : Int) (hl : l.length ≤ 1048577) (he : ∀ x ∈ l, x.f1.length ≤ 1048576) : Ev (fun k => impl_GreenSince.f k l i t) (greenSince l i t) := by
  unfold impl_GreenSince.f greenSince
  have hb := entryAt_range l t
  refine Ev.bind (impl_entryAt_ev l t hl he) ?_
  by_cases h0 : entryAt l t < 0
  · have hn : ¬ lightShown l i t = 1 := by
      unfold lightShown
      rw [if_pos h0]
      omega
    rw [if_neg hn]
    refine pos h0 (shift ?_)
    simp only [impl_GreenSince.j0]
    exact pos (by simp) (now rfl)
  · refine neg h0 (pos (by omega) (pos (by omega) (bindc (impl_lightOf_eq _ _ _ _) (shift ?_))))
    simp only [impl_GreenSince.j0]
    have e : entryAt l t = ((entryAt l t).toNat : Int) := by omega
    by_cases h : lightShown l i t = 1
    · rw [if_pos h]
      obtain ⟨_, h2, _⟩ := lightShown_green l i t h
      have main := impl_GreenSince_at l i t hl (entryAt l t).toNat (by omega)
      rw [← e] at main
      exact neg (by rw [h2]; simp) main
    · rw [if_neg h]
      refine pos ?_ (now rfl)
      unfold lightShown at h
      rw [if_neg h0] at h
      simpa using h

theorem laws_sameInts_ev (a b : List Int) (ha : a.length ≤ 1048576) : Ev (fun k => laws_sameInts.f k a b) (decide (a = b)) := by
  unfold laws_sameInts.f
  by_cases h : a.length = b.length
  · refine pos (by omega) ?_
    rw [← eqAll h]
    refine all_loop (g := fun k j => laws_sameInts.l0 k a b (j : Int)) b.length (fun i => decide (rd a (i : Int) = rd b (i : Int))) true ?_ ?_ ?_ |> (fun h => by simpa using h)
    · intro j r hj ok hh
      refine shift ?_
      simp only [laws_sameInts.l0]
      rw [succ_wrap (by omega)]
      exact pos (by omega) (pos (by omega) (pos (by omega) (pos (of_decide_eq_true ok) hh)))
    · intro j hj ok
      refine shift ?_
      simp only [laws_sameInts.l0]
      exact pos (by omega) (pos (by omega) (pos (by omega) (neg (of_decide_eq_false ok) (now rfl))))
    · refine shift ?_
      simp only [laws_sameInts.l0]
      exact neg (by omega) (now rfl)
  · refine neg (by omega) (now ?_)
    rw [decide_eq_false (fun e => h (by rw [e]))]

theorem spec_l1Once_ok (d : List Int) (p s a : Int) (hd : d.length ≤ 1048576) (hp : 0 ≤ p ∧ p ≤ d.length) : ∃ v p2 s2, spec_l1Once.f d p s a = some (v, p2, s2) ∧ (0 ≤ p2 ∧ p2 ≤ d.length) := by
  unfold spec_l1Once.f
  obtain ⟨v, p2, s2, e, r, _⟩ := spec_l1Below_ok d p s a hd hp
  exact ⟨_, p2, s2, by rw [e, Option.bind_some], r⟩

theorem spec_l4Draw_ok (d : List Int) (hd : d.length ≤ 1048576) (q s a : Int) (hq : 0 ≤ q ∧ q ≤ d.length) : ∃ x0 x1 x2 x3 q2 s2, spec_l4Draw.f d q s a = some (x0, x1, x2, x3, q2, s2) ∧ (0 ≤ q2 ∧ q2 ≤ d.length) := by
  unfold spec_l4Draw.f
  obtain ⟨c1, q1, s1, e1, hq1, _⟩ := spec_l1Below_ok d q s 3 hd hq
  obtain ⟨c2, q2, s2, e2, hq2, _⟩ := spec_l1Below_ok d q1 s1 4 hd hq1
  rw [e1, Option.bind_some]
  simp only [e2, Option.bind_some]
  by_cases c : wrap64 (1 + c1) = 2
  · rw [if_pos c]
    exact ⟨_, _, _, _, q2, s2, rfl, hq2⟩
  · obtain ⟨c3, q3, s3, e3, hq3, _⟩ := spec_l1Below_ok d q2 s2 3 hd hq2
    rw [if_neg c, e3, Option.bind_some]
    exact ⟨_, _, _, _, q3, s3, rfl, hq3⟩

theorem spec_l5Draw_at (d : List Int) (hd : d.length ≤ 1048576) : ∀ (dd i : Nat) (l : List S72) (q s : Int), i + dd = 8 → 1 ≤ i → l.length + 1 = i → (0 ≤ q ∧ q ≤ d.length) →
    ∃ l2 q2 s2, Ev (fun k => spec_l5Draw.l0 k l (i : Int) d q s) (l2, q2, s2) ∧ (2 ≤ l2.length ∧ l2.length ≤ 7) ∧ (0 ≤ q2 ∧ q2 ≤ d.length) := by
  intro dd
  induction dd with
  | zero =>
    intro i l q s hi h1 hl hq
    obtain ⟨v, q1, s1, e1, hq1, v0, v1⟩ := spec_l1Below_ok d q s 6 hd hq
    have v1 := v1 (by omega)
    refine ⟨l, q1, s1, shift ?_, by omega, hq1⟩
    simp only [spec_l5Draw.l0]
    exact bindc e1 (neg (by dsimp only; rw [w64 (by omega) (by omega)]; omega) (now rfl))
  | succ dd ih =>
    intro i l q s hi h1 hl hq
    obtain ⟨v, q1, s1, e1, hq1, v0, v1⟩ := spec_l1Below_ok d q s 6 hd hq
    have v1 := v1 (by omega)
    have hw : wrap64 (2 + v) = 2 + v := w64 (by omega) (by omega)
    by_cases c : (i : Int) ≤ 2 + v
    · obtain ⟨y0, y1, y2, y3, q2, s2, e2, hq2⟩ := spec_l4Draw_ok d hd q1 s1 (i : Int) hq1
      obtain ⟨l3, q3, s3, h3, r⟩ := ih (i + 1) (l ++ [⟨y0, y1, y2, y3⟩]) q2 s2 (by omega) (by omega) (by simp; omega) hq2
      refine ⟨l3, q3, s3, shift ?_, r⟩
      simp only [spec_l5Draw.l0]
      rw [succ_wrap (by omega)]
      exact bindc e1 (pos (by dsimp only; rw [hw]; exact c) (bindc e2 (pos (by omega) h3)))
    · refine ⟨l, q1, s1, shift ?_, by omega, hq1⟩
      simp only [spec_l5Draw.l0]
      exact bindc e1 (neg (by dsimp only; rw [hw]; exact c) (now rfl))
theorem spec_l5Draw_ev (d : List Int) (hd : d.length ≤ 1048576) (q s : Int) (hq : 0 ≤ q ∧ q ≤ d.length) :
    ∃ l2 q2 s2, Ev (fun k => spec_l5Draw.f k d q s) (l2, q2, s2) ∧ (2 ≤ l2.length ∧ l2.length ≤ 7) ∧ (0 ≤ q2 ∧ q2 ≤ d.length) := by
  unfold spec_l5Draw.f
  exact spec_l5Draw_at d hd 7 1 [] q s (by omega) (by omega) (by simp) hq

theorem spec_l4Raw_ok (d : List Int) (p s : Int) (hd : d.length ≤ 1048576) (hp : 0 ≤ p ∧ p ≤ d.length) : ∃ v p2 s2, spec_l4Raw.f d p s = some (v, p2, s2) ∧ (0 ≤ p2 ∧ p2 ≤ d.length) ∧ v ∈ ([-1, 0, 4, 7, 20, 21, 9223372036854775807, -9223372036854775808] : List Int) := by
  unfold spec_l4Raw.f
  obtain ⟨v, p2, s2, e, r, h⟩ := spec_l1Int_ok d p s [-1, 0, 4, 7, 20, 21, 9223372036854775807, -9223372036854775808] hd hp (by simp)
  exact ⟨v, p2, s2, by rw [e, Option.bind_some], r, h⟩

theorem spec_l4Any_ok (d : List Int) (hd : d.length ≤ 1048576) (q s : Int) (hq : 0 ≤ q ∧ q ≤ d.length) : ∃ x0 x1 x2 x3 q2 s2, spec_l4Any.f d q s = some (x0, x1, x2, x3, q2, s2) ∧ (0 ≤ q2 ∧ q2 ≤ d.length) := by
  unfold spec_l4Any.f
  obtain ⟨c1, q1, s1, e1, hq1, _⟩ := spec_l1Below_ok d q s 20 hd hq
  obtain ⟨y0, y1, y2, y3, q2, s2, e2, hq2⟩ := spec_l4Draw_ok d hd q1 s1 (wrap64 (1 + c1)) hq1
  obtain ⟨c3, q3, s3, e3, hq3, _⟩ := spec_l1Below_ok d q2 s2 10 hd hq2
  rw [e1, Option.bind_some]
  simp only [e2, Option.bind_some]
  rw [e3, Option.bind_some]
  dsimp only
  by_cases c : c3 = 0
  · obtain ⟨v, q4, s4, e4, hq4, _⟩ := spec_l1Int_ok d q3 s3 [0, 20, 21] hd hq3 (by simp)
    rw [if_pos c, e4, Option.bind_some]
    exact ⟨_, _, _, _, q4, s4, rfl, hq4⟩
  rw [if_neg c]
  by_cases c : c3 = 1
  · obtain ⟨v, q4, s4, e4, hq4, _⟩ := spec_l1Int_ok d q3 s3 [0, 2, 4] hd hq3 (by simp)
    rw [if_pos c, e4, Option.bind_some]
    exact ⟨_, _, _, _, q4, s4, rfl, hq4⟩
  rw [if_neg c]
  by_cases c : c3 = 2
  · obtain ⟨v, q4, s4, e4, hq4, _⟩ := spec_l4Raw_ok d q3 s3 hd hq3
    rw [if_pos c, e4, Option.bind_some]
    exact ⟨_, _, _, _, q4, s4, rfl, hq4⟩
  rw [if_neg c]
  by_cases c : c3 = 3
  · obtain ⟨v, q4, s4, e4, hq4, _⟩ := spec_l4Raw_ok d q3 s3 hd hq3
    rw [if_pos c, e4, Option.bind_some]
    exact ⟨_, _, _, _, q4, s4, rfl, hq4⟩
  rw [if_neg c]
  exact ⟨_, _, _, _, q3, s3, rfl, hq3⟩

theorem spec_l5Any_ev (d : List Int) (hd : d.length ≤ 1048576) (q s : Int) (hq : 0 ≤ q ∧ q ≤ d.length) :
    ∃ l2 q2 s2, Ev (fun k => spec_l5Any.f k d q s) (l2, q2, s2) ∧ (2 ≤ l2.length ∧ l2.length ≤ 7) ∧ (0 ≤ q2 ∧ q2 ≤ d.length) := by
  unfold spec_l5Any.f
  obtain ⟨l, q1, s1, h1, hl, hq1⟩ := spec_l5Draw_ev d hd q s hq
  obtain ⟨c, q2, s2, e2, hq2⟩ := spec_l1Once_ok d q1 s1 6 hd hq1
  by_cases g : c = true
  · obtain ⟨i, q3, s3, e3, hq3, i0, i1⟩ := spec_l1Below_ok d q2 s2 (l.length : Int) hd hq2
    have i1 := i1 (by omega)
    obtain ⟨y0, y1, y2, y3, q4, s4, e4, hq4⟩ := spec_l4Any_ok d hd q3 s3 hq3
    exact ⟨_, q4, s4, Ev.bind h1 (bindc e2 (pos g (bindc e3 (bindc e4 (pos i0 (pos i1 (now rfl))))))), by simpa using hl, hq4⟩
  · exact ⟨l, q2, s2, Ev.bind h1 (bindc e2 (neg g (now rfl))), hl, hq2⟩

theorem spec_DrawFirstUnsafe_ev (d : List Int) (hd : d.length ≤ 1048576) : ∃ ps l, Ev (fun k => spec_DrawFirstUnsafe.f k d) (ps, l) ∧ ps.length ≤ 7 ∧ l.length ≤ 8 ∧ (∀ x ∈ l, x.f1.length ≤ 12) := by
  unfold spec_DrawFirstUnsafe.f
  obtain ⟨s, h0⟩ := spec_l1New_ev d
  obtain ⟨ps, p1, s1, h1, hps, hp1⟩ := spec_l5Any_ev d hd 0 s (by omega)
  obtain ⟨l, p2, s2, h2, hp2, hl, he⟩ := spec_l27Draw_cap 7 (by omega) d hd ps.length (by omega) p1 s1 hp1
  obtain ⟨o, p3, s3, e3, hp3⟩ := spec_l1Once_ok d p2 s2 5 hd hp2
  by_cases ho : o = true
  · obtain ⟨l2, p4, s4, h4, hp4, hl2, he2⟩ := spec_l27Any_ev d hd p3 s3 hp3
    exact ⟨ps, l2, Ev.bind h0 (Ev.bind h1 (Ev.bind h2 (bindc e3 (pos ho (Ev.bind h4 (now rfl)))))), by omega, hl2, fun x hx => by have := he2 x hx; omega⟩
  · exact ⟨ps, l, Ev.bind h0 (Ev.bind h1 (Ev.bind h2 (bindc e3 (neg ho (now rfl))))), by omega, hl, fun x hx => by have := he x hx; omega⟩

/-- A path's number, kind, and ends are in their ranges, and it crosses on foot just where its ends are the same. -/
def isPath (a b c d : Int) : Bool := decide (1 ≤ a ∧ a ≤ 20) && (decide (1 ≤ b ∧ b ≤ 3) && (decide (0 ≤ c ∧ c ≤ 3) && (decide (0 ≤ d ∧ d ≤ 3) && ((c == d) == (b == 2)))))

theorem impl_IsPath_eq (a b c d : Int) : impl_IsPath.f a b c d = some (isPath a b c d) := by
  unfold impl_IsPath.f isPath
  simp only [impl_InRange_eq, Option.bind_some]
  by_cases h1 : 1 ≤ a ∧ a ≤ 20 <;> by_cases h2 : 1 ≤ b ∧ b ≤ 3 <;> by_cases h3 : 0 ≤ c ∧ c ≤ 3 <;> by_cases h4 : 0 ≤ d ∧ d ≤ 3 <;> simp [h1, h2, h3, h4]

def pathAt (l : List S72) (j : Nat) : Bool := isPath (rd_T72 l j).f0 (rd_T72 l j).f1 (rd_T72 l j).f2 (rd_T72 l j).f3 && decide (0 < j → (rd_T72 l ((j : Int) - 1)).f0 < (rd_T72 l j).f0)
def arePaths (l : List S72) : Bool := (List.range l.length).all (pathAt l) && decide (l.length ≤ 12)

theorem impl_ArePaths_ev (l : List S72) : Ev (fun k => impl_ArePaths.f k l) (arePaths l) := by
  unfold impl_ArePaths.f arePaths
  by_cases hr : l.length ≤ 12
  · rw [decide_eq_true hr]
    refine neg (by omega) (all_loop (g := fun k j => impl_ArePaths.l0 k l l (l.length : Int) (j : Int)) l.length (pathAt l) _ ?_ ?_ ?_)
    · intro j r hj ok h
      simp only [pathAt, Bool.and_eq_true, decide_eq_true_eq] at ok
      refine shift ?_
      simp only [impl_ArePaths.l0]
      refine pos (nat_lt hj) (pos (by omega) (pos (nat_lt hj) (bindc (impl_IsPath_eq _ _ _ _) (pos ok.1 ?_))))
      rw [succ_wrap (by omega)]
      by_cases h0 : (j : Int) > 0
      · rw [w64 (by omega) (by omega)]
        exact pos h0 (pos (by omega) (pos (by omega) (neg (by have := ok.2 (by omega); omega) h)))
      · exact neg h0 h
    · intro j hj ok
      refine shift ?_
      simp only [impl_ArePaths.l0]
      refine pos (nat_lt hj) (pos (by omega) (pos (nat_lt hj) (bindc (impl_IsPath_eq _ _ _ _) ?_)))
      by_cases h1 : isPath (rd_T72 l j).f0 (rd_T72 l j).f1 (rd_T72 l j).f2 (rd_T72 l j).f3 = true
      · refine pos h1 ?_
        have h2 : ¬ (0 < j → (rd_T72 l ((j : Int) - 1)).f0 < (rd_T72 l j).f0) := by simpa [pathAt, h1] using ok
        rw [w64 (x := (j : Int) - 1) (by omega) (by omega)]
        exact pos (by omega) (pos (by omega) (pos (by omega) (pos (by omega) (now rfl))))
      · exact neg h1 (now rfl)
    · refine shift ?_
      simp only [impl_ArePaths.l0]
      exact neg (nat_ge (Nat.le_refl _)) (now rfl)
  · rw [decide_eq_false hr, Bool.and_false]
    exact pos (by omega) (now rfl)

/-- The two ways cross: one's places lie on both sides of the other's. -/
def interB (a b c d : Int) : Bool := (decide (Int.tmod (c - a + 8) 8 < Int.tmod (b - a + 8) 8)) != (decide (Int.tmod (d - a + 8) 8 < Int.tmod (b - a + 8) 8))
theorem four_of {a : Int} (h : 0 ≤ a ∧ a ≤ 3) : a = 0 ∨ a = 1 ∨ a = 2 ∨ a = 3 := by omega
set_option maxRecDepth 10000 in

set_option maxRecDepth 10000 in
theorem impl_Interleave_ev (a b c d : Int) (ha : 0 ≤ a ∧ a ≤ 3) (hb : 0 ≤ b ∧ b ≤ 3) (hc : 0 ≤ c ∧ c ≤ 3) (hd : 0 ≤ d ∧ d ≤ 3) : Ev (fun k => impl_Interleave.f k (2 * a) (2 * b + 1) (2 * c) (2 * d + 1)) (if a = c ∨ b = d then false else interB (2 * a) (2 * b + 1) (2 * c) (2 * d + 1)) := by
  refine ⟨10, fun k hk => ?_⟩
  obtain ⟨m, rfl⟩ := Nat.exists_eq_add_of_le' hk
  rcases four_of ha with rfl | rfl | rfl | rfl <;> rcases four_of hb with rfl | rfl | rfl | rfl <;> rcases four_of hc with rfl | rfl | rfl | rfl <;> rcases four_of hd with rfl | rfl | rfl | rfl <;> (show impl_Interleave.f (m + 10) _ _ _ _ = some _; kernel_rfl)

theorem impl_InPlace_eq (a : Int) (h : 0 ≤ a ∧ a ≤ 3) : impl_InPlace.f a = some (2 * a) := by
  unfold impl_InPlace.f
  rw [impl_InRange_eq, Option.bind_some, if_pos (by simpa using h), w64 (by omega) (by omega)]

theorem impl_OutPlace_eq (a : Int) (h : 0 ≤ a ∧ a ≤ 3) : impl_OutPlace.f a = some (2 * a + 1) := by
  unfold impl_OutPlace.f
  rw [impl_InRange_eq, Option.bind_some, if_pos (by simpa using h), w64 (x := 2 * a) (by omega) (by omega), w64 (by omega) (by omega)]



theorem isPath_iff (a b c d : Int) : isPath a b c d = true ↔ (1 ≤ a ∧ a ≤ 20) ∧ (1 ≤ b ∧ b ≤ 3) ∧ (0 ≤ c ∧ c ≤ 3) ∧ (0 ≤ d ∧ d ≤ 3) ∧ ((c == d) == (b == 2)) = true := by simp only [isPath, Bool.and_eq_true, decide_eq_true_eq]
def confl (a1 a2 a3 b1 b2 b3 : Int) : Bool := if a1 = 2 then (b2 == a2 || b3 == a2) else if b1 = 2 then (a2 == b2 || a3 == b2) else if a2 = b2 then false else if a3 = b3 then true else interB (2 * a2) (2 * a3 + 1) (2 * b2) (2 * b3 + 1)
def conflict (a0 a1 a2 a3 b0 b1 b2 b3 : Int) : Bool := if isPath a0 a1 a2 a3 = true ∧ isPath b0 b1 b2 b3 = true ∧ ¬ (a1 = 2 ∧ b1 = 2) then confl a1 a2 a3 b1 b2 b3 else false

theorem impl_Conflict_ev (a0 a1 a2 a3 b0 b1 b2 b3 : Int) : Ev (fun k => impl_Conflict.f k a0 a1 a2 a3 b0 b1 b2 b3) (conflict a0 a1 a2 a3 b0 b1 b2 b3) := by
  have yes : Ev (fun k => impl_Conflict.j0 k true a0 a1 a2 a3 b0 b1 b2 b3) false := by
    refine shift ?_
    simp only [impl_Conflict.j0]
    exact pos trivial (now rfl)
  have no : isPath a0 a1 a2 a3 = true → isPath b0 b1 b2 b3 = true → Ev (fun k => impl_Conflict.j0 k false a0 a1 a2 a3 b0 b1 b2 b3) (confl a1 a2 a3 b1 b2 b3) := by
    intro h1 h2
    have h1 := (isPath_iff _ _ _ _).1 h1
    have h2 := (isPath_iff _ _ _ _).1 h2
    refine shift ?_
    simp only [impl_Conflict.j0]
    refine neg (by simp) ?_
    unfold confl
    by_cases c1 : a1 = 2
    · rw [if_pos c1]
      refine pos c1 ?_
      by_cases c2 : b2 = a2
      · exact pos c2 (now (by simp [c2]))
      · exact neg c2 (now (by simp [c2]))
    · rw [if_neg c1]
      refine neg c1 ?_
      by_cases c2 : b1 = 2
      · rw [if_pos c2]
        refine pos c2 ?_
        by_cases c3 : a2 = b2
        · exact pos c3 (now (by simp [c3]))
        · exact neg c3 (now (by simp [c3]))
      · rw [if_neg c2]
        refine neg c2 ?_
        by_cases c3 : a2 = b2
        · rw [if_pos c3]
          have hi := impl_Interleave_ev a2 a3 b2 b3 h1.2.2.1 h1.2.2.2.1 h2.2.2.1 h2.2.2.2.1
          rw [if_pos (.inl c3)] at hi
          exact pos c3 (bindc (impl_InPlace_eq _ h1.2.2.1) (bindc (impl_OutPlace_eq _ h1.2.2.2.1) (bindc (impl_InPlace_eq _ h2.2.2.1) (bindc (impl_OutPlace_eq _ h2.2.2.2.1) (Ev.bind hi (now rfl))))))
        · rw [if_neg c3]
          refine neg c3 ?_
          by_cases c4 : a3 = b3
          · rw [if_pos c4]
            exact pos c4 (now rfl)
          · rw [if_neg c4]
            have hi := impl_Interleave_ev a2 a3 b2 b3 h1.2.2.1 h1.2.2.2.1 h2.2.2.1 h2.2.2.2.1
            rw [if_neg (fun g => g.elim c3 c4)] at hi
            exact neg c4 (bindc (impl_InPlace_eq _ h1.2.2.1) (bindc (impl_OutPlace_eq _ h1.2.2.2.1) (bindc (impl_InPlace_eq _ h2.2.2.1) (bindc (impl_OutPlace_eq _ h2.2.2.2.1) (Ev.bind hi (now rfl))))))
  unfold impl_Conflict.f conflict
  refine bindc (impl_IsPath_eq _ _ _ _) ?_
  by_cases h1 : isPath a0 a1 a2 a3 = true
  · refine pos h1 (bindc (impl_IsPath_eq _ _ _ _) ?_)
    by_cases h2 : isPath b0 b1 b2 b3 = true
    · refine pos h2 ?_
      by_cases c1 : a1 = 2
      · refine pos c1 ?_
        by_cases c2 : b1 = 2
        · rw [if_neg (fun g => g.2.2 ⟨c1, c2⟩), show (b1 == 2) = true by simp [c2]]
          exact yes
        · rw [if_pos ⟨h1, h2, fun g => c2 g.2⟩, show (b1 == 2) = false by simp [c2]]
          exact no h1 h2
      · rw [if_pos ⟨h1, h2, fun g => c1 g.1⟩]
        exact neg c1 (no h1 h2)
    · rw [if_neg (fun g => h2 g.2.1)]
      exact neg h2 yes
  · rw [if_neg (fun g => h1 g.1)]
    exact neg h1 yes

def confAt (ps : List S72) (i j : Nat) : Bool := conflict (rd_T72 ps i).f0 (rd_T72 ps i).f1 (rd_T72 ps i).f2 (rd_T72 ps i).f3 (rd_T72 ps j).f0 (rd_T72 ps j).f1 (rd_T72 ps j).f2 (rd_T72 ps j).f3
def pairOk (ps : List S72) (row : List Int) (i j : Nat) : Bool := decide (rd row i = 0 ∨ rd row j = 0 ∨ confAt ps i j = false)
def lightAt (ps : List S72) (row : List Int) (i : Nat) : Bool := decide (0 ≤ rd row i ∧ rd row i ≤ 2) && (List.range i).all (pairOk ps row i)
def lightsOk (ps : List S72) (row : List Int) : Bool := arePaths ps && (decide (row.length = ps.length) && (List.range ps.length).all (lightAt ps row))
theorem lightsOk_iff (ps : List S72) (row : List Int) : lightsOk ps row = true ↔ arePaths ps = true ∧ row.length = ps.length ∧ (List.range ps.length).all (lightAt ps row) = true := by simp only [lightsOk, Bool.and_eq_true, decide_eq_true_eq]

theorem impl_IsSafeLights_ev (ps : List S72) (row : List Int) (hp : ps.length ≤ 1048576) : Ev (fun k => impl_IsSafeLights.f k ps row) (lightsOk ps row) := by
  unfold impl_IsSafeLights.f lightsOk
  have yes : Ev (fun k => impl_IsSafeLights.j0 k ps row true) false := by
    refine shift ?_
    simp only [impl_IsSafeLights.j0]
    exact pos trivial (now rfl)
  refine Ev.bind (impl_ArePaths_ev ps) ?_
  by_cases h : arePaths ps = true
  · rw [h, Bool.true_and]
    refine pos rfl ?_
    by_cases hl : row.length = ps.length
    · rw [decide_eq_true hl, Bool.true_and, show ((row.length : Int) != (ps.length : Int)) = false by simp [hl]]
      refine shift ?_
      simp only [impl_IsSafeLights.j0]
      refine neg (by simp) ?_
      have ht : ∀ (i j : Nat), j < i → rd_T72 (ps.take i) (j : Int) = rd_T72 ps (j : Int) := by
        intro i j hj
        simp [rd_T72, List.getD_eq_getElem?_getD, List.getElem?_take, hj]
      have hlen : ∀ i : Nat, i < ps.length → (ps.take i).length = i := fun i hi => by rw [List.length_take]; omega
      have good : ∀ (i j : Nat) (r : Bool), i < ps.length → j < i → pairOk ps row i j = true → Ev (fun k => impl_IsSafeLights.l1 k ps row (i : Int) ps (ps.length : Int) (i : Int) (ps.take i) (i : Int) ((j + 1 : Nat) : Int) (rd_T72 ps i).f0 (rd_T72 ps i).f1 (rd_T72 ps i).f2 (rd_T72 ps i).f3) r → Ev (fun k => impl_IsSafeLights.l1 k ps row (i : Int) ps (ps.length : Int) (i : Int) (ps.take i) (i : Int) (j : Int) (rd_T72 ps i).f0 (rd_T72 ps i).f1 (rd_T72 ps i).f2 (rd_T72 ps i).f3) r := by
        intro i j r hi hj ok hh
        simp only [pairOk, decide_eq_true_eq] at ok
        refine shift ?_
        simp only [impl_IsSafeLights.l1]
        rw [succ_wrap (by omega), ht i j hj]
        refine pos (nat_lt hj) (pos (by omega) (pos (by have := hlen i hi; omega) (Ev.bind (impl_Conflict_ev _ _ _ _ _ _ _ _) ?_)))
        by_cases c3 : confAt ps i j = true
        · refine pos c3 (pos (by omega) (pos (by omega) ?_))
          by_cases c1 : rd row (i : Int) = 0
          · exact pos c1 hh
          · have c2 : rd row (j : Int) = 0 := by rcases ok with g | g | g; exact absurd g c1; exact g; simp [c3] at g
            exact neg c1 (pos (by omega) (pos c2 hh))
        · exact neg c3 hh
      have bad : ∀ (i j : Nat), i < ps.length → j < i → pairOk ps row i j = false → Ev (fun k => impl_IsSafeLights.l1 k ps row (i : Int) ps (ps.length : Int) (i : Int) (ps.take i) (i : Int) (j : Int) (rd_T72 ps i).f0 (rd_T72 ps i).f1 (rd_T72 ps i).f2 (rd_T72 ps i).f3) false := by
        intro i j hi hj ok
        have ok : ¬ pairOk ps row i j = true := by simp [ok]
        simp only [pairOk, decide_eq_true_eq, not_or, Bool.not_eq_false] at ok
        refine shift ?_
        simp only [impl_IsSafeLights.l1]
        rw [ht i j hj]
        exact pos (nat_lt hj) (pos (by omega) (pos (by have := hlen i hi; omega) (Ev.bind (impl_Conflict_ev _ _ _ _ _ _ _ _) (pos ok.2.2 (pos (by omega) (pos (by omega) (neg ok.1 (pos (by omega) (neg ok.2.1 (now rfl))))))))))
      refine all_loop (g := fun k i => impl_IsSafeLights.l0 k ps row ps (ps.length : Int) (i : Int)) ps.length (lightAt ps row) true ?_ ?_ ?_ |> (fun h => by simpa using h)
      · intro i r hi ok hh
        simp only [lightAt, Bool.and_eq_true, decide_eq_true_eq] at ok
        refine shift ?_
        simp only [impl_IsSafeLights.l0]
        refine pos (nat_lt hi) (pos (by omega) (pos (nat_lt hi) (pos (by omega) (bindc (impl_InRange_eq _ _ _) (pos (by simp; omega) (pos (by omega) (bindc rfl ?_)))))))
        rw [Int.toNat_natCast, hlen i hi]
        refine ok_loop (g := fun k j => impl_IsSafeLights.l1 k ps row (i : Int) ps (ps.length : Int) (i : Int) (ps.take i) (i : Int) (j : Int) (rd_T72 ps i).f0 (rd_T72 ps i).f1 (rd_T72 ps i).f2 (rd_T72 ps i).f3) _ _ ok.2 (fun j r hj o g => good i j r hi hj o g) ?_
        refine shift ?_
        simp only [impl_IsSafeLights.l1]
        refine neg (nat_ge (Nat.le_refl _)) ?_
        rw [succ_wrap (by omega)]
        exact hh
      · intro i hi ok
        refine shift ?_
        simp only [impl_IsSafeLights.l0]
        refine pos (nat_lt hi) (pos (by omega) (pos (nat_lt hi) (pos (by omega) (bindc (impl_InRange_eq _ _ _) ?_))))
        by_cases c : 0 ≤ rd row (i : Int) ∧ rd row (i : Int) ≤ 2
        · have h2 : ¬ (List.range i).all (pairOk ps row i) = true := by
            intro h2
            rw [lightAt, h2, decide_eq_true c] at ok
            exact absurd ok (by decide)
          refine pos (by simpa using c) (pos (by omega) (bindc rfl ?_))
          rw [Int.toNat_natCast, hlen i hi]
          exact bad_loop (g := fun k j => impl_IsSafeLights.l1 k ps row (i : Int) ps (ps.length : Int) (i : Int) (ps.take i) (i : Int) (j : Int) (rd_T72 ps i).f0 (rd_T72 ps i).f1 (rd_T72 ps i).f2 (rd_T72 ps i).f3) _ _ _ h2 (fun j r hj o g => good i j r hi hj o g) (fun j hj o => bad i j hi hj o)
        · exact neg (by simpa using c) (now rfl)
      · refine shift ?_
        simp only [impl_IsSafeLights.l0]
        exact neg (nat_ge (Nat.le_refl _)) (now rfl)
    · rw [decide_eq_false hl, Bool.false_and, show ((row.length : Int) != (ps.length : Int)) = true by simp; omega]
      exact yes
  · exact neg h (same yes (by simp [h]))

def firstBad (ps : List S72) (l : List S55) : Nat → Nat → Int
  | 0, _ => -1
  | d + 1, j => if lightsOk ps (rd_T55 l j).f1 = true then firstBad ps l d (j + 1) else (rd_T55 l j).f0
def firstUnsafe (ps : List S72) (l : List S55) : Int := if isRecord l = true then firstBad ps l l.length 0 else -1

theorem impl_FirstUnsafe_ev (ps : List S72) (l : List S55) (hp : ps.length ≤ 1048576) (hl : l.length ≤ 1048577) (he : ∀ x ∈ l, x.f1.length ≤ 1048576) : Ev (fun k => impl_FirstUnsafe.f k ps l) (firstUnsafe ps l) := by
  unfold impl_FirstUnsafe.f firstUnsafe
  refine Ev.bind (impl_IsRecord_ev l hl he) ?_
  by_cases h : isRecord l = true
  · rw [if_pos h]
    refine pos h ?_
    have : ∀ d j, j + d = l.length → Ev (fun k => impl_FirstUnsafe.l0 k ps l (l.length : Int) (j : Int)) (firstBad ps l d j) := by
      intro d
      induction d with
      | zero =>
        intro j hj
        refine shift ?_
        simp only [impl_FirstUnsafe.l0]
        exact neg (by omega) (now rfl)
      | succ d ih =>
        intro j hj
        have hjl : j < l.length := by omega
        refine shift ?_
        simp only [impl_FirstUnsafe.l0]
        refine pos (nat_lt hjl) (pos (by omega) (pos (nat_lt hjl) (Ev.bind (impl_IsSafeLights_ev ps _ hp) ?_)))
        rw [firstBad]
        by_cases c : lightsOk ps (rd_T55 l j).f1 = true
        · rw [if_pos c, succ_wrap (by omega)]
          exact pos c (ih (j + 1) (by omega))
        · rw [if_neg c]
          exact neg c (now rfl)
    simpa using this l.length 0 (by omega)
  · rw [if_neg h]
    exact neg h (now rfl)

theorem slices_Clone_int_int_eq (l : List Int) (hl : l.length ≤ 1048576) : slices_Clone_int_int.f l = some l := by
  unfold slices_Clone_int_int.f
  rw [Option.bind_some, if_pos (by simp; omega)]
  simp

theorem impl_ShownAt_ev (l : List S55) (t : Int) (hl : l.length ≤ 1048577) (he : ∀ x ∈ l, x.f1.length ≤ 1048576) : Ev (fun k => impl_ShownAt.f k l t) (shownAt l t) := by
  unfold impl_ShownAt.f shownAt
  have hr := entryAt_range l t
  refine Ev.bind (impl_entryAt_ev l t hl he) ?_
  by_cases h : entryAt l t < 0
  · simp only [if_pos h]
    exact now rfl
  · simp only [if_neg h]
    exact (pos (by omega) (pos (by omega) (bindc (slices_Clone_int_int_eq _ (entryAt_short l t he (by omega))) (now rfl))))

theorem spec_DrawCountChanges_ev (d : List Int) (hd : d.length ≤ 1048576) : ∃ l i, Ev (fun k => spec_DrawCountChanges.f k d) (l, i) ∧ l.length ≤ 8 ∧ (∀ x ∈ l, x.f1.length ≤ 5) := by
  unfold spec_DrawCountChanges.f
  obtain ⟨l, i, t, h0, hl, he, _⟩ := spec_DrawLightShown_ev d hd
  exact ⟨l, i, Ev.bind h0 (now rfl), hl, he⟩

def changes (l : List S55) (i : Int) (m : Nat) : Bool := decide (1 ≤ m ∧ ¬ lightOf (rd_T55 l m).f1 i = lightOf (rd_T55 l ((m : Int) - 1)).f1 i)
def changeCount (l : List S55) (i : Int) (m : Nat) : Nat := (List.range m).countP (changes l i)
theorem changeCount_le (l : List S55) (i : Int) (m : Nat) : changeCount l i m ≤ m := by
  have := List.countP_le_length (p := changes l i) (l := List.range m)
  simpa [changeCount] using this
theorem changeCount_yes {l : List S55} {i : Int} {m : Nat} (h1 : 1 ≤ m) (h : ¬ lightOf (rd_T55 l m).f1 i = lightOf (rd_T55 l ((m : Int) - 1)).f1 i) : changeCount l i (m + 1) = changeCount l i m + 1 := by
  have hc : changes l i m = true := by
    unfold changes
    exact decide_eq_true ⟨h1, h⟩
  simp [changeCount, List.range_succ, List.countP_append, hc]
theorem changeCount_no {l : List S55} {i : Int} {m : Nat} (h : lightOf (rd_T55 l m).f1 i = lightOf (rd_T55 l ((m : Int) - 1)).f1 i) : changeCount l i (m + 1) = changeCount l i m := by
  have hc : changes l i m = false := by
    unfold changes
    exact decide_eq_false (fun q => q.2 h)
  simp [changeCount, List.range_succ, List.countP_append, hc]
theorem changeCount_one (l : List S55) (i : Int) : changeCount l i 1 = 0 := by
  simp [changeCount, changes, List.range_succ]
def changed (l : List S55) (i : Int) : Int := if isRecord l = true then (changeCount l i l.length : Int) else 0

theorem impl_CountChanges_ev (l : List S55) (i : Int) (hl : l.length ≤ 1048577) (he : ∀ x ∈ l, x.f1.length ≤ 1048576) : Ev (fun k => impl_CountChanges.f k l i) (changed l i) := by
  unfold impl_CountChanges.f changed
  refine Ev.bind (impl_IsRecord_ev l hl he) ?_
  by_cases hr : isRecord l = true
  · rw [if_pos hr]
    refine pos hr ?_
    by_cases hn : l.length ≤ 1
    · have h1 : changeCount l i l.length = 0 := by
        rcases Nat.lt_or_ge l.length 1 with q | q
        · have : l.length = 0 := by omega
          rw [this]
          rfl
        · have : l.length = 1 := by omega
          rw [this]
          exact changeCount_one l i
      rw [h1]
      refine shift ?_
      simp only [impl_CountChanges.l0]
      exact neg (by omega) (now rfl)
    · have main := loop_from (g := fun k j => impl_CountChanges.l0 k l i (changeCount l i j : Int) (j : Int)) (r := (changeCount l i l.length : Int)) 1 l.length (by omega) (fun j hj1 hj h => by
        have hc := changeCount_le l i j
        refine shift ?_
        simp only [impl_CountChanges.l0]
        rw [w64 (x := (j : Int) - 1) (by omega) (by omega), succ_wrap (j := j) (by omega), succ_wrap (j := changeCount l i j) (by omega)]
        refine pos (nat_lt hj) (pos (by omega) (bindc (impl_lightOf_eq _ _ _ _) (pos (by omega) (pos (by omega) (bindc (impl_lightOf_eq _ _ _ _) ?_)))))
        by_cases hd : lightOf (rd_T55 l j).f1 i = lightOf (rd_T55 l ((j : Int) - 1)).f1 i
        · rw [changeCount_no hd] at h
          exact pos hd h
        · rw [changeCount_yes hj1 hd] at h
          exact neg hd h) (by
        refine shift ?_
        simp only [impl_CountChanges.l0]
        exact neg (nat_ge (Nat.le_refl _)) (now rfl))
      rw [changeCount_one] at main
      exact main
  · rw [if_neg hr]
    exact neg hr (now rfl)

theorem lastAt_spec (l : List S55) (t : Int) : ∀ j, 0 ≤ lastAt l t j → ∃ m : Nat, lastAt l t j = (m : Int) ∧ m < j ∧ (rd_T55 l (m : Int)).f0 ≤ t ∧ ∀ i : Nat, m < i → i < j → t < (rd_T55 l (i : Int)).f0 := by
  intro j
  induction j with
  | zero => intro h; simp [lastAt] at h
  | succ j ih =>
    intro h
    rw [lastAt] at h ⊢
    by_cases c : (rd_T55 l (j : Int)).f0 ≤ t
    · rw [if_pos c]
      exact ⟨j, rfl, by omega, c, fun i h1 h2 => by omega⟩
    · rw [if_neg c] at h ⊢
      obtain ⟨m, h1, h2, h3, h4⟩ := ih h
      refine ⟨m, h1, by omega, h3, fun i g1 g2 => ?_⟩
      rcases Nat.lt_or_ge i j with q | q
      · exact h4 i g1 q
      · have : i = j := by omega
        subst this
        omega
theorem lastAt_is (l : List S55) (t : Int) (m : Nat) (hm : (rd_T55 l (m : Int)).f0 ≤ t) : ∀ j, m < j → (∀ i : Nat, m < i → i < j → t < (rd_T55 l (i : Int)).f0) → lastAt l t j = (m : Int) := by
  intro j
  induction j with
  | zero => intro h; omega
  | succ j ih =>
    intro h g
    rw [lastAt]
    rcases Nat.lt_or_ge m j with q | q
    · rw [if_neg (by have := g j q (by omega); omega)]
      exact ih q (fun i h1 h2 => g i h1 (by omega))
    · have : m = j := by omega
      subst this
      rw [if_pos hm]
theorem entryAt_spec (l : List S55) (t : Int) (h : 0 ≤ entryAt l t) : isRecord l = true ∧ ∃ m : Nat, entryAt l t = (m : Int) ∧ m < l.length ∧ (rd_T55 l (m : Int)).f0 ≤ t ∧ ∀ i : Nat, m < i → i < l.length → t < (rd_T55 l (i : Int)).f0 := by
  have hr := entryAt_record l t h
  refine ⟨hr, ?_⟩
  unfold entryAt at h ⊢
  rw [if_pos hr] at h ⊢
  exact lastAt_spec l t l.length h
theorem record_asc {l : List S55} (hr : isRecord l = true) (a : Nat) : ∀ b, a < b → b < l.length → (rd_T55 l (a : Int)).f0 < (rd_T55 l (b : Int)).f0 := by
  intro b
  induction b with
  | zero => intro h; omega
  | succ b ih =>
    intro h hb
    have hs := ((((isRecord_iff l).1 hr).1 (b + 1) hb).1.2.2.2.2.2) (by omega)
    have e : ((b + 1 : Nat) : Int) - 1 = (b : Int) := by omega
    rw [e] at hs
    rcases Nat.lt_or_ge a b with q | q
    · have := ih q (by omega)
      omega
    · have : a = b := by omega
      subst this
      exact hs
theorem mem_shownIn (l : List S55) (i f u : Int) (s : Int) : ∀ n, s ∈ shownIn l i f u n ↔ ∃ j, j < n ∧ s ∈ shownAdd l i f u j := by
  intro n
  induction n with
  | zero => simp [shownIn]
  | succ n ih =>
    rw [shownIn, List.mem_append, ih]
    constructor
    · rintro (⟨j, h1, h2⟩ | h)
      · exact ⟨j, by omega, h2⟩
      · exact ⟨n, by omega, h⟩
    · rintro ⟨j, h1, h2⟩
      rcases Nat.lt_or_ge j n with q | q
      · exact .inl ⟨j, q, h2⟩
      · have : j = n := by omega
        subst this
        exact .inr h2
theorem shown_has (l : List S55) (i t f u : Int) (hft : f ≤ t) (htu : t ≤ u) (h : 0 ≤ lightShown l i t) : lightShown l i t ∈ shownBetween l i f u := by
  unfold lightShown at h ⊢
  by_cases h0 : entryAt l t < 0
  · rw [if_pos h0] at h
    omega
  · rw [if_neg h0] at h ⊢
    obtain ⟨hr, m, em, hm, hmt, hlast⟩ := entryAt_spec l t (by omega)
    rw [em] at h ⊢
    have hi : 0 ≤ i ∧ i < (rd_T55 l (m : Int)).f1.length := by
      by_cases hi : 0 ≤ i ∧ i < (rd_T55 l (m : Int)).f1.length
      · exact hi
      · rw [lightOf_out hi] at h
        omega
    rw [lightOf_in hi]
    unfold shownBetween
    rw [if_pos ⟨hr, by omega⟩, mem_putAll, mem_shownIn]
    refine ⟨m, hm, ?_⟩
    rw [shownAdd, if_pos]
    · simp
    · refine ⟨hi.1, hi.2, by omega, ?_⟩
      by_cases e : m + 1 = l.length
      · exact .inl e
      · exact .inr (by have := hlast (m + 1) (by omega) (by omega); omega)
theorem greenFrom_green (l : List S55) (i : Int) : ∀ k j : Nat, greenFrom l i k ≤ j → j < k → lightOf (rd_T55 l (j : Int)).f1 i = 1 := by
  intro k
  induction k with
  | zero => intro j _ h; omega
  | succ k ih =>
    intro j h1 h2
    rw [greenFrom] at h1
    by_cases c : lightOf (rd_T55 l (k : Int)).f1 i = 1
    · rw [if_pos c] at h1
      rcases Nat.lt_or_ge j k with q | q
      · exact ih j h1 q
      · have : j = k := by omega
        subst this
        exact c
    · rw [if_neg c] at h1
      omega
theorem green_only (l : List S55) (i t : Int) (ht : -1 ≤ t ∧ t ≤ 1000000) (h : lightShown l i t = 1) : 0 ≤ greenSince l i t ∧ shownBetween l i (wrap64 (t - greenSince l i t)) t = [1] := by
  obtain ⟨h0, hg, hi⟩ := lightShown_green l i t h
  obtain ⟨hr, m, em, hm, hmt, hlast⟩ := entryAt_spec l t h0
  rw [em] at hg hi
  have hgm := greenFrom_le l i m
  obtain ⟨g, eg⟩ : ∃ g, g = greenFrom l i m := ⟨_, rfl⟩
  rw [← eg] at hgm
  have hgl : (rd_T55 l (g : Int)).f0 ≤ (rd_T55 l (m : Int)).f0 := by
    rcases Nat.lt_or_ge g m with q | q
    · exact Int.le_of_lt (record_asc hr g m q hm)
    · have : g = m := by omega
      rw [this]; exact Int.le_refl _
  have hb := (((isRecord_iff l).1 hr).1 g (by omega)).1
  have hb0 := hb.1
  have e1 : greenSince l i t = t - (rd_T55 l (g : Int)).f0 := by
    unfold greenSince
    rw [if_pos h, em, Int.toNat_natCast, ← eg, w64 (by omega) (by omega)]
  have e2 : wrap64 (t - greenSince l i t) = (rd_T55 l (g : Int)).f0 := by
    rw [e1, w64 (by omega) (by omega)]
    omega
  refine ⟨by omega, ?_⟩
  rw [e2]
  have hone := shown_has l i t (rd_T55 l (g : Int)).f0 t (by omega) (Int.le_refl _) (by omega)
  rw [h] at hone
  refine asc_ext ?_ (by simp) (fun s => ⟨fun hs => ?_, fun hs => ?_⟩)
  · unfold shownBetween
    split
    · exact putAll_asc _
    · exact List.Pairwise.nil
  · unfold shownBetween at hs
    rw [if_pos ⟨hr, by omega⟩, mem_putAll, mem_shownIn] at hs
    obtain ⟨j, hj, hs⟩ := hs
    rw [shownAdd] at hs
    by_cases c : 0 ≤ i ∧ i < (rd_T55 l (j : Int)).f1.length ∧ (rd_T55 l (j : Int)).f0 ≤ t ∧ (j + 1 = l.length ∨ (rd_T55 l (g : Int)).f0 < (rd_T55 l ((j + 1 : Nat) : Int)).f0)
    · rw [if_pos c] at hs
      have hjm : j ≤ m := by
        rcases Nat.lt_or_ge m j with q | q
        · have := hlast j q hj
          omega
        · exact q
      have hgj : g ≤ j := by
        rcases Nat.lt_or_ge j g with q | q
        · rcases c.2.2.2 with z | z
          · omega
          · rcases Nat.lt_or_ge (j + 1) g with q2 | q2
            · have := record_asc hr (j + 1) g q2 (by omega)
              omega
            · have : j + 1 = g := by omega
              rw [this] at z
              omega
        · exact q
      have hlj : lightOf (rd_T55 l (j : Int)).f1 i = 1 := by
        rcases Nat.lt_or_ge j m with q | q
        · exact greenFrom_green l i m j (by omega) q
        · have : j = m := by omega
          rw [this]; exact hg
      rw [lightOf_in ⟨c.1, c.2.1⟩] at hlj
      rw [hlj] at hs
      exact hs
    · rw [if_neg c] at hs
      cases hs
  · rw [List.mem_singleton.1 hs]
    exact hone
theorem firstBad_spec (ps : List S72) (l : List S55) : ∀ d j, j + d = l.length → firstBad ps l d j = -1 ∨ ∃ m : Nat, m < l.length ∧ firstBad ps l d j = (rd_T55 l (m : Int)).f0 ∧ ¬ lightsOk ps (rd_T55 l (m : Int)).f1 = true := by
  intro d
  induction d with
  | zero => intro j _; exact .inl rfl
  | succ d ih =>
    intro j hj
    rw [firstBad]
    by_cases c : lightsOk ps (rd_T55 l (j : Int)).f1 = true
    · rw [if_pos c]
      exact ih (j + 1) (by omega)
    · rw [if_neg c]
      exact .inr ⟨j, by omega, rfl, c⟩
theorem unsafe_shown (ps : List S72) (l : List S55) (h : 0 ≤ firstUnsafe ps l) : ∃ v, shownAt l (firstUnsafe ps l) = (v, true) ∧ lightsOk ps v = false := by
  unfold firstUnsafe at h ⊢
  by_cases hr : isRecord l = true
  · rw [if_pos hr] at h ⊢
    rcases firstBad_spec ps l l.length 0 (by omega) with q | ⟨m, hm, e, hbad⟩
    · omega
    · rw [e]
      have ha : entryAt l (rd_T55 l (m : Int)).f0 = (m : Int) := by
        unfold entryAt
        rw [if_pos hr]
        exact lastAt_is l _ m (Int.le_refl _) l.length hm (fun i h1 h2 => record_asc hr m i h1 h2)
      refine ⟨(rd_T55 l (m : Int)).f1, ?_, by simpa using hbad⟩
      unfold shownAt
      rw [ha, if_neg (by omega)]
  · rw [if_neg hr] at h
    omega
theorem changed_bounds (l : List S55) (i : Int) : 0 ≤ changed l i ∧ (l.length = 0 ∨ changed l i < l.length) := by
  have lt : ∀ n, 0 < n → changeCount l i n < n := by
    intro n
    induction n with
    | zero => intro h; omega
    | succ n ih =>
      intro _
      rcases Nat.eq_zero_or_pos n with q | q
      · subst q
        rw [changeCount_one]
        omega
      · have h1 := ih q
        by_cases hd : lightOf (rd_T55 l (n : Int)).f1 i = lightOf (rd_T55 l ((n : Int) - 1)).f1 i
        · rw [changeCount_no hd]; omega
        · rw [changeCount_yes (by omega) hd]; omega
  unfold changed
  by_cases h0 : l.length = 0
  · exact ⟨by split <;> omega, .inl h0⟩
  · have := lt l.length (by omega)
    exact ⟨by split <;> omega, .inr (by split <;> omega)⟩
theorem FnWitnesses_end (l : List S55) (i : Int) (hl : l.length ≤ 8) (he : ∀ x ∈ l, x.f1.length ≤ 5) {g : Nat → Int → Option Bool} (hg : ∀ n : Int, (0 ≤ n ∧ (l.length = 0 ∨ n < l.length)) → Ev (fun k => g k n) true) : Ev (fun k => (impl_CountChanges.f k l i).bind fun n => g k n) true :=
  Ev.bind (impl_CountChanges_ev l i (by omega) (fun x hx => by have := he x hx; omega)) (hg _ (changed_bounds l i))
theorem FnWitnesses_last (l : List S55) (i : Int) (hl : l.length ≤ 8) (he : ∀ x ∈ l, x.f1.length ≤ 5) : Ev (fun k => (impl_CountChanges.f k l i).bind fun t817 => (if t817 ≥ 0 then (if (l.length : Int) = 0 then (some true) else ((impl_CountChanges.f k l i).bind fun t818 => (some (decide (t818 < (l.length : Int)))))) else (some false))) true := by
  refine FnWitnesses_end l i hl he (fun n hn => pos hn.1 ?_)
  by_cases h0 : l.length = 0
  · exact pos (by omega) (now rfl)
  · exact neg (by omega) (FnWitnesses_end l i hl he (fun n hn => now (decide_eq_true (by omega))))
theorem FnWitnesses_j2 (l : List Int) (hl : l.length ≤ 1048576) : Ev (fun k => laws_FnWitnesses.j2 k l false) true := by
  obtain ⟨c, j, h, hc, he⟩ := spec_DrawCountChanges_ev l hl
  refine shift ?_
  simp only [laws_FnWitnesses.j2]
  exact neg (by decide) (Ev.bind h (FnWitnesses_last c j hc he))
theorem FnWitnesses_j1 (l : List Int) (hl : l.length ≤ 1048576) : Ev (fun k => laws_FnWitnesses.j1 k l false) true := by
  obtain ⟨c, j, h, hc, he⟩ := spec_DrawCountChanges_ev l hl
  obtain ⟨p, r, h2, hp, hr, he2⟩ := spec_DrawFirstUnsafe_ev l hl
  have her : ∀ x ∈ r, x.f1.length ≤ 1048576 := fun x hx => by have := he2 x hx; omega
  have hj2 := FnWitnesses_j2 l hl
  refine shift ?_
  simp only [laws_FnWitnesses.j1]
  refine neg (by decide) (Ev.bind h2 (Ev.bind (impl_FirstUnsafe_ev p r (by omega) (by omega) her) ?_))
  by_cases hu : 0 ≤ firstUnsafe p r
  · obtain ⟨v, hv, hb⟩ := unsafe_shown p r hu
    have hs := impl_ShownAt_ev r (firstUnsafe p r) (by omega) her
    rw [hv] at hs
    have hk := impl_IsSafeLights_ev p v (by omega)
    rw [hb] at hk
    exact pos hu (Ev.bind hs (pos rfl (Ev.bind hk hj2)))
  · exact neg hu (Ev.bind h (FnWitnesses_last c j hc he))
theorem FnWitnesses_j0 (l : List Int) (hl : l.length ≤ 1048576) : Ev (fun k => laws_FnWitnesses.j0 k l false) true := by
  obtain ⟨x, i, t, h, hx, he, ht⟩ := spec_DrawGreenSince_ev l hl
  have hex : ∀ y ∈ x, y.f1.length ≤ 1048576 := fun y hy => by have := he y hy; omega
  have hj1 := FnWitnesses_j1 l hl
  refine shift ?_
  simp only [laws_FnWitnesses.j0]
  refine neg (by decide) (Ev.bind h (Ev.bind (impl_GreenSince_ev x i t (by omega) hex) (Ev.bind (impl_LightShown_ev x i t (by omega) hex) ?_)))
  by_cases hg : lightShown x i t = 1
  · obtain ⟨h0, h1⟩ := green_only x i t ht hg
    have hs := impl_ShownBetween_ev x i (wrap64 (t - greenSince x i t)) t (by omega) hex
    rw [h1] at hs
    have e1 : (greenSince x i t ≥ 0) = True := eq_true h0
    refine neg (by rw [hg]; simp [h0]) (pos h0 (Ev.bind hs (Ev.bind (laws_sameInts_ev [1] [1] (by simp)) ?_)))
    simpa using hj1
  · have h0 : greenSince x i t = -1 := by unfold greenSince; rw [if_neg hg]
    rw [h0]
    exact neg (by simp [hg]) (neg (by omega) hj1)
theorem FnWitnesses (l : List Int) (hw : wfS 1 U8 l) : ∃ k, laws_FnWitnesses.f k l = some true := by
  refine Ev.rounds ?_
  unfold laws_FnWitnesses.f
  refine bindc (laws_big_eq l) ?_
  by_cases hl : (l.length : Int) > 1048576
  · exact pos (by simpa using hl) (now rfl)
  have hl : l.length ≤ 1048576 := by omega
  obtain ⟨a, i, f, u, h, ha, he⟩ := spec_DrawShownBetween_ev l hl
  have hea : ∀ x ∈ a, x.f1.length ≤ 1048576 := fun x hx => by have := he x hx; omega
  have hj0 := FnWitnesses_j0 l hl
  have hlen := shownBetween_len a i f u
  have hasc : (shownBetween a i f u).Pairwise (· < ·) := by
    unfold shownBetween
    split
    · exact putAll_asc _
    · exact List.Pairwise.nil
  refine neg (by simp; omega) (Ev.bind h (Ev.bind (impl_ShownBetween_ev a i f u (by omega) hea) (Ev.bind (impl_LightShown_ev a i f (by omega) hea) (Ev.bind (impl_LightShown_ev a i u (by omega) hea) (Ev.bind (laws_ascends_ev _ hasc (by omega)) (pos rfl ?_))))))
  dsimp only
  by_cases hfu : f ≤ u
  · refine pos hfu ?_
    have hn : ¬ f > u := by omega
    have ca := laws_contains_ev (shownBetween a i f u) (lightShown a i f) (by omega)
    have cb := laws_contains_ev (shownBetween a i f u) (lightShown a i u) (by omega)
    by_cases h1 : 0 ≤ lightShown a i f
    · rw [decide_eq_true (shown_has a i f f u (Int.le_refl _) hfu h1)] at ca
      refine pos h1 (Ev.bind ca (pos rfl ?_))
      by_cases h2 : 0 ≤ lightShown a i u
      · rw [decide_eq_true (shown_has a i u f u hfu (Int.le_refl _) h2)] at cb
        exact pos h2 (Ev.bind cb (pos rfl (neg hn hj0)))
      · exact neg h2 (neg hn hj0)
    · refine neg h1 ?_
      by_cases h2 : 0 ≤ lightShown a i u
      · rw [decide_eq_true (shown_has a i u f u hfu (Int.le_refl _) h2)] at cb
        exact pos h2 (Ev.bind cb (pos rfl (neg hn hj0)))
      · exact neg h2 (neg hn hj0)
  · have e : shownBetween a i f u = [] := by unfold shownBetween; rw [if_neg (fun q => hfu q.2)]
    refine neg hfu (pos (by omega) ?_)
    rw [e]
    exact hj0

end Go.Proofs.Ytjcmngplpihbpaa.PureFnWitnesses
end

section
namespace Go.Proofs.Ytjcmngplpihbpaa.fnWitnesses
open Go.ChangeShapes Go.WideShapes Go.ChangeAt Go.RowKit
open Go.Proofs.YtjcmngplpihbpaaW.PrintWords Go.Proofs.Ytjcmngplpihbpaa.PWit Go.Proofs.Ytjcmngplpihbpaa.Opens Go.Proofs.Ytjcmngplpihbpaa.Aid Go.Proofs.Ytjcmngplpihbpaa.PureFnWitnesses
set_option linter.unusedVariables false
theorem own : ownKnob Try.prog.godebug = none := by kernel_rfl
theorem laidOut : laidOutB Try.prog = true := by kernel_rfl
theorem arg0 : Opens Try.prog 33 (Kd.slice 5 (Kd.int .u8)) (wfS 1 U8) := (opens_slice Try.underlying33 (by kernel_rfl) (B := 1) (by kernel_rfl) (opens_u8 Try.underlying5 (by kernel_rfl)))
set_option maxRecDepth 100000 in
theorem lifted (os : Os) (started : os.Started) (H : Type) (enc : TypeId × Value → H) :
    ReturnsInHanded {} Try.checked os 4 .any (Rows.fnWitnessesSpec.pre6 enc Try.prog Try.f4 Rows.fnWitnessesRow.domain false) (Rows.fnWitnessesSpec.post enc Try.prog Try.f4 false true false false) := by
  refine returnsInHanded_of_change_sized (C := Try.checked) own started (by kernel_rfl) Try.func4
    (ChangeSpec.witness6 (enc := enc) (C := Try.checked) false ⟨#[], #[.slice none 0 0], []⟩ 8 (by kernel_rfl) (by kernel_rfl) (by kernel_rfl) (by kernel_rfl)) ?_
  intro W base args ds gs before hval0 hW hcnd hsz0 _
  have hsz : (DataW.weightsEach Try.prog (Try.f4.params.toList ++ Rows.fnWitnessesSpec.plain.varTypes Try.prog) (ds ++ gs)).all (· ≤ reachBytes) = true := hsz0
  have hval : ∀ (j : Nat) t v, Try.f4.params[j]? = some t → args[j]? = some v → Value.okWide Try.prog W .any base t v := hval0
  have hW' := hW
  obtain ⟨p, q, hA0, hV, rfl, hfz, hnd⟩ := hW
  have hA : DataW.TrodAll enc Try.prog W 0 (fun _ => true) true Try.f4.params.toList args.toList ds p := hA0
  rw [Try.params4] at hA hval hsz
  obtain ⟨v0, vs0, d0, ds0, p0, q0, hargs, rfl, rfl, h0, r0⟩ := trodAll_cons hA
  obtain ⟨rfl, rfl, rfl⟩ := trodAll_nil r0
  obtain rfl : args = #[v0] := by cases args; simp_all
  obtain ⟨rfl, rfl⟩ := trodVars_none hV
  have k0 := h0
  have lt0 : ∀ x ∈ p0, x.block < W.heap.size := by obtain ⟨m, hm⟩ := k0; exact DataW.trod_lt m _ _ _ hm
  obtain ⟨x0, hK0, hW0⟩ := opens_arg arg0 hsz (j := 0) rfl rfl h0
  obtain ⟨A0, c0, rfl, hc0, hC0⟩ := opens_row Try.underlying33 (hval 0 33 v0 rfl rfl) hK0
  clear hA0 hval0 hsz0 hsz
  obtain ⟨k, hk⟩ := Go.Proofs.Ytjcmngplpihbpaa.PureFnWitnesses.FnWitnesses x0 hW0
  refine (laws_FnWitnesses.calls k _ _ x0 true W hC0 hc0 hk).mono fun e W' ⟨he, bel0⟩ => ?_
  have bel : Below W.heap.size W W' := by first | exact bel0 | exact bel0.below
  subst he
  exact ⟨_, rfl, _, _, _, [], _, [], hW', trodAll_mk1 (shut_bool Try.underlying4 _), (trodAll_cons_mk (Below.trod laidOut (by kernel_rfl) (of_decide_eq_true (by kernel_rfl)) k0 bel lt0) trodAll_mk0), rfl, bel.frame _, fun h => by cases h⟩
theorem over : Rows.fnWitnessesRow.holds Try.pinned (OpenSpec.ofChange Rows.fnWitnessesSpec) :=
  OpenClaim.holds_of_wide 4 Try.f4 rfl rfl rfl rfl rfl rfl rfl ⟨rfl, rfl, rfl, rfl, rfl⟩ rfl rfl rfl rfl rfl (by kernel_rfl) Try.func4 (by kernel_rfl)
    (of_decide_eq_true (by kernel_rfl)) (by unfold Func.isWrapper; first | (rw [if_pos (by decide +kernel)]; kernel_rfl) | (rw [if_neg (by decide +kernel)]; exact ⟨rfl, rfl⟩))
    (fun os started H enc _ => lifted os started H enc)
theorem proved : Rows.FnWitnessesSaid := over
#print axioms proved
end Go.Proofs.Ytjcmngplpihbpaa.fnWitnesses
namespace Go.Proofs.Ytjcmngplpihbpaa
/-- The row, under a short name, for the claim. -/
theorem fnWitnesses_holds : Rows.FnWitnessesSaid := fnWitnesses.proved
end Go.Proofs.Ytjcmngplpihbpaa
end
