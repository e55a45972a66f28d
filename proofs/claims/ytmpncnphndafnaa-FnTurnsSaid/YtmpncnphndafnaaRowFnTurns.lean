/- The statement FnTurns, whole: for every input the law returns true and leaves its arguments as they were; no condition. Out of the contract of the law's walk and the pure theorem. -/
import Derived.Test.YtmpncnphndafnaaBFnTurns0
import Derived.Test.YtmpncnphndafnaaBFnTurns1
import Derived.Test.YtmpncnphndafnaaBFnTurns2
import Derived.Test.YtmpncnphndafnaaBFnTurns3
import Derived.Test.YtmpncnphndafnaaBFnTurns4
import Derived.Test.YtmpncnphndafnaaBFnTurns5
import Derived.Test.YtmpncnphndafnaaBFnTurns6
import Derived.Test.YtmpncnphndafnaaBFnTurns7
import Derived.Test.YtmpncnphndafnaaWWords
import Derived.Test.YtmpncnphndafnaaWMore
import Derived.SizedLaws
import Derived.ChangeSlices
import Derived.ChangeArms
import Derived.WideShapes
import Derived.Below
import Derived.Test.YtmpncnphndafnaaRows
import Derived.WalkKit
import Derived.ProofKit
import Derived.OpenShut
import Derived.ShutString
import Derived.ChangeOld
section
namespace Go.Proofs.Ytmpncnphndafnaa.Aid
open Go.RowKit Go.Proofs.YtmpncnphndafnaaW.PrintWords Go.Proofs.YtmpncnphndafnaaW.PrintMore
set_option linter.unusedVariables false

theorem w64 {x : Int} (h0 : -9223372036854775808 ≤ x) (h1 : x ≤ 9223372036854775807) : wrap64 x = x := by
  unfold wrap64
  omega
theorem w64_range (x : Int) : -9223372036854775808 ≤ wrap64 x ∧ wrap64 x ≤ 9223372036854775807 := by
  unfold wrap64
  omega
/-- A number of Go's int. -/
def I64 (x : Int) : Prop := -9223372036854775808 ≤ x ∧ x ≤ 9223372036854775807
theorem i64_of {x : Int} (h : (Lit.int .i64 x).wf = true) : I64 x := by
  simp [Lit.wf, IntKind.min, IntKind.max, IntKind.bits, IntKind.signed] at h
  unfold I64
  omega

/-- A byte. -/
def U8 (x : Int) : Prop := 0 ≤ x ∧ x ≤ 255
theorem u8_of {x : Int} (h : (Lit.int .u8 x).wf = true) : U8 x := by
  simp [Lit.wf, IntKind.min, IntKind.max, IntKind.bits, IntKind.signed] at h
  unfold U8
  omega

/-- A slice within the reach (B: an element's bytes), all of whose elements are as WF says. -/
def wfS {α : Type} (B : Nat) (WF : α → Prop) (xs : List α) : Prop := xs.length ≤ maxLen ∧ xs.length * B ≤ 140737488351232 ∧ ∀ x ∈ xs, WF x

theorem shift {α : Type} {g : Nat → Option α} {r : α} (h : Ev (fun k => g (k + 1)) r) : Ev g r := Ev.step (fun _ => rfl) h
theorem pos {α : Type} {c : Prop} [Decidable c] {a b : Nat → Option α} {r : α} (hc : c) (h : Ev a r) : Ev (fun k => if c then a k else b k) r := by
  simpa only [if_pos hc] using h
theorem neg {α : Type} {c : Prop} [Decidable c] {a b : Nat → Option α} {r : α} (hc : ¬ c) (h : Ev b r) : Ev (fun k => if c then a k else b k) r := by
  simpa only [if_neg hc] using h
theorem now {α : Type} {r s : α} (h : r = s) : Ev (fun _ => some r) s := h ▸ Ev.now r
theorem known {α : Type} {x : Option α} {r : α} (h : x = some r) : Ev (fun _ => x) r := h ▸ Ev.now r
theorem bindc {α β : Type} {x : Option α} {f : Nat → α → Option β} {a : α} {r : β} (h : x = some a) (k : Ev (fun n => f n a) r) : Ev (fun n => x.bind (f n)) r := by
  subst h
  exact k
theorem same {α : Type} {g : Nat → Option α} {r s : α} (h : Ev g r) (e : r = s) : Ev g s := e ▸ h
theorem of_const {α : Type} {x : Option α} {r : α} (h : Ev (fun _ => x) r) : x = some r := by
  obtain ⟨k, hk⟩ := Ev.rounds h
  exact hk

/-- A loop whose round j leads from state j to state j + 1, and whose N-th state is its end. -/
theorem loop {α : Type} {g : Nat → Nat → Option α} {r : α} (N : Nat) (hs : ∀ j, j < N → Ev (fun k => g k (j + 1)) r → Ev (fun k => g k j) r) (he : Ev (fun k => g k N) r) : Ev (fun k => g k 0) r := by
  have : ∀ d j, j + d = N → Ev (fun k => g k j) r := by
    intro d
    induction d with
    | zero =>
      intro j hj
      have : j = N := by omega
      subst this
      exact he
    | succ d ih => exact fun j hj => hs j (by omega) (ih (j + 1) (by omega))
  exact this N 0 (by omega)
/-- The same from state i on. -/
theorem loop_from {α : Type} {g : Nat → Nat → Option α} {r : α} (i N : Nat) (hi : i ≤ N) (hs : ∀ j, i ≤ j → j < N → Ev (fun k => g k (j + 1)) r → Ev (fun k => g k j) r) (he : Ev (fun k => g k N) r) : Ev (fun k => g k i) r := by
  have : ∀ d j, i ≤ j → j + d = N → Ev (fun k => g k j) r := by
    intro d
    induction d with
    | zero =>
      intro j _ hj
      have : j = N := by omega
      subst this
      exact he
    | succ d ih => exact fun j h0 hj => hs j h0 (by omega) (ih (j + 1) (by omega) (by omega))
  exact this (N - i) i (Nat.le_refl _) (by omega)

theorem rd_nat (xs : List Int) (j : Nat) : rd xs (j : Int) = xs.getD j 0 := by simp [rd]
theorem rd_get (xs : List Int) (j : Nat) (h : j < xs.length) : rd xs (j : Int) = xs[j] := by simp [rd, h]
theorem nat_lt {a b : Nat} (h : a < b) : (a : Int) < (b : Int) := by omega
theorem nat_ge {a b : Nat} (h : b ≤ a) : ¬ (a : Int) < (b : Int) := by omega
theorem succ_wrap {j : Nat} (h : j < 9223372036854775807) : wrap64 ((j : Int) + 1) = ((j + 1 : Nat) : Int) := by
  rw [w64 (by omega) (by omega)]
  omega

/-- A loop that fills a row, one place a round. -/
theorem copied {α β : Type} {g : Nat → List β → Int → Option (List β)} (l : List α) (f : α → β) (z : β) (hs : ∀ (j : Nat) (hj : j < l.length) (y : List β) (r : List β), y.length = l.length → Ev (fun k => g k (y.set j (f l[j])) ((j + 1 : Nat) : Int)) r → Ev (fun k => g k y (j : Int)) r)
    (he : ∀ y, Ev (fun k => g k y (l.length : Int)) y) : Ev (fun k => g k (List.replicate l.length z) 0) (l.map f) := by
  refine loop (g := fun k j => g k ((l.map f).take j ++ List.replicate (l.length - j) z) (j : Int)) (r := l.map f) l.length ?_ ?_ |> (fun h => by simpa using h)
  · intro j hj h
    refine hs j hj _ _ (by simp; omega) ?_
    refine Eq.mp ?_ h
    congr 1
    funext k
    congr 1
    rw [List.set_append_right _ _ (by simp; omega)]
    have h1 : (l.map f).take (j + 1) = (l.map f).take j ++ [f l[j]] := by
      rw [List.take_succ_eq_append_getElem (by simpa using hj)]
      simp
    have h2 : l.length - j = (l.length - (j + 1)) + 1 := by omega
    have h3 : j - ((l.map f).take j).length = 0 := by simp; omega
    rw [h1, h3, h2, List.replicate_succ, List.set_cons_zero]
    simp
  · have h := he (l.map f)
    have e : (l.map f).take l.length = l.map f := List.take_of_length_le (by simp)
    simpa [e] using h

/-- A loop that looks at each place and answers no at the first that is not as it ought to be. -/
theorem all_loop {g : Nat → Nat → Option Bool} (N : Nat) (ok : Nat → Bool) (b : Bool) (hs : ∀ j r, j < N → ok j = true → Ev (fun k => g k (j + 1)) r → Ev (fun k => g k j) r)
    (hf : ∀ j, j < N → ok j = false → Ev (fun k => g k j) false) (he : Ev (fun k => g k N) b) : Ev (fun k => g k 0) ((List.range N).all ok && b) := by
  have : ∀ d j, j + d = N → Ev (fun k => g k j) ((List.range' j d).all ok && b) := by
    intro d
    induction d with
    | zero =>
      intro j hj
      have : j = N := by omega
      subst this
      simpa using he
    | succ d ih =>
      intro j hj
      rw [List.range'_succ, List.all_cons]
      cases h : ok j with
      | true => simpa using hs j _ (by omega) h (ih (j + 1) (by omega))
      | false => simpa using hf j (by omega) h
  have h := this N 0 (by omega)
  rwa [← List.range_eq_range'] at h
/-- The same where all places are as they ought to be, .. -/
theorem ok_loop {α : Type} {g : Nat → Nat → Option α} (N : Nat) (ok : Nat → Bool) {r : α} (h : (List.range N).all ok = true) (hs : ∀ j r, j < N → ok j = true → Ev (fun k => g k (j + 1)) r → Ev (fun k => g k j) r)
    (he : Ev (fun k => g k N) r) : Ev (fun k => g k 0) r :=
  loop N (fun j hj hn => hs j r hj (List.all_eq_true.1 h j (List.mem_range.2 hj)) hn) he
/-- .. and where one isn't: the first that isn't decides. -/
theorem bad_loop {α : Type} {g : Nat → Nat → Option α} (N : Nat) (ok : Nat → Bool) (r : α) (h : ¬ (List.range N).all ok = true) (hs : ∀ j r, j < N → ok j = true → Ev (fun k => g k (j + 1)) r → Ev (fun k => g k j) r)
    (hf : ∀ j, j < N → ok j = false → Ev (fun k => g k j) r) : Ev (fun k => g k 0) r := by
  have : ∀ d j, j + d = N → ¬ (List.range' j d).all ok = true → Ev (fun k => g k j) r := by
    intro d
    induction d with
    | zero => exact fun j _ hn => absurd rfl hn
    | succ d ih =>
      intro j hj hn
      rw [List.range'_succ, List.all_cons] at hn
      cases ho : ok j with
      | true => exact hs j _ (by omega) ho (ih (j + 1) (by omega) (by simpa [ho] using hn))
      | false => exact hf j (by omega) ho
  exact this N 0 (by omega) (by rwa [← List.range_eq_range'])
/-- n numbers from a on. -/
def iota (a : Int) (n : Nat) : List Int := (List.range n).map fun (i : Nat) => a + (i : Int)
theorem iota_length (a : Int) (n : Nat) : (iota a n).length = n := by simp [iota]
theorem iota_get (a : Int) (n j : Nat) (h : j < n) : rd (iota a n) (j : Int) = a + j := by simp [rd, iota, h]
theorem iota_set (a : Int) (l : List Int) (j : Nat) (h : j < l.length) : (iota a j ++ l.drop j).set j (a + j) = iota a (j + 1) ++ l.drop (j + 1) := by
  rw [List.set_append_right _ _ (by rw [iota_length]; exact Nat.le_refl _), iota_length, Nat.sub_self, List.drop_eq_getElem_cons h, List.set_cons_zero]
  have : iota a (j + 1) = iota a j ++ [a + j] := by simp [iota, List.range_succ]
  rw [this]
  simp
end Go.Proofs.Ytmpncnphndafnaa.Aid
end

section
namespace Go.Proofs.Ytmpncnphndafnaa.Opens
open Go.ChangeShapes Go.WideShapes Go.RowKit Go.Proofs.YtmpncnphndafnaaW.PrintWords Go.Proofs.Ytmpncnphndafnaa.Aid
set_option linter.unusedVariables false

/-- Whatever can be read as data of type t is of kind kd, and meets WF. -/
def Opens {α : Type} (P : Program) (t : TypeId) (kd : Kd α) (WF : α → Prop) : Prop :=
  P.cellsOf t = kd.sz ∧ ∀ (H : Type) (enc : TypeId × Value → H) (w : World) (base : Nat) (spare : Nat → Bool) (held : Bool) (fuel : Nat) (cs : List Value) (d : DataW H) (ps : List MemPlace),
    DataW.trod enc P w base spare held fuel t cs = some (d, ps) → (∀ n ∈ d.weights P t, n ≤ reachBytes) → ∃ x, kd.K w x cs ∧ WF x

theorem opens_int {P : Program} {t : TypeId} (ht : P.underlying t = some (.int .i64)) (hc : P.cellsOf t = 1) : Opens P t (Kd.int .i64) I64 := by
  refine ⟨hc, fun H enc w base spare held fuel cs d ps h _ => ?_⟩
  obtain ⟨n, rfl, _, hw⟩ := DataW.trod_int ht h
  exact ⟨n, rfl, i64_of hw⟩

/-- The same of bytes. -/
theorem opens_u8 {P : Program} {t : TypeId} (ht : P.underlying t = some (.int .u8)) (hc : P.cellsOf t = 1) : Opens P t (Kd.int .u8) U8 := by
  refine ⟨hc, fun H enc w base spare held fuel cs d ps h _ => ?_⟩
  obtain ⟨n, rfl, _, hw⟩ := DataW.trod_int ht h
  exact ⟨n, rfl, u8_of hw⟩

theorem opens_bool {P : Program} {t : TypeId} (ht : P.underlying t = some .bool) (hc : P.cellsOf t = 1) : Opens P t Kd.bool (fun _ => True) := by
  refine ⟨hc, fun H enc w base spare held fuel cs d ps h _ => ?_⟩
  obtain ⟨b, rfl, _⟩ := DataW.trod_bool ht h
  exact ⟨b, rfl, trivial⟩

theorem weights_elem {H : Type} {P : Program} {e : TypeId} {n : Nat} : ∀ {ds : List (DataW H)} {d : DataW H}, d ∈ ds → n ∈ d.weights P e → n ∈ DataW.weightsAll P e ds
  | [], _, h, _ => by simp at h
  | d0 :: r, d, h, hn => by
    rw [DataW.weightsAll]
    rcases List.mem_cons.1 h with rfl | h
    · exact List.mem_append_left _ hn
    · exact List.mem_append_right _ (weights_elem h hn)

theorem choose_list {α : Type} {n : Nat} {Q : Nat → α → Prop} (h : ∀ i, i < n → ∃ x, Q i x) : ∃ xs : List α, xs.length = n ∧ ∀ i x, xs[i]? = some x → Q i x := by
  induction n with
  | zero => exact ⟨[], rfl, fun i x hx => by simp at hx⟩
  | succ n ih =>
    obtain ⟨xs, hl, hx⟩ := ih (fun i hi => h i (by omega))
    obtain ⟨y, hy⟩ := h n (by omega)
    refine ⟨xs ++ [y], by simp [hl], fun i x hi => ?_⟩
    by_cases hlt : i < n
    · rw [List.getElem?_append_left (by omega)] at hi
      exact hx i x hi
    · have hl2 := (List.getElem?_eq_some_iff.1 hi).1
      simp at hl2
      have : i = n := by omega
      subst this
      rw [List.getElem?_append_right (by omega)] at hi
      simp [hl] at hi
      exact hi ▸ hy

theorem opens_slice {α : Type} {P : Program} {t e : TypeId} {kd : Kd α} {WF : α → Prop} (ht : P.underlying t = some (.slice e)) (hc : P.cellsOf t = 1) {B : Nat} (hB : P.bytesOf e = B) (he : Opens P e kd WF) :
    Opens P t (Kd.slice e kd) (wfS B WF) := by
  subst hB
  refine ⟨hc, fun H enc w base spare held fuel cs d ps h hw => ?_⟩
  rcases DataW.trod_slice ht h with ⟨rfl, _⟩ | ⟨a, len, cap, elems, rest, n, _, rfl, hx, hb, hl, hm, hlen, hel, _, _⟩
  · exact ⟨[], ⟨none, 0, rfl, Nat.le_refl _, ⟨rfl, by simp, fun h => absurd h (by simp)⟩⟩, by simp [maxLen], by simp, by simp⟩
  · simp only [Prod.mk.injEq] at hx
    obtain ⟨rfl, _⟩ := hx
    have each : ∀ i, i < len → ∃ x, (∃ c, c.length = kd.sz ∧ kd.K w x c ∧ ∀ j u, c[j]? = some u → w.cell? (a.add (i * kd.sz + j)) = some u) ∧ WF x := by
      intro i hi
      have h1 := hel i hi
      have h2 : i < elems.length := by omega
      rw [List.getElem?_eq_getElem h2] at h1
      obtain ⟨c, hc1, hc2⟩ := Option.bind_eq_some_iff.1 h1
      obtain ⟨_, hcl, hcc⟩ := World.cells?_some hc1
      obtain ⟨x, hx1, hx2⟩ := he.2 H enc w base spare held n c elems[i].1 elems[i].2 hc2 (fun m hm' => hw m (by
        rw [DataW.weights, ht]
        simp only [List.mem_cons, List.mem_append]
        exact .inr (.inl (weights_elem (List.mem_map.2 ⟨elems[i], List.getElem_mem h2, rfl⟩) hm'))))
      refine ⟨x, ⟨c, by rw [hcl, he.1], hx1, fun j u hj => ?_⟩, hx2⟩
      have hj2 := (List.getElem?_eq_some_iff.1 hj).1
      have := hcc j (by omega)
      rw [hj, he.1] at this
      rw [← this, Addr.add_add]
    obtain ⟨xs, hxl, hxs⟩ := choose_list each
    subst hxl
    refine ⟨xs, ⟨some a, cap, rfl, hl, ⟨rfl, by simp [maxLen] at hm; omega, fun _ => ⟨a, rfl, fun j p hj => ?_⟩⟩⟩, by omega, ?_, fun x hx => ?_⟩
    · exact (hxs j p hj).1
    · have := hw ((elems.length + rest.length) * P.bytesOf e) (by rw [DataW.weights, ht]; simp)
      exact Nat.le_trans (Nat.mul_le_mul_right _ (by omega)) this
    · obtain ⟨i, hi⟩ := List.getElem?_of_mem hx
      exact (hxs i x hi).2

/-- The same of a struct's fields from one on, which begins at cell off. -/
def OpensF {α : Type} (P : Program) (fs : List Field) (off : Nat) (kd : Kd α) (WF : α → Prop) : Prop :=
  ∀ (H : Type) (enc : TypeId × Value → H) (w : World) (base : Nat) (spare : Nat → Bool) (held : Bool) (fuel : Nat) (cs : List Value) (ys : List (DataW H × List MemPlace)),
    cs.length = off + kd.sz → ys.length = fs.length → (∀ (i : Nat) (f : Field), fs[i]? = some f → DataW.trod enc P w base spare held fuel f.type ((cs.drop f.offset).take (P.cellsOf f.type)) = ys[i]?) →
    (∀ n ∈ DataW.weightsEach P (fs.map (·.type)) (ys.map (·.1)), n ≤ reachBytes) → ∃ x, kd.K w x (cs.drop off) ∧ WF x

theorem opensF_last {α : Type} {P : Program} {f : Field} {off : Nat} {kd : Kd α} {WF : α → Prop} (ho : f.offset = off) (h : Opens P f.type kd WF) : OpensF P [f] off kd WF := by
  intro H enc w base spare held fuel cs ys hcs hys hf hw
  match ys, hys with
  | [y], _ =>
    have h1 := hf 0 f rfl
    rw [ho, h.1, List.take_of_length_le (by simp; omega)] at h1
    exact h.2 H enc w base spare held fuel _ y.1 y.2 h1 (fun n hn => hw n (by simp [DataW.weightsEach, hn]))

theorem opensF_cons {α β : Type} {P : Program} {f : Field} {fs : List Field} {off : Nat} {kd : Kd α} {kr : Kd β} {WF : α → Prop} {WR : β → Prop} (ho : f.offset = off) (h : Opens P f.type kd WF)
    (hr : OpensF P fs (off + kd.sz) kr WR) : OpensF P (f :: fs) off (Kd.pair kd kr) (fun x => WF x.1 ∧ WR x.2) := by
  intro H enc w base spare held fuel cs ys hcs hys hf hw
  match ys, hys with
  | y :: ys, hys =>
    have h1 := hf 0 f rfl
    rw [ho, h.1] at h1
    obtain ⟨x, hx1, hx2⟩ := h.2 H enc w base spare held fuel _ y.1 y.2 h1 (fun n hn => hw n (by simp [DataW.weightsEach, hn]))
    have hs : (Kd.pair kd kr).sz = kd.sz + kr.sz := rfl
    obtain ⟨z, hz1, hz2⟩ := hr H enc w base spare held fuel cs ys (by omega) (by simpa using hys) (fun i g hg => hf (i + 1) g hg) (fun n hn => hw n (by simp [DataW.weightsEach]; exact .inr (by simpa using hn)))
    refine ⟨(x, z), ⟨_, _, ?_, hx1, hz1⟩, hx2, hz2⟩
    rw [← List.drop_drop, List.take_append_drop]

theorem opens_struct {α β : Type} {P : Program} {t : TypeId} {fs : Array Field} {kd : Kd α} {WF : α → Prop} (f : β → α) (g : α → β) (hg : ∀ x, f (g x) = x) (ht : P.underlying t = some (.struct fs)) (hc : P.cellsOf t = kd.sz)
    (h : OpensF P fs.toList 0 kd WF) : Opens P t (Kd.iso kd f) (fun x => WF (f x)) := by
  refine ⟨hc, fun H enc w base spare held fuel cs d ps hd hw => ?_⟩
  obtain ⟨xs, n, _, hx, hl, hxl, hf⟩ := DataW.trod_struct ht hd
  simp only [Prod.mk.injEq] at hx
  obtain ⟨rfl, _⟩ := hx
  obtain ⟨y, hy1, hy2⟩ := h H enc w base spare held n cs xs (by omega) (by simpa using hxl) (fun i f' hf' => hf i f' (by simpa using hf')) (fun m hm => hw m (by rw [DataW.weights, ht]; simpa using hm))
  refine ⟨g y, ?_, ?_⟩
  · show kd.K w (f (g y)) cs
    rw [hg]
    simpa using hy1
  · show WF (f (g y))
    rw [hg]
    exact hy2

/-- An argument, opened. -/
theorem opens_arg {α : Type} {H : Type} {enc : TypeId × Value → H} {P : Program} {w : World} {base : Nat} {spare : Nat → Bool} {held : Bool} {t : TypeId} {v : Value} {kd : Kd α} {WF : α → Prop} {d : DataW H} {ps : List MemPlace} (h : Opens P t kd WF)
    {ts : List TypeId} {ds : List (DataW H)} {j : Nat} (hsz : (DataW.weightsEach P ts ds).all (· ≤ reachBytes) = true) (ht : ts[j]? = some t) (hd : ds[j]? = some d) (hv : DataW.Trod enc P w base spare held t v d ps) :
    ∃ x, kd.K w x v.cells.toList ∧ WF x := by
  obtain ⟨fuel, hf⟩ := hv
  refine h.2 H enc w base spare held fuel _ d ps hf (fun n hn => ?_)
  have := List.all_eq_true.1 hsz n (DataW.weights_mem_each ht hd n hn)
  simpa using this

/-- A slice argument: its address, its capacity, its row. -/
theorem opens_row {α : Type} {P : Program} {w : World} {t e : TypeId} {r : Reach} {b0 : Nat} {v : Value} {kd : Kd α} {x : List α} (ht : P.underlying t = some (.slice e)) (hval : Value.okWide P w r b0 t v) (h : (Kd.slice e kd).K w x v.cells.toList) :
    ∃ A c, v = .slice A x.length c ∧ x.length ≤ c ∧ Kd.C kd w A x.length x := by
  obtain ⟨a, len, cap, rfl⟩ := okWide_slice ht hval
  obtain ⟨A, c, hv, hl, hC⟩ := h
  simp [Value.cells] at hv
  obtain ⟨rfl, rfl, rfl⟩ := hv
  exact ⟨_, _, rfl, hl, hC⟩

/-- A struct argument by value: its cells. -/
theorem opens_agg {P : Program} {w : World} {t : TypeId} {fs : Array Field} {r : Reach} {b0 : Nat} {v : Value} {cs : List Value} (ht : P.underlying t = some (.struct fs)) (hval : Value.okWide P w r b0 t v) (h : v.cells.toList = cs) :
    v = .agg cs.toArray := by
  obtain ⟨c, rfl, _⟩ := okWide_struct ht hval
  simp [Value.cells] at h
  simp [← h]

end Go.Proofs.Ytmpncnphndafnaa.Opens
end

section
namespace Go.Proofs.Ytmpncnphndafnaa.PureFnTurns
open Go.RowKit Go.Proofs.YtmpncnphndafnaaW.PrintWords Go.Proofs.YtmpncnphndafnaaW.PrintLast Go.Proofs.YtmpncnphndafnaaW.PrintMore Go.Proofs.Ytmpncnphndafnaa.PTur Go.Proofs.Ytmpncnphndafnaa.Aid
set_option linter.unusedVariables false
set_option linter.unusedSimpArgs false


theorem laws_big_eq (l : List Int) : laws_big.f l = some (decide ((l.length : Int) > 1048576)) := rfl

theorem spec_l1New_ev (l : List Int) : ∃ s, Ev (fun k => spec_l1New.f k l) (l, 0, s) := by
  unfold spec_l1New.f
  have : ∀ d j s, j + d = l.length → (j : Nat) ≤ 4000 → ∃ s2, Ev (fun k => spec_l1New.l0 k l s (j : Int)) (l, 0, s2) := by
    intro d
    induction d with
    | zero =>
      intro j s hj _
      refine ⟨s, shift ?_⟩
      simp only [spec_l1New.l0]
      exact neg (by omega) (now rfl)
    | succ d ih =>
      intro j s hj hk
      by_cases h : j < 4000
      · obtain ⟨s2, h2⟩ := ih (j + 1) (Go.bits .and .i64 (wrap64 ((wrap64 ((wrap64 (s * 137)) + (wrap64 (rd l j)))) + 11)) 1073741823) (by omega) (by omega)
        refine ⟨s2, shift ?_⟩
        simp only [spec_l1New.l0]
        rw [succ_wrap (by omega)]
        exact pos (by omega) (pos (by omega) (pos (by omega) h2))
      · refine ⟨s, shift ?_⟩
        simp only [spec_l1New.l0]
        exact pos (by omega) (neg (by omega) (now rfl))
  exact this l.length 0 _ (by omega) (by omega)

theorem and255 (x : Int) : 0 ≤ Go.bits .and .i64 x 255 ∧ Go.bits .and .i64 x 255 ≤ 255 := by
  have h : (BitVec.ofInt 64 x &&& BitVec.ofInt 64 255).toNat ≤ 255 := by
    rw [BitVec.toNat_and]
    exact Nat.le_trans Nat.and_le_right (by decide)
  show 0 ≤ IntKind.wrap .i64 ((BitVec.ofInt 64 x &&& BitVec.ofInt 64 255).toNat : Int) ∧ IntKind.wrap .i64 ((BitVec.ofInt 64 x &&& BitVec.ofInt 64 255).toNat : Int) ≤ 255
  generalize (BitVec.ofInt 64 x &&& BitVec.ofInt 64 255).toNat = n at h
  have e : IntKind.wrap .i64 (n : Int) = wrap64 (n : Int) := by simp only [i64_w]
  rw [e, w64 (by omega) (by omega)]
  omega
theorem spec_l1Byte_ok (d : List Int) (p s : Int) (hd : d.length ≤ 1048576) (hp : 0 ≤ p ∧ p ≤ d.length) : ∃ v p2 s2, spec_l1Byte.f d p s = some (v, p2, s2) ∧ (0 ≤ p2 ∧ p2 ≤ d.length) ∧ 0 ≤ v ∧ v ≤ 255 := by
  unfold spec_l1Byte.f
  by_cases h : p < (d.length : Int)
  · refine ⟨_, _, _, by rw [if_pos h, if_pos hp.1], ?_, and255 _⟩
    rw [w64 (by omega) (by omega)]
    omega
  · exact ⟨_, _, _, by rw [if_neg h], hp, and255 _⟩

theorem spec_l1Below_ok (d : List Int) (p s a : Int) (hd : d.length ≤ 1048576) (hp : 0 ≤ p ∧ p ≤ d.length) : ∃ v p2 s2, spec_l1Below.f d p s a = some (v, p2, s2) ∧ (0 ≤ p2 ∧ p2 ≤ d.length) ∧ 0 ≤ v ∧ (0 < a → v < a) := by
  unfold spec_l1Below.f
  by_cases h : a ≤ 0
  · exact ⟨0, p, s, by rw [if_pos h], hp, by omega, by omega⟩
  rw [if_neg h]
  obtain ⟨v1, p1, s1, e1, r1, b1⟩ := spec_l1Byte_ok d p s hd hp
  by_cases h2 : a ≤ 256
  · refine ⟨Int.tmod v1 a, p1, s1, by rw [if_pos h2, e1, Option.bind_some, if_neg (by omega)], r1, Int.tmod_nonneg _ b1.1, fun h3 => Int.tmod_lt_of_pos _ h3⟩
  · obtain ⟨v2, p2, s2, e2, r2, b2⟩ := spec_l1Byte_ok d p1 s1 hd r1
    obtain ⟨v3, p3, s3, e3, r3, b3⟩ := spec_l1Byte_ok d p2 s2 hd r2
    refine ⟨_, p3, s3, by rw [if_neg h2, e1, Option.bind_some]; simp only [e2, e3, Option.bind_some]; rw [if_neg (by omega)], r3, Int.tmod_nonneg _ ?_, fun h3 => Int.tmod_lt_of_pos _ h3⟩
    rw [w64 (x := v1 * 65536) (by omega) (by omega), w64 (x := v2 * 256) (by omega) (by omega), w64 (x := v1 * 65536 + v2 * 256) (by omega) (by omega), w64 (by omega) (by omega)]
    omega

theorem spec_l1Int_ok (d : List Int) (p s : Int) (l : List Int) (hd : d.length ≤ 1048576) (hp : 0 ≤ p ∧ p ≤ d.length) (hl : 0 < l.length) : ∃ v p2 s2, spec_l1Int.f d p s l = some (v, p2, s2) ∧ (0 ≤ p2 ∧ p2 ≤ d.length) ∧ v ∈ l := by
  unfold spec_l1Int.f
  obtain ⟨v, p2, s2, e, r, h0, h1⟩ := spec_l1Below_ok d p s (l.length : Int) hd hp
  have h1 := h1 (by omega)
  refine ⟨rd l v, p2, s2, by rw [e, Option.bind_some, if_pos h0, if_pos h1], r, ?_⟩
  obtain ⟨n, rfl⟩ := Int.eq_ofNat_of_zero_le h0
  rw [rd_get l n (by omega)]
  exact List.getElem_mem _

theorem spec_l1Once_ok (d : List Int) (p s a : Int) (hd : d.length ≤ 1048576) (hp : 0 ≤ p ∧ p ≤ d.length) : ∃ v p2 s2, spec_l1Once.f d p s a = some (v, p2, s2) ∧ (0 ≤ p2 ∧ p2 ≤ d.length) := by
  unfold spec_l1Once.f
  obtain ⟨v, p2, s2, e, r, _⟩ := spec_l1Below_ok d p s a hd hp
  exact ⟨_, p2, s2, by rw [e, Option.bind_some], r⟩

theorem spec_l1In_eq (a b c : Int) : spec_l1In.f a b c = some (decide (b ≤ a ∧ a ≤ c)) := by
  unfold spec_l1In.f
  by_cases h : b ≤ a
  · rw [if_pos h]
    simp [h]
  · rw [if_neg h]
    simp [h]

def okVote (v : List Int) (j : Nat) : Bool := decide (0 ≤ rd v j ∧ rd v j ≤ 2)
def isTurn (p a : Int) (v : List Int) : Bool := (List.range v.length).all (okVote v) && decide (1 ≤ p ∧ p ≤ 99 ∧ 0 ≤ a ∧ a ≤ 1000000 ∧ 1 ≤ v.length ∧ v.length ≤ 8)
theorem isTurn_iff (p a : Int) (v : List Int) : isTurn p a v = true ↔ (∀ j, j < v.length → 0 ≤ rd v j ∧ rd v j ≤ 2) ∧ 1 ≤ p ∧ p ≤ 99 ∧ 0 ≤ a ∧ a ≤ 1000000 ∧ 1 ≤ v.length ∧ v.length ≤ 8 := by
  unfold isTurn
  rw [Bool.and_eq_true, List.all_eq_true, decide_eq_true_iff]
  simp [okVote]
theorem spec_IsTurn_ev (p a : Int) (v : List Int) (hl : v.length ≤ 1048576) : Ev (fun k => spec_IsTurn.f k p a v) (isTurn p a v) := by
  unfold spec_IsTurn.f isTurn
  refine all_loop (g := fun k j => spec_IsTurn.l0 k (j : Int) p a v) v.length (okVote v) _ ?_ ?_ ?_
  · intro j r hj ok h
    have ok : 0 ≤ rd v j ∧ rd v j ≤ 2 := by simpa [okVote] using ok
    refine shift ?_
    simp only [spec_IsTurn.l0]
    refine pos (nat_lt hj) (pos (by omega) (bindc (spec_l1In_eq _ _ _) (pos (by simp [ok]) ?_)))
    rw [succ_wrap (by omega)]
    exact h
  · intro j hj ok
    have ok : ¬ (0 ≤ rd v j ∧ rd v j ≤ 2) := by simpa [okVote] using ok
    refine shift ?_
    simp only [spec_IsTurn.l0]
    exact pos (nat_lt hj) (pos (by omega) (bindc (spec_l1In_eq _ _ _) (neg (by simpa using ok) (now rfl))))
  · refine shift ?_
    simp only [spec_IsTurn.l0]
    refine neg (nat_ge (Nat.le_refl _)) (bindc (spec_l1In_eq _ _ _) ?_)
    by_cases h1 : 1 ≤ p ∧ p ≤ 99
    · refine pos (by simp [h1]) (bindc (spec_l1In_eq _ _ _) ?_)
      by_cases h2 : 0 ≤ a ∧ a ≤ 1000000
      · refine pos (by simp [h2]) (bindc (spec_l1In_eq _ _ _) (now ?_))
        exact decide_eq_decide.2 (by omega)
      · exact neg (by simpa using h2) (now (Eq.symm (decide_eq_false (by omega))))
    · exact neg (by simpa using h1) (now (Eq.symm (decide_eq_false (by omega))))

def newTurn (p a c : Int) : Int × Int × List Int × Bool := if 1 ≤ c ∧ c ≤ 8 ∧ isTurn p a (List.replicate c.toNat 0) = true then (p, a, List.replicate c.toNat 0, true) else (0, 0, [], false)
theorem isTurn_long (p a : Int) (v : List Int) (h : ¬ (1 ≤ v.length ∧ v.length ≤ 8)) : ¬ isTurn p a v = true := by
  rw [isTurn_iff]
  omega
theorem spec_NewTurn_ev (p a c : Int) (hc : I64 c) : Ev (fun k => spec_NewTurn.f k p a c) (newTurn p a c) := by
  unfold I64 at hc
  unfold spec_NewTurn.f
  have fin : ∀ n : Nat, n ≤ 9 → (n : Int) = mn (mx c 0) 9 → Ev (fun k => (spec_IsTurn.f k p a (List.replicate n 0)).bind fun t => if t = true then some (p, a, List.replicate n (0 : Int), true) else some (0, 0, [], false)) (newTurn p a c) := by
    intro n hn hm
    unfold mn mx at hm
    refine Ev.bind (spec_IsTurn_ev p a _ (by simp; omega)) ?_
    unfold newTurn
    by_cases h : isTurn p a (List.replicate n 0) = true
    · have h2 := (isTurn_iff _ _ _).1 h
      simp at h2
      have e : c.toNat = n := by omega
      refine pos h (now ?_)
      rw [e, if_pos ⟨by omega, by omega, h⟩]
    · refine neg h (now ?_)
      by_cases hr : 1 ≤ c ∧ c ≤ 8
      · have e : c.toNat = n := by omega
        rw [e, if_neg (fun q => h q.2.2)]
      · rw [if_neg (fun q => hr ⟨q.1, q.2.1⟩)]
  have hN : ∃ n : Nat, n ≤ 9 ∧ (n : Int) = mn (mx c 0) 9 := ⟨(mn (mx c 0) 9).toNat, by unfold mn mx; omega, by unfold mn mx; omega⟩
  obtain ⟨n, hn, hm⟩ := hN
  refine loop (g := fun k j => spec_NewTurn.l0 k c (j : Int) p a (List.replicate j 0)) n ?_ ?_
  · intro j hj h
    have hm2 := hm
    unfold mn mx at hm2
    refine shift ?_
    simp only [spec_NewTurn.l0]
    refine pos (by omega) (pos (by omega) (pos (by simp; omega) ?_))
    rw [succ_wrap (by omega), ← List.replicate_succ']
    exact h
  · have hm2 := hm
    unfold mn mx at hm2
    refine shift ?_
    simp only [spec_NewTurn.l0]
    by_cases h : (n : Int) < c
    · exact pos h (neg (by omega) (fin n hn hm))
    · exact neg h (fin n hn hm)

def mayVote (p a : Int) (v : List Int) (c n : Int) : Bool := isTurn p a v && decide (1 ≤ c ∧ c ≤ v.length ∧ rd v (c - 1) = 0 ∧ n < a)
theorem mayVote_iff (p a : Int) (v : List Int) (c n : Int) : mayVote p a v c n = true ↔ isTurn p a v = true ∧ 1 ≤ c ∧ c ≤ v.length ∧ rd v (c - 1) = 0 ∧ n < a := by
  unfold mayVote
  rw [Bool.and_eq_true, decide_eq_true_iff]
def voteTurn (p a : Int) (v : List Int) (c : Int) (yes : Bool) (n : Int) : Int × Int × List Int × Bool :=
  if mayVote p a v c n = true then (p, a, v.set (c - 1).toNat (if yes = true then 1 else 2), true) else (p, a, v, false)
theorem voteTurn_length (p a : Int) (v : List Int) (c : Int) (yes : Bool) (n : Int) : (voteTurn p a v c yes n).2.2.1.length = v.length := by
  unfold voteTurn
  split <;> simp
theorem spec_VoteTurn_no (k : Nat) (c : Int) (yes : Bool) (p a : Int) (v : List Int) : spec_VoteTurn.j0 (k + 1) c yes true p a v = some (p, a, v, false) := by
  simp [spec_VoteTurn.j0]
theorem spec_VoteTurn_ev (p a : Int) (v : List Int) (c : Int) (yes : Bool) (n : Int) (hl : v.length ≤ 1048576) : Ev (fun k => spec_VoteTurn.f k p a v c yes n) (voteTurn p a v c yes n) := by
  unfold spec_VoteTurn.f
  refine bindc rfl (pos (by simp; omega) (bindc rfl (Ev.bind (spec_IsTurn_ev p a v hl) ?_)))
  have no : ¬ mayVote p a v c n = true → Ev (fun k => spec_VoteTurn.j0 k c yes true p a v) (voteTurn p a v c yes n) := by
    intro h
    refine Ev.step (fun k => spec_VoteTurn_no k c yes p a v) (now ?_)
    unfold voteTurn
    rw [if_neg h]
  rw [List.nil_append]
  by_cases h1 : isTurn p a v = true
  · refine pos h1 (bindc (spec_l1In_eq _ _ _) ?_)
    by_cases h2 : 1 ≤ c ∧ c ≤ v.length
    · rw [w64 (x := c - 1) (by omega) (by omega)]
      refine pos (by simp; omega) (pos (by omega) (pos (by omega) ?_))
      by_cases h3 : rd v (c - 1) = 0
      · refine pos h3 ?_
        by_cases h4 : n ≥ a
        · rw [decide_eq_true h4]
          exact no (fun q => by have := (mayVote_iff _ _ _ _ _).1 q; omega)
        · rw [decide_eq_false h4]
          refine shift ?_
          simp only [spec_VoteTurn.j0]
          rw [w64 (x := c - 1) (by omega) (by omega)]
          refine neg (by simp) (pos (by omega) (pos (by omega) (bindc rfl ?_)))
          have hm := (mayVote_iff p a v c n).2 ⟨h1, h2.1, h2.2, h3, by omega⟩
          cases yes with
          | true => exact pos rfl (now (by unfold voteTurn; rw [if_pos hm, if_pos rfl, List.set_set]))
          | false => exact neg (by simp) (now (by unfold voteTurn; rw [if_pos hm, if_neg (by simp)]))
      · exact neg h3 (no (fun q => h3 ((mayVote_iff _ _ _ _ _).1 q).2.2.2.1))
    · exact neg (by simp; omega) (no (fun q => h2 ⟨((mayVote_iff _ _ _ _ _).1 q).2.1, ((mayVote_iff _ _ _ _ _).1 q).2.2.1⟩))
  · exact neg h1 (no (fun q => h1 ((mayVote_iff _ _ _ _ _).1 q).1))

theorem zeros_turn (p a : Int) (n : Nat) (hp : 1 ≤ p ∧ p ≤ 99) (ha : 0 ≤ a ∧ a ≤ 1000000) (hn : 1 ≤ n ∧ n ≤ 8) : isTurn p a (List.replicate n 0) = true := by
  rw [isTurn_iff]
  refine ⟨fun j hj => ?_, hp.1, hp.2, ha.1, ha.2, by simpa using hn.1, by simpa using hn.2⟩
  have hj : j < n := by simpa using hj
  have : rd (List.replicate n 0) (j : Int) = 0 := by simp [rd, hj]
  rw [this]
  omega
theorem spec_l24Draw_at (d : List Int) (hd : d.length ≤ 1048576) (p a : Int) : ∀ (i : Nat) (v : List Int) (q s : Int), i ≤ 1000 → 1 ≤ v.length ∧ v.length ≤ 4 → (0 ≤ q ∧ q ≤ d.length) →
    ∃ p2 a2 v2 q2 s2, Ev (fun k => spec_l24Draw.l0 k (i : Int) d q s p a v) (p2, a2, v2, q2, s2) ∧ (1 ≤ v2.length ∧ v2.length ≤ 4) ∧ (0 ≤ q2 ∧ q2 ≤ d.length) := by
  intro i
  induction i generalizing p a with
  | zero =>
    intro v q s hi hv hq
    refine ⟨p, a, v, q, s, shift ?_, hv, hq⟩
    simp only [spec_l24Draw.l0]
    exact neg (by omega) (now rfl)
  | succ i ih =>
    intro v q s hi hv hq
    obtain ⟨c1, q1, s1, e1, hq1, _⟩ := spec_l1Below_ok d q s 4 hd hq
    obtain ⟨c2, q2, s2, e2, hq2⟩ := spec_l1Once_ok d q1 s1 5 hd hq1
    obtain ⟨c3, q3, s3, e3, hq3, _⟩ := spec_l1Below_ok d q2 s2 60 hd hq2
    have hl := voteTurn_length p a v (wrap64 (1 + c1)) (!c2) c3
    obtain ⟨p4, a4, v4, q4, s4, h4, r⟩ := ih (voteTurn p a v (wrap64 (1 + c1)) (!c2) c3).1 (voteTurn p a v (wrap64 (1 + c1)) (!c2) c3).2.1 (voteTurn p a v (wrap64 (1 + c1)) (!c2) c3).2.2.1 q3 s3 (by omega) (by omega) hq3
    refine ⟨p4, a4, v4, q4, s4, shift ?_, r⟩
    simp only [spec_l24Draw.l0]
    have e5 : wrap64 (((i + 1 : Nat) : Int) - 1) = (i : Int) := by rw [w64 (by omega) (by omega)]; omega
    rw [e5]
    exact pos (by omega) (bindc e1 (bindc e2 (bindc e3 (Ev.bind (spec_VoteTurn_ev p a v _ _ _ (by omega)) h4))))
theorem spec_l24Draw_ev (d : List Int) (hd : d.length ≤ 1048576) (q s : Int) (hq : 0 ≤ q ∧ q ≤ d.length) :
    ∃ p2 a2 v2 q2 s2, Ev (fun k => spec_l24Draw.f k d q s) (p2, a2, v2, q2, s2) ∧ (1 ≤ v2.length ∧ v2.length ≤ 4) ∧ (0 ≤ q2 ∧ q2 ≤ d.length) := by
  unfold spec_l24Draw.f
  obtain ⟨c1, q1, s1, e1, hq1, c10, c11⟩ := spec_l1Below_ok d q s 5 hd hq
  obtain ⟨c2, q2, s2, e2, hq2, c20, c21⟩ := spec_l1Below_ok d q1 s1 60 hd hq1
  obtain ⟨c3, q3, s3, e3, hq3, c30, c31⟩ := spec_l1Below_ok d q2 s2 4 hd hq2
  obtain ⟨c4, q4, s4, e4, hq4, c40, c41⟩ := spec_l1Below_ok d q3 s3 6 hd hq3
  have c11 := c11 (by omega)
  have c21 := c21 (by omega)
  have c31 := c31 (by omega)
  have c41 := c41 (by omega)
  obtain ⟨i, rfl⟩ := Int.eq_ofNat_of_zero_le c40
  have hz := zeros_turn (1 + c1) c2 (1 + c3).toNat (by omega) (by omega) (by omega)
  have hn : newTurn (wrap64 (1 + c1)) c2 (wrap64 (1 + c3)) = (1 + c1, c2, List.replicate (1 + c3).toNat 0, true) := by
    rw [w64 (x := 1 + c1) (by omega) (by omega), w64 (x := 1 + c3) (by omega) (by omega), newTurn, if_pos ⟨by omega, by omega, hz⟩]
  obtain ⟨p5, a5, v5, q5, s5, h5, r⟩ := spec_l24Draw_at d hd (1 + c1) c2 i (List.replicate (1 + c3).toNat 0) q4 s4 (by omega) (by simp; omega) hq4
  refine ⟨p5, a5, v5, q5, s5, bindc e1 (bindc e2 (bindc e3 ?_)), r⟩
  have h := spec_NewTurn_ev (wrap64 (1 + c1)) c2 (wrap64 (1 + c3)) (by rw [w64 (by omega) (by omega)]; unfold I64; omega)
  rw [hn] at h
  exact Ev.bind h (bindc e4 h5)

theorem spec_l4Raw_ok (d : List Int) (p s : Int) (hd : d.length ≤ 1048576) (hp : 0 ≤ p ∧ p ≤ d.length) : ∃ v p2 s2, spec_l4Raw.f d p s = some (v, p2, s2) ∧ (0 ≤ p2 ∧ p2 ≤ d.length) ∧ v ∈ ([-1, 0, 4, 7, 20, 21, 9223372036854775807, -9223372036854775808] : List Int) := by
  unfold spec_l4Raw.f
  obtain ⟨v, p2, s2, e, r, h⟩ := spec_l1Int_ok d p s [-1, 0, 4, 7, 20, 21, 9223372036854775807, -9223372036854775808] hd hp (by simp)
  exact ⟨v, p2, s2, by rw [e, Option.bind_some], r, h⟩

theorem spec_l24Any_ev (d : List Int) (hd : d.length ≤ 1048576) (q s : Int) (hq : 0 ≤ q ∧ q ≤ d.length) :
    ∃ p2 a2 v2 q2 s2, Ev (fun k => spec_l24Any.f k d q s) (p2, a2, v2, q2, s2) ∧ v2.length ≤ 4 ∧ (0 ≤ q2 ∧ q2 ≤ d.length) := by
  unfold spec_l24Any.f
  obtain ⟨p, a, v, q1, s1, h1, hv, hq1⟩ := spec_l24Draw_ev d hd q s hq
  obtain ⟨c, q2, s2, e2, hq2, _⟩ := spec_l1Below_ok d q1 s1 10 hd hq1
  by_cases c0 : c = 0
  · obtain ⟨x, q3, s3, e3, hq3, _⟩ := spec_l1Int_ok d q2 s2 [0, 99, 100] hd hq2 (by simp)
    exact ⟨x, a, v, q3, s3, Ev.bind h1 (bindc e2 (pos c0 (bindc e3 (now rfl)))), hv.2, hq3⟩
  by_cases c1 : c = 1
  · obtain ⟨x, q3, s3, e3, hq3, _⟩ := spec_l4Raw_ok d q2 s2 hd hq2
    exact ⟨p, x, v, q3, s3, Ev.bind h1 (bindc e2 (neg c0 (pos c1 (bindc e3 (now rfl))))), hv.2, hq3⟩
  by_cases c2 : c = 2
  · obtain ⟨x, q3, s3, e3, hq3, _⟩ := spec_l1Int_ok d q2 s2 [(-1), 3] hd hq2 (by simp)
    exact ⟨p, a, v.set 0 x, q3, s3, Ev.bind h1 (bindc e2 (neg c0 (neg c1 (pos c2 (bindc e3 (pos (by dsimp only; omega) (now rfl))))))), by simpa using hv.2, hq3⟩
  by_cases c3 : c = 3
  · exact ⟨p, a, [], q2, s2, Ev.bind h1 (bindc e2 (neg c0 (neg c1 (neg c2 (pos c3 (now rfl)))))), by simp, hq2⟩
  · exact ⟨p, a, v, q2, s2, Ev.bind h1 (bindc e2 (neg c0 (neg c1 (neg c2 (neg c3 (now rfl)))))), hv.2, hq2⟩

theorem impl_InRange_eq (a b c : Int) : impl_InRange.f a b c = some (decide (b ≤ a ∧ a ≤ c)) := by
  unfold impl_InRange.f
  by_cases h : b ≤ a
  · rw [if_pos h]
    simp [h]
  · rw [if_neg h]
    simp [h]

theorem impl_IsTurn_ev (p a : Int) (v : List Int) (hl : v.length ≤ 1048576) : Ev (fun k => impl_IsTurn.f k p a v) (isTurn p a v) := by
  unfold impl_IsTurn.f isTurn
  refine all_loop (g := fun k j => impl_IsTurn.l0 k v (v.length : Int) (j : Int) p a v) v.length (okVote v) _ ?_ ?_ ?_
  · intro j r hj ok h
    have ok : 0 ≤ rd v j ∧ rd v j ≤ 2 := by simpa [okVote] using ok
    refine shift ?_
    simp only [impl_IsTurn.l0]
    refine pos (nat_lt hj) (pos (by omega) (pos (nat_lt hj) (bindc (impl_InRange_eq _ _ _) (pos (by simp [ok]) ?_))))
    rw [succ_wrap (by omega)]
    exact h
  · intro j hj ok
    have ok : ¬ (0 ≤ rd v j ∧ rd v j ≤ 2) := by simpa [okVote] using ok
    refine shift ?_
    simp only [impl_IsTurn.l0]
    exact pos (nat_lt hj) (pos (by omega) (pos (nat_lt hj) (bindc (impl_InRange_eq _ _ _) (neg (by simpa using ok) (now rfl)))))
  · refine shift ?_
    simp only [impl_IsTurn.l0]
    refine neg (nat_ge (Nat.le_refl _)) (bindc (impl_InRange_eq _ _ _) ?_)
    by_cases h1 : 1 ≤ p ∧ p ≤ 99
    · refine pos (by simp [h1]) (bindc (impl_InRange_eq _ _ _) ?_)
      by_cases h2 : 0 ≤ a ∧ a ≤ 1000000
      · refine pos (by simp [h2]) (bindc (impl_InRange_eq _ _ _) (now ?_))
        exact decide_eq_decide.2 (by omega)
      · exact neg (by simpa using h2) (now (Eq.symm (decide_eq_false (by omega))))
    · exact neg (by simpa using h1) (now (Eq.symm (decide_eq_false (by omega))))

theorem slices_Clone_int_int_eq (l : List Int) (hl : l.length ≤ 1048576) : slices_Clone_int_int.f l = some l := by
  unfold slices_Clone_int_int.f
  rw [Option.bind_some, if_pos (by simp; omega)]
  simp

theorem impl_cloneTurn_eq (p a : Int) (v : List Int) (hl : v.length ≤ 1048576) : impl_cloneTurn.f p a v = some (p, a, v) := by
  unfold impl_cloneTurn.f
  rw [slices_Clone_int_int_eq v hl]
  rfl

theorem impl_VoteTurn_no (k : Nat) (c : Int) (yes : Bool) (p a : Int) (v : List Int) : impl_VoteTurn.j0 (k + 1) c yes true p a v = some (p, a, v, false) := by
  simp [impl_VoteTurn.j0]
theorem impl_VoteTurn_ev (p a : Int) (v : List Int) (c : Int) (yes : Bool) (n : Int) (hl : v.length ≤ 1048576) : Ev (fun k => impl_VoteTurn.f k p a v c yes n) (voteTurn p a v c yes n) := by
  unfold impl_VoteTurn.f
  refine bindc (impl_cloneTurn_eq p a v hl) (Ev.bind (impl_IsTurn_ev p a v hl) ?_)
  have no : ¬ mayVote p a v c n = true → Ev (fun k => impl_VoteTurn.j0 k c yes true p a v) (voteTurn p a v c yes n) := by
    intro h
    refine Ev.step (fun k => impl_VoteTurn_no k c yes p a v) (now ?_)
    unfold voteTurn
    rw [if_neg h]
  by_cases h1 : isTurn p a v = true
  · refine pos h1 (bindc (impl_InRange_eq _ _ _) ?_)
    by_cases h2 : 1 ≤ c ∧ c ≤ v.length
    · rw [w64 (x := c - 1) (by omega) (by omega)]
      refine pos (by simp; omega) (pos (by omega) (pos (by omega) ?_))
      by_cases h3 : rd v (c - 1) = 0
      · refine pos h3 ?_
        by_cases h4 : n ≥ a
        · rw [decide_eq_true h4]
          exact no (fun q => by have := (mayVote_iff _ _ _ _ _).1 q; omega)
        · rw [decide_eq_false h4]
          refine shift ?_
          simp only [impl_VoteTurn.j0]
          rw [w64 (x := c - 1) (by omega) (by omega)]
          refine neg (by simp) (pos (by omega) (pos (by omega) (bindc rfl ?_)))
          have hm := (mayVote_iff p a v c n).2 ⟨h1, h2.1, h2.2, h3, by omega⟩
          cases yes with
          | true => exact pos rfl (now (by unfold voteTurn; rw [if_pos hm, if_pos rfl, List.set_set]))
          | false => exact neg (by simp) (now (by unfold voteTurn; rw [if_pos hm, if_neg (by simp)]))
      · exact neg h3 (no (fun q => h3 ((mayVote_iff _ _ _ _ _).1 q).2.2.2.1))
    · exact neg (by simp; omega) (no (fun q => h2 ⟨((mayVote_iff _ _ _ _ _).1 q).2.1, ((mayVote_iff _ _ _ _ _).1 q).2.2.1⟩))
  · exact neg h1 (no (fun q => h1 ((mayVote_iff _ _ _ _ _).1 q).1))

def isVote (v : List Int) (x : Int) (j : Nat) : Bool := decide (rd v j = x)
def voteCount (v : List Int) (x : Int) (j : Nat) : Nat := (List.range j).countP (isVote v x)
theorem voteCount_le (v : List Int) (x : Int) (j : Nat) : voteCount v x j ≤ j := by
  have := List.countP_le_length (p := isVote v x) (l := List.range j)
  simpa [voteCount] using this
theorem voteCount_yes (v : List Int) (x : Int) (j : Nat) (h : rd v j = x) : voteCount v x (j + 1) = voteCount v x j + 1 := by
  simp [voteCount, List.range_succ, List.countP_append, isVote, h]
theorem voteCount_no (v : List Int) (x : Int) (j : Nat) (h : ¬ rd v j = x) : voteCount v x (j + 1) = voteCount v x j := by
  simp [voteCount, List.range_succ, List.countP_append, isVote, h]

theorem impl_CountVotes_ev (p a : Int) (v : List Int) (x : Int) (hl : v.length ≤ 1048576) : Ev (fun k => impl_CountVotes.f k p a v x) (voteCount v x v.length : Int) := by
  unfold impl_CountVotes.f
  refine loop (g := fun k j => impl_CountVotes.l0 k x (voteCount v x j : Int) v (v.length : Int) (j : Int)) v.length ?_ ?_
  · intro j hj h
    have hc := voteCount_le v x j
    refine shift ?_
    simp only [impl_CountVotes.l0]
    refine pos (nat_lt hj) (pos (by omega) (pos (nat_lt hj) ?_))
    rw [succ_wrap (j := j) (by omega)]
    by_cases hw : rd v (j : Int) = x
    · rw [voteCount_yes v x j hw] at h
      refine pos hw ?_
      rw [succ_wrap (j := voteCount v x j) (by omega)]
      exact h
    · rw [voteCount_no v x j hw] at h
      exact neg hw h
  · refine shift ?_
    simp only [impl_CountVotes.l0]
    exact neg (nat_ge (Nat.le_refl _)) (now rfl)

def isAgreed (p a : Int) (v : List Int) : Bool := isTurn p a v && ((voteCount v 1 v.length : Int) == (v.length : Int))

theorem impl_IsAgreed_ev (p a : Int) (v : List Int) (hl : v.length ≤ 1048576) : Ev (fun k => impl_IsAgreed.f k p a v) (isAgreed p a v) := by
  unfold impl_IsAgreed.f isAgreed
  refine Ev.bind (impl_IsTurn_ev p a v hl) ?_
  by_cases h : isTurn p a v = true
  · exact pos h (Ev.bind (impl_CountVotes_ev p a v 1 hl) (now (by rw [h, Bool.true_and])))
  · exact neg h (now (by rw [Bool.eq_false_iff.2 h, Bool.false_and]))

def planAfter (p a : Int) (v : List Int) (b n : Int) : Int := if isAgreed p a v = true ∧ a ≤ n then p else b

theorem impl_PlanAfter_ev (p a : Int) (v : List Int) (b n : Int) (hl : v.length ≤ 1048576) : Ev (fun k => impl_PlanAfter.f k p a v b n) (planAfter p a v b n) := by
  unfold impl_PlanAfter.f planAfter
  refine Ev.bind (impl_IsAgreed_ev p a v hl) ?_
  by_cases h : isAgreed p a v = true
  · refine pos h ?_
    by_cases h2 : a ≤ n
    · exact pos h2 (now (by rw [if_pos ⟨h, h2⟩]))
    · exact neg h2 (now (by rw [if_neg (fun q => h2 q.2)]))
  · exact neg h (now (by rw [if_neg (fun q => h q.1)]))

theorem impl_NewTurn_ev (p a c : Int) (hc : I64 c) : Ev (fun k => impl_NewTurn.f k p a c) (newTurn p a c) := by
  unfold impl_NewTurn.f newTurn
  refine bindc (impl_InRange_eq _ _ _) ?_
  by_cases h : 1 ≤ c ∧ c ≤ 8
  · refine pos (by simp [h]) (pos (by omega) (pos (by omega) (bindc rfl (Ev.bind (impl_IsTurn_ev p a _ (by simp; omega)) ?_))))
    by_cases h2 : isTurn p a (List.replicate c.toNat 0) = true
    · exact pos h2 (now (by rw [if_pos ⟨h.1, h.2, h2⟩]))
    · exact neg h2 (now (by rw [if_neg (fun q => h2 q.2.2)]))
  · exact neg (by simpa using h) (now (by rw [if_neg (fun q => h ⟨q.1, q.2.1⟩)]))

theorem rd_set (v : List Int) (j m : Nat) (w : Int) (hj : j < v.length) : rd (v.set j w) (m : Int) = if m = j then w else rd v (m : Int) := by
  simp only [rd_nat, List.getD_eq_getElem?_getD, List.getElem?_set]
  by_cases h : m = j
  · subst h
    simp [hj]
  · rw [if_neg (fun e => h e.symm), if_neg h]
theorem voteCount_set (v : List Int) (j : Nat) (w : Int) (hj : j < v.length) (h0 : rd v (j : Int) = 0) (hw : ¬ w = 0) : ∀ m, voteCount (v.set j w) 0 m + (if j < m then 1 else 0) = voteCount v 0 m := by
  intro m
  induction m with
  | zero => simp [voteCount]
  | succ m ih =>
    by_cases e : m = j
    · subst e
      rw [voteCount_no _ _ _ (by rw [rd_set v m m w hj, if_pos rfl]; exact hw), voteCount_yes _ _ _ h0]
      rw [if_neg (Nat.lt_irrefl m)] at ih
      rw [if_pos (Nat.lt_succ_self m)]
      omega
    · have hr : rd (v.set j w) (m : Int) = rd v (m : Int) := by rw [rd_set v j m w hj, if_neg e]
      have hc : (if j < m + 1 then 1 else 0) = (if j < m then 1 else 0 : Nat) := by
        by_cases h : j < m
        · rw [if_pos h, if_pos (by omega)]
        · rw [if_neg h, if_neg (by omega)]
      rw [hc]
      by_cases q : rd v (m : Int) = 0
      · rw [voteCount_yes _ _ _ (by rw [hr]; exact q), voteCount_yes _ _ _ q]
        omega
      · rw [voteCount_no _ _ _ (by rw [hr]; exact q), voteCount_no _ _ _ q]
        exact ih
theorem voteCount_less (v : List Int) (j : Nat) (h : ¬ rd v (j : Int) = 1) : ∀ m, voteCount v 1 m + (if j < m then 1 else 0) ≤ m := by
  intro m
  induction m with
  | zero => simp [voteCount]
  | succ m ih =>
    by_cases e : m = j
    · subst e
      rw [voteCount_no _ _ _ h, if_pos (Nat.lt_succ_self m)]
      rw [if_neg (Nat.lt_irrefl m)] at ih
      omega
    · have hc : (if j < m + 1 then 1 else 0) = (if j < m then 1 else 0 : Nat) := by
        by_cases h : j < m
        · rw [if_pos h, if_pos (by omega)]
        · rw [if_neg h, if_neg (by omega)]
      rw [hc]
      by_cases q : rd v (m : Int) = 1
      · rw [voteCount_yes _ _ _ q]
        omega
      · rw [voteCount_no _ _ _ q]
        omega
theorem voteCount_all (v : List Int) (m : Nat) (h : ∀ j, j < m → rd v (j : Int) = 1) : voteCount v 1 m = m := by
  induction m with
  | zero => simp [voteCount]
  | succ m ih => rw [voteCount_yes _ _ _ (h m (by omega)), ih (fun j hj => h j (by omega))]
theorem voteTurn_yes {p a : Int} {v : List Int} {c : Int} {yes : Bool} {n : Int} (h : mayVote p a v c n = true) : voteTurn p a v c yes n = (p, a, v.set (c - 1).toNat (if yes = true then 1 else 2), true) := by rw [voteTurn, if_pos h]
theorem voteTurn_no {p a : Int} {v : List Int} {c : Int} {yes : Bool} {n : Int} (h : ¬ mayVote p a v c n = true) : voteTurn p a v c yes n = (p, a, v, false) := by rw [voteTurn, if_neg h]
theorem set_turn {p a : Int} {v : List Int} (h : isTurn p a v = true) (j : Nat) (hj : j < v.length) (w : Int) (hw : 0 ≤ w ∧ w ≤ 2) : isTurn p a (v.set j w) = true := by
  rw [isTurn_iff] at h ⊢
  refine ⟨fun i hi => ?_, by simpa using h.2⟩
  rw [rd_set v j i w hj]
  split
  · exact hw
  · exact h.1 i (by simpa using hi)
/-- The first m votes are yes, the others are not given. -/
def someYes (n m : Nat) : List Int := List.replicate m 1 ++ List.replicate (n - m) 0
theorem someYes_length (n m : Nat) (h : m ≤ n) : (someYes n m).length = n := by simp [someYes]; omega
theorem someYes_rd (n m i : Nat) (h : m ≤ n) (hi : i < n) : rd (someYes n m) (i : Int) = if i < m then 1 else 0 := by
  rw [rd_nat, someYes, List.getD_eq_getElem?_getD]
  by_cases c : i < m
  · rw [List.getElem?_append_left (by simpa using c), if_pos c]
    simp [c]
  · rw [List.getElem?_append_right (by simpa using c), if_neg c, List.getElem?_replicate]
    split <;> rfl
theorem someYes_set (n m : Nat) (h : m < n) : (someYes n m).set m 1 = someYes n (m + 1) := by
  have e : n - m = (n - (m + 1)) + 1 := by omega
  rw [someYes, e, List.replicate_succ, List.set_append_right _ _ (by simp)]
  simp only [List.length_replicate, Nat.sub_self, List.set_cons_zero, someYes]
  rw [List.replicate_succ']
  simp
theorem someYes_turn (p a : Int) (n m : Nat) (h : m ≤ n) (hp : 1 ≤ p ∧ p ≤ 99) (ha : 0 ≤ a ∧ a ≤ 1000000) (hn : 1 ≤ n ∧ n ≤ 8) : isTurn p a (someYes n m) = true := by
  rw [isTurn_iff, someYes_length n m h]
  refine ⟨fun j hj => ?_, hp.1, hp.2, ha.1, ha.2, hn.1, hn.2⟩
  rw [someYes_rd n m j h hj]
  split <;> omega
theorem FnTurns_made (p a : Int) (n : Nat) (hp : 1 ≤ p ∧ p ≤ 99) (ha : 0 ≤ a ∧ a ≤ 1000000) (hn : 1 ≤ n ∧ n ≤ 8) :
    Ev (fun k => laws_FnTurns.l0 k p a (n : Int) true 1 p a (List.replicate n 0)) true := by
  by_cases h0 : a = 0
  · refine shift ?_
    simp only [laws_FnTurns.l0]
    exact pos (by omega) (pos trivial (neg (by omega) (pos h0 (now rfl))))
  have hz : List.replicate n (0 : Int) = someYes n 0 := by simp [someYes]
  rw [hz]
  refine loop (g := fun k m => laws_FnTurns.l0 k p a (n : Int) true ((m : Int) + 1) p a (someYes n m)) n ?_ ?_
  · intro m hm ih
    have ht := someYes_turn p a n m (by omega) hp ha hn
    have hlen := someYes_length n m (by omega)
    have e1 : ((m : Int) + 1 - 1) = (m : Int) := by omega
    have hmay : mayVote p a (someYes n m) ((m : Int) + 1) 0 = true := by
      rw [mayVote_iff, e1, someYes_rd n m m (by omega) hm, if_neg (Nat.lt_irrefl m)]
      exact ⟨ht, by omega, by omega, rfl, by omega⟩
    have hv := voteTurn_yes (yes := true) hmay
    rw [e1, Int.toNat_natCast, if_pos rfl, someYes_set n m hm] at hv
    refine shift ?_
    simp only [laws_FnTurns.l0]
    refine pos (by omega) (pos trivial (pos (by omega) (Ev.bind (impl_VoteTurn_ev p a _ _ true 0 (by omega)) ?_)))
    rw [hv, w64 (x := (m : Int) + 1 + 1) (by omega) (by omega)]
    have e2 : ((m + 1 : Nat) : Int) + 1 = (m : Int) + 1 + 1 := by omega
    rw [e2] at ih
    exact ih
  · have ht := someYes_turn p a n n (by omega) hp ha hn
    have hlen := someYes_length n n (by omega)
    have hag : isAgreed p a (someYes n n) = true := by
      rw [isAgreed, ht, Bool.true_and, hlen, voteCount_all _ n (fun j hj => by rw [someYes_rd n n j (by omega) hj, if_pos hj])]
      simp
    refine shift ?_
    simp only [laws_FnTurns.l0]
    refine neg (by omega) (pos trivial (neg h0 (Ev.bind (impl_IsAgreed_ev p a _ (by omega)) (pos hag (Ev.bind (impl_PlanAfter_ev p a _ 0 a (by omega)) (pos ?_ (Ev.bind (impl_PlanAfter_ev p a _ 0 _ (by omega)) (now ?_))))))))
    · rw [planAfter, if_pos ⟨hag, Int.le_refl a⟩]
    · rw [w64 (x := a - 1) (by omega) (by omega), planAfter, if_neg (fun g => by have := g.2; omega)]
      rfl
theorem FnTurns_j1 (l : List Int) (hl : l.length ≤ 1048576) : Ev (fun k => laws_FnTurns.j1 k l false) true := by
  obtain ⟨s, h1⟩ := spec_l1New_ev l
  obtain ⟨p, q2, s2, e2, hq2, hp⟩ := spec_l1Int_ok l 0 s [0, 1, 99, 100] hl (by omega) (by simp)
  obtain ⟨a, q3, s3, e3, hq3, ha⟩ := spec_l1Int_ok l q2 s2 [0, 50, 1000000, 1000001, (-1)] hl hq2 (by simp)
  obtain ⟨n, q4, s4, e4, hq4, hn⟩ := spec_l1Int_ok l q3 s3 [1, 3, 8, 9, 0, (-1), 9223372036854775807] hl hq3 (by simp)
  have hd : Ev (fun k => spec_DrawNewTurn.f k l) (p, a, n) := by
    unfold spec_DrawNewTurn.f
    exact Ev.bind h1 (bindc e2 (bindc e3 (bindc e4 (now rfl))))
  have hn64 : I64 n := by
    unfold I64
    simp at hn
    omega
  refine shift ?_
  simp only [laws_FnTurns.j1]
  refine neg (by decide) (Ev.bind hd (Ev.bind (impl_NewTurn_ev p a n hn64) ?_))
  have no : ∀ (b : Bool) (x y : Int) (v : List Int), b = false → Ev (fun k => laws_FnTurns.j2 k p a n false b x y v) true := by
    intro b x y v hb
    subst hb
    refine shift ?_
    simp only [laws_FnTurns.j2]
    refine neg (by decide) (shift ?_)
    simp only [laws_FnTurns.l0]
    by_cases c : 1 ≤ n
    · exact pos c (neg (by decide) (now rfl))
    · exact neg c (neg (by decide) (now rfl))
  by_cases hm : (1 ≤ p ∧ p ≤ 99) ∧ (0 ≤ a ∧ a ≤ 1000000) ∧ (1 ≤ n ∧ n ≤ 8)
  · obtain ⟨m, rfl⟩ := Int.eq_ofNat_of_zero_le (show 0 ≤ n by omega)
    have hz := zeros_turn p a m hm.1 hm.2.1 (by omega)
    have hw : newTurn p a (m : Int) = (p, a, List.replicate m 0, true) := by rw [newTurn, Int.toNat_natCast, if_pos ⟨by omega, by omega, hz⟩]
    rw [hw]
    refine pos (by dsimp only; omega) (pos (by dsimp only; omega) (pos (by dsimp only; omega) (pos (by dsimp only; omega) (pos (by dsimp only; omega) ?_))))
    dsimp only
    rw [decide_eq_true (show (m : Int) ≤ 8 by omega)]
    refine shift ?_
    simp only [laws_FnTurns.j2]
    exact neg (by decide) (FnTurns_made p a m hm.1 hm.2.1 (by omega))
  · have hw : newTurn p a n = (0, 0, [], false) := by
      rw [newTurn, if_neg]
      intro g
      have := (isTurn_iff _ _ _).1 g.2.2
      exact hm ⟨⟨this.2.1, this.2.2.1⟩, ⟨this.2.2.2.1, this.2.2.2.2.1⟩, g.1, g.2.1⟩
    rw [hw]
    dsimp only
    by_cases g1 : p ≥ 1
    · refine pos g1 ?_
      by_cases g2 : p ≤ 99
      · refine pos g2 ?_
        by_cases g3 : a ≥ 0
        · refine pos g3 ?_
          by_cases g4 : a ≤ 1000000
          · refine pos g4 ?_
            by_cases g5 : n ≥ 1
            · exact pos g5 (no _ _ _ _ (by rw [decide_eq_false (by omega)]; rfl))
            · exact neg g5 (no _ _ _ _ rfl)
          · exact neg g4 (no _ _ _ _ rfl)
        · exact neg g3 (no _ _ _ _ rfl)
      · exact neg g2 (no _ _ _ _ rfl)
    · exact neg g1 (no _ _ _ _ rfl)
theorem FnTurns_j0 (l : List Int) (hl : l.length ≤ 1048576) : Ev (fun k => laws_FnTurns.j0 k l) true := by
  obtain ⟨s, h1⟩ := spec_l1New_ev l
  obtain ⟨p, a, v, q2, s2, h2, hv, hq2⟩ := spec_l24Any_ev l hl 0 s (by omega)
  obtain ⟨c, q3, s3, e3, hq3, _⟩ := spec_l1Below_ok l q2 s2 9 hl hq2
  obtain ⟨t, q4, s4, e4, hq4, _⟩ := spec_l1Below_ok l q3 s3 70 hl hq3
  have hd : Ev (fun k => spec_DrawPlanAfter.f k l) (p, a, v, wrap64 (1 + c), t) := by
    unfold spec_DrawPlanAfter.f
    exact Ev.bind h1 (Ev.bind h2 (bindc e3 (bindc e4 (now rfl))))
  have hj1 := FnTurns_j1 l hl
  refine shift ?_
  simp only [laws_FnTurns.j0]
  refine Ev.bind hd (Ev.bind (impl_PlanAfter_ev p a v _ t (by omega)) ?_)
  dsimp only
  by_cases c0 : planAfter p a v (wrap64 (1 + c)) t = wrap64 (1 + c)
  · exact pos c0 hj1
  refine neg c0 ?_
  by_cases g : isAgreed p a v = true ∧ a ≤ t
  · have e : planAfter p a v (wrap64 (1 + c)) t = p := by rw [planAfter, if_pos g]
    refine pos e (neg (by omega) (Ev.bind (impl_CountVotes_ev p a v 1 (by omega)) ?_))
    have ga := g.1
    rw [isAgreed, Bool.and_eq_true, beq_iff_eq] at ga
    have : ((voteCount v 1 v.length : Int) != (v.length : Int)) = false := bne_eq_false_iff_eq.mpr ga.2
    rw [this]
    exact hj1
  · exact absurd (by rw [planAfter, if_neg g]) c0
theorem FnTurns (l : List Int) (hw : wfS 1 U8 l) : ∃ k, laws_FnTurns.f k l = some true := by
  refine Ev.rounds ?_
  unfold laws_FnTurns.f
  refine bindc (laws_big_eq l) ?_
  by_cases hl : (l.length : Int) > 1048576
  · exact pos (by simpa using hl) (now rfl)
  have hl : l.length ≤ 1048576 := by omega
  obtain ⟨s, h1⟩ := spec_l1New_ev l
  obtain ⟨p, a, v, q2, s2, h2, hv, hq2⟩ := spec_l24Any_ev l hl 0 s (by omega)
  obtain ⟨c, q3, s3, e3, hq3, _⟩ := spec_l1Below_ok l q2 s2 6 hl hq2
  obtain ⟨y, q4, s4, e4, hq4⟩ := spec_l1Once_ok l q3 s3 2 hl hq3
  obtain ⟨t, q5, s5, e5, hq5, _⟩ := spec_l1Below_ok l q4 s4 60 hl hq4
  have hd : Ev (fun k => spec_DrawVoteTurn.f k l) (p, a, v, c, y, t) := by
    unfold spec_DrawVoteTurn.f
    exact Ev.bind h1 (Ev.bind h2 (bindc e3 (bindc e4 (bindc e5 (now rfl)))))
  have hj0 := FnTurns_j0 l hl
  refine neg (by simp; omega) (Ev.bind hd (Ev.bind (impl_VoteTurn_ev p a v c y t (by omega)) ?_))
  dsimp only
  by_cases hm : mayVote p a v c t = true
  · obtain ⟨ht, m1, m2, m3, m4⟩ := (mayVote_iff p a v c t).1 hm
    obtain ⟨j, hj⟩ := Int.eq_ofNat_of_zero_le (show 0 ≤ c - 1 by omega)
    have hjl : j < v.length := by omega
    have hw01 : 0 ≤ (if y = true then (1 : Int) else 2) ∧ (if y = true then (1 : Int) else 2) ≤ 2 := by cases y <;> simp
    have hw0 : ¬ (if y = true then (1 : Int) else 2) = 0 := by cases y <;> simp
    rw [voteTurn_yes hm, hj, Int.toNat_natCast]
    rw [hj] at m3
    have hset := set_turn ht j hjl _ hw01
    have hcnt := voteCount_set v j _ hjl m3 hw0 v.length
    rw [if_pos hjl] at hcnt
    have hle := voteCount_le v 0 v.length
    have hagain : ¬ mayVote p a (v.set j (if y = true then 1 else 2)) c t = true := by
      rw [mayVote_iff, hj, rd_set v j j _ hjl, if_pos rfl]
      exact fun g => hw0 g.2.2.2.1
    have hl2 : (v.set j (if y = true then (1 : Int) else 2)).length = v.length := by simp
    refine pos rfl (Ev.bind (impl_VoteTurn_ev p a _ c y t (by dsimp only; omega)) ?_)
    dsimp only
    rw [voteTurn_no hagain]
    refine Ev.bind (impl_IsTurn_ev p a _ (by omega)) (pos hset (neg (by omega) (neg (by simp) (Ev.bind (impl_CountVotes_ev p a _ 0 (by omega)) (Ev.bind (impl_CountVotes_ev p a v 0 (by omega)) (pos ?_ ?_))))))
    · rw [hl2, w64 (by omega) (by omega)]
      omega
    · cases y with
      | true => exact pos rfl hj0
      | false =>
        refine neg (by decide) (Ev.bind (impl_IsAgreed_ev p a _ (by omega)) (neg ?_ hj0))
        rw [isAgreed, Bool.and_eq_true, beq_iff_eq]
        intro g
        have h3 := voteCount_less (v.set j 2) j (by rw [rd_set v j j _ hjl, if_pos rfl]; decide) (v.set j 2).length
        rw [if_pos (by simpa using hjl)] at h3
        have g2 := g.2
        simp only [Bool.false_eq_true, if_false] at g2
        omega
  · rw [voteTurn_no hm]
    exact neg (by simp) (pos rfl hj0)

end Go.Proofs.Ytmpncnphndafnaa.PureFnTurns
end

section
namespace Go.Proofs.Ytmpncnphndafnaa.fnTurns
open Go.ChangeShapes Go.WideShapes Go.ChangeAt Go.RowKit
open Go.Proofs.YtmpncnphndafnaaW.PrintWords Go.Proofs.Ytmpncnphndafnaa.PTur Go.Proofs.Ytmpncnphndafnaa.Opens Go.Proofs.Ytmpncnphndafnaa.Aid Go.Proofs.Ytmpncnphndafnaa.PureFnTurns
set_option linter.unusedVariables false
theorem own : ownKnob Try.prog.godebug = none := by kernel_rfl
theorem laidOut : laidOutB Try.prog = true := by kernel_rfl
theorem arg0 : Opens Try.prog 41 (Kd.slice 5 (Kd.int .u8)) (wfS 1 U8) := (opens_slice Try.underlying41 (by kernel_rfl) (B := 1) (by kernel_rfl) (opens_u8 Try.underlying5 (by kernel_rfl)))
set_option maxRecDepth 100000 in
theorem lifted (os : Os) (started : os.Started) (H : Type) (enc : TypeId × Value → H) :
    ReturnsInHanded {} Try.checked os 5 .any (Rows.fnTurnsSpec.pre6 enc Try.prog Try.f5 Rows.fnTurnsRow.domain false) (Rows.fnTurnsSpec.post enc Try.prog Try.f5 false true false false) := by
  refine returnsInHanded_of_change_sized (C := Try.checked) own started (by kernel_rfl) Try.func5
    (ChangeSpec.witness6 (enc := enc) (C := Try.checked) false ⟨#[], #[.slice none 0 0], []⟩ 8 (by kernel_rfl) (by kernel_rfl) (by kernel_rfl) (by kernel_rfl)) ?_
  intro W base args ds gs before hval0 hW hcnd hsz0 _
  have hsz : (DataW.weightsEach Try.prog (Try.f5.params.toList ++ Rows.fnTurnsSpec.plain.varTypes Try.prog) (ds ++ gs)).all (· ≤ reachBytes) = true := hsz0
  have hval : ∀ (j : Nat) t v, Try.f5.params[j]? = some t → args[j]? = some v → Value.okWide Try.prog W .any base t v := hval0
  have hW' := hW
  obtain ⟨p, q, hA0, hV, rfl, hfz, hnd⟩ := hW
  have hA : DataW.TrodAll enc Try.prog W 0 (fun _ => true) true Try.f5.params.toList args.toList ds p := hA0
  rw [Try.params5] at hA hval hsz
  obtain ⟨v0, vs0, d0, ds0, p0, q0, hargs, rfl, rfl, h0, r0⟩ := trodAll_cons hA
  obtain ⟨rfl, rfl, rfl⟩ := trodAll_nil r0
  obtain rfl : args = #[v0] := by cases args; simp_all
  obtain ⟨rfl, rfl⟩ := trodVars_none hV
  have k0 := h0
  have lt0 : ∀ x ∈ p0, x.block < W.heap.size := by obtain ⟨m, hm⟩ := k0; exact DataW.trod_lt m _ _ _ hm
  obtain ⟨x0, hK0, hW0⟩ := opens_arg arg0 hsz (j := 0) rfl rfl h0
  obtain ⟨A0, c0, rfl, hc0, hC0⟩ := opens_row Try.underlying41 (hval 0 41 v0 rfl rfl) hK0
  clear hA0 hval0 hsz0 hsz
  obtain ⟨k, hk⟩ := Go.Proofs.Ytmpncnphndafnaa.PureFnTurns.FnTurns x0 hW0
  refine (laws_FnTurns.calls k _ _ x0 true W hC0 hc0 hk).mono fun e W' ⟨he, bel0⟩ => ?_
  have bel : Below W.heap.size W W' := by first | exact bel0 | exact bel0.below
  subst he
  exact ⟨_, rfl, _, _, _, [], _, [], hW', trodAll_mk1 (shut_bool Try.underlying4 _), (trodAll_cons_mk (Below.trod laidOut (by kernel_rfl) (of_decide_eq_true (by kernel_rfl)) k0 bel lt0) trodAll_mk0), rfl, bel.frame _, fun h => by cases h⟩
theorem over : Rows.fnTurnsRow.holds Try.pinned (OpenSpec.ofChange Rows.fnTurnsSpec) :=
  OpenClaim.holds_of_wide 5 Try.f5 rfl rfl rfl rfl rfl rfl rfl ⟨rfl, rfl, rfl, rfl, rfl⟩ rfl rfl rfl rfl rfl (by kernel_rfl) Try.func5 (by kernel_rfl)
    (of_decide_eq_true (by kernel_rfl)) (by unfold Func.isWrapper; first | (rw [if_pos (by decide +kernel)]; kernel_rfl) | (rw [if_neg (by decide +kernel)]; exact ⟨rfl, rfl⟩))
    (fun os started H enc _ => lifted os started H enc)
theorem proved : Rows.FnTurnsSaid := over
#print axioms proved
end Go.Proofs.Ytmpncnphndafnaa.fnTurns
namespace Go.Proofs.Ytmpncnphndafnaa
/-- The row, under a short name, for the claim. -/
theorem fnTurns_holds : Rows.FnTurnsSaid := fnTurns.proved
end Go.Proofs.Ytmpncnphndafnaa
end
