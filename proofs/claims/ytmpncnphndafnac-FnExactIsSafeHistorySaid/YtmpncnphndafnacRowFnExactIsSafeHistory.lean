/- The statement FnExactIsSafeHistory, whole: for every input the law returns true and leaves its arguments as they were; no condition. Out of the contract of the law's walk and the pure theorem. -/
import Derived.Test.YtmpncnphndafnacWWords
import Derived.Test.YtmpncnphndafnacWMore
import Derived.SizedLaws
import Derived.ChangeSlices
import Derived.ChangeArms
import Derived.WideShapes
import Derived.Below
import Derived.Test.YtmpncnphndafnacPSafx0
import Derived.Test.YtmpncnphndafnacPSafx1
import Derived.Test.YtmpncnphndafnacPSafx2
import Derived.Test.YtmpncnphndafnacPSafx3
import Derived.Test.YtmpncnphndafnacPSafx4
import Derived.Test.YtmpncnphndafnacPSafx5
import Derived.Test.YtmpncnphndafnacPSafx6
import Derived.Test.YtmpncnphndafnacPSafx7
import Derived.Test.YtmpncnphndafnacPSafx8
import Derived.Test.YtmpncnphndafnacPSafx9
import Derived.Test.YtmpncnphndafnacPSafx10
import Derived.Test.YtmpncnphndafnacPSafx11
import Derived.Test.YtmpncnphndafnacPSafx12
import Derived.Test.YtmpncnphndafnacPSafx13
import Derived.Test.YtmpncnphndafnacPSafx14
import Derived.Test.YtmpncnphndafnacPSafx15
import Derived.Test.YtmpncnphndafnacPSafx16
import Derived.Test.YtmpncnphndafnacPSafx17
import Derived.Test.YtmpncnphndafnacPSafx18
import Derived.Test.YtmpncnphndafnacPSafx19
import Derived.Test.YtmpncnphndafnacPSafx20
import Derived.Test.YtmpncnphndafnacPSafx21
import Derived.Test.YtmpncnphndafnacPSafx22
import Derived.Test.YtmpncnphndafnacPSafx23
import Derived.Test.YtmpncnphndafnacPSafx24
import Derived.Test.YtmpncnphndafnacPSafx25
import Derived.Test.YtmpncnphndafnacPSafx26
import Derived.Test.YtmpncnphndafnacPSafx27
import Derived.Test.YtmpncnphndafnacPSafx28
import Derived.Test.YtmpncnphndafnacPSafx29
import Derived.Test.YtmpncnphndafnacPSafx30
import Derived.Test.YtmpncnphndafnacPSafx31
import Derived.Test.YtmpncnphndafnacPSafx32
import Derived.Test.YtmpncnphndafnacRows
import Derived.WalkKit
import Derived.ProofKit
import Derived.OpenShut
import Derived.ShutString
import Derived.ChangeOld
section
namespace Go.Proofs.Ytmpncnphndafnac.Aid
open Go.RowKit Go.Proofs.YtmpncnphndafnacW.PrintWords Go.Proofs.YtmpncnphndafnacW.PrintMore
set_option linter.unusedVariables false

theorem w64 {x : Int} (h0 : -9223372036854775808 ≤ x) (h1 : x ≤ 9223372036854775807) : wrap64 x = x := by
  unfold wrap64
  omega
theorem w64_range (x : Int) : -9223372036854775808 ≤ wrap64 x ∧ wrap64 x ≤ 9223372036854775807 := by
  unfold wrap64
  omega
/-- A number of Go's int. -/
def I64 (x : Int) : Prop := -9223372036854775808 ≤ x ∧ x ≤ 9223372036854775807
theorem i64_of {x : Int} (h : (Lit.int .i64 x).wf = true) : I64 x := by
  simp [Lit.wf, IntKind.min, IntKind.max, IntKind.bits, IntKind.signed] at h
  unfold I64
  omega

/-- A byte. -/
def U8 (x : Int) : Prop := 0 ≤ x ∧ x ≤ 255
theorem u8_of {x : Int} (h : (Lit.int .u8 x).wf = true) : U8 x := by
  simp [Lit.wf, IntKind.min, IntKind.max, IntKind.bits, IntKind.signed] at h
  unfold U8
  omega

/-- A slice within the reach (B: an element's bytes), all of whose elements are as WF says. -/
def wfS {α : Type} (B : Nat) (WF : α → Prop) (xs : List α) : Prop := xs.length ≤ maxLen ∧ xs.length * B ≤ 140737488351232 ∧ ∀ x ∈ xs, WF x

theorem shift {α : Type} {g : Nat → Option α} {r : α} (h : Ev (fun k => g (k + 1)) r) : Ev g r := Ev.step (fun _ => rfl) h
theorem pos {α : Type} {c : Prop} [Decidable c] {a b : Nat → Option α} {r : α} (hc : c) (h : Ev a r) : Ev (fun k => if c then a k else b k) r := by
  simpa only [if_pos hc] using h
theorem neg {α : Type} {c : Prop} [Decidable c] {a b : Nat → Option α} {r : α} (hc : ¬ c) (h : Ev b r) : Ev (fun k => if c then a k else b k) r := by
  simpa only [if_neg hc] using h
theorem now {α : Type} {r s : α} (h : r = s) : Ev (fun _ => some r) s := h ▸ Ev.now r
theorem known {α : Type} {x : Option α} {r : α} (h : x = some r) : Ev (fun _ => x) r := h ▸ Ev.now r
theorem bindc {α β : Type} {x : Option α} {f : Nat → α → Option β} {a : α} {r : β} (h : x = some a) (k : Ev (fun n => f n a) r) : Ev (fun n => x.bind (f n)) r := by
  subst h
  exact k
theorem same {α : Type} {g : Nat → Option α} {r s : α} (h : Ev g r) (e : r = s) : Ev g s := e ▸ h
theorem of_const {α : Type} {x : Option α} {r : α} (h : Ev (fun _ => x) r) : x = some r := by
  obtain ⟨k, hk⟩ := Ev.rounds h
  exact hk

/-- A loop whose round j leads from state j to state j + 1, and whose N-th state is its end. -/
theorem loop {α : Type} {g : Nat → Nat → Option α} {r : α} (N : Nat) (hs : ∀ j, j < N → Ev (fun k => g k (j + 1)) r → Ev (fun k => g k j) r) (he : Ev (fun k => g k N) r) : Ev (fun k => g k 0) r := by
  have : ∀ d j, j + d = N → Ev (fun k => g k j) r := by
    intro d
    induction d with
    | zero =>
      intro j hj
      have : j = N := by omega
      subst this
      exact he
    | succ d ih => exact fun j hj => hs j (by omega) (ih (j + 1) (by omega))
  exact this N 0 (by omega)
/-- The same from state i on. -/
theorem loop_from {α : Type} {g : Nat → Nat → Option α} {r : α} (i N : Nat) (hi : i ≤ N) (hs : ∀ j, i ≤ j → j < N → Ev (fun k => g k (j + 1)) r → Ev (fun k => g k j) r) (he : Ev (fun k => g k N) r) : Ev (fun k => g k i) r := by
  have : ∀ d j, i ≤ j → j + d = N → Ev (fun k => g k j) r := by
    intro d
    induction d with
    | zero =>
      intro j _ hj
      have : j = N := by omega
      subst this
      exact he
    | succ d ih => exact fun j h0 hj => hs j h0 (by omega) (ih (j + 1) (by omega) (by omega))
  exact this (N - i) i (Nat.le_refl _) (by omega)

theorem rd_nat (xs : List Int) (j : Nat) : rd xs (j : Int) = xs.getD j 0 := by simp [rd]
theorem rd_get (xs : List Int) (j : Nat) (h : j < xs.length) : rd xs (j : Int) = xs[j] := by simp [rd, h]
theorem nat_lt {a b : Nat} (h : a < b) : (a : Int) < (b : Int) := by omega
theorem nat_ge {a b : Nat} (h : b ≤ a) : ¬ (a : Int) < (b : Int) := by omega
theorem succ_wrap {j : Nat} (h : j < 9223372036854775807) : wrap64 ((j : Int) + 1) = ((j + 1 : Nat) : Int) := by
  rw [w64 (by omega) (by omega)]
  omega

/-- A loop that fills a row, one place a round. -/
theorem copied {α β : Type} {g : Nat → List β → Int → Option (List β)} (l : List α) (f : α → β) (z : β) (hs : ∀ (j : Nat) (hj : j < l.length) (y : List β) (r : List β), y.length = l.length → Ev (fun k => g k (y.set j (f l[j])) ((j + 1 : Nat) : Int)) r → Ev (fun k => g k y (j : Int)) r)
    (he : ∀ y, Ev (fun k => g k y (l.length : Int)) y) : Ev (fun k => g k (List.replicate l.length z) 0) (l.map f) := by
  refine loop (g := fun k j => g k ((l.map f).take j ++ List.replicate (l.length - j) z) (j : Int)) (r := l.map f) l.length ?_ ?_ |> (fun h => by simpa using h)
  · intro j hj h
    refine hs j hj _ _ (by simp; omega) ?_
    refine Eq.mp ?_ h
    congr 1
    funext k
    congr 1
    rw [List.set_append_right _ _ (by simp; omega)]
    have h1 : (l.map f).take (j + 1) = (l.map f).take j ++ [f l[j]] := by
      rw [List.take_succ_eq_append_getElem (by simpa using hj)]
      simp
    have h2 : l.length - j = (l.length - (j + 1)) + 1 := by omega
    have h3 : j - ((l.map f).take j).length = 0 := by simp; omega
    rw [h1, h3, h2, List.replicate_succ, List.set_cons_zero]
    simp
  · have h := he (l.map f)
    have e : (l.map f).take l.length = l.map f := List.take_of_length_le (by simp)
    simpa [e] using h

/-- A loop that looks at each place and answers no at the first that is not as it ought to be. -/
theorem all_loop {g : Nat → Nat → Option Bool} (N : Nat) (ok : Nat → Bool) (b : Bool) (hs : ∀ j r, j < N → ok j = true → Ev (fun k => g k (j + 1)) r → Ev (fun k => g k j) r)
    (hf : ∀ j, j < N → ok j = false → Ev (fun k => g k j) false) (he : Ev (fun k => g k N) b) : Ev (fun k => g k 0) ((List.range N).all ok && b) := by
  have : ∀ d j, j + d = N → Ev (fun k => g k j) ((List.range' j d).all ok && b) := by
    intro d
    induction d with
    | zero =>
      intro j hj
      have : j = N := by omega
      subst this
      simpa using he
    | succ d ih =>
      intro j hj
      rw [List.range'_succ, List.all_cons]
      cases h : ok j with
      | true => simpa using hs j _ (by omega) h (ih (j + 1) (by omega))
      | false => simpa using hf j (by omega) h
  have h := this N 0 (by omega)
  rwa [← List.range_eq_range'] at h
/-- The same where all places are as they ought to be, .. -/
theorem ok_loop {α : Type} {g : Nat → Nat → Option α} (N : Nat) (ok : Nat → Bool) {r : α} (h : (List.range N).all ok = true) (hs : ∀ j r, j < N → ok j = true → Ev (fun k => g k (j + 1)) r → Ev (fun k => g k j) r)
    (he : Ev (fun k => g k N) r) : Ev (fun k => g k 0) r :=
  loop N (fun j hj hn => hs j r hj (List.all_eq_true.1 h j (List.mem_range.2 hj)) hn) he
/-- .. and where one isn't: the first that isn't decides. -/
theorem bad_loop {α : Type} {g : Nat → Nat → Option α} (N : Nat) (ok : Nat → Bool) (r : α) (h : ¬ (List.range N).all ok = true) (hs : ∀ j r, j < N → ok j = true → Ev (fun k => g k (j + 1)) r → Ev (fun k => g k j) r)
    (hf : ∀ j, j < N → ok j = false → Ev (fun k => g k j) r) : Ev (fun k => g k 0) r := by
  have : ∀ d j, j + d = N → ¬ (List.range' j d).all ok = true → Ev (fun k => g k j) r := by
    intro d
    induction d with
    | zero => exact fun j _ hn => absurd rfl hn
    | succ d ih =>
      intro j hj hn
      rw [List.range'_succ, List.all_cons] at hn
      cases ho : ok j with
      | true => exact hs j _ (by omega) ho (ih (j + 1) (by omega) (by simpa [ho] using hn))
      | false => exact hf j (by omega) ho
  exact this N 0 (by omega) (by rwa [← List.range_eq_range'])
/-- n numbers from a on. -/
def iota (a : Int) (n : Nat) : List Int := (List.range n).map fun (i : Nat) => a + (i : Int)
theorem iota_length (a : Int) (n : Nat) : (iota a n).length = n := by simp [iota]
theorem iota_get (a : Int) (n j : Nat) (h : j < n) : rd (iota a n) (j : Int) = a + j := by simp [rd, iota, h]
theorem iota_set (a : Int) (l : List Int) (j : Nat) (h : j < l.length) : (iota a j ++ l.drop j).set j (a + j) = iota a (j + 1) ++ l.drop (j + 1) := by
  rw [List.set_append_right _ _ (by rw [iota_length]; exact Nat.le_refl _), iota_length, Nat.sub_self, List.drop_eq_getElem_cons h, List.set_cons_zero]
  have : iota a (j + 1) = iota a j ++ [a + j] := by simp [iota, List.range_succ]
  rw [this]
  simp
end Go.Proofs.Ytmpncnphndafnac.Aid
end

section
namespace Go.Proofs.Ytmpncnphndafnac.Opens
open Go.ChangeShapes Go.WideShapes Go.RowKit Go.Proofs.YtmpncnphndafnacW.PrintWords Go.Proofs.Ytmpncnphndafnac.Aid
set_option linter.unusedVariables false

/-- Whatever can be read as data of type t is of kind kd, and meets WF. -/
def Opens {α : Type} (P : Program) (t : TypeId) (kd : Kd α) (WF : α → Prop) : Prop :=
  P.cellsOf t = kd.sz ∧ ∀ (H : Type) (enc : TypeId × Value → H) (w : World) (base : Nat) (spare : Nat → Bool) (held : Bool) (fuel : Nat) (cs : List Value) (d : DataW H) (ps : List MemPlace),
    DataW.trod enc P w base spare held fuel t cs = some (d, ps) → (∀ n ∈ d.weights P t, n ≤ reachBytes) → ∃ x, kd.K w x cs ∧ WF x

theorem opens_int {P : Program} {t : TypeId} (ht : P.underlying t = some (.int .i64)) (hc : P.cellsOf t = 1) : Opens P t (Kd.int .i64) I64 := by
  refine ⟨hc, fun H enc w base spare held fuel cs d ps h _ => ?_⟩
  obtain ⟨n, rfl, _, hw⟩ := DataW.trod_int ht h
  exact ⟨n, rfl, i64_of hw⟩

/-- The same of bytes. -/
theorem opens_u8 {P : Program} {t : TypeId} (ht : P.underlying t = some (.int .u8)) (hc : P.cellsOf t = 1) : Opens P t (Kd.int .u8) U8 := by
  refine ⟨hc, fun H enc w base spare held fuel cs d ps h _ => ?_⟩
  obtain ⟨n, rfl, _, hw⟩ := DataW.trod_int ht h
  exact ⟨n, rfl, u8_of hw⟩

theorem opens_bool {P : Program} {t : TypeId} (ht : P.underlying t = some .bool) (hc : P.cellsOf t = 1) : Opens P t Kd.bool (fun _ => True) := by
  refine ⟨hc, fun H enc w base spare held fuel cs d ps h _ => ?_⟩
  obtain ⟨b, rfl, _⟩ := DataW.trod_bool ht h
  exact ⟨b, rfl, trivial⟩

theorem weights_elem {H : Type} {P : Program} {e : TypeId} {n : Nat} : ∀ {ds : List (DataW H)} {d : DataW H}, d ∈ ds → n ∈ d.weights P e → n ∈ DataW.weightsAll P e ds
  | [], _, h, _ => by simp at h
  | d0 :: r, d, h, hn => by
    rw [DataW.weightsAll]
    rcases List.mem_cons.1 h with rfl | h
    · exact List.mem_append_left _ hn
    · exact List.mem_append_right _ (weights_elem h hn)

theorem choose_list {α : Type} {n : Nat} {Q : Nat → α → Prop} (h : ∀ i, i < n → ∃ x, Q i x) : ∃ xs : List α, xs.length = n ∧ ∀ i x, xs[i]? = some x → Q i x := by
  induction n with
  | zero => exact ⟨[], rfl, fun i x hx => by simp at hx⟩
  | succ n ih =>
    obtain ⟨xs, hl, hx⟩ := ih (fun i hi => h i (by omega))
    obtain ⟨y, hy⟩ := h n (by omega)
    refine ⟨xs ++ [y], by simp [hl], fun i x hi => ?_⟩
    by_cases hlt : i < n
    · rw [List.getElem?_append_left (by omega)] at hi
      exact hx i x hi
    · have hl2 := (List.getElem?_eq_some_iff.1 hi).1
      simp at hl2
      have : i = n := by omega
      subst this
      rw [List.getElem?_append_right (by omega)] at hi
      simp [hl] at hi
      exact hi ▸ hy

theorem opens_slice {α : Type} {P : Program} {t e : TypeId} {kd : Kd α} {WF : α → Prop} (ht : P.underlying t = some (.slice e)) (hc : P.cellsOf t = 1) {B : Nat} (hB : P.bytesOf e = B) (he : Opens P e kd WF) :
    Opens P t (Kd.slice e kd) (wfS B WF) := by
  subst hB
  refine ⟨hc, fun H enc w base spare held fuel cs d ps h hw => ?_⟩
  rcases DataW.trod_slice ht h with ⟨rfl, _⟩ | ⟨a, len, cap, elems, rest, n, _, rfl, hx, hb, hl, hm, hlen, hel, _, _⟩
  · exact ⟨[], ⟨none, 0, rfl, Nat.le_refl _, ⟨rfl, by simp, fun h => absurd h (by simp)⟩⟩, by simp [maxLen], by simp, by simp⟩
  · simp only [Prod.mk.injEq] at hx
    obtain ⟨rfl, _⟩ := hx
    have each : ∀ i, i < len → ∃ x, (∃ c, c.length = kd.sz ∧ kd.K w x c ∧ ∀ j u, c[j]? = some u → w.cell? (a.add (i * kd.sz + j)) = some u) ∧ WF x := by
      intro i hi
      have h1 := hel i hi
      have h2 : i < elems.length := by omega
      rw [List.getElem?_eq_getElem h2] at h1
      obtain ⟨c, hc1, hc2⟩ := Option.bind_eq_some_iff.1 h1
      obtain ⟨_, hcl, hcc⟩ := World.cells?_some hc1
      obtain ⟨x, hx1, hx2⟩ := he.2 H enc w base spare held n c elems[i].1 elems[i].2 hc2 (fun m hm' => hw m (by
        rw [DataW.weights, ht]
        simp only [List.mem_cons, List.mem_append]
        exact .inr (.inl (weights_elem (List.mem_map.2 ⟨elems[i], List.getElem_mem h2, rfl⟩) hm'))))
      refine ⟨x, ⟨c, by rw [hcl, he.1], hx1, fun j u hj => ?_⟩, hx2⟩
      have hj2 := (List.getElem?_eq_some_iff.1 hj).1
      have := hcc j (by omega)
      rw [hj, he.1] at this
      rw [← this, Addr.add_add]
    obtain ⟨xs, hxl, hxs⟩ := choose_list each
    subst hxl
    refine ⟨xs, ⟨some a, cap, rfl, hl, ⟨rfl, by simp [maxLen] at hm; omega, fun _ => ⟨a, rfl, fun j p hj => ?_⟩⟩⟩, by omega, ?_, fun x hx => ?_⟩
    · exact (hxs j p hj).1
    · have := hw ((elems.length + rest.length) * P.bytesOf e) (by rw [DataW.weights, ht]; simp)
      exact Nat.le_trans (Nat.mul_le_mul_right _ (by omega)) this
    · obtain ⟨i, hi⟩ := List.getElem?_of_mem hx
      exact (hxs i x hi).2

/-- The same of a struct's fields from one on, which begins at cell off. -/
def OpensF {α : Type} (P : Program) (fs : List Field) (off : Nat) (kd : Kd α) (WF : α → Prop) : Prop :=
  ∀ (H : Type) (enc : TypeId × Value → H) (w : World) (base : Nat) (spare : Nat → Bool) (held : Bool) (fuel : Nat) (cs : List Value) (ys : List (DataW H × List MemPlace)),
    cs.length = off + kd.sz → ys.length = fs.length → (∀ (i : Nat) (f : Field), fs[i]? = some f → DataW.trod enc P w base spare held fuel f.type ((cs.drop f.offset).take (P.cellsOf f.type)) = ys[i]?) →
    (∀ n ∈ DataW.weightsEach P (fs.map (·.type)) (ys.map (·.1)), n ≤ reachBytes) → ∃ x, kd.K w x (cs.drop off) ∧ WF x

theorem opensF_last {α : Type} {P : Program} {f : Field} {off : Nat} {kd : Kd α} {WF : α → Prop} (ho : f.offset = off) (h : Opens P f.type kd WF) : OpensF P [f] off kd WF := by
  intro H enc w base spare held fuel cs ys hcs hys hf hw
  match ys, hys with
  | [y], _ =>
    have h1 := hf 0 f rfl
    rw [ho, h.1, List.take_of_length_le (by simp; omega)] at h1
    exact h.2 H enc w base spare held fuel _ y.1 y.2 h1 (fun n hn => hw n (by simp [DataW.weightsEach, hn]))

theorem opensF_cons {α β : Type} {P : Program} {f : Field} {fs : List Field} {off : Nat} {kd : Kd α} {kr : Kd β} {WF : α → Prop} {WR : β → Prop} (ho : f.offset = off) (h : Opens P f.type kd WF)
    (hr : OpensF P fs (off + kd.sz) kr WR) : OpensF P (f :: fs) off (Kd.pair kd kr) (fun x => WF x.1 ∧ WR x.2) := by
  intro H enc w base spare held fuel cs ys hcs hys hf hw
  match ys, hys with
  | y :: ys, hys =>
    have h1 := hf 0 f rfl
    rw [ho, h.1] at h1
    obtain ⟨x, hx1, hx2⟩ := h.2 H enc w base spare held fuel _ y.1 y.2 h1 (fun n hn => hw n (by simp [DataW.weightsEach, hn]))
    have hs : (Kd.pair kd kr).sz = kd.sz + kr.sz := rfl
    obtain ⟨z, hz1, hz2⟩ := hr H enc w base spare held fuel cs ys (by omega) (by simpa using hys) (fun i g hg => hf (i + 1) g hg) (fun n hn => hw n (by simp [DataW.weightsEach]; exact .inr (by simpa using hn)))
    refine ⟨(x, z), ⟨_, _, ?_, hx1, hz1⟩, hx2, hz2⟩
    rw [← List.drop_drop, List.take_append_drop]

theorem opens_struct {α β : Type} {P : Program} {t : TypeId} {fs : Array Field} {kd : Kd α} {WF : α → Prop} (f : β → α) (g : α → β) (hg : ∀ x, f (g x) = x) (ht : P.underlying t = some (.struct fs)) (hc : P.cellsOf t = kd.sz)
    (h : OpensF P fs.toList 0 kd WF) : Opens P t (Kd.iso kd f) (fun x => WF (f x)) := by
  refine ⟨hc, fun H enc w base spare held fuel cs d ps hd hw => ?_⟩
  obtain ⟨xs, n, _, hx, hl, hxl, hf⟩ := DataW.trod_struct ht hd
  simp only [Prod.mk.injEq] at hx
  obtain ⟨rfl, _⟩ := hx
  obtain ⟨y, hy1, hy2⟩ := h H enc w base spare held n cs xs (by omega) (by simpa using hxl) (fun i f' hf' => hf i f' (by simpa using hf')) (fun m hm => hw m (by rw [DataW.weights, ht]; simpa using hm))
  refine ⟨g y, ?_, ?_⟩
  · show kd.K w (f (g y)) cs
    rw [hg]
    simpa using hy1
  · show WF (f (g y))
    rw [hg]
    exact hy2

/-- An argument, opened. -/
theorem opens_arg {α : Type} {H : Type} {enc : TypeId × Value → H} {P : Program} {w : World} {base : Nat} {spare : Nat → Bool} {held : Bool} {t : TypeId} {v : Value} {kd : Kd α} {WF : α → Prop} {d : DataW H} {ps : List MemPlace} (h : Opens P t kd WF)
    {ts : List TypeId} {ds : List (DataW H)} {j : Nat} (hsz : (DataW.weightsEach P ts ds).all (· ≤ reachBytes) = true) (ht : ts[j]? = some t) (hd : ds[j]? = some d) (hv : DataW.Trod enc P w base spare held t v d ps) :
    ∃ x, kd.K w x v.cells.toList ∧ WF x := by
  obtain ⟨fuel, hf⟩ := hv
  refine h.2 H enc w base spare held fuel _ d ps hf (fun n hn => ?_)
  have := List.all_eq_true.1 hsz n (DataW.weights_mem_each ht hd n hn)
  simpa using this

/-- A slice argument: its address, its capacity, its row. -/
theorem opens_row {α : Type} {P : Program} {w : World} {t e : TypeId} {r : Reach} {b0 : Nat} {v : Value} {kd : Kd α} {x : List α} (ht : P.underlying t = some (.slice e)) (hval : Value.okWide P w r b0 t v) (h : (Kd.slice e kd).K w x v.cells.toList) :
    ∃ A c, v = .slice A x.length c ∧ x.length ≤ c ∧ Kd.C kd w A x.length x := by
  obtain ⟨a, len, cap, rfl⟩ := okWide_slice ht hval
  obtain ⟨A, c, hv, hl, hC⟩ := h
  simp [Value.cells] at hv
  obtain ⟨rfl, rfl, rfl⟩ := hv
  exact ⟨_, _, rfl, hl, hC⟩

/-- A struct argument by value: its cells. -/
theorem opens_agg {P : Program} {w : World} {t : TypeId} {fs : Array Field} {r : Reach} {b0 : Nat} {v : Value} {cs : List Value} (ht : P.underlying t = some (.struct fs)) (hval : Value.okWide P w r b0 t v) (h : v.cells.toList = cs) :
    v = .agg cs.toArray := by
  obtain ⟨c, rfl, _⟩ := okWide_struct ht hval
  simp [Value.cells] at h
  simp [← h]

end Go.Proofs.Ytmpncnphndafnac.Opens
end

section
namespace Go.Proofs.Ytmpncnphndafnac.PureFnExactIsSafeHistory
open Go.RowKit Go.Proofs.YtmpncnphndafnacW.PrintWords Go.Proofs.YtmpncnphndafnacW.PrintLast Go.Proofs.YtmpncnphndafnacW.PrintMore Go.Proofs.Ytmpncnphndafnac.PSaf Go.Proofs.Ytmpncnphndafnac.Aid
set_option linter.unusedVariables false
set_option linter.unusedSimpArgs false

/-- Every number of it is one of Go's int, every slice within the reach. -/
def wf105 (x : S105) : Prop := I64 x.f0 ∧ I64 x.f1 ∧ I64 x.f2 ∧ I64 x.f3

theorem laws_szPathS_eq (l : List S105) (a : Int) (ha : 0 ≤ a) (ha2 : a ≤ 1048576) (hl : l.length ≤ 140737488355328) : ∃ r, laws_szPathS.f l a = some r ∧ r ≤ a ∧ (¬ r < 0 → l.length ≤ 1048576) := by
  unfold laws_szPathS.f
  rw [w64 (by omega) (by omega)]
  by_cases h : a - (l.length : Int) < 0
  · exact ⟨-1, by rw [if_pos h], by omega, by omega⟩
  · exact ⟨_, by rw [if_neg h], by omega, by omega⟩

def cPath (x : S105) : S103 := ⟨x.f0, x.f1, x.f2, x.f3⟩
theorem laws_toPathS_ev (l : List S105) (hl : l.length ≤ 1048576) : Ev (fun k => laws_toPathS.f k l) (l.map cPath) := by
  unfold laws_toPathS.f
  refine pos (by omega) (pos (by omega) ?_)
  exact copied (g := fun k y i => laws_toPathS.l0 k l y i) l cPath z103 (fun j hj y r hy h => by
    refine shift ?_
    simp only [laws_toPathS.l0]
    refine pos (nat_lt hj) (pos (by omega) (bindc rfl (pos (by omega) ?_)))
    rw [succ_wrap (by omega)]
    simpa [rd_T105, cPath, hj] using h) (fun y => by
    refine shift ?_
    simp only [laws_toPathS.l0]
    exact neg (nat_ge (Nat.le_refl _)) (now rfl))

theorem laws_eqPathS_refl (l : List S103) (hl : l.length < 9223372036854775807) : Ev (fun k => laws_eqPathS.f k l l) true := by
  unfold laws_eqPathS.f
  refine pos rfl (loop (g := fun k j => laws_eqPathS.l0 k l l (j : Int)) l.length ?_ ?_)
  · intro j hj h
    refine shift ?_
    simp only [laws_eqPathS.l0]
    refine pos (nat_lt hj) (pos (by omega) (pos (nat_lt hj) (bindc (a := true) (by simp [laws_eqPath.f]) (pos (by simp) ?_))))
    rw [succ_wrap (by omega)]
    exact h
  · refine shift ?_
    simp only [laws_eqPathS.l0]
    exact neg (nat_ge (Nat.le_refl _)) (now rfl)

theorem laws_szIntS_eq (l : List Int) (a : Int) (ha : 0 ≤ a) (ha2 : a ≤ 1048576) (hl : l.length ≤ 140737488355328) : ∃ r, laws_szIntS.f l a = some r ∧ r ≤ a ∧ (¬ r < 0 → l.length ≤ 1048576) := by
  unfold laws_szIntS.f
  rw [w64 (by omega) (by omega)]
  by_cases h : a - (l.length : Int) < 0
  · exact ⟨-1, by rw [if_pos h], by omega, by omega⟩
  · exact ⟨_, by rw [if_neg h], by omega, by omega⟩

theorem laws_szIntSS_ev (l : List (List Int)) (a : Int) (ha : 0 ≤ a) (ha2 : a ≤ 1048576) (hl : l.length ≤ 140737488355328) (he : ∀ x ∈ l, x.length ≤ 140737488355328) :
    ∃ r, Ev (fun k => laws_szIntSS.f k l a) r ∧ r ≤ a ∧ (¬ r < 0 → l.length ≤ 1048576 ∧ ∀ x ∈ l, x.length ≤ 1048576) := by
  unfold laws_szIntSS.f
  rw [w64 (by omega) (by omega)]
  by_cases h : a - (l.length : Int) < 0
  · exact ⟨-1, pos h (now rfl), by omega, by omega⟩
  · have main : ∀ (d j : Nat) (b : Int), j + d = l.length → 0 ≤ b → b ≤ 1048576 → ∃ r, Ev (fun k => laws_szIntSS.l0 k l b (j : Int)) r ∧ r ≤ b ∧ (¬ r < 0 → ∀ i (hi : i < l.length), j ≤ i → l[i].length ≤ 1048576) := by
      intro d
      induction d with
      | zero =>
        intro j b hj hb hb2
        refine ⟨b, shift ?_, by omega, fun _ i hi hji => by omega⟩
        simp only [laws_szIntSS.l0]
        exact neg (by omega) (now rfl)
      | succ d ih =>
        intro j b hj hb hb2
        have hjl : j < l.length := by omega
        have hg : rd_L3 l (j : Int) = l[j] := by simp [rd_L3, hjl]
        obtain ⟨r, hr, hra, hrl⟩ := laws_szIntS_eq l[j] b hb hb2 (he _ (List.getElem_mem hjl))
        by_cases hneg : r < 0
        · refine ⟨-1, shift ?_, by omega, by omega⟩
          simp only [laws_szIntSS.l0]
          refine pos (nat_lt hjl) (pos (by omega) ?_)
          rw [hg]
          exact bindc hr (pos hneg (now rfl))
        · obtain ⟨r2, h1, h2, h3⟩ := ih (j + 1) r (by omega) (by omega) (by omega)
          refine ⟨r2, shift ?_, by omega, fun hn i hi hji => ?_⟩
          · simp only [laws_szIntSS.l0]
            refine pos (nat_lt hjl) (pos (by omega) ?_)
            rw [hg, succ_wrap (by omega)]
            exact bindc hr (neg hneg h1)
          · by_cases e : i = j
            · subst e
              exact hrl hneg
            · exact h3 hn i hi (by omega)
    obtain ⟨r, h1, h2, h3⟩ := main l.length 0 (a - (l.length : Int)) (by omega) (by omega) (by omega)
    refine ⟨r, neg h (by simpa using h1), by omega, fun hn => ⟨by omega, fun x hx => ?_⟩⟩
    obtain ⟨i, hi, rfl⟩ := List.getElem_of_mem hx
    exact h3 hn i hi (by omega)

theorem spec_l1In_eq (a b c : Int) : spec_l1In.f a b c = some (decide (b ≤ a ∧ a ≤ c)) := by
  unfold spec_l1In.f
  by_cases h : b ≤ a
  · rw [if_pos h]
    simp [h]
  · rw [if_neg h]
    simp [h]

/-- A path's number, kind, and ends are in their ranges, and it crosses on foot just where its ends are the same. -/
def isPath (a b c d : Int) : Bool := decide (1 ≤ a ∧ a ≤ 20) && (decide (1 ≤ b ∧ b ≤ 3) && (decide (0 ≤ c ∧ c ≤ 3) && (decide (0 ≤ d ∧ d ≤ 3) && ((c == d) == (b == 2)))))
theorem spec_IsPath_eq (a b c d : Int) : spec_IsPath.f a b c d = some (isPath a b c d) := by
  unfold spec_IsPath.f isPath
  simp only [spec_l1In_eq, Option.bind_some]
  by_cases h1 : 1 ≤ a ∧ a ≤ 20 <;> by_cases h2 : 1 ≤ b ∧ b ≤ 3 <;> by_cases h3 : 0 ≤ c ∧ c ≤ 3 <;> by_cases h4 : 0 ≤ d ∧ d ≤ 3 <;> simp [h1, h2, h3, h4]

def pathAt (l : List S103) (j : Nat) : Bool := isPath (rd_T103 l j).f0 (rd_T103 l j).f1 (rd_T103 l j).f2 (rd_T103 l j).f3 && decide (0 < j → (rd_T103 l ((j : Int) - 1)).f0 < (rd_T103 l j).f0)
def arePaths (l : List S103) : Bool := (List.range l.length).all (pathAt l) && decide (l.length ≤ 12)
theorem spec_ArePaths_ev (l : List S103) (hl : l.length ≤ 9223372036854775806) : Ev (fun k => spec_ArePaths.f k l) (arePaths l) := by
  unfold spec_ArePaths.f arePaths
  refine all_loop (g := fun k j => spec_ArePaths.l0 k l (j : Int)) l.length (pathAt l) _ ?_ ?_ ?_
  · intro j r hj ok h
    simp only [pathAt, Bool.and_eq_true, decide_eq_true_eq] at ok
    refine shift ?_
    simp only [spec_ArePaths.l0]
    refine pos (nat_lt hj) (pos (by omega) (bindc (spec_IsPath_eq _ _ _ _) (pos ok.1 ?_)))
    rw [succ_wrap (by omega)]
    by_cases h0 : (j : Int) > 0
    · rw [w64 (by omega) (by omega)]
      exact pos h0 (pos (by omega) (pos (by omega) (neg (by have := ok.2 (by omega); omega) h)))
    · exact neg h0 h
  · intro j hj ok
    refine shift ?_
    simp only [spec_ArePaths.l0]
    refine pos (nat_lt hj) (pos (by omega) (bindc (spec_IsPath_eq _ _ _ _) ?_))
    by_cases h1 : isPath (rd_T103 l j).f0 (rd_T103 l j).f1 (rd_T103 l j).f2 (rd_T103 l j).f3 = true
    · refine pos h1 ?_
      have h2 : ¬ (0 < j → (rd_T103 l ((j : Int) - 1)).f0 < (rd_T103 l j).f0) := by simpa [pathAt, h1] using ok
      rw [w64 (x := (j : Int) - 1) (by omega) (by omega)]
      exact pos (by omega) (pos (by omega) (pos (by omega) (pos (by omega) (now rfl))))
    · exact neg h1 (now rfl)
  · refine shift ?_
    simp only [spec_ArePaths.l0]
    refine neg (nat_ge (Nat.le_refl _)) (now ?_)
    exact decide_eq_decide.2 (by omega)

/-- The two ways cross: one's places lie on both sides of the other's. -/
def interB (a b c d : Int) : Bool := (decide (Int.tmod (c - a + 8) 8 < Int.tmod (b - a + 8) 8)) != (decide (Int.tmod (d - a + 8) 8 < Int.tmod (b - a + 8) 8))
theorem four_of {a : Int} (h : 0 ≤ a ∧ a ≤ 3) : a = 0 ∨ a = 1 ∨ a = 2 ∨ a = 3 := by omega
set_option maxRecDepth 10000 in
theorem spec_Interleave_ev (a b c d : Int) (ha : 0 ≤ a ∧ a ≤ 3) (hb : 0 ≤ b ∧ b ≤ 3) (hc : 0 ≤ c ∧ c ≤ 3) (hd : 0 ≤ d ∧ d ≤ 3) (hac : a ≠ c) (hbd : b ≠ d) : Ev (fun k => spec_Interleave.f k (2 * a) (2 * b + 1) (2 * c) (2 * d + 1)) (interB (2 * a) (2 * b + 1) (2 * c) (2 * d + 1)) := by
  refine ⟨40, fun k hk => ?_⟩
  obtain ⟨m, rfl⟩ := Nat.exists_eq_add_of_le' hk
  rcases four_of ha with rfl | rfl | rfl | rfl <;> rcases four_of hb with rfl | rfl | rfl | rfl <;> rcases four_of hc with rfl | rfl | rfl | rfl <;> rcases four_of hd with rfl | rfl | rfl | rfl <;> first | exact absurd rfl hac | exact absurd rfl hbd | (show spec_Interleave.f (m + 40) _ _ _ _ = some _; kernel_rfl)

theorem spec_InPlace_eq (a : Int) (h : 0 ≤ a ∧ a ≤ 3) : spec_InPlace.f a = some (2 * a) := by
  unfold spec_InPlace.f
  rw [spec_l1In_eq, Option.bind_some, if_pos (by simpa using h), w64 (by omega) (by omega)]

theorem spec_OutPlace_eq (a : Int) (h : 0 ≤ a ∧ a ≤ 3) : spec_OutPlace.f a = some (2 * a + 1) := by
  unfold spec_OutPlace.f
  rw [spec_l1In_eq, Option.bind_some, if_pos (by simpa using h), w64 (x := 2 * a) (by omega) (by omega), w64 (by omega) (by omega)]

theorem isPath_iff (a b c d : Int) : isPath a b c d = true ↔ (1 ≤ a ∧ a ≤ 20) ∧ (1 ≤ b ∧ b ≤ 3) ∧ (0 ≤ c ∧ c ≤ 3) ∧ (0 ≤ d ∧ d ≤ 3) ∧ ((c == d) == (b == 2)) = true := by simp only [isPath, Bool.and_eq_true, decide_eq_true_eq]
def confl (a1 a2 a3 b1 b2 b3 : Int) : Bool := if a1 = 2 then (b2 == a2 || b3 == a2) else if b1 = 2 then (a2 == b2 || a3 == b2) else if a2 = b2 then false else if a3 = b3 then true else interB (2 * a2) (2 * a3 + 1) (2 * b2) (2 * b3 + 1)
def conflict (a0 a1 a2 a3 b0 b1 b2 b3 : Int) : Bool := if isPath a0 a1 a2 a3 = true ∧ isPath b0 b1 b2 b3 = true ∧ ¬ (a1 = 2 ∧ b1 = 2) then confl a1 a2 a3 b1 b2 b3 else false
theorem spec_Conflict_ev (a0 a1 a2 a3 b0 b1 b2 b3 : Int) : Ev (fun k => spec_Conflict.f k a0 a1 a2 a3 b0 b1 b2 b3) (conflict a0 a1 a2 a3 b0 b1 b2 b3) := by
  have yes : Ev (fun k => spec_Conflict.j0 k true a0 a1 a2 a3 b0 b1 b2 b3) false := by
    refine shift ?_
    simp only [spec_Conflict.j0]
    exact pos trivial (now rfl)
  have no : isPath a0 a1 a2 a3 = true → isPath b0 b1 b2 b3 = true → Ev (fun k => spec_Conflict.j0 k false a0 a1 a2 a3 b0 b1 b2 b3) (confl a1 a2 a3 b1 b2 b3) := by
    intro h1 h2
    have h1 := (isPath_iff _ _ _ _).1 h1
    have h2 := (isPath_iff _ _ _ _).1 h2
    refine shift ?_
    simp only [spec_Conflict.j0]
    refine neg (by simp) ?_
    unfold confl
    by_cases c1 : a1 = 2
    · rw [if_pos c1]
      refine pos c1 ?_
      by_cases c2 : b2 = a2
      · exact pos c2 (now (by simp [c2]))
      · exact neg c2 (now (by simp [c2]))
    · rw [if_neg c1]
      refine neg c1 ?_
      by_cases c2 : b1 = 2
      · rw [if_pos c2]
        refine pos c2 ?_
        by_cases c3 : a2 = b2
        · exact pos c3 (now (by simp [c3]))
        · exact neg c3 (now (by simp [c3]))
      · rw [if_neg c2]
        refine neg c2 ?_
        by_cases c3 : a2 = b2
        · rw [if_pos c3]
          exact pos c3 (now rfl)
        · rw [if_neg c3]
          refine neg c3 ?_
          by_cases c4 : a3 = b3
          · rw [if_pos c4]
            exact pos c4 (now rfl)
          · rw [if_neg c4]
            exact neg c4 (bindc (spec_InPlace_eq _ h1.2.2.1) (bindc (spec_OutPlace_eq _ h1.2.2.2.1) (bindc (spec_InPlace_eq _ h2.2.2.1) (bindc (spec_OutPlace_eq _ h2.2.2.2.1) (Ev.bind (spec_Interleave_ev _ _ _ _ h1.2.2.1 h1.2.2.2.1 h2.2.2.1 h2.2.2.2.1 c3 c4) (now rfl))))))
  unfold spec_Conflict.f conflict
  refine bindc (spec_IsPath_eq _ _ _ _) ?_
  by_cases h1 : isPath a0 a1 a2 a3 = true
  · refine pos h1 (bindc (spec_IsPath_eq _ _ _ _) ?_)
    by_cases h2 : isPath b0 b1 b2 b3 = true
    · refine pos h2 ?_
      by_cases c1 : a1 = 2
      · refine pos c1 ?_
        by_cases c2 : b1 = 2
        · rw [if_neg (fun g => g.2.2 ⟨c1, c2⟩), show (b1 == 2) = true by simp [c2]]
          exact yes
        · rw [if_pos ⟨h1, h2, fun g => c2 g.2⟩, show (b1 == 2) = false by simp [c2]]
          exact no h1 h2
      · rw [if_pos ⟨h1, h2, fun g => c1 g.1⟩]
        exact neg c1 (no h1 h2)
    · rw [if_neg (fun g => h2 g.2.1)]
      exact neg h2 yes
  · rw [if_neg (fun g => h1 g.1)]
    exact neg h1 yes

def confAt (ps : List S103) (i j : Nat) : Bool := conflict (rd_T103 ps i).f0 (rd_T103 ps i).f1 (rd_T103 ps i).f2 (rd_T103 ps i).f3 (rd_T103 ps j).f0 (rd_T103 ps j).f1 (rd_T103 ps j).f2 (rd_T103 ps j).f3
def pairOk (ps : List S103) (row : List Int) (i j : Nat) : Bool := decide (rd row i = 0 ∨ rd row j = 0 ∨ confAt ps i j = false)
def lightAt (ps : List S103) (row : List Int) (i : Nat) : Bool := decide (0 ≤ rd row i ∧ rd row i ≤ 2) && (List.range i).all (pairOk ps row i)
def lightsOk (ps : List S103) (row : List Int) : Bool := arePaths ps && (decide (row.length = ps.length) && (List.range ps.length).all (lightAt ps row))
theorem lightsOk_iff (ps : List S103) (row : List Int) : lightsOk ps row = true ↔ arePaths ps = true ∧ row.length = ps.length ∧ (List.range ps.length).all (lightAt ps row) = true := by simp only [lightsOk, Bool.and_eq_true, decide_eq_true_eq]
theorem spec_IsSafeLights_ev (ps : List S103) (row : List Int) (hp : ps.length ≤ 1048576) : Ev (fun k => spec_IsSafeLights.f k ps row) (lightsOk ps row) := by
  unfold spec_IsSafeLights.f lightsOk
  have yes : Ev (fun k => spec_IsSafeLights.j0 k ps row true) false := by
    refine shift ?_
    simp only [spec_IsSafeLights.j0]
    exact pos trivial (now rfl)
  refine Ev.bind (spec_ArePaths_ev ps (by omega)) ?_
  by_cases h : arePaths ps = true
  · rw [h, Bool.true_and]
    refine pos rfl ?_
    by_cases hl : row.length = ps.length
    · rw [decide_eq_true hl, Bool.true_and, show ((row.length : Int) != (ps.length : Int)) = false by simp [hl]]
      refine shift ?_
      simp only [spec_IsSafeLights.j0]
      refine neg (by simp) ?_
      have good : ∀ (i j : Nat) (r : Bool), i < ps.length → j < i → pairOk ps row i j = true → Ev (fun k => spec_IsSafeLights.l1 k ps row (i : Int) ((j + 1 : Nat) : Int)) r → Ev (fun k => spec_IsSafeLights.l1 k ps row (i : Int) (j : Int)) r := by
        intro i j r hi hj ok hh
        simp only [pairOk, decide_eq_true_eq] at ok
        refine shift ?_
        simp only [spec_IsSafeLights.l1]
        rw [succ_wrap (by omega)]
        refine pos (nat_lt hj) (pos (by omega) (pos (by omega) ?_))
        by_cases c1 : rd row (i : Int) = 0
        · exact pos c1 hh
        · refine neg c1 (pos (by omega) (pos (by omega) ?_))
          by_cases c2 : rd row (j : Int) = 0
          · exact pos c2 hh
          · have c3 : confAt ps i j = false := by rcases ok with g | g | g; exact absurd g c1; exact absurd g c2; exact g
            refine neg c2 (pos (by omega) (pos (by omega) (Ev.bind (spec_Conflict_ev _ _ _ _ _ _ _ _) (neg ?_ hh))))
            show ¬ confAt ps i j = true
            simp [c3]
      have bad : ∀ (i j : Nat), i < ps.length → j < i → pairOk ps row i j = false → Ev (fun k => spec_IsSafeLights.l1 k ps row (i : Int) (j : Int)) false := by
        intro i j hi hj ok
        have ok : ¬ pairOk ps row i j = true := by simp [ok]
        simp only [pairOk, decide_eq_true_eq, not_or, Bool.not_eq_false] at ok
        refine shift ?_
        simp only [spec_IsSafeLights.l1]
        exact pos (nat_lt hj) (pos (by omega) (pos (by omega) (neg ok.1 (pos (by omega) (pos (by omega) (neg ok.2.1 (pos (by omega) (pos (by omega) (Ev.bind (spec_Conflict_ev _ _ _ _ _ _ _ _) (pos ok.2.2 (now rfl)))))))))))
      refine all_loop (g := fun k i => spec_IsSafeLights.l0 k ps row (i : Int)) ps.length (lightAt ps row) true ?_ ?_ ?_ |> (fun h => by simpa using h)
      · intro i r hi ok hh
        simp only [lightAt, Bool.and_eq_true, decide_eq_true_eq] at ok
        refine shift ?_
        simp only [spec_IsSafeLights.l0]
        refine pos (nat_lt hi) (pos (by omega) (pos (by omega) (bindc (spec_l1In_eq _ _ _) (pos (by simp; omega) ?_))))
        refine ok_loop (g := fun k j => spec_IsSafeLights.l1 k ps row (i : Int) (j : Int)) _ _ ok.2 (fun j r hj o g => good i j r hi hj o g) ?_
        refine shift ?_
        simp only [spec_IsSafeLights.l1]
        refine neg (nat_ge (Nat.le_refl _)) ?_
        rw [succ_wrap (by omega)]
        exact hh
      · intro i hi ok
        refine shift ?_
        simp only [spec_IsSafeLights.l0]
        refine pos (nat_lt hi) (pos (by omega) (pos (by omega) (bindc (spec_l1In_eq _ _ _) ?_)))
        by_cases c : 0 ≤ rd row (i : Int) ∧ rd row (i : Int) ≤ 2
        · have h2 : ¬ (List.range i).all (pairOk ps row i) = true := by
            intro h2
            rw [lightAt, h2, decide_eq_true c] at ok
            exact absurd ok (by decide)
          exact pos (by simpa using c) (bad_loop (g := fun k j => spec_IsSafeLights.l1 k ps row (i : Int) (j : Int)) _ _ _ h2 (fun j r hj o g => good i j r hi hj o g) (fun j hj o => bad i j hi hj o))
        · exact neg (by simpa using c) (now rfl)
      · refine shift ?_
        simp only [spec_IsSafeLights.l0]
        exact neg (nat_ge (Nat.le_refl _)) (now rfl)
    · rw [decide_eq_false hl, Bool.false_and, show ((row.length : Int) != (ps.length : Int)) = true by simp; omega]
      exact yes
  · exact neg h (same yes (by simp [h]))

def clearOf (a b c d : Int) : Int := if isPath a b c d = true then (if b = 1 then 2 else if b = 3 then 3 else 5) else 0
theorem clearOf_le (a b c d : Int) : clearOf a b c d ≤ 5 := by
  unfold clearOf
  split
  · split
    · omega
    · split <;> omega
  · omega
theorem spec_ClearOf_eq (a b c d : Int) : spec_ClearOf.f a b c d = some (clearOf a b c d) := by
  unfold spec_ClearOf.f clearOf
  rw [spec_IsPath_eq, Option.bind_some]
  by_cases h : isPath a b c d = true
  · rw [if_pos h, if_pos h, Option.bind_some]
    have hb : 1 ≤ b ∧ b ≤ 3 := by
      have := h
      simp only [isPath, Bool.and_eq_true, decide_eq_true_eq] at this
      exact this.2.1
    have : b = 1 ∨ b = 2 ∨ b = 3 := by omega
    rcases this with rfl | rfl | rfl <;> rfl
  · rw [if_neg h, if_neg h]

def rowAt (rows : List (List Int)) (t : Int) : List Int := rd_L3 rows t
/-- Light i turns green at t. -/
def startAt (rows : List (List Int)) (t i : Nat) : Bool := decide (rd (rowAt rows t) i = 1 ∧ ¬ (0 < t ∧ rd (rowAt rows ((t : Int) - 1)) i = 1))
/-- Path j has been clear long enough for path i. -/
def clearAt (ps : List S103) (t : Nat) (last : List Int) (i j : Nat) : Bool := decide (confAt ps i j = true → 0 ≤ rd last j → ¬ wrap64 ((t : Int) - rd last j) ≤ clearOf (rd_T103 ps j).f0 (rd_T103 ps j).f1 (rd_T103 ps j).f2 (rd_T103 ps j).f3)
def wayOk (ps : List S103) (rows : List (List Int)) (t : Nat) (last : List Int) (i : Nat) : Bool := !startAt rows t i || (List.range ps.length).all (clearAt ps t last i)
def stepOk (ps : List S103) (rows : List (List Int)) (t : Nat) (last : List Int) : Bool := (List.range ps.length).all (wayOk ps rows t last)
def updN (row : List Int) (t : Nat) (last : List Int) : Nat → List Int
  | 0 => last
  | i + 1 => if rd row i = 1 then (updN row t last i).set i (t : Int) else updN row t last i
def hist (ps : List S103) (rows : List (List Int)) : Nat → Nat → List Int → Bool
  | 0, _, _ => true
  | d + 1, t, last => lightsOk ps (rowAt rows t) && (stepOk ps rows t last && hist ps rows d (t + 1) (updN (rowAt rows t) t last ps.length))
theorem updN_length (row : List Int) (t : Nat) (last : List Int) : ∀ i, (updN row t last i).length = last.length
  | 0 => rfl
  | i + 1 => by
    rw [updN]
    split
    · rw [List.length_set, updN_length row t last i]
    · exact updN_length row t last i
theorem rd_set (l : List Int) (i j : Nat) (v : Int) (hi : i < l.length) : rd (l.set i v) (j : Int) = if i = j then v else rd l j := by
  simp only [rd, Int.toNat_natCast, List.getD_eq_getElem?_getD, List.getElem?_set]
  by_cases h : i = j
  · subst h
    simp [hi]
  · simp [h]
def fS (x : Int) : Int := if 0 ≤ x then x else -1000
def relS (n : Nat) (last lastS : List Int) : Prop := last.length = n ∧ lastS.length = n ∧ ∀ j : Nat, j < n → rd lastS j = fS (rd last j)
theorem upd_rel {n : Nat} {a b : List Int} (h : relS n a b) (row : List Int) (t : Nat) : ∀ i, i ≤ n → relS n (updN row t a i) (updN row t b i)
  | 0, _ => h
  | i + 1, hi => by
    have ih := upd_rel h row t i (by omega)
    rw [updN, updN]
    by_cases c : rd row i = 1
    · rw [if_pos c, if_pos c]
      refine ⟨by rw [List.length_set]; exact ih.1, by rw [List.length_set]; exact ih.2.1, fun j hj => ?_⟩
      rw [rd_set _ _ _ _ (by rw [ih.2.1]; omega), rd_set _ _ _ _ (by rw [ih.1]; omega)]
      by_cases e : i = j
      · rw [if_pos e, if_pos e, fS, if_pos (by omega)]
      · rw [if_neg e, if_neg e]
        exact ih.2.2 j hj
    · rw [if_neg c, if_neg c]
      exact ih
theorem spec_hist (ps : List S103) (rows : List (List Int)) (hp : ps.length ≤ 1048576) (hl : rows.length ≤ 1048576) : ∀ d t, t + d = rows.length → ∀ (last lastS : List Int), relS ps.length last lastS → (0 < t → (rowAt rows ((t : Int) - 1)).length = ps.length) → Ev (fun k => spec_IsSafeHistory.l1 k ps rows lastS (t : Int)) (hist ps rows d t last && arePaths ps) := by
  intro d
  induction d with
  | zero =>
    intro t ht last lastS hr hprev
    refine shift ?_
    simp only [spec_IsSafeHistory.l1]
    exact neg (by omega) (Ev.bind (spec_ArePaths_ev ps (by omega)) (now (by rw [hist, Bool.true_and])))
  | succ d ih =>
    intro t ht last lastS hr hprev
    have htl : t < rows.length := by omega
    refine shift ?_
    simp only [spec_IsSafeHistory.l1]
    refine pos (nat_lt htl) (pos (by omega) (Ev.bind (spec_IsSafeLights_ev ps (rowAt rows t) hp) ?_))
    rw [hist]
    by_cases hlo : lightsOk ps (rowAt rows t) = true
    · rw [hlo, Bool.true_and]
      obtain ⟨hap, hrl, _⟩ := (lightsOk_iff _ _).1 hlo
      refine pos rfl ?_
      have head : ∀ (i : Nat) (r : Bool), i < ps.length → Ev (fun k => spec_IsSafeHistory.j3 k ps rows lastS (t : Int) (i : Int) (!startAt rows t i)) r → Ev (fun k => spec_IsSafeHistory.l2 k ps rows lastS (t : Int) (i : Int)) r := by
        intro i r hi hh
        refine shift ?_
        simp only [spec_IsSafeHistory.l2]
        refine pos (nat_lt hi) (pos (by omega) (pos (nat_lt htl) (pos (by omega) (pos (by show (i : Int) < ((rowAt rows t).length : Int); omega) ?_))))
        by_cases c1 : rd (rowAt rows t) (i : Int) = 1
        · refine pos c1 ?_
          by_cases c2 : (t : Int) > 0
          · rw [w64 (x := (t : Int) - 1) (by omega) (by omega)]
            have := hprev (by omega)
            refine pos c2 (pos (by omega) (pos (by omega) (pos (by show (i : Int) < ((rowAt rows ((t : Int) - 1)).length : Int); omega) ?_)))
            have e : (rd (rowAt rows ((t : Int) - 1)) (i : Int) == 1) = (!startAt rows t i) := by
              by_cases c3 : rd (rowAt rows ((t : Int) - 1)) (i : Int) = 1
              · have e2 : startAt rows t i = false := decide_eq_false (fun g => g.2 ⟨by omega, c3⟩)
                rw [e2, c3]
                rfl
              · have e2 : startAt rows t i = true := decide_eq_true ⟨c1, fun g => c3 g.2⟩
                rw [e2]
                simpa using c3
            rw [← e] at hh
            exact hh
          · have e : (!startAt rows t i) = false := by simp only [startAt]; rw [decide_eq_true ⟨c1, fun g => c2 (by omega)⟩]; rfl
            rw [e] at hh
            exact neg c2 hh
        · have e : (!startAt rows t i) = true := by simp only [startAt]; rw [decide_eq_false (fun g => c1 g.1)]; rfl
          rw [e] at hh
          exact neg c1 hh
      have good : ∀ (i j : Nat) (r : Bool), i < ps.length → j < ps.length → clearAt ps t last i j = true → Ev (fun k => spec_IsSafeHistory.l3 k ps rows lastS (t : Int) (i : Int) ((j + 1 : Nat) : Int)) r → Ev (fun k => spec_IsSafeHistory.l3 k ps rows lastS (t : Int) (i : Int) (j : Int)) r := by
        intro i j r hi hj ok hh
        simp only [clearAt, decide_eq_true_eq] at ok
        refine shift ?_
        simp only [spec_IsSafeHistory.l3]
        rw [succ_wrap (by omega), hr.2.2 j hj]
        refine pos (nat_lt hj) (pos (by omega) (pos (nat_lt hi) (pos (by omega) (Ev.bind (spec_Conflict_ev _ _ _ _ _ _ _ _) ?_))))
        by_cases c : confAt ps i j = true
        · refine pos c (pos (by rw [hr.2.1]; omega) (bindc (spec_ClearOf_eq _ _ _ _) (neg ?_ hh)))
          by_cases c2 : 0 ≤ rd last j
          · rw [fS, if_pos c2]
            exact ok c c2
          · rw [fS, if_neg c2, w64 (by omega) (by omega)]
            have := clearOf_le (rd_T103 ps j).f0 (rd_T103 ps j).f1 (rd_T103 ps j).f2 (rd_T103 ps j).f3
            omega
        · exact neg c hh
      have bad : ∀ (i j : Nat), i < ps.length → j < ps.length → clearAt ps t last i j = false → Ev (fun k => spec_IsSafeHistory.l3 k ps rows lastS (t : Int) (i : Int) (j : Int)) false := by
        intro i j hi hj ok
        have ok : ¬ clearAt ps t last i j = true := by simp [ok]
        simp only [clearAt, decide_eq_true_eq, Classical.not_imp, Decidable.not_not] at ok
        obtain ⟨o1, o2, o3⟩ := ok
        refine shift ?_
        simp only [spec_IsSafeHistory.l3]
        rw [hr.2.2 j hj, fS, if_pos o2]
        exact pos (nat_lt hj) (pos (by omega) (pos (nat_lt hi) (pos (by omega) (Ev.bind (spec_Conflict_ev _ _ _ _ _ _ _ _) (pos o1 (pos (by rw [hr.2.1]; omega) (bindc (spec_ClearOf_eq _ _ _ _) (pos o3 (now rfl)))))))))
      have wgood : ∀ (i : Nat) (r : Bool), i < ps.length → wayOk ps rows t last i = true → Ev (fun k => spec_IsSafeHistory.l2 k ps rows lastS (t : Int) ((i + 1 : Nat) : Int)) r → Ev (fun k => spec_IsSafeHistory.l2 k ps rows lastS (t : Int) (i : Int)) r := by
        intro i r hi ok hh
        refine head i r hi (shift ?_)
        simp only [spec_IsSafeHistory.j3]
        rw [succ_wrap (by omega)]
        by_cases c : (!startAt rows t i) = true
        · exact pos c hh
        · have hall : (List.range ps.length).all (clearAt ps t last i) = true := by
            rw [wayOk, Bool.or_eq_true] at ok
            exact ok.resolve_left c
          refine neg c (ok_loop (g := fun k j => spec_IsSafeHistory.l3 k ps rows lastS (t : Int) (i : Int) (j : Int)) _ _ hall (fun j r hj o g => good i j r hi hj o g) ?_)
          refine shift ?_
          simp only [spec_IsSafeHistory.l3]
          refine neg (nat_ge (Nat.le_refl _)) ?_
          rw [succ_wrap (by omega)]
          exact hh
      have wbad : ∀ (i : Nat), i < ps.length → wayOk ps rows t last i = false → Ev (fun k => spec_IsSafeHistory.l2 k ps rows lastS (t : Int) (i : Int)) false := by
        intro i hi ok
        rw [wayOk, Bool.or_eq_false_iff] at ok
        refine head i false hi (shift ?_)
        simp only [spec_IsSafeHistory.j3]
        refine neg (by rw [ok.1]; decide) ?_
        exact bad_loop (g := fun k j => spec_IsSafeHistory.l3 k ps rows lastS (t : Int) (i : Int) (j : Int)) _ _ _ (by rw [ok.2]; decide) (fun j r hj o g => good i j r hi hj o g) (fun j hj o => bad i j hi hj o)
      by_cases hso : stepOk ps rows t last = true
      · rw [hso, Bool.true_and]
        refine ok_loop (g := fun k i => spec_IsSafeHistory.l2 k ps rows lastS (t : Int) (i : Int)) ps.length _ hso (fun i r hi o g => wgood i r hi o g) ?_
        refine shift ?_
        simp only [spec_IsSafeHistory.l2]
        refine neg (nat_ge (Nat.le_refl _)) ?_
        refine loop (g := fun k i => spec_IsSafeHistory.l4 k ps rows (updN (rowAt rows t) t lastS i) (t : Int) (i : Int)) ps.length ?_ ?_
        · intro i hi hh
          refine shift ?_
          simp only [spec_IsSafeHistory.l4]
          rw [succ_wrap (by omega)]
          refine pos (nat_lt hi) (pos (by omega) (pos (nat_lt htl) (pos (by omega) (pos (by show (i : Int) < ((rowAt rows t).length : Int); omega) ?_))))
          rw [updN] at hh
          by_cases c : rd (rowAt rows t) (i : Int) = 1
          · rw [if_pos c] at hh
            exact pos c (pos (by rw [updN_length, hr.2.1]; omega) hh)
          · rw [if_neg c] at hh
            exact neg c hh
        · refine shift ?_
          simp only [spec_IsSafeHistory.l4]
          refine neg (nat_ge (Nat.le_refl _)) ?_
          rw [succ_wrap (by omega)]
          refine ih (t + 1) (by omega) _ _ (upd_rel hr _ _ _ (Nat.le_refl _)) (fun _ => ?_)
          rw [show ((t + 1 : Nat) : Int) - 1 = (t : Int) by omega]
          exact hrl
      · have hso2 : stepOk ps rows t last = false := by simpa using hso
        rw [hso2, Bool.false_and, Bool.false_and]
        exact bad_loop (g := fun k i => spec_IsSafeHistory.l2 k ps rows lastS (t : Int) (i : Int)) ps.length _ _ hso (fun i r hi o g => wgood i r hi o g) (fun i hi o => wbad i hi o)
    · exact neg hlo (now (by simp [hlo]))
def safeHist (ps : List S103) (rows : List (List Int)) : Bool := hist ps rows rows.length 0 (List.replicate ps.length (-1)) && arePaths ps
theorem rd_replicate (n j : Nat) (v : Int) (h : j < n) : rd (List.replicate n v) (j : Int) = v := by simp [rd, h]
theorem spec_IsSafeHistory_ev (ps : List S103) (rows : List (List Int)) (hp : ps.length ≤ 1048576) (hl : rows.length ≤ 1048576) : Ev (fun k => spec_IsSafeHistory.f k ps rows) (safeHist ps rows) := by
  unfold spec_IsSafeHistory.f safeHist
  refine loop (g := fun k i => spec_IsSafeHistory.l0 k ps rows (List.replicate i (-1000)) (i : Int)) ps.length ?_ ?_
  · intro i hi h
    refine shift ?_
    simp only [spec_IsSafeHistory.l0]
    rw [succ_wrap (by omega)]
    refine pos (nat_lt hi) (pos (by simp; omega) ?_)
    rw [show List.replicate i (-1000 : Int) ++ [-1000] = List.replicate (i + 1) (-1000) from (List.replicate_succ' ..).symm]
    exact h
  · refine shift ?_
    simp only [spec_IsSafeHistory.l0]
    refine neg (nat_ge (Nat.le_refl _)) ?_
    exact spec_hist ps rows hp hl rows.length 0 (by omega) _ _ ⟨by simp, by simp, fun j hj => by rw [rd_replicate _ _ _ hj, rd_replicate _ _ _ hj]; rfl⟩ (fun h => by omega)

theorem laws_toIntS_ev (l : List Int) (hl : l.length ≤ 17592186044416) : Ev (fun k => laws_toIntS.f k l) l := by
  unfold laws_toIntS.f
  refine pos (by omega) (pos (by omega) ?_)
  have h := copied (g := fun k y i => laws_toIntS.l0 k l y i) l id 0 (fun j hj y r hy h => by
    refine shift ?_
    simp only [laws_toIntS.l0]
    refine pos (nat_lt hj) (pos (by omega) (pos (by omega) ?_))
    rw [rd_get _ _ hj, succ_wrap (by omega)]
    exact h) (fun y => by
    refine shift ?_
    simp only [laws_toIntS.l0]
    exact neg (nat_ge (Nat.le_refl _)) (now rfl))
  simpa using h

theorem laws_toIntSS_ev (l : List (List Int)) (hl : l.length ≤ 1048576) (he : ∀ x ∈ l, x.length ≤ 1048576) : Ev (fun k => laws_toIntSS.f k l) l := by
  unfold laws_toIntSS.f
  refine pos (by omega) (pos (by omega) ?_)
  have h := copied (g := fun k y i => laws_toIntSS.l0 k l y i) l id [] (fun j hj y r hy h => by
    refine shift ?_
    simp only [laws_toIntSS.l0]
    have hg : rd_L3 l (j : Int) = l[j] := by simp [rd_L3, hj]
    rw [hg]
    refine pos (nat_lt hj) (pos (by omega) (Ev.bind (laws_toIntS_ev _ (by have := he _ (List.getElem_mem hj); omega)) (pos (by omega) ?_)))
    rw [succ_wrap (by omega)]
    exact h) (fun y => by
    refine shift ?_
    simp only [laws_toIntSS.l0]
    exact neg (nat_ge (Nat.le_refl _)) (now rfl))
  simpa using h

theorem impl_InRange_eq (a b c : Int) : impl_InRange.f a b c = some (decide (b ≤ a ∧ a ≤ c)) := by
  unfold impl_InRange.f
  by_cases h : b ≤ a
  · rw [if_pos h]
    simp [h]
  · rw [if_neg h]
    simp [h]

theorem impl_IsPath_eq (a b c d : Int) : impl_IsPath.f a b c d = some (isPath a b c d) := by
  unfold impl_IsPath.f isPath
  simp only [impl_InRange_eq, Option.bind_some]
  by_cases h1 : 1 ≤ a ∧ a ≤ 20 <;> by_cases h2 : 1 ≤ b ∧ b ≤ 3 <;> by_cases h3 : 0 ≤ c ∧ c ≤ 3 <;> by_cases h4 : 0 ≤ d ∧ d ≤ 3 <;> simp [h1, h2, h3, h4]

theorem impl_ArePaths_ev (l : List S103) : Ev (fun k => impl_ArePaths.f k l) (arePaths l) := by
  unfold impl_ArePaths.f arePaths
  by_cases hr : l.length ≤ 12
  · rw [decide_eq_true hr]
    refine neg (by omega) (all_loop (g := fun k j => impl_ArePaths.l0 k l l (l.length : Int) (j : Int)) l.length (pathAt l) _ ?_ ?_ ?_)
    · intro j r hj ok h
      simp only [pathAt, Bool.and_eq_true, decide_eq_true_eq] at ok
      refine shift ?_
      simp only [impl_ArePaths.l0]
      refine pos (nat_lt hj) (pos (by omega) (pos (nat_lt hj) (bindc (impl_IsPath_eq _ _ _ _) (pos ok.1 ?_))))
      rw [succ_wrap (by omega)]
      by_cases h0 : (j : Int) > 0
      · rw [w64 (by omega) (by omega)]
        exact pos h0 (pos (by omega) (pos (by omega) (neg (by have := ok.2 (by omega); omega) h)))
      · exact neg h0 h
    · intro j hj ok
      refine shift ?_
      simp only [impl_ArePaths.l0]
      refine pos (nat_lt hj) (pos (by omega) (pos (nat_lt hj) (bindc (impl_IsPath_eq _ _ _ _) ?_)))
      by_cases h1 : isPath (rd_T103 l j).f0 (rd_T103 l j).f1 (rd_T103 l j).f2 (rd_T103 l j).f3 = true
      · refine pos h1 ?_
        have h2 : ¬ (0 < j → (rd_T103 l ((j : Int) - 1)).f0 < (rd_T103 l j).f0) := by simpa [pathAt, h1] using ok
        rw [w64 (x := (j : Int) - 1) (by omega) (by omega)]
        exact pos (by omega) (pos (by omega) (pos (by omega) (pos (by omega) (now rfl))))
      · exact neg h1 (now rfl)
    · refine shift ?_
      simp only [impl_ArePaths.l0]
      exact neg (nat_ge (Nat.le_refl _)) (now rfl)
  · rw [decide_eq_false hr, Bool.and_false]
    exact pos (by omega) (now rfl)

set_option maxRecDepth 10000 in
theorem impl_Interleave_ev (a b c d : Int) (ha : 0 ≤ a ∧ a ≤ 3) (hb : 0 ≤ b ∧ b ≤ 3) (hc : 0 ≤ c ∧ c ≤ 3) (hd : 0 ≤ d ∧ d ≤ 3) : Ev (fun k => impl_Interleave.f k (2 * a) (2 * b + 1) (2 * c) (2 * d + 1)) (if a = c ∨ b = d then false else interB (2 * a) (2 * b + 1) (2 * c) (2 * d + 1)) := by
  refine ⟨10, fun k hk => ?_⟩
  obtain ⟨m, rfl⟩ := Nat.exists_eq_add_of_le' hk
  rcases four_of ha with rfl | rfl | rfl | rfl <;> rcases four_of hb with rfl | rfl | rfl | rfl <;> rcases four_of hc with rfl | rfl | rfl | rfl <;> rcases four_of hd with rfl | rfl | rfl | rfl <;> (show impl_Interleave.f (m + 10) _ _ _ _ = some _; kernel_rfl)

theorem impl_InPlace_eq (a : Int) (h : 0 ≤ a ∧ a ≤ 3) : impl_InPlace.f a = some (2 * a) := by
  unfold impl_InPlace.f
  rw [impl_InRange_eq, Option.bind_some, if_pos (by simpa using h), w64 (by omega) (by omega)]

theorem impl_OutPlace_eq (a : Int) (h : 0 ≤ a ∧ a ≤ 3) : impl_OutPlace.f a = some (2 * a + 1) := by
  unfold impl_OutPlace.f
  rw [impl_InRange_eq, Option.bind_some, if_pos (by simpa using h), w64 (x := 2 * a) (by omega) (by omega), w64 (by omega) (by omega)]

theorem impl_Conflict_ev (a0 a1 a2 a3 b0 b1 b2 b3 : Int) : Ev (fun k => impl_Conflict.f k a0 a1 a2 a3 b0 b1 b2 b3) (conflict a0 a1 a2 a3 b0 b1 b2 b3) := by
  have yes : Ev (fun k => impl_Conflict.j0 k true a0 a1 a2 a3 b0 b1 b2 b3) false := by
    refine shift ?_
    simp only [impl_Conflict.j0]
    exact pos trivial (now rfl)
  have no : isPath a0 a1 a2 a3 = true → isPath b0 b1 b2 b3 = true → Ev (fun k => impl_Conflict.j0 k false a0 a1 a2 a3 b0 b1 b2 b3) (confl a1 a2 a3 b1 b2 b3) := by
    intro h1 h2
    have h1 := (isPath_iff _ _ _ _).1 h1
    have h2 := (isPath_iff _ _ _ _).1 h2
    refine shift ?_
    simp only [impl_Conflict.j0]
    refine neg (by simp) ?_
    unfold confl
    by_cases c1 : a1 = 2
    · rw [if_pos c1]
      refine pos c1 ?_
      by_cases c2 : b2 = a2
      · exact pos c2 (now (by simp [c2]))
      · exact neg c2 (now (by simp [c2]))
    · rw [if_neg c1]
      refine neg c1 ?_
      by_cases c2 : b1 = 2
      · rw [if_pos c2]
        refine pos c2 ?_
        by_cases c3 : a2 = b2
        · exact pos c3 (now (by simp [c3]))
        · exact neg c3 (now (by simp [c3]))
      · rw [if_neg c2]
        refine neg c2 ?_
        by_cases c3 : a2 = b2
        · rw [if_pos c3]
          have hi := impl_Interleave_ev a2 a3 b2 b3 h1.2.2.1 h1.2.2.2.1 h2.2.2.1 h2.2.2.2.1
          rw [if_pos (.inl c3)] at hi
          exact pos c3 (bindc (impl_InPlace_eq _ h1.2.2.1) (bindc (impl_OutPlace_eq _ h1.2.2.2.1) (bindc (impl_InPlace_eq _ h2.2.2.1) (bindc (impl_OutPlace_eq _ h2.2.2.2.1) (Ev.bind hi (now rfl))))))
        · rw [if_neg c3]
          refine neg c3 ?_
          by_cases c4 : a3 = b3
          · rw [if_pos c4]
            exact pos c4 (now rfl)
          · rw [if_neg c4]
            have hi := impl_Interleave_ev a2 a3 b2 b3 h1.2.2.1 h1.2.2.2.1 h2.2.2.1 h2.2.2.2.1
            rw [if_neg (fun g => g.elim c3 c4)] at hi
            exact neg c4 (bindc (impl_InPlace_eq _ h1.2.2.1) (bindc (impl_OutPlace_eq _ h1.2.2.2.1) (bindc (impl_InPlace_eq _ h2.2.2.1) (bindc (impl_OutPlace_eq _ h2.2.2.2.1) (Ev.bind hi (now rfl))))))
  unfold impl_Conflict.f conflict
  refine bindc (impl_IsPath_eq _ _ _ _) ?_
  by_cases h1 : isPath a0 a1 a2 a3 = true
  · refine pos h1 (bindc (impl_IsPath_eq _ _ _ _) ?_)
    by_cases h2 : isPath b0 b1 b2 b3 = true
    · refine pos h2 ?_
      by_cases c1 : a1 = 2
      · refine pos c1 ?_
        by_cases c2 : b1 = 2
        · rw [if_neg (fun g => g.2.2 ⟨c1, c2⟩), show (b1 == 2) = true by simp [c2]]
          exact yes
        · rw [if_pos ⟨h1, h2, fun g => c2 g.2⟩, show (b1 == 2) = false by simp [c2]]
          exact no h1 h2
      · rw [if_pos ⟨h1, h2, fun g => c1 g.1⟩]
        exact neg c1 (no h1 h2)
    · rw [if_neg (fun g => h2 g.2.1)]
      exact neg h2 yes
  · rw [if_neg (fun g => h1 g.1)]
    exact neg h1 yes

theorem impl_IsSafeLights_ev (ps : List S103) (row : List Int) (hp : ps.length ≤ 1048576) : Ev (fun k => impl_IsSafeLights.f k ps row) (lightsOk ps row) := by
  unfold impl_IsSafeLights.f lightsOk
  have yes : Ev (fun k => impl_IsSafeLights.j0 k ps row true) false := by
    refine shift ?_
    simp only [impl_IsSafeLights.j0]
    exact pos trivial (now rfl)
  refine Ev.bind (impl_ArePaths_ev ps) ?_
  by_cases h : arePaths ps = true
  · rw [h, Bool.true_and]
    refine pos rfl ?_
    by_cases hl : row.length = ps.length
    · rw [decide_eq_true hl, Bool.true_and, show ((row.length : Int) != (ps.length : Int)) = false by simp [hl]]
      refine shift ?_
      simp only [impl_IsSafeLights.j0]
      refine neg (by simp) ?_
      have ht : ∀ (i j : Nat), j < i → rd_T103 (ps.take i) (j : Int) = rd_T103 ps (j : Int) := by
        intro i j hj
        simp [rd_T103, List.getD_eq_getElem?_getD, List.getElem?_take, hj]
      have hlen : ∀ i : Nat, i < ps.length → (ps.take i).length = i := fun i hi => by rw [List.length_take]; omega
      have good : ∀ (i j : Nat) (r : Bool), i < ps.length → j < i → pairOk ps row i j = true → Ev (fun k => impl_IsSafeLights.l1 k ps row (i : Int) ps (ps.length : Int) (i : Int) (ps.take i) (i : Int) ((j + 1 : Nat) : Int) (rd_T103 ps i).f0 (rd_T103 ps i).f1 (rd_T103 ps i).f2 (rd_T103 ps i).f3) r → Ev (fun k => impl_IsSafeLights.l1 k ps row (i : Int) ps (ps.length : Int) (i : Int) (ps.take i) (i : Int) (j : Int) (rd_T103 ps i).f0 (rd_T103 ps i).f1 (rd_T103 ps i).f2 (rd_T103 ps i).f3) r := by
        intro i j r hi hj ok hh
        simp only [pairOk, decide_eq_true_eq] at ok
        refine shift ?_
        simp only [impl_IsSafeLights.l1]
        rw [succ_wrap (by omega), ht i j hj]
        refine pos (nat_lt hj) (pos (by omega) (pos (by have := hlen i hi; omega) (Ev.bind (impl_Conflict_ev _ _ _ _ _ _ _ _) ?_)))
        by_cases c3 : confAt ps i j = true
        · refine pos c3 (pos (by omega) (pos (by omega) ?_))
          by_cases c1 : rd row (i : Int) = 0
          · exact pos c1 hh
          · have c2 : rd row (j : Int) = 0 := by rcases ok with g | g | g; exact absurd g c1; exact g; simp [c3] at g
            exact neg c1 (pos (by omega) (pos c2 hh))
        · exact neg c3 hh
      have bad : ∀ (i j : Nat), i < ps.length → j < i → pairOk ps row i j = false → Ev (fun k => impl_IsSafeLights.l1 k ps row (i : Int) ps (ps.length : Int) (i : Int) (ps.take i) (i : Int) (j : Int) (rd_T103 ps i).f0 (rd_T103 ps i).f1 (rd_T103 ps i).f2 (rd_T103 ps i).f3) false := by
        intro i j hi hj ok
        have ok : ¬ pairOk ps row i j = true := by simp [ok]
        simp only [pairOk, decide_eq_true_eq, not_or, Bool.not_eq_false] at ok
        refine shift ?_
        simp only [impl_IsSafeLights.l1]
        rw [ht i j hj]
        exact pos (nat_lt hj) (pos (by omega) (pos (by have := hlen i hi; omega) (Ev.bind (impl_Conflict_ev _ _ _ _ _ _ _ _) (pos ok.2.2 (pos (by omega) (pos (by omega) (neg ok.1 (pos (by omega) (neg ok.2.1 (now rfl))))))))))
      refine all_loop (g := fun k i => impl_IsSafeLights.l0 k ps row ps (ps.length : Int) (i : Int)) ps.length (lightAt ps row) true ?_ ?_ ?_ |> (fun h => by simpa using h)
      · intro i r hi ok hh
        simp only [lightAt, Bool.and_eq_true, decide_eq_true_eq] at ok
        refine shift ?_
        simp only [impl_IsSafeLights.l0]
        refine pos (nat_lt hi) (pos (by omega) (pos (nat_lt hi) (pos (by omega) (bindc (impl_InRange_eq _ _ _) (pos (by simp; omega) (pos (by omega) (bindc rfl ?_)))))))
        rw [Int.toNat_natCast, hlen i hi]
        refine ok_loop (g := fun k j => impl_IsSafeLights.l1 k ps row (i : Int) ps (ps.length : Int) (i : Int) (ps.take i) (i : Int) (j : Int) (rd_T103 ps i).f0 (rd_T103 ps i).f1 (rd_T103 ps i).f2 (rd_T103 ps i).f3) _ _ ok.2 (fun j r hj o g => good i j r hi hj o g) ?_
        refine shift ?_
        simp only [impl_IsSafeLights.l1]
        refine neg (nat_ge (Nat.le_refl _)) ?_
        rw [succ_wrap (by omega)]
        exact hh
      · intro i hi ok
        refine shift ?_
        simp only [impl_IsSafeLights.l0]
        refine pos (nat_lt hi) (pos (by omega) (pos (nat_lt hi) (pos (by omega) (bindc (impl_InRange_eq _ _ _) ?_))))
        by_cases c : 0 ≤ rd row (i : Int) ∧ rd row (i : Int) ≤ 2
        · have h2 : ¬ (List.range i).all (pairOk ps row i) = true := by
            intro h2
            rw [lightAt, h2, decide_eq_true c] at ok
            exact absurd ok (by decide)
          refine pos (by simpa using c) (pos (by omega) (bindc rfl ?_))
          rw [Int.toNat_natCast, hlen i hi]
          exact bad_loop (g := fun k j => impl_IsSafeLights.l1 k ps row (i : Int) ps (ps.length : Int) (i : Int) (ps.take i) (i : Int) (j : Int) (rd_T103 ps i).f0 (rd_T103 ps i).f1 (rd_T103 ps i).f2 (rd_T103 ps i).f3) _ _ _ h2 (fun j r hj o g => good i j r hi hj o g) (fun j hj o => bad i j hi hj o)
        · exact neg (by simpa using c) (now rfl)
      · refine shift ?_
        simp only [impl_IsSafeLights.l0]
        exact neg (nat_ge (Nat.le_refl _)) (now rfl)
    · rw [decide_eq_false hl, Bool.false_and, show ((row.length : Int) != (ps.length : Int)) = true by simp; omega]
      exact yes
  · exact neg h (same yes (by simp [h]))

theorem impl_ClearOf_eq (a b c d : Int) : impl_ClearOf.f a b c d = some (clearOf a b c d) := by
  unfold impl_ClearOf.f clearOf
  rw [impl_IsPath_eq, Option.bind_some]
  split
  · split
    · rfl
    · split <;> rfl
  · rfl

theorem setC {α : Type} (A B : List α) (x v : α) (j : Nat) (hj : A.length = j) : (A ++ x :: B).set j v = A ++ v :: B := by
  rw [List.set_append_right _ _ (by omega), hj, Nat.sub_self, List.set_cons_zero]
theorem getC {α : Type} (A B : List α) (x d : α) (j : Nat) (hj : A.length = j) : (A ++ x :: B).getD j d = x := by
  rw [List.getD_eq_getElem?_getD, List.getElem?_append_right (by omega), hj, Nat.sub_self]
  rfl

theorem impl_hist (ps : List S103) (rows : List (List Int)) (hp : ps.length ≤ 1048576) (hl : rows.length ≤ 1048576) : ∀ d t, t + d = rows.length → ∀ (last : List Int), last.length = ps.length → (0 < t → (rowAt rows ((t : Int) - 1)).length = ps.length) → Ev (fun k => impl_IsSafeHistory.l1 k ps rows last rows (rows.length : Int) (t : Int)) (hist ps rows d t last) := by
  intro d
  induction d with
  | zero =>
    intro t ht last hr hprev
    refine shift ?_
    simp only [impl_IsSafeHistory.l1]
    exact neg (by omega) (now (by rw [hist]))
  | succ d ih =>
    intro t ht last hr hprev
    have htl : t < rows.length := by omega
    refine shift ?_
    simp only [impl_IsSafeHistory.l1]
    refine pos (nat_lt htl) (pos (by omega) (pos (nat_lt htl) (Ev.bind (impl_IsSafeLights_ev ps (rowAt rows t) hp) ?_)))
    rw [hist]
    by_cases hlo : lightsOk ps (rowAt rows t) = true
    · rw [hlo, Bool.true_and]
      obtain ⟨hap, hrl, _⟩ := (lightsOk_iff _ _).1 hlo
      refine pos rfl ?_
      have head : ∀ (i : Nat) (r : Bool), i < ps.length → Ev (fun k => impl_IsSafeHistory.j3 k ps rows last (t : Int) (rowAt rows t) rows (rows.length : Int) (t : Int) ps (ps.length : Int) (i : Int) (!startAt rows t i) (rd_T103 ps i).f0 (rd_T103 ps i).f1 (rd_T103 ps i).f2 (rd_T103 ps i).f3) r → Ev (fun k => impl_IsSafeHistory.l2 k ps rows last (t : Int) (rowAt rows t) rows (rows.length : Int) (t : Int) ps (ps.length : Int) (i : Int)) r := by
        intro i r hi hh
        refine shift ?_
        simp only [impl_IsSafeHistory.l2]
        refine pos (nat_lt hi) (pos (by omega) (pos (nat_lt hi) (pos (by omega) ?_)))
        by_cases c1 : rd (rowAt rows t) (i : Int) = 1
        · refine pos c1 ?_
          by_cases c2 : (t : Int) > 0
          · rw [w64 (x := (t : Int) - 1) (by omega) (by omega)]
            have := hprev (by omega)
            refine pos c2 (pos (by omega) (pos (by omega) (pos (by show (i : Int) < ((rowAt rows ((t : Int) - 1)).length : Int); omega) ?_)))
            have e : (rd (rowAt rows ((t : Int) - 1)) (i : Int) == 1) = (!startAt rows t i) := by
              by_cases c3 : rd (rowAt rows ((t : Int) - 1)) (i : Int) = 1
              · have e2 : startAt rows t i = false := decide_eq_false (fun g => g.2 ⟨by omega, c3⟩)
                rw [e2, c3]
                rfl
              · have e2 : startAt rows t i = true := decide_eq_true ⟨c1, fun g => c3 g.2⟩
                rw [e2]
                simpa using c3
            rw [← e] at hh
            exact hh
          · have e : (!startAt rows t i) = false := by simp only [startAt]; rw [decide_eq_true ⟨c1, fun g => c2 (by omega)⟩]; rfl
            rw [e] at hh
            exact neg c2 hh
        · have e : (!startAt rows t i) = true := by simp only [startAt]; rw [decide_eq_false (fun g => c1 g.1)]; rfl
          rw [e] at hh
          exact neg c1 hh
      have good : ∀ (i j : Nat) (r : Bool), i < ps.length → j < ps.length → clearAt ps t last i j = true → Ev (fun k => impl_IsSafeHistory.l3 k ps rows last (t : Int) (rowAt rows t) rows (rows.length : Int) (t : Int) ps (ps.length : Int) (i : Int) ps (ps.length : Int) ((j + 1 : Nat) : Int) (rd_T103 ps i).f0 (rd_T103 ps i).f1 (rd_T103 ps i).f2 (rd_T103 ps i).f3) r → Ev (fun k => impl_IsSafeHistory.l3 k ps rows last (t : Int) (rowAt rows t) rows (rows.length : Int) (t : Int) ps (ps.length : Int) (i : Int) ps (ps.length : Int) (j : Int) (rd_T103 ps i).f0 (rd_T103 ps i).f1 (rd_T103 ps i).f2 (rd_T103 ps i).f3) r := by
        intro i j r hi hj ok hh
        simp only [clearAt, decide_eq_true_eq] at ok
        refine shift ?_
        simp only [impl_IsSafeHistory.l3]
        rw [succ_wrap (by omega)]
        refine pos (nat_lt hj) (pos (by omega) (pos (nat_lt hj) (Ev.bind (impl_Conflict_ev _ _ _ _ _ _ _ _) ?_)))
        by_cases c : confAt ps i j = true
        · refine pos c (pos (by omega) ?_)
          by_cases c2 : rd last j ≥ 0
          · exact pos c2 (bindc (impl_ClearOf_eq _ _ _ _) (neg (ok c c2) hh))
          · exact neg c2 hh
        · exact neg c hh
      have bad : ∀ (i j : Nat), i < ps.length → j < ps.length → clearAt ps t last i j = false → Ev (fun k => impl_IsSafeHistory.l3 k ps rows last (t : Int) (rowAt rows t) rows (rows.length : Int) (t : Int) ps (ps.length : Int) (i : Int) ps (ps.length : Int) (j : Int) (rd_T103 ps i).f0 (rd_T103 ps i).f1 (rd_T103 ps i).f2 (rd_T103 ps i).f3) false := by
        intro i j hi hj ok
        have ok : ¬ clearAt ps t last i j = true := by simp [ok]
        simp only [clearAt, decide_eq_true_eq, Classical.not_imp, Decidable.not_not] at ok
        obtain ⟨o1, o2, o3⟩ := ok
        refine shift ?_
        simp only [impl_IsSafeHistory.l3]
        exact pos (nat_lt hj) (pos (by omega) (pos (nat_lt hj) (Ev.bind (impl_Conflict_ev _ _ _ _ _ _ _ _) (pos o1 (pos (by omega) (pos o2 (bindc (impl_ClearOf_eq _ _ _ _) (pos o3 (now rfl)))))))))
      have wgood : ∀ (i : Nat) (r : Bool), i < ps.length → wayOk ps rows t last i = true → Ev (fun k => impl_IsSafeHistory.l2 k ps rows last (t : Int) (rowAt rows t) rows (rows.length : Int) (t : Int) ps (ps.length : Int) ((i + 1 : Nat) : Int)) r → Ev (fun k => impl_IsSafeHistory.l2 k ps rows last (t : Int) (rowAt rows t) rows (rows.length : Int) (t : Int) ps (ps.length : Int) (i : Int)) r := by
        intro i r hi ok hh
        refine head i r hi (shift ?_)
        simp only [impl_IsSafeHistory.j3]
        rw [succ_wrap (by omega)]
        by_cases c : (!startAt rows t i) = true
        · exact pos c hh
        · have hall : (List.range ps.length).all (clearAt ps t last i) = true := by
            rw [wayOk, Bool.or_eq_true] at ok
            exact ok.resolve_left c
          refine neg c (ok_loop (g := fun k j => impl_IsSafeHistory.l3 k ps rows last (t : Int) (rowAt rows t) rows (rows.length : Int) (t : Int) ps (ps.length : Int) (i : Int) ps (ps.length : Int) (j : Int) (rd_T103 ps i).f0 (rd_T103 ps i).f1 (rd_T103 ps i).f2 (rd_T103 ps i).f3) _ _ hall (fun j r hj o g => good i j r hi hj o g) ?_)
          refine shift ?_
          simp only [impl_IsSafeHistory.l3]
          refine neg (nat_ge (Nat.le_refl _)) ?_
          rw [succ_wrap (by omega)]
          exact hh
      have wbad : ∀ (i : Nat), i < ps.length → wayOk ps rows t last i = false → Ev (fun k => impl_IsSafeHistory.l2 k ps rows last (t : Int) (rowAt rows t) rows (rows.length : Int) (t : Int) ps (ps.length : Int) (i : Int)) false := by
        intro i hi ok
        rw [wayOk, Bool.or_eq_false_iff] at ok
        refine head i false hi (shift ?_)
        simp only [impl_IsSafeHistory.j3]
        refine neg (by rw [ok.1]; decide) ?_
        exact bad_loop (g := fun k j => impl_IsSafeHistory.l3 k ps rows last (t : Int) (rowAt rows t) rows (rows.length : Int) (t : Int) ps (ps.length : Int) (i : Int) ps (ps.length : Int) (j : Int) (rd_T103 ps i).f0 (rd_T103 ps i).f1 (rd_T103 ps i).f2 (rd_T103 ps i).f3) _ _ _ (by rw [ok.2]; decide) (fun j r hj o g => good i j r hi hj o g) (fun j hj o => bad i j hi hj o)
      by_cases hso : stepOk ps rows t last = true
      · rw [hso, Bool.true_and]
        refine ok_loop (g := fun k i => impl_IsSafeHistory.l2 k ps rows last (t : Int) (rowAt rows t) rows (rows.length : Int) (t : Int) ps (ps.length : Int) (i : Int)) ps.length _ hso (fun i r hi o g => wgood i r hi o g) ?_
        refine shift ?_
        simp only [impl_IsSafeHistory.l2]
        refine neg (nat_ge (Nat.le_refl _)) ?_
        refine loop (g := fun k i => impl_IsSafeHistory.l4 k ps rows (updN (rowAt rows t) t last i) (t : Int) (rowAt rows t) rows (rows.length : Int) (t : Int) (ps.length : Int) (i : Int)) ps.length ?_ ?_
        · intro i hi hh
          refine shift ?_
          simp only [impl_IsSafeHistory.l4]
          rw [succ_wrap (by omega)]
          refine pos (nat_lt hi) (pos (by omega) (pos (by omega) ?_))
          rw [updN] at hh
          by_cases c : rd (rowAt rows t) (i : Int) = 1
          · rw [if_pos c] at hh
            exact pos c (pos (by rw [updN_length]; omega) hh)
          · rw [if_neg c] at hh
            exact neg c hh
        · refine shift ?_
          simp only [impl_IsSafeHistory.l4]
          refine neg (nat_ge (Nat.le_refl _)) ?_
          rw [succ_wrap (by omega)]
          refine ih (t + 1) (by omega) _ (by rw [updN_length]; exact hr) (fun _ => ?_)
          rw [show ((t + 1 : Nat) : Int) - 1 = (t : Int) by omega]
          exact hrl
      · have hso2 : stepOk ps rows t last = false := by simpa using hso
        rw [hso2, Bool.false_and]
        exact bad_loop (g := fun k i => impl_IsSafeHistory.l2 k ps rows last (t : Int) (rowAt rows t) rows (rows.length : Int) (t : Int) ps (ps.length : Int) (i : Int)) ps.length _ _ hso (fun i r hi o g => wgood i r hi o g) (fun i hi o => wbad i hi o)
    · exact neg hlo (now (by simp [hlo]))
theorem impl_IsSafeHistory_ev (ps : List S103) (rows : List (List Int)) (hp : ps.length ≤ 1048576) (hl : rows.length ≤ 1048576) : Ev (fun k => impl_IsSafeHistory.f k ps rows) (safeHist ps rows) := by
  unfold impl_IsSafeHistory.f safeHist
  refine Ev.bind (impl_ArePaths_ev ps) ?_
  by_cases h : arePaths ps = true
  · rw [h, Bool.and_true]
    refine pos rfl (pos (by omega) (pos (by omega) (bindc rfl ?_)))
    rw [Int.toNat_natCast, List.length_replicate]
    refine loop (g := fun k i => impl_IsSafeHistory.l0 k ps rows (List.replicate i (-1) ++ List.replicate (ps.length - i) 0) (ps.length : Int) (i : Int)) ps.length ?_ ?_ |> (fun h => by simpa using h)
    · intro i hi h
      refine shift ?_
      simp only [impl_IsSafeHistory.l0]
      rw [succ_wrap (by omega), Int.toNat_natCast]
      refine pos (nat_lt hi) (pos (by omega) (pos (by simp; omega) ?_))
      have e : ps.length - i = (ps.length - (i + 1)) + 1 := by omega
      rw [e, List.replicate_succ, setC _ _ _ _ _ (List.length_replicate ..)]
      rw [List.replicate_succ' (n := i), List.append_assoc] at h
      exact h
    · refine shift ?_
      simp only [impl_IsSafeHistory.l0]
      refine neg (nat_ge (Nat.le_refl _)) ?_
      rw [Nat.sub_self, List.replicate_zero, List.append_nil]
      exact impl_hist ps rows hp hl rows.length 0 (by omega) _ (by simp) (fun h => by omega)
  · exact neg h (now (by simp [h]))

theorem laws_eqIntS_refl (l : List Int) (hl : l.length < 9223372036854775807) : Ev (fun k => laws_eqIntS.f k l l) true := by
  unfold laws_eqIntS.f
  refine pos rfl (loop (g := fun k j => laws_eqIntS.l0 k l l (j : Int)) l.length ?_ ?_)
  · intro j hj h
    refine shift ?_
    simp only [laws_eqIntS.l0]
    refine pos (nat_lt hj) (pos (by omega) (pos (nat_lt hj) (pos (by simp) ?_)))
    rw [succ_wrap (by omega)]
    exact h
  · refine shift ?_
    simp only [laws_eqIntS.l0]
    exact neg (nat_ge (Nat.le_refl _)) (now rfl)

theorem laws_eqIntSS_refl (l : List (List Int)) (hl : l.length ≤ 1048576) (he : ∀ x ∈ l, x.length ≤ 1048576) : Ev (fun k => laws_eqIntSS.f k l l) true := by
  unfold laws_eqIntSS.f
  refine pos rfl (loop (g := fun k j => laws_eqIntSS.l0 k l l (j : Int)) l.length ?_ ?_)
  · intro j hj h
    refine shift ?_
    simp only [laws_eqIntSS.l0]
    have hg : rd_L3 l (j : Int) = l[j] := by simp [rd_L3, hj]
    rw [hg]
    refine pos (nat_lt hj) (pos (by omega) (pos (nat_lt hj) (Ev.bind (laws_eqIntS_refl _ (by have := he _ (List.getElem_mem hj); omega)) (pos rfl ?_))))
    rw [succ_wrap (by omega)]
    exact h
  · refine shift ?_
    simp only [laws_eqIntSS.l0]
    exact neg (nat_ge (Nat.le_refl _)) (now rfl)

theorem FnExactIsSafeHistory (p : List S105) (hp : wfS 32 wf105 p) (l : List (List Int)) (hw : wfS 24 (wfS 8 I64) l) : ∃ k, laws_FnExactIsSafeHistory.f k p l = some true := by
  refine Ev.rounds ?_
  have hm := hw.2.1
  have hm0 := hp.2.1
  have hme : ∀ x ∈ l, x.length ≤ 140737488355328 := fun x hx => by have := (hw.2.2 x hx).2.1; omega
  unfold laws_FnExactIsSafeHistory.f
  obtain ⟨q, hq, hq2, hpl⟩ := laws_szPathS_eq p 1048576 (by omega) (by omega) (by omega)
  refine bindc hq ?_
  by_cases h0 : q < 0
  · exact pos h0 (now rfl)
  have hpl := hpl h0
  have hpc : (p.map cPath).length ≤ 1048576 := by simpa using hpl
  obtain ⟨r, hr, _, hl⟩ := laws_szIntSS_ev l q (by omega) (by omega) (by omega) hme
  refine neg h0 (Ev.bind hr ?_)
  by_cases h : r < 0
  · exact pos h (now rfl)
  obtain ⟨hl, he⟩ := hl h
  refine neg h (Ev.bind (laws_toPathS_ev p hpl) (Ev.bind (laws_toIntSS_ev l hl he) (Ev.bind (spec_IsSafeHistory_ev _ _ hpc hl) (Ev.bind (laws_toPathS_ev p hpl) (Ev.bind (laws_toIntSS_ev l hl he) (Ev.bind (impl_IsSafeHistory_ev _ _ hpc hl) ?_))))))
  exact neg (by simp) (Ev.bind (laws_toPathS_ev p hpl) (Ev.bind (laws_eqPathS_refl _ (by omega)) (pos rfl (Ev.bind (laws_toIntSS_ev l hl he) (Ev.bind (laws_eqIntSS_refl _ hl he) (pos rfl (now rfl)))))))

end Go.Proofs.Ytmpncnphndafnac.PureFnExactIsSafeHistory
end

section
namespace Go.Proofs.Ytmpncnphndafnac.fnExactIsSafeHistory
open Go.ChangeShapes Go.WideShapes Go.ChangeAt Go.RowKit
open Go.Proofs.YtmpncnphndafnacW.PrintWords Go.Proofs.Ytmpncnphndafnac.PSaf Go.Proofs.Ytmpncnphndafnac.Opens Go.Proofs.Ytmpncnphndafnac.Aid Go.Proofs.Ytmpncnphndafnac.PureFnExactIsSafeHistory
set_option linter.unusedVariables false
theorem own : ownKnob Try.prog.godebug = none := by kernel_rfl
theorem laidOut : laidOutB Try.prog = true := by kernel_rfl
theorem o105 : Opens Try.prog 105 k105 wf105 := opens_struct (fun x : S105 => (x.f0, x.f1, x.f2, x.f3)) (fun p => (⟨p.1, p.2.1, p.2.2.1, p.2.2.2⟩ : S105)) (fun _ => rfl) Try.underlying105 (by kernel_rfl) (opensF_cons rfl (opens_int Try.underlying3 (by kernel_rfl)) (opensF_cons rfl (opens_int Try.underlying3 (by kernel_rfl)) (opensF_cons rfl (opens_int Try.underlying3 (by kernel_rfl)) (opensF_last rfl (opens_int Try.underlying3 (by kernel_rfl))))))
theorem arg0 : Opens Try.prog 58 (Kd.slice 105 k105) (wfS 32 wf105) := (opens_slice Try.underlying58 (by kernel_rfl) (B := 32) (by kernel_rfl) o105)
theorem arg1 : Opens Try.prog 70 (Kd.slice 24 (Kd.slice 3 (Kd.int .i64))) (wfS 24 (wfS 8 I64)) := (opens_slice Try.underlying70 (by kernel_rfl) (B := 24) (by kernel_rfl) (opens_slice Try.underlying24 (by kernel_rfl) (B := 8) (by kernel_rfl) (opens_int Try.underlying3 (by kernel_rfl))))
set_option maxRecDepth 100000 in
theorem lifted (os : Os) (started : os.Started) (H : Type) (enc : TypeId × Value → H) :
    ReturnsInHanded {} Try.checked os 8 .any (Rows.fnExactIsSafeHistorySpec.pre6 enc Try.prog Try.f8 Rows.fnExactIsSafeHistoryRow.domain false) (Rows.fnExactIsSafeHistorySpec.post enc Try.prog Try.f8 false true false false) := by
  refine returnsInHanded_of_change_sized (C := Try.checked) own started (by kernel_rfl) Try.func8
    (ChangeSpec.witness6 (enc := enc) (C := Try.checked) false ⟨#[], #[.slice none 0 0, .slice none 0 0], []⟩ 8 (by kernel_rfl) (by kernel_rfl) (by kernel_rfl) (by kernel_rfl)) ?_
  intro W base args ds gs before hval0 hW hcnd hsz0 _
  have hsz : (DataW.weightsEach Try.prog (Try.f8.params.toList ++ Rows.fnExactIsSafeHistorySpec.plain.varTypes Try.prog) (ds ++ gs)).all (· ≤ reachBytes) = true := hsz0
  have hval : ∀ (j : Nat) t v, Try.f8.params[j]? = some t → args[j]? = some v → Value.okWide Try.prog W .any base t v := hval0
  have hW' := hW
  obtain ⟨p, q, hA0, hV, rfl, hfz, hnd⟩ := hW
  have hA : DataW.TrodAll enc Try.prog W 0 (fun _ => true) true Try.f8.params.toList args.toList ds p := hA0
  rw [Try.params8] at hA hval hsz
  obtain ⟨v0, vs0, d0, ds0, p0, q0, hargs, rfl, rfl, h0, r0⟩ := trodAll_cons hA
  obtain ⟨v1, vs1, d1, ds1, p1, q1, rfl, rfl, rfl, h1, r1⟩ := trodAll_cons r0
  obtain ⟨rfl, rfl, rfl⟩ := trodAll_nil r1
  obtain rfl : args = #[v0, v1] := by cases args; simp_all
  obtain ⟨rfl, rfl⟩ := trodVars_none hV
  have k0 := h0
  have lt0 : ∀ x ∈ p0, x.block < W.heap.size := by obtain ⟨m, hm⟩ := k0; exact DataW.trod_lt m _ _ _ hm
  obtain ⟨x0, hK0, hW0⟩ := opens_arg arg0 hsz (j := 0) rfl rfl h0
  obtain ⟨A0, c0, rfl, hc0, hC0⟩ := opens_row Try.underlying58 (hval 0 58 v0 rfl rfl) hK0
  have k1 := h1
  have lt1 : ∀ x ∈ p1, x.block < W.heap.size := by obtain ⟨m, hm⟩ := k1; exact DataW.trod_lt m _ _ _ hm
  obtain ⟨x1, hK1, hW1⟩ := opens_arg arg1 hsz (j := 1) rfl rfl h1
  obtain ⟨A1, c1, rfl, hc1, hC1⟩ := opens_row Try.underlying70 (hval 1 70 v1 rfl rfl) hK1
  clear hA0 hval0 hsz0 hsz
  obtain ⟨k, hk⟩ := Go.Proofs.Ytmpncnphndafnac.PureFnExactIsSafeHistory.FnExactIsSafeHistory x0 hW0 x1 hW1
  refine (laws_FnExactIsSafeHistory.calls k _ _ x0 _ _ x1 true W hC0 hc0 hC1 hc1 hk).mono fun e W' ⟨he, bel0⟩ => ?_
  have bel : Below W.heap.size W W' := by first | exact bel0 | exact bel0.below
  subst he
  exact ⟨_, rfl, _, _, _, [], _, [], hW', trodAll_mk1 (shut_bool Try.underlying4 _), (trodAll_cons_mk (Below.trod laidOut (by kernel_rfl) (of_decide_eq_true (by kernel_rfl)) k0 bel lt0) (trodAll_cons_mk (Below.trod laidOut (by kernel_rfl) (of_decide_eq_true (by kernel_rfl)) k1 bel lt1) trodAll_mk0)), rfl, bel.frame _, fun h => by cases h⟩
theorem over : Rows.fnExactIsSafeHistoryRow.holds Try.pinned (OpenSpec.ofChange Rows.fnExactIsSafeHistorySpec) :=
  OpenClaim.holds_of_wide 8 Try.f8 rfl rfl rfl rfl rfl rfl rfl ⟨rfl, rfl, rfl, rfl, rfl⟩ rfl rfl rfl rfl rfl (by kernel_rfl) Try.func8 (by kernel_rfl)
    (of_decide_eq_true (by kernel_rfl)) (by unfold Func.isWrapper; first | (rw [if_pos (by decide +kernel)]; kernel_rfl) | (rw [if_neg (by decide +kernel)]; exact ⟨rfl, rfl⟩))
    (fun os started H enc _ => lifted os started H enc)
theorem proved : Rows.FnExactIsSafeHistorySaid := over
#print axioms proved
end Go.Proofs.Ytmpncnphndafnac.fnExactIsSafeHistory
namespace Go.Proofs.Ytmpncnphndafnac
/-- The row, under a short name, for the claim. -/
theorem fnExactIsSafeHistory_holds : Rows.FnExactIsSafeHistorySaid := fnExactIsSafeHistory.proved
end Go.Proofs.Ytmpncnphndafnac
end
