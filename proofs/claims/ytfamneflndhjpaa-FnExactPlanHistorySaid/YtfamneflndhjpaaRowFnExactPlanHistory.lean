/- The statement FnExactPlanHistory, whole: for every input the law returns true and leaves its arguments as they were; no condition. Out of the contract of the law's walk and the pure theorem. -/
import Derived.Test.YtfamneflndhjpaaBFnExactPlanHistory0
import Derived.Test.YtfamneflndhjpaaBFnExactPlanHistory1
import Derived.Test.YtfamneflndhjpaaBFnExactPlanHistory2
import Derived.Test.YtfamneflndhjpaaBFnExactPlanHistory3
import Derived.Test.YtfamneflndhjpaaBFnExactPlanHistory4
import Derived.Test.YtfamneflndhjpaaBFnExactPlanHistory5
import Derived.Test.YtfamneflndhjpaaBFnExactPlanHistory6
import Derived.Test.YtfamneflndhjpaaBFnExactPlanHistory7
import Derived.Test.YtfamneflndhjpaaBFnExactPlanHistory8
import Derived.Test.YtfamneflndhjpaaBFnExactPlanHistory9
import Derived.Test.YtfamneflndhjpaaBFnExactPlanHistory10
import Derived.Test.YtfamneflndhjpaaWWords
import Derived.Test.YtfamneflndhjpaaWMore
import Derived.SizedLaws
import Derived.ChangeSlices
import Derived.ChangeArms
import Derived.WideShapes
import Derived.Below
import Derived.Test.YtfamneflndhjpaaRows
import Derived.WalkKit
import Derived.ProofKit
import Derived.OpenShut
import Derived.ShutString
import Derived.ChangeOld
section
namespace Go.Proofs.Ytfamneflndhjpaa.Aid
open Go.RowKit Go.Proofs.YtfamneflndhjpaaW.PrintWords Go.Proofs.YtfamneflndhjpaaW.PrintMore
set_option linter.unusedVariables false

theorem w64 {x : Int} (h0 : -9223372036854775808 ≤ x) (h1 : x ≤ 9223372036854775807) : wrap64 x = x := by
  unfold wrap64
  omega
theorem w64_range (x : Int) : -9223372036854775808 ≤ wrap64 x ∧ wrap64 x ≤ 9223372036854775807 := by
  unfold wrap64
  omega
/-- A number of Go's int. -/
def I64 (x : Int) : Prop := -9223372036854775808 ≤ x ∧ x ≤ 9223372036854775807
theorem i64_of {x : Int} (h : (Lit.int .i64 x).wf = true) : I64 x := by
  simp [Lit.wf, IntKind.min, IntKind.max, IntKind.bits, IntKind.signed] at h
  unfold I64
  omega

/-- A byte. -/
def U8 (x : Int) : Prop := 0 ≤ x ∧ x ≤ 255
theorem u8_of {x : Int} (h : (Lit.int .u8 x).wf = true) : U8 x := by
  simp [Lit.wf, IntKind.min, IntKind.max, IntKind.bits, IntKind.signed] at h
  unfold U8
  omega

/-- A slice within the reach (B: an element's bytes), all of whose elements are as WF says. -/
def wfS {α : Type} (B : Nat) (WF : α → Prop) (xs : List α) : Prop := xs.length ≤ maxLen ∧ xs.length * B ≤ 140737488351232 ∧ ∀ x ∈ xs, WF x

theorem shift {α : Type} {g : Nat → Option α} {r : α} (h : Ev (fun k => g (k + 1)) r) : Ev g r := Ev.step (fun _ => rfl) h
theorem pos {α : Type} {c : Prop} [Decidable c] {a b : Nat → Option α} {r : α} (hc : c) (h : Ev a r) : Ev (fun k => if c then a k else b k) r := by
  simpa only [if_pos hc] using h
theorem neg {α : Type} {c : Prop} [Decidable c] {a b : Nat → Option α} {r : α} (hc : ¬ c) (h : Ev b r) : Ev (fun k => if c then a k else b k) r := by
  simpa only [if_neg hc] using h
theorem now {α : Type} {r s : α} (h : r = s) : Ev (fun _ => some r) s := h ▸ Ev.now r
theorem known {α : Type} {x : Option α} {r : α} (h : x = some r) : Ev (fun _ => x) r := h ▸ Ev.now r
theorem bindc {α β : Type} {x : Option α} {f : Nat → α → Option β} {a : α} {r : β} (h : x = some a) (k : Ev (fun n => f n a) r) : Ev (fun n => x.bind (f n)) r := by
  subst h
  exact k
theorem same {α : Type} {g : Nat → Option α} {r s : α} (h : Ev g r) (e : r = s) : Ev g s := e ▸ h
theorem of_const {α : Type} {x : Option α} {r : α} (h : Ev (fun _ => x) r) : x = some r := by
  obtain ⟨k, hk⟩ := Ev.rounds h
  exact hk

/-- A loop whose round j leads from state j to state j + 1, and whose N-th state is its end. -/
theorem loop {α : Type} {g : Nat → Nat → Option α} {r : α} (N : Nat) (hs : ∀ j, j < N → Ev (fun k => g k (j + 1)) r → Ev (fun k => g k j) r) (he : Ev (fun k => g k N) r) : Ev (fun k => g k 0) r := by
  have : ∀ d j, j + d = N → Ev (fun k => g k j) r := by
    intro d
    induction d with
    | zero =>
      intro j hj
      have : j = N := by omega
      subst this
      exact he
    | succ d ih => exact fun j hj => hs j (by omega) (ih (j + 1) (by omega))
  exact this N 0 (by omega)
/-- The same from state i on. -/
theorem loop_from {α : Type} {g : Nat → Nat → Option α} {r : α} (i N : Nat) (hi : i ≤ N) (hs : ∀ j, i ≤ j → j < N → Ev (fun k => g k (j + 1)) r → Ev (fun k => g k j) r) (he : Ev (fun k => g k N) r) : Ev (fun k => g k i) r := by
  have : ∀ d j, i ≤ j → j + d = N → Ev (fun k => g k j) r := by
    intro d
    induction d with
    | zero =>
      intro j _ hj
      have : j = N := by omega
      subst this
      exact he
    | succ d ih => exact fun j h0 hj => hs j h0 (by omega) (ih (j + 1) (by omega) (by omega))
  exact this (N - i) i (Nat.le_refl _) (by omega)

theorem rd_nat (xs : List Int) (j : Nat) : rd xs (j : Int) = xs.getD j 0 := by simp [rd]
theorem rd_get (xs : List Int) (j : Nat) (h : j < xs.length) : rd xs (j : Int) = xs[j] := by simp [rd, h]
theorem nat_lt {a b : Nat} (h : a < b) : (a : Int) < (b : Int) := by omega
theorem nat_ge {a b : Nat} (h : b ≤ a) : ¬ (a : Int) < (b : Int) := by omega
theorem succ_wrap {j : Nat} (h : j < 9223372036854775807) : wrap64 ((j : Int) + 1) = ((j + 1 : Nat) : Int) := by
  rw [w64 (by omega) (by omega)]
  omega

/-- A loop that fills a row, one place a round. -/
theorem copied {α β : Type} {g : Nat → List β → Int → Option (List β)} (l : List α) (f : α → β) (z : β) (hs : ∀ (j : Nat) (hj : j < l.length) (y : List β) (r : List β), y.length = l.length → Ev (fun k => g k (y.set j (f l[j])) ((j + 1 : Nat) : Int)) r → Ev (fun k => g k y (j : Int)) r)
    (he : ∀ y, Ev (fun k => g k y (l.length : Int)) y) : Ev (fun k => g k (List.replicate l.length z) 0) (l.map f) := by
  refine loop (g := fun k j => g k ((l.map f).take j ++ List.replicate (l.length - j) z) (j : Int)) (r := l.map f) l.length ?_ ?_ |> (fun h => by simpa using h)
  · intro j hj h
    refine hs j hj _ _ (by simp; omega) ?_
    refine Eq.mp ?_ h
    congr 1
    funext k
    congr 1
    rw [List.set_append_right _ _ (by simp; omega)]
    have h1 : (l.map f).take (j + 1) = (l.map f).take j ++ [f l[j]] := by
      rw [List.take_succ_eq_append_getElem (by simpa using hj)]
      simp
    have h2 : l.length - j = (l.length - (j + 1)) + 1 := by omega
    have h3 : j - ((l.map f).take j).length = 0 := by simp; omega
    rw [h1, h3, h2, List.replicate_succ, List.set_cons_zero]
    simp
  · have h := he (l.map f)
    have e : (l.map f).take l.length = l.map f := List.take_of_length_le (by simp)
    simpa [e] using h

/-- A loop that looks at each place and answers no at the first that is not as it ought to be. -/
theorem all_loop {g : Nat → Nat → Option Bool} (N : Nat) (ok : Nat → Bool) (b : Bool) (hs : ∀ j r, j < N → ok j = true → Ev (fun k => g k (j + 1)) r → Ev (fun k => g k j) r)
    (hf : ∀ j, j < N → ok j = false → Ev (fun k => g k j) false) (he : Ev (fun k => g k N) b) : Ev (fun k => g k 0) ((List.range N).all ok && b) := by
  have : ∀ d j, j + d = N → Ev (fun k => g k j) ((List.range' j d).all ok && b) := by
    intro d
    induction d with
    | zero =>
      intro j hj
      have : j = N := by omega
      subst this
      simpa using he
    | succ d ih =>
      intro j hj
      rw [List.range'_succ, List.all_cons]
      cases h : ok j with
      | true => simpa using hs j _ (by omega) h (ih (j + 1) (by omega))
      | false => simpa using hf j (by omega) h
  have h := this N 0 (by omega)
  rwa [← List.range_eq_range'] at h
/-- The same where all places are as they ought to be, .. -/
theorem ok_loop {α : Type} {g : Nat → Nat → Option α} (N : Nat) (ok : Nat → Bool) {r : α} (h : (List.range N).all ok = true) (hs : ∀ j r, j < N → ok j = true → Ev (fun k => g k (j + 1)) r → Ev (fun k => g k j) r)
    (he : Ev (fun k => g k N) r) : Ev (fun k => g k 0) r :=
  loop N (fun j hj hn => hs j r hj (List.all_eq_true.1 h j (List.mem_range.2 hj)) hn) he
/-- .. and where one isn't: the first that isn't decides. -/
theorem bad_loop {α : Type} {g : Nat → Nat → Option α} (N : Nat) (ok : Nat → Bool) (r : α) (h : ¬ (List.range N).all ok = true) (hs : ∀ j r, j < N → ok j = true → Ev (fun k => g k (j + 1)) r → Ev (fun k => g k j) r)
    (hf : ∀ j, j < N → ok j = false → Ev (fun k => g k j) r) : Ev (fun k => g k 0) r := by
  have : ∀ d j, j + d = N → ¬ (List.range' j d).all ok = true → Ev (fun k => g k j) r := by
    intro d
    induction d with
    | zero => exact fun j _ hn => absurd rfl hn
    | succ d ih =>
      intro j hj hn
      rw [List.range'_succ, List.all_cons] at hn
      cases ho : ok j with
      | true => exact hs j _ (by omega) ho (ih (j + 1) (by omega) (by simpa [ho] using hn))
      | false => exact hf j (by omega) ho
  exact this N 0 (by omega) (by rwa [← List.range_eq_range'])
/-- n numbers from a on. -/
def iota (a : Int) (n : Nat) : List Int := (List.range n).map fun (i : Nat) => a + (i : Int)
theorem iota_length (a : Int) (n : Nat) : (iota a n).length = n := by simp [iota]
theorem iota_get (a : Int) (n j : Nat) (h : j < n) : rd (iota a n) (j : Int) = a + j := by simp [rd, iota, h]
theorem iota_set (a : Int) (l : List Int) (j : Nat) (h : j < l.length) : (iota a j ++ l.drop j).set j (a + j) = iota a (j + 1) ++ l.drop (j + 1) := by
  rw [List.set_append_right _ _ (by rw [iota_length]; exact Nat.le_refl _), iota_length, Nat.sub_self, List.drop_eq_getElem_cons h, List.set_cons_zero]
  have : iota a (j + 1) = iota a j ++ [a + j] := by simp [iota, List.range_succ]
  rw [this]
  simp
end Go.Proofs.Ytfamneflndhjpaa.Aid
end

section
namespace Go.Proofs.Ytfamneflndhjpaa.Opens
open Go.ChangeShapes Go.WideShapes Go.RowKit Go.Proofs.YtfamneflndhjpaaW.PrintWords Go.Proofs.Ytfamneflndhjpaa.Aid
set_option linter.unusedVariables false

/-- Whatever can be read as data of type t is of kind kd, and meets WF. -/
def Opens {α : Type} (P : Program) (t : TypeId) (kd : Kd α) (WF : α → Prop) : Prop :=
  P.cellsOf t = kd.sz ∧ ∀ (H : Type) (enc : TypeId × Value → H) (w : World) (base : Nat) (spare : Nat → Bool) (held : Bool) (fuel : Nat) (cs : List Value) (d : DataW H) (ps : List MemPlace),
    DataW.trod enc P w base spare held fuel t cs = some (d, ps) → (∀ n ∈ d.weights P t, n ≤ reachBytes) → ∃ x, kd.K w x cs ∧ WF x

theorem opens_int {P : Program} {t : TypeId} (ht : P.underlying t = some (.int .i64)) (hc : P.cellsOf t = 1) : Opens P t (Kd.int .i64) I64 := by
  refine ⟨hc, fun H enc w base spare held fuel cs d ps h _ => ?_⟩
  obtain ⟨n, rfl, _, hw⟩ := DataW.trod_int ht h
  exact ⟨n, rfl, i64_of hw⟩

/-- The same of bytes. -/
theorem opens_u8 {P : Program} {t : TypeId} (ht : P.underlying t = some (.int .u8)) (hc : P.cellsOf t = 1) : Opens P t (Kd.int .u8) U8 := by
  refine ⟨hc, fun H enc w base spare held fuel cs d ps h _ => ?_⟩
  obtain ⟨n, rfl, _, hw⟩ := DataW.trod_int ht h
  exact ⟨n, rfl, u8_of hw⟩

theorem opens_bool {P : Program} {t : TypeId} (ht : P.underlying t = some .bool) (hc : P.cellsOf t = 1) : Opens P t Kd.bool (fun _ => True) := by
  refine ⟨hc, fun H enc w base spare held fuel cs d ps h _ => ?_⟩
  obtain ⟨b, rfl, _⟩ := DataW.trod_bool ht h
  exact ⟨b, rfl, trivial⟩

theorem weights_elem {H : Type} {P : Program} {e : TypeId} {n : Nat} : ∀ {ds : List (DataW H)} {d : DataW H}, d ∈ ds → n ∈ d.weights P e → n ∈ DataW.weightsAll P e ds
  | [], _, h, _ => by simp at h
  | d0 :: r, d, h, hn => by
    rw [DataW.weightsAll]
    rcases List.mem_cons.1 h with rfl | h
    · exact List.mem_append_left _ hn
    · exact List.mem_append_right _ (weights_elem h hn)

theorem choose_list {α : Type} {n : Nat} {Q : Nat → α → Prop} (h : ∀ i, i < n → ∃ x, Q i x) : ∃ xs : List α, xs.length = n ∧ ∀ i x, xs[i]? = some x → Q i x := by
  induction n with
  | zero => exact ⟨[], rfl, fun i x hx => by simp at hx⟩
  | succ n ih =>
    obtain ⟨xs, hl, hx⟩ := ih (fun i hi => h i (by omega))
    obtain ⟨y, hy⟩ := h n (by omega)
    refine ⟨xs ++ [y], by simp [hl], fun i x hi => ?_⟩
    by_cases hlt : i < n
    · rw [List.getElem?_append_left (by omega)] at hi
      exact hx i x hi
    · have hl2 := (List.getElem?_eq_some_iff.1 hi).1
      simp at hl2
      have : i = n := by omega
      subst this
      rw [List.getElem?_append_right (by omega)] at hi
      simp [hl] at hi
      exact hi ▸ hy

theorem opens_slice {α : Type} {P : Program} {t e : TypeId} {kd : Kd α} {WF : α → Prop} (ht : P.underlying t = some (.slice e)) (hc : P.cellsOf t = 1) {B : Nat} (hB : P.bytesOf e = B) (he : Opens P e kd WF) :
    Opens P t (Kd.slice e kd) (wfS B WF) := by
  subst hB
  refine ⟨hc, fun H enc w base spare held fuel cs d ps h hw => ?_⟩
  rcases DataW.trod_slice ht h with ⟨rfl, _⟩ | ⟨a, len, cap, elems, rest, n, _, rfl, hx, hb, hl, hm, hlen, hel, _, _⟩
  · exact ⟨[], ⟨none, 0, rfl, Nat.le_refl _, ⟨rfl, by simp, fun h => absurd h (by simp)⟩⟩, by simp [maxLen], by simp, by simp⟩
  · simp only [Prod.mk.injEq] at hx
    obtain ⟨rfl, _⟩ := hx
    have each : ∀ i, i < len → ∃ x, (∃ c, c.length = kd.sz ∧ kd.K w x c ∧ ∀ j u, c[j]? = some u → w.cell? (a.add (i * kd.sz + j)) = some u) ∧ WF x := by
      intro i hi
      have h1 := hel i hi
      have h2 : i < elems.length := by omega
      rw [List.getElem?_eq_getElem h2] at h1
      obtain ⟨c, hc1, hc2⟩ := Option.bind_eq_some_iff.1 h1
      obtain ⟨_, hcl, hcc⟩ := World.cells?_some hc1
      obtain ⟨x, hx1, hx2⟩ := he.2 H enc w base spare held n c elems[i].1 elems[i].2 hc2 (fun m hm' => hw m (by
        rw [DataW.weights, ht]
        simp only [List.mem_cons, List.mem_append]
        exact .inr (.inl (weights_elem (List.mem_map.2 ⟨elems[i], List.getElem_mem h2, rfl⟩) hm'))))
      refine ⟨x, ⟨c, by rw [hcl, he.1], hx1, fun j u hj => ?_⟩, hx2⟩
      have hj2 := (List.getElem?_eq_some_iff.1 hj).1
      have := hcc j (by omega)
      rw [hj, he.1] at this
      rw [← this, Addr.add_add]
    obtain ⟨xs, hxl, hxs⟩ := choose_list each
    subst hxl
    refine ⟨xs, ⟨some a, cap, rfl, hl, ⟨rfl, by simp [maxLen] at hm; omega, fun _ => ⟨a, rfl, fun j p hj => ?_⟩⟩⟩, by omega, ?_, fun x hx => ?_⟩
    · exact (hxs j p hj).1
    · have := hw ((elems.length + rest.length) * P.bytesOf e) (by rw [DataW.weights, ht]; simp)
      exact Nat.le_trans (Nat.mul_le_mul_right _ (by omega)) this
    · obtain ⟨i, hi⟩ := List.getElem?_of_mem hx
      exact (hxs i x hi).2

/-- The same of a struct's fields from one on, which begins at cell off. -/
def OpensF {α : Type} (P : Program) (fs : List Field) (off : Nat) (kd : Kd α) (WF : α → Prop) : Prop :=
  ∀ (H : Type) (enc : TypeId × Value → H) (w : World) (base : Nat) (spare : Nat → Bool) (held : Bool) (fuel : Nat) (cs : List Value) (ys : List (DataW H × List MemPlace)),
    cs.length = off + kd.sz → ys.length = fs.length → (∀ (i : Nat) (f : Field), fs[i]? = some f → DataW.trod enc P w base spare held fuel f.type ((cs.drop f.offset).take (P.cellsOf f.type)) = ys[i]?) →
    (∀ n ∈ DataW.weightsEach P (fs.map (·.type)) (ys.map (·.1)), n ≤ reachBytes) → ∃ x, kd.K w x (cs.drop off) ∧ WF x

theorem opensF_last {α : Type} {P : Program} {f : Field} {off : Nat} {kd : Kd α} {WF : α → Prop} (ho : f.offset = off) (h : Opens P f.type kd WF) : OpensF P [f] off kd WF := by
  intro H enc w base spare held fuel cs ys hcs hys hf hw
  match ys, hys with
  | [y], _ =>
    have h1 := hf 0 f rfl
    rw [ho, h.1, List.take_of_length_le (by simp; omega)] at h1
    exact h.2 H enc w base spare held fuel _ y.1 y.2 h1 (fun n hn => hw n (by simp [DataW.weightsEach, hn]))

theorem opensF_cons {α β : Type} {P : Program} {f : Field} {fs : List Field} {off : Nat} {kd : Kd α} {kr : Kd β} {WF : α → Prop} {WR : β → Prop} (ho : f.offset = off) (h : Opens P f.type kd WF)
    (hr : OpensF P fs (off + kd.sz) kr WR) : OpensF P (f :: fs) off (Kd.pair kd kr) (fun x => WF x.1 ∧ WR x.2) := by
  intro H enc w base spare held fuel cs ys hcs hys hf hw
  match ys, hys with
  | y :: ys, hys =>
    have h1 := hf 0 f rfl
    rw [ho, h.1] at h1
    obtain ⟨x, hx1, hx2⟩ := h.2 H enc w base spare held fuel _ y.1 y.2 h1 (fun n hn => hw n (by simp [DataW.weightsEach, hn]))
    have hs : (Kd.pair kd kr).sz = kd.sz + kr.sz := rfl
    obtain ⟨z, hz1, hz2⟩ := hr H enc w base spare held fuel cs ys (by omega) (by simpa using hys) (fun i g hg => hf (i + 1) g hg) (fun n hn => hw n (by simp [DataW.weightsEach]; exact .inr (by simpa using hn)))
    refine ⟨(x, z), ⟨_, _, ?_, hx1, hz1⟩, hx2, hz2⟩
    rw [← List.drop_drop, List.take_append_drop]

theorem opens_struct {α β : Type} {P : Program} {t : TypeId} {fs : Array Field} {kd : Kd α} {WF : α → Prop} (f : β → α) (g : α → β) (hg : ∀ x, f (g x) = x) (ht : P.underlying t = some (.struct fs)) (hc : P.cellsOf t = kd.sz)
    (h : OpensF P fs.toList 0 kd WF) : Opens P t (Kd.iso kd f) (fun x => WF (f x)) := by
  refine ⟨hc, fun H enc w base spare held fuel cs d ps hd hw => ?_⟩
  obtain ⟨xs, n, _, hx, hl, hxl, hf⟩ := DataW.trod_struct ht hd
  simp only [Prod.mk.injEq] at hx
  obtain ⟨rfl, _⟩ := hx
  obtain ⟨y, hy1, hy2⟩ := h H enc w base spare held n cs xs (by omega) (by simpa using hxl) (fun i f' hf' => hf i f' (by simpa using hf')) (fun m hm => hw m (by rw [DataW.weights, ht]; simpa using hm))
  refine ⟨g y, ?_, ?_⟩
  · show kd.K w (f (g y)) cs
    rw [hg]
    simpa using hy1
  · show WF (f (g y))
    rw [hg]
    exact hy2

/-- An argument, opened. -/
theorem opens_arg {α : Type} {H : Type} {enc : TypeId × Value → H} {P : Program} {w : World} {base : Nat} {spare : Nat → Bool} {held : Bool} {t : TypeId} {v : Value} {kd : Kd α} {WF : α → Prop} {d : DataW H} {ps : List MemPlace} (h : Opens P t kd WF)
    {ts : List TypeId} {ds : List (DataW H)} {j : Nat} (hsz : (DataW.weightsEach P ts ds).all (· ≤ reachBytes) = true) (ht : ts[j]? = some t) (hd : ds[j]? = some d) (hv : DataW.Trod enc P w base spare held t v d ps) :
    ∃ x, kd.K w x v.cells.toList ∧ WF x := by
  obtain ⟨fuel, hf⟩ := hv
  refine h.2 H enc w base spare held fuel _ d ps hf (fun n hn => ?_)
  have := List.all_eq_true.1 hsz n (DataW.weights_mem_each ht hd n hn)
  simpa using this

/-- A slice argument: its address, its capacity, its row. -/
theorem opens_row {α : Type} {P : Program} {w : World} {t e : TypeId} {r : Reach} {b0 : Nat} {v : Value} {kd : Kd α} {x : List α} (ht : P.underlying t = some (.slice e)) (hval : Value.okWide P w r b0 t v) (h : (Kd.slice e kd).K w x v.cells.toList) :
    ∃ A c, v = .slice A x.length c ∧ x.length ≤ c ∧ Kd.C kd w A x.length x := by
  obtain ⟨a, len, cap, rfl⟩ := okWide_slice ht hval
  obtain ⟨A, c, hv, hl, hC⟩ := h
  simp [Value.cells] at hv
  obtain ⟨rfl, rfl, rfl⟩ := hv
  exact ⟨_, _, rfl, hl, hC⟩

/-- A struct argument by value: its cells. -/
theorem opens_agg {P : Program} {w : World} {t : TypeId} {fs : Array Field} {r : Reach} {b0 : Nat} {v : Value} {cs : List Value} (ht : P.underlying t = some (.struct fs)) (hval : Value.okWide P w r b0 t v) (h : v.cells.toList = cs) :
    v = .agg cs.toArray := by
  obtain ⟨c, rfl, _⟩ := okWide_struct ht hval
  simp [Value.cells] at h
  simp [← h]

end Go.Proofs.Ytfamneflndhjpaa.Opens
end

section
namespace Go.Proofs.Ytfamneflndhjpaa.PureFnExactPlanHistory
open Go.RowKit Go.Proofs.YtfamneflndhjpaaW.PrintWords Go.Proofs.YtfamneflndhjpaaW.PrintLast Go.Proofs.YtfamneflndhjpaaW.PrintMore Go.Proofs.Ytfamneflndhjpaa.PPlan Go.Proofs.Ytfamneflndhjpaa.Aid
set_option linter.unusedVariables false
set_option linter.unusedSimpArgs false

/-- Every number of it is one of Go's int, every slice within the reach. -/
def wf84 (x : S84) : Prop := I64 x.f0 ∧ I64 x.f1 ∧ I64 x.f2 ∧ I64 x.f3
/-- Every number of it is one of Go's int, every slice within the reach. -/
def wf90 (x : S90) : Prop := (wfS 8 I64) x.f0 ∧ I64 x.f1

theorem slices_Index_int_int_ev (l : List Int) (a : Int) (hl : l.length ≤ 9223372036854775806) : ∃ r, Ev (fun k => slices_Index_int_int.f k l a) r ∧ (r ≥ 0 ↔ a ∈ l) := by
  unfold slices_Index_int_int.f
  have : ∀ d j, j + d = l.length → ∃ r, Ev (fun k => slices_Index_int_int.l0 k l a (l.length : Int) (j : Int)) r ∧ (r ≥ 0 ↔ a ∈ l.drop j) := by
    intro d
    induction d with
    | zero =>
      intro j hj
      refine ⟨-1, shift ?_, by rw [List.drop_eq_nil_of_le (by omega)]; simp⟩
      simp only [slices_Index_int_int.l0]
      exact neg (by omega) (now rfl)
    | succ d ih =>
      intro j hj
      have hjl : j < l.length := by omega
      by_cases h : a = l[j]
      · refine ⟨(j : Int), shift ?_, ⟨fun _ => by rw [List.drop_eq_getElem_cons hjl, h]; exact List.mem_cons_self, fun _ => by omega⟩⟩
        simp only [slices_Index_int_int.l0]
        rw [rd_get l j hjl]
        exact pos (nat_lt hjl) (pos (by omega) (pos (nat_lt hjl) (pos h (now rfl))))
      · obtain ⟨r, h1, h2⟩ := ih (j + 1) (by omega)
        refine ⟨r, shift ?_, by rw [h2, List.drop_eq_getElem_cons hjl, List.mem_cons]; exact ⟨.inr, fun g => g.resolve_left h⟩⟩
        simp only [slices_Index_int_int.l0]
        rw [rd_get l j hjl, succ_wrap (by omega)]
        exact pos (nat_lt hjl) (pos (by omega) (pos (nat_lt hjl) (neg h h1)))
  simpa using this l.length 0 (by omega)

theorem slices_Contains_int_int_ev (l : List Int) (a : Int) (hl : l.length ≤ 9223372036854775806) : Ev (fun k => slices_Contains_int_int.f k l a) (decide (a ∈ l)) := by
  unfold slices_Contains_int_int.f
  obtain ⟨r, h1, h2⟩ := slices_Index_int_int_ev l a hl
  exact Ev.bind h1 (now (decide_eq_decide.2 h2))

theorem laws_szPathS_eq (l : List S84) (a : Int) (ha : 0 ≤ a) (ha2 : a ≤ 1048576) (hl : l.length ≤ 140737488355328) : ∃ r, laws_szPathS.f l a = some r ∧ r ≤ a ∧ (¬ r < 0 → l.length ≤ 1048576) := by
  unfold laws_szPathS.f
  rw [w64 (by omega) (by omega)]
  by_cases h : a - (l.length : Int) < 0
  · exact ⟨-1, by rw [if_pos h], by omega, by omega⟩
  · exact ⟨_, by rw [if_neg h], by omega, by omega⟩

theorem laws_szIntS_eq (l : List Int) (a : Int) (ha : 0 ≤ a) (ha2 : a ≤ 1048576) (hl : l.length ≤ 140737488355328) : ∃ r, laws_szIntS.f l a = some r ∧ r ≤ a ∧ (¬ r < 0 → l.length ≤ 1048576) := by
  unfold laws_szIntS.f
  rw [w64 (by omega) (by omega)]
  by_cases h : a - (l.length : Int) < 0
  · exact ⟨-1, by rw [if_pos h], by omega, by omega⟩
  · exact ⟨_, by rw [if_neg h], by omega, by omega⟩

theorem spec_l1In_eq (a b c : Int) : spec_l1In.f a b c = some (decide (b ≤ a ∧ a ≤ c)) := by
  unfold spec_l1In.f
  by_cases h : b ≤ a
  · rw [if_pos h]
    simp [h]
  · rw [if_neg h]
    simp [h]

/-- A path's number, kind, and ends are in their ranges, and it crosses on foot just where its ends are the same. -/
def isPath (a b c d : Int) : Bool := decide (1 ≤ a ∧ a ≤ 20) && (decide (1 ≤ b ∧ b ≤ 3) && (decide (0 ≤ c ∧ c ≤ 3) && (decide (0 ≤ d ∧ d ≤ 3) && ((c == d) == (b == 2)))))
theorem spec_IsPath_eq (a b c d : Int) : spec_IsPath.f a b c d = some (isPath a b c d) := by
  unfold spec_IsPath.f isPath
  simp only [spec_l1In_eq, Option.bind_some]
  by_cases h1 : 1 ≤ a ∧ a ≤ 20 <;> by_cases h2 : 1 ≤ b ∧ b ≤ 3 <;> by_cases h3 : 0 ≤ c ∧ c ≤ 3 <;> by_cases h4 : 0 ≤ d ∧ d ≤ 3 <;> simp [h1, h2, h3, h4]

def pathAt (l : List S82) (j : Nat) : Bool := isPath (rd_T82 l j).f0 (rd_T82 l j).f1 (rd_T82 l j).f2 (rd_T82 l j).f3 && decide (0 < j → (rd_T82 l ((j : Int) - 1)).f0 < (rd_T82 l j).f0)
def arePaths (l : List S82) : Bool := (List.range l.length).all (pathAt l) && decide (l.length ≤ 12)
theorem spec_ArePaths_ev (l : List S82) (hl : l.length ≤ 9223372036854775806) : Ev (fun k => spec_ArePaths.f k l) (arePaths l) := by
  unfold spec_ArePaths.f arePaths
  refine all_loop (g := fun k j => spec_ArePaths.l0 k l (j : Int)) l.length (pathAt l) _ ?_ ?_ ?_
  · intro j r hj ok h
    simp only [pathAt, Bool.and_eq_true, decide_eq_true_eq] at ok
    refine shift ?_
    simp only [spec_ArePaths.l0]
    refine pos (nat_lt hj) (pos (by omega) (bindc (spec_IsPath_eq _ _ _ _) (pos ok.1 ?_)))
    rw [succ_wrap (by omega)]
    by_cases h0 : (j : Int) > 0
    · rw [w64 (by omega) (by omega)]
      exact pos h0 (pos (by omega) (pos (by omega) (neg (by have := ok.2 (by omega); omega) h)))
    · exact neg h0 h
  · intro j hj ok
    refine shift ?_
    simp only [spec_ArePaths.l0]
    refine pos (nat_lt hj) (pos (by omega) (bindc (spec_IsPath_eq _ _ _ _) ?_))
    by_cases h1 : isPath (rd_T82 l j).f0 (rd_T82 l j).f1 (rd_T82 l j).f2 (rd_T82 l j).f3 = true
    · refine pos h1 ?_
      have h2 : ¬ (0 < j → (rd_T82 l ((j : Int) - 1)).f0 < (rd_T82 l j).f0) := by simpa [pathAt, h1] using ok
      rw [w64 (x := (j : Int) - 1) (by omega) (by omega)]
      exact pos (by omega) (pos (by omega) (pos (by omega) (pos (by omega) (now rfl))))
    · exact neg h1 (now rfl)
  · refine shift ?_
    simp only [spec_ArePaths.l0]
    refine neg (nat_ge (Nat.le_refl _)) (now ?_)
    exact decide_eq_decide.2 (by omega)

/-- The two ways cross: one's places lie on both sides of the other's. -/
def interB (a b c d : Int) : Bool := (decide (Int.tmod (c - a + 8) 8 < Int.tmod (b - a + 8) 8)) != (decide (Int.tmod (d - a + 8) 8 < Int.tmod (b - a + 8) 8))
theorem four_of {a : Int} (h : 0 ≤ a ∧ a ≤ 3) : a = 0 ∨ a = 1 ∨ a = 2 ∨ a = 3 := by omega
set_option maxRecDepth 10000 in
theorem spec_Interleave_ev (a b c d : Int) (ha : 0 ≤ a ∧ a ≤ 3) (hb : 0 ≤ b ∧ b ≤ 3) (hc : 0 ≤ c ∧ c ≤ 3) (hd : 0 ≤ d ∧ d ≤ 3) (hac : a ≠ c) (hbd : b ≠ d) : Ev (fun k => spec_Interleave.f k (2 * a) (2 * b + 1) (2 * c) (2 * d + 1)) (interB (2 * a) (2 * b + 1) (2 * c) (2 * d + 1)) := by
  refine ⟨40, fun k hk => ?_⟩
  obtain ⟨m, rfl⟩ := Nat.exists_eq_add_of_le' hk
  rcases four_of ha with rfl | rfl | rfl | rfl <;> rcases four_of hb with rfl | rfl | rfl | rfl <;> rcases four_of hc with rfl | rfl | rfl | rfl <;> rcases four_of hd with rfl | rfl | rfl | rfl <;> first | exact absurd rfl hac | exact absurd rfl hbd | (show spec_Interleave.f (m + 40) _ _ _ _ = some _; kernel_rfl)

theorem spec_InPlace_eq (a : Int) (h : 0 ≤ a ∧ a ≤ 3) : spec_InPlace.f a = some (2 * a) := by
  unfold spec_InPlace.f
  rw [spec_l1In_eq, Option.bind_some, if_pos (by simpa using h), w64 (by omega) (by omega)]

theorem spec_OutPlace_eq (a : Int) (h : 0 ≤ a ∧ a ≤ 3) : spec_OutPlace.f a = some (2 * a + 1) := by
  unfold spec_OutPlace.f
  rw [spec_l1In_eq, Option.bind_some, if_pos (by simpa using h), w64 (x := 2 * a) (by omega) (by omega), w64 (by omega) (by omega)]

theorem isPath_iff (a b c d : Int) : isPath a b c d = true ↔ (1 ≤ a ∧ a ≤ 20) ∧ (1 ≤ b ∧ b ≤ 3) ∧ (0 ≤ c ∧ c ≤ 3) ∧ (0 ≤ d ∧ d ≤ 3) ∧ ((c == d) == (b == 2)) = true := by simp only [isPath, Bool.and_eq_true, decide_eq_true_eq]
def confl (a1 a2 a3 b1 b2 b3 : Int) : Bool := if a1 = 2 then (b2 == a2 || b3 == a2) else if b1 = 2 then (a2 == b2 || a3 == b2) else if a2 = b2 then false else if a3 = b3 then true else interB (2 * a2) (2 * a3 + 1) (2 * b2) (2 * b3 + 1)
def conflict (a0 a1 a2 a3 b0 b1 b2 b3 : Int) : Bool := if isPath a0 a1 a2 a3 = true ∧ isPath b0 b1 b2 b3 = true ∧ ¬ (a1 = 2 ∧ b1 = 2) then confl a1 a2 a3 b1 b2 b3 else false
theorem spec_Conflict_ev (a0 a1 a2 a3 b0 b1 b2 b3 : Int) : Ev (fun k => spec_Conflict.f k a0 a1 a2 a3 b0 b1 b2 b3) (conflict a0 a1 a2 a3 b0 b1 b2 b3) := by
  have yes : Ev (fun k => spec_Conflict.j0 k true a0 a1 a2 a3 b0 b1 b2 b3) false := by
    refine shift ?_
    simp only [spec_Conflict.j0]
    exact pos trivial (now rfl)
  have no : isPath a0 a1 a2 a3 = true → isPath b0 b1 b2 b3 = true → Ev (fun k => spec_Conflict.j0 k false a0 a1 a2 a3 b0 b1 b2 b3) (confl a1 a2 a3 b1 b2 b3) := by
    intro h1 h2
    have h1 := (isPath_iff _ _ _ _).1 h1
    have h2 := (isPath_iff _ _ _ _).1 h2
    refine shift ?_
    simp only [spec_Conflict.j0]
    refine neg (by simp) ?_
    unfold confl
    by_cases c1 : a1 = 2
    · rw [if_pos c1]
      refine pos c1 ?_
      by_cases c2 : b2 = a2
      · exact pos c2 (now (by simp [c2]))
      · exact neg c2 (now (by simp [c2]))
    · rw [if_neg c1]
      refine neg c1 ?_
      by_cases c2 : b1 = 2
      · rw [if_pos c2]
        refine pos c2 ?_
        by_cases c3 : a2 = b2
        · exact pos c3 (now (by simp [c3]))
        · exact neg c3 (now (by simp [c3]))
      · rw [if_neg c2]
        refine neg c2 ?_
        by_cases c3 : a2 = b2
        · rw [if_pos c3]
          exact pos c3 (now rfl)
        · rw [if_neg c3]
          refine neg c3 ?_
          by_cases c4 : a3 = b3
          · rw [if_pos c4]
            exact pos c4 (now rfl)
          · rw [if_neg c4]
            exact neg c4 (bindc (spec_InPlace_eq _ h1.2.2.1) (bindc (spec_OutPlace_eq _ h1.2.2.2.1) (bindc (spec_InPlace_eq _ h2.2.2.1) (bindc (spec_OutPlace_eq _ h2.2.2.2.1) (Ev.bind (spec_Interleave_ev _ _ _ _ h1.2.2.1 h1.2.2.2.1 h2.2.2.1 h2.2.2.2.1 c3 c4) (now rfl))))))
  unfold spec_Conflict.f conflict
  refine bindc (spec_IsPath_eq _ _ _ _) ?_
  by_cases h1 : isPath a0 a1 a2 a3 = true
  · refine pos h1 (bindc (spec_IsPath_eq _ _ _ _) ?_)
    by_cases h2 : isPath b0 b1 b2 b3 = true
    · refine pos h2 ?_
      by_cases c1 : a1 = 2
      · refine pos c1 ?_
        by_cases c2 : b1 = 2
        · rw [if_neg (fun g => g.2.2 ⟨c1, c2⟩), show (b1 == 2) = true by simp [c2]]
          exact yes
        · rw [if_pos ⟨h1, h2, fun g => c2 g.2⟩, show (b1 == 2) = false by simp [c2]]
          exact no h1 h2
      · rw [if_pos ⟨h1, h2, fun g => c1 g.1⟩]
        exact neg c1 (no h1 h2)
    · rw [if_neg (fun g => h2 g.2.1)]
      exact neg h2 yes
  · rw [if_neg (fun g => h1 g.1)]
    exact neg h1 yes

def cPath (x : S84) : S82 := ⟨x.f0, x.f1, x.f2, x.f3⟩
theorem laws_toPathS_ev (l : List S84) (hl : l.length ≤ 1048576) : Ev (fun k => laws_toPathS.f k l) (l.map cPath) := by
  unfold laws_toPathS.f
  refine pos (by omega) (pos (by omega) ?_)
  exact copied (g := fun k y i => laws_toPathS.l0 k l y i) l cPath z82 (fun j hj y r hy h => by
    refine shift ?_
    simp only [laws_toPathS.l0]
    refine pos (nat_lt hj) (pos (by omega) (bindc rfl (pos (by omega) ?_)))
    rw [succ_wrap (by omega)]
    simpa [rd_T84, cPath, hj] using h) (fun y => by
    refine shift ?_
    simp only [laws_toPathS.l0]
    exact neg (nat_ge (Nat.le_refl _)) (now rfl))

theorem laws_toIntS_ev (l : List Int) (hl : l.length ≤ 17592186044416) : Ev (fun k => laws_toIntS.f k l) l := by
  unfold laws_toIntS.f
  refine pos (by omega) (pos (by omega) ?_)
  have h := copied (g := fun k y i => laws_toIntS.l0 k l y i) l id 0 (fun j hj y r hy h => by
    refine shift ?_
    simp only [laws_toIntS.l0]
    refine pos (nat_lt hj) (pos (by omega) (pos (by omega) ?_))
    rw [rd_get _ _ hj, succ_wrap (by omega)]
    exact h) (fun y => by
    refine shift ?_
    simp only [laws_toIntS.l0]
    exact neg (nat_ge (Nat.le_refl _)) (now rfl))
  simpa using h

theorem impl_InRange_eq (a b c : Int) : impl_InRange.f a b c = some (decide (b ≤ a ∧ a ≤ c)) := by
  unfold impl_InRange.f
  by_cases h : b ≤ a
  · rw [if_pos h]
    simp [h]
  · rw [if_neg h]
    simp [h]

theorem impl_IsPath_eq (a b c d : Int) : impl_IsPath.f a b c d = some (isPath a b c d) := by
  unfold impl_IsPath.f isPath
  simp only [impl_InRange_eq, Option.bind_some]
  by_cases h1 : 1 ≤ a ∧ a ≤ 20 <;> by_cases h2 : 1 ≤ b ∧ b ≤ 3 <;> by_cases h3 : 0 ≤ c ∧ c ≤ 3 <;> by_cases h4 : 0 ≤ d ∧ d ≤ 3 <;> simp [h1, h2, h3, h4]

theorem impl_ArePaths_ev (l : List S82) : Ev (fun k => impl_ArePaths.f k l) (arePaths l) := by
  unfold impl_ArePaths.f arePaths
  by_cases hr : l.length ≤ 12
  · rw [decide_eq_true hr]
    refine neg (by omega) (all_loop (g := fun k j => impl_ArePaths.l0 k l l (l.length : Int) (j : Int)) l.length (pathAt l) _ ?_ ?_ ?_)
    · intro j r hj ok h
      simp only [pathAt, Bool.and_eq_true, decide_eq_true_eq] at ok
      refine shift ?_
      simp only [impl_ArePaths.l0]
      refine pos (nat_lt hj) (pos (by omega) (pos (nat_lt hj) (bindc (impl_IsPath_eq _ _ _ _) (pos ok.1 ?_))))
      rw [succ_wrap (by omega)]
      by_cases h0 : (j : Int) > 0
      · rw [w64 (by omega) (by omega)]
        exact pos h0 (pos (by omega) (pos (by omega) (neg (by have := ok.2 (by omega); omega) h)))
      · exact neg h0 h
    · intro j hj ok
      refine shift ?_
      simp only [impl_ArePaths.l0]
      refine pos (nat_lt hj) (pos (by omega) (pos (nat_lt hj) (bindc (impl_IsPath_eq _ _ _ _) ?_)))
      by_cases h1 : isPath (rd_T82 l j).f0 (rd_T82 l j).f1 (rd_T82 l j).f2 (rd_T82 l j).f3 = true
      · refine pos h1 ?_
        have h2 : ¬ (0 < j → (rd_T82 l ((j : Int) - 1)).f0 < (rd_T82 l j).f0) := by simpa [pathAt, h1] using ok
        rw [w64 (x := (j : Int) - 1) (by omega) (by omega)]
        exact pos (by omega) (pos (by omega) (pos (by omega) (pos (by omega) (now rfl))))
      · exact neg h1 (now rfl)
    · refine shift ?_
      simp only [impl_ArePaths.l0]
      exact neg (nat_ge (Nat.le_refl _)) (now rfl)
  · rw [decide_eq_false hr, Bool.and_false]
    exact pos (by omega) (now rfl)

set_option maxRecDepth 10000 in
theorem impl_Interleave_ev (a b c d : Int) (ha : 0 ≤ a ∧ a ≤ 3) (hb : 0 ≤ b ∧ b ≤ 3) (hc : 0 ≤ c ∧ c ≤ 3) (hd : 0 ≤ d ∧ d ≤ 3) : Ev (fun k => impl_Interleave.f k (2 * a) (2 * b + 1) (2 * c) (2 * d + 1)) (if a = c ∨ b = d then false else interB (2 * a) (2 * b + 1) (2 * c) (2 * d + 1)) := by
  refine ⟨10, fun k hk => ?_⟩
  obtain ⟨m, rfl⟩ := Nat.exists_eq_add_of_le' hk
  rcases four_of ha with rfl | rfl | rfl | rfl <;> rcases four_of hb with rfl | rfl | rfl | rfl <;> rcases four_of hc with rfl | rfl | rfl | rfl <;> rcases four_of hd with rfl | rfl | rfl | rfl <;> (show impl_Interleave.f (m + 10) _ _ _ _ = some _; kernel_rfl)

theorem impl_InPlace_eq (a : Int) (h : 0 ≤ a ∧ a ≤ 3) : impl_InPlace.f a = some (2 * a) := by
  unfold impl_InPlace.f
  rw [impl_InRange_eq, Option.bind_some, if_pos (by simpa using h), w64 (by omega) (by omega)]

theorem impl_OutPlace_eq (a : Int) (h : 0 ≤ a ∧ a ≤ 3) : impl_OutPlace.f a = some (2 * a + 1) := by
  unfold impl_OutPlace.f
  rw [impl_InRange_eq, Option.bind_some, if_pos (by simpa using h), w64 (x := 2 * a) (by omega) (by omega), w64 (by omega) (by omega)]

theorem impl_Conflict_ev (a0 a1 a2 a3 b0 b1 b2 b3 : Int) : Ev (fun k => impl_Conflict.f k a0 a1 a2 a3 b0 b1 b2 b3) (conflict a0 a1 a2 a3 b0 b1 b2 b3) := by
  have yes : Ev (fun k => impl_Conflict.j0 k true a0 a1 a2 a3 b0 b1 b2 b3) false := by
    refine shift ?_
    simp only [impl_Conflict.j0]
    exact pos trivial (now rfl)
  have no : isPath a0 a1 a2 a3 = true → isPath b0 b1 b2 b3 = true → Ev (fun k => impl_Conflict.j0 k false a0 a1 a2 a3 b0 b1 b2 b3) (confl a1 a2 a3 b1 b2 b3) := by
    intro h1 h2
    have h1 := (isPath_iff _ _ _ _).1 h1
    have h2 := (isPath_iff _ _ _ _).1 h2
    refine shift ?_
    simp only [impl_Conflict.j0]
    refine neg (by simp) ?_
    unfold confl
    by_cases c1 : a1 = 2
    · rw [if_pos c1]
      refine pos c1 ?_
      by_cases c2 : b2 = a2
      · exact pos c2 (now (by simp [c2]))
      · exact neg c2 (now (by simp [c2]))
    · rw [if_neg c1]
      refine neg c1 ?_
      by_cases c2 : b1 = 2
      · rw [if_pos c2]
        refine pos c2 ?_
        by_cases c3 : a2 = b2
        · exact pos c3 (now (by simp [c3]))
        · exact neg c3 (now (by simp [c3]))
      · rw [if_neg c2]
        refine neg c2 ?_
        by_cases c3 : a2 = b2
        · rw [if_pos c3]
          have hi := impl_Interleave_ev a2 a3 b2 b3 h1.2.2.1 h1.2.2.2.1 h2.2.2.1 h2.2.2.2.1
          rw [if_pos (.inl c3)] at hi
          exact pos c3 (bindc (impl_InPlace_eq _ h1.2.2.1) (bindc (impl_OutPlace_eq _ h1.2.2.2.1) (bindc (impl_InPlace_eq _ h2.2.2.1) (bindc (impl_OutPlace_eq _ h2.2.2.2.1) (Ev.bind hi (now rfl))))))
        · rw [if_neg c3]
          refine neg c3 ?_
          by_cases c4 : a3 = b3
          · rw [if_pos c4]
            exact pos c4 (now rfl)
          · rw [if_neg c4]
            have hi := impl_Interleave_ev a2 a3 b2 b3 h1.2.2.1 h1.2.2.2.1 h2.2.2.1 h2.2.2.2.1
            rw [if_neg (fun g => g.elim c3 c4)] at hi
            exact neg c4 (bindc (impl_InPlace_eq _ h1.2.2.1) (bindc (impl_OutPlace_eq _ h1.2.2.2.1) (bindc (impl_InPlace_eq _ h2.2.2.1) (bindc (impl_OutPlace_eq _ h2.2.2.2.1) (Ev.bind hi (now rfl))))))
  unfold impl_Conflict.f conflict
  refine bindc (impl_IsPath_eq _ _ _ _) ?_
  by_cases h1 : isPath a0 a1 a2 a3 = true
  · refine pos h1 (bindc (impl_IsPath_eq _ _ _ _) ?_)
    by_cases h2 : isPath b0 b1 b2 b3 = true
    · refine pos h2 ?_
      by_cases c1 : a1 = 2
      · refine pos c1 ?_
        by_cases c2 : b1 = 2
        · rw [if_neg (fun g => g.2.2 ⟨c1, c2⟩), show (b1 == 2) = true by simp [c2]]
          exact yes
        · rw [if_pos ⟨h1, h2, fun g => c2 g.2⟩, show (b1 == 2) = false by simp [c2]]
          exact no h1 h2
      · rw [if_pos ⟨h1, h2, fun g => c1 g.1⟩]
        exact neg c1 (no h1 h2)
    · rw [if_neg (fun g => h2 g.2.1)]
      exact neg h2 yes
  · rw [if_neg (fun g => h1 g.1)]
    exact neg h1 yes

theorem laws_eqPathS_refl (l : List S82) (hl : l.length < 9223372036854775807) : Ev (fun k => laws_eqPathS.f k l l) true := by
  unfold laws_eqPathS.f
  refine pos rfl (loop (g := fun k j => laws_eqPathS.l0 k l l (j : Int)) l.length ?_ ?_)
  · intro j hj h
    refine shift ?_
    simp only [laws_eqPathS.l0]
    refine pos (nat_lt hj) (pos (by omega) (pos (nat_lt hj) (bindc (a := true) (by simp [laws_eqPath.f]) (pos (by simp) ?_))))
    rw [succ_wrap (by omega)]
    exact h
  · refine shift ?_
    simp only [laws_eqPathS.l0]
    exact neg (nat_ge (Nat.le_refl _)) (now rfl)

theorem laws_eqIntS_refl (l : List Int) (hl : l.length < 9223372036854775807) : Ev (fun k => laws_eqIntS.f k l l) true := by
  unfold laws_eqIntS.f
  refine pos rfl (loop (g := fun k j => laws_eqIntS.l0 k l l (j : Int)) l.length ?_ ?_)
  · intro j hj h
    refine shift ?_
    simp only [laws_eqIntS.l0]
    refine pos (nat_lt hj) (pos (by omega) (pos (nat_lt hj) (pos (by simp) ?_)))
    rw [succ_wrap (by omega)]
    exact h
  · refine shift ?_
    simp only [laws_eqIntS.l0]
    exact neg (nat_ge (Nat.le_refl _)) (now rfl)

theorem laws_szPart_eq (x : S90) (a : Int) (ha : 0 ≤ a) (ha2 : a ≤ 1048576) (hl : x.f0.length ≤ 140737488355328) : ∃ r, laws_szPart.f x.f0 x.f1 a = some r ∧ r ≤ a ∧ (¬ r < 0 → x.f0.length ≤ 1048576) := by
  unfold laws_szPart.f
  obtain ⟨r, h1, h2, h3⟩ := laws_szIntS_eq x.f0 a ha ha2 hl
  rw [h1, Option.bind_some]
  by_cases h : r < 0
  · exact ⟨-1, by rw [if_pos h], by omega, by omega⟩
  · exact ⟨r, by rw [if_neg h], h2, h3⟩

theorem laws_szPartS_ev (l : List S90) (a : Int) (ha : 0 ≤ a) (ha2 : a ≤ 1048576) (hl : l.length ≤ 140737488355328) (he : ∀ x ∈ l, x.f0.length ≤ 140737488355328) :
    ∃ r, Ev (fun k => laws_szPartS.f k l a) r ∧ r ≤ a ∧ (¬ r < 0 → l.length ≤ 1048576 ∧ ∀ x ∈ l, x.f0.length ≤ 1048576) := by
  unfold laws_szPartS.f
  rw [w64 (by omega) (by omega)]
  by_cases h : a - (l.length : Int) < 0
  · exact ⟨-1, pos h (now rfl), by omega, by omega⟩
  · have main : ∀ (d j : Nat) (b : Int), j + d = l.length → 0 ≤ b → b ≤ 1048576 → ∃ r, Ev (fun k => laws_szPartS.l0 k l b (j : Int)) r ∧ r ≤ b ∧ (¬ r < 0 → ∀ i (hi : i < l.length), j ≤ i → l[i].f0.length ≤ 1048576) := by
      intro d
      induction d with
      | zero =>
        intro j b hj hb hb2
        refine ⟨b, shift ?_, by omega, fun _ i hi hji => by omega⟩
        simp only [laws_szPartS.l0]
        exact neg (by omega) (now rfl)
      | succ d ih =>
        intro j b hj hb hb2
        have hjl : j < l.length := by omega
        have hg : rd_T90 l (j : Int) = l[j] := by simp [rd_T90, hjl]
        obtain ⟨r, hr, hra, hrl⟩ := laws_szPart_eq l[j] b hb hb2 (he _ (List.getElem_mem hjl))
        by_cases hneg : r < 0
        · refine ⟨-1, shift ?_, by omega, by omega⟩
          simp only [laws_szPartS.l0]
          refine pos (nat_lt hjl) (pos (by omega) ?_)
          rw [hg]
          exact bindc hr (pos hneg (now rfl))
        · obtain ⟨r2, h1, h2, h3⟩ := ih (j + 1) r (by omega) (by omega) (by omega)
          refine ⟨r2, shift ?_, by omega, fun hn i hi hji => ?_⟩
          · simp only [laws_szPartS.l0]
            refine pos (nat_lt hjl) (pos (by omega) ?_)
            rw [hg, succ_wrap (by omega)]
            exact bindc hr (neg hneg h1)
          · by_cases e : i = j
            · subst e
              exact hrl hneg
            · exact h3 hn i hi (by omega)
    obtain ⟨r, h1, h2, h3⟩ := main l.length 0 (a - (l.length : Int)) (by omega) (by omega) (by omega)
    refine ⟨r, neg h (by simpa using h1), by omega, fun hn => ⟨by omega, fun x hx => ?_⟩⟩
    obtain ⟨i, hi, rfl⟩ := List.getElem_of_mem hx
    exact h3 hn i hi (by omega)

theorem spec_Max_eq (a b : Int) : spec_Max.f a b = some (mx a b) := by
  unfold spec_Max.f mx
  by_cases h : b > a
  · rw [if_pos h, if_pos (by omega)]
  · rw [if_neg h, if_neg (by omega)]

theorem impl_FindPath_eq (l : List S82) (a : Int) : impl_FindPath.f l a = some (impl_FindPath.from_ a l 0) := rfl
theorem findPath_range (a : Int) : ∀ (l : List S82) (i : Int), impl_FindPath.from_ a l i = -1 ∨ (i ≤ impl_FindPath.from_ a l i ∧ impl_FindPath.from_ a l i < i + l.length)
  | [], _ => .inl rfl
  | x :: r, i => by
    have := findPath_range a r (i + 1)
    simp only [impl_FindPath.from_, List.length_cons]
    split <;> omega

theorem spec_FindPath_ev (l : List S82) (a : Int) (hl : l.length ≤ 9223372036854775806) : Ev (fun k => spec_FindPath.f k l a) (impl_FindPath.from_ a l 0) := by
  unfold spec_FindPath.f
  have : ∀ d j, j + d = l.length → Ev (fun k => spec_FindPath.l0 k l a (j : Int)) (impl_FindPath.from_ a (l.drop j) (j : Int)) := by
    intro d
    induction d with
    | zero =>
      intro j hj
      refine shift ?_
      simp only [spec_FindPath.l0]
      exact neg (by omega) (now (by rw [List.drop_eq_nil_of_le (by omega)]; rfl))
    | succ d ih =>
      intro j hj
      have hjl : j < l.length := by omega
      have hg : rd_T82 l (j : Int) = l[j] := by simp [rd_T82, hjl]
      refine shift ?_
      simp only [spec_FindPath.l0]
      rw [List.drop_eq_getElem_cons hjl, hg, impl_FindPath.from_]
      refine pos (nat_lt hjl) (pos (by omega) ?_)
      by_cases h : l[j].f0 = a
      · exact pos h (now (by simp [h]))
      · refine neg h ?_
        rw [succ_wrap (by omega), if_neg (by simpa using h)]
        exact ih (j + 1) (by omega)
  simpa using this l.length 0 (by omega)

/-- As all_loop, with what the earlier places are known to be. -/
theorem all_loopI {g : Nat → Nat → Option Bool} (N : Nat) (ok : Nat → Bool) (b : Bool) (hs : ∀ j r, j < N → (∀ i, i ≤ j → ok i = true) → Ev (fun k => g k (j + 1)) r → Ev (fun k => g k j) r)
    (hf : ∀ j, j < N → (∀ i, i < j → ok i = true) → ok j = false → Ev (fun k => g k j) false) (he : (∀ i, i < N → ok i = true) → Ev (fun k => g k N) b) : Ev (fun k => g k 0) ((List.range N).all ok && b) := by
  have : ∀ d j, j + d = N → (∀ i, i < j → ok i = true) → Ev (fun k => g k j) ((List.range' j d).all ok && b) := by
    intro d
    induction d with
    | zero =>
      intro j hj hb
      have : j = N := by omega
      subst this
      simpa using he hb
    | succ d ih =>
      intro j hj hb
      rw [List.range'_succ, List.all_cons]
      cases h : ok j with
      | true =>
        have hb2 : ∀ i, i < j + 1 → ok i = true := fun i hi => by
          by_cases e : i = j
          · rw [e]; exact h
          · exact hb i (by omega)
        simpa using hs j _ (by omega) (fun i hi => hb2 i (by omega)) (ih (j + 1) (by omega) hb2)
      | false => simpa using hf j (by omega) hb h
  have h := this N 0 (by omega) (fun i hi => by omega)
  rwa [← List.range_eq_range'] at h
theorem rd_take (xs : List Int) (j k : Nat) (h : k < j) : rd (xs.take j) (k : Int) = rd xs (k : Int) := by simp [rd, List.getD_eq_getElem?_getD, List.getElem?_take, h]
theorem take_len {α : Type} (xs : List α) (j : Nat) (h : j < xs.length) : (xs.take j).length = j := by rw [List.length_take]; omega
theorem take_snoc {α : Type} (xs : List α) (j : Nat) (h : j < xs.length) : xs.take (j + 1) = xs.take j ++ [xs[j]] := by rw [List.take_succ_eq_append_getElem h]

def clearOf (a b c d : Int) : Int := if isPath a b c d = true then (if b = 1 then 2 else if b = 3 then 3 else 5) else 0
theorem clearOf_le (a b c d : Int) : clearOf a b c d ≤ 5 := by
  unfold clearOf
  split
  · split
    · omega
    · split <;> omega
  · omega
theorem spec_ClearOf_eq (a b c d : Int) : spec_ClearOf.f a b c d = some (clearOf a b c d) := by
  unfold spec_ClearOf.f clearOf
  rw [spec_IsPath_eq, Option.bind_some]
  by_cases h : isPath a b c d = true
  · rw [if_pos h, if_pos h, Option.bind_some]
    have hb : 1 ≤ b ∧ b ≤ 3 := by
      have := h
      simp only [isPath, Bool.and_eq_true, decide_eq_true_eq] at this
      exact this.2.1
    have : b = 1 ∨ b = 2 ∨ b = 3 := by omega
    rcases this with rfl | rfl | rfl <;> rfl
  · rw [if_neg h, if_neg h]

def fp (l : List S82) (a : Int) : Int := impl_FindPath.from_ a l 0
theorem fp_range (l : List S82) (a : Int) : fp l a = -1 ∨ (0 ≤ fp l a ∧ fp l a < l.length) := by
  have := findPath_range a l 0
  unfold fp
  omega
theorem from_id (a : Int) : ∀ (l : List S82) (i : Nat), impl_FindPath.from_ a l i = -1 ∨ ∃ j : Nat, impl_FindPath.from_ a l i = ((i + j : Nat) : Int) ∧ (l.getD j z82).f0 = a
  | [], _ => .inl rfl
  | x :: r, i => by
    simp only [impl_FindPath.from_]
    by_cases h : x.f0 = a
    · rw [if_pos (by simp [h])]
      exact .inr ⟨0, by simp, by simp [h]⟩
    · rw [if_neg (by simp [h])]
      rcases from_id a r (i + 1) with e | ⟨j, e1, e2⟩
      · left
        have : ((i : Int) + 1) = ((i + 1 : Nat) : Int) := by omega
        rw [this]
        exact e
      · right
        refine ⟨j + 1, ?_, by simpa using e2⟩
        have : ((i : Int) + 1) = ((i + 1 : Nat) : Int) := by omega
        rw [this, e1]
        omega
theorem fp_id (l : List S82) (a : Int) (h : ¬ fp l a < 0) : (rd_T82 l (fp l a)).f0 = a := by
  unfold fp at h ⊢
  rcases from_id a l 0 with e | ⟨j, e1, e2⟩
  · rw [show ((0 : Nat) : Int) = 0 from rfl] at e
    omega
  · rw [show ((0 : Nat) : Int) = 0 from rfl] at e1
    rw [e1]
    simpa [rd_T82] using e2
def conP (x y : S82) : Bool := conflict x.f0 x.f1 x.f2 x.f3 y.f0 y.f1 y.f2 y.f3
def clrP (x : S82) : Int := clearOf x.f0 x.f1 x.f2 x.f3
theorem clrP_range (x : S82) : 0 ≤ clrP x ∧ clrP x ≤ 5 := by
  unfold clrP clearOf
  split
  · split
    · omega
    · split <;> omega
  · omega
def togPair (l : List S82) (ids : List Int) (i k : Nat) : Bool := !conP (rd_T82 l (fp l (rd ids i))) (rd_T82 l (fp l (rd ids k)))
def togHead (l : List S82) (ids : List Int) (i : Nat) : Bool := decide (¬ fp l (rd ids i) < 0 ∧ (0 < i → rd ids ((i : Int) - 1) < rd ids i))
def togAt (l : List S82) (ids : List Int) (i : Nat) : Bool := togHead l ids i && (List.range i).all (togPair l ids i)
def together (l : List S82) (ids : List Int) : Bool := (List.range ids.length).all (togAt l ids) && arePaths l
theorem togAt_found {l : List S82} {ids : List Int} {i : Nat} (h : togAt l ids i = true) : 0 ≤ fp l (rd ids i) ∧ fp l (rd ids i) < l.length := by
  simp only [togAt, togHead, Bool.and_eq_true, decide_eq_true_eq] at h
  have := fp_range l (rd ids i)
  omega
theorem together_found {l : List S82} {ids : List Int} (h : together l ids = true) (n : Int) (hn : n ∈ ids) : 0 ≤ fp l n ∧ fp l n < l.length := by
  simp only [together, Bool.and_eq_true] at h
  obtain ⟨i, hi, rfl⟩ := List.getElem_of_mem hn
  have := togAt_found (List.all_eq_true.1 h.1 i (List.mem_range.2 hi))
  rwa [rd_get ids i hi] at this

theorem spec_IsTogether_ev (l : List S82) (ids : List Int) (hl : l.length ≤ 1048576) (hi : ids.length ≤ 1048576) : Ev (fun k => spec_IsTogether.f k l ids) (together l ids) := by
  unfold spec_IsTogether.f together
  have find : ∀ n, Ev (fun k => spec_FindPath.f k l n) (fp l n) := fun n => spec_FindPath_ev l n (by omega)
  have yes : ∀ i x : Int, Ev (fun k => spec_IsTogether.j1 k l ids i x true) false := by
    intro i x
    refine shift ?_
    simp only [spec_IsTogether.j1]
    exact pos trivial (now rfl)
  have head : ∀ (j : Nat) (r : Bool), j < ids.length → togHead l ids j = true → Ev (fun k => spec_IsTogether.l1 k l ids (j : Int) (fp l (rd ids j)) 0) r → Ev (fun k => spec_IsTogether.l0 k l ids (j : Int)) r := by
    intro j r hj ok h
    simp only [togHead, decide_eq_true_eq] at ok
    have no : Ev (fun k => spec_IsTogether.j1 k l ids (j : Int) (fp l (rd ids j)) false) r := by
      refine shift ?_
      simp only [spec_IsTogether.j1]
      exact neg (by decide) h
    refine shift ?_
    simp only [spec_IsTogether.l0]
    refine pos (nat_lt hj) (pos (by omega) (Ev.bind (find _) (neg ok.1 ?_)))
    by_cases h0 : (j : Int) > 0
    · rw [w64 (x := (j : Int) - 1) (by omega) (by omega)]
      refine pos h0 (pos (by omega) (pos (by omega) ?_))
      rw [show decide (rd ids ((j : Int) - 1) ≥ rd ids (j : Int)) = false from decide_eq_false (by have := ok.2 (by omega); omega)]
      exact no
    · exact neg h0 no
  have good : ∀ (i j : Nat) (r : Bool), i < ids.length → (∀ q, q < i → 0 ≤ fp l (rd ids q) ∧ fp l (rd ids q) < l.length) → (0 ≤ fp l (rd ids i) ∧ fp l (rd ids i) < l.length) → j < i → togPair l ids i j = true →
      Ev (fun k => spec_IsTogether.l1 k l ids (i : Int) (fp l (rd ids i)) ((j + 1 : Nat) : Int)) r → Ev (fun k => spec_IsTogether.l1 k l ids (i : Int) (fp l (rd ids i)) (j : Int)) r := by
    intro i j r hil hq hf hj ok h
    have hf2 := hq j hj
    refine shift ?_
    simp only [spec_IsTogether.l1]
    rw [succ_wrap (by omega)]
    refine pos (nat_lt hj) (pos hf.1 (pos hf.2 (pos (by omega) (pos (by omega) (Ev.bind (find _) (pos hf2.1 (pos hf2.2 (Ev.bind (spec_Conflict_ev _ _ _ _ _ _ _ _) (neg ?_ h)))))))))
    simpa [togPair, conP] using ok
  have bad : ∀ (i j : Nat), i < ids.length → (∀ q, q < i → 0 ≤ fp l (rd ids q) ∧ fp l (rd ids q) < l.length) → (0 ≤ fp l (rd ids i) ∧ fp l (rd ids i) < l.length) → j < i → togPair l ids i j = false →
      Ev (fun k => spec_IsTogether.l1 k l ids (i : Int) (fp l (rd ids i)) (j : Int)) false := by
    intro i j hil hq hf hj ok
    have hf2 := hq j hj
    refine shift ?_
    simp only [spec_IsTogether.l1]
    refine pos (nat_lt hj) (pos hf.1 (pos hf.2 (pos (by omega) (pos (by omega) (Ev.bind (find _) (pos hf2.1 (pos hf2.2 (Ev.bind (spec_Conflict_ev _ _ _ _ _ _ _ _) (pos ?_ (now rfl))))))))))
    simpa [togPair, conP] using ok
  refine all_loopI (g := fun k j => spec_IsTogether.l0 k l ids (j : Int)) ids.length (togAt l ids) (arePaths l) ?_ ?_ ?_
  · intro j r hj ok h
    have okj := ok j (Nat.le_refl _)
    have hf := togAt_found okj
    simp only [togAt, Bool.and_eq_true] at okj
    refine head j r hj okj.1 ?_
    refine ok_loop (g := fun k i => spec_IsTogether.l1 k l ids (j : Int) (fp l (rd ids j)) (i : Int)) j _ okj.2 (fun i r hi o g => good j i r hj (fun q hq => togAt_found (ok q (by omega))) hf hi o g) ?_
    refine shift ?_
    simp only [spec_IsTogether.l1]
    refine neg (nat_ge (Nat.le_refl _)) ?_
    rw [succ_wrap (by omega)]
    exact h
  · intro j hj ok okj
    by_cases hh : togHead l ids j = true
    · have hall : ¬ (List.range j).all (togPair l ids j) = true := by
        intro g
        rw [togAt, hh, g] at okj
        exact absurd okj (by decide)
      have hf : 0 ≤ fp l (rd ids j) ∧ fp l (rd ids j) < l.length := by
        have := hh
        simp only [togHead, decide_eq_true_eq] at this
        have := fp_range l (rd ids j)
        omega
      refine head j false hj hh ?_
      exact bad_loop (g := fun k i => spec_IsTogether.l1 k l ids (j : Int) (fp l (rd ids j)) (i : Int)) j _ false hall (fun i r hi o g => good j i r hj (fun q hq => togAt_found (ok q hq)) hf hi o g) (fun i hi o => bad j i hj (fun q hq => togAt_found (ok q hq)) hf hi o)
    · refine shift ?_
      simp only [spec_IsTogether.l0]
      refine pos (nat_lt hj) (pos (by omega) (Ev.bind (find _) ?_))
      by_cases h1 : fp l (rd ids j) < 0
      · exact pos h1 (yes _ _)
      · have h2 : ¬ (0 < j → rd ids ((j : Int) - 1) < rd ids j) := fun g => hh (by simp only [togHead]; exact decide_eq_true ⟨h1, g⟩)
        refine neg h1 (pos (by omega) ?_)
        rw [w64 (x := (j : Int) - 1) (by omega) (by omega)]
        refine pos (by omega) (pos (by omega) ?_)
        rw [show decide (rd ids ((j : Int) - 1) ≥ rd ids (j : Int)) = true from decide_eq_true (by omega)]
        exact yes _ _
  · intro _
    refine shift ?_
    simp only [spec_IsTogether.l0]
    exact neg (nat_ge (Nat.le_refl _)) (Ev.bind (spec_ArePaths_ev l (by omega)) (now rfl))

def notWalk (l : List S82) (st : List Int) (i : Nat) : Bool := !decide (fp l (rd st i) ≥ 0 ∧ (rd_T82 l (fp l (rd st i))).f1 = 2)
def leastG (l : List S82) (st : List Int) : Int := if (List.range st.length).all (notWalk l st) = true then 5 else 7
theorem leastG_range (l : List S82) (st : List Int) : 5 ≤ leastG l st := by unfold leastG; split <;> omega
theorem spec_LeastGreen_ev (l : List S82) (st : List Int) (hl : l.length ≤ 1048576) (hs : st.length ≤ 1048576) : Ev (fun k => spec_LeastGreen.f k l st) (leastG l st) := by
  unfold spec_LeastGreen.f leastG
  have find : ∀ n, Ev (fun k => spec_FindPath.f k l n) (fp l n) := fun n => spec_FindPath_ev l n (by omega)
  have good : ∀ j r, j < st.length → notWalk l st j = true → Ev (fun k => spec_LeastGreen.l0 k l st ((j + 1 : Nat) : Int)) r → Ev (fun k => spec_LeastGreen.l0 k l st (j : Int)) r := by
    intro j r hj ok h
    simp only [notWalk, Bool.not_eq_true', decide_eq_false_iff_not] at ok
    have := fp_range l (rd st j)
    refine shift ?_
    simp only [spec_LeastGreen.l0]
    rw [succ_wrap (by omega)]
    refine pos (nat_lt hj) (pos (by omega) (Ev.bind (find _) ?_))
    by_cases h0 : fp l (rd st j) ≥ 0
    · exact pos h0 (pos h0 (pos (by omega) (neg (fun g => ok ⟨h0, g⟩) h)))
    · exact neg h0 h
  by_cases h : (List.range st.length).all (notWalk l st) = true
  · rw [if_pos h]
    refine ok_loop (g := fun k j => spec_LeastGreen.l0 k l st (j : Int)) st.length _ h good ?_
    refine shift ?_
    simp only [spec_LeastGreen.l0]
    exact neg (nat_ge (Nat.le_refl _)) (now rfl)
  · rw [if_neg h]
    refine bad_loop (g := fun k j => spec_LeastGreen.l0 k l st (j : Int)) st.length _ 7 h good ?_
    intro j hj ok
    simp only [notWalk, Bool.not_eq_false', decide_eq_true_eq] at ok
    have := fp_range l (rd st j)
    refine shift ?_
    simp only [spec_LeastGreen.l0]
    exact pos (nat_lt hj) (pos (by omega) (Ev.bind (find _) (pos ok.1 (pos ok.1 (pos (by omega) (pos ok.2 (now rfl)))))))

theorem spec_l6Has_ev (l : List Int) (a : Int) (hl : l.length ≤ 9223372036854775806) : Ev (fun k => spec_l6Has.f k l a) (decide (a ∈ l)) := by
  unfold spec_l6Has.f
  have : ∀ d j, j + d = l.length → Ev (fun k => spec_l6Has.l0 k l a (j : Int)) (decide (a ∈ l.drop j)) := by
    intro d
    induction d with
    | zero =>
      intro j hj
      refine shift ?_
      simp only [spec_l6Has.l0]
      exact neg (by omega) (now (by rw [List.drop_eq_nil_of_le (by omega)]; simp))
    | succ d ih =>
      intro j hj
      have hjl : j < l.length := by omega
      refine shift ?_
      simp only [spec_l6Has.l0]
      rw [List.drop_eq_getElem_cons hjl, rd_get l j hjl]
      refine pos (nat_lt hjl) (pos (by omega) ?_)
      by_cases h : l[j] = a
      · exact pos h (now (by simp [h]))
      · refine neg h ?_
        rw [succ_wrap (by omega)]
        have e : decide (a ∈ l[j] :: l.drop (j + 1)) = decide (a ∈ l.drop (j + 1)) := decide_eq_decide.2 ⟨fun g => (List.mem_cons.1 g).resolve_left (fun x => h x.symm), fun g => List.mem_cons_of_mem _ g⟩
        rw [e]
        exact ih (j + 1) (by omega)
  simpa using this l.length 0 (by omega)

def rowL (ss : List (List Int)) (i : Int) : List Int := rd_L2 ss i
theorem rowL_get (ss : List (List Int)) (i : Nat) (h : i < ss.length) : rowL ss i = ss[i] := by simp [rowL, rd_L2, h]
def covAt (l : List S82) (ss : List (List Int)) (i : Nat) : Bool := ss.any fun s => decide ((rd_T82 l i).f0 ∈ s)
def covers (l : List S82) (ss : List (List Int)) : Bool := (List.range ss.length).all (fun k => together l (rowL ss k)) && ((List.range l.length).all (covAt l ss) && arePaths l)
theorem rowL_short (ss : List (List Int)) (hs : ∀ x ∈ ss, x.length ≤ 1048576) (i : Nat) (h : i < ss.length) : (rowL ss i).length ≤ 1048576 := by
  rw [rowL_get ss i h]
  exact hs _ (List.getElem_mem h)
theorem spec_Covers_ev (l : List S82) (ss : List (List Int)) (hl : l.length ≤ 1048576) (hn : ss.length ≤ 1048576) (hs : ∀ x ∈ ss, x.length ≤ 1048576) : Ev (fun k => spec_Covers.f k l ss) (covers l ss) := by
  unfold spec_Covers.f covers
  have inner : ∀ (i : Nat) (r : Bool), i < l.length → Ev (fun k => spec_Covers.l2 k l ss (i : Int) (covAt l ss i) (ss.length : Int)) r → Ev (fun k => spec_Covers.l2 k l ss (i : Int) false 0) r := by
    intro i r hi h
    refine loop (g := fun k j => spec_Covers.l2 k l ss (i : Int) ((ss.take j).any fun s => decide ((rd_T82 l i).f0 ∈ s)) (j : Int)) ss.length ?_ ?_ |> (fun h => by simpa using h)
    · intro j hj hh
      refine shift ?_
      simp only [spec_Covers.l2]
      rw [succ_wrap (by omega)]
      rw [take_snoc ss j hj, List.any_append] at hh
      refine pos (nat_lt hj) ?_
      by_cases c : ((ss.take j).any fun s => decide ((rd_T82 l i).f0 ∈ s)) = true
      · rw [c, Bool.true_or] at hh
        exact pos c hh
      · have c2 : ((ss.take j).any fun s => decide ((rd_T82 l i).f0 ∈ s)) = false := by simpa using c
        rw [c2, Bool.false_or] at hh
        have hx := rowL_short ss hs j hj
        refine neg c (pos (by omega) (pos (by omega) (pos (by omega) (Ev.bind (spec_l6Has_ev (rowL ss j) _ (by omega)) ?_))))
        rw [rowL_get ss j hj]
        simpa using hh
    · rw [List.take_length]
      exact h
  refine all_loop (g := fun k j => spec_Covers.l0 k l ss (j : Int)) ss.length (fun k => together l (rowL ss k)) _ ?_ ?_ ?_
  · intro j r hj ok h
    refine shift ?_
    simp only [spec_Covers.l0]
    rw [succ_wrap (by omega)]
    exact pos (nat_lt hj) (pos (by omega) (Ev.bind (spec_IsTogether_ev l (rowL ss j) hl (rowL_short ss hs j hj)) (pos ok h)))
  · intro j hj ok
    refine shift ?_
    simp only [spec_Covers.l0]
    exact pos (nat_lt hj) (pos (by omega) (Ev.bind (spec_IsTogether_ev l (rowL ss j) hl (rowL_short ss hs j hj)) (neg (by rw [ok]; decide) (now rfl))))
  · refine shift ?_
    simp only [spec_Covers.l0]
    refine neg (nat_ge (Nat.le_refl _)) ?_
    refine all_loop (g := fun k i => spec_Covers.l1 k l ss (i : Int)) l.length (covAt l ss) _ ?_ ?_ ?_
    · intro i r hi ok h
      refine shift ?_
      simp only [spec_Covers.l1]
      refine pos (nat_lt hi) (inner i r hi (shift ?_))
      simp only [spec_Covers.l2]
      rw [succ_wrap (j := i) (by omega)]
      exact neg (nat_ge (Nat.le_refl _)) (pos ok h)
    · intro i hi ok
      refine shift ?_
      simp only [spec_Covers.l1]
      refine pos (nat_lt hi) (inner i false hi (shift ?_))
      simp only [spec_Covers.l2]
      exact neg (nat_ge (Nat.le_refl _)) (neg (by rw [ok]; decide) (now rfl))
    · refine shift ?_
      simp only [spec_Covers.l1]
      exact neg (nat_ge (Nat.le_refl _)) (Ev.bind (spec_ArePaths_ev l (by omega)) (now rfl))

theorem rdPart (p : List S96) (j : Nat) (h : j < p.length) : rd_T96 p (j : Int) = p[j] := by simp [rd_T96, h]
theorem spec_l8Stages_ev (p : List S96) (hp : p.length ≤ 1048576) : Ev (fun k => spec_l8Stages.f k p) (p.map (·.f0)) := by
  unfold spec_l8Stages.f
  refine loop (g := fun k j => spec_l8Stages.l0 k p ((p.take j).map (·.f0)) (j : Int)) p.length ?_ ?_ |> (fun h => by simpa using h)
  · intro j hj h
    refine shift ?_
    simp only [spec_l8Stages.l0]
    rw [succ_wrap (by omega), rdPart p j hj]
    rw [take_snoc p j hj, List.map_append] at h
    exact pos (nat_lt hj) (pos (by omega) (pos (by simp; omega) h))
  · refine shift ?_
    simp only [spec_l8Stages.l0]
    exact neg (nat_ge (Nat.le_refl _)) (now (by rw [List.take_length]))

def partOk (l : List S82) (p : List S96) (i : Nat) : Bool :=
  decide (¬ ((rd_T96 p i).f0.length : Int) = 0) && (together l (rd_T96 p i).f0 && decide (leastG l (rd_T96 p i).f0 ≤ (rd_T96 p i).f1 ∧ (rd_T96 p i).f1 ≤ 60))
def isPlan (l : List S82) (p : List S96) : Bool := decide (1 ≤ (p.length : Int) ∧ (p.length : Int) ≤ 6) && ((List.range p.length).all (partOk l p) && covers l (p.map (·.f0)))
theorem part_short (p : List S96) (hs : ∀ x ∈ p, x.f0.length ≤ 1048576) (i : Nat) (h : i < p.length) : (rd_T96 p i).f0.length ≤ 1048576 := by
  rw [rdPart p i h]
  exact hs _ (List.getElem_mem h)
theorem stages_short (p : List S96) (hs : ∀ x ∈ p, x.f0.length ≤ 1048576) : ∀ x ∈ p.map (·.f0), x.length ≤ 1048576 := by
  intro x hx
  obtain ⟨y, hy, rfl⟩ := List.mem_map.1 hx
  exact hs y hy
theorem spec_IsPlan_ev (l : List S82) (p : List S96) (hl : l.length ≤ 1048576) (hp : p.length ≤ 1048576) (hs : ∀ x ∈ p, x.f0.length ≤ 1048576) : Ev (fun k => spec_IsPlan.f k l p) (isPlan l p) := by
  unfold spec_IsPlan.f isPlan
  refine bindc (spec_l1In_eq _ _ _) ?_
  by_cases hr : 1 ≤ (p.length : Int) ∧ (p.length : Int) ≤ 6
  · rw [decide_eq_true hr, Bool.true_and]
    refine pos rfl (all_loop (g := fun k j => spec_IsPlan.l0 k l p (j : Int)) p.length (partOk l p) _ ?_ ?_ ?_)
    · intro j r hj ok h
      simp only [partOk, Bool.and_eq_true, decide_eq_true_eq] at ok
      have hx := part_short p hs j hj
      refine shift ?_
      simp only [spec_IsPlan.l0]
      rw [succ_wrap (by omega)]
      exact pos (nat_lt hj) (pos (by omega) (neg ok.1 (Ev.bind (spec_IsTogether_ev l _ hl hx) (pos ok.2.1 (Ev.bind (spec_LeastGreen_ev l _ hl hx) (bindc (spec_l1In_eq _ _ _) (pos (decide_eq_true ok.2.2) h)))))))
    · intro j hj ok
      have hx := part_short p hs j hj
      refine shift ?_
      simp only [spec_IsPlan.l0]
      refine pos (nat_lt hj) (pos (by omega) ?_)
      by_cases h1 : ((rd_T96 p j).f0.length : Int) = 0
      · exact pos h1 (now rfl)
      refine neg h1 (Ev.bind (spec_IsTogether_ev l _ hl hx) ?_)
      by_cases h2 : together l (rd_T96 p j).f0 = true
      · have h3 : decide (leastG l (rd_T96 p j).f0 ≤ (rd_T96 p j).f1 ∧ (rd_T96 p j).f1 ≤ 60) = false := by
          rw [partOk, decide_eq_true h1, h2, Bool.true_and, Bool.true_and] at ok
          exact ok
        exact pos h2 (Ev.bind (spec_LeastGreen_ev l _ hl hx) (bindc (spec_l1In_eq _ _ _) (neg (by rw [h3]; decide) (now rfl))))
      · exact neg h2 (now rfl)
    · refine shift ?_
      simp only [spec_IsPlan.l0]
      exact neg (nat_ge (Nat.le_refl _)) (Ev.bind (spec_l8Stages_ev p hp) (Ev.bind (spec_Covers_ev l _ hl (by simpa using hp) (stages_short p hs)) (now rfl)))
  · rw [decide_eq_false hr, Bool.false_and]
    exact neg (by decide) (now rfl)
theorem isPlan_part {l : List S82} {p : List S96} (h : isPlan l p = true) : (1 ≤ p.length ∧ p.length ≤ 6) ∧ ∀ i, i < p.length → 5 ≤ (rd_T96 p i).f1 ∧ (rd_T96 p i).f1 ≤ 60 ∧ together l (rd_T96 p i).f0 = true := by
  simp only [isPlan, Bool.and_eq_true, decide_eq_true_eq] at h
  refine ⟨by omega, fun i hi => ?_⟩
  have := List.all_eq_true.1 h.2.1 i (List.mem_range.2 hi)
  simp only [partOk, Bool.and_eq_true, decide_eq_true_eq] at this
  have h5 := leastG_range l (rd_T96 p i).f0
  exact ⟨by omega, this.2.2.2, this.2.1⟩

def closesL (a b : List Int) : List Int := a.filter fun n => !decide (n ∈ b)
theorem closesL_mem {a b : List Int} {n : Int} (h : n ∈ closesL a b) : n ∈ a := (List.mem_filter.1 h).1
theorem closesL_length (a b : List Int) : (closesL a b).length ≤ a.length := List.length_filter_le _ _
theorem spec_Closes_ev (a b : List Int) (ha : a.length ≤ 1048576) (hb : b.length ≤ 1048576) : Ev (fun k => spec_Closes.f k a b) (closesL a b) := by
  unfold spec_Closes.f
  refine loop (g := fun k j => spec_Closes.l0 k a b (closesL (a.take j) b) (j : Int)) (r := closesL a b) a.length ?_ ?_ |> (fun h => by simpa [closesL] using h)
  · intro j hj h
    refine shift ?_
    simp only [spec_Closes.l0]
    rw [succ_wrap (by omega), rd_get a j hj]
    rw [closesL, take_snoc a j hj, List.filter_append] at h
    refine pos (nat_lt hj) (pos (by omega) (Ev.bind (spec_l6Has_ev b _ (by omega)) ?_))
    by_cases c : a[j] ∈ b
    · rw [List.filter_cons, List.filter_nil, decide_eq_true c] at h
      refine pos (decide_eq_true c) ?_
      simpa [closesL] using h
    · rw [List.filter_cons, List.filter_nil, decide_eq_false c] at h
      have hl := closesL_length (a.take j) b
      rw [take_len a j hj] at hl
      refine neg (by simpa using c) (pos (by omega) ?_)
      simpa [closesL] using h
  · refine shift ?_
    simp only [spec_Closes.l0]
    exact neg (nat_ge (Nat.le_refl _)) (now (by rw [List.take_length]))

def clrStep (l : List S82) (i : Int) (n : Int) (k : Int) : Int := if conP (rd_T82 l (fp l i)) (rd_T82 l (fp l k)) = true then mx n (clrP (rd_T82 l (fp l i))) else n
def clrIn (l : List S82) (ys : List Int) (n : Int) (i : Int) : Int := ys.foldl (clrStep l i) n
def clearB (l : List S82) (a b : List Int) : Int := if together l a = true ∧ together l b = true then (closesL a b).foldl (clrIn l (closesL b a)) 0 else 0
theorem foldl_inv {α β : Type} (P : β → Prop) (f : β → α → β) (hf : ∀ b a, P b → P (f b a)) : ∀ (l : List α) (b : β), P b → P (l.foldl f b)
  | [], _, h => h
  | x :: r, b, h => foldl_inv P f hf r (f b x) (hf b x h)
theorem clearB_range (l : List S82) (a b : List Int) : 0 ≤ clearB l a b ∧ clearB l a b ≤ 5 := by
  have h1 : ∀ i n k, (0 ≤ n ∧ n ≤ 5) → 0 ≤ clrStep l i n k ∧ clrStep l i n k ≤ 5 := by
    intro i n k h
    have := clrP_range (rd_T82 l (fp l i))
    unfold clrStep mx
    split
    · split <;> omega
    · exact h
  unfold clearB
  split
  · refine foldl_inv (fun n => 0 ≤ n ∧ n ≤ 5) _ (fun n i h => ?_) _ _ (by omega)
    exact foldl_inv (fun n => 0 ≤ n ∧ n ≤ 5) _ (fun n k h => h1 i n k h) _ _ h
  · omega
theorem foldl_take {α β : Type} (f : β → α → β) (b : β) (l : List α) (j : Nat) (h : j < l.length) : (l.take (j + 1)).foldl f b = f ((l.take j).foldl f b) l[j] := by
  rw [take_snoc l j h, List.foldl_append]
  rfl
theorem spec_ClearBetween_ev (l : List S82) (a b : List Int) (hl : l.length ≤ 1048576) (ha : a.length ≤ 1048576) (hb : b.length ≤ 1048576) : Ev (fun k => spec_ClearBetween.f k l a b) (clearB l a b) := by
  unfold spec_ClearBetween.f clearB
  have find : ∀ n, Ev (fun k => spec_FindPath.f k l n) (fp l n) := fun n => spec_FindPath_ev l n (by omega)
  refine Ev.bind (spec_Closes_ev a b ha hb) (Ev.bind (spec_Closes_ev b a hb ha) ?_)
  have hx := closesL_length a b
  have hy := closesL_length b a
  have ta := spec_IsTogether_ev l a hl ha
  have tb := spec_IsTogether_ev l b hl hb
  have stop : ∀ x y : Int, Ev (fun k => spec_ClearBetween.j1 k l a b x (closesL a b) (closesL b a) y false) x := by
    intro x y
    refine shift ?_
    simp only [spec_ClearBetween.j1]
    exact neg (by decide) (now rfl)
  by_cases h : together l a = true ∧ together l b = true
  · rw [if_pos h]
    rw [h.1] at ta
    rw [h.2] at tb
    have fa : ∀ n, n ∈ closesL a b → 0 ≤ fp l n ∧ fp l n < l.length := fun n hn => together_found h.1 n (closesL_mem hn)
    have fb : ∀ n, n ∈ closesL b a → 0 ≤ fp l n ∧ fp l n < l.length := fun n hn => together_found h.2 n (closesL_mem hn)
    generalize closesL a b = xs at hx stop fa ⊢
    generalize closesL b a = ys at hy stop fb ⊢
    refine loop (g := fun k j => spec_ClearBetween.l0 k l a b ((xs.take j).foldl (clrIn l ys) 0) xs ys (j : Int)) (r := xs.foldl (clrIn l ys) 0) xs.length ?_ ?_ |> (fun h => by simpa using h)
    · intro j hj hh
      rw [foldl_take _ _ _ _ hj] at hh
      generalize (xs.take j).foldl (clrIn l ys) 0 = n at hh ⊢
      have hfa := fa _ (List.getElem_mem hj)
      refine shift ?_
      simp only [spec_ClearBetween.l0]
      refine pos (nat_lt hj) (Ev.bind ta (pos rfl (Ev.bind tb (shift ?_))))
      simp only [spec_ClearBetween.j1]
      refine pos trivial ?_
      refine loop (g := fun k i => spec_ClearBetween.l1 k l a b ((ys.take i).foldl (clrStep l xs[j]) n) xs ys (j : Int) (i : Int)) (r := xs.foldl (clrIn l ys) 0) ys.length ?_ ?_ |> (fun h => by simpa using h)
      · intro i hi h2
        rw [foldl_take _ _ _ _ hi] at h2
        generalize (ys.take i).foldl (clrStep l xs[j]) n = m at h2 ⊢
        have hfb := fb _ (List.getElem_mem hi)
        refine shift ?_
        simp only [spec_ClearBetween.l1]
        rw [succ_wrap (j := i) (by omega), rd_get xs j hj, rd_get ys i hi]
        refine pos (nat_lt hi) (pos (by omega) (pos (nat_lt hj) (Ev.bind (find _) (pos hfa.1 (pos hfa.2 (pos (by omega) (Ev.bind (find _) (pos hfb.1 (pos hfb.2 (Ev.bind (spec_Conflict_ev _ _ _ _ _ _ _ _) ?_))))))))))
        rw [clrStep] at h2
        by_cases c : conP (rd_T82 l (fp l xs[j])) (rd_T82 l (fp l ys[i])) = true
        · rw [if_pos c] at h2
          exact pos c (bindc (spec_ClearOf_eq _ _ _ _) (bindc (spec_Max_eq _ _) h2))
        · rw [if_neg c] at h2
          exact neg c h2
      · refine shift ?_
        simp only [spec_ClearBetween.l1]
        rw [succ_wrap (j := j) (by omega), List.take_length]
        exact neg (nat_ge (Nat.le_refl _)) hh
    · refine shift ?_
      simp only [spec_ClearBetween.l0]
      rw [List.take_length]
      exact neg (nat_ge (Nat.le_refl _)) (stop _ _)
  · rw [if_neg h]
    refine shift ?_
    simp only [spec_ClearBetween.l0]
    by_cases c : (0 : Int) < ((closesL a b).length : Int)
    · refine pos c (Ev.bind ta ?_)
      by_cases c1 : together l a = true
      · refine pos c1 (Ev.bind tb ?_)
        rw [show together l b = false by simpa using fun g => h ⟨c1, g⟩]
        exact stop _ _
      · exact neg c1 (stop _ _)
    · exact neg c (stop _ _)

def nxt (p : List S96) (i : Nat) : Nat := (i + 1) % p.length
def longP (l : List S82) (p : List S96) (i : Nat) : Int := (rd_T96 p i).f1 + clearB l (rd_T96 p i).f0 (rd_T96 p (nxt p i)).f0
theorem nxt_lt (p : List S96) (i : Nat) (h : i < p.length) : nxt p i < p.length := Nat.mod_lt _ (by omega)
theorem nxt_tmod (p : List S96) (i : Nat) (h : i < 1048576) : Int.tmod (wrap64 ((i : Int) + 1)) (p.length : Int) = ((nxt p i : Nat) : Int) := by
  rw [succ_wrap (by omega)]
  exact (Int.ofNat_tmod (i + 1) p.length).symm
theorem longP_range {l : List S82} {p : List S96} (h : isPlan l p = true) (i : Nat) (hi : i < p.length) : 5 ≤ longP l p i ∧ longP l p i ≤ 65 := by
  have h1 := (isPlan_part h).2 i hi
  have h2 := clearB_range l (rd_T96 p i).f0 (rd_T96 p (nxt p i)).f0
  unfold longP
  omega
theorem spec_l8Long_ev (l : List S82) (p : List S96) (hl : l.length ≤ 1048576) (hs : ∀ x ∈ p, x.f0.length ≤ 1048576) (h : isPlan l p = true) (i : Nat) (hi : i < p.length) : Ev (fun k => spec_l8Long.f k l p (i : Int)) (longP l p i) := by
  have hp := (isPlan_part h).1
  have hr := longP_range h i hi
  have hn := nxt_lt p i hi
  unfold spec_l8Long.f
  rw [nxt_tmod p i (by omega)]
  refine pos (by omega) (pos (by omega) (neg (by omega) (pos (by omega) (pos (by omega) (Ev.bind (spec_ClearBetween_ev l _ _ hl (part_short p hs i hi) (part_short p hs _ hn)) (now ?_))))))
  exact w64 (by unfold longP at hr; omega) (by unfold longP at hr; omega)

/-- How long d parts from the i-th on take. -/
def sumF (L : Nat → Int) : Nat → Nat → Int
  | 0, _ => 0
  | d + 1, i => L i + sumF L d (i + 1)
/-- The part, and the second in it, that lies s seconds behind the begin of the i-th. -/
def partF (L : Nat → Int) : Nat → Nat → Int → Nat × Int
  | 0, i, s => (i, s)
  | d + 1, i, s => if s < L i then (i, s) else partF L d (i + 1) (s - L i)
theorem sumF_range {L : Nat → Int} {n : Nat} (h : ∀ i, i < n → 5 ≤ L i ∧ L i ≤ 65) : ∀ d i, i + d = n → 5 * (d : Int) ≤ sumF L d i ∧ sumF L d i ≤ 65 * (d : Int)
  | 0, _, _ => by simp [sumF]
  | d + 1, i, hi => by
    have h1 := h i (by omega)
    have h2 := sumF_range h d (i + 1) (by omega)
    simp only [sumF]
    omega
theorem partF_spec {L : Nat → Int} : ∀ d i s, 0 ≤ s → s < sumF L d i → i ≤ (partF L d i s).1 ∧ (partF L d i s).1 < i + d ∧ 0 ≤ (partF L d i s).2 ∧ (partF L d i s).2 < L (partF L d i s).1
  | 0, _, s, h0, h1 => by simp only [sumF] at h1; omega
  | d + 1, i, s, h0, h1 => by
    simp only [sumF] at h1
    simp only [partF]
    by_cases c : s < L i
    · rw [if_pos c]
      exact ⟨Nat.le_refl _, by omega, h0, c⟩
    · rw [if_neg c]
      have := partF_spec (L := L) d (i + 1) (s - L i) (by omega) (by omega)
      omega
def cycP (l : List S82) (p : List S96) : Int := sumF (longP l p) p.length 0
theorem cycP_range {l : List S82} {p : List S96} (h : isPlan l p = true) : 5 ≤ cycP l p ∧ cycP l p ≤ 390 := by
  have h1 := (isPlan_part h).1
  have := sumF_range (longP_range h) p.length 0 (by omega)
  unfold cycP
  omega
def partT (l : List S82) (p : List S96) (t : Int) : Nat × Int := partF (longP l p) p.length 0 t
theorem partT_spec {l : List S82} {p : List S96} {t : Int} (h0 : 0 ≤ t) (h1 : t < cycP l p) : (partT l p t).1 < p.length ∧ 0 ≤ (partT l p t).2 ∧ (partT l p t).2 < longP l p (partT l p t).1 := by
  have := partF_spec (L := longP l p) p.length 0 t h0 h1
  unfold partT
  omega
/-- A light, so many seconds behind the begin of a part. -/
def lightP (l : List S82) (p : List S96) (id : Int) (r : Nat × Int) : Int :=
  if id ∈ (rd_T96 p r.1).f0 then (if r.2 < (rd_T96 p r.1).f1 ∨ id ∈ (rd_T96 p (nxt p r.1)).f0 then 1 else if r.2 < (rd_T96 p r.1).f1 + clrP (rd_T82 l (fp l id)) then 2 else 0) else 0
def rowF (L : Nat → Int) (f : Nat × Int → Int) : Nat → Nat → List Int
  | 0, _ => []
  | d + 1, i => (List.range (L i).toNat).map (fun (s : Nat) => f (i, (s : Int))) ++ rowF L f d (i + 1)
theorem rowF_length {L : Nat → Int} (f : Nat × Int → Int) : ∀ d i, (∀ q, i ≤ q → q < i + d → 0 ≤ L q) → ((rowF L f d i).length : Int) = sumF L d i
  | 0, _, _ => rfl
  | d + 1, i, h => by
    have h1 := h i (Nat.le_refl _) (by omega)
    have := rowF_length f d (i + 1) (fun q h1 h2 => h q (by omega) (by omega))
    simp only [rowF, sumF, List.length_append, List.length_map, List.length_range]
    omega
theorem rowF_get {L : Nat → Int} (f : Nat × Int → Int) : ∀ d i (t : Nat), (∀ q, i ≤ q → q < i + d → 0 ≤ L q) → (t : Int) < sumF L d i → (rowF L f d i)[t]? = some (f (partF L d i (t : Int)))
  | 0, _, t, _, h => by simp only [sumF] at h; omega
  | d + 1, i, t, h, ht => by
    have h1 := h i (Nat.le_refl _) (by omega)
    simp only [sumF] at ht
    simp only [rowF, partF]
    by_cases c : (t : Int) < L i
    · rw [if_pos c, List.getElem?_append_left (by simp; omega)]
      have : t < (L i).toNat := by omega
      simp [this]
    · rw [if_neg c, List.getElem?_append_right (by simp; omega)]
      have e : (t : Int) - L i = ((t - (L i).toNat : Nat) : Int) := by omega
      rw [e, ← rowF_get f d (i + 1) (t - (L i).toNat) (fun q h1 h2 => h q (by omega) (by omega)) (by omega)]
      simp
def rowP (l : List S82) (p : List S96) (id : Int) : List Int := (List.range (cycP l p).toNat).map fun (t : Nat) => lightP l p id (partT l p (t : Int))
theorem rowP_eq {l : List S82} {p : List S96} (h : isPlan l p = true) (id : Int) : rowF (longP l p) (lightP l p id) p.length 0 = rowP l p id := by
  have hL : ∀ q, 0 ≤ q → q < 0 + p.length → 0 ≤ longP l p q := fun q _ h2 => by have := longP_range h q (by omega); omega
  have hlen := rowF_length (lightP l p id) p.length 0 hL
  apply List.ext_getElem?
  intro t
  by_cases c : (t : Int) < cycP l p
  · rw [rowF_get _ _ _ _ hL c, rowP, List.getElem?_map, List.getElem?_range (by omega)]
    rfl
  · have : cycP l p = sumF (longP l p) p.length 0 := rfl
    rw [List.getElem?_eq_none (by omega), List.getElem?_eq_none (by simp [rowP]; omega)]
theorem rowP_length (l : List S82) (p : List S96) (id : Int) : (rowP l p id).length = (cycP l p).toNat := by simp [rowP]
theorem rowP_rd (l : List S82) (p : List S96) (id : Int) (t : Nat) (h : t < (cycP l p).toNat) : rd (rowP l p id) (t : Int) = lightP l p id (partT l p (t : Int)) := by
  rw [rd_get _ _ (by rw [rowP_length]; exact h)]
  simp [rowP]

theorem spec_l9Light_ev (l : List S82) (p : List S96) (hl : l.length ≤ 1048576) (hs : ∀ x ∈ p, x.f0.length ≤ 1048576) (h : isPlan l p = true) (id : Int) (hf : ¬ fp l id < 0) (i : Nat) (hi : i < p.length) (s : Int) :
    Ev (fun k => spec_l9Light.f k l p (i : Int) s id) (lightP l p id (i, s)) := by
  unfold spec_l9Light.f lightP
  have h6 := (isPlan_part h).1
  have hg := (isPlan_part h).2 i hi
  have hn := nxt_lt p i hi
  have hfr := fp_range l id
  have hcl := clrP_range (rd_T82 l (fp l id))
  have hx := part_short p hs i hi
  have hy := part_short p hs _ hn
  rw [nxt_tmod p i (by omega)]
  have yes : ∀ b, Ev (fun k => spec_l9Light.j0 k l p (i : Int) s id b true) 1 := by
    intro b
    refine shift ?_
    simp only [spec_l9Light.j0]
    exact pos trivial (now rfl)
  refine neg (by omega) (pos (by omega) (pos (by omega) (pos (by omega) (pos (by omega) (Ev.bind (spec_l6Has_ev _ id (by omega)) ?_)))))
  by_cases c : id ∈ (rd_T96 p i).f0
  · rw [if_pos c]
    refine pos (decide_eq_true c) ?_
    rw [decide_eq_true c]
    by_cases c1 : s < (rd_T96 p i).f1
    · rw [if_pos (.inl c1)]
      exact pos c1 (yes _)
    · refine neg c1 (Ev.bind (spec_l6Has_ev _ id (by omega)) ?_)
      by_cases c2 : id ∈ (rd_T96 p (nxt p i)).f0
      · rw [if_pos (.inr c2), decide_eq_true c2]
        exact yes _
      · rw [if_neg (fun g => g.elim c1 c2), decide_eq_false c2]
        refine shift ?_
        simp only [spec_l9Light.j0]
        refine neg (by decide) (pos trivial (pos (by omega) (pos (by omega) (Ev.bind (spec_FindPath_ev l id (by omega)) (pos (show 0 ≤ fp l id by omega) (pos (show fp l id < (l.length : Int) by omega) (bindc (spec_ClearOf_eq _ _ _ _) ?_)))))))
        show Ev (fun k => if s < wrap64 ((rd_T96 p i).f1 + clrP (rd_T82 l (fp l id))) then some 2 else some 0) _
        rw [w64 (by omega) (by omega)]
        by_cases c3 : s < (rd_T96 p i).f1 + clrP (rd_T82 l (fp l id))
        · exact pos c3 (now (if_pos c3).symm)
        · exact neg c3 (now (if_neg c3).symm)
  · rw [if_neg c]
    refine neg (by simpa using c) ?_
    rw [decide_eq_false c]
    refine shift ?_
    simp only [spec_l9Light.j0]
    exact neg (by decide) (neg (by decide) (now rfl))

def rowS (l : List S82) (p : List S96) (id : Int) : List Int := if isPlan l p = true ∧ ¬ fp l id < 0 then rowP l p id else []
theorem rowS_length (l : List S82) (p : List S96) (id : Int) : (rowS l p id).length ≤ 390 := by
  unfold rowS
  split
  · rename_i h
    have := cycP_range h.1
    rw [rowP_length]
    omega
  · simp
theorem spec_l9Row_ev (l : List S82) (p : List S96) (hl : l.length ≤ 1048576) (hp : p.length ≤ 1048576) (hs : ∀ x ∈ p, x.f0.length ≤ 1048576) (id : Int) : Ev (fun k => spec_l9Row.f k l p id) (rowS l p id) := by
  unfold spec_l9Row.f rowS
  have stop : Ev (fun k => spec_l9Row.j0 k l p id [] true) [] := by
    refine shift ?_
    simp only [spec_l9Row.j0]
    exact pos trivial (now rfl)
  refine bindc rfl (Ev.bind (spec_IsPlan_ev l p hl hp hs) ?_)
  by_cases h : isPlan l p = true
  · refine pos h (Ev.bind (spec_FindPath_ev l id (by omega)) ?_)
    by_cases hf : fp l id < 0
    · rw [if_neg (fun g => g.2 hf), show decide (impl_FindPath.from_ id l 0 < 0) = true from decide_eq_true hf]
      exact stop
    · rw [if_pos ⟨h, hf⟩, show decide (impl_FindPath.from_ id l 0 < 0) = false from decide_eq_false hf, ← rowP_eq h]
      refine shift ?_
      simp only [spec_l9Row.j0]
      refine neg (by decide) ?_
      have h6 := (isPlan_part h).1
      have main : ∀ d i (acc : List Int), i + d = p.length → (acc.length : Int) + sumF (longP l p) d i ≤ 390 → Ev (fun k => spec_l9Row.l0 k l p id acc (i : Int)) (acc ++ rowF (longP l p) (lightP l p id) d i) := by
        intro d
        induction d with
        | zero =>
          intro i acc hi _
          refine shift ?_
          simp only [spec_l9Row.l0, rowF, List.append_nil]
          exact neg (by omega) (now rfl)
        | succ d ih =>
          intro i acc hi hb
          have hil : i < p.length := by omega
          have hL := longP_range h i hil
          have hsum := sumF_range (longP_range h) d (i + 1) (by omega)
          have e := spec_l8Long_ev l p hl hs h i hil
          simp only [sumF] at hb
          refine shift ?_
          simp only [spec_l9Row.l0, rowF]
          refine pos (nat_lt hil) ?_
          have inner : ∀ m (s : Nat) (a2 : List Int), s + m = (longP l p i).toNat → (a2.length : Int) = acc.length + s → Ev (fun k => spec_l9Row.l1 k l p id a2 (i : Int) (s : Int)) (a2 ++ ((List.range' s m).map (fun (s : Nat) => lightP l p id (i, (s : Int))) ++ rowF (longP l p) (lightP l p id) d (i + 1))) := by
            intro m
            induction m with
            | zero =>
              intro s a2 hm ha
              refine shift ?_
              simp only [spec_l9Row.l1, List.range'_zero, List.map_nil, List.nil_append]
              refine Ev.bind e (neg (by omega) ?_)
              rw [succ_wrap (by omega)]
              exact ih (i + 1) a2 (by omega) (by omega)
            | succ m ihm =>
              intro s a2 hm ha
              refine shift ?_
              simp only [spec_l9Row.l1]
              refine Ev.bind e (pos (by omega) (Ev.bind (spec_l9Light_ev l p hl hs h id hf i hil s) (pos (by omega) ?_)))
              rw [succ_wrap (by omega)]
              have := ihm (s + 1) (a2 ++ [lightP l p id (i, (s : Int))]) (by omega) (by simp; omega)
              simpa [List.range'_succ] using this
          have := inner (longP l p i).toNat 0 acc (by omega) (by simp)
          rw [← List.range_eq_range'] at this
          exact this
      have hc := cycP_range h
      have := main p.length 0 [] (by omega) (by simpa [cycP] using hc.2)
      simpa using this
  · rw [if_neg (fun g => h g.1)]
    exact neg h stop

theorem laws_toPart_ev (x : S90) (hl : x.f0.length ≤ 1048576) : Ev (fun k => laws_toPart.f k x.f0 x.f1) (x.f0, x.f1) := by
  unfold laws_toPart.f
  exact Ev.bind (laws_toIntS_ev x.f0 (by omega)) (now rfl)

def cPart (x : S90) : S96 := ⟨x.f0, x.f1⟩
theorem laws_toPartS_ev (l : List S90) (hl : l.length ≤ 1048576) (he : ∀ x ∈ l, x.f0.length ≤ 1048576) : Ev (fun k => laws_toPartS.f k l) (l.map cPart) := by
  unfold laws_toPartS.f
  refine pos (by omega) (pos (by omega) ?_)
  exact copied (g := fun k y i => laws_toPartS.l0 k l y i) l cPart z96 (fun j hj y r hy h => by
    refine shift ?_
    simp only [laws_toPartS.l0]
    have hg : rd_T90 l (j : Int) = l[j] := by simp [rd_T90, hj]
    rw [hg]
    refine pos (nat_lt hj) (pos (by omega) (Ev.bind (laws_toPart_ev _ (he _ (List.getElem_mem hj))) (pos (by omega) ?_)))
    rw [succ_wrap (by omega)]
    exact h) (fun y => by
    refine shift ?_
    simp only [laws_toPartS.l0]
    exact neg (nat_ge (Nat.le_refl _)) (now rfl))
theorem cPart_short (l : List S90) (he : ∀ x ∈ l, x.f0.length ≤ 1048576) : ∀ x ∈ l.map cPart, x.f0.length ≤ 1048576 := by
  intro x hx
  obtain ⟨y, hy, rfl⟩ := List.mem_map.1 hx
  exact he y hy

theorem impl_IsTogether_ev (l : List S82) (ids : List Int) (hl : l.length ≤ 1048576) (hi : ids.length ≤ 1048576) : Ev (fun k => impl_IsTogether.f k l ids) (together l ids) := by
  unfold impl_IsTogether.f together
  have find : ∀ n, impl_FindPath.f l n = some (fp l n) := fun n => impl_FindPath_eq l n
  refine Ev.bind (impl_ArePaths_ev l) ?_
  by_cases hp : arePaths l = true
  · rw [hp]
    refine pos rfl ?_
    have yes : ∀ i x y z : Int, Ev (fun k => impl_IsTogether.j1 k l ids i x ids y z true) false := by
      intro i x y z
      refine shift ?_
      simp only [impl_IsTogether.j1]
      exact pos trivial (now rfl)
    have head : ∀ (j : Nat) (r : Bool), j < ids.length → togHead l ids j = true → Ev (fun k => impl_IsTogether.l1 k l ids (fp l (rd ids j)) ids (ids.length : Int) (j : Int) (ids.take j) (j : Int) 0) r → Ev (fun k => impl_IsTogether.l0 k l ids ids (ids.length : Int) (j : Int)) r := by
      intro j r hj ok h
      simp only [togHead, decide_eq_true_eq] at ok
      have no : Ev (fun k => impl_IsTogether.j1 k l ids (j : Int) (fp l (rd ids j)) ids (ids.length : Int) (j : Int) false) r := by
        refine shift ?_
        simp only [impl_IsTogether.j1]
        refine neg (by decide) (pos (by omega) (pos (by omega) ?_))
        rw [Int.toNat_natCast, take_len ids j hj]
        exact h
      refine shift ?_
      simp only [impl_IsTogether.l0]
      refine pos (nat_lt hj) (pos (by omega) (pos (nat_lt hj) (bindc (find _) (neg ok.1 ?_))))
      by_cases h0 : (j : Int) > 0
      · rw [w64 (x := (j : Int) - 1) (by omega) (by omega)]
        refine pos h0 (pos (by omega) (pos (by omega) ?_))
        rw [show decide (rd ids (j : Int) ≤ rd ids ((j : Int) - 1)) = false from decide_eq_false (by have := ok.2 (by omega); omega)]
        exact no
      · exact neg h0 no
    have good : ∀ (i j : Nat) (r : Bool), i < ids.length → (∀ q, q < i → 0 ≤ fp l (rd ids q) ∧ fp l (rd ids q) < l.length) → (0 ≤ fp l (rd ids i) ∧ fp l (rd ids i) < l.length) → j < i → togPair l ids i j = true →
        Ev (fun k => impl_IsTogether.l1 k l ids (fp l (rd ids i)) ids (ids.length : Int) (i : Int) (ids.take i) (i : Int) ((j + 1 : Nat) : Int)) r → Ev (fun k => impl_IsTogether.l1 k l ids (fp l (rd ids i)) ids (ids.length : Int) (i : Int) (ids.take i) (i : Int) (j : Int)) r := by
      intro i j r hil hq hf hj ok h
      have hf2 := hq j hj
      refine shift ?_
      simp only [impl_IsTogether.l1]
      rw [succ_wrap (by omega), take_len ids i hil, rd_take ids i j hj]
      refine pos (nat_lt hj) (pos (by omega) (pos (nat_lt hj) (pos hf.1 (pos hf.2 (bindc (find _) (pos hf2.1 (pos hf2.2 (Ev.bind (impl_Conflict_ev _ _ _ _ _ _ _ _) (neg ?_ h)))))))))
      simpa [togPair, conP] using ok
    have bad : ∀ (i j : Nat), i < ids.length → (∀ q, q < i → 0 ≤ fp l (rd ids q) ∧ fp l (rd ids q) < l.length) → (0 ≤ fp l (rd ids i) ∧ fp l (rd ids i) < l.length) → j < i → togPair l ids i j = false →
        Ev (fun k => impl_IsTogether.l1 k l ids (fp l (rd ids i)) ids (ids.length : Int) (i : Int) (ids.take i) (i : Int) (j : Int)) false := by
      intro i j hil hq hf hj ok
      have hf2 := hq j hj
      refine shift ?_
      simp only [impl_IsTogether.l1]
      rw [take_len ids i hil, rd_take ids i j hj]
      refine pos (nat_lt hj) (pos (by omega) (pos (nat_lt hj) (pos hf.1 (pos hf.2 (bindc (find _) (pos hf2.1 (pos hf2.2 (Ev.bind (impl_Conflict_ev _ _ _ _ _ _ _ _) (pos ?_ (now rfl))))))))))
      simpa [togPair, conP] using ok
    refine all_loopI (g := fun k j => impl_IsTogether.l0 k l ids ids (ids.length : Int) (j : Int)) ids.length (togAt l ids) true ?_ ?_ ?_
    · intro j r hj ok h
      have okj := ok j (Nat.le_refl _)
      have hf := togAt_found okj
      simp only [togAt, Bool.and_eq_true] at okj
      refine head j r hj okj.1 ?_
      refine ok_loop (g := fun k i => impl_IsTogether.l1 k l ids (fp l (rd ids j)) ids (ids.length : Int) (j : Int) (ids.take j) (j : Int) (i : Int)) j _ okj.2 (fun i r hi o g => good j i r hj (fun q hq => togAt_found (ok q (by omega))) hf hi o g) ?_
      refine shift ?_
      simp only [impl_IsTogether.l1]
      refine neg (nat_ge (Nat.le_refl _)) ?_
      rw [succ_wrap (by omega)]
      exact h
    · intro j hj ok okj
      by_cases hh : togHead l ids j = true
      · have hall : ¬ (List.range j).all (togPair l ids j) = true := by
          intro g
          rw [togAt, hh, g] at okj
          exact absurd okj (by decide)
        have hf : 0 ≤ fp l (rd ids j) ∧ fp l (rd ids j) < l.length := by
          have := hh
          simp only [togHead, decide_eq_true_eq] at this
          have := fp_range l (rd ids j)
          omega
        refine head j false hj hh ?_
        exact bad_loop (g := fun k i => impl_IsTogether.l1 k l ids (fp l (rd ids j)) ids (ids.length : Int) (j : Int) (ids.take j) (j : Int) (i : Int)) j _ false hall (fun i r hi o g => good j i r hj (fun q hq => togAt_found (ok q hq)) hf hi o g) (fun i hi o => bad j i hj (fun q hq => togAt_found (ok q hq)) hf hi o)
      · refine shift ?_
        simp only [impl_IsTogether.l0]
        refine pos (nat_lt hj) (pos (by omega) (pos (nat_lt hj) (bindc (find _) ?_)))
        by_cases h1 : fp l (rd ids j) < 0
        · exact pos h1 (yes _ _ _ _)
        · have h2 : ¬ (0 < j → rd ids ((j : Int) - 1) < rd ids j) := fun g => hh (by simp only [togHead]; exact decide_eq_true ⟨h1, g⟩)
          refine neg h1 (pos (by omega) ?_)
          rw [w64 (x := (j : Int) - 1) (by omega) (by omega)]
          refine pos (by omega) (pos (by omega) ?_)
          rw [show decide (rd ids (j : Int) ≤ rd ids ((j : Int) - 1)) = true from decide_eq_true (by omega)]
          exact yes _ _ _ _
    · intro _
      refine shift ?_
      simp only [impl_IsTogether.l0]
      exact neg (nat_ge (Nat.le_refl _)) (now rfl)
  · exact neg hp (now (by simp [hp]))

theorem impl_LeastGreen_ev (l : List S82) (st : List Int) (hs : st.length ≤ 1048576) : Ev (fun k => impl_LeastGreen.f k l st) (leastG l st) := by
  unfold impl_LeastGreen.f leastG
  have find : ∀ n, impl_FindPath.f l n = some (fp l n) := fun n => impl_FindPath_eq l n
  have good : ∀ j r, j < st.length → notWalk l st j = true → Ev (fun k => impl_LeastGreen.l0 k l st (st.length : Int) ((j + 1 : Nat) : Int)) r → Ev (fun k => impl_LeastGreen.l0 k l st (st.length : Int) (j : Int)) r := by
    intro j r hj ok h
    simp only [notWalk, Bool.not_eq_true', decide_eq_false_iff_not] at ok
    have := fp_range l (rd st j)
    refine shift ?_
    simp only [impl_LeastGreen.l0]
    rw [succ_wrap (by omega)]
    refine pos (nat_lt hj) (pos (by omega) (pos (nat_lt hj) (bindc (find _) ?_)))
    by_cases h0 : fp l (rd st j) ≥ 0
    · exact pos h0 (pos h0 (pos (by omega) (neg (fun g => ok ⟨h0, g⟩) h)))
    · exact neg h0 h
  by_cases h : (List.range st.length).all (notWalk l st) = true
  · rw [if_pos h]
    refine ok_loop (g := fun k j => impl_LeastGreen.l0 k l st (st.length : Int) (j : Int)) st.length _ h good ?_
    refine shift ?_
    simp only [impl_LeastGreen.l0]
    exact neg (nat_ge (Nat.le_refl _)) (now rfl)
  · rw [if_neg h]
    refine bad_loop (g := fun k j => impl_LeastGreen.l0 k l st (st.length : Int) (j : Int)) st.length _ 7 h good ?_
    intro j hj ok
    simp only [notWalk, Bool.not_eq_false', decide_eq_true_eq] at ok
    have := fp_range l (rd st j)
    refine shift ?_
    simp only [impl_LeastGreen.l0]
    exact pos (nat_lt hj) (pos (by omega) (pos (nat_lt hj) (bindc (find _) (pos ok.1 (pos ok.1 (pos (by omega) (pos ok.2 (now rfl))))))))

theorem impl_isCovered_ev (l : List (List Int)) (a : Int) (h : ∀ x ∈ l, x.length ≤ 1048576) : Ev (fun k => impl_isCovered.f k l a) (l.any fun s => decide (a ∈ s)) := by
  unfold impl_isCovered.f
  induction l with
  | nil => exact now rfl
  | cons x r ih =>
    simp only [impl_isCovered.from_, List.any_cons]
    have hx := h x List.mem_cons_self
    refine Ev.bind (slices_Contains_int_int_ev x a (by omega)) ?_
    by_cases c : a ∈ x
    · rw [decide_eq_true c, Bool.true_or]
      exact pos rfl (now rfl)
    · rw [decide_eq_false c, Bool.false_or]
      exact neg (by decide) (ih fun y hy => h y (List.mem_cons_of_mem _ hy))

theorem impl_Covers_ev (l : List S82) (ss : List (List Int)) (hl : l.length ≤ 1048576) (hn : ss.length ≤ 1048576) (hs : ∀ x ∈ ss, x.length ≤ 1048576) : Ev (fun k => impl_Covers.f k l ss) (covers l ss) := by
  unfold impl_Covers.f covers
  refine Ev.bind (impl_ArePaths_ev l) ?_
  by_cases hp : arePaths l = true
  · rw [hp]
    refine pos rfl ?_
    refine all_loop (g := fun k j => impl_Covers.l0 k l ss ss (ss.length : Int) (j : Int)) ss.length (fun k => together l (rowL ss k)) _ ?_ ?_ ?_
    · intro j r hj ok h
      refine shift ?_
      simp only [impl_Covers.l0]
      rw [succ_wrap (by omega)]
      exact pos (nat_lt hj) (pos (by omega) (pos (nat_lt hj) (Ev.bind (impl_IsTogether_ev l (rowL ss j) hl (rowL_short ss hs j hj)) (pos ok h))))
    · intro j hj ok
      refine shift ?_
      simp only [impl_Covers.l0]
      exact pos (nat_lt hj) (pos (by omega) (pos (nat_lt hj) (Ev.bind (impl_IsTogether_ev l (rowL ss j) hl (rowL_short ss hs j hj)) (neg (by rw [ok]; decide) (now rfl)))))
    · refine shift ?_
      simp only [impl_Covers.l0]
      refine neg (nat_ge (Nat.le_refl _)) ?_
      refine all_loop (g := fun k i => impl_Covers.l1 k ss l (l.length : Int) (i : Int)) l.length (covAt l ss) _ ?_ ?_ ?_
      · intro i r hi ok h
        refine shift ?_
        simp only [impl_Covers.l1]
        rw [succ_wrap (by omega)]
        exact pos (nat_lt hi) (pos (by omega) (pos (nat_lt hi) (Ev.bind (impl_isCovered_ev ss _ hs) (pos ok h))))
      · intro i hi ok
        refine shift ?_
        simp only [impl_Covers.l1]
        refine pos (nat_lt hi) (pos (by omega) (pos (nat_lt hi) (Ev.bind (impl_isCovered_ev ss _ hs) (neg ?_ (now rfl)))))
        show ¬ covAt l ss i = true
        rw [ok]
        decide
      · refine shift ?_
        simp only [impl_Covers.l1]
        exact neg (nat_ge (Nat.le_refl _)) (now rfl)
  · exact neg hp (now (by simp [hp]))

theorem impl_IsPlan_ev (l : List S82) (p : List S96) (hl : l.length ≤ 1048576) (hp : p.length ≤ 1048576) (hs : ∀ x ∈ p, x.f0.length ≤ 1048576) : Ev (fun k => impl_IsPlan.f k l p) (isPlan l p) := by
  unfold impl_IsPlan.f isPlan
  refine bindc (impl_InRange_eq _ _ _) ?_
  by_cases hr : 1 ≤ (p.length : Int) ∧ (p.length : Int) ≤ 6
  · rw [decide_eq_true hr, Bool.true_and]
    refine pos rfl (all_loop (g := fun k j => impl_IsPlan.l0 k l ((p.take j).map (·.f0)) p (p.length : Int) (j : Int)) p.length (partOk l p) _ ?_ ?_ ?_ |> (fun h => by simpa using h))
    · intro j r hj ok h
      simp only [partOk, Bool.and_eq_true, decide_eq_true_eq] at ok
      have hx := part_short p hs j hj
      refine shift ?_
      simp only [impl_IsPlan.l0]
      rw [succ_wrap (by omega)]
      rw [take_snoc p j hj, List.map_append] at h
      refine pos (nat_lt hj) (pos (by omega) (pos (nat_lt hj) (neg ok.1 (Ev.bind (impl_IsTogether_ev l _ hl hx) (pos ok.2.1 (Ev.bind (impl_LeastGreen_ev l _ hx) (bindc (impl_InRange_eq _ _ _) (pos (decide_eq_true ok.2.2) (pos (by simp; omega) ?_)))))))))
      rw [rdPart p j hj]
      exact h
    · intro j hj ok
      have hx := part_short p hs j hj
      refine shift ?_
      simp only [impl_IsPlan.l0]
      refine pos (nat_lt hj) (pos (by omega) (pos (nat_lt hj) ?_))
      by_cases h1 : ((rd_T96 p j).f0.length : Int) = 0
      · exact pos h1 (now rfl)
      refine neg h1 (Ev.bind (impl_IsTogether_ev l _ hl hx) ?_)
      by_cases h2 : together l (rd_T96 p j).f0 = true
      · have h3 : decide (leastG l (rd_T96 p j).f0 ≤ (rd_T96 p j).f1 ∧ (rd_T96 p j).f1 ≤ 60) = false := by
          rw [partOk, decide_eq_true h1, h2, Bool.true_and, Bool.true_and] at ok
          exact ok
        exact pos h2 (Ev.bind (impl_LeastGreen_ev l _ hx) (bindc (impl_InRange_eq _ _ _) (neg (by rw [h3]; decide) (now rfl))))
      · exact neg h2 (now rfl)
    · refine shift ?_
      simp only [impl_IsPlan.l0]
      rw [List.take_length]
      exact neg (nat_ge (Nat.le_refl _)) (Ev.bind (impl_Covers_ev l _ hl (by simpa using hp) (stages_short p hs)) (now rfl))
  · rw [decide_eq_false hr, Bool.false_and]
    exact neg (by decide) (now rfl)

theorem impl_sieve_ev (a b : List Int) (ha : a.length ≤ 1048576) (hb : b.length ≤ 1048576) : Ev (fun k => impl_sieve.f k a b false) (closesL a b) := by
  unfold impl_sieve.f
  refine loop (g := fun k j => impl_sieve.l0 k b false (closesL (a.take j) b) a (a.length : Int) (j : Int)) (r := closesL a b) a.length ?_ ?_ |> (fun h => by simpa [closesL] using h)
  · intro j hj h
    refine shift ?_
    simp only [impl_sieve.l0]
    rw [succ_wrap (by omega), rd_get a j hj]
    rw [closesL, take_snoc a j hj, List.filter_append] at h
    refine pos (nat_lt hj) (pos (by omega) (pos (nat_lt hj) (Ev.bind (slices_Contains_int_int_ev b _ (by omega)) ?_)))
    by_cases c : a[j] ∈ b
    · rw [List.filter_cons, List.filter_nil, decide_eq_true c] at h
      rw [decide_eq_true c]
      refine neg (by decide) ?_
      simpa [closesL] using h
    · rw [List.filter_cons, List.filter_nil, decide_eq_false c] at h
      have hl := closesL_length (a.take j) b
      rw [take_len a j hj] at hl
      rw [decide_eq_false c]
      refine pos rfl (pos (by omega) ?_)
      simpa [closesL] using h
  · refine shift ?_
    simp only [impl_sieve.l0]
    exact neg (nat_ge (Nat.le_refl _)) (now (by rw [List.take_length]))

theorem impl_Closes_ev (a b : List Int) (ha : a.length ≤ 1048576) (hb : b.length ≤ 1048576) : Ev (fun k => impl_Closes.f k a b) (closesL a b) := by
  unfold impl_Closes.f
  exact Ev.bind (impl_sieve_ev a b ha hb) (now rfl)

theorem impl_ClearOf_eq (a b c d : Int) : impl_ClearOf.f a b c d = some (clearOf a b c d) := by
  unfold impl_ClearOf.f clearOf
  rw [impl_IsPath_eq, Option.bind_some]
  split
  · split
    · rfl
    · split <;> rfl
  · rfl

theorem impl_ClearBetween_ev (l : List S82) (a b : List Int) (hl : l.length ≤ 1048576) (ha : a.length ≤ 1048576) (hb : b.length ≤ 1048576) : Ev (fun k => impl_ClearBetween.f k l a b) (clearB l a b) := by
  unfold impl_ClearBetween.f clearB
  have find : ∀ n, impl_FindPath.f l n = some (fp l n) := fun n => impl_FindPath_eq l n
  have hx := closesL_length a b
  have hy := closesL_length b a
  have ca := impl_Closes_ev a b ha hb
  have cb := impl_Closes_ev b a hb ha
  have stop : Ev (fun k => impl_ClearBetween.j0 k l a b 0 true) 0 := by
    refine shift ?_
    simp only [impl_ClearBetween.j0]
    exact pos trivial (now rfl)
  refine Ev.bind (impl_IsTogether_ev l a hl ha) ?_
  by_cases h1 : together l a = true
  · refine pos h1 (Ev.bind (impl_IsTogether_ev l b hl hb) ?_)
    by_cases h2 : together l b = true
    · rw [if_pos ⟨h1, h2⟩, h2]
      have fa : ∀ n, n ∈ closesL a b → 0 ≤ fp l n ∧ fp l n < l.length := fun n hn => together_found h1 n (closesL_mem hn)
      have fb : ∀ n, n ∈ closesL b a → 0 ≤ fp l n ∧ fp l n < l.length := fun n hn => together_found h2 n (closesL_mem hn)
      refine shift ?_
      simp only [impl_ClearBetween.j0]
      refine neg (by decide) (Ev.bind ca ?_)
      generalize closesL a b = xs at hx fa ⊢
      generalize closesL b a = ys at hy fb cb ⊢
      refine loop (g := fun k j => impl_ClearBetween.l0 k l a b ((xs.take j).foldl (clrIn l ys) 0) xs (xs.length : Int) (j : Int)) (r := xs.foldl (clrIn l ys) 0) xs.length ?_ ?_ |> (fun h => by simpa using h)
      · intro j hj hh
        rw [foldl_take _ _ _ _ hj] at hh
        generalize (xs.take j).foldl (clrIn l ys) 0 = n at hh ⊢
        have hfa := fa _ (List.getElem_mem hj)
        refine shift ?_
        simp only [impl_ClearBetween.l0]
        rw [rd_get xs j hj]
        refine pos (nat_lt hj) (pos (by omega) (pos (nat_lt hj) (Ev.bind cb ?_)))
        refine loop (g := fun k i => impl_ClearBetween.l1 k l a b ((ys.take i).foldl (clrStep l xs[j]) n) xs[j] xs (xs.length : Int) (j : Int) ys (ys.length : Int) (i : Int)) (r := xs.foldl (clrIn l ys) 0) ys.length ?_ ?_ |> (fun h => by simpa using h)
        · intro i hi h2
          rw [foldl_take _ _ _ _ hi] at h2
          generalize (ys.take i).foldl (clrStep l xs[j]) n = m at h2 ⊢
          have hfb := fb _ (List.getElem_mem hi)
          refine shift ?_
          simp only [impl_ClearBetween.l1]
          rw [succ_wrap (j := i) (by omega), rd_get ys i hi]
          refine pos (nat_lt hi) (pos (by omega) (pos (nat_lt hi) (bindc (find _) (pos hfa.1 (pos hfa.2 (bindc (find _) (pos hfb.1 (pos hfb.2 (Ev.bind (impl_Conflict_ev _ _ _ _ _ _ _ _) ?_)))))))))
          rw [clrStep] at h2
          by_cases c : conP (rd_T82 l (fp l xs[j])) (rd_T82 l (fp l ys[i])) = true
          · rw [if_pos c] at h2
            exact pos c (bindc (impl_ClearOf_eq _ _ _ _) h2)
          · rw [if_neg c] at h2
            exact neg c h2
        · refine shift ?_
          simp only [impl_ClearBetween.l1]
          rw [succ_wrap (j := j) (by omega), List.take_length]
          exact neg (nat_ge (Nat.le_refl _)) hh
      · refine shift ?_
        simp only [impl_ClearBetween.l0]
        rw [List.take_length]
        exact neg (nat_ge (Nat.le_refl _)) (now rfl)
    · rw [if_neg (fun g => h2 g.2), show together l b = false by simpa using h2]
      exact stop
  · rw [if_neg (fun g => h1 g.1)]
    exact neg h1 stop

theorem impl_nextStage_eq (p : List S96) (i : Nat) (hi : i < p.length) (h : p.length ≤ 1048576) : impl_nextStage.f p (i : Int) = some (rd_T96 p (nxt p i)).f0 := by
  have hn := nxt_lt p i hi
  unfold impl_nextStage.f
  rw [nxt_tmod p i (by omega), if_neg (by omega), if_pos (by omega), if_pos (by omega)]

theorem impl_longOf_ev (l : List S82) (p : List S96) (hl : l.length ≤ 1048576) (hs : ∀ x ∈ p, x.f0.length ≤ 1048576) (h : isPlan l p = true) (i : Nat) (hi : i < p.length) : Ev (fun k => impl_longOf.f k l p (i : Int)) (longP l p i) := by
  have hp := (isPlan_part h).1
  have hr := longP_range h i hi
  have hn := nxt_lt p i hi
  unfold impl_longOf.f
  refine pos (by omega) (pos (by omega) (bindc (impl_nextStage_eq p i hi (by omega)) (Ev.bind (impl_ClearBetween_ev l _ _ hl (part_short p hs i hi) (part_short p hs _ hn)) (now ?_))))
  exact w64 (by unfold longP at hr; omega) (by unfold longP at hr; omega)

def cycle (l : List S82) (p : List S96) : Int := if isPlan l p = true then cycP l p else 0
theorem impl_Cycle_ev (l : List S82) (p : List S96) (hl : l.length ≤ 1048576) (hp : p.length ≤ 1048576) (hs : ∀ x ∈ p, x.f0.length ≤ 1048576) : Ev (fun k => impl_Cycle.f k l p) (cycle l p) := by
  unfold impl_Cycle.f cycle
  refine Ev.bind (impl_IsPlan_ev l p hl hp hs) ?_
  by_cases h : isPlan l p = true
  · rw [if_pos h]
    have hr := sumF_range (longP_range h)
    have h6 := (isPlan_part h).1
    refine pos h (loop (g := fun k j => impl_Cycle.l0 k l p (cycP l p - sumF (longP l p) (p.length - j) j) (p.length : Int) (j : Int)) (r := cycP l p) p.length ?_ ?_ |> (fun h => by simpa [cycP] using h))
    · intro j hj hh
      have e : p.length - j = (p.length - (j + 1)) + 1 := by omega
      have h1 := hr p.length 0 (by omega)
      have h2 := hr (p.length - (j + 1)) (j + 1) (by omega)
      have h3 := longP_range h j hj
      refine shift ?_
      simp only [impl_Cycle.l0]
      rw [succ_wrap (by omega)]
      refine pos (nat_lt hj) (Ev.bind (impl_longOf_ev l p hl hs h j hj) ?_)
      have e2 : wrap64 (cycP l p - sumF (longP l p) (p.length - j) j + longP l p j) = cycP l p - sumF (longP l p) (p.length - (j + 1)) (j + 1) := by
        rw [e]
        simp only [sumF]
        have : cycP l p = sumF (longP l p) p.length 0 := rfl
        rw [w64 (by omega) (by omega)]
        omega
      rw [e2]
      exact hh
    · refine shift ?_
      simp only [impl_Cycle.l0]
      exact neg (nat_ge (Nat.le_refl _)) (now (by simp [sumF]))
  · rw [if_neg h]
    exact neg h (now rfl)

def secT (l : List S82) (p : List S96) (t : Int) : Int := Int.tmod t (cycP l p)
theorem secT_range {l : List S82} {p : List S96} (h : isPlan l p = true) {t : Int} (ht : 0 ≤ t) : 0 ≤ secT l p t ∧ secT l p t < cycP l p := by
  have := cycP_range h
  exact ⟨Int.tmod_nonneg _ ht, Int.tmod_lt_of_pos _ (by omega)⟩
theorem secT_small {l : List S82} {p : List S96} {t : Int} (ht : 0 ≤ t) (h1 : t < cycP l p) : secT l p t = t := Int.tmod_eq_of_lt ht h1
theorem impl_PartAt_ev (l : List S82) (p : List S96) (hl : l.length ≤ 1048576) (hp : p.length ≤ 1048576) (hs : ∀ x ∈ p, x.f0.length ≤ 1048576) (h : isPlan l p = true) (t : Int) (ht : 0 ≤ t ∧ t ≤ 1000000) :
    Ev (fun k => impl_PartAt.f k l p t) (((partT l p (secT l p t)).1 : Int), (partT l p (secT l p t)).2) := by
  unfold impl_PartAt.f
  have hc := cycP_range h
  have h6 := (isPlan_part h).1
  refine Ev.bind (impl_Cycle_ev l p hl hp hs) ?_
  rw [show cycle l p = cycP l p from if_pos h]
  refine neg (by omega) (bindc (impl_InRange_eq _ _ _) ?_)
  rw [decide_eq_true ht]
  refine shift ?_
  simp only [impl_PartAt.j0]
  refine neg (by decide) (neg (by omega) ?_)
  have hr := secT_range h ht.1
  have main : ∀ d i s, i + d = p.length → 0 ≤ s → s < sumF (longP l p) d i → Ev (fun k => impl_PartAt.l0 k l p s (i : Int)) (((partF (longP l p) d i s).1 : Int), (partF (longP l p) d i s).2) := by
    intro d
    induction d with
    | zero => intro i s _ h0 h1; simp only [sumF] at h1; omega
    | succ d ih =>
      intro i s hi h0 h1
      simp only [sumF] at h1
      have hL := longP_range h i (by omega)
      have hsum := sumF_range (longP_range h) d (i + 1) (by omega)
      have e := impl_longOf_ev l p hl hs h i (by omega)
      refine shift ?_
      simp only [impl_PartAt.l0, partF]
      refine Ev.bind e ?_
      by_cases c : s < longP l p i
      · rw [if_pos c]
        exact neg (by omega) (now rfl)
      · rw [if_neg c]
        refine pos (by omega) (Ev.bind e ?_)
        rw [succ_wrap (by omega), w64 (x := s - longP l p i) (by omega) (by omega)]
        exact ih (i + 1) (s - longP l p i) (by omega) (by omega) (by omega)
  exact main p.length 0 (secT l p t) (by omega) hr.1 hr.2

theorem impl_shown_ev (l : List S82) (p : List S96) (hl : l.length ≤ 1048576) (hp : p.length ≤ 1048576) (hs : ∀ x ∈ p, x.f0.length ≤ 1048576) (h : isPlan l p = true) (t : Int) (ht : 0 ≤ t ∧ t ≤ 1000000) (id : Int) (hf : ¬ fp l id < 0) :
    Ev (fun k => impl_shown.f k l p t (rd_T82 l (fp l id)).f0 (rd_T82 l (fp l id)).f1 (rd_T82 l (fp l id)).f2 (rd_T82 l (fp l id)).f3) (lightP l p id (partT l p (secT l p t))) := by
  unfold impl_shown.f
  have h6 := (isPlan_part h).1
  have hr := secT_range h ht.1
  have hpt := partT_spec hr.1 hr.2
  refine Ev.bind (impl_PartAt_ev l p hl hp hs h t ht) ?_
  generalize partT l p (secT l p t) = r at hpt ⊢
  obtain ⟨i, s⟩ := r
  dsimp only at hpt ⊢
  have hg := (isPlan_part h).2 i hpt.1
  have hn := nxt_lt p i hpt.1
  have hcl := clrP_range (rd_T82 l (fp l id))
  have hx := part_short p hs i hpt.1
  have hy := part_short p hs _ hn
  rw [fp_id l id hf]
  unfold lightP
  refine neg (by omega) (pos (by omega) (pos (by omega) (Ev.bind (slices_Contains_int_int_ev _ id (by omega)) ?_)))
  by_cases c : id ∈ (rd_T96 p i).f0
  · rw [if_pos c, decide_eq_true c]
    refine shift ?_
    simp only [impl_shown.j0]
    refine neg (by decide) (pos (by omega) (pos (by omega) ?_))
    have yes : ∀ a b c d : Int, Ev (fun k => impl_shown.j1 k p (i : Int) s true a b c d) 1 := by
      intro a b c d
      refine shift ?_
      simp only [impl_shown.j1]
      exact pos trivial (now rfl)
    by_cases c1 : s < (rd_T96 p i).f1
    · rw [if_pos (.inl c1)]
      exact pos c1 (yes _ _ _ _)
    · refine neg c1 (bindc (impl_nextStage_eq p i hpt.1 hp) (Ev.bind (slices_Contains_int_int_ev _ id (by omega)) ?_))
      by_cases c2 : id ∈ (rd_T96 p (nxt p i)).f0
      · rw [if_pos (.inr c2), decide_eq_true c2]
        exact yes _ _ _ _
      · rw [if_neg (fun g => g.elim c1 c2), decide_eq_false c2]
        refine shift ?_
        simp only [impl_shown.j1]
        refine neg (by decide) (pos (by omega) (pos (by omega) (bindc (impl_ClearOf_eq _ _ _ _) ?_)))
        have e : clearOf id (rd_T82 l (fp l id)).f1 (rd_T82 l (fp l id)).f2 (rd_T82 l (fp l id)).f3 = clrP (rd_T82 l (fp l id)) := by rw [clrP, fp_id l id hf]
        rw [e, w64 (by omega) (by omega)]
        by_cases c3 : s < (rd_T96 p i).f1 + clrP (rd_T82 l (fp l id))
        · exact pos c3 (now (if_pos c3).symm)
        · exact neg c3 (now (if_neg c3).symm)
  · rw [if_neg c, decide_eq_false c]
    refine shift ?_
    simp only [impl_shown.j0]
    exact pos (by decide) (now rfl)

theorem impl_LightAt_ev (l : List S82) (p : List S96) (hl : l.length ≤ 1048576) (hp : p.length ≤ 1048576) (hs : ∀ x ∈ p, x.f0.length ≤ 1048576) (h : isPlan l p = true) (t : Int) (ht : 0 ≤ t ∧ t ≤ 1000000) (id : Int) (hf : ¬ fp l id < 0) :
    Ev (fun k => impl_LightAt.f k l p t id) (lightP l p id (partT l p (secT l p t))) := by
  unfold impl_LightAt.f
  have hfr := fp_range l id
  exact bindc (show impl_FindPath.f l id = some (fp l id) from impl_FindPath_eq l id) (neg hf (pos (by omega) (pos (by omega) (Ev.bind (impl_shown_ev l p hl hp hs h t ht id hf) (now rfl)))))

theorem laws_eqPart_refl (x : S96) (hl : x.f0.length < 9223372036854775807) : Ev (fun k => laws_eqPart.f k x.f0 x.f1 x.f0 x.f1) true := by
  unfold laws_eqPart.f
  repeat (first | exact now rfl | refine pos rfl ?_ | refine Ev.bind (laws_eqIntS_refl x.f0 hl) ?_)

theorem laws_eqPartS_refl' (l : List S96) (hl : l.length ≤ 1048577) (he : ∀ x ∈ l, x.f0.length ≤ 1048576) : Ev (fun k => laws_eqPartS.f k l l) true := by
  unfold laws_eqPartS.f
  refine pos rfl (loop (g := fun k j => laws_eqPartS.l0 k l l (j : Int)) l.length ?_ ?_)
  · intro j hj h
    refine shift ?_
    simp only [laws_eqPartS.l0]
    have hg : rd_T96 l (j : Int) = l[j] := by simp [rd_T96, hj]
    rw [hg]
    refine pos (nat_lt hj) (pos (by omega) (pos (nat_lt hj) (Ev.bind (laws_eqPart_refl _ (by have := he _ (List.getElem_mem hj); omega)) (pos rfl ?_))))
    rw [succ_wrap (by omega)]
    exact h
  · refine shift ?_
    simp only [laws_eqPartS.l0]
    exact neg (nat_ge (Nat.le_refl _)) (now rfl)

theorem laws_eqPartS_refl (l : List S96) (hl : l.length ≤ 1048576) (he : ∀ x ∈ l, x.f0.length ≤ 1048576) : Ev (fun k => laws_eqPartS.f k l l) true :=
  laws_eqPartS_refl' l (by omega) he

theorem from_self (a : Int) : ∀ (l : List S82) (i : Nat), (∃ x ∈ l, x.f0 = a) → 0 ≤ impl_FindPath.from_ a l i
  | [], _, h => by obtain ⟨x, hx, _⟩ := h; cases hx
  | x :: r, i, h => by
    simp only [impl_FindPath.from_]
    by_cases e : x.f0 = a
    · rw [if_pos (by simp [e])]
      omega
    · rw [if_neg (by simp [e])]
      have e2 : ((i : Int) + 1) = ((i + 1 : Nat) : Int) := by omega
      rw [e2]
      refine from_self a r (i + 1) ?_
      obtain ⟨y, hy, hya⟩ := h
      rcases List.mem_cons.1 hy with h | h
      · exact absurd (h ▸ hya) e
      · exact ⟨y, h, hya⟩
theorem fp_self (l : List S82) (x : S82) (h : x ∈ l) : ¬ fp l x.f0 < 0 := by
  have := from_self x.f0 l 0 ⟨x, h, rfl⟩
  unfold fp
  rw [show ((0 : Nat) : Int) = 0 from rfl] at this
  omega
def lightsT (l : List S82) (p : List S96) (t : Int) : List Int := l.map fun x => lightP l p x.f0 (partT l p (secT l p t))
def planHist (l : List S82) (p : List S96) (a n : Int) : List (List Int) :=
  if isPlan l p = true ∧ (0 ≤ a ∧ a ≤ 100000) ∧ (0 ≤ n ∧ n ≤ 600) then (List.range n.toNat).map fun (s : Nat) => lightsT l p (a + (s : Int)) else []
theorem lightsT_length (l : List S82) (p : List S96) (t : Int) : (lightsT l p t).length = l.length := by simp [lightsT]
theorem planHist_length (l : List S82) (p : List S96) (a n : Int) : (planHist l p a n).length ≤ 600 := by
  unfold planHist
  split
  · rename_i h
    simp
    omega
  · simp
theorem planHist_row (l : List S82) (p : List S96) (a n : Int) (hl : l.length ≤ 1048576) : ∀ x ∈ planHist l p a n, x.length ≤ 1048576 := by
  intro x hx
  unfold planHist at hx
  split at hx
  · obtain ⟨s, _, rfl⟩ := List.mem_map.1 hx
    rw [lightsT_length]
    exact hl
  · cases hx
theorem spec_PlanHistory_ev (l : List S82) (p : List S96) (hl : l.length ≤ 1048576) (hp : p.length ≤ 1048576) (hs : ∀ x ∈ p, x.f0.length ≤ 1048576) (a n : Int) : Ev (fun k => spec_PlanHistory.f k l p a n) (planHist l p a n) := by
  unfold spec_PlanHistory.f planHist
  have stop : Ev (fun k => spec_PlanHistory.j0 k l p a n [] true) [] := by
    refine shift ?_
    simp only [spec_PlanHistory.j0]
    exact pos trivial (now rfl)
  refine bindc rfl (Ev.bind (spec_IsPlan_ev l p hl hp hs) ?_)
  by_cases h : isPlan l p = true
  · refine pos h (bindc (spec_l1In_eq _ _ _) ?_)
    by_cases ha : 0 ≤ a ∧ a ≤ 100000
    · refine pos (decide_eq_true ha) (bindc (spec_l1In_eq _ _ _) ?_)
      by_cases hn : 0 ≤ n ∧ n ≤ 600
      · rw [if_pos ⟨h, ha, hn⟩, show decide (0 ≤ n ∧ n ≤ 600) = true from decide_eq_true hn]
        refine shift ?_
        simp only [spec_PlanHistory.j0]
        refine neg (by decide) ?_
        have hcy := cycP_range h
        have rl : ∀ x ∈ l, rowS l p x.f0 = rowP l p x.f0 := fun x hx => by rw [rowS, if_pos ⟨h, fp_self l x hx⟩]
        refine loop (g := fun k j => spec_PlanHistory.l0 k l p a n [] ((l.take j).map fun x => rowP l p x.f0) (j : Int)) l.length ?_ ?_
        · intro j hj ih
          refine shift ?_
          simp only [spec_PlanHistory.l0]
          have hg : rd_T82 l (j : Int) = l[j] := by simp [rd_T82, hj]
          rw [hg]
          refine pos (nat_lt hj) (pos (by omega) (Ev.bind (spec_l9Row_ev l p hl hp hs _) (pos (by simp; omega) ?_)))
          rw [succ_wrap (by omega), rl _ (List.getElem_mem hj)]
          rw [List.take_succ_eq_append_getElem hj, List.map_append] at ih
          exact ih
        · refine shift ?_
          simp only [spec_PlanHistory.l0]
          refine neg (nat_ge (Nat.le_refl _)) ?_
          rw [List.take_length]
          have main : ∀ d (s : Nat) (acc : List (List Int)), s + d = n.toNat → acc.length = s → Ev (fun k => spec_PlanHistory.l1 k l a n acc (l.map fun x => rowP l p x.f0) (s : Int)) (acc ++ (List.range' s d).map (fun (s : Nat) => lightsT l p (a + (s : Int)))) := by
            intro d
            induction d with
            | zero =>
              intro s acc hd _
              refine shift ?_
              simp only [spec_PlanHistory.l1, List.range'_zero, List.map_nil, List.append_nil]
              exact neg (by omega) (now rfl)
            | succ d ih =>
              intro s acc hd hacc
              refine shift ?_
              simp only [spec_PlanHistory.l1]
              refine pos (by omega) ?_
              refine loop (g := fun k j => spec_PlanHistory.l2 k l a n acc (l.map fun x => rowP l p x.f0) (s : Int) ((l.take j).map fun x => lightP l p x.f0 (partT l p (secT l p (a + (s : Int))))) (j : Int)) l.length ?_ ?_
              · intro j hj ih2
                refine shift ?_
                simp only [spec_PlanHistory.l2]
                have hg : rd_L2 (l.map fun x => rowP l p x.f0) (j : Int) = rowP l p l[j].f0 := by simp [rd_L2, hj]
                have hw : wrap64 (a + (s : Int)) = a + (s : Int) := w64 (by omega) (by omega)
                have hlen : ((rowP l p l[j].f0).length : Int) = cycP l p := by rw [rowP_length]; omega
                rw [hg, hw, hlen]
                have hsec := secT_range h (t := a + (s : Int)) (by omega)
                have hsd : Int.tmod (a + (s : Int)) (cycP l p) = secT l p (a + (s : Int)) := rfl
                rw [hsd]
                refine pos (nat_lt hj) (pos (by omega) (pos (by simp; omega) (neg (by omega) (pos hsec.1 (pos hsec.2 (pos (by simp; omega) ?_))))))
                obtain ⟨u, hu⟩ := Int.eq_ofNat_of_zero_le hsec.1
                have hrd : rd (rowP l p l[j].f0) (secT l p (a + (s : Int))) = lightP l p l[j].f0 (partT l p (secT l p (a + (s : Int)))) := by
                  rw [hu]
                  exact rowP_rd l p _ u (by omega)
                rw [succ_wrap (by omega), hrd]
                rw [List.take_succ_eq_append_getElem hj, List.map_append] at ih2
                exact ih2
              · refine shift ?_
                simp only [spec_PlanHistory.l2]
                refine neg (nat_ge (Nat.le_refl _)) (pos (by omega) ?_)
                rw [succ_wrap (by omega), List.take_length]
                have := ih (s + 1) (acc ++ [lightsT l p (a + (s : Int))]) (by omega) (by simp; omega)
                simpa [List.range'_succ, lightsT] using this
          have := main n.toNat 0 [] (by omega) rfl
          rw [List.range_eq_range']
          simpa using this
      · rw [if_neg (fun g => hn g.2.2), show decide (0 ≤ n ∧ n ≤ 600) = false from decide_eq_false hn]
        exact stop
    · rw [if_neg (fun g => ha g.2.1)]
      exact neg (by simpa using ha) stop
  · rw [if_neg (fun g => h g.1)]
    exact neg h stop

theorem impl_LightsAt_ev (l : List S82) (p : List S96) (hl : l.length ≤ 1048576) (hp : p.length ≤ 1048576) (hs : ∀ x ∈ p, x.f0.length ≤ 1048576) (h : isPlan l p = true) (t : Int) (ht : 0 ≤ t ∧ t ≤ 1000000) : Ev (fun k => impl_LightsAt.f k l p t) (lightsT l p t) := by
  unfold impl_LightsAt.f lightsT
  refine loop (g := fun k j => impl_LightsAt.l0 k l p t ((l.take j).map fun x => lightP l p x.f0 (partT l p (secT l p t))) l (l.length : Int) (j : Int)) l.length ?_ ?_
  · intro j hj ih
    refine shift ?_
    simp only [impl_LightsAt.l0]
    have hg : rd_T82 l (j : Int) = l[j] := by simp [rd_T82, hj]
    rw [hg]
    refine pos (nat_lt hj) (pos (by omega) (pos (nat_lt hj) (Ev.bind (impl_LightAt_ev l p hl hp hs h t ht _ (fp_self l _ (List.getElem_mem hj))) (pos (by simp; omega) ?_))))
    rw [succ_wrap (by omega)]
    rw [List.take_succ_eq_append_getElem hj, List.map_append] at ih
    exact ih
  · refine shift ?_
    simp only [impl_LightsAt.l0]
    exact neg (nat_ge (Nat.le_refl _)) (now (by rw [List.take_length]))

theorem impl_PlanHistory_ev (l : List S82) (p : List S96) (hl : l.length ≤ 1048576) (hp : p.length ≤ 1048576) (hs : ∀ x ∈ p, x.f0.length ≤ 1048576) (a n : Int) : Ev (fun k => impl_PlanHistory.f k l p a n) (planHist l p a n) := by
  unfold impl_PlanHistory.f planHist
  have stop : Ev (fun k => impl_PlanHistory.j0 k l p a n [] true) [] := by
    refine shift ?_
    simp only [impl_PlanHistory.j0]
    exact pos trivial (now rfl)
  refine bindc rfl (Ev.bind (impl_IsPlan_ev l p hl hp hs) ?_)
  by_cases h : isPlan l p = true
  · refine pos h (bindc (impl_InRange_eq _ _ _) ?_)
    by_cases ha : 0 ≤ a ∧ a ≤ 100000
    · refine pos (decide_eq_true ha) (bindc (impl_InRange_eq _ _ _) ?_)
      by_cases hn : 0 ≤ n ∧ n ≤ 600
      · rw [if_pos ⟨h, ha, hn⟩, show decide (0 ≤ n ∧ n ≤ 600) = true from decide_eq_true hn]
        refine shift ?_
        simp only [impl_PlanHistory.j0]
        refine neg (by decide) ?_
        have main : ∀ d (s : Nat) (acc : List (List Int)), s + d = n.toNat → acc.length = s → Ev (fun k => impl_PlanHistory.l0 k l p a acc n (s : Int)) (acc ++ (List.range' s d).map (fun (s : Nat) => lightsT l p (a + (s : Int)))) := by
          intro d
          induction d with
          | zero =>
            intro s acc hd _
            refine shift ?_
            simp only [impl_PlanHistory.l0, List.range'_zero, List.map_nil, List.append_nil]
            exact neg (by omega) (now rfl)
          | succ d ih =>
            intro s acc hd hacc
            refine shift ?_
            simp only [impl_PlanHistory.l0]
            have hw : wrap64 (a + (s : Int)) = a + (s : Int) := w64 (by omega) (by omega)
            rw [hw]
            refine pos (by omega) (Ev.bind (impl_LightsAt_ev l p hl hp hs h _ (by omega)) (pos (by omega) ?_))
            rw [succ_wrap (by omega)]
            have := ih (s + 1) (acc ++ [lightsT l p (a + (s : Int))]) (by omega) (by simp; omega)
            simpa [List.range'_succ] using this
        have := main n.toNat 0 [] (by omega) rfl
        rw [List.range_eq_range']
        simpa using this
      · rw [if_neg (fun g => hn g.2.2), show decide (0 ≤ n ∧ n ≤ 600) = false from decide_eq_false hn]
        exact stop
    · rw [if_neg (fun g => ha g.2.1)]
      exact neg (by simpa using ha) stop
  · rw [if_neg (fun g => h g.1)]
    exact neg h stop

theorem laws_eqIntSS_refl (l : List (List Int)) (hl : l.length ≤ 1048576) (he : ∀ x ∈ l, x.length ≤ 1048576) : Ev (fun k => laws_eqIntSS.f k l l) true := by
  unfold laws_eqIntSS.f
  refine pos rfl (loop (g := fun k j => laws_eqIntSS.l0 k l l (j : Int)) l.length ?_ ?_)
  · intro j hj h
    refine shift ?_
    simp only [laws_eqIntSS.l0]
    have hg : rd_L2 l (j : Int) = l[j] := by simp [rd_L2, hj]
    rw [hg]
    refine pos (nat_lt hj) (pos (by omega) (pos (nat_lt hj) (Ev.bind (laws_eqIntS_refl _ (by have := he _ (List.getElem_mem hj); omega)) (pos rfl ?_))))
    rw [succ_wrap (by omega)]
    exact h
  · refine shift ?_
    simp only [laws_eqIntSS.l0]
    exact neg (nat_ge (Nat.le_refl _)) (now rfl)

theorem setC {α : Type} (A B : List α) (x v : α) (j : Nat) (hj : A.length = j) : (A ++ x :: B).set j v = A ++ v :: B := by
  rw [List.set_append_right _ _ (by omega), hj, Nat.sub_self, List.set_cons_zero]
theorem getC {α : Type} (A B : List α) (x d : α) (j : Nat) (hj : A.length = j) : (A ++ x :: B).getD j d = x := by
  rw [List.getD_eq_getElem?_getD, List.getElem?_append_right (by omega), hj, Nat.sub_self]
  rfl

def markPa (a : Int) : S82 := ⟨a, a + 1, a + 2, a + 3⟩
def marksPa (a : Int) (n : Nat) : List S82 := (List.range n).map fun (i : Nat) => markPa (a + 4 * (i : Int))
theorem marksPa_length (a : Int) (n : Nat) : (marksPa a n).length = n := by simp [marksPa]
theorem marksPa_succ (a : Int) (n : Nat) : marksPa a (n + 1) = marksPa a n ++ [markPa (a + 4 * (n : Int))] := by simp [marksPa, List.range_succ]
theorem laws_markPathS_ev (l : List S82) (a : Int) (ha : 0 ≤ a) (ha2 : a ≤ 1000000000000) (hl : l.length ≤ 1000000000000) : Ev (fun k => laws_markPathS.f k l a) (a + 4 * l.length, marksPa a l.length) := by
  unfold laws_markPathS.f
  refine loop (g := fun k j => laws_markPathS.l0 k (marksPa a j ++ l.drop j) (a + 4 * (j : Int)) (j : Int)) l.length ?_ ?_ |> (fun h => by simpa [show marksPa a 0 = [] from rfl] using h)
  · intro j hj h
    refine shift ?_
    have e1 : wrap64 (a + 4 * (j : Int) + 1) = a + 4 * (j : Int) + 1 := w64 (by omega) (by omega)
    have e2 : wrap64 (a + 4 * (j : Int) + 1 + 1) = a + 4 * (j : Int) + 2 := by rw [w64 (by omega) (by omega)]; omega
    have e3 : wrap64 (a + 4 * (j : Int) + 2 + 1) = a + 4 * (j : Int) + 3 := by rw [w64 (by omega) (by omega)]; omega
    have e4 : wrap64 (a + 4 * (j : Int) + 3 + 1) = a + 4 * ((j + 1 : Nat) : Int) := by rw [w64 (by omega) (by omega)]; omega
    simp only [laws_markPathS.l0, Option.bind_some]
    rw [List.drop_eq_getElem_cons hj]
    simp only [rd_T82, Int.toNat_natCast, setC _ _ _ _ _ (marksPa_length a j), getC _ _ _ _ _ (marksPa_length a j), e1, e2, e3, e4]
    refine pos (by simp [marksPa_length]; omega) (pos (by omega) ?_)
    rw [succ_wrap (by omega)]
    rw [marksPa_succ, List.append_assoc] at h
    exact h
  · refine shift ?_
    simp only [laws_markPathS.l0]
    exact neg (by simp [marksPa_length]) (now (by simp))

theorem laws_markIntS_ev (l : List Int) (a : Int) (ha : 0 ≤ a) (ha2 : a ≤ 4000000000000) (hl : l.length ≤ 4000000000000) : Ev (fun k => laws_markIntS.f k l a) (a + l.length, iota a l.length) := by
  unfold laws_markIntS.f
  refine loop (g := fun k j => laws_markIntS.l0 k (iota a j ++ l.drop j) (a + (j : Int)) (j : Int)) l.length ?_ ?_ |> (fun h => by simpa [show iota a 0 = [] from rfl] using h)
  · intro j hj h
    refine shift ?_
    simp only [laws_markIntS.l0]
    refine pos (by simp [iota_length]; omega) (pos (by omega) ?_)
    rw [succ_wrap (by omega), w64 (by omega) (by omega), Int.toNat_natCast, iota_set a l j hj]
    have e : a + (j : Int) + 1 = a + ((j + 1 : Nat) : Int) := by omega
    rw [e]
    exact h
  · refine shift ?_
    simp only [laws_markIntS.l0]
    exact neg (by simp [iota_length]) (now (by simp))

def elQ (a : Int) (x : S96) : S96 := ⟨iota a x.f0.length, a + x.f0.length⟩
def endQ : Int → List S96 → Int
  | a, [] => a
  | a, x :: r => endQ (a + x.f0.length + 1) r
def mkQ : Int → List S96 → List S96
  | _, [] => []
  | a, x :: r => elQ a x :: mkQ (a + x.f0.length + 1) r
theorem endQ_append : ∀ (p q : List S96) (a : Int), endQ a (p ++ q) = endQ (endQ a p) q
  | [], _, _ => rfl
  | x :: r, q, a => by
    simp only [List.cons_append, endQ]
    exact endQ_append r q _
theorem mkQ_append : ∀ (p q : List S96) (a : Int), mkQ a (p ++ q) = mkQ a p ++ mkQ (endQ a p) q
  | [], _, _ => rfl
  | x :: r, q, a => by
    simp only [List.cons_append, endQ, mkQ]
    rw [mkQ_append r q _]
theorem mkQ_length : ∀ (p : List S96) (a : Int), (mkQ a p).length = p.length
  | [], _ => rfl
  | x :: r, a => by simp [mkQ, mkQ_length r]
theorem endQ_range : ∀ (p : List S96) (a : Int), (∀ x ∈ p, x.f0.length ≤ 1048576) → a ≤ endQ a p ∧ endQ a p ≤ a + 1048577 * (p.length : Int)
  | [], a, _ => by simp [endQ]
  | x :: r, a, h => by
    have h1 := h x List.mem_cons_self
    have h2 := endQ_range r (a + x.f0.length + 1) (fun y hy => h y (List.mem_cons_of_mem _ hy))
    simp only [endQ, List.length_cons]
    omega
theorem takeQ_short (p : List S96) (h : ∀ x ∈ p, x.f0.length ≤ 1048576) (j : Nat) : ∀ x ∈ p.take j, x.f0.length ≤ 1048576 := fun x hx => h x (List.mem_of_mem_take hx)
theorem laws_markPartS_ev (l : List S96) (a0 : Int) (ha0 : 0 ≤ a0) (ha1 : a0 ≤ 1000000000000) (hl : l.length ≤ 1048577) (he : ∀ x ∈ l, x.f0.length ≤ 1048576) : Ev (fun k => laws_markPartS.f k l a0) (endQ a0 l, mkQ a0 l) := by
  unfold laws_markPartS.f
  refine loop (g := fun k j => laws_markPartS.l0 k (mkQ a0 (l.take j) ++ l.drop j) (endQ a0 (l.take j)) (j : Int)) l.length ?_ ?_ |> (fun h => by simpa [mkQ, endQ] using h)
  · intro j hj h
    have hr := endQ_range (l.take j) a0 (takeQ_short l he j)
    have hlen := mkQ_length (l.take j) a0
    rw [List.length_take] at hlen hr
    have hx := he _ (List.getElem_mem hj)
    have hmin : min j l.length = j := by omega
    rw [hmin] at hlen hr
    rw [List.take_succ_eq_append_getElem hj, mkQ_append, endQ_append, List.append_assoc] at h
    simp only [mkQ, endQ] at h
    refine shift ?_
    simp only [laws_markPartS.l0]
    rw [List.drop_eq_getElem_cons hj]
    generalize endQ a0 (l.take j) = a at hr h ⊢
    have hg : rd_T96 (mkQ a0 (l.take j) ++ l[j] :: l.drop (j + 1)) (j : Int) = l[j] := by
      simp only [rd_T96, Int.toNat_natCast]
      exact getC _ _ _ _ _ hlen
    rw [hg, Int.toNat_natCast]
    refine pos (by simp [mkQ_length]; omega) (pos (by omega) (Ev.bind (laws_markIntS_ev _ a (by omega) (by omega) (by omega)) ?_))
    dsimp only
    rw [setC _ _ _ _ _ hlen, succ_wrap (by omega), w64 (x := a + (l[j].f0.length : Int) + 1) (by omega) (by omega)]
    exact h
  · refine shift ?_
    simp only [laws_markPartS.l0]
    exact neg (by simp [mkQ_length]) (now (by simp))

def elI (a : Int) (x : List Int) : List Int := iota a x.length
def endI : Int → List (List Int) → Int
  | a, [] => a
  | a, x :: r => endI (a + x.length) r
def mkI : Int → List (List Int) → List (List Int)
  | _, [] => []
  | a, x :: r => elI a x :: mkI (a + x.length) r
theorem endI_append : ∀ (p q : List (List Int)) (a : Int), endI a (p ++ q) = endI (endI a p) q
  | [], _, _ => rfl
  | x :: r, q, a => by
    simp only [List.cons_append, endI]
    exact endI_append r q _
theorem mkI_append : ∀ (p q : List (List Int)) (a : Int), mkI a (p ++ q) = mkI a p ++ mkI (endI a p) q
  | [], _, _ => rfl
  | x :: r, q, a => by
    simp only [List.cons_append, endI, mkI]
    rw [mkI_append r q _]
theorem mkI_length : ∀ (p : List (List Int)) (a : Int), (mkI a p).length = p.length
  | [], _ => rfl
  | x :: r, a => by simp [mkI, mkI_length r]
theorem endI_range : ∀ (p : List (List Int)) (a : Int), (∀ x ∈ p, x.length ≤ 1048576) → a ≤ endI a p ∧ endI a p ≤ a + 1048577 * (p.length : Int)
  | [], a, _ => by simp [endI]
  | x :: r, a, h => by
    have h1 := h x List.mem_cons_self
    have h2 := endI_range r (a + x.length) (fun y hy => h y (List.mem_cons_of_mem _ hy))
    simp only [endI, List.length_cons]
    omega
theorem takeI_short (p : List (List Int)) (h : ∀ x ∈ p, x.length ≤ 1048576) (j : Nat) : ∀ x ∈ p.take j, x.length ≤ 1048576 := fun x hx => h x (List.mem_of_mem_take hx)
theorem laws_markIntSS_ev (l : List (List Int)) (a0 : Int) (ha0 : 0 ≤ a0) (ha1 : a0 ≤ 1000000000000) (hl : l.length ≤ 1048577) (he : ∀ x ∈ l, x.length ≤ 1048576) : Ev (fun k => laws_markIntSS.f k l a0) (endI a0 l, mkI a0 l) := by
  unfold laws_markIntSS.f
  refine loop (g := fun k j => laws_markIntSS.l0 k (mkI a0 (l.take j) ++ l.drop j) (endI a0 (l.take j)) (j : Int)) l.length ?_ ?_ |> (fun h => by simpa [mkI, endI] using h)
  · intro j hj h
    have hr := endI_range (l.take j) a0 (takeI_short l he j)
    have hlen := mkI_length (l.take j) a0
    rw [List.length_take] at hlen hr
    have hx := he _ (List.getElem_mem hj)
    have hmin : min j l.length = j := by omega
    rw [hmin] at hlen hr
    rw [List.take_succ_eq_append_getElem hj, mkI_append, endI_append, List.append_assoc] at h
    simp only [mkI, endI] at h
    refine shift ?_
    simp only [laws_markIntSS.l0]
    rw [List.drop_eq_getElem_cons hj]
    generalize endI a0 (l.take j) = a at hr h ⊢
    have hg : rd_L2 (mkI a0 (l.take j) ++ l[j] :: l.drop (j + 1)) (j : Int) = l[j] := by
      simp only [rd_L2, Int.toNat_natCast]
      exact getC _ _ _ _ _ hlen
    rw [hg, Int.toNat_natCast]
    refine pos (by simp [mkI_length]; omega) (pos (by omega) (Ev.bind (laws_markIntS_ev _ a (by omega) (by omega) (by omega)) ?_))
    dsimp only
    rw [setC _ _ _ _ _ hlen, succ_wrap (by omega)]
    exact h
  · refine shift ?_
    simp only [laws_markIntSS.l0]
    exact neg (by simp [mkI_length]) (now (by simp))

theorem laws_heldIntS_ev (a : Int) (n : Nat) (ha : 0 ≤ a) (ha2 : a ≤ 4000000000000) (hn : n ≤ 4000000000000) : Ev (fun k => laws_heldIntS.f k (iota a n) a) (a + n) := by
  unfold laws_heldIntS.f
  refine loop (g := fun k j => laws_heldIntS.l0 k (iota a n) (a + (j : Int)) (j : Int)) n ?_ ?_ |> (fun h => by simpa using h)
  · intro j hj h
    refine shift ?_
    simp only [laws_heldIntS.l0]
    refine pos (by rw [iota_length]; omega) (pos (by omega) (pos (iota_get a n j hj) ?_))
    rw [succ_wrap (by omega), w64 (by omega) (by omega)]
    have e : a + (j : Int) + 1 = a + ((j + 1 : Nat) : Int) := by omega
    rw [e]
    exact h
  · refine shift ?_
    simp only [laws_heldIntS.l0]
    exact neg (by rw [iota_length]; omega) (now rfl)

theorem laws_heldIntSS_ev (l : List (List Int)) (a0 : Int) (ha0 : 0 ≤ a0) (ha1 : a0 ≤ 1000000000000) (hl : l.length ≤ 1048577) (he : ∀ x ∈ l, x.length ≤ 1048576) : Ev (fun k => laws_heldIntSS.f k (mkI a0 l) a0) (endI a0 l) := by
  unfold laws_heldIntSS.f
  refine loop (g := fun k j => laws_heldIntSS.l0 k (mkI a0 l) (endI a0 (l.take j)) (j : Int)) l.length ?_ ?_ |> (fun h => by simpa [endI] using h)
  · intro j hj h
    have hr := endI_range (l.take j) a0 (takeI_short l he j)
    have hlen := mkI_length (l.take j) a0
    rw [List.length_take] at hlen hr
    have hx := he _ (List.getElem_mem hj)
    have hmin : min j l.length = j := by omega
    rw [hmin] at hlen hr
    have hg : rd_L2 (mkI a0 l) (j : Int) = elI (endI a0 (l.take j)) l[j] := by
      have e : l = l.take j ++ l[j] :: l.drop (j + 1) := by rw [← List.drop_eq_getElem_cons hj, List.take_append_drop]
      have e2 : mkI a0 l = mkI a0 (l.take j) ++ mkI (endI a0 (l.take j)) (l[j] :: l.drop (j + 1)) := by rw [← mkI_append, ← e]
      rw [e2]
      simp only [rd_L2, Int.toNat_natCast, mkI]
      exact getC _ _ _ _ _ hlen
    rw [List.take_succ_eq_append_getElem hj, endI_append] at h
    simp only [endI] at h
    refine shift ?_
    simp only [laws_heldIntSS.l0]
    rw [hg]
    generalize endI a0 (l.take j) = a at hr h ⊢
    refine pos (by rw [mkI_length]; omega) (pos (by omega) (Ev.bind (laws_heldIntS_ev a l[j].length (by omega) (by omega) (by omega)) (neg (by omega) ?_)))
    rw [succ_wrap (by omega)]
    exact h
  · refine shift ?_
    simp only [laws_heldIntSS.l0]
    exact neg (by rw [mkI_length]; omega) (now (by simp))

theorem FnExactPlanHistory (p : List S84) (hp : wfS 32 wf84 p) (l : List S90) (hw : wfS 32 wf90 l) (a : Int) (ha : I64 a) (n : Int) (hn : I64 n) : ∃ k, laws_FnExactPlanHistory.f k p l a n = some true := by
  refine Ev.rounds ?_
  have hm0 := hp.2.1
  unfold laws_FnExactPlanHistory.f
  obtain ⟨q, hq, hq2, hpl⟩ := laws_szPathS_eq p 1048576 (by omega) (by omega) (by omega)
  refine bindc hq ?_
  by_cases h0 : q < 0
  · exact pos h0 (now rfl)
  have hpl := hpl h0
  have hpc : (p.map cPath).length ≤ 1048576 := by simpa using hpl
  have hm1 := hw.2.1
  have hme : ∀ x ∈ l, x.f0.length ≤ 140737488355328 := fun x hx => by have := (hw.2.2 x hx).1.2.1; omega
  obtain ⟨r, hr, hr2, hl⟩ := laws_szPartS_ev l q (by omega) (by omega) (by omega) hme
  refine neg h0 (Ev.bind hr ?_)
  by_cases h : r < 0
  · exact pos h (now rfl)
  obtain ⟨hl, he⟩ := hl h
  have hc : (l.map cPart).length ≤ 1048576 := by simpa using hl
  have he2 := cPart_short l he
  have htP := laws_toPathS_ev p hpl
  have htQ := laws_toPartS_ev l hl he
  have hG := planHist_length (p.map cPath) (l.map cPart) a n
  have hGr := planHist_row (p.map cPath) (l.map cPart) a n hpc
  have him := impl_PlanHistory_ev _ _ hpc hc he2 a n
  have heq := laws_eqIntSS_refl _ (show (planHist (p.map cPath) (l.map cPart) a n).length ≤ 1048576 by omega) hGr
  have mQ := endQ_range (l.map cPart) (1 + 4 * ((p.map cPath).length : Int)) he2
  have mG := endI_range (planHist (p.map cPath) (l.map cPart) a n) 1 hGr
  have held := laws_heldIntSS_ev (planHist (p.map cPath) (l.map cPart) a n) 1 (by omega) (by omega) (by omega) hGr
  refine neg h (Ev.bind htP (Ev.bind htQ (Ev.bind (spec_PlanHistory_ev _ _ hpc hc he2 a n) (Ev.bind htP (Ev.bind htQ (Ev.bind him (Ev.bind heq (pos rfl ?_))))))))
  refine Ev.bind htP (Ev.bind (laws_eqPathS_refl _ (by omega)) (pos rfl (Ev.bind htQ (Ev.bind (laws_eqPartS_refl _ hc he2) (pos rfl ?_)))))
  refine Ev.bind (laws_markPathS_ev _ 1 (by omega) (by omega) (by omega)) (Ev.bind (laws_markPartS_ev _ _ (by dsimp only; omega) (by dsimp only; omega) (by omega) he2) (neg (by dsimp only; omega) (Ev.bind heq (pos rfl ?_))))
  refine Ev.bind (laws_markIntSS_ev _ 1 (by omega) (by omega) (by omega) hGr) (Ev.bind held (neg (by omega) (pos rfl ?_)))
  exact Ev.bind htP (Ev.bind htQ (Ev.bind him (Ev.bind heq (pos rfl (Ev.bind held (neg (by omega) (pos rfl (now rfl))))))))

end Go.Proofs.Ytfamneflndhjpaa.PureFnExactPlanHistory
end

section
namespace Go.Proofs.Ytfamneflndhjpaa.fnExactPlanHistory
open Go.ChangeShapes Go.WideShapes Go.ChangeAt Go.RowKit
open Go.Proofs.YtfamneflndhjpaaW.PrintWords Go.Proofs.Ytfamneflndhjpaa.PPlan Go.Proofs.Ytfamneflndhjpaa.Opens Go.Proofs.Ytfamneflndhjpaa.Aid Go.Proofs.Ytfamneflndhjpaa.PureFnExactPlanHistory
set_option linter.unusedVariables false
theorem own : ownKnob Try.prog.godebug = none := by kernel_rfl
theorem laidOut : laidOutB Try.prog = true := by kernel_rfl
theorem o84 : Opens Try.prog 84 k84 wf84 := opens_struct (fun x : S84 => (x.f0, x.f1, x.f2, x.f3)) (fun p => (⟨p.1, p.2.1, p.2.2.1, p.2.2.2⟩ : S84)) (fun _ => rfl) Try.underlying84 (by kernel_rfl) (opensF_cons rfl (opens_int Try.underlying3 (by kernel_rfl)) (opensF_cons rfl (opens_int Try.underlying3 (by kernel_rfl)) (opensF_cons rfl (opens_int Try.underlying3 (by kernel_rfl)) (opensF_last rfl (opens_int Try.underlying3 (by kernel_rfl))))))
theorem o90 : Opens Try.prog 90 k90 wf90 := opens_struct (fun x : S90 => (x.f0, x.f1)) (fun p => (⟨p.1, p.2⟩ : S90)) (fun _ => rfl) Try.underlying90 (by kernel_rfl) (opensF_cons rfl (opens_slice Try.underlying35 (by kernel_rfl) (B := 8) (by kernel_rfl) (opens_int Try.underlying3 (by kernel_rfl))) (opensF_last rfl (opens_int Try.underlying3 (by kernel_rfl))))
theorem arg0 : Opens Try.prog 22 (Kd.slice 84 k84) (wfS 32 wf84) := (opens_slice Try.underlying22 (by kernel_rfl) (B := 32) (by kernel_rfl) o84)
theorem arg1 : Opens Try.prog 34 (Kd.slice 90 k90) (wfS 32 wf90) := (opens_slice Try.underlying34 (by kernel_rfl) (B := 32) (by kernel_rfl) o90)
set_option maxRecDepth 100000 in
theorem lifted (os : Os) (started : os.Started) (H : Type) (enc : TypeId × Value → H) :
    ReturnsInHanded {} Try.checked os 8 .any (Rows.fnExactPlanHistorySpec.pre6 enc Try.prog Try.f8 Rows.fnExactPlanHistoryRow.domain false) (Rows.fnExactPlanHistorySpec.post enc Try.prog Try.f8 false true false false) := by
  refine returnsInHanded_of_change_sized (C := Try.checked) own started (by kernel_rfl) Try.func8
    (ChangeSpec.witness6 (enc := enc) (C := Try.checked) false ⟨#[], #[.slice none 0 0, .slice none 0 0, .int .i64 0, .int .i64 0], []⟩ 8 (by kernel_rfl) (by kernel_rfl) (by kernel_rfl) (by kernel_rfl)) ?_
  intro W base args ds gs before hval0 hW hcnd hsz0 _
  have hsz : (DataW.weightsEach Try.prog (Try.f8.params.toList ++ Rows.fnExactPlanHistorySpec.plain.varTypes Try.prog) (ds ++ gs)).all (· ≤ reachBytes) = true := hsz0
  have hval : ∀ (j : Nat) t v, Try.f8.params[j]? = some t → args[j]? = some v → Value.okWide Try.prog W .any base t v := hval0
  have hW' := hW
  obtain ⟨p, q, hA0, hV, rfl, hfz, hnd⟩ := hW
  have hA : DataW.TrodAll enc Try.prog W 0 (fun _ => true) true Try.f8.params.toList args.toList ds p := hA0
  rw [Try.params8] at hA hval hsz
  obtain ⟨v0, vs0, d0, ds0, p0, q0, hargs, rfl, rfl, h0, r0⟩ := trodAll_cons hA
  obtain ⟨v1, vs1, d1, ds1, p1, q1, rfl, rfl, rfl, h1, r1⟩ := trodAll_cons r0
  obtain ⟨v2, vs2, d2, ds2, p2, q2, rfl, rfl, rfl, h2, r2⟩ := trodAll_cons r1
  obtain ⟨v3, vs3, d3, ds3, p3, q3, rfl, rfl, rfl, h3, r3⟩ := trodAll_cons r2
  obtain ⟨rfl, rfl, rfl⟩ := trodAll_nil r3
  obtain rfl : args = #[v0, v1, v2, v3] := by cases args; simp_all
  obtain ⟨rfl, rfl⟩ := trodVars_none hV
  have k0 := h0
  have lt0 : ∀ x ∈ p0, x.block < W.heap.size := by obtain ⟨m, hm⟩ := k0; exact DataW.trod_lt m _ _ _ hm
  obtain ⟨x0, hK0, hW0⟩ := opens_arg arg0 hsz (j := 0) rfl rfl h0
  obtain ⟨A0, c0, rfl, hc0, hC0⟩ := opens_row Try.underlying22 (hval 0 22 v0 rfl rfl) hK0
  have k1 := h1
  have lt1 : ∀ x ∈ p1, x.block < W.heap.size := by obtain ⟨m, hm⟩ := k1; exact DataW.trod_lt m _ _ _ hm
  obtain ⟨x1, hK1, hW1⟩ := opens_arg arg1 hsz (j := 1) rfl rfl h1
  obtain ⟨A1, c1, rfl, hc1, hC1⟩ := opens_row Try.underlying34 (hval 1 34 v1 rfl rfl) hK1
  obtain ⟨a2, rfl, rfl, rfl, w2⟩ := open_int Try.underlying3 (hval 2 3 v2 rfl rfl) h2
  obtain ⟨a3, rfl, rfl, rfl, w3⟩ := open_int Try.underlying3 (hval 3 3 v3 rfl rfl) h3
  clear hA0 hval0 hsz0 hsz
  obtain ⟨k, hk⟩ := Go.Proofs.Ytfamneflndhjpaa.PureFnExactPlanHistory.FnExactPlanHistory x0 hW0 x1 hW1 a2 (i64_of w2) a3 (i64_of w3)
  refine (laws_FnExactPlanHistory.calls k _ _ x0 _ _ x1 a2 a3 true W hC0 hc0 hC1 hc1 hk).mono fun e W' ⟨he, bel0⟩ => ?_
  have bel : Below W.heap.size W W' := by first | exact bel0 | exact bel0.below
  subst he
  exact ⟨_, rfl, _, _, _, [], _, [], hW', trodAll_mk1 (shut_bool Try.underlying4 _), (trodAll_cons_mk (Below.trod laidOut (by kernel_rfl) (of_decide_eq_true (by kernel_rfl)) k0 bel lt0) (trodAll_cons_mk (Below.trod laidOut (by kernel_rfl) (of_decide_eq_true (by kernel_rfl)) k1 bel lt1) (trodAll_cons_mk (shut_int Try.underlying3 w2) (trodAll_cons_mk (shut_int Try.underlying3 w3) trodAll_mk0)))), rfl, bel.frame _, fun h => by cases h⟩
theorem over : Rows.fnExactPlanHistoryRow.holds Try.pinned (OpenSpec.ofChange Rows.fnExactPlanHistorySpec) :=
  OpenClaim.holds_of_wide 8 Try.f8 rfl rfl rfl rfl rfl rfl rfl ⟨rfl, rfl, rfl, rfl, rfl⟩ rfl rfl rfl rfl rfl (by kernel_rfl) Try.func8 (by kernel_rfl)
    (of_decide_eq_true (by kernel_rfl)) (by unfold Func.isWrapper; first | (rw [if_pos (by decide +kernel)]; kernel_rfl) | (rw [if_neg (by decide +kernel)]; exact ⟨rfl, rfl⟩))
    (fun os started H enc _ => lifted os started H enc)
theorem proved : Rows.FnExactPlanHistorySaid := over
#print axioms proved
end Go.Proofs.Ytfamneflndhjpaa.fnExactPlanHistory
namespace Go.Proofs.Ytfamneflndhjpaa
/-- The row, under a short name, for the claim. -/
theorem fnExactPlanHistory_holds : Rows.FnExactPlanHistorySaid := fnExactPlanHistory.proved
end Go.Proofs.Ytfamneflndhjpaa
end
