/- Go functions that the statement reaches: each printed as a Lean function, with a proof that the Go function comes to its answer; conditions: the bounds that each states. -/
import Derived.Test.YtfamneflndhjpaaBFnExactPlanHistory0
namespace Go.Proofs.YtfamneflndhjpaaW.PrintWords
open Go.RowKit
namespace Kd
section
variable {α β : Type} {d : Kd α} {d' : Kd β} {e e' : Nat} {w w1 W : World} {base b : Nat} {ok ok' okv oku : Nat → Prop} {u v : Value} {xs : List α} {ys : List β}
end
section
variable {α β : Type} {d : Kd α} {d' : Kd β} {e e' g : Nat} {w w1 W : World} {base b : Nat} {ok ok' okv oku : Nat → Prop} {u v : Value} {xs : List α} {ys : List β}
end
section
variable {P : Program} {ops : Array Oper} {rest : List Oper} {o : Oper} {a : Act} {Q : Exit → Act → World → Prop} {Kc : Act → World → Prop} {α : Type}
end
section
variable {α β : Type} {d : Kd α} {e e' g n cap : Nat} {w w1 W : World} {base : Nat} {ok ok' oki okp : Nat → Prop} {u v : Value} {xs : List α} {i : Int} {c : List Value}
theorem H_step (h : H d e w base ok v xs i oki c) (hm : ∀ k, ok k → ¬ oki k → k < w.heap.size → w1.heap[k]? = w.heap[k]?) : H d e w1 base ok v xs i oki c := by
  obtain ⟨ho, f, h⟩ := h
  exact ⟨ho, f, R_step h (fun k hk hlt => hm k hk.1 hk.2 hlt)⟩
end
section
variable {P : Program} {ops : Array Oper} {rest : List Oper} {o : Oper} {a : Act} {Q : Exit → Act → World → Prop} {α : Type}
end
end Kd
end Go.Proofs.YtfamneflndhjpaaW.PrintWords
namespace Go.Proofs.YtfamneflndhjpaaW.PrintWords
open Go.RowKit
section
variable {w W W2 : World} {S S2 S' : Nat → Prop}
end
namespace Kd
section
variable {α : Type} {d : Kd α} {e base n c : Nat} {ok oki S S2 : Nat → Prop} {w w0 W W1 W2 : World} {v : Value} {A : Option Addr} {xs : List α} {i : Int} {cs : List Value}
theorem R_kept (h : d.R e W base ok v xs) (hk : Kept W W2 S) (hne : ∀ k, ok k → ¬ S k) : d.R e W2 base ok v xs := R_step h (fun k ho hlt => hk.2 k hlt (hne k ho))
theorem S_kept (h : Kd.S d e W base ok v xs) (hk : Kept W W2 S) (hne : ∀ k, ok k → ¬ S k) : Kd.S d e W2 base ok v xs := S_step h (fun k ho hlt => hk.2 k hlt (hne k ho))
end
end Kd
end Go.Proofs.YtfamneflndhjpaaW.PrintWords
namespace Go.Proofs.Ytfamneflndhjpaa.PPlan
open Go.RowKit Go.Proofs.YtfamneflndhjpaaW.PrintWords Go.Proofs.YtfamneflndhjpaaW.PrintLast Go.Proofs.YtfamneflndhjpaaW.PrintMore
/-! ### Steps of the printed walks under short names (what each asks beside its arguments is shown by the tactic that it names) -/
section
variable {α : Type} {d : Kd α} {e base n j : Nat} {ok : Nat → Prop} {v : Value} {xs : List α} {A : Option Addr} {W0 W W1 : World} {g : Nat} {o : Obj}
end
section
variable {α β : Type} {r : β}
end
section
variable {P : Program} {ops : Array Oper} {Q : Exit → Act → World → Prop} {md : Region.Mode} {S : World → Prop} {ds : List Nat} {T : Bool × List (List Nat × List Nat)} {oi : Oper} {fuel : Nat} {l : Array Bool} {a : Act} {w : World}
end
section
variable {P : Program} {ops : Array Oper} {Q : Exit → Act → World → Prop} {rest : List Oper} {oi : Oper} {a : Act} {w : World} {f : FuncId} {fn : Func} {ag : Array Operand} {ts : Array TypeId}
end
/-! ### A law's own walk: what a row lies in is told by where its blocks begin and end -/
theorem drawnB {w w' : World} (h : Drawn0 w w') : Below w.heap.size w w' := by
  obtain ⟨n, rfl⟩ := h.out
  exact pw_below_drewN (Below.refl _ _) n
section
variable {α : Type} {d : Kd α} {e : Nat} {ok : Nat → Prop} {v : Value} {xs : List α} {w W W1 : World}
theorem newR (h : d.R e W1 W.heap.size ok v xs) (hb : Below w.heap.size w W) : d.R e W1 w.heap.size (fun k => W.heap.size ≤ k ∧ k < W1.heap.size) v xs := Kd.R_lower (Kd.R_mono (Kd.R_bound h) (fun _ hk => ⟨hk.2.1, hk.2.2.1⟩)) (below_size hb)
theorem newS (h : Kd.S d e W1 W.heap.size ok v xs) (hb : Below w.heap.size w W) : Kd.S d e W1 w.heap.size (fun k => W.heap.size ≤ k ∧ k < W1.heap.size) v xs := Kd.S_lower (Kd.S_mono (Kd.S_bound h) (fun _ hk => ⟨hk.2.1, hk.2.2.1⟩)) (below_size hb)
theorem kR {base a b a' b' : Nat} (h : Aside0 (d.R e W base (fun k => a ≤ k ∧ k < b) v xs)) (hk : Kept W W1 (fun k => a' ≤ k ∧ k < b')) (hd : b ≤ a' ∨ b' ≤ a := by omega) : Aside0 (d.R e W1 base (fun k => a ≤ k ∧ k < b) v xs) := ⟨Kd.R_kept h.out hk (fun k h1 h2 => by omega)⟩
theorem kS {base a b a' b' : Nat} (h : Aside0 (Kd.S d e W base (fun k => a ≤ k ∧ k < b) v xs)) (hk : Kept W W1 (fun k => a' ≤ k ∧ k < b')) (hd : b ≤ a' ∨ b' ≤ a := by omega) : Aside0 (Kd.S d e W1 base (fun k => a ≤ k ∧ k < b) v xs) := ⟨Kd.S_kept h.out hk (fun k h1 h2 => by omega)⟩
end

end Go.Proofs.Ytfamneflndhjpaa.PPlan
