-- Written by a program of this session (wip/myprint.py) for this claim.
import Derived.Test.YtmpncnphndafnaaPChgx0
import Derived.Test.YtmpncnphndafnaaPChgx17
namespace Go.Proofs.Ytmpncnphndafnaa.PChg
open Go.RowKit Go.Proofs.YtmpncnphndafnaaW.PrintWords Go.Proofs.YtmpncnphndafnaaW.PrintLast Go.Proofs.YtmpncnphndafnaaW.PrintMore
attribute [local go_sem] max2_int min2_int max_two min_two max_three min_three max_four min_four   -- for this text's walks alone
set_option linter.unusedVariables false
set_option linter.unusedSimpArgs false

/-! ### impl_fold: function 73 -/
def impl_fold.f (a0 : Int) (a1 : Int) : Option (Int) := (impl_Mod.f a1 2147483647).bind fun t167 => (some (Int.tmod (wrap64 ((wrap64 ((wrap64 (a0 * 1000003)) + t167)) + 13)) 2147483647))
set_option maxHeartbeats 8000000 in
set_option maxRecDepth 100000 in
theorem impl_fold.calls (a0 : Int) (a1 : Int) (r : Int) (w : World) (h : impl_fold.f a0 a1 = some r) :
    Calls Try.prog 73 #[.int .i64 a0, .int .i64 a1] w fun e w' => e = .returned (.int .i64 r) ∧ Drawn0 w w' := by
  have H : ((impl_Mod.f a1 2147483647).bind fun t167 => (some (Int.tmod (wrap64 ((wrap64 ((wrap64 (a0 * 1000003)) + t167)) + 13)) 2147483647))) = some r := h
  clear h
  replace H := Option.bind_eq_some_iff.mp H
  obtain ⟨t167, A30, H⟩ := H
  replace H : (some (Int.tmod (wrap64 ((wrap64 ((wrap64 (a0 * 1000003)) + t167)) + 13)) 2147483647)) = some r := H
  have A3 := Aside0.mk A30
  clear A30
  obtain rfl := Option.some.inj H
  go_enter Try.func73, Try.ntmps73
  go_wp2_with (first | ((with_reducible refine gate_callee (f := 78) rfl ?_); refine goesL_ (some 8) rfl rfl Try.func78 (by kernel_rfl) rfl #[.int .i64 a1, .int .i64 2147483647] rfl (by (try simp only [List.map_toArray, List.map_cons, List.map_nil]); first | done | rfl | (simp only [List.length_drop, List.length_take]; rfl)) ?_; (with_reducible refine (impl_Mod.calls a1 2147483647 t167 _ A3.out).mono ?_); rintro e w' ⟨rfl, ⟨nd, rfl⟩⟩; refine ⟨_, rfl, ?_⟩))
  go_ret
  exact ⟨by first | rfl | (simp; done) | (simp [*]; done), by repeat (first | exact Drawn0.refl _ | apply Drawn0.step)⟩

end Go.Proofs.Ytmpncnphndafnaa.PChg
