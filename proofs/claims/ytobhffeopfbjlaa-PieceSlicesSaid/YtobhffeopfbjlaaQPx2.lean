-- Written by a program of this session (wip/tools/bundle.sh), which turns the kit's print for functions given by hand. Lean checks it.
import Derived.Test.YtobhffeopfbjlaaQPx0
namespace Go.Proofs.Ytobhffeopfbjlaa.QP
open Go.RowKit Go.Proofs.YtobhffeopfbjlaaW.PrintWords Go.Proofs.YtobhffeopfbjlaaW.PrintLast Go.Proofs.YtobhffeopfbjlaaW.PrintMore
attribute [local go_sem] max2_int min2_int max_two min_two max_three min_three max_four min_four   -- for this text's walks alone
set_option linter.unusedVariables false
set_option linter.unusedSimpArgs false

/-! ### piece_end: function 39 -/
def piece_end.f (a0 : Int) : Option (Int) := some (wrap64 ((wrap64 (a0 - (Int.tmod a0 32))) + 32))
set_option maxHeartbeats 8000000 in
set_option maxRecDepth 100000 in
theorem piece_end.calls (a0 : Int) (r : Int) (w : World) (h : piece_end.f a0 = some r) :
    Calls Try.prog 39 #[.int .i64 a0] w fun e w' => e = .returned (.int .i64 r) ∧ Drawn0 w w' := by
  have H : (some (wrap64 ((wrap64 (a0 - (Int.tmod a0 32))) + 32))) = some r := h
  clear h
  obtain rfl := Option.some.inj H
  go_enter Try.func39, Try.ntmps39
  go_wp2
  go_ret
  exact ⟨by first | rfl | (simp; done) | (simp [*]; done), by repeat (first | exact Drawn0.refl _ | apply Drawn0.step)⟩

end Go.Proofs.Ytobhffeopfbjlaa.QP
