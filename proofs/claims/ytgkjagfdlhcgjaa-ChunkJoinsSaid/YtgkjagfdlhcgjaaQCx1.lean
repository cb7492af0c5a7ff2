-- Written by a program of this session (wip/tools/bundle.sh), which turns the kit's print for functions given by hand. Lean checks it.
import Derived.Test.YtgkjagfdlhcgjaaQCx0
namespace Go.Proofs.Ytgkjagfdlhcgjaa.QC
open Go.RowKit Go.Proofs.Ytgkjagfdlhcgjaa.U Go.Proofs.YtgkjagfdlhcgjaaW.PrintWords Go.Proofs.YtgkjagfdlhcgjaaW.PrintLast Go.Proofs.YtgkjagfdlhcgjaaW.PrintMore
attribute [local go_sem] max2_int min2_int max_two min_two max_three min_three max_four min_four   -- for this text's walks alone
set_option linter.unusedVariables false
set_option linter.unusedSimpArgs false

/-! ### utf_Back: function 41 -/

/-! ### utf_Valid: function 43 -/

/-! ### chunk_one: function 46 -/
def chunk_one.f (a0 : ByteArray) (a1 : ByteArray) : Option (Bool) := some (decide ((wrap64 ((a0.size : Int) + (a1.size : Int))) ≤ 16))
set_option maxHeartbeats 8000000 in
set_option maxRecDepth 100000 in
theorem chunk_one.calls (a0 : ByteArray) (a1 : ByteArray) (r : Bool) (w : World) (h : chunk_one.f a0 a1 = some r) :
    Calls Try.prog 46 #[.string a0, .string a1] w fun e w' => e = .returned (.bool r) ∧ Drawn0 w w' := by
  have H : (some (decide ((wrap64 ((a0.size : Int) + (a1.size : Int))) ≤ 16))) = some r := h
  clear h
  obtain rfl := Option.some.inj H
  go_enter Try.func46, Try.ntmps46
  go_wp2
  go_ret
  exact ⟨by first | rfl | (simp; done) | (simp [*]; done), by repeat (first | exact Drawn0.refl _ | apply Drawn0.step)⟩

end Go.Proofs.Ytgkjagfdlhcgjaa.QC
