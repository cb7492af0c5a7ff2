import Derived.Test.YteniemhecfkfoaaDb
import Derived.Test.YteniemhecfkfoaaQDx12
/- What lies between any two texts is as the page says: over numbers and lists. -/
namespace Go.Proofs.Yteniemhecfkfoaa.Da
open Go.RowKit Go.Proofs.Yteniemhecfkfoaa.QD Go.Proofs.Yteniemhecfkfoaa.U Go.Proofs.YteniemhecfkfoaaW.PrintWords Go.Proofs.YteniemhecfkfoaaW.PrintLast
set_option linter.unusedVariables false

theorem tells0 (k : Nat) (s t : ByteArray) (hs : s.size ≤ 5000) (ht : t.size ≤ 5000) (hk : 30000 ≤ k) : styluslaw48_DifferTells.j0 (k + 1) s t false = some true := by
  have hst : (stepS s t).1.length ≤ 1000000 ∧ (stepS s t).1.length + 1 ≤ k := by
    unfold stepS; repeat' split
    all_goals simp
    all_goals omega
  have hbt : (btw s t).length ≤ 1000000 ∧ (btw s t).length + 1 ≤ k := by
    rcases btw_cases s t with h | h
    all_goals (rw [h]; simp; omega)
  rw [styluslaw48_DifferTells.j0, if_neg (by decide), alike_f s t (by omega) (by omega) k (by omega), Option.bind_some, ralike_f s t (by omega) (by omega) k (by omega), Option.bind_some,
    step_f s t (by omega) (by omega) k (by omega), Option.bind_some, rstep_f s t (by omega) (by omega) k (by omega), Option.bind_some, between_f s t (by omega) (by omega) k (by omega), Option.bind_some,
    rbetween_f s t (by omega) (by omega) k (by omega), Option.bind_some, if_pos rfl, if_pos rfl, if_pos (by simp), same_f _ hst.1 k hst.2, Option.bind_some, if_pos rfl, same_f _ hbt.1 k hbt.2, Option.bind_some, if_pos rfl, lives48 k (by omega), Option.bind_some]
theorem DifferTells : styluslaw48_DifferTells.Pure := by
  intro s t hs ht
  refine ⟨30000 + 1, ?_⟩
  have tt : styluslaw48_DifferTells.j0 (30000 + 1) s t true = some true := by rw [styluslaw48_DifferTells.j0, if_pos rfl, lives48 30000 (by decide), Option.bind_some]
  unfold styluslaw48_DifferTells.f
  by_cases c : (s.size : Int) > 5000
  · rw [if_pos c]; exact tt
  · rw [if_neg c]
    by_cases c2 : (t.size : Int) > 5000
    · rw [show decide ((t.size : Int) > 5000) = true by simpa using c2]; exact tt
    · rw [show decide ((t.size : Int) > 5000) = false by simpa using c2]; exact tells0 30000 s t (by omega) (by omega) (Nat.le_refl _)

end Go.Proofs.Yteniemhecfkfoaa.Da
