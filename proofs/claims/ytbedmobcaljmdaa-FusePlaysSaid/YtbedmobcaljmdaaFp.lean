import Derived.Test.YtbedmobcaljmdaaQFx7
import Derived.Test.YtbedmobcaljmdaaFa
/- Whatever faults are armed, and whatever calls come. -/
namespace Go.Proofs.Ytbedmobcaljmdaa.Fp
open Go.RowKit Go.Proofs.Ytbedmobcaljmdaa.QF Go.Proofs.Ytbedmobcaljmdaa.Fa Go.Proofs.YtbedmobcaljmdaaW.PrintWords Go.Proofs.YtbedmobcaljmdaaW.PrintLast Go.Proofs.YtbedmobcaljmdaaW.PrintMore
set_option linter.unusedVariables false
theorem mx_dec {n : Int} (h : ok n) (h0 : n ≠ 0) : mx (wrap64 (n - 1)) (-1) = dec n := by
  unfold ok at h; unfold mx dec wrap64
  by_cases h1 : n = -1
  · rw [h1]; decide
  · rw [if_neg h1, if_neg (by omega)]; omega
/-- what the fuse tells, told as the reference has it -/
theorem rcall_put (p s d : Int) (up : Bool) (hp : ok p) (hs : ok s) (hd : ok d) : stylusref10_Call.f p s d (!up) false = some ((putW p s d up).2.1, (putW p s d up).2.2.1, (putW p s d up).2.2.2.1, !(putW p s d up).2.2.2.2, (putW p s d up).1) := by
  unfold stylusref10_Call.f putW
  cases up
  · rfl
  · rw [if_neg (show ¬ ((!true) = true) by decide), if_neg (show ¬ (true = false) by decide)]
    by_cases h1 : d = 0
    · rw [if_pos h1, if_pos h1]; rfl
    · rw [if_neg h1, if_neg h1, if_neg (show ¬ (false = true) by decide), mx_dec hd h1]
      by_cases h2 : p = 0
      · rw [if_pos h2, if_pos h2]
      · rw [if_neg h2, if_neg h2, mx_dec hp h2]
theorem rcall_sync (p s d : Int) (up : Bool) (hp : ok p) (hs : ok s) (hd : ok d) : stylusref10_Call.f p s d (!up) true = some ((syncW p s d up).2.1, (syncW p s d up).2.2.1, (syncW p s d up).2.2.2.1, !(syncW p s d up).2.2.2.2, (syncW p s d up).1) := by
  unfold stylusref10_Call.f syncW
  cases up
  · rfl
  · rw [if_neg (show ¬ ((!true) = true) by decide), if_neg (show ¬ (true = false) by decide)]
    by_cases h1 : d = 0
    · rw [if_pos h1, if_pos h1]; rfl
    · rw [if_neg h1, if_neg h1, if_pos rfl, mx_dec hd h1]
      by_cases h2 : s = 0
      · rw [if_pos h2, if_pos h2]
      · rw [if_neg h2, if_neg h2, mx_dec hs h2]
theorem okm : ok (-1) := by unfold ok; omega
theorem put_ok (p s d : Int) (up : Bool) (hp : ok p) (hs : ok s) (hd : ok d) : ok (putW p s d up).2.1 ∧ ok (putW p s d up).2.2.1 ∧ ok (putW p s d up).2.2.2.1 := by
  unfold putW
  split
  · exact ⟨hp, hs, hd⟩
  · split
    · exact ⟨hp, hs, okm⟩
    · rename_i h1
      split
      · exact ⟨okm, hs, dec_ok hd h1⟩
      · rename_i h2; exact ⟨dec_ok hp h2, hs, dec_ok hd h1⟩
theorem sync_ok (p s d : Int) (up : Bool) (hp : ok p) (hs : ok s) (hd : ok d) : ok (syncW p s d up).2.1 ∧ ok (syncW p s d up).2.2.1 ∧ ok (syncW p s d up).2.2.2.1 := by
  unfold syncW
  split
  · exact ⟨hp, hs, hd⟩
  · split
    · exact ⟨hp, hs, okm⟩
    · rename_i h1
      split
      · exact ⟨hp, okm, dec_ok hd h1⟩
      · rename_i h2; exact ⟨hp, dec_ok hs h2, dec_ok hd h1⟩
/-- a step: both stay alike -/
theorem step_f (z p s d : Int) (up : Bool) (hp : ok p) (hs : ok s) (hd : ok d) (o : S58) (ho : o.f1.f1 ≤ 9223372036854775807) :
    ∃ z' p' s' d' up', ok p' ∧ ok s' ∧ ok d' ∧ styluslaw10_step.f z p s d up true p s d (!up) o.f0 o.f1.f0 o.f1.f1 = some (p', s', d', !up', true, z', p', s', d', up', true) := by
  unfold styluslaw10_step.f
  by_cases k0 : o.f0 = 0
  · have q := put_ok p s d up hp hs hd
    refine ⟨z, _, _, _, (putW p s d up).2.2.2.2, q.1, q.2.1, q.2.2, ?_⟩
    rw [if_pos k0, rcall_put p s d up hp hs hd, Option.bind_some, put_f z p s d up hp hs hd, Option.bind_some]
    dsimp only
    rw [beq_self_eq_true]
  · rw [if_neg k0]
    by_cases k1 : o.f0 = 1
    · have q := sync_ok p s d up hp hs hd
      refine ⟨z, _, _, _, (syncW p s d up).2.2.2.2, q.1, q.2.1, q.2.2, ?_⟩
      rw [if_pos k1, rcall_sync p s d up hp hs hd, Option.bind_some, sync_f z p s d up hp hs hd, Option.bind_some]
      dsimp only
      rw [beq_self_eq_true]
    · rw [if_neg k1]
      by_cases k2 : o.f0 = 2
      · rw [if_pos k2]
        unfold stylusref10_Arm.f fuse_Fuse_Arm.f
        rw [if_neg (show ¬ (true = false) by decide)]
        have same : ∃ z' p' s' d' up', ok p' ∧ ok s' ∧ ok d' ∧ (some (p, s, d, !up, true, z, p, s, d, up, true) : Option (Int × Int × Int × Bool × Bool × Int × Int × Int × Int × Bool × Bool)) = some (p', s', d', !up', true, z', p', s', d', up', true) := ⟨z, p, s, d, up, hp, hs, hd, rfl⟩
        by_cases a0 : o.f1.f1 < 0
        · rw [if_pos a0]
          by_cases b1 : o.f1.f0 < 0
          · rw [if_pos b1]; exact same
          · rw [if_neg b1]
            by_cases b2 : 4 ≤ o.f1.f0
            · rw [if_pos b2]; exact same
            · rw [if_neg b2, if_pos a0]; exact same
        · have hat : ok o.f1.f1 := by unfold ok; omega
          rw [if_neg a0]
          by_cases b1 : o.f1.f0 < 0
          · rw [if_pos b1, if_neg (show ¬ o.f1.f0 = 0 by omega), if_neg (show ¬ o.f1.f0 = 1 by omega), if_neg (show ¬ o.f1.f0 = 2 by omega), if_neg (show ¬ o.f1.f0 = 3 by omega)]; exact same
          · rw [if_neg b1]
            by_cases b2 : 4 ≤ o.f1.f0
            · rw [if_pos b2, if_neg (show ¬ o.f1.f0 = 0 by omega), if_neg (show ¬ o.f1.f0 = 1 by omega), if_neg (show ¬ o.f1.f0 = 2 by omega), if_neg (show ¬ o.f1.f0 = 3 by omega)]; exact same
            · rw [if_neg b2, if_neg a0]
              by_cases c0 : o.f1.f0 = 0
              · rw [if_pos c0, if_pos c0]; exact ⟨-1, -1, -1, -1, up, okm, okm, okm, rfl⟩
              · rw [if_neg c0, if_neg c0]
                by_cases c1 : o.f1.f0 = 1
                · rw [if_pos c1, if_pos c1]; exact ⟨z, o.f1.f1, s, d, up, hat, hs, hd, rfl⟩
                · rw [if_neg c1, if_neg c1]
                  by_cases c2 : o.f1.f0 = 2
                  · rw [if_pos c2, if_pos c2]; exact ⟨z, p, o.f1.f1, d, up, hp, hat, hd, rfl⟩
                  · rw [if_neg c2, if_neg c2, if_pos (show o.f1.f0 = 3 by omega)]; exact ⟨z, p, s, o.f1.f1, up, hp, hs, hat, rfl⟩
      · rw [if_neg k2]
        by_cases k3 : o.f0 = 3
        · rw [if_pos k3]; exact ⟨-1, -1, -1, -1, true, okm, okm, okm, rfl⟩
        · rw [if_neg k3]; exact ⟨z, p, s, d, up, hp, hs, hd, rfl⟩
theorem plays_run (l : List S58) (hl : l.length ≤ 60) (hw : ∀ y ∈ l, y.f1.f1 ≤ 9223372036854775807) (k : Nat) : ∀ (i : Nat) (z p s d : Int) (up : Bool), ok p → ok s → ok d → i ≤ l.length → l.length - i + 1 ≤ k →
    styluslaw10_FusePlays.l0 k l i z p s d up true p s d (!up) = some true := by
  induction k with
  | zero => intro i z p s d up hp hs hd h3 h4; omega
  | succ k ih =>
    intro i z p s d up hp hs hd h3 h4
    rw [styluslaw10_FusePlays.l0]
    by_cases hi : i < l.length
    · have wi : wrap64 ((i : Int) + 1) = ((i + 1 : Nat) : Int) := by unfold wrap64; omega
      have e1 : rd_T58 l (i : Int) = l[i]'hi := by unfold rd_T58; simp [List.getD, hi]
      rw [if_pos (by omega), if_pos (by omega), wi, e1]
      by_cases h4' : (l[i]'hi).f0 = 4
      · rw [if_pos h4', if_pos rfl]
        exact ih (i + 1) z p s d up hp hs hd (by omega) (by omega)
      · rw [if_neg h4']
        obtain ⟨z', p', s', d', up', g1, g2, g3, hst⟩ := step_f z p s d up hp hs hd (l[i]'hi) (hw _ (List.getElem_mem hi))
        rw [hst, Option.bind_some]
        dsimp only
        rw [if_pos rfl, up_f, Option.bind_some]
        dsimp only
        rw [if_neg (by cases up' <;> decide)]
        exact ih (i + 1) z' p' s' d' up' g1 g2 g3 (by omega) (by omega)
    · rw [if_neg (by omega), lives, Option.bind_some]
theorem FusePlays (l : List S58) (hw : ∀ y ∈ l, y.f1.f1 ≤ 9223372036854775807) : styluslaw10_FusePlays.f 100 l = some true := by
  unfold styluslaw10_FusePlays.f
  by_cases h : (l.length : Int) > 60
  · rw [if_pos h, lives, Option.bind_some]
  · rw [if_neg h, new_f, Option.bind_some]
    exact plays_run l (by omega) hw 100 0 (-1) (-1) (-1) (-1) true okm okm okm (by omega) (by omega)
end Go.Proofs.Ytbedmobcaljmdaa.Fp
