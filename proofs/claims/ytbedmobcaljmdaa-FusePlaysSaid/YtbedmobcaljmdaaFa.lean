import Derived.Test.YtbedmobcaljmdaaQFx4
/- A fuse, in plain words. -/
namespace Go.Proofs.Ytbedmobcaljmdaa.Fa
open Go.RowKit Go.Proofs.Ytbedmobcaljmdaa.QF Go.Proofs.YtbedmobcaljmdaaW.PrintWords Go.Proofs.YtbedmobcaljmdaaW.PrintLast Go.Proofs.YtbedmobcaljmdaaW.PrintMore
set_option linter.unusedVariables false
def ok (n : Int) : Prop := -1 ≤ n ∧ n ≤ 9223372036854775807
/-- one call less -/
def dec (n : Int) : Int := if n = -1 then -1 else n - 1
theorem dec_ok {n : Int} (h : ok n) (h0 : n ≠ 0) : ok (dec n) := by unfold dec ok at *; split <;> omega
theorem wdec {n : Int} (h : ok n) (h0 : 0 < n) : wrap64 (n - 1) = n - 1 := by unfold ok at h; unfold wrap64; omega
theorem lacks_f (z p s d : Int) (up : Bool) : fuse_Fuse_lacks.f z p s d up true = some (false, z, p, s, d, up, true) := rfl
theorem up_f (z p s d : Int) (up : Bool) : fuse_Fuse_Up.f z p s d up true = some (up, z, p, s, d, up, true) := rfl
theorem reset_f (z p s d : Int) (up : Bool) : fuse_Fuse_Reset.f z p s d up true = some (-1, -1, -1, -1, true, true) := rfl
theorem comes3_f (z p s d : Int) (up : Bool) (hd : ok d) : fuse_Fuse_comes.f z p s d up true 3 = some (d == 0, z, p, s, if d = 0 then -1 else dec d, up, true) := by
  unfold fuse_Fuse_comes.f dec
  rw [if_neg (by decide), if_neg (by decide), if_pos (by decide)]
  by_cases h1 : d = -1
  · rw [if_pos h1, h1]; rfl
  · rw [if_neg h1]
    by_cases h2 : d > 0
    · rw [if_pos h2, wdec hd h2, if_neg (show ¬ d = 0 by omega), if_neg h1, beq_eq_false_iff_ne.mpr (show d ≠ 0 by omega)]
    · have h3 : d = 0 := by unfold ok at hd; omega
      rw [if_neg h2, h3]; rfl
theorem comes1_f (z p s d : Int) (up : Bool) (hd : ok p) : fuse_Fuse_comes.f z p s d up true 1 = some (p == 0, z, if p = 0 then -1 else dec p, s, d, up, true) := by
  unfold fuse_Fuse_comes.f dec
  rw [if_pos (by decide)]
  by_cases h1 : p = -1
  · rw [if_pos h1, h1]; rfl
  · rw [if_neg h1]
    by_cases h2 : p > 0
    · rw [if_pos h2, wdec hd h2, if_neg (show ¬ p = 0 by omega), if_neg h1, beq_eq_false_iff_ne.mpr (show p ≠ 0 by omega)]
    · have h3 : p = 0 := by unfold ok at hd; omega
      rw [if_neg h2, h3]; rfl
theorem comes2_f (z p s d : Int) (up : Bool) (hd : ok s) : fuse_Fuse_comes.f z p s d up true 2 = some (s == 0, z, p, if s = 0 then -1 else dec s, d, up, true) := by
  unfold fuse_Fuse_comes.f dec
  rw [if_neg (by decide), if_pos (by decide)]
  by_cases h1 : s = -1
  · rw [if_pos h1, h1]; rfl
  · rw [if_neg h1]
    by_cases h2 : s > 0
    · rw [if_pos h2, wdec hd h2, if_neg (show ¬ s = 0 by omega), if_neg h1, beq_eq_false_iff_ne.mpr (show s ≠ 0 by omega)]
    · have h3 : s = 0 := by unfold ok at hd; omega
      rw [if_neg h2, h3]; rfl
/-- what a call tells, and what it leaves: put, sync, down, and whether the power is on -/
def putW (p s d : Int) (up : Bool) : Int × Int × Int × Int × Bool :=
  if up = false then (14, p, s, d, false) else if d = 0 then (14, p, s, -1, false) else if p = 0 then (13, -1, s, dec d, true) else (0, dec p, s, dec d, true)
def syncW (p s d : Int) (up : Bool) : Int × Int × Int × Int × Bool :=
  if up = false then (14, p, s, d, false) else if d = 0 then (14, p, s, -1, false) else if s = 0 then (13, p, -1, dec d, true) else (0, p, dec s, dec d, true)
theorem put_f (z p s d : Int) (up : Bool) (hp : ok p) (hs : ok s) (hd : ok d) : fuse_Fuse_Put.f z p s d up true = some ((putW p s d up).1, z, (putW p s d up).2.1, (putW p s d up).2.2.1, (putW p s d up).2.2.2.1, (putW p s d up).2.2.2.2, true) := by
  unfold fuse_Fuse_Put.f fuse_Fuse_call.f putW
  rw [lacks_f, Option.bind_some]
  dsimp only
  rw [if_neg (by decide)]
  cases up
  · rw [if_neg (by decide), if_pos rfl]; rfl
  · rw [if_pos rfl, if_neg (by decide), comes3_f z p s d true hd, Option.bind_some]
    dsimp only
    by_cases h1 : d = 0
    · rw [h1, if_pos (by rfl), if_pos rfl]; rfl
    · rw [beq_eq_false_iff_ne.mpr h1, if_neg (by decide), if_neg h1, if_neg h1, comes1_f z p s _ true hp, Option.bind_some]
      dsimp only
      by_cases h2 : p = 0
      · rw [h2, if_pos (by rfl), if_pos rfl]; rfl
      · rw [beq_eq_false_iff_ne.mpr h2, if_neg (by decide), if_neg h2, if_neg h2]; rfl
theorem sync_f (z p s d : Int) (up : Bool) (hp : ok p) (hs : ok s) (hd : ok d) : fuse_Fuse_Sync.f z p s d up true = some ((syncW p s d up).1, z, (syncW p s d up).2.1, (syncW p s d up).2.2.1, (syncW p s d up).2.2.2.1, (syncW p s d up).2.2.2.2, true) := by
  unfold fuse_Fuse_Sync.f fuse_Fuse_call.f syncW
  rw [lacks_f, Option.bind_some]
  dsimp only
  rw [if_neg (by decide)]
  cases up
  · rw [if_neg (by decide), if_pos rfl]; rfl
  · rw [if_pos rfl, if_neg (by decide), comes3_f z p s d true hd, Option.bind_some]
    dsimp only
    by_cases h1 : d = 0
    · rw [h1, if_pos (by rfl), if_pos rfl]; rfl
    · rw [beq_eq_false_iff_ne.mpr h1, if_neg (by decide), if_neg h1, if_neg h1, comes2_f z p s _ true hs, Option.bind_some]
      dsimp only
      by_cases h2 : s = 0
      · rw [h2, if_pos (by rfl), if_pos rfl]; rfl
      · rw [beq_eq_false_iff_ne.mpr h2, if_neg (by decide), if_neg h2, if_neg h2]; rfl
theorem new_f : fuse_New.f = some (-1, -1, -1, -1, true, true) := rfl
theorem lives : styluslaw10_lives.f = some true := by decide +kernel
theorem down_run (n : Nat) (hn : n ≤ 255) (l : List Bool) (hl : l.length ≤ 300) (k : Nat) : ∀ (i : Nat) (z p s d : Int) (up : Bool), ok p → ok s → ok d → (up = true → d = ((n - i : Nat) : Int)) → (up = decide (i ≤ n)) → i ≤ l.length → l.length - i + 1 ≤ k →
    styluslaw10_FuseDown.l0 k n l i z p s d up true = some true := by
  induction k with
  | zero => intro i z p s d up hp hs hd h1 h2 h3 h4; omega
  | succ k ih =>
    intro i z p s d up hp hs hd h1 h2 h3 h4
    have wn : wrap64 (n : Int) = (n : Int) := by unfold wrap64; omega
    rw [styluslaw10_FuseDown.l0, wn]
    by_cases hi : i < l.length
    · have wi : wrap64 ((i : Int) + 1) = ((i + 1 : Nat) : Int) := by unfold wrap64; omega
      rw [if_pos (by omega), if_pos (by omega), wi]
      have all : ∀ r : Int × Int × Int × Int × Bool, (r = putW p s d up ∨ r = syncW p s d up) → ((r.1 == 14) != (decide ((i : Int) ≥ (n : Int)))) = false ∧ (r.2.2.2.2 != (decide ((i : Int) < (n : Int)))) = false ∧ styluslaw10_FuseDown.l0 k n l ((i + 1 : Nat) : Int) z r.2.1 r.2.2.1 r.2.2.2.1 r.2.2.2.2 true = some true := by
        intro r hr
        have okm : ok (-1) := by unfold ok; omega
        cases up with
        | false =>
          have hin : ¬ i ≤ n := by intro h; rw [decide_eq_true h] at h2; cases h2
          have e : r = (14, p, s, d, false) := by rcases hr with rfl | rfl <;> rfl
          subst e
          refine ⟨?_, ?_, ?_⟩
          · show (true != decide ((i : Int) ≥ (n : Int))) = false
            rw [decide_eq_true (by omega)]; rfl
          · show (false != decide ((i : Int) < (n : Int))) = false
            rw [decide_eq_false (by omega)]; rfl
          · exact ih (i + 1) z p s d false hp hs hd (fun h => by cases h) (by rw [decide_eq_false (by omega)]) (by omega) (by omega)
        | true =>
          have hin : i ≤ n := of_decide_eq_true h2.symm
          have hdd := h1 rfl
          by_cases h0 : d = 0
          · have e : r = (14, p, s, -1, false) := by rcases hr with rfl | rfl <;> (first | (unfold putW) | (unfold syncW)) <;> rw [if_neg (by decide), if_pos h0]
            subst e
            refine ⟨?_, ?_, ?_⟩
            · show (true != decide ((i : Int) ≥ (n : Int))) = false
              rw [decide_eq_true (by omega)]; rfl
            · show (false != decide ((i : Int) < (n : Int))) = false
              rw [decide_eq_false (by omega)]; rfl
            · exact ih (i + 1) z p s (-1) false hp hs okm (fun h => by cases h) (by rw [decide_eq_false (by omega)]) (by omega) (by omega)
          · have hdec : dec d = ((n - (i + 1) : Nat) : Int) := by unfold dec; rw [if_neg (by omega)]; omega
            have hr2 : (r.1 = 13 ∨ r.1 = 0) ∧ ok r.2.1 ∧ ok r.2.2.1 ∧ r.2.2.2.1 = dec d ∧ r.2.2.2.2 = true := by
              rcases hr with rfl | rfl
              · unfold putW; rw [if_neg (by decide), if_neg h0]
                split
                · exact ⟨.inl rfl, okm, hs, rfl, rfl⟩
                · rename_i hq; exact ⟨.inr rfl, dec_ok hp hq, hs, rfl, rfl⟩
              · unfold syncW; rw [if_neg (by decide), if_neg h0]
                split
                · exact ⟨.inl rfl, hp, okm, rfl, rfl⟩
                · rename_i hq; exact ⟨.inr rfl, hp, dec_ok hs hq, rfl, rfl⟩
            obtain ⟨g1, g2, g3, g4, g5⟩ := hr2
            refine ⟨?_, ?_, ?_⟩
            · rw [beq_eq_false_iff_ne.mpr (by omega), decide_eq_false (by omega)]; rfl
            · rw [g5, decide_eq_true (by omega)]; rfl
            · rw [g4, g5, hdec]
              exact ih (i + 1) z _ _ _ true g2 g3 (by unfold ok; omega) (fun _ => rfl) (by rw [decide_eq_true (by omega)]) (by omega) (by omega)
      by_cases hb : rdOf false l (i : Int) = true
      · obtain ⟨a1, a2, a3⟩ := all (syncW p s d up) (.inr rfl)
        rw [if_pos hb, sync_f z p s d up hp hs hd, Option.bind_some]
        dsimp only
        rw [a1, if_neg (by decide), up_f, Option.bind_some]
        dsimp only
        rw [a2, if_neg (by decide)]
        exact a3
      · obtain ⟨a1, a2, a3⟩ := all (putW p s d up) (.inl rfl)
        rw [if_neg hb, put_f z p s d up hp hs hd, Option.bind_some]
        dsimp only
        rw [a1, if_neg (by decide), up_f, Option.bind_some]
        dsimp only
        rw [a2, if_neg (by decide)]
        exact a3
    · have okm : ok (-1) := by unfold ok; omega
      rw [if_neg (by omega), reset_f, Option.bind_some]
      dsimp only
      rw [up_f, Option.bind_some]
      dsimp only
      rw [if_pos rfl, put_f _ _ _ _ _ okm okm okm, Option.bind_some]
      have e1 : putW (-1) (-1) (-1) true = (0, -1, -1, -1, true) := by decide
      rw [e1]
      dsimp only
      rw [if_pos rfl, sync_f _ _ _ _ _ okm okm okm, Option.bind_some]
      have e2 : syncW (-1) (-1) (-1) true = (0, -1, -1, -1, true) := by decide
      rw [e2]
      dsimp only
      rw [if_pos rfl, lives, Option.bind_some]
theorem FuseDown (n m : Nat) (hn : n ≤ 255) (hm : m ≤ 255) (l : List Bool) : styluslaw10_FuseDown.f 400 n m l = some true := by
  have okm : ok (-1) := by unfold ok; omega
  have wn : wrap64 (n : Int) = (n : Int) := by unfold wrap64; omega
  have wm : wrap64 (m : Int) = (m : Int) := by unfold wrap64; omega
  unfold styluslaw10_FuseDown.f
  rw [new_f, Option.bind_some, wn, wm]
  by_cases h : (l.length : Int) > 300
  · rw [if_pos h, lives, Option.bind_some]
  · rw [if_neg h]
    dsimp only
    have e1 : fuse_Fuse_Arm.f (-1) (-1) (-1) (-1) true true 3 (n : Int) = some (true, -1, -1, -1, (n : Int), true, true) := by
      unfold fuse_Fuse_Arm.f
      rw [if_neg (by decide), if_neg (by decide), if_neg (by decide), if_neg (by omega), if_neg (by decide), if_neg (by decide), if_neg (by decide)]
    have e2 : fuse_Fuse_Arm.f (-1) (-1) (-1) (n : Int) true true 2 (m : Int) = some (true, -1, -1, (m : Int), (n : Int), true, true) := by
      unfold fuse_Fuse_Arm.f
      rw [if_neg (by decide), if_neg (by decide), if_neg (by decide), if_neg (by omega), if_neg (by decide), if_neg (by decide), if_pos (by decide)]
    rw [e1, Option.bind_some]
    dsimp only
    rw [e2, Option.bind_some]
    exact down_run n hn l (by omega) 400 0 (-1) (-1) m n true okm (by unfold ok; omega) (by unfold ok; omega) (fun _ => by simp) (by simp) (by omega) (by omega)
end Go.Proofs.Ytbedmobcaljmdaa.Fa
