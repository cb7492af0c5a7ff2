import Derived.Test.YtbedmobcaljmdaaQYx3
import Derived.Test.YtbedmobcaljmdaaQYx5
import Derived.Test.YtbedmobcaljmdaaQYx6
/- What errors do: modes and kinds, in plain words. -/
namespace Go.Proofs.Ytbedmobcaljmdaa.Ya
open Go.RowKit Go.Proofs.Ytbedmobcaljmdaa.QY Go.Proofs.YtbedmobcaljmdaaW.PrintWords Go.Proofs.YtbedmobcaljmdaaW.PrintLast Go.Proofs.YtbedmobcaljmdaaW.PrintMore
set_option linter.unusedVariables false
def next (m e : Int) (s : Bool) : Int := if m = 0 ∧ (e = 14 ∨ e ≠ 0 ∧ s = true) then 1 else m
theorem next_f (k : Nat) (hk : 1 ≤ k) (m e : Int) (s : Bool) : policy_Next.f k m e s = some (next m e s) := by
  obtain ⟨k, rfl⟩ : ∃ j, k = j + 1 := ⟨k - 1, by omega⟩
  unfold policy_Next.f next
  by_cases h1 : m = 0
  · rw [if_pos h1, policy_Next.j0]
    by_cases h2 : e = 0
    · rw [h2, if_pos (by rfl), if_neg (by omega)]
    · rw [if_neg (by simpa using h2)]
      cases s
      · rw [if_neg (by decide)]
        by_cases h3 : e = 14
        · rw [if_pos h3, if_pos ⟨h1, .inl h3⟩]
        · rw [if_neg h3, if_neg (by simp [h3])]
      · rw [if_pos rfl, if_pos ⟨h1, .inr ⟨h2, rfl⟩⟩]
  · rw [if_neg h1, policy_Next.j0, if_pos rfl, if_neg (by omega)]
theorem rnext_f (m e : Int) (s : Bool) : stylusref40_Next.f m e s = some (next m e s) := by
  unfold stylusref40_Next.f next
  by_cases h1 : m = 0
  · rw [if_pos h1]
    by_cases h3 : e = 14
    · rw [if_pos h3, if_pos ⟨h1, .inl h3⟩]
    · rw [if_neg h3]
      by_cases h2 : e = 0
      · rw [if_pos h2, if_neg (by omega)]
      · rw [if_neg h2]
        cases s
        · rw [if_neg (by decide), if_neg (by simp [h3])]
        · rw [if_pos rfl, if_pos ⟨h1, .inr ⟨h2, rfl⟩⟩]
  · rw [if_neg h1, if_neg (by omega)]
def needW (a0 : Int) : Int := if a0 < 1 then 0 else if a0 < 12 then 1 else if a0 < 17 then 2 else if a0 < 19 then 3 else 0
theorem need_f (a : Int) : policy_need.f a = some (needW a) := rfl
theorem changes_f (a : Int) : policy_Changes.f a = some (needW a == 1) := rfl
theorem rchanges_f (a : Int) : stylusref40_Changes.f a = some (needW a == 1) := by
  unfold stylusref40_Changes.f needW
  by_cases h1 : a ≥ 1
  · rw [if_pos h1, if_neg (by omega)]
    by_cases h2 : a ≤ 11
    · rw [if_pos (by omega), decide_eq_true h2]; rfl
    · rw [if_neg (by omega), decide_eq_false h2]
      split
      · rfl
      · split <;> rfl
  · rw [if_neg h1, if_pos (by omega)]; rfl
def allows (m a : Int) : Int := if needW a = 0 then 2 else if needW a = 3 ∨ m = 0 then 0 else if m ≠ 1 then 11 else if needW a = 1 then 15 else 0
theorem allows_f (k : Nat) (hk : 1 ≤ k) (m a : Int) : policy_Allows.f k m a = some (allows m a) := by
  obtain ⟨k, rfl⟩ : ∃ j, k = j + 1 := ⟨k - 1, by omega⟩
  unfold policy_Allows.f allows
  rw [need_f, Option.bind_some]
  generalize needW a = n
  by_cases h1 : n = 0
  · rw [if_pos h1, if_pos h1]
  · rw [if_neg h1, if_neg h1]
    by_cases h2 : n = 3
    · rw [if_pos h2, policy_Allows.j0, if_pos rfl, if_pos (.inl h2)]
    · rw [if_neg h2, policy_Allows.j0]
      by_cases h3 : m = 0
      · rw [if_pos (by simpa using h3), if_pos (.inr h3)]
      · rw [if_neg (by simpa using h3), if_neg (show ¬ (n = 3 ∨ m = 0) by omega)]
        by_cases h4 : m = 1
        · rw [if_pos h4, if_neg (show ¬ m ≠ 1 by omega)]
          by_cases h5 : n = 1
          · rw [if_pos h5, if_pos h5]
          · rw [if_neg h5, if_neg h5]
        · rw [if_neg h4, if_pos h4]
theorem rallows_f (k : Nat) (hk : 2 ≤ k) (m a : Int) : stylusref40_Allows.f k m a = some (allows m a) := by
  obtain ⟨k, rfl⟩ : ∃ j, k = j + 2 := ⟨k - 2, by omega⟩
  have hn0 : needW a = 0 ↔ (a < 1 ∨ a > 18) := by unfold needW; (repeat' split) <;> omega
  have hn3 : needW a = 3 ↔ (a = 17 ∨ a = 18) := by unfold needW; (repeat' split) <;> omega
  unfold stylusref40_Allows.f allows
  by_cases h1 : a < 1
  · rw [if_pos h1, stylusref40_Allows.j0, if_pos rfl, if_pos (hn0.mpr (.inl h1))]
  · rw [if_neg h1, stylusref40_Allows.j0]
    by_cases h2 : a > 18
    · rw [if_pos (by simpa using h2), if_pos (hn0.mpr (.inr h2))]
    · rw [if_neg (by simpa using h2), if_neg (show ¬ needW a = 0 by rw [hn0]; omega)]
      by_cases h3 : a ≥ 17
      · rw [if_pos h3, if_pos (.inl (hn3.mpr (by omega)))]
      · rw [if_neg h3]
        by_cases h4 : m = 0
        · rw [if_pos h4, stylusref40_Allows.j1, if_neg (by decide), if_neg (show ¬ m = 1 by omega), if_pos (.inr h4)]
        · rw [if_neg h4, stylusref40_Allows.j1, if_neg (show ¬ (needW a = 3 ∨ m = 0) by rw [hn3]; omega)]
          by_cases h5 : m = 1
          · rw [if_neg (by simp [h5]), if_pos h5, if_neg (show ¬ m ≠ 1 by omega), rchanges_f, Option.bind_some]
            by_cases h6 : needW a = 1
            · rw [if_pos (by simp [h6]), if_pos h6]
            · rw [if_neg (by simp [h6]), if_neg h6]
          · rw [if_pos (by simp [h5]), if_pos h5]
theorem lives (k : Nat) (hk : 1 ≤ k) : styluslaw40_lives.f k = some true := by
  unfold styluslaw40_lives.f
  rw [changes_f, Option.bind_some, if_pos (by decide), next_f k hk, Option.bind_some, if_pos (by decide), allows_f k hk, Option.bind_some, if_pos (by decide), allows_f k hk, Option.bind_some]
  decide
theorem PolicyNexts : styluslaw40_PolicyNexts.Pure := by
  intro m e s _ _
  refine ⟨2, ?_⟩
  unfold styluslaw40_PolicyNexts.f
  rw [next_f 2 (by omega), rnext_f, Option.bind_some, Option.bind_some, if_pos rfl, lives 2 (by omega), Option.bind_some]
theorem PolicyAllows : styluslaw40_PolicyAllows.Pure := by
  intro m a _ _
  refine ⟨2, ?_⟩
  unfold styluslaw40_PolicyAllows.f
  rw [allows_f 2 (by omega), rallows_f 2 (by omega), Option.bind_some, Option.bind_some, if_pos rfl, changes_f, rchanges_f, Option.bind_some, Option.bind_some, if_pos (by simp), lives 2 (by omega), Option.bind_some]
theorem next_cases (m e : Int) (s : Bool) (hm : m = 0 ∨ m = 1) : (next m e s = 0 ∨ next m e s = 1) ∧ (m ≠ 0 → next m e s = m) ∧ (e = 0 → next m e s = m) := by
  unfold next; split <;> omega
theorem stays_run (k : Nat) : ∀ (l : List Int) (b : List Bool) (a m : Int) (i : Nat), (m = 0 ∨ m = 1) → i ≤ l.length → l.length ≤ 100 → l.length - i + 10 ≤ k → styluslaw40_PolicyStays.l0 k l b a m i = some true := by
  induction k with
  | zero => intro l b a m i hm h1 h2 h3; omega
  | succ k ih =>
    intro l b a m i hm h1 h2 h3
    rw [styluslaw40_PolicyStays.l0]
    by_cases hi : i < l.length
    · have go : ∀ s, (next m (rd l (i : Int)) s = 0 ∨ next m (rd l (i : Int)) s = 1) → styluslaw40_PolicyStays.l0 k l b a (next m (rd l (i : Int)) s) (wrap64 ((i : Int) + 1)) = some true := by
        intro s hs
        rw [show wrap64 ((i : Int) + 1) = ((i + 1 : Nat) : Int) by unfold wrap64; omega]
        exact ih l b a _ (i + 1) hs (by omega) h2 (by omega)
      have all : ∀ s, (if m = 0 then (if (rd l (i : Int)) = 0 then (if next m (rd l (i : Int)) s = m then (styluslaw40_PolicyStays.l0 k l b a (next m (rd l (i : Int)) s) (wrap64 ((i : Int) + 1))) else (some false)) else (styluslaw40_PolicyStays.l0 k l b a (next m (rd l (i : Int)) s) (wrap64 ((i : Int) + 1)))) else (if next m (rd l (i : Int)) s = m then (if (rd l (i : Int)) = 0 then (styluslaw40_PolicyStays.l0 k l b a (next m (rd l (i : Int)) s) (wrap64 ((i : Int) + 1))) else (styluslaw40_PolicyStays.l0 k l b a (next m (rd l (i : Int)) s) (wrap64 ((i : Int) + 1)))) else (some false))) = some true := by
        intro s
        obtain ⟨q1, q2, q3⟩ := next_cases m (rd l (i : Int)) s hm
        by_cases c1 : m = 0
        · rw [if_pos c1]
          by_cases c2 : rd l (i : Int) = 0
          · rw [if_pos c2, if_pos (q3 c2)]; exact go s q1
          · rw [if_neg c2]; exact go s q1
        · rw [if_neg c1, if_pos (q2 c1)]
          split <;> exact go s q1
      rw [if_pos (by omega), if_pos (by omega)]
      by_cases hb : (i : Int) < (b.length : Int)
      · rw [if_pos hb, next_f k (by omega), Option.bind_some]; exact all _
      · rw [if_neg hb, next_f k (by omega), Option.bind_some]; exact all _
    · rw [if_neg (by omega), lives k (by omega), changes_f, allows_f k (by omega), Option.bind_some, Option.bind_some, Option.bind_some]
      by_cases c1 : m = 0
      · rw [if_pos c1]
      · rw [if_neg c1]
        by_cases c2 : needW a = 1
        · rw [if_pos (by simp [c2]), if_neg]
          have hm1 : m = 1 := by omega
          unfold allows; rw [c2, hm1]; decide
        · rw [if_neg (by simp [c2])]
theorem PolicyStays (l : List Int) (b : List Bool) (a : Int) : styluslaw40_PolicyStays.f 200 l b a = some true := by
  unfold styluslaw40_PolicyStays.f
  by_cases h : (l.length : Int) > 100
  · rw [if_pos h, lives _ (by omega), Option.bind_some]
  · rw [if_neg h]; exact stays_run 200 l b a 0 0 (.inl rfl) (by omega) (by omega) (by omega)
end Go.Proofs.Ytbedmobcaljmdaa.Ya
