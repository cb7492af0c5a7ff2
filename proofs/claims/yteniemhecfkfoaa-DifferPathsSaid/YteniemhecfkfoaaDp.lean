import Derived.Test.YteniemhecfkfoaaDb
import Derived.Test.YteniemhecfkfoaaQDx17
/- The steps through any texts are as the page says: over numbers and lists. -/
namespace Go.Proofs.Yteniemhecfkfoaa.Da
open Go.RowKit Go.Proofs.Yteniemhecfkfoaa.QD Go.Proofs.Yteniemhecfkfoaa.U Go.Proofs.YteniemhecfkfoaaW.PrintWords Go.Proofs.YteniemhecfkfoaaW.PrintLast
set_option linter.unusedVariables false

/-! ### paths -/
def pathF (l : List ByteArray) : Nat → Nat → List St → List St
  | 0, _, acc => acc
  | d + 1, i, acc => pathF l d (i + 1) (if (stepS (l.getD i ByteArray.empty) (l.getD (i + 1) ByteArray.empty)).2 = true then acc ++ [⟨(stepS (l.getD i ByteArray.empty) (l.getD (i + 1) ByteArray.empty)).1⟩] else acc)
theorem rdOf_nat (l : List ByteArray) (i : Nat) : rdOf ByteArray.empty l (i : Int) = l.getD i ByteArray.empty := by unfold rdOf; rw [Int.toNat_natCast]
theorem getD_small (l : List ByteArray) (h : ∀ x ∈ l, x.size ≤ 1000) (i : Nat) : (l.getD i ByteArray.empty).size ≤ 1000 := by
  rw [List.getD_eq_getElem?_getD]
  by_cases hi : i < l.length
  · rw [List.getElem?_eq_getElem hi]; exact h _ (List.getElem_mem hi)
  · rw [List.getElem?_eq_none (by omega)]; decide
theorem path_l0 (l : List ByteArray) (hl : l.length ≤ 20) (h : ∀ x ∈ l, x.size ≤ 1000) : ∀ (d k i : Nat) (acc : List St), i + d + 1 = l.length → 6000 + d ≤ k → acc.length ≤ i →
    differ_Path.l0 k l acc ((l.length - 1 : Nat) : Int) i = some (pathF l d i acc) := by
  intro d
  induction d with
  | zero =>
    intro k i acc hi hk ha
    obtain ⟨k, rfl⟩ : ∃ m, k = m + 1 := ⟨k - 1, by omega⟩
    rw [differ_Path.l0, if_neg (by omega)]; rfl
  | succ d ih =>
    intro k i acc hi hk ha
    obtain ⟨k, rfl⟩ : ∃ m, k = m + 1 := ⟨k - 1, by omega⟩
    have g1 := getD_small l h i
    have g2 := getD_small l h (i + 1)
    rw [differ_Path.l0, if_pos (by omega), if_pos (by omega), if_pos (by omega), wsucc i (by omega), if_pos (by omega), if_pos (by omega), rdOf_nat, rdOf_nat, step_f _ _ (by omega) (by omega) k (by omega), Option.bind_some]
    unfold pathF
    by_cases hz : (stepS (l.getD i ByteArray.empty) (l.getD (i + 1) ByteArray.empty)).2 = true
    · rw [if_pos hz, if_pos hz, if_pos (by omega)]; exact ih k (i + 1) _ (by omega) (by omega) (by simp; omega)
    · rw [if_neg hz, if_neg hz]; exact ih k (i + 1) _ (by omega) (by omega) (by omega)
theorem rpath_l0 (l : List ByteArray) (hl : l.length ≤ 20) (h : ∀ x ∈ l, x.size ≤ 1000) : ∀ (d k i : Nat) (acc : List St), i + d + 1 = l.length → 6000 + d ≤ k → acc.length ≤ i →
    stylusref48_Path.l0 k l acc ((i + 1 : Nat) : Int) = some (pathF l d i acc) := by
  intro d
  induction d with
  | zero =>
    intro k i acc hi hk ha
    obtain ⟨k, rfl⟩ : ∃ m, k = m + 1 := ⟨k - 1, by omega⟩
    rw [stylusref48_Path.l0, if_neg (by omega)]; rfl
  | succ d ih =>
    intro k i acc hi hk ha
    obtain ⟨k, rfl⟩ : ∃ m, k = m + 1 := ⟨k - 1, by omega⟩
    have g1 := getD_small l h i
    have g2 := getD_small l h (i + 1)
    rw [stylusref48_Path.l0, if_pos (by omega), wpred i (by omega), if_pos (by omega), if_pos (by omega), if_pos (by omega), rdOf_nat, rdOf_nat, rstep_f _ _ (by omega) (by omega) k (by omega), Option.bind_some, wsucc2 i (by omega)]
    unfold pathF
    by_cases hz : (stepS (l.getD i ByteArray.empty) (l.getD (i + 1) ByteArray.empty)).2 = true
    · rw [if_pos hz, if_pos hz, if_pos (by omega)]; exact ih k (i + 1) _ (by omega) (by omega) (by simp; omega)
    · rw [if_neg hz, if_neg hz]; exact ih k (i + 1) _ (by omega) (by omega) (by omega)
theorem pathF_small (l : List ByteArray) : ∀ (d i : Nat) (acc : List St) (n : Nat), acc.length ≤ n → (∀ x ∈ acc, x.f0.length ≤ 1) → (pathF l d i acc).length ≤ n + d ∧ ∀ x ∈ pathF l d i acc, x.f0.length ≤ 1
  | 0, i, acc, n, h, h2 => ⟨h, h2⟩
  | d + 1, i, acc, n, h, h2 => by
    unfold pathF
    split
    · have := pathF_small l d (i + 1) (acc ++ [⟨(stepS (l.getD i ByteArray.empty) (l.getD (i + 1) ByteArray.empty)).1⟩]) (n + 1) (by simp; omega) (by
        intro x hx
        rcases List.mem_append.1 hx with hx | hx
        · exact h2 x hx
        · rw [List.mem_singleton.1 hx]; unfold stepS; repeat' split
          all_goals simp)
      exact ⟨by have := this.1; omega, this.2⟩
    · have := pathF_small l d (i + 1) acc n h h2
      exact ⟨by have := this.1; omega, this.2⟩
theorem rdS (l : List St) (i : Nat) (h : i < l.length) : rd_T53 l (i : Int) = l[i]'h := by
  unfold rd_T53; rw [Int.toNat_natCast, List.getD_eq_getElem?_getD, List.getElem?_eq_getElem h]; rfl
theorem steps_l0 (l : List St) (hl : l.length ≤ 1000) (h : ∀ x ∈ l, x.f0.length ≤ 1) : ∀ (d k i : Nat), i + d = l.length → d + 5 ≤ k → stylusref23_Steps.l0 k l l i = some true := by
  intro d
  induction d with
  | zero =>
    intro k i hi hk
    obtain ⟨k, rfl⟩ : ∃ m, k = m + 1 := ⟨k - 1, by omega⟩
    rw [stylusref23_Steps.l0, if_neg (by omega)]
  | succ d ih =>
    intro k i hi hk
    obtain ⟨k, rfl⟩ : ∃ m, k = m + 1 := ⟨k - 1, by omega⟩
    have hlt : i < l.length := by omega
    have hx := h _ (List.getElem_mem hlt)
    rw [stylusref23_Steps.l0, if_pos (by omega), if_pos (by omega), if_pos (by omega), rdS l i hlt, same_f _ (by omega) k (by omega), Option.bind_some, if_pos rfl, wsucc i (by omega)]
    exact ih k (i + 1) (by omega) (by omega)
theorem guard_l0 (l : List ByteArray) (hl : l.length ≤ 20) : ∀ (d k i : Nat), i + d = l.length → 7000 + d ≤ k → (∀ x ∈ l.take i, x.size ≤ 1000) → styluslaw48_DifferPaths.l0 k l i = some true := by
  intro d
  induction d with
  | zero =>
    intro k i hi hk hx
    obtain ⟨k, rfl⟩ : ∃ m, k = m + 1 := ⟨k - 1, by omega⟩
    rw [List.take_of_length_le (by omega)] at hx
    have hp : ∃ P : List St, differ_Path.f k l = some P ∧ stylusref48_Path.f k l = some P ∧ P.length ≤ 100 ∧ ∀ x ∈ P, x.f0.length ≤ 1 := by
      by_cases h0 : l.length = 0
      · obtain ⟨k, rfl⟩ : ∃ m, k = m + 1 := ⟨k - 1, by omega⟩
        refine ⟨[], ?_, ?_, by simp, fun x hx => by cases hx⟩
        · unfold differ_Path.f
          rw [differ_Path.l0, if_neg (by rw [h0]; have : mx (wrap64 (((0 : Nat) : Int) - 1)) 0 = 0 := (by unfold mx wrap64; omega); rw [this]; omega)]
        · unfold stylusref48_Path.f
          rw [stylusref48_Path.l0, if_neg (by omega)]
      · have hm : mx (wrap64 ((l.length : Int) - 1)) 0 = ((l.length - 1 : Nat) : Int) := by unfold mx wrap64; omega
        have hs := pathF_small l (l.length - 1) 0 [] 0 (by simp) (fun x hx => by cases hx)
        refine ⟨pathF l (l.length - 1) 0 [], ?_, ?_, by have := hs.1; omega, hs.2⟩
        · unfold differ_Path.f
          rw [hm]
          exact path_l0 l hl hx (l.length - 1) k 0 [] (by omega) (by omega) (by simp)
        · unfold stylusref48_Path.f
          exact rpath_l0 l hl hx (l.length - 1) k 0 [] (by omega) (by omega) (by simp)
    obtain ⟨P, hp1, hp2, hp3, hp4⟩ := hp
    rw [styluslaw48_DifferPaths.l0, if_neg (by omega), hp1, Option.bind_some, hp2, Option.bind_some]
    unfold stylusref48_Same.f stylusref23_Steps.f
    rw [if_pos rfl, show stylusref23_Steps.l0 k P P 0 = some true from steps_l0 P (by omega) hp4 P.length k 0 (by omega) (by omega), Option.bind_some, Option.bind_some, if_pos rfl, lives48 k (by omega), Option.bind_some]
  | succ d ih =>
    intro k i hi hk hx
    obtain ⟨k, rfl⟩ : ∃ m, k = m + 1 := ⟨k - 1, by omega⟩
    have hlt : i < l.length := by omega
    rw [styluslaw48_DifferPaths.l0, if_pos (by omega), if_pos (by omega), rdOf_nat, List.getD_eq_getElem?_getD, List.getElem?_eq_getElem hlt, Option.getD_some, wsucc i (by omega)]
    by_cases h1 : ((l[i]'hlt).size : Int) > 1000
    · rw [if_pos h1, lives48 k (by omega), Option.bind_some]
    · rw [if_neg h1]
      refine ih k (i + 1) (by omega) (by omega) ?_
      intro x hx'
      rw [List.take_succ_eq_append_getElem hlt] at hx'
      rcases List.mem_append.1 hx' with hx' | hx'
      · exact hx x hx'
      · rw [List.mem_singleton.1 hx']; omega
theorem DifferPaths (l : List ByteArray) : styluslaw48_DifferPaths.f 8000 l = some true := by
  unfold styluslaw48_DifferPaths.f
  by_cases c : (l.length : Int) > 20
  · rw [if_pos c, lives48 8000 (by decide), Option.bind_some]
  · rw [if_neg c]; exact guard_l0 l (by omega) l.length 8000 0 (by omega) (by omega) (fun x hx => by simp at hx)
end Go.Proofs.Yteniemhecfkfoaa.Da
