import Derived.Test.YteniemhecfkfoaaDa
import Derived.Test.YteniemhecfkfoaaQDx6
import Derived.Test.YteniemhecfkfoaaQDx8
import Derived.Test.YteniemhecfkfoaaQDx10
import Derived.Test.YteniemhecfkfoaaQDx11
/- The statements of 'differ' that compare it with the page: over numbers and lists. -/
namespace Go.Proofs.Yteniemhecfkfoaa.Da
open Go.RowKit Go.Proofs.Yteniemhecfkfoaa.QD Go.Proofs.Yteniemhecfkfoaa.U Go.Proofs.YteniemhecfkfoaaW.PrintWords Go.Proofs.YteniemhecfkfoaaW.PrintLast
set_option linter.unusedVariables false

/-- The edit that lies between. -/
def ed (s t : ByteArray) : Ed :=
  ⟨((Sp.alike s.data.toList t.data.toList).1 : Int), s.extract (Sp.alike s.data.toList t.data.toList).1 (s.size - (Sp.alike s.data.toList t.data.toList).2), t.extract (Sp.alike s.data.toList t.data.toList).1 (t.size - (Sp.alike s.data.toList t.data.toList).2)⟩
def btw (s t : ByteArray) : List Ed := if s.toList = t.toList ∨ ¬ (Sp.fits s.data.toList = true ∧ Sp.fits t.data.toList = true) then [] else [ed s t]
theorem alike_le (s t : ByteArray) : (Sp.alike s.data.toList t.data.toList).1 + (Sp.alike s.data.toList t.data.toList).2 ≤ s.size ∧ (Sp.alike s.data.toList t.data.toList).1 + (Sp.alike s.data.toList t.data.toList).2 ≤ t.size := by
  unfold Sp.alike
  split
  · have h1 := Sp.front_le s.data.toList t.data.toList
    have h2 := Sp.rear_le s.data.toList t.data.toList (Sp.front s.data.toList t.data.toList)
    rw [data_length, data_length] at h1 h2
    generalize Sp.front s.data.toList t.data.toList = n at *
    simp only
    omega
  · exact ⟨Nat.zero_le _, Nat.zero_le _⟩
theorem sub_le' {n m z : Nat} (h : n + m ≤ z) : n ≤ z - m := by omega
theorem between_f (s t : ByteArray) (hs : s.size ≤ 140737488351232) (ht : t.size ≤ 140737488351232) (k : Nat) (hk : s.size + 10 ≤ k) : differ_Between.f k s t = some (btw s t) := by
  unfold differ_Between.f btw
  by_cases he : s.toList = t.toList
  · rw [if_pos he, if_pos (.inl he)]
  rw [if_neg he, fits_f s hs, fits_f t ht, Option.bind_some, Option.bind_some]
  by_cases f1 : Sp.fits s.data.toList = true
  · rw [if_pos f1]
    by_cases f2 : Sp.fits t.data.toList = true
    · have hl := alike_le s t
      rw [if_pos f2, if_neg (by rintro (h | h); exact he h; exact h ⟨f1, f2⟩), alike_f s t hs ht k hk, Option.bind_some]
      unfold UP.pr ed
      generalize Sp.alike s.data.toList t.data.toList = a at *
      have w1 := Lib.hid (wsub3 s.size a.2 (Nat.le_trans (Nat.le_add_left _ _) hl.1) hs)
      have w2 := Lib.hid (wsub3 t.size a.2 (Nat.le_trans (Nat.le_add_left _ _) hl.2) ht)
      simp only
      rw [w1.out, w2.out, if_pos (i_nn _), if_pos (i_le (sub_le' hl.1)), if_pos (i_le (Nat.sub_le _ _)), if_pos (i_le (sub_le' hl.2)), if_pos (i_le (Nat.sub_le _ _))]
      simp only [Int.toNat_natCast]
    · rw [if_neg f2, if_pos (.inr (fun h => f2 h.2))]
  · rw [if_neg f1, if_pos (.inr (fun h => f1 h.1))]
theorem rbetween_f (s t : ByteArray) (hs : s.size ≤ 140737488351232) (ht : t.size ≤ 140737488351232) (k : Nat) (hk : 4 * s.size + 50 ≤ k) : stylusref48_Between.f k s t = some (btw s t) := by
  unfold stylusref48_Between.f btw
  rw [rfits_f s hs, rfits_f t ht, Option.bind_some, Option.bind_some]
  by_cases f1 : Sp.fits s.data.toList = true
  · rw [if_pos f1]
    by_cases f2 : Sp.fits t.data.toList = true
    · rw [if_pos f2]
      by_cases he : s.toList = t.toList
      · rw [if_pos he, if_pos (.inl he)]
      have hl := alike_le s t
      rw [if_neg he, if_neg (by rintro (h | h); exact he h; exact h ⟨f1, f2⟩), ralike_f s t hs ht k hk, Option.bind_some]
      unfold UP.pr ed
      generalize Sp.alike s.data.toList t.data.toList = a at *
      have w1 := Lib.hid (wsub3 s.size a.2 (Nat.le_trans (Nat.le_add_left _ _) hl.1) hs)
      have w2 := Lib.hid (wsub3 t.size a.2 (Nat.le_trans (Nat.le_add_left _ _) hl.2) ht)
      simp only
      rw [w1.out, w2.out, if_pos (i_nn _), if_pos (i_le (sub_le' hl.1)), if_pos (i_le (Nat.sub_le _ _)), if_pos (i_le (sub_le' hl.2)), if_pos (i_le (Nat.sub_le _ _))]
      simp only [Int.toNat_natCast]
    · rw [if_neg f2, if_pos (.inr (fun h => f2 h.2))]
  · rw [if_neg f1, if_pos (.inr (fun h => f1 h.1))]
theorem btw_cases (s t : ByteArray) : btw s t = [] ∨ btw s t = [ed s t] := by unfold btw; split; exact .inl rfl; exact .inr rfl
def stepS (s t : ByteArray) : List Ed × Bool := if btw s t = [] then ([], false) else if (ed s t).f1.size ≤ 512 ∧ (ed s t).f2.size ≤ 512 then ([ed s t], true) else ([], false)
theorem rd0 (e : Ed) : rd_T47 [e] 0 = e := rfl
theorem step_f (s t : ByteArray) (hs : s.size ≤ 140737488351232) (ht : t.size ≤ 140737488351232) (k : Nat) (hk : s.size + 10 ≤ k) : differ_Step.f k s t = some (stepS s t) := by
  unfold differ_Step.f stepS
  rw [between_f s t hs ht k hk, Option.bind_some]
  rcases btw_cases s t with h | h
  · rw [h, if_neg (by decide), if_pos rfl]
  · rw [h, if_pos (by simp : ((([ed s t] : List Ed).length : Nat) : Int) = 1), if_pos (by simp : (0 : Int) < ((([ed s t] : List Ed).length : Nat) : Int)), if_neg (List.cons_ne_nil _ _), rd0]
    unfold differ_short.f
    by_cases h1 : (ed s t).f1.size ≤ 512
    · rw [if_pos (by omega), Option.bind_some]
      by_cases h2 : (ed s t).f2.size ≤ 512
      · rw [if_pos (decide_eq_true (by omega)), if_pos ⟨h1, h2⟩]
      · rw [if_neg (by rw [decide_eq_true_eq]; omega), if_neg (fun h => h2 h.2)]
    · rw [if_neg (by omega), Option.bind_some, if_neg (by decide), if_neg (fun h => h1 h.1)]
theorem rstep_f (s t : ByteArray) (hs : s.size ≤ 140737488351232) (ht : t.size ≤ 140737488351232) (k : Nat) (hk : 4 * s.size + 50 ≤ k) : stylusref48_Step.f k s t = some (stepS s t) := by
  unfold stylusref48_Step.f stepS
  rw [rbetween_f s t hs ht k hk, Option.bind_some]
  rcases btw_cases s t with h | h
  · rw [h, if_pos (by decide), if_pos rfl]
  · rw [h, if_neg (by simp : ¬ ((([ed s t] : List Ed).length : Nat) : Int) = 0), if_pos (by simp : (0 : Int) < ((([ed s t] : List Ed).length : Nat) : Int)), if_neg (List.cons_ne_nil _ _), rd0]
    by_cases h1 : (ed s t).f1.size ≤ 512
    · rw [if_neg (by omega)]
      by_cases h2 : (ed s t).f2.size ≤ 512
      · rw [if_neg (by omega), if_pos ⟨h1, h2⟩]
      · rw [if_pos (by omega), if_neg (fun h => h2 h.2)]
    · rw [if_pos (by omega), if_neg (fun h => h1 h.1)]
theorem same_l0 (l : List Ed) (hl : l.length ≤ 1000000) : ∀ (d k i : Nat), i + d = l.length → d + 1 ≤ k → stylusref23_Same.l0 k i l l = some true := by
  intro d
  induction d with
  | zero =>
    intro k i hi hk
    obtain ⟨k, rfl⟩ : ∃ m, k = m + 1 := ⟨k - 1, by omega⟩
    rw [stylusref23_Same.l0, if_neg (by omega)]
  | succ d ih =>
    intro k i hi hk
    obtain ⟨k, rfl⟩ : ∃ m, k = m + 1 := ⟨k - 1, by omega⟩
    rw [stylusref23_Same.l0, if_pos (by omega), if_pos (by omega), if_pos (by omega), if_neg (by simp), wsucc i (by omega)]
    exact ih k (i + 1) (by omega) (by omega)
theorem same_f (l : List Ed) (hl : l.length ≤ 1000000) (k : Nat) (hk : l.length + 1 ≤ k) : stylusref23_Same.f k l l = some true := by
  unfold stylusref23_Same.f
  rw [if_pos rfl]
  exact same_l0 l hl l.length k 0 (by omega) hk
theorem lives48 (k : Nat) (hk : 100 ≤ k) : styluslaw48_lives.f k = some true := by
  unfold styluslaw48_lives.f
  have hb : btw (⟨#[97, 98, 99]⟩ : ByteArray) (⟨#[97, 120, 99]⟩ : ByteArray) = [⟨1, ⟨#[98]⟩, ⟨#[120]⟩⟩] := by
    have ha : Sp.alike [97, 98, 99] [97, 120, 99] = (1, 1) := by decide +kernel
    have hf1 : Sp.fits [97, 98, 99] = true := by decide +kernel
    have hf2 : Sp.fits [97, 120, 99] = true := by decide +kernel
    have he : ¬ (⟨#[97, 98, 99]⟩ : ByteArray).toList = (⟨#[97, 120, 99]⟩ : ByteArray).toList := by rw [Lib.toList_data, Lib.toList_data]; decide
    unfold btw
    rw [if_neg (by rintro (h | h); exact he h; exact h ⟨hf1, hf2⟩)]
    unfold ed
    rw [show (⟨#[97, 98, 99]⟩ : ByteArray).data.toList = [97, 98, 99] from rfl, show (⟨#[97, 120, 99]⟩ : ByteArray).data.toList = [97, 120, 99] from rfl, ha]
    rfl
  rw [between_f _ _ (by decide) (by decide) k (by show 3 + 10 ≤ k; omega), hb, Option.bind_some, if_pos (by decide), if_pos (by decide), rd0]
  simp [Lib.toList_data]
end Go.Proofs.Yteniemhecfkfoaa.Da
