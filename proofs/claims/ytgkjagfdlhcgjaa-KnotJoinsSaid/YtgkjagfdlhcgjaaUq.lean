import Derived.Test.YtgkjagfdlhcgjaaUp
/- What the printed functions of texts come to: Bad, Edge, Back, Runes, Lines. -/
namespace Go.Proofs.Ytgkjagfdlhcgjaa.UP
open Go.RowKit Go.Proofs.YtgkjagfdlhcgjaaW.PrintWords Go.Proofs.YtgkjagfdlhcgjaaW.PrintLast Go.Proofs.YtgkjagfdlhcgjaaW.PrintMore Go.Proofs.Ytgkjagfdlhcgjaa.QU
set_option linter.unusedVariables false

theorem take_at (l : List UInt8) (p : Nat) (h : p < l.length) : Sp.take l (p : Int) = Sp.dec (l.drop p) := by
  unfold Sp.take; rw [if_pos (by omega), Int.toNat_natCast]
theorem rbad_l0 (s : ByteArray) (hs : s.size ≤ 140737488351232) : ∀ (d k p : Nat), p + d = s.size → d + 50 ≤ k →
    stylusref01_Bad.l0 k s p = some (match Sp.badF (s.data.toList.drop p).length (s.data.toList.drop p) p with | none => -1 | some n => (n : Int)) := by
  have hsz := data_length s
  intro d
  induction d using Nat.strongRecOn with
  | ind d ih =>
    intro k p hp hk
    obtain ⟨k, rfl⟩ : ∃ m, k = m + 1 := ⟨k - 1, by omega⟩
    simp only [stylusref01_Bad.l0]
    by_cases h : p < s.size
    · rw [if_pos (by omega), rtake_f s hs p k (by omega), take_at _ _ (by omega)]
      simp only [Option.bind_some, pr]
      have hne : s.data.toList.drop p ≠ [] := by
        intro h'; have := congrArg List.length h'; rw [List.length_drop, List.length_nil] at this; omega
      rw [Sp.badF_step _ _ hne]
      have hle := @Sp.dec_le (s.data.toList.drop p)
      rw [List.length_drop] at hle
      by_cases h0 : (Sp.dec (s.data.toList.drop p)).2 = 0
      · rw [if_pos (by omega), if_pos h0]
      · rw [if_neg (by omega), if_neg h0]
        have hw : wrap64 ((p : Int) + ((Sp.dec (s.data.toList.drop p)).2 : Nat)) = ((p + (Sp.dec (s.data.toList.drop p)).2 : Nat) : Int) := by unfold wrap64; omega
        rw [hw, ih (d - (Sp.dec (s.data.toList.drop p)).2) (by omega) k _ (by omega) (by omega), List.drop_drop]
    · rw [if_neg (by omega), List.drop_of_length_le (by omega)]; rfl
theorem rbad_f (s : ByteArray) (hs : s.size ≤ 140737488351232) (k : Nat) (hk : s.size + 50 ≤ k) : stylusref01_Bad.f k s = some (Sp.badI s.data.toList) := by
  unfold stylusref01_Bad.f
  have := rbad_l0 s hs s.size k 0 (by omega) (by omega)
  rw [List.drop_zero] at this
  exact this
theorem rvalid_f (s : ByteArray) (hs : s.size ≤ 140737488351232) (k : Nat) (hk : s.size + 50 ≤ k) : stylusref01_Valid.f k s = some (Sp.valid s.data.toList) := by
  unfold stylusref01_Valid.f
  rw [rbad_f s hs k hk]
  simp only [Option.bind_some]
  rw [Sp.badI_neg]
theorem on_f (b : UInt8) : stylusref01_on.f (b.toNat : Int) = some (Sp.cont b) := by
  unfold stylusref01_on.f Sp.cont
  repeat' split
  all_goals (congr 1; rw [Bool.eq_iff_iff]; simp; try omega)
theorem getD_at (l : List UInt8) (i : Nat) (h : i < l.length) : l.getD i 0 = l[i]'h := by rw [List.getD_eq_getElem?_getD, List.getElem?_eq_getElem h]; rfl
theorem redge_f (s : ByteArray) (i : Int) : stylusref01_Edge.f s i = some (Sp.edge s.data.toList i) := by
  have hsz := data_length s
  unfold stylusref01_Edge.f Sp.edge
  by_cases h0 : i < 0
  · rw [if_pos h0, show decide (0 ≤ i) = false by simp; omega]; rfl
  rw [if_neg h0, show decide (0 ≤ i) = true by simp; omega]
  by_cases h1 : i > (s.size : Int)
  · rw [if_pos h1, show decide (i ≤ (s.data.toList.length : Int)) = false by simp only [decide_eq_false_iff_not]; omega]; rfl
  rw [if_neg h1, show decide (i ≤ (s.data.toList.length : Int)) = true by simp only [decide_eq_true_eq]; omega]
  by_cases h2 : i = 0
  · rw [if_pos h2, show decide (i = 0) = true by simpa using h2]; rfl
  rw [if_neg h2, show decide (i = 0) = false by simpa using h2]
  by_cases h3 : i = (s.size : Int)
  · rw [if_pos h3, show decide (i = (s.data.toList.length : Int)) = true by simp only [decide_eq_true_eq]; omega]; rfl
  rw [if_neg h3, show decide (i = (s.data.toList.length : Int)) = false by simp only [decide_eq_false_iff_not]; omega, if_pos (by omega), if_pos (by omega)]
  rw [bt_int s i (by omega) (by omega), on_f, getD_at _ _ (by omega)]; rfl
theorem edge_f (s : ByteArray) (i : Int) (k : Nat) (hk : 1 ≤ k) : utf_Edge.f k s i = some (Sp.edge s.data.toList i) := by
  have hsz := data_length s
  obtain ⟨k, rfl⟩ : ∃ m, k = m + 1 := ⟨k - 1, by omega⟩
  unfold utf_Edge.f Sp.edge
  by_cases h0 : i < 0
  · rw [if_pos h0, show decide (0 ≤ i) = false by simp; omega]; simp [utf_Edge.j0]
  rw [if_neg h0, show decide (0 ≤ i) = true by simp; omega]
  by_cases h1 : i > (s.size : Int)
  · rw [show decide (i > (s.size : Int)) = true by simpa using h1, show decide (i ≤ (s.data.toList.length : Int)) = false by simp only [decide_eq_false_iff_not]; omega]; simp [utf_Edge.j0]
  rw [show decide (i > (s.size : Int)) = false by simpa using h1, show decide (i ≤ (s.data.toList.length : Int)) = true by simp only [decide_eq_true_eq]; omega]
  simp only [utf_Edge.j0]
  rw [if_neg (by decide)]
  by_cases h2 : i = 0
  · rw [if_pos h2, show decide (i = 0) = true by simpa using h2]; rfl
  rw [if_neg h2, show decide (i = 0) = false by simpa using h2]
  by_cases h3 : i = (s.size : Int)
  · rw [if_pos h3, show decide (i = (s.data.toList.length : Int)) = true by simp only [decide_eq_true_eq]; omega]; rfl
  rw [if_neg h3, show decide (i = (s.data.toList.length : Int)) = false by simp only [decide_eq_false_iff_not]; omega, if_pos (by omega), if_pos (by omega)]
  rw [bt_int s i (by omega) (by omega), goesOn_f, getD_at _ _ (by omega)]; rfl
theorem backN_le (l : List UInt8) : ∀ k, Sp.backN l k ≤ k
  | 0 => Nat.le_refl 0
  | k + 1 => by unfold Sp.backN; split; exact Nat.le_refl _; have := backN_le l k; omega
theorem back_l0 (s : ByteArray) (hs : s.size ≤ 140737488351232) : ∀ (p k : Nat), p ≤ s.size → p + 10 ≤ k → utf_Back.l0 k s p = some (Sp.backN s.data.toList p : Int) := by
  intro p
  induction p with
  | zero =>
    intro k hp hk
    obtain ⟨k, rfl⟩ : ∃ m, k = m + 1 := ⟨k - 1, by omega⟩
    simp only [utf_Back.l0]
    rw [if_neg (by omega)]; unfold mx; simp [Sp.backN]
  | succ p ih =>
    intro k hp hk
    obtain ⟨k, rfl⟩ : ∃ m, k = m + 1 := ⟨k - 1, by omega⟩
    simp only [utf_Back.l0]
    rw [if_pos (by omega), edge_f s _ k (by omega)]
    simp only [Option.bind_some, Sp.backN]
    by_cases h : Sp.edge s.data.toList ((p + 1 : Nat) : Int) = true
    · rw [if_pos h, if_pos h, show mx ((p + 1 : Nat) : Int) 0 = ((p + 1 : Nat) : Int) by unfold mx; omega]
    · rw [if_neg h, if_neg h, show wrap64 (((p + 1 : Nat) : Int) - 1) = (p : Int) by unfold wrap64; omega]
      exact ih k (by omega) (by omega)
theorem back_f (s : ByteArray) (hs : s.size ≤ 140737488351232) (i : Int) (k : Nat) (hk : s.size + 10 ≤ k) : utf_Back.f k s i = some (Sp.back s.data.toList i : Int) := by
  have hsz := data_length s
  unfold utf_Back.f Sp.back
  by_cases h : i ≥ (s.size : Int)
  · rw [if_pos h, if_pos (by omega), hsz]
  · rw [if_neg h, if_neg (by omega)]
    by_cases h0 : 0 ≤ i
    · obtain ⟨p, rfl⟩ := Int.eq_ofNat_of_zero_le h0
      rw [Int.toNat_natCast]
      exact back_l0 s hs p k (by omega) (by omega)
    · obtain ⟨k, rfl⟩ : ∃ m, k = m + 1 := ⟨k - 1, by omega⟩
      simp only [utf_Back.l0]
      rw [if_neg (by omega), show i.toNat = 0 by omega, show mx i 0 = 0 by unfold mx; omega]; rfl
theorem rback_l0 (s : ByteArray) (hs : s.size ≤ 140737488351232) (i : Int) : ∀ (d k p : Nat) (b : Int), p + d = s.size + 1 → 2 * d + 10 ≤ k → 1 ≤ p →
    b = (Sp.backN s.data.toList (if (p : Int) - 1 ≤ i then p - 1 else i.toNat) : Int) →
    stylusref01_Back.l0 k s i b p = some (Sp.backN s.data.toList (if (s.size : Int) ≤ i then s.size else i.toNat) : Int) := by
  have hsz := data_length s
  intro d
  induction d with
  | zero =>
    intro k p b hp hk h1 hb
    obtain ⟨k, rfl⟩ : ∃ m, k = m + 2 := ⟨k - 2, by omega⟩
    simp only [stylusref01_Back.l0]
    rw [if_neg (by omega)]
    simp only [stylusref01_Back.j1]
    rw [if_neg (by decide), hb, show ((p : Int) - 1) = (s.size : Int) by omega, show p - 1 = s.size by omega]
  | succ d ih =>
    intro k p b hp hk h1 hb
    obtain ⟨k, rfl⟩ : ∃ m, k = m + 2 := ⟨k - 2, by omega⟩
    simp only [stylusref01_Back.l0]
    rw [if_pos (by omega)]
    simp only [stylusref01_Back.j1]
    by_cases hpi : (p : Int) ≤ i
    · rw [if_pos (by simpa using hpi), redge_f]
      simp only [Option.bind_some]
      rw [show wrap64 ((p : Int) + 1) = ((p + 1 : Nat) : Int) by unfold wrap64; omega]
      rw [if_pos (by omega)] at hb
      have hN : Sp.backN s.data.toList p = if Sp.edge s.data.toList (p : Int) = true then p else Sp.backN s.data.toList (p - 1) := by
        obtain ⟨q, rfl⟩ : ∃ q, p = q + 1 := ⟨p - 1, by omega⟩
        rfl
      by_cases he : Sp.edge s.data.toList (p : Int) = true
      · rw [if_pos he]
        refine ih k (p + 1) _ (by omega) (by omega) (by omega) ?_
        rw [if_pos (by omega), show p + 1 - 1 = p by omega, hN, if_pos he]
      · rw [if_neg he]
        refine ih k (p + 1) _ (by omega) (by omega) (by omega) ?_
        rw [if_pos (by omega), show p + 1 - 1 = p by omega, hN, if_neg he, hb]
    · rw [if_neg (by simpa using hpi), hb, if_neg (by omega : ¬ (s.size : Int) ≤ i)]
      by_cases hq : (p : Int) - 1 ≤ i
      · rw [if_pos hq, show p - 1 = i.toNat by omega]
      · rw [if_neg hq]
theorem rback_f (s : ByteArray) (hs : s.size ≤ 140737488351232) (i : Int) (k : Nat) (hk : 2 * s.size + 50 ≤ k) : stylusref01_Back.f k s i = some (Sp.back s.data.toList i : Int) := by
  have hsz := data_length s
  obtain ⟨k, rfl⟩ : ∃ m, k = m + 2 := ⟨k - 2, by omega⟩
  have hlast : Sp.backN s.data.toList s.size = s.size := by
    cases h : s.size with
    | zero => rfl
    | succ n => 
      unfold Sp.backN; rw [if_pos]
      unfold Sp.edge
      have h1 : ((n + 1 : Nat) : Int) = (s.data.toList.length : Int) := by omega
      rw [show decide (0 ≤ ((n + 1 : Nat) : Int)) = true by simp only [decide_eq_true_eq]; omega, show decide (((n + 1 : Nat) : Int) ≤ (s.data.toList.length : Int)) = true by simp only [decide_eq_true_eq]; omega, show decide (((n + 1 : Nat) : Int) = (s.data.toList.length : Int)) = true by simp only [decide_eq_true_eq]; omega]
      simp
  unfold stylusref01_Back.f Sp.back
  have e : (if i ≥ (s.data.toList.length : Int) then s.data.toList.length else Sp.backN s.data.toList i.toNat) = Sp.backN s.data.toList (if (s.size : Int) ≤ i then s.size else i.toNat) := by
    by_cases h : (s.size : Int) ≤ i
    · rw [if_pos (by omega), if_pos h, hlast, hsz]
    · rw [if_neg (by omega), if_neg h]
  rw [e]
  simp only [stylusref01_Back.l0]
  rw [if_pos (by omega)]
  simp only [stylusref01_Back.j1]
  by_cases h0 : 0 ≤ i
  · rw [if_pos (by simpa using h0), redge_f]
    simp only [Option.bind_some]
    rw [if_pos (by simp [Sp.edge]), show wrap64 (0 + 1) = ((1 : Nat) : Int) by unfold wrap64; omega]
    refine rback_l0 s hs i s.size k 1 0 (by omega) (by omega) (by omega) ?_
    rw [if_pos (by omega)]; rfl
  · rw [if_neg (by simpa using h0), if_neg (by omega), show i.toNat = 0 by omega]; rfl
theorem rrunes_l0 (s : ByteArray) (hs : s.size ≤ 140737488351232) : ∀ (d k p c : Nat), p + d = s.size → d + 10 ≤ k → c ≤ p → stylusref01_Runes.l0 k s c p = some ((c + Sp.runes (s.data.toList.drop p) : Nat) : Int) := by
  have hsz := data_length s
  intro d
  induction d with
  | zero =>
    intro k p c hp hk hc
    obtain ⟨k, rfl⟩ : ∃ m, k = m + 1 := ⟨k - 1, by omega⟩
    simp only [stylusref01_Runes.l0]
    rw [if_neg (by omega), List.drop_of_length_le (by omega)]; simp [Sp.runes]
  | succ d ih =>
    intro k p c hp hk hc
    obtain ⟨k, rfl⟩ : ∃ m, k = m + 1 := ⟨k - 1, by omega⟩
    have hlt : p < s.data.toList.length := by omega
    simp only [stylusref01_Runes.l0]
    rw [if_pos (by omega), if_pos (by omega), bt_nat s p hlt, on_f, drop_cons _ _ hlt]
    simp only [Option.bind_some, Sp.runes]
    rw [show wrap64 ((p : Int) + 1) = ((p + 1 : Nat) : Int) by unfold wrap64; omega, show wrap64 ((c : Int) + 1) = ((c + 1 : Nat) : Int) by unfold wrap64; omega]
    by_cases h : Sp.cont (s.data.toList[p]'hlt) = true
    · rw [if_pos h, if_pos h, ih k (p + 1) c (by omega) (by omega) (by omega), Nat.zero_add]
    · rw [if_neg h, if_neg h, ih k (p + 1) (c + 1) (by omega) (by omega) (by omega), Nat.add_assoc]
theorem rrunes_f (s : ByteArray) (hs : s.size ≤ 140737488351232) (k : Nat) (hk : s.size + 50 ≤ k) : stylusref01_Runes.f k s = some (Sp.runes s.data.toList : Int) := by
  unfold stylusref01_Runes.f
  have := rrunes_l0 s hs s.size k 0 0 (by omega) (by omega) (by omega)
  rw [List.drop_zero, Nat.zero_add] at this; exact this
theorem rlines_l0 (s : ByteArray) (hs : s.size ≤ 140737488351232) : ∀ (d k p c : Nat), p + d = s.size → d + 10 ≤ k → c ≤ p → stylusref01_Lines.l0 k s c p = some ((c + Sp.lines (s.data.toList.drop p) : Nat) : Int) := by
  have hsz := data_length s
  intro d
  induction d with
  | zero =>
    intro k p c hp hk hc
    obtain ⟨k, rfl⟩ : ∃ m, k = m + 1 := ⟨k - 1, by omega⟩
    simp only [stylusref01_Lines.l0]
    rw [if_neg (by omega), List.drop_of_length_le (by omega)]; simp [Sp.lines]
  | succ d ih =>
    intro k p c hp hk hc
    obtain ⟨k, rfl⟩ : ∃ m, k = m + 1 := ⟨k - 1, by omega⟩
    have hlt : p < s.data.toList.length := by omega
    simp only [stylusref01_Lines.l0]
    rw [if_pos (by omega), if_pos (by omega), bt_nat s p hlt, drop_cons _ _ hlt]
    simp only [Sp.lines]
    rw [show wrap64 ((p : Int) + 1) = ((p + 1 : Nat) : Int) by unfold wrap64; omega, show wrap64 ((c : Int) + 1) = ((c + 1 : Nat) : Int) by unfold wrap64; omega]
    by_cases h : (s.data.toList[p]'hlt).toNat = 10
    · rw [if_pos (by omega), if_pos h, ih k (p + 1) (c + 1) (by omega) (by omega) (by omega), Nat.add_assoc]
    · rw [if_neg (by omega), if_neg h, ih k (p + 1) c (by omega) (by omega) (by omega), Nat.zero_add]
theorem rlines_f (s : ByteArray) (hs : s.size ≤ 140737488351232) (k : Nat) (hk : s.size + 50 ≤ k) : stylusref01_Lines.f k s = some (Sp.lines s.data.toList : Int) := by
  unfold stylusref01_Lines.f
  have := rlines_l0 s hs s.size k 0 0 (by omega) (by omega) (by omega)
  rw [List.drop_zero, Nat.zero_add] at this; exact this
end Go.Proofs.Ytgkjagfdlhcgjaa.UP
