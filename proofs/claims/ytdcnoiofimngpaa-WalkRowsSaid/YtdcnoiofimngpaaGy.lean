import Derived.Test.YtdcnoiofimngpaaGl
/- Where lines begin, by the document: Starts, Line, Start, Row in plain words. -/
namespace Go.Proofs.Ytdcnoiofimngpaa.Gy
open Go.RowKit Go.Proofs.Ytdcnoiofimngpaa.U Go.Proofs.Ytdcnoiofimngpaa.QK Go.Proofs.Ytdcnoiofimngpaa.QS Go.Proofs.Ytdcnoiofimngpaa.Kt Go.Proofs.Ytdcnoiofimngpaa.Kh Go.Proofs.Ytdcnoiofimngpaa.Ki Go.Proofs.Ytdcnoiofimngpaa.Kj Go.Proofs.Ytdcnoiofimngpaa.Kk Go.Proofs.Ytdcnoiofimngpaa.Gs Go.Proofs.Ytdcnoiofimngpaa.Gd Go.Proofs.Ytdcnoiofimngpaa.Gt Go.Proofs.Ytdcnoiofimngpaa.Gr Go.Proofs.Ytdcnoiofimngpaa.Ge Go.Proofs.Ytdcnoiofimngpaa.Gq Go.Proofs.Ytdcnoiofimngpaa.Gn Go.Proofs.Ytdcnoiofimngpaa.Gl Go.Proofs.Ytdcnoiofimngpaa.Gb Go.Proofs.Ytdcnoiofimngpaa.Gf Go.Proofs.YtdcnoiofimngpaaW.PrintWords Go.Proofs.YtdcnoiofimngpaaW.PrintLast Go.Proofs.YtdcnoiofimngpaaW.PrintMore
set_option linter.unusedVariables false
set_option linter.unusedSimpArgs false
theorem nl_iff : ∀ (l : List UInt8) (j x : Nat), j ≤ Sp.lines l → (nl l j ≤ x ↔ j ≤ Sp.lines (l.take x))
  | l, 0, x, h => by rw [nl_zero]; simp
  | [], j + 1, x, h => by simp [Sp.lines] at h
  | b :: l, j + 1, 0, h => by rw [nl_cons, List.take_zero]; simp [Sp.lines]
  | b :: l, j + 1, x + 1, h => by
    rw [nl_cons, List.take_succ_cons, Sp.lines]
    rw [Sp.lines] at h
    by_cases hb : b.toNat = 10
    · rw [if_pos hb] at h ⊢
      rw [if_pos hb]
      have := nl_iff l j x (by omega)
      omega
    · rw [if_neg hb] at h ⊢
      rw [if_neg hb]
      have := nl_iff l (j + 1) x (by omega)
      omega
theorem lines_take_le (l : List UInt8) (x : Nat) : Sp.lines (l.take x) ≤ Sp.lines l := by
  conv => rhs; rw [← List.take_append_drop x l, Sp.lines_append]
  omega
theorem nl_lines (l : List UInt8) (j : Nat) (h : j ≤ Sp.lines l) : Sp.lines (l.take (nl l j)) = j := by
  have h1 := (nl_iff l j (nl l j) h).mp (Nat.le_refl _)
  apply Decidable.byContradiction
  intro hc
  have h2 := lines_take_le l (nl l j)
  have h3 := (nl_iff l (j + 1) (nl l j) (by omega)).mpr (by omega)
  obtain ⟨s1, s2⟩ := nl_step l j (by omega)
  omega
theorem nl_mono (l : List UInt8) (j : Nat) (h : j < Sp.lines l) : nl l j < nl l (j + 1) := by
  obtain ⟨s1, s2⟩ := nl_step l j h
  omega
/-- how many lines stand ahead of a place of a line -/
theorem in_line (l : List UInt8) (j p : Nat) (h : j ≤ Sp.lines l) (h0 : nl l j ≤ p) (h1 : j < Sp.lines l → p < nl l (j + 1)) : Sp.lines (l.take p) = j := by
  have a := (nl_iff l j p h).mp h0
  have b := lines_take_le l p
  apply Decidable.byContradiction
  intro hc
  have := (nl_iff l (j + 1) p (by omega)).mpr (by omega)
  have := h1 (by omega)
  omega
theorem no_nl (l : List UInt8) (j p : Nat) (h : j ≤ Sp.lines l) (h0 : nl l j ≤ p) (h1 : j < Sp.lines l → p + 1 < nl l (j + 1)) (hp : p < l.length) : ¬ (l[p]'hp).toNat = 10 := by
  intro e
  have a := in_line l j p h h0 (fun q => by have := h1 q; omega)
  have b := in_line l j (p + 1) h (by omega) h1
  rw [Sp.lines_take l p hp, if_pos e] at b
  omega
theorem is_nl (l : List UInt8) (j : Nat) (h : j < Sp.lines l) : ∃ hp : nl l (j + 1) - 1 < l.length, (l[nl l (j + 1) - 1]'hp).toNat = 10 := by
  have m := nl_mono l j h
  have le := nl_le l (j + 1)
  have hp : nl l (j + 1) - 1 < l.length := by omega
  refine ⟨hp, ?_⟩
  have a := in_line l j (nl l (j + 1) - 1) (by omega) (by omega) (fun _ => by omega)
  have b := nl_lines l (j + 1) (by omega)
  apply Decidable.byContradiction
  intro e
  have c := Sp.lines_take l (nl l (j + 1) - 1) hp
  rw [if_neg e, show nl l (j + 1) - 1 + 1 = nl l (j + 1) by omega] at c
  omega
theorem bt_at (s : ByteArray) (p : Nat) (hp : p < (ld s).length) : bt s (p : Int) = (((ld s)[p]'hp).toNat : Int) := by
  unfold bt
  rw [Int.toNat_natCast, dif_pos (by rw [← ld_len]; exact hp)]
  rfl
/-- the places behind line ends -/
def st : List UInt8 → Nat → List Int
  | [], _ => []
  | b :: l, i => if b.toNat = 10 then ((i + 1 : Nat) : Int) :: st l (i + 1) else st l (i + 1)
theorem st_len : ∀ (l : List UInt8) (i : Nat), (st l i).length = Sp.lines l
  | [], i => by simp [st, Sp.lines]
  | b :: l, i => by
    rw [st, Sp.lines]
    split
    · rw [List.length_cons, st_len l (i + 1)]
      try omega
    · rw [Nat.zero_add]; exact st_len l (i + 1)
theorem st_get : ∀ (l : List UInt8) (i j : Nat), j < Sp.lines l → (st l i).getD j 0 = ((i + nl l (j + 1) : Nat) : Int)
  | [], i, j, h => by simp [Sp.lines] at h
  | b :: l, i, j, h => by
    rw [st, nl_cons]
    rw [Sp.lines] at h
    by_cases hb : b.toNat = 10
    · rw [if_pos hb] at h
      rw [if_pos hb, if_pos hb]
      cases j with
      | zero => rw [nl_zero]; rfl
      | succ j =>
        rw [List.getD_cons_succ, st_get l (i + 1) j (by omega)]
        omega
    · rw [if_neg hb] at h
      rw [if_neg hb, if_neg hb, st_get l (i + 1) j (by omega)]
      omega
/-- where lines begin -/
def starts (s : ByteArray) : List Int := 0 :: st (ld s) 0
theorem starts_len (s : ByteArray) : (starts s).length = Sp.lines (ld s) + 1 := by unfold starts; rw [List.length_cons, st_len]
theorem starts_get (s : ByteArray) (j : Nat) (h : j ≤ Sp.lines (ld s)) : rd (starts s) (j : Int) = (nl (ld s) j : Int) := by
  unfold rd starts
  rw [Int.toNat_natCast]
  cases j with
  | zero => rw [nl_zero]; rfl
  | succ j => rw [List.getD_cons_succ, st_get _ _ _ (by omega)]; omega
theorem starts_l (s : ByteArray) (hs : s.size ≤ 100000) (k : Nat) : ∀ (m i : Nat) (out : List Int), m + i = s.size → out.length ≤ i + 1 → stylusref19_Starts.l0 (m + 1 + k) s out (i : Int) = some (out ++ st ((ld s).drop i) i)
  | 0, i, out, h, ho => by
    rw [show 0 + 1 + k = k + 1 by omega, stylusref19_Starts.l0, if_neg (by omega), List.drop_eq_nil_of_le (by rw [ld_len]; omega), st, List.append_nil]
  | m + 1, i, out, h, ho => by
    have hp : i < (ld s).length := by rw [ld_len]; omega
    rw [show m + 1 + 1 + k = (m + 1 + k) + 1 by omega, stylusref19_Starts.l0, if_pos (by omega), if_pos (by omega), bt_at s i hp, List.drop_eq_getElem_cons hp, st]
    have e : wrap64 ((i : Int) + 1) = ((i + 1 : Nat) : Int) := by unfold wrap64; omega
    rw [e]
    by_cases hb : ((ld s)[i]'hp).toNat = 10
    · rw [if_pos (by omega), if_pos (by omega), if_pos hb, starts_l s hs k m (i + 1) _ (by omega) (by rw [List.length_append, List.length_singleton]; omega), List.append_assoc]
      rfl
    · rw [if_neg (by omega), if_neg hb, starts_l s hs k m (i + 1) _ (by omega) (by omega)]
theorem ref_starts (s : ByteArray) (hs : s.size ≤ 100000) (k : Nat) : stylusref19_Starts.f (s.size + 1 + k) s = some (starts s) := by
  unfold stylusref19_Starts.f
  have := starts_l s hs k s.size 0 [0] (by omega) (by simp)
  rw [List.drop_zero] at this
  exact this
theorem ref_start (s : ByteArray) (hs : s.size ≤ 100000) (k : Nat) (x : Int) : stylusref19_Start.f (s.size + 1 + k) s x = some (startV s x) := by
  unfold stylusref19_Start.f
  rw [ref_starts s hs k, Option.bind_some, starts_len]
  unfold startV
  rw [kf2]
  by_cases c1 : x < 0
  · rw [if_pos c1, if_pos c1]
  · rw [if_neg c1, if_neg c1]
    by_cases c2 : (Sp.lines (ld s) : Int) + 1 ≤ x
    · rw [if_pos (by omega), if_pos c2]
    · rw [if_neg (by omega), if_neg c2, if_pos (by omega), if_pos (by omega)]
      have := starts_get s x.toNat (by omega)
      rw [Int.toNat_of_nonneg (by omega)] at this
      rw [this]
theorem line_l (s : ByteArray) (hs : s.size ≤ 100000) (x L : Nat) (hx : x ≤ s.size) (hL : Sp.lines ((ld s).take x) = L) (k : Nat) : ∀ (m n : Nat), m + n = L → stylusref19_Line.l0 (m + 1 + k) s (x : Int) (starts s) (n : Int) = some ((L : Int), kf 1 (s.extract (nl (ld s) L) x), 0)
  | m, n, h => by
    have hl := lines_take_le (ld s) x
    have hll := Sp.lines_le (ld s)
    rw [ld_len] at hll
    have e : wrap64 ((n : Int) + 1) = ((n + 1 : Nat) : Int) := by unfold wrap64; omega
    rw [show m + 1 + k = (m + k) + 1 by omega, stylusref19_Line.l0, e, starts_len]
    have fin : n = L → (if (0 : Int) ≤ (n : Int) then (if (n : Int) < ((Sp.lines (ld s) + 1 : Nat) : Int) then (if 0 ≤ (rd (starts s) (n : Int)) then (if (rd (starts s) (n : Int)) ≤ (x : Int) then (if (x : Int) ≤ (s.size : Int) then ((stylusref01_Runes.f (s.extract ((rd (starts s) (n : Int)) : Int).toNat ((x : Int)).toNat)).bind fun t120 => (some ((n : Int), t120, (0 : Int)))) else (none)) else (none)) else (none)) else (none)) else (none)) = some ((L : Int), kf 1 (s.extract (nl (ld s) L) x), 0) := by
      rintro rfl
      have h1 := (nl_iff (ld s) n x (by omega)).mpr (by omega)
      rw [starts_get s n (by omega), if_pos (by omega), if_pos (by omega), if_pos (by omega), if_pos (by omega), if_pos (by omega), Int.toNat_natCast, Int.toNat_natCast]
      unfold stylusref01_Runes.f
      have hz : (s.extract (nl (ld s) n) x).size ≤ 100000 := by rw [ByteArray.size_extract]; omega
      rw [if_pos (by omega), Option.bind_some]
      rfl
    by_cases c1 : n < L
    · have h1 := (nl_iff (ld s) (n + 1) x (by omega)).mpr (by omega)
      rw [if_pos (by omega), if_pos (by omega), starts_get s (n + 1) (by omega), if_pos (by omega)]
      obtain ⟨m', rfl⟩ : ∃ m', m = m' + 1 := ⟨m - 1, by omega⟩
      rw [show m' + 1 + k = m' + 1 + k from rfl, line_l s hs x L hx hL k m' (n + 1) (by omega)]
    · by_cases c2 : n < Sp.lines (ld s)
      · rw [if_pos (by omega), if_pos (by omega), starts_get s (n + 1) (by omega), if_neg ?_]
        · exact fin (by omega)
        · intro hc
          have := (nl_iff (ld s) (n + 1) x (by omega)).mp (by omega)
          omega
      · rw [if_neg (by omega)]
        exact fin (by omega)
theorem kf_mid (j : Int) (s : ByteArray) (a b : Nat) (h : a ≤ b) : kf j (s.extract a b) = kf j (s.extract 0 b) - kf j (s.extract 0 a) := by
  have e : s.extract 0 b = s.extract 0 a ++ s.extract a b := by
    apply ld_ext
    rw [Gc.ld_app, Gc.ld_take, Gc.ld_take, Gc.ld_extract]
    rw [List.extract_eq_take_drop, ← List.take_add, Nat.add_sub_cancel' h]
  rw [e, kf_app]
  omega
theorem ref_line (s : ByteArray) (hs : s.size ≤ 100000) (k : Nat) (x : Int) : stylusref19_Line.f (s.size + 1 + k) s x = some (lineV s x) := by
  unfold stylusref19_Line.f
  rw [show s.size + 1 + k = (s.size + k) + 1 by omega, ref_rune s x _ hs, Option.bind_some]
  unfold runeV lineV
  by_cases c : checkV s x = 0
  · obtain ⟨x0, x1⟩ := check_in c
    rw [if_pos c, if_pos c, if_pos rfl, show s.size + k + 1 = s.size + 1 + k by omega, ref_starts s hs k, Option.bind_some]
    have hl := lines_take_le (ld s) x.toNat
    have hll := Sp.lines_le (ld s)
    rw [ld_len] at hll
    have := line_l s hs x.toNat _ (by omega) rfl (s.size - Sp.lines ((ld s).take x.toNat) + k) (Sp.lines ((ld s).take x.toNat)) 0 (by omega)
    rw [Int.toNat_of_nonneg x0] at this
    rw [show Sp.lines ((ld s).take x.toNat) + 1 + (s.size - Sp.lines ((ld s).take x.toNat) + k) = s.size + 1 + k by omega] at this
    refine this.trans ?_
    have h1 := (nl_iff (ld s) (Sp.lines ((ld s).take x.toNat)) x.toNat hl).mpr (Nat.le_refl _)
    rw [kf_mid 1 s _ _ h1, kf2, Gc.ld_take, Int.toNat_natCast]
  · rw [if_neg c, if_neg c, if_neg c]
/-- where a line ends -/
def rowE (s : ByteArray) (j : Nat) : Nat := if j < Sp.lines (ld s) then nl (ld s) (j + 1) - 1 else s.size
/-- Row -/
def rowV (s : ByteArray) (x : Int) : ByteArray × Int := if x < 0 then (⟨#[]⟩, 3) else if kf 2 s + 1 ≤ x then (⟨#[]⟩, 3) else (s.extract (nl (ld s) x.toNat) (rowE s x.toNat), 0)
theorem rowE_le (s : ByteArray) (j : Nat) : nl (ld s) j ≤ rowE s j ∧ rowE s j ≤ s.size := by
  unfold rowE
  have h1 := nl_le (ld s) j
  have h2 := nl_le (ld s) (j + 1)
  rw [ld_len] at h1 h2
  split
  · have := nl_mono (ld s) j (by omega)
    omega
  · omega
theorem row_l (s : ByteArray) (hs : s.size ≤ 100000) (j : Nat) (hj : j ≤ Sp.lines (ld s)) (k : Nat) : ∀ (m p : Nat), m + p = rowE s j → nl (ld s) j ≤ p → stylusref19_Row.l0 (m + 1 + k) s (nl (ld s) j : Int) (p : Int) = some (s.extract (nl (ld s) j) (rowE s j), 0)
  | m, p, h, hp => by
    obtain ⟨e1, e2⟩ := rowE_le s j
    rw [show m + 1 + k = (m + k) + 1 by omega, stylusref19_Row.l0]
    by_cases c : p < rowE s j
    · have hlt : p < (ld s).length := by rw [ld_len]; omega
      have hn := no_nl (ld s) j p hj hp (fun q => by unfold rowE at c; rw [if_pos q] at c; omega) hlt
      rw [if_pos (by omega), if_pos (by omega), bt_at s p hlt, if_neg (by omega)]
      have e : wrap64 ((p : Int) + 1) = ((p + 1 : Nat) : Int) := by unfold wrap64; omega
      rw [e]
      obtain ⟨m', rfl⟩ : ∃ m', m = m' + 1 := ⟨m - 1, by omega⟩
      exact row_l s hs j hj k m' (p + 1) (by omega) (by omega)
    · have e : p = rowE s j := by omega
      subst e
      by_cases c2 : j < Sp.lines (ld s)
      · obtain ⟨hq, hnl⟩ := is_nl (ld s) j c2
        have er : rowE s j = nl (ld s) (j + 1) - 1 := by unfold rowE; rw [if_pos c2]
        rw [ld_len] at hq
        have hb : bt s ((rowE s j : Nat) : Int) = 10 := by
          rw [er, bt_at s _ (by rw [ld_len]; exact hq)]
          omega
        rw [if_pos (by omega), if_pos (by omega), if_pos hb, if_pos (by omega), if_pos (by omega), if_pos (by omega), Int.toNat_natCast, Int.toNat_natCast]
      · have er : rowE s j = s.size := by unfold rowE; rw [if_neg c2]
        rw [if_neg (by omega), if_pos (by omega), if_pos (by omega), if_pos (by omega), Int.toNat_natCast, Int.toNat_natCast]
theorem ref_row (s : ByteArray) (hs : s.size ≤ 100000) (k : Nat) (x : Int) : stylusref19_Row.f (s.size + 1 + k) s x = some (rowV s x) := by
  unfold stylusref19_Row.f
  rw [ref_start s hs k, Option.bind_some]
  unfold startV rowV
  by_cases c1 : x < 0
  · rw [if_pos c1, if_pos c1]; rfl
  · rw [if_neg c1, if_neg c1]
    by_cases c2 : kf 2 s + 1 ≤ x
    · rw [if_pos c2, if_pos c2]; rfl
    · rw [if_neg c2, if_neg c2, if_pos rfl]
      rw [kf2] at c2
      obtain ⟨e1, e2⟩ := rowE_le s x.toNat
      have := row_l s hs x.toNat (by omega) (s.size - (rowE s x.toNat - nl (ld s) x.toNat) + k) (rowE s x.toNat - nl (ld s) x.toNat) (nl (ld s) x.toNat) (by omega) (Nat.le_refl _)
      rw [show rowE s x.toNat - nl (ld s) x.toNat + 1 + (s.size - (rowE s x.toNat - nl (ld s) x.toNat) + k) = s.size + 1 + k by omega] at this
      exact this
end Go.Proofs.Ytdcnoiofimngpaa.Gy
