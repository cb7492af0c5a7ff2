import Derived.Test.YteniemhecfkfoaaQLx
import Derived.Test.YteniemhecfkfoaaLa
/- The statements of counts, over numbers and lists. -/
namespace Go.Proofs.Yteniemhecfkfoaa.La
open Go.RowKit Go.Proofs.Yteniemhecfkfoaa.QL Go.Proofs.Yteniemhecfkfoaa.U Go.Proofs.YteniemhecfkfoaaW.PrintWords Go.Proofs.YteniemhecfkfoaaW.PrintLast
set_option linter.unusedVariables false

theorem of_eq (s : ByteArray) (h : s.size ≤ 140737488351232) : tally_Of.f s = some ((s.size : Int), (Sp.runes s.data.toList : Int), (Sp.lines s.data.toList : Int)) := by
  unfold tally_Of.f utf_Lines.f
  rw [runes_eq s h, Option.bind_some, if_pos h, Option.bind_some]
theorem rof_eq (s : ByteArray) (h : s.size ≤ 140737488351232) : stylusref04_Of.f s = some ((s.size : Int), (Sp.runes s.data.toList : Int), (Sp.lines s.data.toList : Int)) := by
  unfold stylusref04_Of.f stylusref01_Lines.f stylusref01_Runes.f
  rw [if_pos h, Option.bind_some, if_pos h, Option.bind_some]
theorem lives4 : styluslaw04_lives.f = some true := by
  unfold styluslaw04_lives.f
  rw [of_eq _ (by decide), Option.bind_some]
  decide +kernel
theorem clip_eq (at_ n : Int) (h : 0 ≤ n) : tally_clip.f at_ n = some (mn (mx at_ 0) n) := by
  unfold tally_clip.f mn mx
  repeat' split
  all_goals first | rfl | (congr 1; done) | (congr 1; omega) | omega
theorem mnmx (at_ n : Int) (h : 0 ≤ n) : 0 ≤ mn (mx at_ 0) n ∧ mn (mx at_ 0) n ≤ n := by unfold mn mx; omega
theorem head_eq (s : ByteArray) (i : Int) (h : s.size ≤ 140737488351232) : ∃ k : Nat, mn (mx i 0) (s.size : Int) = k ∧ k ≤ s.size ∧
    tally_Head.f s i = some ((k : Int), (Sp.runes (s.data.toList.take k) : Int), (Sp.lines (s.data.toList.take k) : Int)) ∧ stylusref04_Head.f s i = tally_Head.f s i := by
  have hm := mnmx i (s.size : Int) (by omega)
  obtain ⟨k, hk⟩ := Int.eq_ofNat_of_zero_le hm.1
  have hks : k ≤ s.size := by omega
  have hz : (s.extract 0 k).size = k := by rw [ByteArray.size_extract]; omega
  have hd : (s.extract 0 k).data.toList = s.data.toList.take k := by rw [Lib.extract_data, List.drop_zero, Nat.sub_zero]
  have e1 : tally_Head.f s i = some ((k : Int), (Sp.runes (s.data.toList.take k) : Int), (Sp.lines (s.data.toList.take k) : Int)) := by
    unfold tally_Head.f
    rw [clip_eq i _ (by omega), Option.bind_some, hk, if_pos (by omega), if_pos (by omega), Int.toNat_natCast, of_eq _ (by omega), Option.bind_some, hz, hd]
  refine ⟨k, hk, hks, e1, ?_⟩
  rw [e1]
  unfold stylusref04_Head.f
  rw [hk, if_pos (by omega), if_pos (by omega), Int.toNat_natCast, rof_eq _ (by omega), Option.bind_some, hz, hd]
theorem TallyOfs : styluslaw04_TallyOfs.Pure := by
  intro s i hs hi
  obtain ⟨k, hk, hks, e1, e2⟩ := head_eq s i hs
  unfold styluslaw04_TallyOfs.f
  rw [lives4, of_eq s hs, rof_eq s hs, Option.bind_some, Option.bind_some, e2, e1, Option.bind_some, Option.bind_some, Option.bind_some]
  simp only [beq_self_eq_true, Bool.and_self, if_true]
  split <;> rfl

/-! ### sums of counts -/
abbrev C3 := S24
theorem w0 (x : Int) (h0 : -9223372036854775808 ≤ x) (h1 : x ≤ 9223372036854775807) : wrap64 (0 + x) = x := by unfold wrap64; omega
theorem wid (x : Int) (h0 : -9223372036854775808 ≤ x) (h1 : x ≤ 9223372036854775807) : wrap64 (x + 0) = x := by unfold wrap64; omega
theorem wrange (x : Int) : -9223372036854775808 ≤ wrap64 x ∧ wrap64 x ≤ 9223372036854775807 := by unfold wrap64; omega
def ok3 (x y z : Int) : Prop := (-9223372036854775808 ≤ x ∧ x ≤ 9223372036854775807) ∧ (-9223372036854775808 ≤ y ∧ y ≤ 9223372036854775807) ∧ (-9223372036854775808 ≤ z ∧ z ≤ 9223372036854775807)
/-- All counts together: what both loops come to. -/
def sum3 : List C3 → Int → Int → Int → Int × Int × Int
  | [], x, y, z => (x, y, z)
  | c :: l, x, y, z => sum3 l (wrap64 (x + c.f0)) (wrap64 (y + c.f1)) (wrap64 (z + c.f2))
theorem rd_at (l : List C3) (i : Nat) (h : i < l.length) : rd_T24 l (i : Int) = l[i]'h := by
  unfold rd_T24; rw [Int.toNat_natCast, List.getD_eq_getElem?_getD, List.getElem?_eq_getElem h]; rfl
theorem radd_l0 (l : List C3) (hl : l.length ≤ 1000000) : ∀ (d k i : Nat) (x y z : Int), i + d = l.length → d + 1 ≤ k → stylusref04_Add.l0 k l i x y z = some (sum3 (l.drop i) x y z) := by
  intro d
  induction d with
  | zero =>
    intro k i x y z hi hk
    obtain ⟨k, rfl⟩ : ∃ m, k = m + 1 := ⟨k - 1, by omega⟩
    rw [stylusref04_Add.l0, if_neg (by omega), List.drop_of_length_le (by omega)]; rfl
  | succ d ih =>
    intro k i x y z hi hk
    obtain ⟨k, rfl⟩ : ∃ m, k = m + 1 := ⟨k - 1, by omega⟩
    have hlt : i < l.length := by omega
    rw [stylusref04_Add.l0, if_pos (by omega), if_pos (by omega), rd_at l i hlt, show wrap64 ((i : Int) + 1) = ((i + 1 : Nat) : Int) by unfold wrap64; omega, ih k (i + 1) _ _ _ (by omega) (by omega), List.drop_eq_getElem_cons hlt]
    rfl
theorem radd_eq (l : List C3) (hl : l.length ≤ 1000000) (k : Nat) (hk : l.length + 1 ≤ k) : stylusref04_Add.f k l = some (sum3 l 0 0 0) := by
  unfold stylusref04_Add.f
  have := radd_l0 l hl l.length k 0 0 0 0 (by omega) hk
  rw [List.drop_zero] at this; exact this
theorem add_l0 (l : List C3) (hl : l.length ≤ 1000000) : ∀ (d k i : Nat) (x y z : Int), i + d = l.length → d + 1 ≤ k → ok3 x y z → tally_Add.l0 k l (l.length : Int) i x y z = some (sum3 (l.drop i) x y z) := by
  intro d
  induction d with
  | zero =>
    intro k i x y z hi hk ho
    obtain ⟨k, rfl⟩ : ∃ m, k = m + 1 := ⟨k - 1, by omega⟩
    rw [tally_Add.l0, if_neg (by omega), List.drop_of_length_le (by omega)]; rfl
  | succ d ih =>
    intro k i x y z hi hk ho
    obtain ⟨k, rfl⟩ : ∃ m, k = m + 1 := ⟨k - 1, by omega⟩
    have hlt : i < l.length := by omega
    have hw : wrap64 ((i : Int) + 1) = ((i + 1 : Nat) : Int) := by unfold wrap64; omega
    rw [tally_Add.l0, if_pos (by omega), if_pos (by omega), if_pos (by omega), rd_at l i hlt, List.drop_eq_getElem_cons hlt, hw]
    by_cases hz : (!((l[i]'hlt).f0 == 0) || (!((l[i]'hlt).f1 == 0) || (!((l[i]'hlt).f2 == 0)))) = true
    · rw [if_pos hz]
      unfold tally_plus.f
      rw [Option.bind_some, ih k (i + 1) _ _ _ (by omega) (by omega) ⟨wrange _, wrange _, wrange _⟩]
      rfl
    · rw [if_neg hz, ih k (i + 1) _ _ _ (by omega) (by omega) ho]
      have hz' : (l[i]'hlt).f0 = 0 ∧ (l[i]'hlt).f1 = 0 ∧ (l[i]'hlt).f2 = 0 := by simpa using hz
      rw [sum3, hz'.1, hz'.2.1, hz'.2.2, wid x ho.1.1 ho.1.2, wid y ho.2.1.1 ho.2.1.2, wid z ho.2.2.1 ho.2.2.2]
theorem add_eq (l : List C3) (hl : l.length ≤ 1000000) (k : Nat) (hk : l.length + 1 ≤ k) : tally_Add.f k l = some (sum3 l 0 0 0) := by
  unfold tally_Add.f
  have := add_l0 l hl l.length k 0 0 0 0 (by omega) hk ⟨⟨by decide, by decide⟩, ⟨by decide, by decide⟩, ⟨by decide, by decide⟩⟩
  rw [List.drop_zero] at this; exact this
theorem add_two (k : Nat) (hk : 3 ≤ k) (x y z x' y' z' : Int) (h : ok3 x y z) : tally_Add.f k [⟨x, y, z⟩, ⟨x', y', z'⟩] = some (wrap64 (x + x'), wrap64 (y + y'), wrap64 (z + z')) := by
  rw [add_eq _ (by simp) k (by simpa using hk)]
  rw [sum3, sum3, sum3, w0 x h.1.1 h.1.2, w0 y h.2.1.1 h.2.1.2, w0 z h.2.2.1 h.2.2.2]
theorem small3 (s : ByteArray) (h : s.size ≤ 1000) : ok3 (s.size : Int) (Sp.runes s.data.toList : Int) (Sp.lines s.data.toList : Int) := by
  have h1 := Sp.runes_le s.data.toList
  have h2 := Sp.lines_le s.data.toList
  rw [data_length] at h1 h2
  exact ⟨⟨by omega, by omega⟩, ⟨by omega, by omega⟩, ⟨by omega, by omega⟩⟩
theorem joins_f (k : Nat) (a b : ByteArray) (i : Int) (ha : a.size ≤ 400) (hb : b.size ≤ 400) : styluslaw04_TallyJoins.j0 (k + 4) a b i false = some true := by
  have has : (a ++ b).size = a.size + b.size := app_size a b
  have had : (a ++ b).data.toList = a.data.toList ++ b.data.toList := app_data a b
  obtain ⟨p, hp, hps, e1, e2⟩ := head_eq (a ++ b) i (by omega)
  have hra := Sp.runes_le a.data.toList; have hrb := Sp.runes_le b.data.toList; have hla := Sp.lines_le a.data.toList; have hlb := Sp.lines_le b.data.toList
  rw [data_length] at hra hrb hla hlb
  have hxd : ((a ++ b).extract p (a ++ b).size).data.toList = (a.data.toList ++ b.data.toList).drop p := by
    rw [Lib.extract_data, had]; exact List.take_of_length_le (by rw [List.length_drop, List.length_append, data_length, data_length]; omega)
  have hxs : ((a ++ b).extract p (a ++ b).size).size = a.size + b.size - p := by rw [ByteArray.size_extract]; omega
  have hR := Sp.runes_append ((a.data.toList ++ b.data.toList).take p) ((a.data.toList ++ b.data.toList).drop p)
  have hL := Sp.lines_append ((a.data.toList ++ b.data.toList).take p) ((a.data.toList ++ b.data.toList).drop p)
  rw [List.take_append_drop, Sp.runes_append] at hR
  rw [List.take_append_drop, Sp.lines_append] at hL
  have hT := Sp.runes_le ((a.data.toList ++ b.data.toList).take p)
  have hT2 := Sp.lines_le ((a.data.toList ++ b.data.toList).take p)
  rw [List.length_take] at hT hT2
  have hk3 : ok3 (p : Int) (Sp.runes ((a.data.toList ++ b.data.toList).take p) : Int) (Sp.lines ((a.data.toList ++ b.data.toList).take p) : Int) := ⟨⟨by omega, by omega⟩, ⟨by omega, by omega⟩, ⟨by omega, by omega⟩⟩
  rw [had] at e1
  rw [styluslaw04_TallyJoins.j0, if_neg (by decide), if_pos (by omega), of_eq (a ++ b) (by omega), Option.bind_some, of_eq a (by omega), Option.bind_some, of_eq b (by omega), Option.bind_some,
    add_two (k + 3) (by omega) _ _ _ _ _ _ (small3 a (by omega)), Option.bind_some, if_pos (by
      rw [had, Sp.runes_append, Sp.lines_append, has]
      simp only [Bool.and_eq_true, beq_iff_eq]
      refine ⟨?_, ?_, ?_⟩ <;> (unfold wrap64; omega)), e1, Option.bind_some, hp, if_pos (by omega), if_pos (by omega), Int.toNat_natCast, of_eq _ (by omega), Option.bind_some,
    add_two (k + 3) (by omega) _ _ _ _ _ _ hk3, Option.bind_some, Option.bind_some, if_pos (by
      rw [hxs, hxd, had, Sp.runes_append, Sp.lines_append, has]
      simp only [Bool.and_eq_true, beq_iff_eq]
      refine ⟨?_, ?_, ?_⟩ <;> (unfold wrap64; omega)), lives4, Option.bind_some]
theorem TallyJoins : styluslaw04_TallyJoins.Pure := by
  intro a b i ha hb hi
  refine ⟨0 + 4, ?_⟩
  have t : styluslaw04_TallyJoins.j0 (0 + 4) a b i true = some true := by rw [styluslaw04_TallyJoins.j0, if_pos rfl, lives4, Option.bind_some]
  unfold styluslaw04_TallyJoins.f
  by_cases c : (a.size : Int) > 400
  · rw [if_pos c]; exact t
  · rw [if_neg c]
    by_cases c2 : (b.size : Int) > 400
    · rw [show decide ((b.size : Int) > 400) = true by simpa using c2]; exact t
    · rw [show decide ((b.size : Int) > 400) = false by simpa using c2]; exact joins_f 0 a b i (by omega) (by omega)
theorem TallyAdds (l : List C3) (x y z x' y' z' : Int) (h : ok3 x y z) (h' : ok3 x' y' z') : styluslaw04_TallyAdds.f 60 l x y z x' y' z' = some true := by
  unfold styluslaw04_TallyAdds.f
  by_cases c : (l.length : Int) > 50
  · rw [if_pos c, lives4, Option.bind_some]
  rw [if_neg c, add_eq l (by omega) 60 (by omega), radd_eq l (by omega) 60 (by omega), Option.bind_some, Option.bind_some, if_pos (by simp)]
  have hsub : ∀ a b c a' b' c' : Int, tally_Sub.f a b c a' b' c' = some (wrap64 (a - a'), wrap64 (b - b'), wrap64 (c - c')) := by
    intro a b c a' b' c'
    unfold tally_Sub.f
    split
    · rename_i he
      simp only [Bool.and_eq_true, beq_iff_eq] at he
      obtain ⟨rfl, rfl, rfl⟩ := he
      have z0 : ∀ q : Int, wrap64 (q - q) = 0 := fun q => by unfold wrap64; omega
      rw [z0, z0, z0]
    · rfl
  rw [hsub, Option.bind_some]
  unfold stylusref04_Sub.f
  rw [Option.bind_some, if_pos (by simp), add_two 60 (by decide) x y z x' y' z' h, Option.bind_some, hsub, Option.bind_some, if_pos (by
    simp only [Bool.and_eq_true, beq_iff_eq]
    have g : ∀ p q : Int, -9223372036854775808 ≤ p → p ≤ 9223372036854775807 → wrap64 (wrap64 (p + q) - q) = p := fun p q a b => by unfold wrap64; omega
    exact ⟨g _ _ h.1.1 h.1.2, g _ _ h.2.1.1 h.2.1.2, g _ _ h.2.2.1 h.2.2.2⟩), lives4, Option.bind_some]
end Go.Proofs.Yteniemhecfkfoaa.La
