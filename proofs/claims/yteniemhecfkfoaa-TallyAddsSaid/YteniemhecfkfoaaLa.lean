import Derived.Test.YteniemhecfkfoaaQLx2
import Derived.Test.YteniemhecfkfoaaQLx3
import Derived.Test.YteniemhecfkfoaaSv
/- The statements of runes, over numbers and lists. -/
namespace Go.Proofs.Yteniemhecfkfoaa.La
open Go.RowKit Go.Proofs.Yteniemhecfkfoaa.QL Go.Proofs.Yteniemhecfkfoaa.U Go.Proofs.YteniemhecfkfoaaW.PrintWords Go.Proofs.YteniemhecfkfoaaW.PrintLast
set_option linter.unusedVariables false

theorem put_eq (a : Int) (h : -2147483648 ≤ a ∧ a ≤ 2147483647) : utf_Put.f a = some ⟨(Sp.encI a).toArray⟩ := by unfold utf_Put.f; rw [if_pos h]
theorem rput_eq (a : Int) (h : -2147483648 ≤ a ∧ a ≤ 2147483647) : stylusref01_Put.f a = some ⟨(Sp.encI a).toArray⟩ := by unfold stylusref01_Put.f; rw [if_pos h]
theorem take_eq (s : ByteArray) (i : Int) (h : s.size ≤ 140737488351232) : utf_Take.f s i = some (UP.pr (Sp.take s.data.toList i)) := by unfold utf_Take.f; rw [if_pos h]
theorem lives : styluslaw01_lives.f = some true := by
  unfold styluslaw01_lives.f
  rw [put_eq 8364 (by decide)]
  have e : Sp.encI 8364 = [226, 130, 172] := by decide +kernel
  rw [e]
  simp only [Option.bind_some]
  rw [take_eq _ _ (by decide)]
  have t : Sp.take [226, 130, 172] 0 = (8364, 3) := by decide +kernel
  simp only [Option.bind_some, t, UP.pr]
  have g : Sp.edge [226, 130, 172] 1 = false := by decide +kernel
  rw [if_pos (by rw [Lib.toList_data]), if_pos (by decide), if_pos (by decide)]
  unfold utf_Edge.f; rw [g]; rfl
theorem wf32 {a : Int} (h : (Lit.int .i32 a).wf = true) : -2147483648 ≤ a ∧ a ≤ 2147483647 := by
  have h1 : IntKind.i32.min ≤ a ∧ a ≤ IntKind.i32.max := by simpa [Lit.wf] using h
  have h2 : IntKind.i32.min = -2147483648 := by decide
  have h3 : IntKind.i32.max = 2147483647 := by decide
  omega
theorem take_enc (a : Int) : (UP.pr (Sp.take (Sp.encI a) 0)).2 = (Sp.encI a).length ∧ ((Sp.encI a).length ≠ 0 → (UP.pr (Sp.take (Sp.encI a) 0)).1 = a) := by
  unfold Sp.encI
  by_cases h : 0 ≤ a
  · rw [if_pos h]
    obtain ⟨n, rfl⟩ := Int.eq_ofNat_of_zero_le h
    rw [Int.toNat_natCast]
    by_cases hr : Sp.isRune n = true
    · have hl := Sp.enc_length hr
      have hw := Sp.width_pos n
      have hd := Sp.dec_enc hr []
      rw [List.append_nil] at hd
      unfold Sp.take
      rw [if_pos (by omega)]
      simp only [Int.toNat_zero, List.drop_zero, hd, UP.pr]
      exact ⟨by omega, fun _ => trivial⟩
    · rw [Sp.enc_none (by simpa using hr)]; exact ⟨by decide, fun h => absurd rfl h⟩
  · rw [if_neg h]; exact ⟨by decide, fun h => absurd rfl h⟩
theorem mk_size (l : List UInt8) : (⟨l.toArray⟩ : ByteArray).size = l.length := by simp [ByteArray.size]
theorem mk_data (l : List UInt8) : (⟨l.toArray⟩ : ByteArray).data.toList = l := rfl
theorem UtfPuts : styluslaw01_UtfPuts.Pure := by
  intro a h
  have hw := wf32 h
  have ht := take_enc a
  unfold styluslaw01_UtfPuts.f
  rw [put_eq a hw, rput_eq a hw]
  simp only [Option.bind_some, if_true]
  have hlen : (Sp.encI a).length ≤ 4 := by
    unfold Sp.encI; split
    · by_cases hr : Sp.isRune a.toNat = true
      · rw [Sp.enc_length hr]; exact (Sp.width_pos _).2
      · rw [Sp.enc_none (by simpa using hr)]; simp
    · simp
  rw [take_eq _ _ (by rw [mk_size]; omega), mk_size, mk_data, lives]
  simp only [Option.bind_some]
  rw [if_pos ht.1]
  by_cases h0 : (UP.pr (Sp.take (Sp.encI a) 0)).2 = 0
  · rw [if_pos h0]
  · rw [if_neg h0, if_pos (ht.2 (by omega))]
theorem UtfTakes : styluslaw01_UtfTakes.Pure := by
  intro s i hs hi
  unfold styluslaw01_UtfTakes.f stylusref01_Take.f
  rw [take_eq s i hs, if_pos hs, lives]
  simp only [Option.bind_some, if_true]
  split <;> rfl
theorem UtfEdges : styluslaw01_UtfEdges.Pure := by
  intro s i hs hi
  unfold styluslaw01_UtfEdges.f utf_Edge.f stylusref01_Edge.f utf_Back.f stylusref01_Back.f
  rw [if_pos hs, lives]
  simp
theorem UtfTexts : styluslaw01_UtfTexts.Pure := by
  intro s hs
  unfold styluslaw01_UtfTexts.f utf_Bad.f stylusref01_Bad.f utf_Valid.f stylusref01_Valid.f utf_Runes.f stylusref01_Runes.f utf_Lines.f stylusref01_Lines.f
  simp only [if_pos hs, lives, Option.bind_some, if_true, beq_self_eq_true]
  split <;> rfl
theorem valid_eq (s : ByteArray) (h : s.size ≤ 140737488351232) : utf_Valid.f s = some (Sp.valid s.data.toList) := by unfold utf_Valid.f; rw [if_pos h]
theorem runes_eq (s : ByteArray) (h : s.size ≤ 140737488351232) : utf_Runes.f s = some (Sp.runes s.data.toList : Int) := by unfold utf_Runes.f; rw [if_pos h]
theorem bad_eq (s : ByteArray) (h : s.size ≤ 140737488351232) : utf_Bad.f s = some (Sp.badI s.data.toList) := by unfold utf_Bad.f; rw [if_pos h]
theorem app_data (a b : ByteArray) : (a ++ b).data.toList = a.data.toList ++ b.data.toList := by simp
theorem app_size (a b : ByteArray) : (a ++ b).size = a.size + b.size := by simp
theorem badI_valid {l : List UInt8} (h : Sp.valid l = true) : Sp.badI l = -1 := by
  unfold Sp.valid at h; unfold Sp.badI
  cases hb : Sp.bad l with
  | none => rfl
  | some n => rw [hb] at h; cases h
theorem whole2 (k : Nat) (a : ByteArray) (i : Int) (ha : a.size ≤ 140737488351232) (hva : Sp.valid a.data.toList = true) : styluslaw01_UtfWhole.j2 (k + 1) a i false = some true := by
  simp only [styluslaw01_UtfWhole.j2, Bool.false_eq_true, if_false, utf_Edge.f, lives, Option.bind_some]
  by_cases he : Sp.edge a.data.toList i = true
  · rw [if_pos he]
    by_cases c1 : i < 0
    · rw [if_pos c1]
    rw [if_neg c1]
    by_cases c2 : i > (a.size : Int)
    · rw [if_pos c2]
    rw [if_neg c2, if_pos (by omega), if_pos (by omega)]
    obtain ⟨k, rfl⟩ := Int.eq_ofNat_of_zero_le (by omega : 0 ≤ i)
    have hcut := Sp.valid_cut a.data.toList k (by rw [data_length]; omega) he hva
    have e : (a.data.toList.drop k).take (a.size - k) = a.data.toList.drop k := List.take_of_length_le (by rw [List.length_drop, data_length]; omega)
    rw [Int.toNat_natCast, valid_eq _ (by rw [ByteArray.size_extract]; omega), Lib.extract_data, List.drop_zero, Nat.sub_zero, hcut.1]
    simp only [Option.bind_some, if_true]
    rw [valid_eq _ (by rw [ByteArray.size_extract]; omega), Lib.extract_data, e, hcut.2]
    simp only [Option.bind_some, if_true]
  · rw [if_neg he]
theorem whole1t (k : Nat) (a b : ByteArray) (i : Int) (ha : a.size ≤ 400) (hb : b.size ≤ 400) (hn : ¬ (Sp.valid a.data.toList = true ∧ Sp.valid b.data.toList = true)) : styluslaw01_UtfWhole.j1 (k + 1) a b i true = some true := by
  have s1 : (⟨#[32]⟩ : ByteArray).size = 1 := rfl
  have d1 : (⟨#[32]⟩ : ByteArray).data.toList = [32] := rfl
  simp only [styluslaw01_UtfWhole.j1, if_true, lives, Option.bind_some]
  rw [if_pos (by omega), if_pos (by rw [app_size, s1]; omega), valid_eq _ (by rw [app_size, app_size, s1]; omega), app_data, app_data, d1, List.append_assoc, List.singleton_append, Sp.valid_gap _ _ hn]
  simp only [Option.bind_some, Bool.false_eq_true, if_false]
theorem wsum (x y : Nat) (hx : x ≤ 400) (hy : y ≤ 400) : ((x + y : Nat) : Int) = wrap64 ((x : Int) + (y : Int)) := by unfold wrap64; omega
theorem wvalid (a b : ByteArray) (ha : a.size ≤ 400) (hb : b.size ≤ 400) (hva : Sp.valid a.data.toList = true) : utf_Valid.f (a ++ b) = some (Sp.valid b.data.toList) := by
  rw [valid_eq _ (by rw [app_size]; omega), app_data, Sp.valid_app hva]
theorem wrunes (a b : ByteArray) (ha : a.size ≤ 400) (hb : b.size ≤ 400) : utf_Runes.f (a ++ b) = some ((Sp.runes a.data.toList + Sp.runes b.data.toList : Nat) : Int) := by
  rw [runes_eq _ (by rw [app_size]; omega), app_data, Sp.runes_append]
theorem whole1f (k : Nat) (a b : ByteArray) (i : Int) (ha : a.size ≤ 400) (hb : b.size ≤ 400) (hva : Sp.valid a.data.toList = true) (hvb : Sp.valid b.data.toList = true) : styluslaw01_UtfWhole.j1 (k + 2) a b i false = some true := by
  have hra := Sp.runes_le a.data.toList
  have hrb := Sp.runes_le b.data.toList
  rw [data_length] at hra hrb
  have hw := wsum _ _ (Nat.le_trans hra ha) (Nat.le_trans hrb hb)
  have h2 := whole2 k a i (by omega) hva
  simp only [styluslaw01_UtfWhole.j1, Bool.false_eq_true, if_false]
  rw [if_pos (by omega), wvalid a b ha hb hva, hvb, Option.bind_some, if_pos rfl, wrunes a b ha hb, Option.bind_some, runes_eq a (by omega), Option.bind_some, runes_eq b (by omega), Option.bind_some, ← hw, if_pos rfl, bad_eq a (by omega), badI_valid hva, Option.bind_some]
  exact h2
theorem whole0 (k : Nat) (a b : ByteArray) (i : Int) (ha : a.size ≤ 140737488351232) (hb : b.size ≤ 140737488351232) (z : Bool) (hz : z = false → a.size ≤ 400 ∧ b.size ≤ 400) : styluslaw01_UtfWhole.j0 (k + 3) a b i z = some true := by
  simp only [styluslaw01_UtfWhole.j0, lives, Option.bind_some]
  cases z with
  | true => rfl
  | false =>
    obtain ⟨h1, h2⟩ := hz rfl
    rw [if_neg (by decide), valid_eq a ha, valid_eq b hb]
    simp only [Option.bind_some]
    by_cases hva : Sp.valid a.data.toList = true
    · rw [if_pos hva]
      by_cases hvb : Sp.valid b.data.toList = true
      · rw [hvb]; exact whole1f k a b i h1 h2 hva hvb
      · rw [show Sp.valid b.data.toList = false by simpa using hvb]; exact whole1t _ a b i h1 h2 (fun h => hvb h.2)
    · rw [if_neg hva]; exact whole1t _ a b i h1 h2 (fun h => hva h.1)
theorem UtfWhole : styluslaw01_UtfWhole.Pure := by
  intro a b i ha hb hi
  refine ⟨0 + 3, ?_⟩
  unfold styluslaw01_UtfWhole.f
  by_cases c : (a.size : Int) > 400
  · rw [if_pos c]; exact whole0 0 a b i ha hb true (fun h => by cases h)
  · rw [if_neg c]; exact whole0 0 a b i ha hb _ (fun h => by simp at h; omega)
end Go.Proofs.Yteniemhecfkfoaa.La
