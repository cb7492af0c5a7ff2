import Derived.Test.YtobhffeopfbjlaaQPx11
import Derived.Test.YtobhffeopfbjlaaQPx12
import Derived.Test.YtobhffeopfbjlaaPa
import Derived.Lib.Strings
/- A text's sectors, and those in which two texts are unlike. -/
namespace Go.Proofs.Ytobhffeopfbjlaa.Pb
open Go.RowKit Go.Proofs.Ytobhffeopfbjlaa.QP Go.Proofs.Ytobhffeopfbjlaa.Pa Go.Proofs.YtobhffeopfbjlaaW.PrintWords Go.Proofs.YtobhffeopfbjlaaW.PrintLast Go.Proofs.YtobhffeopfbjlaaW.PrintMore
set_option linter.unusedVariables false
def sec (l : List UInt8) (k : Nat) : List UInt8 := (l.drop (32 * k)).take 32
def sl (s : ByteArray) (k : Int) : List UInt8 := if k < 0 then [] else sec s.data.toList k.toNat
theorem bs_eq {r : ByteArray} {l : List UInt8} (h : r.data.toList = l) : r = ⟨l.toArray⟩ := by
  subst h; cases r; simp
theorem bs_data (l : List UInt8) : (⟨l.toArray⟩ : ByteArray).data.toList = l := rfl
theorem bs_size (l : List UInt8) : (⟨l.toArray⟩ : ByteArray).size = l.length := by simp [ByteArray.size]
theorem dl (s : ByteArray) : s.data.toList.length = s.size := by rw [Array.length_toList]; rfl
def cnt (n : Nat) : Nat := (n + 31) / 32
theorem count_f (n : Nat) (h : n ≤ 1000) : piece_Count.f (n : Int) = some ((cnt n : Nat) : Int) := by
  unfold piece_Count.f cnt
  by_cases h1 : n = 0
  · subst h1; rfl
  · rw [if_neg (by omega), Int.tmod_eq_emod_of_nonneg (by omega), Int.tdiv_eq_ediv_of_nonneg (by omega), wq ((n : Int) / 32) (by omega) (by omega), wq ((n : Int) / 32 + 1) (by omega) (by omega)]
    by_cases h2 : (n : Int) % 32 > 0
    · rw [if_pos h2]; congr 1; omega
    · rw [if_neg h2]; congr 1; omega
theorem rcount_f (n : Nat) (h : n ≤ 1000) : stylusref05_Count.f (n : Int) = some ((cnt n : Nat) : Int) := by rw [← count_eq _ (by omega), count_f n h]
theorem sec_none (l : List UInt8) (k : Nat) (h : l.length ≤ 32 * k) : sec l k = [] := by unfold sec; rw [List.drop_eq_nil_of_le h]; rfl
theorem sec_len (l : List UInt8) (k : Nat) : (sec l k).length = min 32 (l.length - 32 * k) := by unfold sec; simp
theorem slice_f (k : Nat) (hk : 1 ≤ k) (s : ByteArray) (hs : s.size ≤ 1000) (n : Int) : piece_Slice.f k s n = some ⟨(sl s n).toArray⟩ := by
  obtain ⟨k, rfl⟩ : ∃ j, k = j + 1 := ⟨k - 1, by omega⟩
  unfold piece_Slice.f sl
  by_cases h1 : n < 0
  · rw [if_pos h1, if_pos h1, piece_Slice.j0, if_pos rfl]
  · rw [if_neg h1, if_neg h1, count_f _ hs, Option.bind_some, piece_Slice.j0]
    obtain ⟨m, rfl⟩ : ∃ m : Nat, n = m := ⟨n.toNat, by omega⟩
    by_cases h2 : (m : Int) ≥ ((cnt s.size : Nat) : Int)
    · rw [if_pos (by simpa using h2), Int.toNat_natCast, sec_none _ _ (by rw [dl]; unfold cnt at h2; omega)]
    · have hm : 32 * m < s.size := by unfold cnt at h2; omega
      rw [if_neg (by simpa using h2), wq _ (by omega) (by omega), if_pos (by omega), if_pos (by omega), ByteArray.size_extract, Nat.min_self, show ((m : Int) * 32).toNat = 32 * m by omega, Int.toNat_natCast]
      have hd : (s.extract (32 * m) s.size).data.toList = s.data.toList.drop (32 * m) := by rw [Lib.extract_data]; exact List.take_of_length_le (by rw [List.length_drop, dl]; omega)
      by_cases h3 : ((s.size - 32 * m : Nat) : Int) > 32
      · rw [if_pos h3, if_pos (by decide), if_pos (by omega)]
        refine congrArg some (bs_eq ?_)
        rw [Lib.extract_data, hd]; rfl
      · rw [if_neg h3]
        refine congrArg some (bs_eq ?_)
        rw [hd]; unfold sec; rw [List.take_of_length_le (by rw [List.length_drop, dl]; omega)]
theorem rslice_f (s : ByteArray) (hs : s.size ≤ 1000) (n : Int) : stylusref05_Slice.f s n = some ⟨(sl s n).toArray⟩ := by
  unfold stylusref05_Slice.f sl
  by_cases h1 : n < 0
  · rw [if_pos h1, if_pos h1]
  · rw [if_neg h1, if_neg h1, wq ((s.size : Int) / 32) (by omega) (by omega)]
    obtain ⟨m, rfl⟩ : ∃ m : Nat, n = m := ⟨n.toNat, by omega⟩
    by_cases h2 : (m : Int) > (s.size : Int) / 32
    · rw [if_pos h2, Int.toNat_natCast, sec_none _ _ (by rw [dl]; omega)]
    · have hmn : mn (32 * (m : Int) + 32) (s.size : Int) = ((min (32 * m + 32) s.size : Nat) : Int) := by unfold mn; split <;> omega
      rw [if_neg h2, wq (32 * (m : Int)) (by omega) (by omega), wq (32 * (m : Int) + 32) (by omega) (by omega), hmn, if_pos (by omega), if_pos (by omega), if_pos (by omega), Int.toNat_natCast, Int.toNat_natCast, show (32 * (m : Int)).toNat = 32 * m by omega]
      refine congrArg some (bs_eq ?_)
      rw [Lib.extract_data]; unfold sec
      by_cases h3 : 32 * m + 32 ≤ s.size
      · rw [Nat.min_eq_left h3, show 32 * m + 32 - 32 * m = 32 by omega]
      · rw [Nat.min_eq_right (by omega), List.take_of_length_le (by rw [List.length_drop, dl]; omega), List.take_of_length_le (by rw [List.length_drop, dl]; omega)]
/-- the sectors from i on, of c, in which two texts are unlike -/
def uns (a b : List UInt8) (c i : Nat) : List Int := ((List.range' i (c - i)).filter (fun k => !decide (sec a k = sec b k))).map Int.ofNat
theorem uns_end (a b : List UInt8) (c i : Nat) (h : c ≤ i) : uns a b c i = [] := by unfold uns; rw [show c - i = 0 by omega]; rfl
theorem uns_step (a b : List UInt8) (c i : Nat) (h : i < c) : uns a b c i = (if sec a i = sec b i then [] else [(i : Int)]) ++ uns a b c (i + 1) := by
  unfold uns
  rw [show c - i = (c - (i + 1)) + 1 by omega, List.range'_succ]
  by_cases hs : sec a i = sec b i
  · simp [hs]
  · simp [hs]
theorem sl_nat (s : ByteArray) (i : Nat) : sl s (i : Int) = sec s.data.toList i := by unfold sl; rw [if_neg (by omega), Int.toNat_natCast]
theorem unlike_run (k : Nat) : ∀ (a b : ByteArray) (ha : a.size ≤ 1000) (hb : b.size ≤ 1000) (acc : List Int) (c i : Nat), i ≤ c → c ≤ 1000 → c - i + 3 ≤ k → acc.length ≤ i →
    piece_Unlike.l0 k a b acc c i = some (acc ++ uns a.data.toList b.data.toList c i) := by
  induction k with
  | zero => intro a b ha hb acc c i h1 h2 h3; omega
  | succ k ih =>
    intro a b ha hb acc c i h1 h2 h3 h4
    rw [piece_Unlike.l0]
    by_cases hi : i < c
    · rw [if_pos (by omega), slice_f k (by omega) a ha, slice_f k (by omega) b hb, Option.bind_some, Option.bind_some, Lib.toList_data, Lib.toList_data, bs_data, bs_data, sl_nat, sl_nat, uns_step _ _ c i hi, wq _ (by omega) (by omega)]
      by_cases he : sec a.data.toList i = sec b.data.toList i
      · rw [if_pos he, if_pos he]; exact ih a b ha hb acc c (i + 1) (by omega) (by omega) (by omega) (by omega)
      · rw [if_neg he, if_neg he, if_pos (by omega), ← List.append_assoc]; exact ih a b ha hb (acc ++ [(i : Int)]) c (i + 1) (by omega) (by omega) (by omega) (by simp; omega)
    · rw [if_neg (by omega), uns_end _ _ c i (by omega), List.append_nil]
theorem runlike_run (k : Nat) : ∀ (a b : ByteArray) (ha : a.size ≤ 1000) (hb : b.size ≤ 1000) (acc : List Int) (c i : Nat), c = max (cnt a.size) (cnt b.size) → i ≤ c → c ≤ 1000 → c - i + 3 ≤ k → acc.length ≤ i →
    stylusref05_Unlike.l0 k a b acc i = some (acc ++ uns a.data.toList b.data.toList c i) := by
  induction k with
  | zero => intro a b ha hb acc c i h0 h1 h2 h3; omega
  | succ k ih =>
    intro a b ha hb acc c i h0 h1 h2 h3 h4
    have hm : mx ((cnt a.size : Nat) : Int) ((cnt b.size : Nat) : Int) = (c : Int) := by unfold mx; split <;> omega
    rw [stylusref05_Unlike.l0, rcount_f _ ha, rcount_f _ hb, Option.bind_some, Option.bind_some, hm]
    by_cases hi : i < c
    · rw [if_pos (by omega), rslice_f a ha, rslice_f b hb, Option.bind_some, Option.bind_some, Lib.toList_data, Lib.toList_data, bs_data, bs_data, sl_nat, sl_nat, uns_step _ _ c i hi, wq _ (by omega) (by omega)]
      by_cases he : sec a.data.toList i = sec b.data.toList i
      · rw [if_pos he, if_pos he]; exact ih a b ha hb acc c (i + 1) h0 (by omega) (by omega) (by omega) (by omega)
      · rw [if_neg he, if_neg he, if_pos (by omega), ← List.append_assoc]; exact ih a b ha hb (acc ++ [(i : Int)]) c (i + 1) h0 (by omega) (by omega) (by omega) (by simp; omega)
    · rw [if_neg (by omega), uns_end _ _ c i (by omega), List.append_nil]
theorem cnt_max (m n : Nat) : cnt (max m n) = max (cnt m) (cnt n) := by unfold cnt; omega
theorem unlike_f (k : Nat) (a b : ByteArray) (ha : a.size ≤ 1000) (hb : b.size ≤ 1000) (hk : 1010 ≤ k) : piece_Unlike.f k a b = some (uns a.data.toList b.data.toList (max (cnt a.size) (cnt b.size)) 0) := by
  have hc : max (cnt a.size) (cnt b.size) ≤ 1000 := by unfold cnt; omega
  unfold piece_Unlike.f
  rw [show mx (a.size : Int) (b.size : Int) = ((max a.size b.size : Nat) : Int) by unfold mx; split <;> omega, count_f _ (by omega), Option.bind_some, cnt_max]
  exact unlike_run k a b ha hb [] _ 0 (by omega) hc (by omega) (by simp)
theorem runlike_f (k : Nat) (a b : ByteArray) (ha : a.size ≤ 1000) (hb : b.size ≤ 1000) (hk : 1010 ≤ k) : stylusref05_Unlike.f k a b = some (uns a.data.toList b.data.toList (max (cnt a.size) (cnt b.size)) 0) := by
  have hc : max (cnt a.size) (cnt b.size) ≤ 1000 := by unfold cnt; omega
  unfold stylusref05_Unlike.f
  exact runlike_run k a b ha hb [] _ 0 rfl (by omega) hc (by omega) (by simp)
theorem uns_len (a b : List UInt8) (c i : Nat) : (uns a b c i).length ≤ c := by
  unfold uns; rw [List.length_map]
  exact Nat.le_trans (List.length_filter_le _ _) (by rw [List.length_range']; omega)
theorem same_run (k : Nat) : ∀ (s : ByteArray) (hs : s.size ≤ 1000) (n : Int) (l : List Int) (i : Nat), i ≤ l.length → l.length ≤ 1000 → l.length - i + 20 ≤ k → styluslaw05_PieceSlices.l0 k s n l l i = some true := by
  induction k with
  | zero => intro s hs n l i h1 h2 h3; omega
  | succ k ih =>
    intro s hs n l i h1 h2 h3
    rw [styluslaw05_PieceSlices.l0]
    by_cases hi : i < l.length
    · rw [if_pos (by omega), if_pos (by omega), if_pos (by omega), if_pos rfl, wq _ (by omega) (by omega)]
      exact ih s hs n l (i + 1) (by omega) h2 (by omega)
    · rw [if_neg (by omega), slice_f k (by omega) s hs, rslice_f s hs, Option.bind_some, Option.bind_some, if_pos rfl, lives k (by omega), Option.bind_some]
theorem PieceSlices : styluslaw05_PieceSlices.Pure := by
  intro a b n ha hb hn
  refine ⟨3001, ?_⟩
  unfold styluslaw05_PieceSlices.f
  by_cases h1 : (a.size : Int) > 1000
  · rw [if_pos h1, styluslaw05_PieceSlices.j0, if_pos rfl, lives _ (by omega), Option.bind_some]
  · rw [if_neg h1, styluslaw05_PieceSlices.j0]
    by_cases h2 : (b.size : Int) > 1000
    · rw [if_pos (by simpa using h2), lives _ (by omega), Option.bind_some]
    · have hc : max (cnt a.size) (cnt b.size) ≤ 1000 := by unfold cnt; omega
      have := uns_len a.data.toList b.data.toList (max (cnt a.size) (cnt b.size)) 0
      rw [if_neg (by simpa using h2), unlike_f _ a b (by omega) (by omega) (by omega), runlike_f _ a b (by omega) (by omega) (by omega), Option.bind_some, Option.bind_some, if_pos rfl]
      exact same_run 3000 a (by omega) n _ 0 (by omega) (by omega) (by omega)
theorem sec_get (l : List UInt8) (i : Nat) : l[i]? = (sec l (i / 32))[i % 32]? := by
  unfold sec
  rw [List.getElem?_take, if_pos (by omega), List.getElem?_drop, show 32 * (i / 32) + i % 32 = i by omega]
theorem sec_ext (a b : List UInt8) (h : ∀ k, sec a k = sec b k) : a = b := List.ext_getElem? fun i => by rw [sec_get a, sec_get b, h]
theorem uns_nil (a b : ByteArray) : uns a.data.toList b.data.toList (max (cnt a.size) (cnt b.size)) 0 = [] ↔ a.data.toList = b.data.toList := by
  constructor
  · intro h
    refine sec_ext _ _ fun k => ?_
    by_cases hk : k < max (cnt a.size) (cnt b.size)
    · unfold uns at h
      rw [List.map_eq_nil_iff, List.filter_eq_nil_iff] at h
      have := h k (by simp [List.mem_range']; omega)
      simpa using this
    · rw [sec_none _ _ (by rw [dl]; unfold cnt at hk; omega), sec_none _ _ (by rw [dl]; unfold cnt at hk; omega)]
  · intro h
    unfold uns
    rw [h, List.map_eq_nil_iff, List.filter_eq_nil_iff]
    intro k _; simp
theorem take_sec (l : List UInt8) (i : Nat) : l.take (32 * i) ++ sec l i = l.take (32 * (i + 1)) := by
  unfold sec
  rw [show 32 * (i + 1) = 32 * i + 32 by omega, List.take_add]
theorem whole_run (k : Nat) : ∀ (a b : ByteArray) (ha : a.size ≤ 1000) (hb : b.size ≤ 1000) (i : Nat), i ≤ cnt a.size → 2 * (cnt a.size - i) + 1100 ≤ k →
    styluslaw05_PieceWhole.l0 k a b ⟨(a.data.toList.take (32 * i)).toArray⟩ ((cnt a.size : Nat) : Int) i = some true := by
  induction k using Nat.strongRecOn with
  | _ k ih =>
    intro a b ha hb i h1 h2
    have hc : cnt a.size ≤ 32 := by unfold cnt; omega
    obtain ⟨k, rfl⟩ : ∃ j, k = j + 2 := ⟨k - 2, by omega⟩
    rw [styluslaw05_PieceWhole.l0]
    by_cases hi : i < cnt a.size
    · have hne : 32 * i < a.size := by unfold cnt at hi; omega
      have hl := sec_len a.data.toList i
      rw [dl] at hl
      rw [if_pos (by omega), styluslaw05_PieceWhole.j2, if_pos (by simp; omega), slice_f k (by omega) a ha, Option.bind_some, Lib.toList_data, bs_data, sl_nat, if_neg (by intro h; rw [h] at hl; simp at hl; omega), wq _ (by omega) (by omega), wq ((i : Int) + 1) (by omega) (by omega), bs_size (sec a.data.toList i), bs_size (a.data.toList.take (32 * i))]
      have hadd : (⟨(a.data.toList.take (32 * i)).toArray⟩ : ByteArray) ++ ⟨(sec a.data.toList i).toArray⟩ = ⟨(a.data.toList.take (32 * (i + 1))).toArray⟩ := bs_eq (by rw [← take_sec]; simp)
      have hgo := ih k (by omega) a b ha hb (i + 1) (by omega) (by omega)
      have hlt : (a.data.toList.take (32 * i)).length + (sec a.data.toList i).length ≤ 9223372036854775807 := by rw [List.length_take, dl]; omega
      by_cases hx : (i : Int) < ((cnt a.size : Nat) : Int) - 1
      · rw [if_pos hx, if_pos (by unfold cnt at hx; omega), if_pos hlt, hadd]; exact hgo
      · rw [if_neg hx, if_pos hlt, hadd]; exact hgo
    · have he : i = cnt a.size := by omega
      have hall : a.data.toList.take (32 * i) = a.data.toList := List.take_of_length_le (by rw [dl, he]; unfold cnt; omega)
      rw [if_neg (by omega), styluslaw05_PieceWhole.j2, if_neg (by decide), Lib.toList_data, Lib.toList_data, bs_data, hall, if_pos rfl, slice_f k (by omega) a ha, Option.bind_some, Lib.toList_data, bs_data, sl_nat, sec_none _ _ (by rw [dl]; unfold cnt; omega), if_pos rfl, unlike_f k a b ha hb (by omega), Option.bind_some, Lib.toList_data]
      have hu := uns_nil a b
      by_cases hab : a.data.toList = b.data.toList
      · rw [hu.mpr hab, if_pos (by simp [hab]), lives k (by omega), Option.bind_some]
      · have hz : ((uns a.data.toList b.data.toList (max (cnt a.size) (cnt b.size)) 0).length : Int) ≠ 0 := by
          intro h; exact hab (hu.mp (List.eq_nil_of_length_eq_zero (by omega)))
        rw [if_pos (by rw [beq_eq_false_iff_ne.mpr hz, beq_eq_false_iff_ne.mpr hab]; rfl), lives k (by omega), Option.bind_some]
theorem PieceWhole : styluslaw05_PieceWhole.Pure := by
  intro a b ha hb
  refine ⟨3001, ?_⟩
  unfold styluslaw05_PieceWhole.f
  by_cases h1 : (a.size : Int) > 1000
  · rw [if_pos h1, styluslaw05_PieceWhole.j0, if_pos rfl, lives _ (by omega), Option.bind_some]
  · rw [if_neg h1, styluslaw05_PieceWhole.j0]
    by_cases h2 : (b.size : Int) > 1000
    · rw [if_pos (by simpa using h2), lives _ (by omega), Option.bind_some]
    · have hc : cnt a.size ≤ 32 := by unfold cnt; omega
      rw [if_neg (by simpa using h2), count_f _ (by omega), Option.bind_some]
      exact whole_run 3000 a b (by omega) (by omega) 0 (by omega) (by omega)
end Go.Proofs.Ytobhffeopfbjlaa.Pb
