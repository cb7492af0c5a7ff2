import Derived.Test.YtobhffeopfbjlaaQPx9
import Derived.Test.YtobhffeopfbjlaaQPx6
import Derived.Lib.Strings
/- A text's sectors, and those in which two texts are unlike, in plain words. -/
namespace Go.Proofs.Ytobhffeopfbjlaa.Ps
open Go.RowKit Go.Proofs.Ytobhffeopfbjlaa.QP Go.Proofs.YtobhffeopfbjlaaW.PrintWords Go.Proofs.YtobhffeopfbjlaaW.PrintLast Go.Proofs.YtobhffeopfbjlaaW.PrintMore
set_option linter.unusedVariables false
theorem wq (x : Int) (h0 : -9223372036854775808 ≤ x) (h1 : x ≤ 9223372036854775807) : wrap64 x = x := by unfold wrap64; omega
theorem wf64 {a : Int} (h : (Lit.int .i64 a).wf = true) : -9223372036854775808 ≤ a ∧ a ≤ 9223372036854775807 := by
  have h1 : IntKind.i64.min ≤ a ∧ a ≤ IntKind.i64.max := by simpa [Lit.wf] using h
  have h2 : IntKind.i64.min = -9223372036854775808 := by decide
  have h3 : IntKind.i64.max = 9223372036854775807 := by decide
  omega
theorem count_eq (n : Int) (h : -9223372036854775808 ≤ n ∧ n ≤ 9223372036854775807) : piece_Count.f n = stylusref05_Count.f n := by
  unfold piece_Count.f stylusref05_Count.f
  by_cases h1 : n < 1
  · rw [if_pos h1, if_pos h1]
  · rw [if_neg h1, if_neg h1, Int.tmod_eq_emod_of_nonneg (by omega), Int.tdiv_eq_ediv_of_nonneg (by omega), wq (n - 1) (by omega) (by omega), Int.tdiv_eq_ediv_of_nonneg (by omega), wq (n / 32) (by omega) (by omega), wq (n / 32 + 1) (by omega) (by omega), wq ((n - 1) / 32) (by omega) (by omega), wq ((n - 1) / 32 + 1) (by omega) (by omega)]
    by_cases h2 : n % 32 > 0
    · rw [if_pos h2]; congr 1; omega
    · rw [if_neg h2]; congr 1; omega
def sec (l : List UInt8) (k : Nat) : List UInt8 := (l.drop (32 * k)).take 32
def sl (s : ByteArray) (k : Int) : List UInt8 := if k < 0 then [] else sec s.data.toList k.toNat
theorem bs_eq {r : ByteArray} {l : List UInt8} (h : r.data.toList = l) : r = ⟨l.toArray⟩ := by
  subst h; cases r; simp
theorem bs_data (l : List UInt8) : (⟨l.toArray⟩ : ByteArray).data.toList = l := rfl
theorem bs_size (l : List UInt8) : (⟨l.toArray⟩ : ByteArray).size = l.length := by simp [ByteArray.size]
theorem dl (s : ByteArray) : s.data.toList.length = s.size := by rw [Array.length_toList]; rfl
def cnt (n : Nat) : Nat := (n + 31) / 32
theorem count_f (n : Nat) (h : n ≤ 4000) : piece_Count.f (n : Int) = some ((cnt n : Nat) : Int) := by
  unfold piece_Count.f cnt
  by_cases h1 : n = 0
  · subst h1; rfl
  · rw [if_neg (by omega), Int.tmod_eq_emod_of_nonneg (by omega), Int.tdiv_eq_ediv_of_nonneg (by omega), wq ((n : Int) / 32) (by omega) (by omega), wq ((n : Int) / 32 + 1) (by omega) (by omega)]
    by_cases h2 : (n : Int) % 32 > 0
    · rw [if_pos h2]; congr 1; omega
    · rw [if_neg h2]; congr 1; omega
theorem rcount_f (n : Nat) (h : n ≤ 4000) : stylusref05_Count.f (n : Int) = some ((cnt n : Nat) : Int) := by rw [← count_eq _ (by omega), count_f n h]
theorem sec_none (l : List UInt8) (k : Nat) (h : l.length ≤ 32 * k) : sec l k = [] := by unfold sec; rw [List.drop_eq_nil_of_le h]; rfl
theorem sec_len (l : List UInt8) (k : Nat) : (sec l k).length = min 32 (l.length - 32 * k) := by unfold sec; simp
theorem slice_f (k : Nat) (hk : 1 ≤ k) (s : ByteArray) (hs : s.size ≤ 4000) (n : Int) : piece_Slice.f k s n = some ⟨(sl s n).toArray⟩ := by
  obtain ⟨k, rfl⟩ : ∃ j, k = j + 1 := ⟨k - 1, by omega⟩
  unfold piece_Slice.f sl
  by_cases h1 : n < 0
  · rw [if_pos h1, if_pos h1, piece_Slice.j0, if_pos rfl]
  · rw [if_neg h1, if_neg h1, count_f _ hs, Option.bind_some, piece_Slice.j0]
    obtain ⟨m, rfl⟩ : ∃ m : Nat, n = m := ⟨n.toNat, by omega⟩
    by_cases h2 : (m : Int) ≥ ((cnt s.size : Nat) : Int)
    · rw [if_pos (by simpa using h2), Int.toNat_natCast, sec_none _ _ (by rw [dl]; unfold cnt at h2; omega)]
    · have hm : 32 * m < s.size := by unfold cnt at h2; omega
      rw [if_neg (by simpa using h2), wq _ (by omega) (by omega), if_pos (by omega), if_pos (by omega), ByteArray.size_extract, Nat.min_self, show ((m : Int) * 32).toNat = 32 * m by omega, Int.toNat_natCast]
      have hd : (s.extract (32 * m) s.size).data.toList = s.data.toList.drop (32 * m) := by rw [Lib.extract_data]; exact List.take_of_length_le (by rw [List.length_drop, dl]; omega)
      by_cases h3 : ((s.size - 32 * m : Nat) : Int) > 32
      · rw [if_pos h3, if_pos (by decide), if_pos (by omega)]
        refine congrArg some (bs_eq ?_)
        rw [Lib.extract_data, hd]; rfl
      · rw [if_neg h3]
        refine congrArg some (bs_eq ?_)
        rw [hd]; unfold sec; rw [List.take_of_length_le (by rw [List.length_drop, dl]; omega)]
theorem rslice_f (s : ByteArray) (hs : s.size ≤ 4000) (n : Int) : stylusref05_Slice.f s n = some ⟨(sl s n).toArray⟩ := by
  unfold stylusref05_Slice.f sl
  by_cases h1 : n < 0
  · rw [if_pos h1, if_pos h1]
  · rw [if_neg h1, if_neg h1, wq ((s.size : Int) / 32) (by omega) (by omega)]
    obtain ⟨m, rfl⟩ : ∃ m : Nat, n = m := ⟨n.toNat, by omega⟩
    by_cases h2 : (m : Int) > (s.size : Int) / 32
    · rw [if_pos h2, Int.toNat_natCast, sec_none _ _ (by rw [dl]; omega)]
    · have hmn : mn (32 * (m : Int) + 32) (s.size : Int) = ((min (32 * m + 32) s.size : Nat) : Int) := by unfold mn; split <;> omega
      rw [if_neg h2, wq (32 * (m : Int)) (by omega) (by omega), wq (32 * (m : Int) + 32) (by omega) (by omega), hmn, if_pos (by omega), if_pos (by omega), if_pos (by omega), Int.toNat_natCast, Int.toNat_natCast, show (32 * (m : Int)).toNat = 32 * m by omega]
      refine congrArg some (bs_eq ?_)
      rw [Lib.extract_data]; unfold sec
      by_cases h3 : 32 * m + 32 ≤ s.size
      · rw [Nat.min_eq_left h3, show 32 * m + 32 - 32 * m = 32 by omega]
      · rw [Nat.min_eq_right (by omega), List.take_of_length_le (by rw [List.length_drop, dl]; omega), List.take_of_length_le (by rw [List.length_drop, dl]; omega)]
def uns (a b : List UInt8) (c i : Nat) : List Int := ((List.range' i (c - i)).filter (fun k => !decide (sec a k = sec b k))).map Int.ofNat
theorem uns_end (a b : List UInt8) (c i : Nat) (h : c ≤ i) : uns a b c i = [] := by unfold uns; rw [show c - i = 0 by omega]; rfl
theorem uns_step (a b : List UInt8) (c i : Nat) (h : i < c) : uns a b c i = (if sec a i = sec b i then [] else [(i : Int)]) ++ uns a b c (i + 1) := by
  unfold uns
  rw [show c - i = (c - (i + 1)) + 1 by omega, List.range'_succ]
  by_cases hs : sec a i = sec b i
  · simp [hs]
  · simp [hs]
theorem sl_nat (s : ByteArray) (i : Nat) : sl s (i : Int) = sec s.data.toList i := by unfold sl; rw [if_neg (by omega), Int.toNat_natCast]
theorem unlike_run (k : Nat) : ∀ (a b : ByteArray) (ha : a.size ≤ 4000) (hb : b.size ≤ 4000) (acc : List Int) (c i : Nat), i ≤ c → c ≤ 1000 → c - i + 3 ≤ k → acc.length ≤ i →
    piece_Unlike.l0 k a b acc c i = some (acc ++ uns a.data.toList b.data.toList c i) := by
  induction k with
  | zero => intro a b ha hb acc c i h1 h2 h3; omega
  | succ k ih =>
    intro a b ha hb acc c i h1 h2 h3 h4
    rw [piece_Unlike.l0]
    by_cases hi : i < c
    · rw [if_pos (by omega), slice_f k (by omega) a ha, slice_f k (by omega) b hb, Option.bind_some, Option.bind_some, Lib.toList_data, Lib.toList_data, bs_data, bs_data, sl_nat, sl_nat, uns_step _ _ c i hi, wq _ (by omega) (by omega)]
      by_cases he : sec a.data.toList i = sec b.data.toList i
      · rw [if_pos he, if_pos he]; exact ih a b ha hb acc c (i + 1) (by omega) (by omega) (by omega) (by omega)
      · rw [if_neg he, if_neg he, if_pos (by omega), ← List.append_assoc]; exact ih a b ha hb (acc ++ [(i : Int)]) c (i + 1) (by omega) (by omega) (by omega) (by simp; omega)
    · rw [if_neg (by omega), uns_end _ _ c i (by omega), List.append_nil]
theorem cnt_max (m n : Nat) : cnt (max m n) = max (cnt m) (cnt n) := by unfold cnt; omega
theorem unlike_f (k : Nat) (a b : ByteArray) (ha : a.size ≤ 4000) (hb : b.size ≤ 4000) (hk : 1010 ≤ k) : piece_Unlike.f k a b = some (uns a.data.toList b.data.toList (max (cnt a.size) (cnt b.size)) 0) := by
  have hc : max (cnt a.size) (cnt b.size) ≤ 1000 := by unfold cnt; omega
  unfold piece_Unlike.f
  rw [show mx (a.size : Int) (b.size : Int) = ((max a.size b.size : Nat) : Int) by unfold mx; split <;> omega, count_f _ (by omega), Option.bind_some, cnt_max]
  exact unlike_run k a b ha hb [] _ 0 (by omega) hc (by omega) (by simp)
theorem uns_len (a b : List UInt8) (c i : Nat) : (uns a b c i).length ≤ c := by
  unfold uns; rw [List.length_map]
  exact Nat.le_trans (List.length_filter_le _ _) (by rw [List.length_range']; omega)
theorem sec_get (l : List UInt8) (i : Nat) : l[i]? = (sec l (i / 32))[i % 32]? := by
  unfold sec
  rw [List.getElem?_take, if_pos (by omega), List.getElem?_drop, show 32 * (i / 32) + i % 32 = i by omega]
theorem sec_ext (a b : List UInt8) (h : ∀ k, sec a k = sec b k) : a = b := List.ext_getElem? fun i => by rw [sec_get a, sec_get b, h]
theorem uns_nil (a b : ByteArray) : uns a.data.toList b.data.toList (max (cnt a.size) (cnt b.size)) 0 = [] ↔ a.data.toList = b.data.toList := by
  constructor
  · intro h
    refine sec_ext _ _ fun k => ?_
    by_cases hk : k < max (cnt a.size) (cnt b.size)
    · unfold uns at h
      rw [List.map_eq_nil_iff, List.filter_eq_nil_iff] at h
      have := h k (by simp [List.mem_range']; omega)
      simpa using this
    · rw [sec_none _ _ (by rw [dl]; unfold cnt at hk; omega), sec_none _ _ (by rw [dl]; unfold cnt at hk; omega)]
  · intro h
    unfold uns
    rw [h, List.map_eq_nil_iff, List.filter_eq_nil_iff]
    intro k _; simp
theorem take_sec (l : List UInt8) (i : Nat) : l.take (32 * i) ++ sec l i = l.take (32 * (i + 1)) := by
  unfold sec
  rw [show 32 * (i + 1) = 32 * i + 32 by omega, List.take_add]
end Go.Proofs.Ytobhffeopfbjlaa.Ps
