import Derived.Test.YteniemhecfkfoaaQDx4
import Derived.Test.YteniemhecfkfoaaQDx7
import Derived.Test.YteniemhecfkfoaaUq
import Derived.Test.YteniemhecfkfoaaU
import Derived.Test.YteniemhecfkfoaaDs
import Derived.Lib.Hide
/- What the printed functions of 'differ' come to, in plain words. -/
namespace Go.Proofs.Yteniemhecfkfoaa.Da
open Go.RowKit Go.Proofs.Yteniemhecfkfoaa.QD Go.Proofs.Yteniemhecfkfoaa.U Go.Proofs.YteniemhecfkfoaaW.PrintWords Go.Proofs.YteniemhecfkfoaaW.PrintLast
set_option linter.unusedVariables false

abbrev Ed := S47
abbrev St := S53
theorem bt_eq_iff (s t : ByteArray) (i j : Nat) (hi : i < s.data.toList.length) (hj : j < t.data.toList.length) : (bt s (i : Int) = bt t (j : Int)) ↔ s.data.toList[i]? = t.data.toList[j]? := by
  rw [UP.bt_nat s i hi, UP.bt_nat t j hj, List.getElem?_eq_getElem hi, List.getElem?_eq_getElem hj]
  constructor
  · intro h
    have e : s.data.toList[i]'hi = t.data.toList[j]'hj := UInt8.toNat_inj.1 (by omega)
    rw [e]
  · intro h; rw [Option.some.inj h]
theorem wq (x : Int) (h0 : -9223372036854775808 ≤ x) (h1 : x ≤ 9223372036854775807) : wrap64 x = x := by unfold wrap64; omega
theorem wsub (m i : Nat) (h : i + 1 ≤ m) (hm : m ≤ 140737488351232) : wrap64 (wrap64 ((m : Int) - 1) - (i : Int)) = ((m - 1 - i : Nat) : Int) := by
  rw [wq ((m : Int) - 1) (by omega) (by omega), wq _ (by omega) (by omega)]; omega
theorem wsub2 (m i : Nat) (h : i + 1 ≤ m) (hm : m ≤ 140737488351232) : wrap64 ((m : Int) - ((i + 1 : Nat) : Int)) = ((m - 1 - i : Nat) : Int) := by
  rw [wq _ (by omega) (by omega)]; omega
theorem wsub3 (m n : Nat) (h : n ≤ m) (hm : m ≤ 140737488351232) : wrap64 ((m : Int) - (n : Int)) = ((m - n : Nat) : Int) := by
  rw [wq _ (by omega) (by omega)]; omega
theorem wsucc (i : Nat) (h : i ≤ 140737488351232) : wrap64 ((i : Int) + 1) = ((i + 1 : Nat) : Int) := by
  rw [wq _ (by omega) (by omega)]; omega
theorem wsucc2 (i : Nat) (h : i ≤ 140737488351232) : wrap64 (((i + 1 : Nat) : Int) + 1) = ((i + 1 + 1 : Nat) : Int) := by
  rw [wq _ (by omega) (by omega)]; omega
theorem wpred (i : Nat) (h : i ≤ 140737488351232) : wrap64 (((i + 1 : Nat) : Int) - 1) = (i : Int) := by
  rw [wq _ (by omega) (by omega)]; omega
theorem idx (m n i : Nat) (h : i + 1 ≤ m - n) : n + (m - n - 1 - i) = m - 1 - i := by omega
theorem idx2 (m i : Nat) (h : i + 1 ≤ m) : m - 1 - i < m := by omega
theorem le_big {m n : Nat} (h : m ≤ 140737488351232) : m - n ≤ 140737488351232 := by omega
theorem i_lt {a b : Nat} (h : a < b) : (a : Int) < (b : Int) := by omega
theorem i_le {a b : Nat} (h : a ≤ b) : (a : Int) ≤ (b : Int) := by omega
theorem i_nn (a : Nat) : (0 : Int) ≤ (a : Int) := by omega
theorem min_1 {i d a b : Nat} (h : i + (d + 1) = min a b) : i + 1 ≤ a ∧ i + 1 ≤ b ∧ i + 1 + d = min a b ∧ i < min a b := by omega
theorem i_ne (i : Nat) : ¬ ((i + 1 : Nat) : Int) = 0 := by omega
theorem k_1 {d k : Nat} (h : d + 1 + 1 ≤ k + 1) : d + 1 ≤ k := by omega
theorem edge_f (s : ByteArray) (i : Int) : utf_Edge.f s i = some (Sp.edge s.data.toList i) := rfl
theorem redge_f (s : ByteArray) (i : Int) : stylusref01_Edge.f s i = some (Sp.edge s.data.toList i) := rfl
theorem front_l0 (s t : ByteArray) (hs : s.size ≤ 140737488351232) (ht : t.size ≤ 140737488351232) : ∀ (d k i best : Nat), i + d = min s.size t.size → d + 1 ≤ k →
    differ_front.l0 k s t (best : Int) ((min s.size t.size : Nat) : Int) (i : Int) = some (Sp.fr s.data.toList t.data.toList d i best : Int) := by
  have hsl := data_length s; have htl := data_length t
  intro d
  induction d with
  | zero =>
    intro k i best hi hk
    obtain ⟨k, rfl⟩ : ∃ m, k = m + 1 := ⟨k - 1, by omega⟩
    rw [differ_front.l0, if_neg (by omega)]; rfl
  | succ d ih =>
    intro k i best hi hk
    obtain ⟨k, rfl⟩ : ∃ m, k = m + 1 := ⟨k - 1, by omega⟩
    have hw : wrap64 ((i : Int) + 1) = ((i + 1 : Nat) : Int) := by rw [wq _ (by omega) (by omega)]; omega
    have hb := bt_eq_iff s t i i (by omega) (by omega)
    rw [differ_front.l0, if_pos (by omega), if_pos (by omega), if_pos (by omega), if_pos (by omega), hw, edge_f, edge_f, Option.bind_some, Option.bind_some]
    unfold Sp.fr
    by_cases he : s.data.toList[i]? = t.data.toList[i]?
    · rw [if_pos (hb.2 he), if_pos he]
      by_cases g1 : Sp.edge s.data.toList ((i + 1 : Nat) : Int) = true
      · rw [if_pos g1]
        by_cases g2 : Sp.edge t.data.toList ((i + 1 : Nat) : Int) = true
        · rw [if_pos g2, if_pos ⟨g1, g2⟩]; exact ih k (i + 1) (i + 1) (by omega) (by omega)
        · rw [if_neg g2, if_neg (fun h => g2 h.2)]; exact ih k (i + 1) best (by omega) (by omega)
      · rw [if_neg g1, if_neg (fun h => g1 h.1)]; exact ih k (i + 1) best (by omega) (by omega)
    · rw [if_neg (fun h => he (hb.1 h)), if_neg he]
theorem mn_nat (a b : Nat) : mn (a : Int) (b : Int) = ((min a b : Nat) : Int) := by unfold mn; omega
theorem front_f (s t : ByteArray) (hs : s.size ≤ 140737488351232) (ht : t.size ≤ 140737488351232) (k : Nat) (hk : s.size + 1 ≤ k) : differ_front.f k s t = some (Sp.front s.data.toList t.data.toList : Int) := by
  unfold differ_front.f Sp.front
  rw [mn_nat, data_length, data_length]
  exact front_l0 s t hs ht (min s.size t.size) k 0 0 (by omega) (by omega)
/-- The cut texts' ends are the whole texts'. -/
theorem back_l0 (s t : ByteArray) (n : Nat) (hs : s.size ≤ 140737488351232) (ht : t.size ≤ 140737488351232) (hn1 : n ≤ s.size) (hn2 : n ≤ t.size) (e1 : Sp.edge s.data.toList n = true) (e2 : Sp.edge t.data.toList n = true) :
    ∀ (d k i best : Nat), i + d = min (s.size - n) (t.size - n) → d + 1 ≤ k →
    differ_back.l0 k (s.extract n s.size) (t.extract n t.size) (best : Int) ((min (s.size - n) (t.size - n) : Nat) : Int) (i : Int) = some (Sp.bk s.data.toList t.data.toList d i best : Int) := by
  have hsl := data_length s; have htl := data_length t
  have xs : (s.extract n s.size).size = s.size - n := by rw [ByteArray.size_extract]; omega
  have xt : (t.extract n t.size).size = t.size - n := by rw [ByteArray.size_extract]; omega
  have ds : (s.extract n s.size).data.toList = s.data.toList.drop n := by rw [Lib.extract_data]; exact List.take_of_length_le (by rw [List.length_drop]; omega)
  have dt : (t.extract n t.size).data.toList = t.data.toList.drop n := by rw [Lib.extract_data]; exact List.take_of_length_le (by rw [List.length_drop]; omega)
  intro d
  induction d with
  | zero =>
    intro k i best hi hk
    obtain ⟨k, rfl⟩ : ∃ m, k = m + 1 := ⟨k - 1, by omega⟩
    rw [differ_back.l0, if_neg (by omega)]; rfl
  | succ d ih =>
    intro k i best hi hk
    obtain ⟨k, rfl⟩ : ∃ m, k = m + 1 := ⟨k - 1, by omega⟩
    obtain ⟨hi1, hi2, hi4, hi3⟩ := min_1 hi
    have hw : wrap64 ((i : Int) + 1) = ((i + 1 : Nat) : Int) := wsucc i (Nat.le_trans (Nat.le_of_succ_le hi1) (le_big hs))
    have a1 : n + (s.size - n - 1 - i) = s.data.toList.length - 1 - i := by rw [hsl]; exact idx _ _ _ hi1
    have a2 : n + (t.size - n - 1 - i) = t.data.toList.length - 1 - i := by rw [htl]; exact idx _ _ _ hi2
    have w1 := wsub (s.size - n) i hi1 (le_big hs)
    have w2 := wsub (t.size - n) i hi2 (le_big ht)
    have q1 := idx2 (s.size - n) i hi1
    have q2 := idx2 (t.size - n) i hi2
    have hb := bt_eq_iff (s.extract n s.size) (t.extract n t.size) (s.size - n - 1 - i) (t.size - n - 1 - i) (by rw [ds, List.length_drop, hsl]; exact q1) (by rw [dt, List.length_drop, htl]; exact q2)
    rw [ds, dt, List.getElem?_drop, List.getElem?_drop, a1, a2] at hb
    have k1 := Sp.edge_drop s.data.toList n (s.size - n - 1 - i) (by rw [hsl]; exact hn1) e1 (by rw [hsl]; exact Nat.le_of_lt q1)
    have k2 := Sp.edge_drop t.data.toList n (t.size - n - 1 - i) (by rw [htl]; exact hn2) e2 (by rw [htl]; exact Nat.le_of_lt q2)
    rw [a1] at k1
    rw [a2] at k2
    rw [differ_back.l0, if_pos (i_lt hi3), xs, xt, w1, w2, if_pos (i_nn _), if_pos (i_lt q1), if_pos (i_nn _), if_pos (i_lt q2), hw, edge_f, edge_f, Option.bind_some, Option.bind_some, ds, dt, k1, k2]
    unfold Sp.bk
    by_cases he : s.data.toList[s.data.toList.length - 1 - i]? = t.data.toList[t.data.toList.length - 1 - i]?
    · rw [if_pos (hb.2 he), if_pos he]
      by_cases g1 : Sp.edge s.data.toList ((s.data.toList.length - 1 - i : Nat) : Int) = true
      · rw [if_pos g1]
        by_cases g2 : Sp.edge t.data.toList ((t.data.toList.length - 1 - i : Nat) : Int) = true
        · rw [if_pos g2, if_pos ⟨g1, g2⟩]; exact ih k (i + 1) (i + 1) hi4 (k_1 hk)
        · rw [if_neg g2, if_neg (fun h => g2 h.2)]; exact ih k (i + 1) best hi4 (k_1 hk)
      · rw [if_neg g1, if_neg (fun h => g1 h.1)]; exact ih k (i + 1) best hi4 (k_1 hk)
    · rw [if_neg (fun h => he (hb.1 h)), if_neg he]
theorem fits_f (s : ByteArray) (hs : s.size ≤ 140737488351232) : differ_fits.f s = some (Sp.fits s.data.toList) := by
  unfold differ_fits.f Sp.fits utf_Valid.f
  rw [data_length, if_pos hs, Option.bind_some]
  by_cases h : (s.size : Int) ≤ 4096
  · rw [if_pos h, show decide (s.size ≤ 4096) = true by simp; omega, Bool.true_and]
  · rw [if_neg h, show decide (s.size ≤ 4096) = false by simp; omega, Bool.false_and]
theorem rfits_f (s : ByteArray) (hs : s.size ≤ 140737488351232) : stylusref48_fits.f s = some (Sp.fits s.data.toList) := by
  unfold stylusref48_fits.f Sp.fits stylusref01_Valid.f
  rw [data_length, if_pos hs, Option.bind_some]
  by_cases h : (s.size : Int) ≤ 4096
  · rw [if_pos h, show decide (s.size ≤ 4096) = true by simp; omega, Bool.true_and]
  · rw [if_neg h, show decide (s.size ≤ 4096) = false by simp; omega, Bool.false_and]
theorem alike_f (s t : ByteArray) (hs : s.size ≤ 140737488351232) (ht : t.size ≤ 140737488351232) (k : Nat) (hk : s.size + 10 ≤ k) : differ_Alike.f k s t = some (UP.pr (Sp.alike s.data.toList t.data.toList)) := by
  have hsl := data_length s; have htl := data_length t
  obtain ⟨k, rfl⟩ : ∃ m, k = m + 1 := ⟨k - 1, by omega⟩
  have no : differ_Alike.j0 (k + 1) s t true = some (0, 0) := by rw [differ_Alike.j0, if_pos rfl]
  unfold differ_Alike.f Sp.alike
  rw [fits_f s hs, fits_f t ht, Option.bind_some, Option.bind_some]
  by_cases f1 : Sp.fits s.data.toList = true
  · rw [if_pos f1]
    by_cases f2 : Sp.fits t.data.toList = true
    · rw [f2, if_pos ⟨f1, rfl⟩, Bool.not_true, differ_Alike.j0, if_neg (by decide), front_f s t hs ht k (by omega), Option.bind_some]
      have hf := Sp.front_le s.data.toList t.data.toList
      have hsp := Sp.front_spec s.data.toList t.data.toList
      rw [hsl, htl] at hf
      rw [if_pos (by omega), if_pos (by omega), if_pos (by omega)]
      simp only [Int.toNat_natCast]
      unfold differ_back.f
      rw [mn_nat, show (s.extract (Sp.front s.data.toList t.data.toList) s.size).size = s.size - Sp.front s.data.toList t.data.toList by rw [ByteArray.size_extract]; omega,
        show (t.extract (Sp.front s.data.toList t.data.toList) t.size).size = t.size - Sp.front s.data.toList t.data.toList by rw [ByteArray.size_extract]; omega]
      have hb := back_l0 s t (Sp.front s.data.toList t.data.toList) hs ht hf.1 hf.2 hsp.2.1 hsp.2.2.1 (min (s.size - Sp.front s.data.toList t.data.toList) (t.size - Sp.front s.data.toList t.data.toList)) k 0 0 (by omega) (by omega)
      rw [show differ_back.l0 k _ _ 0 _ 0 = _ from hb, Option.bind_some]
      unfold UP.pr Sp.rear
      rw [hsl, htl]
    · rw [if_neg (fun h => f2 h.2), show Sp.fits t.data.toList = false by simpa using f2]; exact no
  · rw [if_neg f1, if_neg (fun h => f1 h.1)]; exact no
theorem rfront_l0 (s t : ByteArray) (hs : s.size ≤ 140737488351232) (ht : t.size ≤ 140737488351232) (R : Int × Int) (K : Nat)
    (hR : ∀ k, K ≤ k → stylusref48_Alike.l1 k s t (Sp.front s.data.toList t.data.toList : Int) 0 0 = some R) : ∀ (d k i best : Nat), i + d = min s.size t.size → K + 2 * d + 4 ≤ k → Sp.fr s.data.toList t.data.toList d i best = Sp.front s.data.toList t.data.toList →
    stylusref48_Alike.l0 k s t (best : Int) ((i + 1 : Nat) : Int) = some R := by
  have hsl := data_length s; have htl := data_length t
  intro d
  induction d with
  | zero =>
    intro k i best hi hk hfr
    obtain ⟨k, rfl⟩ : ∃ m, k = m + 2 := ⟨k - 2, by omega⟩
    have hj : stylusref48_Alike.j2 (k + 1) s t (best : Int) ((i + 1 : Nat) : Int) false = some R := by
      rw [stylusref48_Alike.j2, if_neg (by decide)]
      have hb : best = Sp.front s.data.toList t.data.toList := hfr
      rw [hb]
      exact hR k (by omega)
    rw [stylusref48_Alike.l0]
    by_cases h1 : ((i + 1 : Nat) : Int) ≤ (s.size : Int)
    · rw [if_pos h1, if_neg (by omega)]; exact hj
    · rw [if_neg h1]; exact hj
  | succ d ih =>
    intro k i best hi hk hfr
    obtain ⟨k, rfl⟩ : ∃ m, k = m + 2 := ⟨k - 2, by omega⟩
    obtain ⟨hi1, hi2, hi4, hi3⟩ := min_1 hi
    have hk2 : K + 2 * d + 4 ≤ k := by omega
    have hk3 : K ≤ k := by omega
    have hw := wpred i (Nat.le_trans (Nat.le_of_succ_le hi1) hs)
    have hw2 := wsucc2 i (Nat.le_trans (Nat.le_of_succ_le hi1) hs)
    have hb := bt_eq_iff s t i i (by rw [hsl]; exact hi1) (by rw [htl]; exact hi2)
    rw [stylusref48_Alike.l0, if_pos (i_le hi1), if_pos (i_le hi2), if_neg (i_ne i), hw, if_pos (i_nn _), if_pos (i_lt hi1), if_pos (i_lt hi2)]
    unfold Sp.fr at hfr
    by_cases he : s.data.toList[i]? = t.data.toList[i]?
    · rw [if_pos he] at hfr
      rw [show (bt s (i : Int) == bt t (i : Int)) = true by simpa using hb.2 he, stylusref48_Alike.j2, if_pos rfl, redge_f, redge_f, Option.bind_some, Option.bind_some, hw2]
      by_cases g1 : Sp.edge s.data.toList ((i + 1 : Nat) : Int) = true
      · rw [if_pos g1]
        by_cases g2 : Sp.edge t.data.toList ((i + 1 : Nat) : Int) = true
        · rw [if_pos ⟨g1, g2⟩] at hfr; rw [if_pos g2]; exact ih k (i + 1) (i + 1) hi4 hk2 hfr
        · rw [if_neg (fun h => g2 h.2)] at hfr; rw [if_neg g2]; exact ih k (i + 1) best hi4 hk2 hfr
      · rw [if_neg (fun h => g1 h.1)] at hfr; rw [if_neg g1]; exact ih k (i + 1) best hi4 hk2 hfr
    · rw [if_neg he] at hfr
      rw [show (bt s (i : Int) == bt t (i : Int)) = false by simpa using fun h => he (hb.1 h), stylusref48_Alike.j2, if_neg (by decide), hfr]
      exact hR k hk3
theorem rback_l1 (s t : ByteArray) (n : Nat) (hs : s.size ≤ 140737488351232) (ht : t.size ≤ 140737488351232) (hn1 : n ≤ s.size) (hn2 : n ≤ t.size) : ∀ (d k i best : Nat), i + d = min (s.size - n) (t.size - n) → 2 * d + 4 ≤ k →
    stylusref48_Alike.l1 k s t (n : Int) (best : Int) ((i + 1 : Nat) : Int) = some ((n : Int), (Sp.bk s.data.toList t.data.toList d i best : Int)) := by
  have hsl := data_length s; have htl := data_length t
  have W1 := Lib.hid (wsub3 s.size n hn1 hs)
  have W2 := Lib.hid (wsub3 t.size n hn2 ht)
  intro d
  induction d with
  | zero =>
    intro k i best hi hk
    obtain ⟨k, rfl⟩ : ∃ m, k = m + 2 := ⟨k - 2, by omega⟩
    have hj : stylusref48_Alike.j4 (k + 1) s t (n : Int) (best : Int) ((i + 1 : Nat) : Int) false = some ((n : Int), (best : Int)) := by rw [stylusref48_Alike.j4, if_neg (by decide)]
    rw [stylusref48_Alike.l1, W1.out, W2.out]
    by_cases h1 : ((i + 1 : Nat) : Int) ≤ ((s.size - n : Nat) : Int)
    · rw [if_pos h1, if_neg (by omega)]; exact hj
    · rw [if_neg h1]; exact hj
  | succ d ih =>
    intro k i best hi hk
    obtain ⟨k, rfl⟩ : ∃ m, k = m + 2 := ⟨k - 2, by omega⟩
    obtain ⟨hi1, hi2, hi4, hi3⟩ := min_1 hi
    have g1 : i + 1 ≤ s.size := Nat.le_trans hi1 (Nat.sub_le _ _)
    have g2 : i + 1 ≤ t.size := Nat.le_trans hi2 (Nat.sub_le _ _)
    have hk2 : 2 * d + 4 ≤ k := by omega
    have hw2 := wsucc2 i (Nat.le_trans (Nat.le_of_succ_le g1) hs)
    have w3 : wrap64 ((s.size : Int) - ((i + 1 : Nat) : Int)) = ((s.data.toList.length - 1 - i : Nat) : Int) := by rw [hsl]; exact wsub2 s.size i g1 hs
    have w4 : wrap64 ((t.size : Int) - ((i + 1 : Nat) : Int)) = ((t.data.toList.length - 1 - i : Nat) : Int) := by rw [htl]; exact wsub2 t.size i g2 ht
    have q1 := idx2 s.size i g1
    have q2 := idx2 t.size i g2
    have hb := bt_eq_iff s t (s.data.toList.length - 1 - i) (t.data.toList.length - 1 - i) (by rw [hsl]; exact q1) (by rw [htl]; exact q2)
    rw [stylusref48_Alike.l1, W1.out, W2.out, if_pos (i_le hi1), if_pos (i_le hi2), if_neg (i_ne i)]
    rw [w3, w4, if_pos (i_nn _), if_pos (i_lt (by rw [hsl]; exact q1)), if_pos (i_nn _), if_pos (i_lt (by rw [htl]; exact q2))]
    unfold Sp.bk
    by_cases he : s.data.toList[s.data.toList.length - 1 - i]? = t.data.toList[t.data.toList.length - 1 - i]?
    · rw [if_pos he, show (bt s ((s.data.toList.length - 1 - i : Nat) : Int) == bt t ((t.data.toList.length - 1 - i : Nat) : Int)) = true by simpa using hb.2 he, stylusref48_Alike.j4, if_pos rfl, w3, w4, redge_f, redge_f, Option.bind_some, Option.bind_some, hw2]
      by_cases g1 : Sp.edge s.data.toList ((s.data.toList.length - 1 - i : Nat) : Int) = true
      · rw [if_pos g1]
        by_cases g2 : Sp.edge t.data.toList ((t.data.toList.length - 1 - i : Nat) : Int) = true
        · rw [if_pos g2, if_pos ⟨g1, g2⟩]; exact ih k (i + 1) (i + 1) hi4 hk2
        · rw [if_neg g2, if_neg (fun h => g2 h.2)]; exact ih k (i + 1) best hi4 hk2
      · rw [if_neg g1, if_neg (fun h => g1 h.1)]; exact ih k (i + 1) best hi4 hk2
    · rw [if_neg he, show (bt s ((s.data.toList.length - 1 - i : Nat) : Int) == bt t ((t.data.toList.length - 1 - i : Nat) : Int)) = false by simpa using fun h => he (hb.1 h), stylusref48_Alike.j4, if_neg (by decide)]
theorem ralike_f (s t : ByteArray) (hs : s.size ≤ 140737488351232) (ht : t.size ≤ 140737488351232) (k : Nat) (hk : 4 * s.size + 50 ≤ k) : stylusref48_Alike.f k s t = some (UP.pr (Sp.alike s.data.toList t.data.toList)) := by
  have hsl := data_length s; have htl := data_length t
  obtain ⟨k, rfl⟩ : ∃ m, k = m + 3 := ⟨k - 3, by omega⟩
  have no : stylusref48_Alike.j0 (k + 3) s t true = some (0, 0) := by rw [stylusref48_Alike.j0, if_pos rfl]
  unfold stylusref48_Alike.f Sp.alike
  rw [rfits_f s hs, rfits_f t ht, Option.bind_some, Option.bind_some]
  by_cases f1 : Sp.fits s.data.toList = true
  · rw [if_pos f1]
    by_cases f2 : Sp.fits t.data.toList = true
    · rw [f2, if_pos ⟨f1, rfl⟩, Bool.not_true, stylusref48_Alike.j0, if_neg (by decide)]
      have hf := Sp.front_le s.data.toList t.data.toList
      rw [hsl, htl] at hf
      have hm : min s.size t.size ≤ s.size := Nat.min_le_left _ _
      rw [stylusref48_Alike.l0, if_pos (by omega), if_pos (by omega), if_pos rfl, stylusref48_Alike.j2, if_pos rfl, redge_f, redge_f, Option.bind_some, Option.bind_some, if_pos (Sp.edge_zero _), if_pos (Sp.edge_zero _), show wrap64 (0 + 1) = ((0 + 1 : Nat) : Int) by unfold wrap64; omega]
      have hend : ∀ k, 2 * s.size + 10 ≤ k → stylusref48_Alike.l1 k s t (Sp.front s.data.toList t.data.toList : Int) 0 0 = some (UP.pr (Sp.front s.data.toList t.data.toList, Sp.rear s.data.toList t.data.toList (Sp.front s.data.toList t.data.toList))) := by
        intro k hk
        obtain ⟨k, rfl⟩ : ∃ m, k = m + 2 := ⟨k - 2, by omega⟩
        have W1 := Lib.hid (wsub3 s.size (Sp.front s.data.toList t.data.toList) hf.1 hs)
        have W2 := Lib.hid (wsub3 t.size (Sp.front s.data.toList t.data.toList) hf.2 ht)
        have W3 : Hid (wrap64 ((s.size : Int) - 0) = (s.data.toList.length : Int)) := Lib.hid (by rw [wq _ (by omega) (by omega)]; omega)
        have W4 : Hid (wrap64 ((t.size : Int) - 0) = (t.data.toList.length : Int)) := Lib.hid (by rw [wq _ (by omega) (by omega)]; omega)
        rw [stylusref48_Alike.l1, W1.out, W2.out, if_pos (by omega), if_pos (by omega), if_pos rfl, stylusref48_Alike.j4, if_pos rfl, W3.out, W4.out, redge_f, redge_f, Option.bind_some, Option.bind_some, if_pos (Sp.edge_len _), if_pos (Sp.edge_len _), show wrap64 (0 + 1) = ((0 + 1 : Nat) : Int) by unfold wrap64; omega]
        have := rback_l1 s t (Sp.front s.data.toList t.data.toList) hs ht hf.1 hf.2 (min (s.size - Sp.front s.data.toList t.data.toList) (t.size - Sp.front s.data.toList t.data.toList)) k 0 0 (by omega) (by omega)
        rw [show stylusref48_Alike.l1 k s t _ 0 ((0 + 1 : Nat) : Int) = _ from this]
        unfold UP.pr Sp.rear
        rw [hsl, htl]
      have hfr : Sp.fr s.data.toList t.data.toList (min s.size t.size) 0 0 = Sp.front s.data.toList t.data.toList := by unfold Sp.front; rw [hsl, htl]
      exact rfront_l0 s t hs ht _ (2 * s.size + 10) hend (min s.size t.size) k 0 0 (by omega) (by omega) hfr
    · rw [if_neg (fun h => f2 h.2), show Sp.fits t.data.toList = false by simpa using f2]; exact no
  · rw [if_neg f1, if_neg (fun h => f1 h.1)]; exact no
end Go.Proofs.Yteniemhecfkfoaa.Da
