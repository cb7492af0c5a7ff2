import Derived.Test.YtdcnoiofimngpaaQUx
import Derived.Test.YtdcnoiofimngpaaSpec
import Derived.Lib.Strings
/- What the printed functions of runes come to, in plain words. -/
namespace Go.Proofs.Ytdcnoiofimngpaa.UP
open Go.RowKit Go.Proofs.YtdcnoiofimngpaaW.PrintWords Go.Proofs.YtdcnoiofimngpaaW.PrintLast Go.Proofs.YtdcnoiofimngpaaW.PrintMore Go.Proofs.Ytdcnoiofimngpaa.QU
set_option linter.unusedVariables false

theorem bt_nat (s : ByteArray) (k : Nat) (h : k < s.data.toList.length) : bt s (k : Int) = ((s.data.toList[k]'h).toNat : Int) := by
  have h' : k < s.size := by rw [← data_length]; exact h
  unfold bt; rw [dif_pos (by simpa using h')]; rfl
theorem bt_int (s : ByteArray) (i : Int) (h0 : 0 ≤ i) (h : i < s.data.toList.length) : bt s i = ((s.data.toList[i.toNat]'(by omega)).toNat : Int) := by
  obtain ⟨k, rfl⟩ := Int.eq_ofNat_of_zero_le h0
  exact bt_nat s k (by omega)
theorem drop_cons (l : List UInt8) (k : Nat) (h : k < l.length) : l.drop k = l[k]'h :: l.drop (k + 1) := List.drop_eq_getElem_cons h

def pr (x : Nat × Nat) : Int × Int := (x.1, x.2)

theorem goesOn_f (b : UInt8) : utf_goesOn.f (b.toNat : Int) = some (Sp.cont b) := by
  have h : ∀ n : Fin 256, ((Go.bits .and .u8 ((n : Nat) : Int) 192) == 128) = (decide (128 ≤ (n : Nat)) && decide ((n : Nat) < 192)) := by decide +kernel
  unfold utf_goesOn.f; rw [h ⟨b.toNat, b.toNat_lt⟩]; rfl
theorem isRune_f (c : Nat) : utf_isRune.f (c : Int) = some (Sp.isRune c) := by
  unfold utf_isRune.f Sp.isRune
  repeat' split
  all_goals (congr 1; rw [Bool.eq_iff_iff]; simp; try omega)
theorem width_f (c : Nat) : utf_width.f (c : Int) = some (Sp.width c : Int) := by
  unfold utf_width.f Sp.width
  repeat' split
  all_goals first | rfl | omega
theorem begins_f (b : UInt8) : utf_begins.f (b.toNat : Int) = some (pr (Sp.lead b.toNat)) := by
  have hb := b.toNat_lt
  have h1 : ∀ n : Fin 256, 192 ≤ (n : Nat) → (n : Nat) < 224 → Go.bits .andNot .u8 ((n : Nat) : Int) 192 = ((n : Nat) : Int) - 192 := by decide +kernel
  have h2 : ∀ n : Fin 256, 224 ≤ (n : Nat) → (n : Nat) < 240 → Go.bits .andNot .u8 ((n : Nat) : Int) 224 = ((n : Nat) : Int) - 224 := by decide +kernel
  have h3 : ∀ n : Fin 256, 240 ≤ (n : Nat) → (n : Nat) < 248 → Go.bits .andNot .u8 ((n : Nat) : Int) 240 = ((n : Nat) : Int) - 240 := by decide +kernel
  have g1 := h1 ⟨b.toNat, hb⟩; have g2 := h2 ⟨b.toNat, hb⟩; have g3 := h3 ⟨b.toNat, hb⟩
  simp only at g1 g2 g3
  generalize b.toNat = n at *
  have w : ∀ z : Int, 0 ≤ z → z ≤ 255 → wrap32 z = z := fun z a b => by unfold wrap32; omega
  unfold utf_begins.f Sp.lead pr
  by_cases a1 : n < 128
  · rw [if_pos (by omega), if_pos a1, w _ (by omega) (by omega)]; rfl
  rw [if_neg (by omega), if_neg a1]
  by_cases a2 : n < 192
  · rw [if_pos (by omega), if_pos a2]; rfl
  rw [if_neg (by omega), if_neg a2]
  by_cases a3 : n < 224
  · rw [if_pos (by omega), if_pos a3, g1 (by omega) a3, w _ (by omega) (by omega)]; simp; omega
  rw [if_neg (by omega), if_neg a3]
  by_cases a4 : n < 240
  · rw [if_pos (by omega), if_pos a4, g2 (by omega) a4, w _ (by omega) (by omega)]; simp; omega
  rw [if_neg (by omega), if_neg a4]
  by_cases a5 : n < 248
  · rw [if_pos (by omega), if_pos a5, g3 (by omega) a5, w _ (by omega) (by omega)]; simp; omega
  rw [if_neg (by omega), if_neg a5]; rfl

theorem join_f (c : Nat) (b : UInt8) (hc : c ≤ 2097152) : Go.bits .or .i32 (wrap32 ((c : Int) * 64)) (wrap32 (Go.bits .and .u8 (b.toNat : Int) 63)) = ((c * 64 + b.toNat % 64 : Nat) : Int) := by
  have hb := b.toNat_lt
  have w : ∀ z : Int, 0 ≤ z → z ≤ 134217728 → wrap32 z = z := fun z a b => by unfold wrap32; omega
  rw [u8_and63 _ (by omega) (by omega), w _ (by omega) (by omega), w _ (by omega) (by omega), i32_or6 _ _ (by omega) (by omega) (by omega) (by omega) (by omega)]
  omega

theorem pr_some (c n : Nat) : (some ((c : Int), (n : Int)) : Option (Int × Int)) = some (pr (c, n)) := rfl
theorem take_l0 (s : ByteArray) (hs : s.size ≤ 140737488351232) (at_ n : Nat) (hn : at_ + n ≤ s.size) : ∀ (j k i c : Nat), i + j = n → j < k → (c + 1) * 64 ^ j ≤ 2097152 →
    utf_Take.l0 k s at_ n c i = some (pr (Sp.judge n (Sp.more j (s.data.toList.drop (at_ + i)) c))) := by
  have hsz := data_length s
  intro j
  induction j with
  | zero =>
    intro k i c hij hk hc
    obtain ⟨k, rfl⟩ : ∃ m, k = m + 1 := ⟨k - 1, by omega⟩
    simp only [utf_Take.l0]
    rw [if_neg (by omega), isRune_f]
    simp only [Option.bind_some, Sp.more, Sp.judge]
    by_cases h1 : Sp.isRune c = true
    · rw [if_pos h1, width_f]
      simp only [Option.bind_some, h1, true_and]
      by_cases h2 : Sp.width c = n
      · rw [if_pos (by omega), if_pos h2]; rfl
      · rw [if_neg (by omega), if_neg h2]; rfl
    · rw [if_neg h1, if_neg (by simp [h1])]; rfl
  | succ j ih =>
    intro k i c hij hk hc
    obtain ⟨k, rfl⟩ : ∃ m, k = m + 1 := ⟨k - 1, by omega⟩
    have hw : wrap64 ((at_ : Int) + (i : Int)) = ((at_ + i : Nat) : Int) := by unfold wrap64; omega
    have hw1 : wrap64 ((i : Int) + 1) = ((i + 1 : Nat) : Int) := by unfold wrap64; omega
    have hlt : at_ + i < s.data.toList.length := by omega
    have hp : 0 < 64 ^ j := Nat.pow_pos (by decide)
    have hc2 : c ≤ 2097152 := by
      have := Nat.le_mul_of_pos_right (c + 1) (show 0 < 64 ^ (j + 1) by rw [Nat.pow_succ]; omega)
      omega
    simp only [utf_Take.l0]
    rw [if_pos (by omega), hw, if_pos (by omega), if_pos (by omega), bt_nat s _ hlt, goesOn_f, drop_cons _ _ hlt]
    simp only [Option.bind_some, Sp.more]
    by_cases h1 : Sp.cont (s.data.toList[at_ + i]'hlt) = true
    · rw [if_pos h1, if_pos h1, hw1, join_f _ _ hc2]
      have hm : (c * 64 + (s.data.toList[at_ + i]'hlt).toNat % 64 + 1) * 64 ^ j ≤ (c + 1) * 64 ^ (j + 1) := by
        rw [Nat.pow_succ, Nat.mul_comm (64 ^ j) 64, ← Nat.mul_assoc]
        exact Nat.mul_le_mul_right _ (by omega)
      exact ih k (i + 1) _ (by omega) (by omega) (by omega)
    · rw [if_neg h1, if_neg h1]; rfl

theorem lead_le (a : Nat) (ha : a < 256) : (Sp.lead a).1 ≤ 4 ∧ ((Sp.lead a).1 ≠ 0 → ((Sp.lead a).2 + 1) * 64 ^ ((Sp.lead a).1 - 1) ≤ 2097152) := by
  unfold Sp.lead
  repeat' split
  all_goals simp
  all_goals omega
theorem more_short : ∀ (n : Nat) (l : List UInt8) (c : Nat), l.length < n → Sp.more n l c = none
  | 0, _, _, h => by omega
  | n + 1, [], c, h => rfl
  | n + 1, b :: l, c, h => by
    simp only [Sp.more]; split
    · exact more_short n l _ (by simp at h; omega)
    · rfl
theorem take_f (s : ByteArray) (hs : s.size ≤ 140737488351232) (i : Int) (k : Nat) (hk : 10 ≤ k) : utf_Take.f k s i = some (pr (Sp.take s.data.toList i)) := by
  have hsz := data_length s
  obtain ⟨k, rfl⟩ : ∃ m, k = m + 1 := ⟨k - 1, by omega⟩
  unfold utf_Take.f Sp.take
  by_cases h0 : i < 0
  · rw [if_pos h0, if_neg (by omega)]; rfl
  rw [if_neg h0]
  by_cases h1 : i ≥ (s.size : Int)
  · rw [if_neg (by omega)]; simp only [utf_Take.j0, h1, decide_true, if_true]; rfl
  rw [if_pos (by omega)]
  obtain ⟨p, rfl⟩ := Int.eq_ofNat_of_zero_le (by omega : 0 ≤ i)
  have hlt : p < s.data.toList.length := by omega
  simp only [utf_Take.j0, h1, decide_false, Bool.false_eq_true, if_false]
  rw [if_pos (by omega), if_pos (by omega), bt_nat s p hlt, begins_f]
  simp only [Option.bind_some, pr, Int.toNat_natCast]
  rw [drop_cons _ _ hlt, Sp.dec_cons]
  have hl := lead_le (s.data.toList[p]'hlt).toNat (s.data.toList[p]'hlt).toNat_lt
  generalize hL : Sp.lead (s.data.toList[p]'hlt).toNat = L at *
  obtain ⟨n, c⟩ := L
  simp only at hl ⊢
  obtain ⟨k, rfl⟩ : ∃ m, k = m + 1 := ⟨k - 1, by omega⟩
  by_cases h2 : n = 0
  · rw [if_pos (by omega), if_pos h2]; rfl
  rw [if_neg (by omega), if_neg h2]
  have hw : wrap64 ((s.size : Int) - (p : Int)) = ((s.size - p : Nat) : Int) := by unfold wrap64; omega
  rw [hw]
  by_cases h3 : s.size - p < n
  · rw [more_short _ _ _ (by rw [List.length_drop]; omega)]
    simp only [utf_Take.j1]
    rw [if_pos (by simp; omega)]; rfl
  · simp only [utf_Take.j1]
    rw [if_neg (by simp; omega)]
    exact take_l0 s hs p n (by omega) (n - 1) k 1 c (by omega) (by omega) (hl.2 h2)

/-! ### the references -/
theorem ok_f (c : Int) : stylusref01_ok.f c = some (decide (0 ≤ c) && Sp.isRune c.toNat) := by
  unfold stylusref01_ok.f Sp.isRune
  repeat' split
  all_goals (congr 1; rw [Bool.eq_iff_iff]; simp; try omega)
theorem octets_f (c : Nat) : stylusref01_octets.f (c : Int) = some (Sp.width c : Int) := by
  unfold stylusref01_octets.f Sp.width
  repeat' split
  all_goals first | rfl | omega
theorem str_of (l : List UInt8) (xs : List Int) (h : xs.map (fun n => UInt8.ofNat n.toNat) = l) : strOfNums xs = ⟨l.toArray⟩ := by subst h; rfl
theorem put_f (c : Int) (h0 : -2147483648 ≤ c) (h1 : c ≤ 2147483647) : stylusref01_Put.f c = some ⟨(Sp.encI c).toArray⟩ := by
  have w : ∀ z : Int, -4294967296 ≤ z → z ≤ 4294967296 → wrap64 z = z := fun z a b => by unfold wrap64; omega
  unfold stylusref01_Put.f Sp.encI
  rw [w c (by omega) (by omega), ok_f]
  simp only [Option.bind_some]
  by_cases hc : 0 ≤ c
  · obtain ⟨n, rfl⟩ := Int.eq_ofNat_of_zero_le hc
    simp only [Int.toNat_natCast, hc, decide_true, Bool.true_and, if_true]
    by_cases hr : Sp.isRune n = true
    · have hn := (Sp.isRune_iff n).1 hr
      rw [if_pos hr, octets_f]
      simp only [Option.bind_some]
      have d1 : Int.tdiv (n : Int) 64 = ((n / 64 : Nat) : Int) := rfl
      have d2 : Int.tdiv (n : Int) 4096 = ((n / 4096 : Nat) : Int) := rfl
      have d3 : Int.tdiv (n : Int) 262144 = ((n / 262144 : Nat) : Int) := rfl
      have m1 : Int.tmod (n : Int) 64 = ((n % 64 : Nat) : Int) := rfl
      have m2 : Int.tmod ((n / 64 : Nat) : Int) 64 = ((n / 64 % 64 : Nat) : Int) := rfl
      have m3 : Int.tmod ((n / 4096 : Nat) : Int) 64 = ((n / 4096 % 64 : Nat) : Int) := rfl
      unfold Sp.width Sp.enc
      rw [if_pos hr]
      by_cases c1 : n < 128
      · rw [if_pos c1, if_pos c1, if_pos (by decide)]
        refine congrArg some (str_of _ _ ?_)
        have e0 : ((n : Int) % 256).toNat = n := by omega
        simp only [List.map_cons, List.map_nil, e0]
      rw [if_neg c1, if_neg c1]
      by_cases c2 : n < 2048
      · rw [if_pos c2, if_pos c2, if_neg (by decide), if_pos (by decide)]
        refine congrArg some (str_of _ _ ?_)
        simp only [d1, m1]
        rw [w ((n / 64 : Nat) : Int) (by omega) (by omega), w _ (by omega) (by omega), w _ (by omega) (by omega)]
        have e0 : ((192 + ((n / 64 : Nat) : Int)) % 256).toNat = 192 + n / 64 := by omega
        have e1 : ((128 + ((n % 64 : Nat) : Int)) % 256).toNat = 128 + n % 64 := by omega
        simp only [List.map_cons, List.map_nil, e0, e1]
      rw [if_neg c2, if_neg c2]
      by_cases c3 : n < 65536
      · rw [if_pos c3, if_pos c3, if_neg (by decide), if_neg (by decide), if_pos (by decide)]
        refine congrArg some (str_of _ _ ?_)
        simp only [d1, d2, m1]
        rw [w ((n / 4096 : Nat) : Int) (by omega) (by omega), w ((n / 64 : Nat) : Int) (by omega) (by omega)]
        simp only [m2]
        rw [w _ (by omega) (by omega), w _ (by omega) (by omega), w _ (by omega) (by omega)]
        have e0 : ((224 + ((n / 4096 : Nat) : Int)) % 256).toNat = 224 + n / 4096 := by omega
        have e1 : ((128 + ((n / 64 % 64 : Nat) : Int)) % 256).toNat = 128 + n / 64 % 64 := by omega
        have e2 : ((128 + ((n % 64 : Nat) : Int)) % 256).toNat = 128 + n % 64 := by omega
        simp only [List.map_cons, List.map_nil, e0, e1, e2]
      · rw [if_neg c3, if_neg c3, if_neg (by decide), if_neg (by decide), if_neg (by decide)]
        refine congrArg some (str_of _ _ ?_)
        simp only [d1, d2, d3, m1]
        rw [w ((n / 262144 : Nat) : Int) (by omega) (by omega), w ((n / 4096 : Nat) : Int) (by omega) (by omega), w ((n / 64 : Nat) : Int) (by omega) (by omega)]
        simp only [m2, m3]
        rw [w _ (by omega) (by omega), w _ (by omega) (by omega), w _ (by omega) (by omega), w _ (by omega) (by omega)]
        have e0 : ((240 + ((n / 262144 : Nat) : Int)) % 256).toNat = 240 + n / 262144 := by omega
        have e1 : ((128 + ((n / 4096 % 64 : Nat) : Int)) % 256).toNat = 128 + n / 4096 % 64 := by omega
        have e2 : ((128 + ((n / 64 % 64 : Nat) : Int)) % 256).toNat = 128 + n / 64 % 64 := by omega
        have e3 : ((128 + ((n % 64 : Nat) : Int)) % 256).toNat = 128 + n % 64 := by omega
        simp only [List.map_cons, List.map_nil, e0, e1, e2, e3]
    · rw [if_neg hr, Sp.enc_none (by simpa using hr)]
  · rw [if_neg hc]
    simp [hc]

theorem number_l0 (x : ByteArray) (hs : x.size ≤ 4) : ∀ (j k i c : Nat), i + j = x.size → 1 ≤ i → j < k → (c + 1) * 64 ^ j ≤ 67108864 →
    stylusref01_number.l0 k x c i = some (Sp.numT (x.data.toList.drop i) c : Int) := by
  have hsz := data_length x
  intro j
  induction j with
  | zero =>
    intro k i c hij hi hk hc
    obtain ⟨k, rfl⟩ : ∃ m, k = m + 1 := ⟨k - 1, by omega⟩
    simp only [stylusref01_number.l0]
    rw [if_neg (by omega), List.drop_of_length_le (by omega)]; rfl
  | succ j ih =>
    intro k i c hij hi hk hc
    obtain ⟨k, rfl⟩ : ∃ m, k = m + 1 := ⟨k - 1, by omega⟩
    have hp : 0 < 64 ^ j := Nat.pow_pos (by decide)
    have hlt : i < x.data.toList.length := by omega
    have hc2 : c ≤ 1048576 := by
      have h1 : (c + 1) * 64 ^ (j + 1) = (c + 1) * 64 * 64 ^ j := by rw [Nat.pow_succ, Nat.mul_comm (64 ^ j) 64, ← Nat.mul_assoc]
      have := Nat.le_mul_of_pos_right ((c + 1) * 64) hp
      omega
    have hb := (x.data.toList[i]'hlt).toNat_lt
    have w : ∀ z : Int, -4294967296 ≤ z → z ≤ 4294967296 → wrap64 z = z := fun z a b => by unfold wrap64; omega
    simp only [stylusref01_number.l0]
    rw [if_pos (by omega), if_pos (by omega), bt_nat x i hlt, drop_cons _ _ hlt]
    simp only [Sp.numT]
    have m1 : Int.tmod (((x.data.toList[i]'hlt).toNat : Nat) : Int) 64 = (((x.data.toList[i]'hlt).toNat % 64 : Nat) : Int) := rfl
    rw [w ((x.data.toList[i]'hlt).toNat : Int) (by omega) (by omega), m1, w (64 * (c : Int)) (by omega) (by omega), w _ (by omega) (by omega), w _ (by omega) (by omega)]
    have e : (64 * (c : Int) + (((x.data.toList[i]'hlt).toNat % 64 : Nat) : Int)) = ((64 * c + (x.data.toList[i]'hlt).toNat % 64 : Nat) : Int) := by omega
    have e1 : ((i : Int) + 1) = ((i + 1 : Nat) : Int) := by omega
    rw [e, e1]
    have hm : (64 * c + (x.data.toList[i]'hlt).toNat % 64 + 1) * 64 ^ j ≤ (c + 1) * 64 ^ (j + 1) := by
      rw [Nat.pow_succ, Nat.mul_comm (64 ^ j) 64, ← Nat.mul_assoc]
      exact Nat.mul_le_mul_right _ (by omega)
    exact ih k (i + 1) _ (by omega) (by omega) (by omega) (by omega)
theorem number_f (x : ByteArray) (h0 : 1 ≤ x.size) (hs : x.size ≤ 4) (k : Nat) (hk : 10 ≤ k) : stylusref01_number.f k x = some (Sp.num x.data.toList) := by
  have hsz := data_length x
  have hlt : 0 < x.data.toList.length := by omega
  have hb := (x.data.toList[0]'hlt).toNat_lt
  have w : ∀ z : Int, -4294967296 ≤ z → z ≤ 4294967296 → wrap64 z = z := fun z a b => by unfold wrap64; omega
  have hd : x.data.toList = x.data.toList[0]'hlt :: x.data.toList.drop 1 := by have := drop_cons x.data.toList 0 hlt; simpa using this
  have hb0 : bt x 0 = ((x.data.toList[0]'hlt).toNat : Int) := bt_nat x 0 hlt
  obtain ⟨k, rfl⟩ : ∃ m, k = m + 1 := ⟨k - 1, by omega⟩
  have hnum : Sp.num x.data.toList = if (x.data.toList[0]'hlt).toNat < Sp.mark x.size then -1 else (Sp.numT (x.data.toList.drop 1) ((x.data.toList[0]'hlt).toNat - Sp.mark x.size) : Int) := by
    conv => lhs; rw [hd]
    simp only [Sp.num]
    rw [List.length_drop, show x.data.toList.length - 1 + 1 = x.size by omega]
  have hl := fun (c : Nat) (hc : (c + 1) * 64 ^ (x.size - 1) ≤ 67108864) => number_l0 x hs (x.size - 1) k 1 c (by omega) (by omega) (by omega) hc
  clear hd
  generalize (x.data.toList[0]'hlt).toNat = a at *
  unfold stylusref01_number.f
  rw [if_pos (by omega), hb0, hnum, w _ (by omega) (by omega)]
  by_cases s1 : x.size = 1
  · rw [if_pos (by omega), s1, List.drop_of_length_le (by omega)]; simp [Sp.mark, Sp.numT]
  rw [if_neg (by omega)]
  by_cases s2 : x.size = 2
  · rw [if_pos (by omega), w _ (by omega) (by omega), s2]
    rw [show Sp.mark 2 = 192 from rfl]
    simp only [stylusref01_number.j0]
    by_cases hx : a < 192
    · rw [if_pos (by omega), if_pos hx]
    · rw [if_neg (by omega), if_neg hx]
      have := hl (a - 192) (by rw [s2]; simp only [Nat.reduceSub, Nat.reducePow]; omega)
      rw [show ((a : Int) - 192) = ((a - 192 : Nat) : Int) by omega]
      exact this
  rw [if_neg (by omega)]
  by_cases s3 : x.size = 3
  · rw [if_pos (by omega), w _ (by omega) (by omega), s3]
    rw [show Sp.mark 3 = 224 from rfl]
    simp only [stylusref01_number.j0]
    by_cases hx : a < 224
    · rw [if_pos (by omega), if_pos hx]
    · rw [if_neg (by omega), if_neg hx]
      have := hl (a - 224) (by rw [s3]; simp only [Nat.reduceSub, Nat.reducePow]; omega)
      rw [show ((a : Int) - 224) = ((a - 224 : Nat) : Int) by omega]
      exact this
  rw [if_neg (by omega)]
  have s4 : x.size = 4 := by omega
  rw [w _ (by omega) (by omega), s4]
  rw [show Sp.mark 4 = 240 from rfl]
  simp only [stylusref01_number.j0]
  by_cases hx : a < 240
  · rw [if_pos (by omega), if_pos hx]
  · rw [if_neg (by omega), if_neg hx]
    have := hl (a - 240) (by rw [s4]; simp only [Nat.reduceSub, Nat.reducePow]; omega)
    rw [show ((a : Int) - 240) = ((a - 240 : Nat) : Int) by omega]
    exact this
theorem num_le : ∀ (l : List UInt8) (c : Nat), (Sp.numT l c : Nat) + 1 ≤ (c + 1) * 64 ^ l.length
  | [], c => by simp [Sp.numT]
  | b :: l, c => by
    simp only [Sp.numT, List.length_cons]
    have := num_le l (64 * c + b.toNat % 64)
    have hm : (64 * c + b.toNat % 64 + 1) * 64 ^ l.length ≤ (c + 1) * 64 ^ (l.length + 1) := by
      rw [Nat.pow_succ, Nat.mul_comm (64 ^ l.length) 64, ← Nat.mul_assoc]
      exact Nat.mul_le_mul_right _ (by omega)
    omega
theorem num_bound (l : List UInt8) (h : l.length ≤ 4) : -1 ≤ Sp.num l ∧ Sp.num l ≤ 67108864 := by
  cases l with
  | nil => simp [Sp.num]
  | cons a l =>
    have ha := a.toNat_lt
    simp only [Sp.num]
    split
    · omega
    · have := num_le l (a.toNat - Sp.mark (l.length + 1))
      have h2 : (a.toNat - Sp.mark (l.length + 1) + 1) * 64 ^ l.length ≤ 256 * 64 ^ 3 :=
        Nat.mul_le_mul (by omega) (Nat.pow_le_pow_right (by decide) (by simp at h; omega))
      omega
theorem mk_toList (l : List UInt8) : (⟨l.toArray⟩ : ByteArray).toList = l := by rw [Lib.toList_data]
theorem rtake_l0 (s : ByteArray) (hs : s.size ≤ 140737488351232) (p : Nat) (hp : p < s.size) : ∀ (j k i : Nat), i + j = 5 → 1 ≤ i → 2 * j + 20 ≤ k →
    ((Sp.dec (s.data.toList.drop p)).2 = 0 ∨ i ≤ (Sp.dec (s.data.toList.drop p)).2) →
    stylusref01_Take.l0 k s p i = some (pr (Sp.dec (s.data.toList.drop p))) := by
  have hsz := data_length s
  intro j
  induction j with
  | zero =>
    intro k i hij hi hk hd
    have h4 : (Sp.dec (s.data.toList.drop p)).2 = 0 := by
      rcases hd with h | h
      · exact h
      · apply Classical.byContradiction; intro hne
        have := (Sp.dec_num _ hne).2.2; omega
    obtain ⟨k, rfl⟩ : ∃ m, k = m + 2 := ⟨k - 2, by omega⟩
    simp only [stylusref01_Take.l0]
    rw [if_neg (by omega)]
    simp only [stylusref01_Take.j2]
    rw [if_neg (by decide), Sp.dec_zero h4]; rfl
  | succ j ih =>
    intro k i hij hi hk hd
    obtain ⟨k, rfl⟩ : ∃ m, k = m + 2 := ⟨k - 2, by omega⟩
    have hw : wrap64 ((s.size : Int) - (p : Int)) = ((s.size - p : Nat) : Int) := by unfold wrap64; omega
    have hw1 : wrap64 ((p : Int) + (i : Int)) = ((p + i : Nat) : Int) := by unfold wrap64; omega
    have hw2 : wrap64 ((i : Int) + 1) = ((i + 1 : Nat) : Int) := by unfold wrap64; omega
    simp only [stylusref01_Take.l0]
    rw [if_pos (by omega), hw]
    simp only [stylusref01_Take.j2]
    by_cases hr : i ≤ s.size - p
    · rw [if_pos (by simp; omega), if_pos (by omega), hw1, if_pos (by omega), if_pos (by omega)]
      simp only [Int.toNat_natCast]
      have hex : (s.extract p (p + i)).data.toList = (s.data.toList.drop p).take i := by rw [Lib.extract_data, show p + i - p = i by omega]
      have hexl : ((s.data.toList.drop p).take i).length = i := by rw [List.length_take, List.length_drop]; omega
      have hexs : (s.extract p (p + i)).size = i := by rw [← data_length, hex, hexl]
      rw [number_f _ (by omega) (by omega) k (by omega), hex]
      simp only [Option.bind_some]
      have hbd := num_bound _ (show ((s.data.toList.drop p).take i).length ≤ 4 by omega)
      have ihk := ih k (i + 1) (by omega) (by omega) (by omega)
      have key := Sp.num_dec (s.data.toList.drop p) i hi (by rw [List.length_drop]; omega)
      have key2 := Sp.dec_num (s.data.toList.drop p)
      generalize hz : Sp.num ((s.data.toList.drop p).take i) = z at *
      have wz : wrap32 z = z := by unfold wrap32; omega
      have goOn : Sp.encI z ≠ (s.data.toList.drop p).take i → (Sp.dec (s.data.toList.drop p)).2 = 0 ∨ i + 1 ≤ (Sp.dec (s.data.toList.drop p)).2 := by
        intro hne
        rcases hd with h | h
        · exact .inl h
        · rcases Nat.lt_or_ge i (Sp.dec (s.data.toList.drop p)).2 with h' | h'
          · exact .inr h'
          · have e : (Sp.dec (s.data.toList.drop p)).2 = i := by omega
            have k2 := key2 (by omega)
            rw [e, hz] at k2
            exact absurd k2.2.1 hne
      by_cases h0 : 0 ≤ z
      · rw [if_pos h0, wz, put_f z (by omega) (by omega)]
        simp only [Option.bind_some]
        have hq : ((⟨(Sp.encI z).toArray⟩ : ByteArray).toList = (s.extract p (p + i)).toList) ↔ Sp.encI z = (s.data.toList.drop p).take i := by rw [mk_toList, Lib.toList_data, hex]
        by_cases he : Sp.encI z = (s.data.toList.drop p).take i
        · rw [if_pos (hq.2 he)]
          have := key he
          rw [← this.2, show ((i : Int)) = (((Sp.dec (s.data.toList.drop p)).2 : Nat) : Int) by omega]; rfl
        · rw [if_neg (fun h => he (hq.1 h)), hw2]
          exact ihk (goOn he)
      · rw [if_neg h0, hw2]
        refine ihk (goOn ?_)
        intro he
        unfold Sp.encI at he
        rw [if_neg h0] at he
        rw [← he] at hexl
        simp at hexl; omega
    · rw [if_neg (by simp; omega)]
      have h4 : (Sp.dec (s.data.toList.drop p)).2 = 0 := by
        have := @Sp.dec_le (s.data.toList.drop p)
        rw [List.length_drop] at this; omega
      rw [Sp.dec_zero h4]; rfl
theorem rtake_f (s : ByteArray) (hs : s.size ≤ 140737488351232) (i : Int) (k : Nat) (hk : 40 ≤ k) : stylusref01_Take.f k s i = some (pr (Sp.take s.data.toList i)) := by
  have hsz := data_length s
  obtain ⟨k, rfl⟩ : ∃ m, k = m + 1 := ⟨k - 1, by omega⟩
  unfold stylusref01_Take.f Sp.take
  by_cases h0 : i < 0
  · rw [if_pos h0, if_neg (by omega)]; rfl
  rw [if_neg h0]
  by_cases h1 : i ≥ (s.size : Int)
  · rw [if_neg (by omega)]; simp only [stylusref01_Take.j0, h1, decide_true, if_true]; rfl
  rw [if_pos (by omega)]
  obtain ⟨p, rfl⟩ := Int.eq_ofNat_of_zero_le (by omega : 0 ≤ i)
  simp only [stylusref01_Take.j0, h1, decide_false, Bool.false_eq_true, if_false, Int.toNat_natCast]
  have hne : (Sp.dec (s.data.toList.drop p)).2 = 0 ∨ 1 ≤ (Sp.dec (s.data.toList.drop p)).2 := by omega
  exact rtake_l0 s hs p (by omega) 4 k 1 (by omega) (by omega) (by omega) hne
end Go.Proofs.Ytdcnoiofimngpaa.UP
/- What the printed functions of texts come to: Bad, Edge, Back, Runes, Lines. -/
namespace Go.Proofs.Ytdcnoiofimngpaa.UP
open Go.RowKit Go.Proofs.YtdcnoiofimngpaaW.PrintWords Go.Proofs.YtdcnoiofimngpaaW.PrintLast Go.Proofs.YtdcnoiofimngpaaW.PrintMore Go.Proofs.Ytdcnoiofimngpaa.QU
set_option linter.unusedVariables false

theorem take_at (l : List UInt8) (p : Nat) (h : p < l.length) : Sp.take l (p : Int) = Sp.dec (l.drop p) := by
  unfold Sp.take; rw [if_pos (by omega), Int.toNat_natCast]
theorem rbad_l0 (s : ByteArray) (hs : s.size ≤ 140737488351232) : ∀ (d k p : Nat), p + d = s.size → d + 50 ≤ k →
    stylusref01_Bad.l0 k s p = some (match Sp.badF (s.data.toList.drop p).length (s.data.toList.drop p) p with | none => -1 | some n => (n : Int)) := by
  have hsz := data_length s
  intro d
  induction d using Nat.strongRecOn with
  | ind d ih =>
    intro k p hp hk
    obtain ⟨k, rfl⟩ : ∃ m, k = m + 1 := ⟨k - 1, by omega⟩
    simp only [stylusref01_Bad.l0]
    by_cases h : p < s.size
    · rw [if_pos (by omega), rtake_f s hs p k (by omega), take_at _ _ (by omega)]
      simp only [Option.bind_some, pr]
      have hne : s.data.toList.drop p ≠ [] := by
        intro h'; have := congrArg List.length h'; rw [List.length_drop, List.length_nil] at this; omega
      rw [Sp.badF_step _ _ hne]
      have hle := @Sp.dec_le (s.data.toList.drop p)
      rw [List.length_drop] at hle
      by_cases h0 : (Sp.dec (s.data.toList.drop p)).2 = 0
      · rw [if_pos (by omega), if_pos h0]
      · rw [if_neg (by omega), if_neg h0]
        have hw : wrap64 ((p : Int) + ((Sp.dec (s.data.toList.drop p)).2 : Nat)) = ((p + (Sp.dec (s.data.toList.drop p)).2 : Nat) : Int) := by unfold wrap64; omega
        rw [hw, ih (d - (Sp.dec (s.data.toList.drop p)).2) (by omega) k _ (by omega) (by omega), List.drop_drop]
    · rw [if_neg (by omega), List.drop_of_length_le (by omega)]; rfl
theorem rbad_f (s : ByteArray) (hs : s.size ≤ 140737488351232) (k : Nat) (hk : s.size + 50 ≤ k) : stylusref01_Bad.f k s = some (Sp.badI s.data.toList) := by
  unfold stylusref01_Bad.f
  have := rbad_l0 s hs s.size k 0 (by omega) (by omega)
  rw [List.drop_zero] at this
  exact this
theorem rvalid_f (s : ByteArray) (hs : s.size ≤ 140737488351232) (k : Nat) (hk : s.size + 50 ≤ k) : stylusref01_Valid.f k s = some (Sp.valid s.data.toList) := by
  unfold stylusref01_Valid.f
  rw [rbad_f s hs k hk]
  simp only [Option.bind_some]
  rw [Sp.badI_neg]
theorem on_f (b : UInt8) : stylusref01_on.f (b.toNat : Int) = some (Sp.cont b) := by
  unfold stylusref01_on.f Sp.cont
  repeat' split
  all_goals (congr 1; rw [Bool.eq_iff_iff]; simp; try omega)
theorem getD_at (l : List UInt8) (i : Nat) (h : i < l.length) : l.getD i 0 = l[i]'h := by rw [List.getD_eq_getElem?_getD, List.getElem?_eq_getElem h]; rfl
theorem redge_f (s : ByteArray) (i : Int) : stylusref01_Edge.f s i = some (Sp.edge s.data.toList i) := by
  have hsz := data_length s
  unfold stylusref01_Edge.f Sp.edge
  by_cases h0 : i < 0
  · rw [if_pos h0, show decide (0 ≤ i) = false by simp; omega]; rfl
  rw [if_neg h0, show decide (0 ≤ i) = true by simp; omega]
  by_cases h1 : i > (s.size : Int)
  · rw [if_pos h1, show decide (i ≤ (s.data.toList.length : Int)) = false by simp only [decide_eq_false_iff_not]; omega]; rfl
  rw [if_neg h1, show decide (i ≤ (s.data.toList.length : Int)) = true by simp only [decide_eq_true_eq]; omega]
  by_cases h2 : i = 0
  · rw [if_pos h2, show decide (i = 0) = true by simpa using h2]; rfl
  rw [if_neg h2, show decide (i = 0) = false by simpa using h2]
  by_cases h3 : i = (s.size : Int)
  · rw [if_pos h3, show decide (i = (s.data.toList.length : Int)) = true by simp only [decide_eq_true_eq]; omega]; rfl
  rw [if_neg h3, show decide (i = (s.data.toList.length : Int)) = false by simp only [decide_eq_false_iff_not]; omega, if_pos (by omega), if_pos (by omega)]
  rw [bt_int s i (by omega) (by omega), on_f, getD_at _ _ (by omega)]; rfl
theorem edge_f (s : ByteArray) (i : Int) (k : Nat) (hk : 1 ≤ k) : utf_Edge.f k s i = some (Sp.edge s.data.toList i) := by
  have hsz := data_length s
  obtain ⟨k, rfl⟩ : ∃ m, k = m + 1 := ⟨k - 1, by omega⟩
  unfold utf_Edge.f Sp.edge
  by_cases h0 : i < 0
  · rw [if_pos h0, show decide (0 ≤ i) = false by simp; omega]; simp [utf_Edge.j0]
  rw [if_neg h0, show decide (0 ≤ i) = true by simp; omega]
  by_cases h1 : i > (s.size : Int)
  · rw [show decide (i > (s.size : Int)) = true by simpa using h1, show decide (i ≤ (s.data.toList.length : Int)) = false by simp only [decide_eq_false_iff_not]; omega]; simp [utf_Edge.j0]
  rw [show decide (i > (s.size : Int)) = false by simpa using h1, show decide (i ≤ (s.data.toList.length : Int)) = true by simp only [decide_eq_true_eq]; omega]
  simp only [utf_Edge.j0]
  rw [if_neg (by decide)]
  by_cases h2 : i = 0
  · rw [if_pos h2, show decide (i = 0) = true by simpa using h2]; rfl
  rw [if_neg h2, show decide (i = 0) = false by simpa using h2]
  by_cases h3 : i = (s.size : Int)
  · rw [if_pos h3, show decide (i = (s.data.toList.length : Int)) = true by simp only [decide_eq_true_eq]; omega]; rfl
  rw [if_neg h3, show decide (i = (s.data.toList.length : Int)) = false by simp only [decide_eq_false_iff_not]; omega, if_pos (by omega), if_pos (by omega)]
  rw [bt_int s i (by omega) (by omega), goesOn_f, getD_at _ _ (by omega)]; rfl
theorem backN_le (l : List UInt8) : ∀ k, Sp.backN l k ≤ k
  | 0 => Nat.le_refl 0
  | k + 1 => by unfold Sp.backN; split; exact Nat.le_refl _; have := backN_le l k; omega
theorem back_l0 (s : ByteArray) (hs : s.size ≤ 140737488351232) : ∀ (p k : Nat), p ≤ s.size → p + 10 ≤ k → utf_Back.l0 k s p = some (Sp.backN s.data.toList p : Int) := by
  intro p
  induction p with
  | zero =>
    intro k hp hk
    obtain ⟨k, rfl⟩ : ∃ m, k = m + 1 := ⟨k - 1, by omega⟩
    simp only [utf_Back.l0]
    rw [if_neg (by omega)]; unfold mx; simp [Sp.backN]
  | succ p ih =>
    intro k hp hk
    obtain ⟨k, rfl⟩ : ∃ m, k = m + 1 := ⟨k - 1, by omega⟩
    simp only [utf_Back.l0]
    rw [if_pos (by omega), edge_f s _ k (by omega)]
    simp only [Option.bind_some, Sp.backN]
    by_cases h : Sp.edge s.data.toList ((p + 1 : Nat) : Int) = true
    · rw [if_pos h, if_pos h, show mx ((p + 1 : Nat) : Int) 0 = ((p + 1 : Nat) : Int) by unfold mx; omega]
    · rw [if_neg h, if_neg h, show wrap64 (((p + 1 : Nat) : Int) - 1) = (p : Int) by unfold wrap64; omega]
      exact ih k (by omega) (by omega)
theorem back_f (s : ByteArray) (hs : s.size ≤ 140737488351232) (i : Int) (k : Nat) (hk : s.size + 10 ≤ k) : utf_Back.f k s i = some (Sp.back s.data.toList i : Int) := by
  have hsz := data_length s
  unfold utf_Back.f Sp.back
  by_cases h : i ≥ (s.size : Int)
  · rw [if_pos h, if_pos (by omega), hsz]
  · rw [if_neg h, if_neg (by omega)]
    by_cases h0 : 0 ≤ i
    · obtain ⟨p, rfl⟩ := Int.eq_ofNat_of_zero_le h0
      rw [Int.toNat_natCast]
      exact back_l0 s hs p k (by omega) (by omega)
    · obtain ⟨k, rfl⟩ : ∃ m, k = m + 1 := ⟨k - 1, by omega⟩
      simp only [utf_Back.l0]
      rw [if_neg (by omega), show i.toNat = 0 by omega, show mx i 0 = 0 by unfold mx; omega]; rfl
theorem rrunes_l0 (s : ByteArray) (hs : s.size ≤ 140737488351232) : ∀ (d k p c : Nat), p + d = s.size → d + 10 ≤ k → c ≤ p → stylusref01_Runes.l0 k s c p = some ((c + Sp.runes (s.data.toList.drop p) : Nat) : Int) := by
  have hsz := data_length s
  intro d
  induction d with
  | zero =>
    intro k p c hp hk hc
    obtain ⟨k, rfl⟩ : ∃ m, k = m + 1 := ⟨k - 1, by omega⟩
    simp only [stylusref01_Runes.l0]
    rw [if_neg (by omega), List.drop_of_length_le (by omega)]; simp [Sp.runes]
  | succ d ih =>
    intro k p c hp hk hc
    obtain ⟨k, rfl⟩ : ∃ m, k = m + 1 := ⟨k - 1, by omega⟩
    have hlt : p < s.data.toList.length := by omega
    simp only [stylusref01_Runes.l0]
    rw [if_pos (by omega), if_pos (by omega), bt_nat s p hlt, on_f, drop_cons _ _ hlt]
    simp only [Option.bind_some, Sp.runes]
    rw [show wrap64 ((p : Int) + 1) = ((p + 1 : Nat) : Int) by unfold wrap64; omega, show wrap64 ((c : Int) + 1) = ((c + 1 : Nat) : Int) by unfold wrap64; omega]
    by_cases h : Sp.cont (s.data.toList[p]'hlt) = true
    · rw [if_pos h, if_pos h, ih k (p + 1) c (by omega) (by omega) (by omega), Nat.zero_add]
    · rw [if_neg h, if_neg h, ih k (p + 1) (c + 1) (by omega) (by omega) (by omega), Nat.add_assoc]
theorem rrunes_f (s : ByteArray) (hs : s.size ≤ 140737488351232) (k : Nat) (hk : s.size + 50 ≤ k) : stylusref01_Runes.f k s = some (Sp.runes s.data.toList : Int) := by
  unfold stylusref01_Runes.f
  have := rrunes_l0 s hs s.size k 0 0 (by omega) (by omega) (by omega)
  rw [List.drop_zero, Nat.zero_add] at this; exact this
end Go.Proofs.Ytdcnoiofimngpaa.UP
