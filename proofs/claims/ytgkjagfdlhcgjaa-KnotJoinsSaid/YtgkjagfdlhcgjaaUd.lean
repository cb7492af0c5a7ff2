import Derived.Test.YtgkjagfdlhcgjaaSpec
import Derived.Laws.RangeAny
/- What the model's range over a string tells at a place: the rune that stands there, or that there is none. -/
namespace Go.Proofs.Ytgkjagfdlhcgjaa.UP
open Go

theorem get_drop (s : ByteArray) (pos k : Nat) (h : pos + k < s.size) : (s.get! (pos + k)) = (s.data.toList.drop pos)[k]'(by rw [List.length_drop, Array.length_toList]; show _ < s.size - pos; omega) := by
  have e : s.get! (pos + k) = s[pos + k]'h := by
    show s.get! (pos + k) = _
    simp [ByteArray.get!, getElem!_pos, h]
    rfl
  rw [e]; simp; rfl
theorem len_drop (s : ByteArray) (pos : Nat) : (s.data.toList.drop pos).length = s.size - pos := by rw [List.length_drop, Array.length_toList]; rfl

theorem cont_iff (b : UInt8) : (b.toNat / 64 == 2) = Sp.cont b := by
  rw [Bool.eq_iff_iff]; simp [Sp.cont]; omega
theorem valid_iff (c : Nat) : Utf8.valid (c : Int) = Sp.isRune c := by
  rw [Bool.eq_iff_iff]; simp [Utf8.valid, Sp.isRune]; omega
theorem judge_eq (n c : Nat) : Sp.judge n (some c) = if Sp.isRune c = true ∧ Sp.width c = n then (c, n) else (0, 0) := rfl
theorem judge_none (n : Nat) : Sp.judge n none = (0, 0) := rfl
theorem width_eq (c n : Nat) (l : Sp.width c = n) : (n = 1 ∧ c < 128) ∨ (n = 2 ∧ 128 ≤ c ∧ c < 2048) ∨ (n = 3 ∧ 2048 ≤ c ∧ c < 65536) ∨ (n = 4 ∧ 65536 ≤ c) := by
  unfold Sp.width at l; repeat' split at l
  all_goals omega
theorem width_2 {c : Nat} (h1 : 128 ≤ c) (h2 : c < 2048) : Sp.width c = 2 := by unfold Sp.width; rw [if_neg (by omega), if_pos h2]
theorem width_3 {c : Nat} (h1 : 2048 ≤ c) (h2 : c < 65536) : Sp.width c = 3 := by unfold Sp.width; rw [if_neg (by omega), if_neg (by omega), if_pos h2]
theorem width_4 {c : Nat} (h1 : 65536 ≤ c) : Sp.width c = 4 := by unfold Sp.width; rw [if_neg (by omega), if_neg (by omega), if_neg (by omega)]

/-- The model's decoder over bytes that are known: x0 and whether, and what, stands behind. -/
def dcd (b0 b1 b2 b3 : Nat) (k1 k2 k3 : Bool) : Nat × Nat :=
  if b0 < 128 then (b0, 1)
  else if (b0 / 32 == 6 && k1) = true then (if b0 % 32 * 64 + b1 % 64 ≥ 128 then (b0 % 32 * 64 + b1 % 64, 2) else (65533, 1))
  else if (b0 / 16 == 14 && k1 && k2) = true then (if (decide (b0 % 16 * 4096 + b1 % 64 * 64 + b2 % 64 ≥ 2048) && Utf8.valid ((b0 % 16 * 4096 + b1 % 64 * 64 + b2 % 64 : Nat) : Int)) = true then (b0 % 16 * 4096 + b1 % 64 * 64 + b2 % 64, 3) else (65533, 1))
  else if (b0 / 8 == 30 && k1 && k2 && k3) = true then (if (decide (b0 % 8 * 262144 + b1 % 64 * 4096 + b2 % 64 * 64 + b3 % 64 ≥ 65536) && Utf8.valid ((b0 % 8 * 262144 + b1 % 64 * 4096 + b2 % 64 * 64 + b3 % 64 : Nat) : Int)) = true then (b0 % 8 * 262144 + b1 % 64 * 4096 + b2 % 64 * 64 + b3 % 64, 4) else (65533, 1))
  else (65533, 1)
theorem decode_dcd (s : ByteArray) (i : Nat) : Utf8.decode s i = dcd (s.get! (i + 0)).toNat (s.get! (i + 1)).toNat (s.get! (i + 2)).toNat (s.get! (i + 3)).toNat
    (decide (i + 1 < s.size) && (s.get! (i + 1)).toNat / 64 == 2) (decide (i + 2 < s.size) && (s.get! (i + 2)).toNat / 64 == 2) (decide (i + 3 < s.size) && (s.get! (i + 3)).toNat / 64 == 2) := by
  rfl

def K (t : List UInt8) (k : Nat) : Bool := decide (k < t.length) && Sp.cont (t.getD k 0)
def Bt (t : List UInt8) (k : Nat) : Nat := (t.getD k 0).toNat
theorem more_1 (t : List UInt8) (c : Nat) : Sp.more 1 t c = if K t 0 = true then some (c * 64 + Bt t 0 % 64) else none := by
  cases t with
  | nil => rfl
  | cons x t => simp [Sp.more, K, Bt]
theorem more_2 (t : List UInt8) (c : Nat) : Sp.more 2 t c = if (K t 0 && K t 1) = true then some ((c * 64 + Bt t 0 % 64) * 64 + Bt t 1 % 64) else none := by
  cases t with
  | nil => rfl
  | cons x t =>
    show (if Sp.cont x then Sp.more 1 t (c * 64 + x.toNat % 64) else none) = _
    rw [more_1]
    by_cases h : Sp.cont x = true <;> simp [K, Bt, h]
theorem more_3 (t : List UInt8) (c : Nat) : Sp.more 3 t c = if (K t 0 && K t 1 && K t 2) = true then some (((c * 64 + Bt t 0 % 64) * 64 + Bt t 1 % 64) * 64 + Bt t 2 % 64) else none := by
  cases t with
  | nil => rfl
  | cons x t =>
    show (if Sp.cont x then Sp.more 2 t (c * 64 + x.toNat % 64) else none) = _
    rw [more_2]
    have e : ∀ k, K (x :: t) (k + 1) = K t k := fun k => by simp [K]
    have e0 : K (x :: t) 0 = Sp.cont x := by simp [K]
    have e1 : ∀ k, Bt (x :: t) (k + 1) = Bt t k := fun k => by simp [Bt]
    rw [show K (x :: t) 1 = K t 0 from e 0, show K (x :: t) 2 = K t 1 from e 1, e0, show Bt (x :: t) 1 = Bt t 0 from e1 0, show Bt (x :: t) 2 = Bt t 1 from e1 1, show Bt (x :: t) 0 = x.toNat from rfl]
    by_cases h : Sp.cont x = true
    · rw [h, if_pos rfl, Bool.true_and]
    · rw [Bool.eq_false_iff.2 h]; rfl
theorem judge_if (n c : Nat) (p : Prop) [Decidable p] (h : (Sp.isRune c = true ∧ Sp.width c = n) ↔ p) (hn : n ≠ 0) :
    (if p then (c, n) else (65533, 1)) = if (Sp.judge n (some c)).2 = 0 then (65533, 1) else Sp.judge n (some c) := by
  rw [judge_eq]
  by_cases hp : p
  · rw [if_pos hp, if_pos (h.2 hp), if_neg hn]
  · rw [if_neg hp, if_neg (fun x => hp (h.1 x)), if_pos rfl]
theorem dcd_dec (a : UInt8) (t : List UInt8) : dcd a.toNat (Bt t 0) (Bt t 1) (Bt t 2) (K t 0) (K t 1) (K t 2) = if (Sp.dec (a :: t)).2 = 0 then (65533, 1) else Sp.dec (a :: t) := by
  have ha := a.toNat_lt
  rw [Sp.dec_cons]
  generalize a.toNat = n at *
  have m64 : ∀ x, x % 64 < 64 := fun x => by omega
  have q0 := m64 (Bt t 0); have q1 := m64 (Bt t 1); have q2 := m64 (Bt t 2)
  unfold dcd Sp.lead
  by_cases h1 : n < 128
  · rw [if_pos h1]; simp only [if_pos h1, Nat.sub_self, Sp.more]
    have hr : Sp.isRune n = true := by simp [Sp.isRune]; omega
    have hw : Sp.width n = 1 := by unfold Sp.width; rw [if_pos h1]
    simp [judge_eq, hr, hw]
  rw [if_neg h1]; simp only [if_neg h1]
  by_cases h2 : n < 192
  · rw [if_neg (by simp; omega), if_neg (by simp; omega), if_neg (by simp; omega)]; simp [h2]
  simp only [if_neg h2]
  by_cases h3 : n < 224
  · simp only [if_pos h3, more_1, Nat.reduceSub, show ((2 : Nat) = 0) = False by simp, if_false]
    have e : (n / 32 == 6) = true := by simp; omega
    have e' : (n / 16 == 14) = false := by simp; omega
    have e'' : (n / 8 == 30) = false := by simp; omega
    rw [e, e', e'']
    cases hk : K t 0 with
    | false => simp [judge_none]
    | true =>
      rw [if_pos (by decide), if_pos rfl, show n % 32 * 64 = (n - 192) * 64 by omega]
      refine judge_if 2 _ _ ?_ (by decide)
      constructor
      · rintro ⟨_, h⟩; have := width_eq _ _ h; omega
      · intro h; exact ⟨by rw [Sp.isRune_iff]; omega, width_2 h (by omega)⟩
  simp only [if_neg h3]
  have e3 : (n / 32 == 6) = false := by simp; omega
  rw [e3, Bool.false_and, if_neg (by decide)]
  by_cases h4 : n < 240
  · simp only [if_pos h4, Nat.reduceSub, more_2, show ((3 : Nat) = 0) = False by simp, if_false]
    have e : (n / 16 == 14) = true := by simp; omega
    have e'' : (n / 8 == 30) = false := by simp; omega
    rw [e, e'', Bool.true_and]
    cases hk : (K t 0 && K t 1) with
    | false => simp [judge_none]
    | true =>
      rw [if_pos rfl, if_pos rfl, show n % 16 * 4096 + Bt t 0 % 64 * 64 + Bt t 1 % 64 = ((n - 224) * 64 + Bt t 0 % 64) * 64 + Bt t 1 % 64 by omega, valid_iff]
      refine judge_if 3 _ _ ?_ (by decide)
      rw [Bool.and_eq_true, decide_eq_true_eq]
      constructor
      · rintro ⟨h5, h⟩; have := width_eq _ _ h; exact ⟨by omega, h5⟩
      · rintro ⟨h5, h6⟩; exact ⟨h6, width_3 h5 (by omega)⟩
  simp only [if_neg h4]
  have e4 : (n / 16 == 14) = false := by simp; omega
  rw [e4, Bool.false_and, Bool.false_and, if_neg (by decide)]
  by_cases h5 : n < 248
  · simp only [if_pos h5, Nat.reduceSub, more_3, show ((4 : Nat) = 0) = False by simp, if_false]
    have e : (n / 8 == 30) = true := by simp; omega
    rw [e, Bool.true_and]
    cases hk : (K t 0 && K t 1 && K t 2) with
    | false => simp [judge_none]
    | true =>
      rw [if_pos rfl, if_pos rfl, show n % 8 * 262144 + Bt t 0 % 64 * 4096 + Bt t 1 % 64 * 64 + Bt t 2 % 64 = (((n - 240) * 64 + Bt t 0 % 64) * 64 + Bt t 1 % 64) * 64 + Bt t 2 % 64 by omega, valid_iff]
      refine judge_if 4 _ _ ?_ (by decide)
      rw [Bool.and_eq_true, decide_eq_true_eq]
      constructor
      · rintro ⟨h6, h⟩; have := width_eq _ _ h; exact ⟨by omega, h6⟩
      · rintro ⟨h6, h7⟩; exact ⟨h7, width_4 h6⟩
  simp only [if_neg h5]
  have e5 : (n / 8 == 30) = false := by simp; omega
  rw [e5]; simp
theorem get_out (s : ByteArray) (i : Nat) (h : ¬ i < s.size) : s.get! i = 0 := by
  have h' : s.data.size ≤ i := by show s.size ≤ i; omega
  show s.data[i]! = 0
  rw [getElem!_def, Array.getElem?_eq_none h']; rfl
/-- The model's range over a string. -/
theorem decode_dec (s : ByteArray) (pos : Nat) (h : pos < s.size) : Utf8.decode s pos = if (Sp.dec (s.data.toList.drop pos)).2 = 0 then (65533, 1) else Sp.dec (s.data.toList.drop pos) := by
  have hlt : pos < s.data.toList.length := by rw [Array.length_toList]; exact h
  have hd : s.data.toList.drop pos = s.data.toList[pos]'hlt :: s.data.toList.drop (pos + 1) := List.drop_eq_getElem_cons hlt
  have hl : (s.data.toList.drop (pos + 1)).length = s.size - (pos + 1) := len_drop s (pos + 1)
  have hB : ∀ k, (s.get! (pos + (k + 1))) = (s.data.toList.drop (pos + 1)).getD k 0 := by
    intro k
    by_cases hk : pos + 1 + k < s.size
    · rw [show pos + (k + 1) = pos + 1 + k by omega, get_drop s (pos + 1) k hk, List.getD_eq_getElem?_getD, List.getElem?_eq_getElem (by rw [hl]; omega)]; rfl
    · rw [get_out _ _ (by omega), List.getD_eq_getElem?_getD, List.getElem?_eq_none (by rw [hl]; omega)]; rfl
  have hK : ∀ k, (decide (pos + (k + 1) < s.size) && (s.get! (pos + (k + 1))).toNat / 64 == 2) = K (s.data.toList.drop (pos + 1)) k := by
    intro k
    rw [hB, cont_iff]; unfold K
    rw [hl]; congr 1; rw [Bool.eq_iff_iff]; simp only [decide_eq_true_eq]; omega
  have h0 : s.get! (pos + 0) = s.data.toList[pos]'hlt := by rw [get_drop s pos 0 (by omega)]; simp
  rw [decode_dcd, h0, hB 0, hB 1, hB 2, hd, ← dcd_dec]
  have k0 := hK 0; have k1 := hK 1; have k2 := hK 2
  rw [hB] at k0 k1 k2
  rw [k0, k1, k2]; rfl
end Go.Proofs.Ytgkjagfdlhcgjaa.UP
