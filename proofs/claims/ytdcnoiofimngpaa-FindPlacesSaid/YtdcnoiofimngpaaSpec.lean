import Derived.Laws.RangeAny
/- Plain words on rows of bytes: runes, their bytes, edges, counts. No program in sight. -/
namespace Go.Proofs.Ytdcnoiofimngpaa.Sp

/-- Does a byte go on? -/
def cont (b : UInt8) : Bool := decide (128 ≤ b.toNat) && decide (b.toNat < 192)
theorem cont_true {b : UInt8} (h : cont b = true) : 128 ≤ b.toNat ∧ b.toNat < 192 := by simpa [cont] using h
theorem cont_false {b : UInt8} (h : cont b = false) : b.toNat < 128 ∨ 192 ≤ b.toNat := by
  simp [cont] at h; omega
theorem cont_of {b : UInt8} (h1 : 128 ≤ b.toNat) (h2 : b.toNat < 192) : cont b = true := by simp [cont, h1, h2]
theorem cont_not {b : UInt8} (h : b.toNat < 128 ∨ 192 ≤ b.toNat) : cont b = false := by simp [cont]; omega
/-- How many bytes do not go on. -/
def runes : List UInt8 → Nat
  | [] => 0
  | b :: l => (if cont b then 0 else 1) + runes l
/-- How many line ends. -/
def lines : List UInt8 → Nat
  | [] => 0
  | b :: l => (if b.toNat = 10 then 1 else 0) + lines l
theorem runes_le (l : List UInt8) : runes l ≤ l.length := by
  induction l with
  | nil => simp [runes]
  | cons b l ih => simp only [runes, List.length_cons]; split <;> omega
theorem lines_le (l : List UInt8) : lines l ≤ l.length := by
  induction l with
  | nil => simp [lines]
  | cons b l ih => simp only [lines, List.length_cons]; split <;> omega
theorem runes_append (a b : List UInt8) : runes (a ++ b) = runes a + runes b := by
  induction a with
  | nil => simp [runes]
  | cons x l ih => simp only [List.cons_append, runes, ih]; omega
theorem lines_append (a b : List UInt8) : lines (a ++ b) = lines a + lines b := by
  induction a with
  | nil => simp [lines]
  | cons x l ih => simp only [List.cons_append, lines, ih]; omega
theorem runes_take (l : List UInt8) (k : Nat) (h : k < l.length) : runes (l.take (k + 1)) = runes (l.take k) + (if cont (l[k]'h) then 0 else 1) := by
  rw [List.take_succ_eq_append_getElem h, runes_append]; simp [runes]
theorem lines_take (l : List UInt8) (k : Nat) (h : k < l.length) : lines (l.take (k + 1)) = lines (l.take k) + (if (l[k]'h).toNat = 10 then 1 else 0) := by
  rw [List.take_succ_eq_append_getElem h, lines_append]; simp [lines]

/-! ### runes -/
def isRune (c : Nat) : Bool := decide (c < 55296) || (decide (57344 ≤ c) && decide (c ≤ 1114111))
def width (c : Nat) : Nat := if c < 128 then 1 else if c < 2048 then 2 else if c < 65536 then 3 else 4
/-- How many bytes a rune has that begins so (0: none does), and that byte's bits. -/
def lead (a : Nat) : Nat × Nat :=
  if a < 128 then (1, a) else if a < 192 then (0, 0) else if a < 224 then (2, a - 192) else if a < 240 then (3, a - 224) else if a < 248 then (4, a - 240) else (0, 0)
/-- So many bytes that go on, put behind a number. -/
def more : Nat → List UInt8 → Nat → Option Nat
  | 0, _, c => some c
  | _ + 1, [], _ => none
  | n + 1, b :: l, c => if cont b then more n l (c * 64 + b.toNat % 64) else none
/-- What is told of so many bytes that came to this number. -/
def judge (n : Nat) : Option Nat → Nat × Nat
  | none => (0, 0)
  | some c => if isRune c = true ∧ width c = n then (c, n) else (0, 0)
/-- The rune at the head, and how many bytes it has; (0, 0): none. -/
def dec : List UInt8 → Nat × Nat
  | [] => (0, 0)
  | a :: l => if (lead a.toNat).1 = 0 then (0, 0) else judge (lead a.toNat).1 (more ((lead a.toNat).1 - 1) l (lead a.toNat).2)
theorem dec_cons (a : UInt8) (l : List UInt8) : dec (a :: l) = if (lead a.toNat).1 = 0 then (0, 0) else judge (lead a.toNat).1 (more ((lead a.toNat).1 - 1) l (lead a.toNat).2) := rfl
/-- A rune's bytes. -/
def enc (c : Nat) : List UInt8 :=
  if isRune c = true then
    if c < 128 then [UInt8.ofNat c]
    else if c < 2048 then [UInt8.ofNat (192 + c / 64), UInt8.ofNat (128 + c % 64)]
    else if c < 65536 then [UInt8.ofNat (224 + c / 4096), UInt8.ofNat (128 + c / 64 % 64), UInt8.ofNat (128 + c % 64)]
    else [UInt8.ofNat (240 + c / 262144), UInt8.ofNat (128 + c / 4096 % 64), UInt8.ofNat (128 + c / 64 % 64), UInt8.ofNat (128 + c % 64)]
  else []

theorem isRune_le {c : Nat} (h : isRune c = true) : c ≤ 1114111 := by simp [isRune] at h; omega
theorem isRune_iff (c : Nat) : isRune c = true ↔ (c < 55296 ∨ (57344 ≤ c ∧ c ≤ 1114111)) := by simp [isRune]
theorem enc_length {c : Nat} (h : isRune c = true) : (enc c).length = width c := by
  unfold enc width; rw [if_pos h]; repeat' split
  all_goals rfl
theorem enc_none {c : Nat} (h : isRune c = false) : enc c = [] := by unfold enc; rw [if_neg (by simp [h])]
theorem width_pos (c : Nat) : 1 ≤ width c ∧ width c ≤ 4 := by unfold width; repeat' split
                                                              all_goals omega
theorem u8_ofNat {n : Nat} (h : n < 256) : (UInt8.ofNat n).toNat = n := by simp [UInt8.toNat_ofNat']; omega
theorem u8_eq {b : UInt8} {n : Nat} (h : b.toNat = n) : UInt8.ofNat n = b := by subst h; simp

/-- What stands behind a rune's bytes doesn't count. -/
theorem dec_enc {c : Nat} (h : isRune c = true) (t : List UInt8) : dec (enc c ++ t) = (c, width c) := by
  have hr := (isRune_iff c).1 h
  unfold enc width; rw [if_pos h]
  by_cases h1 : c < 128
  · simp only [if_pos h1, List.cons_append, List.nil_append, dec, u8_ofNat (show c < 256 by omega), lead]
    simp [more, judge, h, width, h1]
  · rw [if_neg h1, if_neg h1]
    by_cases h2 : c < 2048
    · have e0 : (UInt8.ofNat (192 + c / 64)).toNat = 192 + c / 64 := u8_ofNat (by omega)
      have e1 : (UInt8.ofNat (128 + c % 64)).toNat = 128 + c % 64 := u8_ofNat (by omega)
      have hl : lead (192 + c / 64) = (2, c / 64) := by unfold lead; rw [if_neg (by omega), if_neg (by omega), if_pos (by omega)]; simp
      have hc1 : cont (UInt8.ofNat (128 + c % 64)) = true := cont_of (by omega) (by omega)
      rw [if_pos h2, if_pos h2]
      generalize UInt8.ofNat (192 + c / 64) = b0 at *
      generalize UInt8.ofNat (128 + c % 64) = b1 at *
      have hs : c / 64 * 64 + b1.toNat % 64 = c := by omega
      simp [dec, e0, hl, more, hc1, hs, judge, h, width, h1, h2]
    · rw [if_neg h2, if_neg h2]
      by_cases h3 : c < 65536
      · have e0 : (UInt8.ofNat (224 + c / 4096)).toNat = 224 + c / 4096 := u8_ofNat (by omega)
        have e1 : (UInt8.ofNat (128 + c / 64 % 64)).toNat = 128 + c / 64 % 64 := u8_ofNat (by omega)
        have e2 : (UInt8.ofNat (128 + c % 64)).toNat = 128 + c % 64 := u8_ofNat (by omega)
        have hl : lead (224 + c / 4096) = (3, c / 4096) := by unfold lead; rw [if_neg (by omega), if_neg (by omega), if_neg (by omega), if_pos (by omega)]; simp
        have hc1 : cont (UInt8.ofNat (128 + c / 64 % 64)) = true := cont_of (by omega) (by omega)
        have hc2 : cont (UInt8.ofNat (128 + c % 64)) = true := cont_of (by omega) (by omega)
        rw [if_pos h3, if_pos h3]
        generalize UInt8.ofNat (224 + c / 4096) = b0 at *
        generalize UInt8.ofNat (128 + c / 64 % 64) = b1 at *
        generalize UInt8.ofNat (128 + c % 64) = b2 at *
        have hs : (c / 4096 * 64 + b1.toNat % 64) * 64 + b2.toNat % 64 = c := by omega
        simp [dec, e0, hl, more, hc1, hc2, hs, judge, h, width, h1, h2, h3]
      · have e0 : (UInt8.ofNat (240 + c / 262144)).toNat = 240 + c / 262144 := u8_ofNat (by omega)
        have e1 : (UInt8.ofNat (128 + c / 4096 % 64)).toNat = 128 + c / 4096 % 64 := u8_ofNat (by omega)
        have e2 : (UInt8.ofNat (128 + c / 64 % 64)).toNat = 128 + c / 64 % 64 := u8_ofNat (by omega)
        have e3 : (UInt8.ofNat (128 + c % 64)).toNat = 128 + c % 64 := u8_ofNat (by omega)
        have hl : lead (240 + c / 262144) = (4, c / 262144) := by unfold lead; rw [if_neg (by omega), if_neg (by omega), if_neg (by omega), if_neg (by omega), if_pos (by omega)]; simp
        have hc1 : cont (UInt8.ofNat (128 + c / 4096 % 64)) = true := cont_of (by omega) (by omega)
        have hc2 : cont (UInt8.ofNat (128 + c / 64 % 64)) = true := cont_of (by omega) (by omega)
        have hc3 : cont (UInt8.ofNat (128 + c % 64)) = true := cont_of (by omega) (by omega)
        rw [if_neg h3, if_neg h3]
        generalize UInt8.ofNat (240 + c / 262144) = b0 at *
        generalize UInt8.ofNat (128 + c / 4096 % 64) = b1 at *
        generalize UInt8.ofNat (128 + c / 64 % 64) = b2 at *
        generalize UInt8.ofNat (128 + c % 64) = b3 at *
        have hs : ((c / 262144 * 64 + b1.toNat % 64) * 64 + b2.toNat % 64) * 64 + b3.toNat % 64 = c := by omega
        simp [dec, e0, hl, more, hc1, hc2, hc3, hs, judge, h, width, h1, h2, h3]

theorem judge_some {n : Nat} {o : Option Nat} (h : (judge n o).2 ≠ 0) : ∃ c, o = some c ∧ isRune c = true ∧ width c = n ∧ judge n o = (c, n) := by
  cases o with
  | none => exact absurd rfl h
  | some c =>
    by_cases hc : isRune c = true ∧ width c = n
    · exact ⟨c, rfl, hc.1, hc.2, by simp [judge, hc]⟩
    · simp [judge, hc] at h
theorem more_succ {n : Nat} {l : List UInt8} {c r : Nat} (h : more (n + 1) l c = some r) : ∃ b t, l = b :: t ∧ 128 ≤ b.toNat ∧ b.toNat < 192 ∧ more n t (c * 64 + b.toNat % 64) = some r := by
  cases l with
  | nil => cases h
  | cons b t =>
    by_cases hb : cont b = true
    · rw [more, if_pos hb] at h; exact ⟨b, t, rfl, (cont_true hb).1, (cont_true hb).2, h⟩
    · rw [more, if_neg hb] at h; cases h
/-- A rune that stands there has just its bytes. -/
theorem dec_some {l : List UInt8} (h : (dec l).2 ≠ 0) : ∃ t, isRune (dec l).1 = true ∧ (dec l).2 = width (dec l).1 ∧ l = enc (dec l).1 ++ t := by
  cases l with
  | nil => exact absurd rfl h
  | cons a l =>
    have ha := a.toNat_lt
    rw [dec_cons] at h ⊢
    by_cases h0 : (lead a.toNat).1 = 0
    · rw [if_pos h0] at h; exact absurd rfl h
    rw [if_neg h0] at h ⊢
    obtain ⟨c, ho, hr, hw, hj⟩ := judge_some h
    rw [hj]
    have hcr := (isRune_iff c).1 hr
    simp only [hr, true_and]
    refine ⟨l.drop ((lead a.toNat).1 - 1), hw.symm, ?_⟩
    unfold lead at ho hw h0 ⊢
    by_cases h1 : a.toNat < 128
    · rw [if_pos h1] at ho hw ⊢
      simp [more] at ho
      subst ho
      unfold enc; rw [if_pos hr, if_pos h1]; simp
    · rw [if_neg h1] at ho hw h0 ⊢
      by_cases h2 : a.toNat < 192
      · rw [if_pos h2] at h0; exact absurd rfl h0
      rw [if_neg h2] at ho hw h0 ⊢
      by_cases h3 : a.toNat < 224
      · rw [if_pos h3] at ho hw ⊢
        obtain ⟨b, t, rfl, hb1, hb2, ho⟩ := more_succ (show more (0 + 1) _ _ = _ from ho)
        simp only [more, Option.some.injEq] at ho
        unfold width at hw
        have hc1 : ¬ c < 128 := by intro hx; rw [if_pos hx] at hw; cases hw
        rw [if_neg hc1] at hw
        have hc2 : c < 2048 := by apply Classical.byContradiction; intro hx; rw [if_neg hx] at hw; split at hw <;> cases hw
        unfold enc; rw [if_pos hr, if_neg hc1, if_pos hc2]
        rw [u8_eq (b := a) (n := 192 + c / 64) (by omega), u8_eq (b := b) (n := 128 + c % 64) (by omega)]; simp
      · rw [if_neg h3] at ho hw h0 ⊢
        by_cases h4 : a.toNat < 240
        · rw [if_pos h4] at ho hw ⊢
          obtain ⟨b, t, rfl, hb1, hb2, ho⟩ := more_succ (show more (1 + 1) _ _ = _ from ho)
          obtain ⟨b', t, rfl, hb3, hb4, ho⟩ := more_succ (show more (0 + 1) _ _ = _ from ho)
          simp only [more, Option.some.injEq] at ho
          unfold width at hw
          have hc1 : ¬ c < 128 := by intro hx; rw [if_pos hx] at hw; cases hw
          rw [if_neg hc1] at hw
          have hc2 : ¬ c < 2048 := by intro hx; rw [if_pos hx] at hw; cases hw
          rw [if_neg hc2] at hw
          have hc3 : c < 65536 := by apply Classical.byContradiction; intro hx; rw [if_neg hx] at hw; cases hw
          unfold enc; rw [if_pos hr, if_neg hc1, if_neg hc2, if_pos hc3]
          rw [u8_eq (b := a) (n := 224 + c / 4096) (by omega), u8_eq (b := b) (n := 128 + c / 64 % 64) (by omega), u8_eq (b := b') (n := 128 + c % 64) (by omega)]; simp
        · rw [if_neg h4] at ho hw h0 ⊢
          by_cases h5 : a.toNat < 248
          · rw [if_pos h5] at ho hw ⊢
            obtain ⟨b, t, rfl, hb1, hb2, ho⟩ := more_succ (show more (2 + 1) _ _ = _ from ho)
            obtain ⟨b', t, rfl, hb3, hb4, ho⟩ := more_succ (show more (1 + 1) _ _ = _ from ho)
            obtain ⟨b'', t, rfl, hb5, hb6, ho⟩ := more_succ (show more (0 + 1) _ _ = _ from ho)
            simp only [more, Option.some.injEq] at ho
            unfold width at hw
            have hc1 : ¬ c < 128 := by intro hx; rw [if_pos hx] at hw; cases hw
            rw [if_neg hc1] at hw
            have hc2 : ¬ c < 2048 := by intro hx; rw [if_pos hx] at hw; cases hw
            rw [if_neg hc2] at hw
            have hc3 : ¬ c < 65536 := by intro hx; rw [if_pos hx] at hw; cases hw
            unfold enc; rw [if_pos hr, if_neg hc1, if_neg hc2, if_neg hc3]
            rw [u8_eq (b := a) (n := 240 + c / 262144) (by omega), u8_eq (b := b) (n := 128 + c / 4096 % 64) (by omega), u8_eq (b := b') (n := 128 + c / 64 % 64) (by omega), u8_eq (b := b'') (n := 128 + c % 64) (by omega)]; simp
          · rw [if_neg h5] at h0; exact absurd rfl h0
/-- Nothing, or a rune. -/
theorem dec_zero {l : List UInt8} (h : (dec l).2 = 0) : dec l = (0, 0) := by
  cases l with
  | nil => rfl
  | cons a l =>
    rw [dec_cons] at h ⊢
    by_cases h0 : (lead a.toNat).1 = 0
    · rw [if_pos h0]
    · rw [if_neg h0] at h ⊢
      unfold judge at h ⊢
      split
      · rfl
      · rename_i c _ heq
        rw [heq] at h
        simp only at h
        split
        · rename_i hc; rw [if_pos hc] at h; exact absurd h h0
        · rfl
theorem dec_le {l : List UInt8} : (dec l).2 ≤ l.length := by
  by_cases h : (dec l).2 = 0
  · omega
  · obtain ⟨t, hr, hw, hl⟩ := dec_some h
    have : l.length = width (dec l).1 + t.length := by
      calc l.length = (enc (dec l).1 ++ t).length := by rw [← hl]
        _ = _ := by rw [List.length_append, enc_length hr]
    omega
theorem enc_ne {c : Nat} (h : isRune c = true) : enc c ≠ [] := by
  intro h'; have := enc_length h; rw [h'] at this; have := width_pos c; simp at *; omega

/-- The rune at a place. -/
def take (l : List UInt8) (i : Int) : Nat × Nat := if 0 ≤ i ∧ i < l.length then dec (l.drop i.toNat) else (0, 0)
/-- The first place at which no rune stands, from a place on. -/
def badF : Nat → List UInt8 → Nat → Option Nat
  | 0, _, _ => none
  | f + 1, l, i => if l = [] then none else if (dec l).2 = 0 then some i else badF f (l.drop (dec l).2) (i + (dec l).2)
theorem badF_succ (f : Nat) (l : List UInt8) (i : Nat) : badF (f + 1) l i = if l = [] then none else if (dec l).2 = 0 then some i else badF f (l.drop (dec l).2) (i + (dec l).2) := rfl
def bad (l : List UInt8) : Option Nat := badF l.length l 0
def badI (l : List UInt8) : Int := match bad l with | none => -1 | some n => n
def valid (l : List UInt8) : Bool := (bad l).isNone
theorem badI_neg (l : List UInt8) : decide (badI l < 0) = valid l := by
  unfold badI valid
  cases bad l with
  | none => rfl
  | some n => simp
/-- More rounds than bytes change nothing. -/
theorem badF_more : ∀ (f : Nat) (l : List UInt8) (i : Nat), l.length ≤ f → badF (f + 1) l i = badF f l i
  | 0, l, i, h => by
    have : l = [] := List.length_eq_zero_iff.1 (by omega)
    simp [badF, this]
  | f + 1, l, i, h => by
    rw [badF_succ (f + 1) l i, badF_succ f l i]
    split
    · rfl
    · split
      · rfl
      · rename_i h1 h2
        refine badF_more f _ _ ?_
        rw [List.length_drop]; omega
theorem badF_any (f : Nat) (l : List UInt8) (i : Nat) (h : l.length ≤ f) : badF f l i = badF l.length l i := by
  obtain ⟨d, rfl⟩ : ∃ d, f = l.length + d := ⟨f - l.length, by omega⟩
  induction d with
  | zero => rfl
  | succ d ih => rw [← Nat.add_assoc, badF_more _ _ _ (by omega)]; exact ih (by omega)
/-- One step. -/
theorem badF_step (l : List UInt8) (i : Nat) (h : l ≠ []) : badF l.length l i = if (dec l).2 = 0 then some i else badF (l.drop (dec l).2).length (l.drop (dec l).2) (i + (dec l).2) := by
  obtain ⟨n, hn⟩ : ∃ n, l.length = n + 1 := ⟨l.length - 1, by have := List.length_pos_iff.2 h; omega⟩
  rw [hn, badF_succ, if_neg h]
  split
  · rfl
  · rename_i h1
    refine badF_any n _ _ ?_
    rw [List.length_drop]; omega
theorem badF_nil (i : Nat) : badF ([] : List UInt8).length [] i = none := rfl

/-- Is a place an edge? -/
def edge (l : List UInt8) (i : Int) : Bool := decide (0 ≤ i) && decide (i ≤ l.length) && (decide (i = 0) || decide (i = l.length) || !cont (l.getD i.toNat 0))
/-- The greatest edge up to a place. -/
def backN (l : List UInt8) : Nat → Nat
  | 0 => 0
  | k + 1 => if edge l (k + 1 : Nat) then k + 1 else backN l k
def back (l : List UInt8) (i : Int) : Nat := if i ≥ l.length then l.length else backN l i.toNat

/-- A whole number's bytes, if it is a rune. -/
def encI (c : Int) : List UInt8 := if 0 ≤ c then enc c.toNat else []
/-- What bytes would be as a rune, less what marks the first one; -1: they can't. -/
def numT : List UInt8 → Nat → Nat
  | [], c => c
  | b :: l, c => numT l (64 * c + b.toNat % 64)
def mark (n : Nat) : Nat := if n = 1 then 0 else if n = 2 then 192 else if n = 3 then 224 else 240
def num : List UInt8 → Int
  | [] => 0
  | a :: l => if a.toNat < mark (l.length + 1) then -1 else numT l (a.toNat - mark (l.length + 1))
theorem num_enc {c : Nat} (h : isRune c = true) : num (enc c) = c := by
  have hr := (isRune_iff c).1 h
  unfold enc; rw [if_pos h]
  by_cases h1 : c < 128
  · rw [if_pos h1]
    have e0 : (UInt8.ofNat c).toNat = c := u8_ofNat (by omega)
    generalize UInt8.ofNat c = b0 at *
    simp [num, numT, mark, e0]
  rw [if_neg h1]
  by_cases h2 : c < 2048
  · rw [if_pos h2]
    have e0 : (UInt8.ofNat (192 + c / 64)).toNat = 192 + c / 64 := u8_ofNat (by omega)
    have e1 : (UInt8.ofNat (128 + c % 64)).toNat = 128 + c % 64 := u8_ofNat (by omega)
    generalize UInt8.ofNat (192 + c / 64) = b0 at *
    generalize UInt8.ofNat (128 + c % 64) = b1 at *
    simp only [num, numT, mark, List.length_cons, List.length_nil]
    simp only [Nat.zero_add, Nat.reduceAdd, Nat.reduceEqDiff, if_false, if_true]
    rw [if_neg (by omega)]; omega
  rw [if_neg h2]
  by_cases h3 : c < 65536
  · rw [if_pos h3]
    have e0 : (UInt8.ofNat (224 + c / 4096)).toNat = 224 + c / 4096 := u8_ofNat (by omega)
    have e1 : (UInt8.ofNat (128 + c / 64 % 64)).toNat = 128 + c / 64 % 64 := u8_ofNat (by omega)
    have e2 : (UInt8.ofNat (128 + c % 64)).toNat = 128 + c % 64 := u8_ofNat (by omega)
    generalize UInt8.ofNat (224 + c / 4096) = b0 at *
    generalize UInt8.ofNat (128 + c / 64 % 64) = b1 at *
    generalize UInt8.ofNat (128 + c % 64) = b2 at *
    simp only [num, numT, mark, List.length_cons, List.length_nil]
    simp only [Nat.zero_add, Nat.reduceAdd, Nat.reduceEqDiff, if_false, if_true]
    rw [if_neg (by omega)]; omega
  rw [if_neg h3]
  have e0 : (UInt8.ofNat (240 + c / 262144)).toNat = 240 + c / 262144 := u8_ofNat (by omega)
  have e1 : (UInt8.ofNat (128 + c / 4096 % 64)).toNat = 128 + c / 4096 % 64 := u8_ofNat (by omega)
  have e2 : (UInt8.ofNat (128 + c / 64 % 64)).toNat = 128 + c / 64 % 64 := u8_ofNat (by omega)
  have e3 : (UInt8.ofNat (128 + c % 64)).toNat = 128 + c % 64 := u8_ofNat (by omega)
  generalize UInt8.ofNat (240 + c / 262144) = b0 at *
  generalize UInt8.ofNat (128 + c / 4096 % 64) = b1 at *
  generalize UInt8.ofNat (128 + c / 64 % 64) = b2 at *
  generalize UInt8.ofNat (128 + c % 64) = b3 at *
  simp only [num, numT, mark, List.length_cons, List.length_nil]
  simp only [Nat.zero_add, Nat.reduceAdd, Nat.reduceEqDiff, if_false]
  rw [if_neg (by omega)]; omega
/-- Just the bytes of the rune that stands there come to a number that has these bytes. -/
theorem num_dec (d : List UInt8) (m : Nat) (hm : 1 ≤ m) (hd : m ≤ d.length) (h : encI (num (d.take m)) = d.take m) : (dec d).2 = m ∧ ((dec d).1 : Int) = num (d.take m) := by
  have hne : d.take m ≠ [] := by intro h'; have := congrArg List.length h'; rw [List.length_take, List.length_nil] at this; omega
  unfold encI at h
  by_cases h0 : 0 ≤ num (d.take m)
  · rw [if_pos h0] at h
    obtain ⟨c, hc⟩ := Int.eq_ofNat_of_zero_le h0
    rw [hc] at h ⊢
    simp only [Int.toNat_natCast] at h
    by_cases hr : isRune c = true
    · have e : d = enc c ++ d.drop m := by rw [h, List.take_append_drop]
      have e2 := dec_enc hr (d.drop m)
      rw [← e] at e2
      have e3 := enc_length hr
      rw [h, List.length_take] at e3
      rw [e2]
      exact ⟨by simp only; omega, rfl⟩
    · rw [enc_none (by simpa using hr)] at h
      exact absurd h.symm hne
  · rw [if_neg h0] at h
    exact absurd h.symm hne
theorem dec_num (d : List UInt8) (h : (dec d).2 ≠ 0) : num (d.take (dec d).2) = ((dec d).1 : Int) ∧ encI (num (d.take (dec d).2)) = d.take (dec d).2 ∧ (dec d).2 ≤ 4 := by
  obtain ⟨t, hr, hw, hl⟩ := dec_some h
  have e : d.take (dec d).2 = enc (dec d).1 := by
    have hl2 : (enc (dec d).1).length = (dec d).2 := by rw [enc_length hr, hw]
    have : d.take (enc (dec d).1).length = (enc (dec d).1 ++ t).take (enc (dec d).1).length := by rw [← hl]
    rw [hl2, ← hl2, List.take_left, hl2] at this
    exact this
  rw [e, num_enc hr]
  refine ⟨rfl, by simp [encI], ?_⟩
  have := (width_pos (dec d).1).2; omega
end Go.Proofs.Ytdcnoiofimngpaa.Sp
/- Valid texts, plainly: put together, cut at edges. -/
namespace Go.Proofs.Ytdcnoiofimngpaa.Sp

theorem badF_shift : ∀ (f : Nat) (l : List UInt8) (i j : Nat), (badF f l i).isNone = (badF f l j).isNone
  | 0, _, _, _ => rfl
  | f + 1, l, i, j => by
    rw [badF_succ, badF_succ]
    split
    · rfl
    · split
      · rfl
      · exact badF_shift f _ _ _
theorem valid_nil : valid [] = true := rfl
theorem valid_step (l : List UInt8) (h : l ≠ []) : valid l = (decide ((dec l).2 ≠ 0) && valid (l.drop (dec l).2)) := by
  unfold valid bad
  rw [badF_step l 0 h]
  by_cases h0 : (dec l).2 = 0
  · simp [h0]
  · rw [if_neg h0]; simp only [h0, ne_eq, not_false_eq_true, decide_true, Bool.true_and]
    exact badF_shift _ _ _ _
theorem dec_append {a : List UInt8} (h : (dec a).2 ≠ 0) (b : List UInt8) : dec (a ++ b) = dec a := by
  obtain ⟨t, hr, hw, hl⟩ := dec_some h
  have e : a ++ b = enc (dec a).1 ++ (t ++ b) := by rw [← List.append_assoc, ← hl]
  rw [e, dec_enc hr, ← hw]
theorem valid_append : ∀ (n : Nat) (a b : List UInt8), a.length ≤ n → valid a = true → valid (a ++ b) = valid b
  | n, [], b, _, _ => rfl
  | 0, x :: a, b, h, _ => by simp at h
  | n + 1, x :: a, b, h, hv => by
    have hne : x :: a ≠ [] := List.cons_ne_nil _ _
    rw [valid_step _ hne, Bool.and_eq_true, decide_eq_true_eq] at hv
    have hle := @dec_le (x :: a)
    rw [valid_step _ (by simp : x :: a ++ b ≠ []), dec_append hv.1, List.drop_append_of_le_length hle]
    simp only [hv.1, ne_eq, not_false_eq_true, decide_true, Bool.true_and]
    refine valid_append n _ b ?_ hv.2
    rw [List.length_drop]; simp at h ⊢; omega
theorem valid_app {a b : List UInt8} (h : valid a = true) : valid (a ++ b) = valid b := valid_append a.length a b (Nat.le_refl _) h

theorem cont_ofNat {n : Nat} (h : n < 64) : cont (UInt8.ofNat (128 + n)) = true := by
  have := u8_ofNat (show 128 + n < 256 by omega)
  exact cont_of (by omega) (by omega)
/-- A rune's bytes: the first one begins it, the others go on. -/
theorem enc_cont {c : Nat} (h : isRune c = true) : ∃ x t, enc c = x :: t ∧ cont x = false ∧ ∀ y ∈ t, cont y = true := by
  have hr := (isRune_iff c).1 h
  unfold enc; rw [if_pos h]
  by_cases h1 : c < 128
  · rw [if_pos h1]; exact ⟨_, [], rfl, cont_not (.inl (by rw [u8_ofNat (by omega)]; omega)), fun y hy => by cases hy⟩
  rw [if_neg h1]
  by_cases h2 : c < 2048
  · rw [if_pos h2]; refine ⟨_, _, rfl, cont_not (.inr (by rw [u8_ofNat (by omega)]; omega)), fun y hy => ?_⟩
    simp only [List.mem_cons, List.not_mem_nil, or_false] at hy
    subst hy; exact cont_ofNat (by omega)
  rw [if_neg h2]
  by_cases h3 : c < 65536
  · rw [if_pos h3]; refine ⟨_, _, rfl, cont_not (.inr (by rw [u8_ofNat (by omega)]; omega)), fun y hy => ?_⟩
    simp only [List.mem_cons, List.not_mem_nil, or_false] at hy
    rcases hy with rfl | rfl <;> exact cont_ofNat (by omega)
  · rw [if_neg h3]; refine ⟨_, _, rfl, cont_not (.inr (by rw [u8_ofNat (by omega)]; omega)), fun y hy => ?_⟩
    simp only [List.mem_cons, List.not_mem_nil, or_false] at hy
    rcases hy with rfl | rfl | rfl <;> exact cont_ofNat (by omega)
theorem enc_at {c : Nat} (h : isRune c = true) (j : Nat) (hj : j < (enc c).length) : cont ((enc c)[j]'hj) = decide (0 < j) := by
  obtain ⟨x, t, he, hx, ht⟩ := enc_cont h
  cases j with
  | zero => simp only [he]; simpa using hx
  | succ j =>
    simp only [he, List.getElem_cons_succ]
    rw [ht _ (List.getElem_mem _)]; simp
/-- What stands ahead of a byte that begins something is valid, if all is. -/
theorem valid_front : ∀ (n : Nat) (a : List UInt8) (x : UInt8) (t : List UInt8), a.length ≤ n → cont x = false → valid (a ++ x :: t) = true → valid a = true
  | n, [], x, t, _, _, _ => rfl
  | 0, y :: a, x, t, h, _, _ => by simp at h
  | n + 1, y :: a, x, t, h, hx, hv => by
    have hne : y :: a ++ x :: t ≠ [] := by simp
    rw [valid_step _ hne, Bool.and_eq_true, decide_eq_true_eq] at hv
    obtain ⟨r, hr, hw, hl⟩ := dec_some hv.1
    generalize hD : dec (y :: a ++ x :: t) = D at *
    obtain ⟨c, m⟩ := D
    simp only at hr hw hl hv
    have hlen := enc_length hr
    have hm : m ≤ (y :: a).length := by
      apply Classical.byContradiction; intro hc
      have hj : (y :: a).length < (enc c).length := by omega
      have e1 : (y :: a ++ x :: t)[(y :: a).length]? = some x := by
        rw [List.getElem?_append_right (Nat.le_refl _)]; simp
      rw [hl, List.getElem?_append_left hj, List.getElem?_eq_getElem hj] at e1
      have e2 := enc_at hr _ hj
      rw [Option.some.inj e1, hx] at e2
      simp at e2
    have hda : dec (y :: a) = (c, m) := by
      have e : y :: a = enc c ++ (y :: a).drop m := by
        have e1 : (y :: a).take m = enc c := by
          have := congrArg (List.take m) hl
          rw [List.take_append_of_le_length hm, List.take_append_of_le_length (by omega), List.take_of_length_le (by omega : (enc c).length ≤ m)] at this
          exact this
        rw [← e1, List.take_append_drop]
      rw [e, dec_enc hr, hw]
    rw [valid_step _ (List.cons_ne_nil _ _), hda]
    have h1 : 1 ≤ m := by have := width_pos c; omega
    have h2 : m ≠ 0 := by omega
    simp only [ne_eq, h2, not_false_eq_true, decide_true, Bool.true_and]
    have hv2 := hv.2
    rw [List.drop_append_of_le_length hm] at hv2
    refine valid_front n _ x t ?_ hx hv2
    rw [List.length_drop]; simp at h ⊢; omega
theorem valid_cut (l : List UInt8) (k : Nat) (hk : k ≤ l.length) (he : edge l k = true) (hv : valid l = true) : valid (l.take k) = true ∧ valid (l.drop k) = true := by
  have h1 : valid (l.take k) = true := by
    by_cases h0 : k = l.length
    · rw [h0, List.take_length]; exact hv
    · by_cases h00 : k = 0
      · rw [h00]; rfl
      · have hlt : k < l.length := by omega
        have hc : cont (l[k]'hlt) = false := by
          unfold edge at he
          simp only [Bool.and_eq_true, Bool.or_eq_true, decide_eq_true_eq, Int.toNat_natCast, Bool.not_eq_true'] at he
          rcases he.2 with (h | h) | h
          · omega
          · omega
          · rw [List.getD_eq_getElem?_getD, List.getElem?_eq_getElem hlt] at h; exact h
        have e : l = l.take k ++ l[k]'hlt :: l.drop (k + 1) := by rw [← List.drop_eq_getElem_cons hlt, List.take_append_drop]
        rw [e] at hv
        exact valid_front _ _ _ _ (Nat.le_refl _) hc hv
  refine ⟨h1, ?_⟩
  rw [← List.take_append_drop k l, valid_app h1] at hv
  exact hv
theorem valid_32 (b : List UInt8) : valid (32 :: b) = valid b := by
  rw [valid_step _ (List.cons_ne_nil _ _)]
  have : dec (32 :: b) = (32, 1) := dec_enc (c := 32) (by decide) b
  rw [this]; simp
/-- With a blank between, a text that isn't valid stays so. -/
theorem valid_gap (a b : List UInt8) (h : ¬ (valid a = true ∧ valid b = true)) : valid (a ++ 32 :: b) = false := by
  apply Bool.eq_false_iff.2; intro hv
  have ha := valid_front _ a 32 b (Nat.le_refl _) (by decide) hv
  rw [valid_app ha, valid_32] at hv
  exact h ⟨ha, hv⟩
end Go.Proofs.Ytdcnoiofimngpaa.Sp
/- What the model's range over a string tells at a place: the rune that stands there, or that there is none. -/
namespace Go.Proofs.Ytdcnoiofimngpaa.UP
open Go

theorem get_drop (s : ByteArray) (pos k : Nat) (h : pos + k < s.size) : (s.get! (pos + k)) = (s.data.toList.drop pos)[k]'(by rw [List.length_drop, Array.length_toList]; show _ < s.size - pos; omega) := by
  have e : s.get! (pos + k) = s[pos + k]'h := by
    show s.get! (pos + k) = _
    simp [ByteArray.get!, getElem!_pos, h]
    rfl
  rw [e]; simp; rfl
theorem len_drop (s : ByteArray) (pos : Nat) : (s.data.toList.drop pos).length = s.size - pos := by rw [List.length_drop, Array.length_toList]; rfl

theorem cont_iff (b : UInt8) : (b.toNat / 64 == 2) = Sp.cont b := by
  rw [Bool.eq_iff_iff]; simp [Sp.cont]; omega
theorem valid_iff (c : Nat) : Utf8.valid (c : Int) = Sp.isRune c := by
  rw [Bool.eq_iff_iff]; simp [Utf8.valid, Sp.isRune]; omega
theorem judge_eq (n c : Nat) : Sp.judge n (some c) = if Sp.isRune c = true ∧ Sp.width c = n then (c, n) else (0, 0) := rfl
theorem judge_none (n : Nat) : Sp.judge n none = (0, 0) := rfl
theorem width_eq (c n : Nat) (l : Sp.width c = n) : (n = 1 ∧ c < 128) ∨ (n = 2 ∧ 128 ≤ c ∧ c < 2048) ∨ (n = 3 ∧ 2048 ≤ c ∧ c < 65536) ∨ (n = 4 ∧ 65536 ≤ c) := by
  unfold Sp.width at l; repeat' split at l
  all_goals omega
theorem width_2 {c : Nat} (h1 : 128 ≤ c) (h2 : c < 2048) : Sp.width c = 2 := by unfold Sp.width; rw [if_neg (by omega), if_pos h2]
theorem width_3 {c : Nat} (h1 : 2048 ≤ c) (h2 : c < 65536) : Sp.width c = 3 := by unfold Sp.width; rw [if_neg (by omega), if_neg (by omega), if_pos h2]
theorem width_4 {c : Nat} (h1 : 65536 ≤ c) : Sp.width c = 4 := by unfold Sp.width; rw [if_neg (by omega), if_neg (by omega), if_neg (by omega)]

/-- The model's decoder over bytes that are known: x0 and whether, and what, stands behind. -/
def dcd (b0 b1 b2 b3 : Nat) (k1 k2 k3 : Bool) : Nat × Nat :=
  if b0 < 128 then (b0, 1)
  else if (b0 / 32 == 6 && k1) = true then (if b0 % 32 * 64 + b1 % 64 ≥ 128 then (b0 % 32 * 64 + b1 % 64, 2) else (65533, 1))
  else if (b0 / 16 == 14 && k1 && k2) = true then (if (decide (b0 % 16 * 4096 + b1 % 64 * 64 + b2 % 64 ≥ 2048) && Utf8.valid ((b0 % 16 * 4096 + b1 % 64 * 64 + b2 % 64 : Nat) : Int)) = true then (b0 % 16 * 4096 + b1 % 64 * 64 + b2 % 64, 3) else (65533, 1))
  else if (b0 / 8 == 30 && k1 && k2 && k3) = true then (if (decide (b0 % 8 * 262144 + b1 % 64 * 4096 + b2 % 64 * 64 + b3 % 64 ≥ 65536) && Utf8.valid ((b0 % 8 * 262144 + b1 % 64 * 4096 + b2 % 64 * 64 + b3 % 64 : Nat) : Int)) = true then (b0 % 8 * 262144 + b1 % 64 * 4096 + b2 % 64 * 64 + b3 % 64, 4) else (65533, 1))
  else (65533, 1)
theorem decode_dcd (s : ByteArray) (i : Nat) : Utf8.decode s i = dcd (s.get! (i + 0)).toNat (s.get! (i + 1)).toNat (s.get! (i + 2)).toNat (s.get! (i + 3)).toNat
    (decide (i + 1 < s.size) && (s.get! (i + 1)).toNat / 64 == 2) (decide (i + 2 < s.size) && (s.get! (i + 2)).toNat / 64 == 2) (decide (i + 3 < s.size) && (s.get! (i + 3)).toNat / 64 == 2) := by
  rfl

def K (t : List UInt8) (k : Nat) : Bool := decide (k < t.length) && Sp.cont (t.getD k 0)
def Bt (t : List UInt8) (k : Nat) : Nat := (t.getD k 0).toNat
theorem more_1 (t : List UInt8) (c : Nat) : Sp.more 1 t c = if K t 0 = true then some (c * 64 + Bt t 0 % 64) else none := by
  cases t with
  | nil => rfl
  | cons x t => simp [Sp.more, K, Bt]
theorem more_2 (t : List UInt8) (c : Nat) : Sp.more 2 t c = if (K t 0 && K t 1) = true then some ((c * 64 + Bt t 0 % 64) * 64 + Bt t 1 % 64) else none := by
  cases t with
  | nil => rfl
  | cons x t =>
    show (if Sp.cont x then Sp.more 1 t (c * 64 + x.toNat % 64) else none) = _
    rw [more_1]
    by_cases h : Sp.cont x = true <;> simp [K, Bt, h]
theorem more_3 (t : List UInt8) (c : Nat) : Sp.more 3 t c = if (K t 0 && K t 1 && K t 2) = true then some (((c * 64 + Bt t 0 % 64) * 64 + Bt t 1 % 64) * 64 + Bt t 2 % 64) else none := by
  cases t with
  | nil => rfl
  | cons x t =>
    show (if Sp.cont x then Sp.more 2 t (c * 64 + x.toNat % 64) else none) = _
    rw [more_2]
    have e : ∀ k, K (x :: t) (k + 1) = K t k := fun k => by simp [K]
    have e0 : K (x :: t) 0 = Sp.cont x := by simp [K]
    have e1 : ∀ k, Bt (x :: t) (k + 1) = Bt t k := fun k => by simp [Bt]
    rw [show K (x :: t) 1 = K t 0 from e 0, show K (x :: t) 2 = K t 1 from e 1, e0, show Bt (x :: t) 1 = Bt t 0 from e1 0, show Bt (x :: t) 2 = Bt t 1 from e1 1, show Bt (x :: t) 0 = x.toNat from rfl]
    by_cases h : Sp.cont x = true
    · rw [h, if_pos rfl, Bool.true_and]
    · rw [Bool.eq_false_iff.2 h]; rfl
theorem judge_if (n c : Nat) (p : Prop) [Decidable p] (h : (Sp.isRune c = true ∧ Sp.width c = n) ↔ p) (hn : n ≠ 0) :
    (if p then (c, n) else (65533, 1)) = if (Sp.judge n (some c)).2 = 0 then (65533, 1) else Sp.judge n (some c) := by
  rw [judge_eq]
  by_cases hp : p
  · rw [if_pos hp, if_pos (h.2 hp), if_neg hn]
  · rw [if_neg hp, if_neg (fun x => hp (h.1 x)), if_pos rfl]
theorem dcd_dec (a : UInt8) (t : List UInt8) : dcd a.toNat (Bt t 0) (Bt t 1) (Bt t 2) (K t 0) (K t 1) (K t 2) = if (Sp.dec (a :: t)).2 = 0 then (65533, 1) else Sp.dec (a :: t) := by
  have ha := a.toNat_lt
  rw [Sp.dec_cons]
  generalize a.toNat = n at *
  have m64 : ∀ x, x % 64 < 64 := fun x => by omega
  have q0 := m64 (Bt t 0); have q1 := m64 (Bt t 1); have q2 := m64 (Bt t 2)
  unfold dcd Sp.lead
  by_cases h1 : n < 128
  · rw [if_pos h1]; simp only [if_pos h1, Nat.sub_self, Sp.more]
    have hr : Sp.isRune n = true := by simp [Sp.isRune]; omega
    have hw : Sp.width n = 1 := by unfold Sp.width; rw [if_pos h1]
    simp [judge_eq, hr, hw]
  rw [if_neg h1]; simp only [if_neg h1]
  by_cases h2 : n < 192
  · rw [if_neg (by simp; omega), if_neg (by simp; omega), if_neg (by simp; omega)]; simp [h2]
  simp only [if_neg h2]
  by_cases h3 : n < 224
  · simp only [if_pos h3, more_1, Nat.reduceSub, show ((2 : Nat) = 0) = False by simp, if_false]
    have e : (n / 32 == 6) = true := by simp; omega
    have e' : (n / 16 == 14) = false := by simp; omega
    have e'' : (n / 8 == 30) = false := by simp; omega
    rw [e, e', e'']
    cases hk : K t 0 with
    | false => simp [judge_none]
    | true =>
      rw [if_pos (by decide), if_pos rfl, show n % 32 * 64 = (n - 192) * 64 by omega]
      refine judge_if 2 _ _ ?_ (by decide)
      constructor
      · rintro ⟨_, h⟩; have := width_eq _ _ h; omega
      · intro h; exact ⟨by rw [Sp.isRune_iff]; omega, width_2 h (by omega)⟩
  simp only [if_neg h3]
  have e3 : (n / 32 == 6) = false := by simp; omega
  rw [e3, Bool.false_and, if_neg (by decide)]
  by_cases h4 : n < 240
  · simp only [if_pos h4, Nat.reduceSub, more_2, show ((3 : Nat) = 0) = False by simp, if_false]
    have e : (n / 16 == 14) = true := by simp; omega
    have e'' : (n / 8 == 30) = false := by simp; omega
    rw [e, e'', Bool.true_and]
    cases hk : (K t 0 && K t 1) with
    | false => simp [judge_none]
    | true =>
      rw [if_pos rfl, if_pos rfl, show n % 16 * 4096 + Bt t 0 % 64 * 64 + Bt t 1 % 64 = ((n - 224) * 64 + Bt t 0 % 64) * 64 + Bt t 1 % 64 by omega, valid_iff]
      refine judge_if 3 _ _ ?_ (by decide)
      rw [Bool.and_eq_true, decide_eq_true_eq]
      constructor
      · rintro ⟨h5, h⟩; have := width_eq _ _ h; exact ⟨by omega, h5⟩
      · rintro ⟨h5, h6⟩; exact ⟨h6, width_3 h5 (by omega)⟩
  simp only [if_neg h4]
  have e4 : (n / 16 == 14) = false := by simp; omega
  rw [e4, Bool.false_and, Bool.false_and, if_neg (by decide)]
  by_cases h5 : n < 248
  · simp only [if_pos h5, Nat.reduceSub, more_3, show ((4 : Nat) = 0) = False by simp, if_false]
    have e : (n / 8 == 30) = true := by simp; omega
    rw [e, Bool.true_and]
    cases hk : (K t 0 && K t 1 && K t 2) with
    | false => simp [judge_none]
    | true =>
      rw [if_pos rfl, if_pos rfl, show n % 8 * 262144 + Bt t 0 % 64 * 4096 + Bt t 1 % 64 * 64 + Bt t 2 % 64 = (((n - 240) * 64 + Bt t 0 % 64) * 64 + Bt t 1 % 64) * 64 + Bt t 2 % 64 by omega, valid_iff]
      refine judge_if 4 _ _ ?_ (by decide)
      rw [Bool.and_eq_true, decide_eq_true_eq]
      constructor
      · rintro ⟨h6, h⟩; have := width_eq _ _ h; exact ⟨by omega, h6⟩
      · rintro ⟨h6, h7⟩; exact ⟨h7, width_4 h6⟩
  simp only [if_neg h5]
  have e5 : (n / 8 == 30) = false := by simp; omega
  rw [e5]; simp
theorem get_out (s : ByteArray) (i : Nat) (h : ¬ i < s.size) : s.get! i = 0 := by
  have h' : s.data.size ≤ i := by show s.size ≤ i; omega
  show s.data[i]! = 0
  rw [getElem!_def, Array.getElem?_eq_none h']; rfl
/-- The model's range over a string. -/
theorem decode_dec (s : ByteArray) (pos : Nat) (h : pos < s.size) : Utf8.decode s pos = if (Sp.dec (s.data.toList.drop pos)).2 = 0 then (65533, 1) else Sp.dec (s.data.toList.drop pos) := by
  have hlt : pos < s.data.toList.length := by rw [Array.length_toList]; exact h
  have hd : s.data.toList.drop pos = s.data.toList[pos]'hlt :: s.data.toList.drop (pos + 1) := List.drop_eq_getElem_cons hlt
  have hl : (s.data.toList.drop (pos + 1)).length = s.size - (pos + 1) := len_drop s (pos + 1)
  have hB : ∀ k, (s.get! (pos + (k + 1))) = (s.data.toList.drop (pos + 1)).getD k 0 := by
    intro k
    by_cases hk : pos + 1 + k < s.size
    · rw [show pos + (k + 1) = pos + 1 + k by omega, get_drop s (pos + 1) k hk, List.getD_eq_getElem?_getD, List.getElem?_eq_getElem (by rw [hl]; omega)]; rfl
    · rw [get_out _ _ (by omega), List.getD_eq_getElem?_getD, List.getElem?_eq_none (by rw [hl]; omega)]; rfl
  have hK : ∀ k, (decide (pos + (k + 1) < s.size) && (s.get! (pos + (k + 1))).toNat / 64 == 2) = K (s.data.toList.drop (pos + 1)) k := by
    intro k
    rw [hB, cont_iff]; unfold K
    rw [hl]; congr 1; rw [Bool.eq_iff_iff]; simp only [decide_eq_true_eq]; omega
  have h0 : s.get! (pos + 0) = s.data.toList[pos]'hlt := by rw [get_drop s pos 0 (by omega)]; simp
  rw [decode_dcd, h0, hB 0, hB 1, hB 2, hd, ← dcd_dec]
  have k0 := hK 0; have k1 := hK 1; have k2 := hK 2
  rw [hB] at k0 k1 k2
  rw [k0, k1, k2]; rfl
end Go.Proofs.Ytdcnoiofimngpaa.UP
