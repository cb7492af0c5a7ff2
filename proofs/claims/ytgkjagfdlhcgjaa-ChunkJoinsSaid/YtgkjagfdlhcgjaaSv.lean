import Derived.Test.YtgkjagfdlhcgjaaSpec
/- Valid texts, plainly: put together, cut at edges. -/
namespace Go.Proofs.Ytgkjagfdlhcgjaa.Sp

theorem badF_shift : ∀ (f : Nat) (l : List UInt8) (i j : Nat), (badF f l i).isNone = (badF f l j).isNone
  | 0, _, _, _ => rfl
  | f + 1, l, i, j => by
    rw [badF_succ, badF_succ]
    split
    · rfl
    · split
      · rfl
      · exact badF_shift f _ _ _
theorem valid_nil : valid [] = true := rfl
theorem valid_step (l : List UInt8) (h : l ≠ []) : valid l = (decide ((dec l).2 ≠ 0) && valid (l.drop (dec l).2)) := by
  unfold valid bad
  rw [badF_step l 0 h]
  by_cases h0 : (dec l).2 = 0
  · simp [h0]
  · rw [if_neg h0]; simp only [h0, ne_eq, not_false_eq_true, decide_true, Bool.true_and]
    exact badF_shift _ _ _ _
theorem dec_append {a : List UInt8} (h : (dec a).2 ≠ 0) (b : List UInt8) : dec (a ++ b) = dec a := by
  obtain ⟨t, hr, hw, hl⟩ := dec_some h
  have e : a ++ b = enc (dec a).1 ++ (t ++ b) := by rw [← List.append_assoc, ← hl]
  rw [e, dec_enc hr, ← hw]
theorem valid_append : ∀ (n : Nat) (a b : List UInt8), a.length ≤ n → valid a = true → valid (a ++ b) = valid b
  | n, [], b, _, _ => rfl
  | 0, x :: a, b, h, _ => by simp at h
  | n + 1, x :: a, b, h, hv => by
    have hne : x :: a ≠ [] := List.cons_ne_nil _ _
    rw [valid_step _ hne, Bool.and_eq_true, decide_eq_true_eq] at hv
    have hle := @dec_le (x :: a)
    rw [valid_step _ (by simp : x :: a ++ b ≠ []), dec_append hv.1, List.drop_append_of_le_length hle]
    simp only [hv.1, ne_eq, not_false_eq_true, decide_true, Bool.true_and]
    refine valid_append n _ b ?_ hv.2
    rw [List.length_drop]; simp at h ⊢; omega
theorem valid_app {a b : List UInt8} (h : valid a = true) : valid (a ++ b) = valid b := valid_append a.length a b (Nat.le_refl _) h

theorem cont_ofNat {n : Nat} (h : n < 64) : cont (UInt8.ofNat (128 + n)) = true := by
  have := u8_ofNat (show 128 + n < 256 by omega)
  exact cont_of (by omega) (by omega)
/-- A rune's bytes: the first one begins it, the others go on. -/
theorem enc_cont {c : Nat} (h : isRune c = true) : ∃ x t, enc c = x :: t ∧ cont x = false ∧ ∀ y ∈ t, cont y = true := by
  have hr := (isRune_iff c).1 h
  unfold enc; rw [if_pos h]
  by_cases h1 : c < 128
  · rw [if_pos h1]; exact ⟨_, [], rfl, cont_not (.inl (by rw [u8_ofNat (by omega)]; omega)), fun y hy => by cases hy⟩
  rw [if_neg h1]
  by_cases h2 : c < 2048
  · rw [if_pos h2]; refine ⟨_, _, rfl, cont_not (.inr (by rw [u8_ofNat (by omega)]; omega)), fun y hy => ?_⟩
    simp only [List.mem_cons, List.not_mem_nil, or_false] at hy
    subst hy; exact cont_ofNat (by omega)
  rw [if_neg h2]
  by_cases h3 : c < 65536
  · rw [if_pos h3]; refine ⟨_, _, rfl, cont_not (.inr (by rw [u8_ofNat (by omega)]; omega)), fun y hy => ?_⟩
    simp only [List.mem_cons, List.not_mem_nil, or_false] at hy
    rcases hy with rfl | rfl <;> exact cont_ofNat (by omega)
  · rw [if_neg h3]; refine ⟨_, _, rfl, cont_not (.inr (by rw [u8_ofNat (by omega)]; omega)), fun y hy => ?_⟩
    simp only [List.mem_cons, List.not_mem_nil, or_false] at hy
    rcases hy with rfl | rfl | rfl <;> exact cont_ofNat (by omega)
theorem enc_at {c : Nat} (h : isRune c = true) (j : Nat) (hj : j < (enc c).length) : cont ((enc c)[j]'hj) = decide (0 < j) := by
  obtain ⟨x, t, he, hx, ht⟩ := enc_cont h
  cases j with
  | zero => simp only [he]; simpa using hx
  | succ j =>
    simp only [he, List.getElem_cons_succ]
    rw [ht _ (List.getElem_mem _)]; simp
/-- What stands ahead of a byte that begins something is valid, if all is. -/
theorem valid_front : ∀ (n : Nat) (a : List UInt8) (x : UInt8) (t : List UInt8), a.length ≤ n → cont x = false → valid (a ++ x :: t) = true → valid a = true
  | n, [], x, t, _, _, _ => rfl
  | 0, y :: a, x, t, h, _, _ => by simp at h
  | n + 1, y :: a, x, t, h, hx, hv => by
    have hne : y :: a ++ x :: t ≠ [] := by simp
    rw [valid_step _ hne, Bool.and_eq_true, decide_eq_true_eq] at hv
    obtain ⟨r, hr, hw, hl⟩ := dec_some hv.1
    generalize hD : dec (y :: a ++ x :: t) = D at *
    obtain ⟨c, m⟩ := D
    simp only at hr hw hl hv
    have hlen := enc_length hr
    have hm : m ≤ (y :: a).length := by
      apply Classical.byContradiction; intro hc
      have hj : (y :: a).length < (enc c).length := by omega
      have e1 : (y :: a ++ x :: t)[(y :: a).length]? = some x := by
        rw [List.getElem?_append_right (Nat.le_refl _)]; simp
      rw [hl, List.getElem?_append_left hj, List.getElem?_eq_getElem hj] at e1
      have e2 := enc_at hr _ hj
      rw [Option.some.inj e1, hx] at e2
      simp at e2
    have hda : dec (y :: a) = (c, m) := by
      have e : y :: a = enc c ++ (y :: a).drop m := by
        have e1 : (y :: a).take m = enc c := by
          have := congrArg (List.take m) hl
          rw [List.take_append_of_le_length hm, List.take_append_of_le_length (by omega), List.take_of_length_le (by omega : (enc c).length ≤ m)] at this
          exact this
        rw [← e1, List.take_append_drop]
      rw [e, dec_enc hr, hw]
    rw [valid_step _ (List.cons_ne_nil _ _), hda]
    have h1 : 1 ≤ m := by have := width_pos c; omega
    have h2 : m ≠ 0 := by omega
    simp only [ne_eq, h2, not_false_eq_true, decide_true, Bool.true_and]
    have hv2 := hv.2
    rw [List.drop_append_of_le_length hm] at hv2
    refine valid_front n _ x t ?_ hx hv2
    rw [List.length_drop]; simp at h ⊢; omega
theorem valid_cut (l : List UInt8) (k : Nat) (hk : k ≤ l.length) (he : edge l k = true) (hv : valid l = true) : valid (l.take k) = true ∧ valid (l.drop k) = true := by
  have h1 : valid (l.take k) = true := by
    by_cases h0 : k = l.length
    · rw [h0, List.take_length]; exact hv
    · by_cases h00 : k = 0
      · rw [h00]; rfl
      · have hlt : k < l.length := by omega
        have hc : cont (l[k]'hlt) = false := by
          unfold edge at he
          simp only [Bool.and_eq_true, Bool.or_eq_true, decide_eq_true_eq, Int.toNat_natCast, Bool.not_eq_true'] at he
          rcases he.2 with (h | h) | h
          · omega
          · omega
          · rw [List.getD_eq_getElem?_getD, List.getElem?_eq_getElem hlt] at h; exact h
        have e : l = l.take k ++ l[k]'hlt :: l.drop (k + 1) := by rw [← List.drop_eq_getElem_cons hlt, List.take_append_drop]
        rw [e] at hv
        exact valid_front _ _ _ _ (Nat.le_refl _) hc hv
  refine ⟨h1, ?_⟩
  rw [← List.take_append_drop k l, valid_app h1] at hv
  exact hv
theorem valid_32 (b : List UInt8) : valid (32 :: b) = valid b := by
  rw [valid_step _ (List.cons_ne_nil _ _)]
  have : dec (32 :: b) = (32, 1) := dec_enc (c := 32) (by decide) b
  rw [this]; simp
/-- With a blank between, a text that isn't valid stays so. -/
theorem valid_gap (a b : List UInt8) (h : ¬ (valid a = true ∧ valid b = true)) : valid (a ++ 32 :: b) = false := by
  apply Bool.eq_false_iff.2; intro hv
  have ha := valid_front _ a 32 b (Nat.le_refl _) (by decide) hv
  rw [valid_app ha, valid_32] at hv
  exact h ⟨ha, hv⟩
end Go.Proofs.Ytgkjagfdlhcgjaa.Sp
