import Derived.Test.YtdcnoiofimngpaaQJx
import Derived.Test.YtdcnoiofimngpaaWq
import Derived.Test.YtdcnoiofimngpaaWm
import Derived.DataShut
/- The document's Next, All, Replace, Same in plain words. -/
namespace Go.Proofs.Ytdcnoiofimngpaa.Jp
open Go.RowKit Go.Proofs.Ytdcnoiofimngpaa.U Go.Proofs.Ytdcnoiofimngpaa.QJ Go.Proofs.Ytdcnoiofimngpaa.Kh Go.Proofs.Ytdcnoiofimngpaa.Kj Go.Proofs.Ytdcnoiofimngpaa.Fn Go.Proofs.Ytdcnoiofimngpaa.Fa Go.Proofs.YtdcnoiofimngpaaW.PrintWords Go.Proofs.YtdcnoiofimngpaaW.PrintLast Go.Proofs.YtdcnoiofimngpaaW.PrintMore
set_option linter.unusedVariables false
set_option linter.unusedSimpArgs false
theorem hit_le {S w : List UInt8} {j : Nat} (hw : w ≠ []) (h : hit S w j) : j + w.length ≤ S.length := by
  have e := congrArg List.length h
  rw [List.length_take, List.length_drop] at e
  have := List.length_pos_iff.mpr hw
  omega
theorem next_l (s w : ByteArray) (hs : s.size ≤ 100000) (hws : w.size ≤ 100000) (hw : ld w ≠ []) (k : Nat) : ∀ (m i : Nat), s.size + 1 ≤ m + i → i ≤ 200000 → ∃ x b, stylusref49_Next.l0 (m + 1 + k) s w (i : Int) = some (x, b) ∧ IsNext (ld s) (ld w) i x b
  | m, i, h, hi => by
    have hp := List.length_pos_iff.mpr hw
    rw [ld_len] at hp
    have w1 : wrap64 ((s.size : Int) - (w.size : Int)) = s.size - w.size := by unfold wrap64; omega
    have w2 : wrap64 ((i : Int) + (w.size : Int)) = ((i + w.size : Nat) : Int) := by unfold wrap64; omega
    have w3 : wrap64 ((i : Int) + 1) = ((i + 1 : Nat) : Int) := by unfold wrap64; omega
    rw [show m + 1 + k = (m + k) + 1 by omega, stylusref49_Next.l0, w1, w2, w3]
    by_cases c : (i : Int) ≤ s.size - w.size
    · rw [if_pos c, if_pos (by omega), if_pos (by omega), if_pos (by omega), Int.toNat_natCast, Int.toNat_natCast]
      have e : ((s.extract i (i + w.size)).toList = w.toList) ↔ hit (ld s) (ld w) i := by
        rw [Lib.toList_data, Lib.toList_data]
        show ld (s.extract i (i + w.size)) = ld w ↔ _
        rw [Gc.ld_extract, List.extract_eq_take_drop, Nat.add_sub_cancel_left]
        unfold hit
        rw [ld_len]
      by_cases c2 : (s.extract i (i + w.size)).toList = w.toList
      · rw [if_pos c2]
        exact ⟨_, _, rfl, .inl ⟨rfl, hw, i, rfl, Int.le_refl _, e.mp c2, fun j h1 h2 => by omega⟩⟩
      · rw [if_neg c2]
        obtain ⟨m', rfl⟩ : ∃ m', m = m' + 1 := ⟨m - 1, by omega⟩
        obtain ⟨x, b, h1, h2⟩ := next_l s w hs hws hw k m' (i + 1) (by omega) (by omega)
        rw [show m' + 1 + k = m' + 1 + k from rfl]
        refine ⟨x, b, h1, ?_⟩
        have hn : ¬ hit (ld s) (ld w) i := fun hh => c2 (e.mpr hh)
        rcases h2 with ⟨rfl, a1, j, rfl, a2, a3, a4⟩ | ⟨rfl, rfl, a1⟩
        · refine .inl ⟨rfl, a1, j, rfl, by omega, a3, fun j' b1 b2 => ?_⟩
          by_cases c3 : j' = i
          · rw [c3]; exact hn
          · exact a4 j' (by omega) b2
        · refine .inr ⟨rfl, rfl, a1.imp id fun a1 j b1 => ?_⟩
          by_cases c3 : j = i
          · rw [c3]; exact hn
          · exact a1 j (by omega)
    · rw [if_neg c]
      refine ⟨_, _, rfl, .inr ⟨rfl, rfl, .inr fun j h1 h2 => ?_⟩⟩
      have := hit_le hw h2
      rw [ld_len, ld_len] at this
      omega
theorem next_shift {S w : List UInt8} {f x : Int} {b : Bool} (h : IsNext S w (if f < 0 then 0 else f) x b) : IsNext S w f x b := by
  have e : ∀ j : Nat, f ≤ j → (if f < 0 then 0 else f) ≤ j := fun j hj => by split <;> omega
  have e2 : ∀ j : Nat, (if f < 0 then 0 else f) ≤ j → f ≤ j := fun j hj => by split at hj <;> omega
  rcases h with ⟨rfl, a1, j, rfl, a2, a3, a4⟩ | ⟨rfl, rfl, a1⟩
  · exact .inl ⟨rfl, a1, j, rfl, e2 j a2, a3, fun j' b1 b2 => a4 j' (e j' b1) b2⟩
  · exact .inr ⟨rfl, rfl, a1.imp id fun a1 j b1 => a1 j (e j b1)⟩
theorem ref_next (s w : ByteArray) (hs : s.size ≤ 100000) (hws : w.size ≤ 100000) (f : Int) (hf : f ≤ 200000) (k : Nat) : ∃ x b, stylusref49_Next.f (s.size + 2 + k) s w f = some (x, b) ∧ IsNext (ld s) (ld w) f x b := by
  unfold stylusref49_Next.f
  by_cases c : w.toList = ([] : List UInt8)
  · rw [if_pos c]
    exact ⟨_, _, rfl, .inr ⟨rfl, rfl, .inl ((Lib.toList_data w).symm.trans c)⟩⟩
  · rw [if_neg c]
    have hw : ld w ≠ [] := fun e => c ((Lib.toList_data w).trans e)
    obtain ⟨F, hF⟩ : ∃ F : Nat, mx f 0 = F := ⟨(mx f 0).toNat, by unfold mx; split <;> omega⟩
    rw [hF]
    obtain ⟨x, b, h1, h2⟩ := next_l s w hs hws hw k (s.size + 1) F (by omega) (by unfold mx at hF; split at hF <;> omega)
    refine ⟨x, b, h1, next_shift ?_⟩
    have e : (if f < 0 then 0 else f) = (F : Int) := by unfold mx at hF; split at hF <;> split <;> omega
    rw [e]
    exact h2
theorem all_l (s w : ByteArray) (hs : s.size ≤ 5000) (hws : w.size ≤ 100000) (k : Nat) : ∀ (m : Nat) (f x : Int) (b : Bool) (acc : List Int), IsNext (ld s) (ld w) f x b → 0 ≤ f → (s.size : Int) + 1 - f ≤ m → acc.length + m ≤ 100000 → ∃ l, stylusref49_All.l0 (m + 1 + (s.size + 2 + k)) s w acc x b = some (acc ++ l) ∧ AllP (ld s) (ld w) f l
  | m, f, x, b, acc, h, h0, hm, hl => by
    rw [show m + 1 + (s.size + 2 + k) = (m + (s.size + 2 + k)) + 1 by omega, stylusref49_All.l0]
    cases b with
    | false =>
      rw [if_neg (by decide)]
      have hx : x = 0 := by
        rcases h with ⟨h, _⟩ | ⟨_, h, _⟩
        · cases h
        · exact h
      rw [hx] at h
      exact ⟨[], by rw [List.append_nil], .nil f h⟩
    | true =>
      obtain ⟨a1, a2, a3, a4⟩ := next_in_ h
      rw [ld_len] at a4
      rw [ld_len, ld_len] at a3
      obtain ⟨m', rfl⟩ : ∃ m', m = m' + 1 := ⟨m - 1, by omega⟩
      have w1 : wrap64 (x + (w.size : Int)) = x + w.size := by unfold wrap64; omega
      rw [if_pos rfl, if_pos (by omega), w1]
      obtain ⟨x', b', h1, h2⟩ := ref_next s w (by omega) hws (x + w.size) (by omega) (m' + 1 + k)
      rw [show m' + 1 + (s.size + 2 + k) = s.size + 2 + (m' + 1 + k) by omega, h1, Option.bind_some]
      obtain ⟨l, h3, h4⟩ := all_l s w hs hws k m' (x + w.size) x' b' (acc ++ [x]) h2 (by omega) (by omega) (by rw [List.length_append, List.length_singleton]; omega)
      rw [show s.size + 2 + (m' + 1 + k) = m' + 1 + (s.size + 2 + k) by omega]
      refine ⟨x :: l, by rw [h3, List.append_assoc]; rfl, .cons f x l h ?_⟩
      rw [ld_len]
      exact h4
theorem ref_all (s w : ByteArray) (hs : s.size ≤ 5000) (hws : w.size ≤ 100000) (k : Nat) : ∃ l, stylusref49_All.f (s.size + 2 + (s.size + 2 + k)) s w = some l ∧ AllP (ld s) (ld w) 0 l := by
  unfold stylusref49_All.f
  obtain ⟨x, b, h1, h2⟩ := ref_next s w (by omega) hws 0 (by omega) (s.size + 2 + k)
  rw [h1, Option.bind_some]
  obtain ⟨l, h3, h4⟩ := all_l s w hs hws k (s.size + 1) 0 x b [] h2 (by omega) (by omega) (by simp; omega)
  refine ⟨l, ?_, h4⟩
  rw [show s.size + 2 + (s.size + 2 + k) = s.size + 1 + 1 + (s.size + 2 + k) by omega, h3]
  rfl
end Go.Proofs.Ytdcnoiofimngpaa.Jp
/- The document's Words, Ints, Texts in plain words; Next from any place on. -/
namespace Go.Proofs.Ytdcnoiofimngpaa.Jq
open Go.RowKit Go.Proofs.Ytdcnoiofimngpaa.U Go.Proofs.Ytdcnoiofimngpaa.QJ Go.Proofs.Ytdcnoiofimngpaa.Kh Go.Proofs.Ytdcnoiofimngpaa.Kj Go.Proofs.Ytdcnoiofimngpaa.Fn Go.Proofs.Ytdcnoiofimngpaa.Fa Go.Proofs.Ytdcnoiofimngpaa.Jp Go.Proofs.Ytdcnoiofimngpaa.Wo Go.Proofs.YtdcnoiofimngpaaW.PrintWords
set_option linter.unusedVariables false
set_option linter.unusedSimpArgs false
theorem letter_f (n : Nat) : stylusref49_letter.f (n : Int) = some (isL n) := by
  unfold stylusref49_letter.f isL
  by_cases h1 : 97 ≤ n
  · rw [if_pos (by omega), decide_eq_true h1]
    by_cases h2 : n ≤ 122
    · rw [if_pos (by omega), decide_eq_true h2]; rfl
    · rw [if_neg (by omega), if_pos (by omega), decide_eq_false h2]
      have e : decide ((n : Int) ≤ 90) = decide (n ≤ 90) := by rw [Bool.eq_iff_iff, decide_eq_true_iff, decide_eq_true_iff]; omega
      rw [e, decide_eq_true (show 65 ≤ n by omega)]; rfl
  · rw [if_neg (by omega), decide_eq_false h1]
    by_cases h2 : 65 ≤ n
    · rw [if_pos (by omega), decide_eq_true h2]
      have e : decide ((n : Int) ≤ 90) = decide (n ≤ 90) := by rw [Bool.eq_iff_iff, decide_eq_true_iff, decide_eq_true_iff]; omega
      rw [e]; rfl
    · rw [if_neg (by omega), decide_eq_false h2]; rfl
theorem wst_snoc (l : List UInt8) (b : UInt8) : wst (l ++ [b]) = wstep (wst l) b := by
  unfold wst
  rw [List.foldl_append]; rfl
theorem wst_last (l : List UInt8) (b : UInt8) : ld (wst (l ++ [b])).2 ≠ [] ↔ isL b.toNat = true := by
  rw [wst_snoc]
  unfold wstep
  by_cases c : isL b.toNat = true
  · rw [if_pos c]
    refine ⟨fun _ => c, fun _ h => ?_⟩
    have e : ld ((wst l).2 ++ ⟨#[b]⟩) = [] := h
    rw [Gc.ld_app] at e
    have := congrArg List.length e
    rw [List.length_append] at this
    have e2 : (ld ⟨#[b]⟩).length = 1 := rfl
    rw [e2] at this
    simp at this
  · rw [if_neg c]
    refine ⟨fun h => absurd ?_ h, fun h => absurd h c⟩
    unfold flush
    split
    · assumption
    · rfl
theorem wv_no {l : List UInt8} {b : UInt8} (h : isL b.toNat = false) : wordsV (l ++ [b]) = wordsV l := by
  unfold wordsV
  rw [wst_snoc]
  unfold wstep
  rw [if_neg (by rw [h]; decide), flush_flush]
theorem wv_go {l : List UInt8} {b : UInt8} (h : isL b.toNat = true) : wordsV (l ++ [b]) = (wst l).1 ++ [(wst l).2 ++ ⟨#[b]⟩] := by
  have hl := (wst_last l b).mpr h
  unfold wordsV
  have e : wst (l ++ [b]) = ((wst l).1, (wst l).2 ++ ⟨#[b]⟩) := by
    rw [wst_snoc]; unfold wstep; rw [if_pos h]
  rw [e] at hl ⊢
  unfold flush
  rw [if_neg hl]
theorem wv_empty {l : List UInt8} (h : ld (wst l).2 = []) : wordsV l = (wst l).1 := by
  unfold wordsV flush
  rw [if_pos h]
theorem wv_some {l : List UInt8} (h : ld (wst l).2 ≠ []) : wordsV l = (wst l).1 ++ [(wst l).2] := by
  unfold wordsV flush
  rw [if_neg h]
theorem set_last {α : Type} (l : List α) (x y : α) : (l ++ [x]).set l.length y = l ++ [y] := by
  rw [List.set_append_right _ _ (Nat.le_refl _), Nat.sub_self]; rfl
theorem words_l (s : ByteArray) (hs : s.size ≤ 5000) (k : Nat) : ∀ (m i : Nat), m + i = s.size → stylusref49_Words.l0 (m + 1 + k) s (wordsV ((ld s).take i)) (i : Int) = some (wordsV (ld s))
  | m, i, h => by
    have w3 : wrap64 ((i : Int) + 1) = ((i + 1 : Nat) : Int) := by unfold wrap64; omega
    have w4 : wrap64 ((i : Int) - 1) = (i : Int) - 1 := by unfold wrap64; omega
    rw [show m + 1 + k = (m + k) + 1 by omega, stylusref49_Words.l0, w3, w4]
    by_cases c : i < s.size
    · obtain ⟨m', rfl⟩ : ∃ m', m = m' + 1 := ⟨m - 1, by omega⟩
      have hil : i < (ld s).length := by rw [ld_len]; exact c
      have ih := words_l s hs k m' (i + 1) (by omega)
      have htk : (ld s).take (i + 1) = (ld s).take i ++ [(ld s)[i]] := List.take_succ_eq_append_getElem hil
      rw [htk] at ih
      obtain ⟨b, hb⟩ : ∃ b, (ld s)[i] = b := ⟨_, rfl⟩
      have hbt : bt s (i : Int) = (b.toNat : Int) := by rw [UP.bt_nat s i hil, ← hb]
      have hex : s.extract i (i + 1) = ⟨#[b]⟩ := by
        apply ld_ext
        rw [Gc.ld_extract, List.extract_eq_take_drop, Nat.add_sub_cancel_left, List.drop_eq_getElem_cons hil, hb]; rfl
      rw [hb] at ih
      rw [if_pos (by omega), if_pos (by omega), hbt, letter_f, Option.bind_some]
      have hsm := wst_small ((ld s).take i)
      rw [List.length_take, ld_len] at hsm
      by_cases cl : isL b.toNat = true
      · rw [if_pos cl]
        rw [wv_go cl] at ih
        by_cases c0 : 0 < i
        · rw [if_pos (by omega), if_pos (by omega), if_pos (by omega)]
          have hil2 : i - 1 < (ld s).length := by omega
          have htk2 : (ld s).take i = (ld s).take (i - 1) ++ [(ld s)[i - 1]] := by
            have := List.take_succ_eq_append_getElem hil2
            rw [show i - 1 + 1 = i by omega] at this
            exact this
          obtain ⟨b2, hb2⟩ : ∃ b2, (ld s)[i - 1] = b2 := ⟨_, rfl⟩
          have hbt2 : bt s ((i : Int) - 1) = (b2.toNat : Int) := by rw [show (i : Int) - 1 = ((i - 1 : Nat) : Int) by omega, UP.bt_nat s (i - 1) hil2, ← hb2]
          rw [hb2] at htk2
          have hla := wst_last ((ld s).take (i - 1)) b2
          rw [← htk2] at hla
          rw [hbt2, letter_f, Option.bind_some]
          by_cases cl2 : isL b2.toNat = true
          · rw [if_pos cl2]
            have hwv := wv_some (hla.mpr cl2)
            have hlen : (wordsV ((ld s).take i)).length = (wst ((ld s).take i)).1.length + 1 := by rw [hwv, List.length_append, List.length_singleton]
            have w5 : wrap64 (((wordsV ((ld s).take i)).length : Int) - 1) = (((wst ((ld s).take i)).1.length : Nat) : Int) := by rw [hlen]; unfold wrap64; omega
            have hrd : rdOf ByteArray.empty (wordsV ((ld s).take i)) (((wst ((ld s).take i)).1.length : Nat) : Int) = (wst ((ld s).take i)).2 := by
              unfold rdOf
              rw [Int.toNat_natCast, hwv, List.getD_eq_getElem?_getD, List.getElem?_append_right (Nat.le_refl _), Nat.sub_self]; rfl
            rw [w5, hrd, if_pos (by omega), if_pos (by rw [hlen]; omega), if_pos (by omega), if_pos (by omega), Int.toNat_natCast, Int.toNat_natCast, Int.toNat_natCast, hex, if_pos (by have e1 : (⟨#[b]⟩ : ByteArray).size = 1 := rfl; rw [e1]; omega), hwv, set_last]
            exact ih
          · rw [if_neg cl2, if_pos (by omega), if_pos (by omega)]
            have he : ld (wst ((ld s).take i)).2 = [] := Classical.byContradiction fun hh => cl2 (hla.mp hh)
            have hwv := wv_empty he
            rw [if_pos (by rw [hwv]; omega), hwv, Int.toNat_natCast, Int.toNat_natCast, hex]
            have e : (wst ((ld s).take i)).2 ++ ⟨#[b]⟩ = ⟨#[b]⟩ := by apply ld_ext; rw [Gc.ld_app, he]; rfl
            rw [e] at ih
            exact ih
        · obtain rfl : i = 0 := by omega
          rw [if_neg (by omega), if_pos (by omega), if_pos (by omega)]
          have he : ld (wst ((ld s).take 0)).2 = [] := rfl
          have hwv := wv_empty he
          rw [if_pos (by rw [hwv]; omega), hwv, Int.toNat_natCast, Int.toNat_natCast, hex]
          have e : (wst ((ld s).take 0)).2 ++ ⟨#[b]⟩ = ⟨#[b]⟩ := by apply ld_ext; rw [Gc.ld_app, he]; rfl
          rw [e] at ih
          exact ih
      · rw [if_neg cl]
        rw [wv_no (by simpa using cl)] at ih
        exact ih
    · rw [if_neg (by omega), List.take_of_length_le (by rw [ld_len]; omega)]
theorem ref_words (s : ByteArray) (hs : s.size ≤ 5000) : stylusref49_Words.f 20000 s = some (wordsV (ld s)) := by
  unfold stylusref49_Words.f
  have := words_l s hs (20000 - (s.size + 1)) s.size 0 (by omega)
  rw [show s.size + 1 + (20000 - (s.size + 1)) = 20000 by omega] at this
  exact this
theorem ints_l (l : List Int) (hl : l.length ≤ 10000) (k : Nat) : ∀ (m i : Nat), m + i = l.length → stylusref31_Ints.l0 (m + 1 + k) l l (i : Int) = some true
  | m, i, h => by
    have w3 : wrap64 ((i : Int) + 1) = ((i + 1 : Nat) : Int) := by unfold wrap64; omega
    rw [show m + 1 + k = (m + k) + 1 by omega, stylusref31_Ints.l0, w3]
    by_cases c : i < l.length
    · obtain ⟨m', rfl⟩ : ∃ m', m = m' + 1 := ⟨m - 1, by omega⟩
      rw [if_pos (by omega), if_pos (by omega), if_pos (by omega), if_pos rfl]
      exact ints_l l hl k m' (i + 1) (by omega)
    · rw [if_neg (by omega)]
theorem ints_f (l : List Int) (hl : l.length ≤ 10000) : stylusref31_Ints.f 20000 l l = some true := by
  unfold stylusref31_Ints.f
  rw [if_pos rfl]
  have := ints_l l hl (20000 - (l.length + 1)) l.length 0 (by omega)
  rw [show l.length + 1 + (20000 - (l.length + 1)) = 20000 by omega] at this
  exact this
theorem texts_l (l : List ByteArray) (hl : l.length ≤ 10000) (k : Nat) : ∀ (m i : Nat), m + i = l.length → stylusref15_Texts.l0 (m + 1 + k) l l (i : Int) = some true
  | m, i, h => by
    have w3 : wrap64 ((i : Int) + 1) = ((i + 1 : Nat) : Int) := by unfold wrap64; omega
    rw [show m + 1 + k = (m + k) + 1 by omega, stylusref15_Texts.l0, w3]
    by_cases c : i < l.length
    · obtain ⟨m', rfl⟩ : ∃ m', m = m' + 1 := ⟨m - 1, by omega⟩
      rw [if_pos (by omega), if_pos (by omega), if_pos (by omega), if_pos rfl]
      exact texts_l l hl k m' (i + 1) (by omega)
    · rw [if_neg (by omega)]
theorem texts_f (l : List ByteArray) (hl : l.length ≤ 10000) : stylusref15_Texts.f 20000 l l = some true := by
  unfold stylusref15_Texts.f
  rw [if_pos rfl]
  have := texts_l l hl (20000 - (l.length + 1)) l.length 0 (by omega)
  rw [show l.length + 1 + (20000 - (l.length + 1)) = 20000 by omega] at this
  exact this
/-- Next, from any place on -/
theorem ref_next_any (s w : ByteArray) (hs : s.size ≤ 5000) (hws : w.size ≤ 1000) (f : Int) : ∃ x b, stylusref49_Next.f 20000 s w f = some (x, b) ∧ IsNext (ld s) (ld w) f x b := by
  by_cases c : f ≤ 200000
  · have := ref_next s w (by omega) (by omega) f c (20000 - (s.size + 2))
    rw [show s.size + 2 + (20000 - (s.size + 2)) = 20000 by omega] at this
    exact this
  · unfold stylusref49_Next.f
    by_cases c0 : w.toList = ([] : List UInt8)
    · rw [if_pos c0]
      exact ⟨_, _, rfl, .inr ⟨rfl, rfl, .inl ((Lib.toList_data w).symm.trans c0)⟩⟩
    · rw [if_neg c0]
      have hw : ld w ≠ [] := fun e => c0 ((Lib.toList_data w).trans e)
      have hF : mx f 0 = f := by unfold mx; split <;> omega
      have w1 : wrap64 ((s.size : Int) - (w.size : Int)) = s.size - w.size := by unfold wrap64; omega
      rw [hF, show 20000 = 19999 + 1 from rfl, stylusref49_Next.l0, w1, if_neg (by omega)]
      refine ⟨_, _, rfl, .inr ⟨rfl, rfl, .inr fun j h1 h2 => ?_⟩⟩
      have := hit_le hw h2
      rw [ld_len, ld_len] at this
      omega
theorem all_len {S w : List UInt8} {f : Int} {l : List Int} (h : AllP S w f l) (h0 : 0 ≤ f) (h1 : f ≤ S.length) : (l.length : Int) + f ≤ S.length := by
  induction h with
  | nil f h => simp; omega
  | cons f x l h r ih =>
    obtain ⟨a1, a2, a3, a4⟩ := next_in_ h
    have := ih (by omega) (by omega)
    rw [List.length_cons]
    omega
end Go.Proofs.Ytdcnoiofimngpaa.Jq
/- FindPlaces: the walk. -/
namespace Go.Proofs.Ytdcnoiofimngpaa.Jw
open Go.RowKit Go.Proofs.Ytdcnoiofimngpaa.U Go.Proofs.Ytdcnoiofimngpaa.QJ Go.Proofs.Ytdcnoiofimngpaa.Kt Go.Proofs.Ytdcnoiofimngpaa.Kd_ Go.Proofs.Ytdcnoiofimngpaa.Ke Go.Proofs.Ytdcnoiofimngpaa.Kf Go.Proofs.Ytdcnoiofimngpaa.Kh Go.Proofs.Ytdcnoiofimngpaa.Kj Go.Proofs.Ytdcnoiofimngpaa.Gc Go.Proofs.Ytdcnoiofimngpaa.Gs Go.Proofs.Ytdcnoiofimngpaa.Gt Go.Proofs.Ytdcnoiofimngpaa.Gr Go.Proofs.Ytdcnoiofimngpaa.Wl Go.Proofs.Ytdcnoiofimngpaa.Fn Go.Proofs.Ytdcnoiofimngpaa.Fa Go.Proofs.Ytdcnoiofimngpaa.Jp Go.Proofs.Ytdcnoiofimngpaa.Wo Go.Proofs.Ytdcnoiofimngpaa.Wn Go.Proofs.Ytdcnoiofimngpaa.Jq Go.Proofs.YtdcnoiofimngpaaW.PrintWords Go.Proofs.YtdcnoiofimngpaaW.PrintLast Go.Proofs.YtdcnoiofimngpaaW.PrintMore
set_option linter.unusedVariables false
set_option linter.unusedSimpArgs false
theorem ints_at {w : World} {base : Nat} {ok : Nat → Prop} {A : Option Addr} {n cp : Nat} {l : List Int} (h : Kd.R (Kd.int .i64) 3 w base ok (.slice A n cp) l) (i : Int) (h0 : 0 ≤ i) (h1 : i < l.length) : ∃ ad, A = some ad ∧ w.cell? (ad.add i.toNat) = some (.int .i64 (rd l i)) := by
  obtain ⟨A', c', he, _, hC⟩ := Kd.R_reads h
  cases he
  exact ReadsOf.at_ (Kd.reads_of_C (enc := Value.int .i64) (d := (0 : Int)) (h1 := fun _ => rfl) hC) i h0 h1
theorem kf_le (j : Int) (s : ByteArray) : kf j s ≤ s.size := by
  have h1 := Sp.runes_le (ld s)
  have h2 := Sp.lines_le (ld s)
  rw [ld_len] at h1 h2
  unfold kf
  split
  · omega
  · split <;> omega
/-- what Of answers for a valid text -/
def OfP (w : World) (s : ByteArray) (e : Ending) (w' : World) : Prop := ∃ g p t C, e = .returned (.tuple #[.pointer (some ⟨g, 0, none⟩), .int .i64 0]) ∧ Rope w' g p t C ∧ Gt.IsCut s C ∧ Below w.heap.size w w'
theorem of3_calls (w : World) (s : ByteArray) (hs : s.size ≤ 1500) (hv : Sp.valid (ld s) = true) : Calls Try.prog 13 #[.string s] w (OfP w s) := by
  obtain ⟨C, hC⟩ := cut_of s (by omega) hv
  have hl := hC.len
  refine (rope_calls w s C (by omega) hv hC).mono fun e w' ⟨g, p, h1, h2, h3, h4⟩ => ⟨g, p, tree C, C, h1, ⟨h2, h3, ?_, tree_chunks hC.fits (by omega), fun j => ?_, by omega⟩, hC, h4⟩
  · by_cases h0 : C.length = 0
    · left
      obtain rfl := List.eq_nil_of_length_eq_zero h0
      unfold tree; rw [List.map_nil, upT_nil]
    · exact .inr (tree_fine hC.fits (by omega) h0)
  · rw [kt_cat, hC.cat_]
    have := kf_le j s
    omega
/-- "aaa", "aa" -/
def a3 : ByteArray := ⟨#[97, 97, 97]⟩
def a2 : ByteArray := ⟨#[97, 97]⟩
theorem all_a : AllP (ld a3) (ld a2) 0 [0] := by
  refine .cons 0 0 [] (.inl ⟨rfl, by decide, 0, rfl, by decide, by show _ = _; decide, fun j h1 h2 => by omega⟩) (.nil _ (.inr ⟨rfl, rfl, .inr fun j h1 h2 => ?_⟩))
  have e := congrArg List.length (show ((ld a3).drop j).take (ld a2).length = ld a2 from h2)
  rw [List.length_take, List.length_drop] at e
  have h3 : (ld a2).length = 2 := rfl
  have h4 : (ld a3).length = 3 := rfl
  rw [h3, h4] at e
  rw [h3] at h1
  omega
theorem a3_valid : Sp.valid (ld a3) = true := by decide
set_option maxHeartbeats 4000000 in
set_option maxRecDepth 100000 in
theorem lives49 (w : World) : Calls Try.prog 12 #[] w fun e w' => e = .returned (.bool true) ∧ Below w.heap.size w w' := by
  have HO : Aside0 (Calls Try.prog 13 #[.string ⟨#[97, 97, 97]⟩] w (OfP w a3)) := ⟨of3_calls w a3 (by decide) a3_valid⟩
  have HAL : Aside0 (∀ (w1 : World) g p t C, Rope w1 g p t C → cat C = a3 → ∀ W, Below w1.heap.size w1 W → Calls Try.prog 23 #[.pointer (some ⟨g, 0, none⟩), .string ⟨#[97, 97]⟩] W fun e w' => ∃ ad cp, e = .returned (.slice (some ad) 1 cp) ∧ w'.cell? ad = some (.int .i64 0) ∧ Below W.heap.size W w') := ⟨fun w1 g p t C h hc W hb => (all_calls h hb a2 (by decide)).mono fun e w' ⟨A, cp, l, h1, h2, h3, h4⟩ => by
    rw [hc] at h3
    obtain rfl := all_one h3 all_a
    obtain ⟨ad, rfl, h5⟩ := ints_at h2 0 (by decide) (by decide)
    exact ⟨ad, cp, h1, h5, h4⟩⟩
  go_enter Try.func12, Try.ntmps12
  go_wp2_with (first
    | (go_at_call 13; (with_reducible refine HO.out.mono ?_); rintro e w1 ⟨g, p, t, C, rfl, hR, hc, hb⟩; have HR := Aside0.mk hR; have HCC := Aside0.mk hc.cat_; have HB1 := Aside0.mk hb; have HB := Aside0.mk (Below.refl w1.heap.size w1); clear hR hc hb HO)
    | (go_at_call 23; (with_reducible refine (HAL.out w1 g p t C HR.out HCC.out _ HB.out).mono ?_); rintro e w2 ⟨ad, cp, rfl, h0, hb⟩; have HB2 := Aside0.mk (below_step HB.out hb); clear HB hb; have HB := HB2; clear HB2))
  go_ret
  exact ⟨rfl, HB1.out.trans (HB.out.mono HB1.out.size)⟩
theorem cut_valid {s : ByteArray} {C : List ByteArray} (h : Gt.IsCut s C) (hv : Sp.valid (ld s) = true) : ∀ x ∈ C, Sp.valid (ld x) = true := fun x hx => (Kj.fits_spec (h.fits x hx)).2.2
theorem wv_len (l : List UInt8) : (wordsV l).length ≤ l.length + 1 := by
  have := wst_small l
  unfold wordsV flush
  split
  · omega
  · rw [List.length_append, List.length_singleton]; omega
def Ok (w : World) (e : Ending) (w' : World) : Prop := e = .returned (.bool true) ∧ Below w.heap.size w w'
theorem i64_le {a : Int} (h : (Lit.int .i64 a).wf = true) : a ≤ 9223372036854775807 := by
  have h2 := (Lit.wf_int_iff .i64 a).mp h
  have e : IntKind.i64.max = 9223372036854775807 := by decide
  rw [e] at h2
  exact h2.2
set_option maxHeartbeats 8000000 in
set_option maxRecDepth 100000 in
theorem FindPlaces (w : World) (s a : ByteArray) (x0 : Int) (hx0 : x0 ≤ 9223372036854775807) : Calls Try.prog 5 #[.string s, .string a, .int .i64 x0] w (Ok w) := by
  have HLV := Aside0.mk lives49
  have HB0 := Aside0.mk (Below.refl w.heap.size w)
  by_cases c1 : 600 < s.size
  · have d1 : decide (600 < s.size) = true := decide_eq_true c1
    have d1i : decide (600 < (s.size : Int)) = true := decide_eq_true (by omega)
    clear c1
    go_enter Try.func5, Try.ntmps5
    go_wp2_with (go_at_call 12; (with_reducible refine (HLV.out _).mono ?_); rintro e w2 ⟨rfl, hb⟩; have HB2 := Aside0.mk (below_step HB0.out hb); clear HB0 hb; have HB0 := HB2; clear HB2)
    go_ret
    exact ⟨rfl, HB0.out⟩
  · have d1 : decide (600 < s.size) = false := decide_eq_false c1
    have d1i : decide (600 < (s.size : Int)) = false := decide_eq_false (by omega)
    by_cases c2 : 100 < a.size
    · have d2 : decide (100 < a.size) = true := decide_eq_true c2
      have d2i : decide (100 < (a.size : Int)) = true := decide_eq_true (by omega)
      clear c1 c2
      go_enter Try.func5, Try.ntmps5
      go_wp2_with (go_at_call 12; (with_reducible refine (HLV.out _).mono ?_); rintro e w2 ⟨rfl, hb⟩; have HB2 := Aside0.mk (below_step HB0.out hb); clear HB0 hb; have HB0 := HB2; clear HB2)
      go_ret
      exact ⟨rfl, HB0.out⟩
    · have d2 : decide (100 < a.size) = false := decide_eq_false c2
      have d2i : decide (100 < (a.size : Int)) = false := decide_eq_false (by omega)
      have HVA : Aside0 (∀ W, Calls Try.prog 11 #[.string s] W fun e w' => e = .returned (.bool (Sp.valid (ld s))) ∧ Below W.heap.size W w') := ⟨fun W => stylusref01_Valid.calls s _ W (by unfold stylusref01_Valid.f; rw [if_pos (by omega)])⟩
      cases hva : Sp.valid (ld s)
      · rw [hva] at HVA
        clear c1 c2 hva
        go_enter Try.func5, Try.ntmps5
        go_wp2_with (first
          | (go_at_call 11; (with_reducible refine (HVA.out _).mono ?_); rintro e w1 ⟨rfl, hb⟩; have HB2 := Aside0.mk (below_step HB0.out hb); clear HB0 hb; have HB0 := HB2; clear HB2)
          | (go_at_call 12; (with_reducible refine (HLV.out _).mono ?_); rintro e w2 ⟨rfl, hb⟩; have HB2 := Aside0.mk (below_step HB0.out hb); clear HB0 hb; have HB0 := HB2; clear HB2))
        go_ret
        exact ⟨rfl, HB0.out⟩
      · rw [hva] at HVA
        have HO : Aside0 (∀ W, Calls Try.prog 13 #[.string s] W (OfP W s)) := ⟨fun W => of3_calls W s (by omega) hva⟩
        obtain ⟨x, b, hn1, hn2⟩ := ref_next_any s a (by omega) (by omega) x0
        obtain ⟨l, hl1, hl2⟩ := ref_all s a (by omega) (by omega) 0
        have hll := all_len hl2 (Int.le_refl _) (by omega)
        rw [ld_len] at hll
        have HNX : Aside0 (∀ (w1 : World) g p t C, Rope w1 g p t C → cat C = s → ∀ W, Below w1.heap.size w1 W → Calls Try.prog 20 #[.pointer (some ⟨g, 0, none⟩), .string a, .int .i64 x0] W fun e w' => e = .returned (.tuple #[.int .i64 x, .bool b]) ∧ Below W.heap.size W w') := ⟨fun w1 g p t C h hc W hb => (next_calls h hb a x0 (by omega) hx0).mono fun e w' ⟨x', b', h1, h2, h3⟩ => by
          rw [hc] at h2
          obtain ⟨rfl, rfl⟩ := next_one h2 hn2
          exact ⟨h1, h3⟩⟩
        have HAL : Aside0 (∀ (w1 : World) g p t C, Rope w1 g p t C → cat C = s → ∀ W, Below w1.heap.size w1 W → Calls Try.prog 23 #[.pointer (some ⟨g, 0, none⟩), .string a] W fun e w' => ∃ A cp, e = .returned (.slice A l.length cp) ∧ Kd.C (Kd.int .i64) w' A l.length l ∧ l.length ≤ cp ∧ Below W.heap.size W w') := ⟨fun w1 g p t C h hc W hb => (all_calls h hb a (by omega)).mono fun e w' ⟨A, cp, l2, h1, h2, h3, h4⟩ => by
          rw [hc] at h3
          obtain rfl := all_one h3 hl2
          obtain ⟨A', cp', e2, hc2, hC⟩ := Kd.R_reads h2
          cases e2
          exact ⟨_, _, h1, hC, hc2, h4⟩⟩
        have HWO : Aside0 (∀ (w1 : World) g p t C, Rope w1 g p t C → Gt.IsCut s C → ∀ W, Below w1.heap.size w1 W → Calls Try.prog 26 #[.pointer (some ⟨g, 0, none⟩)] W fun e w' => ∃ A cp, e = .returned (.slice A (wordsV (ld s)).length cp) ∧ Kd.C Kd.string w' A (wordsV (ld s)).length (wordsV (ld s)) ∧ (wordsV (ld s)).length ≤ cp ∧ Below W.heap.size W w') := ⟨fun w1 g p t C h hc W hb => (words_calls h (cut_valid hc hva) (by rw [hc.cat_]; exact hva) hb).mono fun e w' ⟨v, h1, h2, h3⟩ => by
          rw [hc.cat_] at h2
          obtain ⟨A', cp', rfl, hc2, hC⟩ := Kd.R_reads h2
          exact ⟨_, _, h1, hC, hc2, h3⟩⟩
        have HN2 : Aside0 (∀ W, Calls Try.prog 21 #[.string s, .string a, .int .i64 x0] W fun e w' => e = .returned (.tuple #[.int .i64 x, .bool b]) ∧ Below W.heap.size W w') := ⟨fun W => stylusref49_Next.calls 20000 s a x0 x b W hn1⟩
        have HA2 : Aside0 (∀ W, Calls Try.prog 24 #[.string s, .string a] W fun e w' => ∃ A cp, e = .returned (.slice A l.length cp) ∧ Kd.C (Kd.int .i64) w' A l.length l ∧ l.length ≤ cp ∧ Below W.heap.size W w') := ⟨fun W => (stylusref49_All.calls _ s a l W hl1).mono fun e w' ⟨v, h1, h2, h3⟩ => by
          obtain ⟨A', cp', rfl, hc2, hC⟩ := Kd.R_reads h2
          exact ⟨_, _, h1, hC, hc2, h3⟩⟩
        have HW2 : Aside0 (∀ W, Calls Try.prog 27 #[.string s] W fun e w' => ∃ A cp, e = .returned (.slice A (wordsV (ld s)).length cp) ∧ Kd.C Kd.string w' A (wordsV (ld s)).length (wordsV (ld s)) ∧ (wordsV (ld s)).length ≤ cp ∧ Below W.heap.size W w') := ⟨fun W => (stylusref49_Words.calls 20000 s _ W (ref_words s (by omega))).mono fun e w' ⟨v, h1, h2, h3⟩ => by
          obtain ⟨A', cp', rfl, hc2, hC⟩ := Kd.R_reads h2
          exact ⟨_, _, h1, hC, hc2, h3⟩⟩
        have hwl := wv_len (ld s)
        rw [ld_len] at hwl
        have HIN : Aside0 (∀ W A cp A2 cp2, Kd.C (Kd.int .i64) W A l.length l → l.length ≤ cp → Kd.C (Kd.int .i64) W A2 l.length l → l.length ≤ cp2 → Calls Try.prog 22 #[.slice A l.length cp, .slice A2 l.length cp2] W fun e w' => e = .returned (.bool true) ∧ Below W.heap.size W w') := ⟨fun W A cp A2 cp2 h1 h2 h3 h4 => (stylusref31_Ints.calls 20000 A cp l A2 cp2 l true W h1 h2 h3 h4 (ints_f l (by omega))).mono fun e w' ⟨h5, h6⟩ => ⟨h5, h6.below⟩⟩
        obtain ⟨ws, hws⟩ : ∃ ws, wordsV (ld s) = ws := ⟨_, rfl⟩
        rw [hws] at HWO HW2 hwl
        have HTX : Aside0 (∀ W A cp A2 cp2, Kd.C Kd.string W A ws.length ws → ws.length ≤ cp → Kd.C Kd.string W A2 ws.length ws → ws.length ≤ cp2 → Calls Try.prog 25 #[.slice A ws.length cp, .slice A2 ws.length cp2] W fun e w' => e = .returned (.bool true) ∧ Below W.heap.size W w') := ⟨fun W A cp A2 cp2 h1 h2 h3 h4 => (stylusref15_Texts.calls 20000 A cp ws A2 cp2 ws true W h1 h2 h3 h4 (texts_f ws (by omega))).mono fun e w' ⟨h5, h6⟩ => ⟨h5, h6.below⟩⟩
        clear c1 c2 hva hn1 hn2 hl1 hl2 hll hws hwl hx0
        have q1 : (x == x) = true := beq_self_eq_true _
        have q2 : (b == b) = true := beq_self_eq_true _
        go_enter Try.func5, Try.ntmps5
        go_wp2_with (first
          | (go_at_call 11; (with_reducible refine (HVA.out _).mono ?_); rintro e w1 ⟨rfl, hb⟩; have HB2 := Aside0.mk (below_step HB0.out hb); clear HB0 hb; have HB0 := HB2; clear HB2)
          | (go_at_call 13; (with_reducible refine (HO.out _).mono ?_); rintro e w1 ⟨g, p, t, C, rfl, hR, hc, hb⟩; have HR := Aside0.mk hR; have HCC := Aside0.mk hc; have HB1 := Aside0.mk (below_step HB0.out hb); have HB := Aside0.mk (Below.refl w1.heap.size w1); clear hR hc hb HO HB0)
          | (go_at_call 20; (with_reducible refine (HNX.out w1 g p t C HR.out HCC.out.cat_ _ HB.out).mono ?_); rintro e w2 ⟨rfl, hb⟩; have HB2 := Aside0.mk (below_step HB.out hb); clear HB hb; have HB := HB2; clear HB2)
          | (go_at_call 21; (with_reducible refine (HN2.out _).mono ?_); rintro e w3 ⟨rfl, hb⟩; have HB2 := Aside0.mk (below_step HB.out hb); clear HB hb; have HB := HB2; clear HB2)
          | (go_at_call 23; (with_reducible refine (HAL.out w1 g p t C HR.out HCC.out.cat_ _ HB.out).mono ?_); rintro e w4 ⟨A1, cp1, rfl, hC, hcp1, hb⟩; have HC1 := Aside0.mk hC; clear hC; have HB2 := Aside0.mk (below_step HB.out hb); clear HB hb; have HB := HB2; clear HB2)
          | (go_at_call 24; (with_reducible refine (HA2.out _).mono ?_); rintro e w5 ⟨A2, cp2, rfl, hC, hcp2, hb⟩; have HC2 := Aside0.mk hC; clear hC; have HC2_ := Aside0.mk (Kd.C_below HC1.out hb); clear HC1; have HC1 := HC2_; clear HC2_; have HB2 := Aside0.mk (below_step HB.out hb); clear HB hb; have HB := HB2; clear HB2)
          | (go_at_call 22; (with_reducible refine (HIN.out _ A1 cp1 A2 cp2 HC1.out hcp1 HC2.out hcp2).mono ?_); rintro e w6 ⟨rfl, hb⟩; have HB2 := Aside0.mk (below_step HB.out hb); clear HB hb; have HB := HB2; clear HB2)
          | (go_at_call 26; (with_reducible refine (HWO.out w1 g p t C HR.out HCC.out _ HB.out).mono ?_); rintro e w7 ⟨A3, cp3, rfl, hC, hcp3, hb⟩; have HC3 := Aside0.mk hC; clear hC; have HB2 := Aside0.mk (below_step HB.out hb); clear HB hb; have HB := HB2; clear HB2)
          | (go_at_call 27; (with_reducible refine (HW2.out _).mono ?_); rintro e w8 ⟨A4, cp4, rfl, hC, hcp4, hb⟩; have HC4 := Aside0.mk hC; clear hC; have HC2_ := Aside0.mk (Kd.C_below HC3.out hb); clear HC3; have HC3 := HC2_; clear HC2_; have HB2 := Aside0.mk (below_step HB.out hb); clear HB hb; have HB := HB2; clear HB2)
          | (go_at_call 25; (with_reducible refine (HTX.out _ A3 cp3 A4 cp4 HC3.out hcp3 HC4.out hcp4).mono ?_); rintro e w9 ⟨rfl, hb⟩; have HB2 := Aside0.mk (below_step HB.out hb); clear HB hb; have HB := HB2; clear HB2)
          | (go_at_call 12; (with_reducible refine (HLV.out _).mono ?_); rintro e w10 ⟨rfl, hb⟩; have HB2 := Aside0.mk (below_step HB.out hb); clear HB hb; have HB := HB2; clear HB2))
        go_ret
        exact ⟨rfl, HB1.out.trans (HB.out.mono HB1.out.size)⟩
end Go.Proofs.Ytdcnoiofimngpaa.Jw
