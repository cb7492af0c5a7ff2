import Derived.Test.YtgkjagfdlhcgjaaCa
/- The laws of chunks, in plain words. -/
namespace Go.Proofs.Ytgkjagfdlhcgjaa.Cb
open Go.RowKit Go.Proofs.Ytgkjagfdlhcgjaa.U Go.Proofs.Ytgkjagfdlhcgjaa.QC Go.Proofs.Ytgkjagfdlhcgjaa.Ca Go.Proofs.YtgkjagfdlhcgjaaW.PrintWords Go.Proofs.YtgkjagfdlhcgjaaW.PrintLast Go.Proofs.YtgkjagfdlhcgjaaW.PrintMore
set_option linter.unusedVariables false
def Good (l : List ByteArray) : Prop := ∀ s ∈ l, fits s = true ∧ 13 ≤ s.size
theorem good_app {p : List ByteArray} {a : ByteArray} (h : Good p) (ha : fits a = true ∧ 13 ≤ a.size) : Good (p ++ [a]) := by
  intro s hs
  rcases List.mem_append.mp hs with h1 | h1
  · exact h s h1
  · rw [List.mem_singleton.mp h1]; exact ha
theorem tight_good : ∀ (l : List ByteArray) (p : Option ByteArray), Good l → (∀ q, p = some q → 13 ≤ q.size) → snug p l = true
  | [], _, _, _ => rfl
  | s :: t, p, hl, hp => by
    have hs := hl s (by simp)
    rw [snug, hs.1, tight_good t (some s) (fun x hx => hl x (by simp [hx])) (fun q hq => by cases hq; exact hs.2)]
    cases p with
    | none => rfl
    | some q => have := hp q rfl; simp [far]; omega
theorem tight_last : ∀ (l : List ByteArray) (p : Option ByteArray) (a x : ByteArray), Good (l ++ [a]) → (∀ q, p = some q → 13 ≤ q.size) → fits x = true → 16 < a.size + x.size → snug p (l ++ [a, x]) = true
  | [], p, a, x, hl, hp, hx, h => by
    have hs := hl a (by simp)
    rw [List.nil_append, snug, hs.1, snug, hx, snug]
    cases p with
    | none => simp [far, h]
    | some q => have := hp q rfl; simp [far, h]; omega
  | s :: t, p, a, x, hl, hp, hx, h => by
    have hs := hl s (by simp)
    rw [List.cons_append, snug, hs.1, tight_last t (some s) a x (fun y hy => hl y (by simp at hy ⊢; rcases hy with hy | hy <;> simp [hy])) (fun q hq => by cases hq; exact hs.2) hx h]
    cases p with
    | none => rfl
    | some q => have := hp q rfl; simp [far]; omega
theorem tight_fits : ∀ (l : List ByteArray) (p : Option ByteArray), snug p l = true → ∀ s ∈ l, fits s = true
  | [], _, _, s, hs => by cases hs
  | a :: t, p, h, s, hs => by
    rw [snug] at h
    simp only [Bool.and_eq_true] at h
    rcases List.mem_cons.mp hs with rfl | h1
    · exact h.1.1
    · exact tight_fits t (some a) h.2 s h1
def cat (l : List ByteArray) : List UInt8 := (l.map ld).flatten
theorem cat_app (a b : List ByteArray) : cat (a ++ b) = cat a ++ cat b := by simp [cat]
theorem cat_one (a : ByteArray) : cat [a] = ld a := by simp [cat]
theorem cat_two (a b : ByteArray) : cat [a, b] = ld a ++ ld b := by simp [cat]
theorem at_end (p : List ByteArray) (a b : ByteArray) (hn : p.length ≤ 1000000) : wrap64 (((p ++ [a, b]).length : Int) - 2) = (p.length : Int) ∧ wrap64 (((p ++ [a, b]).length : Int) - 1) = ((p.length + 1 : Nat) : Int) := by
  have hl : ((p ++ [a, b]).length : Int) = (p.length : Int) + 2 := by simp
  rw [hl, wq _ (by omega) (by omega), wq _ (by omega) (by omega)]
  omega
theorem rd_a (p : List ByteArray) (a b : ByteArray) : rdOf ByteArray.empty (p ++ [a, b]) (p.length : Int) = a := by rw [rdOf_nat]; simp
theorem rd_b (p : List ByteArray) (a b : ByteArray) : rdOf ByteArray.empty (p ++ [a, b]) ((p.length + 1 : Nat) : Int) = b := by rw [rdOf_nat, List.getD_eq_getElem?_getD, List.getElem?_append_right (by omega)]; simp
theorem tail_f (p : List ByteArray) (a b : ByteArray) (hn : p.length ≤ 1000000) (ha : a.size ≤ 100000) (hb : b.size ≤ 100000) :
    chunk_tail.f (p ++ [a, b]) = some (if a.size + b.size ≤ 16 then p ++ [a ++ b] else p ++ [a, b]) := by
  unfold chunk_tail.f
  obtain ⟨e2, e1⟩ := at_end p a b hn
  have hl : ((p ++ [a, b]).length : Int) = (p.length : Int) + 2 := by simp
  rw [e2, e1, rd_a, rd_b, if_neg (by omega), if_pos (by omega), if_pos (by omega), if_pos (by omega), if_pos (by omega), one_f a b ha hb, Option.bind_some]
  by_cases h : a.size + b.size ≤ 16
  · rw [decide_eq_true h, if_pos rfl, if_pos (by omega), if_pos (by omega), if_pos h, Int.toNat_natCast, Int.toNat_natCast]
    congr 1
    rw [List.set_append_right _ _ (by omega), Nat.sub_self]
    show List.take (p.length + 1) (p ++ [a ++ b, b]) = p ++ [a ++ b]
    rw [List.take_append, List.take_of_length_le (by omega)]; simp
  · rw [decide_eq_false h, if_neg (by simp), if_neg h]
theorem tail_small (l : List ByteArray) (h : l.length < 2) : chunk_tail.f l = some l := by unfold chunk_tail.f; rw [if_pos (by omega)]
theorem rtail_f (p : List ByteArray) (a b : ByteArray) (hn : p.length ≤ 1000000) (ha : a.size ≤ 100000) (hb : b.size ≤ 100000) :
    ref_tail (p ++ [a, b]) = some (if a.size + b.size ≤ 16 then p ++ [a ++ b] else p ++ [a, b]) := by
  unfold ref_tail
  have hl : (p ++ [a, b]).length = p.length + 2 := by simp
  have e2 : ((p ++ [a, b]).length : Int) - 2 = (p.length : Int) := by omega
  have e1 : ((p ++ [a, b]).length : Int) - 1 = ((p.length + 1 : Nat) : Int) := by omega
  rw [e2, e1, rd_a, rd_b, if_pos (by omega), if_pos (by omega), if_pos (by omega)]
  by_cases h : a.size + b.size ≤ 16
  · rw [if_pos h, if_pos h, hl, Nat.add_sub_cancel, List.take_left]
  · rw [if_neg h, if_neg h]
theorem rtail_small (l : List ByteArray) (h : l.length < 2) : ref_tail l = some l := by unfold ref_tail; rw [if_pos (by omega), if_neg (by omega)]
theorem lastOf : ∀ (l : List ByteArray), l ≠ [] → ∃ p a, l = p ++ [a] := fun l h => ⟨l.dropLast, l.getLast h, (List.dropLast_concat_getLast h).symm⟩
theorem sz_take (x : ByteArray) (k : Nat) (h : k ≤ x.size) : (x.extract 0 k).size = k := by rw [← ld_len, ld_take, List.length_take, ld_len]; omega
theorem sz_drop (x : ByteArray) (k : Nat) : (x.extract k x.size).size = x.size - k := by rw [← ld_len, ld_drop, List.length_drop, ld_len]
theorem cut_run : ∀ (k : Nat) (x : ByteArray) (acc : List ByteArray), Sp.valid (ld x) = true → Good acc → (acc = [] ∨ 1 ≤ x.size) → x.size < k → acc.length + x.size ≤ 100000 →
    ∃ r, chunk_Cut.l0 k x acc = some r ∧ stylusref15_Cut.l0 k x acc = some r ∧ snug none r = true ∧ cat r = cat acc ++ ld x ∧ r.length ≤ acc.length + x.size ∧ (1 ≤ x.size → r ≠ []) := by
  intro k
  induction k with
  | zero => intro x acc h1 h2 h3 h4; omega
  | succ k ih =>
    intro x acc hv hg hne hk hn
    rw [chunk_Cut.l0, stylusref15_Cut.l0]
    by_cases h16 : 16 < x.size
    · have c16 : (x.size : Int) > 16 := by omega
      obtain ⟨b1, b2, v1, v2⟩ := back16 hv (by rw [ld_len]; exact h16)
      have ht : utf_Back.f x 16 = some ((Sp.back (ld x) 16 : Nat) : Int) := by unfold utf_Back.f; rw [if_pos (by omega)]
      have htr : stylusref01_Back.f x 16 = some ((Sp.back (ld x) 16 : Nat) : Int) := by unfold stylusref01_Back.f; rw [if_pos (by omega)]
      rw [if_pos c16, if_pos c16, ht, htr, Option.bind_some, Option.bind_some]
      generalize Sp.back (ld x) 16 = t at *
      rw [if_pos (by omega), if_pos (by omega), if_pos (by omega), if_pos (by omega), if_pos (by omega), if_pos (by omega), if_pos (by omega), Int.toNat_natCast]
      have s1 := sz_take x t (by omega)
      have s2 := sz_drop x t
      obtain ⟨r, r1, r2, r3, r4, r5, r6⟩ := ih (x.extract t x.size) (acc ++ [x.extract 0 t]) (by rw [ld_drop]; exact v2) (good_app hg ⟨fits_mk (by omega) (by omega) (by rw [ld_take]; exact v1), by omega⟩) (Or.inr (by omega)) (by omega) (by rw [List.length_append, List.length_singleton]; omega)
      refine ⟨r, r1, r2, r3, ?_, by rw [List.length_append, List.length_singleton] at r5; omega, fun _ => r6 (by omega)⟩
      rw [r4, cat_app, cat_one, ld_take, ld_drop, List.append_assoc, List.take_append_drop]
    · have c16 : ¬ (x.size : Int) > 16 := by omega
      rw [if_neg c16, if_neg c16]
      by_cases h0 : x.toList = ([] : List UInt8)
      · rw [if_pos h0, if_pos h0]
        rw [nil_iff] at h0
        obtain rfl : acc = [] := by rcases hne with h | h; exact h; omega
        have hx : ld x = [] := List.length_eq_zero_iff.mp (by rw [ld_len]; exact h0)
        rw [tail_small [] (by simp), rtail_small [] (by simp), Option.bind_some]
        exact ⟨[], rfl, rfl, rfl, by rw [hx]; rfl, by simp, by omega⟩
      · rw [if_neg h0, if_neg h0, if_pos (by omega), if_pos (by omega)]
        rw [nil_iff] at h0
        have hf : fits x = true := fits_mk (by omega) (by omega) hv
        by_cases ha : acc = []
        · subst ha
          rw [List.nil_append, tail_small [x] (by simp), rtail_small [x] (by simp), Option.bind_some]
          exact ⟨[x], rfl, rfl, by simp [snug, far, hf], by simp [cat], by simp; omega, by simp⟩
        · obtain ⟨p, a, rfl⟩ := lastOf acc ha
          have hs := hg a (by simp)
          have hs2 := fits_spec hs.1
          rw [List.length_append, List.length_singleton] at hn
          rw [List.append_assoc, List.singleton_append, tail_f p a x (by omega) (by omega) (by omega), rtail_f p a x (by omega) (by omega) (by omega), Option.bind_some]
          by_cases hm : a.size + x.size ≤ 16
          · rw [if_pos hm]
            have hax : fits (a ++ x) = true := fits_mk (by rw [ByteArray.size_append]; omega) (by rw [ByteArray.size_append]; omega) (by rw [ld_app, Sp.valid_app hs2.2.2]; exact hv)
            refine ⟨_, rfl, rfl, tight_good _ none (good_app (fun s h => hg s (by simp [h])) ⟨hax, by rw [ByteArray.size_append]; omega⟩) (fun q hq => by cases hq), ?_, by simp, by simp⟩
            rw [cat_app, cat_app, cat_one, cat_one, ld_app, List.append_assoc]
          · rw [if_neg hm]
            refine ⟨_, rfl, rfl, tight_last p none a x hg (fun q hq => by cases hq) hf (by omega), ?_, by simp; omega, by simp⟩
            rw [cat_app, cat_app, cat_two, cat_one, List.append_assoc]
/-- a text in chunks: both tell the same -/
theorem cut_f (x : ByteArray) (hx : x.size ≤ 90000) (k : Nat) (hk : x.size < k) : ∃ r, chunk_Cut.f k x = some r ∧ stylusref15_Cut.f k x = some r ∧ snug none r = true ∧ r.length ≤ x.size ∧ (r ≠ [] → cat r = ld x) := by
  unfold chunk_Cut.f stylusref15_Cut.f utf_Valid.f stylusref01_Valid.f
  rw [if_pos (by omega), Option.bind_some, Option.bind_some]
  cases hv : Sp.valid x.data.toList
  · rw [if_neg (by simp)]; exact ⟨[], rfl, rfl, rfl, by simp, fun h => absurd rfl h⟩
  · rw [if_pos rfl, if_pos rfl]
    obtain ⟨r, r1, r2, r3, r4, r5, r6⟩ := cut_run k x [] hv (fun s hs => by cases hs) (Or.inl rfl) hk (by simp; omega)
    exact ⟨r, r1, r2, r3, by simpa using r5, fun _ => by simpa [cat] using r4⟩
/-- two chunks joined -/
def join (a b : ByteArray) : List ByteArray := if fits a = true ∧ fits b = true then (if a.size + b.size ≤ 16 then [a ++ b] else if fits (half (a ++ b)).1 = true ∧ fits (half (a ++ b)).2 = true then [(half (a ++ b)).1, (half (a ++ b)).2] else [a, b]) else []
theorem fits_le {s : ByteArray} (h : fits s = true) : s.size ≤ 16 := (fits_spec h).2.1
theorem join_f (a b : ByteArray) (k : Nat) (hk : 1 ≤ k) : chunk_Join.f k a b = some (join a b) := by
  obtain ⟨k, rfl⟩ : ∃ j, k = j + 1 := ⟨k - 1, by omega⟩
  unfold chunk_Join.f join
  rw [fits_f, Option.bind_some]
  cases ha : fits a
  · rw [if_neg (by simp), if_neg (by simp), chunk_Join.j0, if_pos (by rfl)]
  · rw [if_pos rfl, fits_f, Option.bind_some]
    cases hb : fits b
    · rw [if_neg (by simp), chunk_Join.j0, if_pos (by rfl)]
    · have h1 := fits_le ha
      have h2 := fits_le hb
      have hsz := ByteArray.size_append (a := a) (b := b)
      rw [if_pos ⟨rfl, rfl⟩, chunk_Join.j0, if_neg (by simp), one_f a b (by omega) (by omega), Option.bind_some]
      by_cases h : a.size + b.size ≤ 16
      · rw [decide_eq_true h, if_pos rfl, if_pos (by omega), if_pos h]
      · rw [decide_eq_false h, if_neg (by simp), if_pos (by omega), if_neg h, half_f _ (by omega), Option.bind_some, fits_f, Option.bind_some]
        cases hx : fits (half (a ++ b)).1
        · rw [if_neg (by simp), if_neg (by simp)]
        · rw [if_pos rfl, fits_f, Option.bind_some]
          cases hy : fits (half (a ++ b)).2
          · rw [if_neg (by simp), if_neg (by simp)]
          · rw [if_pos rfl, if_pos ⟨rfl, rfl⟩]
theorem rjoin_f (a b : ByteArray) (k : Nat) (hk : 1 ≤ k) : stylusref15_Join.f k a b = some (join a b) := by
  obtain ⟨k, rfl⟩ : ∃ j, k = j + 1 := ⟨k - 1, by omega⟩
  unfold stylusref15_Join.f join
  rw [rfits_f, Option.bind_some]
  cases ha : fits a
  · rw [if_neg (by simp), if_neg (by simp), stylusref15_Join.j0, if_pos (by rfl)]
  · rw [if_pos rfl, rfits_f, Option.bind_some]
    cases hb : fits b
    · rw [if_neg (by simp), stylusref15_Join.j0, if_pos (by rfl)]
    · have h1 := fits_le ha
      have h2 := fits_le hb
      have hsz := ByteArray.size_append (a := a) (b := b)
      rw [if_pos ⟨rfl, rfl⟩, stylusref15_Join.j0, if_neg (by simp), wq _ (by omega) (by omega)]
      by_cases h : a.size + b.size ≤ 16
      · rw [if_pos (by omega), if_pos (by omega), if_pos h]
      · rw [if_neg (by omega), if_pos (by omega), if_neg h, rhalf_f _ (by omega), Option.bind_some, rfits_f, Option.bind_some]
        cases hx : fits (half (a ++ b)).1
        · rw [if_neg (by simp), if_neg (by simp)]
        · rw [if_pos rfl, rfits_f, Option.bind_some]
          cases hy : fits (half (a ++ b)).2
          · rw [if_neg (by simp), if_neg (by simp)]
          · rw [if_pos rfl, if_pos ⟨rfl, rfl⟩]
theorem join_spec (a b : ByteArray) (h : join a b ≠ []) : (∀ s ∈ join a b, fits s = true) ∧ cat (join a b) = ld a ++ ld b ∧ (join a b).length ≤ 2 := by
  unfold join at h ⊢
  by_cases hf : fits a = true ∧ fits b = true
  · rw [if_pos hf] at h ⊢
    by_cases h16 : a.size + b.size ≤ 16
    · rw [if_pos h16]
      have h1 := fits_spec hf.1
      have h2 := fits_spec hf.2
      refine ⟨fun s hs => ?_, by rw [cat_one, ld_app], by simp⟩
      rw [List.mem_singleton.mp hs]
      exact fits_mk (by rw [ByteArray.size_append]; omega) (by rw [ByteArray.size_append]; omega) (by rw [ld_app, Sp.valid_app h1.2.2]; exact h2.2.2)
    · rw [if_neg h16] at h ⊢
      by_cases hh : fits (half (a ++ b)).1 = true ∧ fits (half (a ++ b)).2 = true
      · rw [if_pos hh]
        refine ⟨fun s hs => ?_, ?_, by simp⟩
        · simp only [List.mem_cons, List.not_mem_nil, or_false] at hs
          rcases hs with rfl | rfl
          · exact hh.1
          · exact hh.2
        · rw [cat_two, ← ld_app, half_cat, ld_app]
      · rw [if_neg hh]
        refine ⟨fun s hs => ?_, by rw [cat_two], by simp⟩
        simp only [List.mem_cons, List.not_mem_nil, or_false] at hs
        rcases hs with rfl | rfl
        · exact hf.1
        · exact hf.2
  · rw [if_neg hf] at h; exact absurd rfl h
theorem join_nil (a b : ByteArray) (h : join a b = []) : ¬ (fits a = true ∧ fits b = true) := by
  intro hf
  unfold join at h
  rw [if_pos hf] at h
  split at h
  · cases h
  · split at h <;> cases h
theorem texts_l0 (l : List ByteArray) (hn : l.length ≤ 100000) : ∀ (k i : Nat), i ≤ l.length → l.length - i < k → stylusref15_Texts.l0 k l l i = some true := by
  intro k
  induction k with
  | zero => intro i h1 h2; omega
  | succ k ih =>
    intro i h1 h2
    rw [stylusref15_Texts.l0]
    by_cases hi : i < l.length
    · rw [if_pos (by omega), if_pos (by omega), if_pos (by omega), if_pos rfl, wq ((i : Int) + 1) (by omega) (by omega), show (i : Int) + 1 = ((i + 1 : Nat) : Int) by omega]
      exact ih (i + 1) (by omega) (by omega)
    · rw [if_neg (by omega)]
theorem texts_f (l : List ByteArray) (hn : l.length ≤ 100000) (k : Nat) (hk : l.length < k) : stylusref15_Texts.f k l l = some true := by
  unfold stylusref15_Texts.f
  rw [if_pos rfl]
  exact texts_l0 l hn k 0 (by omega) (by omega)
theorem whole_l0 (l : List ByteArray) (hn : l.length ≤ 1000) (hs : ∀ s ∈ l, s.size ≤ 16) : ∀ (k i : Nat) (acc : ByteArray), i ≤ l.length → l.length - i < k → acc.size ≤ 16 * i →
    ∃ r, stylusref15_Whole.l0 k l acc i = some r ∧ ld r = ld acc ++ cat (l.drop i) := by
  intro k
  induction k with
  | zero => intro i acc h1 h2; omega
  | succ k ih =>
    intro i acc h1 h2 h3
    rw [stylusref15_Whole.l0]
    by_cases hi : i < l.length
    · have h4 : (l.getD i ByteArray.empty).size ≤ 16 := by
        rw [List.getD_eq_getElem?_getD, List.getElem?_eq_getElem hi]; exact hs _ (List.getElem_mem hi)
      rw [if_pos (by omega), if_pos (by omega), rdOf_nat, if_pos (by omega), wq ((i : Int) + 1) (by omega) (by omega), show (i : Int) + 1 = ((i + 1 : Nat) : Int) by omega]
      obtain ⟨r, r1, r2⟩ := ih (i + 1) (acc ++ l.getD i ByteArray.empty) (by omega) (by omega) (by rw [ByteArray.size_append]; omega)
      refine ⟨r, r1, ?_⟩
      rw [r2, ld_app, getD_drop l i hi, List.append_assoc]; rfl
    · rw [if_neg (by omega), List.drop_of_length_le (by omega)]
      exact ⟨acc, rfl, by simp [cat]⟩
theorem whole_f (l : List ByteArray) (hn : l.length ≤ 1000) (hs : ∀ s ∈ l, s.size ≤ 16) (k : Nat) (hk : l.length < k) : ∃ r, stylusref15_Whole.f k l = some r ∧ ld r = cat l := by
  obtain ⟨r, r1, r2⟩ := whole_l0 l hn hs k 0 ⟨#[]⟩ (by omega) (by omega) (by decide)
  exact ⟨r, r1, by rw [r2]; rfl⟩
theorem lives_40 : styluslaw15_lives.f 40 = some true := by kernel_rfl
theorem lives_f (k : Nat) (hk : 40 ≤ k) : styluslaw15_lives.f k = some true := by
  induction k with
  | zero => omega
  | succ k ih =>
    by_cases h : k + 1 = 40
    · rw [h]; exact lives_40
    · exact styluslaw15_lives.mono k true (ih (by omega))
theorem ChunkCuts : styluslaw15_ChunkCuts.Pure := by
  intro a0 _
  refine ⟨1000, ?_⟩
  unfold styluslaw15_ChunkCuts.f
  by_cases h : 400 < a0.size
  · rw [if_pos (by omega), lives_f 1000 (by omega), Option.bind_some]
  · obtain ⟨r, r1, r2, r3, r4, r5⟩ := cut_f a0 (by omega) 1000 (by omega)
    rw [if_neg (by omega), half_f a0 (by omega), Option.bind_some, rhalf_f a0 (by omega), Option.bind_some, r1, Option.bind_some, r2, Option.bind_some, texts_f r (by omega) 1000 (by omega), Option.bind_some, if_pos rfl, if_pos rfl, if_pos rfl, fits_f, Option.bind_some, rfits_f, Option.bind_some, if_pos (by simp), lives_f 1000 (by omega), Option.bind_some]
theorem joins_l0 (a b : ByteArray) (l : List ByteArray) (hn : l.length ≤ 50) : ∀ (k i : Nat), i ≤ l.length → l.length - i + 200 < k → (∀ j, j < i → (l.getD j ByteArray.empty).size ≤ 100) → styluslaw15_ChunkJoins.l0 k a b l i = some true := by
  intro k
  induction k with
  | zero => intro i h1 h2; omega
  | succ k ih =>
    intro i h1 h2 h3
    rw [styluslaw15_ChunkJoins.l0]
    by_cases hi : i < l.length
    · rw [if_pos (by omega), if_pos (by omega), rdOf_nat]
      by_cases h : (l.getD i ByteArray.empty).size > 100
      · rw [if_pos (by omega), lives_f k (by omega), Option.bind_some]
      · rw [if_neg (by omega), wq ((i : Int) + 1) (by omega) (by omega), show (i : Int) + 1 = ((i + 1 : Nat) : Int) by omega]
        refine ih (i + 1) (by omega) (by omega) (fun j hj => ?_)
        by_cases hji : j = i
        · subst hji; omega
        · exact h3 j (by omega)
    · have hsm : Small l := by
        intro s hs
        obtain ⟨j, hj, rfl⟩ := List.getElem_of_mem hs
        have := h3 j (by omega)
        rw [List.getD_eq_getElem?_getD, List.getElem?_eq_getElem hj] at this
        simp at this; omega
      have hjl : (join a b).length ≤ 2 := by
        by_cases hj : join a b = []
        · rw [hj]; simp
        · exact (join_spec a b hj).2.2
      rw [if_neg (by omega), join_f a b k (by omega), Option.bind_some, rjoin_f a b k (by omega), Option.bind_some, texts_f _ (by omega) k (by omega), Option.bind_some, if_pos rfl, tight_f l hsm (by omega) k (by omega), Option.bind_some, rtight_f l hsm (by omega) k (by omega), Option.bind_some, if_pos (by simp), lives_f k (by omega), Option.bind_some]
theorem joins_j0 (a b : ByteArray) (l : List ByteArray) (c : Bool) (h : c = false → l.length ≤ 50) (k : Nat) (hk : 300 ≤ k) : styluslaw15_ChunkJoins.j0 k a b l c = some true := by
  obtain ⟨k, rfl⟩ : ∃ j, k = j + 1 := ⟨k - 1, by omega⟩
  rw [styluslaw15_ChunkJoins.j0]
  cases c
  · have := h rfl
    rw [if_neg (by simp)]
    exact joins_l0 a b l this k 0 (by omega) (by omega) (fun j hj => by omega)
  · rw [if_pos rfl, lives_f k (by omega), Option.bind_some]
theorem ChunkJoins (a b : ByteArray) (l : List ByteArray) : styluslaw15_ChunkJoins.f 1000 a b l = some true := by
  unfold styluslaw15_ChunkJoins.f
  split
  · exact joins_j0 a b l true (fun h => by cases h) 1000 (by omega)
  · split
    · exact joins_j0 a b l true (fun h => by cases h) 1000 (by omega)
    · refine joins_j0 a b l _ (fun h => ?_) 1000 (by omega)
      have := of_decide_eq_false h
      omega
theorem wl0 (a b : ByteArray) (ha : a.size ≤ 100) (hb : b.size ≤ 100) (l : List ByteArray) (hf : ∀ s ∈ l, fits s = true) (hc : cat l = ld a ++ ld b) (hn : l.length ≤ 2) : ∀ (k i : Nat), i ≤ l.length → l.length - i + 100 < k → styluslaw15_ChunkWhole.l0 k a b l i = some true := by
  intro k
  induction k with
  | zero => intro i h1 h2; omega
  | succ k ih =>
    intro i h1 h2
    rw [styluslaw15_ChunkWhole.l0]
    by_cases hi : i < l.length
    · have hfi : fits (l.getD i ByteArray.empty) = true := by
        rw [List.getD_eq_getElem?_getD, List.getElem?_eq_getElem hi]; exact hf _ (List.getElem_mem hi)
      rw [if_pos (by omega), if_pos (by omega), rdOf_nat, fits_f, Option.bind_some, hfi, if_pos rfl, wq ((i : Int) + 1) (by omega) (by omega), show (i : Int) + 1 = ((i + 1 : Nat) : Int) by omega]
      exact ih (i + 1) (by omega) (by omega)
    · obtain ⟨r, r1, r2⟩ := whole_f l (by omega) (fun s hs => fits_le (hf s hs)) k (by omega)
      rw [if_neg (by omega), r1, Option.bind_some, if_pos (by omega), if_pos (by rw [Lib.toList_data, Lib.toList_data]; show ld r = ld (a ++ b); rw [r2, hc, ld_app]), lives_f k (by omega), Option.bind_some]
theorem wj1 (a b : ByteArray) (ha : a.size ≤ 100) (hb : b.size ≤ 100) (k : Nat) (hk : 300 ≤ k) : styluslaw15_ChunkWhole.j1 k a b false = some true := by
  obtain ⟨k, rfl⟩ : ∃ j, k = j + 1 := ⟨k - 1, by omega⟩
  rw [styluslaw15_ChunkWhole.j1, if_neg (by simp), join_f a b k (by omega), Option.bind_some]
  by_cases h : join a b = []
  · have hn := join_nil a b h
    rw [h, if_pos (by simp), fits_f, Option.bind_some]
    cases hfa : fits a
    · rw [if_neg (by simp), lives_f k (by omega), Option.bind_some]
    · rw [if_pos rfl, fits_f, Option.bind_some]
      cases hfb : fits b
      · rw [if_neg (by simp), lives_f k (by omega), Option.bind_some]
      · exact absurd ⟨hfa, hfb⟩ hn
  · obtain ⟨h1, h2, h3⟩ := join_spec a b h
    have : 0 < (join a b).length := List.length_pos_iff.mpr h
    rw [if_neg (by omega)]
    exact wl0 a b ha hb _ h1 h2 h3 k 0 (by omega) (by omega)
theorem wj0 (x a b : ByteArray) (c : Bool) (h : c = false → x.size ≤ 400 ∧ a.size ≤ 100 ∧ b.size ≤ 100) (k : Nat) (hk : 900 ≤ k) : styluslaw15_ChunkWhole.j0 k x a b c = some true := by
  obtain ⟨k, rfl⟩ : ∃ j, k = j + 1 := ⟨k - 1, by omega⟩
  rw [styluslaw15_ChunkWhole.j0]
  cases c
  · obtain ⟨h1, h2, h3⟩ := h rfl
    obtain ⟨r, r1, r2, r3, r4, r5⟩ := cut_f x (by omega) k (by omega)
    rw [if_neg (by simp), r1, Option.bind_some, r2, Option.bind_some, if_neg (by simp)]
    by_cases hr : r = []
    · subst hr; rw [if_neg (by simp)]; exact wj1 a b h2 h3 k (by omega)
    · have hp : 0 < r.length := List.length_pos_iff.mpr hr
      have hft := tight_fits r none r3
      obtain ⟨z, z1, z2⟩ := whole_f r (by omega) (fun s hs => fits_le (hft s hs)) k (by omega)
      rw [if_pos (by omega), tight_f r (fun s hs => by have := fits_le (hft s hs); omega) (by omega) k (by omega), Option.bind_some, r3, if_pos rfl, z1, Option.bind_some,
        show (z.toList != x.toList) = false by rw [Lib.toList_data, Lib.toList_data]; rw [bne_eq_false_iff_eq]; exact z2.trans (r5 hr)]
      exact wj1 a b h2 h3 k (by omega)
  · rw [if_pos rfl, lives_f k (by omega), Option.bind_some]
theorem ChunkWhole : styluslaw15_ChunkWhole.Pure := by
  intro x a b _ _ _
  refine ⟨1000, ?_⟩
  unfold styluslaw15_ChunkWhole.f
  split
  · exact wj0 x a b true (fun h => by cases h) 1000 (by omega)
  · split
    · exact wj0 x a b true (fun h => by cases h) 1000 (by omega)
    · refine wj0 x a b _ (fun h => ?_) 1000 (by omega)
      have := of_decide_eq_false h
      omega
end Go.Proofs.Ytgkjagfdlhcgjaa.Cb
