import Derived.Test.YtgkjagfdlhcgjaaKj
/- The references of trees, in plain words; levels of a tree. -/
namespace Go.Proofs.Ytgkjagfdlhcgjaa.Kk
open Go.RowKit Go.Proofs.Ytgkjagfdlhcgjaa.U Go.Proofs.Ytgkjagfdlhcgjaa.QK Go.Proofs.Ytgkjagfdlhcgjaa.Kt Go.Proofs.Ytgkjagfdlhcgjaa.Ka Go.Proofs.Ytgkjagfdlhcgjaa.Kb Go.Proofs.Ytgkjagfdlhcgjaa.Kc Go.Proofs.Ytgkjagfdlhcgjaa.Kd_ Go.Proofs.Ytgkjagfdlhcgjaa.Ke Go.Proofs.Ytgkjagfdlhcgjaa.Kf Go.Proofs.Ytgkjagfdlhcgjaa.Kh Go.Proofs.Ytgkjagfdlhcgjaa.Ki Go.Proofs.Ytgkjagfdlhcgjaa.Kj Go.Proofs.YtgkjagfdlhcgjaaW.PrintWords Go.Proofs.YtgkjagfdlhcgjaaW.PrintLast Go.Proofs.YtgkjagfdlhcgjaaW.PrintMore
set_option linter.unusedVariables false
theorem wq (x : Int) (h0 : -9223372036854775808 ≤ x) (h1 : x ≤ 9223372036854775807) : wrap64 x = x := by unfold wrap64; omega
theorem groups_l (n : Nat) : ∀ (k : Nat) (x : List Int), n < k → n ≤ 1000000 → x.length + n ≤ 2000000 → ∃ r, stylusref16_Groups.l0 k (n : Int) x = some r ∧ r.length = x.length + glen n := by
  induction n using Nat.strongRecOn with
  | _ n ih =>
    intro k x hk hn hx
    obtain ⟨k, rfl⟩ : ∃ m, k = m + 1 := ⟨k - 1, by omega⟩
    rw [stylusref16_Groups.l0, glen]
    by_cases h0 : n = 0
    · rw [if_neg (by omega), dif_pos h0]; exact ⟨x, rfl, rfl⟩
    · rw [if_pos (by omega), dif_neg h0]
      have hp := grp_pos h0
      have hg : grp n = if n = 9 then 7 else min n 8 := rfl
      by_cases h9 : n = 9
      · rw [if_pos h9] at hg
        rw [if_pos (by omega), if_pos (by omega), wq _ (by omega) (by omega), show (n : Int) - 7 = ((n - grp n : Nat) : Int) by omega]
        obtain ⟨r, h1, h2⟩ := ih (n - grp n) (by omega) k (x ++ [7]) (by omega) (by omega) (by rw [List.length_append, List.length_singleton]; omega)
        exact ⟨r, h1, by rw [h2, List.length_append, List.length_singleton]; omega⟩
      · rw [if_neg h9] at hg
        have hm : mn (n : Int) 8 = (grp n : Int) := by unfold mn; rw [hg]; split <;> omega
        rw [if_neg (by omega), if_pos (by omega), hm, wq _ (by omega) (by omega), show (n : Int) - (grp n : Int) = ((n - grp n : Nat) : Int) by omega]
        obtain ⟨r, h1, h2⟩ := ih (n - grp n) (by omega) k (x ++ [(grp n : Int)]) (by omega) (by omega) (by rw [List.length_append, List.length_singleton]; omega)
        exact ⟨r, h1, by rw [h2, List.length_append, List.length_singleton]; omega⟩
theorem height_l (n : Nat) : ∀ (k : Nat) (h : Int), n + 2 ≤ k → n ≤ 1000000 → n ≠ 0 → 0 ≤ h → h + n ≤ 2000000 → stylusref16_Height.l0 k (n : Int) h = some (hts n h) := by
  induction n using Nat.strongRecOn with
  | _ n ih =>
    intro k h hk hn h0 hh hb
    obtain ⟨k, rfl⟩ : ∃ m, k = m + 1 := ⟨k - 1, by omega⟩
    rw [stylusref16_Height.l0, hts]
    by_cases h1 : n ≤ 1
    · rw [if_neg (by omega), dif_neg (by omega), if_pos h1]
    · rw [if_pos (by omega)]
      by_cases h8 : 8 < n
      · rw [if_neg (by omega), dif_pos h8]
        obtain ⟨r, hr, hl⟩ := groups_l n k [] (by omega) hn (by simp; omega)
        have hlt := glen_lt (n := n) (by omega)
        have hp := glen_pos h0
        unfold stylusref16_Groups.f
        rw [hr, Option.bind_some, hl, wq _ (by omega) (by omega)]
        simp only [List.length_nil, Nat.zero_add]
        exact ih _ hlt k (h + 1) (by omega) (by omega) hp (by omega) (by omega)
      · rw [if_pos (by omega), dif_neg h8, if_neg h1, wq _ (by omega) (by omega)]
theorem height_f (n : Nat) (hn : n ≤ 1000) : stylusref16_Height.f 2000 (n : Int) 0 = some (if n = 0 then -1 else hts n 0) := by
  unfold stylusref16_Height.f
  by_cases h0 : n = 0
  · rw [if_pos (by omega), if_pos h0]
  · rw [if_neg (by omega), if_neg h0]
    exact height_l n 2000 0 (by omega) (by omega) h0 (Int.le_refl 0) (by omega)
/-- how many bits -/
def bits (n : Nat) : Nat := if h : n = 0 then 0 else bits (n / 2) + 1
  termination_by n
  decreasing_by omega
theorem bits_lt (n : Nat) : n < 2 ^ bits n := by
  induction n using Nat.strongRecOn with
  | _ n ih =>
    rw [bits]
    by_cases h : n = 0
    · rw [dif_pos h, h]; decide
    · rw [dif_neg h, Nat.pow_succ]
      have := ih (n / 2) (by omega)
      omega
theorem bits_le (n : Nat) : bits n ≤ n := by
  induction n using Nat.strongRecOn with
  | _ n ih =>
    rw [bits]
    by_cases h : n = 0
    · rw [dif_pos h]; omega
    · rw [dif_neg h]; have := ih (n / 2) (by omega); omega
theorem bits_l (n : Nat) : ∀ (k : Nat) (x : Int), n < k → n ≤ 1000000 → 0 ≤ x → x + n ≤ 2000000 → stylusref16_Bits.l0 k (n : Int) x = some (x + (bits n : Int)) := by
  induction n using Nat.strongRecOn with
  | _ n ih =>
    intro k x hk hn hx hb
    obtain ⟨k, rfl⟩ : ∃ m, k = m + 1 := ⟨k - 1, by omega⟩
    rw [stylusref16_Bits.l0, bits]
    by_cases h0 : n = 0
    · rw [if_neg (by omega), dif_pos h0]; simp
    · rw [if_pos (by omega), dif_neg h0, Int.tdiv_eq_ediv_of_nonneg (by omega), show (n : Int) / 2 = ((n / 2 : Nat) : Int) by omega, wq _ (by omega) (by omega), wq _ (by omega) (by omega), ih (n / 2) (by omega) k (x + 1) (by omega) (by omega) (by omega) (by omega)]
      congr 1; omega
theorem bits_f (n : Nat) (hn : n ≤ 1000) : stylusref16_Bits.f 2000 (n : Int) = some (bits n : Int) := by
  unfold stylusref16_Bits.f
  rw [bits_l n 2000 0 (by omega) (by omega) (by omega) (by omega), Int.zero_add]
theorem pow_bits {h n : Nat} (hp : 2 ^ h ≤ n) : h ≤ bits n := by
  have hb := bits_lt n
  rcases Nat.lt_or_ge (bits n) h with hlt | hge
  · have := Nat.pow_le_pow_right (n := 2) (by omega) hlt
    rw [Nat.pow_succ] at this
    omega
  · exact hge
/-! ### texts -/
theorem cat_ld (l : List ByteArray) : ld (cat l) = (l.map ld).flatten := rfl
theorem cat_cons (s : ByteArray) (l : List ByteArray) : cat (s :: l) = s ++ cat l := by apply ld_ext; simp [cat_ld, ld]
theorem cat_app (a b : List ByteArray) : cat (a ++ b) = cat a ++ cat b := by apply ld_ext; simp [cat_ld, ld]
theorem cat_size_le (l : List ByteArray) (h : ∀ s ∈ l, s.size ≤ 16) : (cat l).size ≤ 16 * l.length := by
  induction l with
  | nil => decide
  | cons s t ih => rw [cat_cons, ByteArray.size_append, List.length_cons]; have := h s (by simp); have := ih (fun x hx => h x (by simp [hx])); omega
theorem rd_drop (l : List ByteArray) (i : Nat) (h : i < l.length) : l.drop i = rdOf ByteArray.empty l (i : Int) :: l.drop (i + 1) := by
  rw [List.drop_eq_getElem_cons h]
  unfold rdOf
  rw [Int.toNat_natCast, List.getD_eq_getElem?_getD, List.getElem?_eq_getElem h]; rfl
theorem whole_l (l : List ByteArray) (hn : l.length ≤ 1000000) : ∀ (k i : Nat) (x : ByteArray), i ≤ l.length → l.length - i < k → x.size + (cat (l.drop i)).size ≤ 1000000000 → stylusref15_Whole.l0 k l x (i : Int) = some (x ++ cat (l.drop i)) := by
  intro k
  induction k with
  | zero => intro i x h1 h2; omega
  | succ k ih =>
    intro i x h1 h2 hs
    rw [stylusref15_Whole.l0]
    by_cases hi : i < l.length
    · have hd := rd_drop l i hi
      rw [hd, cat_cons] at hs ⊢
      rw [ByteArray.size_append] at hs
      rw [if_pos (by omega), if_pos (by omega), if_pos (by omega), wq _ (by omega) (by omega), show (i : Int) + 1 = ((i + 1 : Nat) : Int) by omega, ih (i + 1) _ (by omega) (by omega) (by rw [ByteArray.size_append]; omega), ByteArray.append_assoc]
    · rw [if_neg (by omega), List.drop_of_length_le (by omega), cat_nil]
      first | (congr 1; done) | (congr 1; apply ld_ext; simp [ld])
theorem whole_f (l : List ByteArray) (hn : l.length ≤ 1000) (hs : ∀ s ∈ l, s.size ≤ 16) : stylusref15_Whole.f 2000 l = some (cat l) := by
  unfold stylusref15_Whole.f
  have hc := cat_size_le l hs
  have h := whole_l l (by omega) 2000 0 ⟨#[]⟩ (by omega) (by omega) (by rw [List.drop_zero]; show 0 + _ ≤ _; omega)
  rw [List.drop_zero] at h
  rw [show (0 : Int) = ((0 : Nat) : Int) from rfl, h]
  first | (congr 1; done) | (congr 1; apply ld_ext; simp [ld])
theorem texts_l (l : List ByteArray) (hn : l.length ≤ 1000000) : ∀ (k i : Nat), i ≤ l.length → l.length - i < k → stylusref15_Texts.l0 k l l (i : Int) = some true := by
  intro k
  induction k with
  | zero => intro i h1 h2; omega
  | succ k ih =>
    intro i h1 h2
    rw [stylusref15_Texts.l0]
    by_cases hi : i < l.length
    · rw [if_pos (by omega), if_pos (by omega), if_pos (by omega), if_pos rfl, wq _ (by omega) (by omega), show (i : Int) + 1 = ((i + 1 : Nat) : Int) by omega]
      exact ih (i + 1) (by omega) (by omega)
    · rw [if_neg (by omega)]
theorem texts_f (l : List ByteArray) (hn : l.length ≤ 1000) : stylusref16_Texts.f 2000 l l = some true := by
  unfold stylusref16_Texts.f stylusref15_Texts.f
  rw [if_pos rfl]
  have h := texts_l l (by omega) 2000 0 (by omega) (by omega)
  rw [show (0 : Int) = ((0 : Nat) : Int) from rfl, h]; rfl
theorem rof_f {s : ByteArray} (h : s.size ≤ 140737488351232) : stylusref04_Of.f s = some ((s.size : Int), (Sp.runes (ld s) : Int), (Sp.lines (ld s) : Int)) := by
  unfold stylusref04_Of.f stylusref01_Runes.f stylusref01_Lines.f
  rw [if_pos h, Option.bind_some, if_pos h, Option.bind_some]
/-! ### leaves -/
theorem sums_leafs (l : List ByteArray) : sumB (l.map leafT) = ((cat l).size : Int) ∧ sumR (l.map leafT) = (Sp.runes (ld (cat l)) : Int) ∧ sumL (l.map leafT) = (Sp.lines (ld (cat l)) : Int) := by
  induction l with
  | nil => exact ⟨rfl, rfl, rfl⟩
  | cons s t ih =>
    obtain ⟨h1, h2, h3⟩ := ih
    unfold sumB at h1
    unfold sumR at h2
    unfold sumL at h3
    have e : ld (cat (s :: t)) = ld s ++ ld (cat t) := by rw [cat_cons]; simp [ld]
    refine ⟨?_, ?_, ?_⟩
    · unfold sumB; rw [List.map_cons, List.map_cons, List.sum_cons, h1, cat_cons, ByteArray.size_append]; show (s.size : Int) + _ = _; omega
    · unfold sumR; rw [List.map_cons, List.map_cons, List.sum_cons, h2, e, Sp.runes_append]; show (Sp.runes (ld s) : Int) + _ = _; omega
    · unfold sumL; rw [List.map_cons, List.map_cons, List.sum_cons, h3, e, Sp.lines_append]; show (Sp.lines (ld s) : Int) + _ = _; omega
theorem leafs_lv (l : List ByteArray) (h : ∀ s ∈ l, fits s = true) (hn : l.length ≤ 1000) : Lv 0 (l.map leafT) := by
  obtain ⟨h1, h2, h3⟩ := sums_leafs l
  have hc := cat_size_le l (fun s hs => (fits_spec (h s hs)).2.1)
  have hr := Sp.runes_le (ld (cat l))
  have hl := Sp.lines_le (ld (cat l))
  rw [ld_len] at hr hl
  refine ⟨fun t ht => ?_, Int.le_refl 0, by rw [h1]; omega, by rw [h2]; omega, by rw [h3]; omega⟩
  obtain ⟨s, hs, rfl⟩ := List.mem_map.1 ht
  exact ⟨leaf_none (h s hs), rfl, Int.natCast_nonneg _, Int.natCast_nonneg _, Int.natCast_nonneg _⟩
theorem leafs_fine (l : List ByteArray) (h : ∀ s ∈ l, fits s = true) : ∀ t ∈ l.map leafT, FineT t := by
  intro t ht
  obtain ⟨s, hs, rfl⟩ := List.mem_map.1 ht
  exact leaf_good (h s hs)
/-! ### first and last -/
theorem first_head {t : Tr} (h : FineT t) : ∃ s r, chunks t = s :: r ∧ first t = s := by
  induction h with
  | leaf s r l hf ho =>
    refine ⟨s, [], ?_, by rw [first]⟩
    rw [chunks, if_neg (fits_size hf).1]
  | join kids d h2 h8 hl hd hk ih =>
    obtain ⟨k, ks, rfl⟩ : ∃ k ks, kids = k :: ks := by cases kids with | nil => simp at h2 | cons k ks => exact ⟨k, ks, rfl⟩
    obtain ⟨s, r, e1, e2⟩ := ih k (by simp)
    refine ⟨s, r ++ chunksL ks, ?_, ?_⟩
    · rw [joinT_chunks (d := d) (by simp), chunksL_cons, e1]; rfl
    · unfold joinT; rw [first, firstL, e2]
theorem last_end {t : Tr} (h : FineT t) : ∃ s r, chunks t = r ++ [s] ∧ last t = s := by
  induction h with
  | leaf s r l hf ho =>
    refine ⟨s, [], ?_, by rw [last]⟩
    rw [chunks, if_neg (fits_size hf).1]; rfl
  | join kids d h2 h8 hl hd hk ih =>
    have hne : kids.length ≠ 0 := by omega
    have hm : rdT kids ((kids.length : Int) - 1) ∈ kids := rdT_mem kids _ (by omega) (by omega)
    obtain ⟨s, r, e1, e2⟩ := ih _ hm
    have hd := chunksL_part kids (kids.length - 1)
    have he : kids.drop (kids.length - 1) = [rdT kids ((kids.length : Int) - 1)] := by
      rw [List.drop_eq_getElem_cons (by omega), List.drop_of_length_le (by omega)]
      unfold rdT
      rw [show ((kids.length : Int) - 1).toNat = kids.length - 1 by omega, List.getD_eq_getElem?_getD, List.getElem?_eq_getElem (by omega)]; rfl
    rw [he, chunksL_cons, chunksL, List.append_nil, e1, ← List.append_assoc] at hd
    refine ⟨s, _, by rw [joinT_chunks (d := d) hne]; exact hd.symm, ?_⟩
    unfold joinT
    rw [last_kids hne, e2]
end Go.Proofs.Ytgkjagfdlhcgjaa.Kk
