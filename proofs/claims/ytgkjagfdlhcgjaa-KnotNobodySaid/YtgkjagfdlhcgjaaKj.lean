import Derived.Test.YtgkjagfdlhcgjaaKi
import Derived.Test.YtgkjagfdlhcgjaaKh
/- Trees over chunks, in plain words: their chunks, counts, heights; that they are as they must be. -/
namespace Go.Proofs.Ytgkjagfdlhcgjaa.Kj
open Go.RowKit Go.Proofs.Ytgkjagfdlhcgjaa.U Go.Proofs.Ytgkjagfdlhcgjaa.QK Go.Proofs.Ytgkjagfdlhcgjaa.Kt Go.Proofs.Ytgkjagfdlhcgjaa.Ka Go.Proofs.Ytgkjagfdlhcgjaa.Kb Go.Proofs.Ytgkjagfdlhcgjaa.Kc Go.Proofs.Ytgkjagfdlhcgjaa.Kd_ Go.Proofs.Ytgkjagfdlhcgjaa.Ke Go.Proofs.Ytgkjagfdlhcgjaa.Kf Go.Proofs.Ytgkjagfdlhcgjaa.Kh Go.Proofs.Ytgkjagfdlhcgjaa.Ki Go.Proofs.YtgkjagfdlhcgjaaW.PrintWords Go.Proofs.YtgkjagfdlhcgjaaW.PrintLast Go.Proofs.YtgkjagfdlhcgjaaW.PrintMore
set_option linter.unusedVariables false
abbrev ld (s : ByteArray) : List UInt8 := s.data.toList
theorem ld_len (s : ByteArray) : (ld s).length = s.size := data_length s
theorem ld_ext {a b : ByteArray} (h : ld a = ld b) : a = b := by cases a; cases b; simp [ld] at h; subst h; rfl
def fits (s : ByteArray) : Bool := decide (1 ≤ s.size) && decide (s.size ≤ 16) && Sp.valid (ld s)
theorem fits_spec {s : ByteArray} (h : fits s = true) : 1 ≤ s.size ∧ s.size ≤ 16 ∧ Sp.valid (ld s) = true := by simpa [fits, and_assoc] using h
theorem nil_iff (s : ByteArray) : s.toList = ([] : List UInt8) ↔ s.size = 0 := by
  rw [Lib.toList_data, ← List.length_eq_zero_iff, data_length]
theorem fits_f (s : ByteArray) : chunk_Fits.f s = some (fits s) := by
  unfold chunk_Fits.f fits
  by_cases h0 : s.toList = ([] : List UInt8)
  · rw [if_pos h0]; rw [nil_iff] at h0; simp [h0]
  · rw [if_neg h0]; rw [nil_iff] at h0
    by_cases h1 : (s.size : Int) ≤ 16
    · rw [if_pos h1]; unfold utf_Valid.f; rw [if_pos (by omega), Option.bind_some, decide_eq_true (show 1 ≤ s.size by omega), decide_eq_true (show s.size ≤ 16 by omega)]; rfl
    · rw [if_neg h1, decide_eq_false (show ¬ s.size ≤ 16 by omega)]; simp
theorem rfits_f (s : ByteArray) : stylusref15_Fits.f s = some (fits s) := by
  unfold stylusref15_Fits.f fits
  by_cases h0 : (s.size : Int) ≥ 1
  · rw [if_pos h0]
    by_cases h1 : (s.size : Int) ≤ 16
    · rw [if_pos h1]; unfold stylusref01_Valid.f; rw [if_pos (by omega), Option.bind_some, decide_eq_true (show 1 ≤ s.size by omega), decide_eq_true (show s.size ≤ 16 by omega)]; rfl
    · rw [if_neg h1, decide_eq_false (show ¬ s.size ≤ 16 by omega)]; simp
  · rw [if_neg h0, decide_eq_false (show ¬ 1 ≤ s.size by omega)]; simp
def leafT (s : ByteArray) : Tr := .node 0 s.size (Sp.runes (ld s)) (Sp.lines (ld s)) s []
theorem of_f {s : ByteArray} (h : s.size ≤ 140737488351232) : tally_Of.f s = some ((s.size : Int), (Sp.runes (ld s) : Int), (Sp.lines (ld s) : Int)) := by
  unfold tally_Of.f utf_Runes.f utf_Lines.f
  rw [if_pos h, Option.bind_some, if_pos h, Option.bind_some]
theorem leaf_at (w : World) {s : ByteArray} (h : fits s = true) : Calls Try.prog 32 #[.string s] w (LeafPost w (leafT s)) :=
  leaf_calls w s _ _ _ (by rw [fits_f, h]) (of_f (by have := fits_spec h; omega))
theorem leaf_not (w : World) {s : ByteArray} (h : fits s = false) : Calls Try.prog 32 #[.string s] w fun e w' => e = .returned (.pointer none) ∧ Below w.heap.size w w' :=
  leaf_no w s (by rw [fits_f, h])
theorem leaf_good {s : ByteArray} (h : fits s = true) : FineT (leafT s) := .leaf s _ _ (by rw [fits_f, h]) (of_f (by have := fits_spec h; omega))
theorem leaf_none {s : ByteArray} (h : fits s = true) : (leafT s).none = false := by
  show ((s.toList == []) && (([] : List Tr).length == 0)) = false
  have : ¬ s.toList = [] := fun e => by rw [nil_iff] at e; have := (fits_spec h).1; omega
  rw [beq_eq_false_iff_ne.mpr this]; rfl
theorem leaf_chunks {s : ByteArray} (h : fits s = true) : chunks (leafT s) = [s] := chunks_leaf (leaf_none h) rfl
theorem leafs_chunks (l : List ByteArray) (h : ∀ s ∈ l, fits s = true) : chunksL (l.map leafT) = l := by
  induction l with
  | nil => rw [List.map_nil, chunksL]
  | cons s t ih => rw [List.map_cons, chunksL, leaf_chunks (h s (by simp)), ih (fun x hx => h x (by simp [hx]))]; rfl
/-! ### chunks, counts -/
theorem joinT_chunks {d : Int} {ts : List Tr} (h : ts.length ≠ 0) : chunks (joinT ts) = chunksL ts := chunks_kids h
theorem chunksL_cons (t : Tr) (ts : List Tr) : chunksL (t :: ts) = chunks t ++ chunksL ts := by rw [chunksL]
theorem chunksL_part (ts : List Tr) (n : Nat) : chunksL (ts.take n) ++ chunksL (ts.drop n) = chunksL ts := by
  rw [chunksL_eq, chunksL_eq, chunksL_eq, ← List.flatten_append, ← List.map_append, List.take_append_drop]
theorem level_chunks (n : Nat) : ∀ ts : List Tr, ts.length = n → chunksL (level ts) = chunksL ts := by
  induction n using Nat.strongRecOn with
  | _ n ih =>
    intro ts hn
    by_cases h0 : ts.length = 0
    · obtain rfl := List.eq_nil_of_length_eq_zero h0
      rw [level_nil]
    · have hp := grp_pos h0
      rw [level_cons h0, chunksL_cons, joinT_chunks (d := 0) (by rw [List.length_take]; omega), ih _ (by rw [List.length_drop]; omega) _ rfl, chunksL_part]
/-- a property of trees that goes up -/
theorem upT_ind (P : Tr → List Tr → Prop) (hone : ∀ (d : Int) (t : Tr), Lv d [t] → P t [t]) (hjoin : ∀ (d : Int) (ts : List Tr), Lv d ts → 2 ≤ ts.length → ts.length ≤ 8 → P (joinT ts) ts) (hlev : ∀ (d : Int) (ts : List Tr), Lv d ts → 8 < ts.length → P (upT (level ts)) (level ts) → P (upT (level ts)) ts)
    (n : Nat) : ∀ (d : Int) (ts : List Tr), ts.length = n → Lv d ts → ts.length ≠ 0 → P (upT ts) ts := by
  induction n using Nat.strongRecOn with
  | _ n ih =>
    intro d ts hn hl h0
    by_cases h8 : 8 < ts.length
    · rw [upT_level h8]
      have hlt : (level ts).length < ts.length := by rcases level_len _ ts rfl with h' | h' <;> omega
      exact hlev d ts hl h8 (ih _ (by omega) (d + 1) (level ts) rfl (level_lv _ d ts rfl hl).1 (by rw [level_cons h0]; simp))
    · by_cases h1 : ts.length = 1
      · obtain ⟨t, rfl⟩ := List.length_eq_one_iff.mp h1
        rw [upT_one (by simp)]
        exact hone d t hl
      · rw [upT_join (by omega) (by omega)]
        exact hjoin d ts hl (by omega) (by omega)
theorem upT_chunks {d : Int} {ts : List Tr} (hl : Lv d ts) (h0 : ts.length ≠ 0) : chunks (upT ts) = chunksL ts := by
  refine upT_ind (fun t ts => chunks t = chunksL ts) (fun d t _ => ?_) (fun d ts hl h2 h8 => joinT_chunks (d := d) (by omega)) (fun d ts hl h8 h => ?_) ts.length d ts rfl hl h0
  · rw [chunksL_cons, chunksL, List.append_nil]
  · rw [h, level_chunks _ ts rfl]
theorem upT_sums {d : Int} {ts : List Tr} (hl : Lv d ts) (h0 : ts.length ≠ 0) : (upT ts).cb = sumB ts ∧ (upT ts).cr = sumR ts ∧ (upT ts).cl = sumL ts := by
  refine upT_ind (fun t ts => t.cb = sumB ts ∧ t.cr = sumR ts ∧ t.cl = sumL ts) (fun d t _ => ?_) (fun d ts hl h2 h8 => ⟨rfl, rfl, rfl⟩) (fun d ts hl h8 h => ?_) ts.length d ts rfl hl h0
  · exact ⟨by simp [sumB], by simp [sumR], by simp [sumL]⟩
  · obtain ⟨_, e1, e2, e3⟩ := level_lv _ d ts rfl hl
    rw [← e1, ← e2, ← e3]; exact h
theorem upT_none {d : Int} {ts : List Tr} (hl : Lv d ts) (h0 : ts.length ≠ 0) : (upT ts).none = false :=
  upT_ind (fun t _ => t.none = false) (fun d t h => (h.e t (by simp)).1) (fun d ts hl h2 h8 => (joinT_e hl (by omega)).1) (fun d ts hl h8 h => h) ts.length d ts rfl hl h0
theorem level_good (n : Nat) : ∀ (d : Int) (ts : List Tr), ts.length = n → Lv d ts → d ≤ 1000000 → 2 ≤ ts.length ∨ ts.length = 0 → (∀ t ∈ ts, FineT t) → ∀ t ∈ level ts, FineT t := by
  induction n using Nat.strongRecOn with
  | _ n ih =>
    intro d ts hn hl hd h2 hg t ht
    rcases h2 with h2 | h0
    · have hp := grp_pos (n := ts.length) (by omega)
      have hp2 := grp_two (n := ts.length) (by omega)
      rw [level_cons (by omega)] at ht
      rcases List.mem_cons.1 ht with rfl | ht
      · exact .join _ d (by rw [List.length_take]; omega) (by rw [List.length_take]; omega) (hl.take _) hd (fun k hk => hg k (List.mem_of_mem_take hk))
      · exact ih _ (by rw [List.length_drop]; omega) d _ rfl (hl.drop _) hd (by rw [List.length_drop]; omega) (fun k hk => hg k (List.mem_of_mem_drop hk)) t ht
    · obtain rfl := List.eq_nil_of_length_eq_zero h0
      rw [level_nil] at ht; cases ht
theorem upT_good (n : Nat) : ∀ (d : Int) (ts : List Tr), ts.length = n → Lv d ts → d + ts.length ≤ 1000000 → ts.length ≠ 0 → (∀ t ∈ ts, FineT t) → FineT (upT ts) := by
  induction n using Nat.strongRecOn with
  | _ n ih =>
    intro d ts hn hl hd h0 hg
    by_cases h8 : 8 < ts.length
    · rw [upT_level h8]
      have hlt : (level ts).length < ts.length := by rcases level_len _ ts rfl with h' | h' <;> omega
      exact ih _ (by omega) (d + 1) (level ts) rfl (level_lv _ d ts rfl hl).1 (by omega) (by rw [level_cons h0]; simp) (level_good _ d ts rfl hl (by omega) (.inl (by omega)) hg)
    · by_cases h1 : ts.length = 1
      · obtain ⟨t, rfl⟩ := List.length_eq_one_iff.mp h1
        rw [upT_one (by simp)]
        exact hg t (by simp)
      · rw [upT_join (by omega) (by omega)]
        exact .join ts d (by omega) (by omega) hl (by omega) hg
/-! ### heights -/
/-- how many groups -/
def glen (n : Nat) : Nat := if h : n = 0 then 0 else glen (n - grp n) + 1
  termination_by n
  decreasing_by have := grp_pos h; omega
theorem glen_level (n : Nat) : ∀ ts : List Tr, ts.length = n → (level ts).length = glen n := by
  induction n using Nat.strongRecOn with
  | _ n ih =>
    intro ts hn
    by_cases h0 : n = 0
    · subst h0
      obtain rfl := List.eq_nil_of_length_eq_zero hn
      rw [level_nil, glen]; rfl
    · have hp := grp_pos h0
      rw [level_cons (by omega), glen, dif_neg h0, List.length_cons, hn, ih (n - grp n) (by omega) _ (by rw [List.length_drop]; omega)]
theorem glen_lt {n : Nat} (h : 2 ≤ n) : glen n < n := by
  have e := glen_level n (List.replicate n .nil) (by simp)
  rcases level_len _ (List.replicate n Tr.nil) rfl with h' | h' <;> simp at h' <;> omega
theorem glen_pos {n : Nat} (h : n ≠ 0) : glen n ≠ 0 := by rw [glen, dif_neg h]; omega
/-- how high a tree over n knots of height h is -/
def hts (n : Nat) (h : Int) : Int := if _h : 8 < n then hts (glen n) (h + 1) else if n ≤ 1 then h else h + 1
  termination_by n
  decreasing_by have := glen_lt (n := n) (by omega); omega
theorem upT_h (n : Nat) : ∀ (d : Int) (ts : List Tr), ts.length = n → Lv d ts → ts.length ≠ 0 → (upT ts).h0 = hts n d := by
  induction n using Nat.strongRecOn with
  | _ n ih =>
    intro d ts hn hl h0
    rw [hts]
    by_cases h8 : 8 < n
    · rw [dif_pos h8, upT_level (by omega)]
      have hg := glen_level n ts hn
      have hlt := glen_lt (n := n) (by omega)
      exact ih _ hlt (d + 1) (level ts) hg (level_lv _ d ts rfl hl).1 (by rw [hg]; exact glen_pos (by omega))
    · rw [dif_neg h8]
      by_cases h1 : n ≤ 1
      · rw [if_pos h1, upT_one (by omega)]
        refine (hl.e _ ?_).2.1
        show ts.getD 0 .nil ∈ ts
        rw [List.getD_eq_getElem?_getD, List.getElem?_eq_getElem (by omega)]; exact List.getElem_mem _
      · rw [if_neg h1, upT_join (by omega) (by omega)]
        exact (joinT_e hl (by omega)).2.1
end Go.Proofs.Ytgkjagfdlhcgjaa.Kj
