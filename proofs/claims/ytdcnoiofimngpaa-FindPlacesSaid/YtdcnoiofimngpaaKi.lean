import Derived.Test.YtdcnoiofimngpaaKd
import Derived.Test.YtdcnoiofimngpaaKt
import Derived.Test.YtdcnoiofimngpaaShelf
/- Right: of trees that are as they must be. -/
namespace Go.Proofs.Ytdcnoiofimngpaa.Ki
open Go.RowKit Go.Proofs.Ytdcnoiofimngpaa.U Go.Proofs.Ytdcnoiofimngpaa.QK Go.Proofs.Ytdcnoiofimngpaa.Kt Go.Proofs.Ytdcnoiofimngpaa.Ka Go.Proofs.Ytdcnoiofimngpaa.Kb Go.Proofs.Ytdcnoiofimngpaa.Kd_ Go.Proofs.Ytdcnoiofimngpaa.Ke Go.Proofs.Ytdcnoiofimngpaa.Kf Go.Proofs.YtdcnoiofimngpaaW.PrintWords Go.Proofs.YtdcnoiofimngpaaW.PrintLast Go.Proofs.YtdcnoiofimngpaaW.PrintMore
set_option linter.unusedVariables false
set_option linter.unusedSimpArgs false
inductive FineT : Tr → Prop
  | leaf (s : ByteArray) (r l : Int) (hf : chunk_Fits.f s = some true) (ho : tally_Of.f s = some ((s.size : Int), r, l)) : FineT (.node 0 s.size r l s [])
  | join (kids : List Tr) (d : Int) (h2 : 2 ≤ kids.length) (h8 : kids.length ≤ 8) (hl : Lv d kids) (hd : d ≤ 1000000) (hk : ∀ k ∈ kids, FineT k) : FineT (joinT kids)
def Bx (w' : World) (g : Nat) (b r l : Int) : Prop := w'.heap[g]? = some (.cells #[.int .i64 b, .int .i64 r, .int .i64 l] 91 (0, 0))
theorem fits_size {s : ByteArray} (h : chunk_Fits.f s = some true) : ¬ s.toList = [] ∧ s.size ≤ 16 := by
  unfold chunk_Fits.f at h
  split at h
  · simp at h
  · rename_i h1
    split at h
    · rename_i h2; exact ⟨h1, by omega⟩
    · simp at h
end Go.Proofs.Ytdcnoiofimngpaa.Ki
/- Text, First, Last. -/
namespace Go.Proofs.Ytdcnoiofimngpaa.Kh
open Go.RowKit Go.Proofs.Ytdcnoiofimngpaa.QK Go.Proofs.Ytdcnoiofimngpaa.Kt Go.Proofs.Ytdcnoiofimngpaa.Ka Go.Proofs.Ytdcnoiofimngpaa.Kb Go.Proofs.Ytdcnoiofimngpaa.Kc Go.Proofs.YtdcnoiofimngpaaW.PrintWords Go.Proofs.YtdcnoiofimngpaaW.PrintLast Go.Proofs.YtdcnoiofimngpaaW.PrintMore
set_option linter.unusedVariables false
set_option linter.unusedSimpArgs false
/-- texts, one behind the other -/
def cat (l : List ByteArray) : ByteArray := ⟨((l.map (·.data.toList)).flatten).toArray⟩
theorem join_flat (xs : List (List UInt8)) : Lib.join xs [] = xs.flatten := by
  cases xs with
  | nil => rfl
  | cons x r =>
    rw [Lib.join_cons]
    unfold Lib.joinTail
    simp
theorem cat_nil : cat [] = ⟨#[]⟩ := rfl
theorem text_calls (w : World) (p : Option Addr) (t : Tr) (H : Rd w p t) (hm : (chunks t).length ≤ 1000000) (hs : (cat (chunks t)).size ≤ 140737488355328) :
    Calls Try.prog 86 #[.pointer p] w fun e w' => e = .returned (.string (cat (chunks t))) ∧ Below w.heap.size w w' := by
  have HG := Aside0.mk (chunks_calls w p t H hm)
  have HM : Aside0 ((chunks t).length ≤ 1000000 ∧ (cat (chunks t)).size ≤ 140737488355328) := ⟨hm, hs⟩
  have HJ : Aside0 (∀ (W : World) (A : Option Addr) (cp : Nat), Kd.R Kd.string 9 W w.heap.size (fun _ => True) (.slice A (chunks t).length cp) (chunks t) → Calls Try.prog 108 #[.slice A (chunks t).length cp, .string ⟨#[]⟩] W fun e w' => e = .returned (.string (cat (chunks t))) ∧ Below W.heap.size W w') := by
    refine ⟨fun W A cp hR => ?_⟩
    by_cases h0 : (chunks t).length = 0
    · have e : chunks t = [] := List.eq_nil_of_length_eq_zero h0
      rw [h0, e, cat_nil]
      exact (Try.strings_Join_none A cp ⟨#[]⟩ W).mono fun e w' ⟨h1, h2⟩ => ⟨h1, by rw [h2]; exact Below.refl _ _⟩
    · obtain ⟨g, cap, he, _, hlt, _⟩ := Kd.R_form hR (by omega)
      injection he with e1 _ e3
      subst e1
      obtain ⟨_, hcp, hC⟩ := Kd.R_reads' hR
      have h := Try.strings_Join g 0 cp (chunks t) ⟨#[]⟩ W (fun j x hj => by
        have hjl := (List.getElem?_eq_some_iff.1 hj).1
        obtain ⟨ad, q, hx⟩ := Kd.at_string hC (j : Int) (by omega) (by omega)
        injection q with q
        subst q
        rw [Int.toNat_natCast, add_plain] at hx
        rw [Nat.zero_add, hx]
        unfold rdOf
        rw [Int.toNat_natCast, List.getD_eq_getElem?_getD, hj]; rfl) hlt (by omega) hcp (by
          show (Lib.join ((chunks t).map (·.data.toList)) []).length ≤ _
          rw [join_flat]
          have := hs
          unfold cat at this
          simpa [ByteArray.size] using this)
      refine h.mono fun e w' ⟨h1, h2⟩ => ⟨?_, h2⟩
      rw [h1]
      show Ending.returned (Value.string ⟨(Lib.join ((chunks t).map (·.data.toList)) []).toArray⟩) = _
      rw [join_flat]
      rfl
  clear H hm hs
  go_enter Try.func86, Try.ntmps86
  go_wp2_with (first | (go_at_call 109; (with_reducible refine HG.out.mono ?_); rintro e w3 ⟨A4, cp4, rfl, ho, hb⟩; have HJ2 := Aside0.mk (HJ.out _ _ _ ho); have HB4 := Aside0.mk hb; clear ho hb HG) | (go_at_call 108; (with_reducible refine HJ2.out.mono ?_); rintro e w4 ⟨rfl, hb⟩; have HB5 := Aside0.mk (below_step HB4.out hb); clear hb))
  go_ret
  exact ⟨rfl, HB5.out⟩
mutual
def first : Tr → ByteArray
  | .nil => ⟨#[]⟩
  | .node _ _ _ _ s [] => s
  | .node _ _ _ _ _ (k :: ks) => firstL (k :: ks)
def firstL : List Tr → ByteArray
  | [] => ⟨#[]⟩
  | k :: _ => first k
end
mutual
def last : Tr → ByteArray
  | .nil => ⟨#[]⟩
  | .node _ _ _ _ s [] => s
  | .node _ _ _ _ _ (k :: ks) => lastL (k :: ks)
def lastL : List Tr → ByteArray
  | [] => ⟨#[]⟩
  | [k] => last k
  | _ :: k :: ks => lastL (k :: ks)
end
theorem lastL_eq (l : List Tr) (h : l.length ≠ 0) : lastL l = last (rdT l ((l.length : Int) - 1)) := by
  induction l with
  | nil => exact absurd rfl h
  | cons k ks ih =>
    cases ks with
    | nil => rw [lastL]; rfl
    | cons k2 ks =>
      rw [lastL, ih (by simp)]
      unfold rdT
      rw [show (((k2 :: ks).length : Int) - 1).toNat = ks.length by simp, show (((k :: k2 :: ks).length : Int) - 1).toNat = ks.length + 1 by simp]
      rfl
theorem first_kids {h b r l : Int} {s : ByteArray} {kids : List Tr} (hk : kids.length ≠ 0) : first (.node h b r l s kids) = first (rdT kids 0) := by
  cases kids with
  | nil => exact absurd rfl hk
  | cons k ks => rw [first, firstL]; rfl
theorem last_kids {h b r l : Int} {s : ByteArray} {kids : List Tr} (hk : kids.length ≠ 0) : last (.node h b r l s kids) = last (rdT kids ((kids.length : Int) - 1)) := by
  rw [← lastL_eq kids hk]
  cases kids with
  | nil => exact absurd rfl hk
  | cons k ks => rw [last]
theorem none_ends {t : Tr} (h : t.none = true) : first t = ⟨#[]⟩ ∧ last t = ⟨#[]⟩ := by
  cases t with
  | nil => rw [first, last]; exact ⟨rfl, rfl⟩
  | node hh b r l s kids =>
    have h' : ((s.toList == []) && (kids.length == 0)) = true := h
    rw [Bool.and_eq_true] at h'
    obtain rfl := List.eq_nil_of_length_eq_zero (beq_iff_eq.mp h'.2)
    rw [first, last]
    have e : s = ⟨#[]⟩ := by
      have h1 : s.toList = [] := beq_iff_eq.mp h'.1
      apply ByteArray.ext
      apply Array.toList_inj.mp
      rw [← Lib.toList_data, h1]
    exact ⟨e, e⟩
end Go.Proofs.Ytdcnoiofimngpaa.Kh
/- Trees over chunks, in plain words: their chunks, counts, heights; that they are as they must be. -/
namespace Go.Proofs.Ytdcnoiofimngpaa.Kj
open Go.RowKit Go.Proofs.Ytdcnoiofimngpaa.U Go.Proofs.Ytdcnoiofimngpaa.QK Go.Proofs.Ytdcnoiofimngpaa.Kt Go.Proofs.Ytdcnoiofimngpaa.Ka Go.Proofs.Ytdcnoiofimngpaa.Kb Go.Proofs.Ytdcnoiofimngpaa.Kc Go.Proofs.Ytdcnoiofimngpaa.Kd_ Go.Proofs.Ytdcnoiofimngpaa.Ke Go.Proofs.Ytdcnoiofimngpaa.Kf Go.Proofs.Ytdcnoiofimngpaa.Kh Go.Proofs.Ytdcnoiofimngpaa.Ki Go.Proofs.YtdcnoiofimngpaaW.PrintWords Go.Proofs.YtdcnoiofimngpaaW.PrintLast Go.Proofs.YtdcnoiofimngpaaW.PrintMore
set_option linter.unusedVariables false
abbrev ld (s : ByteArray) : List UInt8 := s.data.toList
theorem ld_len (s : ByteArray) : (ld s).length = s.size := data_length s
theorem ld_ext {a b : ByteArray} (h : ld a = ld b) : a = b := by cases a; cases b; simp [ld] at h; subst h; rfl
def fits (s : ByteArray) : Bool := decide (1 ≤ s.size) && decide (s.size ≤ 16) && Sp.valid (ld s)
theorem fits_spec {s : ByteArray} (h : fits s = true) : 1 ≤ s.size ∧ s.size ≤ 16 ∧ Sp.valid (ld s) = true := by simpa [fits, and_assoc] using h
theorem nil_iff (s : ByteArray) : s.toList = ([] : List UInt8) ↔ s.size = 0 := by
  rw [Lib.toList_data, ← List.length_eq_zero_iff, data_length]
theorem fits_f (s : ByteArray) : chunk_Fits.f s = some (fits s) := by
  unfold chunk_Fits.f fits
  by_cases h0 : s.toList = ([] : List UInt8)
  · rw [if_pos h0]; rw [nil_iff] at h0; simp [h0]
  · rw [if_neg h0]; rw [nil_iff] at h0
    by_cases h1 : (s.size : Int) ≤ 16
    · rw [if_pos h1]; unfold utf_Valid.f; rw [if_pos (by omega), Option.bind_some, decide_eq_true (show 1 ≤ s.size by omega), decide_eq_true (show s.size ≤ 16 by omega)]; rfl
    · rw [if_neg h1, decide_eq_false (show ¬ s.size ≤ 16 by omega)]; simp
theorem rfits_f (s : ByteArray) : stylusref15_Fits.f s = some (fits s) := by
  unfold stylusref15_Fits.f fits
  by_cases h0 : (s.size : Int) ≥ 1
  · rw [if_pos h0]
    by_cases h1 : (s.size : Int) ≤ 16
    · rw [if_pos h1]; unfold stylusref01_Valid.f; rw [if_pos (by omega), Option.bind_some, decide_eq_true (show 1 ≤ s.size by omega), decide_eq_true (show s.size ≤ 16 by omega)]; rfl
    · rw [if_neg h1, decide_eq_false (show ¬ s.size ≤ 16 by omega)]; simp
  · rw [if_neg h0, decide_eq_false (show ¬ 1 ≤ s.size by omega)]; simp
def leafT (s : ByteArray) : Tr := .node 0 s.size (Sp.runes (ld s)) (Sp.lines (ld s)) s []
theorem of_f {s : ByteArray} (h : s.size ≤ 140737488351232) : tally_Of.f s = some ((s.size : Int), (Sp.runes (ld s) : Int), (Sp.lines (ld s) : Int)) := by
  unfold tally_Of.f utf_Runes.f utf_Lines.f
  rw [if_pos h, Option.bind_some, if_pos h, Option.bind_some]
theorem leaf_at (w : World) {s : ByteArray} (h : fits s = true) : Calls Try.prog 74 #[.string s] w (LeafPost w (leafT s)) :=
  leaf_calls w s _ _ _ (by rw [fits_f, h]) (of_f (by have := fits_spec h; omega))
theorem leaf_not (w : World) {s : ByteArray} (h : fits s = false) : Calls Try.prog 74 #[.string s] w fun e w' => e = .returned (.pointer none) ∧ Below w.heap.size w w' :=
  leaf_no w s (by rw [fits_f, h])
theorem leaf_good {s : ByteArray} (h : fits s = true) : FineT (leafT s) := .leaf s _ _ (by rw [fits_f, h]) (of_f (by have := fits_spec h; omega))
theorem leaf_none {s : ByteArray} (h : fits s = true) : (leafT s).none = false := by
  show ((s.toList == []) && (([] : List Tr).length == 0)) = false
  have : ¬ s.toList = [] := fun e => by rw [nil_iff] at e; have := (fits_spec h).1; omega
  rw [beq_eq_false_iff_ne.mpr this]; rfl
theorem leaf_chunks {s : ByteArray} (h : fits s = true) : chunks (leafT s) = [s] := chunks_leaf (leaf_none h) rfl
theorem leafs_chunks (l : List ByteArray) (h : ∀ s ∈ l, fits s = true) : chunksL (l.map leafT) = l := by
  induction l with
  | nil => rw [List.map_nil, chunksL]
  | cons s t ih => rw [List.map_cons, chunksL, leaf_chunks (h s (by simp)), ih (fun x hx => h x (by simp [hx]))]; rfl
/-! ### chunks, counts -/
theorem joinT_chunks {d : Int} {ts : List Tr} (h : ts.length ≠ 0) : chunks (joinT ts) = chunksL ts := chunks_kids h
theorem chunksL_cons (t : Tr) (ts : List Tr) : chunksL (t :: ts) = chunks t ++ chunksL ts := by rw [chunksL]
theorem chunksL_part (ts : List Tr) (n : Nat) : chunksL (ts.take n) ++ chunksL (ts.drop n) = chunksL ts := by
  rw [chunksL_eq, chunksL_eq, chunksL_eq, ← List.flatten_append, ← List.map_append, List.take_append_drop]
theorem level_chunks (n : Nat) : ∀ ts : List Tr, ts.length = n → chunksL (level ts) = chunksL ts := by
  induction n using Nat.strongRecOn with
  | _ n ih =>
    intro ts hn
    by_cases h0 : ts.length = 0
    · obtain rfl := List.eq_nil_of_length_eq_zero h0
      rw [level_nil]
    · have hp := grp_pos h0
      rw [level_cons h0, chunksL_cons, joinT_chunks (d := 0) (by rw [List.length_take]; omega), ih _ (by rw [List.length_drop]; omega) _ rfl, chunksL_part]
/-- a property of trees that goes up -/
theorem upT_ind (P : Tr → List Tr → Prop) (hone : ∀ (d : Int) (t : Tr), Lv d [t] → P t [t]) (hjoin : ∀ (d : Int) (ts : List Tr), Lv d ts → 2 ≤ ts.length → ts.length ≤ 8 → P (joinT ts) ts) (hlev : ∀ (d : Int) (ts : List Tr), Lv d ts → 8 < ts.length → P (upT (level ts)) (level ts) → P (upT (level ts)) ts)
    (n : Nat) : ∀ (d : Int) (ts : List Tr), ts.length = n → Lv d ts → ts.length ≠ 0 → P (upT ts) ts := by
  induction n using Nat.strongRecOn with
  | _ n ih =>
    intro d ts hn hl h0
    by_cases h8 : 8 < ts.length
    · rw [upT_level h8]
      have hlt : (level ts).length < ts.length := by rcases level_len _ ts rfl with h' | h' <;> omega
      exact hlev d ts hl h8 (ih _ (by omega) (d + 1) (level ts) rfl (level_lv _ d ts rfl hl).1 (by rw [level_cons h0]; simp))
    · by_cases h1 : ts.length = 1
      · obtain ⟨t, rfl⟩ := List.length_eq_one_iff.mp h1
        rw [upT_one (by simp)]
        exact hone d t hl
      · rw [upT_join (by omega) (by omega)]
        exact hjoin d ts hl (by omega) (by omega)
theorem upT_chunks {d : Int} {ts : List Tr} (hl : Lv d ts) (h0 : ts.length ≠ 0) : chunks (upT ts) = chunksL ts := by
  refine upT_ind (fun t ts => chunks t = chunksL ts) (fun d t _ => ?_) (fun d ts hl h2 h8 => joinT_chunks (d := d) (by omega)) (fun d ts hl h8 h => ?_) ts.length d ts rfl hl h0
  · rw [chunksL_cons, chunksL, List.append_nil]
  · rw [h, level_chunks _ ts rfl]
theorem upT_sums {d : Int} {ts : List Tr} (hl : Lv d ts) (h0 : ts.length ≠ 0) : (upT ts).cb = sumB ts ∧ (upT ts).cr = sumR ts ∧ (upT ts).cl = sumL ts := by
  refine upT_ind (fun t ts => t.cb = sumB ts ∧ t.cr = sumR ts ∧ t.cl = sumL ts) (fun d t _ => ?_) (fun d ts hl h2 h8 => ⟨rfl, rfl, rfl⟩) (fun d ts hl h8 h => ?_) ts.length d ts rfl hl h0
  · exact ⟨by simp [sumB], by simp [sumR], by simp [sumL]⟩
  · obtain ⟨_, e1, e2, e3⟩ := level_lv _ d ts rfl hl
    rw [← e1, ← e2, ← e3]; exact h
theorem upT_none {d : Int} {ts : List Tr} (hl : Lv d ts) (h0 : ts.length ≠ 0) : (upT ts).none = false :=
  upT_ind (fun t _ => t.none = false) (fun d t h => (h.e t (by simp)).1) (fun d ts hl h2 h8 => (joinT_e hl (by omega)).1) (fun d ts hl h8 h => h) ts.length d ts rfl hl h0
theorem level_good (n : Nat) : ∀ (d : Int) (ts : List Tr), ts.length = n → Lv d ts → d ≤ 1000000 → 2 ≤ ts.length ∨ ts.length = 0 → (∀ t ∈ ts, FineT t) → ∀ t ∈ level ts, FineT t := by
  induction n using Nat.strongRecOn with
  | _ n ih =>
    intro d ts hn hl hd h2 hg t ht
    rcases h2 with h2 | h0
    · have hp := grp_pos (n := ts.length) (by omega)
      have hp2 := grp_two (n := ts.length) (by omega)
      rw [level_cons (by omega)] at ht
      rcases List.mem_cons.1 ht with rfl | ht
      · exact .join _ d (by rw [List.length_take]; omega) (by rw [List.length_take]; omega) (hl.take _) hd (fun k hk => hg k (List.mem_of_mem_take hk))
      · exact ih _ (by rw [List.length_drop]; omega) d _ rfl (hl.drop _) hd (by rw [List.length_drop]; omega) (fun k hk => hg k (List.mem_of_mem_drop hk)) t ht
    · obtain rfl := List.eq_nil_of_length_eq_zero h0
      rw [level_nil] at ht; cases ht
theorem upT_good (n : Nat) : ∀ (d : Int) (ts : List Tr), ts.length = n → Lv d ts → d + ts.length ≤ 1000000 → ts.length ≠ 0 → (∀ t ∈ ts, FineT t) → FineT (upT ts) := by
  induction n using Nat.strongRecOn with
  | _ n ih =>
    intro d ts hn hl hd h0 hg
    by_cases h8 : 8 < ts.length
    · rw [upT_level h8]
      have hlt : (level ts).length < ts.length := by rcases level_len _ ts rfl with h' | h' <;> omega
      exact ih _ (by omega) (d + 1) (level ts) rfl (level_lv _ d ts rfl hl).1 (by omega) (by rw [level_cons h0]; simp) (level_good _ d ts rfl hl (by omega) (.inl (by omega)) hg)
    · by_cases h1 : ts.length = 1
      · obtain ⟨t, rfl⟩ := List.length_eq_one_iff.mp h1
        rw [upT_one (by simp)]
        exact hg t (by simp)
      · rw [upT_join (by omega) (by omega)]
        exact .join ts d (by omega) (by omega) hl (by omega) hg
/-! ### heights -/
/-- how many groups -/
def glen (n : Nat) : Nat := if h : n = 0 then 0 else glen (n - grp n) + 1
  termination_by n
  decreasing_by have := grp_pos h; omega
theorem glen_level (n : Nat) : ∀ ts : List Tr, ts.length = n → (level ts).length = glen n := by
  induction n using Nat.strongRecOn with
  | _ n ih =>
    intro ts hn
    by_cases h0 : n = 0
    · subst h0
      obtain rfl := List.eq_nil_of_length_eq_zero hn
      rw [level_nil, glen]; rfl
    · have hp := grp_pos h0
      rw [level_cons (by omega), glen, dif_neg h0, List.length_cons, hn, ih (n - grp n) (by omega) _ (by rw [List.length_drop]; omega)]
theorem glen_lt {n : Nat} (h : 2 ≤ n) : glen n < n := by
  have e := glen_level n (List.replicate n .nil) (by simp)
  rcases level_len _ (List.replicate n Tr.nil) rfl with h' | h' <;> simp at h' <;> omega
theorem glen_pos {n : Nat} (h : n ≠ 0) : glen n ≠ 0 := by rw [glen, dif_neg h]; omega
/-- how high a tree over n knots of height h is -/
def hts (n : Nat) (h : Int) : Int := if _h : 8 < n then hts (glen n) (h + 1) else if n ≤ 1 then h else h + 1
  termination_by n
  decreasing_by have := glen_lt (n := n) (by omega); omega
theorem upT_h (n : Nat) : ∀ (d : Int) (ts : List Tr), ts.length = n → Lv d ts → ts.length ≠ 0 → (upT ts).h0 = hts n d := by
  induction n using Nat.strongRecOn with
  | _ n ih =>
    intro d ts hn hl h0
    rw [hts]
    by_cases h8 : 8 < n
    · rw [dif_pos h8, upT_level (by omega)]
      have hg := glen_level n ts hn
      have hlt := glen_lt (n := n) (by omega)
      exact ih _ hlt (d + 1) (level ts) hg (level_lv _ d ts rfl hl).1 (by rw [hg]; exact glen_pos (by omega))
    · rw [dif_neg h8]
      by_cases h1 : n ≤ 1
      · rw [if_pos h1, upT_one (by omega)]
        refine (hl.e _ ?_).2.1
        show ts.getD 0 .nil ∈ ts
        rw [List.getD_eq_getElem?_getD, List.getElem?_eq_getElem (by omega)]; exact List.getElem_mem _
      · rw [if_neg h1, upT_join (by omega) (by omega)]
        exact (joinT_e hl (by omega)).2.1
end Go.Proofs.Ytdcnoiofimngpaa.Kj
/- The references of trees, in plain words; levels of a tree. -/
namespace Go.Proofs.Ytdcnoiofimngpaa.Kk
open Go.RowKit Go.Proofs.Ytdcnoiofimngpaa.U Go.Proofs.Ytdcnoiofimngpaa.QK Go.Proofs.Ytdcnoiofimngpaa.Kt Go.Proofs.Ytdcnoiofimngpaa.Ka Go.Proofs.Ytdcnoiofimngpaa.Kb Go.Proofs.Ytdcnoiofimngpaa.Kc Go.Proofs.Ytdcnoiofimngpaa.Kd_ Go.Proofs.Ytdcnoiofimngpaa.Ke Go.Proofs.Ytdcnoiofimngpaa.Kf Go.Proofs.Ytdcnoiofimngpaa.Kh Go.Proofs.Ytdcnoiofimngpaa.Ki Go.Proofs.Ytdcnoiofimngpaa.Kj Go.Proofs.YtdcnoiofimngpaaW.PrintWords Go.Proofs.YtdcnoiofimngpaaW.PrintLast Go.Proofs.YtdcnoiofimngpaaW.PrintMore
set_option linter.unusedVariables false
theorem wq (x : Int) (h0 : -9223372036854775808 ≤ x) (h1 : x ≤ 9223372036854775807) : wrap64 x = x := by unfold wrap64; omega
/-- how many bits -/
def bits (n : Nat) : Nat := if h : n = 0 then 0 else bits (n / 2) + 1
  termination_by n
  decreasing_by omega
/-! ### texts -/
theorem cat_ld (l : List ByteArray) : ld (cat l) = (l.map ld).flatten := rfl
theorem cat_cons (s : ByteArray) (l : List ByteArray) : cat (s :: l) = s ++ cat l := by apply ld_ext; simp [cat_ld, ld]
theorem cat_app (a b : List ByteArray) : cat (a ++ b) = cat a ++ cat b := by apply ld_ext; simp [cat_ld, ld]
theorem cat_size_le (l : List ByteArray) (h : ∀ s ∈ l, s.size ≤ 16) : (cat l).size ≤ 16 * l.length := by
  induction l with
  | nil => decide
  | cons s t ih => rw [cat_cons, ByteArray.size_append, List.length_cons]; have := h s (by simp); have := ih (fun x hx => h x (by simp [hx])); omega
theorem rd_drop (l : List ByteArray) (i : Nat) (h : i < l.length) : l.drop i = rdOf ByteArray.empty l (i : Int) :: l.drop (i + 1) := by
  rw [List.drop_eq_getElem_cons h]
  unfold rdOf
  rw [Int.toNat_natCast, List.getD_eq_getElem?_getD, List.getElem?_eq_getElem h]; rfl
theorem whole_l (l : List ByteArray) (hn : l.length ≤ 1000000) : ∀ (k i : Nat) (x : ByteArray), i ≤ l.length → l.length - i < k → x.size + (cat (l.drop i)).size ≤ 1000000000 → stylusref15_Whole.l0 k l x (i : Int) = some (x ++ cat (l.drop i)) := by
  intro k
  induction k with
  | zero => intro i x h1 h2; omega
  | succ k ih =>
    intro i x h1 h2 hs
    rw [stylusref15_Whole.l0]
    by_cases hi : i < l.length
    · have hd := rd_drop l i hi
      rw [hd, cat_cons] at hs ⊢
      rw [ByteArray.size_append] at hs
      rw [if_pos (by omega), if_pos (by omega), if_pos (by omega), wq _ (by omega) (by omega), show (i : Int) + 1 = ((i + 1 : Nat) : Int) by omega, ih (i + 1) _ (by omega) (by omega) (by rw [ByteArray.size_append]; omega), ByteArray.append_assoc]
    · rw [if_neg (by omega), List.drop_of_length_le (by omega), cat_nil]
      first | (congr 1; done) | (congr 1; apply ld_ext; simp [ld])
theorem whole_f (l : List ByteArray) (hn : l.length ≤ 1000) (hs : ∀ s ∈ l, s.size ≤ 16) : stylusref15_Whole.f 2000 l = some (cat l) := by
  unfold stylusref15_Whole.f
  have hc := cat_size_le l hs
  have h := whole_l l (by omega) 2000 0 ⟨#[]⟩ (by omega) (by omega) (by rw [List.drop_zero]; show 0 + _ ≤ _; omega)
  rw [List.drop_zero] at h
  rw [show (0 : Int) = ((0 : Nat) : Int) from rfl, h]
  first | (congr 1; done) | (congr 1; apply ld_ext; simp [ld])
/-! ### leaves -/
theorem sums_leafs (l : List ByteArray) : sumB (l.map leafT) = ((cat l).size : Int) ∧ sumR (l.map leafT) = (Sp.runes (ld (cat l)) : Int) ∧ sumL (l.map leafT) = (Sp.lines (ld (cat l)) : Int) := by
  induction l with
  | nil => exact ⟨rfl, rfl, rfl⟩
  | cons s t ih =>
    obtain ⟨h1, h2, h3⟩ := ih
    unfold sumB at h1
    unfold sumR at h2
    unfold sumL at h3
    have e : ld (cat (s :: t)) = ld s ++ ld (cat t) := by rw [cat_cons]; simp [ld]
    refine ⟨?_, ?_, ?_⟩
    · unfold sumB; rw [List.map_cons, List.map_cons, List.sum_cons, h1, cat_cons, ByteArray.size_append]; show (s.size : Int) + _ = _; omega
    · unfold sumR; rw [List.map_cons, List.map_cons, List.sum_cons, h2, e, Sp.runes_append]; show (Sp.runes (ld s) : Int) + _ = _; omega
    · unfold sumL; rw [List.map_cons, List.map_cons, List.sum_cons, h3, e, Sp.lines_append]; show (Sp.lines (ld s) : Int) + _ = _; omega
theorem leafs_lv (l : List ByteArray) (h : ∀ s ∈ l, fits s = true) (hn : l.length ≤ 100000) : Lv 0 (l.map leafT) := by
  obtain ⟨h1, h2, h3⟩ := sums_leafs l
  have hc := cat_size_le l (fun s hs => (fits_spec (h s hs)).2.1)
  have hr := Sp.runes_le (ld (cat l))
  have hl := Sp.lines_le (ld (cat l))
  rw [ld_len] at hr hl
  refine ⟨fun t ht => ?_, Int.le_refl 0, by rw [h1]; omega, by rw [h2]; omega, by rw [h3]; omega⟩
  obtain ⟨s, hs, rfl⟩ := List.mem_map.1 ht
  exact ⟨leaf_none (h s hs), rfl, Int.natCast_nonneg _, Int.natCast_nonneg _, Int.natCast_nonneg _⟩
theorem leafs_fine (l : List ByteArray) (h : ∀ s ∈ l, fits s = true) : ∀ t ∈ l.map leafT, FineT t := by
  intro t ht
  obtain ⟨s, hs, rfl⟩ := List.mem_map.1 ht
  exact leaf_good (h s hs)
/-! ### first and last -/
theorem first_head {t : Tr} (h : FineT t) : ∃ s r, chunks t = s :: r ∧ first t = s := by
  induction h with
  | leaf s r l hf ho =>
    refine ⟨s, [], ?_, by rw [first]⟩
    rw [chunks, if_neg (fits_size hf).1]
  | join kids d h2 h8 hl hd hk ih =>
    obtain ⟨k, ks, rfl⟩ : ∃ k ks, kids = k :: ks := by cases kids with | nil => simp at h2 | cons k ks => exact ⟨k, ks, rfl⟩
    obtain ⟨s, r, e1, e2⟩ := ih k (by simp)
    refine ⟨s, r ++ chunksL ks, ?_, ?_⟩
    · rw [joinT_chunks (d := d) (by simp), chunksL_cons, e1]; rfl
    · unfold joinT; rw [first, firstL, e2]
theorem last_end {t : Tr} (h : FineT t) : ∃ s r, chunks t = r ++ [s] ∧ last t = s := by
  induction h with
  | leaf s r l hf ho =>
    refine ⟨s, [], ?_, by rw [last]⟩
    rw [chunks, if_neg (fits_size hf).1]; rfl
  | join kids d h2 h8 hl hd hk ih =>
    have hne : kids.length ≠ 0 := by omega
    have hm : rdT kids ((kids.length : Int) - 1) ∈ kids := rdT_mem kids _ (by omega) (by omega)
    obtain ⟨s, r, e1, e2⟩ := ih _ hm
    have hd := chunksL_part kids (kids.length - 1)
    have he : kids.drop (kids.length - 1) = [rdT kids ((kids.length : Int) - 1)] := by
      rw [List.drop_eq_getElem_cons (by omega), List.drop_of_length_le (by omega)]
      unfold rdT
      rw [show ((kids.length : Int) - 1).toNat = kids.length - 1 by omega, List.getD_eq_getElem?_getD, List.getElem?_eq_getElem (by omega)]; rfl
    rw [he, chunksL_cons, chunksL, List.append_nil, e1, ← List.append_assoc] at hd
    refine ⟨s, _, by rw [joinT_chunks (d := d) hne]; exact hd.symm, ?_⟩
    unfold joinT
    rw [last_kids hne, e2]
end Go.Proofs.Ytdcnoiofimngpaa.Kk
