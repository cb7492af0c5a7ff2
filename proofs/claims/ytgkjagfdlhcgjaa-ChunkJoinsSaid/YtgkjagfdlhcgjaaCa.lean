import Derived.Test.YtgkjagfdlhcgjaaQCx8
import Derived.Test.YtgkjagfdlhcgjaaQCx12
import Derived.Test.YtgkjagfdlhcgjaaQCx14
import Derived.Test.YtgkjagfdlhcgjaaSv
/- Chunks in plain words: what the program cuts and joins, and what the reference does. -/
namespace Go.Proofs.Ytgkjagfdlhcgjaa.Ca
open Go.RowKit Go.Proofs.Ytgkjagfdlhcgjaa.U Go.Proofs.Ytgkjagfdlhcgjaa.QC Go.Proofs.YtgkjagfdlhcgjaaW.PrintWords Go.Proofs.YtgkjagfdlhcgjaaW.PrintLast Go.Proofs.YtgkjagfdlhcgjaaW.PrintMore
set_option linter.unusedVariables false
abbrev ld (s : ByteArray) : List UInt8 := s.data.toList
theorem ld_len (s : ByteArray) : (ld s).length = s.size := data_length s
theorem ld_ext {a b : ByteArray} (h : ld a = ld b) : a = b := by cases a; cases b; simp [ld] at h; subst h; rfl
theorem ld_app (a b : ByteArray) : ld (a ++ b) = ld a ++ ld b := by simp [ld]
theorem ld_extract (s : ByteArray) (i j : Nat) : ld (s.extract i j) = (ld s).extract i j := by simp [ld]
theorem ld_take (s : ByteArray) (k : Nat) : ld (s.extract 0 k) = (ld s).take k := by rw [ld_extract]; simp [List.extract]
theorem ld_drop (s : ByteArray) (k : Nat) : ld (s.extract k s.size) = (ld s).drop k := by
  rw [ld_extract, List.extract, List.take_of_length_le (by rw [List.length_drop, ld_len]; omega)]
theorem wq (x : Int) (h0 : -9223372036854775808 ≤ x) (h1 : x ≤ 9223372036854775807) : wrap64 x = x := by unfold wrap64; omega
theorem rdOf_nat (l : List ByteArray) (i : Nat) : rdOf ByteArray.empty l (i : Int) = l.getD i ByteArray.empty := by unfold rdOf; rw [Int.toNat_natCast]
/-! edges -/
theorem edge_near : ∀ (n : Nat) (l : List UInt8), l.length ≤ n → Sp.valid l = true → ∀ k, k < l.length → ∃ j, j ≤ k ∧ k < j + 4 ∧ Sp.cont (l.getD j 0) = false := by
  intro n
  induction n with
  | zero => intro l h hv k hk; omega
  | succ n ih0 =>
    intro l h hv k hk
    have ih := ih0
    have hne : l ≠ [] := by intro hc; rw [hc] at hk; simp at hk
    rw [Sp.valid_step l hne] at hv
    simp only [Bool.and_eq_true, decide_eq_true_eq] at hv
    obtain ⟨t, hr, hw, hl⟩ := Sp.dec_some hv.1
    obtain ⟨x, y, he, hx, hy⟩ := Sp.enc_cont hr
    have hlen := Sp.enc_length hr
    have hp := Sp.width_pos (Sp.dec l).1
    have hv1 := hv.2
    clear hv ih
    generalize Sp.dec l = d at hr hw hl he hlen hp hv1
    by_cases hk4 : k < d.2
    · refine ⟨0, by omega, by omega, ?_⟩
      rw [hl, he]; exact hx
    · have hdr : l.drop d.2 = t := by rw [hl, hw, ← hlen]; exact List.drop_left
      have hl2 := congrArg List.length hl
      rw [List.length_append] at hl2
      obtain ⟨j, h1, h2, h3⟩ := ih0 t (by omega) (by rw [← hdr]; exact hv1) (k - d.2) (by omega)
      refine ⟨j + d.2, by omega, by omega, ?_⟩
      rw [hl, List.getD_eq_getElem?_getD, List.getElem?_append_right (by omega), show j + d.2 - (Sp.enc d.1).length = j by omega, ← List.getD_eq_getElem?_getD]
      exact h3
theorem backN_edge (l : List UInt8) : ∀ k, k ≤ l.length → Sp.edge l (Sp.backN l k : Nat) = true ∧ Sp.backN l k ≤ k
  | 0 => fun _ => ⟨by simp [Sp.backN, Sp.edge], Nat.le_refl _⟩
  | k + 1 => fun h => by
    rw [Sp.backN]
    by_cases he : Sp.edge l (k + 1 : Nat) = true
    · rw [if_pos he]; exact ⟨he, Nat.le_refl _⟩
    · rw [if_neg he]; obtain ⟨h1, h2⟩ := backN_edge l k (by omega); exact ⟨h1, by omega⟩
theorem backN_ge (l : List UInt8) (j : Nat) (hj : Sp.edge l (j : Nat) = true) : ∀ k, j ≤ k → j ≤ Sp.backN l k
  | 0 => fun h => by omega
  | k + 1 => fun h => by
    rw [Sp.backN]
    by_cases he : Sp.edge l (k + 1 : Nat) = true
    · rw [if_pos he]; exact h
    · rw [if_neg he]
      by_cases hjk : j = k + 1
      · subst hjk; exact absurd hj he
      · exact backN_ge l j hj k (by omega)
theorem edge_of {l : List UInt8} {j : Nat} (h : j < l.length) (hc : Sp.cont (l.getD j 0) = false) : Sp.edge l (j : Nat) = true := by
  unfold Sp.edge
  rw [Int.toNat_natCast, hc]
  simp; omega
theorem back_le (l : List UInt8) (i : Int) (h0 : 0 ≤ i) : Sp.back l i ≤ l.length := by
  unfold Sp.back
  by_cases h : i ≥ l.length
  · rw [if_pos h]; omega
  · rw [if_neg h]; have := (backN_edge l i.toNat (by omega)).2; omega
theorem back_edge (l : List UInt8) (i : Int) (h0 : 0 ≤ i) : Sp.edge l (Sp.back l i : Nat) = true := by
  unfold Sp.back
  by_cases h : i ≥ l.length
  · rw [if_pos h]; simp [Sp.edge]
  · rw [if_neg h]; exact (backN_edge l i.toNat (by omega)).1
/-- a valid text of more than 16 bytes is cut behind 13 to 16 of them -/
theorem back16 {l : List UInt8} (hv : Sp.valid l = true) (h : 16 < l.length) : 13 ≤ Sp.back l 16 ∧ Sp.back l 16 ≤ 16 ∧ Sp.valid (l.take (Sp.back l 16)) = true ∧ Sp.valid (l.drop (Sp.back l 16)) = true := by
  obtain ⟨j, h1, h2, h3⟩ := edge_near l.length l (Nat.le_refl _) hv 16 h
  have he := edge_of (l := l) (j := j) (by omega) h3
  have hb : Sp.back l 16 = Sp.backN l 16 := by unfold Sp.back; rw [if_neg (by omega)]; rfl
  have hge := backN_ge l j he 16 (by omega)
  obtain ⟨e1, e2⟩ := backN_edge l 16 (by omega)
  rw [hb]
  exact ⟨by omega, e2, Sp.valid_cut l _ (by omega) e1 hv⟩
/-! chunks -/
def fits (s : ByteArray) : Bool := decide (1 ≤ s.size) && decide (s.size ≤ 16) && Sp.valid (ld s)
theorem fits_spec {s : ByteArray} (h : fits s = true) : 1 ≤ s.size ∧ s.size ≤ 16 ∧ Sp.valid (ld s) = true := by simpa [fits, and_assoc] using h
theorem fits_mk {s : ByteArray} (h1 : 1 ≤ s.size) (h2 : s.size ≤ 16) (h3 : Sp.valid (ld s) = true) : fits s = true := by simp [fits, h1, h2, h3]
theorem nil_iff (s : ByteArray) : s.toList = ([] : List UInt8) ↔ s.size = 0 := by
  rw [Lib.toList_data, ← List.length_eq_zero_iff, data_length]
theorem fits_f (s : ByteArray) : chunk_Fits.f s = some (fits s) := by
  unfold chunk_Fits.f fits
  by_cases h0 : s.toList = ([] : List UInt8)
  · rw [if_pos h0]; rw [nil_iff] at h0; simp [h0]
  · rw [if_neg h0]; rw [nil_iff] at h0
    by_cases h1 : (s.size : Int) ≤ 16
    · rw [if_pos h1]; unfold utf_Valid.f; rw [if_pos (by omega), Option.bind_some, decide_eq_true (show 1 ≤ s.size by omega), decide_eq_true (show s.size ≤ 16 by omega)]; rfl
    · rw [if_neg h1, decide_eq_false (show ¬ s.size ≤ 16 by omega)]; simp
theorem rfits_f (s : ByteArray) : stylusref15_Fits.f s = some (fits s) := by
  unfold stylusref15_Fits.f fits
  by_cases h0 : (s.size : Int) ≥ 1
  · rw [if_pos h0]
    by_cases h1 : (s.size : Int) ≤ 16
    · rw [if_pos h1]; unfold stylusref01_Valid.f; rw [if_pos (by omega), Option.bind_some, decide_eq_true (show 1 ≤ s.size by omega), decide_eq_true (show s.size ≤ 16 by omega)]; rfl
    · rw [if_neg h1, decide_eq_false (show ¬ s.size ≤ 16 by omega)]; simp
  · rw [if_neg h0, decide_eq_false (show ¬ 1 ≤ s.size by omega)]; simp
/-- both halves -/
def half (s : ByteArray) : ByteArray × ByteArray := (s.extract 0 (Sp.back (ld s) ((s.size + 1) / 2 : Nat)), s.extract (Sp.back (ld s) ((s.size + 1) / 2 : Nat)) s.size)
theorem half_f (s : ByteArray) (hs : s.size ≤ 100000) : chunk_Half.f s = some (half s) := by
  unfold chunk_Half.f utf_Back.f half
  have hb : Sp.back s.data.toList ((s.size + 1) / 2 : Nat) ≤ s.data.toList.length := back_le _ _ (by omega)
  rw [data_length] at hb
  rw [if_pos (by omega), Option.bind_some, wq ((s.size : Int) / 2) (by omega) (by omega), wq _ (by omega) (by omega), show (s.size : Int) - (s.size : Int) / 2 = (((s.size + 1) / 2 : Nat) : Int) by omega, if_pos (by omega), if_pos (by omega), Int.toNat_natCast]
theorem rhalf_f (s : ByteArray) (hs : s.size ≤ 100000) : stylusref15_Half.f s = some (half s) := by
  unfold stylusref15_Half.f stylusref01_Back.f half
  have hb : Sp.back s.data.toList ((s.size + 1) / 2 : Nat) ≤ s.data.toList.length := back_le _ _ (by omega)
  rw [data_length] at hb
  rw [if_pos (by omega), Option.bind_some, wq ((s.size : Int) + 1) (by omega) (by omega), Int.tdiv_eq_ediv_of_nonneg (by omega), wq _ (by omega) (by omega), show ((s.size : Int) + 1) / 2 = (((s.size + 1) / 2 : Nat) : Int) by omega, if_pos (by omega), if_pos (by omega), Int.toNat_natCast]
theorem half_cat (s : ByteArray) : (half s).1 ++ (half s).2 = s := by
  apply ld_ext
  rw [ld_app, half, ld_take, ld_drop, List.take_append_drop]
/-- are chunks tight, behind the one ahead? -/
def far : Option ByteArray → ByteArray → Bool
  | none, _ => true
  | some q, s => decide (16 < q.size + s.size)
def snug (p : Option ByteArray) : List ByteArray → Bool
  | [] => true
  | s :: t => fits s && far p s && snug (some s) t
theorem getD_drop (l : List ByteArray) (i : Nat) (h : i < l.length) : l.drop i = l.getD i ByteArray.empty :: l.drop (i + 1) := by
  rw [List.drop_eq_getElem_cons h, List.getD_eq_getElem?_getD, List.getElem?_eq_getElem h]; rfl
def Small (l : List ByteArray) : Prop := ∀ s ∈ l, s.size ≤ 100000
theorem small_at {l : List ByteArray} (h : Small l) {i : Nat} (hi : i < l.length) : (l.getD i ByteArray.empty).size ≤ 100000 := by
  rw [List.getD_eq_getElem?_getD, List.getElem?_eq_getElem hi]; exact h _ (List.getElem_mem hi)
theorem one_f (a b : ByteArray) (ha : a.size ≤ 100000) (hb : b.size ≤ 100000) : chunk_one.f a b = some (decide (a.size + b.size ≤ 16)) := by
  unfold chunk_one.f
  rw [wq _ (by omega) (by omega)]
  congr 1; apply decide_eq_decide.mpr; omega
theorem tight_l0 (l : List ByteArray) (hl : Small l) (hn : l.length ≤ 100000) : ∀ (k i : Nat) (q : ByteArray), i ≤ l.length → l.length - i < k → q.size ≤ 100000 →
    chunk_Tight.l0 k q l (l.length : Int) i = some (snug (some q) (l.drop i)) := by
  intro k
  induction k with
  | zero => intro i q h1 h2; omega
  | succ k ih =>
    intro i q h1 h2 hq
    rw [chunk_Tight.l0]
    by_cases hi : i < l.length
    · rw [if_pos (by omega), if_pos (by omega), if_pos (by omega), rdOf_nat, fits_f, Option.bind_some, getD_drop l i hi, snug]
      have hs := small_at hl hi
      generalize l.getD i ByteArray.empty = s at hs ⊢
      cases hf : fits s
      · rw [if_neg (by simp)]; simp
      · rw [if_pos rfl, one_f q s hq hs, Option.bind_some]
        by_cases h16 : q.size + s.size ≤ 16
        · rw [decide_eq_true h16, if_pos rfl]; simp [far, show ¬ 16 < q.size + s.size by omega]
        · rw [decide_eq_false h16, if_neg (by simp), wq ((i : Int) + 1) (by omega) (by omega), show (i : Int) + 1 = ((i + 1 : Nat) : Int) by omega, ih (i + 1) s (by omega) (by omega) hs]
          simp [far, show 16 < q.size + s.size by omega]
    · rw [if_neg (by omega), List.drop_of_length_le (by omega)]; rfl
theorem tight_far (q : ByteArray) (hq : 16 ≤ q.size) (l : List ByteArray) : snug (some q) l = snug none l := by
  cases l with
  | nil => rfl
  | cons s t =>
    simp only [snug]
    cases hf : fits s
    · simp
    · have := (fits_spec hf).1
      simp [far, show 16 < q.size + s.size by omega]
theorem tight_f (l : List ByteArray) (hl : Small l) (hn : l.length ≤ 100000) (k : Nat) (hk : l.length < k) : chunk_Tight.f k l = some (snug none l) := by
  unfold chunk_Tight.f strings_Repeat.f
  rw [if_pos (by decide), Option.bind_some]
  have h := tight_l0 l hl hn k 0 ⟨(Lib.repeatL (⟨#[32]⟩ : ByteArray).data.toList (16 : Int).toNat).toArray⟩ (by omega) (by omega) (by decide)
  rw [show ((0 : Nat) : Int) = 0 from rfl, List.drop_zero, tight_far _ (by decide)] at h
  exact h
def prev (l : List ByteArray) (i : Nat) : Option ByteArray := if i = 0 then none else some (l.getD (i - 1) ByteArray.empty)
theorem rtight_l0 (l : List ByteArray) (hl : Small l) (hn : l.length ≤ 100000) : ∀ (k i : Nat), i ≤ l.length → l.length - i < k →
    stylusref15_Tight.l0 k l i = some (snug (prev l i) (l.drop i)) := by
  intro k
  induction k with
  | zero => intro i h1 h2; omega
  | succ k ih =>
    intro i h1 h2
    rw [stylusref15_Tight.l0]
    by_cases hi : i < l.length
    · have hnx : prev l (i + 1) = some (l.getD i ByteArray.empty) := by unfold prev; rw [if_neg (by omega)]; rfl
      rw [if_pos (by omega), if_pos (by omega), rdOf_nat, rfits_f, Option.bind_some, getD_drop l i hi, snug, wq ((i : Int) + 1) (by omega) (by omega), show (i : Int) + 1 = ((i + 1 : Nat) : Int) by omega, ih (i + 1) (by omega) (by omega), hnx]
      have hs := small_at hl hi
      cases hf : fits (l.getD i ByteArray.empty)
      · rw [if_neg (by simp)]; simp
      · rw [if_pos rfl]
        by_cases h0 : i = 0
        · subst h0; rw [if_neg (by omega)]; simp [prev, far]
        · have hs' := small_at hl (show i - 1 < l.length by omega)
          rw [if_pos (by omega), wq ((i : Int) - 1) (by omega) (by omega), if_pos (by omega), if_pos (by omega), show (i : Int) - 1 = ((i - 1 : Nat) : Int) by omega, rdOf_nat, wq _ (by omega) (by omega)]
          unfold prev
          rw [if_neg h0]
          by_cases h16 : (l.getD (i - 1) ByteArray.empty).size + (l.getD i ByteArray.empty).size ≤ 16
          · rw [if_pos (by omega)]; simp only [far, decide_eq_false (show ¬ 16 < (l.getD (i - 1) ByteArray.empty).size + (l.getD i ByteArray.empty).size by omega)]; simp
          · rw [if_neg (by omega)]; simp only [far, decide_eq_true (show 16 < (l.getD (i - 1) ByteArray.empty).size + (l.getD i ByteArray.empty).size by omega)]; simp
    · rw [if_neg (by omega), List.drop_of_length_le (by omega)]; simp [snug]
theorem rtight_f (l : List ByteArray) (hl : Small l) (hn : l.length ≤ 100000) (k : Nat) (hk : l.length < k) : stylusref15_Tight.f k l = some (snug none l) := by
  unfold stylusref15_Tight.f
  have h := rtight_l0 l hl hn k 0 (by omega) (by omega)
  rw [show ((0 : Nat) : Int) = 0 from rfl, List.drop_zero] at h
  exact h
end Go.Proofs.Ytgkjagfdlhcgjaa.Ca
