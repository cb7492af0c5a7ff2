import Derived.Test.YtdcnoiofimngpaaQHx
import Derived.Test.YtdcnoiofimngpaaWq
/- The document's Next, All, Replace, Same in plain words. -/
namespace Go.Proofs.Ytdcnoiofimngpaa.Hp
open Go.RowKit Go.Proofs.Ytdcnoiofimngpaa.U Go.Proofs.Ytdcnoiofimngpaa.QH Go.Proofs.Ytdcnoiofimngpaa.Kh Go.Proofs.Ytdcnoiofimngpaa.Kj Go.Proofs.Ytdcnoiofimngpaa.Fn Go.Proofs.Ytdcnoiofimngpaa.Fa Go.Proofs.YtdcnoiofimngpaaW.PrintWords Go.Proofs.YtdcnoiofimngpaaW.PrintLast Go.Proofs.YtdcnoiofimngpaaW.PrintMore
set_option linter.unusedVariables false
set_option linter.unusedSimpArgs false
theorem hit_le {S w : List UInt8} {j : Nat} (hw : w ≠ []) (h : hit S w j) : j + w.length ≤ S.length := by
  have e := congrArg List.length h
  rw [List.length_take, List.length_drop] at e
  have := List.length_pos_iff.mpr hw
  omega
theorem next_l (s w : ByteArray) (hs : s.size ≤ 100000) (hws : w.size ≤ 100000) (hw : ld w ≠ []) (k : Nat) : ∀ (m i : Nat), s.size + 1 ≤ m + i → i ≤ 200000 → ∃ x b, stylusref49_Next.l0 (m + 1 + k) s w (i : Int) = some (x, b) ∧ IsNext (ld s) (ld w) i x b
  | m, i, h, hi => by
    have hp := List.length_pos_iff.mpr hw
    rw [ld_len] at hp
    have w1 : wrap64 ((s.size : Int) - (w.size : Int)) = s.size - w.size := by unfold wrap64; omega
    have w2 : wrap64 ((i : Int) + (w.size : Int)) = ((i + w.size : Nat) : Int) := by unfold wrap64; omega
    have w3 : wrap64 ((i : Int) + 1) = ((i + 1 : Nat) : Int) := by unfold wrap64; omega
    rw [show m + 1 + k = (m + k) + 1 by omega, stylusref49_Next.l0, w1, w2, w3]
    by_cases c : (i : Int) ≤ s.size - w.size
    · rw [if_pos c, if_pos (by omega), if_pos (by omega), if_pos (by omega), Int.toNat_natCast, Int.toNat_natCast]
      have e : ((s.extract i (i + w.size)).toList = w.toList) ↔ hit (ld s) (ld w) i := by
        rw [Lib.toList_data, Lib.toList_data]
        show ld (s.extract i (i + w.size)) = ld w ↔ _
        rw [Gc.ld_extract, List.extract_eq_take_drop, Nat.add_sub_cancel_left]
        unfold hit
        rw [ld_len]
      by_cases c2 : (s.extract i (i + w.size)).toList = w.toList
      · rw [if_pos c2]
        exact ⟨_, _, rfl, .inl ⟨rfl, hw, i, rfl, Int.le_refl _, e.mp c2, fun j h1 h2 => by omega⟩⟩
      · rw [if_neg c2]
        obtain ⟨m', rfl⟩ : ∃ m', m = m' + 1 := ⟨m - 1, by omega⟩
        obtain ⟨x, b, h1, h2⟩ := next_l s w hs hws hw k m' (i + 1) (by omega) (by omega)
        rw [show m' + 1 + k = m' + 1 + k from rfl]
        refine ⟨x, b, h1, ?_⟩
        have hn : ¬ hit (ld s) (ld w) i := fun hh => c2 (e.mpr hh)
        rcases h2 with ⟨rfl, a1, j, rfl, a2, a3, a4⟩ | ⟨rfl, rfl, a1⟩
        · refine .inl ⟨rfl, a1, j, rfl, by omega, a3, fun j' b1 b2 => ?_⟩
          by_cases c3 : j' = i
          · rw [c3]; exact hn
          · exact a4 j' (by omega) b2
        · refine .inr ⟨rfl, rfl, a1.imp id fun a1 j b1 => ?_⟩
          by_cases c3 : j = i
          · rw [c3]; exact hn
          · exact a1 j (by omega)
    · rw [if_neg c]
      refine ⟨_, _, rfl, .inr ⟨rfl, rfl, .inr fun j h1 h2 => ?_⟩⟩
      have := hit_le hw h2
      rw [ld_len, ld_len] at this
      omega
theorem next_shift {S w : List UInt8} {f x : Int} {b : Bool} (h : IsNext S w (if f < 0 then 0 else f) x b) : IsNext S w f x b := by
  have e : ∀ j : Nat, f ≤ j → (if f < 0 then 0 else f) ≤ j := fun j hj => by split <;> omega
  have e2 : ∀ j : Nat, (if f < 0 then 0 else f) ≤ j → f ≤ j := fun j hj => by split at hj <;> omega
  rcases h with ⟨rfl, a1, j, rfl, a2, a3, a4⟩ | ⟨rfl, rfl, a1⟩
  · exact .inl ⟨rfl, a1, j, rfl, e2 j a2, a3, fun j' b1 b2 => a4 j' (e j' b1) b2⟩
  · exact .inr ⟨rfl, rfl, a1.imp id fun a1 j b1 => a1 j (e j b1)⟩
theorem ref_next (s w : ByteArray) (hs : s.size ≤ 100000) (hws : w.size ≤ 100000) (f : Int) (hf : f ≤ 200000) (k : Nat) : ∃ x b, stylusref49_Next.f (s.size + 2 + k) s w f = some (x, b) ∧ IsNext (ld s) (ld w) f x b := by
  unfold stylusref49_Next.f
  by_cases c : w.toList = ([] : List UInt8)
  · rw [if_pos c]
    exact ⟨_, _, rfl, .inr ⟨rfl, rfl, .inl ((Lib.toList_data w).symm.trans c)⟩⟩
  · rw [if_neg c]
    have hw : ld w ≠ [] := fun e => c ((Lib.toList_data w).trans e)
    obtain ⟨F, hF⟩ : ∃ F : Nat, mx f 0 = F := ⟨(mx f 0).toNat, by unfold mx; split <;> omega⟩
    rw [hF]
    obtain ⟨x, b, h1, h2⟩ := next_l s w hs hws hw k (s.size + 1) F (by omega) (by unfold mx at hF; split at hF <;> omega)
    refine ⟨x, b, h1, next_shift ?_⟩
    have e : (if f < 0 then 0 else f) = (F : Int) := by unfold mx at hF; split at hF <;> split <;> omega
    rw [e]
    exact h2
theorem all_l (s w : ByteArray) (hs : s.size ≤ 5000) (hws : w.size ≤ 100000) (k : Nat) : ∀ (m : Nat) (f x : Int) (b : Bool) (acc : List Int), IsNext (ld s) (ld w) f x b → 0 ≤ f → (s.size : Int) + 1 - f ≤ m → acc.length + m ≤ 100000 → ∃ l, stylusref49_All.l0 (m + 1 + (s.size + 2 + k)) s w acc x b = some (acc ++ l) ∧ AllP (ld s) (ld w) f l
  | m, f, x, b, acc, h, h0, hm, hl => by
    rw [show m + 1 + (s.size + 2 + k) = (m + (s.size + 2 + k)) + 1 by omega, stylusref49_All.l0]
    cases b with
    | false =>
      rw [if_neg (by decide)]
      have hx : x = 0 := by
        rcases h with ⟨h, _⟩ | ⟨_, h, _⟩
        · cases h
        · exact h
      rw [hx] at h
      exact ⟨[], by rw [List.append_nil], .nil f h⟩
    | true =>
      obtain ⟨a1, a2, a3, a4⟩ := next_in_ h
      rw [ld_len] at a4
      rw [ld_len, ld_len] at a3
      obtain ⟨m', rfl⟩ : ∃ m', m = m' + 1 := ⟨m - 1, by omega⟩
      have w1 : wrap64 (x + (w.size : Int)) = x + w.size := by unfold wrap64; omega
      rw [if_pos rfl, if_pos (by omega), w1]
      obtain ⟨x', b', h1, h2⟩ := ref_next s w (by omega) hws (x + w.size) (by omega) (m' + 1 + k)
      rw [show m' + 1 + (s.size + 2 + k) = s.size + 2 + (m' + 1 + k) by omega, h1, Option.bind_some]
      obtain ⟨l, h3, h4⟩ := all_l s w hs hws k m' (x + w.size) x' b' (acc ++ [x]) h2 (by omega) (by omega) (by rw [List.length_append, List.length_singleton]; omega)
      rw [show s.size + 2 + (m' + 1 + k) = m' + 1 + (s.size + 2 + k) by omega]
      refine ⟨x :: l, by rw [h3, List.append_assoc]; rfl, .cons f x l h ?_⟩
      rw [ld_len]
      exact h4
theorem ref_all (s w : ByteArray) (hs : s.size ≤ 5000) (hws : w.size ≤ 100000) (k : Nat) : ∃ l, stylusref49_All.f (s.size + 2 + (s.size + 2 + k)) s w = some l ∧ AllP (ld s) (ld w) 0 l := by
  unfold stylusref49_All.f
  obtain ⟨x, b, h1, h2⟩ := ref_next s w (by omega) hws 0 (by omega) (s.size + 2 + k)
  rw [h1, Option.bind_some]
  obtain ⟨l, h3, h4⟩ := all_l s w hs hws k (s.size + 1) 0 x b [] h2 (by omega) (by omega) (by simp; omega)
  refine ⟨l, ?_, h4⟩
  rw [show s.size + 2 + (s.size + 2 + k) = s.size + 1 + 1 + (s.size + 2 + k) by omega, h3]
  rfl
/-- the edits at the first i places -/
def edV (a b : ByteArray) (l : List Int) (i : Nat) : List S78 := (List.range i).map fun (j : Nat) => (⟨rd l j + j * ((b.size : Int) - a.size), a, b⟩ : S78)
theorem edV_len (a b : ByteArray) (l : List Int) (i : Nat) : (edV a b l i).length = i := by unfold edV; rw [List.length_map, List.length_range]
theorem edV_succ (a b : ByteArray) (l : List Int) (i : Nat) : edV a b l (i + 1) = edV a b l i ++ [(⟨rd l i + i * ((b.size : Int) - a.size), a, b⟩ : S78)] := by unfold edV; rw [List.range_succ, List.map_append]; rfl
/-- Replace -/
def repV (a b : ByteArray) (l : List Int) : List S78 × Int := if ld a = [] then ([], 10) else if Sp.valid (ld a) = true then (if Sp.valid (ld b) = true then (if l = [] then ([], 8) else if 32 < l.length then ([], 9) else (edV a b l l.length, 0)) else ([], 5)) else ([], 5)
theorem wrap_small {x : Int} (h0 : -9000000000000000000 ≤ x) (h1 : x ≤ 9000000000000000000) : wrap64 x = x := by unfold wrap64; omega
theorem all_mem {S w : List UInt8} {f : Int} {l : List Int} (h : AllP S w f l) (h0 : 0 ≤ f) : ∀ x ∈ l, 0 ≤ x ∧ x ≤ S.length := by
  induction h with
  | nil f h => intro x hx; cases hx
  | cons f x l h r ih =>
    obtain ⟨a1, a2, a3, a4⟩ := next_in_ h
    intro y hy
    rcases List.mem_cons.mp hy with rfl | hy
    · omega
    · exact ih (by omega) y hy
theorem rd_mem (l : List Int) (j : Nat) (h : j < l.length) : rd l (j : Int) ∈ l := by
  unfold rd
  rw [Int.toNat_natCast, List.getD_eq_getElem?_getD, List.getElem?_eq_getElem h]
  exact List.getElem_mem h
end Go.Proofs.Ytdcnoiofimngpaa.Hp
