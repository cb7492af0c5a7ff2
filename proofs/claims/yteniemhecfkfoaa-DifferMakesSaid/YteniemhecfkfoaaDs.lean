import Derived.Test.YteniemhecfkfoaaSv
/- What two texts begin and end with, plainly. -/
namespace Go.Proofs.Yteniemhecfkfoaa.Sp

/-- How many bytes both begin with, up to an edge of both: so many places are left, i bytes are the same, the last common edge is 'best'. -/
def fr (a b : List UInt8) : Nat → Nat → Nat → Nat
  | 0, _, best => best
  | d + 1, i, best => if a[i]? = b[i]? then fr a b d (i + 1) (if edge a ((i + 1 : Nat) : Int) = true ∧ edge b ((i + 1 : Nat) : Int) = true then i + 1 else best) else best
/-- How many bytes both end with. -/
def bk (a b : List UInt8) : Nat → Nat → Nat → Nat
  | 0, _, best => best
  | d + 1, i, best => if a[a.length - 1 - i]? = b[b.length - 1 - i]? then bk a b d (i + 1) (if edge a ((a.length - 1 - i : Nat) : Int) = true ∧ edge b ((b.length - 1 - i : Nat) : Int) = true then i + 1 else best) else best
def front (a b : List UInt8) : Nat := fr a b (min a.length b.length) 0 0
def rear (a b : List UInt8) (n : Nat) : Nat := bk a b (min (a.length - n) (b.length - n)) 0 0
def fits (a : List UInt8) : Bool := decide (a.length ≤ 4096) && valid a
def alike (a b : List UInt8) : Nat × Nat := if fits a = true ∧ fits b = true then (front a b, rear a b (front a b)) else (0, 0)

theorem fr_le (a b : List UInt8) : ∀ (d i best : Nat), best ≤ i → fr a b d i best ≤ i + d
  | 0, i, best, h => by simpa [fr] using h
  | d + 1, i, best, h => by
    unfold fr; split
    · have := fr_le a b d (i + 1) (if edge a ((i + 1 : Nat) : Int) = true ∧ edge b ((i + 1 : Nat) : Int) = true then i + 1 else best) (by split <;> omega)
      omega
    · omega
theorem bk_le (a b : List UInt8) : ∀ (d i best : Nat), best ≤ i → bk a b d i best ≤ i + d
  | 0, i, best, h => by simpa [bk] using h
  | d + 1, i, best, h => by
    unfold bk; split
    · have := bk_le a b d (i + 1) (if edge a ((a.length - 1 - i : Nat) : Int) = true ∧ edge b ((b.length - 1 - i : Nat) : Int) = true then i + 1 else best) (by split <;> omega)
      omega
    · omega
theorem front_le (a b : List UInt8) : front a b ≤ a.length ∧ front a b ≤ b.length := by
  have := fr_le a b (min a.length b.length) 0 0 (Nat.le_refl _)
  unfold front; omega
theorem rear_le (a b : List UInt8) (n : Nat) : rear a b n ≤ a.length - n ∧ rear a b n ≤ b.length - n := by
  have := bk_le a b (min (a.length - n) (b.length - n)) 0 0 (Nat.le_refl _)
  unfold rear; omega
theorem edge_zero (a : List UInt8) : edge a 0 = true := by simp [edge]
theorem edge_len (a : List UInt8) : edge a (a.length : Int) = true := by simp [edge]
theorem take_same {a b : List UInt8} {i : Nat} (h : a.take i = b.take i) (ha : i < a.length) (hb : i < b.length) (he : a[i]? = b[i]?) : a.take (i + 1) = b.take (i + 1) := by
  rw [List.take_succ_eq_append_getElem ha, List.take_succ_eq_append_getElem hb, h]
  rw [List.getElem?_eq_getElem ha, List.getElem?_eq_getElem hb] at he
  rw [Option.some.inj he]
/-- What the front is: common, up to an edge of both, and no further. -/
def Front (a b : List UInt8) (n i : Nat) : Prop :=
  n ≤ i ∧ a.take i = b.take i ∧ edge a n = true ∧ edge b n = true ∧ ∀ p : Nat, n < p → p ≤ i → ¬ (edge a p = true ∧ edge b p = true)
theorem fr_spec (a b : List UInt8) : ∀ (d i best : Nat), i + d = min a.length b.length → Front a b best i →
    ∃ j, Front a b (fr a b d i best) j ∧ (j = min a.length b.length ∨ (j < min a.length b.length ∧ a[j]? ≠ b[j]?))
  | 0, i, best, hi, h => ⟨i, by simpa [fr] using h, .inl (by omega)⟩
  | d + 1, i, best, hi, h => by
    unfold fr
    by_cases he : a[i]? = b[i]?
    · rw [if_pos he]
      refine fr_spec a b d (i + 1) _ (by omega) ?_
      have ht := take_same h.2.1 (by omega) (by omega) he
      by_cases hg : edge a ((i + 1 : Nat) : Int) = true ∧ edge b ((i + 1 : Nat) : Int) = true
      · rw [if_pos hg]; exact ⟨Nat.le_refl _, ht, hg.1, hg.2, fun p h1 h2 => by omega⟩
      · rw [if_neg hg]
        refine ⟨by have := h.1; omega, ht, h.2.2.1, h.2.2.2.1, fun p h1 h2 => ?_⟩
        by_cases hp : p = i + 1
        · subst hp; exact hg
        · exact h.2.2.2.2 p h1 (by omega)
    · rw [if_neg he]; exact ⟨i, h, .inr ⟨by omega, he⟩⟩
theorem front_spec (a b : List UInt8) : a.take (front a b) = b.take (front a b) ∧ edge a (front a b) = true ∧ edge b (front a b) = true ∧
    ∀ p : Nat, front a b < p → p ≤ a.length → p ≤ b.length → a.take p = b.take p → ¬ (edge a p = true ∧ edge b p = true) := by
  obtain ⟨j, ⟨h1, h2, h3, h4, h5⟩, hj⟩ := fr_spec a b (min a.length b.length) 0 0 (by omega) ⟨Nat.le_refl _, rfl, edge_zero a, edge_zero b, fun p h1 h2 => by omega⟩
  refine ⟨?_, h3, h4, fun p hp ha hb ht => ?_⟩
  · have := congrArg (List.take (front a b)) h2
    rw [List.take_take, List.take_take, show min (front a b) j = front a b from Nat.min_eq_left h1] at this
    exact this
  · rcases hj with hj | ⟨hj, hne⟩
    · exact h5 p hp (by omega)
    · by_cases hpj : p ≤ j
      · exact h5 p hp hpj
      · exfalso; apply hne
        have := congrArg (fun l => l[j]?) ht
        simp only [List.getElem?_take_of_lt (show j < p by omega)] at this
        exact this
/-- The rear is common, from an edge of both on. -/
theorem bk_spec (a b : List UInt8) : ∀ (d i best : Nat), i + d ≤ a.length → i + d ≤ b.length → best ≤ i → a.drop (a.length - i) = b.drop (b.length - i) → edge a ((a.length - best : Nat) : Int) = true → edge b ((b.length - best : Nat) : Int) = true →
    a.drop (a.length - bk a b d i best) = b.drop (b.length - bk a b d i best) ∧ edge a ((a.length - bk a b d i best : Nat) : Int) = true ∧ edge b ((b.length - bk a b d i best : Nat) : Int) = true
  | 0, i, best, ha, hb, hbi, hd, h1, h2 => by
    refine ⟨?_, h1, h2⟩
    simp only [bk]
    have e1 : a.drop (a.length - best) = (a.drop (a.length - i)).drop (i - best) := by rw [List.drop_drop]; congr 1; omega
    have e2 : b.drop (b.length - best) = (b.drop (b.length - i)).drop (i - best) := by rw [List.drop_drop]; congr 1; omega
    rw [e1, e2, hd]
  | d + 1, i, best, ha, hb, hbi, hd, h1, h2 => by
    unfold bk
    by_cases he : a[a.length - 1 - i]? = b[b.length - 1 - i]?
    · rw [if_pos he]
      have hla : a.length - 1 - i < a.length := by omega
      have hlb : b.length - 1 - i < b.length := by omega
      have hd2 : a.drop (a.length - (i + 1)) = b.drop (b.length - (i + 1)) := by
        rw [show a.length - (i + 1) = a.length - 1 - i by omega, show b.length - (i + 1) = b.length - 1 - i by omega, List.drop_eq_getElem_cons hla, List.drop_eq_getElem_cons hlb,
          show a.length - 1 - i + 1 = a.length - i by omega, show b.length - 1 - i + 1 = b.length - i by omega, hd]
        rw [List.getElem?_eq_getElem hla, List.getElem?_eq_getElem hlb] at he
        rw [Option.some.inj he]
      refine bk_spec a b d (i + 1) _ (by omega) (by omega) (by split <;> omega) hd2 ?_ ?_
      · split
        · rename_i hg; rw [show a.length - (i + 1) = a.length - 1 - i by omega]; exact hg.1
        · exact h1
      · split
        · rename_i hg; rw [show b.length - (i + 1) = b.length - 1 - i by omega]; exact hg.2
        · exact h2
    · rw [if_neg he]
      refine ⟨?_, h1, h2⟩
      have e1 : a.drop (a.length - best) = (a.drop (a.length - i)).drop (i - best) := by rw [List.drop_drop]; congr 1; omega
      have e2 : b.drop (b.length - best) = (b.drop (b.length - i)).drop (i - best) := by rw [List.drop_drop]; congr 1; omega
      rw [e1, e2, hd]
theorem rear_spec (a b : List UInt8) (n : Nat) (ha : n ≤ a.length) (hb : n ≤ b.length) :
    a.drop (a.length - rear a b n) = b.drop (b.length - rear a b n) ∧ edge a ((a.length - rear a b n : Nat) : Int) = true ∧ edge b ((b.length - rear a b n : Nat) : Int) = true :=
  bk_spec a b _ 0 0 (by omega) (by omega) (Nat.le_refl _) (by rw [Nat.sub_zero, Nat.sub_zero, List.drop_length, List.drop_length]) (by rw [Nat.sub_zero]; exact edge_len a) (by rw [Nat.sub_zero]; exact edge_len b)
/-- An edge of what stands behind an edge. -/
theorem edge_drop (a : List UInt8) (n x : Nat) (hn : n ≤ a.length) (he : edge a n = true) (hx : x ≤ a.length - n) : edge (a.drop n) x = edge a ((n + x : Nat) : Int) := by
  by_cases h0 : x = 0
  · subst h0; rw [Nat.add_zero, he]; exact edge_zero _
  · unfold edge
    rw [List.length_drop]
    by_cases hl : x = a.length - n
    · simp [show ((x : Int) = ((a.length - n : Nat) : Int)) by omega]; omega
    · have e : (a.drop n).getD x 0 = a.getD (n + x) 0 := by rw [List.getD_eq_getElem?_getD, List.getElem?_drop, ← List.getD_eq_getElem?_getD]
      rw [Int.toNat_natCast, Int.toNat_natCast, e]
      rw [show decide (0 ≤ (x : Int)) = true by simp, show decide (0 ≤ ((n + x : Nat) : Int)) = true by simp; omega, show decide ((x : Int) ≤ ((a.length - n : Nat) : Int)) = true by simp only [decide_eq_true_eq]; omega,
        show decide (((n + x : Nat) : Int) ≤ (a.length : Int)) = true by simp only [decide_eq_true_eq]; omega, show decide ((x : Int) = 0) = false by simp only [decide_eq_false_iff_not]; omega,
        show decide (((n + x : Nat) : Int) = 0) = false by simp only [decide_eq_false_iff_not]; omega, show decide ((x : Int) = ((a.length - n : Nat) : Int)) = false by simp only [decide_eq_false_iff_not]; omega,
        show decide (((n + x : Nat) : Int) = (a.length : Int)) = false by simp only [decide_eq_false_iff_not]; omega]
end Go.Proofs.Yteniemhecfkfoaa.Sp
