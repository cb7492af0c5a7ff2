import Derived.Test.YtobhffeopfbjlaaQPx7
/- Bytes cut at sectors: what the program tells, and what the reference tells, in plain words. -/
namespace Go.Proofs.Ytobhffeopfbjlaa.Pa
open Go.RowKit Go.Proofs.Ytobhffeopfbjlaa.QP Go.Proofs.YtobhffeopfbjlaaW.PrintWords Go.Proofs.YtobhffeopfbjlaaW.PrintLast Go.Proofs.YtobhffeopfbjlaaW.PrintMore
set_option linter.unusedVariables false
theorem wq (x : Int) (h0 : -9223372036854775808 ≤ x) (h1 : x ≤ 9223372036854775807) : wrap64 x = x := by unfold wrap64; omega
theorem wf64 {a : Int} (h : (Lit.int .i64 a).wf = true) : -9223372036854775808 ≤ a ∧ a ≤ 9223372036854775807 := by
  have h1 : IntKind.i64.min ≤ a ∧ a ≤ IntKind.i64.max := by simpa [Lit.wf] using h
  have h2 : IntKind.i64.min = -9223372036854775808 := by decide
  have h3 : IntKind.i64.max = 9223372036854775807 := by decide
  omega
/-- where the span of a place ends -/
def mOf (a e : Nat) : Nat := if a - a % 32 + 32 < e then a - a % 32 + 32 else e
theorem mOf_gt (a e : Nat) (h : a < e) : a < mOf a e := by unfold mOf; split <;> omega
theorem mOf_le (a e : Nat) : mOf a e ≤ e := by unfold mOf; split <;> omega
def cuts (a e : Nat) : List (Nat × Nat) := if h : a < e then (a, mOf a e) :: cuts (mOf a e) e else []
termination_by e - a
decreasing_by have := mOf_gt a e h; have := mOf_le a e; omega
theorem cuts_end (e : Nat) : cuts e e = [] := by rw [cuts, dif_neg (by omega)]
theorem cuts_cons (a e : Nat) (h : a < e) : cuts a e = (a, mOf a e) :: cuts (mOf a e) e := by rw [cuts, dif_pos h]
theorem cuts_len (n : Nat) : ∀ a e, e - a ≤ n → (cuts a e).length ≤ e - a := by
  induction n with
  | zero => intro a e h; rw [cuts, dif_neg (by omega)]; simp
  | succ n ih =>
    intro a e h
    by_cases hl : a < e
    · have h1 := mOf_gt a e hl
      have h2 := mOf_le a e
      have := ih (mOf a e) e (by omega)
      rw [cuts_cons a e hl, List.length_cons]; omega
    · rw [cuts, dif_neg hl]; simp
def s29 (p : Nat × Nat) : S29 := ⟨(p.1 : Int), (p.2 : Int)⟩
def s30 (p : Nat × Nat) : S30 := ⟨(p.1 : Int), (p.2 : Int)⟩
theorem end_eq (a : Nat) (h : a ≤ 300000) : piece_end.f (a : Int) = some ((a - a % 32 + 32 : Nat) : Int) := by
  unfold piece_end.f
  rw [Int.tmod_eq_emod_of_nonneg (by omega), wq ((a : Int) - (a : Int) % 32) (by omega) (by omega), wq _ (by omega) (by omega)]
  congr 1; omega
theorem mn_eq (a e : Nat) : mn ((a - a % 32 + 32 : Nat) : Int) (e : Int) = ((mOf a e : Nat) : Int) := by
  unfold mn mOf; split <;> split <;> omega
theorem cut_run (k : Nat) : ∀ (acc : List S29) (at_ a e : Nat), at_ ≤ a → a ≤ e → at_ < e → e ≤ 300000 → e - a + 1 ≤ k → acc.length ≤ a → (a = at_ → acc = []) →
    piece_Cut.l0 k acc at_ e a e = some (acc ++ (cuts a e).map s29) := by
  induction k with
  | zero => intro acc at_ a e h1 h2 h3 h4 h5; omega
  | succ k ih =>
    intro acc at_ a e h1 h2 h3 h4 h5 h6 h7
    rw [piece_Cut.l0]
    by_cases he : a = e
    · subst he; rw [if_pos rfl, cuts_end]; simp
    · have hg := mOf_gt a e (by omega)
      have hl := mOf_le a e
      rw [if_neg (by omega), end_eq a (by omega), Option.bind_some, mn_eq, cuts_cons a e (by omega)]
      by_cases hw : a = at_ ∧ mOf a e = e
      · have := h7 hw.1
        subst this
        obtain ⟨rfl, h9⟩ := hw
        rw [if_pos (by simp [h9]), h9, cuts_end]; simp [s29]
      · rw [if_neg (by simp; omega), if_pos (by omega), ih _ at_ (mOf a e) e (by omega) (by omega) (by omega) (by omega) (by omega) (by simp; omega) (by omega)]
        simp [s29]
theorem cut_f (k : Nat) (a n : Int) (h : n.toNat + 3 ≤ k) : piece_Cut.f k a n = some (if a < 0 ∨ n < 1 ∨ a > 131072 ∨ n > 131072 then [] else (cuts a.toNat (a.toNat + n.toNat)).map s29) := by
  obtain ⟨k, rfl⟩ : ∃ j, k = j + 1 := ⟨k - 1, by omega⟩
  unfold piece_Cut.f
  by_cases h1 : a < 0
  · rw [if_pos h1, if_pos (by omega), piece_Cut.j0, if_pos rfl]
  · rw [if_neg h1]
    by_cases h2 : n < 1
    · rw [if_pos h2, if_pos (by omega), piece_Cut.j0, if_pos rfl]
    · rw [if_neg h2]
      by_cases h3 : a > 131072
      · rw [if_pos h3, if_pos (by omega), piece_Cut.j0, if_pos rfl]
      · rw [if_neg h3, piece_Cut.j0]
        by_cases h4 : n > 131072
        · rw [if_pos (by simpa using h4), if_pos (by omega)]
        · rw [if_neg (by simpa using h4), if_neg (by omega), wq _ (by omega) (by omega)]
          have h5 := cut_run k [] a.toNat a.toNat (a.toNat + n.toNat) (by omega) (by omega) (by omega) (by omega) (by omega) (by simp) (fun _ => rfl)
          rw [show ((a.toNat : Nat) : Int) = a by omega, show ((a.toNat + n.toNat : Nat) : Int) = a + n by omega] at h5
          rw [h5, List.nil_append]
theorem rd30_last (acc : List S30) (x : S30) : rd_T30 (acc ++ [x]) (((acc ++ [x]).length : Int) - 1) = x := by
  unfold rd_T30
  rw [show (((acc ++ [x]).length : Int) - 1).toNat = acc.length by simp]
  simp [List.getD]
theorem set_last (acc : List S30) (x y : S30) : (acc ++ [x]).set (((acc ++ [x]).length : Int) - 1).toNat y = acc ++ [y] := by
  rw [show (((acc ++ [x]).length : Int) - 1).toNat = acc.length by simp, List.set_append_right _ _ (by omega)]
  simp
theorem ref_run (k : Nat) : ∀ (acc : List S30) (at_ n a j : Nat), at_ ≤ a → a < j → j ≤ mOf a (at_ + n) → at_ + n ≤ 300000 → at_ + n - j + 1 ≤ k → acc.length ≤ a →
    stylusref05_Cut.l0 k at_ n (acc ++ [⟨a, j⟩]) j = some (acc ++ ((a, mOf a (at_ + n)) :: cuts (mOf a (at_ + n)) (at_ + n)).map s30) := by
  induction k with
  | zero => intro acc at_ n a j h1 h2 h3 h4 h5; omega
  | succ k ih =>
    intro acc at_ n a j h1 h2 h3 h4 h5 h6
    have hl := mOf_le a (at_ + n)
    rw [stylusref05_Cut.l0, wq ((at_ : Int) + n) (by omega) (by omega)]
    by_cases he : j = at_ + n
    · have : mOf a (at_ + n) = at_ + n := by omega
      rw [if_neg (by omega), this, cuts_end, he]; simp [s30]
    · rw [if_pos (by omega), if_neg (by omega), Int.tmod_eq_emod_of_nonneg (by omega)]
      have hlen : ((acc ++ [(⟨a, j⟩ : S30)]).length : Int) = acc.length + 1 := by simp
      by_cases hm : j % 32 = 0
      · have hjm : j = mOf a (at_ + n) := by unfold mOf at h3 ⊢; split at h3 <;> (split <;> omega)
        rw [if_pos (by omega), if_pos (by omega), Option.bind_some]
        have hlen2 : (((acc ++ [(⟨a, j⟩ : S30)]) ++ [(⟨j, j⟩ : S30)]).length : Int) = acc.length + 2 := by simp only [List.length_append, List.length_singleton]; omega
        rw [wq ((((acc ++ [(⟨a, j⟩ : S30)]) ++ [(⟨j, j⟩ : S30)]).length : Int) - 1) (by omega) (by omega), if_pos (by omega), if_pos (by omega), set_last, rd30_last, wq ((j : Int) + 1) (by omega) (by omega)]
        have := ih (acc ++ [⟨a, j⟩]) at_ n j (j + 1) (by omega) (by omega) (by have := mOf_gt j (at_ + n) (by omega); omega) (by omega) (by omega) (by simp; omega)
        rw [show (((j + 1 : Nat)) : Int) = (j : Int) + 1 by omega] at this
        rw [this, ← hjm, ← cuts_cons j (at_ + n) (by omega)]
        simp [s30]
      · rw [if_neg (by omega)]
        rw [wq (((acc ++ [(⟨a, j⟩ : S30)]).length : Int) - 1) (by omega) (by omega), if_pos (by omega), if_pos (by omega), set_last, rd30_last, wq ((j : Int) + 1) (by omega) (by omega)]
        have hjm : j + 1 ≤ mOf a (at_ + n) := by unfold mOf at h3 ⊢; split at h3 <;> (split <;> omega)
        have := ih acc at_ n a (j + 1) (by omega) (by omega) hjm (by omega) (by omega) (by omega)
        rw [show (((j + 1 : Nat)) : Int) = (j : Int) + 1 by omega] at this
        exact this
theorem rcut_f (k : Nat) (a n : Int) (h : n.toNat + 3 ≤ k) : stylusref05_Cut.f k a n = some (if a < 0 ∨ n < 1 ∨ a > 131072 ∨ n > 131072 then [] else (cuts a.toNat (a.toNat + n.toNat)).map s30) := by
  obtain ⟨k, rfl⟩ : ∃ j, k = j + 2 := ⟨k - 2, by omega⟩
  unfold stylusref05_Cut.f
  by_cases h1 : a < 0
  · rw [if_pos h1, if_pos (by omega), stylusref05_Cut.j0, if_pos rfl]
  · rw [if_neg h1]
    by_cases h2 : n < 1
    · rw [if_pos h2, if_pos (by omega), stylusref05_Cut.j0, if_pos rfl]
    · rw [if_neg h2]
      by_cases h3 : a > 131072
      · rw [if_pos h3, if_pos (by omega), stylusref05_Cut.j0, if_pos rfl]
      · rw [if_neg h3, stylusref05_Cut.j0]
        by_cases h4 : n > 131072
        · rw [if_pos (by simpa using h4), if_pos (by omega)]
        · rw [if_neg (by simpa using h4), if_neg (by omega), stylusref05_Cut.l0, wq _ (by omega) (by omega), if_pos (by omega), if_pos rfl, if_pos (by simp), Option.bind_some]
          have e1 := set_last [] (⟨a, a⟩ : S30) ⟨a, a + 1⟩
          have e2 := rd30_last [] (⟨a, a⟩ : S30)
          simp only [List.nil_append, List.length_singleton] at e1 e2 ⊢
          rw [wq (((1 : Nat) : Int) - 1) (by omega) (by omega), if_pos (by omega), if_pos (by omega), e2, wq (a + 1) (by omega) (by omega), e1]
          have h5 := ref_run k [] a.toNat n.toNat a.toNat (a.toNat + 1) (by omega) (by omega) (mOf_gt a.toNat (a.toNat + n.toNat) (by omega)) (by omega) (by omega) (by simp)
          rw [show ((a.toNat + 1 : Nat) : Int) = a + 1 by omega, show ((a.toNat : Nat) : Int) = a by omega, show ((n.toNat : Nat) : Int) = n by omega, List.nil_append, List.nil_append, ← cuts_cons a.toNat (a.toNat + n.toNat) (by omega)] at h5
          exact h5
theorem count_eq (n : Int) (h : -9223372036854775808 ≤ n ∧ n ≤ 9223372036854775807) : piece_Count.f n = stylusref05_Count.f n := by
  unfold piece_Count.f stylusref05_Count.f
  by_cases h1 : n < 1
  · rw [if_pos h1, if_pos h1]
  · rw [if_neg h1, if_neg h1, Int.tmod_eq_emod_of_nonneg (by omega), Int.tdiv_eq_ediv_of_nonneg (by omega), wq (n - 1) (by omega) (by omega), Int.tdiv_eq_ediv_of_nonneg (by omega), wq (n / 32) (by omega) (by omega), wq (n / 32 + 1) (by omega) (by omega), wq ((n - 1) / 32) (by omega) (by omega), wq ((n - 1) / 32 + 1) (by omega) (by omega)]
    by_cases h2 : n % 32 > 0
    · rw [if_pos h2]; congr 1; omega
    · rw [if_neg h2]; congr 1; omega
theorem count_some (n : Int) : ∃ c, stylusref05_Count.f n = some c := by unfold stylusref05_Count.f; split <;> exact ⟨_, rfl⟩
theorem lives (k : Nat) (h : 8 ≤ k) : styluslaw05_lives.f k = some true := by
  unfold styluslaw05_lives.f
  rw [cut_f k 30 4 (by show 4 + 3 ≤ k; omega), if_neg (by decide), Option.bind_some]
  have e : cuts (30 : Int).toNat ((30 : Int).toNat + (4 : Int).toNat) = [(30, 32), (32, 34)] := by
    show cuts 30 34 = _
    rw [cuts_cons 30 34 (by decide), show mOf 30 34 = 32 by decide, cuts_cons 32 34 (by decide), show mOf 32 34 = 34 by decide, cuts_end]
  rw [e]; rfl
theorem same (k : Nat) : ∀ (l : List (Nat × Nat)) (i : Nat), i ≤ l.length → l.length ≤ 10000 → l.length - i + 10 ≤ k → styluslaw05_PieceCuts.l0 k (l.map s29) (l.map s30) i = some true := by
  induction k with
  | zero => intro l i h h0 h1; omega
  | succ k ih =>
    intro l i h h0 h1
    rw [styluslaw05_PieceCuts.l0]
    by_cases hi : i < l.length
    · have e1 : rd_T29 (l.map s29) i = s29 (l[i]'hi) := by unfold rd_T29; simp [List.getD, hi]
      have e2 : rd_T30 (l.map s30) i = s30 (l[i]'hi) := by unfold rd_T30; simp [List.getD, hi]
      rw [if_pos (by simp; omega), if_pos (by omega), if_pos (by simp; omega), e1, e2, if_pos (show (s29 (l[i]'hi)).f0 = (s30 (l[i]'hi)).f0 from rfl), if_pos (show (s29 (l[i]'hi)).f1 = (s30 (l[i]'hi)).f1 from rfl), wq _ (by omega) (by omega)]
      exact ih l (i + 1) (by omega) (by omega) (by omega)
    · rw [if_neg (by simp; omega), lives k (by omega), Option.bind_some]
theorem PieceCuts : styluslaw05_PieceCuts.Pure := by
  intro a n ha hn
  have hn := wf64 hn
  refine ⟨30002, ?_⟩
  unfold styluslaw05_PieceCuts.f
  obtain ⟨c, hc⟩ := count_some n
  have main : ∀ l : List (Nat × Nat), l.length ≤ 10000 → styluslaw05_PieceCuts.j1 30001 (l.map s29) (l.map s30) false = some true := by
    intro l hl
    rw [styluslaw05_PieceCuts.j1, if_neg (by decide)]
    exact same 30000 l 0 (by omega) hl (by omega)
  by_cases h1 : n > 5000
  · rw [if_pos h1, styluslaw05_PieceCuts.j0]
    by_cases h2 : n ≤ 131072
    · rw [if_pos (by simpa using h2), lives _ (by omega), Option.bind_some]
    · have e1 : piece_Cut.f 30001 a n = some [] := by
        unfold piece_Cut.f; simp only [piece_Cut.j0]
        by_cases q1 : a < 0
        · rw [if_pos q1]; rfl
        · rw [if_neg q1, if_neg (by omega)]
          by_cases q2 : a > 131072
          · rw [if_pos q2]; rfl
          · rw [if_neg q2, if_pos (by simp; omega)]
      have e2 : stylusref05_Cut.f 30001 a n = some [] := by
        unfold stylusref05_Cut.f; simp only [stylusref05_Cut.j0]
        by_cases q1 : a < 0
        · rw [if_pos q1]; rfl
        · rw [if_neg q1, if_neg (by omega)]
          by_cases q2 : a > 131072
          · rw [if_pos q2]; rfl
          · rw [if_neg q2, if_pos (by simp; omega)]
      rw [if_neg (by simpa using h2), e1, Option.bind_some, e2, Option.bind_some, if_pos (show (([] : List S29).length : Int) = (([] : List S30).length : Int) from rfl), count_eq n hn, hc, Option.bind_some, Option.bind_some, bne_self_eq_false]
      exact main [] (by simp)
  · rw [if_neg h1, styluslaw05_PieceCuts.j0, if_neg (by decide), cut_f _ a n (by omega), Option.bind_some, rcut_f _ a n (by omega), Option.bind_some, count_eq n hn, hc, Option.bind_some, Option.bind_some, bne_self_eq_false]
    by_cases hg : a < 0 ∨ n < 1 ∨ a > 131072 ∨ n > 131072
    · rw [if_pos hg, if_pos hg, if_pos (show (([] : List S29).length : Int) = (([] : List S30).length : Int) from rfl)]; exact main [] (by simp)
    · rw [if_neg hg, if_neg hg, if_pos (by simp)]
      have := cuts_len n.toNat a.toNat (a.toNat + n.toNat) (by omega)
      exact main _ (by omega)
end Go.Proofs.Ytobhffeopfbjlaa.Pa
