import Derived.Test.YtobhffeopfbjlaaBl
import Derived.Test.YtobhffeopfbjlaaQBx6
import Derived.Test.YtobhffeopfbjlaaQBx7
/- What is left of a file when the power goes: with choices of one kind alone, and byte by byte. -/
namespace Go.Proofs.Ytobhffeopfbjlaa.Bl
open Go.RowKit Go.Proofs.Ytobhffeopfbjlaa.QB Go.Proofs.Ytobhffeopfbjlaa.QP Go.Proofs.Ytobhffeopfbjlaa.Ps Go.Proofs.YtobhffeopfbjlaaW.PrintWords Go.Proofs.YtobhffeopfbjlaaW.PrintLast Go.Proofs.YtobhffeopfbjlaaW.PrintMore
set_option linter.unusedVariables false
def ones (n : Nat) : List Int := List.replicate n 1 ++ List.replicate (40 - n) 0
theorem ones_len (n : Nat) (h : n ≤ 40) : (ones n).length = 40 := by unfold ones; simp; omega
theorem ones_set (n : Nat) (h : n < 40) : (ones n).set n 1 = ones (n + 1) := by
  unfold ones
  rw [List.set_append_right _ _ (by simp), List.length_replicate, Nat.sub_self, show 40 - n = (40 - (n + 1)) + 1 by omega, List.replicate_succ, List.set_cons_zero, List.replicate_succ' (n := n)]
  simp
theorem ch_zero (u : Nat) : chOf ⟨#[]⟩ u = 0 := by unfold chOf; simp
theorem ch_ones (u : Nat) (h : u < 40) : chOf (strOfNums (ones 40)) u = 1 := by
  have e : ones 40 = nb (List.replicate 40 1) := by decide
  rw [e, nb_str]
  unfold chOf
  rw [bs_data, getD_lt _ _ _ (by rw [List.length_replicate]; exact h), List.getElem_replicate]
  decide
theorem mix_len_a (a b s : ByteArray) (h : ∀ u, chOf s u = 0) : (mix a b s).1 = a.data.toList := by
  unfold mix
  have := mix_old a.data.toList b.data.toList (chOf s) h (max (cnt a.size) (cnt b.size)) 0 0
  rw [Nat.mul_zero, List.take_zero] at this
  rw [this]; exact take_all _ _ (by rw [dl]; omega)
theorem mix_len_b (a b s : ByteArray) (ha : a.size ≤ 1000) (hb : b.size ≤ 1000) (h : ∀ u, u < 40 → chOf s u = 1) : (mix a b s).1 = b.data.toList := by
  unfold mix
  have := mix_new a.data.toList b.data.toList (chOf s) 40 h (max (cnt a.size) (cnt b.size)) 0 0 (by unfold cnt; omega)
  rw [Nat.mul_zero, List.take_zero] at this
  rw [this]; exact take_all _ _ (by rw [dl]; omega)
theorem mix_self (a s : ByteArray) : mix a a s = (a.data.toList, 0) := by
  unfold mix
  have := mix_same a.data.toList (chOf s) (max (cnt a.size) (cnt a.size)) 0 0
  rw [Nat.mul_zero, List.take_zero] at this
  rw [this, take_all _ _ (by rw [dl]; omega)]
theorem mix_two (a b s : ByteArray) : (mix a b s).2 = (uns a.data.toList b.data.toList (max (cnt a.size) (cnt b.size)) 0).length := by
  unfold mix; rw [mix_count]; simp
theorem ends_run (k : Nat) : ∀ (a b s : ByteArray) (ha : a.size ≤ 600) (hb : b.size ≤ 600) (hs : s.size ≤ 100) (i : Nat), i ≤ 40 → (40 - i) + 1200 ≤ k → styluslaw06_BlendEnds.l0 k a b s (ones i) i = some true := by
  induction k with
  | zero => intro a b s ha hb hs i h1 h2; omega
  | succ k ih =>
    intro a b s ha hb hs i h1 h2
    rw [styluslaw06_BlendEnds.l0]
    by_cases hi : i < 40
    · rw [if_pos (by omega), if_pos (by omega), if_pos (by rw [ones_len _ h1]; omega), Int.toNat_natCast, ones_set i hi, wq _ (by omega) (by omega)]
      exact ih a b s ha hb hs (i + 1) (by omega) (by omega)
    · obtain rfl : i = 40 := by omega
      have e40 : (strOfNums (ones 40)).size ≤ 1000 := by rw [strOfNums_size, ones_len _ (by omega)]; omega
      have hz : ((mix a b ⟨#[]⟩).2 == 0) = (a.toList == b.toList) := by
        rw [mix_two, Lib.toList_data, Lib.toList_data]
        have hu := uns_nil a b
        by_cases hab : a.data.toList = b.data.toList
        · rw [hu.mpr hab, hab]; simp
        · rw [beq_eq_false_iff_ne.mpr hab, beq_eq_false_iff_ne.mpr (fun h => hab (hu.mp (List.eq_nil_of_length_eq_zero h)))]
      rw [if_neg (by omega), mix_f k a b ⟨#[]⟩ (by omega) (by omega) (by decide) (by omega), Option.bind_some, mix_f k a b _ (by omega) (by omega) e40 (by omega), Option.bind_some, mix_f k b b s (by omega) (by omega) (by omega) (by omega), Option.bind_some]
      simp only [mix_len_a a b ⟨#[]⟩ ch_zero, mix_len_b a b (strOfNums (ones 40)) (by omega) (by omega) ch_ones, mix_self, Lib.toList_data, if_true] at hz ⊢
      rw [if_pos (by rw [mix_two, mix_two]), if_pos (by rfl), if_pos, lives k (by omega), Option.bind_some]
      rw [← hz]
      have : ((((mix a b ⟨#[]⟩).2 : Nat) : Int) == 0) = ((mix a b ⟨#[]⟩).2 == 0) := by
        by_cases h0 : (mix a b ⟨#[]⟩).2 = 0
        · rw [h0]; rfl
        · rw [beq_eq_false_iff_ne.mpr h0, beq_eq_false_iff_ne.mpr (by omega)]
      rw [this]; simp
theorem BlendEnds : styluslaw06_BlendEnds.Pure := by
  intro a b s ha hb hs
  refine ⟨3001, ?_⟩
  unfold styluslaw06_BlendEnds.f
  have out : styluslaw06_BlendEnds.j0 3001 a b s true = some true := by rw [styluslaw06_BlendEnds.j0, if_pos rfl, lives _ (by omega), Option.bind_some]
  by_cases h1 : (a.size : Int) > 600
  · rw [if_pos h1]; exact out
  · rw [if_neg h1]
    by_cases h2 : (b.size : Int) > 600
    · rw [if_pos h2]; exact out
    · rw [if_neg h2]
      by_cases h3 : (s.size : Int) > 100
      · rw [decide_eq_true h3]; exact out
      · rw [decide_eq_false h3, styluslaw06_BlendEnds.j0, if_neg (by decide), if_pos (by decide)]
        exact ends_run 3000 a b s (by omega) (by omega) (by omega) 0 (by omega) (by omega)
/-- each byte is one of both, or 0 -/
def okB (A B out : List UInt8) : Prop := ∀ i (h : i < out.length), out[i] = 0 ∨ A[i]? = some out[i] ∨ B[i]? = some out[i]
theorem sec_some (A : List UInt8) (k j : Nat) (h : j < (sec A k).length) : A[32 * k + j]? = some ((sec A k)[j]) := by
  have hl := sec_len A k
  rw [← List.getElem?_eq_getElem h]
  unfold sec
  rw [List.getElem?_take, if_pos (by omega), List.getElem?_drop]
theorem put_ok (A B out : List UInt8) (k : Nat) (x : List UInt8) (ho : okB A B out) (hl : out.length ≤ 32 * k) (hx : ∀ j (h : j < x.length), x[j] = 0 ∨ A[32 * k + j]? = some x[j] ∨ B[32 * k + j]? = some x[j]) : okB A B (put out k x) := by
  unfold put
  by_cases hn : x = []
  · rw [if_pos hn]; exact ho
  · rw [if_neg hn]
    intro i hi
    by_cases h1 : i < out.length
    · have e : (out ++ List.replicate (32 * k - out.length) 0 ++ x)[i] = out[i] := by
        rw [List.getElem_append_left (by rw [List.length_append]; omega), List.getElem_append_left h1]
      rw [e]; exact ho i h1
    · by_cases h2 : i < 32 * k
      · left
        rw [List.getElem_append_left (by rw [List.length_append, List.length_replicate]; omega), List.getElem_append_right (by omega), List.getElem_replicate]
      · have hlen : (out ++ List.replicate (32 * k - out.length) 0).length = 32 * k := by rw [List.length_append, List.length_replicate]; omega
        have hj : i - 32 * k < x.length := by rw [List.length_append, hlen] at hi; omega
        have e : (out ++ List.replicate (32 * k - out.length) 0 ++ x)[i] = x[i - 32 * k] := by
          rw [List.getElem_append_right (by omega)]
          congr 1; omega
        have := hx (i - 32 * k) hj
        rw [show 32 * k + (i - 32 * k) = i by omega] at this
        rw [e]; exact this
theorem put_max (A B out : List UInt8) (k : Nat) (x : List UInt8) (m : Nat) (hl : out.length ≤ 32 * k) (hm : out.length ≤ m) (hx : x = [] ∨ 32 * k + x.length ≤ m) : (put out k x).length ≤ m := by
  unfold put
  by_cases hn : x = []
  · rw [if_pos hn]; exact hm
  · rw [if_neg hn, List.length_append, List.length_append, List.length_replicate]
    rcases hx with h | h
    · exact absurd h hn
    · omega
theorem sec_max (A : List UInt8) (k m : Nat) (h : A.length ≤ m) : sec A k = [] ∨ 32 * k + (sec A k).length ≤ m := by
  have hl := sec_len A k
  rcases Nat.lt_or_ge (32 * k) A.length with h1 | h1
  · right; omega
  · left; exact sec_none A k h1
theorem mix_ok (A B : List UInt8) (ch : Nat → Nat) : ∀ (r k u : Nat) (out : List UInt8), okB A B out → out.length ≤ 32 * k → out.length ≤ max A.length B.length → okB A B (mixL A B ch r k u out).1 ∧ (mixL A B ch r k u out).1.length ≤ max A.length B.length := by
  intro r
  induction r with
  | zero => intro k u out h1 h2 h3; exact ⟨h1, h3⟩
  | succ r ih =>
    intro k u out h1 h2 h3
    have la := sec_len A k
    have lb := sec_len B k
    have xa : ∀ j (h : j < (sec A k).length), (sec A k)[j] = 0 ∨ A[32 * k + j]? = some (sec A k)[j] ∨ B[32 * k + j]? = some (sec A k)[j] := fun j h => .inr (.inl (sec_some A k j h))
    rw [mixL]
    split
    · exact ih (k + 1) u _ (put_ok A B out k _ h1 h2 xa) (put_len _ _ _ h2 (by omega)) (put_max A B out k _ _ h2 h3 (sec_max A k _ (by omega)))
    · have hp : ∀ c, (∀ j (h : j < (pick c (sec A k) (sec B k)).length), (pick c (sec A k) (sec B k))[j] = 0 ∨ A[32 * k + j]? = some (pick c (sec A k) (sec B k))[j] ∨ B[32 * k + j]? = some (pick c (sec A k) (sec B k))[j]) ∧ (pick c (sec A k) (sec B k) = [] ∨ 32 * k + (pick c (sec A k) (sec B k)).length ≤ max A.length B.length) := by
        intro c
        unfold pick
        by_cases q1 : c = 1
        · simp only [if_pos q1]
          exact ⟨fun j h => .inr (.inr (sec_some B k j h)), sec_max B k _ (by omega)⟩
        · simp only [if_neg q1]
          by_cases q2 : c = 2
          · simp only [if_pos q2]
            refine ⟨fun j h => .inl (by rw [List.getElem_replicate]), ?_⟩
            rcases sec_max B k (max A.length B.length) (by omega) with h | h
            · left; rw [h]; rfl
            · right; rw [List.length_replicate]; exact h
          · simp only [if_neg q2]
            exact ⟨xa, sec_max A k _ (by omega)⟩
      exact ih (k + 1) (u + 1) _ (put_ok A B out k _ h1 h2 (hp _).1) (put_len _ _ _ h2 (pick_len _ _ _ (by omega) (by omega))) (put_max A B out k _ _ h2 h3 (hp _).2)
theorem bt_get (s : ByteArray) (i : Nat) (h : i < s.data.toList.length) : bt s (i : Int) = ((s.data.toList[i]).toNat : Int) := by
  have h2 : i < s.size := by rw [dl] at h; exact h
  unfold bt; rw [dif_pos (by simpa using h2)]; rfl
theorem bt_some (s : ByteArray) (i : Nat) (x : UInt8) (h : s.data.toList[i]? = some x) : i < s.size ∧ bt s (i : Int) = (x.toNat : Int) := by
  obtain ⟨h1, h2⟩ := List.getElem?_eq_some_iff.mp h
  exact ⟨by rw [dl] at h1; exact h1, by rw [bt_get s i h1, h2]⟩
theorem bytes_run (k : Nat) : ∀ (a b x : ByteArray) (ha : a.size ≤ 600) (hb : b.size ≤ 600) (hx : x.size ≤ 1000) (i : Nat), okB a.data.toList b.data.toList x.data.toList → i ≤ x.size → x.size - i + 1200 ≤ k → styluslaw06_BlendBytes.l0 k a b x i = some true := by
  induction k with
  | zero => intro a b x ha hb hx i h1 h2 h3; omega
  | succ k ih =>
    intro a b x ha hb hx i h1 h2 h3
    rw [styluslaw06_BlendBytes.l0]
    by_cases hi : i < x.size
    · have hi' : i < x.data.toList.length := by rw [dl]; exact hi
      have go : styluslaw06_BlendBytes.l0 k a b x (wrap64 ((i : Int) + 1)) = some true := by
        rw [wq _ (by omega) (by omega)]; exact ih a b x ha hb hx (i + 1) h1 (by omega) (by omega)
      rw [if_pos (by omega), if_pos (by omega), bt_get x i hi']
      by_cases h0 : ((x.data.toList[i]).toNat : Int) = 0
      · rw [if_pos h0]; exact go
      · rw [if_neg h0]
        have hz : x.data.toList[i] ≠ 0 := fun h => h0 (by rw [h]; rfl)
        rcases h1 i hi' with h | h | h
        · exact absurd h hz
        · obtain ⟨q1, q2⟩ := bt_some a i _ h
          rw [if_neg (by omega), if_pos (by omega), if_pos q2]; exact go
        · obtain ⟨q1, q2⟩ := bt_some b i _ h
          rw [if_neg (show ¬ (i : Int) ≥ (b.size : Int) by omega), if_pos (show (i : Int) < (b.size : Int) by omega), if_pos q2]
          split
          · exact go
          · rw [if_pos (by omega)]
            split <;> exact go
    · rw [if_neg (by omega), lives k (by omega), Option.bind_some]
theorem BlendBytes : styluslaw06_BlendBytes.Pure := by
  intro a b s ha hb hs
  refine ⟨3001, ?_⟩
  unfold styluslaw06_BlendBytes.f
  have out : styluslaw06_BlendBytes.j0 3001 a b s true = some true := by rw [styluslaw06_BlendBytes.j0, if_pos rfl, lives _ (by omega), Option.bind_some]
  by_cases h1 : (a.size : Int) > 600
  · rw [if_pos h1]; exact out
  · rw [if_neg h1]
    by_cases h2 : (b.size : Int) > 600
    · rw [if_pos h2]; exact out
    · rw [if_neg h2]
      by_cases h3 : (s.size : Int) > 100
      · rw [decide_eq_true h3]; exact out
      · have hok := mix_ok a.data.toList b.data.toList (chOf s) (max (cnt a.size) (cnt b.size)) 0 0 [] (fun i h => absurd h (by simp)) (by simp) (by simp)
        have hmx : (mix a b s).1.length ≤ max a.size b.size := by have := hok.2; rw [dl, dl] at this; exact this
        have j1 : styluslaw06_BlendBytes.j1 3000 a b ⟨(mix a b s).1.toArray⟩ false = some true := by
          rw [styluslaw06_BlendBytes.j1, if_neg (by decide)]
          exact bytes_run 2999 a b _ (by omega) (by omega) (by rw [bs_size]; omega) 0 hok.1 (by omega) (by rw [bs_size]; omega)
        rw [decide_eq_false h3, styluslaw06_BlendBytes.j0, if_neg (by decide), mix_f _ a b s (by omega) (by omega) (by omega) (by omega), Option.bind_some]
        simp only [bs_size]
        by_cases q : ((mix a b s).1.length : Int) > (a.size : Int)
        · rw [if_pos q, decide_eq_false (by omega)]; exact j1
        · rw [if_neg q]; exact j1
end Go.Proofs.Ytobhffeopfbjlaa.Bl
