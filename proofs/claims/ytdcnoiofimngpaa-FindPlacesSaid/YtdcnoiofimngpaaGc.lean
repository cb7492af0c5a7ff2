import Derived.Test.YtdcnoiofimngpaaKi
import Derived.Test.YtdcnoiofimngpaaSpec
import Derived.Test.YtdcnoiofimngpaaKd
/- A text in chunks, in plain words. -/
namespace Go.Proofs.Ytdcnoiofimngpaa.Gc
open Go.RowKit Go.Proofs.Ytdcnoiofimngpaa.U Go.Proofs.Ytdcnoiofimngpaa.QK Go.Proofs.Ytdcnoiofimngpaa.Kt Go.Proofs.Ytdcnoiofimngpaa.Kc Go.Proofs.Ytdcnoiofimngpaa.Kh Go.Proofs.Ytdcnoiofimngpaa.Kj Go.Proofs.YtdcnoiofimngpaaW.PrintWords Go.Proofs.YtdcnoiofimngpaaW.PrintLast Go.Proofs.YtdcnoiofimngpaaW.PrintMore
set_option linter.unusedVariables false
theorem ld_app (a b : ByteArray) : ld (a ++ b) = ld a ++ ld b := by simp [ld]
theorem ld_extract (s : ByteArray) (i j : Nat) : ld (s.extract i j) = (ld s).extract i j := by simp [ld]
theorem ld_take (s : ByteArray) (k : Nat) : ld (s.extract 0 k) = (ld s).take k := by rw [ld_extract]; simp [List.extract]
theorem ld_drop (s : ByteArray) (k : Nat) : ld (s.extract k s.size) = (ld s).drop k := by
  rw [ld_extract, List.extract, List.take_of_length_le (by rw [List.length_drop, ld_len]; omega)]
theorem wq (x : Int) (h0 : -9223372036854775808 ≤ x) (h1 : x ≤ 9223372036854775807) : wrap64 x = x := by unfold wrap64; omega
theorem rdOf_nat (l : List ByteArray) (i : Nat) : rdOf ByteArray.empty l (i : Int) = l.getD i ByteArray.empty := by unfold rdOf; rw [Int.toNat_natCast]
theorem edge_near : ∀ (n : Nat) (l : List UInt8), l.length ≤ n → Sp.valid l = true → ∀ k, k < l.length → ∃ j, j ≤ k ∧ k < j + 4 ∧ Sp.cont (l.getD j 0) = false := by
  intro n
  induction n with
  | zero => intro l h hv k hk; omega
  | succ n ih0 =>
    intro l h hv k hk
    have ih := ih0
    have hne : l ≠ [] := by intro hc; rw [hc] at hk; simp at hk
    rw [Sp.valid_step l hne] at hv
    simp only [Bool.and_eq_true, decide_eq_true_eq] at hv
    obtain ⟨t, hr, hw, hl⟩ := Sp.dec_some hv.1
    obtain ⟨x, y, he, hx, hy⟩ := Sp.enc_cont hr
    have hlen := Sp.enc_length hr
    have hp := Sp.width_pos (Sp.dec l).1
    have hv1 := hv.2
    clear hv ih
    generalize Sp.dec l = d at hr hw hl he hlen hp hv1
    by_cases hk4 : k < d.2
    · refine ⟨0, by omega, by omega, ?_⟩
      rw [hl, he]; exact hx
    · have hdr : l.drop d.2 = t := by rw [hl, hw, ← hlen]; exact List.drop_left
      have hl2 := congrArg List.length hl
      rw [List.length_append] at hl2
      obtain ⟨j, h1, h2, h3⟩ := ih0 t (by omega) (by rw [← hdr]; exact hv1) (k - d.2) (by omega)
      refine ⟨j + d.2, by omega, by omega, ?_⟩
      rw [hl, List.getD_eq_getElem?_getD, List.getElem?_append_right (by omega), show j + d.2 - (Sp.enc d.1).length = j by omega, ← List.getD_eq_getElem?_getD]
      exact h3
theorem backN_edge (l : List UInt8) : ∀ k, k ≤ l.length → Sp.edge l (Sp.backN l k : Nat) = true ∧ Sp.backN l k ≤ k
  | 0 => fun _ => ⟨by simp [Sp.backN, Sp.edge], Nat.le_refl _⟩
  | k + 1 => fun h => by
    rw [Sp.backN]
    by_cases he : Sp.edge l (k + 1 : Nat) = true
    · rw [if_pos he]; exact ⟨he, Nat.le_refl _⟩
    · rw [if_neg he]; obtain ⟨h1, h2⟩ := backN_edge l k (by omega); exact ⟨h1, by omega⟩
theorem backN_ge (l : List UInt8) (j : Nat) (hj : Sp.edge l (j : Nat) = true) : ∀ k, j ≤ k → j ≤ Sp.backN l k
  | 0 => fun h => by omega
  | k + 1 => fun h => by
    rw [Sp.backN]
    by_cases he : Sp.edge l (k + 1 : Nat) = true
    · rw [if_pos he]; exact h
    · rw [if_neg he]
      by_cases hjk : j = k + 1
      · subst hjk; exact absurd hj he
      · exact backN_ge l j hj k (by omega)
theorem edge_of {l : List UInt8} {j : Nat} (h : j < l.length) (hc : Sp.cont (l.getD j 0) = false) : Sp.edge l (j : Nat) = true := by
  unfold Sp.edge
  rw [Int.toNat_natCast, hc]
  simp; omega
theorem back_le (l : List UInt8) (i : Int) (h0 : 0 ≤ i) : Sp.back l i ≤ l.length := by
  unfold Sp.back
  by_cases h : i ≥ l.length
  · rw [if_pos h]; omega
  · rw [if_neg h]; have := (backN_edge l i.toNat (by omega)).2; omega
theorem back_edge (l : List UInt8) (i : Int) (h0 : 0 ≤ i) : Sp.edge l (Sp.back l i : Nat) = true := by
  unfold Sp.back
  by_cases h : i ≥ l.length
  · rw [if_pos h]; simp [Sp.edge]
  · rw [if_neg h]; exact (backN_edge l i.toNat (by omega)).1
theorem back16 {l : List UInt8} (hv : Sp.valid l = true) (h : 16 < l.length) : 13 ≤ Sp.back l 16 ∧ Sp.back l 16 ≤ 16 ∧ Sp.valid (l.take (Sp.back l 16)) = true ∧ Sp.valid (l.drop (Sp.back l 16)) = true := by
  obtain ⟨j, h1, h2, h3⟩ := edge_near l.length l (Nat.le_refl _) hv 16 h
  have he := edge_of (l := l) (j := j) (by omega) h3
  have hb : Sp.back l 16 = Sp.backN l 16 := by unfold Sp.back; rw [if_neg (by omega)]; rfl
  have hge := backN_ge l j he 16 (by omega)
  obtain ⟨e1, e2⟩ := backN_edge l 16 (by omega)
  rw [hb]
  exact ⟨by omega, e2, Sp.valid_cut l _ (by omega) e1 hv⟩
theorem fits_mk {s : ByteArray} (h1 : 1 ≤ s.size) (h2 : s.size ≤ 16) (h3 : Sp.valid (ld s) = true) : fits s = true := by simp [fits, h1, h2, h3]
def far : Option ByteArray → ByteArray → Bool
  | none, _ => true
  | some q, s => decide (16 < q.size + s.size)
def snug (p : Option ByteArray) : List ByteArray → Bool
  | [] => true
  | s :: t => fits s && far p s && snug (some s) t
theorem getD_drop (l : List ByteArray) (i : Nat) (h : i < l.length) : l.drop i = l.getD i ByteArray.empty :: l.drop (i + 1) := by
  rw [List.drop_eq_getElem_cons h, List.getD_eq_getElem?_getD, List.getElem?_eq_getElem h]; rfl
def Small (l : List ByteArray) : Prop := ∀ s ∈ l, s.size ≤ 100000
theorem small_at {l : List ByteArray} (h : Small l) {i : Nat} (hi : i < l.length) : (l.getD i ByteArray.empty).size ≤ 100000 := by
  rw [List.getD_eq_getElem?_getD, List.getElem?_eq_getElem hi]; exact h _ (List.getElem_mem hi)
theorem one_f (a b : ByteArray) (ha : a.size ≤ 100000) (hb : b.size ≤ 100000) : chunk_one.f a b = some (decide (a.size + b.size ≤ 16)) := by
  unfold chunk_one.f
  rw [wq _ (by omega) (by omega)]
  congr 1; apply decide_eq_decide.mpr; omega
def prev (l : List ByteArray) (i : Nat) : Option ByteArray := if i = 0 then none else some (l.getD (i - 1) ByteArray.empty)
def GoodC (l : List ByteArray) : Prop := ∀ s ∈ l, fits s = true ∧ 13 ≤ s.size
theorem good_app {p : List ByteArray} {a : ByteArray} (h : GoodC p) (ha : fits a = true ∧ 13 ≤ a.size) : GoodC (p ++ [a]) := by
  intro s hs
  rcases List.mem_append.mp hs with h1 | h1
  · exact h s h1
  · rw [List.mem_singleton.mp h1]; exact ha
theorem tight_good : ∀ (l : List ByteArray) (p : Option ByteArray), GoodC l → (∀ q, p = some q → 13 ≤ q.size) → snug p l = true
  | [], _, _, _ => rfl
  | s :: t, p, hl, hp => by
    have hs := hl s (by simp)
    rw [snug, hs.1, tight_good t (some s) (fun x hx => hl x (by simp [hx])) (fun q hq => by cases hq; exact hs.2)]
    cases p with
    | none => rfl
    | some q => have := hp q rfl; simp [far]; omega
theorem tight_last : ∀ (l : List ByteArray) (p : Option ByteArray) (a x : ByteArray), GoodC (l ++ [a]) → (∀ q, p = some q → 13 ≤ q.size) → fits x = true → 16 < a.size + x.size → snug p (l ++ [a, x]) = true
  | [], p, a, x, hl, hp, hx, h => by
    have hs := hl a (by simp)
    rw [List.nil_append, snug, hs.1, snug, hx, snug]
    cases p with
    | none => simp [far, h]
    | some q => have := hp q rfl; simp [far, h]; omega
  | s :: t, p, a, x, hl, hp, hx, h => by
    have hs := hl s (by simp)
    rw [List.cons_append, snug, hs.1, tight_last t (some s) a x (fun y hy => hl y (by simp at hy ⊢; rcases hy with hy | hy <;> simp [hy])) (fun q hq => by cases hq; exact hs.2) hx h]
    cases p with
    | none => rfl
    | some q => have := hp q rfl; simp [far]; omega
theorem tight_fits : ∀ (l : List ByteArray) (p : Option ByteArray), snug p l = true → ∀ s ∈ l, fits s = true
  | [], _, _, s, hs => by cases hs
  | a :: t, p, h, s, hs => by
    rw [snug] at h
    simp only [Bool.and_eq_true] at h
    rcases List.mem_cons.mp hs with rfl | h1
    · exact h.1.1
    · exact tight_fits t (some a) h.2 s h1
theorem cat_one (a : ByteArray) : cat [a] = a := by apply ld_ext; simp [cat, ld]
theorem cat_two (a b : ByteArray) : cat [a, b] = a ++ b := by apply ld_ext; simp [cat, ld]
theorem cat_app (a b : List ByteArray) : cat (a ++ b) = cat a ++ cat b := by apply ld_ext; simp [cat, ld]
theorem at_end (p : List ByteArray) (a b : ByteArray) (hn : p.length ≤ 1000000) : wrap64 (((p ++ [a, b]).length : Int) - 2) = (p.length : Int) ∧ wrap64 (((p ++ [a, b]).length : Int) - 1) = ((p.length + 1 : Nat) : Int) := by
  have hl : ((p ++ [a, b]).length : Int) = (p.length : Int) + 2 := by simp
  rw [hl, wq _ (by omega) (by omega), wq _ (by omega) (by omega)]
  omega
theorem rd_a (p : List ByteArray) (a b : ByteArray) : rdOf ByteArray.empty (p ++ [a, b]) (p.length : Int) = a := by rw [rdOf_nat]; simp
theorem rd_b (p : List ByteArray) (a b : ByteArray) : rdOf ByteArray.empty (p ++ [a, b]) ((p.length + 1 : Nat) : Int) = b := by rw [rdOf_nat, List.getD_eq_getElem?_getD, List.getElem?_append_right (by omega)]; simp
theorem tail_f (p : List ByteArray) (a b : ByteArray) (hn : p.length ≤ 1000000) (ha : a.size ≤ 100000) (hb : b.size ≤ 100000) :
    chunk_tail.f (p ++ [a, b]) = some (if a.size + b.size ≤ 16 then p ++ [a ++ b] else p ++ [a, b]) := by
  unfold chunk_tail.f
  obtain ⟨e2, e1⟩ := at_end p a b hn
  have hl : ((p ++ [a, b]).length : Int) = (p.length : Int) + 2 := by simp
  rw [e2, e1, rd_a, rd_b, if_neg (by omega), if_pos (by omega), if_pos (by omega), if_pos (by omega), if_pos (by omega), one_f a b ha hb, Option.bind_some]
  by_cases h : a.size + b.size ≤ 16
  · rw [decide_eq_true h, if_pos rfl, if_pos (by omega), if_pos (by omega), if_pos h, Int.toNat_natCast, Int.toNat_natCast]
    congr 1
    rw [List.set_append_right _ _ (by omega), Nat.sub_self]
    show List.take (p.length + 1) (p ++ [a ++ b, b]) = p ++ [a ++ b]
    rw [List.take_append, List.take_of_length_le (by omega)]; simp
  · rw [decide_eq_false h, if_neg (by simp), if_neg h]
theorem tail_small (l : List ByteArray) (h : l.length < 2) : chunk_tail.f l = some l := by unfold chunk_tail.f; rw [if_pos (by omega)]
theorem lastOf : ∀ (l : List ByteArray), l ≠ [] → ∃ p a, l = p ++ [a] := fun l h => ⟨l.dropLast, l.getLast h, (List.dropLast_concat_getLast h).symm⟩
theorem sz_take (x : ByteArray) (k : Nat) (h : k ≤ x.size) : (x.extract 0 k).size = k := by rw [← ld_len, ld_take, List.length_take, ld_len]; omega
theorem sz_drop (x : ByteArray) (k : Nat) : (x.extract k x.size).size = x.size - k := by rw [← ld_len, ld_drop, List.length_drop, ld_len]
theorem cut_run : ∀ (k : Nat) (x : ByteArray) (acc : List ByteArray), Sp.valid (ld x) = true → GoodC acc → (acc = [] ∨ 1 ≤ x.size) → x.size < k → acc.length + x.size ≤ 100000 →
    ∃ r, chunk_Cut.l0 k x acc = some r ∧ snug none r = true ∧ ld (cat r) = ld (cat acc) ++ ld x ∧ r.length ≤ acc.length + x.size ∧ (1 ≤ x.size → r ≠ []) := by
  intro k
  induction k with
  | zero => intro x acc h1 h2 h3 h4; omega
  | succ k ih =>
    intro x acc hv hg hne hk hn
    rw [chunk_Cut.l0]
    by_cases h16 : 16 < x.size
    · have c16 : (x.size : Int) > 16 := by omega
      obtain ⟨b1, b2, v1, v2⟩ := back16 hv (by rw [ld_len]; exact h16)
      have ht : utf_Back.f x 16 = some ((Sp.back (ld x) 16 : Nat) : Int) := by unfold utf_Back.f; rw [if_pos (by omega)]
      rw [if_pos c16, ht, Option.bind_some]
      generalize Sp.back (ld x) 16 = t at *
      rw [if_pos (by omega), if_pos (by omega), if_pos (by omega), if_pos (by omega), Int.toNat_natCast]
      have s1 := sz_take x t (by omega)
      have s2 := sz_drop x t
      obtain ⟨r, r1, r3, r4, r5, r6⟩ := ih (x.extract t x.size) (acc ++ [x.extract 0 t]) (by rw [ld_drop]; exact v2) (good_app hg ⟨fits_mk (by omega) (by omega) (by rw [ld_take]; exact v1), by omega⟩) (Or.inr (by omega)) (by omega) (by rw [List.length_append, List.length_singleton]; omega)
      refine ⟨r, r1, r3, ?_, by rw [List.length_append, List.length_singleton] at r5; omega, fun _ => r6 (by omega)⟩
      rw [r4, cat_app, cat_one, ld_app, ld_take, ld_drop, List.append_assoc, List.take_append_drop]
    · have c16 : ¬ (x.size : Int) > 16 := by omega
      rw [if_neg c16]
      by_cases h0 : x.toList = ([] : List UInt8)
      · rw [if_pos h0]
        rw [nil_iff] at h0
        obtain rfl : acc = [] := by rcases hne with h | h; exact h; omega
        have hx : ld x = [] := List.length_eq_zero_iff.mp (by rw [ld_len]; exact h0)
        rw [tail_small [] (by simp), Option.bind_some]
        exact ⟨[], rfl, rfl, by rw [hx]; rfl, by simp, by omega⟩
      · rw [if_neg h0, if_pos (by omega)]
        rw [nil_iff] at h0
        have hf : fits x = true := fits_mk (by omega) (by omega) hv
        by_cases ha : acc = []
        · subst ha
          rw [List.nil_append, tail_small [x] (by simp), Option.bind_some]
          exact ⟨[x], rfl, by simp [snug, far, hf], by rw [cat_one]; rfl, by simp; omega, by simp⟩
        · obtain ⟨p, a, rfl⟩ := lastOf acc ha
          have hs := hg a (by simp)
          have hs2 := fits_spec hs.1
          rw [List.length_append, List.length_singleton] at hn
          rw [List.append_assoc, List.singleton_append, tail_f p a x (by omega) (by omega) (by omega), Option.bind_some]
          by_cases hm : a.size + x.size ≤ 16
          · rw [if_pos hm]
            have hax : fits (a ++ x) = true := fits_mk (by rw [ByteArray.size_append]; omega) (by rw [ByteArray.size_append]; omega) (by rw [ld_app, Sp.valid_app hs2.2.2]; exact hv)
            refine ⟨_, rfl, tight_good _ none (good_app (fun s h => hg s (by simp [h])) ⟨hax, by rw [ByteArray.size_append]; omega⟩) (fun q hq => by cases hq), ?_, by simp, by simp⟩
            rw [cat_app, cat_app, cat_one, cat_one, ld_app, ld_app, ld_app, List.append_assoc]
          · rw [if_neg hm]
            refine ⟨_, rfl, tight_last p none a x hg (fun q hq => by cases hq) hf (by omega), ?_, by simp; omega, by simp⟩
            rw [cat_app, cat_app, cat_two, cat_one, ld_app, ld_app, ld_app, List.append_assoc]
theorem cut_f (x : ByteArray) (hx : x.size ≤ 90000) (k : Nat) (hk : x.size < k) : ∃ r, chunk_Cut.f k x = some r ∧ snug none r = true ∧ r.length ≤ x.size ∧ (Sp.valid (ld x) = true → cat r = x) := by
  unfold chunk_Cut.f utf_Valid.f
  rw [if_pos (by omega), Option.bind_some]
  cases hv : Sp.valid x.data.toList
  · rw [if_neg (by simp)]; exact ⟨[], rfl, rfl, by simp, fun h => by cases h⟩
  · rw [if_pos rfl]
    obtain ⟨r, r1, r3, r4, r5, r6⟩ := cut_run k x [] hv (fun s hs => by cases hs) (Or.inl rfl) hk (by simp; omega)
    exact ⟨r, r1, r3, by simpa using r5, fun _ => ld_ext (by rw [r4]; rfl)⟩
end Go.Proofs.Ytdcnoiofimngpaa.Gc
/- The tree over a text's chunks; weld.Of and rope.Of. -/
namespace Go.Proofs.Ytdcnoiofimngpaa.Gt
open Go.RowKit Go.Proofs.Ytdcnoiofimngpaa.U Go.Proofs.Ytdcnoiofimngpaa.QK Go.Proofs.Ytdcnoiofimngpaa.Kt Go.Proofs.Ytdcnoiofimngpaa.Ka Go.Proofs.Ytdcnoiofimngpaa.Kc Go.Proofs.Ytdcnoiofimngpaa.Kd_ Go.Proofs.Ytdcnoiofimngpaa.Ke Go.Proofs.Ytdcnoiofimngpaa.Kf Go.Proofs.Ytdcnoiofimngpaa.Kg Go.Proofs.Ytdcnoiofimngpaa.Kh Go.Proofs.Ytdcnoiofimngpaa.Ki Go.Proofs.Ytdcnoiofimngpaa.Kj Go.Proofs.Ytdcnoiofimngpaa.Kk Go.Proofs.Ytdcnoiofimngpaa.Gc Go.Proofs.YtdcnoiofimngpaaW.PrintWords Go.Proofs.YtdcnoiofimngpaaW.PrintLast Go.Proofs.YtdcnoiofimngpaaW.PrintMore
set_option linter.unusedVariables false
set_option linter.unusedSimpArgs false
/-- the tree over texts that are chunks -/
def tree (tx : List ByteArray) : Tr := upT (tx.map leafT)
section
variable {tx : List ByteArray} (hf : ∀ s ∈ tx, fits s = true) (hn : tx.length ≤ 5000)
include hf hn
theorem tree_chunks : chunks (tree tx) = tx := by
  by_cases h0 : tx.length = 0
  · obtain rfl := List.eq_nil_of_length_eq_zero h0
    unfold tree; rw [List.map_nil, upT_nil, chunks]
  · unfold tree
    rw [upT_chunks (leafs_lv tx hf (by omega)) (by rw [List.length_map]; exact h0), leafs_chunks tx hf]
theorem tree_fine (h0 : tx.length ≠ 0) : FineT (tree tx) :=
  upT_good _ 0 _ rfl (leafs_lv tx hf (by omega)) (by rw [List.length_map]; omega) (by rw [List.length_map]; exact h0) (leafs_fine tx hf)
theorem tree_up (W : World) (ok : Nat → Prop) (A : Option Addr) (cp : Nat) (ps : List (Option Addr)) (h : Rk W ok A tx.length ps (tx.map leafT)) (hcp : tx.length ≤ cp) : Calls Try.prog 75 #[.slice A tx.length cp] W (UpPost W ok (tree tx)) := by
  by_cases h0 : tx.length = 0
  · obtain rfl := List.eq_nil_of_length_eq_zero h0
    refine (up_none W A 0 cp ps [] h.rs (.inl rfl)).mono fun e w' ⟨h1, h2⟩ => ⟨none, h1, ?_, h2⟩
    unfold tree; rw [List.map_nil, upT_nil]; exact .nil
  · exact up_calls W ok 0 A tx.length cp ps _ h (leafs_lv tx hf (by omega)) h0 hcp (by omega) (by omega)
end
/-- the row of leaves -/
structure Wf (w W : World) (tx : List ByteArray) (A : Option Addr) (cp : Nat) (ps : List (Option Addr)) : Prop where
  row : kPtr.R 73 W w.heap.size (fun _ => True) (.slice A ps.length cp) ps
  ts_ : Ts W (fun k => w.heap.size ≤ k) (.slice A ps.length cp) ps (tx.map leafT)
  bel : Below w.heap.size w W
theorem Wf.app {w W W2 w1 : World} {tx : List ByteArray} {A : Option Addr} {cp : Nat} {ps : List (Option Addr)} {q : Option Addr} {s : ByteArray} {v1 : Value} (h : Wf w W tx A cp ps) (hp : Rp W2 (fun k => W.heap.size ≤ k) q (leafT s)) (hb : Below W.heap.size W W2)
    (ho : kPtr.R 73 w1 w.heap.size (fun _ => True) v1 (ps ++ [q])) (hb1 : Below w.heap.size w w1) (hg : W2.grownBy w1 (Value.slice A ps.length cp).ownBlock) (hat : v1.ownBlock = (Value.slice A ps.length cp).ownBlock ∨ ∃ b, v1.ownBlock = some b ∧ W2.heap.size ≤ b) :
    ∃ A4 cp4 ps4, v1 = .slice A4 (ps4 : List (Option Addr)).length cp4 ∧ Wf w w1 (tx ++ [s]) A4 cp4 ps4 := by
  obtain ⟨A4, cp4, rfl⟩ := Kd.R_slice ho
  have hsz := h.bel.size
  have hq : Rp W2 (fun k => w.heap.size ≤ k ∧ some k ≠ (Value.slice A ps.length cp).ownBlock) q (leafT s) := hp.mono (fun k hk => ⟨by omega, fun he => by have := Kd.R_lt h.row k he.symm; omega⟩)
  refine ⟨A4, cp4, ps ++ [q], rfl, ho, ?_, hb1⟩
  rw [List.map_append]
  exact (h.ts_.later hb).app hq hg hat
theorem Wf.rk {w W : World} {tx : List ByteArray} {A : Option Addr} {cp : Nat} {ps : List (Option Addr)} (h : Wf w W tx A cp ps) : ps.length = tx.length ∧ Rk W (fun k => w.heap.size ≤ k) A tx.length ps (tx.map leafT) ∧ tx.length ≤ cp := by
  have hl := h.ts_.len
  rw [List.length_map] at hl
  obtain ⟨q1, q2, q3⟩ := Kd.R_reads' h.row
  rw [hl] at q2 q3
  exact ⟨hl, ⟨q3, by rw [List.length_map], fun j p t hp ht => (h.ts_.r j p t hp ht).mono (fun k hk => hk.1)⟩, q2⟩
theorem take_rd (l : List ByteArray) (i : Int) (h0 : 0 ≤ i) (h : i < l.length) : l.take (i.toNat + 1) = l.take i.toNat ++ [rdOf ByteArray.empty l i] := by
  rw [List.take_succ_eq_append_getElem (by omega)]
  unfold rdOf; rw [List.getD_eq_getElem?_getD, List.getElem?_eq_getElem (by omega)]; rfl
theorem rd_mem (l : List ByteArray) (i : Int) (h0 : 0 ≤ i) (h : i < l.length) : rdOf ByteArray.empty l i ∈ l := by
  unfold rdOf; rw [List.getD_eq_getElem?_getD, List.getElem?_eq_getElem (by omega)]; exact List.getElem_mem _
/-- a text's chunks -/
structure IsCut (s : ByteArray) (C : List ByteArray) : Prop where
  c : chunk_Cut.f (s.size + 1) s = some C
  snug_ : snug none C = true
  len : C.length ≤ s.size
  cat_ : cat C = s
theorem cut_of (s : ByteArray) (hs : s.size ≤ 4096) (hv : Sp.valid (ld s) = true) : ∃ C, IsCut s C := by
  obtain ⟨r, h1, h2, h3, h4⟩ := cut_f s (by omega) (s.size + 1) (by omega)
  exact ⟨r, h1, h2, h3, h4 hv⟩
theorem IsCut.fits {s : ByteArray} {C : List ByteArray} (h : IsCut s C) : ∀ c ∈ C, Kj.fits c = true := tight_fits C none h.snug_
def WeldPost (w : World) (t : Tr) (e : Ending) (w' : World) : Prop := ∃ p, e = .returned (.pointer p) ∧ Rd w' p t ∧ Below w.heap.size w w'
set_option maxHeartbeats 8000000 in
set_option maxRecDepth 100000 in
theorem weld_calls (w : World) (s : ByteArray) (C : List ByteArray) (hs : s.size ≤ 4096) (hC : IsCut s C) : Calls Try.prog 48 #[.string s] w (WeldPost w (tree C)) := by
  have HCU := Aside0.mk (fun W => chunk_Cut.calls (s.size + 1) s C W hC.c)
  have HFI := Aside0.mk hC.fits
  have HN : Aside0 (C.length ≤ 4096) := ⟨by have := hC.len; omega⟩
  have HB0 := Aside0.mk (Below.refl w.heap.size w)
  have HUP : Aside0 (∀ W ok A cp ps, Rk W ok A C.length ps (C.map leafT) → C.length ≤ cp → Calls Try.prog 75 #[.slice A C.length cp] W (UpPost W ok (tree C))) := ⟨fun W ok A cp ps h hcp => tree_up hC.fits (by have := hC.len; omega) W ok A cp ps h hcp⟩
  clear hC hs
  go_enter Try.func48, Try.ntmps48
  go_wp2_with (go_at_call 73; (with_reducible refine (HCU.out _).mono ?_); rintro e w1 ⟨v0, rfl, ho, hb⟩; obtain ⟨A1, c1, rfl⟩ := Kd.R_slice ho; have HRS := Aside0.mk (Kd.R_reads' ho).2.2; have HB1 := Aside0.mk hb; clear ho hb HCU HB0)
  go_loopg [3, 9] (C.length + 1) (fun kq v3 v9 w' => ∃ (x : Int) (A : Option Addr) (cp : Nat) (ps : List (Option Addr)), v9 = .int .i64 x ∧ v3 = .slice A ps.length cp ∧ Aside0 (0 ≤ x ∧ x ≤ C.length ∧ x + kq = C.length + 1 ∧ 1 ≤ kq) ∧ Aside0 (Wf w1 w' (C.take x.toNat) A cp ps))
  case atStart => exact ⟨0, none, 0, [], (by first | rfl | (simp; done)), rfl, ⟨by omega⟩, ⟨⟨Kd.R_nil _ _ _ _ _, Ts.nil _ _ _, Below.refl _ _⟩⟩⟩
  case round =>
    obtain ⟨x, A, cp, ps, rfl, rfl, HK, HF⟩ := hrel
    obtain ⟨k1, rfl⟩ : ∃ k1, gk = k1 + 1 := ⟨gk - 1, by have := HK.out; omega⟩
    have p0 : 0 ≤ x := HK.out.1
    by_cases cx : x < (C.length : Int)
    · have cxb : decide (x < (C.length : Int)) = true := decide_eq_true cx
      obtain ⟨ad0, q0, hx0⟩ := Kd.at_string HRS.out x p0 cx
      subst q0
      replace hx0 := (HF.out.bel.cell (World.block_lt_of_cell? w1 _ hx0)).trans hx0
      have HQ : Aside0 (0 ≤ x ∧ x < C.length) := ⟨p0, cx⟩
      have HNX := Aside0.mk (take_rd C x p0 cx)
      have HFX := Aside0.mk (HFI.out _ (rd_mem C x p0 cx))
      have HPL : Aside0 (ps.length ≤ 4096) := ⟨by have := HF.out.rk.1; rw [List.length_take] at this; have := HN.out; omega⟩
      have p0c := eq_true p0
      have cxc := eq_true cx
      clear p0 cx
      generalize rdOf ByteArray.empty C x = sx at hx0 HNX HFX
      go_wp2_with (first
        | (go_at_call 74; (with_reducible refine (leaf_at _ HFX.out).mono ?_); rintro e w3 ⟨a, rfl, hp, hb⟩; have HP := Aside0.mk hp; have HB := Aside0.mk hb; clear hp hb hx0)
        | ((with_reducible refine gate_builtin (b := .append) (xs := #[.tmp 13, .tmp 16]) rfl ?_); at_builtin; refine Kd.R_append kPtr (w0 := w1) w1.heap.size rfl (.tmp 13) (.tmp 16) 105 73 (.pointer none) 8 rfl Try.underlying105 infoP rfl (by decide) (by omega) (.slice A ps.length cp) ps (some ⟨a, 0, none⟩) [.pointer (some ⟨a, 0, none⟩)] (fun _ => True) (fun _ => False) rfl rfl ?aP (fun _ hk => hk.elim) (fun _ _ => trivial) (Kd.R_below HF.out.row HB.out) (below_step HF.out.bel HB.out) (below_step HF.out.bel HB.out).size (by have := HPL.out; omega) ?_; (case aP => exact rfl); intro v1 w4 ho hb1 hg hat; obtain ⟨A4, cp4, ps4, rfl, hk⟩ := HF.out.app HP.out HB.out ho hb1 hg hat; rw [← HNX.out] at hk; have HG := Aside0.mk hk; clear ho hb1 hg hat hk HB HP))
      go_roundg k1
      case measure => omega
      case rel => exact ⟨wrap64 (x + 1), A4, cp4, ps4, (by first | rfl | (simp; done)), rfl, ⟨by have := HK.out; have := HQ.out; have := HN.out; unfold wrap64; omega⟩, ⟨by rw [show (wrap64 (x + 1)).toNat = x.toNat + 1 by have := HQ.out; have := HN.out; unfold wrap64; omega]; exact HG.out⟩⟩
    · have cxb : decide (x < (C.length : Int)) = false := decide_eq_false cx
      have hw := HF.out
      rw [List.take_of_length_le (by omega)] at hw
      obtain ⟨hl, hrk, hcp⟩ := hw.rk
      have HR := Aside0.mk hrk
      have HC := Aside0.mk hcp
      have HBW := Aside0.mk hw.bel
      rw [hl]
      clear p0 cx hw hl hrk hcp HF
      go_wp2_with (go_at_call 75; (with_reducible refine (HUP.out _ _ A cp ps HR.out HC.out).mono ?_); rintro e w2 ⟨p, rfl, hp, hb⟩; have HPT := Aside0.mk hp.rd; have HB := Aside0.mk (below_step (below_step HB1.out HBW.out) hb); clear hp hb)
      go_ret
      exact ⟨p, rfl, HPT.out, HB.out⟩
/-- a rope that Of made -/
def IsRope (w : World) (g : Nat) (p : Option Addr) : Prop := w.heap[g]? = some (.cells #[.pointer p] 76 (0, 0))
def RopePost (w : World) (t : Tr) (e : Ending) (w' : World) : Prop := ∃ g p, e = .returned (.tuple #[.pointer (some ⟨g, 0, none⟩), .int .i64 0]) ∧ IsRope w' g p ∧ Rd w' p t ∧ Below w.heap.size w w'
set_option maxHeartbeats 4000000 in
theorem rope_calls (w : World) (s : ByteArray) (C : List ByteArray) (hs : s.size ≤ 4096) (hv : Sp.valid (ld s) = true) (hC : IsCut s C) : Calls Try.prog 13 #[.string s] w (RopePost w (tree C)) := by
  have HVA : Aside0 (∀ W, Calls Try.prog 47 #[.string s] W fun e w' => e = .returned (.bool true) ∧ Below W.heap.size W w') := ⟨fun W => utf_Valid.calls s true W (by unfold utf_Valid.f; rw [if_pos (by omega)]; rw [show s.data.toList = ld s from rfl, hv])⟩
  have HWE := Aside0.mk (fun W => weld_calls W s C hs hC)
  have d1 : decide (4096 < s.size) = false := decide_eq_false (by omega)
  have d2 : decide (4096 < (s.size : Int)) = false := decide_eq_false (by omega)
  clear hs hv hC
  go_enter Try.func13, Try.ntmps13
  go_wp2_with (first | (go_at_call 47; (with_reducible refine (HVA.out _).mono ?_); rintro e w1 ⟨rfl, hb⟩; have HB1 := Aside0.mk hb; clear hb HVA) | (go_at_call 48; (with_reducible refine (HWE.out _).mono ?_); rintro e w2 ⟨p, rfl, hp, hb⟩; have HP := Aside0.mk hp; have HB2 := Aside0.mk (below_step HB1.out hb); clear hp hb HWE HB1) | ((with_reducible refine gate_dst (N := 15) rfl ?_); refine box_event ?hg (N := 15) ?hd (cs := #[.pointer p]) (t := 76) ?hr ?_; (case hd => rfl); (case hg => rfl); (case hr => first | (go_simp; done) | (go_simp; rfl)); intro gb hg wb hbox hb; have HB3 := Aside0.mk (below_step HB2.out hb); have BK : Aside0 (IsRope wb gb p) := ⟨hbox⟩; have HP3 := Aside0.mk (HP.out.below hb); clear hb hbox hg HB2 HP))
  go_ret2
  exact ⟨gb, p, rfl, BK.out, HP3.out, HB3.out⟩
end Go.Proofs.Ytdcnoiofimngpaa.Gt
