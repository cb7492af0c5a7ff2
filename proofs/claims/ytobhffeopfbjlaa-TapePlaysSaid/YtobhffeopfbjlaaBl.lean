import Derived.Test.YtobhffeopfbjlaaQBx2
import Derived.Test.YtobhffeopfbjlaaQBx3
import Derived.Test.YtobhffeopfbjlaaPs
/- What is left of a file when the power goes, in plain words: what the program tells. -/
namespace Go.Proofs.Ytobhffeopfbjlaa.Bl
open Go.RowKit Go.Proofs.Ytobhffeopfbjlaa.QB Go.Proofs.Ytobhffeopfbjlaa.QP Go.Proofs.Ytobhffeopfbjlaa.Ps Go.Proofs.YtobhffeopfbjlaaW.PrintWords Go.Proofs.YtobhffeopfbjlaaW.PrintLast Go.Proofs.YtobhffeopfbjlaaW.PrintMore
set_option linter.unusedVariables false
def nb (l : List UInt8) : List Int := l.map (fun b => (b.toNat : Int))
theorem nb_len (l : List UInt8) : (nb l).length = l.length := by unfold nb; simp
theorem nb_str (l : List UInt8) : strOfNums (nb l) = ⟨l.toArray⟩ := by
  unfold nb strOfNums
  rw [List.map_map]
  have : ((fun n : Int => UInt8.ofNat n.toNat) ∘ fun b : UInt8 => (b.toNat : Int)) = id := by funext b; simp
  rw [this, List.map_id]
theorem getD_lt {α : Type} (l : List α) (i : Nat) (d : α) (h : i < l.length) : l.getD i d = l[i] := by simp [List.getD, h]
theorem getD_ge {α : Type} (l : List α) (i : Nat) (d : α) (h : l.length ≤ i) : l.getD i d = d := by simp [List.getD, h]
theorem nb_zeros (n : Nat) : List.replicate n (0 : Int) = nb (List.replicate n 0) := by unfold nb; simp
/-- a piece laid behind what there is -/
def put (out : List UInt8) (k : Nat) (x : List UInt8) : List UInt8 := if x = [] then out else out ++ List.replicate (32 * k - out.length) 0 ++ x
theorem put_len (out : List UInt8) (k : Nat) (x : List UInt8) (h : out.length ≤ 32 * k) (hx : x.length ≤ 32) : (put out k x).length ≤ 32 * (k + 1) := by
  unfold put; split
  · omega
  · rw [List.length_append, List.length_append, List.length_replicate]; omega
/-- what is taken of a sector that is unlike -/
def pick (c : Nat) (x y : List UInt8) : List UInt8 := if c = 1 then y else if c = 2 then List.replicate y.length 0 else x
theorem pick_len (c : Nat) (x y : List UInt8) (hx : x.length ≤ 32) (hy : y.length ≤ 32) : (pick c x y).length ≤ 32 := by
  unfold pick; split
  · exact hy
  · split
    · rw [List.length_replicate]; exact hy
    · exact hx
def mixL (A B : List UInt8) (ch : Nat → Nat) : Nat → Nat → Nat → List UInt8 → List UInt8 × Nat
  | 0, _, u, out => (out, u)
  | r + 1, k, u, out => if sec A k = sec B k then mixL A B ch r (k + 1) u (put out k (sec A k)) else mixL A B ch r (k + 1) (u + 1) (put out k (pick (ch u) (sec A k) (sec B k)))
def chOf (s : ByteArray) (u : Nat) : Nat := (s.data.toList.getD u 0).toNat % 3
theorem choose_f (s : ByteArray) (u : Nat) (h : s.size ≤ 140737488351232) : blend_choose.f s u = some ((chOf s u : Nat) : Int) := by
  unfold blend_choose.f chOf
  by_cases h1 : u < s.size
  · have e : bt s (u : Int) = ((s.data.toList.getD u 0).toNat : Int) := by
      unfold bt; rw [dif_pos (by simpa using h1)]
      simp only [Int.toNat_natCast]
      rw [getD_lt _ _ _ (by rw [dl]; exact h1)]
      rfl
    have hlt : (s.data.toList.getD u 0).toNat < 256 := UInt8.toNat_lt _
    rw [if_neg (by omega), if_pos (by omega), if_pos (by omega), e, wq _ (by omega) (by omega), Int.tmod_eq_emod_of_nonneg (by omega)]
    congr 1
  · rw [if_pos (by omega), getD_ge _ _ _ (by rw [dl]; omega)]; rfl
theorem lay_f (out : List UInt8) (k : Nat) (x : List UInt8) (h : out.length ≤ 32 * k) (hk : k ≤ 1000) (hx : x.length ≤ 32) : blend_lay.f (nb out) (k : Int) ⟨x.toArray⟩ = some (nb (put out k x)) := by
  unfold blend_lay.f put
  rw [Lib.toList_data, bs_data, bs_size, nb_len]
  by_cases hn : x = []
  · rw [if_pos hn, if_pos hn]
  · have hpos : 0 < x.length := List.length_pos_iff.mpr hn
    rw [if_neg hn, if_neg hn, if_pos (by omega), if_pos (by omega)]
    refine congrArg some ?_
    unfold Cs.laid
    rw [show ((k : Int) * 32 + (x.length : Int) - (out.length : Int)).toNat = (32 * k - out.length) + x.length by omega, show ((k : Int) * 32).toNat = 32 * k by omega, ← List.replicate_append_replicate, nb_zeros, nb_zeros, bs_size]
    have h1 : (nb out ++ nb (List.replicate (32 * k - out.length) 0)).length = 32 * k := by rw [List.length_append, nb_len, nb_len, List.length_replicate]; omega
    rw [← List.append_assoc, List.take_append, h1, Nat.sub_self, List.take_zero, List.append_nil, List.take_of_length_le (by omega), List.drop_eq_nil_of_le (by rw [List.length_append, h1, nb_len, List.length_replicate]; omega), List.append_nil]
    show _ ++ bytesOf ⟨x.toArray⟩ = _
    unfold nb bytesOf
    simp
theorem uns_ge (a b : List UInt8) (c i : Nat) : ∀ z ∈ uns a b c i, (i : Int) ≤ z := by
  intro z hz
  unfold uns at hz
  obtain ⟨y, hy, rfl⟩ := List.mem_map.mp hz
  have := (List.mem_range'.mp (List.mem_filter.mp hy).1)
  obtain ⟨q, hq, rfl⟩ := this
  show (i : Int) ≤ ((i + 1 * q : Nat) : Int)
  omega
theorem rd_drop (U : List Int) (u : Nat) (z : Int) (t : List Int) (h : U.drop u = z :: t) : u < U.length ∧ rd U (u : Int) = z := by
  have hl : u < U.length := by
    rcases Nat.lt_or_ge u U.length with h1 | h1
    · exact h1
    · rw [List.drop_eq_nil_of_le h1] at h; cases h
  refine ⟨hl, ?_⟩
  rw [List.drop_eq_getElem_cons hl] at h
  unfold rd
  rw [Int.toNat_natCast, getD_lt _ _ _ hl]
  exact (List.cons.inj h).1
theorem mix_run (k : Nat) : ∀ (a b s : ByteArray) (ha : a.size ≤ 4000) (hb : b.size ≤ 4000) (hs : s.size ≤ 4000) (U : List Int) (c i u : Nat) (out : List UInt8), U.drop u = uns a.data.toList b.data.toList c i → u ≤ i → u ≤ U.length → i ≤ c → c ≤ 1000 → out.length ≤ 32 * i → 2 * (c - i) + 5 ≤ k →
    blend_Mix.l0 k a b s U (nb out) u c i = some (⟨(mixL a.data.toList b.data.toList (chOf s) (c - i) i u out).1.toArray⟩, ((mixL a.data.toList b.data.toList (chOf s) (c - i) i u out).2 : Int)) := by
  induction k using Nat.strongRecOn with
  | _ k ih =>
    intro a b s ha hb hs U c i u out hU hui hul hi hc hout hk
    obtain ⟨k, rfl⟩ : ∃ j, k = j + 2 := ⟨k - 2, by omega⟩
    rw [blend_Mix.l0]
    by_cases hlt : i < c
    · have hla := sec_len a.data.toList i
      have hlb := sec_len b.data.toList i
      rw [if_pos (by omega), slice_f _ (by omega) a ha, slice_f _ (by omega) b hb, Option.bind_some, Option.bind_some, sl_nat, sl_nat]
      rw [show c - i = (c - (i + 1)) + 1 by omega, mixL]
      rw [uns_step _ _ c i hlt] at hU
      by_cases he : sec a.data.toList i = sec b.data.toList i
      · rw [if_pos he, List.nil_append] at hU
        rw [if_pos he]
        have go : blend_Mix.j1 (k + 1) a b s U (nb out) u i ⟨(sec a.data.toList i).toArray⟩ ⟨(sec b.data.toList i).toArray⟩ c i true = some (⟨(mixL a.data.toList b.data.toList (chOf s) (c - (i + 1)) (i + 1) u (put out i (sec a.data.toList i))).1.toArray⟩, ((mixL a.data.toList b.data.toList (chOf s) (c - (i + 1)) (i + 1) u (put out i (sec a.data.toList i))).2 : Int)) := by
          rw [blend_Mix.j1, if_pos rfl, lay_f out i _ hout (by omega) (by omega), Option.bind_some, wq _ (by omega) (by omega)]
          exact ih k (by omega) a b s ha hb hs U c (i + 1) u _ hU (by omega) hul (by omega) hc (put_len _ _ _ hout (by omega)) (by omega)
        by_cases hge : (u : Int) ≥ (U.length : Int)
        · rw [if_pos hge]; exact go
        · rw [if_neg hge, if_pos (by omega), if_pos (by omega)]
          have hne : (rd U (u : Int) != (i : Int)) = true := by
            cases hx : U.drop u with
            | nil => exact absurd (List.drop_eq_nil_iff.mp hx) (by omega)
            | cons z t =>
              have h1 := (rd_drop U u z t hx).2
              have h2 := uns_ge a.data.toList b.data.toList c (i + 1) z (by rw [← hU, hx]; exact List.mem_cons_self)
              rw [h1]
              exact bne_iff_ne.mpr (by omega)
          rw [hne]; exact go
      · rw [if_neg he] at hU ⊢
        have h1 := rd_drop U u (i : Int) _ hU
        rw [if_neg (by omega), if_pos (by omega), if_pos (by omega), h1.2, bne_self_eq_false, blend_Mix.j1, if_neg (by decide), choose_f s u (by omega), Option.bind_some]
        have hU2 : U.drop (u + 1) = uns a.data.toList b.data.toList c (i + 1) := by
          rw [← List.drop_drop, hU]; rfl
        have go : ∀ x : List UInt8, x.length ≤ 32 → blend_Mix.l0 k a b s U (nb (put out i x)) (wrap64 ((u : Int) + 1)) c (wrap64 ((i : Int) + 1)) = some (⟨(mixL a.data.toList b.data.toList (chOf s) (c - (i + 1)) (i + 1) (u + 1) (put out i x)).1.toArray⟩, ((mixL a.data.toList b.data.toList (chOf s) (c - (i + 1)) (i + 1) (u + 1) (put out i x)).2 : Int)) := by
          intro x hx
          rw [wq _ (by omega) (by omega), wq _ (by omega) (by omega)]
          exact ih k (by omega) a b s ha hb hs U c (i + 1) (u + 1) _ hU2 (by omega) (by omega) (by omega) hc (put_len _ _ _ hout hx) (by omega)
        have hch : chOf s u < 3 := Nat.mod_lt _ (by decide)
        unfold pick
        by_cases q1 : chOf s u = 1
        · rw [if_pos (by omega), if_pos q1, lay_f out i _ hout (by omega) (by omega), Option.bind_some]; exact go _ (by omega)
        · rw [if_neg (by omega), if_neg q1]
          by_cases q2 : chOf s u = 2
          · rw [if_pos (by omega), if_pos q2, bs_size, if_pos (by omega), if_pos (by omega), Int.toNat_natCast, nb_zeros, nb_str, lay_f out i _ hout (by omega) (by rw [List.length_replicate]; omega), Option.bind_some]
            exact go _ (by rw [List.length_replicate]; omega)
          · rw [if_neg (by omega), if_neg q2, lay_f out i _ hout (by omega) (by omega), Option.bind_some]; exact go _ (by omega)
    · rw [if_neg (by omega), show c - i = 0 by omega, mixL, nb_str]
/-- what the program tells -/
def mix (a b s : ByteArray) : List UInt8 × Nat := mixL a.data.toList b.data.toList (chOf s) (max (cnt a.size) (cnt b.size)) 0 0 []
theorem mix_f (k : Nat) (a b s : ByteArray) (ha : a.size ≤ 4000) (hb : b.size ≤ 4000) (hs : s.size ≤ 4000) (hk : 1100 ≤ k) : blend_Mix.f k a b s = some (⟨(mix a b s).1.toArray⟩, ((mix a b s).2 : Int)) := by
  have hc : max (cnt a.size) (cnt b.size) ≤ 130 := by unfold cnt; omega
  unfold blend_Mix.f mix
  rw [unlike_f k a b ha hb (by omega), Option.bind_some, show mx (a.size : Int) (b.size : Int) = ((max a.size b.size : Nat) : Int) by unfold mx; split <;> omega, count_f _ (by omega), Option.bind_some, cnt_max]
  exact mix_run k a b s ha hb hs _ _ 0 0 [] rfl (by omega) (by omega) (by omega) (by omega) (by simp) (by omega)
theorem lives (k : Nat) (h : 1100 ≤ k) : styluslaw06_lives.f k = some true := by
  unfold styluslaw06_lives.f
  rw [mix_f k _ _ _ (by decide) (by decide) (by decide) h, Option.bind_some]
  have e : mix ⟨#[]⟩ ⟨#[97, 98]⟩ ⟨#[2]⟩ = ([0, 0], 1) := by decide +kernel
  rw [e, Lib.toList_data, bs_data]; rfl
theorem mix_count (A B : List UInt8) (ch : Nat → Nat) : ∀ (r k u : Nat) (out : List UInt8), (mixL A B ch r k u out).2 = u + (uns A B (k + r) k).length := by
  intro r
  induction r with
  | zero => intro k u out; rw [mixL, uns_end _ _ _ _ (by omega)]; rfl
  | succ r ih =>
    intro k u out
    rw [mixL, uns_step _ _ _ _ (by omega : k < k + (r + 1))]
    by_cases he : sec A k = sec B k
    · rw [if_pos he, if_pos he, ih, List.nil_append, show k + 1 + r = k + (r + 1) by omega]
    · rw [if_neg he, if_neg he, ih, List.length_append, show k + 1 + r = k + (r + 1) by omega, List.length_singleton]; omega
theorem put_take (A : List UInt8) (k : Nat) : put (A.take (32 * k)) k (sec A k) = A.take (32 * (k + 1)) := by
  unfold put
  by_cases h : sec A k = []
  · rw [if_pos h, ← take_sec, h, List.append_nil]
  · have hl := sec_len A k
    have hp : 0 < (sec A k).length := List.length_pos_iff.mpr h
    rw [if_neg h, show 32 * k - (A.take (32 * k)).length = 0 by rw [List.length_take]; omega, List.replicate_zero, List.append_nil, take_sec]
theorem mix_old (A B : List UInt8) (ch : Nat → Nat) (h0 : ∀ u, ch u = 0) : ∀ (r k u : Nat), (mixL A B ch r k u (A.take (32 * k))).1 = A.take (32 * (k + r)) := by
  intro r
  induction r with
  | zero => intro k u; rfl
  | succ r ih =>
    intro k u
    rw [mixL]
    have hp : pick (ch u) (sec A k) (sec B k) = sec A k := by unfold pick; rw [h0]; rfl
    rw [hp, put_take, show k + (r + 1) = k + 1 + r by omega]
    split
    · exact ih (k + 1) u
    · exact ih (k + 1) (u + 1)
theorem mix_new (A B : List UInt8) (ch : Nat → Nat) (m : Nat) (h1 : ∀ u, u < m → ch u = 1) : ∀ (r k u : Nat), u + r ≤ m → (mixL A B ch r k u (B.take (32 * k))).1 = B.take (32 * (k + r)) := by
  intro r
  induction r with
  | zero => intro k u _; rfl
  | succ r ih =>
    intro k u hm
    rw [mixL]
    have hp : pick (ch u) (sec A k) (sec B k) = sec B k := by unfold pick; rw [h1 u (by omega)]; rfl
    rw [hp, show k + (r + 1) = k + 1 + r by omega]
    split
    · rename_i he
      rw [he, put_take]; exact ih (k + 1) u (by omega)
    · rw [put_take]; exact ih (k + 1) (u + 1) (by omega)
theorem mix_same (A : List UInt8) (ch : Nat → Nat) : ∀ (r k u : Nat), mixL A A ch r k u (A.take (32 * k)) = (A.take (32 * (k + r)), u) := by
  intro r
  induction r with
  | zero => intro k u; rfl
  | succ r ih =>
    intro k u
    rw [mixL, if_pos rfl, put_take, show k + (r + 1) = k + 1 + r by omega]
    exact ih (k + 1) u
theorem take_all (A : List UInt8) (n : Nat) (h : cnt A.length ≤ n) : A.take (32 * n) = A := List.take_of_length_le (by unfold cnt at h; omega)
end Go.Proofs.Ytobhffeopfbjlaa.Bl
