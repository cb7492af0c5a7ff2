import Derived.Test.YtobhffeopfbjlaaBl
import Derived.Test.YtobhffeopfbjlaaQBx4
import Derived.Test.YtobhffeopfbjlaaQBx5
/- What is left of a file when the power goes: the reference tells the same. -/
namespace Go.Proofs.Ytobhffeopfbjlaa.Bl
open Go.RowKit Go.Proofs.Ytobhffeopfbjlaa.QB Go.Proofs.Ytobhffeopfbjlaa.QP Go.Proofs.Ytobhffeopfbjlaa.Ps Go.Proofs.YtobhffeopfbjlaaW.PrintWords Go.Proofs.YtobhffeopfbjlaaW.PrintLast Go.Proofs.YtobhffeopfbjlaaW.PrintMore
set_option linter.unusedVariables false
theorem rchoose_f (s : ByteArray) (u : Nat) (h : s.size ≤ 140737488351232) : stylusref06_choice.f s u = some ((chOf s u : Nat) : Int) := choose_f s u h
theorem app_eq (x y : List UInt8) : (⟨x.toArray⟩ : ByteArray) ++ ⟨y.toArray⟩ = ⟨(x ++ y).toArray⟩ := bs_eq (by simp)
theorem tail_eq {R : Type} (out : List UInt8) (i : Nat) (x : List UInt8) (h : out.length ≤ 32 * i) (hi : i ≤ 1000) (hx : x.length ≤ 32) (G : ByteArray → Option R) :
    (if (⟨x.toArray⟩ : ByteArray).toList = ([] : List UInt8) then G ⟨out.toArray⟩ else (if 0 ≤ (wrap64 ((wrap64 (32 * (i : Int))) - ((⟨out.toArray⟩ : ByteArray).size : Int))) then (if (wrap64 ((wrap64 (32 * (i : Int))) - ((⟨out.toArray⟩ : ByteArray).size : Int)) : Int).toNat ≤ 281474976710656 then ((some (List.replicate (wrap64 ((wrap64 (32 * (i : Int))) - ((⟨out.toArray⟩ : ByteArray).size : Int)) : Int).toNat 0 : List Int)).bind fun y133 => (if (⟨out.toArray⟩ : ByteArray).size + (strOfNums y133).size ≤ 9223372036854775807 then (if ((⟨out.toArray⟩ : ByteArray) ++ (strOfNums y133)).size + (⟨x.toArray⟩ : ByteArray).size ≤ 9223372036854775807 then G (((⟨out.toArray⟩ : ByteArray) ++ (strOfNums y133)) ++ ⟨x.toArray⟩) else (none)) else (none))) else (none)) else (none))) = G ⟨(put out i x).toArray⟩ := by
  unfold put
  rw [Lib.toList_data, bs_data]
  by_cases hn : x = []
  · rw [if_pos hn, if_pos hn]
  · rw [if_neg hn, if_neg hn, bs_size out, bs_size x, wq (32 * (i : Int)) (by omega) (by omega), wq _ (by omega) (by omega), if_pos (by omega), if_pos (by omega), Option.bind_some, nb_zeros, nb_str, app_eq, app_eq, bs_size, bs_size, if_pos (by rw [List.length_replicate]; omega), if_pos (by rw [List.length_append, List.length_replicate]; omega), show (32 * (i : Int) - (out.length : Int)).toNat = 32 * i - out.length by omega]
theorem rmix_run (k : Nat) : ∀ (a b s : ByteArray) (ha : a.size ≤ 4000) (hb : b.size ≤ 4000) (hs : s.size ≤ 4000) (c i u : Nat) (out : List UInt8), c = max (cnt a.size) (cnt b.size) → u ≤ i → i ≤ c → c ≤ 1000 → out.length ≤ 32 * i → c - i + 5 ≤ k →
    stylusref06_Mix.l0 k a b s u ⟨out.toArray⟩ i = some (⟨(mixL a.data.toList b.data.toList (chOf s) (c - i) i u out).1.toArray⟩, ((mixL a.data.toList b.data.toList (chOf s) (c - i) i u out).2 : Int)) := by
  induction k with
  | zero => intro a b s ha hb hs c i u out h0 hui hi hc hout hk; omega
  | succ k ih =>
    intro a b s ha hb hs c i u out h0 hui hi hc hout hk
    have hm : mx ((cnt a.size : Nat) : Int) ((cnt b.size : Nat) : Int) = (c : Int) := by unfold mx; split <;> omega
    rw [stylusref06_Mix.l0, rcount_f _ ha, rcount_f _ hb, Option.bind_some, Option.bind_some, hm]
    by_cases hlt : i < c
    · have hla := sec_len a.data.toList i
      have hlb := sec_len b.data.toList i
      rw [if_pos (by omega), rslice_f a ha, rslice_f b hb, Option.bind_some, Option.bind_some, sl_nat, sl_nat, show c - i = (c - (i + 1)) + 1 by omega, mixL]
      by_cases he : sec a.data.toList i = sec b.data.toList i
      · rw [if_pos (by rw [he]), if_pos he, tail_eq out i (sec a.data.toList i) hout (by omega) (by omega) (fun o_ => stylusref06_Mix.l0 k a b s u o_ (wrap64 ((i : Int) + 1))), wq _ (by omega) (by omega)]
        exact ih a b s ha hb hs c (i + 1) u _ h0 (by omega) (by omega) hc (put_len _ _ _ hout (by omega)) (by omega)
      · rw [if_neg (by rw [Lib.toList_data, Lib.toList_data]; exact he), if_neg he, rchoose_f s u (by omega), Option.bind_some]
        have hch : chOf s u < 3 := Nat.mod_lt _ (by decide)
        have go : ∀ x : List UInt8, x.length ≤ 32 → stylusref06_Mix.l0 k a b s (wrap64 ((u : Int) + 1)) ⟨(put out i x).toArray⟩ (wrap64 ((i : Int) + 1)) = some (⟨(mixL a.data.toList b.data.toList (chOf s) (c - (i + 1)) (i + 1) (u + 1) (put out i x)).1.toArray⟩, ((mixL a.data.toList b.data.toList (chOf s) (c - (i + 1)) (i + 1) (u + 1) (put out i x)).2 : Int)) := by
          intro x hx
          rw [wq _ (by omega) (by omega), wq _ (by omega) (by omega)]
          exact ih a b s ha hb hs c (i + 1) (u + 1) _ h0 (by omega) (by omega) hc (put_len _ _ _ hout hx) (by omega)
        have T := fun x hx => tail_eq out i x hout (by omega) hx (fun o_ => stylusref06_Mix.l0 k a b s (wrap64 ((u : Int) + 1)) o_ (wrap64 ((i : Int) + 1)))
        unfold pick
        by_cases q1 : chOf s u = 1
        · rw [if_pos (by omega), if_pos q1, T _ (by omega)]; exact go _ (by omega)
        · rw [if_neg (by omega), if_neg q1]
          by_cases q2 : chOf s u = 2
          · rw [if_pos (by omega), if_pos q2, bs_size (sec b.data.toList i), if_pos (by omega), if_pos (by omega), Int.toNat_natCast, Option.bind_some, nb_zeros (sec b.data.toList i).length, nb_str, T _ (by rw [List.length_replicate]; omega)]
            exact go _ (by rw [List.length_replicate]; omega)
          · rw [if_neg (by omega), if_neg q2, T _ (by omega)]; exact go _ (by omega)
    · rw [if_neg (by omega), show c - i = 0 by omega, mixL]
theorem rmix_f (k : Nat) (a b s : ByteArray) (ha : a.size ≤ 4000) (hb : b.size ≤ 4000) (hs : s.size ≤ 4000) (hk : 1100 ≤ k) : stylusref06_Mix.f k a b s = some (⟨(mix a b s).1.toArray⟩, ((mix a b s).2 : Int)) := by
  have hc : max (cnt a.size) (cnt b.size) ≤ 130 := by unfold cnt; omega
  unfold stylusref06_Mix.f mix
  exact rmix_run k a b s ha hb hs (max (cnt a.size) (cnt b.size)) 0 0 [] rfl (by omega) (by omega) (by omega) (by simp) (by omega)
theorem BlendMixes : styluslaw06_BlendMixes.Pure := by
  intro a b s ha hb hs
  refine ⟨3001, ?_⟩
  unfold styluslaw06_BlendMixes.f
  have out : styluslaw06_BlendMixes.j0 3001 a b s true = some true := by rw [styluslaw06_BlendMixes.j0, if_pos rfl, lives _ (by omega), Option.bind_some]
  by_cases h1 : (a.size : Int) > 600
  · rw [if_pos h1]; exact out
  · rw [if_neg h1]
    by_cases h2 : (b.size : Int) > 600
    · rw [if_pos h2]; exact out
    · rw [if_neg h2]
      by_cases h3 : (s.size : Int) > 100
      · rw [decide_eq_true h3]; exact out
      · rw [decide_eq_false h3, styluslaw06_BlendMixes.j0, if_neg (by decide), mix_f _ a b s (by omega) (by omega) (by omega) (by omega), rmix_f _ a b s (by omega) (by omega) (by omega) (by omega), Option.bind_some, Option.bind_some, if_pos rfl, if_pos rfl, lives _ (by omega), Option.bind_some]
end Go.Proofs.Ytobhffeopfbjlaa.Bl
