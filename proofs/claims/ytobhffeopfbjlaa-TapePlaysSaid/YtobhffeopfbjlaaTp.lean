import Derived.Test.YtobhffeopfbjlaaQTx7
import Derived.Test.YtobhffeopfbjlaaTk
import Derived.Test.YtobhffeopfbjlaaBm
/- Whatever is appended, cut, synced and lost, both views of a file are those of the page. -/
namespace Go.Proofs.Ytobhffeopfbjlaa.Tp
open Go.RowKit Go.Proofs.Ytobhffeopfbjlaa.QT Go.Proofs.Ytobhffeopfbjlaa.QB Go.Proofs.Ytobhffeopfbjlaa.QP Go.Proofs.Ytobhffeopfbjlaa.Ps Go.Proofs.Ytobhffeopfbjlaa.Bl Go.Proofs.Ytobhffeopfbjlaa.Tk Go.Proofs.YtobhffeopfbjlaaW.PrintWords Go.Proofs.YtobhffeopfbjlaaW.PrintLast Go.Proofs.YtobhffeopfbjlaaW.PrintMore
set_option linter.unusedVariables false
theorem runlike_run (k : Nat) : ∀ (a b : ByteArray) (ha : a.size ≤ 4000) (hb : b.size ≤ 4000) (acc : List Int) (c i : Nat), c = max (cnt a.size) (cnt b.size) → i ≤ c → c ≤ 1000 → c - i + 3 ≤ k → acc.length ≤ i →
    stylusref05_Unlike.l0 k a b acc i = some (acc ++ uns a.data.toList b.data.toList c i) := by
  induction k with
  | zero => intro a b ha hb acc c i h0 h1 h2 h3; omega
  | succ k ih =>
    intro a b ha hb acc c i h0 h1 h2 h3 h4
    have hm : mx ((cnt a.size : Nat) : Int) ((cnt b.size : Nat) : Int) = (c : Int) := by unfold mx; split <;> omega
    rw [stylusref05_Unlike.l0, rcount_f _ ha, rcount_f _ hb, Option.bind_some, Option.bind_some, hm]
    by_cases hi : i < c
    · rw [if_pos (by omega), rslice_f a ha, rslice_f b hb, Option.bind_some, Option.bind_some, Lib.toList_data, Lib.toList_data, bs_data, bs_data, sl_nat, sl_nat, uns_step _ _ c i hi, wq _ (by omega) (by omega)]
      by_cases he : sec a.data.toList i = sec b.data.toList i
      · rw [if_pos he, if_pos he]; exact ih a b ha hb acc c (i + 1) h0 (by omega) (by omega) (by omega) (by omega)
      · rw [if_neg he, if_neg he, if_pos (by omega), ← List.append_assoc]; exact ih a b ha hb (acc ++ [(i : Int)]) c (i + 1) h0 (by omega) (by omega) (by omega) (by simp; omega)
    · rw [if_neg (by omega), uns_end _ _ c i (by omega), List.append_nil]
theorem runlike_f (k : Nat) (a b : ByteArray) (ha : a.size ≤ 4000) (hb : b.size ≤ 4000) (hk : 1010 ≤ k) : stylusref05_Unlike.f k a b = some (uns a.data.toList b.data.toList (max (cnt a.size) (cnt b.size)) 0) := by
  have hc : max (cnt a.size) (cnt b.size) ≤ 1000 := by unfold cnt; omega
  unfold stylusref05_Unlike.f
  exact runlike_run k a b ha hb [] _ 0 rfl (by omega) hc (by omega) (by simp)
theorem few_f (s : ByteArray) : ∃ t, styluslaw07_few.f s = some t ∧ t.size ≤ 100 := by
  unfold styluslaw07_few.f
  by_cases h : (s.size : Int) > 100
  · refine ⟨s.extract 0 100, ?_, by rw [ByteArray.size_extract]; omega⟩
    rw [if_pos h, if_pos (by decide), if_pos (by omega)]
  · exact ⟨s, by rw [if_neg h], by omega⟩
/-- a step: both stay alike -/
theorem step_f (k : Nat) (hk : 1100 ≤ k) (a b : ByteArray) (m : Nat) (ha : a.size ≤ m) (hb : b.size ≤ m) (hm : m ≤ 3000) (o : S58) :
    ∃ a' b', a'.size ≤ m + 100 ∧ b'.size ≤ m + 100 ∧ styluslaw07_step.f k a b true a b o.f0 o.f1 o.f2 = some (a', b', true, a', b', true) := by
  obtain ⟨t, ht, hts⟩ := few_f o.f2
  unfold styluslaw07_step.f
  rw [ht, Option.bind_some]
  by_cases k0 : o.f0 = 0
  · refine ⟨a, b ++ t, by omega, by rw [app_size]; omega, ?_⟩
    rw [if_pos k0, append_f a b t (by omega), Option.bind_some, if_pos (by omega)]
  · rw [if_neg k0]
    by_cases k1 : o.f0 = 1
    · rw [if_pos k1]
      unfold stylusref07_Cut.f tape_Tape_Cut.f
      rw [none_f, Option.bind_some]
      dsimp only
      rw [if_neg (show ¬ (false = true) by decide)]
      by_cases c1 : o.f1 < 0
      · rw [if_pos c1, if_pos c1]; exact ⟨a, b, by omega, by omega, rfl⟩
      · rw [if_neg c1, if_neg c1]
        by_cases c2 : o.f1 > (b.size : Int)
        · rw [if_pos c2, if_pos c2]; exact ⟨a, b, by omega, by omega, rfl⟩
        · rw [if_neg c2, if_neg c2, if_pos (by omega), if_pos (by omega), if_pos (by omega), if_pos (by omega)]
          exact ⟨a, b.extract 0 o.f1.toNat, by omega, by rw [ByteArray.size_extract]; omega, rfl⟩
    · rw [if_neg k1]
      by_cases k2 : o.f0 = 2
      · rw [if_pos k2]; exact ⟨b, b, by omega, by omega, rfl⟩
      · rw [if_neg k2]
        by_cases k3 : o.f0 = 3
        · have hsz := mix_size a b t
          refine ⟨⟨(mix a b t).1.toArray⟩, ⟨(mix a b t).1.toArray⟩, by rw [bs_size]; omega, by rw [bs_size]; omega, ?_⟩
          rw [if_pos k3]
          unfold stylusref07_Crash.f
          rw [rmix_f k a b t (by omega) (by omega) (by omega) hk, Option.bind_some, Option.bind_some, crash_f k hk a b t (by omega) (by omega) (by omega), Option.bind_some]
          dsimp only
          rw [beq_self_eq_true]
        · rw [if_neg k3]; exact ⟨a, b, by omega, by omega, rfl⟩
theorem sectors_f (a b : ByteArray) (ha : a.size ≤ 4000) (hb : b.size ≤ 4000) : tape_Tape_Sectors.f a b true = some (((cnt (max b.size a.size) : Nat) : Int), a, b, true) := by
  unfold tape_Tape_Sectors.f
  rw [now_f, Option.bind_some]
  dsimp only
  rw [kept_f, Option.bind_some]
  dsimp only
  rw [show mx (b.size : Int) (a.size : Int) = ((max b.size a.size : Nat) : Int) by unfold mx; split <;> omega, count_f _ (by omega), Option.bind_some]
theorem rsectors_f (a b : ByteArray) (ha : a.size ≤ 4000) (hb : b.size ≤ 4000) : stylusref07_Sectors.f a b = some ((cnt (max b.size a.size) : Nat) : Int) := by
  unfold stylusref07_Sectors.f
  rw [show mx (a.size : Int) (b.size : Int) = ((max b.size a.size : Nat) : Int) by unfold mx; split <;> omega, rcount_f _ (by omega), Option.bind_some]
theorem plays_run (l : List S58) (hl : l.length ≤ 20) (k : Nat) : ∀ (i : Nat) (a b : ByteArray), a.size ≤ 300 + 100 * i → b.size ≤ 300 + 100 * i → i ≤ l.length → l.length - i + 1300 ≤ k →
    styluslaw07_TapePlays.l0 k l i a b true a b = some true := by
  induction k with
  | zero => intro i a b ha hb h3 h4; omega
  | succ k ih =>
    intro i a b ha hb h3 h4
    rw [styluslaw07_TapePlays.l0]
    by_cases hi : i < l.length
    · have wi : wrap64 ((i : Int) + 1) = ((i + 1 : Nat) : Int) := by unfold wrap64; omega
      have e1 : rd_T58 l (i : Int) = l[i]'hi := by unfold rd_T58; simp [List.getD, hi]
      rw [if_pos (by omega), if_pos (by omega), wi, e1]
      by_cases h4' : (l[i]'hi).f0 = 4
      · rw [if_pos h4', if_pos rfl, if_pos (by omega)]
        exact ih (i + 1) a b (by omega) (by omega) (by omega) (by omega)
      · rw [if_neg h4']
        obtain ⟨a', b', g1, g2, hst⟩ := step_f k (by omega) a b (300 + 100 * i) ha hb (by omega) (l[i]'hi)
        rw [hst, Option.bind_some]
        dsimp only
        rw [if_pos rfl, now_f, Option.bind_some]
        dsimp only
        rw [if_pos rfl, kept_f, Option.bind_some]
        dsimp only
        rw [if_pos rfl, dirty_f k (by omega) a' b' (by omega) (by omega), Option.bind_some]
        unfold stylusref07_Dirty.f
        rw [runlike_f k a' b' (by omega) (by omega) (by omega), Option.bind_some, Option.bind_some]
        dsimp only
        rw [if_pos rfl, sectors_f a' b' (by omega) (by omega), Option.bind_some, rsectors_f a' b' (by omega) (by omega), Option.bind_some]
        dsimp only
        rw [if_pos rfl]
        exact ih (i + 1) a' b' (by omega) (by omega) (by omega) (by omega)
    · rw [if_neg (by omega), Tk.lives k (by omega), Option.bind_some]
theorem TapePlays (a b : ByteArray) (l : List S58) : styluslaw07_TapePlays.f 1501 a b l = some true := by
  have out : styluslaw07_TapePlays.j0 1501 a b l true = some true := by rw [styluslaw07_TapePlays.j0, if_pos rfl, Tk.lives _ (by omega), Option.bind_some]
  unfold styluslaw07_TapePlays.f
  by_cases q1 : (a.size : Int) > 300
  · rw [if_pos q1]; exact out
  · rw [if_neg q1]
    by_cases q2 : (b.size : Int) > 300
    · rw [if_pos q2]; exact out
    · rw [if_neg q2]
      by_cases q3 : (l.length : Int) > 20
      · rw [decide_eq_true q3]; exact out
      · have e0 : tape_Load.f a b = some (a, b, true) := rfl
        rw [decide_eq_false q3, styluslaw07_TapePlays.j0, if_neg (by decide), e0, Option.bind_some]
        exact plays_run l (by omega) 1500 0 a b (by omega) (by omega) (by omega) (by omega)
end Go.Proofs.Ytobhffeopfbjlaa.Tp
