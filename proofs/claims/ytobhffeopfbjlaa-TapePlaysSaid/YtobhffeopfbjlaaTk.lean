import Derived.Test.YtobhffeopfbjlaaQTx3
import Derived.Test.YtobhffeopfbjlaaQTx9
import Derived.Test.YtobhffeopfbjlaaBl
/- A tape, in plain words; what was synced is there behind a crash. -/
namespace Go.Proofs.Ytobhffeopfbjlaa.Tk
open Go.RowKit Go.Proofs.Ytobhffeopfbjlaa.QT Go.Proofs.Ytobhffeopfbjlaa.QB Go.Proofs.Ytobhffeopfbjlaa.QP Go.Proofs.Ytobhffeopfbjlaa.Ps Go.Proofs.Ytobhffeopfbjlaa.Bl Go.Proofs.YtobhffeopfbjlaaW.PrintWords Go.Proofs.YtobhffeopfbjlaaW.PrintLast Go.Proofs.YtobhffeopfbjlaaW.PrintMore
set_option linter.unusedVariables false
theorem none_f (a b : ByteArray) : tape_Tape_none.f a b true = some (false, a, b, true) := rfl
theorem append_f (a b s : ByteArray) (h : b.size + s.size ≤ 9223372036854775807) : tape_Tape_Append.f a b true s = some (a, b ++ s, true) := by
  unfold tape_Tape_Append.f; rw [none_f, Option.bind_some]
  dsimp only
  rw [if_neg (by decide), if_pos h]
theorem now_f (a b : ByteArray) : tape_Tape_Now.f a b true = some (b, a, b, true) := rfl
theorem kept_f (a b : ByteArray) : tape_Tape_Kept.f a b true = some (a, a, b, true) := rfl
theorem sync_f (a b : ByteArray) : tape_Tape_Sync.f a b true = some (b, b, true) := rfl
theorem crash_f (k : Nat) (hk : 1100 ≤ k) (a b s : ByteArray) (ha : a.size ≤ 4000) (hb : b.size ≤ 4000) (hs : s.size ≤ 4000) : tape_Tape_Crash.f k a b true s = some (((mix a b s).2 : Int), ⟨(mix a b s).1.toArray⟩, ⟨(mix a b s).1.toArray⟩, true) := by
  unfold tape_Tape_Crash.f; rw [none_f, Option.bind_some]
  dsimp only
  rw [if_neg (by decide), mix_f k a b s ha hb hs hk, Option.bind_some]
theorem dirty_f (k : Nat) (hk : 1100 ≤ k) (a b : ByteArray) (ha : a.size ≤ 4000) (hb : b.size ≤ 4000) : tape_Tape_Dirty.f k a b true = some (((uns a.data.toList b.data.toList (max (cnt a.size) (cnt b.size)) 0).length : Int), a, b, true) := by
  unfold tape_Tape_Dirty.f; rw [none_f, Option.bind_some]
  dsimp only
  rw [if_neg (by decide), unlike_f k a b ha hb (by omega), Option.bind_some]
theorem lives (k : Nat) (h : 1100 ≤ k) : styluslaw07_lives.f k = some true := by
  unfold styluslaw07_lives.f
  have e0 : tape_New.f = some (⟨#[]⟩, ⟨#[]⟩, true) := rfl
  have e1 : (⟨#[]⟩ : ByteArray) ++ ⟨#[97, 98]⟩ = ⟨#[97, 98]⟩ := by decide +kernel
  have e2 : mix ⟨#[]⟩ ⟨#[97, 98]⟩ ⟨#[]⟩ = ([], 1) := by decide +kernel
  rw [e0, Option.bind_some]
  dsimp only
  rw [append_f _ _ _ (by decide), Option.bind_some]
  dsimp only
  rw [e1, now_f, Option.bind_some]
  dsimp only
  rw [crash_f k h _ _ _ (by decide) (by decide) (by decide), Option.bind_some, e2]
  dsimp only
  rw [Lib.toList_data, if_pos (by rfl), now_f, Option.bind_some]
  dsimp only
  rw [Lib.toList_data, if_pos (by rfl), kept_f, Option.bind_some]
  dsimp only
  rw [Lib.toList_data]; rfl
theorem put_pre (out : List UInt8) (k : Nat) (x : List UInt8) : ∃ t, put out k x = out ++ t := by
  unfold put
  by_cases h : x = []
  · rw [if_pos h]; exact ⟨[], by simp⟩
  · rw [if_neg h]; exact ⟨_, List.append_assoc _ _ _⟩
theorem mix_pre (A B : List UInt8) (ch : Nat → Nat) : ∀ (r k u : Nat) (out : List UInt8), ∃ t, (mixL A B ch r k u out).1 = out ++ t := by
  intro r
  induction r with
  | zero => intro k u out; exact ⟨[], by rw [mixL]; simp⟩
  | succ r ih =>
    intro k u out
    rw [mixL]
    split
    · obtain ⟨t, ht⟩ := ih (k + 1) u (put out k (sec A k))
      obtain ⟨t2, h2⟩ := put_pre out k (sec A k)
      exact ⟨t2 ++ t, by rw [ht, h2, List.append_assoc]⟩
    · obtain ⟨t, ht⟩ := ih (k + 1) (u + 1) (put out k (pick (ch u) (sec A k) (sec B k)))
      obtain ⟨t2, h2⟩ := put_pre out k (pick (ch u) (sec A k) (sec B k))
      exact ⟨t2 ++ t, by rw [ht, h2, List.append_assoc]⟩
theorem sec_app (A M : List UInt8) (m k : Nat) (hA : A.length = 32 * m) (hk : k < m) : sec (A ++ M) k = sec A k := by
  unfold sec
  rw [List.drop_append_of_le_length (by omega), List.take_append_of_le_length (by rw [List.length_drop]; omega)]
theorem mix_whole (A M : List UInt8) (ch : Nat → Nat) (m : Nat) (hA : A.length = 32 * m) : ∀ (d r k u : Nat), k + d = m → d ≤ r → ∃ t, (mixL A (A ++ M) ch r k u (A.take (32 * k))).1 = A ++ t := by
  intro d
  induction d with
  | zero =>
    intro r k u h1 h2
    have : A.take (32 * k) = A := List.take_of_length_le (by omega)
    rw [this]; exact mix_pre _ _ _ _ _ _ _
  | succ d ih =>
    intro r k u h1 h2
    obtain ⟨r, rfl⟩ : ∃ j, r = j + 1 := ⟨r - 1, by omega⟩
    rw [mixL, sec_app A M m k hA (by omega), if_pos rfl, put_take]
    exact ih r (k + 1) u (by omega) (by omega)
theorem put_max (out : List UInt8) (k : Nat) (x : List UInt8) (m : Nat) (hl : out.length ≤ 32 * k) (hm : out.length ≤ m) (hx : x = [] ∨ 32 * k + x.length ≤ m) : (put out k x).length ≤ m := by
  unfold put
  by_cases hn : x = []
  · rw [if_pos hn]; exact hm
  · rw [if_neg hn, List.length_append, List.length_append, List.length_replicate]
    rcases hx with h | h
    · exact absurd h hn
    · omega
theorem sec_max (A : List UInt8) (k m : Nat) (h : A.length ≤ m) : sec A k = [] ∨ 32 * k + (sec A k).length ≤ m := by
  have hl := sec_len A k
  rcases Nat.lt_or_ge (32 * k) A.length with h1 | h1
  · right; omega
  · left; exact sec_none A k h1
theorem mix_len (A B : List UInt8) (ch : Nat → Nat) : ∀ (r k u : Nat) (out : List UInt8), out.length ≤ 32 * k → out.length ≤ max A.length B.length → (mixL A B ch r k u out).1.length ≤ max A.length B.length := by
  intro r
  induction r with
  | zero => intro k u out h2 h3; exact h3
  | succ r ih =>
    intro k u out h2 h3
    have la := sec_len A k
    have lb := sec_len B k
    have sa := sec_max A k (max A.length B.length) (by omega)
    have sb := sec_max B k (max A.length B.length) (by omega)
    rw [mixL]
    split
    · exact ih (k + 1) u _ (put_len _ _ _ h2 (by omega)) (put_max out k _ _ h2 h3 sa)
    · refine ih (k + 1) (u + 1) _ (put_len _ _ _ h2 (pick_len _ _ _ (by omega) (by omega))) (put_max out k _ _ h2 h3 ?_)
      unfold pick
      split
      · exact sb
      · split
        · rcases sb with h | h
          · left; rw [h]; rfl
          · right; rw [List.length_replicate]; exact h
        · exact sa
theorem mix_size (a b s : ByteArray) : (mix a b s).1.length ≤ max a.size b.size := by
  have := mix_len a.data.toList b.data.toList (chOf s) (max (cnt a.size) (cnt b.size)) 0 0 [] (by simp) (by simp)
  rw [dl, dl] at this; exact this
theorem app_data (x y : ByteArray) : (x ++ y).data.toList = x.data.toList ++ y.data.toList := by simp
theorem app_size (x y : ByteArray) : (x ++ y).size = x.size + y.size := ByteArray.size_append
theorem TapeKeeps : styluslaw07_TapeKeeps.Pure := by
  intro a0 a1 a2 h0 h1 h2
  refine ⟨3001, ?_⟩
  unfold styluslaw07_TapeKeeps.f
  have out : styluslaw07_TapeKeeps.j0 3001 a0 a1 a2 true = some true := by rw [styluslaw07_TapeKeeps.j0, if_pos rfl, lives _ (by omega), Option.bind_some]
  by_cases q1 : (a0.size : Int) > 300
  · rw [if_pos q1]; exact out
  · rw [if_neg q1]
    by_cases q2 : (a1.size : Int) > 300
    · rw [if_pos q2]; exact out
    · rw [if_neg q2]
      by_cases q3 : (a2.size : Int) > 100
      · rw [decide_eq_true q3]; exact out
      · rw [decide_eq_false q3, styluslaw07_TapeKeeps.j0, if_neg (by decide)]
        clear out
        have e0 : tape_New.f = some (⟨#[]⟩, ⟨#[]⟩, true) := rfl
        have em : (⟨#[]⟩ : ByteArray).size = 0 := by decide
        obtain ⟨m, hm⟩ : ∃ m, m = a0.size / 32 := ⟨_, rfl⟩
        have hw : wrap64 ((wrap64 ((a0.size : Int) / 32)) * 32) = ((32 * m : Nat) : Int) := by rw [wq ((a0.size : Int) / 32) (by omega) (by omega), wq ((a0.size : Int) / 32 * 32) (by omega) (by omega)]; omega
        rw [e0, Option.bind_some, hw, if_pos (by omega), if_pos (by omega), Int.toNat_natCast]
        dsimp only
        obtain ⟨x, hx⟩ : ∃ x, x = a0.extract 0 (32 * m) := ⟨_, rfl⟩
        have hxs : x.size = 32 * m := by rw [hx, ByteArray.size_extract]; omega
        rw [← hx, append_f _ _ _ (by rw [em]; omega), Option.bind_some]
        dsimp only
        have e1 : (⟨#[]⟩ : ByteArray) ++ x = x := by
          have : ((⟨#[]⟩ : ByteArray) ++ x) = ⟨x.data.toList.toArray⟩ := bs_eq (by rw [app_data]; rfl)
          rw [this]
        rw [e1, sync_f, Option.bind_some]
        dsimp only
        rw [append_f _ _ _ (by omega), Option.bind_some]
        dsimp only
        have hps : (x ++ a1).size ≤ 4000 := by rw [app_size]; omega
        rw [crash_f _ (by omega) x (x ++ a1) a2 (by omega) hps (by omega), Option.bind_some]
        dsimp only
        obtain ⟨t, ht⟩ := mix_whole x.data.toList a1.data.toList (chOf a2) m (by rw [dl]; exact hxs) m (max (cnt x.size) (cnt (x ++ a1).size)) 0 0 (by omega) (by unfold cnt; omega)
        have hmix : (mix x (x ++ a1) a2).1 = x.data.toList ++ t := by
          unfold mix
          rw [app_data]
          rw [Nat.mul_zero, List.take_zero] at ht
          exact ht
        have hsz := mix_size x (x ++ a1) a2
        obtain ⟨y, hy⟩ : ∃ y : ByteArray, y = ⟨(mix x (x ++ a1) a2).1.toArray⟩ := ⟨_, rfl⟩
        have hyd : y.data.toList = x.data.toList ++ t := by rw [hy, bs_data, hmix]
        have hys : y.size ≤ 4000 := by rw [hy, bs_size]; omega
        have hyx : x.size ≤ y.size := by rw [← dl, ← dl, hyd, List.length_append]; omega
        rw [← hy, now_f, Option.bind_some]
        dsimp only
        rw [if_pos (by omega), now_f, Option.bind_some]
        dsimp only
        have hpre : (y.extract 0 x.size).toList = x.toList := by
          rw [Lib.toList_data, Lib.toList_data, Lib.extract_data, List.drop_zero, Nat.sub_zero, hyd, ← dl, List.take_left']
          rfl
        rw [if_pos (by omega), if_pos (by omega), Int.toNat_natCast, if_pos hpre, kept_f, Option.bind_some]
        dsimp only
        rw [now_f, Option.bind_some]
        dsimp only
        rw [if_pos rfl, dirty_f _ (by omega) y y hys hys, (uns_nil y y).mpr rfl, Option.bind_some]
        dsimp only
        rw [if_pos (by rfl), lives _ (by omega), Option.bind_some]
end Go.Proofs.Ytobhffeopfbjlaa.Tk
