import Derived.Test.YtbedmobcaljmdaaBb
import Derived.Deep.QuietTactic
import Derived.BigQuiet
import Derived.Deep.LoopGhost
/- What is put in one batch is taken of that one alone, once. -/
namespace Go.Proofs.Ytbedmobcaljmdaa.Bc
open Go.RowKit Go.Conc Go.Proofs.Ytbedmobcaljmdaa.Bb Go.Proofs.YtbedmobcaljmdaaW.PrintWords Go.Proofs.YtbedmobcaljmdaaW.PrintLast Go.Proofs.YtbedmobcaljmdaaW.PrintMore
set_option linter.unusedVariables false
set_option linter.unusedSimpArgs false
theorem R_one {w : World} {base : Nat} {ok : Nat → Prop} {v : Value} {x : ByteArray} (h : Kd.R Kd.string 9 w base ok v [x]) : ∃ (ad : Addr) (c : Nat), v = .slice (some ad) 1 c ∧ w.cell? ad = some (.string x) ∧ w.cell? (ad.add 0) = some (.string x) := by
  obtain ⟨A, c, rfl, _, hC⟩ := Kd.R_reads h
  obtain ⟨ad, rfl, hx⟩ := Kd.at_string hC 0 (by decide) (by simp)
  have e : ad.add 0 = ad := by simp [Addr.add]
  refine ⟨ad, c, rfl, ?_, hx⟩
  rw [← e]; exact hx
theorem new_at (w : World) (m : Int) (n : Nat) (hm : m = n) (h1 : 1 ≤ n) (h8 : n ≤ 8) :
    Calls Try.prog 20 #[.int .i64 m] w fun e w' => ∃ g c, e = .returned (.pointer (some ⟨g, 0, none⟩)) ∧ w.heap.size ≤ g ∧ w.heap.size ≤ c ∧ BX w' g c n [] 0 false 0 0 ∧ Below w.heap.size w w' := by
  subst hm; exact new_calls w n h1 h8
/-- the batch of lives -/
structure S1 (w W : World) (g c : Nat) (l : List ByteArray) : Prop where
  x : ∃ b s r, BX W g c 1 l b false s r
  hg : w.heap.size ≤ g
  hc : w.heap.size ≤ c
  bel : Below w.heap.size w W
theorem s1_new (w : World) : Calls Try.prog 20 #[.int .i64 1] w fun e w' => ∃ g c, e = .returned (.pointer (some ⟨g, 0, none⟩)) ∧ S1 w w' g c [] :=
  (new_at w 1 1 rfl (by decide) (by decide)).mono fun e w' ⟨g, c, he, hg, hc, hX, hb⟩ => ⟨g, c, he, ⟨0, 0, 0, hX⟩, hg, hc, hb⟩
theorem s1_put (w W : World) (g c : Nat) (x : ByteArray) (h : S1 w W g c []) (hx : x.size ≤ 9223372036854775807) : Calls Try.prog 21 #[.pointer (some ⟨g, 0, none⟩), .string x] W fun e w' => e = .returned (.bool true) ∧ S1 w w' g c [x] := by
  obtain ⟨⟨b, s, r, hX⟩, hg, hc, hb⟩ := h
  exact (put_calls w W g c 1 [] b s r x hX (by simp) hg hc hb hx).mono fun e w' ⟨he, hX', _, hb'⟩ => ⟨he, ⟨_, _, _, hX'⟩, hg, hc, hb'⟩
theorem s1_full (w W : World) (g c : Nat) (x y : ByteArray) (h : S1 w W g c [y]) : Calls Try.prog 21 #[.pointer (some ⟨g, 0, none⟩), .string x] W fun e w' => e = .returned (.bool false) ∧ W = w' := by
  obtain ⟨⟨b, s, r, hX⟩, hg, hc, hb⟩ := h
  exact (put_full W g c 1 [y] b s r x hX (by simp)).mono fun e w' ⟨he, hw⟩ => ⟨he, hw⟩
theorem s1_take (w W : World) (g c : Nat) (y : ByteArray) (h : S1 w W g c [y]) : Calls Try.prog 22 #[.pointer (some ⟨g, 0, none⟩)] W fun e w' => ∃ (ad : Addr) (cp : Nat), e = .returned (.slice (some ad) 1 cp) ∧ w'.cell? ad = some (.string y) ∧ w'.cell? (ad.add 0) = some (.string y) ∧ S1 w w' g c [] := by
  obtain ⟨⟨b, s, r, hX⟩, hg, hc, hb⟩ := h
  refine (take_calls w W g c 1 [y] b false s r hX hg hc hb (by simp)).mono fun e w' ⟨v, he, hR, hX', _, hb'⟩ => ?_
  obtain ⟨ad, cp, rfl, h1, h2⟩ := R_one hR
  exact ⟨ad, cp, he, h1, h2, ⟨_, _, _, hX'⟩, hg, hc, hb'⟩
theorem s1_len (w W : World) (g c : Nat) (h : S1 w W g c []) : Calls Try.prog 31 #[.pointer (some ⟨g, 0, none⟩)] W fun e w' => e = .returned (.int .i64 0) ∧ W = w' := by
  obtain ⟨⟨b, s, r, hX⟩, hg, hc, hb⟩ := h
  exact (len_calls W g c 1 [] b false s r hX).mono fun e w' ⟨he, hw⟩ => ⟨he, hw⟩
set_option maxHeartbeats 4000000 in
theorem lives_calls (w : World) : Calls Try.prog 19 #[] w fun e w' => e = .returned (.bool true) ∧ Below w.heap.size w w' := by
  go_enter Try.func19, Try.ntmps19
  go_wp2_with (first
    | (go_at_call 20; (with_reducible refine (s1_new _).mono ?_); rintro e w1 ⟨g, c, rfl, h⟩; have H0 := Aside0.mk h; clear h)
    | (go_at_call 21; (with_reducible refine (s1_put w _ g c _ H0.out (by decide)).mono ?_); rintro e w2 ⟨rfl, h⟩; have H1 := Aside0.mk h; clear h H0)
    | (go_at_call 21; (with_reducible refine (s1_full w _ g c _ _ H1.out).mono ?_); rintro e w3 ⟨rfl, rfl⟩)
    | (go_at_call 22; (with_reducible refine (s1_take w _ g c _ H1.out).mono ?_); rintro e w4 ⟨ad, cp, rfl, hc1, hc2, h⟩; have H2 := Aside0.mk h; clear h H1)
    | (go_at_call 31; (with_reducible refine (s1_len w _ g c H2.out).mono ?_); rintro e w5 ⟨rfl, rfl⟩))
  go_ret
  exact ⟨rfl, H2.out.bel⟩
/-! ### BatchTwo -/
structure S2 (w W : World) (g c g2 c2 : Nat) (l m : List ByteArray) : Prop where
  x : ∃ b s r, BX W g c 8 l b false s r
  y : ∃ b s r, BX W g2 c2 8 m b false s r
  hg : w.heap.size ≤ g
  hc : w.heap.size ≤ c
  hg2 : w.heap.size ≤ g2
  hc2 : w.heap.size ≤ c2
  n1 : g ≠ g2
  n2 : g ≠ c2
  n3 : c ≠ g2
  n4 : c ≠ c2
  bel : Below w.heap.size w W
theorem S2.turn {w W : World} {g c g2 c2 : Nat} {l m : List ByteArray} (h : S2 w W g c g2 c2 l m) : S2 w W g2 c2 g c m l :=
  ⟨h.y, h.x, h.hg2, h.hc2, h.hg, h.hc, h.n1.symm, h.n3.symm, h.n2.symm, h.n4.symm, h.bel⟩
theorem s2_put (w W : World) (g c g2 c2 : Nat) (l m : List ByteArray) (x : ByteArray) (h : S2 w W g c g2 c2 l m) (hl : l.length < 8) (hx : x.size ≤ 9223372036854775807) : Calls Try.prog 21 #[.pointer (some ⟨g, 0, none⟩), .string x] W fun e w' => e = .returned (.bool true) ∧ S2 w w' g c g2 c2 (l ++ [x]) m := by
  obtain ⟨b, s, r, hX⟩ := h.x
  obtain ⟨b2, s2, r2, hY⟩ := h.y
  exact (put_calls w W g c 8 l b s r x hX hl h.hg h.hc h.bel hx).mono fun e w' ⟨he, hX', hk, hb'⟩ => ⟨he, ⟨_, _, _, hX'⟩, ⟨_, _, _, hY.keep hk h.n1.symm h.n3.symm h.n2.symm h.n4.symm⟩, h.hg, h.hc, h.hg2, h.hc2, h.n1, h.n2, h.n3, h.n4, hb'⟩
theorem s2_put2 (w W : World) (g c g2 c2 : Nat) (l m : List ByteArray) (x : ByteArray) (h : S2 w W g c g2 c2 l m) (hl : m.length < 8) (hx : x.size ≤ 9223372036854775807) : Calls Try.prog 21 #[.pointer (some ⟨g2, 0, none⟩), .string x] W fun e w' => e = .returned (.bool true) ∧ S2 w w' g c g2 c2 l (m ++ [x]) :=
  (s2_put w W g2 c2 g c m l x h.turn hl hx).mono fun e w' ⟨he, hs⟩ => ⟨he, hs.turn⟩
/-- a list that was taken -/
def Lv (w W : World) (g c g2 c2 : Nat) (v : Value) (l : List ByteArray) : Prop := Kd.R Kd.string 9 W w.heap.size (fun k => k ≠ g ∧ k ≠ c ∧ k ≠ g2 ∧ k ≠ c2) v l
theorem Lv.turn {w W : World} {g c g2 c2 : Nat} {v : Value} {l : List ByteArray} (h : Lv w W g c g2 c2 v l) : Lv w W g2 c2 g c v l := Kd.R_mono h fun k hk => ⟨hk.2.2.1, hk.2.2.2, hk.1, hk.2.1⟩
theorem Lv.keep {w W W' : World} {g c g2 c2 : Nat} {v : Value} {l : List ByteArray} (h : Lv w W g c g2 c2 v l) (hk : KeepX W W' g c) : Lv w W' g c g2 c2 v l := Kd.R_step h fun k ho hlt => hk.2 k hlt ho.1 ho.2.1
theorem s2_take (w W : World) (g c g2 c2 : Nat) (l m : List ByteArray) (h : S2 w W g c g2 c2 l m) (hl : l.length ≤ 8) : Calls Try.prog 22 #[.pointer (some ⟨g, 0, none⟩)] W fun e w' => ∃ (A : Option Addr) (cp : Nat), e = .returned (.slice A l.length cp) ∧ Lv w w' g c g2 c2 (.slice A l.length cp) l ∧ (∀ v2 l2, Lv w W g c g2 c2 v2 l2 → Lv w w' g c g2 c2 v2 l2) ∧ S2 w w' g c g2 c2 [] m := by
  obtain ⟨b, s, r, hX⟩ := h.x
  obtain ⟨b2, s2, r2, hY⟩ := h.y
  refine (take_calls w W g c 8 l b false s r hX h.hg h.hc h.bel (by omega)).mono fun e w' ⟨v, he, hR, hX', hk, hb'⟩ => ?_
  obtain ⟨A, cp, rfl⟩ := Kd.R_slice hR
  refine ⟨A, cp, he, Kd.R_mono hR (fun k hk => ?_), fun v2 l2 h2 => h2.keep hk, ⟨⟨_, _, _, hX'⟩, ⟨_, _, _, hY.keep hk h.n1.symm h.n3.symm h.n2.symm h.n4.symm⟩, h.hg, h.hc, h.hg2, h.hc2, h.n1, h.n2, h.n3, h.n4, hb'⟩⟩
  have q1 := blk_lt hX.1
  have q2 := blk_lt hX.2
  have q3 := blk_lt hY.1
  have q4 := blk_lt hY.2
  refine ⟨?_, ?_, ?_, ?_⟩ <;> omega
theorem s2_take2 (w W : World) (g c g2 c2 : Nat) (l m : List ByteArray) (h : S2 w W g c g2 c2 l m) (hl : m.length ≤ 8) : Calls Try.prog 22 #[.pointer (some ⟨g2, 0, none⟩)] W fun e w' => ∃ (A : Option Addr) (cp : Nat), e = .returned (.slice A m.length cp) ∧ Lv w w' g c g2 c2 (.slice A m.length cp) m ∧ (∀ v2 l2, Lv w W g c g2 c2 v2 l2 → Lv w w' g c g2 c2 v2 l2) ∧ S2 w w' g c g2 c2 l [] :=
  (s2_take w W g2 c2 g c m l h.turn hl).mono fun e w' ⟨A, cp, he, hv, hm, hs⟩ => ⟨A, cp, he, hv.turn, fun v2 l2 h2 => (hm v2 l2 h2.turn).turn, hs.turn⟩
theorem S2.new {w W W' : World} {g c g2 c2 : Nat} (h : BX W g c 8 [] 0 false 0 0) (hg : w.heap.size ≤ g) (hc : w.heap.size ≤ c) (hb : Below w.heap.size w W) (h2 : BX W' g2 c2 8 [] 0 false 0 0) (hg2 : W.heap.size ≤ g2) (hc2 : W.heap.size ≤ c2) (hb2 : Below W.heap.size W W') : S2 w W' g c g2 c2 [] [] := by
  have q1 := blk_lt h.1
  have q2 := blk_lt h.2
  have q3 := hb.size
  exact ⟨⟨_, _, _, h.below hb2⟩, ⟨_, _, _, h2⟩, hg, hc, by omega, by omega, by omega, by omega, by omega, by omega, below_step hb hb2⟩
end Go.Proofs.Ytbedmobcaljmdaa.Bc
