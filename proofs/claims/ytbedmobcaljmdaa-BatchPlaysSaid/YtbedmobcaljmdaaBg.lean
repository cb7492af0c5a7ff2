import Derived.Test.YtbedmobcaljmdaaBc
import Derived.Test.YtbedmobcaljmdaaBo
/- A batch beside a plain list. -/
namespace Go.Proofs.Ytbedmobcaljmdaa.Bg
open Go.RowKit Go.Conc Go.Proofs.Ytbedmobcaljmdaa.Bb Go.Proofs.Ytbedmobcaljmdaa.Bc Go.Proofs.Ytbedmobcaljmdaa.Bo Go.Proofs.YtbedmobcaljmdaaW.PrintWords Go.Proofs.YtbedmobcaljmdaaW.PrintLast Go.Proofs.YtbedmobcaljmdaaW.PrintMore
set_option linter.unusedVariables false
set_option linter.unusedSimpArgs false
theorem wrap_wrap (a b : Int) : wrap64 (wrap64 a + b) = wrap64 (a + b) := by unfold wrap64; omega
theorem wrap_sub (a b : Int) : wrap64 (wrap64 a - b) = wrap64 (a - b) := by unfold wrap64; omega
def tot (l : List ByteArray) : Int := (l.map fun x => (x.size : Int)).sum
def bts (l : List ByteArray) : Int := wrap64 (tot l)
theorem bts_nil : bts [] = 0 := by simp [bts, tot, wrap64]
theorem tot_app (l : List ByteArray) (x : ByteArray) : tot (l ++ [x]) = tot l + x.size := by unfold tot; simp
theorem bts_app (l : List ByteArray) (x : ByteArray) : bts (l ++ [x]) = wrap64 (bts l + x.size) := by unfold bts; rw [wrap_wrap, tot_app]
theorem takeB_wrap (l : List ByteArray) : ∀ b, takeB (wrap64 b) l = wrap64 (b - tot l) := by
  induction l with
  | nil => intro b; show wrap64 b = wrap64 (b - 0); rw [Int.sub_zero]
  | cons x t ih =>
    intro b
    have e : tot (x :: t) = x.size + tot t := by unfold tot; simp
    show takeB (wrap64 (wrap64 b - x.size)) t = _
    rw [wrap_sub, ih, e]
    congr 1
    omega
theorem takeB_bts (l : List ByteArray) : takeB (bts l) l = bts [] := by
  unfold bts; rw [takeB_wrap, show tot l - tot l = 0 by omega]; rfl
theorem new_none (w : World) (n : Int) (h : n < 1 ∨ 8 < n) : Calls Try.prog 20 #[.int .i64 n] w fun e w' => e = .returned (.pointer none) ∧ w = w' := by
  by_cases h1 : n < 1
  · have d1 : decide (n < 1) = true := decide_eq_true h1
    clear h h1
    go_enter Try.func20, Try.ntmps20
    go_wp2
    go_ret
    exact ⟨rfl, rfl⟩
  · have d1 : decide (n < 1) = false := decide_eq_false h1
    have d2 : decide (8 < n) = true := decide_eq_true (by omega)
    clear h h1
    go_enter Try.func20, Try.ntmps20
    go_wp2
    go_ret
    exact ⟨rfl, rfl⟩
/-- lc: what the batch holds; l: the plain list -/
structure SP (w W : World) (g c n : Nat) (lc l : List ByteArray) (A : Option Addr) (cp : Nat) (cl : Bool) : Prop where
  x : ∃ s r, BX W g c n lc (bts lc) cl s r
  r : Kd.R Kd.string 9 W w.heap.size (fun k => k ≠ g ∧ k ≠ c) (.slice A l.length cp) l
  hg : w.heap.size ≤ g
  hc : w.heap.size ≤ c
  hn : l.length ≤ n
  h8 : n ≤ 8
  bel : Below w.heap.size w W
theorem SP.drew {w W : World} {g c n : Nat} {lc l : List ByteArray} {A : Option Addr} {cp : Nat} {cl : Bool} (h : SP w W g c n lc l A cp cl) (m : Nat) : SP w (W.drewN m) g c n lc l A cp cl := by
  obtain ⟨s, r, hX⟩ := h.x
  exact ⟨⟨s, r, hX⟩, Kd.R_drewN h.r m, h.hg, h.hc, h.hn, h.h8, pw_below_drewN h.bel m⟩
theorem sp_new (w W : World) (n : Nat) (hB : Below w.heap.size w W) (h1 : 1 ≤ n) (h8 : n ≤ 8) : Calls Try.prog 20 #[.int .i64 n] W fun e w' => ∃ g c, e = .returned (.pointer (some ⟨g, 0, none⟩)) ∧ SP w w' g c n [] [] none 0 false :=
  (new_calls W n h1 h8).mono fun e w' ⟨g, c, he, hg, hc, hX, hb⟩ => ⟨g, c, he, ⟨0, 0, by rw [bts_nil]; exact hX⟩, Kd.R_nil _ _ _ _ _, by have := hB.size; omega, by have := hB.size; omega, Nat.zero_le _, h8, below_step hB hb⟩
section
variable {w W : World} {g c n : Nat} {l : List ByteArray} {A : Option Addr} {cp : Nat} {cl : Bool}
theorem sp_len (h : SP w W g c n l l A cp cl) : Calls Try.prog 31 #[.pointer (some ⟨g, 0, none⟩)] W fun e w' => e = .returned (.int .i64 l.length) ∧ W = w' := by
  obtain ⟨s, r, hX⟩ := h.x
  exact len_calls W g c n l _ cl s r hX
theorem sp_bytes (h : SP w W g c n l l A cp cl) : Calls Try.prog 32 #[.pointer (some ⟨g, 0, none⟩)] W fun e w' => e = .returned (.int .i64 (bts l)) ∧ W = w' := by
  obtain ⟨s, r, hX⟩ := h.x
  exact bytes_calls W g c n l _ cl s r hX
theorem sp_keep {w' : World} (h : SP w W g c n l l A cp cl) (hk : KeepX W w' g c) : Kd.R Kd.string 9 w' w.heap.size (fun k => k ≠ g ∧ k ≠ c) (.slice A l.length cp) l :=
  Kd.R_step h.r fun k ho hlt => hk.2 k hlt ho.1 ho.2
theorem sp_close (h : SP w W g c n l l A cp cl) : Calls Try.prog 30 #[.pointer (some ⟨g, 0, none⟩)] W fun e w' => e = .returned (.tuple #[]) ∧ SP w w' g c n l l A cp true := by
  obtain ⟨s, r, hX⟩ := h.x
  exact (close_calls w W g c n l _ cl s r hX h.hg h.bel).mono fun e w' ⟨he, hX', hk, hb⟩ => ⟨he, ⟨s, r, hX'⟩, sp_keep h hk, h.hg, h.hc, h.hn, h.h8, hb⟩
theorem sp_full (h : SP w W g c n l l A cp false) (hl : n ≤ l.length) (x : ByteArray) : Calls Try.prog 21 #[.pointer (some ⟨g, 0, none⟩), .string x] W fun e w' => e = .returned (.bool false) ∧ W = w' := by
  obtain ⟨s, r, hX⟩ := h.x
  exact put_full W g c n l _ s r x hX hl
theorem sp_closed (h : SP w W g c n l l A cp true) (x : ByteArray) : Calls Try.prog 21 #[.pointer (some ⟨g, 0, none⟩), .string x] W fun e w' => e = .returned (.bool false) ∧ W = w' := by
  obtain ⟨s, r, hX⟩ := h.x
  exact put_closed W g c n l _ s r x hX
theorem sp_put (h : SP w W g c n l l A cp false) (hl : l.length < n) (x : ByteArray) (hx : x.size ≤ 9223372036854775807) : Calls Try.prog 21 #[.pointer (some ⟨g, 0, none⟩), .string x] W fun e w' => e = .returned (.bool true) ∧ SP w w' g c n (l ++ [x]) l A cp false := by
  obtain ⟨s, r, hX⟩ := h.x
  exact (put_calls w W g c n l _ s r x hX hl h.hg h.hc h.bel hx).mono fun e w' ⟨he, hX', hk, hb⟩ => ⟨he, ⟨_, _, by rw [bts_app]; exact hX'⟩, sp_keep h hk, h.hg, h.hc, h.hn, h.h8, hb⟩
theorem sp_take (h : SP w W g c n l l A cp cl) : Calls Try.prog 22 #[.pointer (some ⟨g, 0, none⟩)] W fun e w' => ∃ (A2 : Option Addr) (cp2 : Nat), e = .returned (.slice A2 l.length cp2) ∧ Kd.C Kd.string w' A2 l.length l ∧ Kd.C Kd.string w' A l.length l ∧ SP w w' g c n [] [] none 0 cl := by
  obtain ⟨s, r, hX⟩ := h.x
  have hn := h.hn
  have h8 := h.h8
  refine (take_calls w W g c n l _ cl s r hX h.hg h.hc h.bel (by omega)).mono fun e w' ⟨v, he, hR, hX', hk, hb'⟩ => ?_
  obtain ⟨A2, cp2, rfl, _, hC⟩ := Kd.R_reads hR
  rw [takeB_bts] at hX'
  exact ⟨A2, cp2, he, hC, (Kd.R_reads' (sp_keep h hk)).2.2, ⟨_, _, hX'⟩, Kd.R_nil _ _ _ _ _, h.hg, h.hc, Nat.zero_le _, h.h8, hb'⟩
/-- behind the append -/
theorem SP.app {x : ByteArray} {v2 : Value} {w3 : World} (h : SP w W g c n (l ++ [x]) l A cp cl) (hl : l.length < n) (ho : Kd.R Kd.string 9 w3 w.heap.size (fun k => k ≠ g ∧ k ≠ c) v2 (l ++ [x])) (hb : Below w.heap.size w w3) (hg : W.grownBy w3 (Value.slice A l.length cp).ownBlock) :
    ∃ l2 A2 cp2, v2 = .slice A2 l2.length cp2 ∧ wrap64 (bts l + x.size) = bts l2 ∧ SP w w3 g c n l2 l2 A2 cp2 cl := by
  obtain ⟨s, r, hX⟩ := h.x
  obtain ⟨A2, cp2, rfl⟩ := Kd.R_slice ho
  exact ⟨l ++ [x], A2, cp2, rfl, (bts_app l x).symm, ⟨s, r, hX.grown hg (fun hq => (h.r.1 g hq).1 rfl) (fun hq => (h.r.1 c hq).2 rfl)⟩, ho, h.hg, h.hc, by rw [List.length_append, List.length_singleton]; omega, h.h8, hb⟩
theorem SP.fresh {lc : List ByteArray} (h : SP w W g c n lc l A cp cl) : ∀ k, W.heap.size ≤ k → k ≠ g ∧ k ≠ c := by
  obtain ⟨s, r, hX⟩ := h.x
  have q1 := blk_lt hX.1
  have q2 := blk_lt hX.2
  intro k hk
  omega
end
end Go.Proofs.Ytbedmobcaljmdaa.Bg
