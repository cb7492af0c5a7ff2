import Derived.Test.YtgkjagfdlhcgjaaKe
/- Up: the tree over knots of one height. -/
namespace Go.Proofs.Ytgkjagfdlhcgjaa.Kf
open Go.RowKit Go.Proofs.Ytgkjagfdlhcgjaa.QK Go.Proofs.Ytgkjagfdlhcgjaa.Kt Go.Proofs.Ytgkjagfdlhcgjaa.Ka Go.Proofs.Ytgkjagfdlhcgjaa.Kb Go.Proofs.Ytgkjagfdlhcgjaa.Kd_ Go.Proofs.Ytgkjagfdlhcgjaa.Ke Go.Proofs.YtgkjagfdlhcgjaaW.PrintWords Go.Proofs.YtgkjagfdlhcgjaaW.PrintLast Go.Proofs.YtgkjagfdlhcgjaaW.PrintMore
set_option linter.unusedVariables false
set_option linter.unusedSimpArgs false
/-- trees beside a row that grows: they are told from its block -/
structure Ts (W : World) (Q : Nat → Prop) (v : Value) (ps : List (Option Addr)) (ts : List Tr) : Prop where
  len : ps.length = ts.length
  r : ∀ (j : Nat) (p : Option Addr) (t : Tr), ps[j]? = some p → ts[j]? = some t → Rp W (fun k => Q k ∧ some k ≠ v.ownBlock) p t
theorem Ts.nil (W : World) (Q : Nat → Prop) (v : Value) : Ts W Q v [] [] := ⟨rfl, fun j p t hp ht => by cases hp⟩
theorem Ts.later {W W1 : World} {Q : Nat → Prop} {v : Value} {ps : List (Option Addr)} {ts : List Tr} (h : Ts W Q v ps ts) (hb : Below W.heap.size W W1) : Ts W1 Q v ps ts :=
  ⟨h.len, fun j p t hp ht => (h.r j p t hp ht).later hb⟩
theorem rp_after {W w1 : World} {Q : Nat → Prop} {v v1 : Value} {p : Option Addr} {t : Tr} (h : Rp W (fun k => Q k ∧ some k ≠ v.ownBlock) p t) (hg : W.grownBy w1 v.ownBlock) (hat : v1.ownBlock = v.ownBlock ∨ ∃ b, v1.ownBlock = some b ∧ W.heap.size ≤ b) :
    Rp w1 (fun k => Q k ∧ some k ≠ v1.ownBlock) p t := by
  refine (h.bound.step (fun k hk hlt => hg.block k hlt hk.1.2)).mono (fun k hk => ⟨hk.1.1, fun he => ?_⟩)
  rcases hat with e1 | ⟨b, e1, hb⟩
  · exact hk.1.2 (by rw [← e1]; exact he)
  · rw [e1] at he
    injection he with he
    have := hk.2
    omega
theorem Ts.app {W w1 : World} {Q : Nat → Prop} {v v1 : Value} {ps : List (Option Addr)} {ts : List Tr} {p : Option Addr} {t : Tr} (h : Ts W Q v ps ts) (hp : Rp W (fun k => Q k ∧ some k ≠ v.ownBlock) p t) (hg : W.grownBy w1 v.ownBlock) (hat : v1.ownBlock = v.ownBlock ∨ ∃ b, v1.ownBlock = some b ∧ W.heap.size ≤ b) : Ts w1 Q v1 (ps ++ [p]) (ts ++ [t]) := by
  have hl := h.len
  refine ⟨by rw [List.length_append, List.length_append, hl]; rfl, fun j q u hq hu => ?_⟩
  by_cases hj : j < ps.length
  · rw [List.getElem?_append_left hj] at hq
    rw [List.getElem?_append_left (by omega)] at hu
    exact rp_after (h.r j q u hq hu) hg hat
  · have hj2 : j = ps.length := by
      have := (List.getElem?_eq_some_iff.1 hq).1
      rw [List.length_append, List.length_singleton] at this; omega
    subst hj2
    rw [List.getElem?_append_right (Nat.le_refl _)] at hq
    rw [List.getElem?_append_right (by omega), ← hl] at hu
    simp at hq hu
    subst hq; subst hu
    exact rp_after hp hg hat
theorem infoC {i : TypeInfo} (hi : Try.prog.info? 38 = some i) : i.size = 1 := by
  have h := infoP
  rw [hi] at h
  simp at h
  exact h.2.1
def UpPost (w : World) (ok : Nat → Prop) (t : Tr) (e : Ending) (w' : World) : Prop := ∃ p, e = .returned (.pointer p) ∧ Rp w' (fun k => ok k ∨ w.heap.size ≤ k) p t ∧ Below w.heap.size w w'
/-- nothing, or nobody's knots -/
theorem up_none (w : World) (A : Option Addr) (n cp : Nat) (ps : List (Option Addr)) (ts : List Tr) (H : Rs w A n ps ts) (h : n = 0 ∨ evenB ts = false) :
    Calls Try.prog 25 #[.slice A n cp] w fun e w' => e = .returned (.pointer none) ∧ Below w.heap.size w w' := by
  by_cases h0 : n = 0
  · subst h0
    go_enter Try.func25, Try.ntmps25
    go_wp2
    go_ret
    exact ⟨rfl, Below.refl _ _⟩
  · have he : evenB ts = false := h.resolve_left h0
    have HE : Aside0 (Calls Try.prog 48 #[.slice A n cp] w fun e w' => e = .returned (.bool false) ∧ Drawn0 w w') := ⟨by have := even_calls w A n cp ps ts H; rw [he] at this; exact this⟩
    have n0 : ((n : Int) == 0) = false := beq_eq_false_iff_ne.mpr (by omega)
    have n1 : (n == 0) = false := beq_eq_false_iff_ne.mpr h0
    clear H h h0 he
    go_enter Try.func25, Try.ntmps25
    go_wp2_with (go_at_call 48; (with_reducible refine HE.out.mono ?_); rintro e wd ⟨rfl, hd⟩; have HB0 := Aside0.mk hd.below; clear hd)
    go_ret
    exact ⟨rfl, HB0.out⟩
end Go.Proofs.Ytgkjagfdlhcgjaa.Kf
