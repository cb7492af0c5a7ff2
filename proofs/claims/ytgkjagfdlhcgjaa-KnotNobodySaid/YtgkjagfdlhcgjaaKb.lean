import Derived.Test.YtgkjagfdlhcgjaaKa
/- even: are all knots of one height, and none nobody's? -/
namespace Go.Proofs.Ytgkjagfdlhcgjaa.Kb
open Go.RowKit Go.Proofs.Ytgkjagfdlhcgjaa.QK Go.Proofs.Ytgkjagfdlhcgjaa.Kt Go.Proofs.Ytgkjagfdlhcgjaa.Ka Go.Proofs.YtgkjagfdlhcgjaaW.PrintWords Go.Proofs.YtgkjagfdlhcgjaaW.PrintLast Go.Proofs.YtgkjagfdlhcgjaaW.PrintMore
set_option linter.unusedVariables false
set_option linter.unusedSimpArgs false
/-- one knot beside the first one -/
def evenAt (ts : List Tr) (t : Tr) : Bool := !t.none && t.h0 == (rdT ts 0).h0
def evenB (ts : List Tr) : Bool := ts.all (evenAt ts)
theorem even_upto (ts : List Tr) (n : Nat) (h : ∀ i : Nat, i < n → evenAt ts (rdT ts i) = true) (hn : n = ts.length) : evenB ts = true := by
  unfold evenB
  rw [List.all_eq_true]
  intro t ht
  obtain ⟨i, hi, rfl⟩ := List.getElem_of_mem ht
  have := h i (by omega)
  unfold rdT at this
  rw [show ((i : Int)).toNat = i by omega, List.getD_eq_getElem?_getD, List.getElem?_eq_getElem hi] at this
  exact this
theorem even_not (ts : List Tr) (i : Nat) (hi : i < ts.length) (h : evenAt ts (rdT ts i) = false) : evenB ts = false := by
  unfold evenB
  rw [List.all_eq_false]
  refine ⟨ts[i], List.getElem_mem hi, ?_⟩
  unfold rdT at h
  rw [show ((i : Int)).toNat = i by omega, List.getD_eq_getElem?_getD, List.getElem?_eq_getElem hi] at h
  simpa using h
/-- the height's cell of a knot that is not nobody's -/
theorem h_cell {w : World} {p : Option Addr} {t : Tr} (H : Rd w p t) (hn : t.none = false) : ∃ a : Nat, p = some ⟨a, 0, none⟩ ∧ w.cell? ⟨a, 0, none⟩ = some (.int .i64 t.h0) := by
  obtain ⟨hh, b, r, l, s, kids, rfl⟩ := Tr.not_none hn
  obtain ⟨a, A, cp, ps, rfl, c0, _⟩ := H.open_
  exact ⟨a, rfl, c0⟩
theorem none_q {w : World} {p : Option Addr} {t : Tr} {b : Bool} (H : Rd w p t) (h : t.none = b) (n : Nat) : Calls Try.prog 50 #[.pointer p] (w.drewN n) fun e w'' => e = .returned (.bool b) ∧ ∃ m, w'' = w.drewN m :=
  Calls.quiet_of_same (by rw [← h]; exact (none_calls _ p t (H.drewN n)).mono fun e w' ⟨he, hw⟩ => ⟨he, hw.symm⟩)
set_option maxHeartbeats 4000000 in
set_option maxRecDepth 100000 in
theorem even_calls (w : World) (A : Option Addr) (n cp : Nat) (ps : List (Option Addr)) (ts : List Tr) (H : Rs w A n ps ts) :
    Calls Try.prog 48 #[.slice A n cp] w fun e w' => e = .returned (.bool (evenB ts)) ∧ Drawn0 w w' := by
  have hlen := H.len
  have hmax := H.c.2.1
  subst hlen
  have HR := Aside0.mk H
  clear H
  go_enter Try.func48, Try.ntmps48
  go_wp2
  go_loopg [7] (ts.length + 1) (fun kq v7 w' => ∃ x : Int, v7 = .int .i64 x ∧ Aside0 (0 ≤ x ∧ x + kq = ts.length + 1 ∧ 1 ≤ kq) ∧ Aside0 (∀ i : Nat, i < x.toNat → evenAt ts (rdT ts i) = true) ∧ Drawn0 w w')
  case atStart => exact ⟨0, (by first | rfl | (simp; done)), ⟨by omega⟩, ⟨fun i hi => absurd hi (by simp)⟩, Drawn0.refl _⟩
  case round =>
    obtain ⟨x, rfl, HK, HE, HD⟩ := hrel
    have HDA := Aside0.mk HD
    have hbw := HD.below
    clear HD
    obtain ⟨k1, rfl⟩ : ∃ k1, gk = k1 + 1 := ⟨gk - 1, by have := HK.out; omega⟩
    have p0 : 0 ≤ x := HK.out.1
    by_cases cx : x < (ts.length : Int)
    · have cxb : decide (x < (ts.length : Int)) = true := decide_eq_true cx
      obtain ⟨ad0, p, q0, hx0, hp, hr⟩ := HR.out.at_ x p0 cx
      subst q0
      have HQ : Aside0 (0 ≤ x ∧ x < ts.length) := ⟨p0, cx⟩
      have HP := Aside0.mk (Rd.below hr hbw)
      replace hx0 := pw_cell_below hbw hx0
      obtain ⟨i, hi⟩ := Int.eq_ofNat_of_zero_le p0
      have p0c := eq_true p0
      have cxc := eq_true cx
      by_cases hn : (rdT ts x).none = true
      · have HN := Aside0.mk hn
        clear p0 cx hp hr hn hi hbw
        go_wp2
        repeat (go_quiet ((go_at_call 50; exact none_q HP.out HN.out _)); try go_wp2)
        go_ret
        refine ⟨?_, by repeat (first | exact HDA.out | apply Drawn0.step)⟩
        rw [even_not ts x.toNat (by have := HQ.out; omega) (by rw [Int.toNat_of_nonneg HQ.out.1]; unfold evenAt; rw [HN.out]; rfl)]
        rfl
      · have hn : (rdT ts x).none = false := by simpa using hn
        have HN := Aside0.mk hn
        have h0n : (rdT ts 0).none = false := by
          by_cases hi0 : x = 0
          · rw [← hi0]; exact hn
          · have := HE.out 0 (by omega)
            unfold evenAt at this
            rw [Bool.and_eq_true] at this
            simpa using this.1
        obtain ⟨ad1, p1, q1, hx1, _, hr1⟩ := HR.out.at_ 0 (by omega) (by omega)
        obtain rfl : ad0 = ad1 := by injection q1
        obtain ⟨a0, rfl, hc0⟩ := h_cell hr hn
        obtain ⟨a1, rfl, hc1⟩ := h_cell hr1 h0n
        have hx1' : w.cell? ad0 = some (.pointer (some ⟨a1, 0, none⟩)) := by
          have e : ad0.add 0 = ad0 := by simp [Addr.add]
          rw [← e]; exact hx1
        replace hx1' := pw_cell_below hbw hx1'
        replace hc0 := pw_cell_below hbw hc0
        replace hc1 := pw_cell_below hbw hc1
        have z0 : (0 : Int) < (ts.length : Int) := by omega
        have z0b : decide ((0 : Int) < (ts.length : Int)) = true := decide_eq_true z0
        have z0c := eq_true z0
        have z1 : 0 < ts.length := by omega
        have z1c := eq_true z1
        have z0d : decide (0 < ts.length) = true := decide_eq_true (by omega)
        by_cases he : (rdT ts x).h0 = (rdT ts 0).h0
        · have E1 : Aside0 ((rdT ts x).h0 = (rdT ts 0).h0) := ⟨he⟩
          have eb : ((rdT ts x).h0 != (rdT ts 0).h0) = false := bne_eq_false_iff_eq.mpr he
          clear p0 cx hp hr hn hi h0n hr1 q1 he z0 z1 hx1 hbw
          go_wp2
          repeat (go_quiet ((go_at_call 50; exact none_q HP.out HN.out _)); try go_wp2)
          go_roundg k1
          case measure => omega
          case rel =>
            refine ⟨wrap64 (x + 1), (by first | rfl | (simp; done)), ⟨by have := HK.out; have := HQ.out; unfold wrap64; omega⟩, ⟨fun j hj => ?_⟩, by repeat (first | exact HDA.out | apply Drawn0.step)⟩
            by_cases hj2 : j < x.toNat
            · exact HE.out j hj2
            · have hj3 : (j : Int) = x := by have := HQ.out; unfold wrap64 at hj; omega
              rw [hj3]
              unfold evenAt
              rw [HN.out, E1.out]
              simp
        · have E1 : Aside0 (¬ (rdT ts x).h0 = (rdT ts 0).h0) := ⟨he⟩
          have eb : ((rdT ts x).h0 != (rdT ts 0).h0) = true := bne_iff_ne.mpr he
          clear p0 cx hp hr hn hi h0n hr1 q1 he z0 z1 hx1 hbw
          go_wp2
          repeat (go_quiet ((go_at_call 50; exact none_q HP.out HN.out _)); try go_wp2)
          go_ret
          refine ⟨?_, by repeat (first | exact HDA.out | apply Drawn0.step)⟩
          rw [even_not ts x.toNat (by have := HQ.out; omega) (by rw [Int.toNat_of_nonneg HQ.out.1]; unfold evenAt; rw [HN.out, beq_eq_false_iff_ne.mpr E1.out]; rfl)]
          rfl
    · have cxb : decide (x < (ts.length : Int)) = false := decide_eq_false cx
      have E := Aside0.mk (even_upto ts x.toNat HE.out (by have := HK.out; omega))
      clear p0 cx hbw
      go_wp2
      go_ret
      refine ⟨?_, by repeat (first | exact HDA.out | apply Drawn0.step)⟩
      rw [E.out]
      rfl
end Go.Proofs.Ytgkjagfdlhcgjaa.Kb
