import Derived.Test.YtbedmobcaljmdaaBc
/- What is put in one batch is taken of that one alone, once: the walk. -/
namespace Go.Proofs.Ytbedmobcaljmdaa.Bd
open Go.RowKit Go.Conc Go.Proofs.Ytbedmobcaljmdaa.Bb Go.Proofs.Ytbedmobcaljmdaa.Bc Go.Proofs.YtbedmobcaljmdaaW.PrintWords Go.Proofs.YtbedmobcaljmdaaW.PrintLast Go.Proofs.YtbedmobcaljmdaaW.PrintMore
set_option linter.unusedVariables false
set_option linter.unusedSimpArgs false
theorem take_next (l : List ByteArray) (i : Int) (h0 : 0 ≤ i) (h8 : i < 8) (h : i < l.length) : l.take (wrap64 (i + 1)).toNat = l.take i.toNat ++ [rdOf ByteArray.empty l i] := by
  rw [show (wrap64 (i + 1)).toNat = i.toNat + 1 by unfold wrap64; omega, List.take_succ_eq_append_getElem (by omega)]
  unfold rdOf
  rw [List.getD_eq_getElem?_getD, List.getElem?_eq_getElem (by omega)]; rfl
theorem take_stay (l : List ByteArray) (i : Int) (h0 : 0 ≤ i) (h8 : i < 8) (h : (l.length : Int) ≤ i) : l.take (wrap64 (i + 1)).toNat = l.take i.toNat := by
  rw [show (wrap64 (i + 1)).toNat = i.toNat + 1 by unfold wrap64; omega, List.take_of_length_le (by omega), List.take_of_length_le (by omega)]
theorem rd_mem (l : List ByteArray) (i : Int) (h0 : 0 ≤ i) (h : i < l.length) : rdOf ByteArray.empty l i ∈ l := by
  unfold rdOf
  rw [List.getD_eq_getElem?_getD, List.getElem?_eq_getElem (by omega)]
  exact List.getElem_mem _
/-- a round's put -/
theorem put_x (w W : World) (g c g2 c2 : Nat) (l m : List ByteArray) (i : Int) (y : ByteArray) (h0 : 0 ≤ i) (h8 : i < 8) (h : i < l.length) (hy : y = rdOf ByteArray.empty l i) (hx : ∀ x ∈ l, x.size ≤ 9223372036854775807) (hS : S2 w W g c g2 c2 (l.take i.toNat) m) :
    Calls Try.prog 21 #[.pointer (some ⟨g, 0, none⟩), .string y] W fun e w' => e = .returned (.bool true) ∧ S2 w w' g c g2 c2 (l.take (wrap64 (i + 1)).toNat) m := by
  subst hy
  rw [take_next l i h0 h8 h]
  exact s2_put w W g c g2 c2 _ m _ hS (by rw [List.length_take]; omega) (hx _ (rd_mem l i h0 h))
theorem put_y (w W : World) (g c g2 c2 : Nat) (l m : List ByteArray) (i : Int) (y : ByteArray) (h0 : 0 ≤ i) (h8 : i < 8) (h : i < m.length) (hy : y = rdOf ByteArray.empty m i) (hx : ∀ x ∈ m, x.size ≤ 9223372036854775807) (hS : S2 w W g c g2 c2 l (m.take i.toNat)) :
    Calls Try.prog 21 #[.pointer (some ⟨g2, 0, none⟩), .string y] W fun e w' => e = .returned (.bool true) ∧ S2 w w' g c g2 c2 l (m.take (wrap64 (i + 1)).toNat) :=
  (put_x w W g2 c2 g c m l i y h0 h8 h hy hx hS.turn).mono fun e w' ⟨he, hs⟩ => ⟨he, hs.turn⟩
theorem s2_drew {w W : World} {g c g2 c2 : Nat} {l m : List ByteArray} (h : S2 w W g c g2 c2 l m) (n : Nat) : S2 w (W.drewN n) g c g2 c2 l m := by
  obtain ⟨b, s, r, hX⟩ := h.x
  obtain ⟨b2, s2, r2, hY⟩ := h.y
  exact ⟨⟨b, s, r, hX⟩, ⟨b2, s2, r2, hY⟩, h.hg, h.hc, h.hg2, h.hc2, h.n1, h.n2, h.n3, h.n4, pw_below_drewN h.bel n⟩
theorem wr1 (x : Int) : IntKind.i64.wrap (x + 1) = wrap64 (x + 1) := i64_w _
set_option maxHeartbeats 8000000 in
set_option maxRecDepth 100000 in
theorem BatchTwo (A0 : Option Addr) (c0 : Nat) (l0 : List ByteArray) (A1 : Option Addr) (c1 : Nat) (l1 : List ByteArray) (w : World) (hr0 : Kd.C Kd.string w A0 l0.length l0) (hr1 : Kd.C Kd.string w A1 l1.length l1) (hx0 : ∀ x ∈ l0, x.size ≤ 9223372036854775807) (hx1 : ∀ x ∈ l1, x.size ≤ 9223372036854775807) :
    Calls Try.prog 6 #[.slice A0 l0.length c0, .slice A1 l1.length c1] w fun e w' => e = .returned (.bool true) ∧ Below w.heap.size w w' := by
  have HR0 := Aside0.mk hr0
  have HR1 := Aside0.mk hr1
  have HX0 := Aside0.mk hx0
  have HX1 := Aside0.mk hx1
  clear hr0 hr1 hx0 hx1
  by_cases d0 : 8 < l0.length
  · have d0b : decide (8 < l0.length) = true := decide_eq_true d0
    have d0c : decide (8 < (l0.length : Int)) = true := decide_eq_true (by omega)
    clear d0
    go_enter Try.func6, Try.ntmps6
    go_wp2_with (go_at_call 19; (with_reducible refine (lives_calls _).mono ?_); rintro e w1 ⟨rfl, hb⟩; have HB := Aside0.mk hb; clear hb)
    go_ret
    exact ⟨rfl, HB.out⟩
  have d0b : decide (8 < l0.length) = false := decide_eq_false d0
  have d0c : decide (8 < (l0.length : Int)) = false := decide_eq_false (by omega)
  have D0 : Aside0 (l0.length ≤ 8) := ⟨by omega⟩
  clear d0
  by_cases d1 : 8 < l1.length
  · have d1b : decide (8 < l1.length) = true := decide_eq_true d1
    have d1c : decide (8 < (l1.length : Int)) = true := decide_eq_true (by omega)
    clear d1
    go_enter Try.func6, Try.ntmps6
    go_wp2_with (go_at_call 19; (with_reducible refine (lives_calls _).mono ?_); rintro e w1 ⟨rfl, hb⟩; have HB := Aside0.mk hb; clear hb)
    go_ret
    exact ⟨rfl, HB.out⟩
  have d1b : decide (8 < l1.length) = false := decide_eq_false d1
  have d1c : decide (8 < (l1.length : Int)) = false := decide_eq_false (by omega)
  have D1 : Aside0 (l1.length ≤ 8) := ⟨by omega⟩
  clear d1
  go_enter Try.func6, Try.ntmps6
  have HN : Aside0 True := ⟨trivial⟩
  go_wp2_with (first
    | (go_at_call 20; clear HN; (with_reducible refine (new_at _ 8 8 rfl (by decide) (by decide)).mono ?_); rintro e w1 ⟨g, c, rfl, hg, hc, hX, hb⟩; have G1 := Aside0.mk hg; have G2 := Aside0.mk hc; have G3 := Aside0.mk hX; have G4 := Aside0.mk hb; clear hg hc hX hb)
    | (go_at_call 20; (with_reducible refine (new_at _ 8 8 rfl (by decide) (by decide)).mono ?_); rintro e w2 ⟨g2, c2, rfl, hg2, hc2, hX2, hb2⟩; have HS := Aside0.mk (S2.new G3.out G1.out G2.out G4.out hX2 hg2 hc2 hb2); clear G1 G2 G3 G4 hg2 hc2 hX2 hb2))
  go_loopg [7] 9 (fun kq v7 w' => ∃ x : Int, v7 = .int .i64 x ∧ Aside0 (0 ≤ x ∧ x + kq = 9 ∧ 1 ≤ kq) ∧ Aside0 (S2 w w' g c g2 c2 (l0.take x.toNat) (l1.take x.toNat)))
  case atStart => exact ⟨0, (by first | rfl | (simp; done)), ⟨by omega⟩, HS⟩
  case round =>
    clear HS
    obtain ⟨x, rfl, HK, HS⟩ := hrel
    obtain ⟨k1, rfl⟩ : ∃ k1, gk = k1 + 1 := ⟨gk - 1, by have := HK.out; omega⟩
    have p0 : 0 ≤ x := HK.out.1
    by_cases cx : x < 8
    · have cxb : decide (x < 8) = true := decide_eq_true cx
      have HP : Aside0 (0 ≤ x ∧ x < 8) := ⟨p0, cx⟩
      have p0c := eq_true p0
      clear p0 cx
      by_cases e0 : x < (l0.length : Int)
      · by_cases e1 : x < (l1.length : Int)
        · skip
          obtain ⟨ad0, q0, hx0⟩ := Kd.at_string HR0.out x HP.out.1 e0
          subst q0
          have e0b : decide (x < (l0.length : Int)) = true := decide_eq_true e0
          have e0c := eq_true e0
          have E0 := Aside0.mk e0
          have K0 := Aside0.mk hx0
          clear e0 hx0
          obtain ⟨ad1, q1, hx1⟩ := Kd.at_string HR1.out x HP.out.1 e1
          subst q1
          have e1b : decide (x < (l1.length : Int)) = true := decide_eq_true e1
          have e1c := eq_true e1
          have E1 := Aside0.mk e1
          have K1 := Aside0.mk hx1
          clear e1 hx1
          have hy0 := (HS.out.bel.cell (World.block_lt_of_cell? w _ K0.out)).trans K0.out
          go_wp2_with (first | (go_at_call 21; (with_reducible refine (put_x w _ g c g2 c2 l0 _ x _ HP.out.1 HP.out.2 E0.out rfl HX0.out HS.out).mono ?_); rintro e w3 ⟨rfl, h⟩; have HS2 := Aside0.mk h; clear h HS hy0; have hy1 := (HS2.out.bel.cell (World.block_lt_of_cell? w _ K1.out)).trans K1.out) | (go_at_call 21; (with_reducible refine (put_y w _ g c g2 c2 _ l1 x _ HP.out.1 HP.out.2 E1.out rfl HX1.out HS2.out).mono ?_); rintro e w4 ⟨rfl, h⟩; have HS3 := Aside0.mk h; clear h HS2 hy1))
          go_roundg k1
          case measure => omega
          case rel => exact ⟨wrap64 (x + 1), (by first | rfl | (simp; done)), ⟨by have := HK.out; have := HP.out; unfold wrap64; omega⟩, HS3⟩
        · skip
          obtain ⟨ad0, q0, hx0⟩ := Kd.at_string HR0.out x HP.out.1 e0
          subst q0
          have e0b : decide (x < (l0.length : Int)) = true := decide_eq_true e0
          have e0c := eq_true e0
          have E0 := Aside0.mk e0
          have K0 := Aside0.mk hx0
          clear e0 hx0
          have e1b : decide (x < (l1.length : Int)) = false := decide_eq_false e1
          have E1 := Aside0.mk e1
          clear e1
          have hy0 := (HS.out.bel.cell (World.block_lt_of_cell? w _ K0.out)).trans K0.out
          go_wp2_with ((go_at_call 21; (with_reducible refine (put_x w _ g c g2 c2 l0 _ x _ HP.out.1 HP.out.2 E0.out rfl HX0.out HS.out).mono ?_); rintro e w3 ⟨rfl, h⟩; have HS2 := Aside0.mk h; clear h HS hy0; skip))
          go_roundg k1
          case measure => omega
          case rel => exact ⟨wrap64 (x + 1), (by first | rfl | (simp; done)), ⟨by have := HK.out; have := HP.out; unfold wrap64; omega⟩, ⟨by rw [take_stay l1 x HP.out.1 HP.out.2 (by have := E1.out; omega)]; exact HS2.out⟩⟩
      · by_cases e1 : x < (l1.length : Int)
        · skip
          have e0b : decide (x < (l0.length : Int)) = false := decide_eq_false e0
          have E0 := Aside0.mk e0
          clear e0
          obtain ⟨ad1, q1, hx1⟩ := Kd.at_string HR1.out x HP.out.1 e1
          subst q1
          have e1b : decide (x < (l1.length : Int)) = true := decide_eq_true e1
          have e1c := eq_true e1
          have E1 := Aside0.mk e1
          have K1 := Aside0.mk hx1
          clear e1 hx1
          have hy1 := (HS.out.bel.cell (World.block_lt_of_cell? w _ K1.out)).trans K1.out
          go_wp2_with ((go_at_call 21; (with_reducible refine (put_y w _ g c g2 c2 _ l1 x _ HP.out.1 HP.out.2 E1.out rfl HX1.out HS.out).mono ?_); rintro e w4 ⟨rfl, h⟩; have HS3 := Aside0.mk h; clear h HS hy1))
          go_roundg k1
          case measure => omega
          case rel => exact ⟨wrap64 (x + 1), (by first | rfl | (simp; done)), ⟨by have := HK.out; have := HP.out; unfold wrap64; omega⟩, ⟨by rw [take_stay l0 x HP.out.1 HP.out.2 (by have := E0.out; omega)]; exact HS3.out⟩⟩
        · skip
          have e0b : decide (x < (l0.length : Int)) = false := decide_eq_false e0
          have E0 := Aside0.mk e0
          clear e0
          have e1b : decide (x < (l1.length : Int)) = false := decide_eq_false e1
          have E1 := Aside0.mk e1
          clear e1
          go_wp2
          go_roundg k1
          case measure => omega
          case rel => exact ⟨wrap64 (x + 1), (by first | rfl | (simp; done)), ⟨by have := HK.out; have := HP.out; unfold wrap64; omega⟩, ⟨by rw [take_stay l0 x HP.out.1 HP.out.2 (by have := E0.out; omega), take_stay l1 x HP.out.1 HP.out.2 (by have := E1.out; omega)]; exact HS.out⟩⟩
    · have cxb : decide (x < 8) = false := decide_eq_false cx
      have h0 : S2 w ‹World› g c g2 c2 l0 l1 := by
        have h := HS.out
        rwa [List.take_of_length_le (by have := D0.out; omega), List.take_of_length_le (by have := D1.out; omega)] at h
      have HT := Aside0.mk h0
      clear HS h0 p0 cx HK
      go_wp2_with (first
        | (go_at_call 22; (with_reducible refine (s2_take w _ g c g2 c2 l0 l1 HT.out D0.out).mono ?_); rintro e w3 ⟨A2, cp2, rfl, hv, hm, hs⟩; have V1 := Aside0.mk hv; have HT2 := Aside0.mk hs; clear HT hv hm hs)
        | (go_at_call 22; (with_reducible refine (s2_take2 w _ g c g2 c2 [] l1 HT2.out D1.out).mono ?_); rintro e w4 ⟨A3, cp3, rfl, hv, hm, hs⟩; have V2 := Aside0.mk (hm _ _ V1.out); have HT3 := Aside0.mk hs; clear HT2 V1 hv hm hs)
        | (go_at_call 22; (with_reducible refine (s2_take w _ g c g2 c2 [] [] HT3.out (by decide)).mono ?_); rintro e w5 ⟨A4, cp4, rfl, hv, hm, hs⟩; have V3 := Aside0.mk (hm _ _ V2.out); have HT4 := Aside0.mk hs; clear HT3 V2 hv hm hs)
        | (go_at_call 22; (with_reducible refine (s2_take2 w _ g c g2 c2 [] [] HT4.out (by decide)).mono ?_); rintro e w6 ⟨A5, cp5, rfl, hv, hm, hs⟩; have V4 := Aside0.mk (hm _ _ V3.out); have HT5 := Aside0.mk hs; clear HT4 V3 hv hm hs))
      go_loopg [10] (l0.length + 1) (fun kq v10 w' => ∃ x : Int, v10 = .int .i64 x ∧ Aside0 (0 ≤ x ∧ x + kq = l0.length + 1 ∧ 1 ≤ kq) ∧ Drawn0 w6 w')
      case atStart => exact ⟨0, (by first | rfl | (simp; done)), ⟨by omega⟩, Drawn0.refl _⟩
      case round =>
        obtain ⟨x, rfl, HK, ⟨m1, rfl⟩⟩ := hrel
        obtain ⟨k1, rfl⟩ : ∃ k1, gk = k1 + 1 := ⟨gk - 1, by have := HK.out; omega⟩
        have p0 : 0 ≤ x := HK.out.1
        by_cases cx : x < (l0.length : Int)
        · have cxb : decide (x < (l0.length : Int)) = true := decide_eq_true cx
          obtain ⟨ad0, q0, hx0⟩ := Kd.at_string HR0.out x p0 cx
          subst q0
          obtain ⟨_, _, hC⟩ := Kd.R_reads' V4.out
          obtain ⟨ad1, q1, hx1⟩ := Kd.at_string hC x p0 cx
          subst q1
          have hy0 := (HT5.out.bel.cell (World.block_lt_of_cell? w _ hx0)).trans hx0
          have HP : Aside0 (0 ≤ x ∧ x < l0.length) := ⟨p0, cx⟩
          have p0c := eq_true p0
          have cxc := eq_true cx
          clear p0 cx hx0 hC
          go_wp2
          repeat (go_quiet (fail); try go_wp2)
          go_roundg k1
          case measure => omega
          case rel => exact ⟨wrap64 (x + 1), (by first | rfl | (simp; done)), ⟨by have := HK.out; have := HP.out; have := D0.out; unfold wrap64; omega⟩, by repeat (first | exact Drawn0.refl _ | apply Drawn0.step)⟩
        · have cxb : decide (x < (l0.length : Int)) = false := decide_eq_false cx
          clear p0 cx
          go_wp2_with (go_at_call 19; (with_reducible refine (lives_calls _).mono ?_); rintro e w7 ⟨rfl, hb⟩; have HB := Aside0.mk (below_step (s2_drew HT5.out m1).bel hb); clear hb)
          go_ret
          exact ⟨rfl, HB.out⟩
end Go.Proofs.Ytbedmobcaljmdaa.Bd
