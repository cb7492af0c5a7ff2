import Derived.Test.YtbedmobcaljmdaaBg
/- Whatever is put and taken, a batch holds what a plain list does: the walk. -/
namespace Go.Proofs.Ytbedmobcaljmdaa.Bh
open Go.RowKit Go.Conc Go.Proofs.Ytbedmobcaljmdaa.Bb Go.Proofs.Ytbedmobcaljmdaa.Bc Go.Proofs.Ytbedmobcaljmdaa.Bo Go.Proofs.Ytbedmobcaljmdaa.Bg Go.Proofs.YtbedmobcaljmdaaW.PrintWords Go.Proofs.YtbedmobcaljmdaaW.PrintLast Go.Proofs.YtbedmobcaljmdaaW.PrintMore
set_option linter.unusedVariables false
set_option linter.unusedSimpArgs false
theorem rd_mem (l : List SOp) (i : Int) (h0 : 0 ≤ i) (h : i < l.length) : rd_TOp l i ∈ l := by
  unfold rd_TOp
  rw [List.getD_eq_getElem?_getD, List.getElem?_eq_getElem (by omega)]
  exact List.getElem_mem _
set_option maxHeartbeats 8000000 in
set_option maxRecDepth 100000 in
theorem BatchPlays (m : Int) (A0 : Option Addr) (c0 : Nat) (l0 : List SOp) (w : World) (hr0 : Kd.C kOp w A0 l0.length l0) (hx0 : ∀ y ∈ l0, y.f1.size ≤ 9223372036854775807) :
    Calls Try.prog 8 #[.int .i64 m, .slice A0 l0.length c0] w fun e w' => e = .returned (.bool true) ∧ Below w.heap.size w w' := by
  have HR0 := Aside0.mk hr0
  have HX0 := Aside0.mk hx0
  clear hr0 hx0
  have HB := Aside0.mk (Below.refl w.heap.size w)
  by_cases d0 : 40 < l0.length
  · have d0b : decide (40 < l0.length) = true := decide_eq_true d0
    have d0c : decide (40 < (l0.length : Int)) = true := decide_eq_true (by omega)
    clear d0
    go_enter Try.func8, Try.ntmps8
    go_wp2_with (go_at_call 19; (with_reducible refine (lives_calls _).mono ?_); rintro e w1 ⟨rfl, hb⟩; have HB1 := Aside0.mk hb; clear hb)
    go_ret
    exact ⟨rfl, HB1.out⟩
  have d0b : decide (40 < l0.length) = false := decide_eq_false d0
  have d0c : decide (40 < (l0.length : Int)) = false := decide_eq_false (by omega)
  have D0 : Aside0 (l0.length ≤ 40) := ⟨by omega⟩
  clear d0
  by_cases d1 : m < 1
  · have d1b : decide (m < 1) = true := decide_eq_true d1
    have D1 := Aside0.mk d1
    clear d1
    go_enter Try.func8, Try.ntmps8
    go_wp2_with (first | (go_at_call 20; (with_reducible refine (new_none _ m (.inl D1.out)).mono ?_); rintro e w1 ⟨rfl, rfl⟩) | (go_at_call 19; (with_reducible refine (lives_calls _).mono ?_); rintro e w1 ⟨rfl, hb⟩; have HB1 := Aside0.mk hb; clear hb))
    go_ret
    exact ⟨rfl, HB1.out⟩
  by_cases d2 : 8 < m
  · have d1b : decide (m < 1) = false := decide_eq_false d1
    have d2b : decide (8 < m) = true := decide_eq_true d2
    have D2 := Aside0.mk d2
    clear d1 d2
    go_enter Try.func8, Try.ntmps8
    go_wp2_with (first | (go_at_call 20; (with_reducible refine (new_none _ m (.inr D2.out)).mono ?_); rintro e w1 ⟨rfl, rfl⟩) | (go_at_call 19; (with_reducible refine (lives_calls _).mono ?_); rintro e w1 ⟨rfl, hb⟩; have HB1 := Aside0.mk hb; clear hb))
    go_ret
    exact ⟨rfl, HB1.out⟩
  obtain ⟨n, rfl⟩ : ∃ n : Nat, m = n := ⟨m.toNat, by omega⟩
  have d1b : decide ((n : Int) < 1) = false := decide_eq_false d1
  have d1c : decide (n < 1) = false := decide_eq_false (by omega)
  have d2b : decide (8 < (n : Int)) = false := decide_eq_false d2
  have d2c : decide (8 < n) = false := decide_eq_false (by omega)
  have DN : Aside0 (1 ≤ n ∧ n ≤ 8) := ⟨by omega⟩
  clear d1 d2
  go_enter Try.func8, Try.ntmps8
  go_wp2_with (go_at_call 20; (with_reducible refine (sp_new w _ n HB.out DN.out.1 DN.out.2).mono ?_); rintro e w1 ⟨g, c, rfl, h⟩; have HS := Aside0.mk h; clear h HB)
  go_loopg [6, 7, 8, 9] (l0.length + 1) (fun kq v6 v7 v8 v9 w' => ∃ (x : Int) (l : List ByteArray) (A : Option Addr) (cp : Nat) (cl : Bool), v9 = .int .i64 x ∧ v8 = .bool cl ∧ v7 = .int .i64 (bts l) ∧ v6 = .slice A l.length cp ∧ Aside0 (0 ≤ x ∧ x + kq = l0.length + 1 ∧ 1 ≤ kq) ∧ Aside0 (SP w w' g c n l l A cp cl))
  case atStart => exact ⟨0, [], none, 0, false, (by first | rfl | (simp; done)), rfl, by rw [bts_nil], rfl, ⟨by omega⟩, HS⟩
  case round =>
    clear HS
    obtain ⟨x, l, A, cp, cl, rfl, rfl, rfl, rfl, HK, HS⟩ := hrel
    obtain ⟨k1, rfl⟩ : ∃ k1, gk = k1 + 1 := ⟨gk - 1, by have := HK.out; omega⟩
    have p0 : 0 ≤ x := HK.out.1
    by_cases cx : x < (l0.length : Int)
    · have cxb : decide (x < (l0.length : Int)) = true := decide_eq_true cx
      have HP : Aside0 (0 ≤ x ∧ x < l0.length) := ⟨p0, cx⟩
      have HY : Aside0 ((rd_TOp l0 x).f1.size ≤ 9223372036854775807) := ⟨HX0.out _ (rd_mem l0 x p0 cx)⟩
      obtain ⟨ad0, q0, hx0, hx1⟩ := at_TOp HR0.out x p0 cx
      subst q0
      have hy0 := (HS.out.bel.cell (World.block_lt_of_cell? w _ hx0)).trans hx0
      have hy1 := (HS.out.bel.cell (World.block_lt_of_cell? w _ hx1)).trans hx1
      have p0c := eq_true p0
      have cxc := eq_true cx
      clear p0 cx hx0 hx1
      by_cases k0 : (rd_TOp l0 x).f0 = 0
      · have k0b : ((rd_TOp l0 x).f0 == 0) = true := beq_iff_eq.mpr k0
        clear k0
        by_cases c1 : l.length < n
        · have c1b : decide (l.length < n) = true := decide_eq_true c1
          have c1c : decide ((l.length : Int) < (n : Int)) = true := decide_eq_true (by omega)
          have C1 := Aside0.mk c1
          clear c1
          cases cl with
          | false =>
            go_wp2_with (first
              | (go_at_call 21; (with_reducible refine (sp_put HS.out C1.out _ HY.out).mono ?_); rintro e w2 ⟨rfl, h⟩; have HS1 := Aside0.mk h; clear h HS hy0 hy1)
              | ((with_reducible refine gate_builtin (b := .append) (xs := #[.tmp 63, .tmp 65]) rfl ?_); at_builtin; refine Kd.R_append Kd.string (w0 := w) w.heap.size rfl (.tmp 63) (.tmp 65) 32 9 (.string ⟨#[]⟩) 16 rfl Try.underlying32 info9 rfl (by decide) (by omega) (.slice A l.length cp) l (rd_TOp l0 x).f1 [.string (rd_TOp l0 x).f1] (fun k => k ≠ g ∧ k ≠ c) (fun _ => False) rfl rfl ?aP (fun _ hk => hk.elim) ?aF ?aO ?aB ?aS ?aL ?_; (case aP => exact rfl); (case aB => exact HS1.out.bel); (case aF => exact HS1.out.fresh); (case aO => exact HS1.out.r); (case aS => exact HS1.out.bel.size); (case aL => have := C1.out; have := DN.out; omega); intro v2 w3 ho hb hgr hat; obtain ⟨l2, A2, cp2, rfl, eb, h⟩ := HS1.out.app C1.out ho hb hgr; have eb2 : IntKind.i64.wrap (bts l + ((rd_TOp l0 x).f1.size : Int)) = bts l2 := (i64_w _).trans eb; have HS2 := Aside0.mk h; clear h ho hb hgr hat HS1)
              | (go_at_call 31; (with_reducible refine (sp_len HS2.out).mono ?_); rintro e w3 ⟨rfl, rfl⟩)
              | (go_at_call 32; (with_reducible refine (sp_bytes HS2.out).mono ?_); rintro e w3 ⟨rfl, rfl⟩))
            go_roundg k1
            case measure => omega
            case rel => exact ⟨wrap64 (x + 1), l2, A2, cp2, false, (by first | rfl | (simp; done)), rfl, (by first | rfl | (simp [*]; done)), rfl, ⟨by have := HK.out; have := HP.out; have := D0.out; unfold wrap64; omega⟩, HS2⟩
          | true =>
            go_wp2_with (first
              | (go_at_call 21; (with_reducible refine (sp_closed HS.out _).mono ?_); rintro e w3 ⟨rfl, rfl⟩)
              | (go_at_call 31; (with_reducible refine (sp_len HS.out).mono ?_); rintro e w3 ⟨rfl, rfl⟩)
              | (go_at_call 32; (with_reducible refine (sp_bytes HS.out).mono ?_); rintro e w3 ⟨rfl, rfl⟩))
            go_roundg k1
            case measure => omega
            case rel => exact ⟨wrap64 (x + 1), l, A, cp, true, (by first | rfl | (simp; done)), rfl, rfl, rfl, ⟨by have := HK.out; have := HP.out; have := D0.out; unfold wrap64; omega⟩, HS⟩
        · have c1b : decide (l.length < n) = false := decide_eq_false c1
          have c1c : decide ((l.length : Int) < (n : Int)) = false := decide_eq_false (by omega)
          have C1 : Aside0 (n ≤ l.length) := ⟨by omega⟩
          clear c1
          cases cl with
          | false =>
            go_wp2_with (first
              | (go_at_call 21; (with_reducible refine (sp_full HS.out C1.out _).mono ?_); rintro e w3 ⟨rfl, rfl⟩)
              | (go_at_call 31; (with_reducible refine (sp_len HS.out).mono ?_); rintro e w3 ⟨rfl, rfl⟩)
              | (go_at_call 32; (with_reducible refine (sp_bytes HS.out).mono ?_); rintro e w3 ⟨rfl, rfl⟩))
            go_roundg k1
            case measure => omega
            case rel => exact ⟨wrap64 (x + 1), l, A, cp, false, (by first | rfl | (simp; done)), rfl, rfl, rfl, ⟨by have := HK.out; have := HP.out; have := D0.out; unfold wrap64; omega⟩, HS⟩
          | true =>
            go_wp2_with (first
              | (go_at_call 21; (with_reducible refine (sp_closed HS.out _).mono ?_); rintro e w3 ⟨rfl, rfl⟩)
              | (go_at_call 31; (with_reducible refine (sp_len HS.out).mono ?_); rintro e w3 ⟨rfl, rfl⟩)
              | (go_at_call 32; (with_reducible refine (sp_bytes HS.out).mono ?_); rintro e w3 ⟨rfl, rfl⟩))
            go_roundg k1
            case measure => omega
            case rel => exact ⟨wrap64 (x + 1), l, A, cp, true, (by first | rfl | (simp; done)), rfl, rfl, rfl, ⟨by have := HK.out; have := HP.out; have := D0.out; unfold wrap64; omega⟩, HS⟩
      · have k0b : ((rd_TOp l0 x).f0 == 0) = false := beq_eq_false_iff_ne.mpr k0
        clear k0
        by_cases k1' : (rd_TOp l0 x).f0 = 1
        · have k1b : ((rd_TOp l0 x).f0 == 1) = true := beq_iff_eq.mpr k1'
          clear k1'
          go_wp2_with (go_at_call 22; (with_reducible refine (sp_take HS.out).mono ?_); rintro e w2 ⟨A2, cp2, rfl, hC2, hC1, h⟩; have HC2 := Aside0.mk hC2; have HC1 := Aside0.mk hC1; have HS2 := Aside0.mk h; clear h hC1 hC2 hy0 hy1)
          have LN : Aside0 (l.length ≤ 8) := ⟨by have := HS.out.hn; have := HS.out.h8; omega⟩
          clear HS
          go_loopg [13] (l.length + 1) (fun kq v13 w' => ∃ y : Int, v13 = .int .i64 y ∧ Aside0 (0 ≤ y ∧ y + kq = l.length + 1 ∧ 1 ≤ kq) ∧ Drawn0 w2 w')
          case atStart => exact ⟨0, (by first | rfl | (simp; done)), ⟨by omega⟩, Drawn0.refl _⟩
          case round =>
            obtain ⟨y, rfl, HJ, ⟨m1, rfl⟩⟩ := hrel
            obtain ⟨j1, rfl⟩ : ∃ j1, gk = j1 + 1 := ⟨gk - 1, by have := HJ.out; omega⟩
            have y0 : 0 ≤ y := HJ.out.1
            by_cases cy : y < (l.length : Int)
            · have cyb : decide (y < (l.length : Int)) = true := decide_eq_true cy
              obtain ⟨ad1, q1, hz1⟩ := Kd.at_string HC1.out y y0 cy
              subst q1
              obtain ⟨ad2, q2, hz2⟩ := Kd.at_string HC2.out y y0 cy
              subst q2
              have y0c := eq_true y0
              have cyc := eq_true cy
              have HQ : Aside0 (0 ≤ y ∧ y < l.length) := ⟨y0, cy⟩
              clear y0 cy
              go_wp2
              repeat (go_quiet (fail); try go_wp2)
              go_roundg j1
              case measure => omega
              case rel => exact ⟨wrap64 (y + 1), (by first | rfl | (simp; done)), ⟨by have := HJ.out; have := HQ.out; have := LN.out; unfold wrap64; omega⟩, by repeat (first | exact Drawn0.refl _ | apply Drawn0.step)⟩
            · have cyb : decide (y < (l.length : Int)) = false := decide_eq_false cy
              have HS3 := Aside0.mk (HS2.out.drew m1)
              have hbn := bts_nil
              clear y0 cy HS2
              go_wp2_with (first
                | (go_at_call 31; (with_reducible refine (sp_len HS3.out).mono ?_); rintro e w3 ⟨rfl, rfl⟩)
                | (go_at_call 32; (with_reducible refine (sp_bytes HS3.out).mono ?_); rintro e w3 ⟨rfl, rfl⟩))
              go_roundg k1
              case measure => omega
              case rel => exact ⟨wrap64 (x + 1), [], none, 0, cl, (by first | rfl | (simp; done)), rfl, (by rw [bts_nil]), rfl, ⟨by have := HK.out; have := HP.out; have := D0.out; unfold wrap64; omega⟩, HS3⟩
        have k1b : ((rd_TOp l0 x).f0 == 1) = false := beq_eq_false_iff_ne.mpr k1'
        clear k1'
        by_cases k2 : (rd_TOp l0 x).f0 = 2
        · have k2b : ((rd_TOp l0 x).f0 == 2) = true := beq_iff_eq.mpr k2
          clear k2
          go_wp2_with (first
            | (go_at_call 30; (with_reducible refine (sp_close HS.out).mono ?_); rintro e w2 ⟨rfl, h⟩; have HS2 := Aside0.mk h; clear h HS hy0 hy1)
            | (go_at_call 31; (with_reducible refine (sp_len HS2.out).mono ?_); rintro e w3 ⟨rfl, rfl⟩)
            | (go_at_call 32; (with_reducible refine (sp_bytes HS2.out).mono ?_); rintro e w3 ⟨rfl, rfl⟩))
          go_roundg k1
          case measure => omega
          case rel => exact ⟨wrap64 (x + 1), l, A, cp, true, (by first | rfl | (simp; done)), rfl, rfl, rfl, ⟨by have := HK.out; have := HP.out; have := D0.out; unfold wrap64; omega⟩, HS2⟩
        · have k2b : ((rd_TOp l0 x).f0 == 2) = false := beq_eq_false_iff_ne.mpr k2
          clear k2
          go_wp2_with (first
            | (go_at_call 31; (with_reducible refine (sp_len HS.out).mono ?_); rintro e w3 ⟨rfl, rfl⟩)
            | (go_at_call 32; (with_reducible refine (sp_bytes HS.out).mono ?_); rintro e w3 ⟨rfl, rfl⟩))
          go_roundg k1
          case measure => omega
          case rel => exact ⟨wrap64 (x + 1), l, A, cp, cl, (by first | rfl | (simp; done)), rfl, rfl, rfl, ⟨by have := HK.out; have := HP.out; have := D0.out; unfold wrap64; omega⟩, HS⟩
    · have cxb : decide (x < (l0.length : Int)) = false := decide_eq_false cx
      clear p0 cx
      go_wp2_with (go_at_call 19; (with_reducible refine (lives_calls _).mono ?_); rintro e w7 ⟨rfl, hb⟩; have HB := Aside0.mk (below_step HS.out.bel hb); clear hb)
      go_ret
      exact ⟨rfl, HB.out⟩
end Go.Proofs.Ytbedmobcaljmdaa.Bh
