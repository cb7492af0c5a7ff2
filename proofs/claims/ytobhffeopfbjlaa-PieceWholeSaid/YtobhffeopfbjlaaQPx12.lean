-- Written by a program of this session (wip/tools/bundle.sh), which turns the kit's print for functions given by hand. Lean checks it.
import Derived.Test.YtobhffeopfbjlaaQPx0
import Derived.Test.YtobhffeopfbjlaaQPx4
import Derived.Test.YtobhffeopfbjlaaQPx6
import Derived.Test.YtobhffeopfbjlaaQPx8
import Derived.Test.YtobhffeopfbjlaaQPx9
namespace Go.Proofs.Ytobhffeopfbjlaa.QP
open Go.RowKit Go.Proofs.YtobhffeopfbjlaaW.PrintWords Go.Proofs.YtobhffeopfbjlaaW.PrintLast Go.Proofs.YtobhffeopfbjlaaW.PrintMore
attribute [local go_sem] max2_int min2_int max_two min_two max_three min_three max_four min_four   -- for this text's walks alone
set_option linter.unusedVariables false
set_option linter.unusedSimpArgs false

/-! ### styluslaw05_PieceWhole: function 5 -/
mutual
def styluslaw05_PieceWhole.j0 : Nat → ByteArray → ByteArray → Bool → Option (Bool)
  | 0, _, _, _ => none
  | k + 1, x0, x1, x16 => if x16 = true then ((styluslaw05_lives.f k).bind fun t166 => (some t166)) else ((piece_Count.f (x0.size : Int)).bind fun t167 => (styluslaw05_PieceWhole.l0 k x0 x1 (⟨#[]⟩ : ByteArray) t167 0))
def styluslaw05_PieceWhole.l0 : Nat → ByteArray → ByteArray → ByteArray → Int → Int → Option (Bool)
  | 0, _, _, _, _, _ => none
  | k + 1, x0, x1, x5, x6, x7 => if x7 < x6 then (styluslaw05_PieceWhole.j2 k x0 x1 x5 x6 x7 (decide (x7 < 100))) else (styluslaw05_PieceWhole.j2 k x0 x1 x5 x6 x7 false)
def styluslaw05_PieceWhole.j2 : Nat → ByteArray → ByteArray → ByteArray → Int → Int → Bool → Option (Bool)
  | 0, _, _, _, _, _, _ => none
  | k + 1, x0, x1, x5, x6, x7, x27 => if x27 = true then ((piece_Slice.f k x0 x7).bind fun t168 => (if t168.toList = ([] : List UInt8) then (some false) else (if x7 < (wrap64 (x6 - 1)) then (if (t168.size : Int) = 32 then (if x5.size + t168.size ≤ 9223372036854775807 then (styluslaw05_PieceWhole.l0 k x0 x1 (x5 ++ t168) x6 (wrap64 (x7 + 1))) else (none)) else (some false)) else (if x5.size + t168.size ≤ 9223372036854775807 then (styluslaw05_PieceWhole.l0 k x0 x1 (x5 ++ t168) x6 (wrap64 (x7 + 1))) else (none))))) else (if x5.toList = x0.toList then ((piece_Slice.f k x0 x6).bind fun t169 => (if t169.toList = ([] : List UInt8) then ((piece_Unlike.f k x0 x1).bind fun t170 => (if (((t170.length : Int) == 0) == (x0.toList == x1.toList)) = true then ((styluslaw05_lives.f k).bind fun t173 => (some t173)) else (some false))) else (some false))) else (some false))
end
def styluslaw05_PieceWhole.f (k : Nat) (a0 : ByteArray) (a1 : ByteArray) : Option (Bool) := if (a0.size : Int) > 1000 then (styluslaw05_PieceWhole.j0 k a0 a1 true) else (styluslaw05_PieceWhole.j0 k a0 a1 (decide ((a1.size : Int) > 1000)))
theorem styluslaw05_PieceWhole.mono_l : ∀ k, (∀ y0 y1 y2, LeO (styluslaw05_PieceWhole.j0 k y0 y1 y2) (styluslaw05_PieceWhole.j0 (k + 1) y0 y1 y2)) ∧ (∀ y0 y1 y2 y3 y4, LeO (styluslaw05_PieceWhole.l0 k y0 y1 y2 y3 y4) (styluslaw05_PieceWhole.l0 (k + 1) y0 y1 y2 y3 y4)) ∧ (∀ y0 y1 y2 y3 y4 y5, LeO (styluslaw05_PieceWhole.j2 k y0 y1 y2 y3 y4 y5) (styluslaw05_PieceWhole.j2 (k + 1) y0 y1 y2 y3 y4 y5))
  | 0 => ⟨fun _ _ _ r h => by simp [styluslaw05_PieceWhole.j0] at h, fun _ _ _ _ _ r h => by simp [styluslaw05_PieceWhole.l0] at h, fun _ _ _ _ _ _ r h => by simp [styluslaw05_PieceWhole.j2] at h⟩
  | k + 1 => by
    obtain ⟨ih0, ih1, ih2⟩ := styluslaw05_PieceWhole.mono_l k
    refine ⟨?_, ?_, ?_⟩
    · intro y0 y1 y2
      unfold styluslaw05_PieceWhole.j0
      repeat' first
      | (with_reducible exact ih0 _ _ _)
      | (with_reducible exact ih1 _ _ _ _ _)
      | (with_reducible exact ih2 _ _ _ _ _ _)
      | (with_reducible exact piece_Slice.mono _ _ _)
      | (with_reducible exact piece_Unlike.mono _ _ _)
      | (with_reducible exact styluslaw05_lives.mono _)
      | (with_reducible exact LeO.refl _)
      | (with_reducible exact LeO.none _)
      | (with_reducible refine LeO.ite ?_ ?_)
      | (with_reducible refine LeO.bind ?_ (fun _ => ?_))
      | exact ih0 _ _ _
      | exact ih1 _ _ _ _ _
      | exact ih2 _ _ _ _ _ _
      | exact piece_Slice.mono _ _ _
      | exact piece_Unlike.mono _ _ _
      | exact styluslaw05_lives.mono _
      | exact LeO.none _
      | refine LeO.ite ?_ ?_
      | refine LeO.bind ?_ (fun _ => ?_)
    · intro y0 y1 y2 y3 y4
      unfold styluslaw05_PieceWhole.l0
      repeat' first
      | (with_reducible exact ih0 _ _ _)
      | (with_reducible exact ih1 _ _ _ _ _)
      | (with_reducible exact ih2 _ _ _ _ _ _)
      | (with_reducible exact piece_Slice.mono _ _ _)
      | (with_reducible exact piece_Unlike.mono _ _ _)
      | (with_reducible exact styluslaw05_lives.mono _)
      | (with_reducible exact LeO.refl _)
      | (with_reducible exact LeO.none _)
      | (with_reducible refine LeO.ite ?_ ?_)
      | (with_reducible refine LeO.bind ?_ (fun _ => ?_))
      | exact ih0 _ _ _
      | exact ih1 _ _ _ _ _
      | exact ih2 _ _ _ _ _ _
      | exact piece_Slice.mono _ _ _
      | exact piece_Unlike.mono _ _ _
      | exact styluslaw05_lives.mono _
      | exact LeO.none _
      | refine LeO.ite ?_ ?_
      | refine LeO.bind ?_ (fun _ => ?_)
    · intro y0 y1 y2 y3 y4 y5
      unfold styluslaw05_PieceWhole.j2
      repeat' first
      | (with_reducible exact ih0 _ _ _)
      | (with_reducible exact ih1 _ _ _ _ _)
      | (with_reducible exact ih2 _ _ _ _ _ _)
      | (with_reducible exact piece_Slice.mono _ _ _)
      | (with_reducible exact piece_Unlike.mono _ _ _)
      | (with_reducible exact styluslaw05_lives.mono _)
      | (with_reducible exact LeO.refl _)
      | (with_reducible exact LeO.none _)
      | (with_reducible refine LeO.ite ?_ ?_)
      | (with_reducible refine LeO.bind ?_ (fun _ => ?_))
      | exact ih0 _ _ _
      | exact ih1 _ _ _ _ _
      | exact ih2 _ _ _ _ _ _
      | exact piece_Slice.mono _ _ _
      | exact piece_Unlike.mono _ _ _
      | exact styluslaw05_lives.mono _
      | exact LeO.none _
      | refine LeO.ite ?_ ?_
      | refine LeO.bind ?_ (fun _ => ?_)
theorem styluslaw05_PieceWhole.mono : ∀ a0 a1 k, LeO (styluslaw05_PieceWhole.f k a0 a1) (styluslaw05_PieceWhole.f (k + 1) a0 a1) := by
  intro a0 a1 k
  obtain ⟨ih0, ih1, ih2⟩ := styluslaw05_PieceWhole.mono_l k
  unfold styluslaw05_PieceWhole.f
  repeat' first
      | (with_reducible exact ih0 _ _ _)
      | (with_reducible exact ih1 _ _ _ _ _)
      | (with_reducible exact ih2 _ _ _ _ _ _)
      | (with_reducible exact piece_Slice.mono _ _ _)
      | (with_reducible exact piece_Unlike.mono _ _ _)
      | (with_reducible exact styluslaw05_lives.mono _)
      | (with_reducible exact LeO.refl _)
      | (with_reducible exact LeO.none _)
      | (with_reducible refine LeO.ite ?_ ?_)
      | (with_reducible refine LeO.bind ?_ (fun _ => ?_))
      | exact ih0 _ _ _
      | exact ih1 _ _ _ _ _
      | exact ih2 _ _ _ _ _ _
      | exact piece_Slice.mono _ _ _
      | exact piece_Unlike.mono _ _ _
      | exact styluslaw05_lives.mono _
      | exact LeO.none _
      | refine LeO.ite ?_ ?_
      | refine LeO.bind ?_ (fun _ => ?_)
set_option maxHeartbeats 8000000 in
set_option maxRecDepth 100000 in
theorem styluslaw05_PieceWhole.calls (k : Nat) (a0 : ByteArray) (a1 : ByteArray) (r : Bool) (w : World) (h : styluslaw05_PieceWhole.f k a0 a1 = some r) :
    Calls Try.prog 5 #[.string a0, .string a1] w fun e w' => e = .returned (.bool r) ∧ Below w.heap.size w w' := by
  have HB := Aside0.mk (Below.refl w.heap.size w)
  have H : (if (a0.size : Int) > 1000 then (styluslaw05_PieceWhole.j0 k a0 a1 true) else (styluslaw05_PieceWhole.j0 k a0 a1 (decide ((a1.size : Int) > 1000)))) = some r := h
  clear h
  have HC3 := Aside0.mk H
  clear H
  go_enter Try.func5, Try.ntmps5
  go_upto_region 1 with (fail)
  go_cut [16] (fun v16 wc => ∃ (kq : Nat) (x16_2 : Bool), v16 = .bool x16_2 ∧ Aside0 (styluslaw05_PieceWhole.j0 kq a0 a1 x16_2 = some r) ∧ Aside0 (kq ≤ k) ∧ Aside0 (Below w.heap.size w wc))
  case first =>
    have H := HC3.out
    clear HC3
    by_cases c4 : (a0.size : Int) > 1000
    · rw [if_pos c4] at H
      have c4b0 : decide (1000 < (a0.size : Int)) = true := decide_eq_true c4
      have c4b1 : decide (1000 < a0.size) = true := decide_eq_true (by omega)
      clear c4
      (first | rw [c4b0] | (simp only [i64_w, i32_w]; rw [c4b0]) | skip)
      have H' := Aside0.mk H
      clear H
      go_wp2
      go_meet
      case rel => exact ⟨_, (true), (by first | rfl | (simp; done) | (simp [*]; done)), H', ⟨by first | omega | exact Nat.le_refl _⟩, ⟨by repeat (first | (with_reducible first | exact HB.out | apply below_alloc | apply pw_below_drewN | apply below_drew1) | exact HB.out)⟩⟩
    · rw [if_neg c4] at H
      have c4b0 : decide (1000 < (a0.size : Int)) = false := decide_eq_false c4
      have c4b1 : decide (1000 < a0.size) = false := decide_eq_false (by omega)
      clear c4
      (first | rw [c4b0] | (simp only [i64_w, i32_w]; rw [c4b0]) | skip)
      have H' := Aside0.mk H
      clear H
      go_wp2
      go_meet
      case rel => exact ⟨_, (decide ((a1.size : Int) > 1000)), (by first | rfl | (simp; done) | (simp [*]; done)), H', ⟨by first | omega | exact Nat.le_refl _⟩, ⟨by repeat (first | (with_reducible first | exact HB.out | apply below_alloc | apply pw_below_drewN | apply below_drew1) | exact HB.out)⟩⟩
  case rest =>
    clear HC3
    try clear p2
    try clear c4
    try clear c4b0
    try clear c4b1
    obtain ⟨kq, x16_2, rfl, HA, HJ2, HB⟩ := hcut
    cases kq with
    | zero => exact absurd HA.out (by simp [styluslaw05_PieceWhole.j0])
    | succ kj2 =>
      have H := HA.out
      clear HA
      simp only [styluslaw05_PieceWhole.j0] at H
      by_cases c5 : x16_2 = true
      · subst c5
        have H1 : ((styluslaw05_lives.f kj2).bind fun t166 => (some t166)) = some r := by rw [if_pos rfl] at H; exact H
        clear H
        have H := H1
        clear H1
        replace H := Option.bind_eq_some_iff.mp H
        obtain ⟨t166, A60, H⟩ := H
        replace H : (some t166) = some r := H
        have A6 := Aside0.mk A60
        clear A60
        obtain rfl := Option.some.inj H
        go_wp2_with (first | ((with_reducible refine gate_callee (f := 12) rfl ?_); refine goesL_ (some 17) rfl rfl Try.func12 (by kernel_rfl) rfl #[] rfl (by (try simp only [List.map_toArray, List.map_cons, List.map_nil]); first | done | rfl | (simp only [List.length_drop, List.length_take]; rfl)) ?_; (with_reducible refine (styluslaw05_lives.calls kj2  t166 _ A6.out).mono ?_); rintro e w7 ⟨rfl, hb⟩; refine ⟨_, rfl, ?_⟩; have n0_ := Aside0.mk (below_step (by repeat (first | (with_reducible first | exact HB.out | apply below_alloc | apply pw_below_drewN | apply below_drew1) | exact HB.out)) hb); clear HB; have HB := n0_; clear n0_; (try clear hb); (try clear hb2); (try clear hk); (try clear hi)))
        go_ret
        exact ⟨by first | rfl | (simp [errW_none, errW_some] <;> rfl) | (simp [*, errW_none, errW_some] <;> rfl), by repeat (first | (with_reducible first | exact HB.out | apply below_alloc | apply pw_below_drewN | apply below_drew1) | exact HB.out)⟩
      · replace c5 := Bool.eq_false_iff.mpr c5
        subst c5
        have H1 : ((piece_Count.f (a0.size : Int)).bind fun t167 => (styluslaw05_PieceWhole.l0 kj2 a0 a1 (⟨#[]⟩ : ByteArray) t167 0)) = some r := by rw [if_neg (show ¬ (false = true) by decide)] at H; exact H
        clear H
        have H := H1
        clear H1
        replace H := Option.bind_eq_some_iff.mp H
        obtain ⟨t167, A80, H⟩ := H
        replace H : (styluslaw05_PieceWhole.l0 kj2 a0 a1 (⟨#[]⟩ : ByteArray) t167 0) = some r := H
        have A8 := Aside0.mk A80
        clear A80
        have H' := Aside0.mk H
        clear H
        go_wp2_with (first | ((with_reducible refine gate_callee (f := 15) rfl ?_); refine goesL_ (some 20) rfl rfl Try.func15 (by kernel_rfl) rfl #[.int .i64 (a0.size : Int)] rfl (by (try simp only [List.map_toArray, List.map_cons, List.map_nil]); first | done | rfl | (simp only [List.length_drop, List.length_take]; rfl)) ?_; (with_reducible refine (piece_Count.calls (a0.size : Int) t167 _ A8.out).mono ?_); rintro e w' ⟨rfl, ⟨nd, rfl⟩⟩; refine ⟨_, rfl, ?_⟩))
        go_loopg [5, 7] kj2 (fun kq v5 v7 w' => ∃ (x5_2 : ByteArray) (x7_2 : Int), v5 = .string x5_2 ∧ v7 = .int .i64 x7_2 ∧ Aside0 (styluslaw05_PieceWhole.l0 kq a0 a1 x5_2 t167 x7_2 = some r) ∧ Aside0 (kq ≤ kj2) ∧ Aside0 (Below w.heap.size w w'))
        case atStart => exact ⟨((⟨#[]⟩ : ByteArray)), (0), (by first | rfl | (simp; done) | (simp [*]; done)), (by first | rfl | (simp; done) | (simp [*]; done)), H', ⟨Nat.le_refl _⟩, ⟨by repeat (first | (with_reducible first | exact HB.out | apply below_alloc | apply pw_below_drewN | apply below_drew1) | exact HB.out)⟩⟩
        case round =>
          clear H'
          try clear c1
          try clear p2
          try clear c4
          try clear c4b0
          try clear c4b1
          try clear c5
          try clear p2
          obtain ⟨x5_2, x7_2, rfl, rfl, HA, HK2, HB⟩ := hrel
          cases gk with
          | zero => exact absurd HA.out (by simp [styluslaw05_PieceWhole.l0])
          | succ k2 =>
            have H := HA.out
            clear HA
            simp only [styluslaw05_PieceWhole.l0] at H
            have HC9 := Aside0.mk H
            clear H
            go_upto_region 6 with (fail)
            go_cut [27] (fun v27 wc => ∃ (kq : Nat) (x27_8 : Bool), v27 = .bool x27_8 ∧ Aside0 (styluslaw05_PieceWhole.j2 kq a0 a1 x5_2 t167 x7_2 x27_8 = some r) ∧ Aside0 (kq ≤ k2) ∧ Aside0 (Below w.heap.size w wc))
            case first =>
              have H := HC9.out
              clear HC9
              by_cases c10 : x7_2 < t167
              · rw [if_pos c10] at H
                have c10b0 : decide (x7_2 < t167) = true := decide_eq_true c10
                clear c10
                (first | rw [c10b0] | (simp only [i64_w, i32_w]; rw [c10b0]) | skip)
                have H' := Aside0.mk H
                clear H
                go_wp2
                go_meet
                case rel => exact ⟨_, (decide (x7_2 < 100)), (by first | rfl | (simp; done) | (simp [*]; done)), H', ⟨by have := HJ2.out; have := HK2.out; first | omega | exact Nat.le_refl _⟩, ⟨by repeat (first | (with_reducible first | exact HB.out | apply below_alloc | apply pw_below_drewN | apply below_drew1) | exact HB.out)⟩⟩
              · rw [if_neg c10] at H
                have c10b0 : decide (x7_2 < t167) = false := decide_eq_false c10
                clear c10
                (first | rw [c10b0] | (simp only [i64_w, i32_w]; rw [c10b0]) | skip)
                have H' := Aside0.mk H
                clear H
                go_wp2
                go_meet
                case rel => exact ⟨_, (false), (by first | rfl | (simp; done) | (simp [*]; done)), H', ⟨by have := HJ2.out; have := HK2.out; first | omega | exact Nat.le_refl _⟩, ⟨by repeat (first | (with_reducible first | exact HB.out | apply below_alloc | apply pw_below_drewN | apply below_drew1) | exact HB.out)⟩⟩
            case rest =>
              clear HC9
              try clear c1
              try clear p2
              try clear c4
              try clear c4b0
              try clear c4b1
              try clear c5
              try clear c10
              try clear c10b0
              try clear p2
              obtain ⟨kq, x27_8, rfl, HA, HJ8, HB⟩ := hcut
              cases kq with
              | zero => exact absurd HA.out (by simp [styluslaw05_PieceWhole.j2])
              | succ kj8 =>
                have H := HA.out
                clear HA
                simp only [styluslaw05_PieceWhole.j2] at H
                by_cases c11 : x27_8 = true
                · subst c11
                  have H1 : ((piece_Slice.f kj8 a0 x7_2).bind fun t168 => (if t168.toList = ([] : List UInt8) then (some false) else (if x7_2 < (wrap64 (t167 - 1)) then (if (t168.size : Int) = 32 then (if x5_2.size + t168.size ≤ 9223372036854775807 then (styluslaw05_PieceWhole.l0 kj8 a0 a1 (x5_2 ++ t168) t167 (wrap64 (x7_2 + 1))) else (none)) else (some false)) else (if x5_2.size + t168.size ≤ 9223372036854775807 then (styluslaw05_PieceWhole.l0 kj8 a0 a1 (x5_2 ++ t168) t167 (wrap64 (x7_2 + 1))) else (none))))) = some r := by rw [if_pos rfl] at H; exact H
                  clear H
                  have H := H1
                  clear H1
                  replace H := Option.bind_eq_some_iff.mp H
                  obtain ⟨t168, A120, H⟩ := H
                  replace H : (if t168.toList = ([] : List UInt8) then (some false) else (if x7_2 < (wrap64 (t167 - 1)) then (if (t168.size : Int) = 32 then (if x5_2.size + t168.size ≤ 9223372036854775807 then (styluslaw05_PieceWhole.l0 kj8 a0 a1 (x5_2 ++ t168) t167 (wrap64 (x7_2 + 1))) else (none)) else (some false)) else (if x5_2.size + t168.size ≤ 9223372036854775807 then (styluslaw05_PieceWhole.l0 kj8 a0 a1 (x5_2 ++ t168) t167 (wrap64 (x7_2 + 1))) else (none)))) = some r := H
                  have A12 := Aside0.mk A120
                  clear A120
                  by_cases c13 : t168.toList = ([] : List UInt8)
                  · rw [if_pos c13] at H
                    have c13b0 : (t168.toList == ([] : List UInt8)) = true := beq_iff_eq.mpr c13
                    have c13b1 : (t168.toList != ([] : List UInt8)) = false := bne_eq_false_iff_eq.mpr c13
                    clear c13
                    obtain rfl := Option.some.inj H
                    go_wp2_with (first | ((with_reducible refine gate_callee (f := 19) rfl ?_); refine goesL_ (some 32) rfl rfl Try.func19 (by kernel_rfl) rfl #[.string a0, .int .i64 x7_2] rfl (by (try simp only [List.map_toArray, List.map_cons, List.map_nil]); first | done | rfl | (simp only [List.length_drop, List.length_take]; rfl)) ?_; (with_reducible refine (piece_Slice.calls kj8 a0 x7_2 t168 _ A12.out).mono ?_); rintro e w' ⟨rfl, ⟨nd, rfl⟩⟩; refine ⟨_, rfl, ?_⟩))
                    go_ret
                    exact ⟨by first | rfl | (simp [errW_none, errW_some] <;> rfl) | (simp [*, errW_none, errW_some] <;> rfl), by repeat (first | (with_reducible first | exact HB.out | apply below_alloc | apply pw_below_drewN | apply below_drew1) | exact HB.out)⟩
                  · rw [if_neg c13] at H
                    have c13b0 : (t168.toList == ([] : List UInt8)) = false := beq_eq_false_iff_ne.mpr c13
                    have c13b1 : (t168.toList != ([] : List UInt8)) = true := bne_iff_ne.mpr c13
                    by_cases c14 : x7_2 < (wrap64 (t167 - 1))
                    · rw [if_pos c14] at H
                      have c14b0 : decide (x7_2 < (wrap64 (t167 - 1))) = true := decide_eq_true c14
                      clear c14
                      by_cases c15 : (t168.size : Int) = 32
                      · rw [if_pos c15] at H
                        have c15b0 : ((t168.size : Int) == 32) = true := beq_iff_eq.mpr c15
                        have c15b1 : ((t168.size : Int) != 32) = false := bne_eq_false_iff_eq.mpr c15
                        clear c15
                        by_cases c16 : x5_2.size + t168.size ≤ 9223372036854775807
                        · rw [if_pos c16] at H
                          have c16b0 := eq_true c16
                          have c16b1 : decide (x5_2.size + t168.size ≤ 9223372036854775807) = true := decide_eq_true c16
                          try have c16b2 : (9223372036854775807 < x5_2.size + t168.size) = False := eq_false (Nat.not_lt.2 c16)
                          have H' := Aside0.mk H
                          clear H
                          go_wp2_with (first | ((with_reducible refine gate_callee (f := 19) rfl ?_); refine goesL_ (some 32) rfl rfl Try.func19 (by kernel_rfl) rfl #[.string a0, .int .i64 x7_2] rfl (by (try simp only [List.map_toArray, List.map_cons, List.map_nil]); first | done | rfl | (simp only [List.length_drop, List.length_take]; rfl)) ?_; (with_reducible refine (piece_Slice.calls kj8 a0 x7_2 t168 _ A12.out).mono ?_); rintro e w' ⟨rfl, ⟨nd, rfl⟩⟩; refine ⟨_, rfl, ?_⟩))
                          go_roundg kj8
                          case measure => have := HJ2.out; have := HK2.out; have := HJ8.out; omega
                          case rel => exact ⟨(x5_2 ++ t168), (wrap64 (x7_2 + 1)), (by first | rfl | (simp; done) | (simp [*]; done)), (by first | rfl | (simp; done) | (simp [*]; done)), H', ⟨by have := HJ2.out; have := HK2.out; have := HJ8.out; omega⟩, ⟨by repeat (first | (with_reducible first | exact HB.out | apply below_alloc | apply pw_below_drewN | apply below_drew1) | exact HB.out)⟩⟩
                        · rw [if_neg c16] at H
                          exact absurd H (by simp)
                      · rw [if_neg c15] at H
                        have c15b0 : ((t168.size : Int) == 32) = false := beq_eq_false_iff_ne.mpr c15
                        have c15b1 : ((t168.size : Int) != 32) = true := bne_iff_ne.mpr c15
                        obtain rfl := Option.some.inj H
                        go_wp2_with (first | ((with_reducible refine gate_callee (f := 19) rfl ?_); refine goesL_ (some 32) rfl rfl Try.func19 (by kernel_rfl) rfl #[.string a0, .int .i64 x7_2] rfl (by (try simp only [List.map_toArray, List.map_cons, List.map_nil]); first | done | rfl | (simp only [List.length_drop, List.length_take]; rfl)) ?_; (with_reducible refine (piece_Slice.calls kj8 a0 x7_2 t168 _ A12.out).mono ?_); rintro e w' ⟨rfl, ⟨nd, rfl⟩⟩; refine ⟨_, rfl, ?_⟩))
                        go_ret
                        exact ⟨by first | rfl | (simp [errW_none, errW_some] <;> rfl) | (simp [*, errW_none, errW_some] <;> rfl), by repeat (first | (with_reducible first | exact HB.out | apply below_alloc | apply pw_below_drewN | apply below_drew1) | exact HB.out)⟩
                    · rw [if_neg c14] at H
                      have c14b0 : decide (x7_2 < (wrap64 (t167 - 1))) = false := decide_eq_false c14
                      clear c14
                      by_cases c17 : x5_2.size + t168.size ≤ 9223372036854775807
                      · rw [if_pos c17] at H
                        have c17b0 := eq_true c17
                        have c17b1 : decide (x5_2.size + t168.size ≤ 9223372036854775807) = true := decide_eq_true c17
                        try have c17b2 : (9223372036854775807 < x5_2.size + t168.size) = False := eq_false (Nat.not_lt.2 c17)
                        have H' := Aside0.mk H
                        clear H
                        go_wp2_with (first | ((with_reducible refine gate_callee (f := 19) rfl ?_); refine goesL_ (some 32) rfl rfl Try.func19 (by kernel_rfl) rfl #[.string a0, .int .i64 x7_2] rfl (by (try simp only [List.map_toArray, List.map_cons, List.map_nil]); first | done | rfl | (simp only [List.length_drop, List.length_take]; rfl)) ?_; (with_reducible refine (piece_Slice.calls kj8 a0 x7_2 t168 _ A12.out).mono ?_); rintro e w' ⟨rfl, ⟨nd, rfl⟩⟩; refine ⟨_, rfl, ?_⟩))
                        go_roundg kj8
                        case measure => have := HJ2.out; have := HK2.out; have := HJ8.out; omega
                        case rel => exact ⟨(x5_2 ++ t168), (wrap64 (x7_2 + 1)), (by first | rfl | (simp; done) | (simp [*]; done)), (by first | rfl | (simp; done) | (simp [*]; done)), H', ⟨by have := HJ2.out; have := HK2.out; have := HJ8.out; omega⟩, ⟨by repeat (first | (with_reducible first | exact HB.out | apply below_alloc | apply pw_below_drewN | apply below_drew1) | exact HB.out)⟩⟩
                      · rw [if_neg c17] at H
                        exact absurd H (by simp)
                · replace c11 := Bool.eq_false_iff.mpr c11
                  subst c11
                  have H1 : (if x5_2.toList = a0.toList then ((piece_Slice.f kj8 a0 t167).bind fun t169 => (if t169.toList = ([] : List UInt8) then ((piece_Unlike.f kj8 a0 a1).bind fun t170 => (if (((t170.length : Int) == 0) == (a0.toList == a1.toList)) = true then ((styluslaw05_lives.f kj8).bind fun t173 => (some t173)) else (some false))) else (some false))) else (some false)) = some r := by rw [if_neg (show ¬ (false = true) by decide)] at H; exact H
                  clear H
                  have H := H1
                  clear H1
                  by_cases c18 : x5_2.toList = a0.toList
                  · rw [if_pos c18] at H
                    have c18b0 : (x5_2.toList == a0.toList) = true := beq_iff_eq.mpr c18
                    have c18b1 : (x5_2.toList != a0.toList) = false := bne_eq_false_iff_eq.mpr c18
                    clear c18
                    replace H := Option.bind_eq_some_iff.mp H
                    obtain ⟨t169, A190, H⟩ := H
                    replace H : (if t169.toList = ([] : List UInt8) then ((piece_Unlike.f kj8 a0 a1).bind fun t170 => (if (((t170.length : Int) == 0) == (a0.toList == a1.toList)) = true then ((styluslaw05_lives.f kj8).bind fun t173 => (some t173)) else (some false))) else (some false)) = some r := H
                    have A19 := Aside0.mk A190
                    clear A190
                    by_cases c20 : t169.toList = ([] : List UInt8)
                    · rw [if_pos c20] at H
                      have c20b0 : (t169.toList == ([] : List UInt8)) = true := beq_iff_eq.mpr c20
                      have c20b1 : (t169.toList != ([] : List UInt8)) = false := bne_eq_false_iff_eq.mpr c20
                      clear c20
                      replace H := Option.bind_eq_some_iff.mp H
                      obtain ⟨t170, A210, H⟩ := H
                      replace H : (if (((t170.length : Int) == 0) == (a0.toList == a1.toList)) = true then ((styluslaw05_lives.f kj8).bind fun t173 => (some t173)) else (some false)) = some r := H
                      have A21 := Aside0.mk A210
                      clear A210
                      by_cases c22 : (((t170.length : Int) == 0) == (a0.toList == a1.toList)) = true
                      · rw [if_pos c22] at H
                        have c22b0 : (((t170.length : Int) == 0) == (a0.toList == a1.toList)) = true := c22
                        (try (have c22b1 : decide (((t170.length : Int) == 0) = (a0.toList == a1.toList)) = true := by simpa using c22))
                        (try (have c22b2 : (((t170.length : Int) == 0) == (a0.toList == a1.toList)) = true := by simpa using c22))
                        clear c22
                        replace H := Option.bind_eq_some_iff.mp H
                        obtain ⟨t173, A230, H⟩ := H
                        replace H : (some t173) = some r := H
                        have A23 := Aside0.mk A230
                        clear A230
                        obtain rfl := Option.some.inj H
                        go_wp2_with (first | (go_at_call 19; (with_reducible refine (piece_Slice.calls kj8 a0 t167 t169 _ A19.out).mono ?_); rintro e w' ⟨rfl, ⟨nd, rfl⟩⟩) | (go_at_call 17; (with_reducible refine (piece_Unlike.calls kj8 a0 a1 t170 _ A21.out).mono ?_); rintro e w24 ⟨v171, rfl, ho0, hb⟩; have n0_ := Aside0.mk (Kd.R_lower ho0 (below_size (by repeat (first | (with_reducible first | exact HB.out | apply below_alloc | apply pw_below_drewN | apply below_drew1) | exact HB.out)))); have n1_ := Aside0.mk (below_step (by repeat (first | (with_reducible first | exact HB.out | apply below_alloc | apply pw_below_drewN | apply below_drew1) | exact HB.out)) hb); clear HB; have HO172 := n0_; have HB := n1_; clear n0_ n1_; (try clear hb); (try clear hb2); (try clear hk); (try clear hi); (try clear ho0); obtain ⟨Ao25, co25, eo25⟩ := Kd.R_slice HO172.out; subst eo25) | (go_at_call 12; (with_reducible refine (styluslaw05_lives.calls kj8  t173 _ A23.out).mono ?_); rintro e w26 ⟨rfl, hb⟩; have n0_ := Aside0.mk (Kd.R_below (by (with_reducible repeat (first | apply Kd.R_alloc | apply Kd.R_drewN | apply Kd.R_drew)); exact HO172.out) hb); have n1_ := Aside0.mk (below_step (by repeat (first | (with_reducible first | exact HB.out | apply below_alloc | apply pw_below_drewN | apply below_drew1) | exact HB.out)) hb); clear HO172; clear HB; have HO172 := n0_; have HB := n1_; clear n0_ n1_; (try clear hb); (try clear hb2); (try clear hk); (try clear hi)))
                        go_ret
                        exact ⟨by first | rfl | (simp [errW_none, errW_some] <;> rfl) | (simp [*, errW_none, errW_some] <;> rfl), by repeat (first | (with_reducible first | exact HB.out | apply below_alloc | apply pw_below_drewN | apply below_drew1) | exact HB.out)⟩
                      · rw [if_neg c22] at H
                        have c22b0 : (((t170.length : Int) == 0) == (a0.toList == a1.toList)) = false := by simpa using c22
                        (try (have c22b1 : decide (((t170.length : Int) == 0) = (a0.toList == a1.toList)) = false := by simpa using c22))
                        (try (have c22b2 : (((t170.length : Int) == 0) == (a0.toList == a1.toList)) = false := by simpa using c22))
                        (try (have c22b3 : ¬ (((t170.length : Int) == 0) = (a0.toList == a1.toList)) := by simpa using c22))
                        clear c22
                        obtain rfl := Option.some.inj H
                        go_wp2_with (first | (go_at_call 19; (with_reducible refine (piece_Slice.calls kj8 a0 t167 t169 _ A19.out).mono ?_); rintro e w' ⟨rfl, ⟨nd, rfl⟩⟩) | (go_at_call 17; (with_reducible refine (piece_Unlike.calls kj8 a0 a1 t170 _ A21.out).mono ?_); rintro e w27 ⟨v171, rfl, ho0, hb⟩; have n0_ := Aside0.mk (Kd.R_lower ho0 (below_size (by repeat (first | (with_reducible first | exact HB.out | apply below_alloc | apply pw_below_drewN | apply below_drew1) | exact HB.out)))); have n1_ := Aside0.mk (below_step (by repeat (first | (with_reducible first | exact HB.out | apply below_alloc | apply pw_below_drewN | apply below_drew1) | exact HB.out)) hb); clear HB; have HO172 := n0_; have HB := n1_; clear n0_ n1_; (try clear hb); (try clear hb2); (try clear hk); (try clear hi); (try clear ho0); obtain ⟨Ao28, co28, eo28⟩ := Kd.R_slice HO172.out; subst eo28))
                        go_ret
                        exact ⟨by first | rfl | (simp [errW_none, errW_some] <;> rfl) | (simp [*, errW_none, errW_some] <;> rfl), by repeat (first | (with_reducible first | exact HB.out | apply below_alloc | apply pw_below_drewN | apply below_drew1) | exact HB.out)⟩
                    · rw [if_neg c20] at H
                      have c20b0 : (t169.toList == ([] : List UInt8)) = false := beq_eq_false_iff_ne.mpr c20
                      have c20b1 : (t169.toList != ([] : List UInt8)) = true := bne_iff_ne.mpr c20
                      obtain rfl := Option.some.inj H
                      go_wp2_with (first | (go_at_call 19; (with_reducible refine (piece_Slice.calls kj8 a0 t167 t169 _ A19.out).mono ?_); rintro e w' ⟨rfl, ⟨nd, rfl⟩⟩))
                      go_ret
                      exact ⟨by first | rfl | (simp [errW_none, errW_some] <;> rfl) | (simp [*, errW_none, errW_some] <;> rfl), by repeat (first | (with_reducible first | exact HB.out | apply below_alloc | apply pw_below_drewN | apply below_drew1) | exact HB.out)⟩
                  · rw [if_neg c18] at H
                    have c18b0 : (x5_2.toList == a0.toList) = false := beq_eq_false_iff_ne.mpr c18
                    have c18b1 : (x5_2.toList != a0.toList) = true := bne_iff_ne.mpr c18
                    obtain rfl := Option.some.inj H
                    go_wp2
                    go_ret
                    exact ⟨by first | rfl | (simp [errW_none, errW_some] <;> rfl) | (simp [*, errW_none, errW_some] <;> rfl), by repeat (first | (with_reducible first | exact HB.out | apply below_alloc | apply pw_below_drewN | apply below_drew1) | exact HB.out)⟩

/-- THE ONE PURE STATEMENT of styluslaw05_PieceWhole: yours. -/
def styluslaw05_PieceWhole.Pure : Prop := ∀ (a0 : ByteArray) (a1 : ByteArray), a0.size ≤ 140737488351232 → a1.size ≤ 140737488351232 → ∃ k, styluslaw05_PieceWhole.f k a0 a1 = some true
theorem styluslaw05_PieceWhole.walk (P : styluslaw05_PieceWhole.Pure) (a0 : ByteArray) (a1 : ByteArray) (w : World) (w0 : a0.size ≤ 140737488351232) (w1 : a1.size ≤ 140737488351232) :
    Calls Try.prog 5 #[.string a0, .string a1] w fun e w' => e = .returned (.bool true) ∧ Below w.heap.size w w' := by
  obtain ⟨k, h⟩ := P a0 a1 w0 w1
  refine (styluslaw05_PieceWhole.calls k a0 a1 true w h).mono ?_
  rintro e w' ⟨rfl, hd⟩
  exact ⟨rfl, hd⟩

end Go.Proofs.Ytobhffeopfbjlaa.QP
