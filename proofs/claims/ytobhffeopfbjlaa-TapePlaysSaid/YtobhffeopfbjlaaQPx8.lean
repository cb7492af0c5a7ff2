-- Written by a program of this session (wip/tools/bundle.sh), which turns the kit's print for functions given by hand. Lean checks it.
import Derived.Test.YtobhffeopfbjlaaQPx0
import Derived.Test.YtobhffeopfbjlaaQPx6
namespace Go.Proofs.Ytobhffeopfbjlaa.QP
open Go.RowKit Go.Proofs.YtobhffeopfbjlaaW.PrintWords Go.Proofs.YtobhffeopfbjlaaW.PrintLast Go.Proofs.YtobhffeopfbjlaaW.PrintMore
attribute [local go_sem] max2_int min2_int max_two min_two max_three min_three max_four min_four   -- for this text's walks alone
set_option linter.unusedVariables false
set_option linter.unusedSimpArgs false

/-! ### piece_Slice: function 19 -/
def piece_Slice.j0 : Nat → ByteArray → Int → Bool → Option (ByteArray)
  | 0, _, _, _ => none
  | k + 1, x0, x1, x13 => if x13 = true then (some (⟨#[]⟩ : ByteArray)) else (if 0 ≤ (wrap64 (x1 * 32)) then (if (wrap64 (x1 * 32)) ≤ (x0.size : Int) then (if ((x0.extract ((wrap64 (x1 * 32)) : Int).toNat x0.size).size : Int) > 32 then (if 0 ≤ 32 then (if 32 ≤ ((x0.extract ((wrap64 (x1 * 32)) : Int).toNat x0.size).size : Int) then (some ((x0.extract ((wrap64 (x1 * 32)) : Int).toNat x0.size).extract 0 32)) else (none)) else (none)) else (some (x0.extract ((wrap64 (x1 * 32)) : Int).toNat x0.size))) else (none)) else (none))
def piece_Slice.f (k : Nat) (a0 : ByteArray) (a1 : Int) : Option (ByteArray) := if a1 < 0 then (piece_Slice.j0 k a0 a1 true) else ((piece_Count.f (a0.size : Int)).bind fun t140 => (piece_Slice.j0 k a0 a1 (decide (a1 ≥ t140))))
theorem piece_Slice.mono_l : ∀ k, (∀ y0 y1 y2, LeO (piece_Slice.j0 k y0 y1 y2) (piece_Slice.j0 (k + 1) y0 y1 y2))
  | 0 => fun _ _ _ r h => by simp [piece_Slice.j0] at h
  | k + 1 => by
    have ih0 := piece_Slice.mono_l k
    · intro y0 y1 y2
      unfold piece_Slice.j0
      repeat' first
      | (with_reducible exact ih0 _ _ _)
      | (with_reducible exact LeO.refl _)
      | (with_reducible exact LeO.none _)
      | (with_reducible refine LeO.ite ?_ ?_)
      | (with_reducible refine LeO.bind ?_ (fun _ => ?_))
      | exact ih0 _ _ _
      | exact LeO.none _
      | refine LeO.ite ?_ ?_
      | refine LeO.bind ?_ (fun _ => ?_)
theorem piece_Slice.mono : ∀ a0 a1 k, LeO (piece_Slice.f k a0 a1) (piece_Slice.f (k + 1) a0 a1) := by
  intro a0 a1 k
  have ih0 := piece_Slice.mono_l k
  unfold piece_Slice.f
  repeat' first
      | (with_reducible exact ih0 _ _ _)
      | (with_reducible exact LeO.refl _)
      | (with_reducible exact LeO.none _)
      | (with_reducible refine LeO.ite ?_ ?_)
      | (with_reducible refine LeO.bind ?_ (fun _ => ?_))
      | exact ih0 _ _ _
      | exact LeO.none _
      | refine LeO.ite ?_ ?_
      | refine LeO.bind ?_ (fun _ => ?_)
set_option maxHeartbeats 8000000 in
set_option maxRecDepth 100000 in
theorem piece_Slice.calls (k : Nat) (a0 : ByteArray) (a1 : Int) (r : ByteArray) (w : World) (h : piece_Slice.f k a0 a1 = some r) :
    Calls Try.prog 19 #[.string a0, .int .i64 a1] w fun e w' => e = .returned (.string r) ∧ Drawn0 w w' := by
  have H : (if a1 < 0 then (piece_Slice.j0 k a0 a1 true) else ((piece_Count.f (a0.size : Int)).bind fun t140 => (piece_Slice.j0 k a0 a1 (decide (a1 ≥ t140))))) = some r := h
  clear h
  have HC3 := Aside0.mk H
  clear H
  go_enter Try.func19, Try.ntmps19
  go_upto_region 1 with (fail)
  go_cut [13] (fun v13 wc => ∃ (kq : Nat) (x13_2 : Bool), v13 = .bool x13_2 ∧ Aside0 (piece_Slice.j0 kq a0 a1 x13_2 = some r) ∧ Aside0 (kq ≤ k) ∧ Drawn0 w wc)
  case first =>
    have H := HC3.out
    clear HC3
    by_cases c4 : a1 < 0
    · rw [if_pos c4] at H
      have c4b0 : decide (a1 < 0) = true := decide_eq_true c4
      clear c4
      (first | rw [c4b0] | (simp only [i64_w, i32_w]; rw [c4b0]) | skip)
      have H' := Aside0.mk H
      clear H
      go_wp2
      go_meet
      case rel => exact ⟨_, (true), (by first | rfl | (simp; done) | (simp [*]; done)), H', ⟨by first | omega | exact Nat.le_refl _⟩, by repeat (first | exact Drawn0.refl _ | apply Drawn0.step)⟩
    · rw [if_neg c4] at H
      have c4b0 : decide (a1 < 0) = false := decide_eq_false c4
      clear c4
      (first | rw [c4b0] | (simp only [i64_w, i32_w]; rw [c4b0]) | skip)
      replace H := Option.bind_eq_some_iff.mp H
      obtain ⟨t140, A50, H⟩ := H
      replace H : (piece_Slice.j0 k a0 a1 (decide (a1 ≥ t140))) = some r := H
      have A5 := Aside0.mk A50
      clear A50
      have H' := Aside0.mk H
      clear H
      go_wp2_with (first | (go_at_call 15; (with_reducible refine (piece_Count.calls (a0.size : Int) t140 _ A5.out).mono ?_); rintro e w' ⟨rfl, ⟨nd, rfl⟩⟩))
      go_meet
      case rel => exact ⟨_, (decide (a1 ≥ t140)), (by first | rfl | (simp; done) | (simp [*]; done)), H', ⟨by first | omega | exact Nat.le_refl _⟩, by repeat (first | exact Drawn0.refl _ | apply Drawn0.step)⟩
  case rest =>
    clear HC3
    try clear c1
    try clear p2
    try clear c4
    try clear c4b0
    obtain ⟨kq, x13_2, rfl, HA, HJ2, ⟨mc2, rfl⟩⟩ := hcut
    cases kq with
    | zero => exact absurd HA.out (by simp [piece_Slice.j0])
    | succ kj2 =>
      have H := HA.out
      clear HA
      simp only [piece_Slice.j0] at H
      by_cases c6 : x13_2 = true
      · subst c6
        have H1 : (some (⟨#[]⟩ : ByteArray)) = some r := by rw [if_pos rfl] at H; exact H
        clear H
        have H := H1
        clear H1
        obtain rfl := Option.some.inj H
        go_wp2
        go_ret
        exact ⟨by first | rfl | (simp; done) | (simp [*]; done), by repeat (first | exact Drawn0.refl _ | apply Drawn0.step)⟩
      · replace c6 := Bool.eq_false_iff.mpr c6
        subst c6
        have H1 : (if 0 ≤ (wrap64 (a1 * 32)) then (if (wrap64 (a1 * 32)) ≤ (a0.size : Int) then (if ((a0.extract ((wrap64 (a1 * 32)) : Int).toNat a0.size).size : Int) > 32 then (if 0 ≤ 32 then (if 32 ≤ ((a0.extract ((wrap64 (a1 * 32)) : Int).toNat a0.size).size : Int) then (some ((a0.extract ((wrap64 (a1 * 32)) : Int).toNat a0.size).extract 0 32)) else (none)) else (none)) else (some (a0.extract ((wrap64 (a1 * 32)) : Int).toNat a0.size))) else (none)) else (none)) = some r := by rw [if_neg (show ¬ (false = true) by decide)] at H; exact H
        clear H
        have H := H1
        clear H1
        obtain ⟨ji7, hji7⟩ : ∃ j_ : Int, (wrap64 (a1 * 32)) = j_ := ⟨_, rfl⟩
        replace H : (if 0 ≤ (ji7) then (if (ji7) ≤ (a0.size : Int) then (if ((a0.extract ((ji7) : Int).toNat a0.size).size : Int) > 32 then (if 0 ≤ 32 then (if 32 ≤ ((a0.extract ((ji7) : Int).toNat a0.size).size : Int) then (some ((a0.extract ((ji7) : Int).toNat a0.size).extract 0 32)) else (none)) else (none)) else (some (a0.extract ((ji7) : Int).toNat a0.size))) else (none)) else (none)) = some r := by first | (rw [hji7] at H; exact H) | (simp only [hji7] at H ⊢; exact H)
        have hji7w : (IntKind.i64.wrap (a1 * 32)) = ji7 := (i64_w _).trans hji7
        by_cases c8 : 0 ≤ (ji7)
        · rw [if_pos c8] at H
          have c8b0 := eq_true c8
          have c8b1 : decide (0 ≤ (ji7)) = true := decide_eq_true c8
          clear c8
          by_cases c9 : (ji7) ≤ (a0.size : Int)
          · rw [if_pos c9] at H
            have c9b0 := eq_true c9
            have c9b1 : decide ((ji7) ≤ (a0.size : Int)) = true := decide_eq_true c9
            clear c9
            by_cases c10 : ((a0.extract ((ji7) : Int).toNat a0.size).size : Int) > 32
            · rw [if_pos c10] at H
              have c10b0 : decide (32 < ((a0.extract ((ji7) : Int).toNat a0.size).size : Int)) = true := decide_eq_true c10
              (try (have c10b7 := c10b0; simp only [ByteArray.size_extract, Nat.min_self] at c10b7))
              have c10b1 : decide (32 < (a0.extract ((ji7) : Int).toNat a0.size).size) = true := decide_eq_true (by omega)
              clear c10
              by_cases c11 : 0 ≤ 32
              · rw [if_pos c11] at H
                have c11b0 := eq_true c11
                have c11b1 : decide (0 ≤ 32) = true := decide_eq_true c11
                clear c11
                by_cases c12 : 32 ≤ ((a0.extract ((ji7) : Int).toNat a0.size).size : Int)
                · rw [if_pos c12] at H
                  have c12b0 := eq_true c12
                  have c12b1 : decide (32 ≤ ((a0.extract ((ji7) : Int).toNat a0.size).size : Int)) = true := decide_eq_true c12
                  clear c12
                  obtain rfl := Option.some.inj H
                  go_wp2
                  go_ret
                  exact ⟨by first | rfl | (simp; done) | (simp only [← hji7] <;> (first | rfl | simp)) | (simp [*]; done), by repeat (first | exact Drawn0.refl _ | apply Drawn0.step)⟩
                  all_goals (exfalso; have hz_ := of_decide_eq_true c12b1; simp only [ByteArray.size_extract, Nat.min_self] at hz_; omega)
                · rw [if_neg c12] at H
                  exact absurd H (by simp)
              · rw [if_neg c11] at H
                exact absurd H (by simp)
            · rw [if_neg c10] at H
              have c10b0 : decide (32 < ((a0.extract ((ji7) : Int).toNat a0.size).size : Int)) = false := decide_eq_false c10
              (try (have c10b7 := c10b0; simp only [ByteArray.size_extract, Nat.min_self] at c10b7))
              have c10b1 : decide (32 < (a0.extract ((ji7) : Int).toNat a0.size).size) = false := decide_eq_false (by omega)
              clear c10
              obtain rfl := Option.some.inj H
              go_wp2
              go_ret
              exact ⟨by first | rfl | (simp; done) | (simp only [← hji7] <;> (first | rfl | simp)) | (simp [*]; done), by repeat (first | exact Drawn0.refl _ | apply Drawn0.step)⟩
          · rw [if_neg c9] at H
            exact absurd H (by simp)
        · rw [if_neg c8] at H
          exact absurd H (by simp)

end Go.Proofs.Ytobhffeopfbjlaa.QP
