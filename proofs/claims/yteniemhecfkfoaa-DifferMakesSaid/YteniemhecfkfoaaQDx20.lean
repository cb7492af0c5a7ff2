-- Written by a program of this session (wip/tools/bundle.sh), which turns the kit's print for functions given by hand. Lean checks it.
import Derived.Test.YteniemhecfkfoaaQDx0
import Derived.Test.YteniemhecfkfoaaQDx5
import Derived.Test.YteniemhecfkfoaaQDx6
import Derived.Test.YteniemhecfkfoaaQDx18
import Derived.Test.YteniemhecfkfoaaQDx19
namespace Go.Proofs.Yteniemhecfkfoaa.QD
open Go.RowKit Go.Proofs.Yteniemhecfkfoaa.U Go.Proofs.YteniemhecfkfoaaW.PrintWords Go.Proofs.YteniemhecfkfoaaW.PrintLast Go.Proofs.YteniemhecfkfoaaW.PrintMore
attribute [local go_sem] max2_int min2_int max_two min_two max_three min_three max_four min_four   -- for this text's walks alone
set_option linter.unusedVariables false
set_option linter.unusedSimpArgs false

/-! ### styluslaw48_DifferMakes: function 10 -/
mutual
def styluslaw48_DifferMakes.j0 : Nat → ByteArray → ByteArray → Bool → Option (Bool)
  | 0, _, _, _ => none
  | k + 1, x0, x1, x32 => if x32 = true then ((styluslaw48_lives.f k).bind fun t220 => (some t220)) else ((differ_Between.f k x0 x1).bind fun t221 => (if (t221.length : Int) = 0 then (if x0.toList = x1.toList then ((styluslaw48_lives.f k).bind fun t224 => (some t224)) else (some false)) else (if 0 < (t221.length : Int) then ((stylusref21_Apply.f k x0 ((rd_T47 t221 0).f0) ((rd_T47 t221 0).f1) ((rd_T47 t221 0).f2)).bind fun bt226 => ((stylusref21_Inverse.f ((rd_T47 t221 0).f0) ((rd_T47 t221 0).f1) ((rd_T47 t221 0).f2)).bind fun bt229 => ((stylusref21_Apply.f k x1 bt229.1 bt229.2.1 bt229.2.2).bind fun bt232 => (if (t221.length : Int) = 1 then (if bt226.1.toList = x1.toList then (if bt226.2 = 0 then (if bt232.1.toList = x0.toList then (if bt232.2 = 0 then (styluslaw48_DifferMakes.j1 k (((rd_T47 t221 0).f1).toList == ((rd_T47 t221 0).f2).toList) ((rd_T47 t221 0).f0) ((rd_T47 t221 0).f1) ((rd_T47 t221 0).f2)) else (styluslaw48_DifferMakes.j1 k true ((rd_T47 t221 0).f0) ((rd_T47 t221 0).f1) ((rd_T47 t221 0).f2))) else (styluslaw48_DifferMakes.j1 k true ((rd_T47 t221 0).f0) ((rd_T47 t221 0).f1) ((rd_T47 t221 0).f2))) else (styluslaw48_DifferMakes.j1 k true ((rd_T47 t221 0).f0) ((rd_T47 t221 0).f1) ((rd_T47 t221 0).f2))) else (styluslaw48_DifferMakes.j1 k true ((rd_T47 t221 0).f0) ((rd_T47 t221 0).f1) ((rd_T47 t221 0).f2))) else (styluslaw48_DifferMakes.j1 k true ((rd_T47 t221 0).f0) ((rd_T47 t221 0).f1) ((rd_T47 t221 0).f2)))))) else (none))))
def styluslaw48_DifferMakes.j1 : Nat → Bool → Int → ByteArray → ByteArray → Option (Bool)
  | 0, _, _, _, _ => none
  | k + 1, x93, x236000, x236001, x236002 => if x93 = true then (some false) else ((stylusref01_Take.f x236001 0).bind fun bt236 => ((stylusref01_Take.f x236002 0).bind fun bt238 => (if bt236.2 = 0 then ((styluslaw48_lives.f k).bind fun t240 => (some t240)) else (if bt238.2 = 0 then ((styluslaw48_lives.f k).bind fun t241 => (some t241)) else (if bt236.1 = bt238.1 then (some false) else ((styluslaw48_lives.f k).bind fun t242 => (some t242)))))))
end
def styluslaw48_DifferMakes.f (k : Nat) (a0 : ByteArray) (a1 : ByteArray) : Option (Bool) := if (a0.size : Int) > 600 then (styluslaw48_DifferMakes.j0 k a0 a1 true) else (if (a1.size : Int) > 600 then (styluslaw48_DifferMakes.j0 k a0 a1 true) else ((stylusref01_Valid.f a0).bind fun t218 => (if t218 = true then ((stylusref01_Valid.f a1).bind fun t219 => (styluslaw48_DifferMakes.j0 k a0 a1 (!t219))) else (styluslaw48_DifferMakes.j0 k a0 a1 true))))
theorem styluslaw48_DifferMakes.mono_l : ∀ k, (∀ y0 y1 y2, LeO (styluslaw48_DifferMakes.j0 k y0 y1 y2) (styluslaw48_DifferMakes.j0 (k + 1) y0 y1 y2)) ∧ (∀ y0 y1 y2 y3, LeO (styluslaw48_DifferMakes.j1 k y0 y1 y2 y3) (styluslaw48_DifferMakes.j1 (k + 1) y0 y1 y2 y3))
  | 0 => ⟨fun _ _ _ r h => by simp [styluslaw48_DifferMakes.j0] at h, fun _ _ _ _ r h => by simp [styluslaw48_DifferMakes.j1] at h⟩
  | k + 1 => by
    obtain ⟨ih0, ih1⟩ := styluslaw48_DifferMakes.mono_l k
    refine ⟨?_, ?_⟩
    · intro y0 y1 y2
      unfold styluslaw48_DifferMakes.j0
      repeat' first
      | (with_reducible exact ih0 _ _ _)
      | (with_reducible exact ih1 _ _ _ _)
      | (with_reducible exact differ_Between.mono _ _ _)
      | (with_reducible exact styluslaw48_lives.mono _)
      | (with_reducible exact stylusref21_Apply.mono _ _ _ _ _)
      | (with_reducible exact LeO.refl _)
      | (with_reducible exact LeO.none _)
      | (with_reducible refine LeO.ite ?_ ?_)
      | (with_reducible refine LeO.bind ?_ (fun _ => ?_))
      | exact ih0 _ _ _
      | exact ih1 _ _ _ _
      | exact differ_Between.mono _ _ _
      | exact styluslaw48_lives.mono _
      | exact stylusref21_Apply.mono _ _ _ _ _
      | exact LeO.none _
      | refine LeO.ite ?_ ?_
      | refine LeO.bind ?_ (fun _ => ?_)
    · intro y0 y1 y2 y3
      unfold styluslaw48_DifferMakes.j1
      repeat' first
      | (with_reducible exact ih0 _ _ _)
      | (with_reducible exact ih1 _ _ _ _)
      | (with_reducible exact differ_Between.mono _ _ _)
      | (with_reducible exact styluslaw48_lives.mono _)
      | (with_reducible exact stylusref21_Apply.mono _ _ _ _ _)
      | (with_reducible exact LeO.refl _)
      | (with_reducible exact LeO.none _)
      | (with_reducible refine LeO.ite ?_ ?_)
      | (with_reducible refine LeO.bind ?_ (fun _ => ?_))
      | exact ih0 _ _ _
      | exact ih1 _ _ _ _
      | exact differ_Between.mono _ _ _
      | exact styluslaw48_lives.mono _
      | exact stylusref21_Apply.mono _ _ _ _ _
      | exact LeO.none _
      | refine LeO.ite ?_ ?_
      | refine LeO.bind ?_ (fun _ => ?_)
theorem styluslaw48_DifferMakes.mono : ∀ a0 a1 k, LeO (styluslaw48_DifferMakes.f k a0 a1) (styluslaw48_DifferMakes.f (k + 1) a0 a1) := by
  intro a0 a1 k
  obtain ⟨ih0, ih1⟩ := styluslaw48_DifferMakes.mono_l k
  unfold styluslaw48_DifferMakes.f
  repeat' first
      | (with_reducible exact ih0 _ _ _)
      | (with_reducible exact ih1 _ _ _ _)
      | (with_reducible exact differ_Between.mono _ _ _)
      | (with_reducible exact styluslaw48_lives.mono _)
      | (with_reducible exact stylusref21_Apply.mono _ _ _ _ _)
      | (with_reducible exact LeO.refl _)
      | (with_reducible exact LeO.none _)
      | (with_reducible refine LeO.ite ?_ ?_)
      | (with_reducible refine LeO.bind ?_ (fun _ => ?_))
      | exact ih0 _ _ _
      | exact ih1 _ _ _ _
      | exact differ_Between.mono _ _ _
      | exact styluslaw48_lives.mono _
      | exact stylusref21_Apply.mono _ _ _ _ _
      | exact LeO.none _
      | refine LeO.ite ?_ ?_
      | refine LeO.bind ?_ (fun _ => ?_)
set_option maxHeartbeats 8000000 in
set_option maxRecDepth 100000 in
theorem styluslaw48_DifferMakes.calls (k : Nat) (a0 : ByteArray) (a1 : ByteArray) (r : Bool) (w : World) (h : styluslaw48_DifferMakes.f k a0 a1 = some r) :
    Calls Try.prog 10 #[.string a0, .string a1] w fun e w' => e = .returned (.bool r) ∧ Below w.heap.size w w' := by
  have hu47 := Try.underlying47
  have HB := Aside0.mk (Below.refl w.heap.size w)
  have H : (if (a0.size : Int) > 600 then (styluslaw48_DifferMakes.j0 k a0 a1 true) else (if (a1.size : Int) > 600 then (styluslaw48_DifferMakes.j0 k a0 a1 true) else ((stylusref01_Valid.f a0).bind fun t218 => (if t218 = true then ((stylusref01_Valid.f a1).bind fun t219 => (styluslaw48_DifferMakes.j0 k a0 a1 (!t219))) else (styluslaw48_DifferMakes.j0 k a0 a1 true))))) = some r := h
  clear h
  have HC3 := Aside0.mk H
  clear H
  go_enter Try.func10, Try.ntmps10
  go_upto_region 1 with (fail)
  go_cut [32] (fun v32 wc => ∃ (kq : Nat) (x32_2 : Bool), v32 = .bool x32_2 ∧ Aside0 (styluslaw48_DifferMakes.j0 kq a0 a1 x32_2 = some r) ∧ Aside0 (kq ≤ k) ∧ Aside0 (Below w.heap.size w wc))
  case first =>
    have H := HC3.out
    clear HC3
    by_cases c4 : (a0.size : Int) > 600
    · rw [if_pos c4] at H
      have c4b0 : decide (600 < (a0.size : Int)) = true := decide_eq_true c4
      have c4b1 : decide (600 < a0.size) = true := decide_eq_true (by omega)
      clear c4
      (first | rw [c4b0] | (simp only [i64_w, i32_w]; rw [c4b0]) | skip)
      have H' := Aside0.mk H
      clear H
      go_wp2
      go_meet
      case rel => exact ⟨_, (true), (by first | rfl | (simp; done) | (simp [*]; done)), H', ⟨by first | omega | exact Nat.le_refl _⟩, ⟨by repeat (first | (with_reducible first | exact HB.out | apply below_alloc | apply pw_below_drewN | apply below_drew1) | exact HB.out)⟩⟩
    · rw [if_neg c4] at H
      have c4b0 : decide (600 < (a0.size : Int)) = false := decide_eq_false c4
      have c4b1 : decide (600 < a0.size) = false := decide_eq_false (by omega)
      clear c4
      (first | rw [c4b0] | (simp only [i64_w, i32_w]; rw [c4b0]) | skip)
      by_cases c5 : (a1.size : Int) > 600
      · rw [if_pos c5] at H
        have c5b0 : decide (600 < (a1.size : Int)) = true := decide_eq_true c5
        have c5b1 : decide (600 < a1.size) = true := decide_eq_true (by omega)
        clear c5
        have H' := Aside0.mk H
        clear H
        go_wp2
        go_meet
        case rel => exact ⟨_, (true), (by first | rfl | (simp; done) | (simp [*]; done)), H', ⟨by first | omega | exact Nat.le_refl _⟩, ⟨by repeat (first | (with_reducible first | exact HB.out | apply below_alloc | apply pw_below_drewN | apply below_drew1) | exact HB.out)⟩⟩
      · rw [if_neg c5] at H
        have c5b0 : decide (600 < (a1.size : Int)) = false := decide_eq_false c5
        have c5b1 : decide (600 < a1.size) = false := decide_eq_false (by omega)
        clear c5
        replace H := Option.bind_eq_some_iff.mp H
        obtain ⟨t218, A60, H⟩ := H
        replace H : (if t218 = true then ((stylusref01_Valid.f a1).bind fun t219 => (styluslaw48_DifferMakes.j0 k a0 a1 (!t219))) else (styluslaw48_DifferMakes.j0 k a0 a1 true)) = some r := H
        have A6 := Aside0.mk A60
        clear A60
        by_cases c7 : t218 = true
        · subst c7
          have H1 : ((stylusref01_Valid.f a1).bind fun t219 => (styluslaw48_DifferMakes.j0 k a0 a1 (!t219))) = some r := by rw [if_pos rfl] at H; exact H
          clear H
          have H := H1
          clear H1
          replace H := Option.bind_eq_some_iff.mp H
          obtain ⟨t219, A80, H⟩ := H
          replace H : (styluslaw48_DifferMakes.j0 k a0 a1 (!t219)) = some r := H
          have A8 := Aside0.mk A80
          clear A80
          have H' := Aside0.mk H
          clear H
          go_wp2_with (first | (go_at_call 35; (with_reducible refine (stylusref01_Valid.calls a0 true _ A6.out).mono ?_); rintro e w9 ⟨rfl, hb⟩; have n0_ := Aside0.mk (below_step (by repeat (first | (with_reducible first | exact HB.out | apply below_alloc | apply pw_below_drewN | apply below_drew1) | exact HB.out)) hb); clear HB; have HB := n0_; clear n0_; (try clear hb); (try clear hb2); (try clear hk); (try clear hi)) | (go_at_call 35; (with_reducible refine (stylusref01_Valid.calls a1 t219 _ A8.out).mono ?_); rintro e w10 ⟨rfl, hb⟩; have n0_ := Aside0.mk (below_step (by repeat (first | (with_reducible first | exact HB.out | apply below_alloc | apply pw_below_drewN | apply below_drew1) | exact HB.out)) hb); clear HB; have HB := n0_; clear n0_; (try clear hb); (try clear hb2); (try clear hk); (try clear hi)))
          go_meet
          case rel => exact ⟨_, (!t219), (by first | rfl | (simp; done) | (simp [*]; done)), H', ⟨by first | omega | exact Nat.le_refl _⟩, ⟨by repeat (first | (with_reducible first | exact HB.out | apply below_alloc | apply pw_below_drewN | apply below_drew1) | exact HB.out)⟩⟩
        · replace c7 := Bool.eq_false_iff.mpr c7
          subst c7
          have H1 : (styluslaw48_DifferMakes.j0 k a0 a1 true) = some r := by rw [if_neg (show ¬ (false = true) by decide)] at H; exact H
          clear H
          have H := H1
          clear H1
          have H' := Aside0.mk H
          clear H
          go_wp2_with (first | (go_at_call 35; (with_reducible refine (stylusref01_Valid.calls a0 false _ A6.out).mono ?_); rintro e w11 ⟨rfl, hb⟩; have n0_ := Aside0.mk (below_step (by repeat (first | (with_reducible first | exact HB.out | apply below_alloc | apply pw_below_drewN | apply below_drew1) | exact HB.out)) hb); clear HB; have HB := n0_; clear n0_; (try clear hb); (try clear hb2); (try clear hk); (try clear hi)))
          go_meet
          case rel => exact ⟨_, (true), (by first | rfl | (simp; done) | (simp [*]; done)), H', ⟨by first | omega | exact Nat.le_refl _⟩, ⟨by repeat (first | (with_reducible first | exact HB.out | apply below_alloc | apply pw_below_drewN | apply below_drew1) | exact HB.out)⟩⟩
  case rest =>
    clear HC3
    try clear c1
    try clear p2
    try clear c4
    try clear c4b0
    try clear c4b1
    try clear c5
    try clear c5b0
    try clear c5b1
    try clear c7
    try clear c10
    obtain ⟨kq, x32_2, rfl, HA, HJ2, HB⟩ := hcut
    cases kq with
    | zero => exact absurd HA.out (by simp [styluslaw48_DifferMakes.j0])
    | succ kj2 =>
      have H := HA.out
      clear HA
      simp only [styluslaw48_DifferMakes.j0] at H
      by_cases c12 : x32_2 = true
      · subst c12
        have H1 : ((styluslaw48_lives.f kj2).bind fun t220 => (some t220)) = some r := by rw [if_pos rfl] at H; exact H
        clear H
        have H := H1
        clear H1
        replace H := Option.bind_eq_some_iff.mp H
        obtain ⟨t220, A130, H⟩ := H
        replace H : (some t220) = some r := H
        have A13 := Aside0.mk A130
        clear A130
        obtain rfl := Option.some.inj H
        go_wp2_with (first | ((with_reducible refine gate_callee (f := 36) rfl ?_); refine goesL_ (some 33) rfl rfl Try.func36 (by kernel_rfl) rfl #[] rfl (by (try simp only [List.map_toArray, List.map_cons, List.map_nil]); first | done | rfl | (simp only [List.length_drop, List.length_take]; rfl)) ?_; (with_reducible refine (styluslaw48_lives.calls kj2  t220 _ A13.out).mono ?_); rintro e w14 ⟨rfl, hb⟩; refine ⟨_, rfl, ?_⟩; have n0_ := Aside0.mk (below_step (by repeat (first | (with_reducible first | exact HB.out | apply below_alloc | apply pw_below_drewN | apply below_drew1) | exact HB.out)) hb); clear HB; have HB := n0_; clear n0_; (try clear hb); (try clear hb2); (try clear hk); (try clear hi)))
        go_ret
        exact ⟨by first | rfl | (simp [errW_none, errW_some] <;> rfl) | (simp [*, errW_none, errW_some] <;> rfl), by repeat (first | (with_reducible first | exact HB.out | apply below_alloc | apply pw_below_drewN | apply below_drew1) | exact HB.out)⟩
      · replace c12 := Bool.eq_false_iff.mpr c12
        subst c12
        have H1 : ((differ_Between.f kj2 a0 a1).bind fun t221 => (if (t221.length : Int) = 0 then (if a0.toList = a1.toList then ((styluslaw48_lives.f kj2).bind fun t224 => (some t224)) else (some false)) else (if 0 < (t221.length : Int) then ((stylusref21_Apply.f kj2 a0 ((rd_T47 t221 0).f0) ((rd_T47 t221 0).f1) ((rd_T47 t221 0).f2)).bind fun bt226 => ((stylusref21_Inverse.f ((rd_T47 t221 0).f0) ((rd_T47 t221 0).f1) ((rd_T47 t221 0).f2)).bind fun bt229 => ((stylusref21_Apply.f kj2 a1 bt229.1 bt229.2.1 bt229.2.2).bind fun bt232 => (if (t221.length : Int) = 1 then (if bt226.1.toList = a1.toList then (if bt226.2 = 0 then (if bt232.1.toList = a0.toList then (if bt232.2 = 0 then (styluslaw48_DifferMakes.j1 kj2 (((rd_T47 t221 0).f1).toList == ((rd_T47 t221 0).f2).toList) ((rd_T47 t221 0).f0) ((rd_T47 t221 0).f1) ((rd_T47 t221 0).f2)) else (styluslaw48_DifferMakes.j1 kj2 true ((rd_T47 t221 0).f0) ((rd_T47 t221 0).f1) ((rd_T47 t221 0).f2))) else (styluslaw48_DifferMakes.j1 kj2 true ((rd_T47 t221 0).f0) ((rd_T47 t221 0).f1) ((rd_T47 t221 0).f2))) else (styluslaw48_DifferMakes.j1 kj2 true ((rd_T47 t221 0).f0) ((rd_T47 t221 0).f1) ((rd_T47 t221 0).f2))) else (styluslaw48_DifferMakes.j1 kj2 true ((rd_T47 t221 0).f0) ((rd_T47 t221 0).f1) ((rd_T47 t221 0).f2))) else (styluslaw48_DifferMakes.j1 kj2 true ((rd_T47 t221 0).f0) ((rd_T47 t221 0).f1) ((rd_T47 t221 0).f2)))))) else (none)))) = some r := by rw [if_neg (show ¬ (false = true) by decide)] at H; exact H
        clear H
        have H := H1
        clear H1
        replace H := Option.bind_eq_some_iff.mp H
        obtain ⟨t221, A150, H⟩ := H
        replace H : (if (t221.length : Int) = 0 then (if a0.toList = a1.toList then ((styluslaw48_lives.f kj2).bind fun t224 => (some t224)) else (some false)) else (if 0 < (t221.length : Int) then ((stylusref21_Apply.f kj2 a0 ((rd_T47 t221 0).f0) ((rd_T47 t221 0).f1) ((rd_T47 t221 0).f2)).bind fun bt226 => ((stylusref21_Inverse.f ((rd_T47 t221 0).f0) ((rd_T47 t221 0).f1) ((rd_T47 t221 0).f2)).bind fun bt229 => ((stylusref21_Apply.f kj2 a1 bt229.1 bt229.2.1 bt229.2.2).bind fun bt232 => (if (t221.length : Int) = 1 then (if bt226.1.toList = a1.toList then (if bt226.2 = 0 then (if bt232.1.toList = a0.toList then (if bt232.2 = 0 then (styluslaw48_DifferMakes.j1 kj2 (((rd_T47 t221 0).f1).toList == ((rd_T47 t221 0).f2).toList) ((rd_T47 t221 0).f0) ((rd_T47 t221 0).f1) ((rd_T47 t221 0).f2)) else (styluslaw48_DifferMakes.j1 kj2 true ((rd_T47 t221 0).f0) ((rd_T47 t221 0).f1) ((rd_T47 t221 0).f2))) else (styluslaw48_DifferMakes.j1 kj2 true ((rd_T47 t221 0).f0) ((rd_T47 t221 0).f1) ((rd_T47 t221 0).f2))) else (styluslaw48_DifferMakes.j1 kj2 true ((rd_T47 t221 0).f0) ((rd_T47 t221 0).f1) ((rd_T47 t221 0).f2))) else (styluslaw48_DifferMakes.j1 kj2 true ((rd_T47 t221 0).f0) ((rd_T47 t221 0).f1) ((rd_T47 t221 0).f2))) else (styluslaw48_DifferMakes.j1 kj2 true ((rd_T47 t221 0).f0) ((rd_T47 t221 0).f1) ((rd_T47 t221 0).f2)))))) else (none))) = some r := H
        have A15 := Aside0.mk A150
        clear A150
        by_cases c16 : (t221.length : Int) = 0
        · rw [if_pos c16] at H
          have c16b0 : ((t221.length : Int) == 0) = true := beq_iff_eq.mpr c16
          have c16b1 : ((t221.length : Int) != 0) = false := bne_eq_false_iff_eq.mpr c16
          clear c16
          by_cases c17 : a0.toList = a1.toList
          · rw [if_pos c17] at H
            have c17b0 : (a0.toList == a1.toList) = true := beq_iff_eq.mpr c17
            have c17b1 : (a0.toList != a1.toList) = false := bne_eq_false_iff_eq.mpr c17
            clear c17
            replace H := Option.bind_eq_some_iff.mp H
            obtain ⟨t224, A180, H⟩ := H
            replace H : (some t224) = some r := H
            have A18 := Aside0.mk A180
            clear A180
            obtain rfl := Option.some.inj H
            go_wp2_with (first | ((with_reducible refine gate_callee (f := 37) rfl ?_); refine goesL_ (some 36) rfl rfl Try.func37 (by kernel_rfl) rfl #[.string a0, .string a1] rfl (by (try simp only [List.map_toArray, List.map_cons, List.map_nil]); first | done | rfl | (simp only [List.length_drop, List.length_take]; rfl)) ?_; (with_reducible refine (differ_Between.calls kj2 a0 a1 t221 _ A15.out).mono ?_); rintro e w19 ⟨v222, rfl, ho0, hb⟩; refine ⟨_, rfl, ?_⟩; have n0_ := Aside0.mk (Kd.R_lower ho0 (below_size (by repeat (first | (with_reducible first | exact HB.out | apply below_alloc | apply pw_below_drewN | apply below_drew1) | exact HB.out)))); have n1_ := Aside0.mk (below_step (by repeat (first | (with_reducible first | exact HB.out | apply below_alloc | apply pw_below_drewN | apply below_drew1) | exact HB.out)) hb); clear HB; have HO223 := n0_; have HB := n1_; clear n0_ n1_; (try clear hb); (try clear hb2); (try clear hk); (try clear hi); (try clear ho0); obtain ⟨Ao20, co20, eo20⟩ := Kd.R_slice HO223.out; subst eo20) | (go_at_call 36; (with_reducible refine (styluslaw48_lives.calls kj2  t224 _ A18.out).mono ?_); rintro e w21 ⟨rfl, hb⟩; have n0_ := Aside0.mk (Kd.R_below (by (with_reducible repeat (first | apply Kd.R_alloc | apply Kd.R_drewN | apply Kd.R_drew)); exact HO223.out) hb); have n1_ := Aside0.mk (below_step (by repeat (first | (with_reducible first | exact HB.out | apply below_alloc | apply pw_below_drewN | apply below_drew1) | exact HB.out)) hb); clear HO223; clear HB; have HO223 := n0_; have HB := n1_; clear n0_ n1_; (try clear hb); (try clear hb2); (try clear hk); (try clear hi)))
            go_ret
            exact ⟨by first | rfl | (simp [errW_none, errW_some] <;> rfl) | (simp [*, errW_none, errW_some] <;> rfl), by repeat (first | (with_reducible first | exact HB.out | apply below_alloc | apply pw_below_drewN | apply below_drew1) | exact HB.out)⟩
          · rw [if_neg c17] at H
            have c17b0 : (a0.toList == a1.toList) = false := beq_eq_false_iff_ne.mpr c17
            have c17b1 : (a0.toList != a1.toList) = true := bne_iff_ne.mpr c17
            obtain rfl := Option.some.inj H
            go_wp2_with (first | ((with_reducible refine gate_callee (f := 37) rfl ?_); refine goesL_ (some 36) rfl rfl Try.func37 (by kernel_rfl) rfl #[.string a0, .string a1] rfl (by (try simp only [List.map_toArray, List.map_cons, List.map_nil]); first | done | rfl | (simp only [List.length_drop, List.length_take]; rfl)) ?_; (with_reducible refine (differ_Between.calls kj2 a0 a1 t221 _ A15.out).mono ?_); rintro e w22 ⟨v222, rfl, ho0, hb⟩; refine ⟨_, rfl, ?_⟩; have n0_ := Aside0.mk (Kd.R_lower ho0 (below_size (by repeat (first | (with_reducible first | exact HB.out | apply below_alloc | apply pw_below_drewN | apply below_drew1) | exact HB.out)))); have n1_ := Aside0.mk (below_step (by repeat (first | (with_reducible first | exact HB.out | apply below_alloc | apply pw_below_drewN | apply below_drew1) | exact HB.out)) hb); clear HB; have HO223 := n0_; have HB := n1_; clear n0_ n1_; (try clear hb); (try clear hb2); (try clear hk); (try clear hi); (try clear ho0); obtain ⟨Ao23, co23, eo23⟩ := Kd.R_slice HO223.out; subst eo23))
            go_ret
            exact ⟨by first | rfl | (simp [errW_none, errW_some] <;> rfl) | (simp [*, errW_none, errW_some] <;> rfl), by repeat (first | (with_reducible first | exact HB.out | apply below_alloc | apply pw_below_drewN | apply below_drew1) | exact HB.out)⟩
        · rw [if_neg c16] at H
          have c16b0 : ((t221.length : Int) == 0) = false := beq_eq_false_iff_ne.mpr c16
          have c16b1 : ((t221.length : Int) != 0) = true := bne_iff_ne.mpr c16
          have c16b2 : ¬ (t221 = []) := fun h_ => c16 (by rw [h_]; rfl)
          by_cases c24 : 0 < (t221.length : Int)
          · rw [if_pos c24] at H
            have c24b0 : decide (0 < (t221.length : Int)) = true := decide_eq_true c24
            have c24b1 : decide (0 < t221.length) = true := decide_eq_true (by omega)
            clear c24
            replace H := Option.bind_eq_some_iff.mp H
            obtain ⟨⟨t226, t227⟩, A250, H⟩ := H
            replace H : ((stylusref21_Inverse.f ((rd_T47 t221 0).f0) ((rd_T47 t221 0).f1) ((rd_T47 t221 0).f2)).bind fun bt229 => ((stylusref21_Apply.f kj2 a1 bt229.1 bt229.2.1 bt229.2.2).bind fun bt232 => (if (t221.length : Int) = 1 then (if t226.toList = a1.toList then (if t227 = 0 then (if bt232.1.toList = a0.toList then (if bt232.2 = 0 then (styluslaw48_DifferMakes.j1 kj2 (((rd_T47 t221 0).f1).toList == ((rd_T47 t221 0).f2).toList) ((rd_T47 t221 0).f0) ((rd_T47 t221 0).f1) ((rd_T47 t221 0).f2)) else (styluslaw48_DifferMakes.j1 kj2 true ((rd_T47 t221 0).f0) ((rd_T47 t221 0).f1) ((rd_T47 t221 0).f2))) else (styluslaw48_DifferMakes.j1 kj2 true ((rd_T47 t221 0).f0) ((rd_T47 t221 0).f1) ((rd_T47 t221 0).f2))) else (styluslaw48_DifferMakes.j1 kj2 true ((rd_T47 t221 0).f0) ((rd_T47 t221 0).f1) ((rd_T47 t221 0).f2))) else (styluslaw48_DifferMakes.j1 kj2 true ((rd_T47 t221 0).f0) ((rd_T47 t221 0).f1) ((rd_T47 t221 0).f2))) else (styluslaw48_DifferMakes.j1 kj2 true ((rd_T47 t221 0).f0) ((rd_T47 t221 0).f1) ((rd_T47 t221 0).f2))))) = some r := H
            have A25 := Aside0.mk A250
            clear A250
            replace H := Option.bind_eq_some_iff.mp H
            obtain ⟨⟨t229, t230, t231⟩, A260, H⟩ := H
            replace H : ((stylusref21_Apply.f kj2 a1 t229 t230 t231).bind fun bt232 => (if (t221.length : Int) = 1 then (if t226.toList = a1.toList then (if t227 = 0 then (if bt232.1.toList = a0.toList then (if bt232.2 = 0 then (styluslaw48_DifferMakes.j1 kj2 (((rd_T47 t221 0).f1).toList == ((rd_T47 t221 0).f2).toList) ((rd_T47 t221 0).f0) ((rd_T47 t221 0).f1) ((rd_T47 t221 0).f2)) else (styluslaw48_DifferMakes.j1 kj2 true ((rd_T47 t221 0).f0) ((rd_T47 t221 0).f1) ((rd_T47 t221 0).f2))) else (styluslaw48_DifferMakes.j1 kj2 true ((rd_T47 t221 0).f0) ((rd_T47 t221 0).f1) ((rd_T47 t221 0).f2))) else (styluslaw48_DifferMakes.j1 kj2 true ((rd_T47 t221 0).f0) ((rd_T47 t221 0).f1) ((rd_T47 t221 0).f2))) else (styluslaw48_DifferMakes.j1 kj2 true ((rd_T47 t221 0).f0) ((rd_T47 t221 0).f1) ((rd_T47 t221 0).f2))) else (styluslaw48_DifferMakes.j1 kj2 true ((rd_T47 t221 0).f0) ((rd_T47 t221 0).f1) ((rd_T47 t221 0).f2)))) = some r := H
            have A26 := Aside0.mk A260
            clear A260
            replace H := Option.bind_eq_some_iff.mp H
            obtain ⟨⟨t232, t233⟩, A270, H⟩ := H
            replace H : (if (t221.length : Int) = 1 then (if t226.toList = a1.toList then (if t227 = 0 then (if t232.toList = a0.toList then (if t233 = 0 then (styluslaw48_DifferMakes.j1 kj2 (((rd_T47 t221 0).f1).toList == ((rd_T47 t221 0).f2).toList) ((rd_T47 t221 0).f0) ((rd_T47 t221 0).f1) ((rd_T47 t221 0).f2)) else (styluslaw48_DifferMakes.j1 kj2 true ((rd_T47 t221 0).f0) ((rd_T47 t221 0).f1) ((rd_T47 t221 0).f2))) else (styluslaw48_DifferMakes.j1 kj2 true ((rd_T47 t221 0).f0) ((rd_T47 t221 0).f1) ((rd_T47 t221 0).f2))) else (styluslaw48_DifferMakes.j1 kj2 true ((rd_T47 t221 0).f0) ((rd_T47 t221 0).f1) ((rd_T47 t221 0).f2))) else (styluslaw48_DifferMakes.j1 kj2 true ((rd_T47 t221 0).f0) ((rd_T47 t221 0).f1) ((rd_T47 t221 0).f2))) else (styluslaw48_DifferMakes.j1 kj2 true ((rd_T47 t221 0).f0) ((rd_T47 t221 0).f1) ((rd_T47 t221 0).f2))) = some r := H
            have A27 := Aside0.mk A270
            clear A270
            have HC28 := Aside0.mk H
            clear H
            go_upto_region 9 with (first | ((with_reducible refine gate_callee (f := 37) rfl ?_); refine goesL_ (some 36) rfl rfl Try.func37 (by kernel_rfl) rfl #[.string a0, .string a1] rfl (by (try simp only [List.map_toArray, List.map_cons, List.map_nil]); first | done | rfl | (simp only [List.length_drop, List.length_take]; rfl)) ?_; (with_reducible refine (differ_Between.calls kj2 a0 a1 t221 _ A15.out).mono ?_); rintro e w29 ⟨v222, rfl, ho0, hb⟩; refine ⟨_, rfl, ?_⟩; have n0_ := Aside0.mk (Kd.R_lower ho0 (below_size (by repeat (first | (with_reducible first | exact HB.out | apply below_alloc | apply pw_below_drewN | apply below_drew1) | exact HB.out)))); have n1_ := Aside0.mk (below_step (by repeat (first | (with_reducible first | exact HB.out | apply below_alloc | apply pw_below_drewN | apply below_drew1) | exact HB.out)) hb); clear HB; have HO223 := n0_; have HB := n1_; clear n0_ n1_; (try clear hb); (try clear hb2); (try clear hk); (try clear hi); (try clear ho0); obtain ⟨Ao30, co30, eo30⟩ := Kd.R_slice HO223.out; subst eo30; have p225 : 0 ≤ (0 : Int) := (by omega); have q225 : 0 < (t221.length : Int) := of_decide_eq_true (by first | (with_reducible assumption) | assumption); obtain ⟨ad225, e225, hx225_0, hx225_1, hx225_2⟩ := at_T47 (Kd.R_reads' HO223.out).2.2 0 p225 q225; cases e225; have qi225 : (0 < t221.length) = True := eq_true (by omega); (try rw [show ((0 : Int)).toNat = 0 from rfl] at hx225_0); (try rw [show 0 * 3 = 0 from rfl] at hx225_0); (try rw [Addr.add_zero'] at hx225_0); (try rw [show ((0 : Int)).toNat = 0 from rfl] at hx225_1); (try rw [show 0 * 3 = 0 from rfl] at hx225_1); (try rw [Addr.add_zero'] at hx225_1); (try rw [show ((0 : Int)).toNat = 0 from rfl] at hx225_2); (try rw [show 0 * 3 = 0 from rfl] at hx225_2); (try rw [Addr.add_zero'] at hx225_2); replace p225 := eq_true p225; replace q225 := eq_true q225) | ((with_reducible refine gate_callee (f := 38) rfl ?_); refine goesL_ (some 51) rfl rfl Try.func38 (by kernel_rfl) rfl #[.string a0, .agg #[.int .i64 ((rd_T47 t221 0).f0), .string ((rd_T47 t221 0).f1), .string ((rd_T47 t221 0).f2)]] rfl (by (try simp only [List.map_toArray, List.map_cons, List.map_nil]); first | done | rfl | (simp only [List.length_drop, List.length_take]; rfl)) ?_; (with_reducible refine (stylusref21_Apply.calls kj2 a0 ((rd_T47 t221 0).f0) ((rd_T47 t221 0).f1) ((rd_T47 t221 0).f2) t226 t227 _ A25.out).mono ?_); rintro e w31 ⟨rfl, hb⟩; refine ⟨_, rfl, ?_⟩; have n0_ := Aside0.mk (Kd.R_below (by (with_reducible repeat (first | apply Kd.R_alloc | apply Kd.R_drewN | apply Kd.R_drew)); exact HO223.out) hb); have n1_ := Aside0.mk (below_step (by repeat (first | (with_reducible first | exact HB.out | apply below_alloc | apply pw_below_drewN | apply below_drew1) | exact HB.out)) hb); clear HO223; clear HB; have HO223 := n0_; have HB := n1_; clear n0_ n1_; (try clear hb); (try clear hb2); (try clear hk); (try clear hi); have p228 : 0 ≤ (0 : Int) := (by omega); have q228 : 0 < (t221.length : Int) := of_decide_eq_true (by first | (with_reducible assumption) | assumption); obtain ⟨ad228, e228, hx228_0, hx228_1, hx228_2⟩ := at_T47 (Kd.R_reads' HO223.out).2.2 0 p228 q228; obtain rfl : ad225 = ad228 := (by injection e228); have qi228 : (0 < t221.length) = True := eq_true (by omega); (try rw [show ((0 : Int)).toNat = 0 from rfl] at hx228_0); (try rw [show 0 * 3 = 0 from rfl] at hx228_0); (try rw [Addr.add_zero'] at hx228_0); (try rw [show ((0 : Int)).toNat = 0 from rfl] at hx228_1); (try rw [show 0 * 3 = 0 from rfl] at hx228_1); (try rw [Addr.add_zero'] at hx228_1); (try rw [show ((0 : Int)).toNat = 0 from rfl] at hx228_2); (try rw [show 0 * 3 = 0 from rfl] at hx228_2); (try rw [Addr.add_zero'] at hx228_2); replace p228 := eq_true p228; replace q228 := eq_true q228) | ((with_reducible refine gate_callee (f := 39) rfl ?_); refine goesL_ (some 59) rfl rfl Try.func39 (by kernel_rfl) rfl #[.agg #[.int .i64 ((rd_T47 t221 0).f0), .string ((rd_T47 t221 0).f1), .string ((rd_T47 t221 0).f2)]] rfl (by (try simp only [List.map_toArray, List.map_cons, List.map_nil]); first | done | rfl | (simp only [List.length_drop, List.length_take]; rfl)) ?_; (with_reducible refine (stylusref21_Inverse.calls ((rd_T47 t221 0).f0) ((rd_T47 t221 0).f1) ((rd_T47 t221 0).f2) t229 t230 t231 _ A26.out).mono ?_); rintro e w32 ⟨rfl, hb⟩; refine ⟨_, rfl, ?_⟩; have n0_ := Aside0.mk (Kd.R_below (by (with_reducible repeat (first | apply Kd.R_alloc | apply Kd.R_drewN | apply Kd.R_drew)); exact HO223.out) hb); have n1_ := Aside0.mk (below_step (by repeat (first | (with_reducible first | exact HB.out | apply below_alloc | apply pw_below_drewN | apply below_drew1) | exact HB.out)) hb); clear HO223; clear HB; have HO223 := n0_; have HB := n1_; clear n0_ n1_; (try clear hb); (try clear hb2); (try clear hk); (try clear hi)) | ((with_reducible refine gate_callee (f := 38) rfl ?_); refine goesL_ (some 60) rfl rfl Try.func38 (by kernel_rfl) rfl #[.string a1, .agg #[.int .i64 t229, .string t230, .string t231]] rfl (by (try simp only [List.map_toArray, List.map_cons, List.map_nil]); first | done | rfl | (simp only [List.length_drop, List.length_take]; rfl)) ?_; (with_reducible refine (stylusref21_Apply.calls kj2 a1 t229 t230 t231 t232 t233 _ A27.out).mono ?_); rintro e w33 ⟨rfl, hb⟩; refine ⟨_, rfl, ?_⟩; have n0_ := Aside0.mk (Kd.R_below (by (with_reducible repeat (first | apply Kd.R_alloc | apply Kd.R_drewN | apply Kd.R_drew)); exact HO223.out) hb); have n1_ := Aside0.mk (below_step (by repeat (first | (with_reducible first | exact HB.out | apply below_alloc | apply pw_below_drewN | apply below_drew1) | exact HB.out)) hb); clear HO223; clear HB; have HO223 := n0_; have HB := n1_; clear n0_ n1_; (try clear hb); (try clear hb2); (try clear hk); (try clear hi); have p234 : 0 ≤ (0 : Int) := (by omega); have q234 : 0 < (t221.length : Int) := of_decide_eq_true (by first | (with_reducible assumption) | assumption); obtain ⟨ad234, e234, hx234_0, hx234_1, hx234_2⟩ := at_T47 (Kd.R_reads' HO223.out).2.2 0 p234 q234; obtain rfl : ad225 = ad234 := (by injection e234); have qi234 : (0 < t221.length) = True := eq_true (by omega); (try rw [show ((0 : Int)).toNat = 0 from rfl] at hx234_0); (try rw [show 0 * 3 = 0 from rfl] at hx234_0); (try rw [Addr.add_zero'] at hx234_0); (try rw [show ((0 : Int)).toNat = 0 from rfl] at hx234_1); (try rw [show 0 * 3 = 0 from rfl] at hx234_1); (try rw [Addr.add_zero'] at hx234_1); (try rw [show ((0 : Int)).toNat = 0 from rfl] at hx234_2); (try rw [show 0 * 3 = 0 from rfl] at hx234_2); (try rw [Addr.add_zero'] at hx234_2); replace p234 := eq_true p234; replace q234 := eq_true q234) | ((with_reducible refine gate_dst (N := 10) rfl ?_); (try (refine gate_guard (by rfl) ?_; dsimp only)); refine box_event ?hg (N := 10) ?hd (cs := #[.int .i64 0, .string (⟨#[]⟩ : ByteArray), .string (⟨#[]⟩ : ByteArray)]) (t := 47) ?hr ?_; (case hd => rfl); (case hg => rfl); (case hr => first | (go_simp; done) | (go_simp; rfl)); intro gb235 hg w34 hbox hb; have n0_ := Aside0.mk (Kd.R_below (Kd.R_elderB (by (with_reducible repeat (first | apply Kd.R_alloc | apply Kd.R_drewN | apply Kd.R_drew)); exact HO223.out) gb235 (Nat.le_of_eq hg.symm)) hb); have n1_ := Aside0.mk (below_step (by repeat (first | (with_reducible first | exact HB.out | apply below_alloc | apply pw_below_drewN | apply below_drew1) | exact HB.out)) hb); have n2_ := Aside0.mk (hbox); have n3_ := Aside0.mk ((by rw [hg]; exact (below_size (by repeat (first | (with_reducible first | exact HB.out | apply below_alloc | apply pw_below_drewN | apply below_drew1) | exact HB.out))) : w.heap.size ≤ gb235)); have n4_ := Aside0.mk ((by rw [hg]; exact (below_size (by repeat (first | (with_reducible first | exact HB.out | apply below_alloc | apply pw_below_drewN | apply below_drew1) | exact HB.out))) : w.heap.size ≤ gb235)); clear HO223; clear HB; have HO223 := n0_; have HB := n1_; have BK235 := n2_; have GW235 := n3_; have GE235 := n4_; clear n0_ n1_ n2_ n3_ n4_; clear hb hbox hg; have hcz35_0 : w34.cell? ⟨gb235, 0, none⟩ = some (.int .i64 0) := (blk_cell BK235.out 0).trans rfl; have hcz35_1 : w34.cell? ⟨gb235, 1, none⟩ = some (.string (⟨#[]⟩ : ByteArray)) := (blk_cell BK235.out 1).trans rfl; have hcz35_2 : w34.cell? ⟨gb235, 2, none⟩ = some (.string (⟨#[]⟩ : ByteArray)) := (blk_cell BK235.out 2).trans rfl; have hfz35_0 := blk_frozen BK235.out 0; have hfz35_1 := blk_frozen BK235.out 1; have hfz35_2 := blk_frozen BK235.out 2))
            (try simp only [Act.put, List.setIfInBounds_toArray, List.set_cons_zero, List.set_cons_succ])
            go_cut [93] (fun v93 wc => ∃ (kq : Nat) (x93_27 : Bool), v93 = .bool x93_27 ∧ Aside0 (styluslaw48_DifferMakes.j1 kq x93_27 ((rd_T47 t221 0).f0) ((rd_T47 t221 0).f1) ((rd_T47 t221 0).f2) = some r) ∧ Aside0 (kq ≤ kj2) ∧ Aside0 (wc.heap[gb235]? = some (.cells #[.int .i64 ((rd_T47 t221 0).f0), .string ((rd_T47 t221 0).f1), .string ((rd_T47 t221 0).f2)] 47 (0, 0))) ∧ Aside0 (Below w.heap.size w wc))
            case first =>
              have H := HC28.out
              clear HC28
              by_cases c36 : (t221.length : Int) = 1
              · rw [if_pos c36] at H
                have c36b0 : ((t221.length : Int) == 1) = true := beq_iff_eq.mpr c36
                have c36b1 : ((t221.length : Int) != 1) = false := bne_eq_false_iff_eq.mpr c36
                clear c36
                (first | rw [c36b0] | (simp only [i64_w, i32_w]; rw [c36b0]) | skip)
                by_cases c37 : t226.toList = a1.toList
                · rw [if_pos c37] at H
                  have c37b0 : (t226.toList == a1.toList) = true := beq_iff_eq.mpr c37
                  have c37b1 : (t226.toList != a1.toList) = false := bne_eq_false_iff_eq.mpr c37
                  clear c37
                  by_cases c38 : t227 = 0
                  · rw [if_pos c38] at H
                    have c38b0 : (t227 == 0) = true := beq_iff_eq.mpr c38
                    have c38b1 : (t227 != 0) = false := bne_eq_false_iff_eq.mpr c38
                    clear c38
                    by_cases c39 : t232.toList = a0.toList
                    · rw [if_pos c39] at H
                      have c39b0 : (t232.toList == a0.toList) = true := beq_iff_eq.mpr c39
                      have c39b1 : (t232.toList != a0.toList) = false := bne_eq_false_iff_eq.mpr c39
                      clear c39
                      by_cases c40 : t233 = 0
                      · rw [if_pos c40] at H
                        have c40b0 : (t233 == 0) = true := beq_iff_eq.mpr c40
                        have c40b1 : (t233 != 0) = false := bne_eq_false_iff_eq.mpr c40
                        clear c40
                        have H' := Aside0.mk H
                        clear H
                        have hcz41_0 : w34.cell? ⟨gb235, 0, none⟩ = some (.int .i64 0) := (blk_cell BK235.out 0).trans rfl
                        have hcz41_1 : w34.cell? ⟨gb235, 1, none⟩ = some (.string (⟨#[]⟩ : ByteArray)) := (blk_cell BK235.out 1).trans rfl
                        have hcz41_2 : w34.cell? ⟨gb235, 2, none⟩ = some (.string (⟨#[]⟩ : ByteArray)) := (blk_cell BK235.out 2).trans rfl
                        have hfz41_0 := blk_frozen BK235.out 0
                        have hfz41_1 := blk_frozen BK235.out 1
                        have hfz41_2 := blk_frozen BK235.out 2
                        go_wp2
                        go_meet
                        case rel => exact ⟨_, ((((rd_T47 t221 0).f1).toList == ((rd_T47 t221 0).f2).toList)), (by first | rfl | (simp; done) | (simp [*]; done)), H', ⟨by have := HJ2.out; first | omega | exact Nat.le_refl _⟩, ⟨by (with_reducible repeat (first | refine blk_drewN ?_ _ | refine blk_drew ?_ | refine blk_alloc ?_ _)); refine blk_put (cs := #[.int .i64 ((rd_T47 t221 0).f0), .string ((rd_T47 t221 0).f1), .string (⟨#[]⟩ : ByteArray)]) ?_ 2 _ rfl; (with_reducible repeat (first | refine blk_drewN ?_ _ | refine blk_drew ?_ | refine blk_alloc ?_ _)); refine blk_put (cs := #[.int .i64 ((rd_T47 t221 0).f0), .string (⟨#[]⟩ : ByteArray), .string (⟨#[]⟩ : ByteArray)]) ?_ 1 _ rfl; (with_reducible repeat (first | refine blk_drewN ?_ _ | refine blk_drew ?_ | refine blk_alloc ?_ _)); refine blk_put (cs := #[.int .i64 0, .string (⟨#[]⟩ : ByteArray), .string (⟨#[]⟩ : ByteArray)]) ?_ 0 _ rfl; (with_reducible repeat (first | refine blk_drewN ?_ _ | refine blk_drew ?_ | refine blk_alloc ?_ _)); exact BK235.out⟩, ⟨by repeat (first | (with_reducible first | exact HB.out | apply below_alloc | apply pw_below_drewN | apply below_drew1 | refine below_set ?_ GE235.out) | exact HB.out)⟩⟩
                      · rw [if_neg c40] at H
                        have c40b0 : (t233 == 0) = false := beq_eq_false_iff_ne.mpr c40
                        have c40b1 : (t233 != 0) = true := bne_iff_ne.mpr c40
                        have H' := Aside0.mk H
                        clear H
                        go_wp2
                        go_meet
                        case rel => exact ⟨_, (true), (by first | rfl | (simp; done) | (simp [*]; done)), H', ⟨by have := HJ2.out; first | omega | exact Nat.le_refl _⟩, ⟨by (with_reducible repeat (first | refine blk_drewN ?_ _ | refine blk_drew ?_ | refine blk_alloc ?_ _)); refine blk_put (cs := #[.int .i64 ((rd_T47 t221 0).f0), .string ((rd_T47 t221 0).f1), .string (⟨#[]⟩ : ByteArray)]) ?_ 2 _ rfl; (with_reducible repeat (first | refine blk_drewN ?_ _ | refine blk_drew ?_ | refine blk_alloc ?_ _)); refine blk_put (cs := #[.int .i64 ((rd_T47 t221 0).f0), .string (⟨#[]⟩ : ByteArray), .string (⟨#[]⟩ : ByteArray)]) ?_ 1 _ rfl; (with_reducible repeat (first | refine blk_drewN ?_ _ | refine blk_drew ?_ | refine blk_alloc ?_ _)); refine blk_put (cs := #[.int .i64 0, .string (⟨#[]⟩ : ByteArray), .string (⟨#[]⟩ : ByteArray)]) ?_ 0 _ rfl; (with_reducible repeat (first | refine blk_drewN ?_ _ | refine blk_drew ?_ | refine blk_alloc ?_ _)); exact BK235.out⟩, ⟨by repeat (first | (with_reducible first | exact HB.out | apply below_alloc | apply pw_below_drewN | apply below_drew1 | refine below_set ?_ GE235.out) | exact HB.out)⟩⟩
                    · rw [if_neg c39] at H
                      have c39b0 : (t232.toList == a0.toList) = false := beq_eq_false_iff_ne.mpr c39
                      have c39b1 : (t232.toList != a0.toList) = true := bne_iff_ne.mpr c39
                      have H' := Aside0.mk H
                      clear H
                      go_wp2
                      go_meet
                      case rel => exact ⟨_, (true), (by first | rfl | (simp; done) | (simp [*]; done)), H', ⟨by have := HJ2.out; first | omega | exact Nat.le_refl _⟩, ⟨by (with_reducible repeat (first | refine blk_drewN ?_ _ | refine blk_drew ?_ | refine blk_alloc ?_ _)); refine blk_put (cs := #[.int .i64 ((rd_T47 t221 0).f0), .string ((rd_T47 t221 0).f1), .string (⟨#[]⟩ : ByteArray)]) ?_ 2 _ rfl; (with_reducible repeat (first | refine blk_drewN ?_ _ | refine blk_drew ?_ | refine blk_alloc ?_ _)); refine blk_put (cs := #[.int .i64 ((rd_T47 t221 0).f0), .string (⟨#[]⟩ : ByteArray), .string (⟨#[]⟩ : ByteArray)]) ?_ 1 _ rfl; (with_reducible repeat (first | refine blk_drewN ?_ _ | refine blk_drew ?_ | refine blk_alloc ?_ _)); refine blk_put (cs := #[.int .i64 0, .string (⟨#[]⟩ : ByteArray), .string (⟨#[]⟩ : ByteArray)]) ?_ 0 _ rfl; (with_reducible repeat (first | refine blk_drewN ?_ _ | refine blk_drew ?_ | refine blk_alloc ?_ _)); exact BK235.out⟩, ⟨by repeat (first | (with_reducible first | exact HB.out | apply below_alloc | apply pw_below_drewN | apply below_drew1 | refine below_set ?_ GE235.out) | exact HB.out)⟩⟩
                  · rw [if_neg c38] at H
                    have c38b0 : (t227 == 0) = false := beq_eq_false_iff_ne.mpr c38
                    have c38b1 : (t227 != 0) = true := bne_iff_ne.mpr c38
                    have H' := Aside0.mk H
                    clear H
                    go_wp2
                    go_meet
                    case rel => exact ⟨_, (true), (by first | rfl | (simp; done) | (simp [*]; done)), H', ⟨by have := HJ2.out; first | omega | exact Nat.le_refl _⟩, ⟨by (with_reducible repeat (first | refine blk_drewN ?_ _ | refine blk_drew ?_ | refine blk_alloc ?_ _)); refine blk_put (cs := #[.int .i64 ((rd_T47 t221 0).f0), .string ((rd_T47 t221 0).f1), .string (⟨#[]⟩ : ByteArray)]) ?_ 2 _ rfl; (with_reducible repeat (first | refine blk_drewN ?_ _ | refine blk_drew ?_ | refine blk_alloc ?_ _)); refine blk_put (cs := #[.int .i64 ((rd_T47 t221 0).f0), .string (⟨#[]⟩ : ByteArray), .string (⟨#[]⟩ : ByteArray)]) ?_ 1 _ rfl; (with_reducible repeat (first | refine blk_drewN ?_ _ | refine blk_drew ?_ | refine blk_alloc ?_ _)); refine blk_put (cs := #[.int .i64 0, .string (⟨#[]⟩ : ByteArray), .string (⟨#[]⟩ : ByteArray)]) ?_ 0 _ rfl; (with_reducible repeat (first | refine blk_drewN ?_ _ | refine blk_drew ?_ | refine blk_alloc ?_ _)); exact BK235.out⟩, ⟨by repeat (first | (with_reducible first | exact HB.out | apply below_alloc | apply pw_below_drewN | apply below_drew1 | refine below_set ?_ GE235.out) | exact HB.out)⟩⟩
                · rw [if_neg c37] at H
                  have c37b0 : (t226.toList == a1.toList) = false := beq_eq_false_iff_ne.mpr c37
                  have c37b1 : (t226.toList != a1.toList) = true := bne_iff_ne.mpr c37
                  have H' := Aside0.mk H
                  clear H
                  go_wp2
                  go_meet
                  case rel => exact ⟨_, (true), (by first | rfl | (simp; done) | (simp [*]; done)), H', ⟨by have := HJ2.out; first | omega | exact Nat.le_refl _⟩, ⟨by (with_reducible repeat (first | refine blk_drewN ?_ _ | refine blk_drew ?_ | refine blk_alloc ?_ _)); refine blk_put (cs := #[.int .i64 ((rd_T47 t221 0).f0), .string ((rd_T47 t221 0).f1), .string (⟨#[]⟩ : ByteArray)]) ?_ 2 _ rfl; (with_reducible repeat (first | refine blk_drewN ?_ _ | refine blk_drew ?_ | refine blk_alloc ?_ _)); refine blk_put (cs := #[.int .i64 ((rd_T47 t221 0).f0), .string (⟨#[]⟩ : ByteArray), .string (⟨#[]⟩ : ByteArray)]) ?_ 1 _ rfl; (with_reducible repeat (first | refine blk_drewN ?_ _ | refine blk_drew ?_ | refine blk_alloc ?_ _)); refine blk_put (cs := #[.int .i64 0, .string (⟨#[]⟩ : ByteArray), .string (⟨#[]⟩ : ByteArray)]) ?_ 0 _ rfl; (with_reducible repeat (first | refine blk_drewN ?_ _ | refine blk_drew ?_ | refine blk_alloc ?_ _)); exact BK235.out⟩, ⟨by repeat (first | (with_reducible first | exact HB.out | apply below_alloc | apply pw_below_drewN | apply below_drew1 | refine below_set ?_ GE235.out) | exact HB.out)⟩⟩
              · rw [if_neg c36] at H
                have c36b0 : ((t221.length : Int) == 1) = false := beq_eq_false_iff_ne.mpr c36
                have c36b1 : ((t221.length : Int) != 1) = true := bne_iff_ne.mpr c36
                (first | rw [c36b0] | (simp only [i64_w, i32_w]; rw [c36b0]) | skip)
                have H' := Aside0.mk H
                clear H
                go_wp2
                go_meet
                case rel => exact ⟨_, (true), (by first | rfl | (simp; done) | (simp [*]; done)), H', ⟨by have := HJ2.out; first | omega | exact Nat.le_refl _⟩, ⟨by (with_reducible repeat (first | refine blk_drewN ?_ _ | refine blk_drew ?_ | refine blk_alloc ?_ _)); refine blk_put (cs := #[.int .i64 ((rd_T47 t221 0).f0), .string ((rd_T47 t221 0).f1), .string (⟨#[]⟩ : ByteArray)]) ?_ 2 _ rfl; (with_reducible repeat (first | refine blk_drewN ?_ _ | refine blk_drew ?_ | refine blk_alloc ?_ _)); refine blk_put (cs := #[.int .i64 ((rd_T47 t221 0).f0), .string (⟨#[]⟩ : ByteArray), .string (⟨#[]⟩ : ByteArray)]) ?_ 1 _ rfl; (with_reducible repeat (first | refine blk_drewN ?_ _ | refine blk_drew ?_ | refine blk_alloc ?_ _)); refine blk_put (cs := #[.int .i64 0, .string (⟨#[]⟩ : ByteArray), .string (⟨#[]⟩ : ByteArray)]) ?_ 0 _ rfl; (with_reducible repeat (first | refine blk_drewN ?_ _ | refine blk_drew ?_ | refine blk_alloc ?_ _)); exact BK235.out⟩, ⟨by repeat (first | (with_reducible first | exact HB.out | apply below_alloc | apply pw_below_drewN | apply below_drew1 | refine below_set ?_ GE235.out) | exact HB.out)⟩⟩
            case rest =>
              clear HC28
              try clear c1
              try clear c2
              try clear p2
              try clear q2
              try clear hx2
              try clear qi2
              try clear c3
              try clear c4
              try clear c4b0
              try clear c4b1
              try clear c5
              try clear c5b0
              try clear c5b1
              try clear c7
              try clear c10
              try clear c12
              try clear c16
              try clear c16b0
              try clear c16b1
              try clear c16b2
              try clear c17
              try clear c17b0
              try clear c17b1
              try clear p22
              try clear q22
              try clear hx22
              try clear qi22
              try clear p23
              try clear q23
              try clear hx23
              try clear qi23
              try clear c24
              try clear c24b0
              try clear c24b1
              try clear c36
              try clear c36b0
              try clear c36b1
              try clear c37
              try clear c37b0
              try clear c37b1
              try clear c38
              try clear c38b0
              try clear c38b1
              try clear c39
              try clear c39b0
              try clear c39b1
              try clear c40
              try clear c40b0
              try clear c40b1
              try clear hcz35_0
              try clear hcz35_1
              try clear hcz35_2
              try clear hcz41_0
              try clear hcz41_1
              try clear hcz41_2
              try clear hfz35_0
              try clear hfz35_1
              try clear hfz35_2
              try clear hfz41_0
              try clear hfz41_1
              try clear hfz41_2
              try clear hx225_0
              try clear hx225_1
              try clear hx225_2
              try clear hx228_0
              try clear hx228_1
              try clear hx228_2
              try clear hx234_0
              try clear hx234_1
              try clear hx234_2
              try clear p2
              try clear p225
              try clear p228
              try clear p234
              try clear q225
              try clear q228
              try clear q234
              obtain ⟨kq, x93_27, rfl, HA, HJ27, BK235, HB⟩ := hcut
              cases kq with
              | zero => exact absurd HA.out (by simp [styluslaw48_DifferMakes.j1])
              | succ kj27 =>
                have H := HA.out
                clear HA
                simp only [styluslaw48_DifferMakes.j1] at H
                by_cases c42 : x93_27 = true
                · subst c42
                  have H1 : (some false) = some r := by rw [if_pos rfl] at H; exact H
                  clear H
                  have H := H1
                  clear H1
                  obtain rfl := Option.some.inj H
                  go_wp2
                  go_ret
                  exact ⟨by first | rfl | (simp [errW_none, errW_some] <;> rfl) | (simp [*, errW_none, errW_some] <;> rfl), by repeat (first | (with_reducible first | exact HB.out | apply below_alloc | apply pw_below_drewN | apply below_drew1 | refine below_set ?_ GE235.out) | exact HB.out)⟩
                · replace c42 := Bool.eq_false_iff.mpr c42
                  subst c42
                  have H1 : ((stylusref01_Take.f ((rd_T47 t221 0).f1) 0).bind fun bt236 => ((stylusref01_Take.f ((rd_T47 t221 0).f2) 0).bind fun bt238 => (if bt236.2 = 0 then ((styluslaw48_lives.f kj27).bind fun t240 => (some t240)) else (if bt238.2 = 0 then ((styluslaw48_lives.f kj27).bind fun t241 => (some t241)) else (if bt236.1 = bt238.1 then (some false) else ((styluslaw48_lives.f kj27).bind fun t242 => (some t242))))))) = some r := by rw [if_neg (show ¬ (false = true) by decide)] at H; exact H
                  clear H
                  have H := H1
                  clear H1
                  replace H := Option.bind_eq_some_iff.mp H
                  obtain ⟨⟨t236, t237⟩, A430, H⟩ := H
                  replace H : ((stylusref01_Take.f ((rd_T47 t221 0).f2) 0).bind fun bt238 => (if t237 = 0 then ((styluslaw48_lives.f kj27).bind fun t240 => (some t240)) else (if bt238.2 = 0 then ((styluslaw48_lives.f kj27).bind fun t241 => (some t241)) else (if t236 = bt238.1 then (some false) else ((styluslaw48_lives.f kj27).bind fun t242 => (some t242)))))) = some r := H
                  have A43 := Aside0.mk A430
                  clear A430
                  replace H := Option.bind_eq_some_iff.mp H
                  obtain ⟨⟨t238, t239⟩, A440, H⟩ := H
                  replace H : (if t237 = 0 then ((styluslaw48_lives.f kj27).bind fun t240 => (some t240)) else (if t239 = 0 then ((styluslaw48_lives.f kj27).bind fun t241 => (some t241)) else (if t236 = t238 then (some false) else ((styluslaw48_lives.f kj27).bind fun t242 => (some t242))))) = some r := H
                  have A44 := Aside0.mk A440
                  clear A440
                  by_cases c45 : t237 = 0
                  · rw [if_pos c45] at H
                    have c45b0 : (t237 == 0) = true := beq_iff_eq.mpr c45
                    have c45b1 : (t237 != 0) = false := bne_eq_false_iff_eq.mpr c45
                    clear c45
                    replace H := Option.bind_eq_some_iff.mp H
                    obtain ⟨t240, A460, H⟩ := H
                    replace H : (some t240) = some r := H
                    have A46 := Aside0.mk A460
                    clear A460
                    obtain rfl := Option.some.inj H
                    have hcz47_0 : wc.cell? ⟨gb235, 0, none⟩ = some (.int .i64 ((rd_T47 t221 0).f0)) := (blk_cell BK235.out 0).trans rfl
                    have hcz47_1 : wc.cell? ⟨gb235, 1, none⟩ = some (.string ((rd_T47 t221 0).f1)) := (blk_cell BK235.out 1).trans rfl
                    have hcz47_2 : wc.cell? ⟨gb235, 2, none⟩ = some (.string ((rd_T47 t221 0).f2)) := (blk_cell BK235.out 2).trans rfl
                    have hfz47_0 := blk_frozen BK235.out 0
                    have hfz47_1 := blk_frozen BK235.out 1
                    have hfz47_2 := blk_frozen BK235.out 2
                    go_wp2_with (first | ((with_reducible refine gate_callee (f := 27) rfl ?_); refine goesL_ (some 97) rfl rfl Try.func27 (by kernel_rfl) rfl #[.string ((rd_T47 t221 0).f1), .int .i64 0] rfl (by (try simp only [List.map_toArray, List.map_cons, List.map_nil]); first | done | rfl | (simp only [List.length_drop, List.length_take]; rfl)) ?_; (with_reducible refine (stylusref01_Take.calls ((rd_T47 t221 0).f1) 0 t236 t237 _ A43.out).mono ?_); rintro e w48 ⟨rfl, hb⟩; refine ⟨_, rfl, ?_⟩; have n0_ := Aside0.mk (blk_below (g := gb235) (o := .cells #[.int .i64 ((rd_T47 t221 0).f0), .string ((rd_T47 t221 0).f1), .string ((rd_T47 t221 0).f2)] 47 (0, 0)) (by (with_reducible repeat (first | refine blk_drewN ?_ _ | refine blk_drew ?_ | refine blk_alloc ?_ _)); exact BK235.out) hb); have n1_ := Aside0.mk (below_step (by repeat (first | (with_reducible first | exact HB.out | apply below_alloc | apply pw_below_drewN | apply below_drew1 | refine below_set ?_ GE235.out) | exact HB.out)) hb); clear BK235; clear HB; have BK235 := n0_; have HB := n1_; clear n0_ n1_; (try clear hb); (try clear hb2); (try clear hk); (try clear hi); have hcz49_0 : w48.cell? ⟨gb235, 0, none⟩ = some (.int .i64 ((rd_T47 t221 0).f0)) := (blk_cell BK235.out 0).trans rfl; have hcz49_1 : w48.cell? ⟨gb235, 1, none⟩ = some (.string ((rd_T47 t221 0).f1)) := (blk_cell BK235.out 1).trans rfl; have hcz49_2 : w48.cell? ⟨gb235, 2, none⟩ = some (.string ((rd_T47 t221 0).f2)) := (blk_cell BK235.out 2).trans rfl; have hfz49_0 := blk_frozen BK235.out 0; have hfz49_1 := blk_frozen BK235.out 1; have hfz49_2 := blk_frozen BK235.out 2) | ((with_reducible refine gate_callee (f := 27) rfl ?_); refine goesL_ (some 103) rfl rfl Try.func27 (by kernel_rfl) rfl #[.string ((rd_T47 t221 0).f2), .int .i64 0] rfl (by (try simp only [List.map_toArray, List.map_cons, List.map_nil]); first | done | rfl | (simp only [List.length_drop, List.length_take]; rfl)) ?_; (with_reducible refine (stylusref01_Take.calls ((rd_T47 t221 0).f2) 0 t238 t239 _ A44.out).mono ?_); rintro e w50 ⟨rfl, hb⟩; refine ⟨_, rfl, ?_⟩; have n0_ := Aside0.mk (blk_below (g := gb235) (o := .cells #[.int .i64 ((rd_T47 t221 0).f0), .string ((rd_T47 t221 0).f1), .string ((rd_T47 t221 0).f2)] 47 (0, 0)) (by (with_reducible repeat (first | refine blk_drewN ?_ _ | refine blk_drew ?_ | refine blk_alloc ?_ _)); exact BK235.out) hb); have n1_ := Aside0.mk (below_step (by repeat (first | (with_reducible first | exact HB.out | apply below_alloc | apply pw_below_drewN | apply below_drew1 | refine below_set ?_ GE235.out) | exact HB.out)) hb); clear BK235; clear HB; have BK235 := n0_; have HB := n1_; clear n0_ n1_; (try clear hb); (try clear hb2); (try clear hk); (try clear hi)) | (go_at_call 36; (with_reducible refine (styluslaw48_lives.calls kj27  t240 _ A46.out).mono ?_); rintro e w51 ⟨rfl, hb⟩; have n0_ := Aside0.mk (blk_below (g := gb235) (o := .cells #[.int .i64 ((rd_T47 t221 0).f0), .string ((rd_T47 t221 0).f1), .string ((rd_T47 t221 0).f2)] 47 (0, 0)) (by (with_reducible repeat (first | refine blk_drewN ?_ _ | refine blk_drew ?_ | refine blk_alloc ?_ _)); exact BK235.out) hb); have n1_ := Aside0.mk (below_step (by repeat (first | (with_reducible first | exact HB.out | apply below_alloc | apply pw_below_drewN | apply below_drew1 | refine below_set ?_ GE235.out) | exact HB.out)) hb); clear BK235; clear HB; have BK235 := n0_; have HB := n1_; clear n0_ n1_; (try clear hb); (try clear hb2); (try clear hk); (try clear hi)))
                    go_ret
                    exact ⟨by first | rfl | (simp [errW_none, errW_some] <;> rfl) | (simp [*, errW_none, errW_some] <;> rfl), by repeat (first | (with_reducible first | exact HB.out | apply below_alloc | apply pw_below_drewN | apply below_drew1 | refine below_set ?_ GE235.out) | exact HB.out)⟩
                  · rw [if_neg c45] at H
                    have c45b0 : (t237 == 0) = false := beq_eq_false_iff_ne.mpr c45
                    have c45b1 : (t237 != 0) = true := bne_iff_ne.mpr c45
                    by_cases c52 : t239 = 0
                    · rw [if_pos c52] at H
                      have c52b0 : (t239 == 0) = true := beq_iff_eq.mpr c52
                      have c52b1 : (t239 != 0) = false := bne_eq_false_iff_eq.mpr c52
                      clear c52
                      replace H := Option.bind_eq_some_iff.mp H
                      obtain ⟨t241, A530, H⟩ := H
                      replace H : (some t241) = some r := H
                      have A53 := Aside0.mk A530
                      clear A530
                      obtain rfl := Option.some.inj H
                      have hcz54_0 : wc.cell? ⟨gb235, 0, none⟩ = some (.int .i64 ((rd_T47 t221 0).f0)) := (blk_cell BK235.out 0).trans rfl
                      have hcz54_1 : wc.cell? ⟨gb235, 1, none⟩ = some (.string ((rd_T47 t221 0).f1)) := (blk_cell BK235.out 1).trans rfl
                      have hcz54_2 : wc.cell? ⟨gb235, 2, none⟩ = some (.string ((rd_T47 t221 0).f2)) := (blk_cell BK235.out 2).trans rfl
                      have hfz54_0 := blk_frozen BK235.out 0
                      have hfz54_1 := blk_frozen BK235.out 1
                      have hfz54_2 := blk_frozen BK235.out 2
                      go_wp2_with (first | ((with_reducible refine gate_callee (f := 27) rfl ?_); refine goesL_ (some 97) rfl rfl Try.func27 (by kernel_rfl) rfl #[.string ((rd_T47 t221 0).f1), .int .i64 0] rfl (by (try simp only [List.map_toArray, List.map_cons, List.map_nil]); first | done | rfl | (simp only [List.length_drop, List.length_take]; rfl)) ?_; (with_reducible refine (stylusref01_Take.calls ((rd_T47 t221 0).f1) 0 t236 t237 _ A43.out).mono ?_); rintro e w55 ⟨rfl, hb⟩; refine ⟨_, rfl, ?_⟩; have n0_ := Aside0.mk (blk_below (g := gb235) (o := .cells #[.int .i64 ((rd_T47 t221 0).f0), .string ((rd_T47 t221 0).f1), .string ((rd_T47 t221 0).f2)] 47 (0, 0)) (by (with_reducible repeat (first | refine blk_drewN ?_ _ | refine blk_drew ?_ | refine blk_alloc ?_ _)); exact BK235.out) hb); have n1_ := Aside0.mk (below_step (by repeat (first | (with_reducible first | exact HB.out | apply below_alloc | apply pw_below_drewN | apply below_drew1 | refine below_set ?_ GE235.out) | exact HB.out)) hb); clear BK235; clear HB; have BK235 := n0_; have HB := n1_; clear n0_ n1_; (try clear hb); (try clear hb2); (try clear hk); (try clear hi); have hcz56_0 : w55.cell? ⟨gb235, 0, none⟩ = some (.int .i64 ((rd_T47 t221 0).f0)) := (blk_cell BK235.out 0).trans rfl; have hcz56_1 : w55.cell? ⟨gb235, 1, none⟩ = some (.string ((rd_T47 t221 0).f1)) := (blk_cell BK235.out 1).trans rfl; have hcz56_2 : w55.cell? ⟨gb235, 2, none⟩ = some (.string ((rd_T47 t221 0).f2)) := (blk_cell BK235.out 2).trans rfl; have hfz56_0 := blk_frozen BK235.out 0; have hfz56_1 := blk_frozen BK235.out 1; have hfz56_2 := blk_frozen BK235.out 2) | ((with_reducible refine gate_callee (f := 27) rfl ?_); refine goesL_ (some 103) rfl rfl Try.func27 (by kernel_rfl) rfl #[.string ((rd_T47 t221 0).f2), .int .i64 0] rfl (by (try simp only [List.map_toArray, List.map_cons, List.map_nil]); first | done | rfl | (simp only [List.length_drop, List.length_take]; rfl)) ?_; (with_reducible refine (stylusref01_Take.calls ((rd_T47 t221 0).f2) 0 t238 t239 _ A44.out).mono ?_); rintro e w57 ⟨rfl, hb⟩; refine ⟨_, rfl, ?_⟩; have n0_ := Aside0.mk (blk_below (g := gb235) (o := .cells #[.int .i64 ((rd_T47 t221 0).f0), .string ((rd_T47 t221 0).f1), .string ((rd_T47 t221 0).f2)] 47 (0, 0)) (by (with_reducible repeat (first | refine blk_drewN ?_ _ | refine blk_drew ?_ | refine blk_alloc ?_ _)); exact BK235.out) hb); have n1_ := Aside0.mk (below_step (by repeat (first | (with_reducible first | exact HB.out | apply below_alloc | apply pw_below_drewN | apply below_drew1 | refine below_set ?_ GE235.out) | exact HB.out)) hb); clear BK235; clear HB; have BK235 := n0_; have HB := n1_; clear n0_ n1_; (try clear hb); (try clear hb2); (try clear hk); (try clear hi)) | (go_at_call 36; (with_reducible refine (styluslaw48_lives.calls kj27  t241 _ A53.out).mono ?_); rintro e w58 ⟨rfl, hb⟩; have n0_ := Aside0.mk (blk_below (g := gb235) (o := .cells #[.int .i64 ((rd_T47 t221 0).f0), .string ((rd_T47 t221 0).f1), .string ((rd_T47 t221 0).f2)] 47 (0, 0)) (by (with_reducible repeat (first | refine blk_drewN ?_ _ | refine blk_drew ?_ | refine blk_alloc ?_ _)); exact BK235.out) hb); have n1_ := Aside0.mk (below_step (by repeat (first | (with_reducible first | exact HB.out | apply below_alloc | apply pw_below_drewN | apply below_drew1 | refine below_set ?_ GE235.out) | exact HB.out)) hb); clear BK235; clear HB; have BK235 := n0_; have HB := n1_; clear n0_ n1_; (try clear hb); (try clear hb2); (try clear hk); (try clear hi)))
                      go_ret
                      exact ⟨by first | rfl | (simp [errW_none, errW_some] <;> rfl) | (simp [*, errW_none, errW_some] <;> rfl), by repeat (first | (with_reducible first | exact HB.out | apply below_alloc | apply pw_below_drewN | apply below_drew1 | refine below_set ?_ GE235.out) | exact HB.out)⟩
                    · rw [if_neg c52] at H
                      have c52b0 : (t239 == 0) = false := beq_eq_false_iff_ne.mpr c52
                      have c52b1 : (t239 != 0) = true := bne_iff_ne.mpr c52
                      by_cases c59 : t236 = t238
                      · rw [if_pos c59] at H
                        have c59b0 : (t236 == t238) = true := beq_iff_eq.mpr c59
                        have c59b1 : (t236 != t238) = false := bne_eq_false_iff_eq.mpr c59
                        clear c59
                        obtain rfl := Option.some.inj H
                        have hcz60_0 : wc.cell? ⟨gb235, 0, none⟩ = some (.int .i64 ((rd_T47 t221 0).f0)) := (blk_cell BK235.out 0).trans rfl
                        have hcz60_1 : wc.cell? ⟨gb235, 1, none⟩ = some (.string ((rd_T47 t221 0).f1)) := (blk_cell BK235.out 1).trans rfl
                        have hcz60_2 : wc.cell? ⟨gb235, 2, none⟩ = some (.string ((rd_T47 t221 0).f2)) := (blk_cell BK235.out 2).trans rfl
                        have hfz60_0 := blk_frozen BK235.out 0
                        have hfz60_1 := blk_frozen BK235.out 1
                        have hfz60_2 := blk_frozen BK235.out 2
                        go_wp2_with (first | ((with_reducible refine gate_callee (f := 27) rfl ?_); refine goesL_ (some 97) rfl rfl Try.func27 (by kernel_rfl) rfl #[.string ((rd_T47 t221 0).f1), .int .i64 0] rfl (by (try simp only [List.map_toArray, List.map_cons, List.map_nil]); first | done | rfl | (simp only [List.length_drop, List.length_take]; rfl)) ?_; (with_reducible refine (stylusref01_Take.calls ((rd_T47 t221 0).f1) 0 t236 t237 _ A43.out).mono ?_); rintro e w61 ⟨rfl, hb⟩; refine ⟨_, rfl, ?_⟩; have n0_ := Aside0.mk (blk_below (g := gb235) (o := .cells #[.int .i64 ((rd_T47 t221 0).f0), .string ((rd_T47 t221 0).f1), .string ((rd_T47 t221 0).f2)] 47 (0, 0)) (by (with_reducible repeat (first | refine blk_drewN ?_ _ | refine blk_drew ?_ | refine blk_alloc ?_ _)); exact BK235.out) hb); have n1_ := Aside0.mk (below_step (by repeat (first | (with_reducible first | exact HB.out | apply below_alloc | apply pw_below_drewN | apply below_drew1 | refine below_set ?_ GE235.out) | exact HB.out)) hb); clear BK235; clear HB; have BK235 := n0_; have HB := n1_; clear n0_ n1_; (try clear hb); (try clear hb2); (try clear hk); (try clear hi); have hcz62_0 : w61.cell? ⟨gb235, 0, none⟩ = some (.int .i64 ((rd_T47 t221 0).f0)) := (blk_cell BK235.out 0).trans rfl; have hcz62_1 : w61.cell? ⟨gb235, 1, none⟩ = some (.string ((rd_T47 t221 0).f1)) := (blk_cell BK235.out 1).trans rfl; have hcz62_2 : w61.cell? ⟨gb235, 2, none⟩ = some (.string ((rd_T47 t221 0).f2)) := (blk_cell BK235.out 2).trans rfl; have hfz62_0 := blk_frozen BK235.out 0; have hfz62_1 := blk_frozen BK235.out 1; have hfz62_2 := blk_frozen BK235.out 2) | ((with_reducible refine gate_callee (f := 27) rfl ?_); refine goesL_ (some 103) rfl rfl Try.func27 (by kernel_rfl) rfl #[.string ((rd_T47 t221 0).f2), .int .i64 0] rfl (by (try simp only [List.map_toArray, List.map_cons, List.map_nil]); first | done | rfl | (simp only [List.length_drop, List.length_take]; rfl)) ?_; (with_reducible refine (stylusref01_Take.calls ((rd_T47 t221 0).f2) 0 t238 t239 _ A44.out).mono ?_); rintro e w63 ⟨rfl, hb⟩; refine ⟨_, rfl, ?_⟩; have n0_ := Aside0.mk (blk_below (g := gb235) (o := .cells #[.int .i64 ((rd_T47 t221 0).f0), .string ((rd_T47 t221 0).f1), .string ((rd_T47 t221 0).f2)] 47 (0, 0)) (by (with_reducible repeat (first | refine blk_drewN ?_ _ | refine blk_drew ?_ | refine blk_alloc ?_ _)); exact BK235.out) hb); have n1_ := Aside0.mk (below_step (by repeat (first | (with_reducible first | exact HB.out | apply below_alloc | apply pw_below_drewN | apply below_drew1 | refine below_set ?_ GE235.out) | exact HB.out)) hb); clear BK235; clear HB; have BK235 := n0_; have HB := n1_; clear n0_ n1_; (try clear hb); (try clear hb2); (try clear hk); (try clear hi)))
                        go_ret
                        exact ⟨by first | rfl | (simp [errW_none, errW_some] <;> rfl) | (simp [*, errW_none, errW_some] <;> rfl), by repeat (first | (with_reducible first | exact HB.out | apply below_alloc | apply pw_below_drewN | apply below_drew1 | refine below_set ?_ GE235.out) | exact HB.out)⟩
                      · rw [if_neg c59] at H
                        have c59b0 : (t236 == t238) = false := beq_eq_false_iff_ne.mpr c59
                        have c59b1 : (t236 != t238) = true := bne_iff_ne.mpr c59
                        replace H := Option.bind_eq_some_iff.mp H
                        obtain ⟨t242, A640, H⟩ := H
                        replace H : (some t242) = some r := H
                        have A64 := Aside0.mk A640
                        clear A640
                        obtain rfl := Option.some.inj H
                        have hcz65_0 : wc.cell? ⟨gb235, 0, none⟩ = some (.int .i64 ((rd_T47 t221 0).f0)) := (blk_cell BK235.out 0).trans rfl
                        have hcz65_1 : wc.cell? ⟨gb235, 1, none⟩ = some (.string ((rd_T47 t221 0).f1)) := (blk_cell BK235.out 1).trans rfl
                        have hcz65_2 : wc.cell? ⟨gb235, 2, none⟩ = some (.string ((rd_T47 t221 0).f2)) := (blk_cell BK235.out 2).trans rfl
                        have hfz65_0 := blk_frozen BK235.out 0
                        have hfz65_1 := blk_frozen BK235.out 1
                        have hfz65_2 := blk_frozen BK235.out 2
                        go_wp2_with (first | ((with_reducible refine gate_callee (f := 27) rfl ?_); refine goesL_ (some 97) rfl rfl Try.func27 (by kernel_rfl) rfl #[.string ((rd_T47 t221 0).f1), .int .i64 0] rfl (by (try simp only [List.map_toArray, List.map_cons, List.map_nil]); first | done | rfl | (simp only [List.length_drop, List.length_take]; rfl)) ?_; (with_reducible refine (stylusref01_Take.calls ((rd_T47 t221 0).f1) 0 t236 t237 _ A43.out).mono ?_); rintro e w66 ⟨rfl, hb⟩; refine ⟨_, rfl, ?_⟩; have n0_ := Aside0.mk (blk_below (g := gb235) (o := .cells #[.int .i64 ((rd_T47 t221 0).f0), .string ((rd_T47 t221 0).f1), .string ((rd_T47 t221 0).f2)] 47 (0, 0)) (by (with_reducible repeat (first | refine blk_drewN ?_ _ | refine blk_drew ?_ | refine blk_alloc ?_ _)); exact BK235.out) hb); have n1_ := Aside0.mk (below_step (by repeat (first | (with_reducible first | exact HB.out | apply below_alloc | apply pw_below_drewN | apply below_drew1 | refine below_set ?_ GE235.out) | exact HB.out)) hb); clear BK235; clear HB; have BK235 := n0_; have HB := n1_; clear n0_ n1_; (try clear hb); (try clear hb2); (try clear hk); (try clear hi); have hcz67_0 : w66.cell? ⟨gb235, 0, none⟩ = some (.int .i64 ((rd_T47 t221 0).f0)) := (blk_cell BK235.out 0).trans rfl; have hcz67_1 : w66.cell? ⟨gb235, 1, none⟩ = some (.string ((rd_T47 t221 0).f1)) := (blk_cell BK235.out 1).trans rfl; have hcz67_2 : w66.cell? ⟨gb235, 2, none⟩ = some (.string ((rd_T47 t221 0).f2)) := (blk_cell BK235.out 2).trans rfl; have hfz67_0 := blk_frozen BK235.out 0; have hfz67_1 := blk_frozen BK235.out 1; have hfz67_2 := blk_frozen BK235.out 2) | ((with_reducible refine gate_callee (f := 27) rfl ?_); refine goesL_ (some 103) rfl rfl Try.func27 (by kernel_rfl) rfl #[.string ((rd_T47 t221 0).f2), .int .i64 0] rfl (by (try simp only [List.map_toArray, List.map_cons, List.map_nil]); first | done | rfl | (simp only [List.length_drop, List.length_take]; rfl)) ?_; (with_reducible refine (stylusref01_Take.calls ((rd_T47 t221 0).f2) 0 t238 t239 _ A44.out).mono ?_); rintro e w68 ⟨rfl, hb⟩; refine ⟨_, rfl, ?_⟩; have n0_ := Aside0.mk (blk_below (g := gb235) (o := .cells #[.int .i64 ((rd_T47 t221 0).f0), .string ((rd_T47 t221 0).f1), .string ((rd_T47 t221 0).f2)] 47 (0, 0)) (by (with_reducible repeat (first | refine blk_drewN ?_ _ | refine blk_drew ?_ | refine blk_alloc ?_ _)); exact BK235.out) hb); have n1_ := Aside0.mk (below_step (by repeat (first | (with_reducible first | exact HB.out | apply below_alloc | apply pw_below_drewN | apply below_drew1 | refine below_set ?_ GE235.out) | exact HB.out)) hb); clear BK235; clear HB; have BK235 := n0_; have HB := n1_; clear n0_ n1_; (try clear hb); (try clear hb2); (try clear hk); (try clear hi)) | (go_at_call 36; (with_reducible refine (styluslaw48_lives.calls kj27  t242 _ A64.out).mono ?_); rintro e w69 ⟨rfl, hb⟩; have n0_ := Aside0.mk (blk_below (g := gb235) (o := .cells #[.int .i64 ((rd_T47 t221 0).f0), .string ((rd_T47 t221 0).f1), .string ((rd_T47 t221 0).f2)] 47 (0, 0)) (by (with_reducible repeat (first | refine blk_drewN ?_ _ | refine blk_drew ?_ | refine blk_alloc ?_ _)); exact BK235.out) hb); have n1_ := Aside0.mk (below_step (by repeat (first | (with_reducible first | exact HB.out | apply below_alloc | apply pw_below_drewN | apply below_drew1 | refine below_set ?_ GE235.out) | exact HB.out)) hb); clear BK235; clear HB; have BK235 := n0_; have HB := n1_; clear n0_ n1_; (try clear hb); (try clear hb2); (try clear hk); (try clear hi)))
                        go_ret
                        exact ⟨by first | rfl | (simp [errW_none, errW_some] <;> rfl) | (simp [*, errW_none, errW_some] <;> rfl), by repeat (first | (with_reducible first | exact HB.out | apply below_alloc | apply pw_below_drewN | apply below_drew1 | refine below_set ?_ GE235.out) | exact HB.out)⟩
          · rw [if_neg c24] at H
            exact absurd H (by simp)

/-- THE ONE PURE STATEMENT of styluslaw48_DifferMakes: yours. -/
def styluslaw48_DifferMakes.Pure : Prop := ∀ (a0 : ByteArray) (a1 : ByteArray), a0.size ≤ 140737488351232 → a1.size ≤ 140737488351232 → ∃ k, styluslaw48_DifferMakes.f k a0 a1 = some true
theorem styluslaw48_DifferMakes.walk (P : styluslaw48_DifferMakes.Pure) (a0 : ByteArray) (a1 : ByteArray) (w : World) (w0 : a0.size ≤ 140737488351232) (w1 : a1.size ≤ 140737488351232) :
    Calls Try.prog 10 #[.string a0, .string a1] w fun e w' => e = .returned (.bool true) ∧ Below w.heap.size w w' := by
  obtain ⟨k, h⟩ := P a0 a1 w0 w1
  refine (styluslaw48_DifferMakes.calls k a0 a1 true w h).mono ?_
  rintro e w' ⟨rfl, hd⟩
  exact ⟨rfl, hd⟩

end Go.Proofs.Yteniemhecfkfoaa.QD
