-- Written by a program of this session (wip/tools/bundle.sh), which turns the kit's print for functions given by hand. Lean checks it.
import Derived.Test.YteniemhecfkfoaaQDx0
import Derived.Test.YteniemhecfkfoaaQDx6
import Derived.Test.YteniemhecfkfoaaQDx7
namespace Go.Proofs.Yteniemhecfkfoaa.QD
open Go.RowKit Go.Proofs.Yteniemhecfkfoaa.U Go.Proofs.YteniemhecfkfoaaW.PrintWords Go.Proofs.YteniemhecfkfoaaW.PrintLast Go.Proofs.YteniemhecfkfoaaW.PrintMore
attribute [local go_sem] max2_int min2_int max_two min_two max_three min_three max_four min_four   -- for this text's walks alone
set_option linter.unusedVariables false
set_option linter.unusedSimpArgs false

/-! ### stylusref48_Between: function 48 -/
def stylusref48_Between.f (k : Nat) (a0 : ByteArray) (a1 : ByteArray) : Option ((List (S47))) := (stylusref48_fits.f a0).bind fun t135 => (if t135 = true then ((stylusref48_fits.f a1).bind fun t136 => (if t136 = true then (if a0.toList = a1.toList then (some ([] : List (S47))) else ((stylusref48_Alike.f k a0 a1).bind fun bt137 => (if 0 ≤ bt137.1 then (if bt137.1 ≤ (wrap64 ((a0.size : Int) - bt137.2)) then (if (wrap64 ((a0.size : Int) - bt137.2)) ≤ (a0.size : Int) then (if bt137.1 ≤ (wrap64 ((a1.size : Int) - bt137.2)) then (if (wrap64 ((a1.size : Int) - bt137.2)) ≤ (a1.size : Int) then (some (([(⟨bt137.1, a0.extract (bt137.1 : Int).toNat ((wrap64 ((a0.size : Int) - bt137.2)) : Int).toNat, a1.extract (bt137.1 : Int).toNat ((wrap64 ((a1.size : Int) - bt137.2)) : Int).toNat⟩ : S47)] : List (S47)))) else (none)) else (none)) else (none)) else (none)) else (none)))) else (some ([] : List (S47))))) else (some ([] : List (S47))))
theorem stylusref48_Between.mono : ∀ a0 a1 k, LeO (stylusref48_Between.f k a0 a1) (stylusref48_Between.f (k + 1) a0 a1) := by
  intro a0 a1 k
  unfold stylusref48_Between.f
  repeat' first
      | (with_reducible exact stylusref48_Alike.mono _ _ _)
      | (with_reducible exact LeO.refl _)
      | (with_reducible exact LeO.none _)
      | (with_reducible refine LeO.ite ?_ ?_)
      | (with_reducible refine LeO.bind ?_ (fun _ => ?_))
      | exact stylusref48_Alike.mono _ _ _
      | exact LeO.none _
      | refine LeO.ite ?_ ?_
      | refine LeO.bind ?_ (fun _ => ?_)
def stylusref48_Between.T4 : Bool × List (List Nat × List Nat) := (true, [([], []), ([], []), ([], []), ([], []), ([3], [3]), ([], []), ([4, 5], [4, 5]), ([1, 2, 6], [1, 2, 6]), ([], []), ([], []), ([], []), ([10], [10]), ([], []), ([11, 12], [11, 12]), ([8, 9, 13], [8, 9, 13]), ([0, 7, 14], [0, 7, 14]), ([15], [15]), ([16, 0, 1, 2, 3, 4, 5, 6, 7, 8, 9, 10, 11, 12, 13, 14, 15, 16], [16])])
def stylusref48_Between.B4 : List Nat := [0, 0, 0, 0, 8, 0, 56, 126, 0, 0, 0, 1024, 0, 7168, 16128, 32767, 65535, 131071]
theorem stylusref48_Between.tab4 : rtab .any (opsOf Try.f48 4) = stylusref48_Between.T4 := by kernel_rfl
theorem stylusref48_Between.bits4 : waitsOk stylusref48_Between.T4.2 stylusref48_Between.B4 = true := by kernel_rfl
set_option maxHeartbeats 8000000 in
set_option maxRecDepth 100000 in
theorem stylusref48_Between.calls (k : Nat) (a0 : ByteArray) (a1 : ByteArray) (r : List (S47)) (w : World) (h : stylusref48_Between.f k a0 a1 = some r) :
    Calls Try.prog 48 #[.string a0, .string a1] w fun e w' => ∃ v0_ : Value, e = .returned (v0_) ∧ Kd.R k47 47 w' w.heap.size (fun _ => True) v0_ r ∧ Below w.heap.size w w' := by
  have hu47 := Try.underlying47
  have HB := Aside0.mk (Below.refl w.heap.size w)
  have H : ((stylusref48_fits.f a0).bind fun t135 => (if t135 = true then ((stylusref48_fits.f a1).bind fun t136 => (if t136 = true then (if a0.toList = a1.toList then (some ([] : List (S47))) else ((stylusref48_Alike.f k a0 a1).bind fun bt137 => (if 0 ≤ bt137.1 then (if bt137.1 ≤ (wrap64 ((a0.size : Int) - bt137.2)) then (if (wrap64 ((a0.size : Int) - bt137.2)) ≤ (a0.size : Int) then (if bt137.1 ≤ (wrap64 ((a1.size : Int) - bt137.2)) then (if (wrap64 ((a1.size : Int) - bt137.2)) ≤ (a1.size : Int) then (some (([(⟨bt137.1, a0.extract (bt137.1 : Int).toNat ((wrap64 ((a0.size : Int) - bt137.2)) : Int).toNat, a1.extract (bt137.1 : Int).toNat ((wrap64 ((a1.size : Int) - bt137.2)) : Int).toNat⟩ : S47)] : List (S47)))) else (none)) else (none)) else (none)) else (none)) else (none)))) else (some ([] : List (S47))))) else (some ([] : List (S47))))) = some r := h
  clear h
  replace H := Option.bind_eq_some_iff.mp H
  obtain ⟨t135, A30, H⟩ := H
  replace H : (if t135 = true then ((stylusref48_fits.f a1).bind fun t136 => (if t136 = true then (if a0.toList = a1.toList then (some ([] : List (S47))) else ((stylusref48_Alike.f k a0 a1).bind fun bt137 => (if 0 ≤ bt137.1 then (if bt137.1 ≤ (wrap64 ((a0.size : Int) - bt137.2)) then (if (wrap64 ((a0.size : Int) - bt137.2)) ≤ (a0.size : Int) then (if bt137.1 ≤ (wrap64 ((a1.size : Int) - bt137.2)) then (if (wrap64 ((a1.size : Int) - bt137.2)) ≤ (a1.size : Int) then (some (([(⟨bt137.1, a0.extract (bt137.1 : Int).toNat ((wrap64 ((a0.size : Int) - bt137.2)) : Int).toNat, a1.extract (bt137.1 : Int).toNat ((wrap64 ((a1.size : Int) - bt137.2)) : Int).toNat⟩ : S47)] : List (S47)))) else (none)) else (none)) else (none)) else (none)) else (none)))) else (some ([] : List (S47))))) else (some ([] : List (S47)))) = some r := H
  have A3 := Aside0.mk A30
  clear A30
  by_cases c4 : t135 = true
  · subst c4
    have H1 : ((stylusref48_fits.f a1).bind fun t136 => (if t136 = true then (if a0.toList = a1.toList then (some ([] : List (S47))) else ((stylusref48_Alike.f k a0 a1).bind fun bt137 => (if 0 ≤ bt137.1 then (if bt137.1 ≤ (wrap64 ((a0.size : Int) - bt137.2)) then (if (wrap64 ((a0.size : Int) - bt137.2)) ≤ (a0.size : Int) then (if bt137.1 ≤ (wrap64 ((a1.size : Int) - bt137.2)) then (if (wrap64 ((a1.size : Int) - bt137.2)) ≤ (a1.size : Int) then (some (([(⟨bt137.1, a0.extract (bt137.1 : Int).toNat ((wrap64 ((a0.size : Int) - bt137.2)) : Int).toNat, a1.extract (bt137.1 : Int).toNat ((wrap64 ((a1.size : Int) - bt137.2)) : Int).toNat⟩ : S47)] : List (S47)))) else (none)) else (none)) else (none)) else (none)) else (none)))) else (some ([] : List (S47))))) = some r := by rw [if_pos rfl] at H; exact H
    clear H
    have H := H1
    clear H1
    replace H := Option.bind_eq_some_iff.mp H
    obtain ⟨t136, A50, H⟩ := H
    replace H : (if t136 = true then (if a0.toList = a1.toList then (some ([] : List (S47))) else ((stylusref48_Alike.f k a0 a1).bind fun bt137 => (if 0 ≤ bt137.1 then (if bt137.1 ≤ (wrap64 ((a0.size : Int) - bt137.2)) then (if (wrap64 ((a0.size : Int) - bt137.2)) ≤ (a0.size : Int) then (if bt137.1 ≤ (wrap64 ((a1.size : Int) - bt137.2)) then (if (wrap64 ((a1.size : Int) - bt137.2)) ≤ (a1.size : Int) then (some (([(⟨bt137.1, a0.extract (bt137.1 : Int).toNat ((wrap64 ((a0.size : Int) - bt137.2)) : Int).toNat, a1.extract (bt137.1 : Int).toNat ((wrap64 ((a1.size : Int) - bt137.2)) : Int).toNat⟩ : S47)] : List (S47)))) else (none)) else (none)) else (none)) else (none)) else (none)))) else (some ([] : List (S47)))) = some r := H
    have A5 := Aside0.mk A50
    clear A50
    by_cases c6 : t136 = true
    · subst c6
      have H1 : (if a0.toList = a1.toList then (some ([] : List (S47))) else ((stylusref48_Alike.f k a0 a1).bind fun bt137 => (if 0 ≤ bt137.1 then (if bt137.1 ≤ (wrap64 ((a0.size : Int) - bt137.2)) then (if (wrap64 ((a0.size : Int) - bt137.2)) ≤ (a0.size : Int) then (if bt137.1 ≤ (wrap64 ((a1.size : Int) - bt137.2)) then (if (wrap64 ((a1.size : Int) - bt137.2)) ≤ (a1.size : Int) then (some (([(⟨bt137.1, a0.extract (bt137.1 : Int).toNat ((wrap64 ((a0.size : Int) - bt137.2)) : Int).toNat, a1.extract (bt137.1 : Int).toNat ((wrap64 ((a1.size : Int) - bt137.2)) : Int).toNat⟩ : S47)] : List (S47)))) else (none)) else (none)) else (none)) else (none)) else (none)))) = some r := by rw [if_pos rfl] at H; exact H
      clear H
      have H := H1
      clear H1
      by_cases c7 : a0.toList = a1.toList
      · rw [if_pos c7] at H
        have c7b0 : (a0.toList == a1.toList) = true := beq_iff_eq.mpr c7
        have c7b1 : (a0.toList != a1.toList) = false := bne_eq_false_iff_eq.mpr c7
        clear c7
        obtain rfl := Option.some.inj H
        go_enter Try.func48, Try.ntmps48
        go_wp2_with (first | ((with_reducible refine gate_callee (f := 67) rfl ?_); refine goesL_ (some 8) rfl rfl Try.func67 (by kernel_rfl) rfl #[.string a0] rfl (by (try simp only [List.map_toArray, List.map_cons, List.map_nil]); first | done | rfl | (simp only [List.length_drop, List.length_take]; rfl)) ?_; (with_reducible refine (stylusref48_fits.calls a0 true _ A3.out).mono ?_); rintro e w8 ⟨rfl, hb⟩; refine ⟨_, rfl, ?_⟩; have n0_ := Aside0.mk (below_step (by repeat (first | (with_reducible first | exact HB.out | apply below_alloc | apply pw_below_drewN | apply below_drew1) | exact HB.out)) hb); clear HB; have HB := n0_; clear n0_; (try clear hb); (try clear hb2); (try clear hk); (try clear hi)) | (go_at_call 67; (with_reducible refine (stylusref48_fits.calls a1 true _ A5.out).mono ?_); rintro e w9 ⟨rfl, hb⟩; have n0_ := Aside0.mk (below_step (by repeat (first | (with_reducible first | exact HB.out | apply below_alloc | apply pw_below_drewN | apply below_drew1) | exact HB.out)) hb); clear HB; have HB := n0_; clear n0_; (try clear hb); (try clear hb2); (try clear hk); (try clear hi)))
        go_ret
        exact ⟨_, by first | rfl | (simp [errW_none, errW_some] <;> rfl) | (simp [*, errW_none, errW_some] <;> rfl), by first | exact Kd.R_nil _ _ _ _ _ | exact Kd.N_nil _ _ _ _ _ | exact Kd.V_nil _ _ _ _ _ | exact Kd.Q_nil _ _ _ _ _ | exact Kd.S_nil _ _ _ _ _, by repeat (first | (with_reducible first | exact HB.out | apply below_alloc | apply pw_below_drewN | apply below_drew1) | exact HB.out)⟩
      · rw [if_neg c7] at H
        have c7b0 : (a0.toList == a1.toList) = false := beq_eq_false_iff_ne.mpr c7
        have c7b1 : (a0.toList != a1.toList) = true := bne_iff_ne.mpr c7
        replace H := Option.bind_eq_some_iff.mp H
        obtain ⟨⟨t137, t138⟩, A100, H⟩ := H
        replace H : (if 0 ≤ t137 then (if t137 ≤ (wrap64 ((a0.size : Int) - t138)) then (if (wrap64 ((a0.size : Int) - t138)) ≤ (a0.size : Int) then (if t137 ≤ (wrap64 ((a1.size : Int) - t138)) then (if (wrap64 ((a1.size : Int) - t138)) ≤ (a1.size : Int) then (some (([(⟨t137, a0.extract (t137 : Int).toNat ((wrap64 ((a0.size : Int) - t138)) : Int).toNat, a1.extract (t137 : Int).toNat ((wrap64 ((a1.size : Int) - t138)) : Int).toNat⟩ : S47)] : List (S47)))) else (none)) else (none)) else (none)) else (none)) else (none)) = some r := H
        have A10 := Aside0.mk A100
        clear A100
        by_cases c11 : 0 ≤ t137
        · rw [if_pos c11] at H
          have c11b0 := eq_true c11
          have c11b1 : decide (0 ≤ t137) = true := decide_eq_true c11
          clear c11
          by_cases c12 : t137 ≤ (wrap64 ((a0.size : Int) - t138))
          · rw [if_pos c12] at H
            have c12b0 := eq_true c12
            have c12b1 : decide (t137 ≤ (wrap64 ((a0.size : Int) - t138))) = true := decide_eq_true c12
            clear c12
            by_cases c13 : (wrap64 ((a0.size : Int) - t138)) ≤ (a0.size : Int)
            · rw [if_pos c13] at H
              have c13b0 := eq_true c13
              have c13b1 : decide ((wrap64 ((a0.size : Int) - t138)) ≤ (a0.size : Int)) = true := decide_eq_true c13
              clear c13
              have c14b0 := eq_true (of_decide_eq_true (by first | (with_reducible assumption) | assumption) : 0 ≤ t137)
              by_cases c15 : t137 ≤ (wrap64 ((a1.size : Int) - t138))
              · rw [if_pos c15] at H
                have c15b0 := eq_true c15
                have c15b1 : decide (t137 ≤ (wrap64 ((a1.size : Int) - t138))) = true := decide_eq_true c15
                clear c15
                by_cases c16 : (wrap64 ((a1.size : Int) - t138)) ≤ (a1.size : Int)
                · rw [if_pos c16] at H
                  have c16b0 := eq_true c16
                  have c16b1 : decide ((wrap64 ((a1.size : Int) - t138)) ≤ (a1.size : Int)) = true := decide_eq_true c16
                  clear c16
                  obtain ⟨y139, hy139⟩ : ∃ y_ : List (S47), y_ = (([(⟨t137, a0.extract (t137 : Int).toNat ((wrap64 ((a0.size : Int) - t138)) : Int).toNat, a1.extract (t137 : Int).toNat ((wrap64 ((a1.size : Int) - t138)) : Int).toNat⟩ : S47)] : List (S47))) := ⟨_, rfl⟩
                  replace H : (some y139) = some r := by first | (rw [hy139]; with_reducible exact H) | (have H2_ := (Option.bind_some _ _).symm.trans H; rw [hy139]; with_reducible exact H2_) | (have H2_ := (Option.bind_some _ _).symm.trans H; with_reducible exact H2_) | with_reducible exact H | (rw [hy139]; exact H) | exact H
                  have Ny139 := Aside0.mk hy139
                  clear hy139
                  obtain rfl := Option.some.inj H
                  go_enter Try.func48, Try.ntmps48
                  try go_wp2_with (first | ((with_reducible refine gate_callee (f := 67) rfl ?_); refine goesL_ (some 8) rfl rfl Try.func67 (by kernel_rfl) rfl #[.string a0] rfl (by (try simp only [List.map_toArray, List.map_cons, List.map_nil]); first | done | rfl | (simp only [List.length_drop, List.length_take]; rfl)) ?_; (with_reducible refine (stylusref48_fits.calls a0 true _ A3.out).mono ?_); rintro e w17 ⟨rfl, hb⟩; refine ⟨_, rfl, ?_⟩; have n0_ := Aside0.mk (below_step (by repeat (first | (with_reducible first | exact HB.out | apply below_alloc | apply pw_below_drewN | apply below_drew1) | exact HB.out)) hb); clear HB; have HB := n0_; clear n0_; (try clear hb); (try clear hb2); (try clear hk); (try clear hi)) | (go_at_call 67; (with_reducible refine (stylusref48_fits.calls a1 true _ A5.out).mono ?_); rintro e w18 ⟨rfl, hb⟩; have n0_ := Aside0.mk (below_step (by repeat (first | (with_reducible first | exact HB.out | apply below_alloc | apply pw_below_drewN | apply below_drew1) | exact HB.out)) hb); clear HB; have HB := n0_; clear n0_; (try clear hb); (try clear hb2); (try clear hk); (try clear hi)) | ((with_reducible refine gate_callee (f := 45) rfl ?_); refine goesL_ (some 23) rfl rfl Try.func45 (by kernel_rfl) rfl #[.string a0, .string a1] rfl (by (try simp only [List.map_toArray, List.map_cons, List.map_nil]); first | done | rfl | (simp only [List.length_drop, List.length_take]; rfl)) ?_; (with_reducible refine (stylusref48_Alike.calls k a0 a1 t137 t138 _ A10.out).mono ?_); rintro e w19 ⟨rfl, hb⟩; refine ⟨_, rfl, ?_⟩; have n0_ := Aside0.mk (below_step (by repeat (first | (with_reducible first | exact HB.out | apply below_alloc | apply pw_below_drewN | apply below_drew1) | exact HB.out)) hb); clear HB; have HB := n0_; clear n0_; (try clear hb); (try clear hb2); (try clear hk); (try clear hi)))
                  have n0_ := Aside0.mk (below_drew1 HB.out)
                  clear HB
                  have HB := n0_
                  clear n0_
                  refine start_ (n := 18) (S := fun w' => True) (ds := []) #[false, false, false, false, false, false, false, false, false, false, false, false, false, false, false, false, false, false] (by kernel_rfl) rfl rfl trivial (fun hHeld => ?_); refine with_tabW stylusref48_Between.tab4 stylusref48_Between.bits4 (fun HT_ HW_ => ?_)
                  generalize w19.drew = w20 at HB hHeld ⊢
                  refine pure_ (i := 0) (N := some 26) (v := ?_) (a' := ?_) #[true, false, false, false, false, false, false, false, false, false, false, false, false, false, false, false, false, false] rfl rfl (any_of HT_.out (by kernel_rfl)) (fun _ _ _ h => h) (Or.inl ⟨by rfl, ?_⟩) ?_ ?_
                  rotate_left
                  · intro w'
                    go_simp
                    with_reducible rfl
                  rotate_left
                  · simp only [Act.put, List.setIfInBounds_toArray, List.set_cons_zero, List.set_cons_succ, i64_w, i32_w]
                    rfl
                  refine pure_ (i := 1) (N := some 27) (v := ?_) (a' := ?_) #[true, true, false, false, false, false, false, false, false, false, false, false, false, false, false, false, false, false] rfl rfl (any_of HT_.out (by kernel_rfl)) (fun _ _ _ h => h) (Or.inl ⟨by rfl, ?_⟩) ?_ ?_
                  rotate_left
                  · intro w'
                    go_simp
                    with_reducible rfl
                  rotate_left
                  · simp only [Act.put, List.setIfInBounds_toArray, List.set_cons_zero, List.set_cons_succ, i64_w, i32_w]
                    rfl
                  refine pure_ (i := 2) (N := some 28) (v := ?_) (a' := ?_) #[true, true, true, false, false, false, false, false, false, false, false, false, false, false, false, false, false, false] rfl rfl (any_of HT_.out (by kernel_rfl)) (fun _ _ _ h => h) (Or.inl ⟨by rfl, ?_⟩) ?_ ?_
                  rotate_left
                  · intro w'
                    go_simp
                    with_reducible rfl
                  rotate_left
                  · simp only [Act.put, List.setIfInBounds_toArray, List.set_cons_zero, List.set_cons_succ, i64_w, i32_w]
                    rfl
                  refine pure_ (i := 3) (N := some 29) (v := ?_) (a' := ?_) #[true, true, true, true, false, false, false, false, false, false, false, false, false, false, false, false, false, false] rfl rfl (any_of HT_.out (by kernel_rfl)) (fun _ _ _ h => h) (Or.inl ⟨by rfl, ?_⟩) ?_ ?_
                  rotate_left
                  · intro w'
                    go_simp
                    with_reducible rfl
                  rotate_left
                  · simp only [Act.put, List.setIfInBounds_toArray, List.set_cons_zero, List.set_cons_succ, i64_w, i32_w]
                    rfl
                  refine pure_ (i := 4) (N := some 30) (v := ?_) (a' := ?_) #[true, true, true, true, true, false, false, false, false, false, false, false, false, false, false, false, false, false] rfl rfl (any_of HT_.out (by kernel_rfl)) (fun _ _ _ h => h) (Or.inl ⟨by rfl, ?_⟩) ?_ ?_
                  rotate_left
                  · intro w'
                    go_simp
                    with_reducible rfl
                  rotate_left
                  · simp only [Act.put, List.setIfInBounds_toArray, List.set_cons_zero, List.set_cons_succ, i64_w, i32_w]
                    rfl
                  refine pure_ (i := 5) (N := some 31) (v := ?_) (a' := ?_) #[true, true, true, true, true, true, false, false, false, false, false, false, false, false, false, false, false, false] rfl rfl (any_of HT_.out (by kernel_rfl)) (fun _ _ _ h => h) (Or.inl ⟨by rfl, ?_⟩) ?_ ?_
                  rotate_left
                  · intro w'
                    go_simp
                    with_reducible rfl
                  rotate_left
                  · simp only [Act.put, List.setIfInBounds_toArray, List.set_cons_zero, List.set_cons_succ, i64_w, i32_w]
                    rfl
                  refine pure_ (i := 6) (N := some 32) (v := ?_) (a' := ?_) #[true, true, true, true, true, true, true, false, false, false, false, false, false, false, false, false, false, false] rfl rfl (any_of HT_.out (by kernel_rfl)) (fun _ _ _ h => h) (Or.inl ⟨by rfl, ?_⟩) ?_ ?_
                  rotate_left
                  · intro w'
                    go_simp
                    with_reducible rfl
                  rotate_left
                  · simp only [Act.put, List.setIfInBounds_toArray, List.set_cons_zero, List.set_cons_succ, i64_w, i32_w]
                    rfl
                  refine pure_ (i := 7) (N := some 33) (v := ?_) (a' := ?_) #[true, true, true, true, true, true, true, true, false, false, false, false, false, false, false, false, false, false] rfl rfl (any_of HT_.out (by kernel_rfl)) (fun _ _ _ h => h) (Or.inl ⟨by rfl, ?_⟩) ?_ ?_
                  rotate_left
                  · intro w'
                    go_simp
                    with_reducible rfl
                  rotate_left
                  · simp only [Act.put, List.setIfInBounds_toArray, List.set_cons_zero, List.set_cons_succ, i64_w, i32_w]
                    rfl
                  refine pure_ (i := 8) (N := some 34) (v := ?_) (a' := ?_) #[true, true, true, true, true, true, true, true, true, false, false, false, false, false, false, false, false, false] rfl rfl (any_of HT_.out (by kernel_rfl)) (fun _ _ _ h => h) (Or.inl ⟨by rfl, ?_⟩) ?_ ?_
                  rotate_left
                  · intro w'
                    go_simp
                    with_reducible rfl
                  rotate_left
                  · simp only [Act.put, List.setIfInBounds_toArray, List.set_cons_zero, List.set_cons_succ, i64_w, i32_w]
                    rfl
                  refine pure_ (i := 9) (N := some 35) (v := ?_) (a' := ?_) #[true, true, true, true, true, true, true, true, true, true, false, false, false, false, false, false, false, false] rfl rfl (any_of HT_.out (by kernel_rfl)) (fun _ _ _ h => h) (Or.inl ⟨by rfl, ?_⟩) ?_ ?_
                  rotate_left
                  · intro w'
                    go_simp
                    with_reducible rfl
                  rotate_left
                  · simp only [Act.put, List.setIfInBounds_toArray, List.set_cons_zero, List.set_cons_succ, i64_w, i32_w]
                    rfl
                  refine pure_ (i := 10) (N := some 36) (v := ?_) (a' := ?_) #[true, true, true, true, true, true, true, true, true, true, true, false, false, false, false, false, false, false] rfl rfl (any_of HT_.out (by kernel_rfl)) (fun _ _ _ h => h) (Or.inl ⟨by rfl, ?_⟩) ?_ ?_
                  rotate_left
                  · intro w'
                    go_simp
                    with_reducible rfl
                  rotate_left
                  · simp only [Act.put, List.setIfInBounds_toArray, List.set_cons_zero, List.set_cons_succ, i64_w, i32_w]
                    rfl
                  refine pure_ (i := 11) (N := some 37) (v := ?_) (a' := ?_) #[true, true, true, true, true, true, true, true, true, true, true, true, false, false, false, false, false, false] rfl rfl (any_of HT_.out (by kernel_rfl)) (fun _ _ _ h => h) (Or.inl ⟨by rfl, ?_⟩) ?_ ?_
                  rotate_left
                  · intro w'
                    go_simp
                    with_reducible rfl
                  rotate_left
                  · simp only [Act.put, List.setIfInBounds_toArray, List.set_cons_zero, List.set_cons_succ, i64_w, i32_w]
                    rfl
                  refine pure_ (i := 12) (N := some 38) (v := ?_) (a' := ?_) #[true, true, true, true, true, true, true, true, true, true, true, true, true, false, false, false, false, false] rfl rfl (any_of HT_.out (by kernel_rfl)) (fun _ _ _ h => h) (Or.inl ⟨by rfl, ?_⟩) ?_ ?_
                  rotate_left
                  · intro w'
                    go_simp
                    with_reducible rfl
                  rotate_left
                  · simp only [Act.put, List.setIfInBounds_toArray, List.set_cons_zero, List.set_cons_succ, i64_w, i32_w]
                    rfl
                  refine pure_ (i := 13) (N := some 39) (v := ?_) (a' := ?_) #[true, true, true, true, true, true, true, true, true, true, true, true, true, true, false, false, false, false] rfl rfl (any_of HT_.out (by kernel_rfl)) (fun _ _ _ h => h) (Or.inl ⟨by rfl, ?_⟩) ?_ ?_
                  rotate_left
                  · intro w'
                    go_simp
                    with_reducible rfl
                  rotate_left
                  · simp only [Act.put, List.setIfInBounds_toArray, List.set_cons_zero, List.set_cons_succ, i64_w, i32_w]
                    rfl
                  refine pure_ (i := 14) (N := some 40) (v := ?_) (a' := ?_) #[true, true, true, true, true, true, true, true, true, true, true, true, true, true, true, false, false, false] rfl rfl (any_of HT_.out (by kernel_rfl)) (fun _ _ _ h => h) (Or.inl ⟨by rfl, ?_⟩) ?_ ?_
                  rotate_left
                  · intro w'
                    go_simp
                    with_reducible rfl
                  rotate_left
                  · simp only [Act.put, List.setIfInBounds_toArray, List.set_cons_zero, List.set_cons_succ, i64_w, i32_w]
                    rfl
                  refine pure_ (i := 15) (N := some 41) (v := ?_) (a' := ?_) #[true, true, true, true, true, true, true, true, true, true, true, true, true, true, true, true, false, false] rfl rfl (any_of HT_.out (by kernel_rfl)) (fun _ _ _ h => h) (Or.inl ⟨by rfl, ?_⟩) ?_ ?_
                  rotate_left
                  · intro w'
                    go_simp
                    with_reducible rfl
                  rotate_left
                  · simp only [Act.put, List.setIfInBounds_toArray, List.set_cons_zero, List.set_cons_succ, i64_w, i32_w]
                    rfl
                  refine one_ (i := 16) (N := some 42) #[true, true, true, true, true, true, true, true, true, true, true, true, true, true, true, true, true, false] rfl rfl (one_of HT_.out (by kernel_rfl)) (by decide) (fun K hK => ?_)
                  refine Kd.R_lit_step k47 _ 47 ?hg (N := 42) ?hd (xs := ([(⟨t137, a0.extract (t137 : Int).toNat ((wrap64 ((a0.size : Int) - t138)) : Int).toNat, a1.extract (t137 : Int).toNat ((wrap64 ((a1.size : Int) - t138)) : Int).toNat⟩ : S47)] : List (S47))) (inner := [.int .i64 t137, .string (a0.extract (t137 : Int).toNat ((wrap64 ((a0.size : Int) - t138)) : Int).toNat), .string (a1.extract (t137 : Int).toNat ((wrap64 ((a1.size : Int) - t138)) : Int).toNat)]) (ok := fun _ => True) (okp := fun _ => True) ?hr ?hp (fun _ hk => hk) trivial (Below.refl _ _) (Nat.le_refl _) (by simp) ?_; (case hd => rfl); (case hg => rfl); (case hr => first | (go_simp; done) | (go_simp; rfl)); (case hp => exact (Reps.c3 (show Kd.M k47 _ _ _ (⟨t137, a0.extract (t137 : Int).toNat ((wrap64 ((a0.size : Int) - t138)) : Int).toNat, a1.extract (t137 : Int).toNat ((wrap64 ((a1.size : Int) - t138)) : Int).toNat⟩ : S47) [.int .i64 t137, .string (a0.extract (t137 : Int).toNat ((wrap64 ((a0.size : Int) - t138)) : Int).toNat), .string (a1.extract (t137 : Int).toNat ((wrap64 ((a1.size : Int) - t138)) : Int).toNat)] from (k47_mkM _ _ _ (⟨t137, a0.extract (t137 : Int).toNat ((wrap64 ((a0.size : Int) - t138)) : Int).toNat, a1.extract (t137 : Int).toNat ((wrap64 ((a1.size : Int) - t138)) : Int).toNat⟩ : S47) )) (Reps.none _ _)))
                  intro v140 w21 ho22 hb hg_ hnew_
                  clear hg_ hnew_
                  (first | rw [← Ny139.out] at ho22 | (simp only [Int.reduceToNat] at ho22; rw [← Ny139.out] at ho22))
                  have n0_ := Aside0.mk (Kd.R_lower ho22 (below_size (by repeat (first | (with_reducible first | exact HB.out | apply below_alloc | apply pw_below_drewN | apply below_drew1) | exact HB.out))))
                  have n1_ := Aside0.mk (below_step (by repeat (first | (with_reducible first | exact HB.out | apply below_alloc | apply pw_below_drewN | apply below_drew1) | exact HB.out)) hb)
                  clear HB
                  have HO141 := n0_
                  have HB := n1_
                  clear n0_ n1_
                  clear hb ho22
                  refine hK.out _ _ trivial (fun hHeld => ?_)
                  clear hK K
                  refine norm_ (a' := ?_) ?_ ?_
                  rotate_left
                  · show Act.put _ (some 42) _ = _
                    simp only [Act.put, List.setIfInBounds_toArray, List.set_cons_zero, List.set_cons_succ, i64_w, i32_w]
                    rfl
                  refine pure_ (i := 17) (N := some 4) (v := ?_) (a' := ?_) #[true, true, true, true, true, true, true, true, true, true, true, true, true, true, true, true, true, true] rfl rfl (any_of HT_.out (by kernel_rfl)) (fun _ _ _ h => h) (Or.inl ⟨by rfl, ?_⟩) ?_ ?_
                  rotate_left
                  · intro w'
                    go_simp
                    with_reducible rfl
                  rotate_left
                  · simp only [Act.put, List.setIfInBounds_toArray, List.set_cons_zero, List.set_cons_succ, i64_w, i32_w]
                    rfl
                  refine done_ (done_of HT_.out (by kernel_rfl)) ?_
                  try go_wp2
                  go_ret
                  exact ⟨_, by first | rfl | (simp [errW_none, errW_some] <;> rfl) | (simp [*, errW_none, errW_some] <;> rfl), by (with_reducible repeat (first | apply Kd.R_alloc | apply Kd.R_drewN | apply Kd.R_drew)); exact HO141.out, by repeat (first | (with_reducible first | exact HB.out | apply below_alloc | apply pw_below_drewN | apply below_drew1) | exact HB.out)⟩
                · rw [if_neg c16] at H
                  exact absurd H (by simp)
              · rw [if_neg c15] at H
                exact absurd H (by simp)
            · rw [if_neg c13] at H
              exact absurd H (by simp)
          · rw [if_neg c12] at H
            exact absurd H (by simp)
        · rw [if_neg c11] at H
          exact absurd H (by simp)
    · replace c6 := Bool.eq_false_iff.mpr c6
      subst c6
      have H1 : (some ([] : List (S47))) = some r := by rw [if_neg (show ¬ (false = true) by decide)] at H; exact H
      clear H
      have H := H1
      clear H1
      obtain rfl := Option.some.inj H
      go_enter Try.func48, Try.ntmps48
      go_wp2_with (first | ((with_reducible refine gate_callee (f := 67) rfl ?_); refine goesL_ (some 8) rfl rfl Try.func67 (by kernel_rfl) rfl #[.string a0] rfl (by (try simp only [List.map_toArray, List.map_cons, List.map_nil]); first | done | rfl | (simp only [List.length_drop, List.length_take]; rfl)) ?_; (with_reducible refine (stylusref48_fits.calls a0 true _ A3.out).mono ?_); rintro e w23 ⟨rfl, hb⟩; refine ⟨_, rfl, ?_⟩; have n0_ := Aside0.mk (below_step (by repeat (first | (with_reducible first | exact HB.out | apply below_alloc | apply pw_below_drewN | apply below_drew1) | exact HB.out)) hb); clear HB; have HB := n0_; clear n0_; (try clear hb); (try clear hb2); (try clear hk); (try clear hi)) | (go_at_call 67; (with_reducible refine (stylusref48_fits.calls a1 false _ A5.out).mono ?_); rintro e w24 ⟨rfl, hb⟩; have n0_ := Aside0.mk (below_step (by repeat (first | (with_reducible first | exact HB.out | apply below_alloc | apply pw_below_drewN | apply below_drew1) | exact HB.out)) hb); clear HB; have HB := n0_; clear n0_; (try clear hb); (try clear hb2); (try clear hk); (try clear hi)))
      go_ret
      exact ⟨_, by first | rfl | (simp [errW_none, errW_some] <;> rfl) | (simp [*, errW_none, errW_some] <;> rfl), by first | exact Kd.R_nil _ _ _ _ _ | exact Kd.N_nil _ _ _ _ _ | exact Kd.V_nil _ _ _ _ _ | exact Kd.Q_nil _ _ _ _ _ | exact Kd.S_nil _ _ _ _ _, by repeat (first | (with_reducible first | exact HB.out | apply below_alloc | apply pw_below_drewN | apply below_drew1) | exact HB.out)⟩
  · replace c4 := Bool.eq_false_iff.mpr c4
    subst c4
    have H1 : (some ([] : List (S47))) = some r := by rw [if_neg (show ¬ (false = true) by decide)] at H; exact H
    clear H
    have H := H1
    clear H1
    obtain rfl := Option.some.inj H
    go_enter Try.func48, Try.ntmps48
    go_wp2_with (first | ((with_reducible refine gate_callee (f := 67) rfl ?_); refine goesL_ (some 8) rfl rfl Try.func67 (by kernel_rfl) rfl #[.string a0] rfl (by (try simp only [List.map_toArray, List.map_cons, List.map_nil]); first | done | rfl | (simp only [List.length_drop, List.length_take]; rfl)) ?_; (with_reducible refine (stylusref48_fits.calls a0 false _ A3.out).mono ?_); rintro e w25 ⟨rfl, hb⟩; refine ⟨_, rfl, ?_⟩; have n0_ := Aside0.mk (below_step (by repeat (first | (with_reducible first | exact HB.out | apply below_alloc | apply pw_below_drewN | apply below_drew1) | exact HB.out)) hb); clear HB; have HB := n0_; clear n0_; (try clear hb); (try clear hb2); (try clear hk); (try clear hi)))
    go_ret
    exact ⟨_, by first | rfl | (simp [errW_none, errW_some] <;> rfl) | (simp [*, errW_none, errW_some] <;> rfl), by first | exact Kd.R_nil _ _ _ _ _ | exact Kd.N_nil _ _ _ _ _ | exact Kd.V_nil _ _ _ _ _ | exact Kd.Q_nil _ _ _ _ _ | exact Kd.S_nil _ _ _ _ _, by repeat (first | (with_reducible first | exact HB.out | apply below_alloc | apply pw_below_drewN | apply below_drew1) | exact HB.out)⟩

end Go.Proofs.Yteniemhecfkfoaa.QD
