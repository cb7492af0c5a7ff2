-- Written by a program of this session (wip/tools/bundle.sh), which turns the kit's print for functions given by hand. Lean checks it.
import Derived.Test.YteniemhecfkfoaaQDx0
import Derived.Test.YteniemhecfkfoaaQDx2
import Derived.Test.YteniemhecfkfoaaQDx4
namespace Go.Proofs.Yteniemhecfkfoaa.QD
open Go.RowKit Go.Proofs.Yteniemhecfkfoaa.U Go.Proofs.YteniemhecfkfoaaW.PrintWords Go.Proofs.YteniemhecfkfoaaW.PrintLast Go.Proofs.YteniemhecfkfoaaW.PrintMore
attribute [local go_sem] max2_int min2_int max_two min_two max_three min_three max_four min_four   -- for this text's walks alone
set_option linter.unusedVariables false
set_option linter.unusedSimpArgs false

/-! ### differ_Between: function 37 -/
def differ_Between.f (k : Nat) (a0 : ByteArray) (a1 : ByteArray) : Option ((List (S47))) := if a0.toList = a1.toList then (some ([] : List (S47))) else ((differ_fits.f a0).bind fun t110 => (if t110 = true then ((differ_fits.f a1).bind fun t111 => (if t111 = true then ((differ_Alike.f k a0 a1).bind fun bt112 => (if 0 ≤ bt112.1 then (if bt112.1 ≤ (wrap64 ((a0.size : Int) - bt112.2)) then (if (wrap64 ((a0.size : Int) - bt112.2)) ≤ (a0.size : Int) then (if bt112.1 ≤ (wrap64 ((a1.size : Int) - bt112.2)) then (if (wrap64 ((a1.size : Int) - bt112.2)) ≤ (a1.size : Int) then (some (([(⟨bt112.1, a0.extract (bt112.1 : Int).toNat ((wrap64 ((a0.size : Int) - bt112.2)) : Int).toNat, a1.extract (bt112.1 : Int).toNat ((wrap64 ((a1.size : Int) - bt112.2)) : Int).toNat⟩ : S47)] : List (S47)))) else (none)) else (none)) else (none)) else (none)) else (none))) else (some ([] : List (S47))))) else (some ([] : List (S47)))))
theorem differ_Between.mono : ∀ a0 a1 k, LeO (differ_Between.f k a0 a1) (differ_Between.f (k + 1) a0 a1) := by
  intro a0 a1 k
  unfold differ_Between.f
  repeat' first
      | (with_reducible exact differ_Alike.mono _ _ _)
      | (with_reducible exact LeO.refl _)
      | (with_reducible exact LeO.none _)
      | (with_reducible refine LeO.ite ?_ ?_)
      | (with_reducible refine LeO.bind ?_ (fun _ => ?_))
      | exact differ_Alike.mono _ _ _
      | exact LeO.none _
      | refine LeO.ite ?_ ?_
      | refine LeO.bind ?_ (fun _ => ?_)
def differ_Between.T4 : Bool × List (List Nat × List Nat) := (true, [([], []), ([], []), ([], []), ([], []), ([3], [3]), ([], []), ([4, 5], [4, 5]), ([1, 2, 6], [1, 2, 6]), ([], []), ([], []), ([], []), ([10], [10]), ([], []), ([11, 12], [11, 12]), ([8, 9, 13], [8, 9, 13]), ([0, 7, 14], [0, 7, 14]), ([15], [15]), ([16, 0, 1, 2, 3, 4, 5, 6, 7, 8, 9, 10, 11, 12, 13, 14, 15, 16], [16])])
def differ_Between.B4 : List Nat := [0, 0, 0, 0, 8, 0, 56, 126, 0, 0, 0, 1024, 0, 7168, 16128, 32767, 65535, 131071]
theorem differ_Between.tab4 : rtab .any (opsOf Try.f37 4) = differ_Between.T4 := by kernel_rfl
theorem differ_Between.bits4 : waitsOk differ_Between.T4.2 differ_Between.B4 = true := by kernel_rfl
set_option maxHeartbeats 8000000 in
set_option maxRecDepth 100000 in
theorem differ_Between.calls (k : Nat) (a0 : ByteArray) (a1 : ByteArray) (r : List (S47)) (w : World) (h : differ_Between.f k a0 a1 = some r) :
    Calls Try.prog 37 #[.string a0, .string a1] w fun e w' => ∃ v0_ : Value, e = .returned (v0_) ∧ Kd.R k47 47 w' w.heap.size (fun _ => True) v0_ r ∧ Below w.heap.size w w' := by
  have hu47 := Try.underlying47
  have HB := Aside0.mk (Below.refl w.heap.size w)
  have H : (if a0.toList = a1.toList then (some ([] : List (S47))) else ((differ_fits.f a0).bind fun t110 => (if t110 = true then ((differ_fits.f a1).bind fun t111 => (if t111 = true then ((differ_Alike.f k a0 a1).bind fun bt112 => (if 0 ≤ bt112.1 then (if bt112.1 ≤ (wrap64 ((a0.size : Int) - bt112.2)) then (if (wrap64 ((a0.size : Int) - bt112.2)) ≤ (a0.size : Int) then (if bt112.1 ≤ (wrap64 ((a1.size : Int) - bt112.2)) then (if (wrap64 ((a1.size : Int) - bt112.2)) ≤ (a1.size : Int) then (some (([(⟨bt112.1, a0.extract (bt112.1 : Int).toNat ((wrap64 ((a0.size : Int) - bt112.2)) : Int).toNat, a1.extract (bt112.1 : Int).toNat ((wrap64 ((a1.size : Int) - bt112.2)) : Int).toNat⟩ : S47)] : List (S47)))) else (none)) else (none)) else (none)) else (none)) else (none))) else (some ([] : List (S47))))) else (some ([] : List (S47)))))) = some r := h
  clear h
  by_cases c3 : a0.toList = a1.toList
  · rw [if_pos c3] at H
    have c3b0 : (a0.toList == a1.toList) = true := beq_iff_eq.mpr c3
    have c3b1 : (a0.toList != a1.toList) = false := bne_eq_false_iff_eq.mpr c3
    clear c3
    obtain rfl := Option.some.inj H
    go_enter Try.func37, Try.ntmps37
    go_wp2
    go_ret
    exact ⟨_, by first | rfl | (simp [errW_none, errW_some] <;> rfl) | (simp [*, errW_none, errW_some] <;> rfl), by first | exact Kd.R_nil _ _ _ _ _ | exact Kd.N_nil _ _ _ _ _ | exact Kd.V_nil _ _ _ _ _ | exact Kd.Q_nil _ _ _ _ _ | exact Kd.S_nil _ _ _ _ _, by repeat (first | (with_reducible first | exact HB.out | apply below_alloc | apply pw_below_drewN | apply below_drew1) | exact HB.out)⟩
  · rw [if_neg c3] at H
    have c3b0 : (a0.toList == a1.toList) = false := beq_eq_false_iff_ne.mpr c3
    have c3b1 : (a0.toList != a1.toList) = true := bne_iff_ne.mpr c3
    replace H := Option.bind_eq_some_iff.mp H
    obtain ⟨t110, A40, H⟩ := H
    replace H : (if t110 = true then ((differ_fits.f a1).bind fun t111 => (if t111 = true then ((differ_Alike.f k a0 a1).bind fun bt112 => (if 0 ≤ bt112.1 then (if bt112.1 ≤ (wrap64 ((a0.size : Int) - bt112.2)) then (if (wrap64 ((a0.size : Int) - bt112.2)) ≤ (a0.size : Int) then (if bt112.1 ≤ (wrap64 ((a1.size : Int) - bt112.2)) then (if (wrap64 ((a1.size : Int) - bt112.2)) ≤ (a1.size : Int) then (some (([(⟨bt112.1, a0.extract (bt112.1 : Int).toNat ((wrap64 ((a0.size : Int) - bt112.2)) : Int).toNat, a1.extract (bt112.1 : Int).toNat ((wrap64 ((a1.size : Int) - bt112.2)) : Int).toNat⟩ : S47)] : List (S47)))) else (none)) else (none)) else (none)) else (none)) else (none))) else (some ([] : List (S47))))) else (some ([] : List (S47)))) = some r := H
    have A4 := Aside0.mk A40
    clear A40
    by_cases c5 : t110 = true
    · subst c5
      have H1 : ((differ_fits.f a1).bind fun t111 => (if t111 = true then ((differ_Alike.f k a0 a1).bind fun bt112 => (if 0 ≤ bt112.1 then (if bt112.1 ≤ (wrap64 ((a0.size : Int) - bt112.2)) then (if (wrap64 ((a0.size : Int) - bt112.2)) ≤ (a0.size : Int) then (if bt112.1 ≤ (wrap64 ((a1.size : Int) - bt112.2)) then (if (wrap64 ((a1.size : Int) - bt112.2)) ≤ (a1.size : Int) then (some (([(⟨bt112.1, a0.extract (bt112.1 : Int).toNat ((wrap64 ((a0.size : Int) - bt112.2)) : Int).toNat, a1.extract (bt112.1 : Int).toNat ((wrap64 ((a1.size : Int) - bt112.2)) : Int).toNat⟩ : S47)] : List (S47)))) else (none)) else (none)) else (none)) else (none)) else (none))) else (some ([] : List (S47))))) = some r := by rw [if_pos rfl] at H; exact H
      clear H
      have H := H1
      clear H1
      replace H := Option.bind_eq_some_iff.mp H
      obtain ⟨t111, A60, H⟩ := H
      replace H : (if t111 = true then ((differ_Alike.f k a0 a1).bind fun bt112 => (if 0 ≤ bt112.1 then (if bt112.1 ≤ (wrap64 ((a0.size : Int) - bt112.2)) then (if (wrap64 ((a0.size : Int) - bt112.2)) ≤ (a0.size : Int) then (if bt112.1 ≤ (wrap64 ((a1.size : Int) - bt112.2)) then (if (wrap64 ((a1.size : Int) - bt112.2)) ≤ (a1.size : Int) then (some (([(⟨bt112.1, a0.extract (bt112.1 : Int).toNat ((wrap64 ((a0.size : Int) - bt112.2)) : Int).toNat, a1.extract (bt112.1 : Int).toNat ((wrap64 ((a1.size : Int) - bt112.2)) : Int).toNat⟩ : S47)] : List (S47)))) else (none)) else (none)) else (none)) else (none)) else (none))) else (some ([] : List (S47)))) = some r := H
      have A6 := Aside0.mk A60
      clear A60
      by_cases c7 : t111 = true
      · subst c7
        have H1 : ((differ_Alike.f k a0 a1).bind fun bt112 => (if 0 ≤ bt112.1 then (if bt112.1 ≤ (wrap64 ((a0.size : Int) - bt112.2)) then (if (wrap64 ((a0.size : Int) - bt112.2)) ≤ (a0.size : Int) then (if bt112.1 ≤ (wrap64 ((a1.size : Int) - bt112.2)) then (if (wrap64 ((a1.size : Int) - bt112.2)) ≤ (a1.size : Int) then (some (([(⟨bt112.1, a0.extract (bt112.1 : Int).toNat ((wrap64 ((a0.size : Int) - bt112.2)) : Int).toNat, a1.extract (bt112.1 : Int).toNat ((wrap64 ((a1.size : Int) - bt112.2)) : Int).toNat⟩ : S47)] : List (S47)))) else (none)) else (none)) else (none)) else (none)) else (none))) = some r := by rw [if_pos rfl] at H; exact H
        clear H
        have H := H1
        clear H1
        replace H := Option.bind_eq_some_iff.mp H
        obtain ⟨⟨t112, t113⟩, A80, H⟩ := H
        replace H : (if 0 ≤ t112 then (if t112 ≤ (wrap64 ((a0.size : Int) - t113)) then (if (wrap64 ((a0.size : Int) - t113)) ≤ (a0.size : Int) then (if t112 ≤ (wrap64 ((a1.size : Int) - t113)) then (if (wrap64 ((a1.size : Int) - t113)) ≤ (a1.size : Int) then (some (([(⟨t112, a0.extract (t112 : Int).toNat ((wrap64 ((a0.size : Int) - t113)) : Int).toNat, a1.extract (t112 : Int).toNat ((wrap64 ((a1.size : Int) - t113)) : Int).toNat⟩ : S47)] : List (S47)))) else (none)) else (none)) else (none)) else (none)) else (none)) = some r := H
        have A8 := Aside0.mk A80
        clear A80
        by_cases c9 : 0 ≤ t112
        · rw [if_pos c9] at H
          have c9b0 := eq_true c9
          have c9b1 : decide (0 ≤ t112) = true := decide_eq_true c9
          clear c9
          by_cases c10 : t112 ≤ (wrap64 ((a0.size : Int) - t113))
          · rw [if_pos c10] at H
            have c10b0 := eq_true c10
            have c10b1 : decide (t112 ≤ (wrap64 ((a0.size : Int) - t113))) = true := decide_eq_true c10
            clear c10
            by_cases c11 : (wrap64 ((a0.size : Int) - t113)) ≤ (a0.size : Int)
            · rw [if_pos c11] at H
              have c11b0 := eq_true c11
              have c11b1 : decide ((wrap64 ((a0.size : Int) - t113)) ≤ (a0.size : Int)) = true := decide_eq_true c11
              clear c11
              have c12b0 := eq_true (of_decide_eq_true (by first | (with_reducible assumption) | assumption) : 0 ≤ t112)
              by_cases c13 : t112 ≤ (wrap64 ((a1.size : Int) - t113))
              · rw [if_pos c13] at H
                have c13b0 := eq_true c13
                have c13b1 : decide (t112 ≤ (wrap64 ((a1.size : Int) - t113))) = true := decide_eq_true c13
                clear c13
                by_cases c14 : (wrap64 ((a1.size : Int) - t113)) ≤ (a1.size : Int)
                · rw [if_pos c14] at H
                  have c14b0 := eq_true c14
                  have c14b1 : decide ((wrap64 ((a1.size : Int) - t113)) ≤ (a1.size : Int)) = true := decide_eq_true c14
                  clear c14
                  obtain ⟨y114, hy114⟩ : ∃ y_ : List (S47), y_ = (([(⟨t112, a0.extract (t112 : Int).toNat ((wrap64 ((a0.size : Int) - t113)) : Int).toNat, a1.extract (t112 : Int).toNat ((wrap64 ((a1.size : Int) - t113)) : Int).toNat⟩ : S47)] : List (S47))) := ⟨_, rfl⟩
                  replace H : (some y114) = some r := by first | (rw [hy114]; with_reducible exact H) | (have H2_ := (Option.bind_some _ _).symm.trans H; rw [hy114]; with_reducible exact H2_) | (have H2_ := (Option.bind_some _ _).symm.trans H; with_reducible exact H2_) | with_reducible exact H | (rw [hy114]; exact H) | exact H
                  have Ny114 := Aside0.mk hy114
                  clear hy114
                  obtain rfl := Option.some.inj H
                  go_enter Try.func37, Try.ntmps37
                  try go_wp2_with (first | (go_at_call 64; (with_reducible refine (differ_fits.calls a0 true _ A4.out).mono ?_); rintro e w15 ⟨rfl, hb⟩; have n0_ := Aside0.mk (below_step (by repeat (first | (with_reducible first | exact HB.out | apply below_alloc | apply pw_below_drewN | apply below_drew1) | exact HB.out)) hb); clear HB; have HB := n0_; clear n0_; (try clear hb); (try clear hb2); (try clear hk); (try clear hi)) | (go_at_call 64; (with_reducible refine (differ_fits.calls a1 true _ A6.out).mono ?_); rintro e w16 ⟨rfl, hb⟩; have n0_ := Aside0.mk (below_step (by repeat (first | (with_reducible first | exact HB.out | apply below_alloc | apply pw_below_drewN | apply below_drew1) | exact HB.out)) hb); clear HB; have HB := n0_; clear n0_; (try clear hb); (try clear hb2); (try clear hk); (try clear hi)) | ((with_reducible refine gate_callee (f := 44) rfl ?_); refine goesL_ (some 23) rfl rfl Try.func44 (by kernel_rfl) rfl #[.string a0, .string a1] rfl (by (try simp only [List.map_toArray, List.map_cons, List.map_nil]); first | done | rfl | (simp only [List.length_drop, List.length_take]; rfl)) ?_; (with_reducible refine (differ_Alike.calls k a0 a1 t112 t113 _ A8.out).mono ?_); rintro e w17 ⟨rfl, hb⟩; refine ⟨_, rfl, ?_⟩; have n0_ := Aside0.mk (below_step (by repeat (first | (with_reducible first | exact HB.out | apply below_alloc | apply pw_below_drewN | apply below_drew1) | exact HB.out)) hb); clear HB; have HB := n0_; clear n0_; (try clear hb); (try clear hb2); (try clear hk); (try clear hi)))
                  have n0_ := Aside0.mk (below_drew1 HB.out)
                  clear HB
                  have HB := n0_
                  clear n0_
                  refine start_ (n := 18) (S := fun w' => True) (ds := []) #[false, false, false, false, false, false, false, false, false, false, false, false, false, false, false, false, false, false] (by kernel_rfl) rfl rfl trivial (fun hHeld => ?_); refine with_tabW differ_Between.tab4 differ_Between.bits4 (fun HT_ HW_ => ?_)
                  generalize w17.drew = w18 at HB hHeld ⊢
                  refine pure_ (i := 0) (N := some 26) (v := ?_) (a' := ?_) #[true, false, false, false, false, false, false, false, false, false, false, false, false, false, false, false, false, false] rfl rfl (any_of HT_.out (by kernel_rfl)) (fun _ _ _ h => h) (Or.inl ⟨by rfl, ?_⟩) ?_ ?_
                  rotate_left
                  · intro w'
                    go_simp
                    with_reducible rfl
                  rotate_left
                  · simp only [Act.put, List.setIfInBounds_toArray, List.set_cons_zero, List.set_cons_succ, i64_w, i32_w]
                    rfl
                  refine pure_ (i := 1) (N := some 27) (v := ?_) (a' := ?_) #[true, true, false, false, false, false, false, false, false, false, false, false, false, false, false, false, false, false] rfl rfl (any_of HT_.out (by kernel_rfl)) (fun _ _ _ h => h) (Or.inl ⟨by rfl, ?_⟩) ?_ ?_
                  rotate_left
                  · intro w'
                    go_simp
                    with_reducible rfl
                  rotate_left
                  · simp only [Act.put, List.setIfInBounds_toArray, List.set_cons_zero, List.set_cons_succ, i64_w, i32_w]
                    rfl
                  refine pure_ (i := 2) (N := some 28) (v := ?_) (a' := ?_) #[true, true, true, false, false, false, false, false, false, false, false, false, false, false, false, false, false, false] rfl rfl (any_of HT_.out (by kernel_rfl)) (fun _ _ _ h => h) (Or.inl ⟨by rfl, ?_⟩) ?_ ?_
                  rotate_left
                  · intro w'
                    go_simp
                    with_reducible rfl
                  rotate_left
                  · simp only [Act.put, List.setIfInBounds_toArray, List.set_cons_zero, List.set_cons_succ, i64_w, i32_w]
                    rfl
                  refine pure_ (i := 3) (N := some 29) (v := ?_) (a' := ?_) #[true, true, true, true, false, false, false, false, false, false, false, false, false, false, false, false, false, false] rfl rfl (any_of HT_.out (by kernel_rfl)) (fun _ _ _ h => h) (Or.inl ⟨by rfl, ?_⟩) ?_ ?_
                  rotate_left
                  · intro w'
                    go_simp
                    with_reducible rfl
                  rotate_left
                  · simp only [Act.put, List.setIfInBounds_toArray, List.set_cons_zero, List.set_cons_succ, i64_w, i32_w]
                    rfl
                  refine pure_ (i := 4) (N := some 30) (v := ?_) (a' := ?_) #[true, true, true, true, true, false, false, false, false, false, false, false, false, false, false, false, false, false] rfl rfl (any_of HT_.out (by kernel_rfl)) (fun _ _ _ h => h) (Or.inl ⟨by rfl, ?_⟩) ?_ ?_
                  rotate_left
                  · intro w'
                    go_simp
                    with_reducible rfl
                  rotate_left
                  · simp only [Act.put, List.setIfInBounds_toArray, List.set_cons_zero, List.set_cons_succ, i64_w, i32_w]
                    rfl
                  refine pure_ (i := 5) (N := some 31) (v := ?_) (a' := ?_) #[true, true, true, true, true, true, false, false, false, false, false, false, false, false, false, false, false, false] rfl rfl (any_of HT_.out (by kernel_rfl)) (fun _ _ _ h => h) (Or.inl ⟨by rfl, ?_⟩) ?_ ?_
                  rotate_left
                  · intro w'
                    go_simp
                    with_reducible rfl
                  rotate_left
                  · simp only [Act.put, List.setIfInBounds_toArray, List.set_cons_zero, List.set_cons_succ, i64_w, i32_w]
                    rfl
                  refine pure_ (i := 6) (N := some 32) (v := ?_) (a' := ?_) #[true, true, true, true, true, true, true, false, false, false, false, false, false, false, false, false, false, false] rfl rfl (any_of HT_.out (by kernel_rfl)) (fun _ _ _ h => h) (Or.inl ⟨by rfl, ?_⟩) ?_ ?_
                  rotate_left
                  · intro w'
                    go_simp
                    with_reducible rfl
                  rotate_left
                  · simp only [Act.put, List.setIfInBounds_toArray, List.set_cons_zero, List.set_cons_succ, i64_w, i32_w]
                    rfl
                  refine pure_ (i := 7) (N := some 33) (v := ?_) (a' := ?_) #[true, true, true, true, true, true, true, true, false, false, false, false, false, false, false, false, false, false] rfl rfl (any_of HT_.out (by kernel_rfl)) (fun _ _ _ h => h) (Or.inl ⟨by rfl, ?_⟩) ?_ ?_
                  rotate_left
                  · intro w'
                    go_simp
                    with_reducible rfl
                  rotate_left
                  · simp only [Act.put, List.setIfInBounds_toArray, List.set_cons_zero, List.set_cons_succ, i64_w, i32_w]
                    rfl
                  refine pure_ (i := 8) (N := some 34) (v := ?_) (a' := ?_) #[true, true, true, true, true, true, true, true, true, false, false, false, false, false, false, false, false, false] rfl rfl (any_of HT_.out (by kernel_rfl)) (fun _ _ _ h => h) (Or.inl ⟨by rfl, ?_⟩) ?_ ?_
                  rotate_left
                  · intro w'
                    go_simp
                    with_reducible rfl
                  rotate_left
                  · simp only [Act.put, List.setIfInBounds_toArray, List.set_cons_zero, List.set_cons_succ, i64_w, i32_w]
                    rfl
                  refine pure_ (i := 9) (N := some 35) (v := ?_) (a' := ?_) #[true, true, true, true, true, true, true, true, true, true, false, false, false, false, false, false, false, false] rfl rfl (any_of HT_.out (by kernel_rfl)) (fun _ _ _ h => h) (Or.inl ⟨by rfl, ?_⟩) ?_ ?_
                  rotate_left
                  · intro w'
                    go_simp
                    with_reducible rfl
                  rotate_left
                  · simp only [Act.put, List.setIfInBounds_toArray, List.set_cons_zero, List.set_cons_succ, i64_w, i32_w]
                    rfl
                  refine pure_ (i := 10) (N := some 36) (v := ?_) (a' := ?_) #[true, true, true, true, true, true, true, true, true, true, true, false, false, false, false, false, false, false] rfl rfl (any_of HT_.out (by kernel_rfl)) (fun _ _ _ h => h) (Or.inl ⟨by rfl, ?_⟩) ?_ ?_
                  rotate_left
                  · intro w'
                    go_simp
                    with_reducible rfl
                  rotate_left
                  · simp only [Act.put, List.setIfInBounds_toArray, List.set_cons_zero, List.set_cons_succ, i64_w, i32_w]
                    rfl
                  refine pure_ (i := 11) (N := some 37) (v := ?_) (a' := ?_) #[true, true, true, true, true, true, true, true, true, true, true, true, false, false, false, false, false, false] rfl rfl (any_of HT_.out (by kernel_rfl)) (fun _ _ _ h => h) (Or.inl ⟨by rfl, ?_⟩) ?_ ?_
                  rotate_left
                  · intro w'
                    go_simp
                    with_reducible rfl
                  rotate_left
                  · simp only [Act.put, List.setIfInBounds_toArray, List.set_cons_zero, List.set_cons_succ, i64_w, i32_w]
                    rfl
                  refine pure_ (i := 12) (N := some 38) (v := ?_) (a' := ?_) #[true, true, true, true, true, true, true, true, true, true, true, true, true, false, false, false, false, false] rfl rfl (any_of HT_.out (by kernel_rfl)) (fun _ _ _ h => h) (Or.inl ⟨by rfl, ?_⟩) ?_ ?_
                  rotate_left
                  · intro w'
                    go_simp
                    with_reducible rfl
                  rotate_left
                  · simp only [Act.put, List.setIfInBounds_toArray, List.set_cons_zero, List.set_cons_succ, i64_w, i32_w]
                    rfl
                  refine pure_ (i := 13) (N := some 39) (v := ?_) (a' := ?_) #[true, true, true, true, true, true, true, true, true, true, true, true, true, true, false, false, false, false] rfl rfl (any_of HT_.out (by kernel_rfl)) (fun _ _ _ h => h) (Or.inl ⟨by rfl, ?_⟩) ?_ ?_
                  rotate_left
                  · intro w'
                    go_simp
                    with_reducible rfl
                  rotate_left
                  · simp only [Act.put, List.setIfInBounds_toArray, List.set_cons_zero, List.set_cons_succ, i64_w, i32_w]
                    rfl
                  refine pure_ (i := 14) (N := some 40) (v := ?_) (a' := ?_) #[true, true, true, true, true, true, true, true, true, true, true, true, true, true, true, false, false, false] rfl rfl (any_of HT_.out (by kernel_rfl)) (fun _ _ _ h => h) (Or.inl ⟨by rfl, ?_⟩) ?_ ?_
                  rotate_left
                  · intro w'
                    go_simp
                    with_reducible rfl
                  rotate_left
                  · simp only [Act.put, List.setIfInBounds_toArray, List.set_cons_zero, List.set_cons_succ, i64_w, i32_w]
                    rfl
                  refine pure_ (i := 15) (N := some 41) (v := ?_) (a' := ?_) #[true, true, true, true, true, true, true, true, true, true, true, true, true, true, true, true, false, false] rfl rfl (any_of HT_.out (by kernel_rfl)) (fun _ _ _ h => h) (Or.inl ⟨by rfl, ?_⟩) ?_ ?_
                  rotate_left
                  · intro w'
                    go_simp
                    with_reducible rfl
                  rotate_left
                  · simp only [Act.put, List.setIfInBounds_toArray, List.set_cons_zero, List.set_cons_succ, i64_w, i32_w]
                    rfl
                  refine one_ (i := 16) (N := some 42) #[true, true, true, true, true, true, true, true, true, true, true, true, true, true, true, true, true, false] rfl rfl (one_of HT_.out (by kernel_rfl)) (by decide) (fun K hK => ?_)
                  refine Kd.R_lit_step k47 _ 47 ?hg (N := 42) ?hd (xs := ([(⟨t112, a0.extract (t112 : Int).toNat ((wrap64 ((a0.size : Int) - t113)) : Int).toNat, a1.extract (t112 : Int).toNat ((wrap64 ((a1.size : Int) - t113)) : Int).toNat⟩ : S47)] : List (S47))) (inner := [.int .i64 t112, .string (a0.extract (t112 : Int).toNat ((wrap64 ((a0.size : Int) - t113)) : Int).toNat), .string (a1.extract (t112 : Int).toNat ((wrap64 ((a1.size : Int) - t113)) : Int).toNat)]) (ok := fun _ => True) (okp := fun _ => True) ?hr ?hp (fun _ hk => hk) trivial (Below.refl _ _) (Nat.le_refl _) (by simp) ?_; (case hd => rfl); (case hg => rfl); (case hr => first | (go_simp; done) | (go_simp; rfl)); (case hp => exact (Reps.c3 (show Kd.M k47 _ _ _ (⟨t112, a0.extract (t112 : Int).toNat ((wrap64 ((a0.size : Int) - t113)) : Int).toNat, a1.extract (t112 : Int).toNat ((wrap64 ((a1.size : Int) - t113)) : Int).toNat⟩ : S47) [.int .i64 t112, .string (a0.extract (t112 : Int).toNat ((wrap64 ((a0.size : Int) - t113)) : Int).toNat), .string (a1.extract (t112 : Int).toNat ((wrap64 ((a1.size : Int) - t113)) : Int).toNat)] from (k47_mkM _ _ _ (⟨t112, a0.extract (t112 : Int).toNat ((wrap64 ((a0.size : Int) - t113)) : Int).toNat, a1.extract (t112 : Int).toNat ((wrap64 ((a1.size : Int) - t113)) : Int).toNat⟩ : S47) )) (Reps.none _ _)))
                  intro v115 w19 ho20 hb hg_ hnew_
                  clear hg_ hnew_
                  (first | rw [← Ny114.out] at ho20 | (simp only [Int.reduceToNat] at ho20; rw [← Ny114.out] at ho20))
                  have n0_ := Aside0.mk (Kd.R_lower ho20 (below_size (by repeat (first | (with_reducible first | exact HB.out | apply below_alloc | apply pw_below_drewN | apply below_drew1) | exact HB.out))))
                  have n1_ := Aside0.mk (below_step (by repeat (first | (with_reducible first | exact HB.out | apply below_alloc | apply pw_below_drewN | apply below_drew1) | exact HB.out)) hb)
                  clear HB
                  have HO116 := n0_
                  have HB := n1_
                  clear n0_ n1_
                  clear hb ho20
                  refine hK.out _ _ trivial (fun hHeld => ?_)
                  clear hK K
                  refine norm_ (a' := ?_) ?_ ?_
                  rotate_left
                  · show Act.put _ (some 42) _ = _
                    simp only [Act.put, List.setIfInBounds_toArray, List.set_cons_zero, List.set_cons_succ, i64_w, i32_w]
                    rfl
                  refine pure_ (i := 17) (N := some 4) (v := ?_) (a' := ?_) #[true, true, true, true, true, true, true, true, true, true, true, true, true, true, true, true, true, true] rfl rfl (any_of HT_.out (by kernel_rfl)) (fun _ _ _ h => h) (Or.inl ⟨by rfl, ?_⟩) ?_ ?_
                  rotate_left
                  · intro w'
                    go_simp
                    with_reducible rfl
                  rotate_left
                  · simp only [Act.put, List.setIfInBounds_toArray, List.set_cons_zero, List.set_cons_succ, i64_w, i32_w]
                    rfl
                  refine done_ (done_of HT_.out (by kernel_rfl)) ?_
                  try go_wp2
                  go_ret
                  exact ⟨_, by first | rfl | (simp [errW_none, errW_some] <;> rfl) | (simp [*, errW_none, errW_some] <;> rfl), by (with_reducible repeat (first | apply Kd.R_alloc | apply Kd.R_drewN | apply Kd.R_drew)); exact HO116.out, by repeat (first | (with_reducible first | exact HB.out | apply below_alloc | apply pw_below_drewN | apply below_drew1) | exact HB.out)⟩
                · rw [if_neg c14] at H
                  exact absurd H (by simp)
              · rw [if_neg c13] at H
                exact absurd H (by simp)
            · rw [if_neg c11] at H
              exact absurd H (by simp)
          · rw [if_neg c10] at H
            exact absurd H (by simp)
        · rw [if_neg c9] at H
          exact absurd H (by simp)
      · replace c7 := Bool.eq_false_iff.mpr c7
        subst c7
        have H1 : (some ([] : List (S47))) = some r := by rw [if_neg (show ¬ (false = true) by decide)] at H; exact H
        clear H
        have H := H1
        clear H1
        obtain rfl := Option.some.inj H
        go_enter Try.func37, Try.ntmps37
        go_wp2_with (first | (go_at_call 64; (with_reducible refine (differ_fits.calls a0 true _ A4.out).mono ?_); rintro e w21 ⟨rfl, hb⟩; have n0_ := Aside0.mk (below_step (by repeat (first | (with_reducible first | exact HB.out | apply below_alloc | apply pw_below_drewN | apply below_drew1) | exact HB.out)) hb); clear HB; have HB := n0_; clear n0_; (try clear hb); (try clear hb2); (try clear hk); (try clear hi)) | (go_at_call 64; (with_reducible refine (differ_fits.calls a1 false _ A6.out).mono ?_); rintro e w22 ⟨rfl, hb⟩; have n0_ := Aside0.mk (below_step (by repeat (first | (with_reducible first | exact HB.out | apply below_alloc | apply pw_below_drewN | apply below_drew1) | exact HB.out)) hb); clear HB; have HB := n0_; clear n0_; (try clear hb); (try clear hb2); (try clear hk); (try clear hi)))
        go_ret
        exact ⟨_, by first | rfl | (simp [errW_none, errW_some] <;> rfl) | (simp [*, errW_none, errW_some] <;> rfl), by first | exact Kd.R_nil _ _ _ _ _ | exact Kd.N_nil _ _ _ _ _ | exact Kd.V_nil _ _ _ _ _ | exact Kd.Q_nil _ _ _ _ _ | exact Kd.S_nil _ _ _ _ _, by repeat (first | (with_reducible first | exact HB.out | apply below_alloc | apply pw_below_drewN | apply below_drew1) | exact HB.out)⟩
    · replace c5 := Bool.eq_false_iff.mpr c5
      subst c5
      have H1 : (some ([] : List (S47))) = some r := by rw [if_neg (show ¬ (false = true) by decide)] at H; exact H
      clear H
      have H := H1
      clear H1
      obtain rfl := Option.some.inj H
      go_enter Try.func37, Try.ntmps37
      go_wp2_with (first | (go_at_call 64; (with_reducible refine (differ_fits.calls a0 false _ A4.out).mono ?_); rintro e w23 ⟨rfl, hb⟩; have n0_ := Aside0.mk (below_step (by repeat (first | (with_reducible first | exact HB.out | apply below_alloc | apply pw_below_drewN | apply below_drew1) | exact HB.out)) hb); clear HB; have HB := n0_; clear n0_; (try clear hb); (try clear hb2); (try clear hk); (try clear hi)))
      go_ret
      exact ⟨_, by first | rfl | (simp [errW_none, errW_some] <;> rfl) | (simp [*, errW_none, errW_some] <;> rfl), by first | exact Kd.R_nil _ _ _ _ _ | exact Kd.N_nil _ _ _ _ _ | exact Kd.V_nil _ _ _ _ _ | exact Kd.Q_nil _ _ _ _ _ | exact Kd.S_nil _ _ _ _ _, by repeat (first | (with_reducible first | exact HB.out | apply below_alloc | apply pw_below_drewN | apply below_drew1) | exact HB.out)⟩

end Go.Proofs.Yteniemhecfkfoaa.QD
