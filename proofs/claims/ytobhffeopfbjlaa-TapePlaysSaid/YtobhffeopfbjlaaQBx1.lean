-- Written by a program of this session (wip/tools/bundle.sh), which turns the kit's print for functions given by hand. Lean checks it.
import Derived.Test.YtobhffeopfbjlaaQBx0
namespace Go.Proofs.Ytobhffeopfbjlaa.QB
open Go.RowKit Go.Proofs.Ytobhffeopfbjlaa.QP Go.Proofs.YtobhffeopfbjlaaW.PrintWords Go.Proofs.YtobhffeopfbjlaaW.PrintLast Go.Proofs.YtobhffeopfbjlaaW.PrintMore
attribute [local go_sem] max2_int min2_int max_two min_two max_three min_three max_four min_four   -- for this text's walks alone
set_option linter.unusedVariables false
set_option linter.unusedSimpArgs false

/-! ### piece_Count: function 15 -/

/-! ### piece_Unlike: function 17 -/

/-! ### piece_Slice: function 19 -/

/-! ### blend_lay: function 40 -/
theorem lay_cut {t : TypeId} (ht : Try.prog.underlying t = some (.slice 5)) (hinfo : (Try.prog.info? 5).map (fun i => (i.zero, i.size, i.bytes)) = some (some (.int .u8 0), 1, 1)) {g n cap : Nat} {A : Int} (h0 : 0 ≤ A) (h1 : A.toNat < n) (h2 : n ≤ cap) (W : World) :
    (Instr.slice t (.slice (some ⟨g, 0, none⟩) n cap) (some (.int .i64 A)) none none).run Try.prog W = .ok (.slice (some ⟨g, A.toNat, none⟩) (n - A.toNat) (cap - A.toNat)) W := by
  obtain ⟨i0, hi0, _, hsz, _⟩ := info_parts hinfo
  rw [cut_from (P := Try.prog) t 5 .i64 ht hi0 1 hsz (some ⟨g, 0, none⟩) n cap A (by omega) (by omega) W, if_neg (by omega), Nat.mul_one]
  simp only [Option.map_some, add_at, Nat.zero_add]
def blend_lay.f (l0 : List Int) (a1 : Int) (a2 : ByteArray) : Option (List Int) := if a2.toList = ([] : List UInt8) then (some l0) else if 0 ≤ a1 ∧ a1 ≤ 100000000 ∧ a2.size ≤ 1000000000 ∧ l0.length ≤ 1000000000 then some (Cs.laid (if a1 * 32 + (a2.size : Int) > (l0.length : Int) then l0 ++ List.replicate (a1 * 32 + (a2.size : Int) - (l0.length : Int)).toNat 0 else l0) (a1 * 32).toNat a2) else none
set_option maxHeartbeats 8000000 in
set_option maxRecDepth 100000 in
theorem blend_lay.calls (P0_ : Nat → Prop) (u9000_ : Value) (l0 : List Int) (a1 : Int) (a2 : ByteArray) (r : List Int) (w0 w : World) (hB : Below w0.heap.size w0 w) (ho0 : Kd.R (Kd.int .u8) 5 w w0.heap.size P0_ u9000_ l0) (h : blend_lay.f l0 a1 a2 = some r) :
    Calls Try.prog 40 #[u9000_, .int .i64 a1, .string a2] w fun e w' => ∃ v0_ : Value, e = .returned (v0_) ∧ Kd.R (Kd.int .u8) 5 w' w0.heap.size (fun k_ => (P0_ k_ ∨ w.heap.size ≤ k_)) v0_ r ∧ Below w0.heap.size w0 w' ∧ Kept w w' (fun k_ => P0_ k_) := by
  have HO0 := Aside0.mk (show Kd.R (Kd.int .u8) 5 w w0.heap.size (fun k_ => (P0_ k_ ∨ w.heap.size ≤ k_)) u9000_ l0 from Kd.R_mono ho0 (fun k_ hk => (.inl hk)))
  have HK := Aside0.mk (Kept.refl w (fun k_ => P0_ k_))
  have HW0 := Aside0.mk hB.size
  have HB := Aside0.mk hB
  clear hB
  unfold blend_lay.f at h
  by_cases c4 : a2.toList = ([] : List UInt8)
  · rw [if_pos c4] at h
    have c4b0 : (a2.toList == ([] : List UInt8)) = true := beq_iff_eq.mpr c4
    clear c4
    obtain rfl := Option.some.inj h
    have HO2 := HO0
    go_enter Try.func40, Try.ntmps40
    go_wp2
    go_ret
    exact ⟨_, by first | rfl | (simp; done) | (simp [*]; done), by (with_reducible repeat (first | apply Kd.R_alloc | apply Kd.R_drewN | apply Kd.R_drew)); exact HO2.out, by repeat (first | (with_reducible first | exact HB.out | apply below_alloc | apply pw_below_drewN | apply below_drew1) | exact HB.out), by repeat (first | (with_reducible first | exact HK.out | apply Kept.alloc | apply Kept.drewN | apply Kept.drew) | exact HK.out)⟩
  · rw [if_neg c4] at h
    have c4b0 : (a2.toList == ([] : List UInt8)) = false := beq_eq_false_iff_ne.mpr c4
    have hpos : 0 < a2.size := by
      rcases Nat.eq_zero_or_pos a2.size with h0 | h0
      · exact absurd (by rw [Lib.toList_data]; exact List.eq_nil_of_length_eq_zero (by rw [Array.length_toList]; exact h0)) c4
      · exact h0
    clear c4
    obtain ⟨hlim, h⟩ : (0 ≤ a1 ∧ a1 ≤ 100000000 ∧ a2.size ≤ 1000000000 ∧ l0.length ≤ 1000000000) ∧ _ := by
      by_cases hl : 0 ≤ a1 ∧ a1 ≤ 100000000 ∧ a2.size ≤ 1000000000 ∧ l0.length ≤ 1000000000
      · rw [if_pos hl] at h; exact ⟨hl, h⟩
      · rw [if_neg hl] at h; exact absurd h (by simp)
    have hl1 := hlim.1
    have hl2 := hlim.2.1
    have hl3 := hlim.2.2.1
    have hl4 := hlim.2.2.2
    clear hlim
    obtain ⟨A, hA⟩ : ∃ A : Int, wrap64 (a1 * 32) = A := ⟨_, rfl⟩
    have hAw : IntKind.i64.wrap (a1 * 32) = A := (i64_w _).trans hA
    have hAv : A = a1 * 32 := by rw [← hA]; unfold wrap64; omega
    obtain ⟨E, hE⟩ : ∃ E : Int, wrap64 (A + (a2.size : Int)) = E := ⟨_, rfl⟩
    have hEw : IntKind.i64.wrap (A + (a2.size : Int)) = E := (i64_w _).trans hE
    have hEv : E = A + (a2.size : Int) := by rw [← hE]; unfold wrap64; omega
    rw [← hAv, ← hEv] at h
    by_cases c5 : E > (l0.length : Int)
    · rw [if_pos c5] at h
      have c5b0 : decide ((l0.length : Int) < E) = true := decide_eq_true c5
      obtain ⟨D, hD⟩ : ∃ D : Int, wrap64 (E - (l0.length : Int)) = D := ⟨_, rfl⟩
      have hDw : IntKind.i64.wrap (E - (l0.length : Int)) = D := (i64_w _).trans hD
      have hDv : D = E - (l0.length : Int) := by rw [← hD]; unfold wrap64; omega
      rw [← hDv] at h
      obtain rfl := Option.some.inj h
      clear h
      have hyl : (l0 ++ List.replicate D.toNat 0).length = E.toNat := by simp; omega
      have c7b0 : decide (0 ≤ D) = true := decide_eq_true (by omega)
      have hAy : A.toNat + a2.size ≤ (l0 ++ List.replicate D.toNat 0).length := by omega
      have hDn : Aside0 (0 ≤ D ∧ l0.length + D.toNat < 140737488355328) := ⟨by omega, by omega⟩
      obtain ⟨ys, hys⟩ : ∃ ys, ys = l0 ++ List.replicate D.toNat 0 := ⟨_, rfl⟩
      rw [← hys] at hyl hAy ⊢
      have Ny := Aside0.mk hys
      clear hys
      have hF : Aside0 (0 ≤ A ∧ A.toNat + a2.size ≤ ys.length ∧ 0 < a2.size) := ⟨by omega, hAy, hpos⟩
      clear hA hE hD hAv hEv hDv hl1 hl2 hl3 hl4 hpos hyl c5 hAy
      obtain ⟨Ao9, co9, eo9⟩ := Kd.R_slice HO0.out
      subst eo9
      go_enter Try.func40, Try.ntmps40
      go_wp2_with (first | (at_builtin; refine Kd.R_append_zeros (Kd.int .u8) (w0 := w0) w0.heap.size rfl (.tmp 22) (.tmp 26) 40 3 5 (.int .u8 0) 1 rfl Try.underlying40 Try.underlying3 info5 rfl (by decide) (by omega) (.slice Ao9 l0.length co9) l0 0 (D : Int) (fun k_ => (P0_ k_ ∨ w.heap.size ≤ k_)) rfl rfl rfl ?aF ?aO (hDn.out.1) ?aB ?aS ?aL ?_; (case aB => exact (by repeat (first | (with_reducible first | exact HB.out | apply below_alloc | apply pw_below_drewN | apply below_drew1) | exact HB.out))); (case aF => exact (fun k_ hk => (.inr (Nat.le_trans (by first | exact HK.out.1 | exact (show Kept w _ (fun k_ => P0_ k_) from (by repeat (first | (with_reducible first | exact HK.out | apply Kept.alloc | apply Kept.drewN | apply Kept.drew) | exact HK.out))).1) hk)))); (case aO => exact (by (with_reducible repeat (first | apply Kd.R_alloc | apply Kd.R_drewN | apply Kd.R_drew)); exact HO0.out)); (case aS => exact (below_size (by repeat (first | (with_reducible first | exact HB.out | apply below_alloc | apply pw_below_drewN | apply below_drew1) | exact HB.out)))); (case aL => have := hDn.out.2; omega); intro v109 w10 ho hb hg hat; rw [← Ny.out] at ho; have n0_ := Aside0.mk (hb); have n1_ := Aside0.mk (Kept.of_grown (S := (fun k_ => P0_ k_)) hg (by repeat (first | (with_reducible first | exact HK.out | apply Kept.alloc | apply Kept.drewN | apply Kept.drew) | exact HK.out)) (fun k_ e_ => (HO0.out.1 k_ e_))); have HO1a := Aside0.mk ho; clear HB; clear HK; clear HO0; have HB := n0_; have HK := n1_; clear n0_ n1_; clear ho hb hg hat; obtain ⟨g, cap, rfl, _, _, _⟩ := Kd.R_form HO1a.out (by have := hF.out; omega); have HO1 := HO1a; clear HO1a; have hle := (Kd.R_reads' HO1.out).2.1; have hcut : ∀ W : World, (Instr.slice 40 (.slice (some ⟨g, 0, none⟩) ys.length cap) (some (.int .i64 A)) none none).run Try.prog W = .ok (.slice (some ⟨g, A.toNat, none⟩) (ys.length - A.toNat) (cap - A.toNat)) W := (fun W => lay_cut Try.underlying40 info5 (by have := hF.out; omega) (by have := hF.out; omega) (by have := hF.out; omega) W); clear hle) | ((with_reducible refine gate_builtin (b := .copy) (xs := #[.tmp 30, .tmp 31]) rfl ?_); refine Cs.R_copystr (w0 := w0) w0.heap.size rfl (.tmp 30) (.tmp 31) 40 9 5 rfl Try.underlying40 (by kernel_rfl) g cap A.toNat (ys.length - A.toNat) (cap - A.toNat) a2 ys (fun k_ => (P0_ k_ ∨ w.heap.size ≤ k_)) rfl rfl ?cO rfl (by have := hF.out; omega) (by have := hF.out; omega) ?cB ?cS ?_; (case cO => exact (by (with_reducible repeat (first | apply Kd.R_alloc | apply Kd.R_drewN | apply Kd.R_drew)); exact HO1.out)); (case cB => exact (by repeat (first | (with_reducible first | exact HB.out | apply below_alloc | apply pw_below_drewN | apply below_drew1) | exact HB.out))); (case cS => exact (below_size (by repeat (first | (with_reducible first | exact HB.out | apply below_alloc | apply pw_below_drewN | apply below_drew1) | exact HB.out)))); intro w20 ho hb hg; have n0_ := Aside0.mk (hb); have n1_ := Aside0.mk (Kept.of_grown (S := (fun k_ => P0_ k_)) hg (by repeat (first | (with_reducible first | exact HK.out | apply Kept.alloc | apply Kept.drewN | apply Kept.drew) | exact HK.out)) (fun k_ e_ => HO1.out.1 k_ (by simpa [Value.ownBlock] using e_))); have HO2 := Aside0.mk ho; clear HB HK; have HB := n0_; have HK := n1_; clear n0_ n1_ ho hb hg))
      go_ret
      exact ⟨_, by first | rfl | (simp; done) | (simp [*]; done), by (with_reducible repeat (first | apply Kd.R_alloc | apply Kd.R_drewN | apply Kd.R_drew)); exact HO2.out, by repeat (first | (with_reducible first | exact HB.out | apply below_alloc | apply pw_below_drewN | apply below_drew1) | exact HB.out), by repeat (first | (with_reducible first | exact HK.out | apply Kept.alloc | apply Kept.drewN | apply Kept.drew) | exact HK.out)⟩
    · rw [if_neg c5] at h
      have c5b0 : decide ((l0.length : Int) < E) = false := decide_eq_false c5
      obtain rfl := Option.some.inj h
      clear h
      obtain ⟨ys, hys⟩ : ∃ ys, ys = l0 := ⟨_, rfl⟩
      subst hys
      have hF : Aside0 (0 ≤ A ∧ A.toNat + a2.size ≤ ys.length ∧ 0 < a2.size) := ⟨by omega, by omega, hpos⟩
      clear hA hE hAv hEv hl1 hl2 hl3 hl4 hpos c5
      obtain ⟨g, cap, rfl, _, _, _⟩ := Kd.R_form HO0.out (by have := hF.out; omega)
      have HO1 := HO0
      clear HO0
      have hle := (Kd.R_reads' HO1.out).2.1
      have hcut : ∀ W : World, (Instr.slice 40 (.slice (some ⟨g, 0, none⟩) ys.length cap) (some (.int .i64 A)) none none).run Try.prog W = .ok (.slice (some ⟨g, A.toNat, none⟩) (ys.length - A.toNat) (cap - A.toNat)) W := (fun W => lay_cut Try.underlying40 info5 (by have := hF.out; omega) (by have := hF.out; omega) (by have := hF.out; omega) W)
      clear hle
      go_enter Try.func40, Try.ntmps40
      go_wp2_with ((with_reducible refine gate_builtin (b := .copy) (xs := #[.tmp 30, .tmp 31]) rfl ?_); refine Cs.R_copystr (w0 := w0) w0.heap.size rfl (.tmp 30) (.tmp 31) 40 9 5 rfl Try.underlying40 (by kernel_rfl) g cap A.toNat (ys.length - A.toNat) (cap - A.toNat) a2 ys (fun k_ => (P0_ k_ ∨ w.heap.size ≤ k_)) rfl rfl ?cO rfl (by have := hF.out; omega) (by have := hF.out; omega) ?cB ?cS ?_; (case cO => exact (by (with_reducible repeat (first | apply Kd.R_alloc | apply Kd.R_drewN | apply Kd.R_drew)); exact HO1.out)); (case cB => exact (by repeat (first | (with_reducible first | exact HB.out | apply below_alloc | apply pw_below_drewN | apply below_drew1) | exact HB.out))); (case cS => exact (below_size (by repeat (first | (with_reducible first | exact HB.out | apply below_alloc | apply pw_below_drewN | apply below_drew1) | exact HB.out)))); intro w20 ho hb hg; have n0_ := Aside0.mk (hb); have n1_ := Aside0.mk (Kept.of_grown (S := (fun k_ => P0_ k_)) hg (by repeat (first | (with_reducible first | exact HK.out | apply Kept.alloc | apply Kept.drewN | apply Kept.drew) | exact HK.out)) (fun k_ e_ => HO1.out.1 k_ (by simpa [Value.ownBlock] using e_))); have HO2 := Aside0.mk ho; clear HB HK; have HB := n0_; have HK := n1_; clear n0_ n1_ ho hb hg)
      go_ret
      exact ⟨_, by first | rfl | (simp; done) | (simp [*]; done), by (with_reducible repeat (first | apply Kd.R_alloc | apply Kd.R_drewN | apply Kd.R_drew)); exact HO2.out, by repeat (first | (with_reducible first | exact HB.out | apply below_alloc | apply pw_below_drewN | apply below_drew1) | exact HB.out), by repeat (first | (with_reducible first | exact HK.out | apply Kept.alloc | apply Kept.drewN | apply Kept.drew) | exact HK.out)⟩

/-! ### blend_choose: function 41 -/
def blend_choose.f (a0 : ByteArray) (a1 : Int) : Option (Int) := if a1 ≥ (a0.size : Int) then (some 0) else (if 0 ≤ a1 then (if a1 < (a0.size : Int) then (some (Int.tmod (wrap64 (bt a0 a1)) 3)) else (none)) else (none))
set_option maxHeartbeats 8000000 in
set_option maxRecDepth 100000 in
theorem blend_choose.calls (a0 : ByteArray) (a1 : Int) (r : Int) (w : World) (h : blend_choose.f a0 a1 = some r) :
    Calls Try.prog 41 #[.string a0, .int .i64 a1] w fun e w' => e = .returned (.int .i64 r) ∧ Drawn0 w w' := by
  have H : (if a1 ≥ (a0.size : Int) then (some 0) else (if 0 ≤ a1 then (if a1 < (a0.size : Int) then (some (Int.tmod (wrap64 (bt a0 a1)) 3)) else (none)) else (none))) = some r := h
  clear h
  by_cases c3 : a1 ≥ (a0.size : Int)
  · rw [if_pos c3] at H
    have c3b0 : decide ((a0.size : Int) ≤ a1) = true := decide_eq_true c3
    clear c3
    obtain rfl := Option.some.inj H
    go_enter Try.func41, Try.ntmps41
    go_wp2
    go_ret
    exact ⟨by first | rfl | (simp; done) | (simp [*]; done), by repeat (first | exact Drawn0.refl _ | apply Drawn0.step)⟩
  · rw [if_neg c3] at H
    have c3b0 : decide ((a0.size : Int) ≤ a1) = false := decide_eq_false c3
    clear c3
    by_cases c4 : 0 ≤ a1
    · rw [if_pos c4] at H
      have c4b0 : decide (0 ≤ a1) = true := decide_eq_true c4
      clear c4
      by_cases c5 : a1 < (a0.size : Int)
      · rw [if_pos c5] at H
        have c5b0 : decide (a1 < (a0.size : Int)) = true := decide_eq_true c5
        clear c5
        obtain rfl := Option.some.inj H
        have p6 : 0 ≤ (a1 : Int) := of_decide_eq_true (by first | (with_reducible assumption) | assumption)
        have q6 : a1 < (a0.size : Int) := of_decide_eq_true (by first | (with_reducible assumption) | assumption)
        have hx6 := bt_at a0 a1
        replace p6 := eq_true p6
        replace q6 := eq_true q6
        go_enter Try.func41, Try.ntmps41
        go_wp2
        go_ret
        exact ⟨by first | rfl | (simp; done) | (simp [*]; done), by repeat (first | exact Drawn0.refl _ | apply Drawn0.step)⟩
      · rw [if_neg c5] at H
        exact absurd H (by simp)
    · rw [if_neg c4] at H
      exact absurd H (by simp)

end Go.Proofs.Ytobhffeopfbjlaa.QB
