-- Written by a program of this session (wip/tools/bundle.sh), which turns the kit's print for functions given by hand. Lean checks it.
import Derived.Test.YtobhffeopfbjlaaQTx0
import Derived.Test.YtobhffeopfbjlaaQTx1
import Derived.Test.YtobhffeopfbjlaaQTx2
import Derived.Test.YtobhffeopfbjlaaQTx3
import Derived.Test.YtobhffeopfbjlaaQTx5
import Derived.Test.YtobhffeopfbjlaaQTx6
namespace Go.Proofs.Ytobhffeopfbjlaa.QT
open Go.RowKit Go.Proofs.Ytobhffeopfbjlaa.QP Go.Proofs.Ytobhffeopfbjlaa.QB Go.Proofs.YtobhffeopfbjlaaW.PrintWords Go.Proofs.YtobhffeopfbjlaaW.PrintLast Go.Proofs.YtobhffeopfbjlaaW.PrintMore
attribute [local go_sem] max2_int min2_int max_two min_two max_three min_three max_four min_four   -- for this text's walks alone
set_option linter.unusedVariables false
set_option linter.unusedSimpArgs false

/-! ### tape_Tape_Copy (by hand) -/
set_option maxHeartbeats 8000000 in
set_option maxRecDepth 100000 in
theorem tape_Tape_Copy.calls (g : Nat) (s0_0 : ByteArray) (s0_1 : ByteArray) (w0 w : World) (hI : IsS50 w0 w g s0_0 s0_1 true) (hB : Below w0.heap.size w0 w) :
    Calls Try.prog 34 #[.pointer (some ⟨g, 0, none⟩)] w fun e w' => ∃ g_ : Nat, e = .returned (.pointer (some ⟨g_, 0, none⟩)) ∧ w.heap.size ≤ g_ ∧ IsS50 w0 w' g_ s0_0 s0_1 true ∧ Below w.heap.size w w' := by
  have hu50 := Try.underlying50
  have HB := Aside0.mk (Below.refl w.heap.size w)
  have HW0 := Aside0.mk hB.size
  obtain ⟨HGz2, hgz2⟩ := hI
  have hcz2_0 := cellS50_0 HGz2
  have hfz2_0 := blk_frozen HGz2 0
  have hcz2_1 := cellS50_1 HGz2
  have hfz2_1 := blk_frozen HGz2 1
  have hcz2_2 := cellS50_2 HGz2
  have hfz2_2 := blk_frozen HGz2 2
  clear HGz2 hgz2 hB
  go_enter Try.func34, Try.ntmps34
  go_wp2_with (first | ((with_reducible refine gate_dst (N := 3) rfl ?_); refine box_event ?hg (N := 3) ?hd (cs := #[.string ⟨#[]⟩, .string ⟨#[]⟩, .bool false]) (t := 50) ?hr ?_; (case hd => rfl); (case hg => rfl); (case hr => first | (go_simp; done) | (go_simp; rfl)); intro gb hg w8 hbox hb; have n0_ := Aside0.mk (below_step HB.out hb); have BK := Aside0.mk hbox; have GE : Aside0 (w.heap.size ≤ gb) := ⟨by rw [hg]; exact below_size HB.out⟩; clear HB; have HB := n0_; clear n0_ hb hbox hg) | ((with_reducible refine gate_store (t := 50) (p := 3) (v := .tmp 8) rfl ?_); refine Sa.store_whole rfl rfl 50 (.tmp 3) (.tmp 8) rfl gb #[.string ⟨#[]⟩, .string ⟨#[]⟩, .bool false] [.string s0_0, .string s0_1, .bool true] rfl rfl (by kernel_rfl) BK.out rfl (by simp [Value.oneCell']) ?_; intro w9 hbox hg; have n0_ := Aside0.mk (Sa.grown_below HB.out (below_size HB.out) hg GE.out); clear BK HB; have BK := Aside0.mk hbox; have HB := n0_; clear n0_ hbox hg) | go_in)
  go_ret
  exact ⟨gb, by first | rfl | (simp; done), GE.out, ⟨BK.out, Nat.le_trans HW0.out GE.out⟩, HB.out⟩

/-! ### styluslaw07_TapePlays: function 11 -/
mutual
def styluslaw07_TapePlays.j0 : Nat → ByteArray → ByteArray → List (S58) → Bool → Option (Bool)
  | 0, _, _, _, _ => none
  | k + 1, x0, x1, x2, x25 => if x25 = true then ((styluslaw07_lives.f k).bind fun t206 => (some t206)) else ((tape_Load.f x0 x1).bind fun bt207 => (styluslaw07_TapePlays.l0 k x2 0 bt207.1 bt207.2.1 bt207.2.2 x0 x1))
def styluslaw07_TapePlays.l0 : Nat → List (S58) → Int → ByteArray → ByteArray → Bool → ByteArray → ByteArray → Option (Bool)
  | 0, _, _, _, _, _, _, _ => none
  | k + 1, x2, x9, x211000, x211001, x211002, x212000, x212001 => if x9 < (x2.length : Int) then (if 0 ≤ x9 then (if ((rd_T58 x2 x9).f0) = 4 then (if x211002 = true then (if x211001.size ≤ 4000 then (styluslaw07_TapePlays.l0 k x2 (wrap64 (x9 + 1)) x211000 x211001 x211002 x212000 x212001) else (none)) else (none)) else ((styluslaw07_step.f k x211000 x211001 x211002 x212000 x212001 ((rd_T58 x2 x9).f0) ((rd_T58 x2 x9).f1) ((rd_T58 x2 x9).f2)).bind fun bt215 => (if bt215.2.2.1 = true then ((tape_Tape_Now.f bt215.2.2.2.1 bt215.2.2.2.2.1 bt215.2.2.2.2.2).bind fun bt222 => (if bt222.1.toList = bt215.2.1.toList then ((tape_Tape_Kept.f bt222.2.1 bt222.2.2.1 bt222.2.2.2).bind fun bt226 => (if bt226.1.toList = bt215.1.toList then ((tape_Tape_Dirty.f k bt226.2.1 bt226.2.2.1 bt226.2.2.2).bind fun bt230 => ((stylusref07_Dirty.f k bt215.1 bt215.2.1).bind fun t234 => (if bt230.1 = t234 then ((tape_Tape_Sectors.f bt230.2.1 bt230.2.2.1 bt230.2.2.2).bind fun bt235 => ((stylusref07_Sectors.f bt215.1 bt215.2.1).bind fun t239 => (if bt235.1 = t239 then (styluslaw07_TapePlays.l0 k x2 (wrap64 (x9 + 1)) bt235.2.1 bt235.2.2.1 bt235.2.2.2 bt215.1 bt215.2.1) else (none)))) else (none)))) else (none))) else (none))) else (none)))) else (none)) else ((styluslaw07_lives.f k).bind fun t212 => (some t212))
end
def styluslaw07_TapePlays.f (k : Nat) (a0 : ByteArray) (a1 : ByteArray) (l2 : List (S58)) : Option (Bool) := if (a0.size : Int) > 300 then (styluslaw07_TapePlays.j0 k a0 a1 l2 true) else (if (a1.size : Int) > 300 then (styluslaw07_TapePlays.j0 k a0 a1 l2 true) else (styluslaw07_TapePlays.j0 k a0 a1 l2 (decide ((l2.length : Int) > 20))))
theorem styluslaw07_TapePlays.mono_l : ∀ k, (∀ y0 y1 y2 y3, LeO (styluslaw07_TapePlays.j0 k y0 y1 y2 y3) (styluslaw07_TapePlays.j0 (k + 1) y0 y1 y2 y3)) ∧ (∀ y0 y1 y2 y3 y4 y5 y6, LeO (styluslaw07_TapePlays.l0 k y0 y1 y2 y3 y4 y5 y6) (styluslaw07_TapePlays.l0 (k + 1) y0 y1 y2 y3 y4 y5 y6))
  | 0 => ⟨fun _ _ _ _ r h => by simp [styluslaw07_TapePlays.j0] at h, fun _ _ _ _ _ _ _ r h => by simp [styluslaw07_TapePlays.l0] at h⟩
  | k + 1 => by
    obtain ⟨ih0, ih1⟩ := styluslaw07_TapePlays.mono_l k
    refine ⟨?_, ?_⟩
    · intro y0 y1 y2 y3
      unfold styluslaw07_TapePlays.j0
      repeat' first
      | (with_reducible exact ih0 _ _ _ _)
      | (with_reducible exact ih1 _ _ _ _ _ _ _)
      | (with_reducible exact styluslaw07_lives.mono _)
      | (with_reducible exact styluslaw07_step.mono _ _ _ _ _ _ _ _ _)
      | (with_reducible exact stylusref07_Dirty.mono _ _ _)
      | (with_reducible exact tape_Tape_Dirty.mono _ _ _ _)
      | (with_reducible exact LeO.refl _)
      | (with_reducible exact LeO.none _)
      | (with_reducible refine LeO.ite ?_ ?_)
      | (with_reducible refine LeO.bind ?_ (fun _ => ?_))
      | exact ih0 _ _ _ _
      | exact ih1 _ _ _ _ _ _ _
      | exact styluslaw07_lives.mono _
      | exact styluslaw07_step.mono _ _ _ _ _ _ _ _ _
      | exact stylusref07_Dirty.mono _ _ _
      | exact tape_Tape_Dirty.mono _ _ _ _
      | exact LeO.none _
      | refine LeO.ite ?_ ?_
      | refine LeO.bind ?_ (fun _ => ?_)
    · intro y0 y1 y2 y3 y4 y5 y6
      unfold styluslaw07_TapePlays.l0
      repeat' first
      | (with_reducible exact ih0 _ _ _ _)
      | (with_reducible exact ih1 _ _ _ _ _ _ _)
      | (with_reducible exact styluslaw07_lives.mono _)
      | (with_reducible exact styluslaw07_step.mono _ _ _ _ _ _ _ _ _)
      | (with_reducible exact stylusref07_Dirty.mono _ _ _)
      | (with_reducible exact tape_Tape_Dirty.mono _ _ _ _)
      | (with_reducible exact LeO.refl _)
      | (with_reducible exact LeO.none _)
      | (with_reducible refine LeO.ite ?_ ?_)
      | (with_reducible refine LeO.bind ?_ (fun _ => ?_))
      | exact ih0 _ _ _ _
      | exact ih1 _ _ _ _ _ _ _
      | exact styluslaw07_lives.mono _
      | exact styluslaw07_step.mono _ _ _ _ _ _ _ _ _
      | exact stylusref07_Dirty.mono _ _ _
      | exact tape_Tape_Dirty.mono _ _ _ _
      | exact LeO.none _
      | refine LeO.ite ?_ ?_
      | refine LeO.bind ?_ (fun _ => ?_)
theorem styluslaw07_TapePlays.mono : ∀ a0 a1 a2 k, LeO (styluslaw07_TapePlays.f k a0 a1 a2) (styluslaw07_TapePlays.f (k + 1) a0 a1 a2) := by
  intro a0 a1 a2 k
  obtain ⟨ih0, ih1⟩ := styluslaw07_TapePlays.mono_l k
  unfold styluslaw07_TapePlays.f
  repeat' first
      | (with_reducible exact ih0 _ _ _ _)
      | (with_reducible exact ih1 _ _ _ _ _ _ _)
      | (with_reducible exact styluslaw07_lives.mono _)
      | (with_reducible exact styluslaw07_step.mono _ _ _ _ _ _ _ _ _)
      | (with_reducible exact stylusref07_Dirty.mono _ _ _)
      | (with_reducible exact tape_Tape_Dirty.mono _ _ _ _)
      | (with_reducible exact LeO.refl _)
      | (with_reducible exact LeO.none _)
      | (with_reducible refine LeO.ite ?_ ?_)
      | (with_reducible refine LeO.bind ?_ (fun _ => ?_))
      | exact ih0 _ _ _ _
      | exact ih1 _ _ _ _ _ _ _
      | exact styluslaw07_lives.mono _
      | exact styluslaw07_step.mono _ _ _ _ _ _ _ _ _
      | exact stylusref07_Dirty.mono _ _ _
      | exact tape_Tape_Dirty.mono _ _ _ _
      | exact LeO.none _
      | refine LeO.ite ?_ ?_
      | refine LeO.bind ?_ (fun _ => ?_)
def styluslaw07_TapePlays.T14 : Bool × List (List Nat × List Nat) := (true, [([], []), ([], []), ([], []), ([], []), ([2, 3], [2, 3]), ([4], [4]), ([0, 1, 5], [0, 1, 5]), ([6], [6]), ([7], [7]), ([7], [7]), ([], []), ([10, 8, 6, 0, 1, 2, 3, 4, 5, 6, 7, 8, 10], [8, 10]), ([9, 11, 0, 1, 2, 3, 4, 5, 6, 7, 8, 9, 10, 11], [9])])
def styluslaw07_TapePlays.B14 : List Nat := [0, 0, 0, 0, 12, 28, 63, 127, 255, 255, 0, 1535, 4095]
theorem styluslaw07_TapePlays.tab14 : rtab .any (opsOf Try.f11 14) = styluslaw07_TapePlays.T14 := by kernel_rfl
theorem styluslaw07_TapePlays.bits14 : waitsOk styluslaw07_TapePlays.T14.2 styluslaw07_TapePlays.B14 = true := by kernel_rfl
def styluslaw07_TapePlays.T16 : Bool × List (List Nat × List Nat) := (true, [([], []), ([0], [0]), ([1], [1]), ([2], [2]), ([3, 2, 2], [2, 3]), ([2], [2]), ([5, 2], [2, 5]), ([4, 6, 2], [2, 4, 6]), ([2, 7], [2, 7]), ([8, 4], [8]), ([9], [9]), ([10, 9, 9], [9, 10]), ([9], [9]), ([12, 9], [9, 12]), ([11, 13, 9], [9, 11, 13]), ([9, 14], [9, 14]), ([15, 11], [15]), ([16], [16]), ([17, 16, 16], [16, 17]), ([16], [16]), ([19, 18, 16], [16, 19]), ([18, 20, 16], [16, 18, 20]), ([16, 21], [16, 21]), ([22, 20], [22]), ([23], [23]), ([24, 23, 23], [23, 24]), ([23], [23]), ([26, 25, 23], [23, 26]), ([25, 27, 23], [23, 25, 27]), ([23, 28], [23, 28])])
def styluslaw07_TapePlays.B16 : List Nat := [0, 1, 3, 7, 15, 7, 39, 127, 255, 511, 1023, 2047, 1023, 5119, 16383, 32767, 65535, 131071, 262143, 131071, 1048575, 2097151, 4194303, 8388607, 16777215, 33554431, 16777215, 134217727, 268435455, 536870911]
theorem styluslaw07_TapePlays.tab16 : rtab .any (opsOf Try.f11 16) = styluslaw07_TapePlays.T16 := by kernel_rfl
theorem styluslaw07_TapePlays.bits16 : waitsOk styluslaw07_TapePlays.T16.2 styluslaw07_TapePlays.B16 = true := by kernel_rfl
set_option maxHeartbeats 8000000 in
set_option maxRecDepth 100000 in
theorem styluslaw07_TapePlays.calls (k : Nat) (a0 : ByteArray) (a1 : ByteArray) (A2 : Option Addr) (c2 : Nat) (l2 : List (S58)) (r : Bool) (w : World) (hr2 : Kd.C k58 w A2 l2.length l2) (hc2 : l2.length ≤ c2) (h : styluslaw07_TapePlays.f k a0 a1 l2 = some r) :
    Calls Try.prog 11 #[.string a0, .string a1, .slice A2 l2.length c2] w fun e w' => e = .returned (.bool r) ∧ Below w.heap.size w w' := by
  have hu56 := Try.underlying56
  have hu58 := Try.underlying58
  have HR2 := Aside0.mk hr2
  have HC2 := Aside0.mk hc2
  clear hr2 hc2
  have HB := Aside0.mk (Below.refl w.heap.size w)
  have H : (if (a0.size : Int) > 300 then (styluslaw07_TapePlays.j0 k a0 a1 l2 true) else (if (a1.size : Int) > 300 then (styluslaw07_TapePlays.j0 k a0 a1 l2 true) else (styluslaw07_TapePlays.j0 k a0 a1 l2 (decide ((l2.length : Int) > 20))))) = some r := h
  clear h
  have HC4 := Aside0.mk H
  clear H
  go_enter Try.func11, Try.ntmps11
  go_upto_region 1 with (fail)
  go_cut [25] (fun v25 wc => ∃ (kq : Nat) (x25_3 : Bool), v25 = .bool x25_3 ∧ Aside0 (styluslaw07_TapePlays.j0 kq a0 a1 l2 x25_3 = some r) ∧ Aside0 (kq ≤ k) ∧ Aside0 (Below w.heap.size w wc))
  case first =>
    have H := HC4.out
    clear HC4
    by_cases c5 : (a0.size : Int) > 300
    · rw [if_pos c5] at H
      have c5b0 : decide (300 < (a0.size : Int)) = true := decide_eq_true c5
      have c5b1 : decide (300 < a0.size) = true := decide_eq_true (by omega)
      clear c5
      (first | rw [c5b0] | (simp only [i64_w, i32_w]; rw [c5b0]) | skip)
      have H' := Aside0.mk H
      clear H
      go_wp2
      go_meet
      case rel => exact ⟨_, (true), (by first | rfl | (simp; done) | (simp [*]; done)), H', ⟨by first | omega | exact Nat.le_refl _⟩, ⟨by repeat (first | (with_reducible first | exact HB.out | apply below_alloc | apply pw_below_drewN | apply below_drew1) | exact HB.out)⟩⟩
    · rw [if_neg c5] at H
      have c5b0 : decide (300 < (a0.size : Int)) = false := decide_eq_false c5
      have c5b1 : decide (300 < a0.size) = false := decide_eq_false (by omega)
      clear c5
      (first | rw [c5b0] | (simp only [i64_w, i32_w]; rw [c5b0]) | skip)
      by_cases c6 : (a1.size : Int) > 300
      · rw [if_pos c6] at H
        have c6b0 : decide (300 < (a1.size : Int)) = true := decide_eq_true c6
        have c6b1 : decide (300 < a1.size) = true := decide_eq_true (by omega)
        clear c6
        have H' := Aside0.mk H
        clear H
        go_wp2
        go_meet
        case rel => exact ⟨_, (true), (by first | rfl | (simp; done) | (simp [*]; done)), H', ⟨by first | omega | exact Nat.le_refl _⟩, ⟨by repeat (first | (with_reducible first | exact HB.out | apply below_alloc | apply pw_below_drewN | apply below_drew1) | exact HB.out)⟩⟩
      · rw [if_neg c6] at H
        have c6b0 : decide (300 < (a1.size : Int)) = false := decide_eq_false c6
        have c6b1 : decide (300 < a1.size) = false := decide_eq_false (by omega)
        clear c6
        have H' := Aside0.mk H
        clear H
        go_wp2
        go_meet
        case rel => exact ⟨_, (decide ((l2.length : Int) > 20)), (by first | rfl | (simp; done) | (simp [*]; done)), H', ⟨by first | omega | exact Nat.le_refl _⟩, ⟨by repeat (first | (with_reducible first | exact HB.out | apply below_alloc | apply pw_below_drewN | apply below_drew1) | exact HB.out)⟩⟩
  case rest =>
    clear HC4
    try clear c1
    try clear c2
    try clear p2
    try clear c5
    try clear c5b0
    try clear c5b1
    try clear c6
    try clear c6b0
    try clear c6b1
    obtain ⟨kq, x25_3, rfl, HA, HJ3, HB⟩ := hcut
    cases kq with
    | zero => exact absurd HA.out (by simp [styluslaw07_TapePlays.j0])
    | succ kj3 =>
      have H := HA.out
      clear HA
      simp only [styluslaw07_TapePlays.j0] at H
      by_cases c7 : x25_3 = true
      · subst c7
        have H1 : ((styluslaw07_lives.f kj3).bind fun t206 => (some t206)) = some r := by rw [if_pos rfl] at H; exact H
        clear H
        have H := H1
        clear H1
        replace H := Option.bind_eq_some_iff.mp H
        obtain ⟨t206, A80, H⟩ := H
        replace H : (some t206) = some r := H
        have A8 := Aside0.mk A80
        clear A80
        obtain rfl := Option.some.inj H
        go_wp2_with (first | ((with_reducible refine gate_callee (f := 24) rfl ?_); refine goesL_ (some 26) rfl rfl Try.func24 (by kernel_rfl) rfl #[] rfl (by (try simp only [List.map_toArray, List.map_cons, List.map_nil]); first | done | rfl | (simp only [List.length_drop, List.length_take]; rfl)) ?_; (with_reducible refine (styluslaw07_lives.calls kj3  t206 _ A8.out).mono ?_); rintro e w9 ⟨rfl, hb⟩; refine ⟨_, rfl, ?_⟩; have n0_ := Aside0.mk (below_step (by repeat (first | (with_reducible first | exact HB.out | apply below_alloc | apply pw_below_drewN | apply below_drew1) | exact HB.out)) hb); clear HB; have HB := n0_; clear n0_; (try clear hb); (try clear hb2); (try clear hk); (try clear hi)))
        go_ret
        exact ⟨by first | rfl | (simp [errW_none, errW_some] <;> rfl) | (simp [*, errW_none, errW_some] <;> rfl), by repeat (first | (with_reducible first | exact HB.out | apply below_alloc | apply pw_below_drewN | apply below_drew1) | exact HB.out)⟩
      · replace c7 := Bool.eq_false_iff.mpr c7
        subst c7
        have H1 : ((tape_Load.f a0 a1).bind fun bt207 => (styluslaw07_TapePlays.l0 kj3 l2 0 bt207.1 bt207.2.1 bt207.2.2 a0 a1)) = some r := by rw [if_neg (show ¬ (false = true) by decide)] at H; exact H
        clear H
        have H := H1
        clear H1
        replace H := Option.bind_eq_some_iff.mp H
        obtain ⟨⟨t207, t208, t209⟩, A100, H⟩ := H
        replace H : (styluslaw07_TapePlays.l0 kj3 l2 0 t207 t208 t209 a0 a1) = some r := H
        have A10 := Aside0.mk A100
        clear A100
        have H' := Aside0.mk H
        clear H
        go_wp2_with (first | ((with_reducible refine gate_callee (f := 35) rfl ?_); refine goesL_ (some 29) rfl rfl Try.func35 (by kernel_rfl) rfl #[.string a0, .string a1] rfl (by (try simp only [List.map_toArray, List.map_cons, List.map_nil]); first | done | rfl | (simp only [List.length_drop, List.length_take]; rfl)) ?_; (with_reducible refine (tape_Load.calls a0 a1 t207 t208 t209 w _ ?side1 A10.out).mono ?_); (case side1 => repeat (first | (with_reducible first | exact HB.out | apply below_alloc | apply pw_below_drewN | apply below_drew1) | exact HB.out)); rintro e w11 ⟨g210, rfl, hi, hb, hb2⟩; refine ⟨_, rfl, ?_⟩; have n0_ := Aside0.mk (hb); have n1_ := Aside0.mk (hi); clear HB; have HB := n0_; have HI210 := n1_; clear n0_ n1_; (try clear hb); (try clear hb2); (try clear hk); (try clear hi)) | ((with_reducible refine gate_dst (N := 8) rfl ?_); (try (refine gate_guard (by rfl) ?_; dsimp only)); refine box_event ?hg (N := 8) ?hd (cs := #[.string (⟨#[]⟩ : ByteArray), .string (⟨#[]⟩ : ByteArray)]) (t := 56) ?hr ?_; (case hd => rfl); (case hg => rfl); (case hr => first | (go_simp; done) | (go_simp; rfl)); intro gb211 hg w12 hbox hb; have n0_ := Aside0.mk (IsS50.below (by repeat (first | (with_reducible first | exact HI210.out | apply IsS50.alloc | apply IsS50.drewN | apply IsS50.drew | apply IsS50.set_0 | apply IsS50.set_1 | apply IsS50.set_2) | exact HI210.out)) hb); have n1_ := Aside0.mk (below_step (by repeat (first | (with_reducible first | exact HB.out | apply below_alloc | apply pw_below_drewN | apply below_drew1 | refine below_set ?_ (IsS50.ge HI210.out)) | exact HB.out)) hb); have n2_ := Aside0.mk (hbox); have n3_ := Aside0.mk ((by rw [hg]; exact (below_size (by repeat (first | (with_reducible first | exact HB.out | apply below_alloc | apply pw_below_drewN | apply below_drew1 | refine below_set ?_ (IsS50.ge HI210.out)) | exact HB.out))) : w.heap.size ≤ gb211)); have n4_ := Aside0.mk ((by rw [hg]; exact (below_size (by repeat (first | (with_reducible first | exact HB.out | apply below_alloc | apply pw_below_drewN | apply below_drew1 | refine below_set ?_ (IsS50.ge HI210.out)) | exact HB.out))) : w.heap.size ≤ gb211)); have n5_ := Aside0.mk ((by rw [hg]; exact Nat.ne_of_lt (IsS50.lt (show IsS50 w _ g210 t207 t208 t209 from by repeat (first | (with_reducible first | exact HI210.out | apply IsS50.alloc | apply IsS50.drewN | apply IsS50.drew | apply IsS50.set_0 | apply IsS50.set_1 | apply IsS50.set_2) | exact HI210.out))) : g210 ≠ gb211)); have n6_ := Aside0.mk ((by rw [hg]; exact Nat.ne_of_gt (IsS50.lt (show IsS50 w _ g210 t207 t208 t209 from by repeat (first | (with_reducible first | exact HI210.out | apply IsS50.alloc | apply IsS50.drewN | apply IsS50.drew | apply IsS50.set_0 | apply IsS50.set_1 | apply IsS50.set_2) | exact HI210.out))) : gb211 ≠ g210)); clear HI210; clear HB; have HI210 := n0_; have HB := n1_; have BK211 := n2_; have GW211 := n3_; have GE211 := n4_; have NB210_211 := n5_; have NB211_210 := n6_; clear n0_ n1_ n2_ n3_ n4_ n5_ n6_; clear hb hbox hg; have hnb13 := NB211_210.out; have hnc13 := NB210_211.out; have hcz14_0 : w12.cell? ⟨gb211, 0, none⟩ = some (.string (⟨#[]⟩ : ByteArray)) := (blk_cell BK211.out 0).trans rfl; have hcz14_1 : w12.cell? ⟨gb211, 1, none⟩ = some (.string (⟨#[]⟩ : ByteArray)) := (blk_cell BK211.out 1).trans rfl; have hfz14_0 := blk_frozen BK211.out 0; have hfz14_1 := blk_frozen BK211.out 1))
        go_loopg [7, 9] kj3 (fun kq v7 v9 w' => ∃ (g210 : Nat) (x9_2 : Int) (x211000_2 : ByteArray) (x211001_2 : ByteArray) (x211002_2 : Bool) (x212000_2 : ByteArray) (x212001_2 : ByteArray), v7 = .pointer (some ⟨g210, 0, none⟩) ∧ Aside0 (g210 ≠ gb211) ∧ Aside0 (gb211 ≠ g210) ∧ v9 = .int .i64 x9_2 ∧ Aside0 (styluslaw07_TapePlays.l0 kq l2 x9_2 x211000_2 x211001_2 x211002_2 x212000_2 x212001_2 = some r) ∧ Aside0 (kq ≤ kj3) ∧ Aside0 (w'.heap[gb211]? = some (.cells #[.string x212000_2, .string x212001_2] 56 (0, 0))) ∧ Aside0 (IsS50 w w' g210 x211000_2 x211001_2 x211002_2) ∧ Aside0 (Below w.heap.size w w'))
        case atStart => exact ⟨g210, (0), (t207), (t208), (t209), (a0), (a1), rfl, NB210_211, NB211_210, (by first | rfl | (simp; done) | (simp [*]; done)), H', ⟨Nat.le_refl _⟩, ⟨by (with_reducible repeat (first | refine blk_drewN ?_ _ | refine blk_drew ?_ | refine blk_alloc ?_ _)); refine blk_put (cs := #[.string a0, .string (⟨#[]⟩ : ByteArray)]) ?_ 1 _ rfl; (with_reducible repeat (first | refine blk_drewN ?_ _ | refine blk_drew ?_ | refine blk_alloc ?_ _)); refine blk_put (cs := #[.string (⟨#[]⟩ : ByteArray), .string (⟨#[]⟩ : ByteArray)]) ?_ 0 _ rfl; (with_reducible repeat (first | refine blk_drewN ?_ _ | refine blk_drew ?_ | refine blk_alloc ?_ _)); exact BK211.out⟩, ⟨by repeat (first | (with_reducible first | exact HI210.out | apply IsS50.alloc | apply IsS50.drewN | apply IsS50.drew | apply IsS50.set_0 | apply IsS50.set_1 | apply IsS50.set_2 | refine IsS50.far ?_ NB210_211.out _) | exact HI210.out)⟩, ⟨by repeat (first | (with_reducible first | exact HB.out | apply below_alloc | apply pw_below_drewN | apply below_drew1 | refine below_set ?_ (IsS50.ge HI210.out) | refine below_set ?_ GE211.out) | exact HB.out)⟩⟩
        case round =>
          clear H'
          try clear c1
          try clear c2
          try clear p2
          try clear c3
          try clear c5
          try clear c5b0
          try clear c5b1
          try clear c6
          try clear c6b0
          try clear c6b1
          try clear c7
          try clear c11
          try clear c13
          try clear hcz14_0
          try clear hcz14_1
          try clear hfz14_0
          try clear hfz14_1
          try clear p2
          obtain ⟨g210, x9_2, x211000_2, x211001_2, x211002_2, x212000_2, x212001_2, rfl, NB210_211, NB211_210, rfl, HA, HK2, BK211, HI210, HB⟩ := hrel
          cases gk with
          | zero => exact absurd HA.out (by simp [styluslaw07_TapePlays.l0])
          | succ k2 =>
            have H := HA.out
            clear HA
            simp only [styluslaw07_TapePlays.l0] at H
            by_cases c15 : x9_2 < (l2.length : Int)
            · rw [if_pos c15] at H
              have c15b0 : decide (x9_2 < (l2.length : Int)) = true := decide_eq_true c15
              clear c15
              by_cases c16 : 0 ≤ x9_2
              · rw [if_pos c16] at H
                have c16b0 : decide (0 ≤ x9_2) = true := decide_eq_true c16
                clear c16
                by_cases c17 : ((rd_T58 l2 x9_2).f0) = 4
                · rw [if_pos c17] at H
                  obtain ⟨cm, H⟩ : x211002_2 = true ∧ _ := by
                    by_cases cm : x211002_2 = true
                    · rw [if_pos cm] at H; exact ⟨cm, H⟩
                    · rw [if_neg cm] at H; exact absurd H (by simp)
                  subst cm
                  obtain ⟨cs, H⟩ : x211001_2.size ≤ 4000 ∧ _ := by
                    by_cases cs : x211001_2.size ≤ 4000
                    · rw [if_pos cs] at H; exact ⟨cs, H⟩
                    · rw [if_neg cs] at H; exact absurd H (by simp)
                  have Happ : Aside0 (tape_Tape_Append.f x211000_2 x211001_2 true ⟨#[111, 118, 101, 114]⟩ = some (x211000_2, x211001_2 ++ ⟨#[111, 118, 101, 114]⟩, true)) := ⟨by unfold tape_Tape_Append.f tape_Tape_none.f; rw [Option.bind_some]; dsimp only; rw [if_neg (by decide), if_pos (by have h4 : (⟨#[111, 118, 101, 114]⟩ : ByteArray).size = 4 := rfl; rw [h4]; omega)]⟩
                  clear cs
                  have c17b0 : (((rd_T58 l2 x9_2).f0) == 4) = true := beq_iff_eq.mpr c17
                  have c17b1 : (((rd_T58 l2 x9_2).f0) != 4) = false := bne_eq_false_iff_eq.mpr c17
                  clear c17
                  have H' := Aside0.mk H
                  clear H
                  have p213 : 0 ≤ (x9_2 : Int) := of_decide_eq_true (by first | (with_reducible assumption) | assumption)
                  have q213 : x9_2 < (l2.length : Int) := of_decide_eq_true (by first | (with_reducible assumption) | assumption)
                  obtain ⟨ad213, e213, hx213_0, hx213_1, hx213_2⟩ := at_T58 HR2.out x9_2 p213 q213
                  cases e213
                  replace hx213_0 := (HB.out.cell (World.block_lt_of_cell? w _ hx213_0)).trans hx213_0
                  replace hx213_1 := (HB.out.cell (World.block_lt_of_cell? w _ hx213_1)).trans hx213_1
                  replace hx213_2 := (HB.out.cell (World.block_lt_of_cell? w _ hx213_2)).trans hx213_2
                  replace p213 := eq_true p213
                  replace q213 := eq_true q213
                  go_wp2_with (first | (go_at_call 34; (with_reducible refine (tape_Tape_Copy.calls g210 x211000_2 x211001_2 w _ HI210.out HB.out).mono ?_); rintro e w7 ⟨g2, rfl, hge, hi2, hb⟩; have n0_ := Aside0.mk (HI210.out.below hb); have n1_ := Aside0.mk (blk_below BK211.out hb); have n2_ := Aside0.mk (below_step HB.out hb); have HN := Aside0.mk hi2; have N1 : Aside0 (g2 ≠ g210) := ⟨Nat.ne_of_gt (Nat.lt_of_lt_of_le HI210.out.lt hge)⟩; have N2 : Aside0 (g2 ≠ gb211) := ⟨Nat.ne_of_gt (Nat.lt_of_lt_of_le (blk_lt BK211.out) hge)⟩; have N3 : Aside0 (gb211 ≠ g2) := ⟨Nat.ne_of_lt (Nat.lt_of_lt_of_le (blk_lt BK211.out) hge)⟩; clear HI210 BK211 HB; have HI210 := n0_; have BK211 := n1_; have HB := n2_; clear n0_ n1_ n2_ hge hi2 hb) | (go_at_call 26; (with_reducible refine (tape_Tape_Append.calls g210 x211000_2 x211001_2 true ⟨#[111, 118, 101, 114]⟩ x211000_2 (x211001_2 ++ ⟨#[111, 118, 101, 114]⟩) true w _ HI210.out HB.out Happ.out).mono ?_); rintro e w8 ⟨rfl, hi, hb, hk⟩; have n0_ := Aside0.mk hi; have n1_ := Aside0.mk (hk.blk BK211.out NB211_210.out (by simp)); have n2_ := Aside0.mk hb; have n3_ : Aside0 (IsS50 w w8 g2 x211000_2 x211001_2 true) := ⟨⟨hk.blk HN.out.1 N1.out (by simp), HN.out.2⟩⟩; clear HI210 BK211 HB HN; have HI210 := n0_; have BK211 := n1_; have HB := n2_; have HN := n3_; clear n0_ n1_ n2_ n3_ hi hb hk) | (go_at_call 27; (with_reducible refine (tape_Tape_Sync.calls g210 x211000_2 (x211001_2 ++ ⟨#[111, 118, 101, 114]⟩) true (x211001_2 ++ ⟨#[111, 118, 101, 114]⟩) (x211001_2 ++ ⟨#[111, 118, 101, 114]⟩) true w _ HI210.out HB.out rfl).mono ?_); rintro e w9 ⟨rfl, hi, hb, hk⟩; have n1_ := Aside0.mk (hk.blk BK211.out NB211_210.out (by simp)); have n2_ := Aside0.mk hb; have n3_ : Aside0 (IsS50 w w9 g2 x211000_2 x211001_2 true) := ⟨⟨hk.blk HN.out.1 N1.out (by simp), HN.out.2⟩⟩; clear HI210 BK211 HB HN; have BK211 := n1_; have HB := n2_; have HI210 := n3_; clear n1_ n2_ n3_ hi hb hk))
                  go_roundg k2
                  case measure => have := HJ3.out; have := HK2.out; omega
                  case rel => exact ⟨g2, (wrap64 (x9_2 + 1)), (x211000_2), (x211001_2), (true), (x212000_2), (x212001_2), rfl, N2, N3, (by first | rfl | (simp; done) | (simp [*]; done)), H', ⟨by have := HJ3.out; have := HK2.out; omega⟩, ⟨by (with_reducible repeat (first | refine blk_drewN ?_ _ | refine blk_drew ?_ | refine blk_alloc ?_ _)); exact BK211.out⟩, ⟨by repeat (first | (with_reducible first | exact HI210.out | apply IsS50.alloc | apply IsS50.drewN | apply IsS50.drew | apply IsS50.set_0 | apply IsS50.set_1 | apply IsS50.set_2 | refine IsS50.far ?_ NB210_211.out _) | exact HI210.out)⟩, ⟨by repeat (first | (with_reducible first | exact HB.out | apply below_alloc | apply pw_below_drewN | apply below_drew1 | refine below_set ?_ (IsS50.ge HI210.out) | refine below_set ?_ GE211.out) | exact HB.out)⟩⟩
                · rw [if_neg c17] at H
                  have c17b0 : (((rd_T58 l2 x9_2).f0) == 4) = false := beq_eq_false_iff_ne.mpr c17
                  have c17b1 : (((rd_T58 l2 x9_2).f0) != 4) = true := bne_iff_ne.mpr c17
                  replace H := Option.bind_eq_some_iff.mp H
                  obtain ⟨⟨t215, t216, t217, t218, t219, t220⟩, A180, H⟩ := H
                  replace H : (if t217 = true then ((tape_Tape_Now.f t218 t219 t220).bind fun bt222 => (if bt222.1.toList = t216.toList then ((tape_Tape_Kept.f bt222.2.1 bt222.2.2.1 bt222.2.2.2).bind fun bt226 => (if bt226.1.toList = t215.toList then ((tape_Tape_Dirty.f k2 bt226.2.1 bt226.2.2.1 bt226.2.2.2).bind fun bt230 => ((stylusref07_Dirty.f k2 t215 t216).bind fun t234 => (if bt230.1 = t234 then ((tape_Tape_Sectors.f bt230.2.1 bt230.2.2.1 bt230.2.2.2).bind fun bt235 => ((stylusref07_Sectors.f t215 t216).bind fun t239 => (if bt235.1 = t239 then (styluslaw07_TapePlays.l0 k2 l2 (wrap64 (x9_2 + 1)) bt235.2.1 bt235.2.2.1 bt235.2.2.2 t215 t216) else (none)))) else (none)))) else (none))) else (none))) else (none)) = some r := H
                  have A18 := Aside0.mk A180
                  clear A180
                  by_cases c19 : t217 = true
                  · subst c19
                    have H1 : ((tape_Tape_Now.f t218 t219 t220).bind fun bt222 => (if bt222.1.toList = t216.toList then ((tape_Tape_Kept.f bt222.2.1 bt222.2.2.1 bt222.2.2.2).bind fun bt226 => (if bt226.1.toList = t215.toList then ((tape_Tape_Dirty.f k2 bt226.2.1 bt226.2.2.1 bt226.2.2.2).bind fun bt230 => ((stylusref07_Dirty.f k2 t215 t216).bind fun t234 => (if bt230.1 = t234 then ((tape_Tape_Sectors.f bt230.2.1 bt230.2.2.1 bt230.2.2.2).bind fun bt235 => ((stylusref07_Sectors.f t215 t216).bind fun t239 => (if bt235.1 = t239 then (styluslaw07_TapePlays.l0 k2 l2 (wrap64 (x9_2 + 1)) bt235.2.1 bt235.2.2.1 bt235.2.2.2 t215 t216) else (none)))) else (none)))) else (none))) else (none))) = some r := by rw [if_pos rfl] at H; exact H
                    clear H
                    have H := H1
                    clear H1
                    replace H := Option.bind_eq_some_iff.mp H
                    obtain ⟨⟨t222, t223, t224, t225⟩, A200, H⟩ := H
                    replace H : (if t222.toList = t216.toList then ((tape_Tape_Kept.f t223 t224 t225).bind fun bt226 => (if bt226.1.toList = t215.toList then ((tape_Tape_Dirty.f k2 bt226.2.1 bt226.2.2.1 bt226.2.2.2).bind fun bt230 => ((stylusref07_Dirty.f k2 t215 t216).bind fun t234 => (if bt230.1 = t234 then ((tape_Tape_Sectors.f bt230.2.1 bt230.2.2.1 bt230.2.2.2).bind fun bt235 => ((stylusref07_Sectors.f t215 t216).bind fun t239 => (if bt235.1 = t239 then (styluslaw07_TapePlays.l0 k2 l2 (wrap64 (x9_2 + 1)) bt235.2.1 bt235.2.2.1 bt235.2.2.2 t215 t216) else (none)))) else (none)))) else (none))) else (none)) = some r := H
                    have A20 := Aside0.mk A200
                    clear A200
                    by_cases c21 : t222.toList = t216.toList
                    · rw [if_pos c21] at H
                      have c21b0 : (t222.toList == t216.toList) = true := beq_iff_eq.mpr c21
                      have c21b1 : (t222.toList != t216.toList) = false := bne_eq_false_iff_eq.mpr c21
                      clear c21
                      replace H := Option.bind_eq_some_iff.mp H
                      obtain ⟨⟨t226, t227, t228, t229⟩, A220, H⟩ := H
                      replace H : (if t226.toList = t215.toList then ((tape_Tape_Dirty.f k2 t227 t228 t229).bind fun bt230 => ((stylusref07_Dirty.f k2 t215 t216).bind fun t234 => (if bt230.1 = t234 then ((tape_Tape_Sectors.f bt230.2.1 bt230.2.2.1 bt230.2.2.2).bind fun bt235 => ((stylusref07_Sectors.f t215 t216).bind fun t239 => (if bt235.1 = t239 then (styluslaw07_TapePlays.l0 k2 l2 (wrap64 (x9_2 + 1)) bt235.2.1 bt235.2.2.1 bt235.2.2.2 t215 t216) else (none)))) else (none)))) else (none)) = some r := H
                      have A22 := Aside0.mk A220
                      clear A220
                      by_cases c23 : t226.toList = t215.toList
                      · rw [if_pos c23] at H
                        have c23b0 : (t226.toList == t215.toList) = true := beq_iff_eq.mpr c23
                        have c23b1 : (t226.toList != t215.toList) = false := bne_eq_false_iff_eq.mpr c23
                        clear c23
                        replace H := Option.bind_eq_some_iff.mp H
                        obtain ⟨⟨t230, t231, t232, t233⟩, A240, H⟩ := H
                        replace H : ((stylusref07_Dirty.f k2 t215 t216).bind fun t234 => (if t230 = t234 then ((tape_Tape_Sectors.f t231 t232 t233).bind fun bt235 => ((stylusref07_Sectors.f t215 t216).bind fun t239 => (if bt235.1 = t239 then (styluslaw07_TapePlays.l0 k2 l2 (wrap64 (x9_2 + 1)) bt235.2.1 bt235.2.2.1 bt235.2.2.2 t215 t216) else (none)))) else (none))) = some r := H
                        have A24 := Aside0.mk A240
                        clear A240
                        replace H := Option.bind_eq_some_iff.mp H
                        obtain ⟨t234, A250, H⟩ := H
                        replace H : (if t230 = t234 then ((tape_Tape_Sectors.f t231 t232 t233).bind fun bt235 => ((stylusref07_Sectors.f t215 t216).bind fun t239 => (if bt235.1 = t239 then (styluslaw07_TapePlays.l0 k2 l2 (wrap64 (x9_2 + 1)) bt235.2.1 bt235.2.2.1 bt235.2.2.2 t215 t216) else (none)))) else (none)) = some r := H
                        have A25 := Aside0.mk A250
                        clear A250
                        by_cases c26 : t230 = t234
                        · rw [if_pos c26] at H
                          have c26b0 : (t230 == t234) = true := beq_iff_eq.mpr c26
                          have c26b1 : (t230 != t234) = false := bne_eq_false_iff_eq.mpr c26
                          clear c26
                          replace H := Option.bind_eq_some_iff.mp H
                          obtain ⟨⟨t235, t236, t237, t238⟩, A270, H⟩ := H
                          replace H : ((stylusref07_Sectors.f t215 t216).bind fun t239 => (if t235 = t239 then (styluslaw07_TapePlays.l0 k2 l2 (wrap64 (x9_2 + 1)) t236 t237 t238 t215 t216) else (none))) = some r := H
                          have A27 := Aside0.mk A270
                          clear A270
                          replace H := Option.bind_eq_some_iff.mp H
                          obtain ⟨t239, A280, H⟩ := H
                          replace H : (if t235 = t239 then (styluslaw07_TapePlays.l0 k2 l2 (wrap64 (x9_2 + 1)) t236 t237 t238 t215 t216) else (none)) = some r := H
                          have A28 := Aside0.mk A280
                          clear A280
                          by_cases c29 : t235 = t239
                          · rw [if_pos c29] at H
                            have c29b0 : (t235 == t239) = true := beq_iff_eq.mpr c29
                            have c29b1 : (t235 != t239) = false := bne_eq_false_iff_eq.mpr c29
                            clear c29
                            have H' := Aside0.mk H
                            clear H
                            have p213 : 0 ≤ (x9_2 : Int) := of_decide_eq_true (by first | (with_reducible assumption) | assumption)
                            have q213 : x9_2 < (l2.length : Int) := of_decide_eq_true (by first | (with_reducible assumption) | assumption)
                            obtain ⟨ad213, e213, hx213_0, hx213_1, hx213_2⟩ := at_T58 HR2.out x9_2 p213 q213
                            cases e213
                            replace hx213_0 := (HB.out.cell (World.block_lt_of_cell? w _ hx213_0)).trans hx213_0
                            replace hx213_1 := (HB.out.cell (World.block_lt_of_cell? w _ hx213_1)).trans hx213_1
                            replace hx213_2 := (HB.out.cell (World.block_lt_of_cell? w _ hx213_2)).trans hx213_2
                            replace p213 := eq_true p213
                            replace q213 := eq_true q213
                            try go_wp2
                            have n0_ := Aside0.mk (blk_drew BK211.out)
                            have n1_ := Aside0.mk (IsS50.drew HI210.out)
                            have n2_ := Aside0.mk (below_drew1 HB.out)
                            clear BK211
                            clear HI210
                            clear HB
                            have BK211 := n0_
                            have HI210 := n1_
                            have HB := n2_
                            clear n0_ n1_ n2_
                            have p214 : 0 ≤ (x9_2 : Int) := of_decide_eq_true (by first | (with_reducible assumption) | assumption)
                            have q214 : x9_2 < (l2.length : Int) := of_decide_eq_true (by first | (with_reducible assumption) | assumption)
                            obtain ⟨ad214, e214, hx214_0, hx214_1, hx214_2⟩ := at_T58 HR2.out x9_2 p214 q214
                            have hw214_2 := hx214_2
                            have hw214_1 := hx214_1
                            have hw214_0 := hx214_0
                            obtain rfl : ad213 = ad214 := (by injection e214)
                            replace hx214_0 := (HB.out.cell (World.block_lt_of_cell? w _ hx214_0)).trans hx214_0
                            replace hx214_1 := (HB.out.cell (World.block_lt_of_cell? w _ hx214_1)).trans hx214_1
                            replace hx214_2 := (HB.out.cell (World.block_lt_of_cell? w _ hx214_2)).trans hx214_2
                            replace p214 := eq_true p214
                            replace q214 := eq_true q214
                            refine start_ (n := 13) (S := fun w' => w'.cell? ⟨gb211, 0, none⟩ = some (.string x212000_2) ∧ w'.cell? ⟨gb211, 1, none⟩ = some (.string x212001_2) ∧ w'.cell? (ad213.add ((x9_2).toNat * 3)) = some (.int .i64 ((rd_T58 l2 x9_2).f0)) ∧ w'.cell? ⟨(ad213.add ((x9_2).toNat * 3)).block, (ad213.add ((x9_2).toNat * 3)).off + 1, none⟩ = some (.int .i64 ((rd_T58 l2 x9_2).f1)) ∧ w'.cell? ⟨(ad213.add ((x9_2).toNat * 3)).block, (ad213.add ((x9_2).toNat * 3)).off + 2, none⟩ = some (.string ((rd_T58 l2 x9_2).f2))) (ds := []) #[false, false, false, false, false, false, false, false, false, false, false, false, false] (by kernel_rfl) rfl rfl ⟨(blk_cell BK211.out 0).trans rfl, (blk_cell BK211.out 1).trans rfl, ((HB.out.cell (World.block_lt_of_cell? w _ hw214_0)).trans hw214_0), ((HB.out.cell (World.block_lt_of_cell? w _ hw214_1)).trans hw214_1), ((HB.out.cell (World.block_lt_of_cell? w _ hw214_2)).trans hw214_2)⟩ (fun hHeld => ?_); refine with_tabW styluslaw07_TapePlays.tab14 styluslaw07_TapePlays.bits14 (fun HT_ HW_ => ?_)
                            generalize wr.drew = w30 at BK211 HI210 HB hx214_0 hx214_1 hx214_2 hHeld ⊢
                            refine pure_ (i := 0) (N := some 55) (v := ?_) (a' := ?_) #[true, false, false, false, false, false, false, false, false, false, false, false, false] rfl rfl (any_of HT_.out (by kernel_rfl)) (fun _ _ _ h => h) (Or.inl ⟨by rfl, ?_⟩) ?_ ?_
                            rotate_left
                            · intro w'
                              go_simp
                              with_reducible rfl
                            rotate_left
                            · simp only [Act.put, List.setIfInBounds_toArray, List.set_cons_zero, List.set_cons_succ, i64_w, i32_w]
                              rfl
                            refine pure_ (i := 2) (N := some 57) (v := ?_) (a' := ?_) #[true, false, true, false, false, false, false, false, false, false, false, false, false] rfl rfl (any_of HT_.out (by kernel_rfl)) (fun _ _ _ h => h) (Or.inl ⟨by rfl, ?_⟩) ?_ ?_
                            rotate_left
                            · intro w'
                              go_simp
                              with_reducible rfl
                            rotate_left
                            · simp only [Act.put, List.setIfInBounds_toArray, List.set_cons_zero, List.set_cons_succ, i64_w, i32_w]
                              rfl
                            refine pure_ (i := 3) (N := some 58) (v := ?_) (a' := ?_) #[true, false, true, true, false, false, false, false, false, false, false, false, false] rfl rfl (any_of HT_.out (by kernel_rfl)) (fun _ _ _ h => h) (Or.inl ⟨by rfl, ?_⟩) ?_ ?_
                            rotate_left
                            · intro w'
                              go_simp
                              with_reducible rfl
                            rotate_left
                            · simp only [Act.put, List.setIfInBounds_toArray, List.set_cons_zero, List.set_cons_succ, i64_w, i32_w]
                              rfl
                            refine pure_ (i := 4) (N := some 59) (v := ?_) (a' := ?_) #[true, false, true, true, true, false, false, false, false, false, false, false, false] rfl rfl (any_of HT_.out (by kernel_rfl)) (fun _ _ _ h => h) (Or.inl ⟨by rfl, ?_⟩) ?_ ?_
                            rotate_left
                            · intro w'
                              go_simp
                              with_reducible rfl
                            rotate_left
                            · simp only [Act.put, List.setIfInBounds_toArray, List.set_cons_zero, List.set_cons_succ, i64_w, i32_w]
                              rfl
                            refine take_ (i := 1) (N := some 56) (v := ?_) (a' := ?_) #[true, true, true, true, true, false, false, false, false, false, false, false, false] rfl rfl (take_ofW HT_.out HW_.out (by kernel_rfl)) (fun _ _ _ h => h) (Or.inl ⟨by rfl, ?_⟩) hHeld ?_ ?_
                            rotate_left
                            · rintro w' ⟨s0, s1, s2, s3, s4⟩
                              go_simp
                              with_reducible rfl
                            rotate_left
                            · simp only [Act.put, List.setIfInBounds_toArray, List.set_cons_zero, List.set_cons_succ, i64_w, i32_w]
                              rfl
                            refine take_ (i := 5) (N := some 60) (v := ?_) (a' := ?_) #[true, true, true, true, true, true, false, false, false, false, false, false, false] rfl rfl (take_ofW HT_.out HW_.out (by kernel_rfl)) (fun _ _ _ h => h) (Or.inl ⟨by rfl, ?_⟩) hHeld ?_ ?_
                            rotate_left
                            · rintro w' ⟨s0, s1, s2, s3, s4⟩
                              go_simp
                              with_reducible rfl
                            rotate_left
                            · simp only [Act.put, List.setIfInBounds_toArray, List.set_cons_zero, List.set_cons_succ, i64_w, i32_w]
                              rfl
                            refine join_ (σ := Nat) 2 #[true, true, true, true, true, true, true, true, true, true, true, false, false] (fun s_ => [(61, .tuple #[.agg #[.string t215, .string t216], .bool true]), (11, .pointer (some ⟨s_, 0, none⟩)), (54, .tuple #[.agg #[.string t215, .string t216], .bool true]), (62, .agg #[.string t215, .string t216]), (63, .bool true)]) (fun s_ w' => (w'.cell? ⟨gb211, 0, none⟩ = some (.string x212000_2) ∧ w'.cell? ⟨gb211, 1, none⟩ = some (.string x212001_2) ∧ w'.cell? (ad213.add ((x9_2).toNat * 3)) = some (.int .i64 ((rd_T58 l2 x9_2).f0)) ∧ w'.cell? ⟨(ad213.add ((x9_2).toNat * 3)).block, (ad213.add ((x9_2).toNat * 3)).off + 1, none⟩ = some (.int .i64 ((rd_T58 l2 x9_2).f1)) ∧ w'.cell? ⟨(ad213.add ((x9_2).toNat * 3)).block, (ad213.add ((x9_2).toNat * 3)).off + 2, none⟩ = some (.string ((rd_T58 l2 x9_2).f2))) ∧ (w'.heap[gb211]? = some (.cells #[.string x212000_2, .string x212001_2] 56 (0, 0))) ∧ (w'.heap[s_]? = some (.cells #[.string (⟨#[]⟩ : ByteArray), .string (⟨#[]⟩ : ByteArray)] 56 (0, 0))) ∧ (w.heap.size ≤ s_) ∧ (w.heap.size ≤ s_) ∧ (g210 ≠ s_) ∧ (s_ ≠ g210) ∧ (gb211 ≠ s_) ∧ (s_ ≠ gb211) ∧ (IsS50 w w' g210 t218 t219 t220) ∧ (Below w.heap.size w w')) ?_ ?_
                            rotate_left
                            · intro hCont
                              refine two_ (i := 6) (j := 10) (Ni := some 61) (Nj := some 11) #[true, true, true, true, true, true, true, false, false, false, false, false, false] #[true, true, true, true, true, true, false, false, false, false, true, false, false] rfl rfl rfl rfl (two_of HT_.out (by kernel_rfl)) (by decide) (by decide) (fun K hK => ?_) (fun K hK => ?_)
                              · skip
                                refine goes_ Try.func36 (by kernel_rfl) rfl #[.pointer (some ⟨g210, 0, none⟩), .agg #[.string x212000_2, .string x212001_2], .agg #[.int .i64 ((rd_T58 l2 x9_2).f0), .int .i64 ((rd_T58 l2 x9_2).f1), .string ((rd_T58 l2 x9_2).f2)]] (by rfl) rfl rfl (by (try simp only [List.map_toArray, List.map_cons, List.map_nil]); first | done | rfl | (simp only [List.length_drop, List.length_take]; rfl)) ?_
                                with_reducible refine (styluslaw07_step.calls k2 g210 x211000_2 x211001_2 x211002_2 x212000_2 x212001_2 ((rd_T58 l2 x9_2).f0) ((rd_T58 l2 x9_2).f1) ((rd_T58 l2 x9_2).f2) t215 t216 true t218 t219 t220 w _ ?side1 ?side2 A18.out).mono ?_
                                (case side1 => repeat (first | (with_reducible first | exact HI210.out | apply IsS50.alloc | apply IsS50.drewN | apply IsS50.drew | apply IsS50.set_0 | apply IsS50.set_1 | apply IsS50.set_2 | refine IsS50.far ?_ NB210_211.out _) | exact HI210.out))
                                (case side2 => repeat (first | (with_reducible first | exact HB.out | apply below_alloc | apply pw_below_drewN | apply below_drew1 | refine below_set ?_ (IsS50.ge HI210.out) | refine below_set ?_ GE211.out) | exact HB.out))
                                rintro e w31 ⟨rfl, hi, hb, hk⟩
                                refine ⟨_, rfl, ?_⟩
                                have n0_ := Aside0.mk (KeepBut.blk hk (g' := gb211) (o := .cells #[.string x212000_2, .string x212001_2] 56 (0, 0)) (by (with_reducible repeat (first | refine blk_drewN ?_ _ | refine blk_drew ?_ | refine blk_alloc ?_ _)); exact BK211.out) NB211_210.out (by simp))
                                have n1_ := Aside0.mk (hb)
                                have n2_ := Aside0.mk (hi)
                                clear BK211
                                clear HB
                                clear HI210
                                have BK211 := n0_
                                have HB := n1_
                                have HI210 := n2_
                                clear n0_ n1_ n2_
                                (try clear hb)
                                (try clear hb2)
                                (try clear hk)
                                (try clear hi)
                                refine hK.out _ _ ⟨(blk_cell BK211.out 0).trans rfl, (blk_cell BK211.out 1).trans rfl, ((HB.out.cell (World.block_lt_of_cell? w _ hw214_0)).trans hw214_0), ((HB.out.cell (World.block_lt_of_cell? w _ hw214_1)).trans hw214_1), ((HB.out.cell (World.block_lt_of_cell? w _ hw214_2)).trans hw214_2)⟩ (fun hHeld => ?_)
                                clear hK K
                                refine norm_ (a' := ?_) ?_ ?_
                                rotate_left
                                · show Act.put _ (some 61) _ = _
                                  simp only [Act.put, List.setIfInBounds_toArray, List.set_cons_zero, List.set_cons_succ, i64_w, i32_w]
                                  rfl
                                refine pure_ (i := 7) (N := some 54) (v := ?_) (a' := ?_) #[true, true, true, true, true, true, true, true, false, false, false, false, false] rfl rfl (any_of HT_.out (by kernel_rfl)) (fun _ _ _ h => h) (Or.inl ⟨by rfl, ?_⟩) ?_ ?_
                                rotate_left
                                · intro w'
                                  go_simp
                                  with_reducible rfl
                                rotate_left
                                · simp only [Act.put, List.setIfInBounds_toArray, List.set_cons_zero, List.set_cons_succ, i64_w, i32_w]
                                  rfl
                                refine pure_ (i := 8) (N := some 62) (v := ?_) (a' := ?_) #[true, true, true, true, true, true, true, true, true, false, false, false, false] rfl rfl (any_of HT_.out (by kernel_rfl)) (fun _ _ _ h => h) (Or.inl ⟨by rfl, ?_⟩) ?_ ?_
                                rotate_left
                                · intro w'
                                  go_simp
                                  with_reducible rfl
                                rotate_left
                                · simp only [Act.put, List.setIfInBounds_toArray, List.set_cons_zero, List.set_cons_succ, i64_w, i32_w]
                                  rfl
                                refine pure_ (i := 9) (N := some 63) (v := ?_) (a' := ?_) #[true, true, true, true, true, true, true, true, true, true, false, false, false] rfl rfl (any_of HT_.out (by kernel_rfl)) (fun _ _ _ h => h) (Or.inl ⟨by rfl, ?_⟩) ?_ ?_
                                rotate_left
                                · intro w'
                                  go_simp
                                  with_reducible rfl
                                rotate_left
                                · simp only [Act.put, List.setIfInBounds_toArray, List.set_cons_zero, List.set_cons_succ, i64_w, i32_w]
                                  rfl
                                refine one_ (i := 10) (N := some 11) #[true, true, true, true, true, true, true, true, true, true, true, false, false] rfl rfl (one_of HT_.out (by kernel_rfl)) (by decide) (fun K hK => ?_)
                                refine box_step ?hg (N := 11) ?hd (cs := #[.string (⟨#[]⟩ : ByteArray), .string (⟨#[]⟩ : ByteArray)]) (t := 56) ?hr ?_; (case hd => rfl); (case hg => rfl); (case hr => first | (go_simp; done) | (go_simp; rfl))
                                intro gb221 hg w32 hbox hb
                                have n0_ := Aside0.mk (blk_below (g := gb211) (o := .cells #[.string x212000_2, .string x212001_2] 56 (0, 0)) (by (with_reducible repeat (first | refine blk_drewN ?_ _ | refine blk_drew ?_ | refine blk_alloc ?_ _)); exact BK211.out) hb)
                                have n1_ := Aside0.mk (IsS50.below (by repeat (first | (with_reducible first | exact HI210.out | apply IsS50.alloc | apply IsS50.drewN | apply IsS50.drew | apply IsS50.set_0 | apply IsS50.set_1 | apply IsS50.set_2 | refine IsS50.far ?_ NB210_211.out _) | exact HI210.out)) hb)
                                have n2_ := Aside0.mk (below_step (by repeat (first | (with_reducible first | exact HB.out | apply below_alloc | apply pw_below_drewN | apply below_drew1 | refine below_set ?_ (IsS50.ge HI210.out) | refine below_set ?_ GE211.out) | exact HB.out)) hb)
                                have n3_ := Aside0.mk (hbox)
                                have n4_ := Aside0.mk ((by rw [hg]; exact (below_size (by repeat (first | (with_reducible first | exact HB.out | apply below_alloc | apply pw_below_drewN | apply below_drew1 | refine below_set ?_ (IsS50.ge HI210.out) | refine below_set ?_ GE211.out) | exact HB.out))) : w.heap.size ≤ gb221))
                                have n5_ := Aside0.mk ((by rw [hg]; exact (below_size (by repeat (first | (with_reducible first | exact HB.out | apply below_alloc | apply pw_below_drewN | apply below_drew1 | refine below_set ?_ (IsS50.ge HI210.out) | refine below_set ?_ GE211.out) | exact HB.out))) : w.heap.size ≤ gb221))
                                have n6_ := Aside0.mk ((by rw [hg]; exact Nat.ne_of_lt (blk_lt (g := gb211) (o := .cells #[.string x212000_2, .string x212001_2] 56 (0, 0)) (by (with_reducible repeat (first | refine blk_drewN ?_ _ | refine blk_drew ?_ | refine blk_alloc ?_ _)); exact BK211.out)) : gb211 ≠ gb221))
                                have n7_ := Aside0.mk ((by rw [hg]; exact Nat.ne_of_gt (blk_lt (g := gb211) (o := .cells #[.string x212000_2, .string x212001_2] 56 (0, 0)) (by (with_reducible repeat (first | refine blk_drewN ?_ _ | refine blk_drew ?_ | refine blk_alloc ?_ _)); exact BK211.out)) : gb221 ≠ gb211))
                                have n8_ := Aside0.mk ((by rw [hg]; exact Nat.ne_of_lt (IsS50.lt (show IsS50 w _ g210 t218 t219 t220 from by repeat (first | (with_reducible first | exact HI210.out | apply IsS50.alloc | apply IsS50.drewN | apply IsS50.drew | apply IsS50.set_0 | apply IsS50.set_1 | apply IsS50.set_2 | refine IsS50.far ?_ NB210_211.out _) | exact HI210.out))) : g210 ≠ gb221))
                                have n9_ := Aside0.mk ((by rw [hg]; exact Nat.ne_of_gt (IsS50.lt (show IsS50 w _ g210 t218 t219 t220 from by repeat (first | (with_reducible first | exact HI210.out | apply IsS50.alloc | apply IsS50.drewN | apply IsS50.drew | apply IsS50.set_0 | apply IsS50.set_1 | apply IsS50.set_2 | refine IsS50.far ?_ NB210_211.out _) | exact HI210.out))) : gb221 ≠ g210))
                                clear BK211
                                clear HI210
                                clear HB
                                have BK211 := n0_
                                have HI210 := n1_
                                have HB := n2_
                                have BK221 := n3_
                                have GW221 := n4_
                                have GE221 := n5_
                                have NB211_221 := n6_
                                have NB221_211 := n7_
                                have NB210_221 := n8_
                                have NB221_210 := n9_
                                clear n0_ n1_ n2_ n3_ n4_ n5_ n6_ n7_ n8_ n9_
                                clear hb hbox hg
                                refine hK.out _ _ ⟨(blk_cell BK211.out 0).trans rfl, (blk_cell BK211.out 1).trans rfl, ((HB.out.cell (World.block_lt_of_cell? w _ hw214_0)).trans hw214_0), ((HB.out.cell (World.block_lt_of_cell? w _ hw214_1)).trans hw214_1), ((HB.out.cell (World.block_lt_of_cell? w _ hw214_2)).trans hw214_2)⟩ (fun hHeld => ?_)
                                clear hK K
                                refine norm_ (a' := ?_) ?_ ?_
                                rotate_left
                                · show Act.put _ (some 11) _ = _
                                  simp only [Act.put, List.setIfInBounds_toArray, List.set_cons_zero, List.set_cons_succ, i64_w, i32_w]
                                  rfl
                                exact norm_ (by simp only [putAll, Act.put, List.setIfInBounds_toArray, List.set_cons_zero, List.set_cons_succ]) (hCont (gb221) _ ⟨hHeld, (by (with_reducible repeat (first | refine blk_drewN ?_ _ | refine blk_drew ?_ | refine blk_alloc ?_ _)); exact BK211.out), (by (with_reducible repeat (first | refine blk_drewN ?_ _ | refine blk_drew ?_ | refine blk_alloc ?_ _)); exact BK221.out), GW221.out, GE221.out, NB210_221.out, NB221_210.out, NB211_221.out, NB221_211.out, (by repeat (first | (with_reducible first | exact HI210.out | apply IsS50.alloc | apply IsS50.drewN | apply IsS50.drew | apply IsS50.set_0 | apply IsS50.set_1 | apply IsS50.set_2 | refine IsS50.far ?_ NB210_211.out _ | refine IsS50.far ?_ NB210_221.out _) | exact HI210.out)), (by repeat (first | (with_reducible first | exact HB.out | apply below_alloc | apply pw_below_drewN | apply below_drew1 | refine below_set ?_ (IsS50.ge HI210.out) | refine below_set ?_ GE211.out | refine below_set ?_ GE221.out) | exact HB.out))⟩)
                              · skip
                                refine box_step ?hg (N := 11) ?hd (cs := #[.string (⟨#[]⟩ : ByteArray), .string (⟨#[]⟩ : ByteArray)]) (t := 56) ?hr ?_; (case hd => rfl); (case hg => rfl); (case hr => first | (go_simp; done) | (go_simp; rfl))
                                intro gb221 hg w31 hbox hb
                                have n0_ := Aside0.mk (blk_below (g := gb211) (o := .cells #[.string x212000_2, .string x212001_2] 56 (0, 0)) (by (with_reducible repeat (first | refine blk_drewN ?_ _ | refine blk_drew ?_ | refine blk_alloc ?_ _)); exact BK211.out) hb)
                                have n1_ := Aside0.mk (IsS50.below (by repeat (first | (with_reducible first | exact HI210.out | apply IsS50.alloc | apply IsS50.drewN | apply IsS50.drew | apply IsS50.set_0 | apply IsS50.set_1 | apply IsS50.set_2 | refine IsS50.far ?_ NB210_211.out _) | exact HI210.out)) hb)
                                have n2_ := Aside0.mk (below_step (by repeat (first | (with_reducible first | exact HB.out | apply below_alloc | apply pw_below_drewN | apply below_drew1 | refine below_set ?_ (IsS50.ge HI210.out) | refine below_set ?_ GE211.out) | exact HB.out)) hb)
                                have n3_ := Aside0.mk (hbox)
                                have n4_ := Aside0.mk ((by rw [hg]; exact (below_size (by repeat (first | (with_reducible first | exact HB.out | apply below_alloc | apply pw_below_drewN | apply below_drew1 | refine below_set ?_ (IsS50.ge HI210.out) | refine below_set ?_ GE211.out) | exact HB.out))) : w.heap.size ≤ gb221))
                                have n5_ := Aside0.mk ((by rw [hg]; exact (below_size (by repeat (first | (with_reducible first | exact HB.out | apply below_alloc | apply pw_below_drewN | apply below_drew1 | refine below_set ?_ (IsS50.ge HI210.out) | refine below_set ?_ GE211.out) | exact HB.out))) : w.heap.size ≤ gb221))
                                have n6_ := Aside0.mk ((by rw [hg]; exact Nat.ne_of_lt (blk_lt (g := gb211) (o := .cells #[.string x212000_2, .string x212001_2] 56 (0, 0)) (by (with_reducible repeat (first | refine blk_drewN ?_ _ | refine blk_drew ?_ | refine blk_alloc ?_ _)); exact BK211.out)) : gb211 ≠ gb221))
                                have n7_ := Aside0.mk ((by rw [hg]; exact Nat.ne_of_gt (blk_lt (g := gb211) (o := .cells #[.string x212000_2, .string x212001_2] 56 (0, 0)) (by (with_reducible repeat (first | refine blk_drewN ?_ _ | refine blk_drew ?_ | refine blk_alloc ?_ _)); exact BK211.out)) : gb221 ≠ gb211))
                                have n8_ := Aside0.mk ((by rw [hg]; exact Nat.ne_of_lt (IsS50.lt (show IsS50 w _ g210 x211000_2 x211001_2 x211002_2 from by repeat (first | (with_reducible first | exact HI210.out | apply IsS50.alloc | apply IsS50.drewN | apply IsS50.drew | apply IsS50.set_0 | apply IsS50.set_1 | apply IsS50.set_2 | refine IsS50.far ?_ NB210_211.out _) | exact HI210.out))) : g210 ≠ gb221))
                                have n9_ := Aside0.mk ((by rw [hg]; exact Nat.ne_of_gt (IsS50.lt (show IsS50 w _ g210 x211000_2 x211001_2 x211002_2 from by repeat (first | (with_reducible first | exact HI210.out | apply IsS50.alloc | apply IsS50.drewN | apply IsS50.drew | apply IsS50.set_0 | apply IsS50.set_1 | apply IsS50.set_2 | refine IsS50.far ?_ NB210_211.out _) | exact HI210.out))) : gb221 ≠ g210))
                                clear BK211
                                clear HI210
                                clear HB
                                have BK211 := n0_
                                have HI210 := n1_
                                have HB := n2_
                                have BK221 := n3_
                                have GW221 := n4_
                                have GE221 := n5_
                                have NB211_221 := n6_
                                have NB221_211 := n7_
                                have NB210_221 := n8_
                                have NB221_210 := n9_
                                clear n0_ n1_ n2_ n3_ n4_ n5_ n6_ n7_ n8_ n9_
                                clear hb hbox hg
                                refine hK.out _ _ ⟨(blk_cell BK211.out 0).trans rfl, (blk_cell BK211.out 1).trans rfl, ((HB.out.cell (World.block_lt_of_cell? w _ hw214_0)).trans hw214_0), ((HB.out.cell (World.block_lt_of_cell? w _ hw214_1)).trans hw214_1), ((HB.out.cell (World.block_lt_of_cell? w _ hw214_2)).trans hw214_2)⟩ (fun hHeld => ?_)
                                clear hK K
                                refine norm_ (a' := ?_) ?_ ?_
                                rotate_left
                                · show Act.put _ (some 11) _ = _
                                  simp only [Act.put, List.setIfInBounds_toArray, List.set_cons_zero, List.set_cons_succ, i64_w, i32_w]
                                  rfl
                                refine one_ (i := 6) (N := some 61) #[true, true, true, true, true, true, true, false, false, false, true, false, false] rfl rfl (one_of HT_.out (by kernel_rfl)) (by decide) (fun K hK => ?_)
                                refine goes_ Try.func36 (by kernel_rfl) rfl #[.pointer (some ⟨g210, 0, none⟩), .agg #[.string x212000_2, .string x212001_2], .agg #[.int .i64 ((rd_T58 l2 x9_2).f0), .int .i64 ((rd_T58 l2 x9_2).f1), .string ((rd_T58 l2 x9_2).f2)]] (by rfl) rfl rfl (by (try simp only [List.map_toArray, List.map_cons, List.map_nil]); first | done | rfl | (simp only [List.length_drop, List.length_take]; rfl)) ?_
                                with_reducible refine (styluslaw07_step.calls k2 g210 x211000_2 x211001_2 x211002_2 x212000_2 x212001_2 ((rd_T58 l2 x9_2).f0) ((rd_T58 l2 x9_2).f1) ((rd_T58 l2 x9_2).f2) t215 t216 true t218 t219 t220 w _ ?side1 ?side2 A18.out).mono ?_
                                (case side1 => repeat (first | (with_reducible first | exact HI210.out | apply IsS50.alloc | apply IsS50.drewN | apply IsS50.drew | apply IsS50.set_0 | apply IsS50.set_1 | apply IsS50.set_2 | refine IsS50.far ?_ NB210_211.out _ | refine IsS50.far ?_ NB210_221.out _) | exact HI210.out))
                                (case side2 => repeat (first | (with_reducible first | exact HB.out | apply below_alloc | apply pw_below_drewN | apply below_drew1 | refine below_set ?_ (IsS50.ge HI210.out) | refine below_set ?_ GE211.out | refine below_set ?_ GE221.out) | exact HB.out))
                                rintro e w32 ⟨rfl, hi, hb, hk⟩
                                refine ⟨_, rfl, ?_⟩
                                have n0_ := Aside0.mk (KeepBut.blk hk (g' := gb211) (o := .cells #[.string x212000_2, .string x212001_2] 56 (0, 0)) (by (with_reducible repeat (first | refine blk_drewN ?_ _ | refine blk_drew ?_ | refine blk_alloc ?_ _)); exact BK211.out) NB211_210.out (by simp))
                                have n1_ := Aside0.mk (KeepBut.blk hk (g' := gb221) (o := .cells #[.string (⟨#[]⟩ : ByteArray), .string (⟨#[]⟩ : ByteArray)] 56 (0, 0)) (by (with_reducible repeat (first | refine blk_drewN ?_ _ | refine blk_drew ?_ | refine blk_alloc ?_ _)); exact BK221.out) NB221_210.out (by simp))
                                have n2_ := Aside0.mk (hb)
                                have n3_ := Aside0.mk (hi)
                                clear BK211
                                clear BK221
                                clear HB
                                clear HI210
                                have BK211 := n0_
                                have BK221 := n1_
                                have HB := n2_
                                have HI210 := n3_
                                clear n0_ n1_ n2_ n3_
                                (try clear hb)
                                (try clear hb2)
                                (try clear hk)
                                (try clear hi)
                                refine hK.out _ _ ⟨(blk_cell BK211.out 0).trans rfl, (blk_cell BK211.out 1).trans rfl, ((HB.out.cell (World.block_lt_of_cell? w _ hw214_0)).trans hw214_0), ((HB.out.cell (World.block_lt_of_cell? w _ hw214_1)).trans hw214_1), ((HB.out.cell (World.block_lt_of_cell? w _ hw214_2)).trans hw214_2)⟩ (fun hHeld => ?_)
                                clear hK K
                                refine norm_ (a' := ?_) ?_ ?_
                                rotate_left
                                · show Act.put _ (some 61) _ = _
                                  simp only [Act.put, List.setIfInBounds_toArray, List.set_cons_zero, List.set_cons_succ, i64_w, i32_w]
                                  rfl
                                refine pure_ (i := 7) (N := some 54) (v := ?_) (a' := ?_) #[true, true, true, true, true, true, true, true, false, false, true, false, false] rfl rfl (any_of HT_.out (by kernel_rfl)) (fun _ _ _ h => h) (Or.inl ⟨by rfl, ?_⟩) ?_ ?_
                                rotate_left
                                · intro w'
                                  go_simp
                                  with_reducible rfl
                                rotate_left
                                · simp only [Act.put, List.setIfInBounds_toArray, List.set_cons_zero, List.set_cons_succ, i64_w, i32_w]
                                  rfl
                                refine pure_ (i := 8) (N := some 62) (v := ?_) (a' := ?_) #[true, true, true, true, true, true, true, true, true, false, true, false, false] rfl rfl (any_of HT_.out (by kernel_rfl)) (fun _ _ _ h => h) (Or.inl ⟨by rfl, ?_⟩) ?_ ?_
                                rotate_left
                                · intro w'
                                  go_simp
                                  with_reducible rfl
                                rotate_left
                                · simp only [Act.put, List.setIfInBounds_toArray, List.set_cons_zero, List.set_cons_succ, i64_w, i32_w]
                                  rfl
                                refine pure_ (i := 9) (N := some 63) (v := ?_) (a' := ?_) #[true, true, true, true, true, true, true, true, true, true, true, false, false] rfl rfl (any_of HT_.out (by kernel_rfl)) (fun _ _ _ h => h) (Or.inl ⟨by rfl, ?_⟩) ?_ ?_
                                rotate_left
                                · intro w'
                                  go_simp
                                  with_reducible rfl
                                rotate_left
                                · simp only [Act.put, List.setIfInBounds_toArray, List.set_cons_zero, List.set_cons_succ, i64_w, i32_w]
                                  rfl
                                exact norm_ (by simp only [putAll, Act.put, List.setIfInBounds_toArray, List.set_cons_zero, List.set_cons_succ]) (hCont (gb221) _ ⟨hHeld, (by (with_reducible repeat (first | refine blk_drewN ?_ _ | refine blk_drew ?_ | refine blk_alloc ?_ _)); exact BK211.out), (by (with_reducible repeat (first | refine blk_drewN ?_ _ | refine blk_drew ?_ | refine blk_alloc ?_ _)); exact BK221.out), GW221.out, GE221.out, NB210_221.out, NB221_210.out, NB211_221.out, NB221_211.out, (by repeat (first | (with_reducible first | exact HI210.out | apply IsS50.alloc | apply IsS50.drewN | apply IsS50.drew | apply IsS50.set_0 | apply IsS50.set_1 | apply IsS50.set_2 | refine IsS50.far ?_ NB210_211.out _ | refine IsS50.far ?_ NB210_221.out _) | exact HI210.out)), (by repeat (first | (with_reducible first | exact HB.out | apply below_alloc | apply pw_below_drewN | apply below_drew1 | refine below_set ?_ (IsS50.ge HI210.out) | refine below_set ?_ GE211.out | refine below_set ?_ GE221.out) | exact HB.out))⟩)
                            rintro gb221 w33 ⟨hS_, h0_, h1_, h2_, h3_, h4_, h5_, h6_, h7_, h8_, h9_⟩
                            have n0_ : Aside0 (w33.heap[gb211]? = some (.cells #[.string x212000_2, .string x212001_2] 56 (0, 0))) := ⟨h0_⟩
                            have n1_ : Aside0 (w33.heap[gb221]? = some (.cells #[.string (⟨#[]⟩ : ByteArray), .string (⟨#[]⟩ : ByteArray)] 56 (0, 0))) := ⟨h1_⟩
                            have n2_ : Aside0 (w.heap.size ≤ gb221) := ⟨h2_⟩
                            have n3_ : Aside0 (w.heap.size ≤ gb221) := ⟨h3_⟩
                            have n4_ : Aside0 (g210 ≠ gb221) := ⟨h4_⟩
                            have n5_ : Aside0 (gb221 ≠ g210) := ⟨h5_⟩
                            have n6_ : Aside0 (gb211 ≠ gb221) := ⟨h6_⟩
                            have n7_ : Aside0 (gb221 ≠ gb211) := ⟨h7_⟩
                            have n8_ : Aside0 (IsS50 w w33 g210 t218 t219 t220) := ⟨h8_⟩
                            have n9_ : Aside0 (Below w.heap.size w w33) := ⟨h9_⟩
                            clear BK211
                            clear HI210
                            clear HB
                            clear h0_ h1_ h2_ h3_ h4_ h5_ h6_ h7_ h8_ h9_
                            have BK211 := n0_
                            have BK221 := n1_
                            have GW221 := n2_
                            have GE221 := n3_
                            have NB210_221 := n4_
                            have NB221_210 := n5_
                            have NB211_221 := n6_
                            have NB221_211 := n7_
                            have HI210 := n8_
                            have HB := n9_
                            clear n0_ n1_ n2_ n3_ n4_ n5_ n6_ n7_ n8_ n9_
                            have hHeld : w33.cell? ⟨gb211, 0, none⟩ = some (.string x212000_2) ∧ w33.cell? ⟨gb211, 1, none⟩ = some (.string x212001_2) ∧ w33.cell? (ad213.add ((x9_2).toNat * 3)) = some (.int .i64 ((rd_T58 l2 x9_2).f0)) ∧ w33.cell? ⟨(ad213.add ((x9_2).toNat * 3)).block, (ad213.add ((x9_2).toNat * 3)).off + 1, none⟩ = some (.int .i64 ((rd_T58 l2 x9_2).f1)) ∧ w33.cell? ⟨(ad213.add ((x9_2).toNat * 3)).block, (ad213.add ((x9_2).toNat * 3)).off + 2, none⟩ = some (.string ((rd_T58 l2 x9_2).f2)) := hS_
                            refine norm_ (a' := ?_) ?_ ?_
                            rotate_left
                            · simp only [putAll, Act.put, List.setIfInBounds_toArray, List.set_cons_zero, List.set_cons_succ]
                              rfl
                            refine one_ (i := 11) (N := none) #[true, true, true, true, true, true, true, true, true, true, true, true, false] rfl rfl (one_of HT_.out (by kernel_rfl)) (by decide) (fun K hK => ?_)
                            have hs34 : w33.cell? ⟨gb221, 0, none⟩ = some (.string (⟨#[]⟩ : ByteArray)) := (blk_cell BK221.out 0).trans rfl
                            have hfs34 := blk_frozen BK221.out 0
                            have hns34_0 := NB211_221.out
                            have hms34_0 := NB221_211.out
                            have hs35 : w33.cell? ⟨gb221, 1, none⟩ = some (.string (⟨#[]⟩ : ByteArray)) := (blk_cell BK221.out 1).trans rfl
                            have hfs35 := blk_frozen BK221.out 1
                            have hns35_0 := NB211_221.out
                            have hms35_0 := NB221_211.out
                            refine skip_ (w1 := ?_) (by rfl) rfl ?_ ?_
                            rotate_left
                            · go_simp
                              rfl
                            refine hK.out _ _ ⟨((cell_far (p := ⟨gb221, _, none⟩) NB211_221.out _).trans (((cell_far (p := ⟨gb221, _, none⟩) NB211_221.out _).trans (hHeld.1)))), ((cell_far (p := ⟨gb221, _, none⟩) NB211_221.out _).trans (((cell_far (p := ⟨gb221, _, none⟩) NB211_221.out _).trans (hHeld.2.1)))), ((cell_far (p := ⟨gb221, _, none⟩) (by first | exact Nat.ne_of_lt (Nat.lt_of_lt_of_le (by have := World.block_lt_of_cell? _ _ hw214_0; first | rwa [add_block] at this | exact this) GW221.out) | (rw [add_block]; exact Nat.ne_of_lt (Nat.lt_of_lt_of_le (by have := World.block_lt_of_cell? _ _ hw214_0; first | rwa [add_block] at this | exact this) GW221.out)) | (show (Addr.add _ _).block ≠ _; rw [add_block]; exact Nat.ne_of_lt (Nat.lt_of_lt_of_le (by have := World.block_lt_of_cell? _ _ hw214_0; first | rwa [add_block] at this | exact this) GW221.out)) | (dsimp only; exact Nat.ne_of_lt (Nat.lt_of_lt_of_le (by have := World.block_lt_of_cell? _ _ hw214_0; first | rwa [add_block] at this | exact this) GW221.out))) _).trans (((cell_far (p := ⟨gb221, _, none⟩) (by first | exact Nat.ne_of_lt (Nat.lt_of_lt_of_le (by have := World.block_lt_of_cell? _ _ hw214_0; first | rwa [add_block] at this | exact this) GW221.out) | (rw [add_block]; exact Nat.ne_of_lt (Nat.lt_of_lt_of_le (by have := World.block_lt_of_cell? _ _ hw214_0; first | rwa [add_block] at this | exact this) GW221.out)) | (show (Addr.add _ _).block ≠ _; rw [add_block]; exact Nat.ne_of_lt (Nat.lt_of_lt_of_le (by have := World.block_lt_of_cell? _ _ hw214_0; first | rwa [add_block] at this | exact this) GW221.out)) | (dsimp only; exact Nat.ne_of_lt (Nat.lt_of_lt_of_le (by have := World.block_lt_of_cell? _ _ hw214_0; first | rwa [add_block] at this | exact this) GW221.out))) _).trans (hHeld.2.2.1)))), ((cell_far (p := ⟨gb221, _, none⟩) (by first | exact Nat.ne_of_lt (Nat.lt_of_lt_of_le (by have := World.block_lt_of_cell? _ _ hw214_1; first | rwa [add_block] at this | exact this) GW221.out) | (rw [add_block]; exact Nat.ne_of_lt (Nat.lt_of_lt_of_le (by have := World.block_lt_of_cell? _ _ hw214_1; first | rwa [add_block] at this | exact this) GW221.out)) | (show (Addr.add _ _).block ≠ _; rw [add_block]; exact Nat.ne_of_lt (Nat.lt_of_lt_of_le (by have := World.block_lt_of_cell? _ _ hw214_1; first | rwa [add_block] at this | exact this) GW221.out)) | (dsimp only; exact Nat.ne_of_lt (Nat.lt_of_lt_of_le (by have := World.block_lt_of_cell? _ _ hw214_1; first | rwa [add_block] at this | exact this) GW221.out))) _).trans (((cell_far (p := ⟨gb221, _, none⟩) (by first | exact Nat.ne_of_lt (Nat.lt_of_lt_of_le (by have := World.block_lt_of_cell? _ _ hw214_1; first | rwa [add_block] at this | exact this) GW221.out) | (rw [add_block]; exact Nat.ne_of_lt (Nat.lt_of_lt_of_le (by have := World.block_lt_of_cell? _ _ hw214_1; first | rwa [add_block] at this | exact this) GW221.out)) | (show (Addr.add _ _).block ≠ _; rw [add_block]; exact Nat.ne_of_lt (Nat.lt_of_lt_of_le (by have := World.block_lt_of_cell? _ _ hw214_1; first | rwa [add_block] at this | exact this) GW221.out)) | (dsimp only; exact Nat.ne_of_lt (Nat.lt_of_lt_of_le (by have := World.block_lt_of_cell? _ _ hw214_1; first | rwa [add_block] at this | exact this) GW221.out))) _).trans (hHeld.2.2.2.1)))), ((cell_far (p := ⟨gb221, _, none⟩) (by first | exact Nat.ne_of_lt (Nat.lt_of_lt_of_le (by have := World.block_lt_of_cell? _ _ hw214_2; first | rwa [add_block] at this | exact this) GW221.out) | (rw [add_block]; exact Nat.ne_of_lt (Nat.lt_of_lt_of_le (by have := World.block_lt_of_cell? _ _ hw214_2; first | rwa [add_block] at this | exact this) GW221.out)) | (show (Addr.add _ _).block ≠ _; rw [add_block]; exact Nat.ne_of_lt (Nat.lt_of_lt_of_le (by have := World.block_lt_of_cell? _ _ hw214_2; first | rwa [add_block] at this | exact this) GW221.out)) | (dsimp only; exact Nat.ne_of_lt (Nat.lt_of_lt_of_le (by have := World.block_lt_of_cell? _ _ hw214_2; first | rwa [add_block] at this | exact this) GW221.out))) _).trans (((cell_far (p := ⟨gb221, _, none⟩) (by first | exact Nat.ne_of_lt (Nat.lt_of_lt_of_le (by have := World.block_lt_of_cell? _ _ hw214_2; first | rwa [add_block] at this | exact this) GW221.out) | (rw [add_block]; exact Nat.ne_of_lt (Nat.lt_of_lt_of_le (by have := World.block_lt_of_cell? _ _ hw214_2; first | rwa [add_block] at this | exact this) GW221.out)) | (show (Addr.add _ _).block ≠ _; rw [add_block]; exact Nat.ne_of_lt (Nat.lt_of_lt_of_le (by have := World.block_lt_of_cell? _ _ hw214_2; first | rwa [add_block] at this | exact this) GW221.out)) | (dsimp only; exact Nat.ne_of_lt (Nat.lt_of_lt_of_le (by have := World.block_lt_of_cell? _ _ hw214_2; first | rwa [add_block] at this | exact this) GW221.out))) _).trans (hHeld.2.2.2.2))))⟩ (fun hHeld => ?_)
                            clear hK K
                            refine pure_ (i := 12) (N := some 12) (v := ?_) (a' := ?_) #[true, true, true, true, true, true, true, true, true, true, true, true, true] rfl rfl (any_of HT_.out (by kernel_rfl)) (fun _ _ _ h => h) (Or.inl ⟨by rfl, ?_⟩) ?_ ?_
                            rotate_left
                            · intro w'
                              go_simp
                              with_reducible rfl
                            rotate_left
                            · simp only [Act.put, List.setIfInBounds_toArray, List.set_cons_zero, List.set_cons_succ, i64_w, i32_w]
                              rfl
                            refine done_ (done_of HT_.out (by kernel_rfl)) ?_
                            have hnb36 := NB221_211.out
                            have hnc36 := NB211_221.out
                            have hnb37 := NB221_210.out
                            have hnc37 := NB210_221.out
                            have hcz38_0 : w33.cell? ⟨gb221, 0, none⟩ = some (.string (⟨#[]⟩ : ByteArray)) := (blk_cell BK221.out 0).trans rfl
                            have hcz38_1 : w33.cell? ⟨gb221, 1, none⟩ = some (.string (⟨#[]⟩ : ByteArray)) := (blk_cell BK221.out 1).trans rfl
                            have hfz38_0 := blk_frozen BK221.out 0
                            have hfz38_1 := blk_frozen BK221.out 1
                            have hnb39 := NB211_210.out
                            have hnc39 := NB210_211.out
                            have hcz40_0 : w33.cell? ⟨gb211, 0, none⟩ = some (.string x212000_2) := (blk_cell BK211.out 0).trans rfl
                            have hcz40_1 : w33.cell? ⟨gb211, 1, none⟩ = some (.string x212001_2) := (blk_cell BK211.out 1).trans rfl
                            have hfz40_0 := blk_frozen BK211.out 0
                            have hfz40_1 := blk_frozen BK211.out 1
                            try go_wp2
                            have n0_ : Aside0 (((((w33.setCell ⟨gb221, 0, none⟩ (.string t215)).setCell ⟨gb221, 1, none⟩ (.string t216)).setCell ⟨gb211, 0, none⟩ (.string t215)).setCell ⟨gb211, 1, none⟩ (.string t216)).heap[gb211]? = some (.cells #[.string t215, .string t216] 56 (0, 0))) := ⟨by (with_reducible repeat (first | refine blk_drewN ?_ _ | refine blk_drew ?_ | refine blk_alloc ?_ _)); refine blk_put (cs := #[.string t215, .string x212001_2]) ?_ 1 _ rfl; (with_reducible repeat (first | refine blk_drewN ?_ _ | refine blk_drew ?_ | refine blk_alloc ?_ _)); refine blk_put (cs := #[.string x212000_2, .string x212001_2]) ?_ 0 _ rfl; (with_reducible repeat (first | refine blk_drewN ?_ _ | refine blk_drew ?_ | refine blk_alloc ?_ _)); refine blk_far ?_ NB211_221.out _; (with_reducible repeat (first | refine blk_drewN ?_ _ | refine blk_drew ?_ | refine blk_alloc ?_ _)); refine blk_far ?_ NB211_221.out _; (with_reducible repeat (first | refine blk_drewN ?_ _ | refine blk_drew ?_ | refine blk_alloc ?_ _)); exact BK211.out⟩
                            have n1_ : Aside0 (((((w33.setCell ⟨gb221, 0, none⟩ (.string t215)).setCell ⟨gb221, 1, none⟩ (.string t216)).setCell ⟨gb211, 0, none⟩ (.string t215)).setCell ⟨gb211, 1, none⟩ (.string t216)).heap[gb221]? = some (.cells #[.string t215, .string t216] 56 (0, 0))) := ⟨by (with_reducible repeat (first | refine blk_drewN ?_ _ | refine blk_drew ?_ | refine blk_alloc ?_ _)); refine blk_far ?_ NB221_211.out _; (with_reducible repeat (first | refine blk_drewN ?_ _ | refine blk_drew ?_ | refine blk_alloc ?_ _)); refine blk_far ?_ NB221_211.out _; (with_reducible repeat (first | refine blk_drewN ?_ _ | refine blk_drew ?_ | refine blk_alloc ?_ _)); refine blk_put (cs := #[.string t215, .string (⟨#[]⟩ : ByteArray)]) ?_ 1 _ rfl; (with_reducible repeat (first | refine blk_drewN ?_ _ | refine blk_drew ?_ | refine blk_alloc ?_ _)); refine blk_put (cs := #[.string (⟨#[]⟩ : ByteArray), .string (⟨#[]⟩ : ByteArray)]) ?_ 0 _ rfl; (with_reducible repeat (first | refine blk_drewN ?_ _ | refine blk_drew ?_ | refine blk_alloc ?_ _)); exact BK221.out⟩
                            have n2_ : Aside0 (IsS50 w ((((w33.setCell ⟨gb221, 0, none⟩ (.string t215)).setCell ⟨gb221, 1, none⟩ (.string t216)).setCell ⟨gb211, 0, none⟩ (.string t215)).setCell ⟨gb211, 1, none⟩ (.string t216)) g210 t218 t219 t220) := ⟨by repeat (first | (with_reducible first | exact HI210.out | apply IsS50.alloc | apply IsS50.drewN | apply IsS50.drew | apply IsS50.set_0 | apply IsS50.set_1 | apply IsS50.set_2 | refine IsS50.far ?_ NB210_211.out _ | refine IsS50.far ?_ NB210_221.out _) | exact HI210.out)⟩
                            have n3_ : Aside0 (Below w.heap.size w ((((w33.setCell ⟨gb221, 0, none⟩ (.string t215)).setCell ⟨gb221, 1, none⟩ (.string t216)).setCell ⟨gb211, 0, none⟩ (.string t215)).setCell ⟨gb211, 1, none⟩ (.string t216))) := ⟨by repeat (first | (with_reducible first | exact HB.out | apply below_alloc | apply pw_below_drewN | apply below_drew1 | refine below_set ?_ (IsS50.ge HI210.out) | refine below_set ?_ GE211.out | refine below_set ?_ GE221.out) | exact HB.out)⟩
                            (try clear BK211)
                            (try clear BK221)
                            (try clear HI210)
                            (try clear HB)
                            generalize ((((w33.setCell ⟨gb221, 0, none⟩ (.string t215)).setCell ⟨gb221, 1, none⟩ (.string t216)).setCell ⟨gb211, 0, none⟩ (.string t215)).setCell ⟨gb211, 1, none⟩ (.string t216)) = w41 at n0_ n1_ n2_ n3_ ⊢
                            have BK211 := n0_
                            have BK221 := n1_
                            have HI210 := n2_
                            have HB := n3_
                            clear n0_ n1_ n2_ n3_
                            have n0_ := Aside0.mk (blk_drew BK211.out)
                            have n1_ := Aside0.mk (blk_drew BK221.out)
                            have n2_ := Aside0.mk (IsS50.drew HI210.out)
                            have n3_ := Aside0.mk (below_drew1 HB.out)
                            clear BK211
                            clear BK221
                            clear HI210
                            clear HB
                            have BK211 := n0_
                            have BK221 := n1_
                            have HI210 := n2_
                            have HB := n3_
                            clear n0_ n1_ n2_ n3_
                            refine start_ (n := 30) (S := fun w' => w'.cell? ⟨gb211, 0, none⟩ = some (.string t215) ∧ w'.cell? ⟨gb211, 1, none⟩ = some (.string t216)) (ds := []) #[false, false, false, false, false, false, false, false, false, false, false, false, false, false, false, false, false, false, false, false, false, false, false, false, false, false, false, false, false, false] (by kernel_rfl) rfl rfl ⟨(blk_cell BK211.out 0).trans rfl, (blk_cell BK211.out 1).trans rfl⟩ (fun hHeld => ?_); refine with_tabW styluslaw07_TapePlays.tab16 styluslaw07_TapePlays.bits16 (fun HT_ HW_ => ?_)
                            generalize w41.drew = w42 at BK211 BK221 HI210 HB hHeld ⊢
                            refine pure_ (i := 0) (N := some 65) (v := ?_) (a' := ?_) #[true, false, false, false, false, false, false, false, false, false, false, false, false, false, false, false, false, false, false, false, false, false, false, false, false, false, false, false, false, false] rfl rfl (any_of HT_.out (by kernel_rfl)) (fun _ _ _ h => h) (Or.inl ⟨by rfl, ?_⟩) ?_ ?_
                            rotate_left
                            · intro w'
                              go_simp
                              with_reducible rfl
                            rotate_left
                            · simp only [Act.put, List.setIfInBounds_toArray, List.set_cons_zero, List.set_cons_succ, i64_w, i32_w]
                              rfl
                            refine pure_ (i := 1) (N := some 66) (v := ?_) (a' := ?_) #[true, true, false, false, false, false, false, false, false, false, false, false, false, false, false, false, false, false, false, false, false, false, false, false, false, false, false, false, false, false] rfl rfl (any_of HT_.out (by kernel_rfl)) (fun _ _ _ h => h) (Or.inl ⟨by rfl, ?_⟩) ?_ ?_
                            rotate_left
                            · intro w'
                              go_simp
                              with_reducible rfl
                            rotate_left
                            · simp only [Act.put, List.setIfInBounds_toArray, List.set_cons_zero, List.set_cons_succ, i64_w, i32_w]
                              rfl
                            refine pure_ (i := 2) (N := some 67) (v := ?_) (a' := ?_) #[true, true, true, false, false, false, false, false, false, false, false, false, false, false, false, false, false, false, false, false, false, false, false, false, false, false, false, false, false, false] rfl rfl (any_of HT_.out (by kernel_rfl)) (fun _ _ _ h => h) (Or.inl ⟨by rfl, ?_⟩) ?_ ?_
                            rotate_left
                            · intro w'
                              go_simp
                              with_reducible rfl
                            rotate_left
                            · simp only [Act.put, List.setIfInBounds_toArray, List.set_cons_zero, List.set_cons_succ, i64_w, i32_w]
                              rfl
                            refine pure_ (i := 3) (N := some 68) (v := ?_) (a' := ?_) #[true, true, true, true, false, false, false, false, false, false, false, false, false, false, false, false, false, false, false, false, false, false, false, false, false, false, false, false, false, false] rfl rfl (any_of HT_.out (by kernel_rfl)) (fun _ _ _ h => h) (Or.inl ⟨by rfl, ?_⟩) ?_ ?_
                            rotate_left
                            · intro w'
                              go_simp
                              with_reducible rfl
                            rotate_left
                            · simp only [Act.put, List.setIfInBounds_toArray, List.set_cons_zero, List.set_cons_succ, i64_w, i32_w]
                              rfl
                            refine pure_ (i := 5) (N := some 70) (v := ?_) (a' := ?_) #[true, true, true, true, false, true, false, false, false, false, false, false, false, false, false, false, false, false, false, false, false, false, false, false, false, false, false, false, false, false] rfl rfl (any_of HT_.out (by kernel_rfl)) (fun _ _ _ h => h) (Or.inl ⟨by rfl, ?_⟩) ?_ ?_
                            rotate_left
                            · intro w'
                              go_simp
                              with_reducible rfl
                            rotate_left
                            · simp only [Act.put, List.setIfInBounds_toArray, List.set_cons_zero, List.set_cons_succ, i64_w, i32_w]
                              rfl
                            refine take_ (i := 6) (N := some 71) (v := ?_) (a' := ?_) #[true, true, true, true, false, true, true, false, false, false, false, false, false, false, false, false, false, false, false, false, false, false, false, false, false, false, false, false, false, false] rfl rfl (take_ofW HT_.out HW_.out (by kernel_rfl)) (fun _ _ _ h => h) (Or.inl ⟨by rfl, ?_⟩) hHeld ?_ ?_
                            rotate_left
                            · rintro w' ⟨s0, s1⟩
                              go_simp
                              with_reducible rfl
                            rotate_left
                            · simp only [Act.put, List.setIfInBounds_toArray, List.set_cons_zero, List.set_cons_succ, i64_w, i32_w]
                              rfl
                            refine one_ (i := 4) (N := some 69) #[true, true, true, true, true, true, true, false, false, false, false, false, false, false, false, false, false, false, false, false, false, false, false, false, false, false, false, false, false, false] rfl rfl (one_of HT_.out (by kernel_rfl)) (by decide) (fun K hK => ?_)
                            refine goes_ Try.func29 (by kernel_rfl) rfl #[.pointer (some ⟨g210, 0, none⟩)] (by rfl) rfl rfl (by (try simp only [List.map_toArray, List.map_cons, List.map_nil]); first | done | rfl | (simp only [List.length_drop, List.length_take]; rfl)) ?_
                            with_reducible refine (tape_Tape_Now.calls g210 t218 t219 t220 t222 t223 t224 t225 w _ ?side1 ?side2 A20.out).mono ?_
                            (case side1 => repeat (first | (with_reducible first | exact HI210.out | apply IsS50.alloc | apply IsS50.drewN | apply IsS50.drew | apply IsS50.set_0 | apply IsS50.set_1 | apply IsS50.set_2 | refine IsS50.far ?_ NB210_211.out _ | refine IsS50.far ?_ NB210_221.out _) | exact HI210.out))
                            (case side2 => repeat (first | (with_reducible first | exact HB.out | apply below_alloc | apply pw_below_drewN | apply below_drew1 | refine below_set ?_ (IsS50.ge HI210.out) | refine below_set ?_ GE211.out | refine below_set ?_ GE221.out) | exact HB.out))
                            rintro e w43 ⟨rfl, hi, hb, hk⟩
                            refine ⟨_, rfl, ?_⟩
                            have n0_ := Aside0.mk (KeepBut.blk hk (g' := gb211) (o := .cells #[.string t215, .string t216] 56 (0, 0)) (by (with_reducible repeat (first | refine blk_drewN ?_ _ | refine blk_drew ?_ | refine blk_alloc ?_ _)); exact BK211.out) NB211_210.out (by simp))
                            have n1_ := Aside0.mk (KeepBut.blk hk (g' := gb221) (o := .cells #[.string t215, .string t216] 56 (0, 0)) (by (with_reducible repeat (first | refine blk_drewN ?_ _ | refine blk_drew ?_ | refine blk_alloc ?_ _)); exact BK221.out) NB221_210.out (by simp))
                            have n2_ := Aside0.mk (hb)
                            have n3_ := Aside0.mk (hi)
                            clear BK211
                            clear BK221
                            clear HB
                            clear HI210
                            have BK211 := n0_
                            have BK221 := n1_
                            have HB := n2_
                            have HI210 := n3_
                            clear n0_ n1_ n2_ n3_
                            (try clear hb)
                            (try clear hb2)
                            (try clear hk)
                            (try clear hi)
                            refine hK.out _ _ ⟨(blk_cell BK211.out 0).trans rfl, (blk_cell BK211.out 1).trans rfl⟩ (fun hHeld => ?_)
                            clear hK K
                            refine norm_ (a' := ?_) ?_ ?_
                            rotate_left
                            · show Act.put _ (some 69) _ = _
                              simp only [Act.put, List.setIfInBounds_toArray, List.set_cons_zero, List.set_cons_succ, i64_w, i32_w]
                              rfl
                            refine pure_ (i := 7) (N := some 72) (v := ?_) (a' := ?_) #[true, true, true, true, true, true, true, true, false, false, false, false, false, false, false, false, false, false, false, false, false, false, false, false, false, false, false, false, false, false] rfl rfl (any_of HT_.out (by kernel_rfl)) (fun _ _ _ h => h) (Or.inl ⟨by rfl, ?_⟩) ?_ ?_
                            rotate_left
                            · intro w'
                              go_simp
                              with_reducible rfl
                            rotate_left
                            · simp only [Act.put, List.setIfInBounds_toArray, List.set_cons_zero, List.set_cons_succ, i64_w, i32_w]
                              rfl
                            refine pure_ (i := 8) (N := some 73) (v := ?_) (a' := ?_) #[true, true, true, true, true, true, true, true, true, false, false, false, false, false, false, false, false, false, false, false, false, false, false, false, false, false, false, false, false, false] rfl rfl (any_of HT_.out (by kernel_rfl)) (fun _ _ _ h => h) (Or.inl ⟨by rfl, ?_⟩) ?_ ?_
                            rotate_left
                            · intro w'
                              go_simp
                              with_reducible rfl
                            rotate_left
                            · simp only [Act.put, List.setIfInBounds_toArray, List.set_cons_zero, List.set_cons_succ, i64_w, i32_w]
                              rfl
                            refine pure_ (i := 9) (N := some 74) (v := ?_) (a' := ?_) #[true, true, true, true, true, true, true, true, true, true, false, false, false, false, false, false, false, false, false, false, false, false, false, false, false, false, false, false, false, false] rfl rfl (any_of HT_.out (by kernel_rfl)) (fun _ _ _ h => h) (Or.inl ⟨by rfl, ?_⟩) ?_ ?_
                            rotate_left
                            · intro w'
                              go_simp
                              with_reducible rfl
                            rotate_left
                            · simp only [Act.put, List.setIfInBounds_toArray, List.set_cons_zero, List.set_cons_succ, i64_w, i32_w]
                              rfl
                            refine pure_ (i := 10) (N := some 75) (v := ?_) (a' := ?_) #[true, true, true, true, true, true, true, true, true, true, true, false, false, false, false, false, false, false, false, false, false, false, false, false, false, false, false, false, false, false] rfl rfl (any_of HT_.out (by kernel_rfl)) (fun _ _ _ h => h) (Or.inl ⟨by rfl, ?_⟩) ?_ ?_
                            rotate_left
                            · intro w'
                              go_simp
                              with_reducible rfl
                            rotate_left
                            · simp only [Act.put, List.setIfInBounds_toArray, List.set_cons_zero, List.set_cons_succ, i64_w, i32_w]
                              rfl
                            refine pure_ (i := 12) (N := some 77) (v := ?_) (a' := ?_) #[true, true, true, true, true, true, true, true, true, true, true, false, true, false, false, false, false, false, false, false, false, false, false, false, false, false, false, false, false, false] rfl rfl (any_of HT_.out (by kernel_rfl)) (fun _ _ _ h => h) (Or.inl ⟨by rfl, ?_⟩) ?_ ?_
                            rotate_left
                            · intro w'
                              go_simp
                              with_reducible rfl
                            rotate_left
                            · simp only [Act.put, List.setIfInBounds_toArray, List.set_cons_zero, List.set_cons_succ, i64_w, i32_w]
                              rfl
                            refine take_ (i := 13) (N := some 78) (v := ?_) (a' := ?_) #[true, true, true, true, true, true, true, true, true, true, true, false, true, true, false, false, false, false, false, false, false, false, false, false, false, false, false, false, false, false] rfl rfl (take_ofW HT_.out HW_.out (by kernel_rfl)) (fun _ _ _ h => h) (Or.inl ⟨by rfl, ?_⟩) hHeld ?_ ?_
                            rotate_left
                            · rintro w' ⟨s0, s1⟩
                              go_simp
                              with_reducible rfl
                            rotate_left
                            · simp only [Act.put, List.setIfInBounds_toArray, List.set_cons_zero, List.set_cons_succ, i64_w, i32_w]
                              rfl
                            refine one_ (i := 11) (N := some 76) #[true, true, true, true, true, true, true, true, true, true, true, true, true, true, false, false, false, false, false, false, false, false, false, false, false, false, false, false, false, false] rfl rfl (one_of HT_.out (by kernel_rfl)) (by decide) (fun K hK => ?_)
                            refine goes_ Try.func30 (by kernel_rfl) rfl #[.pointer (some ⟨g210, 0, none⟩)] (by rfl) rfl rfl (by (try simp only [List.map_toArray, List.map_cons, List.map_nil]); first | done | rfl | (simp only [List.length_drop, List.length_take]; rfl)) ?_
                            with_reducible refine (tape_Tape_Kept.calls g210 t223 t224 t225 t226 t227 t228 t229 w _ ?side1 ?side2 A22.out).mono ?_
                            (case side1 => repeat (first | (with_reducible first | exact HI210.out | apply IsS50.alloc | apply IsS50.drewN | apply IsS50.drew | apply IsS50.set_0 | apply IsS50.set_1 | apply IsS50.set_2 | refine IsS50.far ?_ NB210_211.out _ | refine IsS50.far ?_ NB210_221.out _) | exact HI210.out))
                            (case side2 => repeat (first | (with_reducible first | exact HB.out | apply below_alloc | apply pw_below_drewN | apply below_drew1 | refine below_set ?_ (IsS50.ge HI210.out) | refine below_set ?_ GE211.out | refine below_set ?_ GE221.out) | exact HB.out))
                            rintro e w44 ⟨rfl, hi, hb, hk⟩
                            refine ⟨_, rfl, ?_⟩
                            have n0_ := Aside0.mk (KeepBut.blk hk (g' := gb211) (o := .cells #[.string t215, .string t216] 56 (0, 0)) (by (with_reducible repeat (first | refine blk_drewN ?_ _ | refine blk_drew ?_ | refine blk_alloc ?_ _)); exact BK211.out) NB211_210.out (by simp))
                            have n1_ := Aside0.mk (KeepBut.blk hk (g' := gb221) (o := .cells #[.string t215, .string t216] 56 (0, 0)) (by (with_reducible repeat (first | refine blk_drewN ?_ _ | refine blk_drew ?_ | refine blk_alloc ?_ _)); exact BK221.out) NB221_210.out (by simp))
                            have n2_ := Aside0.mk (hb)
                            have n3_ := Aside0.mk (hi)
                            clear BK211
                            clear BK221
                            clear HB
                            clear HI210
                            have BK211 := n0_
                            have BK221 := n1_
                            have HB := n2_
                            have HI210 := n3_
                            clear n0_ n1_ n2_ n3_
                            (try clear hb)
                            (try clear hb2)
                            (try clear hk)
                            (try clear hi)
                            refine hK.out _ _ ⟨(blk_cell BK211.out 0).trans rfl, (blk_cell BK211.out 1).trans rfl⟩ (fun hHeld => ?_)
                            clear hK K
                            refine norm_ (a' := ?_) ?_ ?_
                            rotate_left
                            · show Act.put _ (some 76) _ = _
                              simp only [Act.put, List.setIfInBounds_toArray, List.set_cons_zero, List.set_cons_succ, i64_w, i32_w]
                              rfl
                            refine pure_ (i := 14) (N := some 79) (v := ?_) (a' := ?_) #[true, true, true, true, true, true, true, true, true, true, true, true, true, true, true, false, false, false, false, false, false, false, false, false, false, false, false, false, false, false] rfl rfl (any_of HT_.out (by kernel_rfl)) (fun _ _ _ h => h) (Or.inl ⟨by rfl, ?_⟩) ?_ ?_
                            rotate_left
                            · intro w'
                              go_simp
                              with_reducible rfl
                            rotate_left
                            · simp only [Act.put, List.setIfInBounds_toArray, List.set_cons_zero, List.set_cons_succ, i64_w, i32_w]
                              rfl
                            refine pure_ (i := 15) (N := some 80) (v := ?_) (a' := ?_) #[true, true, true, true, true, true, true, true, true, true, true, true, true, true, true, true, false, false, false, false, false, false, false, false, false, false, false, false, false, false] rfl rfl (any_of HT_.out (by kernel_rfl)) (fun _ _ _ h => h) (Or.inl ⟨by rfl, ?_⟩) ?_ ?_
                            rotate_left
                            · intro w'
                              go_simp
                              with_reducible rfl
                            rotate_left
                            · simp only [Act.put, List.setIfInBounds_toArray, List.set_cons_zero, List.set_cons_succ, i64_w, i32_w]
                              rfl
                            refine pure_ (i := 16) (N := some 81) (v := ?_) (a' := ?_) #[true, true, true, true, true, true, true, true, true, true, true, true, true, true, true, true, true, false, false, false, false, false, false, false, false, false, false, false, false, false] rfl rfl (any_of HT_.out (by kernel_rfl)) (fun _ _ _ h => h) (Or.inl ⟨by rfl, ?_⟩) ?_ ?_
                            rotate_left
                            · intro w'
                              go_simp
                              with_reducible rfl
                            rotate_left
                            · simp only [Act.put, List.setIfInBounds_toArray, List.set_cons_zero, List.set_cons_succ, i64_w, i32_w]
                              rfl
                            refine pure_ (i := 17) (N := some 82) (v := ?_) (a' := ?_) #[true, true, true, true, true, true, true, true, true, true, true, true, true, true, true, true, true, true, false, false, false, false, false, false, false, false, false, false, false, false] rfl rfl (any_of HT_.out (by kernel_rfl)) (fun _ _ _ h => h) (Or.inl ⟨by rfl, ?_⟩) ?_ ?_
                            rotate_left
                            · intro w'
                              go_simp
                              with_reducible rfl
                            rotate_left
                            · simp only [Act.put, List.setIfInBounds_toArray, List.set_cons_zero, List.set_cons_succ, i64_w, i32_w]
                              rfl
                            refine take_ (i := 19) (N := some 84) (v := ?_) (a' := ?_) #[true, true, true, true, true, true, true, true, true, true, true, true, true, true, true, true, true, true, false, true, false, false, false, false, false, false, false, false, false, false] rfl rfl (take_ofW HT_.out HW_.out (by kernel_rfl)) (fun _ _ _ h => h) (Or.inl ⟨by rfl, ?_⟩) hHeld ?_ ?_
                            rotate_left
                            · rintro w' ⟨s0, s1⟩
                              go_simp
                              with_reducible rfl
                            rotate_left
                            · simp only [Act.put, List.setIfInBounds_toArray, List.set_cons_zero, List.set_cons_succ, i64_w, i32_w]
                              rfl
                            refine one_ (i := 18) (N := some 83) #[true, true, true, true, true, true, true, true, true, true, true, true, true, true, true, true, true, true, true, true, false, false, false, false, false, false, false, false, false, false] rfl rfl (one_of HT_.out (by kernel_rfl)) (by decide) (fun K hK => ?_)
                            refine goes_ Try.func31 (by kernel_rfl) rfl #[.pointer (some ⟨g210, 0, none⟩)] (by rfl) rfl rfl (by (try simp only [List.map_toArray, List.map_cons, List.map_nil]); first | done | rfl | (simp only [List.length_drop, List.length_take]; rfl)) ?_
                            with_reducible refine (tape_Tape_Dirty.calls k2 g210 t227 t228 t229 t230 t231 t232 t233 w _ ?side1 ?side2 A24.out).mono ?_
                            (case side1 => repeat (first | (with_reducible first | exact HI210.out | apply IsS50.alloc | apply IsS50.drewN | apply IsS50.drew | apply IsS50.set_0 | apply IsS50.set_1 | apply IsS50.set_2 | refine IsS50.far ?_ NB210_211.out _ | refine IsS50.far ?_ NB210_221.out _) | exact HI210.out))
                            (case side2 => repeat (first | (with_reducible first | exact HB.out | apply below_alloc | apply pw_below_drewN | apply below_drew1 | refine below_set ?_ (IsS50.ge HI210.out) | refine below_set ?_ GE211.out | refine below_set ?_ GE221.out) | exact HB.out))
                            rintro e w45 ⟨rfl, hi, hb, hk⟩
                            refine ⟨_, rfl, ?_⟩
                            have n0_ := Aside0.mk (KeepBut.blk hk (g' := gb211) (o := .cells #[.string t215, .string t216] 56 (0, 0)) (by (with_reducible repeat (first | refine blk_drewN ?_ _ | refine blk_drew ?_ | refine blk_alloc ?_ _)); exact BK211.out) NB211_210.out (by simp))
                            have n1_ := Aside0.mk (KeepBut.blk hk (g' := gb221) (o := .cells #[.string t215, .string t216] 56 (0, 0)) (by (with_reducible repeat (first | refine blk_drewN ?_ _ | refine blk_drew ?_ | refine blk_alloc ?_ _)); exact BK221.out) NB221_210.out (by simp))
                            have n2_ := Aside0.mk (hb)
                            have n3_ := Aside0.mk (hi)
                            clear BK211
                            clear BK221
                            clear HB
                            clear HI210
                            have BK211 := n0_
                            have BK221 := n1_
                            have HB := n2_
                            have HI210 := n3_
                            clear n0_ n1_ n2_ n3_
                            (try clear hb)
                            (try clear hb2)
                            (try clear hk)
                            (try clear hi)
                            refine hK.out _ _ ⟨(blk_cell BK211.out 0).trans rfl, (blk_cell BK211.out 1).trans rfl⟩ (fun hHeld => ?_)
                            clear hK K
                            refine norm_ (a' := ?_) ?_ ?_
                            rotate_left
                            · show Act.put _ (some 83) _ = _
                              simp only [Act.put, List.setIfInBounds_toArray, List.set_cons_zero, List.set_cons_succ, i64_w, i32_w]
                              rfl
                            refine one_ (i := 20) (N := some 85) #[true, true, true, true, true, true, true, true, true, true, true, true, true, true, true, true, true, true, true, true, true, false, false, false, false, false, false, false, false, false] rfl rfl (one_of HT_.out (by kernel_rfl)) (by decide) (fun K hK => ?_)
                            refine goes_ Try.func37 (by kernel_rfl) rfl #[.agg #[.string t215, .string t216]] (by rfl) rfl rfl (by (try simp only [List.map_toArray, List.map_cons, List.map_nil]); first | done | rfl | (simp only [List.length_drop, List.length_take]; rfl)) ?_
                            with_reducible refine (stylusref07_Dirty.calls k2 t215 t216 t234 _ A25.out).mono ?_
                            rintro e w46 ⟨rfl, hb⟩
                            refine ⟨_, rfl, ?_⟩
                            have n0_ := Aside0.mk (blk_below (g := gb211) (o := .cells #[.string t215, .string t216] 56 (0, 0)) (by (with_reducible repeat (first | refine blk_drewN ?_ _ | refine blk_drew ?_ | refine blk_alloc ?_ _)); exact BK211.out) hb)
                            have n1_ := Aside0.mk (IsS50.below (by repeat (first | (with_reducible first | exact HI210.out | apply IsS50.alloc | apply IsS50.drewN | apply IsS50.drew | apply IsS50.set_0 | apply IsS50.set_1 | apply IsS50.set_2 | refine IsS50.far ?_ NB210_211.out _ | refine IsS50.far ?_ NB210_221.out _) | exact HI210.out)) hb)
                            have n2_ := Aside0.mk (blk_below (g := gb221) (o := .cells #[.string t215, .string t216] 56 (0, 0)) (by (with_reducible repeat (first | refine blk_drewN ?_ _ | refine blk_drew ?_ | refine blk_alloc ?_ _)); exact BK221.out) hb)
                            have n3_ := Aside0.mk (below_step (by repeat (first | (with_reducible first | exact HB.out | apply below_alloc | apply pw_below_drewN | apply below_drew1 | refine below_set ?_ (IsS50.ge HI210.out) | refine below_set ?_ GE211.out | refine below_set ?_ GE221.out) | exact HB.out)) hb)
                            clear BK211
                            clear HI210
                            clear BK221
                            clear HB
                            have BK211 := n0_
                            have HI210 := n1_
                            have BK221 := n2_
                            have HB := n3_
                            clear n0_ n1_ n2_ n3_
                            (try clear hb)
                            (try clear hb2)
                            (try clear hk)
                            (try clear hi)
                            refine hK.out _ _ ⟨(blk_cell BK211.out 0).trans rfl, (blk_cell BK211.out 1).trans rfl⟩ (fun hHeld => ?_)
                            clear hK K
                            refine norm_ (a' := ?_) ?_ ?_
                            rotate_left
                            · show Act.put _ (some 85) _ = _
                              simp only [Act.put, List.setIfInBounds_toArray, List.set_cons_zero, List.set_cons_succ, i64_w, i32_w]
                              rfl
                            refine pure_ (i := 21) (N := some 86) (v := ?_) (a' := ?_) #[true, true, true, true, true, true, true, true, true, true, true, true, true, true, true, true, true, true, true, true, true, true, false, false, false, false, false, false, false, false] rfl rfl (any_of HT_.out (by kernel_rfl)) (fun _ _ _ h => h) (Or.inl ⟨by rfl, ?_⟩) ?_ ?_
                            rotate_left
                            · intro w'
                              go_simp
                              with_reducible rfl
                            rotate_left
                            · simp only [Act.put, List.setIfInBounds_toArray, List.set_cons_zero, List.set_cons_succ, i64_w, i32_w]
                              rfl
                            refine pure_ (i := 22) (N := some 87) (v := ?_) (a' := ?_) #[true, true, true, true, true, true, true, true, true, true, true, true, true, true, true, true, true, true, true, true, true, true, true, false, false, false, false, false, false, false] rfl rfl (any_of HT_.out (by kernel_rfl)) (fun _ _ _ h => h) (Or.inl ⟨by rfl, ?_⟩) ?_ ?_
                            rotate_left
                            · intro w'
                              go_simp
                              with_reducible rfl
                            rotate_left
                            · simp only [Act.put, List.setIfInBounds_toArray, List.set_cons_zero, List.set_cons_succ, i64_w, i32_w]
                              rfl
                            refine pure_ (i := 23) (N := some 88) (v := ?_) (a' := ?_) #[true, true, true, true, true, true, true, true, true, true, true, true, true, true, true, true, true, true, true, true, true, true, true, true, false, false, false, false, false, false] rfl rfl (any_of HT_.out (by kernel_rfl)) (fun _ _ _ h => h) (Or.inl ⟨by rfl, ?_⟩) ?_ ?_
                            rotate_left
                            · intro w'
                              go_simp
                              with_reducible rfl
                            rotate_left
                            · simp only [Act.put, List.setIfInBounds_toArray, List.set_cons_zero, List.set_cons_succ, i64_w, i32_w]
                              rfl
                            refine pure_ (i := 24) (N := some 89) (v := ?_) (a' := ?_) #[true, true, true, true, true, true, true, true, true, true, true, true, true, true, true, true, true, true, true, true, true, true, true, true, true, false, false, false, false, false] rfl rfl (any_of HT_.out (by kernel_rfl)) (fun _ _ _ h => h) (Or.inl ⟨by rfl, ?_⟩) ?_ ?_
                            rotate_left
                            · intro w'
                              go_simp
                              with_reducible rfl
                            rotate_left
                            · simp only [Act.put, List.setIfInBounds_toArray, List.set_cons_zero, List.set_cons_succ, i64_w, i32_w]
                              rfl
                            refine take_ (i := 26) (N := some 91) (v := ?_) (a' := ?_) #[true, true, true, true, true, true, true, true, true, true, true, true, true, true, true, true, true, true, true, true, true, true, true, true, true, false, true, false, false, false] rfl rfl (take_ofW HT_.out HW_.out (by kernel_rfl)) (fun _ _ _ h => h) (Or.inl ⟨by rfl, ?_⟩) hHeld ?_ ?_
                            rotate_left
                            · rintro w' ⟨s0, s1⟩
                              go_simp
                              with_reducible rfl
                            rotate_left
                            · simp only [Act.put, List.setIfInBounds_toArray, List.set_cons_zero, List.set_cons_succ, i64_w, i32_w]
                              rfl
                            refine one_ (i := 25) (N := some 90) #[true, true, true, true, true, true, true, true, true, true, true, true, true, true, true, true, true, true, true, true, true, true, true, true, true, true, true, false, false, false] rfl rfl (one_of HT_.out (by kernel_rfl)) (by decide) (fun K hK => ?_)
                            refine goes_ Try.func33 (by kernel_rfl) rfl #[.pointer (some ⟨g210, 0, none⟩)] (by rfl) rfl rfl (by (try simp only [List.map_toArray, List.map_cons, List.map_nil]); first | done | rfl | (simp only [List.length_drop, List.length_take]; rfl)) ?_
                            with_reducible refine (tape_Tape_Sectors.calls g210 t231 t232 t233 t235 t236 t237 t238 w _ ?side1 ?side2 A27.out).mono ?_
                            (case side1 => repeat (first | (with_reducible first | exact HI210.out | apply IsS50.alloc | apply IsS50.drewN | apply IsS50.drew | apply IsS50.set_0 | apply IsS50.set_1 | apply IsS50.set_2 | refine IsS50.far ?_ NB210_211.out _ | refine IsS50.far ?_ NB210_221.out _) | exact HI210.out))
                            (case side2 => repeat (first | (with_reducible first | exact HB.out | apply below_alloc | apply pw_below_drewN | apply below_drew1 | refine below_set ?_ (IsS50.ge HI210.out) | refine below_set ?_ GE211.out | refine below_set ?_ GE221.out) | exact HB.out))
                            rintro e w47 ⟨rfl, hi, hb, hk⟩
                            refine ⟨_, rfl, ?_⟩
                            have n0_ := Aside0.mk (KeepBut.blk hk (g' := gb211) (o := .cells #[.string t215, .string t216] 56 (0, 0)) (by (with_reducible repeat (first | refine blk_drewN ?_ _ | refine blk_drew ?_ | refine blk_alloc ?_ _)); exact BK211.out) NB211_210.out (by simp))
                            have n1_ := Aside0.mk (KeepBut.blk hk (g' := gb221) (o := .cells #[.string t215, .string t216] 56 (0, 0)) (by (with_reducible repeat (first | refine blk_drewN ?_ _ | refine blk_drew ?_ | refine blk_alloc ?_ _)); exact BK221.out) NB221_210.out (by simp))
                            have n2_ := Aside0.mk (hb)
                            have n3_ := Aside0.mk (hi)
                            clear BK211
                            clear BK221
                            clear HB
                            clear HI210
                            have BK211 := n0_
                            have BK221 := n1_
                            have HB := n2_
                            have HI210 := n3_
                            clear n0_ n1_ n2_ n3_
                            (try clear hb)
                            (try clear hb2)
                            (try clear hk)
                            (try clear hi)
                            refine hK.out _ _ ⟨(blk_cell BK211.out 0).trans rfl, (blk_cell BK211.out 1).trans rfl⟩ (fun hHeld => ?_)
                            clear hK K
                            refine norm_ (a' := ?_) ?_ ?_
                            rotate_left
                            · show Act.put _ (some 90) _ = _
                              simp only [Act.put, List.setIfInBounds_toArray, List.set_cons_zero, List.set_cons_succ, i64_w, i32_w]
                              rfl
                            refine one_ (i := 27) (N := some 92) #[true, true, true, true, true, true, true, true, true, true, true, true, true, true, true, true, true, true, true, true, true, true, true, true, true, true, true, true, false, false] rfl rfl (one_of HT_.out (by kernel_rfl)) (by decide) (fun K hK => ?_)
                            refine goes_ Try.func38 (by kernel_rfl) rfl #[.agg #[.string t215, .string t216]] (by rfl) rfl rfl (by (try simp only [List.map_toArray, List.map_cons, List.map_nil]); first | done | rfl | (simp only [List.length_drop, List.length_take]; rfl)) ?_
                            with_reducible refine (stylusref07_Sectors.calls t215 t216 t239 _ A28.out).mono ?_
                            rintro e w48 ⟨rfl, hb⟩
                            refine ⟨_, rfl, ?_⟩
                            have n0_ := Aside0.mk (blk_below (g := gb211) (o := .cells #[.string t215, .string t216] 56 (0, 0)) (by (with_reducible repeat (first | refine blk_drewN ?_ _ | refine blk_drew ?_ | refine blk_alloc ?_ _)); exact BK211.out) hb)
                            have n1_ := Aside0.mk (IsS50.below (by repeat (first | (with_reducible first | exact HI210.out | apply IsS50.alloc | apply IsS50.drewN | apply IsS50.drew | apply IsS50.set_0 | apply IsS50.set_1 | apply IsS50.set_2 | refine IsS50.far ?_ NB210_211.out _ | refine IsS50.far ?_ NB210_221.out _) | exact HI210.out)) hb)
                            have n2_ := Aside0.mk (blk_below (g := gb221) (o := .cells #[.string t215, .string t216] 56 (0, 0)) (by (with_reducible repeat (first | refine blk_drewN ?_ _ | refine blk_drew ?_ | refine blk_alloc ?_ _)); exact BK221.out) hb)
                            have n3_ := Aside0.mk (below_step (by repeat (first | (with_reducible first | exact HB.out | apply below_alloc | apply pw_below_drewN | apply below_drew1 | refine below_set ?_ (IsS50.ge HI210.out) | refine below_set ?_ GE211.out | refine below_set ?_ GE221.out) | exact HB.out)) hb)
                            clear BK211
                            clear HI210
                            clear BK221
                            clear HB
                            have BK211 := n0_
                            have HI210 := n1_
                            have BK221 := n2_
                            have HB := n3_
                            clear n0_ n1_ n2_ n3_
                            (try clear hb)
                            (try clear hb2)
                            (try clear hk)
                            (try clear hi)
                            refine hK.out _ _ ⟨(blk_cell BK211.out 0).trans rfl, (blk_cell BK211.out 1).trans rfl⟩ (fun hHeld => ?_)
                            clear hK K
                            refine norm_ (a' := ?_) ?_ ?_
                            rotate_left
                            · show Act.put _ (some 92) _ = _
                              simp only [Act.put, List.setIfInBounds_toArray, List.set_cons_zero, List.set_cons_succ, i64_w, i32_w]
                              rfl
                            refine pure_ (i := 28) (N := some 93) (v := ?_) (a' := ?_) #[true, true, true, true, true, true, true, true, true, true, true, true, true, true, true, true, true, true, true, true, true, true, true, true, true, true, true, true, true, false] rfl rfl (any_of HT_.out (by kernel_rfl)) (fun _ _ _ h => h) (Or.inl ⟨by rfl, ?_⟩) ?_ ?_
                            rotate_left
                            · intro w'
                              go_simp
                              with_reducible rfl
                            rotate_left
                            · simp only [Act.put, List.setIfInBounds_toArray, List.set_cons_zero, List.set_cons_succ, i64_w, i32_w]
                              rfl
                            refine pure_ (i := 29) (N := some 94) (v := ?_) (a' := ?_) #[true, true, true, true, true, true, true, true, true, true, true, true, true, true, true, true, true, true, true, true, true, true, true, true, true, true, true, true, true, true] rfl rfl (any_of HT_.out (by kernel_rfl)) (fun _ _ _ h => h) (Or.inl ⟨by rfl, ?_⟩) ?_ ?_
                            rotate_left
                            · intro w'
                              go_simp
                              with_reducible rfl
                            rotate_left
                            · simp only [Act.put, List.setIfInBounds_toArray, List.set_cons_zero, List.set_cons_succ, i64_w, i32_w]
                              rfl
                            refine done_ (done_of HT_.out (by kernel_rfl)) ?_
                            try go_wp2
                            go_roundg k2
                            case measure => have := HJ3.out; have := HK2.out; omega
                            case rel => exact ⟨g210, (wrap64 (x9_2 + 1)), (t236), (t237), (t238), (t215), (t216), rfl, NB210_211, NB211_210, (by first | rfl | (simp; done) | (simp [*]; done)), H', ⟨by have := HJ3.out; have := HK2.out; omega⟩, ⟨by (with_reducible repeat (first | refine blk_drewN ?_ _ | refine blk_drew ?_ | refine blk_alloc ?_ _)); exact BK211.out⟩, ⟨by repeat (first | (with_reducible first | exact HI210.out | apply IsS50.alloc | apply IsS50.drewN | apply IsS50.drew | apply IsS50.set_0 | apply IsS50.set_1 | apply IsS50.set_2 | refine IsS50.far ?_ NB210_211.out _ | refine IsS50.far ?_ NB210_221.out _) | exact HI210.out)⟩, ⟨by repeat (first | (with_reducible first | exact HB.out | apply below_alloc | apply pw_below_drewN | apply below_drew1 | refine below_set ?_ (IsS50.ge HI210.out) | refine below_set ?_ GE211.out | refine below_set ?_ GE221.out) | exact HB.out)⟩⟩
                          · rw [if_neg c29] at H
                            exact absurd H (by simp)
                        · rw [if_neg c26] at H
                          exact absurd H (by simp)
                      · rw [if_neg c23] at H
                        exact absurd H (by simp)
                    · rw [if_neg c21] at H
                      exact absurd H (by simp)
                  · rw [if_neg c19] at H
                    exact absurd H (by simp)
              · rw [if_neg c16] at H
                exact absurd H (by simp)
            · rw [if_neg c15] at H
              have c15b0 : decide (x9_2 < (l2.length : Int)) = false := decide_eq_false c15
              clear c15
              replace H := Option.bind_eq_some_iff.mp H
              obtain ⟨t212, A1270, H⟩ := H
              replace H : (some t212) = some r := H
              have A127 := Aside0.mk A1270
              clear A1270
              obtain rfl := Option.some.inj H
              go_wp2_with (first | ((with_reducible refine gate_callee (f := 24) rfl ?_); refine goesL_ (some 95) rfl rfl Try.func24 (by kernel_rfl) rfl #[] rfl (by (try simp only [List.map_toArray, List.map_cons, List.map_nil]); first | done | rfl | (simp only [List.length_drop, List.length_take]; rfl)) ?_; (with_reducible refine (styluslaw07_lives.calls k2  t212 _ A127.out).mono ?_); rintro e w128 ⟨rfl, hb⟩; refine ⟨_, rfl, ?_⟩; have n0_ := Aside0.mk (blk_below (g := gb211) (o := .cells #[.string x212000_2, .string x212001_2] 56 (0, 0)) (by (with_reducible repeat (first | refine blk_drewN ?_ _ | refine blk_drew ?_ | refine blk_alloc ?_ _)); exact BK211.out) hb); have n1_ := Aside0.mk (IsS50.below (by repeat (first | (with_reducible first | exact HI210.out | apply IsS50.alloc | apply IsS50.drewN | apply IsS50.drew | apply IsS50.set_0 | apply IsS50.set_1 | apply IsS50.set_2 | refine IsS50.far ?_ NB210_211.out _) | exact HI210.out)) hb); have n2_ := Aside0.mk (below_step (by repeat (first | (with_reducible first | exact HB.out | apply below_alloc | apply pw_below_drewN | apply below_drew1 | refine below_set ?_ (IsS50.ge HI210.out) | refine below_set ?_ GE211.out) | exact HB.out)) hb); clear BK211; clear HI210; clear HB; have BK211 := n0_; have HI210 := n1_; have HB := n2_; clear n0_ n1_ n2_; (try clear hb); (try clear hb2); (try clear hk); (try clear hi)))
              go_ret
              exact ⟨by first | rfl | (simp [errW_none, errW_some] <;> rfl) | (simp [*, errW_none, errW_some] <;> rfl), by repeat (first | (with_reducible first | exact HB.out | apply below_alloc | apply pw_below_drewN | apply below_drew1 | refine below_set ?_ (IsS50.ge HI210.out) | refine below_set ?_ GE211.out) | exact HB.out)⟩

end Go.Proofs.Ytobhffeopfbjlaa.QT
