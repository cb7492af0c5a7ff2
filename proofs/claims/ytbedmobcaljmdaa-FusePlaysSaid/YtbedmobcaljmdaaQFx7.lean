-- Written by a program of this session (wip/tools/bundle.sh), which turns the kit's print for functions given by hand. Lean checks it.
import Derived.Test.YtbedmobcaljmdaaQFx0
import Derived.Test.YtbedmobcaljmdaaQFx1
import Derived.Test.YtbedmobcaljmdaaQFx2
import Derived.Test.YtbedmobcaljmdaaQFx3
import Derived.Test.YtbedmobcaljmdaaQFx5
import Derived.Test.YtbedmobcaljmdaaQFx6
namespace Go.Proofs.Ytbedmobcaljmdaa.QF
open Go.RowKit Go.Proofs.YtbedmobcaljmdaaW.PrintWords Go.Proofs.YtbedmobcaljmdaaW.PrintLast Go.Proofs.YtbedmobcaljmdaaW.PrintMore
attribute [local go_sem] max2_int min2_int max_two min_two max_three min_three max_four min_four   -- for this text's walks alone
set_option linter.unusedVariables false
set_option linter.unusedSimpArgs false

/-! ### fuse_Fuse_Copy (by hand) -/
set_option maxHeartbeats 8000000 in
set_option maxRecDepth 100000 in
theorem fuse_Fuse_Copy.calls (g : Nat) (s0_0 : Int) (s0_1 : Int) (s0_2 : Int) (s0_3 : Int) (s0_4 : Bool) (w0 w : World) (hI : IsS64 w0 w g s0_0 s0_1 s0_2 s0_3 s0_4 true) (hB : Below w0.heap.size w0 w) :
    Calls Try.prog 34 #[.pointer (some ⟨g, 0, none⟩)] w fun e w' => ∃ g_ : Nat, e = .returned (.pointer (some ⟨g_, 0, none⟩)) ∧ w.heap.size ≤ g_ ∧ IsS64 w0 w' g_ s0_0 s0_1 s0_2 s0_3 s0_4 true ∧ Below w.heap.size w w' := by
  have hu64 := Try.underlying64
  have HB := Aside0.mk (Below.refl w.heap.size w)
  have HW0 := Aside0.mk hB.size
  obtain ⟨HGz2, hgz2⟩ := hI
  have hcz2_0 := cellS64_0 HGz2
  have hfz2_0 := blk_frozen HGz2 0
  have hcz2_1 := cellS64_1 HGz2
  have hfz2_1 := blk_frozen HGz2 1
  have hcz2_2 := cellS64_2 HGz2
  have hfz2_2 := blk_frozen HGz2 2
  have hcz2_3 := cellS64_3 HGz2
  have hfz2_3 := blk_frozen HGz2 3
  have hcz2_4 := cellS64_4 HGz2
  have hfz2_4 := blk_frozen HGz2 4
  have hcz2_5 := cellS64_5 HGz2
  have hfz2_5 := blk_frozen HGz2 5
  clear HGz2 hgz2 hB
  go_enter Try.func34, Try.ntmps34
  go_wp2_with (first | ((with_reducible refine gate_dst (N := 3) rfl ?_); refine box_event ?hg (N := 3) ?hd (cs := #[.int .i64 0, .int .i64 0, .int .i64 0, .int .i64 0, .bool false, .bool false]) (t := 64) ?hr ?_; (case hd => rfl); (case hg => rfl); (case hr => first | (go_simp; done) | (go_simp; rfl)); intro gb hg w8 hbox hb; have n0_ := Aside0.mk (below_step HB.out hb); have BK := Aside0.mk hbox; have GE : Aside0 (w.heap.size ≤ gb) := ⟨by rw [hg]; exact below_size HB.out⟩; clear HB; have HB := n0_; clear n0_ hb hbox hg) | ((with_reducible refine gate_store (t := 64) (p := 3) (v := .tmp 8) rfl ?_); refine Sa.store_whole rfl rfl 64 (.tmp 3) (.tmp 8) rfl gb #[.int .i64 0, .int .i64 0, .int .i64 0, .int .i64 0, .bool false, .bool false] [.int .i64 s0_0, .int .i64 s0_1, .int .i64 s0_2, .int .i64 s0_3, .bool s0_4, .bool true] rfl rfl (by kernel_rfl) BK.out rfl (by simp [Value.oneCell']) ?_; intro w9 hbox hg; have n0_ := Aside0.mk (Sa.grown_below HB.out (below_size HB.out) hg GE.out); clear BK HB; have BK := Aside0.mk hbox; have HB := n0_; clear n0_ hbox hg) | go_in)
  go_ret
  exact ⟨gb, by first | rfl | (simp; done), GE.out, ⟨BK.out, Nat.le_trans HW0.out GE.out⟩, HB.out⟩

/-! ### styluslaw10_FusePlays: function 10 -/
def styluslaw10_FusePlays.l0 : Nat → List (S58) → Int → Int → Int → Int → Int → Bool → Bool → Int → Int → Int → Bool → Option (Bool)
  | 0, _, _, _, _, _, _, _, _, _, _, _, _ => none
  | k + 1, x0, x5, x337000, x337001, x337002, x337003, x337004, x337005, x342000, x342001, x342002, x342003 => if x5 < (x0.length : Int) then (if 0 ≤ x5 then (if ((rd_T58 x0 x5).f0) = 4 then (if x337005 = true then (styluslaw10_FusePlays.l0 k x0 (wrap64 (x5 + 1)) x337000 x337001 x337002 x337003 x337004 x337005 x342000 x342001 x342002 x342003) else (none)) else ((styluslaw10_step.f x337000 x337001 x337002 x337003 x337004 x337005 x342000 x342001 x342002 x342003 ((rd_T58 x0 x5).f0) ((rd_T58 x0 x5).f1.f0) ((rd_T58 x0 x5).f1.f1)).bind fun bt345 => (if bt345.2.2.2.2.1 = true then ((fuse_Fuse_Up.f bt345.2.2.2.2.2.1 bt345.2.2.2.2.2.2.1 bt345.2.2.2.2.2.2.2.1 bt345.2.2.2.2.2.2.2.2.1 bt345.2.2.2.2.2.2.2.2.2.1 bt345.2.2.2.2.2.2.2.2.2.2).bind fun bt357 => (if (bt357.1 == bt345.2.2.2.1) = true then (some false) else (styluslaw10_FusePlays.l0 k x0 (wrap64 (x5 + 1)) bt357.2.1 bt357.2.2.1 bt357.2.2.2.1 bt357.2.2.2.2.1 bt357.2.2.2.2.2.1 bt357.2.2.2.2.2.2 bt345.1 bt345.2.1 bt345.2.2.1 bt345.2.2.2.1))) else (some false)))) else (none)) else ((styluslaw10_lives.f).bind fun t342 => (some t342))
def styluslaw10_FusePlays.f (k : Nat) (l0 : List (S58)) : Option (Bool) := if (l0.length : Int) > 60 then ((styluslaw10_lives.f).bind fun t329 => (some t329)) else ((fuse_New.f).bind fun bt330 => ((stylusref10_New.f).bind fun bt337 => (styluslaw10_FusePlays.l0 k l0 0 bt330.1 bt330.2.1 bt330.2.2.1 bt330.2.2.2.1 bt330.2.2.2.2.1 bt330.2.2.2.2.2 bt337.1 bt337.2.1 bt337.2.2.1 bt337.2.2.2)))
theorem styluslaw10_FusePlays.mono_l : ∀ k, (∀ y0 y1 y2 y3 y4 y5 y6 y7 y8 y9 y10 y11, LeO (styluslaw10_FusePlays.l0 k y0 y1 y2 y3 y4 y5 y6 y7 y8 y9 y10 y11) (styluslaw10_FusePlays.l0 (k + 1) y0 y1 y2 y3 y4 y5 y6 y7 y8 y9 y10 y11))
  | 0 => fun _ _ _ _ _ _ _ _ _ _ _ _ r h => by simp [styluslaw10_FusePlays.l0] at h
  | k + 1 => by
    have ih0 := styluslaw10_FusePlays.mono_l k
    · intro y0 y1 y2 y3 y4 y5 y6 y7 y8 y9 y10 y11
      unfold styluslaw10_FusePlays.l0
      repeat' first
      | (with_reducible exact ih0 _ _ _ _ _ _ _ _ _ _ _ _)
      | (with_reducible exact LeO.refl _)
      | (with_reducible exact LeO.none _)
      | (with_reducible refine LeO.ite ?_ ?_)
      | (with_reducible refine LeO.bind ?_ (fun _ => ?_))
      | exact ih0 _ _ _ _ _ _ _ _ _ _ _ _
      | exact LeO.none _
      | refine LeO.ite ?_ ?_
      | refine LeO.bind ?_ (fun _ => ?_)
theorem styluslaw10_FusePlays.mono : ∀ a0 k, LeO (styluslaw10_FusePlays.f k a0) (styluslaw10_FusePlays.f (k + 1) a0) := by
  intro a0 k
  have ih0 := styluslaw10_FusePlays.mono_l k
  unfold styluslaw10_FusePlays.f
  repeat' first
      | (with_reducible exact ih0 _ _ _ _ _ _ _ _ _ _ _ _)
      | (with_reducible exact LeO.refl _)
      | (with_reducible exact LeO.none _)
      | (with_reducible refine LeO.ite ?_ ?_)
      | (with_reducible refine LeO.bind ?_ (fun _ => ?_))
      | exact ih0 _ _ _ _ _ _ _ _ _ _ _ _
      | exact LeO.none _
      | refine LeO.ite ?_ ?_
      | refine LeO.bind ?_ (fun _ => ?_)
def styluslaw10_FusePlays.T14 : Bool × List (List Nat × List Nat) := (true, [([], []), ([], []), ([], []), ([], []), ([2, 3], [2, 3]), ([4], [4]), ([0, 1, 5], [0, 1, 5]), ([6], [6]), ([7], [7]), ([7], [7]), ([], []), ([10, 8, 6, 0, 1, 2, 3, 4, 5, 6, 7, 8, 10], [8, 10]), ([9, 11, 0, 1, 2, 3, 4, 5, 6, 7, 8, 9, 10, 11], [9])])
def styluslaw10_FusePlays.B14 : List Nat := [0, 0, 0, 0, 12, 28, 63, 127, 255, 255, 0, 1535, 4095]
theorem styluslaw10_FusePlays.tab14 : rtab .any (opsOf Try.f10 14) = styluslaw10_FusePlays.T14 := by kernel_rfl
theorem styluslaw10_FusePlays.bits14 : waitsOk styluslaw10_FusePlays.T14.2 styluslaw10_FusePlays.B14 = true := by kernel_rfl
def styluslaw10_FusePlays.T16 : Bool × List (List Nat × List Nat) := (true, [([], []), ([0], [0]), ([1], [1]), ([2], [2]), ([3, 2, 2], [2, 3]), ([2], [2]), ([5, 2], [2, 5]), ([4, 6, 2], [2, 4, 6]), ([2, 7], [2, 7])])
def styluslaw10_FusePlays.B16 : List Nat := [0, 1, 3, 7, 15, 7, 39, 127, 255]
theorem styluslaw10_FusePlays.tab16 : rtab .any (opsOf Try.f10 16) = styluslaw10_FusePlays.T16 := by kernel_rfl
theorem styluslaw10_FusePlays.bits16 : waitsOk styluslaw10_FusePlays.T16.2 styluslaw10_FusePlays.B16 = true := by kernel_rfl
set_option maxHeartbeats 8000000 in
set_option maxRecDepth 100000 in
theorem styluslaw10_FusePlays.calls (k : Nat) (A0 : Option Addr) (c0 : Nat) (l0 : List (S58)) (r : Bool) (w : World) (hr0 : Kd.C k58 w A0 l0.length l0) (hc0 : l0.length ≤ c0) (h : styluslaw10_FusePlays.f k l0 = some r) :
    Calls Try.prog 10 #[.slice A0 l0.length c0] w fun e w' => e = .returned (.bool r) ∧ Below w.heap.size w w' := by
  have hu55 := Try.underlying55
  have hu58 := Try.underlying58
  have HR0 := Aside0.mk hr0
  have HC0 := Aside0.mk hc0
  clear hr0 hc0
  have HB := Aside0.mk (Below.refl w.heap.size w)
  have H : (if (l0.length : Int) > 60 then ((styluslaw10_lives.f).bind fun t329 => (some t329)) else ((fuse_New.f).bind fun bt330 => ((stylusref10_New.f).bind fun bt337 => (styluslaw10_FusePlays.l0 k l0 0 bt330.1 bt330.2.1 bt330.2.2.1 bt330.2.2.2.1 bt330.2.2.2.2.1 bt330.2.2.2.2.2 bt337.1 bt337.2.1 bt337.2.2.1 bt337.2.2.2)))) = some r := h
  clear h
  by_cases c2 : (l0.length : Int) > 60
  · rw [if_pos c2] at H
    have c2b0 : decide (60 < (l0.length : Int)) = true := decide_eq_true c2
    have c2b1 : decide (60 < l0.length) = true := decide_eq_true (by omega)
    clear c2
    replace H := Option.bind_eq_some_iff.mp H
    obtain ⟨t329, A30, H⟩ := H
    replace H : (some t329) = some r := H
    have A3 := Aside0.mk A30
    clear A30
    obtain rfl := Option.some.inj H
    go_enter Try.func10, Try.ntmps10
    go_wp2_with (first | ((with_reducible refine gate_callee (f := 24) rfl ?_); refine goesL_ (some 12) rfl rfl Try.func24 (by kernel_rfl) rfl #[] rfl (by (try simp only [List.map_toArray, List.map_cons, List.map_nil]); first | done | rfl | (simp only [List.length_drop, List.length_take]; rfl)) ?_; (with_reducible refine (styluslaw10_lives.calls  t329 _ A3.out).mono ?_); rintro e w4 ⟨rfl, hb⟩; refine ⟨_, rfl, ?_⟩; have n0_ := Aside0.mk (below_step (by repeat (first | (with_reducible first | exact HB.out | apply below_alloc | apply pw_below_drewN | apply below_drew1) | exact HB.out)) hb); clear HB; have HB := n0_; clear n0_; (try clear hb); (try clear hb2); (try clear hk); (try clear hi)))
    go_ret
    exact ⟨by first | rfl | (simp [errW_none, errW_some] <;> rfl) | (simp [*, errW_none, errW_some] <;> rfl), by repeat (first | (with_reducible first | exact HB.out | apply below_alloc | apply pw_below_drewN | apply below_drew1) | exact HB.out)⟩
  · rw [if_neg c2] at H
    have c2b0 : decide (60 < (l0.length : Int)) = false := decide_eq_false c2
    have c2b1 : decide (60 < l0.length) = false := decide_eq_false (by omega)
    clear c2
    replace H := Option.bind_eq_some_iff.mp H
    obtain ⟨⟨t330, t331, t332, t333, t334, t335⟩, A50, H⟩ := H
    replace H : ((stylusref10_New.f).bind fun bt337 => (styluslaw10_FusePlays.l0 k l0 0 t330 t331 t332 t333 t334 t335 bt337.1 bt337.2.1 bt337.2.2.1 bt337.2.2.2)) = some r := H
    have A5 := Aside0.mk A50
    clear A50
    replace H := Option.bind_eq_some_iff.mp H
    obtain ⟨⟨t337, t338, t339, t340⟩, A60, H⟩ := H
    replace H : (styluslaw10_FusePlays.l0 k l0 0 t330 t331 t332 t333 t334 t335 t337 t338 t339 t340) = some r := H
    have A6 := Aside0.mk A60
    clear A60
    have H' := Aside0.mk H
    clear H
    go_enter Try.func10, Try.ntmps10
    go_wp2_with (first | ((with_reducible refine gate_callee (f := 23) rfl ?_); refine goesL_ (some 13) rfl rfl Try.func23 (by kernel_rfl) rfl #[] rfl (by (try simp only [List.map_toArray, List.map_cons, List.map_nil]); first | done | rfl | (simp only [List.length_drop, List.length_take]; rfl)) ?_; (with_reducible refine (fuse_New.calls  t330 t331 t332 t333 t334 t335 w _ ?side1 A5.out).mono ?_); (case side1 => repeat (first | (with_reducible first | exact HB.out | apply below_alloc | apply pw_below_drewN | apply below_drew1) | exact HB.out)); rintro e w7 ⟨g336, rfl, hi, hb, hb2⟩; refine ⟨_, rfl, ?_⟩; have n0_ := Aside0.mk (hb); have n1_ := Aside0.mk (hi); clear HB; have HB := n0_; have HI336 := n1_; clear n0_ n1_; (try clear hb); (try clear hb2); (try clear hk); (try clear hi)) | ((with_reducible refine gate_callee (f := 33) rfl ?_); refine goesL_ (some 14) rfl rfl Try.func33 (by kernel_rfl) rfl #[] rfl (by (try simp only [List.map_toArray, List.map_cons, List.map_nil]); first | done | rfl | (simp only [List.length_drop, List.length_take]; rfl)) ?_; (with_reducible refine (stylusref10_New.calls  t337 t338 t339 t340 _ A6.out).mono ?_); rintro e w8 ⟨rfl, hb⟩; refine ⟨_, rfl, ?_⟩; have n0_ := Aside0.mk (IsS64.below (by repeat (first | (with_reducible first | exact HI336.out | apply IsS64.alloc | apply IsS64.drewN | apply IsS64.drew | apply IsS64.set_0 | apply IsS64.set_1 | apply IsS64.set_2 | apply IsS64.set_3 | apply IsS64.set_4 | apply IsS64.set_5) | exact HI336.out)) hb); have n1_ := Aside0.mk (below_step (by repeat (first | (with_reducible first | exact HB.out | apply below_alloc | apply pw_below_drewN | apply below_drew1 | refine below_set ?_ (IsS64.ge HI336.out)) | exact HB.out)) hb); clear HI336; clear HB; have HI336 := n0_; have HB := n1_; clear n0_ n1_; (try clear hb); (try clear hb2); (try clear hk); (try clear hi)) | ((with_reducible refine gate_dst (N := 4) rfl ?_); refine box_event ?hg (N := 4) ?hd (cs := #[.int .i64 0, .int .i64 0, .int .i64 0, .bool false]) (t := 55) ?hr ?_; (case hd => rfl); (case hg => rfl); (case hr => first | (go_simp; done) | (go_simp; rfl)); intro gb341 hg w9 hbox hb; have n0_ := Aside0.mk (IsS64.below (by repeat (first | (with_reducible first | exact HI336.out | apply IsS64.alloc | apply IsS64.drewN | apply IsS64.drew | apply IsS64.set_0 | apply IsS64.set_1 | apply IsS64.set_2 | apply IsS64.set_3 | apply IsS64.set_4 | apply IsS64.set_5) | exact HI336.out)) hb); have n1_ := Aside0.mk (below_step (by repeat (first | (with_reducible first | exact HB.out | apply below_alloc | apply pw_below_drewN | apply below_drew1 | refine below_set ?_ (IsS64.ge HI336.out)) | exact HB.out)) hb); have n2_ := Aside0.mk (hbox); have n3_ := Aside0.mk ((by rw [hg]; exact (below_size (by repeat (first | (with_reducible first | exact HB.out | apply below_alloc | apply pw_below_drewN | apply below_drew1 | refine below_set ?_ (IsS64.ge HI336.out)) | exact HB.out))) : w.heap.size ≤ gb341)); have n4_ := Aside0.mk ((by rw [hg]; exact (below_size (by repeat (first | (with_reducible first | exact HB.out | apply below_alloc | apply pw_below_drewN | apply below_drew1 | refine below_set ?_ (IsS64.ge HI336.out)) | exact HB.out))) : w.heap.size ≤ gb341)); have n5_ := Aside0.mk ((by rw [hg]; exact Nat.ne_of_lt (IsS64.lt (show IsS64 w _ g336 t330 t331 t332 t333 t334 t335 from by repeat (first | (with_reducible first | exact HI336.out | apply IsS64.alloc | apply IsS64.drewN | apply IsS64.drew | apply IsS64.set_0 | apply IsS64.set_1 | apply IsS64.set_2 | apply IsS64.set_3 | apply IsS64.set_4 | apply IsS64.set_5) | exact HI336.out))) : g336 ≠ gb341)); have n6_ := Aside0.mk ((by rw [hg]; exact Nat.ne_of_gt (IsS64.lt (show IsS64 w _ g336 t330 t331 t332 t333 t334 t335 from by repeat (first | (with_reducible first | exact HI336.out | apply IsS64.alloc | apply IsS64.drewN | apply IsS64.drew | apply IsS64.set_0 | apply IsS64.set_1 | apply IsS64.set_2 | apply IsS64.set_3 | apply IsS64.set_4 | apply IsS64.set_5) | exact HI336.out))) : gb341 ≠ g336)); clear HI336; clear HB; have HI336 := n0_; have HB := n1_; have BK341 := n2_; have GW341 := n3_; have GE341 := n4_; have NB336_341 := n5_; have NB341_336 := n6_; clear n0_ n1_ n2_ n3_ n4_ n5_ n6_; clear hb hbox hg; have hnb10 := NB341_336.out; have hnc10 := NB336_341.out; have hcz11_0 : w9.cell? ⟨gb341, 0, none⟩ = some (.int .i64 0) := (blk_cell BK341.out 0).trans rfl; have hcz11_1 : w9.cell? ⟨gb341, 1, none⟩ = some (.int .i64 0) := (blk_cell BK341.out 1).trans rfl; have hcz11_2 : w9.cell? ⟨gb341, 2, none⟩ = some (.int .i64 0) := (blk_cell BK341.out 2).trans rfl; have hcz11_3 : w9.cell? ⟨gb341, 3, none⟩ = some (.bool false) := (blk_cell BK341.out 3).trans rfl; have hfz11_0 := blk_frozen BK341.out 0; have hfz11_1 := blk_frozen BK341.out 1; have hfz11_2 := blk_frozen BK341.out 2; have hfz11_3 := blk_frozen BK341.out 3))
    go_loopg [3, 5] k (fun kq v3 v5 w' => ∃ (g336 : Nat) (x5_1 : Int) (x337000_1 : Int) (x337001_1 : Int) (x337002_1 : Int) (x337003_1 : Int) (x337004_1 : Bool) (x337005_1 : Bool) (x342000_1 : Int) (x342001_1 : Int) (x342002_1 : Int) (x342003_1 : Bool), v3 = .pointer (some ⟨g336, 0, none⟩) ∧ Aside0 (g336 ≠ gb341) ∧ Aside0 (gb341 ≠ g336) ∧ v5 = .int .i64 x5_1 ∧ Aside0 (styluslaw10_FusePlays.l0 kq l0 x5_1 x337000_1 x337001_1 x337002_1 x337003_1 x337004_1 x337005_1 x342000_1 x342001_1 x342002_1 x342003_1 = some r) ∧ Aside0 (kq ≤ k) ∧ Aside0 (w'.heap[gb341]? = some (.cells #[.int .i64 x342000_1, .int .i64 x342001_1, .int .i64 x342002_1, .bool x342003_1] 55 (0, 0))) ∧ Aside0 (IsS64 w w' g336 x337000_1 x337001_1 x337002_1 x337003_1 x337004_1 x337005_1) ∧ Aside0 (Below w.heap.size w w'))
    case atStart => exact ⟨g336, (0), (t330), (t331), (t332), (t333), (t334), (t335), (t337), (t338), (t339), (t340), rfl, NB336_341, NB341_336, (by first | rfl | (simp; done) | (simp [*]; done)), H', ⟨Nat.le_refl _⟩, ⟨by (with_reducible repeat (first | refine blk_drewN ?_ _ | refine blk_drew ?_ | refine blk_alloc ?_ _)); refine blk_put (cs := #[.int .i64 t337, .int .i64 t338, .int .i64 t339, .bool false]) ?_ 3 _ rfl; (with_reducible repeat (first | refine blk_drewN ?_ _ | refine blk_drew ?_ | refine blk_alloc ?_ _)); refine blk_put (cs := #[.int .i64 t337, .int .i64 t338, .int .i64 0, .bool false]) ?_ 2 _ rfl; (with_reducible repeat (first | refine blk_drewN ?_ _ | refine blk_drew ?_ | refine blk_alloc ?_ _)); refine blk_put (cs := #[.int .i64 t337, .int .i64 0, .int .i64 0, .bool false]) ?_ 1 _ rfl; (with_reducible repeat (first | refine blk_drewN ?_ _ | refine blk_drew ?_ | refine blk_alloc ?_ _)); refine blk_put (cs := #[.int .i64 0, .int .i64 0, .int .i64 0, .bool false]) ?_ 0 _ rfl; (with_reducible repeat (first | refine blk_drewN ?_ _ | refine blk_drew ?_ | refine blk_alloc ?_ _)); exact BK341.out⟩, ⟨by repeat (first | (with_reducible first | exact HI336.out | apply IsS64.alloc | apply IsS64.drewN | apply IsS64.drew | apply IsS64.set_0 | apply IsS64.set_1 | apply IsS64.set_2 | apply IsS64.set_3 | apply IsS64.set_4 | apply IsS64.set_5 | refine IsS64.far ?_ NB336_341.out _) | exact HI336.out)⟩, ⟨by repeat (first | (with_reducible first | exact HB.out | apply below_alloc | apply pw_below_drewN | apply below_drew1 | refine below_set ?_ (IsS64.ge HI336.out) | refine below_set ?_ GE341.out) | exact HB.out)⟩⟩
    case round =>
      clear H'
      try clear c1
      try clear c2
      try clear c2b0
      try clear c2b1
      try clear p2
      try clear c3
      try clear c10
      try clear hcz11_0
      try clear hcz11_1
      try clear hcz11_2
      try clear hcz11_3
      try clear hfz11_0
      try clear hfz11_1
      try clear hfz11_2
      try clear hfz11_3
      obtain ⟨g336, x5_1, x337000_1, x337001_1, x337002_1, x337003_1, x337004_1, x337005_1, x342000_1, x342001_1, x342002_1, x342003_1, rfl, NB336_341, NB341_336, rfl, HA, HK1, BK341, HI336, HB⟩ := hrel
      cases gk with
      | zero => exact absurd HA.out (by simp [styluslaw10_FusePlays.l0])
      | succ k1 =>
        have H := HA.out
        clear HA
        simp only [styluslaw10_FusePlays.l0] at H
        by_cases c12 : x5_1 < (l0.length : Int)
        · rw [if_pos c12] at H
          have c12b0 : decide (x5_1 < (l0.length : Int)) = true := decide_eq_true c12
          clear c12
          by_cases c13 : 0 ≤ x5_1
          · rw [if_pos c13] at H
            have c13b0 : decide (0 ≤ x5_1) = true := decide_eq_true c13
            clear c13
            by_cases c14 : ((rd_T58 l0 x5_1).f0) = 4
            · rw [if_pos c14] at H
              obtain ⟨cm, H⟩ : x337005_1 = true ∧ _ := by
                by_cases cm : x337005_1 = true
                · rw [if_pos cm] at H; exact ⟨cm, H⟩
                · rw [if_neg cm] at H; exact absurd H (by simp)
              subst cm
              obtain ⟨p1, p2, p3, p4, p5, p6, p7, hput⟩ : ∃ p1 p2 p3 p4 p5 p6 p7, fuse_Fuse_Put.f x337000_1 x337001_1 x337002_1 0 x337004_1 true = some (p1, p2, p3, p4, p5, p6, p7) := by cases x337004_1 <;> exact ⟨_, _, _, _, _, _, _, rfl⟩
              have Hput := Aside0.mk hput
              clear hput
              have c14b0 : (((rd_T58 l0 x5_1).f0) == 4) = true := beq_iff_eq.mpr c14
              have c14b1 : (((rd_T58 l0 x5_1).f0) != 4) = false := bne_eq_false_iff_eq.mpr c14
              clear c14
              have H' := Aside0.mk H
              clear H
              have p343 : 0 ≤ (x5_1 : Int) := of_decide_eq_true (by first | (with_reducible assumption) | assumption)
              have q343 : x5_1 < (l0.length : Int) := of_decide_eq_true (by first | (with_reducible assumption) | assumption)
              obtain ⟨ad343, e343, hx343_0, hx343_1, hx343_2⟩ := at_T58 HR0.out x5_1 p343 q343
              cases e343
              replace hx343_0 := (HB.out.cell (World.block_lt_of_cell? w _ hx343_0)).trans hx343_0
              replace hx343_1 := (HB.out.cell (World.block_lt_of_cell? w _ hx343_1)).trans hx343_1
              replace hx343_2 := (HB.out.cell (World.block_lt_of_cell? w _ hx343_2)).trans hx343_2
              replace p343 := eq_true p343
              replace q343 := eq_true q343
              go_wp2_with (first | (go_at_call 34; (with_reducible refine (fuse_Fuse_Copy.calls g336 x337000_1 x337001_1 x337002_1 x337003_1 x337004_1 w _ HI336.out HB.out).mono ?_); rintro e w7 ⟨g2, rfl, hge, hi2, hb⟩; have n0_ := Aside0.mk (HI336.out.below hb); have n1_ := Aside0.mk (blk_below BK341.out hb); have n2_ := Aside0.mk (below_step HB.out hb); have HN := Aside0.mk hi2; have N1 : Aside0 (g2 ≠ g336) := ⟨Nat.ne_of_gt (Nat.lt_of_lt_of_le HI336.out.lt hge)⟩; have N2 : Aside0 (g2 ≠ gb341) := ⟨Nat.ne_of_gt (Nat.lt_of_lt_of_le (blk_lt BK341.out) hge)⟩; have N3 : Aside0 (gb341 ≠ g2) := ⟨Nat.ne_of_lt (Nat.lt_of_lt_of_le (blk_lt BK341.out) hge)⟩; clear HI336 BK341 HB; have HI336 := n0_; have BK341 := n1_; have HB := n2_; clear n0_ n1_ n2_ hge hi2 hb) | (go_at_call 25; (with_reducible refine (fuse_Fuse_Arm.calls g336 x337000_1 x337001_1 x337002_1 x337003_1 x337004_1 true 3 0 true x337000_1 x337001_1 x337002_1 0 x337004_1 true w _ HI336.out HB.out (by simp [fuse_Fuse_Arm.f])).mono ?_); rintro e w8 ⟨rfl, hi, hb, hk⟩; have n0_ := Aside0.mk hi; have n1_ := Aside0.mk (hk.blk BK341.out NB341_336.out (by simp)); have n2_ := Aside0.mk hb; have n3_ : Aside0 (IsS64 w w8 g2 x337000_1 x337001_1 x337002_1 x337003_1 x337004_1 true) := ⟨⟨hk.blk HN.out.1 N1.out (by simp), HN.out.2⟩⟩; clear HI336 BK341 HB HN; have HI336 := n0_; have BK341 := n1_; have HB := n2_; have HN := n3_; clear n0_ n1_ n2_ n3_ hi hb hk) | (go_at_call 27; (with_reducible refine (fuse_Fuse_Put.calls g336 x337000_1 x337001_1 x337002_1 0 x337004_1 true p1 p2 p3 p4 p5 p6 p7 w _ HI336.out HB.out Hput.out).mono ?_); rintro e w9 ⟨rfl, hi, hb, hk⟩; have n1_ := Aside0.mk (hk.blk BK341.out NB341_336.out (by simp)); have n2_ := Aside0.mk hb; have n3_ : Aside0 (IsS64 w w9 g2 x337000_1 x337001_1 x337002_1 x337003_1 x337004_1 true) := ⟨⟨hk.blk HN.out.1 N1.out (by simp), HN.out.2⟩⟩; clear HI336 BK341 HB HN; have BK341 := n1_; have HB := n2_; have HI336 := n3_; clear n1_ n2_ n3_ hi hb hk))
              go_roundg k1
              case measure => have := HK1.out; omega
              case rel => exact ⟨g2, (wrap64 (x5_1 + 1)), (x337000_1), (x337001_1), (x337002_1), (x337003_1), (x337004_1), (true), (x342000_1), (x342001_1), (x342002_1), (x342003_1), rfl, N2, N3, (by first | rfl | (simp; done) | (simp [*]; done)), H', ⟨by have := HK1.out; omega⟩, ⟨by (with_reducible repeat (first | refine blk_drewN ?_ _ | refine blk_drew ?_ | refine blk_alloc ?_ _)); exact BK341.out⟩, ⟨by repeat (first | (with_reducible first | exact HI336.out | apply IsS64.alloc | apply IsS64.drewN | apply IsS64.drew | apply IsS64.set_0 | apply IsS64.set_1 | apply IsS64.set_2 | apply IsS64.set_3 | apply IsS64.set_4 | apply IsS64.set_5 | refine IsS64.far ?_ NB336_341.out _) | exact HI336.out)⟩, ⟨by repeat (first | (with_reducible first | exact HB.out | apply below_alloc | apply pw_below_drewN | apply below_drew1 | refine below_set ?_ (IsS64.ge HI336.out) | refine below_set ?_ GE341.out) | exact HB.out)⟩⟩
            · rw [if_neg c14] at H
              have c14b0 : (((rd_T58 l0 x5_1).f0) == 4) = false := beq_eq_false_iff_ne.mpr c14
              have c14b1 : (((rd_T58 l0 x5_1).f0) != 4) = true := bne_iff_ne.mpr c14
              replace H := Option.bind_eq_some_iff.mp H
              obtain ⟨⟨t345, t346, t347, t348, t349, t350, t351, t352, t353, t354, t355⟩, A150, H⟩ := H
              replace H : (if t349 = true then ((fuse_Fuse_Up.f t350 t351 t352 t353 t354 t355).bind fun bt357 => (if (bt357.1 == t348) = true then (some false) else (styluslaw10_FusePlays.l0 k1 l0 (wrap64 (x5_1 + 1)) bt357.2.1 bt357.2.2.1 bt357.2.2.2.1 bt357.2.2.2.2.1 bt357.2.2.2.2.2.1 bt357.2.2.2.2.2.2 t345 t346 t347 t348))) else (some false)) = some r := H
              have A15 := Aside0.mk A150
              clear A150
              by_cases c16 : t349 = true
              · subst c16
                have H1 : ((fuse_Fuse_Up.f t350 t351 t352 t353 t354 t355).bind fun bt357 => (if (bt357.1 == t348) = true then (some false) else (styluslaw10_FusePlays.l0 k1 l0 (wrap64 (x5_1 + 1)) bt357.2.1 bt357.2.2.1 bt357.2.2.2.1 bt357.2.2.2.2.1 bt357.2.2.2.2.2.1 bt357.2.2.2.2.2.2 t345 t346 t347 t348))) = some r := by rw [if_pos rfl] at H; exact H
                clear H
                have H := H1
                clear H1
                replace H := Option.bind_eq_some_iff.mp H
                obtain ⟨⟨t357, t358, t359, t360, t361, t362, t363⟩, A170, H⟩ := H
                replace H : (if (t357 == t348) = true then (some false) else (styluslaw10_FusePlays.l0 k1 l0 (wrap64 (x5_1 + 1)) t358 t359 t360 t361 t362 t363 t345 t346 t347 t348)) = some r := H
                have A17 := Aside0.mk A170
                clear A170
                by_cases c18 : (t357 == t348) = true
                · rw [if_pos c18] at H
                  have c18b0 : (t357 == t348) = true := c18
                  (try (have c18b1 : decide (t357 = t348) = true := by simpa using c18))
                  (try (have c18b2 : (t357 == t348) = true := by simpa using c18))
                  clear c18
                  obtain rfl := Option.some.inj H
                  have p343 : 0 ≤ (x5_1 : Int) := of_decide_eq_true (by first | (with_reducible assumption) | assumption)
                  have q343 : x5_1 < (l0.length : Int) := of_decide_eq_true (by first | (with_reducible assumption) | assumption)
                  obtain ⟨ad343, e343, hx343_0, hx343_1, hx343_2⟩ := at_T58 HR0.out x5_1 p343 q343
                  cases e343
                  replace hx343_0 := (HB.out.cell (World.block_lt_of_cell? w _ hx343_0)).trans hx343_0
                  replace hx343_1 := (HB.out.cell (World.block_lt_of_cell? w _ hx343_1)).trans hx343_1
                  replace hx343_2 := (HB.out.cell (World.block_lt_of_cell? w _ hx343_2)).trans hx343_2
                  replace p343 := eq_true p343
                  replace q343 := eq_true q343
                  try go_wp2
                  have n0_ := Aside0.mk (blk_drew BK341.out)
                  have n1_ := Aside0.mk (IsS64.drew HI336.out)
                  have n2_ := Aside0.mk (below_drew1 HB.out)
                  clear BK341
                  clear HI336
                  clear HB
                  have BK341 := n0_
                  have HI336 := n1_
                  have HB := n2_
                  clear n0_ n1_ n2_
                  have p344 : 0 ≤ (x5_1 : Int) := of_decide_eq_true (by first | (with_reducible assumption) | assumption)
                  have q344 : x5_1 < (l0.length : Int) := of_decide_eq_true (by first | (with_reducible assumption) | assumption)
                  obtain ⟨ad344, e344, hx344_0, hx344_1, hx344_2⟩ := at_T58 HR0.out x5_1 p344 q344
                  have hw344_2 := hx344_2
                  have hw344_1 := hx344_1
                  have hw344_0 := hx344_0
                  obtain rfl : ad343 = ad344 := (by injection e344)
                  replace hx344_0 := (HB.out.cell (World.block_lt_of_cell? w _ hx344_0)).trans hx344_0
                  replace hx344_1 := (HB.out.cell (World.block_lt_of_cell? w _ hx344_1)).trans hx344_1
                  replace hx344_2 := (HB.out.cell (World.block_lt_of_cell? w _ hx344_2)).trans hx344_2
                  replace p344 := eq_true p344
                  replace q344 := eq_true q344
                  refine start_ (n := 13) (S := fun w' => w'.cell? ⟨gb341, 0, none⟩ = some (.int .i64 x342000_1) ∧ w'.cell? ⟨gb341, 1, none⟩ = some (.int .i64 x342001_1) ∧ w'.cell? ⟨gb341, 2, none⟩ = some (.int .i64 x342002_1) ∧ w'.cell? ⟨gb341, 3, none⟩ = some (.bool x342003_1) ∧ w'.cell? (ad343.add ((x5_1).toNat * 3)) = some (.int .i64 ((rd_T58 l0 x5_1).f0)) ∧ w'.cell? ⟨(ad343.add ((x5_1).toNat * 3)).block, (ad343.add ((x5_1).toNat * 3)).off + 1, none⟩ = some (.int .i64 ((rd_T58 l0 x5_1).f1.f0)) ∧ w'.cell? ⟨(ad343.add ((x5_1).toNat * 3)).block, (ad343.add ((x5_1).toNat * 3)).off + 2, none⟩ = some (.int .i64 ((rd_T58 l0 x5_1).f1.f1))) (ds := []) #[false, false, false, false, false, false, false, false, false, false, false, false, false] (by kernel_rfl) rfl rfl ⟨(blk_cell BK341.out 0).trans rfl, (blk_cell BK341.out 1).trans rfl, (blk_cell BK341.out 2).trans rfl, (blk_cell BK341.out 3).trans rfl, ((HB.out.cell (World.block_lt_of_cell? w _ hw344_0)).trans hw344_0), ((HB.out.cell (World.block_lt_of_cell? w _ hw344_1)).trans hw344_1), ((HB.out.cell (World.block_lt_of_cell? w _ hw344_2)).trans hw344_2)⟩ (fun hHeld => ?_); refine with_tabW styluslaw10_FusePlays.tab14 styluslaw10_FusePlays.bits14 (fun HT_ HW_ => ?_)
                  generalize wr.drew = w19 at BK341 HI336 HB hx344_0 hx344_1 hx344_2 hHeld ⊢
                  refine pure_ (i := 0) (N := some 38) (v := ?_) (a' := ?_) #[true, false, false, false, false, false, false, false, false, false, false, false, false] rfl rfl (any_of HT_.out (by kernel_rfl)) (fun _ _ _ h => h) (Or.inl ⟨by rfl, ?_⟩) ?_ ?_
                  rotate_left
                  · intro w'
                    go_simp
                    with_reducible rfl
                  rotate_left
                  · simp only [Act.put, List.setIfInBounds_toArray, List.set_cons_zero, List.set_cons_succ, i64_w, i32_w]
                    rfl
                  refine pure_ (i := 2) (N := some 40) (v := ?_) (a' := ?_) #[true, false, true, false, false, false, false, false, false, false, false, false, false] rfl rfl (any_of HT_.out (by kernel_rfl)) (fun _ _ _ h => h) (Or.inl ⟨by rfl, ?_⟩) ?_ ?_
                  rotate_left
                  · intro w'
                    go_simp
                    with_reducible rfl
                  rotate_left
                  · simp only [Act.put, List.setIfInBounds_toArray, List.set_cons_zero, List.set_cons_succ, i64_w, i32_w]
                    rfl
                  refine pure_ (i := 3) (N := some 41) (v := ?_) (a' := ?_) #[true, false, true, true, false, false, false, false, false, false, false, false, false] rfl rfl (any_of HT_.out (by kernel_rfl)) (fun _ _ _ h => h) (Or.inl ⟨by rfl, ?_⟩) ?_ ?_
                  rotate_left
                  · intro w'
                    go_simp
                    with_reducible rfl
                  rotate_left
                  · simp only [Act.put, List.setIfInBounds_toArray, List.set_cons_zero, List.set_cons_succ, i64_w, i32_w]
                    rfl
                  refine pure_ (i := 4) (N := some 42) (v := ?_) (a' := ?_) #[true, false, true, true, true, false, false, false, false, false, false, false, false] rfl rfl (any_of HT_.out (by kernel_rfl)) (fun _ _ _ h => h) (Or.inl ⟨by rfl, ?_⟩) ?_ ?_
                  rotate_left
                  · intro w'
                    go_simp
                    with_reducible rfl
                  rotate_left
                  · simp only [Act.put, List.setIfInBounds_toArray, List.set_cons_zero, List.set_cons_succ, i64_w, i32_w]
                    rfl
                  refine take_ (i := 1) (N := some 39) (v := ?_) (a' := ?_) #[true, true, true, true, true, false, false, false, false, false, false, false, false] rfl rfl (take_ofW HT_.out HW_.out (by kernel_rfl)) (fun _ _ _ h => h) (Or.inl ⟨by rfl, ?_⟩) hHeld ?_ ?_
                  rotate_left
                  · rintro w' ⟨s0, s1, s2, s3, s4, s5, s6⟩
                    go_simp
                    with_reducible rfl
                  rotate_left
                  · simp only [Act.put, List.setIfInBounds_toArray, List.set_cons_zero, List.set_cons_succ, i64_w, i32_w]
                    rfl
                  refine take_ (i := 5) (N := some 43) (v := ?_) (a' := ?_) #[true, true, true, true, true, true, false, false, false, false, false, false, false] rfl rfl (take_ofW HT_.out HW_.out (by kernel_rfl)) (fun _ _ _ h => h) (Or.inl ⟨by rfl, ?_⟩) hHeld ?_ ?_
                  rotate_left
                  · rintro w' ⟨s0, s1, s2, s3, s4, s5, s6⟩
                    go_simp
                    with_reducible rfl
                  rotate_left
                  · simp only [Act.put, List.setIfInBounds_toArray, List.set_cons_zero, List.set_cons_succ, i64_w, i32_w]
                    rfl
                  refine join_ (σ := Nat) 2 #[true, true, true, true, true, true, true, true, true, true, true, false, false] (fun s_ => [(44, .tuple #[.agg #[.int .i64 t345, .int .i64 t346, .int .i64 t347, .bool t348], .bool true]), (7, .pointer (some ⟨s_, 0, none⟩)), (37, .tuple #[.agg #[.int .i64 t345, .int .i64 t346, .int .i64 t347, .bool t348], .bool true]), (45, .agg #[.int .i64 t345, .int .i64 t346, .int .i64 t347, .bool t348]), (46, .bool true)]) (fun s_ w' => (w'.cell? ⟨gb341, 0, none⟩ = some (.int .i64 x342000_1) ∧ w'.cell? ⟨gb341, 1, none⟩ = some (.int .i64 x342001_1) ∧ w'.cell? ⟨gb341, 2, none⟩ = some (.int .i64 x342002_1) ∧ w'.cell? ⟨gb341, 3, none⟩ = some (.bool x342003_1) ∧ w'.cell? (ad343.add ((x5_1).toNat * 3)) = some (.int .i64 ((rd_T58 l0 x5_1).f0)) ∧ w'.cell? ⟨(ad343.add ((x5_1).toNat * 3)).block, (ad343.add ((x5_1).toNat * 3)).off + 1, none⟩ = some (.int .i64 ((rd_T58 l0 x5_1).f1.f0)) ∧ w'.cell? ⟨(ad343.add ((x5_1).toNat * 3)).block, (ad343.add ((x5_1).toNat * 3)).off + 2, none⟩ = some (.int .i64 ((rd_T58 l0 x5_1).f1.f1))) ∧ (w'.heap[gb341]? = some (.cells #[.int .i64 x342000_1, .int .i64 x342001_1, .int .i64 x342002_1, .bool x342003_1] 55 (0, 0))) ∧ (w'.heap[s_]? = some (.cells #[.int .i64 0, .int .i64 0, .int .i64 0, .bool false] 55 (0, 0))) ∧ (w.heap.size ≤ s_) ∧ (w.heap.size ≤ s_) ∧ (g336 ≠ s_) ∧ (s_ ≠ g336) ∧ (gb341 ≠ s_) ∧ (s_ ≠ gb341) ∧ (IsS64 w w' g336 t350 t351 t352 t353 t354 t355) ∧ (Below w.heap.size w w')) ?_ ?_
                  rotate_left
                  · intro hCont
                    refine two_ (i := 6) (j := 10) (Ni := some 44) (Nj := some 7) #[true, true, true, true, true, true, true, false, false, false, false, false, false] #[true, true, true, true, true, true, false, false, false, false, true, false, false] rfl rfl rfl rfl (two_of HT_.out (by kernel_rfl)) (by decide) (by decide) (fun K hK => ?_) (fun K hK => ?_)
                    · skip
                      refine goes_ Try.func35 (by kernel_rfl) rfl #[.pointer (some ⟨g336, 0, none⟩), .agg #[.int .i64 x342000_1, .int .i64 x342001_1, .int .i64 x342002_1, .bool x342003_1], .agg #[.int .i64 ((rd_T58 l0 x5_1).f0), .int .i64 ((rd_T58 l0 x5_1).f1.f0), .int .i64 ((rd_T58 l0 x5_1).f1.f1)]] (by rfl) rfl rfl (by (try simp only [List.map_toArray, List.map_cons, List.map_nil]); first | done | rfl | (simp only [List.length_drop, List.length_take]; rfl)) ?_
                      with_reducible refine (styluslaw10_step.calls g336 x337000_1 x337001_1 x337002_1 x337003_1 x337004_1 x337005_1 x342000_1 x342001_1 x342002_1 x342003_1 ((rd_T58 l0 x5_1).f0) ((rd_T58 l0 x5_1).f1.f0) ((rd_T58 l0 x5_1).f1.f1) t345 t346 t347 t348 true t350 t351 t352 t353 t354 t355 w _ ?side1 ?side2 A15.out).mono ?_
                      (case side1 => repeat (first | (with_reducible first | exact HI336.out | apply IsS64.alloc | apply IsS64.drewN | apply IsS64.drew | apply IsS64.set_0 | apply IsS64.set_1 | apply IsS64.set_2 | apply IsS64.set_3 | apply IsS64.set_4 | apply IsS64.set_5 | refine IsS64.far ?_ NB336_341.out _) | exact HI336.out))
                      (case side2 => repeat (first | (with_reducible first | exact HB.out | apply below_alloc | apply pw_below_drewN | apply below_drew1 | refine below_set ?_ (IsS64.ge HI336.out) | refine below_set ?_ GE341.out) | exact HB.out))
                      rintro e w20 ⟨rfl, hi, hb, hk⟩
                      refine ⟨_, rfl, ?_⟩
                      have n0_ := Aside0.mk (KeepBut.blk hk (g' := gb341) (o := .cells #[.int .i64 x342000_1, .int .i64 x342001_1, .int .i64 x342002_1, .bool x342003_1] 55 (0, 0)) (by (with_reducible repeat (first | refine blk_drewN ?_ _ | refine blk_drew ?_ | refine blk_alloc ?_ _)); exact BK341.out) NB341_336.out (by simp))
                      have n1_ := Aside0.mk (hb)
                      have n2_ := Aside0.mk (hi)
                      clear BK341
                      clear HB
                      clear HI336
                      have BK341 := n0_
                      have HB := n1_
                      have HI336 := n2_
                      clear n0_ n1_ n2_
                      (try clear hb)
                      (try clear hb2)
                      (try clear hk)
                      (try clear hi)
                      refine hK.out _ _ ⟨(blk_cell BK341.out 0).trans rfl, (blk_cell BK341.out 1).trans rfl, (blk_cell BK341.out 2).trans rfl, (blk_cell BK341.out 3).trans rfl, ((HB.out.cell (World.block_lt_of_cell? w _ hw344_0)).trans hw344_0), ((HB.out.cell (World.block_lt_of_cell? w _ hw344_1)).trans hw344_1), ((HB.out.cell (World.block_lt_of_cell? w _ hw344_2)).trans hw344_2)⟩ (fun hHeld => ?_)
                      clear hK K
                      refine norm_ (a' := ?_) ?_ ?_
                      rotate_left
                      · show Act.put _ (some 44) _ = _
                        simp only [Act.put, List.setIfInBounds_toArray, List.set_cons_zero, List.set_cons_succ, i64_w, i32_w]
                        rfl
                      refine pure_ (i := 7) (N := some 37) (v := ?_) (a' := ?_) #[true, true, true, true, true, true, true, true, false, false, false, false, false] rfl rfl (any_of HT_.out (by kernel_rfl)) (fun _ _ _ h => h) (Or.inl ⟨by rfl, ?_⟩) ?_ ?_
                      rotate_left
                      · intro w'
                        go_simp
                        with_reducible rfl
                      rotate_left
                      · simp only [Act.put, List.setIfInBounds_toArray, List.set_cons_zero, List.set_cons_succ, i64_w, i32_w]
                        rfl
                      refine pure_ (i := 8) (N := some 45) (v := ?_) (a' := ?_) #[true, true, true, true, true, true, true, true, true, false, false, false, false] rfl rfl (any_of HT_.out (by kernel_rfl)) (fun _ _ _ h => h) (Or.inl ⟨by rfl, ?_⟩) ?_ ?_
                      rotate_left
                      · intro w'
                        go_simp
                        with_reducible rfl
                      rotate_left
                      · simp only [Act.put, List.setIfInBounds_toArray, List.set_cons_zero, List.set_cons_succ, i64_w, i32_w]
                        rfl
                      refine pure_ (i := 9) (N := some 46) (v := ?_) (a' := ?_) #[true, true, true, true, true, true, true, true, true, true, false, false, false] rfl rfl (any_of HT_.out (by kernel_rfl)) (fun _ _ _ h => h) (Or.inl ⟨by rfl, ?_⟩) ?_ ?_
                      rotate_left
                      · intro w'
                        go_simp
                        with_reducible rfl
                      rotate_left
                      · simp only [Act.put, List.setIfInBounds_toArray, List.set_cons_zero, List.set_cons_succ, i64_w, i32_w]
                        rfl
                      refine one_ (i := 10) (N := some 7) #[true, true, true, true, true, true, true, true, true, true, true, false, false] rfl rfl (one_of HT_.out (by kernel_rfl)) (by decide) (fun K hK => ?_)
                      refine box_step ?hg (N := 7) ?hd (cs := #[.int .i64 0, .int .i64 0, .int .i64 0, .bool false]) (t := 55) ?hr ?_; (case hd => rfl); (case hg => rfl); (case hr => first | (go_simp; done) | (go_simp; rfl))
                      intro gb356 hg w21 hbox hb
                      have n0_ := Aside0.mk (blk_below (g := gb341) (o := .cells #[.int .i64 x342000_1, .int .i64 x342001_1, .int .i64 x342002_1, .bool x342003_1] 55 (0, 0)) (by (with_reducible repeat (first | refine blk_drewN ?_ _ | refine blk_drew ?_ | refine blk_alloc ?_ _)); exact BK341.out) hb)
                      have n1_ := Aside0.mk (IsS64.below (by repeat (first | (with_reducible first | exact HI336.out | apply IsS64.alloc | apply IsS64.drewN | apply IsS64.drew | apply IsS64.set_0 | apply IsS64.set_1 | apply IsS64.set_2 | apply IsS64.set_3 | apply IsS64.set_4 | apply IsS64.set_5 | refine IsS64.far ?_ NB336_341.out _) | exact HI336.out)) hb)
                      have n2_ := Aside0.mk (below_step (by repeat (first | (with_reducible first | exact HB.out | apply below_alloc | apply pw_below_drewN | apply below_drew1 | refine below_set ?_ (IsS64.ge HI336.out) | refine below_set ?_ GE341.out) | exact HB.out)) hb)
                      have n3_ := Aside0.mk (hbox)
                      have n4_ := Aside0.mk ((by rw [hg]; exact (below_size (by repeat (first | (with_reducible first | exact HB.out | apply below_alloc | apply pw_below_drewN | apply below_drew1 | refine below_set ?_ (IsS64.ge HI336.out) | refine below_set ?_ GE341.out) | exact HB.out))) : w.heap.size ≤ gb356))
                      have n5_ := Aside0.mk ((by rw [hg]; exact (below_size (by repeat (first | (with_reducible first | exact HB.out | apply below_alloc | apply pw_below_drewN | apply below_drew1 | refine below_set ?_ (IsS64.ge HI336.out) | refine below_set ?_ GE341.out) | exact HB.out))) : w.heap.size ≤ gb356))
                      have n6_ := Aside0.mk ((by rw [hg]; exact Nat.ne_of_lt (blk_lt (g := gb341) (o := .cells #[.int .i64 x342000_1, .int .i64 x342001_1, .int .i64 x342002_1, .bool x342003_1] 55 (0, 0)) (by (with_reducible repeat (first | refine blk_drewN ?_ _ | refine blk_drew ?_ | refine blk_alloc ?_ _)); exact BK341.out)) : gb341 ≠ gb356))
                      have n7_ := Aside0.mk ((by rw [hg]; exact Nat.ne_of_gt (blk_lt (g := gb341) (o := .cells #[.int .i64 x342000_1, .int .i64 x342001_1, .int .i64 x342002_1, .bool x342003_1] 55 (0, 0)) (by (with_reducible repeat (first | refine blk_drewN ?_ _ | refine blk_drew ?_ | refine blk_alloc ?_ _)); exact BK341.out)) : gb356 ≠ gb341))
                      have n8_ := Aside0.mk ((by rw [hg]; exact Nat.ne_of_lt (IsS64.lt (show IsS64 w _ g336 t350 t351 t352 t353 t354 t355 from by repeat (first | (with_reducible first | exact HI336.out | apply IsS64.alloc | apply IsS64.drewN | apply IsS64.drew | apply IsS64.set_0 | apply IsS64.set_1 | apply IsS64.set_2 | apply IsS64.set_3 | apply IsS64.set_4 | apply IsS64.set_5 | refine IsS64.far ?_ NB336_341.out _) | exact HI336.out))) : g336 ≠ gb356))
                      have n9_ := Aside0.mk ((by rw [hg]; exact Nat.ne_of_gt (IsS64.lt (show IsS64 w _ g336 t350 t351 t352 t353 t354 t355 from by repeat (first | (with_reducible first | exact HI336.out | apply IsS64.alloc | apply IsS64.drewN | apply IsS64.drew | apply IsS64.set_0 | apply IsS64.set_1 | apply IsS64.set_2 | apply IsS64.set_3 | apply IsS64.set_4 | apply IsS64.set_5 | refine IsS64.far ?_ NB336_341.out _) | exact HI336.out))) : gb356 ≠ g336))
                      clear BK341
                      clear HI336
                      clear HB
                      have BK341 := n0_
                      have HI336 := n1_
                      have HB := n2_
                      have BK356 := n3_
                      have GW356 := n4_
                      have GE356 := n5_
                      have NB341_356 := n6_
                      have NB356_341 := n7_
                      have NB336_356 := n8_
                      have NB356_336 := n9_
                      clear n0_ n1_ n2_ n3_ n4_ n5_ n6_ n7_ n8_ n9_
                      clear hb hbox hg
                      refine hK.out _ _ ⟨(blk_cell BK341.out 0).trans rfl, (blk_cell BK341.out 1).trans rfl, (blk_cell BK341.out 2).trans rfl, (blk_cell BK341.out 3).trans rfl, ((HB.out.cell (World.block_lt_of_cell? w _ hw344_0)).trans hw344_0), ((HB.out.cell (World.block_lt_of_cell? w _ hw344_1)).trans hw344_1), ((HB.out.cell (World.block_lt_of_cell? w _ hw344_2)).trans hw344_2)⟩ (fun hHeld => ?_)
                      clear hK K
                      refine norm_ (a' := ?_) ?_ ?_
                      rotate_left
                      · show Act.put _ (some 7) _ = _
                        simp only [Act.put, List.setIfInBounds_toArray, List.set_cons_zero, List.set_cons_succ, i64_w, i32_w]
                        rfl
                      exact norm_ (by simp only [putAll, Act.put, List.setIfInBounds_toArray, List.set_cons_zero, List.set_cons_succ]) (hCont (gb356) _ ⟨hHeld, (by (with_reducible repeat (first | refine blk_drewN ?_ _ | refine blk_drew ?_ | refine blk_alloc ?_ _)); exact BK341.out), (by (with_reducible repeat (first | refine blk_drewN ?_ _ | refine blk_drew ?_ | refine blk_alloc ?_ _)); exact BK356.out), GW356.out, GE356.out, NB336_356.out, NB356_336.out, NB341_356.out, NB356_341.out, (by repeat (first | (with_reducible first | exact HI336.out | apply IsS64.alloc | apply IsS64.drewN | apply IsS64.drew | apply IsS64.set_0 | apply IsS64.set_1 | apply IsS64.set_2 | apply IsS64.set_3 | apply IsS64.set_4 | apply IsS64.set_5 | refine IsS64.far ?_ NB336_341.out _ | refine IsS64.far ?_ NB336_356.out _) | exact HI336.out)), (by repeat (first | (with_reducible first | exact HB.out | apply below_alloc | apply pw_below_drewN | apply below_drew1 | refine below_set ?_ (IsS64.ge HI336.out) | refine below_set ?_ GE341.out | refine below_set ?_ GE356.out) | exact HB.out))⟩)
                    · skip
                      refine box_step ?hg (N := 7) ?hd (cs := #[.int .i64 0, .int .i64 0, .int .i64 0, .bool false]) (t := 55) ?hr ?_; (case hd => rfl); (case hg => rfl); (case hr => first | (go_simp; done) | (go_simp; rfl))
                      intro gb356 hg w20 hbox hb
                      have n0_ := Aside0.mk (blk_below (g := gb341) (o := .cells #[.int .i64 x342000_1, .int .i64 x342001_1, .int .i64 x342002_1, .bool x342003_1] 55 (0, 0)) (by (with_reducible repeat (first | refine blk_drewN ?_ _ | refine blk_drew ?_ | refine blk_alloc ?_ _)); exact BK341.out) hb)
                      have n1_ := Aside0.mk (IsS64.below (by repeat (first | (with_reducible first | exact HI336.out | apply IsS64.alloc | apply IsS64.drewN | apply IsS64.drew | apply IsS64.set_0 | apply IsS64.set_1 | apply IsS64.set_2 | apply IsS64.set_3 | apply IsS64.set_4 | apply IsS64.set_5 | refine IsS64.far ?_ NB336_341.out _) | exact HI336.out)) hb)
                      have n2_ := Aside0.mk (below_step (by repeat (first | (with_reducible first | exact HB.out | apply below_alloc | apply pw_below_drewN | apply below_drew1 | refine below_set ?_ (IsS64.ge HI336.out) | refine below_set ?_ GE341.out) | exact HB.out)) hb)
                      have n3_ := Aside0.mk (hbox)
                      have n4_ := Aside0.mk ((by rw [hg]; exact (below_size (by repeat (first | (with_reducible first | exact HB.out | apply below_alloc | apply pw_below_drewN | apply below_drew1 | refine below_set ?_ (IsS64.ge HI336.out) | refine below_set ?_ GE341.out) | exact HB.out))) : w.heap.size ≤ gb356))
                      have n5_ := Aside0.mk ((by rw [hg]; exact (below_size (by repeat (first | (with_reducible first | exact HB.out | apply below_alloc | apply pw_below_drewN | apply below_drew1 | refine below_set ?_ (IsS64.ge HI336.out) | refine below_set ?_ GE341.out) | exact HB.out))) : w.heap.size ≤ gb356))
                      have n6_ := Aside0.mk ((by rw [hg]; exact Nat.ne_of_lt (blk_lt (g := gb341) (o := .cells #[.int .i64 x342000_1, .int .i64 x342001_1, .int .i64 x342002_1, .bool x342003_1] 55 (0, 0)) (by (with_reducible repeat (first | refine blk_drewN ?_ _ | refine blk_drew ?_ | refine blk_alloc ?_ _)); exact BK341.out)) : gb341 ≠ gb356))
                      have n7_ := Aside0.mk ((by rw [hg]; exact Nat.ne_of_gt (blk_lt (g := gb341) (o := .cells #[.int .i64 x342000_1, .int .i64 x342001_1, .int .i64 x342002_1, .bool x342003_1] 55 (0, 0)) (by (with_reducible repeat (first | refine blk_drewN ?_ _ | refine blk_drew ?_ | refine blk_alloc ?_ _)); exact BK341.out)) : gb356 ≠ gb341))
                      have n8_ := Aside0.mk ((by rw [hg]; exact Nat.ne_of_lt (IsS64.lt (show IsS64 w _ g336 x337000_1 x337001_1 x337002_1 x337003_1 x337004_1 x337005_1 from by repeat (first | (with_reducible first | exact HI336.out | apply IsS64.alloc | apply IsS64.drewN | apply IsS64.drew | apply IsS64.set_0 | apply IsS64.set_1 | apply IsS64.set_2 | apply IsS64.set_3 | apply IsS64.set_4 | apply IsS64.set_5 | refine IsS64.far ?_ NB336_341.out _) | exact HI336.out))) : g336 ≠ gb356))
                      have n9_ := Aside0.mk ((by rw [hg]; exact Nat.ne_of_gt (IsS64.lt (show IsS64 w _ g336 x337000_1 x337001_1 x337002_1 x337003_1 x337004_1 x337005_1 from by repeat (first | (with_reducible first | exact HI336.out | apply IsS64.alloc | apply IsS64.drewN | apply IsS64.drew | apply IsS64.set_0 | apply IsS64.set_1 | apply IsS64.set_2 | apply IsS64.set_3 | apply IsS64.set_4 | apply IsS64.set_5 | refine IsS64.far ?_ NB336_341.out _) | exact HI336.out))) : gb356 ≠ g336))
                      clear BK341
                      clear HI336
                      clear HB
                      have BK341 := n0_
                      have HI336 := n1_
                      have HB := n2_
                      have BK356 := n3_
                      have GW356 := n4_
                      have GE356 := n5_
                      have NB341_356 := n6_
                      have NB356_341 := n7_
                      have NB336_356 := n8_
                      have NB356_336 := n9_
                      clear n0_ n1_ n2_ n3_ n4_ n5_ n6_ n7_ n8_ n9_
                      clear hb hbox hg
                      refine hK.out _ _ ⟨(blk_cell BK341.out 0).trans rfl, (blk_cell BK341.out 1).trans rfl, (blk_cell BK341.out 2).trans rfl, (blk_cell BK341.out 3).trans rfl, ((HB.out.cell (World.block_lt_of_cell? w _ hw344_0)).trans hw344_0), ((HB.out.cell (World.block_lt_of_cell? w _ hw344_1)).trans hw344_1), ((HB.out.cell (World.block_lt_of_cell? w _ hw344_2)).trans hw344_2)⟩ (fun hHeld => ?_)
                      clear hK K
                      refine norm_ (a' := ?_) ?_ ?_
                      rotate_left
                      · show Act.put _ (some 7) _ = _
                        simp only [Act.put, List.setIfInBounds_toArray, List.set_cons_zero, List.set_cons_succ, i64_w, i32_w]
                        rfl
                      refine one_ (i := 6) (N := some 44) #[true, true, true, true, true, true, true, false, false, false, true, false, false] rfl rfl (one_of HT_.out (by kernel_rfl)) (by decide) (fun K hK => ?_)
                      refine goes_ Try.func35 (by kernel_rfl) rfl #[.pointer (some ⟨g336, 0, none⟩), .agg #[.int .i64 x342000_1, .int .i64 x342001_1, .int .i64 x342002_1, .bool x342003_1], .agg #[.int .i64 ((rd_T58 l0 x5_1).f0), .int .i64 ((rd_T58 l0 x5_1).f1.f0), .int .i64 ((rd_T58 l0 x5_1).f1.f1)]] (by rfl) rfl rfl (by (try simp only [List.map_toArray, List.map_cons, List.map_nil]); first | done | rfl | (simp only [List.length_drop, List.length_take]; rfl)) ?_
                      with_reducible refine (styluslaw10_step.calls g336 x337000_1 x337001_1 x337002_1 x337003_1 x337004_1 x337005_1 x342000_1 x342001_1 x342002_1 x342003_1 ((rd_T58 l0 x5_1).f0) ((rd_T58 l0 x5_1).f1.f0) ((rd_T58 l0 x5_1).f1.f1) t345 t346 t347 t348 true t350 t351 t352 t353 t354 t355 w _ ?side1 ?side2 A15.out).mono ?_
                      (case side1 => repeat (first | (with_reducible first | exact HI336.out | apply IsS64.alloc | apply IsS64.drewN | apply IsS64.drew | apply IsS64.set_0 | apply IsS64.set_1 | apply IsS64.set_2 | apply IsS64.set_3 | apply IsS64.set_4 | apply IsS64.set_5 | refine IsS64.far ?_ NB336_341.out _ | refine IsS64.far ?_ NB336_356.out _) | exact HI336.out))
                      (case side2 => repeat (first | (with_reducible first | exact HB.out | apply below_alloc | apply pw_below_drewN | apply below_drew1 | refine below_set ?_ (IsS64.ge HI336.out) | refine below_set ?_ GE341.out | refine below_set ?_ GE356.out) | exact HB.out))
                      rintro e w21 ⟨rfl, hi, hb, hk⟩
                      refine ⟨_, rfl, ?_⟩
                      have n0_ := Aside0.mk (KeepBut.blk hk (g' := gb341) (o := .cells #[.int .i64 x342000_1, .int .i64 x342001_1, .int .i64 x342002_1, .bool x342003_1] 55 (0, 0)) (by (with_reducible repeat (first | refine blk_drewN ?_ _ | refine blk_drew ?_ | refine blk_alloc ?_ _)); exact BK341.out) NB341_336.out (by simp))
                      have n1_ := Aside0.mk (KeepBut.blk hk (g' := gb356) (o := .cells #[.int .i64 0, .int .i64 0, .int .i64 0, .bool false] 55 (0, 0)) (by (with_reducible repeat (first | refine blk_drewN ?_ _ | refine blk_drew ?_ | refine blk_alloc ?_ _)); exact BK356.out) NB356_336.out (by simp))
                      have n2_ := Aside0.mk (hb)
                      have n3_ := Aside0.mk (hi)
                      clear BK341
                      clear BK356
                      clear HB
                      clear HI336
                      have BK341 := n0_
                      have BK356 := n1_
                      have HB := n2_
                      have HI336 := n3_
                      clear n0_ n1_ n2_ n3_
                      (try clear hb)
                      (try clear hb2)
                      (try clear hk)
                      (try clear hi)
                      refine hK.out _ _ ⟨(blk_cell BK341.out 0).trans rfl, (blk_cell BK341.out 1).trans rfl, (blk_cell BK341.out 2).trans rfl, (blk_cell BK341.out 3).trans rfl, ((HB.out.cell (World.block_lt_of_cell? w _ hw344_0)).trans hw344_0), ((HB.out.cell (World.block_lt_of_cell? w _ hw344_1)).trans hw344_1), ((HB.out.cell (World.block_lt_of_cell? w _ hw344_2)).trans hw344_2)⟩ (fun hHeld => ?_)
                      clear hK K
                      refine norm_ (a' := ?_) ?_ ?_
                      rotate_left
                      · show Act.put _ (some 44) _ = _
                        simp only [Act.put, List.setIfInBounds_toArray, List.set_cons_zero, List.set_cons_succ, i64_w, i32_w]
                        rfl
                      refine pure_ (i := 7) (N := some 37) (v := ?_) (a' := ?_) #[true, true, true, true, true, true, true, true, false, false, true, false, false] rfl rfl (any_of HT_.out (by kernel_rfl)) (fun _ _ _ h => h) (Or.inl ⟨by rfl, ?_⟩) ?_ ?_
                      rotate_left
                      · intro w'
                        go_simp
                        with_reducible rfl
                      rotate_left
                      · simp only [Act.put, List.setIfInBounds_toArray, List.set_cons_zero, List.set_cons_succ, i64_w, i32_w]
                        rfl
                      refine pure_ (i := 8) (N := some 45) (v := ?_) (a' := ?_) #[true, true, true, true, true, true, true, true, true, false, true, false, false] rfl rfl (any_of HT_.out (by kernel_rfl)) (fun _ _ _ h => h) (Or.inl ⟨by rfl, ?_⟩) ?_ ?_
                      rotate_left
                      · intro w'
                        go_simp
                        with_reducible rfl
                      rotate_left
                      · simp only [Act.put, List.setIfInBounds_toArray, List.set_cons_zero, List.set_cons_succ, i64_w, i32_w]
                        rfl
                      refine pure_ (i := 9) (N := some 46) (v := ?_) (a' := ?_) #[true, true, true, true, true, true, true, true, true, true, true, false, false] rfl rfl (any_of HT_.out (by kernel_rfl)) (fun _ _ _ h => h) (Or.inl ⟨by rfl, ?_⟩) ?_ ?_
                      rotate_left
                      · intro w'
                        go_simp
                        with_reducible rfl
                      rotate_left
                      · simp only [Act.put, List.setIfInBounds_toArray, List.set_cons_zero, List.set_cons_succ, i64_w, i32_w]
                        rfl
                      exact norm_ (by simp only [putAll, Act.put, List.setIfInBounds_toArray, List.set_cons_zero, List.set_cons_succ]) (hCont (gb356) _ ⟨hHeld, (by (with_reducible repeat (first | refine blk_drewN ?_ _ | refine blk_drew ?_ | refine blk_alloc ?_ _)); exact BK341.out), (by (with_reducible repeat (first | refine blk_drewN ?_ _ | refine blk_drew ?_ | refine blk_alloc ?_ _)); exact BK356.out), GW356.out, GE356.out, NB336_356.out, NB356_336.out, NB341_356.out, NB356_341.out, (by repeat (first | (with_reducible first | exact HI336.out | apply IsS64.alloc | apply IsS64.drewN | apply IsS64.drew | apply IsS64.set_0 | apply IsS64.set_1 | apply IsS64.set_2 | apply IsS64.set_3 | apply IsS64.set_4 | apply IsS64.set_5 | refine IsS64.far ?_ NB336_341.out _ | refine IsS64.far ?_ NB336_356.out _) | exact HI336.out)), (by repeat (first | (with_reducible first | exact HB.out | apply below_alloc | apply pw_below_drewN | apply below_drew1 | refine below_set ?_ (IsS64.ge HI336.out) | refine below_set ?_ GE341.out | refine below_set ?_ GE356.out) | exact HB.out))⟩)
                  rintro gb356 w22 ⟨hS_, h0_, h1_, h2_, h3_, h4_, h5_, h6_, h7_, h8_, h9_⟩
                  have n0_ : Aside0 (w22.heap[gb341]? = some (.cells #[.int .i64 x342000_1, .int .i64 x342001_1, .int .i64 x342002_1, .bool x342003_1] 55 (0, 0))) := ⟨h0_⟩
                  have n1_ : Aside0 (w22.heap[gb356]? = some (.cells #[.int .i64 0, .int .i64 0, .int .i64 0, .bool false] 55 (0, 0))) := ⟨h1_⟩
                  have n2_ : Aside0 (w.heap.size ≤ gb356) := ⟨h2_⟩
                  have n3_ : Aside0 (w.heap.size ≤ gb356) := ⟨h3_⟩
                  have n4_ : Aside0 (g336 ≠ gb356) := ⟨h4_⟩
                  have n5_ : Aside0 (gb356 ≠ g336) := ⟨h5_⟩
                  have n6_ : Aside0 (gb341 ≠ gb356) := ⟨h6_⟩
                  have n7_ : Aside0 (gb356 ≠ gb341) := ⟨h7_⟩
                  have n8_ : Aside0 (IsS64 w w22 g336 t350 t351 t352 t353 t354 t355) := ⟨h8_⟩
                  have n9_ : Aside0 (Below w.heap.size w w22) := ⟨h9_⟩
                  clear BK341
                  clear HI336
                  clear HB
                  clear h0_ h1_ h2_ h3_ h4_ h5_ h6_ h7_ h8_ h9_
                  have BK341 := n0_
                  have BK356 := n1_
                  have GW356 := n2_
                  have GE356 := n3_
                  have NB336_356 := n4_
                  have NB356_336 := n5_
                  have NB341_356 := n6_
                  have NB356_341 := n7_
                  have HI336 := n8_
                  have HB := n9_
                  clear n0_ n1_ n2_ n3_ n4_ n5_ n6_ n7_ n8_ n9_
                  have hHeld : w22.cell? ⟨gb341, 0, none⟩ = some (.int .i64 x342000_1) ∧ w22.cell? ⟨gb341, 1, none⟩ = some (.int .i64 x342001_1) ∧ w22.cell? ⟨gb341, 2, none⟩ = some (.int .i64 x342002_1) ∧ w22.cell? ⟨gb341, 3, none⟩ = some (.bool x342003_1) ∧ w22.cell? (ad343.add ((x5_1).toNat * 3)) = some (.int .i64 ((rd_T58 l0 x5_1).f0)) ∧ w22.cell? ⟨(ad343.add ((x5_1).toNat * 3)).block, (ad343.add ((x5_1).toNat * 3)).off + 1, none⟩ = some (.int .i64 ((rd_T58 l0 x5_1).f1.f0)) ∧ w22.cell? ⟨(ad343.add ((x5_1).toNat * 3)).block, (ad343.add ((x5_1).toNat * 3)).off + 2, none⟩ = some (.int .i64 ((rd_T58 l0 x5_1).f1.f1)) := hS_
                  refine norm_ (a' := ?_) ?_ ?_
                  rotate_left
                  · simp only [putAll, Act.put, List.setIfInBounds_toArray, List.set_cons_zero, List.set_cons_succ]
                    rfl
                  refine one_ (i := 11) (N := none) #[true, true, true, true, true, true, true, true, true, true, true, true, false] rfl rfl (one_of HT_.out (by kernel_rfl)) (by decide) (fun K hK => ?_)
                  have hs23 : w22.cell? ⟨gb356, 0, none⟩ = some (.int .i64 0) := (blk_cell BK356.out 0).trans rfl
                  have hfs23 := blk_frozen BK356.out 0
                  have hns23_0 := NB341_356.out
                  have hms23_0 := NB356_341.out
                  have hs24 : w22.cell? ⟨gb356, 1, none⟩ = some (.int .i64 0) := (blk_cell BK356.out 1).trans rfl
                  have hfs24 := blk_frozen BK356.out 1
                  have hns24_0 := NB341_356.out
                  have hms24_0 := NB356_341.out
                  have hs25 : w22.cell? ⟨gb356, 2, none⟩ = some (.int .i64 0) := (blk_cell BK356.out 2).trans rfl
                  have hfs25 := blk_frozen BK356.out 2
                  have hns25_0 := NB341_356.out
                  have hms25_0 := NB356_341.out
                  have hs26 : w22.cell? ⟨gb356, 3, none⟩ = some (.bool false) := (blk_cell BK356.out 3).trans rfl
                  have hfs26 := blk_frozen BK356.out 3
                  have hns26_0 := NB341_356.out
                  have hms26_0 := NB356_341.out
                  refine skip_ (w1 := ?_) (by rfl) rfl ?_ ?_
                  rotate_left
                  · go_simp
                    rfl
                  refine hK.out _ _ ⟨((cell_far (p := ⟨gb356, _, none⟩) NB341_356.out _).trans (((cell_far (p := ⟨gb356, _, none⟩) NB341_356.out _).trans (((cell_far (p := ⟨gb356, _, none⟩) NB341_356.out _).trans (((cell_far (p := ⟨gb356, _, none⟩) NB341_356.out _).trans (hHeld.1)))))))), ((cell_far (p := ⟨gb356, _, none⟩) NB341_356.out _).trans (((cell_far (p := ⟨gb356, _, none⟩) NB341_356.out _).trans (((cell_far (p := ⟨gb356, _, none⟩) NB341_356.out _).trans (((cell_far (p := ⟨gb356, _, none⟩) NB341_356.out _).trans (hHeld.2.1)))))))), ((cell_far (p := ⟨gb356, _, none⟩) NB341_356.out _).trans (((cell_far (p := ⟨gb356, _, none⟩) NB341_356.out _).trans (((cell_far (p := ⟨gb356, _, none⟩) NB341_356.out _).trans (((cell_far (p := ⟨gb356, _, none⟩) NB341_356.out _).trans (hHeld.2.2.1)))))))), ((cell_far (p := ⟨gb356, _, none⟩) NB341_356.out _).trans (((cell_far (p := ⟨gb356, _, none⟩) NB341_356.out _).trans (((cell_far (p := ⟨gb356, _, none⟩) NB341_356.out _).trans (((cell_far (p := ⟨gb356, _, none⟩) NB341_356.out _).trans (hHeld.2.2.2.1)))))))), ((cell_far (p := ⟨gb356, _, none⟩) (by first | exact Nat.ne_of_lt (Nat.lt_of_lt_of_le (by have := World.block_lt_of_cell? _ _ hw344_0; first | rwa [add_block] at this | exact this) GW356.out) | (rw [add_block]; exact Nat.ne_of_lt (Nat.lt_of_lt_of_le (by have := World.block_lt_of_cell? _ _ hw344_0; first | rwa [add_block] at this | exact this) GW356.out)) | (show (Addr.add _ _).block ≠ _; rw [add_block]; exact Nat.ne_of_lt (Nat.lt_of_lt_of_le (by have := World.block_lt_of_cell? _ _ hw344_0; first | rwa [add_block] at this | exact this) GW356.out)) | (dsimp only; exact Nat.ne_of_lt (Nat.lt_of_lt_of_le (by have := World.block_lt_of_cell? _ _ hw344_0; first | rwa [add_block] at this | exact this) GW356.out))) _).trans (((cell_far (p := ⟨gb356, _, none⟩) (by first | exact Nat.ne_of_lt (Nat.lt_of_lt_of_le (by have := World.block_lt_of_cell? _ _ hw344_0; first | rwa [add_block] at this | exact this) GW356.out) | (rw [add_block]; exact Nat.ne_of_lt (Nat.lt_of_lt_of_le (by have := World.block_lt_of_cell? _ _ hw344_0; first | rwa [add_block] at this | exact this) GW356.out)) | (show (Addr.add _ _).block ≠ _; rw [add_block]; exact Nat.ne_of_lt (Nat.lt_of_lt_of_le (by have := World.block_lt_of_cell? _ _ hw344_0; first | rwa [add_block] at this | exact this) GW356.out)) | (dsimp only; exact Nat.ne_of_lt (Nat.lt_of_lt_of_le (by have := World.block_lt_of_cell? _ _ hw344_0; first | rwa [add_block] at this | exact this) GW356.out))) _).trans (((cell_far (p := ⟨gb356, _, none⟩) (by first | exact Nat.ne_of_lt (Nat.lt_of_lt_of_le (by have := World.block_lt_of_cell? _ _ hw344_0; first | rwa [add_block] at this | exact this) GW356.out) | (rw [add_block]; exact Nat.ne_of_lt (Nat.lt_of_lt_of_le (by have := World.block_lt_of_cell? _ _ hw344_0; first | rwa [add_block] at this | exact this) GW356.out)) | (show (Addr.add _ _).block ≠ _; rw [add_block]; exact Nat.ne_of_lt (Nat.lt_of_lt_of_le (by have := World.block_lt_of_cell? _ _ hw344_0; first | rwa [add_block] at this | exact this) GW356.out)) | (dsimp only; exact Nat.ne_of_lt (Nat.lt_of_lt_of_le (by have := World.block_lt_of_cell? _ _ hw344_0; first | rwa [add_block] at this | exact this) GW356.out))) _).trans (((cell_far (p := ⟨gb356, _, none⟩) (by first | exact Nat.ne_of_lt (Nat.lt_of_lt_of_le (by have := World.block_lt_of_cell? _ _ hw344_0; first | rwa [add_block] at this | exact this) GW356.out) | (rw [add_block]; exact Nat.ne_of_lt (Nat.lt_of_lt_of_le (by have := World.block_lt_of_cell? _ _ hw344_0; first | rwa [add_block] at this | exact this) GW356.out)) | (show (Addr.add _ _).block ≠ _; rw [add_block]; exact Nat.ne_of_lt (Nat.lt_of_lt_of_le (by have := World.block_lt_of_cell? _ _ hw344_0; first | rwa [add_block] at this | exact this) GW356.out)) | (dsimp only; exact Nat.ne_of_lt (Nat.lt_of_lt_of_le (by have := World.block_lt_of_cell? _ _ hw344_0; first | rwa [add_block] at this | exact this) GW356.out))) _).trans (hHeld.2.2.2.2.1)))))))), ((cell_far (p := ⟨gb356, _, none⟩) (by first | exact Nat.ne_of_lt (Nat.lt_of_lt_of_le (by have := World.block_lt_of_cell? _ _ hw344_1; first | rwa [add_block] at this | exact this) GW356.out) | (rw [add_block]; exact Nat.ne_of_lt (Nat.lt_of_lt_of_le (by have := World.block_lt_of_cell? _ _ hw344_1; first | rwa [add_block] at this | exact this) GW356.out)) | (show (Addr.add _ _).block ≠ _; rw [add_block]; exact Nat.ne_of_lt (Nat.lt_of_lt_of_le (by have := World.block_lt_of_cell? _ _ hw344_1; first | rwa [add_block] at this | exact this) GW356.out)) | (dsimp only; exact Nat.ne_of_lt (Nat.lt_of_lt_of_le (by have := World.block_lt_of_cell? _ _ hw344_1; first | rwa [add_block] at this | exact this) GW356.out))) _).trans (((cell_far (p := ⟨gb356, _, none⟩) (by first | exact Nat.ne_of_lt (Nat.lt_of_lt_of_le (by have := World.block_lt_of_cell? _ _ hw344_1; first | rwa [add_block] at this | exact this) GW356.out) | (rw [add_block]; exact Nat.ne_of_lt (Nat.lt_of_lt_of_le (by have := World.block_lt_of_cell? _ _ hw344_1; first | rwa [add_block] at this | exact this) GW356.out)) | (show (Addr.add _ _).block ≠ _; rw [add_block]; exact Nat.ne_of_lt (Nat.lt_of_lt_of_le (by have := World.block_lt_of_cell? _ _ hw344_1; first | rwa [add_block] at this | exact this) GW356.out)) | (dsimp only; exact Nat.ne_of_lt (Nat.lt_of_lt_of_le (by have := World.block_lt_of_cell? _ _ hw344_1; first | rwa [add_block] at this | exact this) GW356.out))) _).trans (((cell_far (p := ⟨gb356, _, none⟩) (by first | exact Nat.ne_of_lt (Nat.lt_of_lt_of_le (by have := World.block_lt_of_cell? _ _ hw344_1; first | rwa [add_block] at this | exact this) GW356.out) | (rw [add_block]; exact Nat.ne_of_lt (Nat.lt_of_lt_of_le (by have := World.block_lt_of_cell? _ _ hw344_1; first | rwa [add_block] at this | exact this) GW356.out)) | (show (Addr.add _ _).block ≠ _; rw [add_block]; exact Nat.ne_of_lt (Nat.lt_of_lt_of_le (by have := World.block_lt_of_cell? _ _ hw344_1; first | rwa [add_block] at this | exact this) GW356.out)) | (dsimp only; exact Nat.ne_of_lt (Nat.lt_of_lt_of_le (by have := World.block_lt_of_cell? _ _ hw344_1; first | rwa [add_block] at this | exact this) GW356.out))) _).trans (((cell_far (p := ⟨gb356, _, none⟩) (by first | exact Nat.ne_of_lt (Nat.lt_of_lt_of_le (by have := World.block_lt_of_cell? _ _ hw344_1; first | rwa [add_block] at this | exact this) GW356.out) | (rw [add_block]; exact Nat.ne_of_lt (Nat.lt_of_lt_of_le (by have := World.block_lt_of_cell? _ _ hw344_1; first | rwa [add_block] at this | exact this) GW356.out)) | (show (Addr.add _ _).block ≠ _; rw [add_block]; exact Nat.ne_of_lt (Nat.lt_of_lt_of_le (by have := World.block_lt_of_cell? _ _ hw344_1; first | rwa [add_block] at this | exact this) GW356.out)) | (dsimp only; exact Nat.ne_of_lt (Nat.lt_of_lt_of_le (by have := World.block_lt_of_cell? _ _ hw344_1; first | rwa [add_block] at this | exact this) GW356.out))) _).trans (hHeld.2.2.2.2.2.1)))))))), ((cell_far (p := ⟨gb356, _, none⟩) (by first | exact Nat.ne_of_lt (Nat.lt_of_lt_of_le (by have := World.block_lt_of_cell? _ _ hw344_2; first | rwa [add_block] at this | exact this) GW356.out) | (rw [add_block]; exact Nat.ne_of_lt (Nat.lt_of_lt_of_le (by have := World.block_lt_of_cell? _ _ hw344_2; first | rwa [add_block] at this | exact this) GW356.out)) | (show (Addr.add _ _).block ≠ _; rw [add_block]; exact Nat.ne_of_lt (Nat.lt_of_lt_of_le (by have := World.block_lt_of_cell? _ _ hw344_2; first | rwa [add_block] at this | exact this) GW356.out)) | (dsimp only; exact Nat.ne_of_lt (Nat.lt_of_lt_of_le (by have := World.block_lt_of_cell? _ _ hw344_2; first | rwa [add_block] at this | exact this) GW356.out))) _).trans (((cell_far (p := ⟨gb356, _, none⟩) (by first | exact Nat.ne_of_lt (Nat.lt_of_lt_of_le (by have := World.block_lt_of_cell? _ _ hw344_2; first | rwa [add_block] at this | exact this) GW356.out) | (rw [add_block]; exact Nat.ne_of_lt (Nat.lt_of_lt_of_le (by have := World.block_lt_of_cell? _ _ hw344_2; first | rwa [add_block] at this | exact this) GW356.out)) | (show (Addr.add _ _).block ≠ _; rw [add_block]; exact Nat.ne_of_lt (Nat.lt_of_lt_of_le (by have := World.block_lt_of_cell? _ _ hw344_2; first | rwa [add_block] at this | exact this) GW356.out)) | (dsimp only; exact Nat.ne_of_lt (Nat.lt_of_lt_of_le (by have := World.block_lt_of_cell? _ _ hw344_2; first | rwa [add_block] at this | exact this) GW356.out))) _).trans (((cell_far (p := ⟨gb356, _, none⟩) (by first | exact Nat.ne_of_lt (Nat.lt_of_lt_of_le (by have := World.block_lt_of_cell? _ _ hw344_2; first | rwa [add_block] at this | exact this) GW356.out) | (rw [add_block]; exact Nat.ne_of_lt (Nat.lt_of_lt_of_le (by have := World.block_lt_of_cell? _ _ hw344_2; first | rwa [add_block] at this | exact this) GW356.out)) | (show (Addr.add _ _).block ≠ _; rw [add_block]; exact Nat.ne_of_lt (Nat.lt_of_lt_of_le (by have := World.block_lt_of_cell? _ _ hw344_2; first | rwa [add_block] at this | exact this) GW356.out)) | (dsimp only; exact Nat.ne_of_lt (Nat.lt_of_lt_of_le (by have := World.block_lt_of_cell? _ _ hw344_2; first | rwa [add_block] at this | exact this) GW356.out))) _).trans (((cell_far (p := ⟨gb356, _, none⟩) (by first | exact Nat.ne_of_lt (Nat.lt_of_lt_of_le (by have := World.block_lt_of_cell? _ _ hw344_2; first | rwa [add_block] at this | exact this) GW356.out) | (rw [add_block]; exact Nat.ne_of_lt (Nat.lt_of_lt_of_le (by have := World.block_lt_of_cell? _ _ hw344_2; first | rwa [add_block] at this | exact this) GW356.out)) | (show (Addr.add _ _).block ≠ _; rw [add_block]; exact Nat.ne_of_lt (Nat.lt_of_lt_of_le (by have := World.block_lt_of_cell? _ _ hw344_2; first | rwa [add_block] at this | exact this) GW356.out)) | (dsimp only; exact Nat.ne_of_lt (Nat.lt_of_lt_of_le (by have := World.block_lt_of_cell? _ _ hw344_2; first | rwa [add_block] at this | exact this) GW356.out))) _).trans (hHeld.2.2.2.2.2.2))))))))⟩ (fun hHeld => ?_)
                  clear hK K
                  refine pure_ (i := 12) (N := some 8) (v := ?_) (a' := ?_) #[true, true, true, true, true, true, true, true, true, true, true, true, true] rfl rfl (any_of HT_.out (by kernel_rfl)) (fun _ _ _ h => h) (Or.inl ⟨by rfl, ?_⟩) ?_ ?_
                  rotate_left
                  · intro w'
                    go_simp
                    with_reducible rfl
                  rotate_left
                  · simp only [Act.put, List.setIfInBounds_toArray, List.set_cons_zero, List.set_cons_succ, i64_w, i32_w]
                    rfl
                  refine done_ (done_of HT_.out (by kernel_rfl)) ?_
                  have hnb27 := NB356_341.out
                  have hnc27 := NB341_356.out
                  have hnb28 := NB356_336.out
                  have hnc28 := NB336_356.out
                  have hcz29_0 : w22.cell? ⟨gb356, 0, none⟩ = some (.int .i64 0) := (blk_cell BK356.out 0).trans rfl
                  have hcz29_1 : w22.cell? ⟨gb356, 1, none⟩ = some (.int .i64 0) := (blk_cell BK356.out 1).trans rfl
                  have hcz29_2 : w22.cell? ⟨gb356, 2, none⟩ = some (.int .i64 0) := (blk_cell BK356.out 2).trans rfl
                  have hcz29_3 : w22.cell? ⟨gb356, 3, none⟩ = some (.bool false) := (blk_cell BK356.out 3).trans rfl
                  have hfz29_0 := blk_frozen BK356.out 0
                  have hfz29_1 := blk_frozen BK356.out 1
                  have hfz29_2 := blk_frozen BK356.out 2
                  have hfz29_3 := blk_frozen BK356.out 3
                  have hnb30 := NB341_336.out
                  have hnc30 := NB336_341.out
                  have hcz31_0 : w22.cell? ⟨gb341, 0, none⟩ = some (.int .i64 x342000_1) := (blk_cell BK341.out 0).trans rfl
                  have hcz31_1 : w22.cell? ⟨gb341, 1, none⟩ = some (.int .i64 x342001_1) := (blk_cell BK341.out 1).trans rfl
                  have hcz31_2 : w22.cell? ⟨gb341, 2, none⟩ = some (.int .i64 x342002_1) := (blk_cell BK341.out 2).trans rfl
                  have hcz31_3 : w22.cell? ⟨gb341, 3, none⟩ = some (.bool x342003_1) := (blk_cell BK341.out 3).trans rfl
                  have hfz31_0 := blk_frozen BK341.out 0
                  have hfz31_1 := blk_frozen BK341.out 1
                  have hfz31_2 := blk_frozen BK341.out 2
                  have hfz31_3 := blk_frozen BK341.out 3
                  try go_wp2
                  have n0_ : Aside0 (((((((((w22.setCell ⟨gb356, 0, none⟩ (.int .i64 t345)).setCell ⟨gb356, 1, none⟩ (.int .i64 t346)).setCell ⟨gb356, 2, none⟩ (.int .i64 t347)).setCell ⟨gb356, 3, none⟩ (.bool t348)).setCell ⟨gb341, 0, none⟩ (.int .i64 t345)).setCell ⟨gb341, 1, none⟩ (.int .i64 t346)).setCell ⟨gb341, 2, none⟩ (.int .i64 t347)).setCell ⟨gb341, 3, none⟩ (.bool t348)).heap[gb341]? = some (.cells #[.int .i64 t345, .int .i64 t346, .int .i64 t347, .bool t348] 55 (0, 0))) := ⟨by (with_reducible repeat (first | refine blk_drewN ?_ _ | refine blk_drew ?_ | refine blk_alloc ?_ _)); refine blk_put (cs := #[.int .i64 t345, .int .i64 t346, .int .i64 t347, .bool x342003_1]) ?_ 3 _ rfl; (with_reducible repeat (first | refine blk_drewN ?_ _ | refine blk_drew ?_ | refine blk_alloc ?_ _)); refine blk_put (cs := #[.int .i64 t345, .int .i64 t346, .int .i64 x342002_1, .bool x342003_1]) ?_ 2 _ rfl; (with_reducible repeat (first | refine blk_drewN ?_ _ | refine blk_drew ?_ | refine blk_alloc ?_ _)); refine blk_put (cs := #[.int .i64 t345, .int .i64 x342001_1, .int .i64 x342002_1, .bool x342003_1]) ?_ 1 _ rfl; (with_reducible repeat (first | refine blk_drewN ?_ _ | refine blk_drew ?_ | refine blk_alloc ?_ _)); refine blk_put (cs := #[.int .i64 x342000_1, .int .i64 x342001_1, .int .i64 x342002_1, .bool x342003_1]) ?_ 0 _ rfl; (with_reducible repeat (first | refine blk_drewN ?_ _ | refine blk_drew ?_ | refine blk_alloc ?_ _)); refine blk_far ?_ NB341_356.out _; (with_reducible repeat (first | refine blk_drewN ?_ _ | refine blk_drew ?_ | refine blk_alloc ?_ _)); refine blk_far ?_ NB341_356.out _; (with_reducible repeat (first | refine blk_drewN ?_ _ | refine blk_drew ?_ | refine blk_alloc ?_ _)); refine blk_far ?_ NB341_356.out _; (with_reducible repeat (first | refine blk_drewN ?_ _ | refine blk_drew ?_ | refine blk_alloc ?_ _)); refine blk_far ?_ NB341_356.out _; (with_reducible repeat (first | refine blk_drewN ?_ _ | refine blk_drew ?_ | refine blk_alloc ?_ _)); exact BK341.out⟩
                  have n1_ : Aside0 (((((((((w22.setCell ⟨gb356, 0, none⟩ (.int .i64 t345)).setCell ⟨gb356, 1, none⟩ (.int .i64 t346)).setCell ⟨gb356, 2, none⟩ (.int .i64 t347)).setCell ⟨gb356, 3, none⟩ (.bool t348)).setCell ⟨gb341, 0, none⟩ (.int .i64 t345)).setCell ⟨gb341, 1, none⟩ (.int .i64 t346)).setCell ⟨gb341, 2, none⟩ (.int .i64 t347)).setCell ⟨gb341, 3, none⟩ (.bool t348)).heap[gb356]? = some (.cells #[.int .i64 t345, .int .i64 t346, .int .i64 t347, .bool t348] 55 (0, 0))) := ⟨by (with_reducible repeat (first | refine blk_drewN ?_ _ | refine blk_drew ?_ | refine blk_alloc ?_ _)); refine blk_far ?_ NB356_341.out _; (with_reducible repeat (first | refine blk_drewN ?_ _ | refine blk_drew ?_ | refine blk_alloc ?_ _)); refine blk_far ?_ NB356_341.out _; (with_reducible repeat (first | refine blk_drewN ?_ _ | refine blk_drew ?_ | refine blk_alloc ?_ _)); refine blk_far ?_ NB356_341.out _; (with_reducible repeat (first | refine blk_drewN ?_ _ | refine blk_drew ?_ | refine blk_alloc ?_ _)); refine blk_far ?_ NB356_341.out _; (with_reducible repeat (first | refine blk_drewN ?_ _ | refine blk_drew ?_ | refine blk_alloc ?_ _)); refine blk_put (cs := #[.int .i64 t345, .int .i64 t346, .int .i64 t347, .bool false]) ?_ 3 _ rfl; (with_reducible repeat (first | refine blk_drewN ?_ _ | refine blk_drew ?_ | refine blk_alloc ?_ _)); refine blk_put (cs := #[.int .i64 t345, .int .i64 t346, .int .i64 0, .bool false]) ?_ 2 _ rfl; (with_reducible repeat (first | refine blk_drewN ?_ _ | refine blk_drew ?_ | refine blk_alloc ?_ _)); refine blk_put (cs := #[.int .i64 t345, .int .i64 0, .int .i64 0, .bool false]) ?_ 1 _ rfl; (with_reducible repeat (first | refine blk_drewN ?_ _ | refine blk_drew ?_ | refine blk_alloc ?_ _)); refine blk_put (cs := #[.int .i64 0, .int .i64 0, .int .i64 0, .bool false]) ?_ 0 _ rfl; (with_reducible repeat (first | refine blk_drewN ?_ _ | refine blk_drew ?_ | refine blk_alloc ?_ _)); exact BK356.out⟩
                  have n2_ : Aside0 (IsS64 w ((((((((w22.setCell ⟨gb356, 0, none⟩ (.int .i64 t345)).setCell ⟨gb356, 1, none⟩ (.int .i64 t346)).setCell ⟨gb356, 2, none⟩ (.int .i64 t347)).setCell ⟨gb356, 3, none⟩ (.bool t348)).setCell ⟨gb341, 0, none⟩ (.int .i64 t345)).setCell ⟨gb341, 1, none⟩ (.int .i64 t346)).setCell ⟨gb341, 2, none⟩ (.int .i64 t347)).setCell ⟨gb341, 3, none⟩ (.bool t348)) g336 t350 t351 t352 t353 t354 t355) := ⟨by repeat (first | (with_reducible first | exact HI336.out | apply IsS64.alloc | apply IsS64.drewN | apply IsS64.drew | apply IsS64.set_0 | apply IsS64.set_1 | apply IsS64.set_2 | apply IsS64.set_3 | apply IsS64.set_4 | apply IsS64.set_5 | refine IsS64.far ?_ NB336_341.out _ | refine IsS64.far ?_ NB336_356.out _) | exact HI336.out)⟩
                  have n3_ : Aside0 (Below w.heap.size w ((((((((w22.setCell ⟨gb356, 0, none⟩ (.int .i64 t345)).setCell ⟨gb356, 1, none⟩ (.int .i64 t346)).setCell ⟨gb356, 2, none⟩ (.int .i64 t347)).setCell ⟨gb356, 3, none⟩ (.bool t348)).setCell ⟨gb341, 0, none⟩ (.int .i64 t345)).setCell ⟨gb341, 1, none⟩ (.int .i64 t346)).setCell ⟨gb341, 2, none⟩ (.int .i64 t347)).setCell ⟨gb341, 3, none⟩ (.bool t348))) := ⟨by repeat (first | (with_reducible first | exact HB.out | apply below_alloc | apply pw_below_drewN | apply below_drew1 | refine below_set ?_ (IsS64.ge HI336.out) | refine below_set ?_ GE341.out | refine below_set ?_ GE356.out) | exact HB.out)⟩
                  (try clear BK341)
                  (try clear BK356)
                  (try clear HI336)
                  (try clear HB)
                  generalize ((((((((w22.setCell ⟨gb356, 0, none⟩ (.int .i64 t345)).setCell ⟨gb356, 1, none⟩ (.int .i64 t346)).setCell ⟨gb356, 2, none⟩ (.int .i64 t347)).setCell ⟨gb356, 3, none⟩ (.bool t348)).setCell ⟨gb341, 0, none⟩ (.int .i64 t345)).setCell ⟨gb341, 1, none⟩ (.int .i64 t346)).setCell ⟨gb341, 2, none⟩ (.int .i64 t347)).setCell ⟨gb341, 3, none⟩ (.bool t348)) = w32 at n0_ n1_ n2_ n3_ ⊢
                  have BK341 := n0_
                  have BK356 := n1_
                  have HI336 := n2_
                  have HB := n3_
                  clear n0_ n1_ n2_ n3_
                  have n0_ := Aside0.mk (blk_drew BK341.out)
                  have n1_ := Aside0.mk (blk_drew BK356.out)
                  have n2_ := Aside0.mk (IsS64.drew HI336.out)
                  have n3_ := Aside0.mk (below_drew1 HB.out)
                  clear BK341
                  clear BK356
                  clear HI336
                  clear HB
                  have BK341 := n0_
                  have BK356 := n1_
                  have HI336 := n2_
                  have HB := n3_
                  clear n0_ n1_ n2_ n3_
                  refine start_ (n := 9) (S := fun w' => w'.cell? ⟨gb341, 0, none⟩ = some (.int .i64 t345) ∧ w'.cell? ⟨gb341, 1, none⟩ = some (.int .i64 t346) ∧ w'.cell? ⟨gb341, 2, none⟩ = some (.int .i64 t347) ∧ w'.cell? ⟨gb341, 3, none⟩ = some (.bool t348)) (ds := []) #[false, false, false, false, false, false, false, false, false] (by kernel_rfl) rfl rfl ⟨(blk_cell BK341.out 0).trans rfl, (blk_cell BK341.out 1).trans rfl, (blk_cell BK341.out 2).trans rfl, (blk_cell BK341.out 3).trans rfl⟩ (fun hHeld => ?_); refine with_tabW styluslaw10_FusePlays.tab16 styluslaw10_FusePlays.bits16 (fun HT_ HW_ => ?_)
                  generalize w32.drew = w33 at BK341 BK356 HI336 HB hHeld ⊢
                  refine pure_ (i := 0) (N := some 48) (v := ?_) (a' := ?_) #[true, false, false, false, false, false, false, false, false] rfl rfl (any_of HT_.out (by kernel_rfl)) (fun _ _ _ h => h) (Or.inl ⟨by rfl, ?_⟩) ?_ ?_
                  rotate_left
                  · intro w'
                    go_simp
                    with_reducible rfl
                  rotate_left
                  · simp only [Act.put, List.setIfInBounds_toArray, List.set_cons_zero, List.set_cons_succ, i64_w, i32_w]
                    rfl
                  refine pure_ (i := 1) (N := some 49) (v := ?_) (a' := ?_) #[true, true, false, false, false, false, false, false, false] rfl rfl (any_of HT_.out (by kernel_rfl)) (fun _ _ _ h => h) (Or.inl ⟨by rfl, ?_⟩) ?_ ?_
                  rotate_left
                  · intro w'
                    go_simp
                    with_reducible rfl
                  rotate_left
                  · simp only [Act.put, List.setIfInBounds_toArray, List.set_cons_zero, List.set_cons_succ, i64_w, i32_w]
                    rfl
                  refine pure_ (i := 2) (N := some 50) (v := ?_) (a' := ?_) #[true, true, true, false, false, false, false, false, false] rfl rfl (any_of HT_.out (by kernel_rfl)) (fun _ _ _ h => h) (Or.inl ⟨by rfl, ?_⟩) ?_ ?_
                  rotate_left
                  · intro w'
                    go_simp
                    with_reducible rfl
                  rotate_left
                  · simp only [Act.put, List.setIfInBounds_toArray, List.set_cons_zero, List.set_cons_succ, i64_w, i32_w]
                    rfl
                  refine pure_ (i := 3) (N := some 51) (v := ?_) (a' := ?_) #[true, true, true, true, false, false, false, false, false] rfl rfl (any_of HT_.out (by kernel_rfl)) (fun _ _ _ h => h) (Or.inl ⟨by rfl, ?_⟩) ?_ ?_
                  rotate_left
                  · intro w'
                    go_simp
                    with_reducible rfl
                  rotate_left
                  · simp only [Act.put, List.setIfInBounds_toArray, List.set_cons_zero, List.set_cons_succ, i64_w, i32_w]
                    rfl
                  refine pure_ (i := 5) (N := some 53) (v := ?_) (a' := ?_) #[true, true, true, true, false, true, false, false, false] rfl rfl (any_of HT_.out (by kernel_rfl)) (fun _ _ _ h => h) (Or.inl ⟨by rfl, ?_⟩) ?_ ?_
                  rotate_left
                  · intro w'
                    go_simp
                    with_reducible rfl
                  rotate_left
                  · simp only [Act.put, List.setIfInBounds_toArray, List.set_cons_zero, List.set_cons_succ, i64_w, i32_w]
                    rfl
                  refine take_ (i := 6) (N := some 54) (v := ?_) (a' := ?_) #[true, true, true, true, false, true, true, false, false] rfl rfl (take_ofW HT_.out HW_.out (by kernel_rfl)) (fun _ _ _ h => h) (Or.inl ⟨by rfl, ?_⟩) hHeld ?_ ?_
                  rotate_left
                  · rintro w' ⟨s0, s1, s2, s3⟩
                    go_simp
                    with_reducible rfl
                  rotate_left
                  · simp only [Act.put, List.setIfInBounds_toArray, List.set_cons_zero, List.set_cons_succ, i64_w, i32_w]
                    rfl
                  refine one_ (i := 4) (N := some 52) #[true, true, true, true, true, true, true, false, false] rfl rfl (one_of HT_.out (by kernel_rfl)) (by decide) (fun K hK => ?_)
                  refine goes_ Try.func28 (by kernel_rfl) rfl #[.pointer (some ⟨g336, 0, none⟩)] (by rfl) rfl rfl (by (try simp only [List.map_toArray, List.map_cons, List.map_nil]); first | done | rfl | (simp only [List.length_drop, List.length_take]; rfl)) ?_
                  with_reducible refine (fuse_Fuse_Up.calls g336 t350 t351 t352 t353 t354 t355 t357 t358 t359 t360 t361 t362 t363 w _ ?side1 ?side2 A17.out).mono ?_
                  (case side1 => repeat (first | (with_reducible first | exact HI336.out | apply IsS64.alloc | apply IsS64.drewN | apply IsS64.drew | apply IsS64.set_0 | apply IsS64.set_1 | apply IsS64.set_2 | apply IsS64.set_3 | apply IsS64.set_4 | apply IsS64.set_5 | refine IsS64.far ?_ NB336_341.out _ | refine IsS64.far ?_ NB336_356.out _) | exact HI336.out))
                  (case side2 => repeat (first | (with_reducible first | exact HB.out | apply below_alloc | apply pw_below_drewN | apply below_drew1 | refine below_set ?_ (IsS64.ge HI336.out) | refine below_set ?_ GE341.out | refine below_set ?_ GE356.out) | exact HB.out))
                  rintro e w34 ⟨rfl, hi, hb, hk⟩
                  refine ⟨_, rfl, ?_⟩
                  have n0_ := Aside0.mk (KeepBut.blk hk (g' := gb341) (o := .cells #[.int .i64 t345, .int .i64 t346, .int .i64 t347, .bool t348] 55 (0, 0)) (by (with_reducible repeat (first | refine blk_drewN ?_ _ | refine blk_drew ?_ | refine blk_alloc ?_ _)); exact BK341.out) NB341_336.out (by simp))
                  have n1_ := Aside0.mk (KeepBut.blk hk (g' := gb356) (o := .cells #[.int .i64 t345, .int .i64 t346, .int .i64 t347, .bool t348] 55 (0, 0)) (by (with_reducible repeat (first | refine blk_drewN ?_ _ | refine blk_drew ?_ | refine blk_alloc ?_ _)); exact BK356.out) NB356_336.out (by simp))
                  have n2_ := Aside0.mk (hb)
                  have n3_ := Aside0.mk (hi)
                  clear BK341
                  clear BK356
                  clear HB
                  clear HI336
                  have BK341 := n0_
                  have BK356 := n1_
                  have HB := n2_
                  have HI336 := n3_
                  clear n0_ n1_ n2_ n3_
                  (try clear hb)
                  (try clear hb2)
                  (try clear hk)
                  (try clear hi)
                  refine hK.out _ _ ⟨(blk_cell BK341.out 0).trans rfl, (blk_cell BK341.out 1).trans rfl, (blk_cell BK341.out 2).trans rfl, (blk_cell BK341.out 3).trans rfl⟩ (fun hHeld => ?_)
                  clear hK K
                  refine norm_ (a' := ?_) ?_ ?_
                  rotate_left
                  · show Act.put _ (some 52) _ = _
                    simp only [Act.put, List.setIfInBounds_toArray, List.set_cons_zero, List.set_cons_succ, i64_w, i32_w]
                    rfl
                  refine pure_ (i := 7) (N := some 55) (v := ?_) (a' := ?_) #[true, true, true, true, true, true, true, true, false] rfl rfl (any_of HT_.out (by kernel_rfl)) (fun _ _ _ h => h) (Or.inl ⟨by rfl, ?_⟩) ?_ ?_
                  rotate_left
                  · intro w'
                    go_simp
                    with_reducible rfl
                  rotate_left
                  · simp only [Act.put, List.setIfInBounds_toArray, List.set_cons_zero, List.set_cons_succ, i64_w, i32_w]
                    rfl
                  refine pure_ (i := 8) (N := some 56) (v := ?_) (a' := ?_) #[true, true, true, true, true, true, true, true, true] rfl rfl (any_of HT_.out (by kernel_rfl)) (fun _ _ _ h => h) (Or.inl ⟨by rfl, ?_⟩) ?_ ?_
                  rotate_left
                  · intro w'
                    go_simp
                    with_reducible rfl
                  rotate_left
                  · simp only [Act.put, List.setIfInBounds_toArray, List.set_cons_zero, List.set_cons_succ, i64_w, i32_w]
                    rfl
                  refine done_ (done_of HT_.out (by kernel_rfl)) ?_
                  try go_wp2
                  go_ret
                  exact ⟨by first | rfl | (simp [errW_none, errW_some] <;> rfl) | (simp [*, errW_none, errW_some] <;> rfl), by repeat (first | (with_reducible first | exact HB.out | apply below_alloc | apply pw_below_drewN | apply below_drew1 | refine below_set ?_ (IsS64.ge HI336.out) | refine below_set ?_ GE341.out | refine below_set ?_ GE356.out) | exact HB.out)⟩
                · rw [if_neg c18] at H
                  have c18b0 : (t357 == t348) = false := by simpa using c18
                  (try (have c18b1 : decide (t357 = t348) = false := by simpa using c18))
                  (try (have c18b2 : (t357 == t348) = false := by simpa using c18))
                  (try (have c18b3 : ¬ (t357 = t348) := by simpa using c18))
                  clear c18
                  have H' := Aside0.mk H
                  clear H
                  have p343 : 0 ≤ (x5_1 : Int) := of_decide_eq_true (by first | (with_reducible assumption) | assumption)
                  have q343 : x5_1 < (l0.length : Int) := of_decide_eq_true (by first | (with_reducible assumption) | assumption)
                  obtain ⟨ad343, e343, hx343_0, hx343_1, hx343_2⟩ := at_T58 HR0.out x5_1 p343 q343
                  cases e343
                  replace hx343_0 := (HB.out.cell (World.block_lt_of_cell? w _ hx343_0)).trans hx343_0
                  replace hx343_1 := (HB.out.cell (World.block_lt_of_cell? w _ hx343_1)).trans hx343_1
                  replace hx343_2 := (HB.out.cell (World.block_lt_of_cell? w _ hx343_2)).trans hx343_2
                  replace p343 := eq_true p343
                  replace q343 := eq_true q343
                  try go_wp2
                  have n0_ := Aside0.mk (blk_drew BK341.out)
                  have n1_ := Aside0.mk (IsS64.drew HI336.out)
                  have n2_ := Aside0.mk (below_drew1 HB.out)
                  clear BK341
                  clear HI336
                  clear HB
                  have BK341 := n0_
                  have HI336 := n1_
                  have HB := n2_
                  clear n0_ n1_ n2_
                  have p344 : 0 ≤ (x5_1 : Int) := of_decide_eq_true (by first | (with_reducible assumption) | assumption)
                  have q344 : x5_1 < (l0.length : Int) := of_decide_eq_true (by first | (with_reducible assumption) | assumption)
                  obtain ⟨ad344, e344, hx344_0, hx344_1, hx344_2⟩ := at_T58 HR0.out x5_1 p344 q344
                  have hw344_2 := hx344_2
                  have hw344_1 := hx344_1
                  have hw344_0 := hx344_0
                  obtain rfl : ad343 = ad344 := (by injection e344)
                  replace hx344_0 := (HB.out.cell (World.block_lt_of_cell? w _ hx344_0)).trans hx344_0
                  replace hx344_1 := (HB.out.cell (World.block_lt_of_cell? w _ hx344_1)).trans hx344_1
                  replace hx344_2 := (HB.out.cell (World.block_lt_of_cell? w _ hx344_2)).trans hx344_2
                  replace p344 := eq_true p344
                  replace q344 := eq_true q344
                  refine start_ (n := 13) (S := fun w' => w'.cell? ⟨gb341, 0, none⟩ = some (.int .i64 x342000_1) ∧ w'.cell? ⟨gb341, 1, none⟩ = some (.int .i64 x342001_1) ∧ w'.cell? ⟨gb341, 2, none⟩ = some (.int .i64 x342002_1) ∧ w'.cell? ⟨gb341, 3, none⟩ = some (.bool x342003_1) ∧ w'.cell? (ad343.add ((x5_1).toNat * 3)) = some (.int .i64 ((rd_T58 l0 x5_1).f0)) ∧ w'.cell? ⟨(ad343.add ((x5_1).toNat * 3)).block, (ad343.add ((x5_1).toNat * 3)).off + 1, none⟩ = some (.int .i64 ((rd_T58 l0 x5_1).f1.f0)) ∧ w'.cell? ⟨(ad343.add ((x5_1).toNat * 3)).block, (ad343.add ((x5_1).toNat * 3)).off + 2, none⟩ = some (.int .i64 ((rd_T58 l0 x5_1).f1.f1))) (ds := []) #[false, false, false, false, false, false, false, false, false, false, false, false, false] (by kernel_rfl) rfl rfl ⟨(blk_cell BK341.out 0).trans rfl, (blk_cell BK341.out 1).trans rfl, (blk_cell BK341.out 2).trans rfl, (blk_cell BK341.out 3).trans rfl, ((HB.out.cell (World.block_lt_of_cell? w _ hw344_0)).trans hw344_0), ((HB.out.cell (World.block_lt_of_cell? w _ hw344_1)).trans hw344_1), ((HB.out.cell (World.block_lt_of_cell? w _ hw344_2)).trans hw344_2)⟩ (fun hHeld => ?_); refine with_tabW styluslaw10_FusePlays.tab14 styluslaw10_FusePlays.bits14 (fun HT_ HW_ => ?_)
                  generalize wr.drew = w35 at BK341 HI336 HB hx344_0 hx344_1 hx344_2 hHeld ⊢
                  refine pure_ (i := 0) (N := some 38) (v := ?_) (a' := ?_) #[true, false, false, false, false, false, false, false, false, false, false, false, false] rfl rfl (any_of HT_.out (by kernel_rfl)) (fun _ _ _ h => h) (Or.inl ⟨by rfl, ?_⟩) ?_ ?_
                  rotate_left
                  · intro w'
                    go_simp
                    with_reducible rfl
                  rotate_left
                  · simp only [Act.put, List.setIfInBounds_toArray, List.set_cons_zero, List.set_cons_succ, i64_w, i32_w]
                    rfl
                  refine pure_ (i := 2) (N := some 40) (v := ?_) (a' := ?_) #[true, false, true, false, false, false, false, false, false, false, false, false, false] rfl rfl (any_of HT_.out (by kernel_rfl)) (fun _ _ _ h => h) (Or.inl ⟨by rfl, ?_⟩) ?_ ?_
                  rotate_left
                  · intro w'
                    go_simp
                    with_reducible rfl
                  rotate_left
                  · simp only [Act.put, List.setIfInBounds_toArray, List.set_cons_zero, List.set_cons_succ, i64_w, i32_w]
                    rfl
                  refine pure_ (i := 3) (N := some 41) (v := ?_) (a' := ?_) #[true, false, true, true, false, false, false, false, false, false, false, false, false] rfl rfl (any_of HT_.out (by kernel_rfl)) (fun _ _ _ h => h) (Or.inl ⟨by rfl, ?_⟩) ?_ ?_
                  rotate_left
                  · intro w'
                    go_simp
                    with_reducible rfl
                  rotate_left
                  · simp only [Act.put, List.setIfInBounds_toArray, List.set_cons_zero, List.set_cons_succ, i64_w, i32_w]
                    rfl
                  refine pure_ (i := 4) (N := some 42) (v := ?_) (a' := ?_) #[true, false, true, true, true, false, false, false, false, false, false, false, false] rfl rfl (any_of HT_.out (by kernel_rfl)) (fun _ _ _ h => h) (Or.inl ⟨by rfl, ?_⟩) ?_ ?_
                  rotate_left
                  · intro w'
                    go_simp
                    with_reducible rfl
                  rotate_left
                  · simp only [Act.put, List.setIfInBounds_toArray, List.set_cons_zero, List.set_cons_succ, i64_w, i32_w]
                    rfl
                  refine take_ (i := 1) (N := some 39) (v := ?_) (a' := ?_) #[true, true, true, true, true, false, false, false, false, false, false, false, false] rfl rfl (take_ofW HT_.out HW_.out (by kernel_rfl)) (fun _ _ _ h => h) (Or.inl ⟨by rfl, ?_⟩) hHeld ?_ ?_
                  rotate_left
                  · rintro w' ⟨s0, s1, s2, s3, s4, s5, s6⟩
                    go_simp
                    with_reducible rfl
                  rotate_left
                  · simp only [Act.put, List.setIfInBounds_toArray, List.set_cons_zero, List.set_cons_succ, i64_w, i32_w]
                    rfl
                  refine take_ (i := 5) (N := some 43) (v := ?_) (a' := ?_) #[true, true, true, true, true, true, false, false, false, false, false, false, false] rfl rfl (take_ofW HT_.out HW_.out (by kernel_rfl)) (fun _ _ _ h => h) (Or.inl ⟨by rfl, ?_⟩) hHeld ?_ ?_
                  rotate_left
                  · rintro w' ⟨s0, s1, s2, s3, s4, s5, s6⟩
                    go_simp
                    with_reducible rfl
                  rotate_left
                  · simp only [Act.put, List.setIfInBounds_toArray, List.set_cons_zero, List.set_cons_succ, i64_w, i32_w]
                    rfl
                  refine join_ (σ := Nat) 2 #[true, true, true, true, true, true, true, true, true, true, true, false, false] (fun s_ => [(44, .tuple #[.agg #[.int .i64 t345, .int .i64 t346, .int .i64 t347, .bool t348], .bool true]), (7, .pointer (some ⟨s_, 0, none⟩)), (37, .tuple #[.agg #[.int .i64 t345, .int .i64 t346, .int .i64 t347, .bool t348], .bool true]), (45, .agg #[.int .i64 t345, .int .i64 t346, .int .i64 t347, .bool t348]), (46, .bool true)]) (fun s_ w' => (w'.cell? ⟨gb341, 0, none⟩ = some (.int .i64 x342000_1) ∧ w'.cell? ⟨gb341, 1, none⟩ = some (.int .i64 x342001_1) ∧ w'.cell? ⟨gb341, 2, none⟩ = some (.int .i64 x342002_1) ∧ w'.cell? ⟨gb341, 3, none⟩ = some (.bool x342003_1) ∧ w'.cell? (ad343.add ((x5_1).toNat * 3)) = some (.int .i64 ((rd_T58 l0 x5_1).f0)) ∧ w'.cell? ⟨(ad343.add ((x5_1).toNat * 3)).block, (ad343.add ((x5_1).toNat * 3)).off + 1, none⟩ = some (.int .i64 ((rd_T58 l0 x5_1).f1.f0)) ∧ w'.cell? ⟨(ad343.add ((x5_1).toNat * 3)).block, (ad343.add ((x5_1).toNat * 3)).off + 2, none⟩ = some (.int .i64 ((rd_T58 l0 x5_1).f1.f1))) ∧ (w'.heap[gb341]? = some (.cells #[.int .i64 x342000_1, .int .i64 x342001_1, .int .i64 x342002_1, .bool x342003_1] 55 (0, 0))) ∧ (w'.heap[s_]? = some (.cells #[.int .i64 0, .int .i64 0, .int .i64 0, .bool false] 55 (0, 0))) ∧ (w.heap.size ≤ s_) ∧ (w.heap.size ≤ s_) ∧ (g336 ≠ s_) ∧ (s_ ≠ g336) ∧ (gb341 ≠ s_) ∧ (s_ ≠ gb341) ∧ (IsS64 w w' g336 t350 t351 t352 t353 t354 t355) ∧ (Below w.heap.size w w')) ?_ ?_
                  rotate_left
                  · intro hCont
                    refine two_ (i := 6) (j := 10) (Ni := some 44) (Nj := some 7) #[true, true, true, true, true, true, true, false, false, false, false, false, false] #[true, true, true, true, true, true, false, false, false, false, true, false, false] rfl rfl rfl rfl (two_of HT_.out (by kernel_rfl)) (by decide) (by decide) (fun K hK => ?_) (fun K hK => ?_)
                    · skip
                      refine goes_ Try.func35 (by kernel_rfl) rfl #[.pointer (some ⟨g336, 0, none⟩), .agg #[.int .i64 x342000_1, .int .i64 x342001_1, .int .i64 x342002_1, .bool x342003_1], .agg #[.int .i64 ((rd_T58 l0 x5_1).f0), .int .i64 ((rd_T58 l0 x5_1).f1.f0), .int .i64 ((rd_T58 l0 x5_1).f1.f1)]] (by rfl) rfl rfl (by (try simp only [List.map_toArray, List.map_cons, List.map_nil]); first | done | rfl | (simp only [List.length_drop, List.length_take]; rfl)) ?_
                      with_reducible refine (styluslaw10_step.calls g336 x337000_1 x337001_1 x337002_1 x337003_1 x337004_1 x337005_1 x342000_1 x342001_1 x342002_1 x342003_1 ((rd_T58 l0 x5_1).f0) ((rd_T58 l0 x5_1).f1.f0) ((rd_T58 l0 x5_1).f1.f1) t345 t346 t347 t348 true t350 t351 t352 t353 t354 t355 w _ ?side1 ?side2 A15.out).mono ?_
                      (case side1 => repeat (first | (with_reducible first | exact HI336.out | apply IsS64.alloc | apply IsS64.drewN | apply IsS64.drew | apply IsS64.set_0 | apply IsS64.set_1 | apply IsS64.set_2 | apply IsS64.set_3 | apply IsS64.set_4 | apply IsS64.set_5 | refine IsS64.far ?_ NB336_341.out _) | exact HI336.out))
                      (case side2 => repeat (first | (with_reducible first | exact HB.out | apply below_alloc | apply pw_below_drewN | apply below_drew1 | refine below_set ?_ (IsS64.ge HI336.out) | refine below_set ?_ GE341.out) | exact HB.out))
                      rintro e w36 ⟨rfl, hi, hb, hk⟩
                      refine ⟨_, rfl, ?_⟩
                      have n0_ := Aside0.mk (KeepBut.blk hk (g' := gb341) (o := .cells #[.int .i64 x342000_1, .int .i64 x342001_1, .int .i64 x342002_1, .bool x342003_1] 55 (0, 0)) (by (with_reducible repeat (first | refine blk_drewN ?_ _ | refine blk_drew ?_ | refine blk_alloc ?_ _)); exact BK341.out) NB341_336.out (by simp))
                      have n1_ := Aside0.mk (hb)
                      have n2_ := Aside0.mk (hi)
                      clear BK341
                      clear HB
                      clear HI336
                      have BK341 := n0_
                      have HB := n1_
                      have HI336 := n2_
                      clear n0_ n1_ n2_
                      (try clear hb)
                      (try clear hb2)
                      (try clear hk)
                      (try clear hi)
                      refine hK.out _ _ ⟨(blk_cell BK341.out 0).trans rfl, (blk_cell BK341.out 1).trans rfl, (blk_cell BK341.out 2).trans rfl, (blk_cell BK341.out 3).trans rfl, ((HB.out.cell (World.block_lt_of_cell? w _ hw344_0)).trans hw344_0), ((HB.out.cell (World.block_lt_of_cell? w _ hw344_1)).trans hw344_1), ((HB.out.cell (World.block_lt_of_cell? w _ hw344_2)).trans hw344_2)⟩ (fun hHeld => ?_)
                      clear hK K
                      refine norm_ (a' := ?_) ?_ ?_
                      rotate_left
                      · show Act.put _ (some 44) _ = _
                        simp only [Act.put, List.setIfInBounds_toArray, List.set_cons_zero, List.set_cons_succ, i64_w, i32_w]
                        rfl
                      refine pure_ (i := 7) (N := some 37) (v := ?_) (a' := ?_) #[true, true, true, true, true, true, true, true, false, false, false, false, false] rfl rfl (any_of HT_.out (by kernel_rfl)) (fun _ _ _ h => h) (Or.inl ⟨by rfl, ?_⟩) ?_ ?_
                      rotate_left
                      · intro w'
                        go_simp
                        with_reducible rfl
                      rotate_left
                      · simp only [Act.put, List.setIfInBounds_toArray, List.set_cons_zero, List.set_cons_succ, i64_w, i32_w]
                        rfl
                      refine pure_ (i := 8) (N := some 45) (v := ?_) (a' := ?_) #[true, true, true, true, true, true, true, true, true, false, false, false, false] rfl rfl (any_of HT_.out (by kernel_rfl)) (fun _ _ _ h => h) (Or.inl ⟨by rfl, ?_⟩) ?_ ?_
                      rotate_left
                      · intro w'
                        go_simp
                        with_reducible rfl
                      rotate_left
                      · simp only [Act.put, List.setIfInBounds_toArray, List.set_cons_zero, List.set_cons_succ, i64_w, i32_w]
                        rfl
                      refine pure_ (i := 9) (N := some 46) (v := ?_) (a' := ?_) #[true, true, true, true, true, true, true, true, true, true, false, false, false] rfl rfl (any_of HT_.out (by kernel_rfl)) (fun _ _ _ h => h) (Or.inl ⟨by rfl, ?_⟩) ?_ ?_
                      rotate_left
                      · intro w'
                        go_simp
                        with_reducible rfl
                      rotate_left
                      · simp only [Act.put, List.setIfInBounds_toArray, List.set_cons_zero, List.set_cons_succ, i64_w, i32_w]
                        rfl
                      refine one_ (i := 10) (N := some 7) #[true, true, true, true, true, true, true, true, true, true, true, false, false] rfl rfl (one_of HT_.out (by kernel_rfl)) (by decide) (fun K hK => ?_)
                      refine box_step ?hg (N := 7) ?hd (cs := #[.int .i64 0, .int .i64 0, .int .i64 0, .bool false]) (t := 55) ?hr ?_; (case hd => rfl); (case hg => rfl); (case hr => first | (go_simp; done) | (go_simp; rfl))
                      intro gb356 hg w37 hbox hb
                      have n0_ := Aside0.mk (blk_below (g := gb341) (o := .cells #[.int .i64 x342000_1, .int .i64 x342001_1, .int .i64 x342002_1, .bool x342003_1] 55 (0, 0)) (by (with_reducible repeat (first | refine blk_drewN ?_ _ | refine blk_drew ?_ | refine blk_alloc ?_ _)); exact BK341.out) hb)
                      have n1_ := Aside0.mk (IsS64.below (by repeat (first | (with_reducible first | exact HI336.out | apply IsS64.alloc | apply IsS64.drewN | apply IsS64.drew | apply IsS64.set_0 | apply IsS64.set_1 | apply IsS64.set_2 | apply IsS64.set_3 | apply IsS64.set_4 | apply IsS64.set_5 | refine IsS64.far ?_ NB336_341.out _) | exact HI336.out)) hb)
                      have n2_ := Aside0.mk (below_step (by repeat (first | (with_reducible first | exact HB.out | apply below_alloc | apply pw_below_drewN | apply below_drew1 | refine below_set ?_ (IsS64.ge HI336.out) | refine below_set ?_ GE341.out) | exact HB.out)) hb)
                      have n3_ := Aside0.mk (hbox)
                      have n4_ := Aside0.mk ((by rw [hg]; exact (below_size (by repeat (first | (with_reducible first | exact HB.out | apply below_alloc | apply pw_below_drewN | apply below_drew1 | refine below_set ?_ (IsS64.ge HI336.out) | refine below_set ?_ GE341.out) | exact HB.out))) : w.heap.size ≤ gb356))
                      have n5_ := Aside0.mk ((by rw [hg]; exact (below_size (by repeat (first | (with_reducible first | exact HB.out | apply below_alloc | apply pw_below_drewN | apply below_drew1 | refine below_set ?_ (IsS64.ge HI336.out) | refine below_set ?_ GE341.out) | exact HB.out))) : w.heap.size ≤ gb356))
                      have n6_ := Aside0.mk ((by rw [hg]; exact Nat.ne_of_lt (blk_lt (g := gb341) (o := .cells #[.int .i64 x342000_1, .int .i64 x342001_1, .int .i64 x342002_1, .bool x342003_1] 55 (0, 0)) (by (with_reducible repeat (first | refine blk_drewN ?_ _ | refine blk_drew ?_ | refine blk_alloc ?_ _)); exact BK341.out)) : gb341 ≠ gb356))
                      have n7_ := Aside0.mk ((by rw [hg]; exact Nat.ne_of_gt (blk_lt (g := gb341) (o := .cells #[.int .i64 x342000_1, .int .i64 x342001_1, .int .i64 x342002_1, .bool x342003_1] 55 (0, 0)) (by (with_reducible repeat (first | refine blk_drewN ?_ _ | refine blk_drew ?_ | refine blk_alloc ?_ _)); exact BK341.out)) : gb356 ≠ gb341))
                      have n8_ := Aside0.mk ((by rw [hg]; exact Nat.ne_of_lt (IsS64.lt (show IsS64 w _ g336 t350 t351 t352 t353 t354 t355 from by repeat (first | (with_reducible first | exact HI336.out | apply IsS64.alloc | apply IsS64.drewN | apply IsS64.drew | apply IsS64.set_0 | apply IsS64.set_1 | apply IsS64.set_2 | apply IsS64.set_3 | apply IsS64.set_4 | apply IsS64.set_5 | refine IsS64.far ?_ NB336_341.out _) | exact HI336.out))) : g336 ≠ gb356))
                      have n9_ := Aside0.mk ((by rw [hg]; exact Nat.ne_of_gt (IsS64.lt (show IsS64 w _ g336 t350 t351 t352 t353 t354 t355 from by repeat (first | (with_reducible first | exact HI336.out | apply IsS64.alloc | apply IsS64.drewN | apply IsS64.drew | apply IsS64.set_0 | apply IsS64.set_1 | apply IsS64.set_2 | apply IsS64.set_3 | apply IsS64.set_4 | apply IsS64.set_5 | refine IsS64.far ?_ NB336_341.out _) | exact HI336.out))) : gb356 ≠ g336))
                      clear BK341
                      clear HI336
                      clear HB
                      have BK341 := n0_
                      have HI336 := n1_
                      have HB := n2_
                      have BK356 := n3_
                      have GW356 := n4_
                      have GE356 := n5_
                      have NB341_356 := n6_
                      have NB356_341 := n7_
                      have NB336_356 := n8_
                      have NB356_336 := n9_
                      clear n0_ n1_ n2_ n3_ n4_ n5_ n6_ n7_ n8_ n9_
                      clear hb hbox hg
                      refine hK.out _ _ ⟨(blk_cell BK341.out 0).trans rfl, (blk_cell BK341.out 1).trans rfl, (blk_cell BK341.out 2).trans rfl, (blk_cell BK341.out 3).trans rfl, ((HB.out.cell (World.block_lt_of_cell? w _ hw344_0)).trans hw344_0), ((HB.out.cell (World.block_lt_of_cell? w _ hw344_1)).trans hw344_1), ((HB.out.cell (World.block_lt_of_cell? w _ hw344_2)).trans hw344_2)⟩ (fun hHeld => ?_)
                      clear hK K
                      refine norm_ (a' := ?_) ?_ ?_
                      rotate_left
                      · show Act.put _ (some 7) _ = _
                        simp only [Act.put, List.setIfInBounds_toArray, List.set_cons_zero, List.set_cons_succ, i64_w, i32_w]
                        rfl
                      exact norm_ (by simp only [putAll, Act.put, List.setIfInBounds_toArray, List.set_cons_zero, List.set_cons_succ]) (hCont (gb356) _ ⟨hHeld, (by (with_reducible repeat (first | refine blk_drewN ?_ _ | refine blk_drew ?_ | refine blk_alloc ?_ _)); exact BK341.out), (by (with_reducible repeat (first | refine blk_drewN ?_ _ | refine blk_drew ?_ | refine blk_alloc ?_ _)); exact BK356.out), GW356.out, GE356.out, NB336_356.out, NB356_336.out, NB341_356.out, NB356_341.out, (by repeat (first | (with_reducible first | exact HI336.out | apply IsS64.alloc | apply IsS64.drewN | apply IsS64.drew | apply IsS64.set_0 | apply IsS64.set_1 | apply IsS64.set_2 | apply IsS64.set_3 | apply IsS64.set_4 | apply IsS64.set_5 | refine IsS64.far ?_ NB336_341.out _ | refine IsS64.far ?_ NB336_356.out _) | exact HI336.out)), (by repeat (first | (with_reducible first | exact HB.out | apply below_alloc | apply pw_below_drewN | apply below_drew1 | refine below_set ?_ (IsS64.ge HI336.out) | refine below_set ?_ GE341.out | refine below_set ?_ GE356.out) | exact HB.out))⟩)
                    · skip
                      refine box_step ?hg (N := 7) ?hd (cs := #[.int .i64 0, .int .i64 0, .int .i64 0, .bool false]) (t := 55) ?hr ?_; (case hd => rfl); (case hg => rfl); (case hr => first | (go_simp; done) | (go_simp; rfl))
                      intro gb356 hg w36 hbox hb
                      have n0_ := Aside0.mk (blk_below (g := gb341) (o := .cells #[.int .i64 x342000_1, .int .i64 x342001_1, .int .i64 x342002_1, .bool x342003_1] 55 (0, 0)) (by (with_reducible repeat (first | refine blk_drewN ?_ _ | refine blk_drew ?_ | refine blk_alloc ?_ _)); exact BK341.out) hb)
                      have n1_ := Aside0.mk (IsS64.below (by repeat (first | (with_reducible first | exact HI336.out | apply IsS64.alloc | apply IsS64.drewN | apply IsS64.drew | apply IsS64.set_0 | apply IsS64.set_1 | apply IsS64.set_2 | apply IsS64.set_3 | apply IsS64.set_4 | apply IsS64.set_5 | refine IsS64.far ?_ NB336_341.out _) | exact HI336.out)) hb)
                      have n2_ := Aside0.mk (below_step (by repeat (first | (with_reducible first | exact HB.out | apply below_alloc | apply pw_below_drewN | apply below_drew1 | refine below_set ?_ (IsS64.ge HI336.out) | refine below_set ?_ GE341.out) | exact HB.out)) hb)
                      have n3_ := Aside0.mk (hbox)
                      have n4_ := Aside0.mk ((by rw [hg]; exact (below_size (by repeat (first | (with_reducible first | exact HB.out | apply below_alloc | apply pw_below_drewN | apply below_drew1 | refine below_set ?_ (IsS64.ge HI336.out) | refine below_set ?_ GE341.out) | exact HB.out))) : w.heap.size ≤ gb356))
                      have n5_ := Aside0.mk ((by rw [hg]; exact (below_size (by repeat (first | (with_reducible first | exact HB.out | apply below_alloc | apply pw_below_drewN | apply below_drew1 | refine below_set ?_ (IsS64.ge HI336.out) | refine below_set ?_ GE341.out) | exact HB.out))) : w.heap.size ≤ gb356))
                      have n6_ := Aside0.mk ((by rw [hg]; exact Nat.ne_of_lt (blk_lt (g := gb341) (o := .cells #[.int .i64 x342000_1, .int .i64 x342001_1, .int .i64 x342002_1, .bool x342003_1] 55 (0, 0)) (by (with_reducible repeat (first | refine blk_drewN ?_ _ | refine blk_drew ?_ | refine blk_alloc ?_ _)); exact BK341.out)) : gb341 ≠ gb356))
                      have n7_ := Aside0.mk ((by rw [hg]; exact Nat.ne_of_gt (blk_lt (g := gb341) (o := .cells #[.int .i64 x342000_1, .int .i64 x342001_1, .int .i64 x342002_1, .bool x342003_1] 55 (0, 0)) (by (with_reducible repeat (first | refine blk_drewN ?_ _ | refine blk_drew ?_ | refine blk_alloc ?_ _)); exact BK341.out)) : gb356 ≠ gb341))
                      have n8_ := Aside0.mk ((by rw [hg]; exact Nat.ne_of_lt (IsS64.lt (show IsS64 w _ g336 x337000_1 x337001_1 x337002_1 x337003_1 x337004_1 x337005_1 from by repeat (first | (with_reducible first | exact HI336.out | apply IsS64.alloc | apply IsS64.drewN | apply IsS64.drew | apply IsS64.set_0 | apply IsS64.set_1 | apply IsS64.set_2 | apply IsS64.set_3 | apply IsS64.set_4 | apply IsS64.set_5 | refine IsS64.far ?_ NB336_341.out _) | exact HI336.out))) : g336 ≠ gb356))
                      have n9_ := Aside0.mk ((by rw [hg]; exact Nat.ne_of_gt (IsS64.lt (show IsS64 w _ g336 x337000_1 x337001_1 x337002_1 x337003_1 x337004_1 x337005_1 from by repeat (first | (with_reducible first | exact HI336.out | apply IsS64.alloc | apply IsS64.drewN | apply IsS64.drew | apply IsS64.set_0 | apply IsS64.set_1 | apply IsS64.set_2 | apply IsS64.set_3 | apply IsS64.set_4 | apply IsS64.set_5 | refine IsS64.far ?_ NB336_341.out _) | exact HI336.out))) : gb356 ≠ g336))
                      clear BK341
                      clear HI336
                      clear HB
                      have BK341 := n0_
                      have HI336 := n1_
                      have HB := n2_
                      have BK356 := n3_
                      have GW356 := n4_
                      have GE356 := n5_
                      have NB341_356 := n6_
                      have NB356_341 := n7_
                      have NB336_356 := n8_
                      have NB356_336 := n9_
                      clear n0_ n1_ n2_ n3_ n4_ n5_ n6_ n7_ n8_ n9_
                      clear hb hbox hg
                      refine hK.out _ _ ⟨(blk_cell BK341.out 0).trans rfl, (blk_cell BK341.out 1).trans rfl, (blk_cell BK341.out 2).trans rfl, (blk_cell BK341.out 3).trans rfl, ((HB.out.cell (World.block_lt_of_cell? w _ hw344_0)).trans hw344_0), ((HB.out.cell (World.block_lt_of_cell? w _ hw344_1)).trans hw344_1), ((HB.out.cell (World.block_lt_of_cell? w _ hw344_2)).trans hw344_2)⟩ (fun hHeld => ?_)
                      clear hK K
                      refine norm_ (a' := ?_) ?_ ?_
                      rotate_left
                      · show Act.put _ (some 7) _ = _
                        simp only [Act.put, List.setIfInBounds_toArray, List.set_cons_zero, List.set_cons_succ, i64_w, i32_w]
                        rfl
                      refine one_ (i := 6) (N := some 44) #[true, true, true, true, true, true, true, false, false, false, true, false, false] rfl rfl (one_of HT_.out (by kernel_rfl)) (by decide) (fun K hK => ?_)
                      refine goes_ Try.func35 (by kernel_rfl) rfl #[.pointer (some ⟨g336, 0, none⟩), .agg #[.int .i64 x342000_1, .int .i64 x342001_1, .int .i64 x342002_1, .bool x342003_1], .agg #[.int .i64 ((rd_T58 l0 x5_1).f0), .int .i64 ((rd_T58 l0 x5_1).f1.f0), .int .i64 ((rd_T58 l0 x5_1).f1.f1)]] (by rfl) rfl rfl (by (try simp only [List.map_toArray, List.map_cons, List.map_nil]); first | done | rfl | (simp only [List.length_drop, List.length_take]; rfl)) ?_
                      with_reducible refine (styluslaw10_step.calls g336 x337000_1 x337001_1 x337002_1 x337003_1 x337004_1 x337005_1 x342000_1 x342001_1 x342002_1 x342003_1 ((rd_T58 l0 x5_1).f0) ((rd_T58 l0 x5_1).f1.f0) ((rd_T58 l0 x5_1).f1.f1) t345 t346 t347 t348 true t350 t351 t352 t353 t354 t355 w _ ?side1 ?side2 A15.out).mono ?_
                      (case side1 => repeat (first | (with_reducible first | exact HI336.out | apply IsS64.alloc | apply IsS64.drewN | apply IsS64.drew | apply IsS64.set_0 | apply IsS64.set_1 | apply IsS64.set_2 | apply IsS64.set_3 | apply IsS64.set_4 | apply IsS64.set_5 | refine IsS64.far ?_ NB336_341.out _ | refine IsS64.far ?_ NB336_356.out _) | exact HI336.out))
                      (case side2 => repeat (first | (with_reducible first | exact HB.out | apply below_alloc | apply pw_below_drewN | apply below_drew1 | refine below_set ?_ (IsS64.ge HI336.out) | refine below_set ?_ GE341.out | refine below_set ?_ GE356.out) | exact HB.out))
                      rintro e w37 ⟨rfl, hi, hb, hk⟩
                      refine ⟨_, rfl, ?_⟩
                      have n0_ := Aside0.mk (KeepBut.blk hk (g' := gb341) (o := .cells #[.int .i64 x342000_1, .int .i64 x342001_1, .int .i64 x342002_1, .bool x342003_1] 55 (0, 0)) (by (with_reducible repeat (first | refine blk_drewN ?_ _ | refine blk_drew ?_ | refine blk_alloc ?_ _)); exact BK341.out) NB341_336.out (by simp))
                      have n1_ := Aside0.mk (KeepBut.blk hk (g' := gb356) (o := .cells #[.int .i64 0, .int .i64 0, .int .i64 0, .bool false] 55 (0, 0)) (by (with_reducible repeat (first | refine blk_drewN ?_ _ | refine blk_drew ?_ | refine blk_alloc ?_ _)); exact BK356.out) NB356_336.out (by simp))
                      have n2_ := Aside0.mk (hb)
                      have n3_ := Aside0.mk (hi)
                      clear BK341
                      clear BK356
                      clear HB
                      clear HI336
                      have BK341 := n0_
                      have BK356 := n1_
                      have HB := n2_
                      have HI336 := n3_
                      clear n0_ n1_ n2_ n3_
                      (try clear hb)
                      (try clear hb2)
                      (try clear hk)
                      (try clear hi)
                      refine hK.out _ _ ⟨(blk_cell BK341.out 0).trans rfl, (blk_cell BK341.out 1).trans rfl, (blk_cell BK341.out 2).trans rfl, (blk_cell BK341.out 3).trans rfl, ((HB.out.cell (World.block_lt_of_cell? w _ hw344_0)).trans hw344_0), ((HB.out.cell (World.block_lt_of_cell? w _ hw344_1)).trans hw344_1), ((HB.out.cell (World.block_lt_of_cell? w _ hw344_2)).trans hw344_2)⟩ (fun hHeld => ?_)
                      clear hK K
                      refine norm_ (a' := ?_) ?_ ?_
                      rotate_left
                      · show Act.put _ (some 44) _ = _
                        simp only [Act.put, List.setIfInBounds_toArray, List.set_cons_zero, List.set_cons_succ, i64_w, i32_w]
                        rfl
                      refine pure_ (i := 7) (N := some 37) (v := ?_) (a' := ?_) #[true, true, true, true, true, true, true, true, false, false, true, false, false] rfl rfl (any_of HT_.out (by kernel_rfl)) (fun _ _ _ h => h) (Or.inl ⟨by rfl, ?_⟩) ?_ ?_
                      rotate_left
                      · intro w'
                        go_simp
                        with_reducible rfl
                      rotate_left
                      · simp only [Act.put, List.setIfInBounds_toArray, List.set_cons_zero, List.set_cons_succ, i64_w, i32_w]
                        rfl
                      refine pure_ (i := 8) (N := some 45) (v := ?_) (a' := ?_) #[true, true, true, true, true, true, true, true, true, false, true, false, false] rfl rfl (any_of HT_.out (by kernel_rfl)) (fun _ _ _ h => h) (Or.inl ⟨by rfl, ?_⟩) ?_ ?_
                      rotate_left
                      · intro w'
                        go_simp
                        with_reducible rfl
                      rotate_left
                      · simp only [Act.put, List.setIfInBounds_toArray, List.set_cons_zero, List.set_cons_succ, i64_w, i32_w]
                        rfl
                      refine pure_ (i := 9) (N := some 46) (v := ?_) (a' := ?_) #[true, true, true, true, true, true, true, true, true, true, true, false, false] rfl rfl (any_of HT_.out (by kernel_rfl)) (fun _ _ _ h => h) (Or.inl ⟨by rfl, ?_⟩) ?_ ?_
                      rotate_left
                      · intro w'
                        go_simp
                        with_reducible rfl
                      rotate_left
                      · simp only [Act.put, List.setIfInBounds_toArray, List.set_cons_zero, List.set_cons_succ, i64_w, i32_w]
                        rfl
                      exact norm_ (by simp only [putAll, Act.put, List.setIfInBounds_toArray, List.set_cons_zero, List.set_cons_succ]) (hCont (gb356) _ ⟨hHeld, (by (with_reducible repeat (first | refine blk_drewN ?_ _ | refine blk_drew ?_ | refine blk_alloc ?_ _)); exact BK341.out), (by (with_reducible repeat (first | refine blk_drewN ?_ _ | refine blk_drew ?_ | refine blk_alloc ?_ _)); exact BK356.out), GW356.out, GE356.out, NB336_356.out, NB356_336.out, NB341_356.out, NB356_341.out, (by repeat (first | (with_reducible first | exact HI336.out | apply IsS64.alloc | apply IsS64.drewN | apply IsS64.drew | apply IsS64.set_0 | apply IsS64.set_1 | apply IsS64.set_2 | apply IsS64.set_3 | apply IsS64.set_4 | apply IsS64.set_5 | refine IsS64.far ?_ NB336_341.out _ | refine IsS64.far ?_ NB336_356.out _) | exact HI336.out)), (by repeat (first | (with_reducible first | exact HB.out | apply below_alloc | apply pw_below_drewN | apply below_drew1 | refine below_set ?_ (IsS64.ge HI336.out) | refine below_set ?_ GE341.out | refine below_set ?_ GE356.out) | exact HB.out))⟩)
                  rintro gb356 w38 ⟨hS_, h0_, h1_, h2_, h3_, h4_, h5_, h6_, h7_, h8_, h9_⟩
                  have n0_ : Aside0 (w38.heap[gb341]? = some (.cells #[.int .i64 x342000_1, .int .i64 x342001_1, .int .i64 x342002_1, .bool x342003_1] 55 (0, 0))) := ⟨h0_⟩
                  have n1_ : Aside0 (w38.heap[gb356]? = some (.cells #[.int .i64 0, .int .i64 0, .int .i64 0, .bool false] 55 (0, 0))) := ⟨h1_⟩
                  have n2_ : Aside0 (w.heap.size ≤ gb356) := ⟨h2_⟩
                  have n3_ : Aside0 (w.heap.size ≤ gb356) := ⟨h3_⟩
                  have n4_ : Aside0 (g336 ≠ gb356) := ⟨h4_⟩
                  have n5_ : Aside0 (gb356 ≠ g336) := ⟨h5_⟩
                  have n6_ : Aside0 (gb341 ≠ gb356) := ⟨h6_⟩
                  have n7_ : Aside0 (gb356 ≠ gb341) := ⟨h7_⟩
                  have n8_ : Aside0 (IsS64 w w38 g336 t350 t351 t352 t353 t354 t355) := ⟨h8_⟩
                  have n9_ : Aside0 (Below w.heap.size w w38) := ⟨h9_⟩
                  clear BK341
                  clear HI336
                  clear HB
                  clear h0_ h1_ h2_ h3_ h4_ h5_ h6_ h7_ h8_ h9_
                  have BK341 := n0_
                  have BK356 := n1_
                  have GW356 := n2_
                  have GE356 := n3_
                  have NB336_356 := n4_
                  have NB356_336 := n5_
                  have NB341_356 := n6_
                  have NB356_341 := n7_
                  have HI336 := n8_
                  have HB := n9_
                  clear n0_ n1_ n2_ n3_ n4_ n5_ n6_ n7_ n8_ n9_
                  have hHeld : w38.cell? ⟨gb341, 0, none⟩ = some (.int .i64 x342000_1) ∧ w38.cell? ⟨gb341, 1, none⟩ = some (.int .i64 x342001_1) ∧ w38.cell? ⟨gb341, 2, none⟩ = some (.int .i64 x342002_1) ∧ w38.cell? ⟨gb341, 3, none⟩ = some (.bool x342003_1) ∧ w38.cell? (ad343.add ((x5_1).toNat * 3)) = some (.int .i64 ((rd_T58 l0 x5_1).f0)) ∧ w38.cell? ⟨(ad343.add ((x5_1).toNat * 3)).block, (ad343.add ((x5_1).toNat * 3)).off + 1, none⟩ = some (.int .i64 ((rd_T58 l0 x5_1).f1.f0)) ∧ w38.cell? ⟨(ad343.add ((x5_1).toNat * 3)).block, (ad343.add ((x5_1).toNat * 3)).off + 2, none⟩ = some (.int .i64 ((rd_T58 l0 x5_1).f1.f1)) := hS_
                  refine norm_ (a' := ?_) ?_ ?_
                  rotate_left
                  · simp only [putAll, Act.put, List.setIfInBounds_toArray, List.set_cons_zero, List.set_cons_succ]
                    rfl
                  refine one_ (i := 11) (N := none) #[true, true, true, true, true, true, true, true, true, true, true, true, false] rfl rfl (one_of HT_.out (by kernel_rfl)) (by decide) (fun K hK => ?_)
                  have hs39 : w38.cell? ⟨gb356, 0, none⟩ = some (.int .i64 0) := (blk_cell BK356.out 0).trans rfl
                  have hfs39 := blk_frozen BK356.out 0
                  have hns39_0 := NB341_356.out
                  have hms39_0 := NB356_341.out
                  have hs40 : w38.cell? ⟨gb356, 1, none⟩ = some (.int .i64 0) := (blk_cell BK356.out 1).trans rfl
                  have hfs40 := blk_frozen BK356.out 1
                  have hns40_0 := NB341_356.out
                  have hms40_0 := NB356_341.out
                  have hs41 : w38.cell? ⟨gb356, 2, none⟩ = some (.int .i64 0) := (blk_cell BK356.out 2).trans rfl
                  have hfs41 := blk_frozen BK356.out 2
                  have hns41_0 := NB341_356.out
                  have hms41_0 := NB356_341.out
                  have hs42 : w38.cell? ⟨gb356, 3, none⟩ = some (.bool false) := (blk_cell BK356.out 3).trans rfl
                  have hfs42 := blk_frozen BK356.out 3
                  have hns42_0 := NB341_356.out
                  have hms42_0 := NB356_341.out
                  refine skip_ (w1 := ?_) (by rfl) rfl ?_ ?_
                  rotate_left
                  · go_simp
                    rfl
                  refine hK.out _ _ ⟨((cell_far (p := ⟨gb356, _, none⟩) NB341_356.out _).trans (((cell_far (p := ⟨gb356, _, none⟩) NB341_356.out _).trans (((cell_far (p := ⟨gb356, _, none⟩) NB341_356.out _).trans (((cell_far (p := ⟨gb356, _, none⟩) NB341_356.out _).trans (hHeld.1)))))))), ((cell_far (p := ⟨gb356, _, none⟩) NB341_356.out _).trans (((cell_far (p := ⟨gb356, _, none⟩) NB341_356.out _).trans (((cell_far (p := ⟨gb356, _, none⟩) NB341_356.out _).trans (((cell_far (p := ⟨gb356, _, none⟩) NB341_356.out _).trans (hHeld.2.1)))))))), ((cell_far (p := ⟨gb356, _, none⟩) NB341_356.out _).trans (((cell_far (p := ⟨gb356, _, none⟩) NB341_356.out _).trans (((cell_far (p := ⟨gb356, _, none⟩) NB341_356.out _).trans (((cell_far (p := ⟨gb356, _, none⟩) NB341_356.out _).trans (hHeld.2.2.1)))))))), ((cell_far (p := ⟨gb356, _, none⟩) NB341_356.out _).trans (((cell_far (p := ⟨gb356, _, none⟩) NB341_356.out _).trans (((cell_far (p := ⟨gb356, _, none⟩) NB341_356.out _).trans (((cell_far (p := ⟨gb356, _, none⟩) NB341_356.out _).trans (hHeld.2.2.2.1)))))))), ((cell_far (p := ⟨gb356, _, none⟩) (by first | exact Nat.ne_of_lt (Nat.lt_of_lt_of_le (by have := World.block_lt_of_cell? _ _ hw344_0; first | rwa [add_block] at this | exact this) GW356.out) | (rw [add_block]; exact Nat.ne_of_lt (Nat.lt_of_lt_of_le (by have := World.block_lt_of_cell? _ _ hw344_0; first | rwa [add_block] at this | exact this) GW356.out)) | (show (Addr.add _ _).block ≠ _; rw [add_block]; exact Nat.ne_of_lt (Nat.lt_of_lt_of_le (by have := World.block_lt_of_cell? _ _ hw344_0; first | rwa [add_block] at this | exact this) GW356.out)) | (dsimp only; exact Nat.ne_of_lt (Nat.lt_of_lt_of_le (by have := World.block_lt_of_cell? _ _ hw344_0; first | rwa [add_block] at this | exact this) GW356.out))) _).trans (((cell_far (p := ⟨gb356, _, none⟩) (by first | exact Nat.ne_of_lt (Nat.lt_of_lt_of_le (by have := World.block_lt_of_cell? _ _ hw344_0; first | rwa [add_block] at this | exact this) GW356.out) | (rw [add_block]; exact Nat.ne_of_lt (Nat.lt_of_lt_of_le (by have := World.block_lt_of_cell? _ _ hw344_0; first | rwa [add_block] at this | exact this) GW356.out)) | (show (Addr.add _ _).block ≠ _; rw [add_block]; exact Nat.ne_of_lt (Nat.lt_of_lt_of_le (by have := World.block_lt_of_cell? _ _ hw344_0; first | rwa [add_block] at this | exact this) GW356.out)) | (dsimp only; exact Nat.ne_of_lt (Nat.lt_of_lt_of_le (by have := World.block_lt_of_cell? _ _ hw344_0; first | rwa [add_block] at this | exact this) GW356.out))) _).trans (((cell_far (p := ⟨gb356, _, none⟩) (by first | exact Nat.ne_of_lt (Nat.lt_of_lt_of_le (by have := World.block_lt_of_cell? _ _ hw344_0; first | rwa [add_block] at this | exact this) GW356.out) | (rw [add_block]; exact Nat.ne_of_lt (Nat.lt_of_lt_of_le (by have := World.block_lt_of_cell? _ _ hw344_0; first | rwa [add_block] at this | exact this) GW356.out)) | (show (Addr.add _ _).block ≠ _; rw [add_block]; exact Nat.ne_of_lt (Nat.lt_of_lt_of_le (by have := World.block_lt_of_cell? _ _ hw344_0; first | rwa [add_block] at this | exact this) GW356.out)) | (dsimp only; exact Nat.ne_of_lt (Nat.lt_of_lt_of_le (by have := World.block_lt_of_cell? _ _ hw344_0; first | rwa [add_block] at this | exact this) GW356.out))) _).trans (((cell_far (p := ⟨gb356, _, none⟩) (by first | exact Nat.ne_of_lt (Nat.lt_of_lt_of_le (by have := World.block_lt_of_cell? _ _ hw344_0; first | rwa [add_block] at this | exact this) GW356.out) | (rw [add_block]; exact Nat.ne_of_lt (Nat.lt_of_lt_of_le (by have := World.block_lt_of_cell? _ _ hw344_0; first | rwa [add_block] at this | exact this) GW356.out)) | (show (Addr.add _ _).block ≠ _; rw [add_block]; exact Nat.ne_of_lt (Nat.lt_of_lt_of_le (by have := World.block_lt_of_cell? _ _ hw344_0; first | rwa [add_block] at this | exact this) GW356.out)) | (dsimp only; exact Nat.ne_of_lt (Nat.lt_of_lt_of_le (by have := World.block_lt_of_cell? _ _ hw344_0; first | rwa [add_block] at this | exact this) GW356.out))) _).trans (hHeld.2.2.2.2.1)))))))), ((cell_far (p := ⟨gb356, _, none⟩) (by first | exact Nat.ne_of_lt (Nat.lt_of_lt_of_le (by have := World.block_lt_of_cell? _ _ hw344_1; first | rwa [add_block] at this | exact this) GW356.out) | (rw [add_block]; exact Nat.ne_of_lt (Nat.lt_of_lt_of_le (by have := World.block_lt_of_cell? _ _ hw344_1; first | rwa [add_block] at this | exact this) GW356.out)) | (show (Addr.add _ _).block ≠ _; rw [add_block]; exact Nat.ne_of_lt (Nat.lt_of_lt_of_le (by have := World.block_lt_of_cell? _ _ hw344_1; first | rwa [add_block] at this | exact this) GW356.out)) | (dsimp only; exact Nat.ne_of_lt (Nat.lt_of_lt_of_le (by have := World.block_lt_of_cell? _ _ hw344_1; first | rwa [add_block] at this | exact this) GW356.out))) _).trans (((cell_far (p := ⟨gb356, _, none⟩) (by first | exact Nat.ne_of_lt (Nat.lt_of_lt_of_le (by have := World.block_lt_of_cell? _ _ hw344_1; first | rwa [add_block] at this | exact this) GW356.out) | (rw [add_block]; exact Nat.ne_of_lt (Nat.lt_of_lt_of_le (by have := World.block_lt_of_cell? _ _ hw344_1; first | rwa [add_block] at this | exact this) GW356.out)) | (show (Addr.add _ _).block ≠ _; rw [add_block]; exact Nat.ne_of_lt (Nat.lt_of_lt_of_le (by have := World.block_lt_of_cell? _ _ hw344_1; first | rwa [add_block] at this | exact this) GW356.out)) | (dsimp only; exact Nat.ne_of_lt (Nat.lt_of_lt_of_le (by have := World.block_lt_of_cell? _ _ hw344_1; first | rwa [add_block] at this | exact this) GW356.out))) _).trans (((cell_far (p := ⟨gb356, _, none⟩) (by first | exact Nat.ne_of_lt (Nat.lt_of_lt_of_le (by have := World.block_lt_of_cell? _ _ hw344_1; first | rwa [add_block] at this | exact this) GW356.out) | (rw [add_block]; exact Nat.ne_of_lt (Nat.lt_of_lt_of_le (by have := World.block_lt_of_cell? _ _ hw344_1; first | rwa [add_block] at this | exact this) GW356.out)) | (show (Addr.add _ _).block ≠ _; rw [add_block]; exact Nat.ne_of_lt (Nat.lt_of_lt_of_le (by have := World.block_lt_of_cell? _ _ hw344_1; first | rwa [add_block] at this | exact this) GW356.out)) | (dsimp only; exact Nat.ne_of_lt (Nat.lt_of_lt_of_le (by have := World.block_lt_of_cell? _ _ hw344_1; first | rwa [add_block] at this | exact this) GW356.out))) _).trans (((cell_far (p := ⟨gb356, _, none⟩) (by first | exact Nat.ne_of_lt (Nat.lt_of_lt_of_le (by have := World.block_lt_of_cell? _ _ hw344_1; first | rwa [add_block] at this | exact this) GW356.out) | (rw [add_block]; exact Nat.ne_of_lt (Nat.lt_of_lt_of_le (by have := World.block_lt_of_cell? _ _ hw344_1; first | rwa [add_block] at this | exact this) GW356.out)) | (show (Addr.add _ _).block ≠ _; rw [add_block]; exact Nat.ne_of_lt (Nat.lt_of_lt_of_le (by have := World.block_lt_of_cell? _ _ hw344_1; first | rwa [add_block] at this | exact this) GW356.out)) | (dsimp only; exact Nat.ne_of_lt (Nat.lt_of_lt_of_le (by have := World.block_lt_of_cell? _ _ hw344_1; first | rwa [add_block] at this | exact this) GW356.out))) _).trans (hHeld.2.2.2.2.2.1)))))))), ((cell_far (p := ⟨gb356, _, none⟩) (by first | exact Nat.ne_of_lt (Nat.lt_of_lt_of_le (by have := World.block_lt_of_cell? _ _ hw344_2; first | rwa [add_block] at this | exact this) GW356.out) | (rw [add_block]; exact Nat.ne_of_lt (Nat.lt_of_lt_of_le (by have := World.block_lt_of_cell? _ _ hw344_2; first | rwa [add_block] at this | exact this) GW356.out)) | (show (Addr.add _ _).block ≠ _; rw [add_block]; exact Nat.ne_of_lt (Nat.lt_of_lt_of_le (by have := World.block_lt_of_cell? _ _ hw344_2; first | rwa [add_block] at this | exact this) GW356.out)) | (dsimp only; exact Nat.ne_of_lt (Nat.lt_of_lt_of_le (by have := World.block_lt_of_cell? _ _ hw344_2; first | rwa [add_block] at this | exact this) GW356.out))) _).trans (((cell_far (p := ⟨gb356, _, none⟩) (by first | exact Nat.ne_of_lt (Nat.lt_of_lt_of_le (by have := World.block_lt_of_cell? _ _ hw344_2; first | rwa [add_block] at this | exact this) GW356.out) | (rw [add_block]; exact Nat.ne_of_lt (Nat.lt_of_lt_of_le (by have := World.block_lt_of_cell? _ _ hw344_2; first | rwa [add_block] at this | exact this) GW356.out)) | (show (Addr.add _ _).block ≠ _; rw [add_block]; exact Nat.ne_of_lt (Nat.lt_of_lt_of_le (by have := World.block_lt_of_cell? _ _ hw344_2; first | rwa [add_block] at this | exact this) GW356.out)) | (dsimp only; exact Nat.ne_of_lt (Nat.lt_of_lt_of_le (by have := World.block_lt_of_cell? _ _ hw344_2; first | rwa [add_block] at this | exact this) GW356.out))) _).trans (((cell_far (p := ⟨gb356, _, none⟩) (by first | exact Nat.ne_of_lt (Nat.lt_of_lt_of_le (by have := World.block_lt_of_cell? _ _ hw344_2; first | rwa [add_block] at this | exact this) GW356.out) | (rw [add_block]; exact Nat.ne_of_lt (Nat.lt_of_lt_of_le (by have := World.block_lt_of_cell? _ _ hw344_2; first | rwa [add_block] at this | exact this) GW356.out)) | (show (Addr.add _ _).block ≠ _; rw [add_block]; exact Nat.ne_of_lt (Nat.lt_of_lt_of_le (by have := World.block_lt_of_cell? _ _ hw344_2; first | rwa [add_block] at this | exact this) GW356.out)) | (dsimp only; exact Nat.ne_of_lt (Nat.lt_of_lt_of_le (by have := World.block_lt_of_cell? _ _ hw344_2; first | rwa [add_block] at this | exact this) GW356.out))) _).trans (((cell_far (p := ⟨gb356, _, none⟩) (by first | exact Nat.ne_of_lt (Nat.lt_of_lt_of_le (by have := World.block_lt_of_cell? _ _ hw344_2; first | rwa [add_block] at this | exact this) GW356.out) | (rw [add_block]; exact Nat.ne_of_lt (Nat.lt_of_lt_of_le (by have := World.block_lt_of_cell? _ _ hw344_2; first | rwa [add_block] at this | exact this) GW356.out)) | (show (Addr.add _ _).block ≠ _; rw [add_block]; exact Nat.ne_of_lt (Nat.lt_of_lt_of_le (by have := World.block_lt_of_cell? _ _ hw344_2; first | rwa [add_block] at this | exact this) GW356.out)) | (dsimp only; exact Nat.ne_of_lt (Nat.lt_of_lt_of_le (by have := World.block_lt_of_cell? _ _ hw344_2; first | rwa [add_block] at this | exact this) GW356.out))) _).trans (hHeld.2.2.2.2.2.2))))))))⟩ (fun hHeld => ?_)
                  clear hK K
                  refine pure_ (i := 12) (N := some 8) (v := ?_) (a' := ?_) #[true, true, true, true, true, true, true, true, true, true, true, true, true] rfl rfl (any_of HT_.out (by kernel_rfl)) (fun _ _ _ h => h) (Or.inl ⟨by rfl, ?_⟩) ?_ ?_
                  rotate_left
                  · intro w'
                    go_simp
                    with_reducible rfl
                  rotate_left
                  · simp only [Act.put, List.setIfInBounds_toArray, List.set_cons_zero, List.set_cons_succ, i64_w, i32_w]
                    rfl
                  refine done_ (done_of HT_.out (by kernel_rfl)) ?_
                  have hnb43 := NB356_341.out
                  have hnc43 := NB341_356.out
                  have hnb44 := NB356_336.out
                  have hnc44 := NB336_356.out
                  have hcz45_0 : w38.cell? ⟨gb356, 0, none⟩ = some (.int .i64 0) := (blk_cell BK356.out 0).trans rfl
                  have hcz45_1 : w38.cell? ⟨gb356, 1, none⟩ = some (.int .i64 0) := (blk_cell BK356.out 1).trans rfl
                  have hcz45_2 : w38.cell? ⟨gb356, 2, none⟩ = some (.int .i64 0) := (blk_cell BK356.out 2).trans rfl
                  have hcz45_3 : w38.cell? ⟨gb356, 3, none⟩ = some (.bool false) := (blk_cell BK356.out 3).trans rfl
                  have hfz45_0 := blk_frozen BK356.out 0
                  have hfz45_1 := blk_frozen BK356.out 1
                  have hfz45_2 := blk_frozen BK356.out 2
                  have hfz45_3 := blk_frozen BK356.out 3
                  have hnb46 := NB341_336.out
                  have hnc46 := NB336_341.out
                  have hcz47_0 : w38.cell? ⟨gb341, 0, none⟩ = some (.int .i64 x342000_1) := (blk_cell BK341.out 0).trans rfl
                  have hcz47_1 : w38.cell? ⟨gb341, 1, none⟩ = some (.int .i64 x342001_1) := (blk_cell BK341.out 1).trans rfl
                  have hcz47_2 : w38.cell? ⟨gb341, 2, none⟩ = some (.int .i64 x342002_1) := (blk_cell BK341.out 2).trans rfl
                  have hcz47_3 : w38.cell? ⟨gb341, 3, none⟩ = some (.bool x342003_1) := (blk_cell BK341.out 3).trans rfl
                  have hfz47_0 := blk_frozen BK341.out 0
                  have hfz47_1 := blk_frozen BK341.out 1
                  have hfz47_2 := blk_frozen BK341.out 2
                  have hfz47_3 := blk_frozen BK341.out 3
                  try go_wp2
                  have n0_ : Aside0 (((((((((w38.setCell ⟨gb356, 0, none⟩ (.int .i64 t345)).setCell ⟨gb356, 1, none⟩ (.int .i64 t346)).setCell ⟨gb356, 2, none⟩ (.int .i64 t347)).setCell ⟨gb356, 3, none⟩ (.bool t348)).setCell ⟨gb341, 0, none⟩ (.int .i64 t345)).setCell ⟨gb341, 1, none⟩ (.int .i64 t346)).setCell ⟨gb341, 2, none⟩ (.int .i64 t347)).setCell ⟨gb341, 3, none⟩ (.bool t348)).heap[gb341]? = some (.cells #[.int .i64 t345, .int .i64 t346, .int .i64 t347, .bool t348] 55 (0, 0))) := ⟨by (with_reducible repeat (first | refine blk_drewN ?_ _ | refine blk_drew ?_ | refine blk_alloc ?_ _)); refine blk_put (cs := #[.int .i64 t345, .int .i64 t346, .int .i64 t347, .bool x342003_1]) ?_ 3 _ rfl; (with_reducible repeat (first | refine blk_drewN ?_ _ | refine blk_drew ?_ | refine blk_alloc ?_ _)); refine blk_put (cs := #[.int .i64 t345, .int .i64 t346, .int .i64 x342002_1, .bool x342003_1]) ?_ 2 _ rfl; (with_reducible repeat (first | refine blk_drewN ?_ _ | refine blk_drew ?_ | refine blk_alloc ?_ _)); refine blk_put (cs := #[.int .i64 t345, .int .i64 x342001_1, .int .i64 x342002_1, .bool x342003_1]) ?_ 1 _ rfl; (with_reducible repeat (first | refine blk_drewN ?_ _ | refine blk_drew ?_ | refine blk_alloc ?_ _)); refine blk_put (cs := #[.int .i64 x342000_1, .int .i64 x342001_1, .int .i64 x342002_1, .bool x342003_1]) ?_ 0 _ rfl; (with_reducible repeat (first | refine blk_drewN ?_ _ | refine blk_drew ?_ | refine blk_alloc ?_ _)); refine blk_far ?_ NB341_356.out _; (with_reducible repeat (first | refine blk_drewN ?_ _ | refine blk_drew ?_ | refine blk_alloc ?_ _)); refine blk_far ?_ NB341_356.out _; (with_reducible repeat (first | refine blk_drewN ?_ _ | refine blk_drew ?_ | refine blk_alloc ?_ _)); refine blk_far ?_ NB341_356.out _; (with_reducible repeat (first | refine blk_drewN ?_ _ | refine blk_drew ?_ | refine blk_alloc ?_ _)); refine blk_far ?_ NB341_356.out _; (with_reducible repeat (first | refine blk_drewN ?_ _ | refine blk_drew ?_ | refine blk_alloc ?_ _)); exact BK341.out⟩
                  have n1_ : Aside0 (((((((((w38.setCell ⟨gb356, 0, none⟩ (.int .i64 t345)).setCell ⟨gb356, 1, none⟩ (.int .i64 t346)).setCell ⟨gb356, 2, none⟩ (.int .i64 t347)).setCell ⟨gb356, 3, none⟩ (.bool t348)).setCell ⟨gb341, 0, none⟩ (.int .i64 t345)).setCell ⟨gb341, 1, none⟩ (.int .i64 t346)).setCell ⟨gb341, 2, none⟩ (.int .i64 t347)).setCell ⟨gb341, 3, none⟩ (.bool t348)).heap[gb356]? = some (.cells #[.int .i64 t345, .int .i64 t346, .int .i64 t347, .bool t348] 55 (0, 0))) := ⟨by (with_reducible repeat (first | refine blk_drewN ?_ _ | refine blk_drew ?_ | refine blk_alloc ?_ _)); refine blk_far ?_ NB356_341.out _; (with_reducible repeat (first | refine blk_drewN ?_ _ | refine blk_drew ?_ | refine blk_alloc ?_ _)); refine blk_far ?_ NB356_341.out _; (with_reducible repeat (first | refine blk_drewN ?_ _ | refine blk_drew ?_ | refine blk_alloc ?_ _)); refine blk_far ?_ NB356_341.out _; (with_reducible repeat (first | refine blk_drewN ?_ _ | refine blk_drew ?_ | refine blk_alloc ?_ _)); refine blk_far ?_ NB356_341.out _; (with_reducible repeat (first | refine blk_drewN ?_ _ | refine blk_drew ?_ | refine blk_alloc ?_ _)); refine blk_put (cs := #[.int .i64 t345, .int .i64 t346, .int .i64 t347, .bool false]) ?_ 3 _ rfl; (with_reducible repeat (first | refine blk_drewN ?_ _ | refine blk_drew ?_ | refine blk_alloc ?_ _)); refine blk_put (cs := #[.int .i64 t345, .int .i64 t346, .int .i64 0, .bool false]) ?_ 2 _ rfl; (with_reducible repeat (first | refine blk_drewN ?_ _ | refine blk_drew ?_ | refine blk_alloc ?_ _)); refine blk_put (cs := #[.int .i64 t345, .int .i64 0, .int .i64 0, .bool false]) ?_ 1 _ rfl; (with_reducible repeat (first | refine blk_drewN ?_ _ | refine blk_drew ?_ | refine blk_alloc ?_ _)); refine blk_put (cs := #[.int .i64 0, .int .i64 0, .int .i64 0, .bool false]) ?_ 0 _ rfl; (with_reducible repeat (first | refine blk_drewN ?_ _ | refine blk_drew ?_ | refine blk_alloc ?_ _)); exact BK356.out⟩
                  have n2_ : Aside0 (IsS64 w ((((((((w38.setCell ⟨gb356, 0, none⟩ (.int .i64 t345)).setCell ⟨gb356, 1, none⟩ (.int .i64 t346)).setCell ⟨gb356, 2, none⟩ (.int .i64 t347)).setCell ⟨gb356, 3, none⟩ (.bool t348)).setCell ⟨gb341, 0, none⟩ (.int .i64 t345)).setCell ⟨gb341, 1, none⟩ (.int .i64 t346)).setCell ⟨gb341, 2, none⟩ (.int .i64 t347)).setCell ⟨gb341, 3, none⟩ (.bool t348)) g336 t350 t351 t352 t353 t354 t355) := ⟨by repeat (first | (with_reducible first | exact HI336.out | apply IsS64.alloc | apply IsS64.drewN | apply IsS64.drew | apply IsS64.set_0 | apply IsS64.set_1 | apply IsS64.set_2 | apply IsS64.set_3 | apply IsS64.set_4 | apply IsS64.set_5 | refine IsS64.far ?_ NB336_341.out _ | refine IsS64.far ?_ NB336_356.out _) | exact HI336.out)⟩
                  have n3_ : Aside0 (Below w.heap.size w ((((((((w38.setCell ⟨gb356, 0, none⟩ (.int .i64 t345)).setCell ⟨gb356, 1, none⟩ (.int .i64 t346)).setCell ⟨gb356, 2, none⟩ (.int .i64 t347)).setCell ⟨gb356, 3, none⟩ (.bool t348)).setCell ⟨gb341, 0, none⟩ (.int .i64 t345)).setCell ⟨gb341, 1, none⟩ (.int .i64 t346)).setCell ⟨gb341, 2, none⟩ (.int .i64 t347)).setCell ⟨gb341, 3, none⟩ (.bool t348))) := ⟨by repeat (first | (with_reducible first | exact HB.out | apply below_alloc | apply pw_below_drewN | apply below_drew1 | refine below_set ?_ (IsS64.ge HI336.out) | refine below_set ?_ GE341.out | refine below_set ?_ GE356.out) | exact HB.out)⟩
                  (try clear BK341)
                  (try clear BK356)
                  (try clear HI336)
                  (try clear HB)
                  generalize ((((((((w38.setCell ⟨gb356, 0, none⟩ (.int .i64 t345)).setCell ⟨gb356, 1, none⟩ (.int .i64 t346)).setCell ⟨gb356, 2, none⟩ (.int .i64 t347)).setCell ⟨gb356, 3, none⟩ (.bool t348)).setCell ⟨gb341, 0, none⟩ (.int .i64 t345)).setCell ⟨gb341, 1, none⟩ (.int .i64 t346)).setCell ⟨gb341, 2, none⟩ (.int .i64 t347)).setCell ⟨gb341, 3, none⟩ (.bool t348)) = w48 at n0_ n1_ n2_ n3_ ⊢
                  have BK341 := n0_
                  have BK356 := n1_
                  have HI336 := n2_
                  have HB := n3_
                  clear n0_ n1_ n2_ n3_
                  have n0_ := Aside0.mk (blk_drew BK341.out)
                  have n1_ := Aside0.mk (blk_drew BK356.out)
                  have n2_ := Aside0.mk (IsS64.drew HI336.out)
                  have n3_ := Aside0.mk (below_drew1 HB.out)
                  clear BK341
                  clear BK356
                  clear HI336
                  clear HB
                  have BK341 := n0_
                  have BK356 := n1_
                  have HI336 := n2_
                  have HB := n3_
                  clear n0_ n1_ n2_ n3_
                  refine start_ (n := 9) (S := fun w' => w'.cell? ⟨gb341, 0, none⟩ = some (.int .i64 t345) ∧ w'.cell? ⟨gb341, 1, none⟩ = some (.int .i64 t346) ∧ w'.cell? ⟨gb341, 2, none⟩ = some (.int .i64 t347) ∧ w'.cell? ⟨gb341, 3, none⟩ = some (.bool t348)) (ds := []) #[false, false, false, false, false, false, false, false, false] (by kernel_rfl) rfl rfl ⟨(blk_cell BK341.out 0).trans rfl, (blk_cell BK341.out 1).trans rfl, (blk_cell BK341.out 2).trans rfl, (blk_cell BK341.out 3).trans rfl⟩ (fun hHeld => ?_); refine with_tabW styluslaw10_FusePlays.tab16 styluslaw10_FusePlays.bits16 (fun HT_ HW_ => ?_)
                  generalize w48.drew = w49 at BK341 BK356 HI336 HB hHeld ⊢
                  refine pure_ (i := 0) (N := some 48) (v := ?_) (a' := ?_) #[true, false, false, false, false, false, false, false, false] rfl rfl (any_of HT_.out (by kernel_rfl)) (fun _ _ _ h => h) (Or.inl ⟨by rfl, ?_⟩) ?_ ?_
                  rotate_left
                  · intro w'
                    go_simp
                    with_reducible rfl
                  rotate_left
                  · simp only [Act.put, List.setIfInBounds_toArray, List.set_cons_zero, List.set_cons_succ, i64_w, i32_w]
                    rfl
                  refine pure_ (i := 1) (N := some 49) (v := ?_) (a' := ?_) #[true, true, false, false, false, false, false, false, false] rfl rfl (any_of HT_.out (by kernel_rfl)) (fun _ _ _ h => h) (Or.inl ⟨by rfl, ?_⟩) ?_ ?_
                  rotate_left
                  · intro w'
                    go_simp
                    with_reducible rfl
                  rotate_left
                  · simp only [Act.put, List.setIfInBounds_toArray, List.set_cons_zero, List.set_cons_succ, i64_w, i32_w]
                    rfl
                  refine pure_ (i := 2) (N := some 50) (v := ?_) (a' := ?_) #[true, true, true, false, false, false, false, false, false] rfl rfl (any_of HT_.out (by kernel_rfl)) (fun _ _ _ h => h) (Or.inl ⟨by rfl, ?_⟩) ?_ ?_
                  rotate_left
                  · intro w'
                    go_simp
                    with_reducible rfl
                  rotate_left
                  · simp only [Act.put, List.setIfInBounds_toArray, List.set_cons_zero, List.set_cons_succ, i64_w, i32_w]
                    rfl
                  refine pure_ (i := 3) (N := some 51) (v := ?_) (a' := ?_) #[true, true, true, true, false, false, false, false, false] rfl rfl (any_of HT_.out (by kernel_rfl)) (fun _ _ _ h => h) (Or.inl ⟨by rfl, ?_⟩) ?_ ?_
                  rotate_left
                  · intro w'
                    go_simp
                    with_reducible rfl
                  rotate_left
                  · simp only [Act.put, List.setIfInBounds_toArray, List.set_cons_zero, List.set_cons_succ, i64_w, i32_w]
                    rfl
                  refine pure_ (i := 5) (N := some 53) (v := ?_) (a' := ?_) #[true, true, true, true, false, true, false, false, false] rfl rfl (any_of HT_.out (by kernel_rfl)) (fun _ _ _ h => h) (Or.inl ⟨by rfl, ?_⟩) ?_ ?_
                  rotate_left
                  · intro w'
                    go_simp
                    with_reducible rfl
                  rotate_left
                  · simp only [Act.put, List.setIfInBounds_toArray, List.set_cons_zero, List.set_cons_succ, i64_w, i32_w]
                    rfl
                  refine take_ (i := 6) (N := some 54) (v := ?_) (a' := ?_) #[true, true, true, true, false, true, true, false, false] rfl rfl (take_ofW HT_.out HW_.out (by kernel_rfl)) (fun _ _ _ h => h) (Or.inl ⟨by rfl, ?_⟩) hHeld ?_ ?_
                  rotate_left
                  · rintro w' ⟨s0, s1, s2, s3⟩
                    go_simp
                    with_reducible rfl
                  rotate_left
                  · simp only [Act.put, List.setIfInBounds_toArray, List.set_cons_zero, List.set_cons_succ, i64_w, i32_w]
                    rfl
                  refine one_ (i := 4) (N := some 52) #[true, true, true, true, true, true, true, false, false] rfl rfl (one_of HT_.out (by kernel_rfl)) (by decide) (fun K hK => ?_)
                  refine goes_ Try.func28 (by kernel_rfl) rfl #[.pointer (some ⟨g336, 0, none⟩)] (by rfl) rfl rfl (by (try simp only [List.map_toArray, List.map_cons, List.map_nil]); first | done | rfl | (simp only [List.length_drop, List.length_take]; rfl)) ?_
                  with_reducible refine (fuse_Fuse_Up.calls g336 t350 t351 t352 t353 t354 t355 t357 t358 t359 t360 t361 t362 t363 w _ ?side1 ?side2 A17.out).mono ?_
                  (case side1 => repeat (first | (with_reducible first | exact HI336.out | apply IsS64.alloc | apply IsS64.drewN | apply IsS64.drew | apply IsS64.set_0 | apply IsS64.set_1 | apply IsS64.set_2 | apply IsS64.set_3 | apply IsS64.set_4 | apply IsS64.set_5 | refine IsS64.far ?_ NB336_341.out _ | refine IsS64.far ?_ NB336_356.out _) | exact HI336.out))
                  (case side2 => repeat (first | (with_reducible first | exact HB.out | apply below_alloc | apply pw_below_drewN | apply below_drew1 | refine below_set ?_ (IsS64.ge HI336.out) | refine below_set ?_ GE341.out | refine below_set ?_ GE356.out) | exact HB.out))
                  rintro e w50 ⟨rfl, hi, hb, hk⟩
                  refine ⟨_, rfl, ?_⟩
                  have n0_ := Aside0.mk (KeepBut.blk hk (g' := gb341) (o := .cells #[.int .i64 t345, .int .i64 t346, .int .i64 t347, .bool t348] 55 (0, 0)) (by (with_reducible repeat (first | refine blk_drewN ?_ _ | refine blk_drew ?_ | refine blk_alloc ?_ _)); exact BK341.out) NB341_336.out (by simp))
                  have n1_ := Aside0.mk (KeepBut.blk hk (g' := gb356) (o := .cells #[.int .i64 t345, .int .i64 t346, .int .i64 t347, .bool t348] 55 (0, 0)) (by (with_reducible repeat (first | refine blk_drewN ?_ _ | refine blk_drew ?_ | refine blk_alloc ?_ _)); exact BK356.out) NB356_336.out (by simp))
                  have n2_ := Aside0.mk (hb)
                  have n3_ := Aside0.mk (hi)
                  clear BK341
                  clear BK356
                  clear HB
                  clear HI336
                  have BK341 := n0_
                  have BK356 := n1_
                  have HB := n2_
                  have HI336 := n3_
                  clear n0_ n1_ n2_ n3_
                  (try clear hb)
                  (try clear hb2)
                  (try clear hk)
                  (try clear hi)
                  refine hK.out _ _ ⟨(blk_cell BK341.out 0).trans rfl, (blk_cell BK341.out 1).trans rfl, (blk_cell BK341.out 2).trans rfl, (blk_cell BK341.out 3).trans rfl⟩ (fun hHeld => ?_)
                  clear hK K
                  refine norm_ (a' := ?_) ?_ ?_
                  rotate_left
                  · show Act.put _ (some 52) _ = _
                    simp only [Act.put, List.setIfInBounds_toArray, List.set_cons_zero, List.set_cons_succ, i64_w, i32_w]
                    rfl
                  refine pure_ (i := 7) (N := some 55) (v := ?_) (a' := ?_) #[true, true, true, true, true, true, true, true, false] rfl rfl (any_of HT_.out (by kernel_rfl)) (fun _ _ _ h => h) (Or.inl ⟨by rfl, ?_⟩) ?_ ?_
                  rotate_left
                  · intro w'
                    go_simp
                    with_reducible rfl
                  rotate_left
                  · simp only [Act.put, List.setIfInBounds_toArray, List.set_cons_zero, List.set_cons_succ, i64_w, i32_w]
                    rfl
                  refine pure_ (i := 8) (N := some 56) (v := ?_) (a' := ?_) #[true, true, true, true, true, true, true, true, true] rfl rfl (any_of HT_.out (by kernel_rfl)) (fun _ _ _ h => h) (Or.inl ⟨by rfl, ?_⟩) ?_ ?_
                  rotate_left
                  · intro w'
                    go_simp
                    with_reducible rfl
                  rotate_left
                  · simp only [Act.put, List.setIfInBounds_toArray, List.set_cons_zero, List.set_cons_succ, i64_w, i32_w]
                    rfl
                  refine done_ (done_of HT_.out (by kernel_rfl)) ?_
                  try go_wp2
                  go_roundg k1
                  case measure => have := HK1.out; omega
                  case rel => exact ⟨g336, (wrap64 (x5_1 + 1)), (t358), (t359), (t360), (t361), (t362), (t363), (t345), (t346), (t347), (t348), rfl, NB336_341, NB341_336, (by first | rfl | (simp; done) | (simp [*]; done)), H', ⟨by have := HK1.out; omega⟩, ⟨by (with_reducible repeat (first | refine blk_drewN ?_ _ | refine blk_drew ?_ | refine blk_alloc ?_ _)); exact BK341.out⟩, ⟨by repeat (first | (with_reducible first | exact HI336.out | apply IsS64.alloc | apply IsS64.drewN | apply IsS64.drew | apply IsS64.set_0 | apply IsS64.set_1 | apply IsS64.set_2 | apply IsS64.set_3 | apply IsS64.set_4 | apply IsS64.set_5 | refine IsS64.far ?_ NB336_341.out _ | refine IsS64.far ?_ NB336_356.out _) | exact HI336.out)⟩, ⟨by repeat (first | (with_reducible first | exact HB.out | apply below_alloc | apply pw_below_drewN | apply below_drew1 | refine below_set ?_ (IsS64.ge HI336.out) | refine below_set ?_ GE341.out | refine below_set ?_ GE356.out) | exact HB.out)⟩⟩
              · replace c16 := Bool.eq_false_iff.mpr c16
                subst c16
                have H1 : (some false) = some r := by rw [if_neg (show ¬ (false = true) by decide)] at H; exact H
                clear H
                have H := H1
                clear H1
                obtain rfl := Option.some.inj H
                have p343 : 0 ≤ (x5_1 : Int) := of_decide_eq_true (by first | (with_reducible assumption) | assumption)
                have q343 : x5_1 < (l0.length : Int) := of_decide_eq_true (by first | (with_reducible assumption) | assumption)
                obtain ⟨ad343, e343, hx343_0, hx343_1, hx343_2⟩ := at_T58 HR0.out x5_1 p343 q343
                cases e343
                replace hx343_0 := (HB.out.cell (World.block_lt_of_cell? w _ hx343_0)).trans hx343_0
                replace hx343_1 := (HB.out.cell (World.block_lt_of_cell? w _ hx343_1)).trans hx343_1
                replace hx343_2 := (HB.out.cell (World.block_lt_of_cell? w _ hx343_2)).trans hx343_2
                replace p343 := eq_true p343
                replace q343 := eq_true q343
                try go_wp2
                have n0_ := Aside0.mk (blk_drew BK341.out)
                have n1_ := Aside0.mk (IsS64.drew HI336.out)
                have n2_ := Aside0.mk (below_drew1 HB.out)
                clear BK341
                clear HI336
                clear HB
                have BK341 := n0_
                have HI336 := n1_
                have HB := n2_
                clear n0_ n1_ n2_
                have p344 : 0 ≤ (x5_1 : Int) := of_decide_eq_true (by first | (with_reducible assumption) | assumption)
                have q344 : x5_1 < (l0.length : Int) := of_decide_eq_true (by first | (with_reducible assumption) | assumption)
                obtain ⟨ad344, e344, hx344_0, hx344_1, hx344_2⟩ := at_T58 HR0.out x5_1 p344 q344
                have hw344_2 := hx344_2
                have hw344_1 := hx344_1
                have hw344_0 := hx344_0
                obtain rfl : ad343 = ad344 := (by injection e344)
                replace hx344_0 := (HB.out.cell (World.block_lt_of_cell? w _ hx344_0)).trans hx344_0
                replace hx344_1 := (HB.out.cell (World.block_lt_of_cell? w _ hx344_1)).trans hx344_1
                replace hx344_2 := (HB.out.cell (World.block_lt_of_cell? w _ hx344_2)).trans hx344_2
                replace p344 := eq_true p344
                replace q344 := eq_true q344
                refine start_ (n := 13) (S := fun w' => w'.cell? ⟨gb341, 0, none⟩ = some (.int .i64 x342000_1) ∧ w'.cell? ⟨gb341, 1, none⟩ = some (.int .i64 x342001_1) ∧ w'.cell? ⟨gb341, 2, none⟩ = some (.int .i64 x342002_1) ∧ w'.cell? ⟨gb341, 3, none⟩ = some (.bool x342003_1) ∧ w'.cell? (ad343.add ((x5_1).toNat * 3)) = some (.int .i64 ((rd_T58 l0 x5_1).f0)) ∧ w'.cell? ⟨(ad343.add ((x5_1).toNat * 3)).block, (ad343.add ((x5_1).toNat * 3)).off + 1, none⟩ = some (.int .i64 ((rd_T58 l0 x5_1).f1.f0)) ∧ w'.cell? ⟨(ad343.add ((x5_1).toNat * 3)).block, (ad343.add ((x5_1).toNat * 3)).off + 2, none⟩ = some (.int .i64 ((rd_T58 l0 x5_1).f1.f1))) (ds := []) #[false, false, false, false, false, false, false, false, false, false, false, false, false] (by kernel_rfl) rfl rfl ⟨(blk_cell BK341.out 0).trans rfl, (blk_cell BK341.out 1).trans rfl, (blk_cell BK341.out 2).trans rfl, (blk_cell BK341.out 3).trans rfl, ((HB.out.cell (World.block_lt_of_cell? w _ hw344_0)).trans hw344_0), ((HB.out.cell (World.block_lt_of_cell? w _ hw344_1)).trans hw344_1), ((HB.out.cell (World.block_lt_of_cell? w _ hw344_2)).trans hw344_2)⟩ (fun hHeld => ?_); refine with_tabW styluslaw10_FusePlays.tab14 styluslaw10_FusePlays.bits14 (fun HT_ HW_ => ?_)
                generalize wr.drew = w51 at BK341 HI336 HB hx344_0 hx344_1 hx344_2 hHeld ⊢
                refine pure_ (i := 0) (N := some 38) (v := ?_) (a' := ?_) #[true, false, false, false, false, false, false, false, false, false, false, false, false] rfl rfl (any_of HT_.out (by kernel_rfl)) (fun _ _ _ h => h) (Or.inl ⟨by rfl, ?_⟩) ?_ ?_
                rotate_left
                · intro w'
                  go_simp
                  with_reducible rfl
                rotate_left
                · simp only [Act.put, List.setIfInBounds_toArray, List.set_cons_zero, List.set_cons_succ, i64_w, i32_w]
                  rfl
                refine pure_ (i := 2) (N := some 40) (v := ?_) (a' := ?_) #[true, false, true, false, false, false, false, false, false, false, false, false, false] rfl rfl (any_of HT_.out (by kernel_rfl)) (fun _ _ _ h => h) (Or.inl ⟨by rfl, ?_⟩) ?_ ?_
                rotate_left
                · intro w'
                  go_simp
                  with_reducible rfl
                rotate_left
                · simp only [Act.put, List.setIfInBounds_toArray, List.set_cons_zero, List.set_cons_succ, i64_w, i32_w]
                  rfl
                refine pure_ (i := 3) (N := some 41) (v := ?_) (a' := ?_) #[true, false, true, true, false, false, false, false, false, false, false, false, false] rfl rfl (any_of HT_.out (by kernel_rfl)) (fun _ _ _ h => h) (Or.inl ⟨by rfl, ?_⟩) ?_ ?_
                rotate_left
                · intro w'
                  go_simp
                  with_reducible rfl
                rotate_left
                · simp only [Act.put, List.setIfInBounds_toArray, List.set_cons_zero, List.set_cons_succ, i64_w, i32_w]
                  rfl
                refine pure_ (i := 4) (N := some 42) (v := ?_) (a' := ?_) #[true, false, true, true, true, false, false, false, false, false, false, false, false] rfl rfl (any_of HT_.out (by kernel_rfl)) (fun _ _ _ h => h) (Or.inl ⟨by rfl, ?_⟩) ?_ ?_
                rotate_left
                · intro w'
                  go_simp
                  with_reducible rfl
                rotate_left
                · simp only [Act.put, List.setIfInBounds_toArray, List.set_cons_zero, List.set_cons_succ, i64_w, i32_w]
                  rfl
                refine take_ (i := 1) (N := some 39) (v := ?_) (a' := ?_) #[true, true, true, true, true, false, false, false, false, false, false, false, false] rfl rfl (take_ofW HT_.out HW_.out (by kernel_rfl)) (fun _ _ _ h => h) (Or.inl ⟨by rfl, ?_⟩) hHeld ?_ ?_
                rotate_left
                · rintro w' ⟨s0, s1, s2, s3, s4, s5, s6⟩
                  go_simp
                  with_reducible rfl
                rotate_left
                · simp only [Act.put, List.setIfInBounds_toArray, List.set_cons_zero, List.set_cons_succ, i64_w, i32_w]
                  rfl
                refine take_ (i := 5) (N := some 43) (v := ?_) (a' := ?_) #[true, true, true, true, true, true, false, false, false, false, false, false, false] rfl rfl (take_ofW HT_.out HW_.out (by kernel_rfl)) (fun _ _ _ h => h) (Or.inl ⟨by rfl, ?_⟩) hHeld ?_ ?_
                rotate_left
                · rintro w' ⟨s0, s1, s2, s3, s4, s5, s6⟩
                  go_simp
                  with_reducible rfl
                rotate_left
                · simp only [Act.put, List.setIfInBounds_toArray, List.set_cons_zero, List.set_cons_succ, i64_w, i32_w]
                  rfl
                refine join_ (σ := Nat) 2 #[true, true, true, true, true, true, true, true, true, true, true, false, false] (fun s_ => [(44, .tuple #[.agg #[.int .i64 t345, .int .i64 t346, .int .i64 t347, .bool t348], .bool false]), (7, .pointer (some ⟨s_, 0, none⟩)), (37, .tuple #[.agg #[.int .i64 t345, .int .i64 t346, .int .i64 t347, .bool t348], .bool false]), (45, .agg #[.int .i64 t345, .int .i64 t346, .int .i64 t347, .bool t348]), (46, .bool false)]) (fun s_ w' => (w'.cell? ⟨gb341, 0, none⟩ = some (.int .i64 x342000_1) ∧ w'.cell? ⟨gb341, 1, none⟩ = some (.int .i64 x342001_1) ∧ w'.cell? ⟨gb341, 2, none⟩ = some (.int .i64 x342002_1) ∧ w'.cell? ⟨gb341, 3, none⟩ = some (.bool x342003_1) ∧ w'.cell? (ad343.add ((x5_1).toNat * 3)) = some (.int .i64 ((rd_T58 l0 x5_1).f0)) ∧ w'.cell? ⟨(ad343.add ((x5_1).toNat * 3)).block, (ad343.add ((x5_1).toNat * 3)).off + 1, none⟩ = some (.int .i64 ((rd_T58 l0 x5_1).f1.f0)) ∧ w'.cell? ⟨(ad343.add ((x5_1).toNat * 3)).block, (ad343.add ((x5_1).toNat * 3)).off + 2, none⟩ = some (.int .i64 ((rd_T58 l0 x5_1).f1.f1))) ∧ (w'.heap[gb341]? = some (.cells #[.int .i64 x342000_1, .int .i64 x342001_1, .int .i64 x342002_1, .bool x342003_1] 55 (0, 0))) ∧ (w'.heap[s_]? = some (.cells #[.int .i64 0, .int .i64 0, .int .i64 0, .bool false] 55 (0, 0))) ∧ (w.heap.size ≤ s_) ∧ (w.heap.size ≤ s_) ∧ (g336 ≠ s_) ∧ (s_ ≠ g336) ∧ (gb341 ≠ s_) ∧ (s_ ≠ gb341) ∧ (IsS64 w w' g336 t350 t351 t352 t353 t354 t355) ∧ (Below w.heap.size w w')) ?_ ?_
                rotate_left
                · intro hCont
                  refine two_ (i := 6) (j := 10) (Ni := some 44) (Nj := some 7) #[true, true, true, true, true, true, true, false, false, false, false, false, false] #[true, true, true, true, true, true, false, false, false, false, true, false, false] rfl rfl rfl rfl (two_of HT_.out (by kernel_rfl)) (by decide) (by decide) (fun K hK => ?_) (fun K hK => ?_)
                  · skip
                    refine goes_ Try.func35 (by kernel_rfl) rfl #[.pointer (some ⟨g336, 0, none⟩), .agg #[.int .i64 x342000_1, .int .i64 x342001_1, .int .i64 x342002_1, .bool x342003_1], .agg #[.int .i64 ((rd_T58 l0 x5_1).f0), .int .i64 ((rd_T58 l0 x5_1).f1.f0), .int .i64 ((rd_T58 l0 x5_1).f1.f1)]] (by rfl) rfl rfl (by (try simp only [List.map_toArray, List.map_cons, List.map_nil]); first | done | rfl | (simp only [List.length_drop, List.length_take]; rfl)) ?_
                    with_reducible refine (styluslaw10_step.calls g336 x337000_1 x337001_1 x337002_1 x337003_1 x337004_1 x337005_1 x342000_1 x342001_1 x342002_1 x342003_1 ((rd_T58 l0 x5_1).f0) ((rd_T58 l0 x5_1).f1.f0) ((rd_T58 l0 x5_1).f1.f1) t345 t346 t347 t348 false t350 t351 t352 t353 t354 t355 w _ ?side1 ?side2 A15.out).mono ?_
                    (case side1 => repeat (first | (with_reducible first | exact HI336.out | apply IsS64.alloc | apply IsS64.drewN | apply IsS64.drew | apply IsS64.set_0 | apply IsS64.set_1 | apply IsS64.set_2 | apply IsS64.set_3 | apply IsS64.set_4 | apply IsS64.set_5 | refine IsS64.far ?_ NB336_341.out _) | exact HI336.out))
                    (case side2 => repeat (first | (with_reducible first | exact HB.out | apply below_alloc | apply pw_below_drewN | apply below_drew1 | refine below_set ?_ (IsS64.ge HI336.out) | refine below_set ?_ GE341.out) | exact HB.out))
                    rintro e w52 ⟨rfl, hi, hb, hk⟩
                    refine ⟨_, rfl, ?_⟩
                    have n0_ := Aside0.mk (KeepBut.blk hk (g' := gb341) (o := .cells #[.int .i64 x342000_1, .int .i64 x342001_1, .int .i64 x342002_1, .bool x342003_1] 55 (0, 0)) (by (with_reducible repeat (first | refine blk_drewN ?_ _ | refine blk_drew ?_ | refine blk_alloc ?_ _)); exact BK341.out) NB341_336.out (by simp))
                    have n1_ := Aside0.mk (hb)
                    have n2_ := Aside0.mk (hi)
                    clear BK341
                    clear HB
                    clear HI336
                    have BK341 := n0_
                    have HB := n1_
                    have HI336 := n2_
                    clear n0_ n1_ n2_
                    (try clear hb)
                    (try clear hb2)
                    (try clear hk)
                    (try clear hi)
                    refine hK.out _ _ ⟨(blk_cell BK341.out 0).trans rfl, (blk_cell BK341.out 1).trans rfl, (blk_cell BK341.out 2).trans rfl, (blk_cell BK341.out 3).trans rfl, ((HB.out.cell (World.block_lt_of_cell? w _ hw344_0)).trans hw344_0), ((HB.out.cell (World.block_lt_of_cell? w _ hw344_1)).trans hw344_1), ((HB.out.cell (World.block_lt_of_cell? w _ hw344_2)).trans hw344_2)⟩ (fun hHeld => ?_)
                    clear hK K
                    refine norm_ (a' := ?_) ?_ ?_
                    rotate_left
                    · show Act.put _ (some 44) _ = _
                      simp only [Act.put, List.setIfInBounds_toArray, List.set_cons_zero, List.set_cons_succ, i64_w, i32_w]
                      rfl
                    refine pure_ (i := 7) (N := some 37) (v := ?_) (a' := ?_) #[true, true, true, true, true, true, true, true, false, false, false, false, false] rfl rfl (any_of HT_.out (by kernel_rfl)) (fun _ _ _ h => h) (Or.inl ⟨by rfl, ?_⟩) ?_ ?_
                    rotate_left
                    · intro w'
                      go_simp
                      with_reducible rfl
                    rotate_left
                    · simp only [Act.put, List.setIfInBounds_toArray, List.set_cons_zero, List.set_cons_succ, i64_w, i32_w]
                      rfl
                    refine pure_ (i := 8) (N := some 45) (v := ?_) (a' := ?_) #[true, true, true, true, true, true, true, true, true, false, false, false, false] rfl rfl (any_of HT_.out (by kernel_rfl)) (fun _ _ _ h => h) (Or.inl ⟨by rfl, ?_⟩) ?_ ?_
                    rotate_left
                    · intro w'
                      go_simp
                      with_reducible rfl
                    rotate_left
                    · simp only [Act.put, List.setIfInBounds_toArray, List.set_cons_zero, List.set_cons_succ, i64_w, i32_w]
                      rfl
                    refine pure_ (i := 9) (N := some 46) (v := ?_) (a' := ?_) #[true, true, true, true, true, true, true, true, true, true, false, false, false] rfl rfl (any_of HT_.out (by kernel_rfl)) (fun _ _ _ h => h) (Or.inl ⟨by rfl, ?_⟩) ?_ ?_
                    rotate_left
                    · intro w'
                      go_simp
                      with_reducible rfl
                    rotate_left
                    · simp only [Act.put, List.setIfInBounds_toArray, List.set_cons_zero, List.set_cons_succ, i64_w, i32_w]
                      rfl
                    refine one_ (i := 10) (N := some 7) #[true, true, true, true, true, true, true, true, true, true, true, false, false] rfl rfl (one_of HT_.out (by kernel_rfl)) (by decide) (fun K hK => ?_)
                    refine box_step ?hg (N := 7) ?hd (cs := #[.int .i64 0, .int .i64 0, .int .i64 0, .bool false]) (t := 55) ?hr ?_; (case hd => rfl); (case hg => rfl); (case hr => first | (go_simp; done) | (go_simp; rfl))
                    intro gb356 hg w53 hbox hb
                    have n0_ := Aside0.mk (blk_below (g := gb341) (o := .cells #[.int .i64 x342000_1, .int .i64 x342001_1, .int .i64 x342002_1, .bool x342003_1] 55 (0, 0)) (by (with_reducible repeat (first | refine blk_drewN ?_ _ | refine blk_drew ?_ | refine blk_alloc ?_ _)); exact BK341.out) hb)
                    have n1_ := Aside0.mk (IsS64.below (by repeat (first | (with_reducible first | exact HI336.out | apply IsS64.alloc | apply IsS64.drewN | apply IsS64.drew | apply IsS64.set_0 | apply IsS64.set_1 | apply IsS64.set_2 | apply IsS64.set_3 | apply IsS64.set_4 | apply IsS64.set_5 | refine IsS64.far ?_ NB336_341.out _) | exact HI336.out)) hb)
                    have n2_ := Aside0.mk (below_step (by repeat (first | (with_reducible first | exact HB.out | apply below_alloc | apply pw_below_drewN | apply below_drew1 | refine below_set ?_ (IsS64.ge HI336.out) | refine below_set ?_ GE341.out) | exact HB.out)) hb)
                    have n3_ := Aside0.mk (hbox)
                    have n4_ := Aside0.mk ((by rw [hg]; exact (below_size (by repeat (first | (with_reducible first | exact HB.out | apply below_alloc | apply pw_below_drewN | apply below_drew1 | refine below_set ?_ (IsS64.ge HI336.out) | refine below_set ?_ GE341.out) | exact HB.out))) : w.heap.size ≤ gb356))
                    have n5_ := Aside0.mk ((by rw [hg]; exact (below_size (by repeat (first | (with_reducible first | exact HB.out | apply below_alloc | apply pw_below_drewN | apply below_drew1 | refine below_set ?_ (IsS64.ge HI336.out) | refine below_set ?_ GE341.out) | exact HB.out))) : w.heap.size ≤ gb356))
                    have n6_ := Aside0.mk ((by rw [hg]; exact Nat.ne_of_lt (blk_lt (g := gb341) (o := .cells #[.int .i64 x342000_1, .int .i64 x342001_1, .int .i64 x342002_1, .bool x342003_1] 55 (0, 0)) (by (with_reducible repeat (first | refine blk_drewN ?_ _ | refine blk_drew ?_ | refine blk_alloc ?_ _)); exact BK341.out)) : gb341 ≠ gb356))
                    have n7_ := Aside0.mk ((by rw [hg]; exact Nat.ne_of_gt (blk_lt (g := gb341) (o := .cells #[.int .i64 x342000_1, .int .i64 x342001_1, .int .i64 x342002_1, .bool x342003_1] 55 (0, 0)) (by (with_reducible repeat (first | refine blk_drewN ?_ _ | refine blk_drew ?_ | refine blk_alloc ?_ _)); exact BK341.out)) : gb356 ≠ gb341))
                    have n8_ := Aside0.mk ((by rw [hg]; exact Nat.ne_of_lt (IsS64.lt (show IsS64 w _ g336 t350 t351 t352 t353 t354 t355 from by repeat (first | (with_reducible first | exact HI336.out | apply IsS64.alloc | apply IsS64.drewN | apply IsS64.drew | apply IsS64.set_0 | apply IsS64.set_1 | apply IsS64.set_2 | apply IsS64.set_3 | apply IsS64.set_4 | apply IsS64.set_5 | refine IsS64.far ?_ NB336_341.out _) | exact HI336.out))) : g336 ≠ gb356))
                    have n9_ := Aside0.mk ((by rw [hg]; exact Nat.ne_of_gt (IsS64.lt (show IsS64 w _ g336 t350 t351 t352 t353 t354 t355 from by repeat (first | (with_reducible first | exact HI336.out | apply IsS64.alloc | apply IsS64.drewN | apply IsS64.drew | apply IsS64.set_0 | apply IsS64.set_1 | apply IsS64.set_2 | apply IsS64.set_3 | apply IsS64.set_4 | apply IsS64.set_5 | refine IsS64.far ?_ NB336_341.out _) | exact HI336.out))) : gb356 ≠ g336))
                    clear BK341
                    clear HI336
                    clear HB
                    have BK341 := n0_
                    have HI336 := n1_
                    have HB := n2_
                    have BK356 := n3_
                    have GW356 := n4_
                    have GE356 := n5_
                    have NB341_356 := n6_
                    have NB356_341 := n7_
                    have NB336_356 := n8_
                    have NB356_336 := n9_
                    clear n0_ n1_ n2_ n3_ n4_ n5_ n6_ n7_ n8_ n9_
                    clear hb hbox hg
                    refine hK.out _ _ ⟨(blk_cell BK341.out 0).trans rfl, (blk_cell BK341.out 1).trans rfl, (blk_cell BK341.out 2).trans rfl, (blk_cell BK341.out 3).trans rfl, ((HB.out.cell (World.block_lt_of_cell? w _ hw344_0)).trans hw344_0), ((HB.out.cell (World.block_lt_of_cell? w _ hw344_1)).trans hw344_1), ((HB.out.cell (World.block_lt_of_cell? w _ hw344_2)).trans hw344_2)⟩ (fun hHeld => ?_)
                    clear hK K
                    refine norm_ (a' := ?_) ?_ ?_
                    rotate_left
                    · show Act.put _ (some 7) _ = _
                      simp only [Act.put, List.setIfInBounds_toArray, List.set_cons_zero, List.set_cons_succ, i64_w, i32_w]
                      rfl
                    exact norm_ (by simp only [putAll, Act.put, List.setIfInBounds_toArray, List.set_cons_zero, List.set_cons_succ]) (hCont (gb356) _ ⟨hHeld, (by (with_reducible repeat (first | refine blk_drewN ?_ _ | refine blk_drew ?_ | refine blk_alloc ?_ _)); exact BK341.out), (by (with_reducible repeat (first | refine blk_drewN ?_ _ | refine blk_drew ?_ | refine blk_alloc ?_ _)); exact BK356.out), GW356.out, GE356.out, NB336_356.out, NB356_336.out, NB341_356.out, NB356_341.out, (by repeat (first | (with_reducible first | exact HI336.out | apply IsS64.alloc | apply IsS64.drewN | apply IsS64.drew | apply IsS64.set_0 | apply IsS64.set_1 | apply IsS64.set_2 | apply IsS64.set_3 | apply IsS64.set_4 | apply IsS64.set_5 | refine IsS64.far ?_ NB336_341.out _ | refine IsS64.far ?_ NB336_356.out _) | exact HI336.out)), (by repeat (first | (with_reducible first | exact HB.out | apply below_alloc | apply pw_below_drewN | apply below_drew1 | refine below_set ?_ (IsS64.ge HI336.out) | refine below_set ?_ GE341.out | refine below_set ?_ GE356.out) | exact HB.out))⟩)
                  · skip
                    refine box_step ?hg (N := 7) ?hd (cs := #[.int .i64 0, .int .i64 0, .int .i64 0, .bool false]) (t := 55) ?hr ?_; (case hd => rfl); (case hg => rfl); (case hr => first | (go_simp; done) | (go_simp; rfl))
                    intro gb356 hg w52 hbox hb
                    have n0_ := Aside0.mk (blk_below (g := gb341) (o := .cells #[.int .i64 x342000_1, .int .i64 x342001_1, .int .i64 x342002_1, .bool x342003_1] 55 (0, 0)) (by (with_reducible repeat (first | refine blk_drewN ?_ _ | refine blk_drew ?_ | refine blk_alloc ?_ _)); exact BK341.out) hb)
                    have n1_ := Aside0.mk (IsS64.below (by repeat (first | (with_reducible first | exact HI336.out | apply IsS64.alloc | apply IsS64.drewN | apply IsS64.drew | apply IsS64.set_0 | apply IsS64.set_1 | apply IsS64.set_2 | apply IsS64.set_3 | apply IsS64.set_4 | apply IsS64.set_5 | refine IsS64.far ?_ NB336_341.out _) | exact HI336.out)) hb)
                    have n2_ := Aside0.mk (below_step (by repeat (first | (with_reducible first | exact HB.out | apply below_alloc | apply pw_below_drewN | apply below_drew1 | refine below_set ?_ (IsS64.ge HI336.out) | refine below_set ?_ GE341.out) | exact HB.out)) hb)
                    have n3_ := Aside0.mk (hbox)
                    have n4_ := Aside0.mk ((by rw [hg]; exact (below_size (by repeat (first | (with_reducible first | exact HB.out | apply below_alloc | apply pw_below_drewN | apply below_drew1 | refine below_set ?_ (IsS64.ge HI336.out) | refine below_set ?_ GE341.out) | exact HB.out))) : w.heap.size ≤ gb356))
                    have n5_ := Aside0.mk ((by rw [hg]; exact (below_size (by repeat (first | (with_reducible first | exact HB.out | apply below_alloc | apply pw_below_drewN | apply below_drew1 | refine below_set ?_ (IsS64.ge HI336.out) | refine below_set ?_ GE341.out) | exact HB.out))) : w.heap.size ≤ gb356))
                    have n6_ := Aside0.mk ((by rw [hg]; exact Nat.ne_of_lt (blk_lt (g := gb341) (o := .cells #[.int .i64 x342000_1, .int .i64 x342001_1, .int .i64 x342002_1, .bool x342003_1] 55 (0, 0)) (by (with_reducible repeat (first | refine blk_drewN ?_ _ | refine blk_drew ?_ | refine blk_alloc ?_ _)); exact BK341.out)) : gb341 ≠ gb356))
                    have n7_ := Aside0.mk ((by rw [hg]; exact Nat.ne_of_gt (blk_lt (g := gb341) (o := .cells #[.int .i64 x342000_1, .int .i64 x342001_1, .int .i64 x342002_1, .bool x342003_1] 55 (0, 0)) (by (with_reducible repeat (first | refine blk_drewN ?_ _ | refine blk_drew ?_ | refine blk_alloc ?_ _)); exact BK341.out)) : gb356 ≠ gb341))
                    have n8_ := Aside0.mk ((by rw [hg]; exact Nat.ne_of_lt (IsS64.lt (show IsS64 w _ g336 x337000_1 x337001_1 x337002_1 x337003_1 x337004_1 x337005_1 from by repeat (first | (with_reducible first | exact HI336.out | apply IsS64.alloc | apply IsS64.drewN | apply IsS64.drew | apply IsS64.set_0 | apply IsS64.set_1 | apply IsS64.set_2 | apply IsS64.set_3 | apply IsS64.set_4 | apply IsS64.set_5 | refine IsS64.far ?_ NB336_341.out _) | exact HI336.out))) : g336 ≠ gb356))
                    have n9_ := Aside0.mk ((by rw [hg]; exact Nat.ne_of_gt (IsS64.lt (show IsS64 w _ g336 x337000_1 x337001_1 x337002_1 x337003_1 x337004_1 x337005_1 from by repeat (first | (with_reducible first | exact HI336.out | apply IsS64.alloc | apply IsS64.drewN | apply IsS64.drew | apply IsS64.set_0 | apply IsS64.set_1 | apply IsS64.set_2 | apply IsS64.set_3 | apply IsS64.set_4 | apply IsS64.set_5 | refine IsS64.far ?_ NB336_341.out _) | exact HI336.out))) : gb356 ≠ g336))
                    clear BK341
                    clear HI336
                    clear HB
                    have BK341 := n0_
                    have HI336 := n1_
                    have HB := n2_
                    have BK356 := n3_
                    have GW356 := n4_
                    have GE356 := n5_
                    have NB341_356 := n6_
                    have NB356_341 := n7_
                    have NB336_356 := n8_
                    have NB356_336 := n9_
                    clear n0_ n1_ n2_ n3_ n4_ n5_ n6_ n7_ n8_ n9_
                    clear hb hbox hg
                    refine hK.out _ _ ⟨(blk_cell BK341.out 0).trans rfl, (blk_cell BK341.out 1).trans rfl, (blk_cell BK341.out 2).trans rfl, (blk_cell BK341.out 3).trans rfl, ((HB.out.cell (World.block_lt_of_cell? w _ hw344_0)).trans hw344_0), ((HB.out.cell (World.block_lt_of_cell? w _ hw344_1)).trans hw344_1), ((HB.out.cell (World.block_lt_of_cell? w _ hw344_2)).trans hw344_2)⟩ (fun hHeld => ?_)
                    clear hK K
                    refine norm_ (a' := ?_) ?_ ?_
                    rotate_left
                    · show Act.put _ (some 7) _ = _
                      simp only [Act.put, List.setIfInBounds_toArray, List.set_cons_zero, List.set_cons_succ, i64_w, i32_w]
                      rfl
                    refine one_ (i := 6) (N := some 44) #[true, true, true, true, true, true, true, false, false, false, true, false, false] rfl rfl (one_of HT_.out (by kernel_rfl)) (by decide) (fun K hK => ?_)
                    refine goes_ Try.func35 (by kernel_rfl) rfl #[.pointer (some ⟨g336, 0, none⟩), .agg #[.int .i64 x342000_1, .int .i64 x342001_1, .int .i64 x342002_1, .bool x342003_1], .agg #[.int .i64 ((rd_T58 l0 x5_1).f0), .int .i64 ((rd_T58 l0 x5_1).f1.f0), .int .i64 ((rd_T58 l0 x5_1).f1.f1)]] (by rfl) rfl rfl (by (try simp only [List.map_toArray, List.map_cons, List.map_nil]); first | done | rfl | (simp only [List.length_drop, List.length_take]; rfl)) ?_
                    with_reducible refine (styluslaw10_step.calls g336 x337000_1 x337001_1 x337002_1 x337003_1 x337004_1 x337005_1 x342000_1 x342001_1 x342002_1 x342003_1 ((rd_T58 l0 x5_1).f0) ((rd_T58 l0 x5_1).f1.f0) ((rd_T58 l0 x5_1).f1.f1) t345 t346 t347 t348 false t350 t351 t352 t353 t354 t355 w _ ?side1 ?side2 A15.out).mono ?_
                    (case side1 => repeat (first | (with_reducible first | exact HI336.out | apply IsS64.alloc | apply IsS64.drewN | apply IsS64.drew | apply IsS64.set_0 | apply IsS64.set_1 | apply IsS64.set_2 | apply IsS64.set_3 | apply IsS64.set_4 | apply IsS64.set_5 | refine IsS64.far ?_ NB336_341.out _ | refine IsS64.far ?_ NB336_356.out _) | exact HI336.out))
                    (case side2 => repeat (first | (with_reducible first | exact HB.out | apply below_alloc | apply pw_below_drewN | apply below_drew1 | refine below_set ?_ (IsS64.ge HI336.out) | refine below_set ?_ GE341.out | refine below_set ?_ GE356.out) | exact HB.out))
                    rintro e w53 ⟨rfl, hi, hb, hk⟩
                    refine ⟨_, rfl, ?_⟩
                    have n0_ := Aside0.mk (KeepBut.blk hk (g' := gb341) (o := .cells #[.int .i64 x342000_1, .int .i64 x342001_1, .int .i64 x342002_1, .bool x342003_1] 55 (0, 0)) (by (with_reducible repeat (first | refine blk_drewN ?_ _ | refine blk_drew ?_ | refine blk_alloc ?_ _)); exact BK341.out) NB341_336.out (by simp))
                    have n1_ := Aside0.mk (KeepBut.blk hk (g' := gb356) (o := .cells #[.int .i64 0, .int .i64 0, .int .i64 0, .bool false] 55 (0, 0)) (by (with_reducible repeat (first | refine blk_drewN ?_ _ | refine blk_drew ?_ | refine blk_alloc ?_ _)); exact BK356.out) NB356_336.out (by simp))
                    have n2_ := Aside0.mk (hb)
                    have n3_ := Aside0.mk (hi)
                    clear BK341
                    clear BK356
                    clear HB
                    clear HI336
                    have BK341 := n0_
                    have BK356 := n1_
                    have HB := n2_
                    have HI336 := n3_
                    clear n0_ n1_ n2_ n3_
                    (try clear hb)
                    (try clear hb2)
                    (try clear hk)
                    (try clear hi)
                    refine hK.out _ _ ⟨(blk_cell BK341.out 0).trans rfl, (blk_cell BK341.out 1).trans rfl, (blk_cell BK341.out 2).trans rfl, (blk_cell BK341.out 3).trans rfl, ((HB.out.cell (World.block_lt_of_cell? w _ hw344_0)).trans hw344_0), ((HB.out.cell (World.block_lt_of_cell? w _ hw344_1)).trans hw344_1), ((HB.out.cell (World.block_lt_of_cell? w _ hw344_2)).trans hw344_2)⟩ (fun hHeld => ?_)
                    clear hK K
                    refine norm_ (a' := ?_) ?_ ?_
                    rotate_left
                    · show Act.put _ (some 44) _ = _
                      simp only [Act.put, List.setIfInBounds_toArray, List.set_cons_zero, List.set_cons_succ, i64_w, i32_w]
                      rfl
                    refine pure_ (i := 7) (N := some 37) (v := ?_) (a' := ?_) #[true, true, true, true, true, true, true, true, false, false, true, false, false] rfl rfl (any_of HT_.out (by kernel_rfl)) (fun _ _ _ h => h) (Or.inl ⟨by rfl, ?_⟩) ?_ ?_
                    rotate_left
                    · intro w'
                      go_simp
                      with_reducible rfl
                    rotate_left
                    · simp only [Act.put, List.setIfInBounds_toArray, List.set_cons_zero, List.set_cons_succ, i64_w, i32_w]
                      rfl
                    refine pure_ (i := 8) (N := some 45) (v := ?_) (a' := ?_) #[true, true, true, true, true, true, true, true, true, false, true, false, false] rfl rfl (any_of HT_.out (by kernel_rfl)) (fun _ _ _ h => h) (Or.inl ⟨by rfl, ?_⟩) ?_ ?_
                    rotate_left
                    · intro w'
                      go_simp
                      with_reducible rfl
                    rotate_left
                    · simp only [Act.put, List.setIfInBounds_toArray, List.set_cons_zero, List.set_cons_succ, i64_w, i32_w]
                      rfl
                    refine pure_ (i := 9) (N := some 46) (v := ?_) (a' := ?_) #[true, true, true, true, true, true, true, true, true, true, true, false, false] rfl rfl (any_of HT_.out (by kernel_rfl)) (fun _ _ _ h => h) (Or.inl ⟨by rfl, ?_⟩) ?_ ?_
                    rotate_left
                    · intro w'
                      go_simp
                      with_reducible rfl
                    rotate_left
                    · simp only [Act.put, List.setIfInBounds_toArray, List.set_cons_zero, List.set_cons_succ, i64_w, i32_w]
                      rfl
                    exact norm_ (by simp only [putAll, Act.put, List.setIfInBounds_toArray, List.set_cons_zero, List.set_cons_succ]) (hCont (gb356) _ ⟨hHeld, (by (with_reducible repeat (first | refine blk_drewN ?_ _ | refine blk_drew ?_ | refine blk_alloc ?_ _)); exact BK341.out), (by (with_reducible repeat (first | refine blk_drewN ?_ _ | refine blk_drew ?_ | refine blk_alloc ?_ _)); exact BK356.out), GW356.out, GE356.out, NB336_356.out, NB356_336.out, NB341_356.out, NB356_341.out, (by repeat (first | (with_reducible first | exact HI336.out | apply IsS64.alloc | apply IsS64.drewN | apply IsS64.drew | apply IsS64.set_0 | apply IsS64.set_1 | apply IsS64.set_2 | apply IsS64.set_3 | apply IsS64.set_4 | apply IsS64.set_5 | refine IsS64.far ?_ NB336_341.out _ | refine IsS64.far ?_ NB336_356.out _) | exact HI336.out)), (by repeat (first | (with_reducible first | exact HB.out | apply below_alloc | apply pw_below_drewN | apply below_drew1 | refine below_set ?_ (IsS64.ge HI336.out) | refine below_set ?_ GE341.out | refine below_set ?_ GE356.out) | exact HB.out))⟩)
                rintro gb356 w54 ⟨hS_, h0_, h1_, h2_, h3_, h4_, h5_, h6_, h7_, h8_, h9_⟩
                have n0_ : Aside0 (w54.heap[gb341]? = some (.cells #[.int .i64 x342000_1, .int .i64 x342001_1, .int .i64 x342002_1, .bool x342003_1] 55 (0, 0))) := ⟨h0_⟩
                have n1_ : Aside0 (w54.heap[gb356]? = some (.cells #[.int .i64 0, .int .i64 0, .int .i64 0, .bool false] 55 (0, 0))) := ⟨h1_⟩
                have n2_ : Aside0 (w.heap.size ≤ gb356) := ⟨h2_⟩
                have n3_ : Aside0 (w.heap.size ≤ gb356) := ⟨h3_⟩
                have n4_ : Aside0 (g336 ≠ gb356) := ⟨h4_⟩
                have n5_ : Aside0 (gb356 ≠ g336) := ⟨h5_⟩
                have n6_ : Aside0 (gb341 ≠ gb356) := ⟨h6_⟩
                have n7_ : Aside0 (gb356 ≠ gb341) := ⟨h7_⟩
                have n8_ : Aside0 (IsS64 w w54 g336 t350 t351 t352 t353 t354 t355) := ⟨h8_⟩
                have n9_ : Aside0 (Below w.heap.size w w54) := ⟨h9_⟩
                clear BK341
                clear HI336
                clear HB
                clear h0_ h1_ h2_ h3_ h4_ h5_ h6_ h7_ h8_ h9_
                have BK341 := n0_
                have BK356 := n1_
                have GW356 := n2_
                have GE356 := n3_
                have NB336_356 := n4_
                have NB356_336 := n5_
                have NB341_356 := n6_
                have NB356_341 := n7_
                have HI336 := n8_
                have HB := n9_
                clear n0_ n1_ n2_ n3_ n4_ n5_ n6_ n7_ n8_ n9_
                have hHeld : w54.cell? ⟨gb341, 0, none⟩ = some (.int .i64 x342000_1) ∧ w54.cell? ⟨gb341, 1, none⟩ = some (.int .i64 x342001_1) ∧ w54.cell? ⟨gb341, 2, none⟩ = some (.int .i64 x342002_1) ∧ w54.cell? ⟨gb341, 3, none⟩ = some (.bool x342003_1) ∧ w54.cell? (ad343.add ((x5_1).toNat * 3)) = some (.int .i64 ((rd_T58 l0 x5_1).f0)) ∧ w54.cell? ⟨(ad343.add ((x5_1).toNat * 3)).block, (ad343.add ((x5_1).toNat * 3)).off + 1, none⟩ = some (.int .i64 ((rd_T58 l0 x5_1).f1.f0)) ∧ w54.cell? ⟨(ad343.add ((x5_1).toNat * 3)).block, (ad343.add ((x5_1).toNat * 3)).off + 2, none⟩ = some (.int .i64 ((rd_T58 l0 x5_1).f1.f1)) := hS_
                refine norm_ (a' := ?_) ?_ ?_
                rotate_left
                · simp only [putAll, Act.put, List.setIfInBounds_toArray, List.set_cons_zero, List.set_cons_succ]
                  rfl
                refine one_ (i := 11) (N := none) #[true, true, true, true, true, true, true, true, true, true, true, true, false] rfl rfl (one_of HT_.out (by kernel_rfl)) (by decide) (fun K hK => ?_)
                have hs55 : w54.cell? ⟨gb356, 0, none⟩ = some (.int .i64 0) := (blk_cell BK356.out 0).trans rfl
                have hfs55 := blk_frozen BK356.out 0
                have hns55_0 := NB341_356.out
                have hms55_0 := NB356_341.out
                have hs56 : w54.cell? ⟨gb356, 1, none⟩ = some (.int .i64 0) := (blk_cell BK356.out 1).trans rfl
                have hfs56 := blk_frozen BK356.out 1
                have hns56_0 := NB341_356.out
                have hms56_0 := NB356_341.out
                have hs57 : w54.cell? ⟨gb356, 2, none⟩ = some (.int .i64 0) := (blk_cell BK356.out 2).trans rfl
                have hfs57 := blk_frozen BK356.out 2
                have hns57_0 := NB341_356.out
                have hms57_0 := NB356_341.out
                have hs58 : w54.cell? ⟨gb356, 3, none⟩ = some (.bool false) := (blk_cell BK356.out 3).trans rfl
                have hfs58 := blk_frozen BK356.out 3
                have hns58_0 := NB341_356.out
                have hms58_0 := NB356_341.out
                refine skip_ (w1 := ?_) (by rfl) rfl ?_ ?_
                rotate_left
                · go_simp
                  rfl
                refine hK.out _ _ ⟨((cell_far (p := ⟨gb356, _, none⟩) NB341_356.out _).trans (((cell_far (p := ⟨gb356, _, none⟩) NB341_356.out _).trans (((cell_far (p := ⟨gb356, _, none⟩) NB341_356.out _).trans (((cell_far (p := ⟨gb356, _, none⟩) NB341_356.out _).trans (hHeld.1)))))))), ((cell_far (p := ⟨gb356, _, none⟩) NB341_356.out _).trans (((cell_far (p := ⟨gb356, _, none⟩) NB341_356.out _).trans (((cell_far (p := ⟨gb356, _, none⟩) NB341_356.out _).trans (((cell_far (p := ⟨gb356, _, none⟩) NB341_356.out _).trans (hHeld.2.1)))))))), ((cell_far (p := ⟨gb356, _, none⟩) NB341_356.out _).trans (((cell_far (p := ⟨gb356, _, none⟩) NB341_356.out _).trans (((cell_far (p := ⟨gb356, _, none⟩) NB341_356.out _).trans (((cell_far (p := ⟨gb356, _, none⟩) NB341_356.out _).trans (hHeld.2.2.1)))))))), ((cell_far (p := ⟨gb356, _, none⟩) NB341_356.out _).trans (((cell_far (p := ⟨gb356, _, none⟩) NB341_356.out _).trans (((cell_far (p := ⟨gb356, _, none⟩) NB341_356.out _).trans (((cell_far (p := ⟨gb356, _, none⟩) NB341_356.out _).trans (hHeld.2.2.2.1)))))))), ((cell_far (p := ⟨gb356, _, none⟩) (by first | exact Nat.ne_of_lt (Nat.lt_of_lt_of_le (by have := World.block_lt_of_cell? _ _ hw344_0; first | rwa [add_block] at this | exact this) GW356.out) | (rw [add_block]; exact Nat.ne_of_lt (Nat.lt_of_lt_of_le (by have := World.block_lt_of_cell? _ _ hw344_0; first | rwa [add_block] at this | exact this) GW356.out)) | (show (Addr.add _ _).block ≠ _; rw [add_block]; exact Nat.ne_of_lt (Nat.lt_of_lt_of_le (by have := World.block_lt_of_cell? _ _ hw344_0; first | rwa [add_block] at this | exact this) GW356.out)) | (dsimp only; exact Nat.ne_of_lt (Nat.lt_of_lt_of_le (by have := World.block_lt_of_cell? _ _ hw344_0; first | rwa [add_block] at this | exact this) GW356.out))) _).trans (((cell_far (p := ⟨gb356, _, none⟩) (by first | exact Nat.ne_of_lt (Nat.lt_of_lt_of_le (by have := World.block_lt_of_cell? _ _ hw344_0; first | rwa [add_block] at this | exact this) GW356.out) | (rw [add_block]; exact Nat.ne_of_lt (Nat.lt_of_lt_of_le (by have := World.block_lt_of_cell? _ _ hw344_0; first | rwa [add_block] at this | exact this) GW356.out)) | (show (Addr.add _ _).block ≠ _; rw [add_block]; exact Nat.ne_of_lt (Nat.lt_of_lt_of_le (by have := World.block_lt_of_cell? _ _ hw344_0; first | rwa [add_block] at this | exact this) GW356.out)) | (dsimp only; exact Nat.ne_of_lt (Nat.lt_of_lt_of_le (by have := World.block_lt_of_cell? _ _ hw344_0; first | rwa [add_block] at this | exact this) GW356.out))) _).trans (((cell_far (p := ⟨gb356, _, none⟩) (by first | exact Nat.ne_of_lt (Nat.lt_of_lt_of_le (by have := World.block_lt_of_cell? _ _ hw344_0; first | rwa [add_block] at this | exact this) GW356.out) | (rw [add_block]; exact Nat.ne_of_lt (Nat.lt_of_lt_of_le (by have := World.block_lt_of_cell? _ _ hw344_0; first | rwa [add_block] at this | exact this) GW356.out)) | (show (Addr.add _ _).block ≠ _; rw [add_block]; exact Nat.ne_of_lt (Nat.lt_of_lt_of_le (by have := World.block_lt_of_cell? _ _ hw344_0; first | rwa [add_block] at this | exact this) GW356.out)) | (dsimp only; exact Nat.ne_of_lt (Nat.lt_of_lt_of_le (by have := World.block_lt_of_cell? _ _ hw344_0; first | rwa [add_block] at this | exact this) GW356.out))) _).trans (((cell_far (p := ⟨gb356, _, none⟩) (by first | exact Nat.ne_of_lt (Nat.lt_of_lt_of_le (by have := World.block_lt_of_cell? _ _ hw344_0; first | rwa [add_block] at this | exact this) GW356.out) | (rw [add_block]; exact Nat.ne_of_lt (Nat.lt_of_lt_of_le (by have := World.block_lt_of_cell? _ _ hw344_0; first | rwa [add_block] at this | exact this) GW356.out)) | (show (Addr.add _ _).block ≠ _; rw [add_block]; exact Nat.ne_of_lt (Nat.lt_of_lt_of_le (by have := World.block_lt_of_cell? _ _ hw344_0; first | rwa [add_block] at this | exact this) GW356.out)) | (dsimp only; exact Nat.ne_of_lt (Nat.lt_of_lt_of_le (by have := World.block_lt_of_cell? _ _ hw344_0; first | rwa [add_block] at this | exact this) GW356.out))) _).trans (hHeld.2.2.2.2.1)))))))), ((cell_far (p := ⟨gb356, _, none⟩) (by first | exact Nat.ne_of_lt (Nat.lt_of_lt_of_le (by have := World.block_lt_of_cell? _ _ hw344_1; first | rwa [add_block] at this | exact this) GW356.out) | (rw [add_block]; exact Nat.ne_of_lt (Nat.lt_of_lt_of_le (by have := World.block_lt_of_cell? _ _ hw344_1; first | rwa [add_block] at this | exact this) GW356.out)) | (show (Addr.add _ _).block ≠ _; rw [add_block]; exact Nat.ne_of_lt (Nat.lt_of_lt_of_le (by have := World.block_lt_of_cell? _ _ hw344_1; first | rwa [add_block] at this | exact this) GW356.out)) | (dsimp only; exact Nat.ne_of_lt (Nat.lt_of_lt_of_le (by have := World.block_lt_of_cell? _ _ hw344_1; first | rwa [add_block] at this | exact this) GW356.out))) _).trans (((cell_far (p := ⟨gb356, _, none⟩) (by first | exact Nat.ne_of_lt (Nat.lt_of_lt_of_le (by have := World.block_lt_of_cell? _ _ hw344_1; first | rwa [add_block] at this | exact this) GW356.out) | (rw [add_block]; exact Nat.ne_of_lt (Nat.lt_of_lt_of_le (by have := World.block_lt_of_cell? _ _ hw344_1; first | rwa [add_block] at this | exact this) GW356.out)) | (show (Addr.add _ _).block ≠ _; rw [add_block]; exact Nat.ne_of_lt (Nat.lt_of_lt_of_le (by have := World.block_lt_of_cell? _ _ hw344_1; first | rwa [add_block] at this | exact this) GW356.out)) | (dsimp only; exact Nat.ne_of_lt (Nat.lt_of_lt_of_le (by have := World.block_lt_of_cell? _ _ hw344_1; first | rwa [add_block] at this | exact this) GW356.out))) _).trans (((cell_far (p := ⟨gb356, _, none⟩) (by first | exact Nat.ne_of_lt (Nat.lt_of_lt_of_le (by have := World.block_lt_of_cell? _ _ hw344_1; first | rwa [add_block] at this | exact this) GW356.out) | (rw [add_block]; exact Nat.ne_of_lt (Nat.lt_of_lt_of_le (by have := World.block_lt_of_cell? _ _ hw344_1; first | rwa [add_block] at this | exact this) GW356.out)) | (show (Addr.add _ _).block ≠ _; rw [add_block]; exact Nat.ne_of_lt (Nat.lt_of_lt_of_le (by have := World.block_lt_of_cell? _ _ hw344_1; first | rwa [add_block] at this | exact this) GW356.out)) | (dsimp only; exact Nat.ne_of_lt (Nat.lt_of_lt_of_le (by have := World.block_lt_of_cell? _ _ hw344_1; first | rwa [add_block] at this | exact this) GW356.out))) _).trans (((cell_far (p := ⟨gb356, _, none⟩) (by first | exact Nat.ne_of_lt (Nat.lt_of_lt_of_le (by have := World.block_lt_of_cell? _ _ hw344_1; first | rwa [add_block] at this | exact this) GW356.out) | (rw [add_block]; exact Nat.ne_of_lt (Nat.lt_of_lt_of_le (by have := World.block_lt_of_cell? _ _ hw344_1; first | rwa [add_block] at this | exact this) GW356.out)) | (show (Addr.add _ _).block ≠ _; rw [add_block]; exact Nat.ne_of_lt (Nat.lt_of_lt_of_le (by have := World.block_lt_of_cell? _ _ hw344_1; first | rwa [add_block] at this | exact this) GW356.out)) | (dsimp only; exact Nat.ne_of_lt (Nat.lt_of_lt_of_le (by have := World.block_lt_of_cell? _ _ hw344_1; first | rwa [add_block] at this | exact this) GW356.out))) _).trans (hHeld.2.2.2.2.2.1)))))))), ((cell_far (p := ⟨gb356, _, none⟩) (by first | exact Nat.ne_of_lt (Nat.lt_of_lt_of_le (by have := World.block_lt_of_cell? _ _ hw344_2; first | rwa [add_block] at this | exact this) GW356.out) | (rw [add_block]; exact Nat.ne_of_lt (Nat.lt_of_lt_of_le (by have := World.block_lt_of_cell? _ _ hw344_2; first | rwa [add_block] at this | exact this) GW356.out)) | (show (Addr.add _ _).block ≠ _; rw [add_block]; exact Nat.ne_of_lt (Nat.lt_of_lt_of_le (by have := World.block_lt_of_cell? _ _ hw344_2; first | rwa [add_block] at this | exact this) GW356.out)) | (dsimp only; exact Nat.ne_of_lt (Nat.lt_of_lt_of_le (by have := World.block_lt_of_cell? _ _ hw344_2; first | rwa [add_block] at this | exact this) GW356.out))) _).trans (((cell_far (p := ⟨gb356, _, none⟩) (by first | exact Nat.ne_of_lt (Nat.lt_of_lt_of_le (by have := World.block_lt_of_cell? _ _ hw344_2; first | rwa [add_block] at this | exact this) GW356.out) | (rw [add_block]; exact Nat.ne_of_lt (Nat.lt_of_lt_of_le (by have := World.block_lt_of_cell? _ _ hw344_2; first | rwa [add_block] at this | exact this) GW356.out)) | (show (Addr.add _ _).block ≠ _; rw [add_block]; exact Nat.ne_of_lt (Nat.lt_of_lt_of_le (by have := World.block_lt_of_cell? _ _ hw344_2; first | rwa [add_block] at this | exact this) GW356.out)) | (dsimp only; exact Nat.ne_of_lt (Nat.lt_of_lt_of_le (by have := World.block_lt_of_cell? _ _ hw344_2; first | rwa [add_block] at this | exact this) GW356.out))) _).trans (((cell_far (p := ⟨gb356, _, none⟩) (by first | exact Nat.ne_of_lt (Nat.lt_of_lt_of_le (by have := World.block_lt_of_cell? _ _ hw344_2; first | rwa [add_block] at this | exact this) GW356.out) | (rw [add_block]; exact Nat.ne_of_lt (Nat.lt_of_lt_of_le (by have := World.block_lt_of_cell? _ _ hw344_2; first | rwa [add_block] at this | exact this) GW356.out)) | (show (Addr.add _ _).block ≠ _; rw [add_block]; exact Nat.ne_of_lt (Nat.lt_of_lt_of_le (by have := World.block_lt_of_cell? _ _ hw344_2; first | rwa [add_block] at this | exact this) GW356.out)) | (dsimp only; exact Nat.ne_of_lt (Nat.lt_of_lt_of_le (by have := World.block_lt_of_cell? _ _ hw344_2; first | rwa [add_block] at this | exact this) GW356.out))) _).trans (((cell_far (p := ⟨gb356, _, none⟩) (by first | exact Nat.ne_of_lt (Nat.lt_of_lt_of_le (by have := World.block_lt_of_cell? _ _ hw344_2; first | rwa [add_block] at this | exact this) GW356.out) | (rw [add_block]; exact Nat.ne_of_lt (Nat.lt_of_lt_of_le (by have := World.block_lt_of_cell? _ _ hw344_2; first | rwa [add_block] at this | exact this) GW356.out)) | (show (Addr.add _ _).block ≠ _; rw [add_block]; exact Nat.ne_of_lt (Nat.lt_of_lt_of_le (by have := World.block_lt_of_cell? _ _ hw344_2; first | rwa [add_block] at this | exact this) GW356.out)) | (dsimp only; exact Nat.ne_of_lt (Nat.lt_of_lt_of_le (by have := World.block_lt_of_cell? _ _ hw344_2; first | rwa [add_block] at this | exact this) GW356.out))) _).trans (hHeld.2.2.2.2.2.2))))))))⟩ (fun hHeld => ?_)
                clear hK K
                refine pure_ (i := 12) (N := some 8) (v := ?_) (a' := ?_) #[true, true, true, true, true, true, true, true, true, true, true, true, true] rfl rfl (any_of HT_.out (by kernel_rfl)) (fun _ _ _ h => h) (Or.inl ⟨by rfl, ?_⟩) ?_ ?_
                rotate_left
                · intro w'
                  go_simp
                  with_reducible rfl
                rotate_left
                · simp only [Act.put, List.setIfInBounds_toArray, List.set_cons_zero, List.set_cons_succ, i64_w, i32_w]
                  rfl
                refine done_ (done_of HT_.out (by kernel_rfl)) ?_
                have hnb59 := NB356_341.out
                have hnc59 := NB341_356.out
                have hnb60 := NB356_336.out
                have hnc60 := NB336_356.out
                have hcz61_0 : w54.cell? ⟨gb356, 0, none⟩ = some (.int .i64 0) := (blk_cell BK356.out 0).trans rfl
                have hcz61_1 : w54.cell? ⟨gb356, 1, none⟩ = some (.int .i64 0) := (blk_cell BK356.out 1).trans rfl
                have hcz61_2 : w54.cell? ⟨gb356, 2, none⟩ = some (.int .i64 0) := (blk_cell BK356.out 2).trans rfl
                have hcz61_3 : w54.cell? ⟨gb356, 3, none⟩ = some (.bool false) := (blk_cell BK356.out 3).trans rfl
                have hfz61_0 := blk_frozen BK356.out 0
                have hfz61_1 := blk_frozen BK356.out 1
                have hfz61_2 := blk_frozen BK356.out 2
                have hfz61_3 := blk_frozen BK356.out 3
                have hnb62 := NB341_336.out
                have hnc62 := NB336_341.out
                have hcz63_0 : w54.cell? ⟨gb341, 0, none⟩ = some (.int .i64 x342000_1) := (blk_cell BK341.out 0).trans rfl
                have hcz63_1 : w54.cell? ⟨gb341, 1, none⟩ = some (.int .i64 x342001_1) := (blk_cell BK341.out 1).trans rfl
                have hcz63_2 : w54.cell? ⟨gb341, 2, none⟩ = some (.int .i64 x342002_1) := (blk_cell BK341.out 2).trans rfl
                have hcz63_3 : w54.cell? ⟨gb341, 3, none⟩ = some (.bool x342003_1) := (blk_cell BK341.out 3).trans rfl
                have hfz63_0 := blk_frozen BK341.out 0
                have hfz63_1 := blk_frozen BK341.out 1
                have hfz63_2 := blk_frozen BK341.out 2
                have hfz63_3 := blk_frozen BK341.out 3
                try go_wp2
                have n0_ : Aside0 (((((((((w54.setCell ⟨gb356, 0, none⟩ (.int .i64 t345)).setCell ⟨gb356, 1, none⟩ (.int .i64 t346)).setCell ⟨gb356, 2, none⟩ (.int .i64 t347)).setCell ⟨gb356, 3, none⟩ (.bool t348)).setCell ⟨gb341, 0, none⟩ (.int .i64 t345)).setCell ⟨gb341, 1, none⟩ (.int .i64 t346)).setCell ⟨gb341, 2, none⟩ (.int .i64 t347)).setCell ⟨gb341, 3, none⟩ (.bool t348)).heap[gb341]? = some (.cells #[.int .i64 t345, .int .i64 t346, .int .i64 t347, .bool t348] 55 (0, 0))) := ⟨by (with_reducible repeat (first | refine blk_drewN ?_ _ | refine blk_drew ?_ | refine blk_alloc ?_ _)); refine blk_put (cs := #[.int .i64 t345, .int .i64 t346, .int .i64 t347, .bool x342003_1]) ?_ 3 _ rfl; (with_reducible repeat (first | refine blk_drewN ?_ _ | refine blk_drew ?_ | refine blk_alloc ?_ _)); refine blk_put (cs := #[.int .i64 t345, .int .i64 t346, .int .i64 x342002_1, .bool x342003_1]) ?_ 2 _ rfl; (with_reducible repeat (first | refine blk_drewN ?_ _ | refine blk_drew ?_ | refine blk_alloc ?_ _)); refine blk_put (cs := #[.int .i64 t345, .int .i64 x342001_1, .int .i64 x342002_1, .bool x342003_1]) ?_ 1 _ rfl; (with_reducible repeat (first | refine blk_drewN ?_ _ | refine blk_drew ?_ | refine blk_alloc ?_ _)); refine blk_put (cs := #[.int .i64 x342000_1, .int .i64 x342001_1, .int .i64 x342002_1, .bool x342003_1]) ?_ 0 _ rfl; (with_reducible repeat (first | refine blk_drewN ?_ _ | refine blk_drew ?_ | refine blk_alloc ?_ _)); refine blk_far ?_ NB341_356.out _; (with_reducible repeat (first | refine blk_drewN ?_ _ | refine blk_drew ?_ | refine blk_alloc ?_ _)); refine blk_far ?_ NB341_356.out _; (with_reducible repeat (first | refine blk_drewN ?_ _ | refine blk_drew ?_ | refine blk_alloc ?_ _)); refine blk_far ?_ NB341_356.out _; (with_reducible repeat (first | refine blk_drewN ?_ _ | refine blk_drew ?_ | refine blk_alloc ?_ _)); refine blk_far ?_ NB341_356.out _; (with_reducible repeat (first | refine blk_drewN ?_ _ | refine blk_drew ?_ | refine blk_alloc ?_ _)); exact BK341.out⟩
                have n1_ : Aside0 (((((((((w54.setCell ⟨gb356, 0, none⟩ (.int .i64 t345)).setCell ⟨gb356, 1, none⟩ (.int .i64 t346)).setCell ⟨gb356, 2, none⟩ (.int .i64 t347)).setCell ⟨gb356, 3, none⟩ (.bool t348)).setCell ⟨gb341, 0, none⟩ (.int .i64 t345)).setCell ⟨gb341, 1, none⟩ (.int .i64 t346)).setCell ⟨gb341, 2, none⟩ (.int .i64 t347)).setCell ⟨gb341, 3, none⟩ (.bool t348)).heap[gb356]? = some (.cells #[.int .i64 t345, .int .i64 t346, .int .i64 t347, .bool t348] 55 (0, 0))) := ⟨by (with_reducible repeat (first | refine blk_drewN ?_ _ | refine blk_drew ?_ | refine blk_alloc ?_ _)); refine blk_far ?_ NB356_341.out _; (with_reducible repeat (first | refine blk_drewN ?_ _ | refine blk_drew ?_ | refine blk_alloc ?_ _)); refine blk_far ?_ NB356_341.out _; (with_reducible repeat (first | refine blk_drewN ?_ _ | refine blk_drew ?_ | refine blk_alloc ?_ _)); refine blk_far ?_ NB356_341.out _; (with_reducible repeat (first | refine blk_drewN ?_ _ | refine blk_drew ?_ | refine blk_alloc ?_ _)); refine blk_far ?_ NB356_341.out _; (with_reducible repeat (first | refine blk_drewN ?_ _ | refine blk_drew ?_ | refine blk_alloc ?_ _)); refine blk_put (cs := #[.int .i64 t345, .int .i64 t346, .int .i64 t347, .bool false]) ?_ 3 _ rfl; (with_reducible repeat (first | refine blk_drewN ?_ _ | refine blk_drew ?_ | refine blk_alloc ?_ _)); refine blk_put (cs := #[.int .i64 t345, .int .i64 t346, .int .i64 0, .bool false]) ?_ 2 _ rfl; (with_reducible repeat (first | refine blk_drewN ?_ _ | refine blk_drew ?_ | refine blk_alloc ?_ _)); refine blk_put (cs := #[.int .i64 t345, .int .i64 0, .int .i64 0, .bool false]) ?_ 1 _ rfl; (with_reducible repeat (first | refine blk_drewN ?_ _ | refine blk_drew ?_ | refine blk_alloc ?_ _)); refine blk_put (cs := #[.int .i64 0, .int .i64 0, .int .i64 0, .bool false]) ?_ 0 _ rfl; (with_reducible repeat (first | refine blk_drewN ?_ _ | refine blk_drew ?_ | refine blk_alloc ?_ _)); exact BK356.out⟩
                have n2_ : Aside0 (IsS64 w ((((((((w54.setCell ⟨gb356, 0, none⟩ (.int .i64 t345)).setCell ⟨gb356, 1, none⟩ (.int .i64 t346)).setCell ⟨gb356, 2, none⟩ (.int .i64 t347)).setCell ⟨gb356, 3, none⟩ (.bool t348)).setCell ⟨gb341, 0, none⟩ (.int .i64 t345)).setCell ⟨gb341, 1, none⟩ (.int .i64 t346)).setCell ⟨gb341, 2, none⟩ (.int .i64 t347)).setCell ⟨gb341, 3, none⟩ (.bool t348)) g336 t350 t351 t352 t353 t354 t355) := ⟨by repeat (first | (with_reducible first | exact HI336.out | apply IsS64.alloc | apply IsS64.drewN | apply IsS64.drew | apply IsS64.set_0 | apply IsS64.set_1 | apply IsS64.set_2 | apply IsS64.set_3 | apply IsS64.set_4 | apply IsS64.set_5 | refine IsS64.far ?_ NB336_341.out _ | refine IsS64.far ?_ NB336_356.out _) | exact HI336.out)⟩
                have n3_ : Aside0 (Below w.heap.size w ((((((((w54.setCell ⟨gb356, 0, none⟩ (.int .i64 t345)).setCell ⟨gb356, 1, none⟩ (.int .i64 t346)).setCell ⟨gb356, 2, none⟩ (.int .i64 t347)).setCell ⟨gb356, 3, none⟩ (.bool t348)).setCell ⟨gb341, 0, none⟩ (.int .i64 t345)).setCell ⟨gb341, 1, none⟩ (.int .i64 t346)).setCell ⟨gb341, 2, none⟩ (.int .i64 t347)).setCell ⟨gb341, 3, none⟩ (.bool t348))) := ⟨by repeat (first | (with_reducible first | exact HB.out | apply below_alloc | apply pw_below_drewN | apply below_drew1 | refine below_set ?_ (IsS64.ge HI336.out) | refine below_set ?_ GE341.out | refine below_set ?_ GE356.out) | exact HB.out)⟩
                (try clear BK341)
                (try clear BK356)
                (try clear HI336)
                (try clear HB)
                generalize ((((((((w54.setCell ⟨gb356, 0, none⟩ (.int .i64 t345)).setCell ⟨gb356, 1, none⟩ (.int .i64 t346)).setCell ⟨gb356, 2, none⟩ (.int .i64 t347)).setCell ⟨gb356, 3, none⟩ (.bool t348)).setCell ⟨gb341, 0, none⟩ (.int .i64 t345)).setCell ⟨gb341, 1, none⟩ (.int .i64 t346)).setCell ⟨gb341, 2, none⟩ (.int .i64 t347)).setCell ⟨gb341, 3, none⟩ (.bool t348)) = w64 at n0_ n1_ n2_ n3_ ⊢
                have BK341 := n0_
                have BK356 := n1_
                have HI336 := n2_
                have HB := n3_
                clear n0_ n1_ n2_ n3_
                have n0_ := Aside0.mk (blk_drew BK341.out)
                have n1_ := Aside0.mk (blk_drew BK356.out)
                have n2_ := Aside0.mk (IsS64.drew HI336.out)
                have n3_ := Aside0.mk (below_drew1 HB.out)
                clear BK341
                clear BK356
                clear HI336
                clear HB
                have BK341 := n0_
                have BK356 := n1_
                have HI336 := n2_
                have HB := n3_
                clear n0_ n1_ n2_ n3_
                refine start_ (n := 9) (S := fun w' => True) (ds := []) #[false, false, false, false, false, false, false, false, false] (by kernel_rfl) rfl rfl trivial (fun hHeld => ?_); refine with_tabW styluslaw10_FusePlays.tab16 styluslaw10_FusePlays.bits16 (fun HT_ HW_ => ?_)
                generalize w64.drew = w65 at BK341 BK356 HI336 HB hHeld ⊢
                refine pure_ (i := 0) (N := some 48) (v := ?_) (a' := ?_) #[true, false, false, false, false, false, false, false, false] rfl rfl (any_of HT_.out (by kernel_rfl)) (fun _ _ _ h => h) (Or.inl ⟨by rfl, ?_⟩) ?_ ?_
                rotate_left
                · intro w'
                  go_simp
                  with_reducible rfl
                rotate_left
                · simp only [Act.put, List.setIfInBounds_toArray, List.set_cons_zero, List.set_cons_succ, i64_w, i32_w]
                  rfl
                refine pure_ (i := 1) (N := some 49) (v := ?_) (a' := ?_) #[true, true, false, false, false, false, false, false, false] rfl rfl (any_of HT_.out (by kernel_rfl)) (fun _ _ _ h => h) (Or.inl ⟨by rfl, ?_⟩) ?_ ?_
                rotate_left
                · intro w'
                  go_simp
                  with_reducible rfl
                rotate_left
                · simp only [Act.put, List.setIfInBounds_toArray, List.set_cons_zero, List.set_cons_succ, i64_w, i32_w]
                  rfl
                refine pure_ (i := 2) (N := some 50) (v := ?_) (a' := ?_) #[true, true, true, false, false, false, false, false, false] rfl rfl (any_of HT_.out (by kernel_rfl)) (fun _ _ _ h => h) (Or.inl ⟨by rfl, ?_⟩) ?_ ?_
                rotate_left
                · intro w'
                  go_simp
                  with_reducible rfl
                rotate_left
                · simp only [Act.put, List.setIfInBounds_toArray, List.set_cons_zero, List.set_cons_succ, i64_w, i32_w]
                  rfl
                refine pure_ (i := 3) (N := some 51) (v := undef) (a' := ?_) #[true, true, true, true, false, false, false, false, false] rfl rfl (any_of HT_.out (by kernel_rfl)) (fun _ _ _ h => h) (Or.inr ⟨by rfl, rfl⟩) ?_ ?_
                rotate_left
                · simp only [Act.put, List.setIfInBounds_toArray, List.set_cons_zero, List.set_cons_succ, i64_w, i32_w]
                  rfl
                refine pure_ (i := 4) (N := some 52) (v := undef) (a' := ?_) #[true, true, true, true, true, false, false, false, false] rfl rfl (any_of HT_.out (by kernel_rfl)) (fun _ _ _ h => h) (Or.inr ⟨by rfl, rfl⟩) ?_ ?_
                rotate_left
                · simp only [Act.put, List.setIfInBounds_toArray, List.set_cons_zero, List.set_cons_succ, i64_w, i32_w]
                  rfl
                refine pure_ (i := 5) (N := some 53) (v := undef) (a' := ?_) #[true, true, true, true, true, true, false, false, false] rfl rfl (any_of HT_.out (by kernel_rfl)) (fun _ _ _ h => h) (Or.inr ⟨by rfl, rfl⟩) ?_ ?_
                rotate_left
                · simp only [Act.put, List.setIfInBounds_toArray, List.set_cons_zero, List.set_cons_succ, i64_w, i32_w]
                  rfl
                refine pure_ (i := 6) (N := some 54) (v := undef) (a' := ?_) #[true, true, true, true, true, true, true, false, false] rfl rfl (any_of HT_.out (by kernel_rfl)) (fun _ _ _ h => h) (Or.inr ⟨by rfl, rfl⟩) ?_ ?_
                rotate_left
                · simp only [Act.put, List.setIfInBounds_toArray, List.set_cons_zero, List.set_cons_succ, i64_w, i32_w]
                  rfl
                refine pure_ (i := 7) (N := some 55) (v := undef) (a' := ?_) #[true, true, true, true, true, true, true, true, false] rfl rfl (any_of HT_.out (by kernel_rfl)) (fun _ _ _ h => h) (Or.inr ⟨by rfl, rfl⟩) ?_ ?_
                rotate_left
                · simp only [Act.put, List.setIfInBounds_toArray, List.set_cons_zero, List.set_cons_succ, i64_w, i32_w]
                  rfl
                refine pure_ (i := 8) (N := some 56) (v := ?_) (a' := ?_) #[true, true, true, true, true, true, true, true, true] rfl rfl (any_of HT_.out (by kernel_rfl)) (fun _ _ _ h => h) (Or.inl ⟨by rfl, ?_⟩) ?_ ?_
                rotate_left
                · intro w'
                  go_simp
                  with_reducible rfl
                rotate_left
                · simp only [Act.put, List.setIfInBounds_toArray, List.set_cons_zero, List.set_cons_succ, i64_w, i32_w]
                  rfl
                refine done_ (done_of HT_.out (by kernel_rfl)) ?_
                try go_wp2
                go_ret
                exact ⟨by first | rfl | (simp [errW_none, errW_some] <;> rfl) | (simp [*, errW_none, errW_some] <;> rfl), by repeat (first | (with_reducible first | exact HB.out | apply below_alloc | apply pw_below_drewN | apply below_drew1 | refine below_set ?_ (IsS64.ge HI336.out) | refine below_set ?_ GE341.out | refine below_set ?_ GE356.out) | exact HB.out)⟩
          · rw [if_neg c13] at H
            exact absurd H (by simp)
        · rw [if_neg c12] at H
          have c12b0 : decide (x5_1 < (l0.length : Int)) = false := decide_eq_false c12
          clear c12
          replace H := Option.bind_eq_some_iff.mp H
          obtain ⟨t342, A660, H⟩ := H
          replace H : (some t342) = some r := H
          have A66 := Aside0.mk A660
          clear A660
          obtain rfl := Option.some.inj H
          go_wp2_with (first | ((with_reducible refine gate_callee (f := 24) rfl ?_); refine goesL_ (some 57) rfl rfl Try.func24 (by kernel_rfl) rfl #[] rfl (by (try simp only [List.map_toArray, List.map_cons, List.map_nil]); first | done | rfl | (simp only [List.length_drop, List.length_take]; rfl)) ?_; (with_reducible refine (styluslaw10_lives.calls  t342 _ A66.out).mono ?_); rintro e w67 ⟨rfl, hb⟩; refine ⟨_, rfl, ?_⟩; have n0_ := Aside0.mk (blk_below (g := gb341) (o := .cells #[.int .i64 x342000_1, .int .i64 x342001_1, .int .i64 x342002_1, .bool x342003_1] 55 (0, 0)) (by (with_reducible repeat (first | refine blk_drewN ?_ _ | refine blk_drew ?_ | refine blk_alloc ?_ _)); exact BK341.out) hb); have n1_ := Aside0.mk (IsS64.below (by repeat (first | (with_reducible first | exact HI336.out | apply IsS64.alloc | apply IsS64.drewN | apply IsS64.drew | apply IsS64.set_0 | apply IsS64.set_1 | apply IsS64.set_2 | apply IsS64.set_3 | apply IsS64.set_4 | apply IsS64.set_5 | refine IsS64.far ?_ NB336_341.out _) | exact HI336.out)) hb); have n2_ := Aside0.mk (below_step (by repeat (first | (with_reducible first | exact HB.out | apply below_alloc | apply pw_below_drewN | apply below_drew1 | refine below_set ?_ (IsS64.ge HI336.out) | refine below_set ?_ GE341.out) | exact HB.out)) hb); clear BK341; clear HI336; clear HB; have BK341 := n0_; have HI336 := n1_; have HB := n2_; clear n0_ n1_ n2_; (try clear hb); (try clear hb2); (try clear hk); (try clear hi)))
          go_ret
          exact ⟨by first | rfl | (simp [errW_none, errW_some] <;> rfl) | (simp [*, errW_none, errW_some] <;> rfl), by repeat (first | (with_reducible first | exact HB.out | apply below_alloc | apply pw_below_drewN | apply below_drew1 | refine below_set ?_ (IsS64.ge HI336.out) | refine below_set ?_ GE341.out) | exact HB.out)⟩

end Go.Proofs.Ytbedmobcaljmdaa.QF
