import Derived.Test.YtbedmobcaljmdaaQFx3
import Derived.Test.YtbedmobcaljmdaaQFx2
import Derived.Test.YtbedmobcaljmdaaFa
/- A fuse that no call made: nil, and the zero value. -/
namespace Go.Proofs.Ytbedmobcaljmdaa.Fn
open Go.RowKit Go.Proofs.Ytbedmobcaljmdaa.QF Go.Proofs.YtbedmobcaljmdaaW.PrintWords Go.Proofs.YtbedmobcaljmdaaW.PrintLast Go.Proofs.YtbedmobcaljmdaaW.PrintMore
set_option linter.unusedVariables false
set_option linter.unusedSimpArgs false
section
set_option maxHeartbeats 8000000
set_option maxRecDepth 100000
theorem lacks_nil (w : World) : Calls Try.prog 39 #[.pointer none] w fun e w' => e = .returned (.bool true) ∧ w' = w := by
  go_enter Try.func39, Try.ntmps39
  go_wp2
  go_ret
  exact ⟨rfl, rfl⟩
theorem reset_nil (w : World) : Calls Try.prog 29 #[.pointer none] w fun e w' => e = .returned (.tuple #[]) ∧ Below w.heap.size w w' := by
  go_enter Try.func29, Try.ntmps29
  go_wp2_with (go_at_call 39; (with_reducible refine (lacks_nil _).mono ?_); rintro e w' ⟨rfl, rfl⟩)
  first | go_end0 | ((try simp only [Exit.inBlock, Exit.then]); refine bodyPost_ret (results_none rfl _ _ _) rfl ?_)
  exact ⟨rfl, Below.refl _ _⟩
theorem up_nil (w : World) : Calls Try.prog 28 #[.pointer none] w fun e w' => e = .returned (.bool false) ∧ Below w.heap.size w w' := by
  go_enter Try.func28, Try.ntmps28
  go_wp2_with (go_at_call 39; (with_reducible refine (lacks_nil _).mono ?_); rintro e w' ⟨rfl, rfl⟩)
  go_ret
  exact ⟨rfl, Below.refl _ _⟩
theorem copy_nil (w : World) : Calls Try.prog 34 #[.pointer none] w fun e w' => e = .returned (.pointer none) ∧ Below w.heap.size w w' := by
  go_enter Try.func34, Try.ntmps34
  go_wp2_with (go_at_call 39; (with_reducible refine (lacks_nil _).mono ?_); rintro e w' ⟨rfl, rfl⟩)
  go_ret
  exact ⟨rfl, Below.refl _ _⟩
theorem call_nil (k : Int) (w : World) : Calls Try.prog 40 #[.pointer none, .int .i64 k] w fun e w' => e = .returned (.int .i64 1) ∧ Below w.heap.size w w' := by
  go_enter Try.func40, Try.ntmps40
  go_wp2_with (go_at_call 39; (with_reducible refine (lacks_nil _).mono ?_); rintro e w' ⟨rfl, rfl⟩)
  go_ret
  exact ⟨rfl, Below.refl _ _⟩
theorem put_nil (w : World) : Calls Try.prog 27 #[.pointer none] w fun e w' => e = .returned (.int .i64 1) ∧ Below w.heap.size w w' := by
  go_enter Try.func27, Try.ntmps27
  go_wp2_with (go_at_call 40; (with_reducible refine (call_nil _ _).mono ?_); rintro e w' ⟨rfl, hb⟩)
  go_ret
  exact ⟨rfl, hb⟩
theorem arm_nil (a b : Int) (w : World) : Calls Try.prog 25 #[.pointer none, .agg #[.int .i64 a, .int .i64 b]] w fun e w' => e = .returned (.bool false) ∧ Below w.heap.size w w' := by
  go_enter Try.func25, Try.ntmps25
  go_wp2_with (go_at_call 39; (with_reducible refine (lacks_nil _).mono ?_); rintro e w' ⟨rfl, rfl⟩)
  go_ret
  exact ⟨rfl, below_alloc (Below.refl _ _) _⟩
theorem copy_zero (g : Nat) (z p s d : Int) (up : Bool) (w0 w : World) (hI : IsS64 w0 w g z p s d up false) (hB : Below w0.heap.size w0 w) : Calls Try.prog 34 #[.pointer (some ⟨g, 0, none⟩)] w fun e w' => e = .returned (.pointer none) ∧ IsS64 w0 w' g z p s d up false ∧ Below w0.heap.size w0 w' ∧ KeepBut w w' g none := by
  go_enter Try.func34, Try.ntmps34
  go_wp2_with (go_at_call 39; (with_reducible refine (fuse_Fuse_lacks.calls g z p s d up false _ _ _ _ _ _ _ w0 _ hI hB rfl).mono ?_); rintro e w' ⟨rfl, hi, hb, hk⟩)
  go_ret
  exact ⟨rfl, hi, hb, hk⟩
end
/-- the fault at gx, the zero fuse at gz -/
structure St (w W : World) (gx gz : Nat) (a b : Int) : Prop where
  x : W.heap[gx]? = some (.cells #[.int .i64 a, .int .i64 b] 42 (0, 0))
  z : IsS64 w W gz 0 0 0 0 false false
  ne : gx ≠ gz
  bel : Below w.heap.size w W
theorem St.nil {w W W' : World} {gx gz : Nat} {a b : Int} (h : St w W gx gz a b) (hb : Below W.heap.size W W') : St w W' gx gz a b := ⟨blk_below h.x hb, h.z.below hb, h.ne, below_step h.bel hb⟩
theorem St.zero {w W W' : World} {gx gz : Nat} {a b : Int} (h : St w W gx gz a b) (hi : IsS64 w W' gz 0 0 0 0 false false) (hb : Below w.heap.size w W') (hk : KeepBut W W' gz none) : St w W' gx gz a b := ⟨hk.blk h.x h.ne (by simp), hi, h.ne, hb⟩
theorem St.c0 {w W : World} {gx gz : Nat} {a b : Int} (h : St w W gx gz a b) : W.cell? ⟨gx, 0, none⟩ = some (.int .i64 a) := (blk_cell h.x 0).trans rfl
theorem St.c1 {w W : World} {gx gz : Nat} {a b : Int} (h : St w W gx gz a b) : W.cell? ⟨gx, 1, none⟩ = some (.int .i64 b) := (blk_cell h.x 1).trans rfl
set_option maxHeartbeats 8000000 in
set_option maxRecDepth 100000 in
theorem FuseNobody (a b : Int) (w : World) : Calls Try.prog 11 #[.agg #[.int .i64 a, .int .i64 b]] w fun e w' => e = .returned (.bool true) ∧ Below w.heap.size w w' := by
  have hux := Try.underlying42
  have HB := Aside0.mk (Below.refl w.heap.size w)
  go_enter Try.func11, Try.ntmps11
  go_wp2_with (first
    | ((with_reducible refine gate_dst (N := 1) rfl ?_); refine box_event ?hg (N := 1) ?hd (cs := #[.int .i64 a, .int .i64 b]) (t := 42) ?hr ?_; (case hd => rfl); (case hg => rfl); (case hr => first | (go_simp; done) | (go_simp; rfl)); intro gx hg w1 hbox hb; have n0_ := Aside0.mk (below_step HB.out hb); have BX := Aside0.mk hbox; clear HB; have HB := n0_; clear n0_ hb hbox hg)
    | ((with_reducible refine gate_dst (N := 4) rfl ?_); refine box_event ?hg (N := 4) ?hd (cs := #[.int .i64 0, .int .i64 0, .int .i64 0, .int .i64 0, .bool false, .bool false]) (t := 64) ?hr ?_; (case hd => rfl); (case hg => rfl); (case hr => first | (go_simp; done) | (go_simp; rfl)); intro gz hg w2 hbox hb; have HS : Aside0 (St w w2 gx gz a b) := ⟨⟨blk_below BX.out hb, ⟨hbox, by rw [hg]; exact below_size HB.out⟩, by rw [hg]; exact Nat.ne_of_lt (blk_lt BX.out), below_step HB.out hb⟩⟩; clear HB BX hb hbox hg; have hc0 := HS.out.c0; have hc1 := HS.out.c1)
    | (go_at_call 29; (with_reducible refine (reset_nil _).mono ?_); rintro e w' ⟨rfl, hb⟩; have n0_ := Aside0.mk (HS.out.nil hb); clear HS hb; have HS := n0_; clear n0_; have hc0 := HS.out.c0; have hc1 := HS.out.c1)
    | (go_at_call 29; (with_reducible refine (fuse_Fuse_Reset.calls gz 0 0 0 0 false false _ _ _ _ _ _ w _ HS.out.z HS.out.bel rfl).mono ?_); rintro e w' ⟨rfl, hi, hb, hk⟩; have n0_ := Aside0.mk (HS.out.zero hi hb hk); clear HS hi hb hk; have HS := n0_; clear n0_; have hc0 := HS.out.c0; have hc1 := HS.out.c1)
    | (go_at_call 25; (with_reducible refine (arm_nil a b _).mono ?_); rintro e w' ⟨rfl, hb⟩; have n0_ := Aside0.mk (HS.out.nil hb); clear HS hb; have HS := n0_; clear n0_; have hc0 := HS.out.c0; have hc1 := HS.out.c1)
    | (go_at_call 25; (with_reducible refine (fuse_Fuse_Arm.calls gz 0 0 0 0 false false a b _ _ _ _ _ _ _ w _ HS.out.z HS.out.bel rfl).mono ?_); rintro e w' ⟨rfl, hi, hb, hk⟩; have n0_ := Aside0.mk (HS.out.zero hi hb hk); clear HS hi hb hk; have HS := n0_; clear n0_; have hc0 := HS.out.c0; have hc1 := HS.out.c1)
    | (go_at_call 27; (with_reducible refine (put_nil _).mono ?_); rintro e w' ⟨rfl, hb⟩; have n0_ := Aside0.mk (HS.out.nil hb); clear HS hb; have HS := n0_; clear n0_; have hc0 := HS.out.c0; have hc1 := HS.out.c1)
    | (go_at_call 26; (with_reducible refine (fuse_Fuse_Sync.calls gz 0 0 0 0 false false _ _ _ _ _ _ _ w _ HS.out.z HS.out.bel rfl).mono ?_); rintro e w' ⟨rfl, hi, hb, hk⟩; have n0_ := Aside0.mk (HS.out.zero hi hb hk); clear HS hi hb hk; have HS := n0_; clear n0_; have hc0 := HS.out.c0; have hc1 := HS.out.c1)
    | (go_at_call 28; (with_reducible refine (up_nil _).mono ?_); rintro e w' ⟨rfl, hb⟩; have n0_ := Aside0.mk (HS.out.nil hb); clear HS hb; have HS := n0_; clear n0_; have hc0 := HS.out.c0; have hc1 := HS.out.c1)
    | (go_at_call 28; (with_reducible refine (fuse_Fuse_Up.calls gz 0 0 0 0 false false _ _ _ _ _ _ _ w _ HS.out.z HS.out.bel rfl).mono ?_); rintro e w' ⟨rfl, hi, hb, hk⟩; have n0_ := Aside0.mk (HS.out.zero hi hb hk); clear HS hi hb hk; have HS := n0_; clear n0_; have hc0 := HS.out.c0; have hc1 := HS.out.c1)
    | (go_at_call 34; (with_reducible refine (copy_nil _).mono ?_); rintro e w' ⟨rfl, hb⟩; have n0_ := Aside0.mk (HS.out.nil hb); clear HS hb; have HS := n0_; clear n0_; have hc0 := HS.out.c0; have hc1 := HS.out.c1)
    | (go_at_call 34; (with_reducible refine (copy_zero gz 0 0 0 0 false w _ HS.out.z HS.out.bel).mono ?_); rintro e w' ⟨rfl, hi, hb, hk⟩; have n0_ := Aside0.mk (HS.out.zero hi hb hk); clear HS hi hb hk; have HS := n0_; clear n0_; have hc0 := HS.out.c0; have hc1 := HS.out.c1)
    | (go_at_call 24; (with_reducible refine (styluslaw10_lives.calls true _ Fa.lives).mono ?_); rintro e w' ⟨rfl, hb⟩; have n0_ := Aside0.mk (below_step HS.out.bel hb)))
  go_ret
  exact ⟨rfl, n0_.out⟩
end Go.Proofs.Ytbedmobcaljmdaa.Fn
