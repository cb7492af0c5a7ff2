import Derived.Test.YtdcnoiofimngpaaGe
/- Line: the walk. -/
namespace Go.Proofs.Ytdcnoiofimngpaa.Gl
open Go.RowKit Go.Proofs.Ytdcnoiofimngpaa.U Go.Proofs.Ytdcnoiofimngpaa.QK Go.Proofs.Ytdcnoiofimngpaa.QS Go.Proofs.Ytdcnoiofimngpaa.Kt Go.Proofs.Ytdcnoiofimngpaa.Ka Go.Proofs.Ytdcnoiofimngpaa.Kb Go.Proofs.Ytdcnoiofimngpaa.Kc Go.Proofs.Ytdcnoiofimngpaa.Kd_ Go.Proofs.Ytdcnoiofimngpaa.Ke Go.Proofs.Ytdcnoiofimngpaa.Kf Go.Proofs.Ytdcnoiofimngpaa.Kh Go.Proofs.Ytdcnoiofimngpaa.Ki Go.Proofs.Ytdcnoiofimngpaa.Kj Go.Proofs.Ytdcnoiofimngpaa.Kk Go.Proofs.Ytdcnoiofimngpaa.Gs Go.Proofs.Ytdcnoiofimngpaa.Gd Go.Proofs.Ytdcnoiofimngpaa.Gt Go.Proofs.Ytdcnoiofimngpaa.Gr Go.Proofs.Ytdcnoiofimngpaa.Ge Go.Proofs.Ytdcnoiofimngpaa.Gq Go.Proofs.Ytdcnoiofimngpaa.Gn Go.Proofs.YtdcnoiofimngpaaW.PrintWords Go.Proofs.YtdcnoiofimngpaaW.PrintLast Go.Proofs.YtdcnoiofimngpaaW.PrintMore
set_option linter.unusedVariables false
set_option linter.unusedSimpArgs false
theorem kf_take (j : Int) (s : ByteArray) (n : Nat) : kf j (s.extract 0 n) ≤ kf j s := by
  have e : s = s.extract 0 n ++ s.extract n s.size := by
    apply ld_ext
    rw [Gc.ld_app, Gc.ld_take, Gc.ld_drop, List.take_append_drop]
  have h := kf_app j (s.extract 0 n) (s.extract n s.size)
  rw [← e] at h
  have := kf_nonneg j (s.extract n s.size)
  omega
theorem check_in {s : ByteArray} {x : Int} (c : checkV s x = 0) : 0 ≤ x ∧ x ≤ s.size := by
  unfold checkV at c
  split at c
  · cases c
  · split at c
    · cases c
    · omega
/-- Line -/
def lineV (s : ByteArray) (x : Int) : Int × Int × Int := if checkV s x = 0 then (kf 2 (s.extract 0 x.toNat), kf 1 (s.extract 0 x.toNat) - kf 1 (s.extract 0 (nl (ld s) (kf 2 (s.extract 0 x.toNat)).toNat)), 0) else (0, 0, checkV s x)
variable {w0 : World} {g : Nat} {p : Option Addr} {t : Tr} {C : List ByteArray}
set_option maxHeartbeats 8000000 in
set_option maxRecDepth 100000 in
theorem line_calls (h : Rope w0 g p t C) (hv : ∀ x ∈ C, Sp.valid (ld x) = true) {w : World} (hb : Below w0.heap.size w0 w) (x : Int) : Calls Try.prog 40 #[.pointer (some ⟨g, 0, none⟩), .int .i64 x] w fun e w' => e = .returned (.tuple #[.int .i64 (lineV (cat C) x).1, .int .i64 (lineV (cat C) x).2.1, .int .i64 (lineV (cat C) x).2.2]) ∧ Below w.heap.size w w' := by
  have hu91 := Try.underlying91
  have HC := Aside0.mk (check_calls h hv hb x)
  unfold lineV
  by_cases c : checkV (cat C) x = 0
  · rw [if_pos c]
    have hs0 := h.s 0
    rw [kt_cat, kf0] at hs0
    obtain ⟨x0, x1⟩ := check_in c
    have hx : 0 ≤ x ∧ x ≤ kt 0 C := by rw [kt_cat, kf0]; exact ⟨x0, x1⟩
    have HN : Aside0 (∀ W, Below w.heap.size w W → Calls Try.prog 57 #[.pointer (some ⟨g, 0, none⟩), .int .i64 x] W fun e w' => e = .returned (.agg #[.int .i64 (kf 0 ((cat C).extract 0 x.toNat)), .int .i64 (kf 1 ((cat C).extract 0 x.toNat)), .int .i64 (kf 2 ((cat C).extract 0 x.toNat))]) ∧ Below W.heap.size W w') := ⟨fun W h2 => counted_calls h (below_step hb h2) x hx⟩
    have l0 := kf_nonneg 2 ((cat C).extract 0 x.toNat)
    have l1 := kf_take 2 (cat C) x.toNat
    have hst := nl_le (ld (cat C)) (kf 2 ((cat C).extract 0 x.toNat)).toNat
    rw [ld_len] at hst
    have HST : Aside0 (∀ W, Below w.heap.size w W → Calls Try.prog 43 #[.pointer (some ⟨g, 0, none⟩), .int .i64 (kf 2 ((cat C).extract 0 x.toNat))] W fun e w' => e = .returned (.tuple #[.int .i64 (nl (ld (cat C)) (kf 2 ((cat C).extract 0 x.toNat)).toNat : Nat), .int .i64 0]) ∧ Below W.heap.size W w') := ⟨fun W h2 => by
      have := start_calls h (below_step hb h2) (kf 2 ((cat C).extract 0 x.toNat))
      unfold startV at this
      rw [if_neg (by omega), if_neg (by omega)] at this
      exact this⟩
    obtain ⟨q, hq⟩ : ∃ q, nl (ld (cat C)) (kf 2 ((cat C).extract 0 x.toNat)).toNat = q := ⟨_, rfl⟩
    rw [hq] at HST hst ⊢
    obtain ⟨st, hst2⟩ : ∃ st : Int, (q : Int) = st := ⟨_, rfl⟩
    have HN2 : Aside0 (∀ W, Below w.heap.size w W → Calls Try.prog 57 #[.pointer (some ⟨g, 0, none⟩), .int .i64 st] W fun e w' => e = .returned (.agg #[.int .i64 (kf 0 ((cat C).extract 0 q)), .int .i64 (kf 1 ((cat C).extract 0 q)), .int .i64 (kf 2 ((cat C).extract 0 q))]) ∧ Below W.heap.size W w') := ⟨fun W h2 => by
      have := counted_calls h (below_step hb h2) st ⟨by omega, by rw [kt_cat, kf0]; omega⟩
      rw [show st.toNat = q by omega] at this
      exact this⟩
    rw [hst2] at HST
    rw [c] at HC
    obtain ⟨cB, hcB⟩ : ∃ z, kf 0 ((cat C).extract 0 x.toNat) = z := ⟨_, rfl⟩
    obtain ⟨cR, hcR⟩ : ∃ z, kf 1 ((cat C).extract 0 x.toNat) = z := ⟨_, rfl⟩
    obtain ⟨cL, hcL⟩ : ∃ z, kf 2 ((cat C).extract 0 x.toNat) = z := ⟨_, rfl⟩
    have EW : Aside0 (wrap64 (cR - kf 1 ((cat C).extract 0 q)) = cR - kf 1 ((cat C).extract 0 q)) := ⟨by
      have a1 := kf_nonneg 1 ((cat C).extract 0 x.toNat)
      have a2 := kf_take 1 (cat C) x.toNat
      have a3 := kf_nonneg 1 ((cat C).extract 0 q)
      have a4 := kf_take 1 (cat C) q
      have a5 := kf_le 1 (cat C)
      unfold wrap64; omega⟩
    rw [hcL] at HST
    rw [hcB, hcR, hcL] at HN
    rw [hcR, hcL]
    obtain ⟨d0, hd0⟩ : ∃ z, kf 0 ((cat C).extract 0 q) = z := ⟨_, rfl⟩
    obtain ⟨d1, hd1⟩ : ∃ z, kf 1 ((cat C).extract 0 q) = z := ⟨_, rfl⟩
    obtain ⟨d2, hd2⟩ : ∃ z, kf 2 ((cat C).extract 0 q) = z := ⟨_, rfl⟩
    rw [hd0, hd1, hd2] at HN2
    rw [hd1] at EW ⊢
    clear h hv hb c hs0 x0 x1 hx l0 l1 hst hq hst2 hcB hcR hcL hd0 hd1 hd2
    go_enter Try.func40, Try.ntmps40
    go_wp2_with (first
      | (go_at_call 56; (with_reducible refine HC.out.mono ?_); rintro e w3 ⟨rfl, hb⟩; have HB := Aside0.mk hb; clear hb)
      | (go_at_call 57; (with_reducible refine (HN.out _ HB.out).mono ?_); rintro e w4 ⟨rfl, hb⟩; have HB2 := Aside0.mk (below_step HB.out hb); clear HB hb; have HB := HB2; clear HB2)
      | ((with_reducible refine gate_dst (N := 8) rfl ?_); refine box_event ?hg (N := 8) ?hd (cs := #[.int .i64 0, .int .i64 0, .int .i64 0]) (t := 91) ?hr ?_; (case hd => rfl); (case hg => rfl); (case hr => first | (go_simp; done) | (go_simp; rfl)); intro g8 hg w5 hbox hb; have BK8 : Aside0 (Bk3 w5 g8 0 0 0) := ⟨hbox⟩; have GE8 : Aside0 (w.heap.size ≤ g8) := ⟨by rw [hg]; exact HB.out.size⟩; have HB2 := Aside0.mk (below_step HB.out hb); clear HB hb hbox hg; have HB := HB2; clear HB2)
      | ((with_reducible refine gate_store (t := 91) (p := 8) (v := .tmp 19) rfl ?_); refine Sa.store_whole rfl rfl 91 (.tmp 8) (.tmp 19) rfl g8 #[.int .i64 0, .int .i64 0, .int .i64 0] [.int .i64 cB, .int .i64 cR, .int .i64 cL] rfl rfl (by kernel_rfl) BK8.out rfl (by simp [Value.oneCell']) ?_; intro w6 hbox hg; have HB2 := Aside0.mk (Sa.grown_below HB.out (below_size HB.out) hg GE8.out); clear HB BK8; have HB := HB2; clear HB2; have BK8 : Aside0 (Bk3 w6 g8 cB cR cL) := ⟨hbox⟩; have z2 : w6.cell? ⟨g8, 2, none⟩ = some (.int .i64 cL) := (blk_cell hbox 2).trans rfl; clear hbox hg)
      | (go_at_call 43; (with_reducible refine (HST.out _ HB.out).mono ?_); rintro e wr ⟨rfl, hb⟩; have HB2 := Aside0.mk (below_step HB.out hb); have BK2 : Aside0 (Bk3 wr g8 cB cR cL) := ⟨blk_below BK8.out hb⟩; clear HB BK8 z2 hb; have HB := HB2; have BK8 := BK2; clear HB2 BK2; have p1 : wr.cell? ⟨g8, 1, none⟩ = some (.int .i64 cR) := (blk_cell BK8.out 1).trans rfl; have p2 : wr.cell? ⟨g8, 2, none⟩ = some (.int .i64 cL) := (blk_cell BK8.out 2).trans rfl))
    refine start_ (n := 12) (S := fun w' => w'.cell? ⟨g8, 1, none⟩ = some (.int .i64 cR) ∧ w'.cell? ⟨g8, 2, none⟩ = some (.int .i64 cL)) (ds := []) #[false, false, false, false, false, false, false, false, false, false, false, false] (by kernel_rfl) rfl rfl ⟨p1, p2⟩ (fun hHeld => ?_)
    refine pure_ (i := 0) (N := some 27) (v := ?_) (a' := ?_) #[true, false, false, false, false, false, false, false, false, false, false, false] rfl rfl (by kernel_rfl) (fun _ _ _ h => h) (Or.inl ⟨by rfl, ?_⟩) ?_ ?_
    rotate_left
    · intro w'
      go_simp
      with_reducible rfl
    rotate_left
    · simp only [Act.put, List.setIfInBounds_toArray, List.set_cons_zero, List.set_cons_succ, i64_w, i32_w]
      rfl
    refine pure_ (i := 2) (N := some 29) (v := ?_) (a' := ?_) #[true, false, true, false, false, false, false, false, false, false, false, false] rfl rfl (by kernel_rfl) (fun _ _ _ h => h) (Or.inl ⟨by rfl, ?_⟩) ?_ ?_
    rotate_left
    · intro w'
      go_simp
      with_reducible rfl
    rotate_left
    · simp only [Act.put, List.setIfInBounds_toArray, List.set_cons_zero, List.set_cons_succ, i64_w, i32_w]
      rfl
    refine pure_ (i := 4) (N := some 31) (v := ?_) (a' := ?_) #[true, false, true, false, true, false, false, false, false, false, false, false] rfl rfl (by kernel_rfl) (fun _ _ _ h => h) (Or.inl ⟨by rfl, ?_⟩) ?_ ?_
    rotate_left
    · intro w'
      go_simp
      with_reducible rfl
    rotate_left
    · simp only [Act.put, List.setIfInBounds_toArray, List.set_cons_zero, List.set_cons_succ, i64_w, i32_w]
      rfl
    refine pure_ (i := 5) (N := some 32) (v := ?_) (a' := ?_) #[true, false, true, false, true, true, false, false, false, false, false, false] rfl rfl (by kernel_rfl) (fun _ _ _ h => h) (Or.inl ⟨by rfl, ?_⟩) ?_ ?_
    rotate_left
    · intro w'
      go_simp
      with_reducible rfl
    rotate_left
    · simp only [Act.put, List.setIfInBounds_toArray, List.set_cons_zero, List.set_cons_succ, i64_w, i32_w]
      rfl
    refine take_ (i := 1) (N := some 28) (v := ?_) (a' := ?_) #[true, true, true, false, true, true, false, false, false, false, false, false] rfl rfl (by kernel_rfl) (fun _ _ _ h => h) (Or.inl ⟨by rfl, ?_⟩) hHeld ?_ ?_
    rotate_left
    · rintro w' ⟨s0, s1⟩
      go_simp
      with_reducible rfl
    rotate_left
    · simp only [Act.put, List.setIfInBounds_toArray, List.set_cons_zero, List.set_cons_succ, i64_w, i32_w]
      rfl
    refine take_ (i := 3) (N := some 30) (v := ?_) (a' := ?_) #[true, true, true, true, true, true, false, false, false, false, false, false] rfl rfl (by kernel_rfl) (fun _ _ _ h => h) (Or.inl ⟨by rfl, ?_⟩) hHeld ?_ ?_
    rotate_left
    · rintro w' ⟨s0, s1⟩
      go_simp
      with_reducible rfl
    rotate_left
    · simp only [Act.put, List.setIfInBounds_toArray, List.set_cons_zero, List.set_cons_succ, i64_w, i32_w]
      rfl
    refine one_ (i := 6) (N := some 33) #[true, true, true, true, true, true, true, false, false, false, false, false] rfl rfl (by kernel_rfl) (by decide) (fun K hK => ?_)
    refine goes_ Try.func57 (by kernel_rfl) rfl #[.pointer (some ⟨g, 0, none⟩), .int .i64 st] (by rfl) rfl rfl (by simp only [List.map_toArray, List.map_cons, List.map_nil]; rfl) ?_
    with_reducible refine (HN2.out _ (below_drew1 HB.out)).mono ?_
    rintro e wh ⟨rfl, hb⟩
    refine ⟨_, rfl, ?_⟩
    have HBH := Aside0.mk hb
    refine hK.out _ _ ⟨(pw_cell_below hb hHeld.1), (pw_cell_below hb hHeld.2)⟩ (fun hHeld => ?_)
    clear hK K
    refine norm_ (a' := ?_) ?_ ?_
    rotate_left
    · show Act.put _ (some 33) _ = _
      simp only [Act.put, List.setIfInBounds_toArray, List.set_cons_zero, List.set_cons_succ, i64_w, i32_w]
      rfl
    refine pure_ (i := 7) (N := some 34) (v := ?_) (a' := ?_) #[true, true, true, true, true, true, true, true, false, false, false, false] rfl rfl (by kernel_rfl) (fun _ _ _ h => h) (Or.inl ⟨by rfl, ?_⟩) ?_ ?_
    rotate_left
    · intro w'
      first | (go_simp; with_reducible rfl) | (go_simp; rw [field91_1]; go_simp; with_reducible rfl) | (go_simp; rw [field91_1]; rfl)
    rotate_left
    · simp only [Act.put, List.setIfInBounds_toArray, List.set_cons_zero, List.set_cons_succ, i64_w, i32_w]
      rfl
    refine pure_ (i := 8) (N := some 35) (v := ?_) (a' := ?_) #[true, true, true, true, true, true, true, true, true, false, false, false] rfl rfl (by kernel_rfl) (fun _ _ _ h => h) (Or.inl ⟨by rfl, ?_⟩) ?_ ?_
    rotate_left
    · intro w'
      go_simp
      with_reducible rfl
    rotate_left
    · simp only [Act.put, List.setIfInBounds_toArray, List.set_cons_zero, List.set_cons_succ, i64_w, i32_w]
      rfl
    refine pure_ (i := 9) (N := some 4) (v := ?_) (a' := ?_) #[true, true, true, true, true, true, true, true, true, true, false, false] rfl rfl (by kernel_rfl) (fun _ _ _ h => h) (Or.inl ⟨by rfl, ?_⟩) ?_ ?_
    rotate_left
    · intro w'
      go_simp
      with_reducible rfl
    rotate_left
    · simp only [Act.put, List.setIfInBounds_toArray, List.set_cons_zero, List.set_cons_succ, i64_w, i32_w]
      rfl
    refine pure_ (i := 10) (N := some 5) (v := ?_) (a' := ?_) #[true, true, true, true, true, true, true, true, true, true, true, false] rfl rfl (by kernel_rfl) (fun _ _ _ h => h) (Or.inl ⟨by rfl, ?_⟩) ?_ ?_
    rotate_left
    · intro w'
      go_simp
      with_reducible rfl
    rotate_left
    · simp only [Act.put, List.setIfInBounds_toArray, List.set_cons_zero, List.set_cons_succ, i64_w, i32_w]
      rfl
    refine pure_ (i := 11) (N := some 6) (v := ?_) (a' := ?_) #[true, true, true, true, true, true, true, true, true, true, true, true] rfl rfl (by kernel_rfl) (fun _ _ _ h => h) (Or.inl ⟨by rfl, ?_⟩) ?_ ?_
    rotate_left
    · intro w'
      go_simp
      with_reducible rfl
    rotate_left
    · simp only [Act.put, List.setIfInBounds_toArray, List.set_cons_zero, List.set_cons_succ, i64_w, i32_w]
      rfl
    refine done_ (by kernel_rfl) ?_
    go_wp2
    go_ret3
    exact ⟨by show Ending.returned (.tuple #[.int .i64 cL, .int .i64 (wrap64 (cR - d1)), .int .i64 0]) = _; rw [EW.out], below_step (below_drew1 HB.out) HBH.out⟩
  · rw [if_neg c]
    have cb : (checkV (cat C) x == 0) = false := beq_eq_false_iff_ne.mpr c
    clear h hv hb c
    go_enter Try.func40, Try.ntmps40
    go_wp2_with (go_at_call 56; (with_reducible refine HC.out.mono ?_); rintro e w3 ⟨rfl, hb⟩; have HB := Aside0.mk hb; clear hb)
    go_ret3
    exact ⟨rfl, HB.out⟩
end Go.Proofs.Ytdcnoiofimngpaa.Gl
/- The rope that Of made; lives. -/
namespace Go.Proofs.Ytdcnoiofimngpaa.Gv
open Go.RowKit Go.Proofs.Ytdcnoiofimngpaa.U Go.Proofs.Ytdcnoiofimngpaa.QK Go.Proofs.Ytdcnoiofimngpaa.QS Go.Proofs.Ytdcnoiofimngpaa.Kt Go.Proofs.Ytdcnoiofimngpaa.Ka Go.Proofs.Ytdcnoiofimngpaa.Kc Go.Proofs.Ytdcnoiofimngpaa.Kd_ Go.Proofs.Ytdcnoiofimngpaa.Ke Go.Proofs.Ytdcnoiofimngpaa.Kf Go.Proofs.Ytdcnoiofimngpaa.Kh Go.Proofs.Ytdcnoiofimngpaa.Ki Go.Proofs.Ytdcnoiofimngpaa.Kj Go.Proofs.Ytdcnoiofimngpaa.Kk Go.Proofs.Ytdcnoiofimngpaa.Gs Go.Proofs.Ytdcnoiofimngpaa.Gd Go.Proofs.Ytdcnoiofimngpaa.Gt Go.Proofs.Ytdcnoiofimngpaa.Gr Go.Proofs.Ytdcnoiofimngpaa.Ge Go.Proofs.Ytdcnoiofimngpaa.Gq Go.Proofs.Ytdcnoiofimngpaa.Gn Go.Proofs.Ytdcnoiofimngpaa.Gl Go.Proofs.YtdcnoiofimngpaaW.PrintWords Go.Proofs.YtdcnoiofimngpaaW.PrintLast Go.Proofs.YtdcnoiofimngpaaW.PrintMore
set_option linter.unusedVariables false
set_option linter.unusedSimpArgs false
/-- what Of answers for a valid text -/
def OfPost (w : World) (s : ByteArray) (e : Ending) (w' : World) : Prop := ∃ g p t C, e = .returned (.tuple #[.pointer (some ⟨g, 0, none⟩), .int .i64 0]) ∧ Rope w' g p t C ∧ cat C = s ∧ (∀ x ∈ C, Sp.valid (ld x) = true) ∧ Below w.heap.size w w'
theorem of_calls (w : World) (s : ByteArray) (hs : s.size ≤ 1500) (hv : Sp.valid (ld s) = true) : Calls Try.prog 13 #[.string s] w (OfPost w s) := by
  obtain ⟨C, hC⟩ := cut_of s (by omega) hv
  have hl := hC.len
  refine (rope_calls w s C (by omega) hv hC).mono fun e w' ⟨g, p, h1, h2, h3, h4⟩ => ⟨g, p, tree C, C, h1, ⟨h2, h3, ?_, tree_chunks hC.fits (by omega), fun j => ?_, by omega⟩, hC.cat_, fun x hx => (fits_spec (hC.fits x hx)).2.2, h4⟩
  · by_cases h0 : C.length = 0
    · left
      obtain rfl := List.eq_nil_of_length_eq_zero h0
      unfold tree; rw [List.map_nil, upT_nil]
    · exact .inr (tree_fine hC.fits (by omega) h0)
  · rw [kt_cat, hC.cat_]
    have := kf_le j s
    omega
def ab : ByteArray := ⟨#[97, 10, 98]⟩
theorem ab_line : lineV ab 2 = (1, 0, 0) := by decide +kernel
theorem ab_lines : kf 2 ab = 1 := by decide +kernel
theorem ab_valid : Sp.valid (ld ab) = true := by decide +kernel
set_option maxHeartbeats 4000000 in
theorem lives_calls (w : World) : Calls Try.prog 32 #[] w fun e w' => e = .returned (.bool true) ∧ Below w.heap.size w w' := by
  have HO : Aside0 (Calls Try.prog 13 #[.string ⟨#[97, 10, 98]⟩] w (OfPost w ab)) := ⟨of_calls w ab (by decide) ab_valid⟩
  have HLI : Aside0 (∀ (w1 : World) g p t C, Rope w1 g p t C → cat C = ab → (∀ x ∈ C, Sp.valid (ld x) = true) → ∀ W, Below w1.heap.size w1 W → Calls Try.prog 40 #[.pointer (some ⟨g, 0, none⟩), .int .i64 2] W fun e w' => e = .returned (.tuple #[.int .i64 1, .int .i64 0, .int .i64 0]) ∧ Below W.heap.size W w') := ⟨fun w1 g p t C h hc hv W hb => by
    have := line_calls h hv hb 2
    rw [hc, ab_line] at this
    exact this⟩
  have HLS : Aside0 (∀ (w1 : World) g p t C, Rope w1 g p t C → cat C = ab → ∀ W, Below w1.heap.size w1 W → Calls Try.prog 42 #[.pointer (some ⟨g, 0, none⟩)] W fun e w' => e = .returned (.int .i64 2) ∧ Below W.heap.size W w') := ⟨fun w1 g p t C h hc W hb => by
    have := lines_calls h hb
    rw [kt_cat, hc, ab_lines] at this
    exact this⟩
  go_enter Try.func32, Try.ntmps32
  go_wp2_with (first
    | (go_at_call 13; (with_reducible refine HO.out.mono ?_); rintro e w1 ⟨g, p, t, C, rfl, hR, hc, hv, hb⟩; have HR := Aside0.mk hR; have HCC := Aside0.mk hc; have HV := Aside0.mk hv; have HB1 := Aside0.mk hb; have HB := Aside0.mk (Below.refl w1.heap.size w1); clear hR hc hv hb HO)
    | (go_at_call 40; (with_reducible refine (HLI.out w1 g p t C HR.out HCC.out HV.out _ HB.out).mono ?_); rintro e w2 ⟨rfl, hb⟩; have HB2 := Aside0.mk (below_step HB.out hb); clear HB hb; have HB := HB2; clear HB2)
    | (go_at_call 42; (with_reducible refine (HLS.out w1 g p t C HR.out HCC.out _ HB.out).mono ?_); rintro e w3 ⟨rfl, hb⟩; have HB2 := Aside0.mk (below_step HB.out hb); clear HB hb; have HB := HB2; clear HB2))
  go_ret
  exact ⟨rfl, HB1.out.trans (HB.out.mono HB1.out.size)⟩
end Go.Proofs.Ytdcnoiofimngpaa.Gv
