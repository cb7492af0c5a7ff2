import Derived.Test.YtgkjagfdlhcgjaaKg
/- Right: of trees that are as they must be. -/
namespace Go.Proofs.Ytgkjagfdlhcgjaa.Ki
open Go.RowKit Go.Proofs.Ytgkjagfdlhcgjaa.U Go.Proofs.Ytgkjagfdlhcgjaa.QK Go.Proofs.Ytgkjagfdlhcgjaa.Kt Go.Proofs.Ytgkjagfdlhcgjaa.Ka Go.Proofs.Ytgkjagfdlhcgjaa.Kb Go.Proofs.Ytgkjagfdlhcgjaa.Kd_ Go.Proofs.Ytgkjagfdlhcgjaa.Ke Go.Proofs.Ytgkjagfdlhcgjaa.Kf Go.Proofs.YtgkjagfdlhcgjaaW.PrintWords Go.Proofs.YtgkjagfdlhcgjaaW.PrintLast Go.Proofs.YtgkjagfdlhcgjaaW.PrintMore
set_option linter.unusedVariables false
set_option linter.unusedSimpArgs false
inductive FineT : Tr → Prop
  | leaf (s : ByteArray) (r l : Int) (hf : chunk_Fits.f s = some true) (ho : tally_Of.f s = some ((s.size : Int), r, l)) : FineT (.node 0 s.size r l s [])
  | join (kids : List Tr) (d : Int) (h2 : 2 ≤ kids.length) (h8 : kids.length ≤ 8) (hl : Lv d kids) (hd : d ≤ 1000000) (hk : ∀ k ∈ kids, FineT k) : FineT (joinT kids)
def Bx (w' : World) (g : Nat) (b r l : Int) : Prop := w'.heap[g]? = some (.cells #[.int .i64 b, .int .i64 r, .int .i64 l] 47 (0, 0))
theorem right_nil (w : World) : Calls Try.prog 30 #[.pointer none] w fun e w' => e = .returned (.bool true) ∧ w = w' := by
  go_enter Try.func30, Try.ntmps30
  go_wp2
  go_ret
  exact ⟨rfl, rfl⟩
theorem right_none (w : World) (p : Option Addr) (t : Tr) (H : Rd w p t) (hn : t.none = true) (hp : p ≠ none) : Calls Try.prog 30 #[.pointer p] w fun e w' => e = .returned (.bool false) ∧ w = w' := by
  have HN := Aside0.mk (none_t H hn)
  obtain ⟨ad, rfl⟩ := Option.ne_none_iff_exists'.mp hp
  clear H hn hp
  go_enter Try.func30, Try.ntmps30
  go_wp2_with (go_at_call 50; (with_reducible refine HN.out.mono ?_); rintro e w' ⟨rfl, rfl⟩)
  go_ret
  exact ⟨rfl, rfl⟩
theorem fits_size {s : ByteArray} (h : chunk_Fits.f s = some true) : ¬ s.toList = [] ∧ s.size ≤ 16 := by
  unfold chunk_Fits.f at h
  split at h
  · simp at h
  · rename_i h1
    split at h
    · rename_i h2; exact ⟨h1, by omega⟩
    · simp at h
set_option maxHeartbeats 8000000 in
set_option maxRecDepth 100000 in
theorem right_leaf (w : World) (p : Option Addr) (s : ByteArray) (r l : Int) (hf : chunk_Fits.f s = some true) (ho : tally_Of.f s = some ((s.size : Int), r, l)) (H : Rd w p (.node 0 s.size r l s [])) :
    Calls Try.prog 30 #[.pointer p] w fun e w' => e = .returned (.bool true) ∧ Below w.heap.size w w' := by
  have hs := (fits_size hf).1
  have hn : (Tr.node 0 s.size r l s []).none = false := by
    show ((s.toList == []) && (([] : List Tr).length == 0)) = false
    rw [beq_eq_false_iff_ne.mpr hs]; rfl
  have HN := Aside0.mk (none_f H hn)
  obtain ⟨a, A, cp, ps, rfl, c0, c1, c2, c3, c4, c5, hcp, _, hr⟩ := H.open_
  have HF := Aside0.mk hf
  have HO := Aside0.mk ho
  have c5' : w.cell? ⟨a, 5, none⟩ = some (.slice A 0 cp) := c5
  clear H hn hs hr hcp hf ho c5
  go_enter Try.func30, Try.ntmps30
  go_wp2_with (go_at_call 50; (with_reducible refine HN.out.mono ?_); rintro e w' ⟨rfl, rfl⟩)
  refine start_ (n := 27) (S := fun w' => w'.cell? ⟨a, 4, none⟩ = some (.string s) ∧ w'.cell? ⟨a, 0, none⟩ = some (.int .i64 0) ∧ w'.cell? ⟨a, 1, none⟩ = some (.int .i64 (s.size : Int)) ∧ w'.cell? ⟨a, 2, none⟩ = some (.int .i64 r) ∧ w'.cell? ⟨a, 3, none⟩ = some (.int .i64 l)) (ds := []) #[false, false, false, false, false, false, false, false, false, false, false, false, false, false, false, false, false, false, false, false, false, false, false, false, false, false, false] (by kernel_rfl) rfl rfl ⟨c4, c0, c1, c2, c3⟩ (fun hHeld => ?_)
  refine pure_ (i := 0) (N := some 16) (v := ?_) (a' := ?_) #[true, false, false, false, false, false, false, false, false, false, false, false, false, false, false, false, false, false, false, false, false, false, false, false, false, false, false] rfl rfl (by kernel_rfl) (fun _ _ _ h => h) (Or.inl ⟨by rfl, ?_⟩) ?_ ?_
  rotate_left
  · intro w'
    go_simp
    with_reducible rfl
  rotate_left
  · simp only [Act.put, List.setIfInBounds_toArray, List.set_cons_zero, List.set_cons_succ, i64_w, i32_w]
    rfl
  refine pure_ (i := 1) (N := some 17) (v := ?_) (a' := ?_) #[true, true, false, false, false, false, false, false, false, false, false, false, false, false, false, false, false, false, false, false, false, false, false, false, false, false, false] rfl rfl (by kernel_rfl) (fun _ _ _ h => h) (Or.inl ⟨by rfl, ?_⟩) ?_ ?_
  rotate_left
  · intro w'
    go_simp
    with_reducible rfl
  rotate_left
  · simp only [Act.put, List.setIfInBounds_toArray, List.set_cons_zero, List.set_cons_succ, i64_w, i32_w]
    rfl
  refine pure_ (i := 2) (N := some 18) (v := ?_) (a' := ?_) #[true, true, true, false, false, false, false, false, false, false, false, false, false, false, false, false, false, false, false, false, false, false, false, false, false, false, false] rfl rfl (by kernel_rfl) (fun _ _ _ h => h) (Or.inl ⟨by rfl, ?_⟩) ?_ ?_
  rotate_left
  · intro w'
    go_simp
    with_reducible rfl
  rotate_left
  · simp only [Act.put, List.setIfInBounds_toArray, List.set_cons_zero, List.set_cons_succ, i64_w, i32_w]
    rfl
  refine take_ (i := 3) (N := some 19) (v := ?_) (a' := ?_) #[true, true, true, true, false, false, false, false, false, false, false, false, false, false, false, false, false, false, false, false, false, false, false, false, false, false, false] rfl rfl (by kernel_rfl) (fun _ _ _ h => h) (Or.inl ⟨by rfl, ?_⟩) hHeld ?_ ?_
  rotate_left
  · rintro w' ⟨s0, s1, s2, s3, s4⟩
    go_simp
    with_reducible rfl
  rotate_left
  · simp only [Act.put, List.setIfInBounds_toArray, List.set_cons_zero, List.set_cons_succ, i64_w, i32_w]
    rfl
  refine one_ (i := 4) (N := some 20) #[true, true, true, true, true, false, false, false, false, false, false, false, false, false, false, false, false, false, false, false, false, false, false, false, false, false, false] rfl rfl (by kernel_rfl) (by decide) (fun K hK => ?_)
  refine goes_ Try.func16 (by kernel_rfl) rfl #[.string s] (by rfl) rfl rfl (by simp only [List.map_toArray, List.map_cons, List.map_nil]; rfl) ?_
  with_reducible refine (chunk_Fits.calls s true _ HF.out).mono ?_
  rintro e w5 ⟨rfl, hb5⟩
  refine ⟨_, rfl, ?_⟩
  have HB5 := Aside0.mk hb5
  refine hK.out _ _ ⟨(pw_cell_below hb5 hHeld.1), (pw_cell_below hb5 hHeld.2.1), (pw_cell_below hb5 hHeld.2.2.1), (pw_cell_below hb5 hHeld.2.2.2.1), (pw_cell_below hb5 hHeld.2.2.2.2)⟩ (fun hHeld => ?_)
  clear hK K
  refine norm_ (a' := ?_) ?_ ?_
  rotate_left
  · show Act.put _ (some 20) _ = _
    simp only [Act.put, List.setIfInBounds_toArray, List.set_cons_zero, List.set_cons_succ, i64_w, i32_w]
    rfl
  refine pure_ (i := 5) (N := some 21) (v := ?_) (a' := ?_) #[true, true, true, true, true, true, false, false, false, false, false, false, false, false, false, false, false, false, false, false, false, false, false, false, false, false, false] rfl rfl (by kernel_rfl) (fun _ _ _ h => h) (Or.inl ⟨by rfl, ?_⟩) ?_ ?_
  rotate_left
  · intro w'
    go_simp
    with_reducible rfl
  rotate_left
  · simp only [Act.put, List.setIfInBounds_toArray, List.set_cons_zero, List.set_cons_succ, i64_w, i32_w]
    rfl
  refine pure_ (i := 6) (N := some 22) (v := ?_) (a' := ?_) #[true, true, true, true, true, true, true, false, false, false, false, false, false, false, false, false, false, false, false, false, false, false, false, false, false, false, false] rfl rfl (by kernel_rfl) (fun _ _ _ h => h) (Or.inl ⟨by rfl, ?_⟩) ?_ ?_
  rotate_left
  · intro w'
    go_simp
    with_reducible rfl
  rotate_left
  · simp only [Act.put, List.setIfInBounds_toArray, List.set_cons_zero, List.set_cons_succ, i64_w, i32_w]
    rfl
  refine pure_ (i := 7) (N := some 23) (v := ?_) (a' := ?_) #[true, true, true, true, true, true, true, true, false, false, false, false, false, false, false, false, false, false, false, false, false, false, false, false, false, false, false] rfl rfl (by kernel_rfl) (fun _ _ _ h => h) (Or.inl ⟨by rfl, ?_⟩) ?_ ?_
  rotate_left
  · intro w'
    go_simp
    with_reducible rfl
  rotate_left
  · simp only [Act.put, List.setIfInBounds_toArray, List.set_cons_zero, List.set_cons_succ, i64_w, i32_w]
    rfl
  refine pure_ (i := 8) (N := some 24) (v := ?_) (a' := ?_) #[true, true, true, true, true, true, true, true, true, false, false, false, false, false, false, false, false, false, false, false, false, false, false, false, false, false, false] rfl rfl (by kernel_rfl) (fun _ _ _ h => h) (Or.inl ⟨by rfl, ?_⟩) ?_ ?_
  rotate_left
  · intro w'
    go_simp
    with_reducible rfl
  rotate_left
  · simp only [Act.put, List.setIfInBounds_toArray, List.set_cons_zero, List.set_cons_succ, i64_w, i32_w]
    rfl
  refine pure_ (i := 9) (N := some 25) (v := ?_) (a' := ?_) #[true, true, true, true, true, true, true, true, true, true, false, false, false, false, false, false, false, false, false, false, false, false, false, false, false, false, false] rfl rfl (by kernel_rfl) (fun _ _ _ h => h) (Or.inl ⟨by rfl, ?_⟩) ?_ ?_
  rotate_left
  · intro w'
    go_simp
    with_reducible rfl
  rotate_left
  · simp only [Act.put, List.setIfInBounds_toArray, List.set_cons_zero, List.set_cons_succ, i64_w, i32_w]
    rfl
  refine take_ (i := 10) (N := some 26) (v := ?_) (a' := ?_) #[true, true, true, true, true, true, true, true, true, true, true, false, false, false, false, false, false, false, false, false, false, false, false, false, false, false, false] rfl rfl (by kernel_rfl) (fun _ _ _ h => h) (Or.inl ⟨by rfl, ?_⟩) hHeld ?_ ?_
  rotate_left
  · rintro w' ⟨s0, s1, s2, s3, s4⟩
    go_simp
    with_reducible rfl
  rotate_left
  · simp only [Act.put, List.setIfInBounds_toArray, List.set_cons_zero, List.set_cons_succ, i64_w, i32_w]
    rfl
  refine pure_ (i := 11) (N := some 27) (v := ?_) (a' := ?_) #[true, true, true, true, true, true, true, true, true, true, true, true, false, false, false, false, false, false, false, false, false, false, false, false, false, false, false] rfl rfl (by kernel_rfl) (fun _ _ _ h => h) (Or.inl ⟨by rfl, ?_⟩) ?_ ?_
  rotate_left
  · intro w'
    go_simp
    with_reducible rfl
  rotate_left
  · simp only [Act.put, List.setIfInBounds_toArray, List.set_cons_zero, List.set_cons_succ, i64_w, i32_w]
    rfl
  refine pure_ (i := 12) (N := some 28) (v := ?_) (a' := ?_) #[true, true, true, true, true, true, true, true, true, true, true, true, true, false, false, false, false, false, false, false, false, false, false, false, false, false, false] rfl rfl (by kernel_rfl) (fun _ _ _ h => h) (Or.inl ⟨by rfl, ?_⟩) ?_ ?_
  rotate_left
  · intro w'
    go_simp
    with_reducible rfl
  rotate_left
  · simp only [Act.put, List.setIfInBounds_toArray, List.set_cons_zero, List.set_cons_succ, i64_w, i32_w]
    rfl
  refine pure_ (i := 13) (N := some 29) (v := ?_) (a' := ?_) #[true, true, true, true, true, true, true, true, true, true, true, true, true, true, false, false, false, false, false, false, false, false, false, false, false, false, false] rfl rfl (by kernel_rfl) (fun _ _ _ h => h) (Or.inl ⟨by rfl, ?_⟩) ?_ ?_
  rotate_left
  · intro w'
    go_simp
    with_reducible rfl
  rotate_left
  · simp only [Act.put, List.setIfInBounds_toArray, List.set_cons_zero, List.set_cons_succ, i64_w, i32_w]
    rfl
  refine pure_ (i := 14) (N := some 30) (v := ?_) (a' := ?_) #[true, true, true, true, true, true, true, true, true, true, true, true, true, true, true, false, false, false, false, false, false, false, false, false, false, false, false] rfl rfl (by kernel_rfl) (fun _ _ _ h => h) (Or.inl ⟨by rfl, ?_⟩) ?_ ?_
  rotate_left
  · intro w'
    go_simp
    with_reducible rfl
  rotate_left
  · simp only [Act.put, List.setIfInBounds_toArray, List.set_cons_zero, List.set_cons_succ, i64_w, i32_w]
    rfl
  refine pure_ (i := 15) (N := some 31) (v := ?_) (a' := ?_) #[true, true, true, true, true, true, true, true, true, true, true, true, true, true, true, true, false, false, false, false, false, false, false, false, false, false, false] rfl rfl (by kernel_rfl) (fun _ _ _ h => h) (Or.inl ⟨by rfl, ?_⟩) ?_ ?_
  rotate_left
  · intro w'
    go_simp
    with_reducible rfl
  rotate_left
  · simp only [Act.put, List.setIfInBounds_toArray, List.set_cons_zero, List.set_cons_succ, i64_w, i32_w]
    rfl
  refine pure_ (i := 16) (N := some 32) (v := ?_) (a' := ?_) #[true, true, true, true, true, true, true, true, true, true, true, true, true, true, true, true, true, false, false, false, false, false, false, false, false, false, false] rfl rfl (by kernel_rfl) (fun _ _ _ h => h) (Or.inl ⟨by rfl, ?_⟩) ?_ ?_
  rotate_left
  · intro w'
    go_simp
    with_reducible rfl
  rotate_left
  · simp only [Act.put, List.setIfInBounds_toArray, List.set_cons_zero, List.set_cons_succ, i64_w, i32_w]
    rfl
  refine pure_ (i := 17) (N := some 33) (v := ?_) (a' := ?_) #[true, true, true, true, true, true, true, true, true, true, true, true, true, true, true, true, true, true, false, false, false, false, false, false, false, false, false] rfl rfl (by kernel_rfl) (fun _ _ _ h => h) (Or.inl ⟨by rfl, ?_⟩) ?_ ?_
  rotate_left
  · intro w'
    go_simp
    with_reducible rfl
  rotate_left
  · simp only [Act.put, List.setIfInBounds_toArray, List.set_cons_zero, List.set_cons_succ, i64_w, i32_w]
    rfl
  refine pure_ (i := 19) (N := some 35) (v := ?_) (a' := ?_) #[true, true, true, true, true, true, true, true, true, true, true, true, true, true, true, true, true, true, false, true, false, false, false, false, false, false, false] rfl rfl (by kernel_rfl) (fun _ _ _ h => h) (Or.inl ⟨by rfl, ?_⟩) ?_ ?_
  rotate_left
  · intro w'
    go_simp
    with_reducible rfl
  rotate_left
  · simp only [Act.put, List.setIfInBounds_toArray, List.set_cons_zero, List.set_cons_succ, i64_w, i32_w]
    rfl
  refine pure_ (i := 20) (N := some 36) (v := ?_) (a' := ?_) #[true, true, true, true, true, true, true, true, true, true, true, true, true, true, true, true, true, true, false, true, true, false, false, false, false, false, false] rfl rfl (by kernel_rfl) (fun _ _ _ h => h) (Or.inl ⟨by rfl, ?_⟩) ?_ ?_
  rotate_left
  · intro w'
    go_simp
    with_reducible rfl
  rotate_left
  · simp only [Act.put, List.setIfInBounds_toArray, List.set_cons_zero, List.set_cons_succ, i64_w, i32_w]
    rfl
  refine pure_ (i := 21) (N := some 37) (v := ?_) (a' := ?_) #[true, true, true, true, true, true, true, true, true, true, true, true, true, true, true, true, true, true, false, true, true, true, false, false, false, false, false] rfl rfl (by kernel_rfl) (fun _ _ _ h => h) (Or.inl ⟨by rfl, ?_⟩) ?_ ?_
  rotate_left
  · intro w'
    go_simp
    with_reducible rfl
  rotate_left
  · simp only [Act.put, List.setIfInBounds_toArray, List.set_cons_zero, List.set_cons_succ, i64_w, i32_w]
    rfl
  refine take_ (i := 18) (N := some 34) (v := ?_) (a' := ?_) #[true, true, true, true, true, true, true, true, true, true, true, true, true, true, true, true, true, true, true, true, true, true, false, false, false, false, false] rfl rfl (by kernel_rfl) (fun _ _ _ h => h) (Or.inl ⟨by rfl, ?_⟩) hHeld ?_ ?_
  rotate_left
  · rintro w' ⟨s0, s1, s2, s3, s4⟩
    go_simp
    with_reducible rfl
  rotate_left
  · simp only [Act.put, List.setIfInBounds_toArray, List.set_cons_zero, List.set_cons_succ, i64_w, i32_w]
    rfl
  refine take_ (i := 22) (N := some 38) (v := ?_) (a' := ?_) #[true, true, true, true, true, true, true, true, true, true, true, true, true, true, true, true, true, true, true, true, true, true, true, false, false, false, false] rfl rfl (by kernel_rfl) (fun _ _ _ h => h) (Or.inl ⟨by rfl, ?_⟩) hHeld ?_ ?_
  rotate_left
  · rintro w' ⟨s0, s1, s2, s3, s4⟩
    go_simp
    with_reducible rfl
  rotate_left
  · simp only [Act.put, List.setIfInBounds_toArray, List.set_cons_zero, List.set_cons_succ, i64_w, i32_w]
    rfl
  refine one_ (i := 23) (N := some 39) #[true, true, true, true, true, true, true, true, true, true, true, true, true, true, true, true, true, true, true, true, true, true, true, true, false, false, false] rfl rfl (by kernel_rfl) (by decide) (fun K hK => ?_)
  refine goes_ Try.func53 (by kernel_rfl) rfl #[.string s] (by rfl) rfl rfl (by simp only [List.map_toArray, List.map_cons, List.map_nil]; rfl) ?_
  with_reducible refine (tally_Of.calls s (s.size : Int) r l _ HO.out).mono ?_
  rintro e w6 ⟨rfl, hb6⟩
  refine ⟨_, rfl, ?_⟩
  have HB6 := Aside0.mk hb6
  refine hK.out _ _ ⟨(pw_cell_below hb6 hHeld.1), (pw_cell_below hb6 hHeld.2.1), (pw_cell_below hb6 hHeld.2.2.1), (pw_cell_below hb6 hHeld.2.2.2.1), (pw_cell_below hb6 hHeld.2.2.2.2)⟩ (fun hHeld => ?_)
  clear hK K
  refine norm_ (a' := ?_) ?_ ?_
  rotate_left
  · show Act.put _ (some 39) _ = _
    simp only [Act.put, List.setIfInBounds_toArray, List.set_cons_zero, List.set_cons_succ, i64_w, i32_w]
    rfl
  refine pure_ (i := 24) (N := some 40) (v := ?_) (a' := ?_) #[true, true, true, true, true, true, true, true, true, true, true, true, true, true, true, true, true, true, true, true, true, true, true, true, true, false, false] rfl rfl (by kernel_rfl) (fun _ _ _ h => h) (Or.inl ⟨by rfl, ?_⟩) ?_ ?_
  rotate_left
  · intro w'
    go_simp
    with_reducible rfl
  rotate_left
  · simp only [Act.put, List.setIfInBounds_toArray, List.set_cons_zero, List.set_cons_succ, i64_w, i32_w]
    rfl
  refine pure_ (i := 25) (N := some 41) (v := ?_) (a' := ?_) #[true, true, true, true, true, true, true, true, true, true, true, true, true, true, true, true, true, true, true, true, true, true, true, true, true, true, false] rfl rfl (by kernel_rfl) (fun _ _ _ h => h) (Or.inl ⟨by rfl, ?_⟩) ?_ ?_
  rotate_left
  · intro w'
    go_simp
    with_reducible rfl
  rotate_left
  · simp only [Act.put, List.setIfInBounds_toArray, List.set_cons_zero, List.set_cons_succ, i64_w, i32_w]
    rfl
  refine pure_ (i := 26) (N := some 2) (v := ?_) (a' := ?_) #[true, true, true, true, true, true, true, true, true, true, true, true, true, true, true, true, true, true, true, true, true, true, true, true, true, true, true] rfl rfl (by kernel_rfl) (fun _ _ _ h => h) (Or.inl ⟨by rfl, ?_⟩) ?_ ?_
  rotate_left
  · intro w'
    go_simp
    with_reducible rfl
  rotate_left
  · simp only [Act.put, List.setIfInBounds_toArray, List.set_cons_zero, List.set_cons_succ, i64_w, i32_w]
    rfl
  refine done_ (by kernel_rfl) ?_
  go_wp2
  go_ret
  refine ⟨by first | rfl | (simp; done), ?_⟩
  exact below_step (below_step (below_drew1 (Below.refl _ _)) HB5.out) HB6.out
set_option maxHeartbeats 8000000 in
set_option maxRecDepth 100000 in
theorem right_join (w : World) (p : Option Addr) (ts : List Tr) (d : Int) (h2 : 2 ≤ ts.length) (h8 : ts.length ≤ 8) (hl : Lv d ts) (hd : d ≤ 1000000)
    (ih : ∀ k ∈ ts, ∀ (w : World) (p : Option Addr), Rd w p k → Calls Try.prog 30 #[.pointer p] w fun e w' => e = .returned (.bool true) ∧ Below w.heap.size w w') (H : Rd w p (joinT ts)) :
    Calls Try.prog 30 #[.pointer p] w fun e w' => e = .returned (.bool true) ∧ Below w.heap.size w w' := by
  have hn : (joinT ts).none = false := (joinT_e hl (by omega)).1
  have HN := Aside0.mk (none_f H hn)
  obtain ⟨a, A, cp, ps, rfl, c0, c1, c2, c3, c4, c5, hcp, _, hr⟩ := H.open_
  have HR := Aside0.mk hr
  have he := hl.even
  have HE : Aside0 (∀ W, Below w.heap.size w W → ∀ m, Calls Try.prog 48 #[.slice A ts.length cp] (W.drewN m) fun e w'' => e = .returned (.bool true) ∧ ∃ k, w'' = W.drewN k) := ⟨fun W hb m => by
    have h := even_calls (W.drewN m) A ts.length cp ps ts ((hr.below hb).drewN m)
    rw [he] at h
    exact Calls.quiet_of (h.mono fun e w' ⟨e1, ⟨k, e2⟩⟩ => ⟨e1, k, e2⟩)⟩
  have HV := Aside0.mk he
  have HL := Aside0.mk (hl.sm hd)
  have IH := Aside0.mk ih
  obtain ⟨ad0, p0, q0, hx0, hp0, hr0⟩ := hr.at_ 0 (by omega) (by omega)
  have hh := hl.sm hd _ (show rdT ts 0 ∈ ts by show ts.getD 0 .nil ∈ ts; rw [List.getD_eq_getElem?_getD, List.getElem?_eq_getElem (by omega)]; exact List.getElem_mem _)
  obtain ⟨a0, rfl, hc0⟩ := h_cell hr0 (even_none he (Int.le_refl 0) (by omega)).1
  subst q0
  have hx0' : w.cell? ad0 = some (.pointer (some ⟨a0, 0, none⟩)) := by
    have e : ad0.add 0 = ad0 := by simp [Addr.add]
    rw [← e]; exact hx0
  obtain ⟨H1, hH1⟩ : ∃ x : Int, (rdT ts 0).h0 + 1 = x := ⟨_, rfl⟩
  rw [hH1] at c0
  have hw1 : wrap64 ((rdT ts 0).h0 + 1) = H1 := by rw [← hH1]; unfold SmT at hh; unfold wrap64; omega
  have hw2 : IntKind.i64.wrap ((rdT ts 0).h0 + 1) = H1 := (i64_w _).trans hw1
  have n2 : decide (ts.length < 2) = false := decide_eq_false (by omega)
  have n2i : decide ((ts.length : Int) < 2) = false := decide_eq_false (by omega)
  have n8 : decide (8 < ts.length) = false := decide_eq_false (by omega)
  have n8i : decide (8 < (ts.length : Int)) = false := decide_eq_false (by omega)
  have n0 : (ts.length == 0) = false := beq_eq_false_iff_ne.mpr (by omega)
  have n0i : ((ts.length : Int) == 0) = false := beq_eq_false_iff_ne.mpr (by omega)
  have N28 : Aside0 (2 ≤ ts.length ∧ ts.length ≤ 8) := ⟨h2, h8⟩
  have z1 : 0 < ts.length := by omega
  have z1c := eq_true z1
  have z2c := eq_true (show (0 : Int) < (ts.length : Int) by omega)
  have C1 := Aside0.mk c1
  have C2 := Aside0.mk c2
  have C3 := Aside0.mk c3
  clear H hn hr hcp he hl hd ih h2 h8 hx0 hp0 hr0 hh hH1 z1 c4
  go_enter Try.func30, Try.ntmps30
  go_wp2_with (go_at_call 50; (with_reducible refine HN.out.mono ?_); rintro e w' ⟨rfl, rfl⟩)
  go_quiet ((go_at_call 48; exact HE.out _ (Below.refl _ _) _))
  have HBq := Aside0.mk (pw_below_drewN (Below.refl w.heap.size w) nq)
  go_wp2_with (((with_reducible refine gate_dst (N := 3) rfl ?_); refine box_event ?hg (N := 3) ?hd (cs := #[.int .i64 0, .int .i64 0, .int .i64 0]) (t := 47) ?hr ?_; (case hd => rfl); (case hg => rfl); (case hr => first | (go_simp; done) | (go_simp; rfl)); intro gb hg wb hbox hb; have HB0 := Aside0.mk (below_step HBq.out hb); have BK0 : Aside0 (Bx wb gb 0 0 0) := ⟨hbox⟩; have GE : Aside0 (w.heap.size ≤ gb) := ⟨by rw [hg]; exact HBq.out.size⟩; have c5b := (HB0.out.cell (World.block_lt_of_cell? w _ c5)).trans c5; clear hb hbox hg HBq))
  go_loopg [88] (ts.length + 1) (fun kq v88 w' => ∃ x : Int, v88 = .int .i64 x ∧ Aside0 (0 ≤ x ∧ x + kq = ts.length + 1 ∧ 1 ≤ kq) ∧ Aside0 (Bx w' gb (sumB (ts.take x.toNat)) (sumR (ts.take x.toNat)) (sumL (ts.take x.toNat))) ∧ Aside0 (Below w.heap.size w w'))
  case atStart => exact ⟨0, (by first | rfl | (simp; done)), ⟨by omega⟩, BK0, HB0⟩
  case round =>
    clear BK0 HB0 c5b
    obtain ⟨x, rfl, HK, BK, HB⟩ := hrel
    obtain ⟨k1, rfl⟩ : ∃ k1, gk = k1 + 1 := ⟨gk - 1, by have := HK.out; omega⟩
    have p0 : 0 ≤ x := HK.out.1
    by_cases cx : x < (ts.length : Int)
    · have cxb : decide (x < (ts.length : Int)) = true := decide_eq_true cx
      obtain ⟨ad1, q, q1, hx1, _, hr⟩ := HR.out.at_ x p0 cx
      obtain rfl : ad0 = ad1 := by injection q1
      have hmem : rdT ts x ∈ ts := by unfold rdT; rw [List.getD_eq_getElem?_getD, List.getElem?_eq_getElem (by omega)]; exact List.getElem_mem _
      have HI := Aside0.mk (IH.out _ hmem _ _ (hr.below HB.out))
      obtain ⟨a2, rfl, d1, d2, d3⟩ := cells_kt hr (even_none HV.out p0 cx).1
      replace hx1 := pw_cell_below HB.out hx1
      have D1 := Aside0.mk (pw_cell_below HB.out d1)
      have D2 := Aside0.mk (pw_cell_below HB.out d2)
      have D3 := Aside0.mk (pw_cell_below HB.out d3)
      have HP : Aside0 (0 ≤ x ∧ x < ts.length) := ⟨p0, cx⟩
      have hsm := HL.out _ hmem
      have eB := sum_take Tr.cb ts x.toNat (by omega)
      have eR := sum_take Tr.cr ts x.toNat (by omega)
      have eL := sum_take Tr.cl ts x.toNat (by omega)
      rw [show ((x.toNat : Int)) = x by omega] at eB eR eL
      have sB := sum_SM Tr.cb ts N28.out.2 (fun t ht => (HL.out t ht).1) x.toNat
      have sR := sum_SM Tr.cr ts N28.out.2 (fun t ht => (HL.out t ht).2.1) x.toNat
      have sL := sum_SM Tr.cl ts N28.out.2 (fun t ht => (HL.out t ht).2.2.1) x.toNat
      have bk := BK.out
      unfold sumB sumR sumL at bk
      generalize hB0 : ((ts.take x.toNat).map Tr.cb).sum = xB at eB sB bk
      generalize hR0 : ((ts.take x.toNat).map Tr.cr).sum = xR at eR sR bk
      generalize hL0 : ((ts.take x.toNat).map Tr.cl).sum = xL at eL sL bk
      have sD : SM (rdT ts x).cb ∧ SM (rdT ts x).cr ∧ SM (rdT ts x).cl := by unfold SmT at hsm; unfold SM; omega
      generalize hyB : (rdT ts x).cb = yB at D1 eB sD
      generalize hyR : (rdT ts x).cr = yR at D2 eR sD
      generalize hyL : (rdT ts x).cl = yL at D3 eL sD
      have HSum := Aside0.mk (And.intro eB (And.intro eR eL))
      have HSM := Aside0.mk (And.intro sB (And.intro sR (And.intro sL sD)))
      have BKr : Aside0 (Bx wr gb xB xR xL) := ⟨bk⟩
      have p0c := eq_true p0
      have cxc := eq_true cx
      clear p0 cx hr bk BK hsm eB eR eL sB sR sL sD hB0 hR0 hL0 hyB hyR hyL q1 d1 d2 d3 hmem
      go_wp2_with (go_at_call 30; (with_reducible refine HI.out.mono ?_); rintro e w5 ⟨rfl, hb5⟩; have HB5 := Aside0.mk (below_step HB.out hb5); have BK1 : Aside0 (Bx w5 gb xB xR xL) := ⟨(hb5.block gb (blk_lt BKr.out)).trans BKr.out⟩; have d1 := pw_cell_below hb5 D1.out; have d2 := pw_cell_below hb5 D2.out; have d3 := pw_cell_below hb5 D3.out; clear hb5; have c1 := (blk_cell BK1.out 0).trans (rfl : _ = some (Value.int .i64 xB)); have c2 := (blk_cell BK1.out 1).trans (rfl : _ = some (Value.int .i64 xR)); have c3 := (blk_cell BK1.out 2).trans (rfl : _ = some (Value.int .i64 xL)))
      refine start_ (n := 9) (S := fun w' => w'.cell? ⟨gb, 0, none⟩ = some (.int .i64 xB) ∧ w'.cell? ⟨gb, 1, none⟩ = some (.int .i64 xR) ∧ w'.cell? ⟨gb, 2, none⟩ = some (.int .i64 xL) ∧ w'.cell? ⟨a2, 1, none⟩ = some (.int .i64 yB) ∧ w'.cell? ⟨a2, 2, none⟩ = some (.int .i64 yR) ∧ w'.cell? ⟨a2, 3, none⟩ = some (.int .i64 yL)) (ds := [8]) #[false, false, false, false, false, false, false, false, false] (by kernel_rfl) rfl rfl ⟨c1, c2, c3, d1, d2, d3⟩ (fun hHeld => ?_)
      refine pure_ (i := 1) (N := some 96) (v := ?_) (a' := ?_) #[false, true, false, false, false, false, false, false, false] rfl rfl (by kernel_rfl) (fun _ _ _ h => h) (Or.inl ⟨by rfl, ?_⟩) ?_ ?_
      rotate_left
      · intro w'
        go_simp
        with_reducible rfl
      rotate_left
      · simp only [Act.put, List.setIfInBounds_toArray, List.set_cons_zero, List.set_cons_succ, i64_w, i32_w]
        rfl
      refine pure_ (i := 2) (N := some 97) (v := ?_) (a' := ?_) #[false, true, true, false, false, false, false, false, false] rfl rfl (by kernel_rfl) (fun _ _ _ h => h) (Or.inl ⟨by rfl, ?_⟩) ?_ ?_
      rotate_left
      · intro w'
        go_simp
        with_reducible rfl
      rotate_left
      · simp only [Act.put, List.setIfInBounds_toArray, List.set_cons_zero, List.set_cons_succ, i64_w, i32_w]
        rfl
      refine pure_ (i := 3) (N := some 98) (v := ?_) (a' := ?_) #[false, true, true, true, false, false, false, false, false] rfl rfl (by kernel_rfl) (fun _ _ _ h => h) (Or.inl ⟨by rfl, ?_⟩) ?_ ?_
      rotate_left
      · intro w'
        go_simp
        with_reducible rfl
      rotate_left
      · simp only [Act.put, List.setIfInBounds_toArray, List.set_cons_zero, List.set_cons_succ, i64_w, i32_w]
        rfl
      refine pure_ (i := 4) (N := some 99) (v := ?_) (a' := ?_) #[false, true, true, true, true, false, false, false, false] rfl rfl (by kernel_rfl) (fun _ _ _ h => h) (Or.inl ⟨by rfl, ?_⟩) ?_ ?_
      rotate_left
      · intro w'
        go_simp
        with_reducible rfl
      rotate_left
      · simp only [Act.put, List.setIfInBounds_toArray, List.set_cons_zero, List.set_cons_succ, i64_w, i32_w]
        rfl
      refine take_ (i := 0) (N := some 95) (v := ?_) (a' := ?_) #[true, true, true, true, true, false, false, false, false] rfl rfl (by kernel_rfl) (fun _ _ _ h => h) (Or.inl ⟨by rfl, ?_⟩) hHeld ?_ ?_
      rotate_left
      · rintro w' ⟨s0, s1, s2, s3, s4, s5⟩
        go_simp
        with_reducible rfl
      rotate_left
      · simp only [Act.put, List.setIfInBounds_toArray, List.set_cons_zero, List.set_cons_succ, i64_w, i32_w]
        rfl
      refine take_ (i := 5) (N := some 100) (v := ?_) (a' := ?_) #[true, true, true, true, true, true, false, false, false] rfl rfl (by kernel_rfl) (fun _ _ _ h => h) (Or.inl ⟨by rfl, ?_⟩) hHeld ?_ ?_
      rotate_left
      · rintro w' ⟨s0, s1, s2, s3, s4, s5⟩
        go_simp
        with_reducible rfl
      rotate_left
      · simp only [Act.put, List.setIfInBounds_toArray, List.set_cons_zero, List.set_cons_succ, i64_w, i32_w]
        rfl
      refine one_ (i := 6) (N := some 101) #[true, true, true, true, true, true, true, false, false] rfl rfl (by kernel_rfl) (by decide) (fun K hK => ?_)
      refine value_ (w1 := ?_) (v := ?_) (by rfl) rfl ?_ ?_
      rotate_left 2
      · go_simp
        constructor
        · rfl
        · rfl
      refine hK.out _ _ ⟨(pw_cell_below (below_alloc (Below.refl _ _) _) c1), (pw_cell_below (below_alloc (Below.refl _ _) _) c2), (pw_cell_below (below_alloc (Below.refl _ _) _) c3), (pw_cell_below (below_alloc (Below.refl _ _) _) d1), (pw_cell_below (below_alloc (Below.refl _ _) _) d2), (pw_cell_below (below_alloc (Below.refl _ _) _) d3)⟩ (fun hHeld => ?_)
      clear hK K
      refine norm_ (a' := ?_) ?_ ?_
      rotate_left
      · show Act.put _ (some 101) _ = _
        simp only [Act.put, List.setIfInBounds_toArray, List.set_cons_zero, List.set_cons_succ, i64_w, i32_w]
        rfl
      refine one_ (i := 7) (N := some 102) #[true, true, true, true, true, true, true, true, false] rfl rfl (by kernel_rfl) (by decide) (fun K hK => ?_)
      refine goes_ Try.func51 (by kernel_rfl) rfl #[.slice (some ⟨w5.drew.heap.size, 0, none⟩) 2 2] (by rfl) rfl rfl (by simp only [List.map_toArray, List.map_cons, List.map_nil]; rfl) ?_
      with_reducible refine (add2_drew w5 xB xR xL yB yR yL HSM.out.1 HSM.out.2.1 HSM.out.2.2.1 HSM.out.2.2.2.1 HSM.out.2.2.2.2.1 HSM.out.2.2.2.2.2).mono ?_
      rintro e w7 ⟨rfl, hb⟩
      refine ⟨_, rfl, ?_⟩
      have HB7 := Aside0.mk hb
      have BK7 : Aside0 (Bx w7 gb xB xR xL) := ⟨(hb.block gb (blk_lt BK1.out)).trans BK1.out⟩
      have f1 := blk_frozen BK7.out 0
      have f2 := blk_frozen BK7.out 1
      have f3 := blk_frozen BK7.out 2
      refine hK.out _ _ ⟨(pw_cell_below hb c1), (pw_cell_below hb c2), (pw_cell_below hb c3), (pw_cell_below hb d1), (pw_cell_below hb d2), (pw_cell_below hb d3)⟩ (fun hHeld => ?_)
      clear hK K
      refine norm_ (a' := ?_) ?_ ?_
      rotate_left
      · show Act.put _ (some 102) _ = _
        simp only [Act.put, List.setIfInBounds_toArray, List.set_cons_zero, List.set_cons_succ, i64_w, i32_w]
        rfl
      refine last_ (i := 8) (N := none) #[true, true, true, true, true, true, true, true, true] rfl rfl (by kernel_rfl) (by decide) (fun K hK => ?_)
      refine skip_ (w1 := ?_) (by rfl) rfl ?_ ?_
      rotate_left
      · go_simp
        rfl
      refine hK.out _ _ ?_
      clear hK K
      refine done_ (by kernel_rfl) ?_
      go_wp2
      go_roundg k1
      case measure => omega
      case rel =>
        have e := HSum.out
        have hx : (wrap64 (x + 1)).toNat = x.toNat + 1 := by have := HK.out; have := HP.out; have := N28.out; unfold wrap64; omega
        refine ⟨wrap64 (x + 1), (by first | rfl | (simp; done)), ⟨by have := HK.out; have := HP.out; have := N28.out; unfold wrap64; omega⟩, ⟨?_⟩, ⟨?_⟩⟩
        · rw [hx]
          unfold sumB sumR sumL
          rw [e.1, e.2.1, e.2.2]
          exact blk_put (blk_put (blk_put BK7.out 0 (.int .i64 (xB + yB)) rfl) 1 (.int .i64 (xR + yR)) rfl) 2 (.int .i64 (xL + yL)) rfl
        · exact below_set (below_set (below_set (below_step HB5.out HB7.out) GE.out) GE.out) GE.out
    · have cxb : decide (x < (ts.length : Int)) = false := decide_eq_false cx
      have hx : ts.take x.toNat = ts := List.take_of_length_le (by omega)
      have bk := BK.out
      rw [hx] at bk
      have e1 := (blk_cell bk 0).trans (rfl : _ = some (Value.int .i64 (sumB ts)))
      have e2 := (blk_cell bk 1).trans (rfl : _ = some (Value.int .i64 (sumR ts)))
      have e3 := (blk_cell bk 2).trans (rfl : _ = some (Value.int .i64 (sumL ts)))
      have d1 := pw_cell_below HB.out C1.out
      have d2 := pw_cell_below HB.out C2.out
      have d3 := pw_cell_below HB.out C3.out
      clear p0 cx bk hx BK
      go_wp2
      go_quiet (fail)
      go_wp2
      go_ret
      exact ⟨by first | rfl | (simp; done), pw_below_drewN HB.out _⟩
theorem right_calls {t : Tr} (h : FineT t) : ∀ (w : World) (p : Option Addr), Rd w p t → Calls Try.prog 30 #[.pointer p] w fun e w' => e = .returned (.bool true) ∧ Below w.heap.size w w' := by
  induction h with
  | leaf s r l hf ho => intro w p H; exact right_leaf w p s r l hf ho H
  | join kids d h2 h8 hl hd hk ih => intro w p H; exact right_join w p kids d h2 h8 hl hd ih H
end Go.Proofs.Ytgkjagfdlhcgjaa.Ki
