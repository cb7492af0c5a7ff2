import Derived.Test.YtdcnoiofimngpaaGe
/- Line: the walk. -/
namespace Go.Proofs.Ytdcnoiofimngpaa.Gl
open Go.RowKit Go.Proofs.Ytdcnoiofimngpaa.U Go.Proofs.Ytdcnoiofimngpaa.QK Go.Proofs.Ytdcnoiofimngpaa.QS Go.Proofs.Ytdcnoiofimngpaa.Kt Go.Proofs.Ytdcnoiofimngpaa.Ka Go.Proofs.Ytdcnoiofimngpaa.Kb Go.Proofs.Ytdcnoiofimngpaa.Kc Go.Proofs.Ytdcnoiofimngpaa.Kd_ Go.Proofs.Ytdcnoiofimngpaa.Ke Go.Proofs.Ytdcnoiofimngpaa.Kf Go.Proofs.Ytdcnoiofimngpaa.Kh Go.Proofs.Ytdcnoiofimngpaa.Ki Go.Proofs.Ytdcnoiofimngpaa.Kj Go.Proofs.Ytdcnoiofimngpaa.Kk Go.Proofs.Ytdcnoiofimngpaa.Gs Go.Proofs.Ytdcnoiofimngpaa.Gd Go.Proofs.Ytdcnoiofimngpaa.Gt Go.Proofs.Ytdcnoiofimngpaa.Gr Go.Proofs.Ytdcnoiofimngpaa.Ge Go.Proofs.Ytdcnoiofimngpaa.Gq Go.Proofs.Ytdcnoiofimngpaa.Gn Go.Proofs.YtdcnoiofimngpaaW.PrintWords Go.Proofs.YtdcnoiofimngpaaW.PrintLast Go.Proofs.YtdcnoiofimngpaaW.PrintMore
set_option linter.unusedVariables false
set_option linter.unusedSimpArgs false
theorem kf_take (j : Int) (s : ByteArray) (n : Nat) : kf j (s.extract 0 n) ≤ kf j s := by
  have e : s = s.extract 0 n ++ s.extract n s.size := by
    apply ld_ext
    rw [Gc.ld_app, Gc.ld_take, Gc.ld_drop, List.take_append_drop]
  have h := kf_app j (s.extract 0 n) (s.extract n s.size)
  rw [← e] at h
  have := kf_nonneg j (s.extract n s.size)
  omega
theorem check_in {s : ByteArray} {x : Int} (c : checkV s x = 0) : 0 ≤ x ∧ x ≤ s.size := by
  unfold checkV at c
  split at c
  · cases c
  · split at c
    · cases c
    · omega
/-- Line -/
def lineV (s : ByteArray) (x : Int) : Int × Int × Int := if checkV s x = 0 then (kf 2 (s.extract 0 x.toNat), kf 1 (s.extract 0 x.toNat) - kf 1 (s.extract 0 (nl (ld s) (kf 2 (s.extract 0 x.toNat)).toNat)), 0) else (0, 0, checkV s x)
variable {w0 : World} {g : Nat} {p : Option Addr} {t : Tr} {C : List ByteArray}
set_option maxHeartbeats 8000000 in
set_option maxRecDepth 100000 in
theorem line_calls (h : Rope w0 g p t C) (hv : ∀ x ∈ C, Sp.valid (ld x) = true) {w : World} (hb : Below w0.heap.size w0 w) (x : Int) : Calls Try.prog 40 #[.pointer (some ⟨g, 0, none⟩), .int .i64 x] w fun e w' => e = .returned (.tuple #[.int .i64 (lineV (cat C) x).1, .int .i64 (lineV (cat C) x).2.1, .int .i64 (lineV (cat C) x).2.2]) ∧ Below w.heap.size w w' := by
  have hu91 := Try.underlying91
  have HC := Aside0.mk (check_calls h hv hb x)
  unfold lineV
  by_cases c : checkV (cat C) x = 0
  · rw [if_pos c]
    have hs0 := h.s 0
    rw [kt_cat, kf0] at hs0
    obtain ⟨x0, x1⟩ := check_in c
    have hx : 0 ≤ x ∧ x ≤ kt 0 C := by rw [kt_cat, kf0]; exact ⟨x0, x1⟩
    have HN : Aside0 (∀ W, Below w.heap.size w W → Calls Try.prog 57 #[.pointer (some ⟨g, 0, none⟩), .int .i64 x] W fun e w' => e = .returned (.agg #[.int .i64 (kf 0 ((cat C).extract 0 x.toNat)), .int .i64 (kf 1 ((cat C).extract 0 x.toNat)), .int .i64 (kf 2 ((cat C).extract 0 x.toNat))]) ∧ Below W.heap.size W w') := ⟨fun W h2 => counted_calls h (below_step hb h2) x hx⟩
    have l0 := kf_nonneg 2 ((cat C).extract 0 x.toNat)
    have l1 := kf_take 2 (cat C) x.toNat
    have hst := nl_le (ld (cat C)) (kf 2 ((cat C).extract 0 x.toNat)).toNat
    rw [ld_len] at hst
    have HST : Aside0 (∀ W, Below w.heap.size w W → Calls Try.prog 43 #[.pointer (some ⟨g, 0, none⟩), .int .i64 (kf 2 ((cat C).extract 0 x.toNat))] W fun e w' => e = .returned (.tuple #[.int .i64 (nl (ld (cat C)) (kf 2 ((cat C).extract 0 x.toNat)).toNat : Nat), .int .i64 0]) ∧ Below W.heap.size W w') := ⟨fun W h2 => by
      have := start_calls h (below_step hb h2) (kf 2 ((cat C).extract 0 x.toNat))
      unfold startV at this
      rw [if_neg (by omega), if_neg (by omega)] at this
      exact this⟩
    obtain ⟨q, hq⟩ : ∃ q, nl (ld (cat C)) (kf 2 ((cat C).extract 0 x.toNat)).toNat = q := ⟨_, rfl⟩
    rw [hq] at HST hst ⊢
    obtain ⟨st, hst2⟩ : ∃ st : Int, (q : Int) = st := ⟨_, rfl⟩
    have HN2 : Aside0 (∀ W, Below w.heap.size w W → Calls Try.prog 57 #[.pointer (some ⟨g, 0, none⟩), .int .i64 st] W fun e w' => e = .returned (.agg #[.int .i64 (kf 0 ((cat C).extract 0 q)), .int .i64 (kf 1 ((cat C).extract 0 q)), .int .i64 (kf 2 ((cat C).extract 0 q))]) ∧ Below W.heap.size W w') := ⟨fun W h2 => by
      have := counted_calls h (below_step hb h2) st ⟨by omega, by rw [kt_cat, kf0]; omega⟩
      rw [show st.toNat = q by omega] at this
      exact this⟩
    rw [hst2] at HST
    rw [c] at HC
    obtain ⟨cB, hcB⟩ : ∃ z, kf 0 ((cat C).extract 0 x.toNat) = z := ⟨_, rfl⟩
    obtain ⟨cR, hcR⟩ : ∃ z, kf 1 ((cat C).extract 0 x.toNat) = z := ⟨_, rfl⟩
    obtain ⟨cL, hcL⟩ : ∃ z, kf 2 ((cat C).extract 0 x.toNat) = z := ⟨_, rfl⟩
    have EW : Aside0 (wrap64 (cR - kf 1 ((cat C).extract 0 q)) = cR - kf 1 ((cat C).extract 0 q)) := ⟨by
      have a1 := kf_nonneg 1 ((cat C).extract 0 x.toNat)
      have a2 := kf_take 1 (cat C) x.toNat
      have a3 := kf_nonneg 1 ((cat C).extract 0 q)
      have a4 := kf_take 1 (cat C) q
      have a5 := kf_le 1 (cat C)
      unfold wrap64; omega⟩
    rw [hcL] at HST
    rw [hcB, hcR, hcL] at HN
    rw [hcR, hcL]
    obtain ⟨d0, hd0⟩ : ∃ z, kf 0 ((cat C).extract 0 q) = z := ⟨_, rfl⟩
    obtain ⟨d1, hd1⟩ : ∃ z, kf 1 ((cat C).extract 0 q) = z := ⟨_, rfl⟩
    obtain ⟨d2, hd2⟩ : ∃ z, kf 2 ((cat C).extract 0 q) = z := ⟨_, rfl⟩
    rw [hd0, hd1, hd2] at HN2
    rw [hd1] at EW ⊢
    clear h hv hb c hs0 x0 x1 hx l0 l1 hst hq hst2 hcB hcR hcL hd0 hd1 hd2
    go_enter Try.func40, Try.ntmps40
    go_wp2_with (first
      | (go_at_call 56; (with_reducible refine HC.out.mono ?_); rintro e w3 ⟨rfl, hb⟩; have HB := Aside0.mk hb; clear hb)
      | (go_at_call 57; (with_reducible refine (HN.out _ HB.out).mono ?_); rintro e w4 ⟨rfl, hb⟩; have HB2 := Aside0.mk (below_step HB.out hb); clear HB hb; have HB := HB2; clear HB2)
      | ((with_reducible refine gate_dst (N := 8) rfl ?_); refine box_event ?hg (N := 8) ?hd (cs := #[.int .i64 0, .int .i64 0, .int .i64 0]) (t := 91) ?hr ?_; (case hd => rfl); (case hg => rfl); (case hr => first | (go_simp; done) | (go_simp; rfl)); intro g8 hg w5 hbox hb; have BK8 : Aside0 (Bk3 w5 g8 0 0 0) := ⟨hbox⟩; have GE8 : Aside0 (w.heap.size ≤ g8) := ⟨by rw [hg]; exact HB.out.size⟩; have HB2 := Aside0.mk (below_step HB.out hb); clear HB hb hbox hg; have HB := HB2; clear HB2)
      | ((with_reducible refine gate_store (t := 91) (p := 8) (v := .tmp 19) rfl ?_); refine Sa.store_whole rfl rfl 91 (.tmp 8) (.tmp 19) rfl g8 #[.int .i64 0, .int .i64 0, .int .i64 0] [.int .i64 cB, .int .i64 cR, .int .i64 cL] rfl rfl (by kernel_rfl) BK8.out rfl (by simp [Value.oneCell']) ?_; intro w6 hbox hg; have HB2 := Aside0.mk (Sa.grown_below HB.out (below_size HB.out) hg GE8.out); clear HB BK8; have HB := HB2; clear HB2; have BK8 : Aside0 (Bk3 w6 g8 cB cR cL) := ⟨hbox⟩; have z2 : w6.cell? ⟨g8, 2, none⟩ = some (.int .i64 cL) := (blk_cell hbox 2).trans rfl; clear hbox hg)
      | (go_at_call 43; (with_reducible refine (HST.out _ HB.out).mono ?_); rintro e wr ⟨rfl, hb⟩; have HB2 := Aside0.mk (below_step HB.out hb); have BK2 : Aside0 (Bk3 wr g8 cB cR cL) := ⟨blk_below BK8.out hb⟩; clear HB BK8 z2 hb; have HB := HB2; have BK8 := BK2; clear HB2 BK2; have p1 : wr.cell? ⟨g8, 1, none⟩ = some (.int .i64 cR) := (blk_cell BK8.out 1).trans rfl; have p2 : wr.cell? ⟨g8, 2, none⟩ = some (.int .i64 cL) := (blk_cell BK8.out 2).trans rfl))
    refine start_ (n := 12) (S := fun w' => w'.cell? ⟨g8, 1, none⟩ = some (.int .i64 cR) ∧ w'.cell? ⟨g8, 2, none⟩ = some (.int .i64 cL)) (ds := []) #[false, false, false, false, false, false, false, false, false, false, false, false] (by kernel_rfl) rfl rfl ⟨p1, p2⟩ (fun hHeld => ?_)
    refine pure_ (i := 0) (N := some 27) (v := ?_) (a' := ?_) #[true, false, false, false, false, false, false, false, false, false, false, false] rfl rfl (by kernel_rfl) (fun _ _ _ h => h) (Or.inl ⟨by rfl, ?_⟩) ?_ ?_
    rotate_left
    · intro w'
      go_simp
      with_reducible rfl
    rotate_left
    · simp only [Act.put, List.setIfInBounds_toArray, List.set_cons_zero, List.set_cons_succ, i64_w, i32_w]
      rfl
    refine pure_ (i := 2) (N := some 29) (v := ?_) (a' := ?_) #[true, false, true, false, false, false, false, false, false, false, false, false] rfl rfl (by kernel_rfl) (fun _ _ _ h => h) (Or.inl ⟨by rfl, ?_⟩) ?_ ?_
    rotate_left
    · intro w'
      go_simp
      with_reducible rfl
    rotate_left
    · simp only [Act.put, List.setIfInBounds_toArray, List.set_cons_zero, List.set_cons_succ, i64_w, i32_w]
      rfl
    refine pure_ (i := 4) (N := some 31) (v := ?_) (a' := ?_) #[true, false, true, false, true, false, false, false, false, false, false, false] rfl rfl (by kernel_rfl) (fun _ _ _ h => h) (Or.inl ⟨by rfl, ?_⟩) ?_ ?_
    rotate_left
    · intro w'
      go_simp
      with_reducible rfl
    rotate_left
    · simp only [Act.put, List.setIfInBounds_toArray, List.set_cons_zero, List.set_cons_succ, i64_w, i32_w]
      rfl
    refine pure_ (i := 5) (N := some 32) (v := ?_) (a' := ?_) #[true, false, true, false, true, true, false, false, false, false, false, false] rfl rfl (by kernel_rfl) (fun _ _ _ h => h) (Or.inl ⟨by rfl, ?_⟩) ?_ ?_
    rotate_left
    · intro w'
      go_simp
      with_reducible rfl
    rotate_left
    · simp only [Act.put, List.setIfInBounds_toArray, List.set_cons_zero, List.set_cons_succ, i64_w, i32_w]
      rfl
    refine take_ (i := 1) (N := some 28) (v := ?_) (a' := ?_) #[true, true, true, false, true, true, false, false, false, false, false, false] rfl rfl (by kernel_rfl) (fun _ _ _ h => h) (Or.inl ⟨by rfl, ?_⟩) hHeld ?_ ?_
    rotate_left
    · rintro w' ⟨s0, s1⟩
      go_simp
      with_reducible rfl
    rotate_left
    · simp only [Act.put, List.setIfInBounds_toArray, List.set_cons_zero, List.set_cons_succ, i64_w, i32_w]
      rfl
    refine take_ (i := 3) (N := some 30) (v := ?_) (a' := ?_) #[true, true, true, true, true, true, false, false, false, false, false, false] rfl rfl (by kernel_rfl) (fun _ _ _ h => h) (Or.inl ⟨by rfl, ?_⟩) hHeld ?_ ?_
    rotate_left
    · rintro w' ⟨s0, s1⟩
      go_simp
      with_reducible rfl
    rotate_left
    · simp only [Act.put, List.setIfInBounds_toArray, List.set_cons_zero, List.set_cons_succ, i64_w, i32_w]
      rfl
    refine one_ (i := 6) (N := some 33) #[true, true, true, true, true, true, true, false, false, false, false, false] rfl rfl (by kernel_rfl) (by decide) (fun K hK => ?_)
    refine goes_ Try.func57 (by kernel_rfl) rfl #[.pointer (some ⟨g, 0, none⟩), .int .i64 st] (by rfl) rfl rfl (by simp only [List.map_toArray, List.map_cons, List.map_nil]; rfl) ?_
    with_reducible refine (HN2.out _ (below_drew1 HB.out)).mono ?_
    rintro e wh ⟨rfl, hb⟩
    refine ⟨_, rfl, ?_⟩
    have HBH := Aside0.mk hb
    refine hK.out _ _ ⟨(pw_cell_below hb hHeld.1), (pw_cell_below hb hHeld.2)⟩ (fun hHeld => ?_)
    clear hK K
    refine norm_ (a' := ?_) ?_ ?_
    rotate_left
    · show Act.put _ (some 33) _ = _
      simp only [Act.put, List.setIfInBounds_toArray, List.set_cons_zero, List.set_cons_succ, i64_w, i32_w]
      rfl
    refine pure_ (i := 7) (N := some 34) (v := ?_) (a' := ?_) #[true, true, true, true, true, true, true, true, false, false, false, false] rfl rfl (by kernel_rfl) (fun _ _ _ h => h) (Or.inl ⟨by rfl, ?_⟩) ?_ ?_
    rotate_left
    · intro w'
      first | (go_simp; with_reducible rfl) | (go_simp; rw [field91_1]; go_simp; with_reducible rfl) | (go_simp; rw [field91_1]; rfl)
    rotate_left
    · simp only [Act.put, List.setIfInBounds_toArray, List.set_cons_zero, List.set_cons_succ, i64_w, i32_w]
      rfl
    refine pure_ (i := 8) (N := some 35) (v := ?_) (a' := ?_) #[true, true, true, true, true, true, true, true, true, false, false, false] rfl rfl (by kernel_rfl) (fun _ _ _ h => h) (Or.inl ⟨by rfl, ?_⟩) ?_ ?_
    rotate_left
    · intro w'
      go_simp
      with_reducible rfl
    rotate_left
    · simp only [Act.put, List.setIfInBounds_toArray, List.set_cons_zero, List.set_cons_succ, i64_w, i32_w]
      rfl
    refine pure_ (i := 9) (N := some 4) (v := ?_) (a' := ?_) #[true, true, true, true, true, true, true, true, true, true, false, false] rfl rfl (by kernel_rfl) (fun _ _ _ h => h) (Or.inl ⟨by rfl, ?_⟩) ?_ ?_
    rotate_left
    · intro w'
      go_simp
      with_reducible rfl
    rotate_left
    · simp only [Act.put, List.setIfInBounds_toArray, List.set_cons_zero, List.set_cons_succ, i64_w, i32_w]
      rfl
    refine pure_ (i := 10) (N := some 5) (v := ?_) (a' := ?_) #[true, true, true, true, true, true, true, true, true, true, true, false] rfl rfl (by kernel_rfl) (fun _ _ _ h => h) (Or.inl ⟨by rfl, ?_⟩) ?_ ?_
    rotate_left
    · intro w'
      go_simp
      with_reducible rfl
    rotate_left
    · simp only [Act.put, List.setIfInBounds_toArray, List.set_cons_zero, List.set_cons_succ, i64_w, i32_w]
      rfl
    refine pure_ (i := 11) (N := some 6) (v := ?_) (a' := ?_) #[true, true, true, true, true, true, true, true, true, true, true, true] rfl rfl (by kernel_rfl) (fun _ _ _ h => h) (Or.inl ⟨by rfl, ?_⟩) ?_ ?_
    rotate_left
    · intro w'
      go_simp
      with_reducible rfl
    rotate_left
    · simp only [Act.put, List.setIfInBounds_toArray, List.set_cons_zero, List.set_cons_succ, i64_w, i32_w]
      rfl
    refine done_ (by kernel_rfl) ?_
    go_wp2
    go_ret3
    exact ⟨by show Ending.returned (.tuple #[.int .i64 cL, .int .i64 (wrap64 (cR - d1)), .int .i64 0]) = _; rw [EW.out], below_step (below_drew1 HB.out) HBH.out⟩
  · rw [if_neg c]
    have cb : (checkV (cat C) x == 0) = false := beq_eq_false_iff_ne.mpr c
    clear h hv hb c
    go_enter Try.func40, Try.ntmps40
    go_wp2_with (go_at_call 56; (with_reducible refine HC.out.mono ?_); rintro e w3 ⟨rfl, hb⟩; have HB := Aside0.mk hb; clear hb)
    go_ret3
    exact ⟨rfl, HB.out⟩
end Go.Proofs.Ytdcnoiofimngpaa.Gl
/- Byte: where runes begin, in plain words; the walk. -/
namespace Go.Proofs.Ytdcnoiofimngpaa.Gb
open Go.RowKit Go.Proofs.Ytdcnoiofimngpaa.U Go.Proofs.Ytdcnoiofimngpaa.QK Go.Proofs.Ytdcnoiofimngpaa.QS Go.Proofs.Ytdcnoiofimngpaa.Kt Go.Proofs.Ytdcnoiofimngpaa.Ka Go.Proofs.Ytdcnoiofimngpaa.Kb Go.Proofs.Ytdcnoiofimngpaa.Kc Go.Proofs.Ytdcnoiofimngpaa.Kd_ Go.Proofs.Ytdcnoiofimngpaa.Ke Go.Proofs.Ytdcnoiofimngpaa.Kf Go.Proofs.Ytdcnoiofimngpaa.Kh Go.Proofs.Ytdcnoiofimngpaa.Ki Go.Proofs.Ytdcnoiofimngpaa.Kj Go.Proofs.Ytdcnoiofimngpaa.Kk Go.Proofs.Ytdcnoiofimngpaa.Gs Go.Proofs.Ytdcnoiofimngpaa.Gd Go.Proofs.Ytdcnoiofimngpaa.Gt Go.Proofs.Ytdcnoiofimngpaa.Gr Go.Proofs.Ytdcnoiofimngpaa.Ge Go.Proofs.Ytdcnoiofimngpaa.Gq Go.Proofs.Ytdcnoiofimngpaa.Gn Go.Proofs.Ytdcnoiofimngpaa.Gl Go.Proofs.YtdcnoiofimngpaaW.PrintWords Go.Proofs.YtdcnoiofimngpaaW.PrintLast Go.Proofs.YtdcnoiofimngpaaW.PrintMore
set_option linter.unusedVariables false
set_option linter.unusedSimpArgs false
/-- the place of the k-th rune -/
def rn : List UInt8 → Nat → Nat
  | [], _ => 0
  | b :: l, 0 => if Sp.cont b = true then 1 + rn l 0 else 0
  | b :: l, k + 1 => if Sp.cont b = true then 1 + rn l (k + 1) else 1 + rn l k
theorem rn_cont {b : UInt8} (h : Sp.cont b = true) (l : List UInt8) (k : Nat) : rn (b :: l) k = 1 + rn l k := by cases k <;> rw [rn, if_pos h]
theorem rn_head {b : UInt8} (h : Sp.cont b = false) (l : List UInt8) : rn (b :: l) 0 = 0 := by rw [rn, if_neg (by rw [h]; decide)]
theorem rn_next {b : UInt8} (h : Sp.cont b = false) (l : List UInt8) (k : Nat) : rn (b :: l) (k + 1) = 1 + rn l k := by rw [rn, if_neg (by rw [h]; decide)]
theorem rn_conts (l : List UInt8) (k : Nat) : ∀ c : List UInt8, (∀ y ∈ c, Sp.cont y = true) → rn (c ++ l) k = c.length + rn l k
  | [], h => by simp
  | y :: c, h => by
    rw [List.cons_append, rn_cont (h y (by simp)), rn_conts l k c (fun z hz => h z (by simp [hz])), List.length_cons]
    omega
theorem runes_conts (l : List UInt8) : ∀ c : List UInt8, (∀ y ∈ c, Sp.cont y = true) → Sp.runes (c ++ l) = Sp.runes l
  | [], h => rfl
  | y :: c, h => by
    rw [List.cons_append, Sp.runes, if_pos (h y (by simp)), runes_conts l c (fun z hz => h z (by simp [hz]))]
    omega
theorem rn_le : ∀ (l : List UInt8) (k : Nat), rn l k ≤ l.length
  | [], k => by rw [rn]; omega
  | b :: l, k => by
    rw [List.length_cons]
    cases hb : Sp.cont b with
    | true => rw [rn_cont hb]; have := rn_le l k; omega
    | false =>
      cases k with
      | zero => rw [rn_head hb]; omega
      | succ k => rw [rn_next hb]; have := rn_le l k; omega
theorem rn_valid {l : List UInt8} (hv : Sp.valid l = true) : rn l 0 = 0 := by
  cases l with
  | nil => rfl
  | cons b r =>
    have := head_not hv (by simp)
    exact rn_head this r
/-- a valid text's first rune -/
theorem rune1 {l : List UInt8} (hv : Sp.valid l = true) (hne : l ≠ []) : 1 ≤ (Sp.dec l).2 ∧ (Sp.dec l).2 ≤ l.length ∧ Sp.valid (l.drop (Sp.dec l).2) = true ∧ Sp.runes l = 1 + Sp.runes (l.drop (Sp.dec l).2) ∧ ∀ k, rn l (k + 1) = (Sp.dec l).2 + rn (l.drop (Sp.dec l).2) k := by
  have hv0 := hv
  rw [Sp.valid_step l hne] at hv
  simp only [Bool.and_eq_true, decide_eq_true_eq] at hv
  obtain ⟨t, hr, hw, hl⟩ := Sp.dec_some hv.1
  obtain ⟨x, y, he, hx, hy⟩ := Sp.enc_cont hr
  have hlen := Sp.enc_length hr
  have hle := @Sp.dec_le l
  refine ⟨by have := hv.1; omega, hle, hv.2, ?_, fun k => ?_⟩
  · have hdr : l.drop (Sp.dec l).2 = t := by
      generalize Sp.dec l = d at hl hw hlen
      rw [hl, hw, ← hlen]; exact List.drop_left
    rw [hdr]
    generalize Sp.dec l = d at hl he
    rw [hl, he, List.cons_append, Sp.runes, if_neg (by rw [hx]; decide), runes_conts t y hy]
  · have hdr : l.drop (Sp.dec l).2 = t := by
      generalize Sp.dec l = d at hl hw hlen
      rw [hl, hw, ← hlen]; exact List.drop_left
    rw [hdr]
    rw [he, List.length_cons] at hlen
    rw [hw]
    generalize Sp.dec l = d at hl he hlen
    rw [hl, he, List.cons_append, rn_next hx, rn_conts t k y hy]
    omega
theorem take_at : ∀ (j : Nat) (l : List UInt8), Sp.valid l = true → j < Sp.runes l → rn l j < l.length ∧ 1 ≤ (Sp.take l (rn l j : Nat)).2 ∧ rn l j + (Sp.take l (rn l j : Nat)).2 = rn l (j + 1)
  | 0, l, hv, hj => by
    have hne : l ≠ [] := fun e => by subst e; simp [Sp.runes] at hj
    have hpos : 0 < l.length := List.length_pos_iff.mpr hne
    obtain ⟨h1, h2, h3, h4, h5⟩ := rune1 hv hne
    rw [rn_valid hv, h5 0, rn_valid h3]
    unfold Sp.take
    rw [if_pos ⟨by omega, by omega⟩]
    exact ⟨hpos, h1, by simp⟩
  | j + 1, l, hv, hj => by
    have hne : l ≠ [] := fun e => by subst e; simp [Sp.runes] at hj
    obtain ⟨h1, h2, h3, h4, h5⟩ := rune1 hv hne
    obtain ⟨i1, i2, i3⟩ := take_at j (l.drop (Sp.dec l).2) h3 (by omega)
    rw [h5 j, h5 (j + 1)]
    have hlt : (Sp.dec l).2 + rn (l.drop (Sp.dec l).2) j < l.length := by rw [List.length_drop] at i1; omega
    have e : Sp.take l (((Sp.dec l).2 + rn (l.drop (Sp.dec l).2) j : Nat) : Int) = Sp.take (l.drop (Sp.dec l).2) (rn (l.drop (Sp.dec l).2) j : Nat) := by
      unfold Sp.take
      rw [if_pos ⟨by omega, by omega⟩, if_pos ⟨by omega, by omega⟩, Int.toNat_natCast, Int.toNat_natCast, List.drop_drop]
    rw [e]
    exact ⟨hlt, i2, by omega⟩
theorem rn_app : ∀ (l1 l2 : List UInt8) (k : Nat), Sp.runes l1 ≤ k → Sp.valid l2 = true → Sp.valid l1 = true → rn (l1 ++ l2) k = l1.length + rn l2 (k - Sp.runes l1) := by
  suffices h : ∀ (l1 l2 : List UInt8) (k : Nat), Sp.runes l1 ≤ k → Sp.valid l2 = true → rn (l1 ++ l2) k = l1.length + rn l2 (k - Sp.runes l1) from fun a b c d e _ => h a b c d e
  intro l1
  induction l1 with
  | nil => intro l2 k h hv; simp [Sp.runes]
  | cons b l1 ih =>
    intro l2 k h hv
    rw [List.cons_append, List.length_cons]
    rw [Sp.runes] at h ⊢
    cases hb : Sp.cont b with
    | true =>
      rw [hb, if_pos rfl] at h
      rw [rn_cont hb, ih l2 k (by omega) hv, if_pos rfl, Nat.zero_add]; omega
    | false =>
      rw [hb, if_neg (by decide)] at h
      obtain ⟨k, rfl⟩ : ∃ j, k = j + 1 := ⟨k - 1, by omega⟩
      rw [rn_next hb, ih l2 k (by omega) hv, if_neg (by decide), show k + 1 - (1 + Sp.runes l1) = k - Sp.runes l1 by omega]; omega
theorem rn_lt : ∀ (l1 l2 : List UInt8) (k : Nat), k ≤ Sp.runes l1 → Sp.valid l2 = true → rn (l1 ++ l2) k = rn l1 k := by
  intro l1
  induction l1 with
  | nil =>
    intro l2 k h hv
    obtain rfl : k = 0 := by simp [Sp.runes] at h; omega
    rw [List.nil_append, rn_valid hv]; rfl
  | cons b l1 ih =>
    intro l2 k h hv
    rw [List.cons_append]
    rw [Sp.runes] at h
    cases hb : Sp.cont b with
    | true =>
      rw [hb, if_pos rfl] at h
      rw [rn_cont hb, rn_cont hb, ih l2 k (by omega) hv]
    | false =>
      rw [hb, if_neg (by decide)] at h
      cases k with
      | zero => rw [rn_head hb, rn_head hb]
      | succ k => rw [rn_next hb, rn_next hb, ih l2 k (by omega) hv]
theorem cat_valid : ∀ l : List ByteArray, (∀ x ∈ l, Sp.valid (ld x) = true) → Sp.valid (ld (cat l)) = true
  | [], h => rfl
  | x :: l, h => by
    rw [cat_cons, Gc.ld_app, Sp.valid_app (h x (by simp))]
    exact cat_valid l (fun y hy => h y (by simp [hy]))
theorem kf1 (s : ByteArray) : kf 1 s = (Sp.runes (ld s) : Int) := rfl
theorem lies_byte {C a b : List ByteArray} {x : ByteArray} {n : Int} {m : Nat} (h : LiesK 1 C n a x m b) (ha : Sp.valid (ld (cat a)) = true) (hx : Sp.valid (ld x) = true) (hb : Sp.valid (ld (cat b)) = true) : rn (ld (cat C)) n.toNat = (cat a).size + rn (ld x) m := by
  have h1 := h.le
  have h2 := h.n_
  rw [kf1] at h1
  rw [kt_cat, kf1] at h2
  rw [h.s, Gc.ld_app, Gc.ld_app, rn_app _ _ _ (by omega) (by rw [Sp.valid_app hx]; exact hb) ha, rn_lt _ _ _ (by omega) hb, ld_len]
  congr 2
  omega
theorem lies_valid {k : Int} {C a b : List ByteArray} {x : ByteArray} {n : Int} {m : Nat} (h : LiesK k C n a x m b) (hv : ∀ x ∈ C, Sp.valid (ld x) = true) : Sp.valid (ld (cat a)) = true ∧ Sp.valid (ld x) = true ∧ Sp.valid (ld (cat b)) = true := by
  by_cases hne : C = []
  · have e := congrArg (fun s => (ld s).length) h.s
    simp only [Gc.ld_app, List.length_append] at e
    rw [hne] at e
    have e0 : (ld (cat [])).length = 0 := rfl
    rw [e0] at e
    have z : ∀ l : List UInt8, l.length = 0 → Sp.valid l = true := fun l hl => by rw [List.eq_nil_of_length_eq_zero hl]; rfl
    exact ⟨z _ (by omega), z _ (by omega), z _ (by omega)⟩
  · obtain ⟨b', hb'⟩ := pick_parts k C n hne
    rw [h.pk] at hb'
    have hb2 : a ++ x :: b' = C := hb'
    have e := h.s
    rw [← hb2, Kk.cat_app, cat_cons] at e
    have e2 := congrArg ld e
    rw [Gc.ld_app, Gc.ld_app, Gc.ld_app, Gc.ld_app] at e2
    have e3 := List.append_cancel_left (List.append_cancel_left e2)
    refine ⟨cat_valid a (fun y hy => hv y (by rw [← hb2]; simp [hy])), hv x (by rw [← hb2]; simp), ?_⟩
    rw [← e3]
    exact cat_valid b' (fun y hy => hv y (by rw [← hb2]; simp [hy]))
variable {w0 : World} {g : Nat} {p : Option Addr} {t : Tr} {C : List ByteArray}
/-- Byte -/
def byteV (s : ByteArray) (n : Int) : Int × Int := if n < 0 then (0, 3) else if kf 1 s < n then (0, 3) else (rn (ld s) n.toNat, 0)
set_option maxHeartbeats 8000000 in
set_option maxRecDepth 100000 in
theorem byte_calls (h : Rope w0 g p t C) (hv : ∀ x ∈ C, Sp.valid (ld x) = true) {w : World} (hb : Below w0.heap.size w0 w) (n : Int) : Calls Try.prog 35 #[.pointer (some ⟨g, 0, none⟩), .int .i64 n] w fun e w' => e = .returned (.tuple #[.int .i64 (byteV (cat C) n).1, .int .i64 (byteV (cat C) n).2]) ∧ Below w.heap.size w w' := by
  have hu91 := Try.underlying91
  have HL := Aside0.mk (h.count hb)
  unfold byteV
  rw [← kt_cat]
  by_cases c1 : n < 0
  · have c1b : decide (n < 0) = true := decide_eq_true c1
    rw [if_pos c1]
    clear h hv hb c1
    go_enter Try.func35, Try.ntmps35
    go_wp2
    go_ret2
    exact ⟨rfl, Below.refl _ _⟩
  · have c1b : decide (n < 0) = false := decide_eq_false c1
    rw [if_neg c1]
    by_cases c2 : kt 1 C < n
    · have c2b : decide (kt 1 C < n) = true := decide_eq_true c2
      rw [if_pos c2]
      clear h hv hb c1 c2
      go_enter Try.func35, Try.ntmps35
      go_wp2_with (first | (go_at_call 60; (with_reducible refine HL.out.mono ?_); rintro e w3 ⟨rfl, hb⟩; have HB := Aside0.mk hb; clear hb) | (rw [field91_1]; go_simp))
      go_ret2
      exact ⟨rfl, HB.out⟩
    · have c2b : decide (kt 1 C < n) = false := decide_eq_false c2
      rw [if_neg c2]
      obtain ⟨a, x, m, b, H⟩ := liesK 1 C n (by omega) (by omega)
      obtain ⟨va, vx, vb⟩ := lies_valid H hv
      have hs := h.s 0
      have hs2 := h.s 1
      have hx : x.size ≤ 5000 ∧ kt 0 a ≤ 5000 := by
        have := congrArg ByteArray.size H.s
        rw [ByteArray.size_append, ByteArray.size_append] at this
        rw [kt_cat, kf0] at hs
        rw [kt_cat, kf0]
        omega
      have hle := H.le
      rw [kf1] at hle
      have hst := lies_byte H va vx vb
      have hres : ((rn (ld (cat C)) n.toNat : Nat) : Int) = kt 0 a + (rn (ld x) m : Nat) := by rw [hst, kt_cat, kf0]; omega
      rw [hres]
      have HX := Aside0.mk hx
      have HLE : Aside0 (m ≤ Sp.runes (ld x)) := ⟨by omega⟩
      have HVX := Aside0.mk vx
      have HP := Aside0.mk H.pk
      have HR : Aside0 (∀ W, Below w.heap.size w W → Calls Try.prog 62 #[.pointer (some ⟨g, 0, none⟩)] W fun e w' => e = .returned (.pointer p) ∧ W = w') := ⟨fun W h2 => h.root (below_step hb h2)⟩
      have HD : Aside0 (∀ W, Below w.heap.size w W → Calls Try.prog 61 #[.pointer p, .int .i64 1, .int .i64 n] W (DownPost 1 C n W)) := ⟨fun W h2 => h.down (below_step hb h2) 1 n ⟨by omega, by omega⟩⟩
      have HM : Aside0 (m ≤ 5000) := ⟨by have := H.n_; have := kt_nonneg 1 a; omega⟩
      have HK0 := Aside0.mk (kt_nonneg 0 a)
      have HTK : Aside0 (∀ (W : World) (q : Int), Calls Try.prog 63 #[.string x, .int .i64 q] W fun e w' => e = .returned (.tuple #[.int .i32 (Sp.take (ld x) q).1, .int .i64 (Sp.take (ld x) q).2]) ∧ Drawn0 W w') := ⟨fun W q => utf_Take.calls x q _ _ W (by unfold utf_Take.f; rw [if_pos (by omega)]; rfl)⟩
      clear h hv hb c1 c2 H hs hs2 hx hle hst hres va vx vb
      go_enter Try.func35, Try.ntmps35
      go_wp2_with (first
        | (go_at_call 60; (with_reducible refine HL.out.mono ?_); rintro e w3 ⟨rfl, hb⟩; have HB := Aside0.mk hb; clear hb)
        | (go_at_call 62; (with_reducible refine (HR.out _ HB.out).mono ?_); rintro e w' ⟨rfl, rfl⟩)
        | (go_at_call 61; (with_reducible refine (HD.out _ HB.out).mono ?_); rintro e w3 ⟨a4, x4, m4, hp, rfl, hb⟩; rw [HP.out] at hp; simp only [Prod.mk.injEq] at hp; obtain ⟨rfl, rfl, rfl⟩ := hp; have HB2 := Aside0.mk (below_step HB.out hb); clear HB hb; have HB := HB2; clear HB2)
        | ((with_reducible refine gate_dst (N := 7) rfl ?_); refine box_event ?hg (N := 7) ?hd (cs := #[.int .i64 0, .int .i64 0, .int .i64 0]) (t := 91) ?hr ?_; (case hd => rfl); (case hg => rfl); (case hr => first | (go_simp; done) | (go_simp; rfl)); intro g7 hg w5 hbox hb; have BK7 : Aside0 (Bk3 w5 g7 0 0 0) := ⟨hbox⟩; have HB2 := Aside0.mk (below_step HB.out hb); have GE7 : Aside0 (w.heap.size ≤ g7) := ⟨by rw [hg]; exact HB.out.size⟩; clear HB hb hbox hg; have HB := HB2; clear HB2)
        | ((with_reducible refine gate_store (t := 91) (p := 7) (v := .tmp 27) rfl ?_); refine Sa.store_whole rfl rfl 91 (.tmp 7) (.tmp 27) rfl g7 #[.int .i64 0, .int .i64 0, .int .i64 0] [.int .i64 (kt 0 a), .int .i64 (kt 1 a), .int .i64 (kt 2 a)] rfl rfl (by kernel_rfl) BK7.out rfl (by simp [Value.oneCell']) ?_; intro w6 hbox hg; have HB2 := Aside0.mk (Sa.grown_below HB.out (below_size HB.out) hg GE7.out); clear HB BK7; have HB := HB2; clear HB2; have BK7 : Aside0 (Bk3 w6 g7 (kt 0 a) (kt 1 a) (kt 2 a)) := ⟨hbox⟩; clear hbox hg)
        | (rw [field91_1]; go_simp))
      go_loopg [8, 9] (m + 1) (fun kq v8 v9 w' => ∃ (j : Nat) (r q : Int), v8 = .int .i64 r ∧ v9 = .int .i64 q ∧ Aside0 (r = (m : Int) - j ∧ q = (rn (ld x) j : Nat) ∧ j ≤ m ∧ j + kq = m + 1) ∧ Aside0 (Bk3 w' g7 (kt 0 a) (kt 1 a) (kt 2 a)) ∧ Aside0 (Below w.heap.size w w'))
      case atStart => exact ⟨0, m, 0, rfl, rfl, ⟨by rw [rn_valid HVX.out]; omega⟩, BK7, HB⟩
      case round =>
        clear BK7 HB
        obtain ⟨j, r, q, rfl, rfl, HJ, BK7, HB⟩ := hrel
        obtain ⟨k1, rfl⟩ : ∃ k1, gk = k1 + 1 := ⟨gk - 1, by have := HJ.out; omega⟩
        by_cases c : 0 < r
        · have cb : decide (0 < r) = true := decide_eq_true c
          obtain ⟨s1, s2, s3⟩ := take_at j (ld x) HVX.out (by have := HLE.out; have := HJ.out; omega)
          rw [ld_len] at s1
          have hq := HJ.out.2.1
          rw [← hq] at s2 s3
          obtain ⟨tk, htk⟩ : ∃ tk, Sp.take (ld x) q = tk := ⟨_, rfl⟩
          have HT2 : Aside0 (∀ (W : World), Calls Try.prog 63 #[.string x, .int .i64 q] W fun e w' => e = .returned (.tuple #[.int .i32 tk.1, .int .i64 tk.2]) ∧ Drawn0 W w') := ⟨fun W => by rw [← htk]; exact HTK.out W q⟩
          rw [htk] at s2 s3
          have HSP : Aside0 (1 ≤ tk.2 ∧ q + tk.2 = (rn (ld x) (j + 1) : Nat) ∧ rn (ld x) (j + 1) ≤ x.size) := ⟨s2, by omega, by have := rn_le (ld x) (j + 1); rw [ld_len] at this; exact this⟩
          have d1 : decide (q < (x.size : Int)) = true := decide_eq_true (by omega)
          have d2 : decide ((tk.2 : Int) < 1) = false := decide_eq_false (by omega)
          have d3 : max ((tk.2 : Nat) : Int) 1 = tk.2 := by omega
          have HC := Aside0.mk c
          clear c s1 s2 s3 hq htk
          go_wp2_with (go_at_call 63; (with_reducible refine (HT2.out _).mono ?_); rintro e w7 ⟨rfl, hb⟩; have HB2 := Aside0.mk (below_step HB.out hb.below); have BK2 : Aside0 (Bk3 w7 g7 (kt 0 a) (kt 1 a) (kt 2 a)) := ⟨blk_below BK7.out hb.below⟩; clear HB BK7 hb; have HB := HB2; have BK7 := BK2; clear HB2 BK2)
          go_roundg k1
          case measure => omega
          case rel => exact ⟨j + 1, _, _, rfl, rfl, ⟨by have := HJ.out; have := HSP.out; have := HX.out; have := HC.out; have := HM.out; unfold wrap64; omega⟩, BK7, HB⟩
        · have cb : decide (0 < r) = false := decide_eq_false c
          have hj : j = m := by have := HJ.out; omega
          have HQ : Aside0 (q = (rn (ld x) m : Nat)) := ⟨by rw [HJ.out.2.1, hj]⟩
          have y0 : wr.cell? ⟨g7, 0, none⟩ = some (.int .i64 (kt 0 a)) := (blk_cell BK7.out 0).trans rfl
          have hle0 := rn_le (ld x) m
          rw [ld_len] at hle0
          have EW : Aside0 (wrap64 (kt 0 a + q) = kt 0 a + (rn (ld x) m : Nat)) := ⟨by have := HQ.out; have := HX.out; have := HK0.out; unfold wrap64; omega⟩
          clear c hj hle0
          go_wp2
          go_ret2
          exact ⟨by show Ending.returned (.tuple #[.int .i64 (wrap64 (kt 0 a + q)), .int .i64 0]) = _; rw [EW.out], HB.out⟩
end Go.Proofs.Ytdcnoiofimngpaa.Gb
/- The document's answers for runes, in plain words; the rope that Of made. -/
namespace Go.Proofs.Ytdcnoiofimngpaa.Gf
open Go.RowKit Go.Proofs.Ytdcnoiofimngpaa.U Go.Proofs.Ytdcnoiofimngpaa.QK Go.Proofs.Ytdcnoiofimngpaa.QS Go.Proofs.Ytdcnoiofimngpaa.Kt Go.Proofs.Ytdcnoiofimngpaa.Ka Go.Proofs.Ytdcnoiofimngpaa.Kc Go.Proofs.Ytdcnoiofimngpaa.Kd_ Go.Proofs.Ytdcnoiofimngpaa.Ke Go.Proofs.Ytdcnoiofimngpaa.Kh Go.Proofs.Ytdcnoiofimngpaa.Ki Go.Proofs.Ytdcnoiofimngpaa.Kj Go.Proofs.Ytdcnoiofimngpaa.Kk Go.Proofs.Ytdcnoiofimngpaa.Gs Go.Proofs.Ytdcnoiofimngpaa.Gd Go.Proofs.Ytdcnoiofimngpaa.Gt Go.Proofs.Ytdcnoiofimngpaa.Gr Go.Proofs.Ytdcnoiofimngpaa.Ge Go.Proofs.Ytdcnoiofimngpaa.Gq Go.Proofs.Ytdcnoiofimngpaa.Gn Go.Proofs.Ytdcnoiofimngpaa.Gl Go.Proofs.Ytdcnoiofimngpaa.Gb Go.Proofs.YtdcnoiofimngpaaW.PrintWords Go.Proofs.YtdcnoiofimngpaaW.PrintLast Go.Proofs.YtdcnoiofimngpaaW.PrintMore
set_option linter.unusedVariables false
set_option linter.unusedSimpArgs false
theorem rn_far : ∀ (l : List UInt8) (n i : Nat), i < rn l n → Sp.runes (l.take i) < n ∨ Sp.cont (l.getD i 0) = true
  | [], n, i, h => by rw [rn] at h; omega
  | b :: l, n, i, h => by
    cases hb : Sp.cont b with
    | true =>
      rw [rn_cont hb] at h
      cases i with
      | zero => exact .inr hb
      | succ i =>
        rw [List.take_succ_cons, Sp.runes, hb, if_pos rfl, Nat.zero_add]
        exact rn_far l n i (by omega)
    | false =>
      cases n with
      | zero => rw [rn_head hb] at h; omega
      | succ n =>
        rw [rn_next hb] at h
        cases i with
        | zero => exact .inl (by simp [Sp.runes])
        | succ i =>
          rw [List.take_succ_cons, Sp.runes, hb, if_neg (by decide)]
          rcases rn_far l n i (by omega) with h1 | h1
          · exact .inl (by omega)
          · exact .inr h1
theorem rn_edge : ∀ (l : List UInt8) (n : Nat), rn l n < l.length → Sp.cont (l.getD (rn l n) 0) = false
  | [], n, h => by simp at h
  | b :: l, n, h => by
    rw [List.length_cons] at h
    cases hb : Sp.cont b with
    | true =>
      rw [rn_cont hb] at h ⊢
      rw [Nat.add_comm 1, List.getD_cons_succ]
      exact rn_edge l n (by omega)
    | false =>
      cases n with
      | zero => rw [rn_head hb]; exact hb
      | succ n =>
        rw [rn_next hb] at h ⊢
        rw [Nat.add_comm 1, List.getD_cons_succ]
        exact rn_edge l n (by omega)
theorem rn_runes : ∀ (l : List UInt8) (n : Nat), n ≤ Sp.runes l → Sp.runes (l.take (rn l n)) = n
  | [], n, h => by simp [Sp.runes] at h ⊢; omega
  | b :: l, n, h => by
    rw [Sp.runes] at h
    cases hb : Sp.cont b with
    | true =>
      rw [hb, if_pos rfl] at h
      rw [rn_cont hb, Nat.add_comm 1, List.take_succ_cons, Sp.runes, hb, if_pos rfl, Nat.zero_add]
      exact rn_runes l n (by omega)
    | false =>
      rw [hb, if_neg (by decide)] at h
      cases n with
      | zero => rw [rn_head hb]; rfl
      | succ n =>
        rw [rn_next hb, Nat.add_comm 1, List.take_succ_cons, Sp.runes, hb, if_neg (by decide), rn_runes l n (by omega)]
        omega
theorem ref_rune (s : ByteArray) (x : Int) (k : Nat) (hs : s.size ≤ 100000) : stylusref19_Rune.f (k + 1) s x = some (runeV s x) := by
  unfold stylusref19_Rune.f runeV checkV
  by_cases c1 : x < 0
  · rw [if_pos c1, if_pos c1, stylusref19_Rune.j0, if_pos rfl]; rfl
  · rw [if_neg c1, if_neg c1, stylusref19_Rune.j0]
    by_cases c2 : (s.size : Int) < x
    · rw [if_pos c2, if_pos (decide_eq_true c2)]; rfl
    · rw [if_neg c2, if_neg (by rw [decide_eq_false (show ¬ x > (s.size : Int) by omega)]; decide)]
      unfold stylusref01_Edge.f
      rw [Option.bind_some]
      by_cases c3 : Sp.edge (ld s) x = true
      · rw [if_pos c3, if_pos c3, if_pos (by omega), if_pos (by omega)]
        have hz := Gc.sz_take s x.toNat (by omega)
        unfold stylusref01_Runes.f
        rw [if_pos (by omega), Option.bind_some]
        rfl
      · rw [if_neg c3, if_neg c3]; rfl
theorem ref_byte_l (s : ByteArray) (n : Nat) (hs : s.size ≤ 100000) (hv : Sp.valid (ld s) = true) (hn : n ≤ Sp.runes (ld s)) : ∀ (k i : Nat), i ≤ rn (ld s) n → s.size - i < k → stylusref19_Byte.l0 k s (n : Int) (i : Int) = some (((rn (ld s) n : Nat) : Int), 0)
  | 0, i, h, hk => by omega
  | k + 1, i, h, hk => by
    have hle := rn_le (ld s) n
    rw [ld_len] at hle
    rw [stylusref19_Byte.l0]
    by_cases c1 : i < s.size
    · have ih := fun hi => ref_byte_l s n hs hv hn k (i + 1) hi (by omega)
      have hz := Gc.sz_take s i (by omega)
      have hw : wrap64 ((i : Int) + 1) = ((i + 1 : Nat) : Int) := by unfold wrap64; omega
      rw [if_pos (by omega), if_pos (by omega), if_pos (by omega), Int.toNat_natCast]
      unfold stylusref01_Runes.f
      rw [if_pos (by omega), Option.bind_some, show (s.extract 0 i).data.toList = (ld s).take i from Gc.ld_take s i, hw]
      by_cases c2 : i = rn (ld s) n
      · have hr := rn_runes (ld s) n hn
        rw [← c2] at hr ⊢
        rw [hr, if_neg (by omega)]
        have he := rn_edge (ld s) n (by rw [ld_len]; omega)
        rw [← c2] at he
        have h2 : Sp.edge (ld s) (i : Int) = true := Gc.edge_of (by rw [ld_len]; exact c1) he
        unfold stylusref01_Edge.f
        rw [Option.bind_some, if_pos h2]
      · have hf := rn_far (ld s) n i (by omega)
        by_cases c3 : Sp.runes ((ld s).take i) < n
        · rw [if_pos (by omega), ih (by omega)]
        · rw [if_neg (by omega)]
          have hc : Sp.cont ((ld s).getD i 0) = true := by rcases hf with h1 | h1; · exact absurd h1 c3
                                                           exact h1
          have hi0 : i ≠ 0 := fun e => by
            subst e
            rw [head_not hv (by rw [ld_len]; omega)] at hc
            cases hc
          have h2 : Sp.edge (ld s) (i : Int) = false := by
            unfold Sp.edge
            rw [Int.toNat_natCast, hc, decide_eq_false (show ¬ (i : Int) = 0 by omega), decide_eq_false (show ¬ (i : Int) = ((ld s).length : Int) by rw [ld_len]; omega)]
            simp
          unfold stylusref01_Edge.f
          rw [Option.bind_some, if_neg (by rw [show s.data.toList = ld s from rfl, h2]; decide), ih (by omega)]
    · rw [if_neg (by omega)]
      rw [show i = rn (ld s) n by omega]
theorem ref_byte (s : ByteArray) (n : Int) (k : Nat) (hk : s.size < k) (hs : s.size ≤ 100000) (hv : Sp.valid (ld s) = true) : stylusref19_Byte.f (k + 1) s n = some (byteV s n) := by
  unfold stylusref19_Byte.f byteV
  by_cases c1 : n < 0
  · rw [if_pos c1, if_pos c1, stylusref19_Byte.j0, if_pos rfl]
  · rw [if_neg c1, if_neg c1]
    unfold stylusref01_Runes.f
    rw [if_pos (by omega), Option.bind_some, stylusref19_Byte.j0, show s.data.toList = ld s from rfl, kf1]
    by_cases c2 : (Sp.runes (ld s) : Int) < n
    · rw [if_pos (decide_eq_true c2), if_pos c2]
    · rw [if_neg (by rw [decide_eq_false (show ¬ n > (Sp.runes (ld s) : Int) by omega)]; decide), if_neg c2]
      have := ref_byte_l s n.toNat hs hv (by omega) k 0 (by omega) (by omega)
      rw [Int.toNat_of_nonneg (by omega)] at this
      exact this
end Go.Proofs.Ytdcnoiofimngpaa.Gf
/- The rope that Of made; lives. -/
namespace Go.Proofs.Ytdcnoiofimngpaa.Gv
open Go.RowKit Go.Proofs.Ytdcnoiofimngpaa.U Go.Proofs.Ytdcnoiofimngpaa.QK Go.Proofs.Ytdcnoiofimngpaa.QS Go.Proofs.Ytdcnoiofimngpaa.Kt Go.Proofs.Ytdcnoiofimngpaa.Ka Go.Proofs.Ytdcnoiofimngpaa.Kc Go.Proofs.Ytdcnoiofimngpaa.Kd_ Go.Proofs.Ytdcnoiofimngpaa.Ke Go.Proofs.Ytdcnoiofimngpaa.Kf Go.Proofs.Ytdcnoiofimngpaa.Kh Go.Proofs.Ytdcnoiofimngpaa.Ki Go.Proofs.Ytdcnoiofimngpaa.Kj Go.Proofs.Ytdcnoiofimngpaa.Kk Go.Proofs.Ytdcnoiofimngpaa.Gs Go.Proofs.Ytdcnoiofimngpaa.Gd Go.Proofs.Ytdcnoiofimngpaa.Gt Go.Proofs.Ytdcnoiofimngpaa.Gr Go.Proofs.Ytdcnoiofimngpaa.Ge Go.Proofs.Ytdcnoiofimngpaa.Gq Go.Proofs.Ytdcnoiofimngpaa.Gn Go.Proofs.Ytdcnoiofimngpaa.Gl Go.Proofs.Ytdcnoiofimngpaa.Gb Go.Proofs.YtdcnoiofimngpaaW.PrintWords Go.Proofs.YtdcnoiofimngpaaW.PrintLast Go.Proofs.YtdcnoiofimngpaaW.PrintMore
set_option linter.unusedVariables false
set_option linter.unusedSimpArgs false
/-- what Of answers for a valid text -/
def OfPost (w : World) (s : ByteArray) (e : Ending) (w' : World) : Prop := ∃ g p t C, e = .returned (.tuple #[.pointer (some ⟨g, 0, none⟩), .int .i64 0]) ∧ Rope w' g p t C ∧ cat C = s ∧ (∀ x ∈ C, Sp.valid (ld x) = true) ∧ Below w.heap.size w w'
theorem of_calls (w : World) (s : ByteArray) (hs : s.size ≤ 1500) (hv : Sp.valid (ld s) = true) : Calls Try.prog 13 #[.string s] w (OfPost w s) := by
  obtain ⟨C, hC⟩ := cut_of s (by omega) hv
  have hl := hC.len
  refine (rope_calls w s C (by omega) hv hC).mono fun e w' ⟨g, p, h1, h2, h3, h4⟩ => ⟨g, p, tree C, C, h1, ⟨h2, h3, ?_, tree_chunks hC.fits (by omega), fun j => ?_, by omega⟩, hC.cat_, fun x hx => (fits_spec (hC.fits x hx)).2.2, h4⟩
  · by_cases h0 : C.length = 0
    · left
      obtain rfl := List.eq_nil_of_length_eq_zero h0
      unfold tree; rw [List.map_nil, upT_nil]
    · exact .inr (tree_fine hC.fits (by omega) h0)
  · rw [kt_cat, hC.cat_]
    have := kf_le j s
    omega
def ab : ByteArray := ⟨#[97, 10, 98]⟩
theorem ab_line : lineV ab 2 = (1, 0, 0) := by decide +kernel
theorem ab_lines : kf 2 ab = 1 := by decide +kernel
theorem ab_valid : Sp.valid (ld ab) = true := by decide +kernel
set_option maxHeartbeats 4000000 in
theorem lives_calls (w : World) : Calls Try.prog 32 #[] w fun e w' => e = .returned (.bool true) ∧ Below w.heap.size w w' := by
  have HO : Aside0 (Calls Try.prog 13 #[.string ⟨#[97, 10, 98]⟩] w (OfPost w ab)) := ⟨of_calls w ab (by decide) ab_valid⟩
  have HLI : Aside0 (∀ (w1 : World) g p t C, Rope w1 g p t C → cat C = ab → (∀ x ∈ C, Sp.valid (ld x) = true) → ∀ W, Below w1.heap.size w1 W → Calls Try.prog 40 #[.pointer (some ⟨g, 0, none⟩), .int .i64 2] W fun e w' => e = .returned (.tuple #[.int .i64 1, .int .i64 0, .int .i64 0]) ∧ Below W.heap.size W w') := ⟨fun w1 g p t C h hc hv W hb => by
    have := line_calls h hv hb 2
    rw [hc, ab_line] at this
    exact this⟩
  have HLS : Aside0 (∀ (w1 : World) g p t C, Rope w1 g p t C → cat C = ab → ∀ W, Below w1.heap.size w1 W → Calls Try.prog 42 #[.pointer (some ⟨g, 0, none⟩)] W fun e w' => e = .returned (.int .i64 2) ∧ Below W.heap.size W w') := ⟨fun w1 g p t C h hc W hb => by
    have := lines_calls h hb
    rw [kt_cat, hc, ab_lines] at this
    exact this⟩
  go_enter Try.func32, Try.ntmps32
  go_wp2_with (first
    | (go_at_call 13; (with_reducible refine HO.out.mono ?_); rintro e w1 ⟨g, p, t, C, rfl, hR, hc, hv, hb⟩; have HR := Aside0.mk hR; have HCC := Aside0.mk hc; have HV := Aside0.mk hv; have HB1 := Aside0.mk hb; have HB := Aside0.mk (Below.refl w1.heap.size w1); clear hR hc hv hb HO)
    | (go_at_call 40; (with_reducible refine (HLI.out w1 g p t C HR.out HCC.out HV.out _ HB.out).mono ?_); rintro e w2 ⟨rfl, hb⟩; have HB2 := Aside0.mk (below_step HB.out hb); clear HB hb; have HB := HB2; clear HB2)
    | (go_at_call 42; (with_reducible refine (HLS.out w1 g p t C HR.out HCC.out _ HB.out).mono ?_); rintro e w3 ⟨rfl, hb⟩; have HB2 := Aside0.mk (below_step HB.out hb); clear HB hb; have HB := HB2; clear HB2))
  go_ret
  exact ⟨rfl, HB1.out.trans (HB.out.mono HB1.out.size)⟩
end Go.Proofs.Ytdcnoiofimngpaa.Gv
