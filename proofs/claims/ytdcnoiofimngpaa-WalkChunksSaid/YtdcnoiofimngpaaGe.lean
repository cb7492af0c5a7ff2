import Derived.Test.YtdcnoiofimngpaaGs
/- Edge, check, counted: the walks, and what they answer in plain words. -/
namespace Go.Proofs.Ytdcnoiofimngpaa.Ge
open Go.RowKit Go.Proofs.Ytdcnoiofimngpaa.U Go.Proofs.Ytdcnoiofimngpaa.QK Go.Proofs.Ytdcnoiofimngpaa.QS Go.Proofs.Ytdcnoiofimngpaa.Kt Go.Proofs.Ytdcnoiofimngpaa.Ka Go.Proofs.Ytdcnoiofimngpaa.Kb Go.Proofs.Ytdcnoiofimngpaa.Kc Go.Proofs.Ytdcnoiofimngpaa.Kd_ Go.Proofs.Ytdcnoiofimngpaa.Ke Go.Proofs.Ytdcnoiofimngpaa.Kf Go.Proofs.Ytdcnoiofimngpaa.Kh Go.Proofs.Ytdcnoiofimngpaa.Ki Go.Proofs.Ytdcnoiofimngpaa.Kj Go.Proofs.Ytdcnoiofimngpaa.Kk Go.Proofs.Ytdcnoiofimngpaa.Gs Go.Proofs.Ytdcnoiofimngpaa.Gd Go.Proofs.Ytdcnoiofimngpaa.Gt Go.Proofs.Ytdcnoiofimngpaa.Gr Go.Proofs.YtdcnoiofimngpaaW.PrintWords Go.Proofs.YtdcnoiofimngpaaW.PrintLast Go.Proofs.YtdcnoiofimngpaaW.PrintMore
set_option linter.unusedVariables false
set_option linter.unusedSimpArgs false
theorem kf0 (s : ByteArray) : kf 0 s = (s.size : Int) := rfl
/-- where a place lies -/
structure Lies (C : List ByteArray) (n : Int) (a : List ByteArray) (x : ByteArray) (m : Nat) (b : List ByteArray) : Prop where
  pk : pick 0 C n = (a, x, (m : Int))
  le : m ≤ x.size
  lt : n < kt 0 C → m < x.size
  n_ : kt 0 a + m = n
  s : cat C = cat a ++ (x ++ cat b)
  x_ : C ≠ [] → x ∈ C
theorem empty_app (s : ByteArray) : s ++ cat [] = s := by apply ld_ext; simp [cat, ld]
theorem app_empty (s : ByteArray) : cat [] ++ s = s := by apply ld_ext; simp [cat, ld]
theorem lies : ∀ (C : List ByteArray) (n : Int), 0 ≤ n → n ≤ kt 0 C → ∃ a x m b, Lies C n a x m b
  | [], n, h0, h => ⟨[], ⟨#[]⟩, 0, [], by
      rw [kt_nil] at h
      have e : n = 0 := by omega
      subst e
      exact ⟨rfl, Nat.le_refl _, fun hc => by rw [kt_nil] at hc; omega, rfl, by rw [empty_app]; rfl, fun hc => absurd rfl hc⟩⟩
  | [s], n, h0, h => ⟨[], s, n.toNat, [], by
      rw [kt_cons, kt_nil, kf0] at h
      exact ⟨by show (_, _, n) = _; rw [Int.toNat_of_nonneg h0], by omega, fun hc => by rw [kt_cons, kt_nil, kf0] at hc; omega, by rw [kt_nil]; omega, by rw [empty_app, app_empty, Gc.cat_one], fun _ => by simp⟩⟩
  | s :: u :: r, n, h0, h => by
    rw [kt_cons, kf0] at h
    by_cases hc : n < kf 0 s
    · refine ⟨[], s, n.toNat, u :: r, ⟨by rw [pick_two, if_pos hc, Int.toNat_of_nonneg h0], ?_, fun _ => ?_, by rw [kt_nil]; omega, by rw [app_empty, cat_cons], fun _ => by simp⟩⟩
      · rw [kf0] at hc; omega
      · rw [kf0] at hc; omega
    · obtain ⟨a, x, m, b, H⟩ := lies (u :: r) (n - kf 0 s) (by omega) (by rw [kf0]; omega)
      refine ⟨s :: a, x, m, b, ⟨by rw [pick_two, if_neg hc, H.pk], H.le, fun hc2 => H.lt (by rw [kt_cons] at hc2; omega), by rw [kt_cons]; have := H.n_; omega, ?_, fun _ => List.mem_cons_of_mem _ (H.x_ (by simp))⟩⟩
      rw [cat_cons, H.s, cat_cons]
      apply ld_ext
      simp [ld]
theorem Lies.take {C a b : List ByteArray} {x : ByteArray} {n : Int} {m : Nat} (h : Lies C n a x m b) : (cat C).extract 0 n.toNat = cat a ++ x.extract 0 m := by
  have e : n.toNat = (ld (cat a)).length + m := by
    have := h.n_
    rw [kt_cat, kf0] at this
    rw [ld_len]
    omega
  apply ld_ext
  rw [Gc.ld_take, h.s, Gc.ld_app, Gc.ld_app, Gc.ld_app, Gc.ld_take, e, List.take_length_add_append, List.take_append_of_le_length (by rw [ld_len]; exact h.le)]
theorem Lies.count {C a b : List ByteArray} {x : ByteArray} {n : Int} {m : Nat} (h : Lies C n a x m b) (j : Int) : kt j a + kf j (x.extract 0 m) = kf j ((cat C).extract 0 n.toNat) := by
  rw [h.take, kf_app, kt_cat]
theorem head_not {l : List UInt8} (hv : Sp.valid l = true) (h : 0 < l.length) : Sp.cont (l.getD 0 0) = false := by
  obtain ⟨j, h1, _, h3⟩ := Gc.edge_near l.length l (Nat.le_refl _) hv 0 h
  obtain rfl : j = 0 := by omega
  exact h3
theorem Lies.edge {C a b : List ByteArray} {x : ByteArray} {n : Int} {m : Nat} (h : Lies C n a x m b) (hv : Sp.valid (ld x) = true) (h0 : 0 < n) (h1 : n < kt 0 C) : Sp.edge (ld x) (m : Int) = Sp.edge (ld (cat C)) n := by
  have hm := h.lt h1
  have e : n.toNat = (ld (cat a)).length + m := by
    have := h.n_
    rw [kt_cat, kf0] at this
    rw [ld_len]
    omega
  have hg : (ld (cat C)).getD n.toNat 0 = (ld x).getD m 0 := by
    rw [h.s, Gc.ld_app, Gc.ld_app, e, List.getD_eq_getElem?_getD, List.getD_eq_getElem?_getD, List.getElem?_append_right (by omega), Nat.add_sub_cancel_left, List.getElem?_append_left (by rw [ld_len]; omega)]
  rw [kt_cat, kf0, ← ld_len] at h1
  rw [← ld_len] at hm
  unfold Sp.edge
  rw [hg, Int.toNat_natCast, decide_eq_true (show 0 ≤ n by omega), decide_eq_true (show n ≤ ((ld (cat C)).length : Int) by omega), decide_eq_false (show ¬ n = 0 by omega), decide_eq_false (show ¬ n = ((ld (cat C)).length : Int) by omega), decide_eq_true (show (0 : Int) ≤ m by omega), decide_eq_true (show (m : Int) ≤ ((ld x).length : Int) by omega), decide_eq_false (show ¬ (m : Int) = ((ld x).length : Int) by omega)]
  by_cases hz : m = 0
  · subst hz
    rw [head_not hv (by omega)]; rfl
  · rw [decide_eq_false (show ¬ (m : Int) = 0 by omega)]
variable {w0 : World} {g : Nat} {p : Option Addr} {t : Tr} {C : List ByteArray}
set_option maxHeartbeats 4000000 in
theorem rope_edge (h : Rope w0 g p t C) (hv : ∀ x ∈ C, Sp.valid (ld x) = true) {w : World} (hb : Below w0.heap.size w0 w) (x : Int) : Calls Try.prog 78 #[.pointer (some ⟨g, 0, none⟩), .int .i64 x] w fun e w' => e = .returned (.bool (Sp.edge (ld (cat C)) x)) ∧ Below w.heap.size w w' := by
  have HL := Aside0.mk (h.len hb)
  have hk : kt 0 C = ((ld (cat C)).length : Int) := by rw [kt_cat, kf0, ld_len]
  have h0 := kt_nonneg 0 C
  by_cases c1 : x ≤ 0
  · have c1b : decide (x ≤ 0) = true := decide_eq_true c1
    by_cases c2 : x = 0
    · subst c2
      have e : Sp.edge (ld (cat C)) 0 = true := by unfold Sp.edge; rw [decide_eq_true (show (0 : Int) ≤ 0 by omega), decide_eq_true (show (0 : Int) ≤ ((ld (cat C)).length : Int) by omega), decide_eq_true (show (0 : Int) = 0 from rfl)]; rfl
      rw [e]
      clear h hb hv hk h0 c1 e
      go_enter Try.func78, Try.ntmps78
      go_wp2_with (go_at_call 69; (with_reducible refine HL.out.mono ?_); rintro e w3 ⟨rfl, hb⟩; have HB := Aside0.mk hb; clear hb)
      go_ret
      exact ⟨rfl, HB.out⟩
    · have e : Sp.edge (ld (cat C)) x = false := by unfold Sp.edge; rw [decide_eq_false (show ¬ 0 ≤ x by omega)]; rfl
      have e1 : (x == 0) = false := beq_eq_false_iff_ne.mpr c2
      have e2 : (x == kt 0 C) = false := beq_eq_false_iff_ne.mpr (by omega)
      rw [e]
      clear h hb hv hk h0 c1 e c2
      go_enter Try.func78, Try.ntmps78
      go_wp2_with (go_at_call 69; (with_reducible refine HL.out.mono ?_); rintro e w3 ⟨rfl, hb⟩; have HB := Aside0.mk hb; clear hb)
      go_ret
      exact ⟨rfl, HB.out⟩
  · have c1b : decide (x ≤ 0) = false := decide_eq_false c1
    have e1 : (x == 0) = false := beq_eq_false_iff_ne.mpr (by omega)
    by_cases c2 : kt 0 C ≤ x
    · have c2b : decide (kt 0 C ≤ x) = true := decide_eq_true c2
      have e : Sp.edge (ld (cat C)) x = (x == kt 0 C) := by
        by_cases c3 : x = kt 0 C
        · rw [beq_iff_eq.mpr c3]
          unfold Sp.edge; rw [decide_eq_true (show 0 ≤ x by omega), decide_eq_true (show x ≤ ((ld (cat C)).length : Int) by omega), decide_eq_true (show x = ((ld (cat C)).length : Int) by omega), Bool.or_true]; rfl
        · rw [beq_eq_false_iff_ne.mpr c3]
          unfold Sp.edge; rw [decide_eq_false (show ¬ x ≤ ((ld (cat C)).length : Int) by omega), Bool.and_false]; rfl
      rw [e]
      clear h hb hv hk h0 c1 c2 e
      go_enter Try.func78, Try.ntmps78
      go_wp2_with (go_at_call 69; (with_reducible refine HL.out.mono ?_); rintro e w3 ⟨rfl, hb⟩; have HB := Aside0.mk hb; clear hb)
      go_ret
      exact ⟨rfl, HB.out⟩
    · have c2b : decide (kt 0 C ≤ x) = false := decide_eq_false c2
      obtain ⟨a, y, m, b, H⟩ := lies C x (by omega) (by omega)
      have hne : C ≠ [] := fun e => by subst e; rw [kt_nil] at c2; omega
      have HE := Aside0.mk (H.edge (hv y (H.x_ hne)) (by omega) (by omega))
      have HP := Aside0.mk H.pk
      have HF : Aside0 (∀ W, Below w.heap.size w W → Calls Try.prog 103 #[.pointer (some ⟨g, 0, none⟩), .int .i64 x] W (LeafOf C x W)) := ⟨fun W h2 => h.leaf (below_step hb h2) x ⟨by omega, by omega⟩⟩
      have HU : Aside0 (∀ W, Calls Try.prog 104 #[.string y, .int .i64 (m : Int)] W fun e w' => e = .returned (.bool (Sp.edge (ld y) (m : Int))) ∧ Drawn0 W w') := ⟨fun W => utf_Edge.calls y m _ W rfl⟩
      clear h hb hv hk h0 c1 c2 H hne
      rw [← HE.out]
      go_enter Try.func78, Try.ntmps78
      go_wp2_with (first
        | (go_at_call 69; (with_reducible refine HL.out.mono ?_); rintro e w3 ⟨rfl, hb⟩; have HB := Aside0.mk hb; clear hb)
        | (go_at_call 103; (with_reducible refine (HF.out _ HB.out).mono ?_); rintro e w4 ⟨a4, x4, m4, hp, rfl, hb⟩; rw [HP.out] at hp; simp only [Prod.mk.injEq] at hp; obtain ⟨rfl, rfl, rfl⟩ := hp; have HB4 := Aside0.mk (below_step HB.out hb); clear hb)
        | (go_at_call 104; (with_reducible refine (HU.out _).mono ?_); rintro e w5 ⟨rfl, hb⟩; have HB5 := Aside0.mk (below_step HB4.out hb.below); clear hb))
      go_ret
      exact ⟨rfl, HB5.out⟩
end Go.Proofs.Ytdcnoiofimngpaa.Ge
/- check, counted, Rune. -/
namespace Go.Proofs.Ytdcnoiofimngpaa.Gq
open Go.RowKit Go.Proofs.Ytdcnoiofimngpaa.U Go.Proofs.Ytdcnoiofimngpaa.QK Go.Proofs.Ytdcnoiofimngpaa.QS Go.Proofs.Ytdcnoiofimngpaa.Kt Go.Proofs.Ytdcnoiofimngpaa.Ka Go.Proofs.Ytdcnoiofimngpaa.Kb Go.Proofs.Ytdcnoiofimngpaa.Kc Go.Proofs.Ytdcnoiofimngpaa.Kd_ Go.Proofs.Ytdcnoiofimngpaa.Ke Go.Proofs.Ytdcnoiofimngpaa.Kf Go.Proofs.Ytdcnoiofimngpaa.Kh Go.Proofs.Ytdcnoiofimngpaa.Ki Go.Proofs.Ytdcnoiofimngpaa.Kj Go.Proofs.Ytdcnoiofimngpaa.Kk Go.Proofs.Ytdcnoiofimngpaa.Gs Go.Proofs.Ytdcnoiofimngpaa.Gd Go.Proofs.Ytdcnoiofimngpaa.Gt Go.Proofs.Ytdcnoiofimngpaa.Gr Go.Proofs.Ytdcnoiofimngpaa.Ge Go.Proofs.YtdcnoiofimngpaaW.PrintWords Go.Proofs.YtdcnoiofimngpaaW.PrintLast Go.Proofs.YtdcnoiofimngpaaW.PrintMore
set_option linter.unusedVariables false
set_option linter.unusedSimpArgs false
/-- what is wrong with a place: 0 nothing, 3 out of the text, 4 inside a rune -/
def checkV (s : ByteArray) (x : Int) : Int := if x < 0 then 3 else if (s.size : Int) < x then 3 else if Sp.edge (ld s) x = true then 0 else 4
theorem kf_le (j : Int) (s : ByteArray) : kf j s ≤ s.size := by
  have h1 := Sp.runes_le (ld s)
  have h2 := Sp.lines_le (ld s)
  rw [ld_len] at h1 h2
  unfold kf
  split
  · omega
  · split <;> omega
variable {w0 : World} {g : Nat} {p : Option Addr} {t : Tr} {C : List ByteArray}
set_option maxHeartbeats 4000000 in
theorem check_calls (h : Rope w0 g p t C) (hv : ∀ x ∈ C, Sp.valid (ld x) = true) {w : World} (hb : Below w0.heap.size w0 w) (x : Int) : Calls Try.prog 56 #[.pointer (some ⟨g, 0, none⟩), .int .i64 x] w fun e w' => e = .returned (.int .i64 (checkV (cat C) x)) ∧ Below w.heap.size w w' := by
  have HL := Aside0.mk (h.len hb)
  have HE : Aside0 (∀ W, Below w.heap.size w W → Calls Try.prog 78 #[.pointer (some ⟨g, 0, none⟩), .int .i64 x] W fun e w' => e = .returned (.bool (Sp.edge (ld (cat C)) x)) ∧ Below W.heap.size W w') := ⟨fun W h2 => rope_edge h hv (below_step hb h2) x⟩
  have hk : kt 0 C = ((cat C).size : Int) := by rw [kt_cat, kf0]
  unfold checkV
  rw [← hk]
  clear h hv hb hk
  by_cases c1 : x < 0
  · have c1b : decide (x < 0) = true := decide_eq_true c1
    rw [if_pos c1]
    clear c1
    go_enter Try.func56, Try.ntmps56
    go_wp2
    go_ret
    exact ⟨rfl, Below.refl _ _⟩
  · have c1b : decide (x < 0) = false := decide_eq_false c1
    rw [if_neg c1]
    by_cases c2 : kt 0 C < x
    · have c2b : decide (kt 0 C < x) = true := decide_eq_true c2
      rw [if_pos c2]
      clear c1 c2
      go_enter Try.func56, Try.ntmps56
      go_wp2_with (go_at_call 69; (with_reducible refine HL.out.mono ?_); rintro e w3 ⟨rfl, hb⟩; have HB := Aside0.mk hb; clear hb)
      go_ret
      exact ⟨rfl, HB.out⟩
    · have c2b : decide (kt 0 C < x) = false := decide_eq_false c2
      rw [if_neg c2]
      by_cases c3 : Sp.edge (ld (cat C)) x = true
      · rw [if_pos c3]
        rw [c3] at HE
        clear c1 c2 c3
        go_enter Try.func56, Try.ntmps56
        go_wp2_with (first
          | (go_at_call 69; (with_reducible refine HL.out.mono ?_); rintro e w3 ⟨rfl, hb⟩; have HB := Aside0.mk hb; clear hb)
          | (go_at_call 78; (with_reducible refine (HE.out _ HB.out).mono ?_); rintro e w4 ⟨rfl, hb⟩; have HB4 := Aside0.mk (below_step HB.out hb); clear hb))
        go_ret
        exact ⟨rfl, HB4.out⟩
      · rw [if_neg c3]
        rw [Bool.eq_false_iff.mpr c3] at HE
        clear c1 c2 c3
        go_enter Try.func56, Try.ntmps56
        go_wp2_with (first
          | (go_at_call 69; (with_reducible refine HL.out.mono ?_); rintro e w3 ⟨rfl, hb⟩; have HB := Aside0.mk hb; clear hb)
          | (go_at_call 78; (with_reducible refine (HE.out _ HB.out).mono ?_); rintro e w4 ⟨rfl, hb⟩; have HB4 := Aside0.mk (below_step HB.out hb); clear hb))
        go_ret
        exact ⟨rfl, HB4.out⟩
theorem head_f (x : ByteArray) (m : Nat) (hm : m ≤ x.size) (hs : x.size ≤ 100000) : tally_Head.f x (m : Int) = some (kf 0 (x.extract 0 m), kf 1 (x.extract 0 m), kf 2 (x.extract 0 m)) := by
  unfold tally_Head.f tally_clip.f
  rw [if_neg (by omega), if_neg (by omega), Option.bind_some, if_pos (by omega), if_pos (by omega), Int.toNat_natCast, of_f (by rw [Gc.sz_take x m hm]; omega)]
  rfl
set_option maxHeartbeats 8000000 in
set_option maxRecDepth 100000 in
theorem counted_calls (h : Rope w0 g p t C) {w : World} (hb : Below w0.heap.size w0 w) (n : Int) (hn : 0 ≤ n ∧ n ≤ kt 0 C) : Calls Try.prog 57 #[.pointer (some ⟨g, 0, none⟩), .int .i64 n] w fun e w' =>
    e = .returned (.agg #[.int .i64 (kf 0 ((cat C).extract 0 n.toNat)), .int .i64 (kf 1 ((cat C).extract 0 n.toNat)), .int .i64 (kf 2 ((cat C).extract 0 n.toNat))]) ∧ Below w.heap.size w w' := by
  have hu91 := Try.underlying91
  obtain ⟨a, x, m, b, H⟩ := lies C n hn.1 hn.2
  have hs := h.s 0
  have hx : x.size ≤ 5000 := by
    have := congrArg ByteArray.size H.s
    rw [ByteArray.size_append, ByteArray.size_append] at this
    rw [kt_cat, kf0] at hs
    omega
  have HSM : Aside0 (SM (kt 0 a) ∧ SM (kt 1 a) ∧ SM (kt 2 a) ∧ SM (kf 0 (x.extract 0 m)) ∧ SM (kf 1 (x.extract 0 m)) ∧ SM (kf 2 (x.extract 0 m))) := by
    have q : ∀ j, SM (kt j a) ∧ SM (kf j (x.extract 0 m)) := fun j => by
      have h1 := kt_nonneg j a
      have h2 := kf_nonneg j (x.extract 0 m)
      have h3 := kf_le j (cat a)
      have h4 := kf_le j (x.extract 0 m)
      rw [Gc.sz_take x m H.le] at h4
      rw [← kt_cat] at h3
      have h5 := H.n_
      rw [kt_cat, kf0] at h5
      have := H.le
      unfold SM
      omega
    exact ⟨(q 0).1, (q 1).1, (q 2).1, (q 0).2, (q 1).2, (q 2).2⟩
  have HHD : Aside0 (∀ W, Calls Try.prog 80 #[.string x, .int .i64 (m : Int)] W fun e w' => e = .returned (.agg #[.int .i64 (kf 0 (x.extract 0 m)), .int .i64 (kf 1 (x.extract 0 m)), .int .i64 (kf 2 (x.extract 0 m))]) ∧ Below W.heap.size W w') := ⟨fun W => tally_Head.calls x m _ _ _ W (head_f x m H.le (by omega))⟩
  have HP := Aside0.mk H.pk
  have HR : Aside0 (∀ W, Below w.heap.size w W → Calls Try.prog 62 #[.pointer (some ⟨g, 0, none⟩)] W fun e w' => e = .returned (.pointer p) ∧ W = w') := ⟨fun W h2 => h.root (below_step hb h2)⟩
  have HD : Aside0 (∀ W, Below w.heap.size w W → Calls Try.prog 61 #[.pointer p, .int .i64 0, .int .i64 n] W (DownPost 0 C n W)) := ⟨fun W h2 => h.down (below_step hb h2) 0 n ⟨hn.1, by omega⟩⟩
  rw [← H.count 0, ← H.count 1, ← H.count 2]
  clear h hb hn hs hx H
  go_enter Try.func57, Try.ntmps57
  go_wp2_with (first
    | ((with_reducible refine gate_dst (N := 4) rfl ?_); refine box_event ?hg (N := 4) ?hd (cs := #[.int .i64 0, .int .i64 0, .int .i64 0]) (t := 91) ?hr ?_; (case hd => rfl); (case hg => rfl); (case hr => first | (go_simp; done) | (go_simp; rfl)); intro g4 hg w2 hbox hb; have BK4 : Aside0 (Bk3 w2 g4 0 0 0) := ⟨hbox⟩; have HB := Aside0.mk hb; have GE4 : Aside0 (w.heap.size ≤ g4) := ⟨by rw [hg]; exact Nat.le_refl _⟩; clear hb hbox hg)
    | (go_at_call 62; (with_reducible refine (HR.out _ HB.out).mono ?_); rintro e w' ⟨rfl, rfl⟩)
    | (go_at_call 61; (with_reducible refine (HD.out _ HB.out).mono ?_); rintro e w3 ⟨a4, x4, m4, hp, rfl, hb⟩; rw [HP.out] at hp; simp only [Prod.mk.injEq] at hp; obtain ⟨rfl, rfl, rfl⟩ := hp; have HB2 := Aside0.mk (below_step HB.out hb); have BK2 : Aside0 (Bk3 w3 g4 0 0 0) := ⟨blk_below BK4.out hb⟩; clear HB BK4 hb; have HB := HB2; have BK4 := BK2; clear HB2 BK2)
    | ((with_reducible refine gate_dst (N := 6) rfl ?_); refine box_event ?hg (N := 6) ?hd (cs := #[.int .i64 0, .int .i64 0, .int .i64 0]) (t := 91) ?hr ?_; (case hd => rfl); (case hg => rfl); (case hr => first | (go_simp; done) | (go_simp; rfl)); intro g6 hg w5 hbox hb; have BK6 : Aside0 (Bk3 w5 g6 0 0 0) := ⟨hbox⟩; have HB2 := Aside0.mk (below_step HB.out hb); have BK2 : Aside0 (Bk3 w5 g4 0 0 0) := ⟨blk_below BK4.out hb⟩; have GE6 : Aside0 (w.heap.size ≤ g6) := ⟨by rw [hg]; exact HB.out.size⟩; have NE : Aside0 (g4 < g6) := ⟨by rw [hg]; exact blk_lt BK4.out⟩; clear HB BK4 hb hbox hg; have HB := HB2; have BK4 := BK2; clear HB2 BK2)
    | ((with_reducible refine gate_store (t := 91) (p := 6) (v := .tmp 14) rfl ?_); refine Sa.store_whole rfl rfl 91 (.tmp 6) (.tmp 14) rfl g6 #[.int .i64 0, .int .i64 0, .int .i64 0] [.int .i64 (kt 0 a), .int .i64 (kt 1 a), .int .i64 (kt 2 a)] rfl rfl (by kernel_rfl) BK6.out rfl (by simp [Value.oneCell']) ?_; intro wr hbox hg; have HB2 := Aside0.mk (Sa.grown_below HB.out (below_size HB.out) hg GE6.out); have BK2 : Aside0 (Bk3 wr g4 0 0 0) := ⟨(hg.block g4 (blk_lt BK4.out) (fun e => by injection e with e; have := NE.out; omega)).trans BK4.out⟩; clear HB BK4 BK6; have HB := HB2; have BK4 := BK2; clear HB2 BK2; have p0 : wr.cell? ⟨g6, 0, none⟩ = some (.int .i64 (kt 0 a)) := (blk_cell hbox 0).trans rfl; have p1 : wr.cell? ⟨g6, 1, none⟩ = some (.int .i64 (kt 1 a)) := (blk_cell hbox 1).trans rfl; have p2 : wr.cell? ⟨g6, 2, none⟩ = some (.int .i64 (kt 2 a)) := (blk_cell hbox 2).trans rfl; clear hbox hg))
  refine start_ (n := 7) (S := fun w' => w'.cell? ⟨g6, 0, none⟩ = some (.int .i64 (kt 0 a)) ∧ w'.cell? ⟨g6, 1, none⟩ = some (.int .i64 (kt 1 a)) ∧ w'.cell? ⟨g6, 2, none⟩ = some (.int .i64 (kt 2 a))) (ds := [6]) #[false, false, false, false, false, false, false] (by kernel_rfl) rfl rfl ⟨p0, p1, p2⟩ (fun hHeld => ?_)
  refine pure_ (i := 1) (N := some 17) (v := ?_) (a' := ?_) #[false, true, false, false, false, false, false] rfl rfl (by kernel_rfl) (fun _ _ _ h => h) (Or.inl ⟨by rfl, ?_⟩) ?_ ?_
  rotate_left
  · intro w'
    go_simp
    with_reducible rfl
  rotate_left
  · simp only [Act.put, List.setIfInBounds_toArray, List.set_cons_zero, List.set_cons_succ, i64_w, i32_w]
    rfl
  refine pure_ (i := 2) (N := some 18) (v := ?_) (a' := ?_) #[false, true, true, false, false, false, false] rfl rfl (by kernel_rfl) (fun _ _ _ h => h) (Or.inl ⟨by rfl, ?_⟩) ?_ ?_
  rotate_left
  · intro w'
    go_simp
    with_reducible rfl
  rotate_left
  · simp only [Act.put, List.setIfInBounds_toArray, List.set_cons_zero, List.set_cons_succ, i64_w, i32_w]
    rfl
  refine take_ (i := 0) (N := some 16) (v := ?_) (a' := ?_) #[true, true, true, false, false, false, false] rfl rfl (by kernel_rfl) (fun _ _ _ h => h) (Or.inl ⟨by rfl, ?_⟩) hHeld ?_ ?_
  rotate_left
  · rintro w' ⟨s0, s1, s2⟩
    go_simp
    with_reducible rfl
  rotate_left
  · simp only [Act.put, List.setIfInBounds_toArray, List.set_cons_zero, List.set_cons_succ, i64_w, i32_w]
    rfl
  refine one_ (i := 3) (N := some 19) #[true, true, true, true, false, false, false] rfl rfl (by kernel_rfl) (by decide) (fun K hK => ?_)
  refine goes_ Try.func80 (by kernel_rfl) rfl #[.string x, .int .i64 (m : Int)] (by rfl) rfl rfl (by simp only [List.map_toArray, List.map_cons, List.map_nil]; rfl) ?_
  with_reducible refine (HHD.out _).mono ?_
  rintro e wh ⟨rfl, hb⟩
  refine ⟨_, rfl, ?_⟩
  have HBH := Aside0.mk hb
  have BKH : Aside0 (Bk3 wh g4 0 0 0) := ⟨blk_below (blk_drew BK4.out) hb⟩
  have q0 := pw_cell_below hb hHeld.1
  have q1 := pw_cell_below hb hHeld.2.1
  have q2 := pw_cell_below hb hHeld.2.2
  refine hK.out _ _ ⟨(pw_cell_below hb hHeld.1), (pw_cell_below hb hHeld.2.1), (pw_cell_below hb hHeld.2.2)⟩ (fun hHeld => ?_)
  clear hK K
  refine norm_ (a' := ?_) ?_ ?_
  rotate_left
  · show Act.put _ (some 19) _ = _
    simp only [Act.put, List.setIfInBounds_toArray, List.set_cons_zero, List.set_cons_succ, i64_w, i32_w]
    rfl
  refine one_ (i := 4) (N := some 20) #[true, true, true, true, true, false, false] rfl rfl (by kernel_rfl) (by decide) (fun K hK => ?_)
  refine value_ (w1 := ?_) (v := ?_) (by rfl) rfl ?_ ?_
  rotate_left 2
  · go_simp
    constructor
    · rfl
    · rfl
  refine hK.out _ _ ⟨(pw_cell_below (below_alloc (Below.refl _ _) _) hHeld.1), (pw_cell_below (below_alloc (Below.refl _ _) _) hHeld.2.1), (pw_cell_below (below_alloc (Below.refl _ _) _) hHeld.2.2)⟩ (fun hHeld => ?_)
  clear hK K
  refine norm_ (a' := ?_) ?_ ?_
  rotate_left
  · show Act.put _ (some 20) _ = _
    simp only [Act.put, List.setIfInBounds_toArray, List.set_cons_zero, List.set_cons_succ, i64_w, i32_w]
    rfl
  refine one_ (i := 5) (N := some 21) #[true, true, true, true, true, true, false] rfl rfl (by kernel_rfl) (by decide) (fun K hK => ?_)
  refine goes_ Try.func79 (by kernel_rfl) rfl #[.slice (some ⟨wh.heap.size, 0, none⟩) 2 2] (by rfl) rfl rfl (by simp only [List.map_toArray, List.map_cons, List.map_nil]; rfl) ?_
  with_reducible refine (add2_calls wh _ _ _ _ _ _ HSM.out.1 HSM.out.2.1 HSM.out.2.2.1 HSM.out.2.2.2.1 HSM.out.2.2.2.2.1 HSM.out.2.2.2.2.2).mono ?_
  rintro e wa ⟨rfl, hb⟩
  refine ⟨_, rfl, ?_⟩
  have HBA := Aside0.mk hb
  have BKA : Aside0 (Bk3 wa g4 0 0 0) := ⟨blk_below BKH.out hb⟩
  have f0 := blk_frozen BKA.out 0
  have f1 := blk_frozen BKA.out 1
  have f2 := blk_frozen BKA.out 2
  have e0 : wa.cell? ⟨g4, 0, none⟩ = some (.int .i64 0) := (blk_cell BKA.out 0).trans rfl
  have e1 : wa.cell? ⟨g4, 1, none⟩ = some (.int .i64 0) := (blk_cell BKA.out 1).trans rfl
  have e2 : wa.cell? ⟨g4, 2, none⟩ = some (.int .i64 0) := (blk_cell BKA.out 2).trans rfl
  refine hK.out _ _ ⟨(pw_cell_below hb q0), (pw_cell_below hb q1), (pw_cell_below hb q2)⟩ (fun hHeld => ?_)
  clear hK K
  refine norm_ (a' := ?_) ?_ ?_
  rotate_left
  · show Act.put _ (some 21) _ = _
    simp only [Act.put, List.setIfInBounds_toArray, List.set_cons_zero, List.set_cons_succ, i64_w, i32_w]
    rfl
  refine last_ (i := 6) (N := none) #[true, true, true, true, true, true, true] rfl rfl (by kernel_rfl) (by decide) (fun K hK => ?_)
  refine skip_ (w1 := ?_) (by rfl) rfl ?_ ?_
  rotate_left
  · go_simp
    rfl
  refine hK.out _ _ ?_
  clear hK K
  refine done_ (by kernel_rfl) ?_
  go_wp2
  refine bodyPost_ret (results_cell_row rfl _ _ g4 91 #[.int .i64 (kt 0 a + kf 0 (x.extract 0 m)), .int .i64 (kt 1 a + kf 1 (x.extract 0 m)), .int .i64 (kt 2 a + kf 2 (x.extract 0 m))] (0, 0) _ rfl (blk_put (cs := #[.int .i64 (kt 0 a + kf 0 (x.extract 0 m)), .int .i64 (kt 1 a + kf 1 (x.extract 0 m)), .int .i64 0]) (blk_put (cs := #[.int .i64 (kt 0 a + kf 0 (x.extract 0 m)), .int .i64 0, .int .i64 0]) (blk_put (cs := #[.int .i64 0, .int .i64 0, .int .i64 0]) BKA.out 0 _ rfl) 1 _ rfl) 2 _ rfl) Try.underlying91 rfl (by kernel_rfl)) rfl ?_
  exact ⟨rfl, below_set (below_set (below_set (below_step (below_step (below_drew1 HB.out) HBH.out) HBA.out) GE4.out) GE4.out) GE4.out⟩
end Go.Proofs.Ytdcnoiofimngpaa.Gq
/- Rune, Lines, Start: the walks; where lines begin, in plain words. -/
namespace Go.Proofs.Ytdcnoiofimngpaa.Gn
open Go.RowKit Go.Proofs.Ytdcnoiofimngpaa.U Go.Proofs.Ytdcnoiofimngpaa.QK Go.Proofs.Ytdcnoiofimngpaa.QS Go.Proofs.Ytdcnoiofimngpaa.Kt Go.Proofs.Ytdcnoiofimngpaa.Ka Go.Proofs.Ytdcnoiofimngpaa.Kb Go.Proofs.Ytdcnoiofimngpaa.Kc Go.Proofs.Ytdcnoiofimngpaa.Kd_ Go.Proofs.Ytdcnoiofimngpaa.Ke Go.Proofs.Ytdcnoiofimngpaa.Kf Go.Proofs.Ytdcnoiofimngpaa.Kh Go.Proofs.Ytdcnoiofimngpaa.Ki Go.Proofs.Ytdcnoiofimngpaa.Kj Go.Proofs.Ytdcnoiofimngpaa.Kk Go.Proofs.Ytdcnoiofimngpaa.Gs Go.Proofs.Ytdcnoiofimngpaa.Gd Go.Proofs.Ytdcnoiofimngpaa.Gt Go.Proofs.Ytdcnoiofimngpaa.Gr Go.Proofs.Ytdcnoiofimngpaa.Ge Go.Proofs.Ytdcnoiofimngpaa.Gq Go.Proofs.YtdcnoiofimngpaaW.PrintWords Go.Proofs.YtdcnoiofimngpaaW.PrintLast Go.Proofs.YtdcnoiofimngpaaW.PrintMore
set_option linter.unusedVariables false
set_option linter.unusedSimpArgs false
/-- the place behind the k-th line end -/
def nl : List UInt8 → Nat → Nat
  | _, 0 => 0
  | [], _ + 1 => 0
  | b :: l, k + 1 => 1 + nl l (if b.toNat = 10 then k else k + 1)
theorem nl_zero (l : List UInt8) : nl l 0 = 0 := by cases l <;> rfl
theorem nl_cons (b : UInt8) (l : List UInt8) (k : Nat) : nl (b :: l) (k + 1) = 1 + nl l (if b.toNat = 10 then k else k + 1) := rfl
theorem nl_le : ∀ (l : List UInt8) (k : Nat), nl l k ≤ l.length
  | l, 0 => by rw [nl_zero]; omega
  | [], k + 1 => Nat.le_refl _
  | b :: l, k + 1 => by
    rw [nl_cons, List.length_cons]
    have := nl_le l (if b.toNat = 10 then k else k + 1)
    omega
theorem nl_app : ∀ (l1 l2 : List UInt8) (k : Nat), Sp.lines l1 < k → nl (l1 ++ l2) k = l1.length + nl l2 (k - Sp.lines l1)
  | [], l2, k, h => by simp [Sp.lines]
  | b :: l1, l2, 0, h => by omega
  | b :: l1, l2, k + 1, h => by
    rw [List.cons_append, nl_cons, List.length_cons]
    rw [Sp.lines] at h ⊢
    split
    · rename_i hb
      rw [if_pos hb] at h
      rw [nl_app l1 l2 k (by omega)]
      rw [show k + 1 - (1 + Sp.lines l1) = k - Sp.lines l1 by omega]
      omega
    · rename_i hb
      rw [if_neg hb] at h
      rw [nl_app l1 l2 (k + 1) (by omega), Nat.zero_add]
      omega
theorem nl_lt : ∀ (l1 l2 : List UInt8) (k : Nat), k ≤ Sp.lines l1 → nl (l1 ++ l2) k = nl l1 k
  | l1, l2, 0, h => by rw [nl_zero, nl_zero]
  | [], l2, k + 1, h => by simp [Sp.lines] at h
  | b :: l1, l2, k + 1, h => by
    rw [List.cons_append, nl_cons, nl_cons]
    rw [Sp.lines] at h
    split
    · rename_i hb
      rw [if_pos hb] at h
      rw [nl_lt l1 l2 k (by omega)]
    · rename_i hb
      rw [if_neg hb] at h
      rw [nl_lt l1 l2 (k + 1) (by omega)]
theorem ten (b : UInt8) : (b == (10 : UInt8)) = decide (b.toNat = 10) := by
  by_cases h : b = 10
  · subst h; rfl
  · rw [beq_eq_false_iff_ne.mpr h, decide_eq_false]
    intro hc
    exact h (UInt8.toNat_inj.mp hc)
theorem first_nl : ∀ (l : List UInt8), 0 < Sp.lines l → 0 ≤ Lib.indexByte l 10 ∧ (nl l 1 : Int) = Lib.indexByte l 10 + 1
  | [], h => by simp [Sp.lines] at h
  | b :: l, h => by
    rw [nl_cons, Lib.indexByte, ten]
    rw [Sp.lines] at h
    by_cases hb : b.toNat = 10
    · rw [if_pos hb, nl_zero, decide_eq_true hb]; exact ⟨by simp, by simp⟩
    · rw [if_neg hb] at h
      obtain ⟨h1, h2⟩ := first_nl l (by omega)
      rw [if_neg hb, decide_eq_false hb]
      have hne : (Lib.indexByte l 10 == -1) = false := beq_eq_false_iff_ne.mpr (by omega)
      rw [hne]
      simp only [Bool.false_eq_true, if_false]
      constructor
      · omega
      · show ((1 + nl l 1 : Nat) : Int) = _
        omega
theorem nl_step : ∀ (l : List UInt8) (j : Nat), j < Sp.lines l → 0 ≤ Lib.indexByte (l.drop (nl l j)) 10 ∧ (nl l (j + 1) : Int) = nl l j + (Lib.indexByte (l.drop (nl l j)) 10 + 1)
  | l, 0, h => by
    rw [nl_zero, List.drop_zero]
    obtain ⟨h1, h2⟩ := first_nl l h
    exact ⟨h1, by rw [h2]; omega⟩
  | [], j + 1, h => by simp [Sp.lines] at h
  | b :: l, j + 1, h => by
    rw [Sp.lines] at h
    rw [nl_cons b l j, nl_cons b l (j + 1), Nat.add_comm 1, List.drop_succ_cons]
    by_cases hb : b.toNat = 10
    · rw [if_pos hb] at h
      rw [if_pos hb, if_pos hb]
      obtain ⟨h1, h2⟩ := nl_step l j (by omega)
      exact ⟨h1, by omega⟩
    · rw [if_neg hb] at h
      rw [if_neg hb, if_neg hb]
      obtain ⟨h1, h2⟩ := nl_step l (j + 1) (by omega)
      exact ⟨h1, by omega⟩
/-- where the n-th thing of a kind lies -/
structure LiesK (k : Int) (C : List ByteArray) (n : Int) (a : List ByteArray) (x : ByteArray) (m : Nat) (b : List ByteArray) : Prop where
  pk : pick k C n = (a, x, (m : Int))
  le : (m : Int) ≤ kf k x
  lt : n < kt k C → (m : Int) < kf k x
  n_ : kt k a + m = n
  s : cat C = cat a ++ (x ++ cat b)
  x_ : C ≠ [] → x ∈ C
theorem liesK (k : Int) : ∀ (C : List ByteArray) (n : Int), 0 ≤ n → n ≤ kt k C → ∃ a x m b, LiesK k C n a x m b
  | [], n, h0, h => ⟨[], ⟨#[]⟩, 0, [], by
      rw [kt_nil] at h
      have e : n = 0 := by omega
      subst e
      exact ⟨rfl, by have := kf_nonneg k ⟨#[]⟩; omega, fun hc => by rw [kt_nil] at hc; omega, rfl, by rw [empty_app]; rfl, fun hc => absurd rfl hc⟩⟩
  | [s], n, h0, h => ⟨[], s, n.toNat, [], by
      rw [kt_cons, kt_nil] at h
      exact ⟨by show (_, _, n) = _; rw [Int.toNat_of_nonneg h0], by omega, fun hc => by rw [kt_cons, kt_nil] at hc; omega, by rw [kt_nil]; omega, by rw [empty_app, app_empty, Gc.cat_one], fun _ => by simp⟩⟩
  | s :: u :: r, n, h0, h => by
    rw [kt_cons] at h
    by_cases hc : n < kf k s
    · exact ⟨[], s, n.toNat, u :: r, ⟨by rw [pick_two, if_pos hc, Int.toNat_of_nonneg h0], by omega, fun _ => by omega, by rw [kt_nil]; omega, by rw [app_empty, cat_cons], fun _ => by simp⟩⟩
    · obtain ⟨a, x, m, b, H⟩ := liesK k (u :: r) (n - kf k s) (by omega) (by omega)
      refine ⟨s :: a, x, m, b, ⟨by rw [pick_two, if_neg hc, H.pk], H.le, fun hc2 => H.lt (by rw [kt_cons] at hc2; omega), by rw [kt_cons]; have := H.n_; omega, ?_, fun _ => List.mem_cons_of_mem _ (H.x_ (by simp))⟩⟩
      rw [cat_cons, H.s, cat_cons]
      apply ld_ext
      simp [ld]
theorem kf2 (s : ByteArray) : kf 2 s = (Sp.lines (ld s) : Int) := rfl
theorem LiesK.start {C a b : List ByteArray} {x : ByteArray} {n : Int} {m : Nat} (h : LiesK 2 C n a x m b) (hn : n < kt 2 C) : nl (ld (cat C)) (n.toNat + 1) = (cat a).size + nl (ld x) (m + 1) := by
  have h1 := h.lt hn
  have h2 := h.n_
  rw [kf2] at h1
  rw [kt_cat, kf2] at h2
  rw [h.s, Gc.ld_app, Gc.ld_app, nl_app _ _ _ (by omega), nl_lt _ _ _ (by omega), ld_len]
  congr 2
  omega
theorem field91_1 (a b c : Int) (w : World) : (Instr.field 91 (.agg #[.int .i64 a, .int .i64 b, .int .i64 c]) 1).run Try.prog w = .ok (.int .i64 b) w := by
  have hux := Try.underlying91
  simp [Instr.field, asAgg, part, hux]
theorem field91_2 (a b c : Int) (w : World) : (Instr.field 91 (.agg #[.int .i64 a, .int .i64 b, .int .i64 c]) 2).run Try.prog w = .ok (.int .i64 c) w := by
  have hux := Try.underlying91
  simp [Instr.field, asAgg, part, hux]
variable {w0 : World} {g : Nat} {p : Option Addr} {t : Tr} {C : List ByteArray}
theorem lines_calls (h : Rope w0 g p t C) {w : World} (hb : Below w0.heap.size w0 w) : Calls Try.prog 42 #[.pointer (some ⟨g, 0, none⟩)] w fun e w' => e = .returned (.int .i64 (kt 2 C + 1)) ∧ Below w.heap.size w w' := by
  have HC := Aside0.mk (h.count hb)
  have hs := h.s 2
  have h0 := kt_nonneg 2 C
  have ew : wrap64 (kt 2 C + 1) = kt 2 C + 1 := by unfold wrap64; omega
  have EW := Aside0.mk ew
  clear h hb hs h0 ew
  go_enter Try.func42, Try.ntmps42
  go_wp2_with (first | (go_at_call 60; (with_reducible refine HC.out.mono ?_); rintro e w3 ⟨rfl, hb⟩; have HB := Aside0.mk hb; clear hb) | (rw [field91_2]; go_simp))
  go_ret
  exact ⟨by show Ending.returned (.int .i64 (wrap64 (kt 2 C + 1))) = _; rw [EW.out], HB.out⟩
/-- Rune -/
def runeV (s : ByteArray) (x : Int) : Int × Int := if checkV s x = 0 then (kf 1 (s.extract 0 x.toNat), 0) else (0, checkV s x)
set_option maxHeartbeats 1000000 in
theorem rune_calls (h : Rope w0 g p t C) (hv : ∀ x ∈ C, Sp.valid (ld x) = true) {w : World} (hb : Below w0.heap.size w0 w) (x : Int) : Calls Try.prog 33 #[.pointer (some ⟨g, 0, none⟩), .int .i64 x] w fun e w' => e = .returned (.tuple #[.int .i64 (runeV (cat C) x).1, .int .i64 (runeV (cat C) x).2]) ∧ Below w.heap.size w w' := by
  have HC := Aside0.mk (check_calls h hv hb x)
  unfold runeV
  by_cases c : checkV (cat C) x = 0
  · rw [if_pos c]
    have hx : 0 ≤ x ∧ x ≤ kt 0 C := by
      rw [kt_cat, kf0]
      unfold checkV at c
      split at c
      · cases c
      · split at c
        · cases c
        · omega
    have HN : Aside0 (∀ W, Below w.heap.size w W → Calls Try.prog 57 #[.pointer (some ⟨g, 0, none⟩), .int .i64 x] W fun e w' => e = .returned (.agg #[.int .i64 (kf 0 ((cat C).extract 0 x.toNat)), .int .i64 (kf 1 ((cat C).extract 0 x.toNat)), .int .i64 (kf 2 ((cat C).extract 0 x.toNat))]) ∧ Below W.heap.size W w') := ⟨fun W h2 => counted_calls h (below_step hb h2) x hx⟩
    rw [c] at HC
    clear h hv hb hx c
    go_enter Try.func33, Try.ntmps33
    go_wp2_with (first
      | (go_at_call 56; (with_reducible refine HC.out.mono ?_); rintro e w3 ⟨rfl, hb⟩; have HB := Aside0.mk hb; clear hb)
      | (go_at_call 57; (with_reducible refine (HN.out _ HB.out).mono ?_); rintro e w4 ⟨rfl, hb⟩; have HB4 := Aside0.mk (below_step HB.out hb); clear hb)
      | (rw [field91_1]; go_simp))
    go_ret2
    exact ⟨rfl, HB4.out⟩
  · rw [if_neg c]
    have cb : (checkV (cat C) x == 0) = false := beq_eq_false_iff_ne.mpr c
    clear h hv hb c
    go_enter Try.func33, Try.ntmps33
    go_wp2_with (go_at_call 56; (with_reducible refine HC.out.mono ?_); rintro e w3 ⟨rfl, hb⟩; have HB := Aside0.mk hb; clear hb)
    go_ret2
    exact ⟨rfl, HB.out⟩
/-- Start -/
def startV (s : ByteArray) (x : Int) : Int × Int := if x < 0 then (0, 3) else if kf 2 s + 1 ≤ x then (0, 3) else (nl (ld s) x.toNat, 0)
set_option maxHeartbeats 8000000 in
set_option maxRecDepth 100000 in
theorem start_calls (h : Rope w0 g p t C) {w : World} (hb : Below w0.heap.size w0 w) (n : Int) : Calls Try.prog 43 #[.pointer (some ⟨g, 0, none⟩), .int .i64 n] w fun e w' => e = .returned (.tuple #[.int .i64 (startV (cat C) n).1, .int .i64 (startV (cat C) n).2]) ∧ Below w.heap.size w w' := by
  have hu91 := Try.underlying91
  have HL := Aside0.mk (lines_calls h hb)
  unfold startV
  rw [← kt_cat]
  by_cases c1 : n < 0
  · have c1b : decide (n < 0) = true := decide_eq_true c1
    rw [if_pos c1]
    clear h hb c1
    go_enter Try.func43, Try.ntmps43
    go_wp2
    go_ret2
    exact ⟨rfl, Below.refl _ _⟩
  · have c1b : decide (n < 0) = false := decide_eq_false c1
    rw [if_neg c1]
    by_cases c2 : kt 2 C + 1 ≤ n
    · have c2b : decide (kt 2 C + 1 ≤ n) = true := decide_eq_true c2
      rw [if_pos c2]
      clear h hb c1 c2
      go_enter Try.func43, Try.ntmps43
      go_wp2_with (go_at_call 42; (with_reducible refine HL.out.mono ?_); rintro e w3 ⟨rfl, hb⟩; have HB := Aside0.mk hb; clear hb)
      go_ret2
      exact ⟨rfl, HB.out⟩
    · have c2b : decide (kt 2 C + 1 ≤ n) = false := decide_eq_false c2
      rw [if_neg c2]
      by_cases c3 : n = 0
      · subst c3
        rw [Int.toNat_zero, nl_zero]
        clear h hb c1 c2
        go_enter Try.func43, Try.ntmps43
        go_wp2_with (go_at_call 42; (with_reducible refine HL.out.mono ?_); rintro e w3 ⟨rfl, hb⟩; have HB := Aside0.mk hb; clear hb)
        go_ret2
        exact ⟨rfl, HB.out⟩
      · have c3b : (n == 0) = false := beq_eq_false_iff_ne.mpr c3
        obtain ⟨a, x, m, b, H⟩ := liesK 2 C (n - 1) (by omega) (by omega)
        have hs := h.s 0
        have hs2 := h.s 2
        have hx : x.size ≤ 5000 ∧ kt 0 a ≤ 5000 := by
          have := congrArg ByteArray.size H.s
          rw [ByteArray.size_append, ByteArray.size_append] at this
          rw [kt_cat, kf0] at hs
          rw [kt_cat, kf0]
          omega
        have hlt := H.lt (by omega)
        rw [kf2] at hlt
        have hst := H.start (by omega)
        rw [show (n - 1).toNat + 1 = n.toNat by omega] at hst
        have hres : ((nl (ld (cat C)) n.toNat : Nat) : Int) = kt 0 a + (nl (ld x) (m + 1) : Nat) := by rw [hst, kt_cat, kf0]; omega
        rw [hres]
        have HX := Aside0.mk hx
        have HLT : Aside0 (m < Sp.lines (ld x)) := ⟨by omega⟩
        have HP := Aside0.mk H.pk
        have HR : Aside0 (∀ W, Below w.heap.size w W → Calls Try.prog 62 #[.pointer (some ⟨g, 0, none⟩)] W fun e w' => e = .returned (.pointer p) ∧ W = w') := ⟨fun W h2 => h.root (below_step hb h2)⟩
        have HD : Aside0 (∀ W, Below w.heap.size w W → Calls Try.prog 61 #[.pointer p, .int .i64 2, .int .i64 (n - 1)] W (DownPost 2 C (n - 1) W)) := ⟨fun W h2 => h.down (below_step hb h2) 2 (n - 1) ⟨by omega, by omega⟩⟩
        have wn : wrap64 (n - 1) = n - 1 := by unfold wrap64; omega
        have HM : Aside0 (m ≤ 5000) := ⟨by have := H.n_; have := kt_nonneg 2 a; omega⟩
        have HK0 := Aside0.mk (kt_nonneg 0 a)
        clear h hb c1 c2 c3 H hs hs2 hx hlt hst hres
        go_enter Try.func43, Try.ntmps43
        go_wp2_with (first
          | (go_at_call 42; (with_reducible refine HL.out.mono ?_); rintro e w3 ⟨rfl, hb⟩; have HB := Aside0.mk hb; clear hb)
          | (go_at_call 62; (with_reducible refine (HR.out _ HB.out).mono ?_); rintro e w' ⟨rfl, rfl⟩)
          | (go_at_call 61; (with_reducible refine (HD.out _ HB.out).mono ?_); rintro e w3 ⟨a4, x4, m4, hp, rfl, hb⟩; rw [HP.out] at hp; simp only [Prod.mk.injEq] at hp; obtain ⟨rfl, rfl, rfl⟩ := hp; have HB2 := Aside0.mk (below_step HB.out hb); clear HB hb; have HB := HB2; clear HB2)
          | ((with_reducible refine gate_dst (N := 7) rfl ?_); refine box_event ?hg (N := 7) ?hd (cs := #[.int .i64 0, .int .i64 0, .int .i64 0]) (t := 91) ?hr ?_; (case hd => rfl); (case hg => rfl); (case hr => first | (go_simp; done) | (go_simp; rfl)); intro g7 hg w5 hbox hb; have BK7 : Aside0 (Bk3 w5 g7 0 0 0) := ⟨hbox⟩; have HB2 := Aside0.mk (below_step HB.out hb); have GE7 : Aside0 (w.heap.size ≤ g7) := ⟨by rw [hg]; exact HB.out.size⟩; clear HB hb hbox hg; have HB := HB2; clear HB2)
          | ((with_reducible refine gate_store (t := 91) (p := 7) (v := .tmp 29) rfl ?_); refine Sa.store_whole rfl rfl 91 (.tmp 7) (.tmp 29) rfl g7 #[.int .i64 0, .int .i64 0, .int .i64 0] [.int .i64 (kt 0 a), .int .i64 (kt 1 a), .int .i64 (kt 2 a)] rfl rfl (by kernel_rfl) BK7.out rfl (by simp [Value.oneCell']) ?_; intro w6 hbox hg; have HB2 := Aside0.mk (Sa.grown_below HB.out (below_size HB.out) hg GE7.out); clear HB BK7; have HB := HB2; clear HB2; have BK7 : Aside0 (Bk3 w6 g7 (kt 0 a) (kt 1 a) (kt 2 a)) := ⟨hbox⟩; clear hbox hg))
        go_loopg [8, 9] (m + 2) (fun kq v8 v9 w' => ∃ (j : Nat) (r q : Int), v8 = .int .i64 r ∧ v9 = .int .i64 q ∧ Aside0 (r = (m : Int) - j ∧ q = (nl (ld x) j : Nat) ∧ j ≤ m + 1 ∧ j + kq = m + 2) ∧ Aside0 (Bk3 w' g7 (kt 0 a) (kt 1 a) (kt 2 a)) ∧ Aside0 (Below w.heap.size w w'))
        case atStart => exact ⟨0, m, 0, rfl, rfl, ⟨by rw [nl_zero]; omega⟩, BK7, HB⟩
        case round =>
          clear BK7 HB
          obtain ⟨j, r, q, rfl, rfl, HJ, BK7, HB⟩ := hrel
          obtain ⟨k1, rfl⟩ : ∃ k1, gk = k1 + 1 := ⟨gk - 1, by have := HJ.out; omega⟩
          by_cases c : 0 ≤ r
          · have cb : decide (0 ≤ r) = true := decide_eq_true c
            have hjl : j < Sp.lines (ld x) := by have := HLT.out; have := HJ.out; omega
            obtain ⟨s1, s2⟩ := nl_step (ld x) j hjl
            have hle := nl_le (ld x) (j + 1)
            rw [ld_len] at hle
            have hle0 := nl_le (ld x) j
            rw [ld_len] at hle0
            have hq := HJ.out.2.1
            have HSP : Aside0 (0 ≤ Lib.indexByte ((ld x).drop q.toNat) 10 ∧ (nl (ld x) (j + 1) : Int) = q + (Lib.indexByte ((ld x).drop q.toNat) 10 + 1) ∧ nl (ld x) (j + 1) ≤ x.size ∧ 0 ≤ q ∧ q ≤ x.size) := ⟨by rw [hq, Int.toNat_natCast]; exact ⟨s1, s2, hle, by omega, by omega⟩⟩
            have HC := Aside0.mk c
            have q0 : 0 ≤ q := HSP.out.2.2.2.1
            have q1 : q ≤ (x.size : Int) := HSP.out.2.2.2.2
            have d0 : decide ((0 : Int) ≤ q) = true := decide_eq_true q0
            have d1 : decide (q ≤ (x.size : Int)) = true := decide_eq_true q1
            have q0c := eq_true q0
            have q1c := eq_true q1
            clear c hjl s1 s2 hle hle0 hq q0 q1
            go_wp2_with (go_at_call 68; (with_reducible refine (Try.strings_IndexByte _ _ _).mono ?_); rintro e w' ⟨rfl, rfl⟩)
            have et : List.take (x.size - q.toNat) (List.drop q.toNat x.data.toList) = (ld x).drop q.toNat := List.take_of_length_le (by rw [List.length_drop]; have := ld_len x; unfold ld at this; omega)
            rw [et]
            go_roundg k1
            case measure => omega
            case rel => exact ⟨j + 1, _, _, rfl, rfl, ⟨by have := HJ.out; have := HSP.out; have := HX.out; have := HC.out; have := HM.out; unfold wrap64; omega⟩, BK7, HB⟩
          · have cb : decide (0 ≤ r) = false := decide_eq_false c
            have hj : j = m + 1 := by have := HJ.out; omega
            have HQ : Aside0 (q = (nl (ld x) (m + 1) : Nat)) := ⟨by rw [HJ.out.2.1, hj]⟩
            have y0 : wr.cell? ⟨g7, 0, none⟩ = some (.int .i64 (kt 0 a)) := (blk_cell BK7.out 0).trans rfl
            have hle0 := nl_le (ld x) (m + 1)
            rw [ld_len] at hle0
            have EW : Aside0 (wrap64 (kt 0 a + q) = kt 0 a + (nl (ld x) (m + 1) : Nat)) := ⟨by have := HQ.out; have := HX.out; have := HK0.out; unfold wrap64; omega⟩
            clear c hj hle0
            go_wp2
            go_ret2
            exact ⟨by show Ending.returned (.tuple #[.int .i64 (wrap64 (kt 0 a + q)), .int .i64 0]) = _; rw [EW.out], HB.out⟩
end Go.Proofs.Ytdcnoiofimngpaa.Gn
