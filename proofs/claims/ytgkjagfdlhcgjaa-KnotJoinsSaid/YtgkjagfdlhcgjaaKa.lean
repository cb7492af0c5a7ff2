import Derived.Test.YtgkjagfdlhcgjaaKt
import Derived.Test.YtgkjagfdlhcgjaaSa
import Derived.Test.YtgkjagfdlhcgjaaQKx
import Derived.Deep.QuietTactic
import Derived.BigQuiet
import Derived.Deep.LoopGhost
import Derived.Deep.RegionHeld3
/- Contracts of knots that are read: none, Height, Count, Kids, even. -/
namespace Go.Proofs.Ytgkjagfdlhcgjaa.Ka
open Go.RowKit Go.Proofs.Ytgkjagfdlhcgjaa.QK Go.Proofs.Ytgkjagfdlhcgjaa.Kt Go.Proofs.YtgkjagfdlhcgjaaW.PrintWords Go.Proofs.YtgkjagfdlhcgjaaW.PrintLast Go.Proofs.YtgkjagfdlhcgjaaW.PrintMore
set_option linter.unusedVariables false
set_option linter.unusedSimpArgs false
theorem none_nil (w : World) : Calls Try.prog 50 #[.pointer none] w fun e w' => e = .returned (.bool true) ∧ w = w' := by
  go_enter Try.func50, Try.ntmps50
  go_wp2
  go_ret
  exact ⟨rfl, rfl⟩
set_option maxHeartbeats 1000000 in
theorem none_calls (w : World) (p : Option Addr) (t : Tr) (H : Rd w p t) : Calls Try.prog 50 #[.pointer p] w fun e w' => e = .returned (.bool t.none) ∧ w = w' := by
  cases t with
  | nil => obtain rfl := H.nil_; exact none_nil w
  | node h b r l s kids =>
    obtain ⟨a, A, cp, ps, rfl, c0, c1, c2, c3, c4, c5, _, _, _⟩ := H.open_
    clear H c0 c1 c2 c3
    by_cases hs : s.toList = ([] : List UInt8)
    · have d0 : (s.toList == ([] : List UInt8)) = true := beq_iff_eq.mpr hs
      have d1 : (s.toList != ([] : List UInt8)) = false := bne_eq_false_iff_eq.mpr hs
      clear hs
      have e : (Tr.node h b r l s kids).none = (kids.length == 0) := by show ((s.toList == []) && (kids.length == 0)) = _; rw [d0]; rfl
      rw [e]
      clear e
      by_cases hk : kids.length = 0
      · have k0 : (kids.length == 0) = true := beq_iff_eq.mpr hk
        have k1 : ((kids.length : Int) == 0) = true := beq_iff_eq.mpr (by omega)
        rw [k0]
        clear hk
        go_enter Try.func50, Try.ntmps50
        go_wp2
        go_ret
        exact ⟨rfl, rfl⟩
      · have k0 : (kids.length == 0) = false := beq_eq_false_iff_ne.mpr hk
        have k1 : ((kids.length : Int) == 0) = false := beq_eq_false_iff_ne.mpr (by omega)
        rw [k0]
        clear hk
        go_enter Try.func50, Try.ntmps50
        go_wp2
        go_ret
        exact ⟨rfl, rfl⟩
    · have d0 : (s.toList == ([] : List UInt8)) = false := beq_eq_false_iff_ne.mpr hs
      have d1 : (s.toList != ([] : List UInt8)) = true := bne_iff_ne.mpr hs
      have d2 : (!s.toList.isEmpty) = true := by cases hl : s.toList <;> simp_all
      clear hs
      have e : (Tr.node h b r l s kids).none = false := by show ((s.toList == []) && (kids.length == 0)) = _; rw [d0]; rfl
      rw [e]
      clear e
      go_enter Try.func50, Try.ntmps50
      go_wp2
      go_ret
      exact ⟨rfl, rfl⟩
/-- where it is none, where not -/
theorem none_t {w : World} {p : Option Addr} {t : Tr} (H : Rd w p t) (h : t.none = true) : Calls Try.prog 50 #[.pointer p] w fun e w' => e = .returned (.bool true) ∧ w = w' := by rw [← h]; exact none_calls w p t H
theorem none_f {w : World} {p : Option Addr} {t : Tr} (H : Rd w p t) (h : t.none = false) : Calls Try.prog 50 #[.pointer p] w fun e w' => e = .returned (.bool false) ∧ w = w' := by rw [← h]; exact none_calls w p t H
theorem Tr.not_none {t : Tr} (h : t.none = false) : ∃ hh b r l s kids, t = .node hh b r l s kids := by
  cases t with
  | nil => cases h
  | node hh b r l s kids => exact ⟨hh, b, r, l, s, kids, rfl⟩
theorem height_calls (w : World) (p : Option Addr) (t : Tr) (H : Rd w p t) : Calls Try.prog 26 #[.pointer p] w fun e w' => e = .returned (.int .i64 t.height) ∧ w = w' := by
  by_cases hn : t.none = true
  · have e : t.height = -1 := by unfold Tr.height; rw [hn]; rfl
    rw [e]
    have HN := Aside0.mk (none_t H hn)
    clear H hn e
    go_enter Try.func26, Try.ntmps26
    go_wp2_with (go_at_call 50; (with_reducible refine HN.out.mono ?_); rintro e w' ⟨rfl, rfl⟩)
    go_ret
    exact ⟨rfl, rfl⟩
  · have hn : t.none = false := by simpa using hn
    have e : t.height = t.h0 := by unfold Tr.height; rw [hn]; rfl
    rw [e]
    have HN := Aside0.mk (none_f H hn)
    obtain ⟨hh, b, r, l, s, kids, rfl⟩ := Tr.not_none hn
    obtain ⟨a, A, cp, ps, rfl, c0, c1, c2, c3, c4, c5, _, _, _⟩ := H.open_
    clear H hn e c1 c2 c3 c4 c5
    go_enter Try.func26, Try.ntmps26
    go_wp2_with (go_at_call 50; (with_reducible refine HN.out.mono ?_); rintro e w' ⟨rfl, rfl⟩)
    go_ret
    exact ⟨rfl, rfl⟩
/-- the count's cells, as one value -/
def agg3 (b r l : Int) : Value := .agg #[.int .i64 b, .int .i64 r, .int .i64 l]
set_option maxHeartbeats 4000000 in
set_option maxRecDepth 100000 in
theorem count_calls (w : World) (p : Option Addr) (t : Tr) (H : Rd w p t) : Calls Try.prog 36 #[.pointer p] w fun e w' =>
    e = .returned (.agg #[.int .i64 (if t.none then 0 else t.cb), .int .i64 (if t.none then 0 else t.cr), .int .i64 (if t.none then 0 else t.cl)]) ∧ Below w.heap.size w w' := by
  have hux := Try.underlying47
  by_cases hn : t.none = true
  · rw [hn]
    show Calls _ _ _ _ fun e w' => e = .returned (.agg #[.int .i64 0, .int .i64 0, .int .i64 0]) ∧ Below w.heap.size w w'
    have HN := Aside0.mk (none_t (H.below (below_alloc (Below.refl _ _) (.cells #[.int .i64 0, .int .i64 0, .int .i64 0] 47))) hn)
    have HM : Aside0 (∀ w', Below w.heap.size w w' → Calls Try.prog 50 #[.pointer p] w' fun e w'' => e = .returned (.bool true) ∧ w' = w'') := ⟨fun w' hb => none_t (H.below hb) hn⟩
    clear H hn HN
    go_enter Try.func36, Try.ntmps36
    go_wp2_with (first | ((with_reducible refine gate_dst (N := 2) rfl ?_); refine box_event ?hg (N := 2) ?hd (cs := #[.int .i64 0, .int .i64 0, .int .i64 0]) (t := 47) ?hr ?_; (case hd => rfl); (case hg => rfl); (case hr => first | (go_simp; done) | (go_simp; rfl)); intro gb hg w2 hbox hb; have BK := Aside0.mk hbox; have HB := Aside0.mk hb; have GE : Aside0 (w.heap.size ≤ gb) := ⟨by rw [hg]; exact Nat.le_refl _⟩; clear hb hbox hg) | (go_at_call 50; (with_reducible refine (HM.out _ HB.out).mono ?_); rintro e w' ⟨rfl, rfl⟩) | ((with_reducible refine gate_store (t := 47) (p := 2) (v := .tmp 5) rfl ?_); refine Sa.store_whole rfl rfl 47 (.tmp 2) (.tmp 5) rfl gb #[.int .i64 0, .int .i64 0, .int .i64 0] [.int .i64 0, .int .i64 0, .int .i64 0] rfl rfl (by kernel_rfl) BK.out rfl (by simp [Value.oneCell']) ?_; intro w9 hbox hg; have n0_ := Aside0.mk (Sa.grown_below HB.out (below_size HB.out) hg GE.out); clear BK HB; have BK := Aside0.mk hbox; have HB := n0_; clear n0_ hbox hg))
    refine bodyPost_ret (results_cell_row rfl _ _ gb 47 #[.int .i64 0, .int .i64 0, .int .i64 0] (0, 0) _ rfl BK.out Try.underlying47 rfl (by kernel_rfl)) rfl ?_
    exact ⟨rfl, HB.out⟩
  · have hn : t.none = false := by simpa using hn
    rw [hn]
    obtain ⟨hh, b, r, l, s, kids, rfl⟩ := Tr.not_none hn
    have HM : Aside0 (∀ w', Below w.heap.size w w' → Calls Try.prog 50 #[.pointer p] w' fun e w'' => e = .returned (.bool false) ∧ w' = w'') := ⟨fun w' hb => none_f (H.below hb) hn⟩
    obtain ⟨a, A, cp, ps, rfl, c0, c1, c2, c3, c4, c5, _, _, _⟩ := H.open_
    have C1 := Aside0.mk c1
    have C2 := Aside0.mk c2
    have C3 := Aside0.mk c3
    clear H hn c0 c4 c5 c1 c2 c3
    show Calls _ _ _ _ fun e w' => e = .returned (.agg #[.int .i64 b, .int .i64 r, .int .i64 l]) ∧ Below w.heap.size w w'
    go_enter Try.func36, Try.ntmps36
    go_wp2_with (first | ((with_reducible refine gate_dst (N := 2) rfl ?_); refine box_event ?hg (N := 2) ?hd (cs := #[.int .i64 0, .int .i64 0, .int .i64 0]) (t := 47) ?hr ?_; (case hd => rfl); (case hg => rfl); (case hr => first | (go_simp; done) | (go_simp; rfl)); intro gb hg w2 hbox hb; have BK := Aside0.mk hbox; have HB := Aside0.mk hb; have GE : Aside0 (w.heap.size ≤ gb) := ⟨by rw [hg]; exact Nat.le_refl _⟩; have d1 := pw_cell_below hb C1.out; have d2 := pw_cell_below hb C2.out; have d3 := pw_cell_below hb C3.out; clear hb hbox hg) | (go_at_call 50; (with_reducible refine (HM.out _ HB.out).mono ?_); rintro e w' ⟨rfl, rfl⟩) | ((with_reducible refine gate_store (t := 47) (p := 2) (v := .tmp 10) rfl ?_); refine Sa.store_whole rfl rfl 47 (.tmp 2) (.tmp 10) rfl gb #[.int .i64 0, .int .i64 0, .int .i64 0] [.int .i64 b, .int .i64 r, .int .i64 l] rfl rfl (by kernel_rfl) BK.out rfl (by simp [Value.oneCell']) ?_; intro w9 hbox hg; have n0_ := Aside0.mk (Sa.grown_below HB.out (below_size HB.out) hg GE.out); clear BK HB; have BK := Aside0.mk hbox; have HB := n0_; clear n0_ hbox hg))
    refine bodyPost_ret (results_cell_row rfl _ _ gb 47 #[.int .i64 b, .int .i64 r, .int .i64 l] (0, 0) _ rfl BK.out Try.underlying47 rfl (by kernel_rfl)) rfl ?_
    exact ⟨rfl, HB.out⟩
theorem kids_none {t : Tr} (h : t.none = true) : t.kids = [] := by
  cases t with
  | nil => rfl
  | node hh b r l s kids =>
    have h' : ((s.toList == []) && (kids.length == 0)) = true := h
    rw [Bool.and_eq_true] at h'
    exact List.eq_nil_of_length_eq_zero (beq_iff_eq.mp h'.2)
theorem Rs.nil (w : World) : Rs w none 0 [] [] := ⟨Kd.C_nil kPtr w, rfl, fun j p t h => by cases h⟩
theorem infoP : (Try.prog.info? 38).map (fun i => (i.zero, i.size, i.bytes)) = some (some (.pointer none), 1, 8) := by kernel_rfl
def KidsPost (w : World) (ks : List Tr) (e : Ending) (w' : World) : Prop := ∃ A cp ps, e = .returned (.slice A ks.length cp) ∧ ks.length ≤ cp ∧ Rs w' A ks.length ps ks ∧ Below w.heap.size w w'
set_option maxHeartbeats 1000000 in
theorem kids_calls (w : World) (p : Option Addr) (t : Tr) (H : Rd w p t) (hm : t.kids.length ≤ 1000000) : Calls Try.prog 28 #[.pointer p] w (KidsPost w t.kids) := by
  by_cases hn : t.none = true
  · have HN := Aside0.mk (none_t H hn)
    rw [kids_none hn]
    clear H hn hm
    go_enter Try.func28, Try.ntmps28
    go_wp2_with (go_at_call 50; (with_reducible refine HN.out.mono ?_); rintro e w' ⟨rfl, rfl⟩)
    go_ret
    exact ⟨none, 0, [], rfl, Nat.le_refl _, Rs.nil w, Below.refl _ _⟩
  · have hn : t.none = false := by simpa using hn
    obtain ⟨hh, b, r, l, s, kids, rfl⟩ := Tr.not_none hn
    have HN := Aside0.mk (none_f H hn)
    obtain ⟨a, A, cp, ps, rfl, c0, c1, c2, c3, c4, c5, hcp, _, hr⟩ := H.open_
    have HR := Aside0.mk hr
    have HM : Aside0 (kids.length ≤ 1000000) := ⟨hm⟩
    clear H hn c0 c1 c2 c3 c4 hr hm
    change Calls _ _ _ _ (KidsPost w kids)
    by_cases hk : kids.length = 0
    · have k0 : (kids.length == 0) = true := beq_iff_eq.mpr hk
      have k1 : ((kids.length : Int) == 0) = true := beq_iff_eq.mpr (by omega)
      have e : kids = [] := List.eq_nil_of_length_eq_zero hk
      have E := Aside0.mk e
      clear hk e hcp
      go_enter Try.func28, Try.ntmps28
      go_wp2_with (go_at_call 50; (with_reducible refine HN.out.mono ?_); rintro e w' ⟨rfl, rfl⟩)
      go_ret
      rw [E.out]
      exact ⟨none, 0, [], rfl, Nat.le_refl _, Rs.nil w, Below.refl _ _⟩
    · have k0 : (kids.length == 0) = false := beq_eq_false_iff_ne.mpr hk
      have k1 : ((kids.length : Int) == 0) = false := beq_eq_false_iff_ne.mpr (by omega)
      clear hk hcp
      go_enter Try.func28, Try.ntmps28
      go_wp2_with (first | (go_at_call 50; (with_reducible refine HN.out.mono ?_); rintro e w' ⟨rfl, rfl⟩) | ((with_reducible refine gate_builtin (b := .append) (xs := #[.const (.slice none 0 0), .tmp 16]) rfl ?_); at_builtin; refine Kd.R_append_row (fun p => Value.pointer p) (none : Option Addr) (h1 := fun _ => rfl) (w0 := w) w.heap.size rfl (.const (.slice none 0 0)) (.tmp 16) 35 38 (.pointer none) 8 rfl Try.underlying35 infoP rfl (by decide) (.slice none 0 0) [] ps A kids.length cp (fun k => True) rfl rfl (fun _ _ => trivial) (Kd.R_nil _ _ _ _ _) HR.out.c (Below.refl _ _) (Nat.le_refl _) (by have := HM.out; simp only [List.length_nil]; omega) ?_; intro v1 w1 ho hb hg hat; obtain ⟨A2, cp2, rfl, h2, h3⟩ := Kd.R_reads ho; have HO := Aside0.mk (And.intro h2 h3); have HB := Aside0.mk hb; clear ho hb hg hat h2 h3))
      go_ret
      have hl : ps.length = kids.length := HR.out.c.1
      refine ⟨A2, cp2, ps, ?_, ?_, ⟨?_, rfl, fun j p t hp ht => (HR.out.r j p t hp ht).below HB.out⟩, HB.out⟩
      · rw [← hl]; rfl
      · have := HO.out.1; rw [List.nil_append, hl] at this; exact this
      · have := HO.out.2; rw [List.nil_append, hl] at this; exact this
end Go.Proofs.Ytgkjagfdlhcgjaa.Ka
/- even: are all knots of one height, and none nobody's? -/
namespace Go.Proofs.Ytgkjagfdlhcgjaa.Kb
open Go.RowKit Go.Proofs.Ytgkjagfdlhcgjaa.QK Go.Proofs.Ytgkjagfdlhcgjaa.Kt Go.Proofs.Ytgkjagfdlhcgjaa.Ka Go.Proofs.YtgkjagfdlhcgjaaW.PrintWords Go.Proofs.YtgkjagfdlhcgjaaW.PrintLast Go.Proofs.YtgkjagfdlhcgjaaW.PrintMore
set_option linter.unusedVariables false
set_option linter.unusedSimpArgs false
/-- one knot beside the first one -/
def evenAt (ts : List Tr) (t : Tr) : Bool := !t.none && t.h0 == (rdT ts 0).h0
def evenB (ts : List Tr) : Bool := ts.all (evenAt ts)
theorem even_upto (ts : List Tr) (n : Nat) (h : ∀ i : Nat, i < n → evenAt ts (rdT ts i) = true) (hn : n = ts.length) : evenB ts = true := by
  unfold evenB
  rw [List.all_eq_true]
  intro t ht
  obtain ⟨i, hi, rfl⟩ := List.getElem_of_mem ht
  have := h i (by omega)
  unfold rdT at this
  rw [show ((i : Int)).toNat = i by omega, List.getD_eq_getElem?_getD, List.getElem?_eq_getElem hi] at this
  exact this
theorem even_not (ts : List Tr) (i : Nat) (hi : i < ts.length) (h : evenAt ts (rdT ts i) = false) : evenB ts = false := by
  unfold evenB
  rw [List.all_eq_false]
  refine ⟨ts[i], List.getElem_mem hi, ?_⟩
  unfold rdT at h
  rw [show ((i : Int)).toNat = i by omega, List.getD_eq_getElem?_getD, List.getElem?_eq_getElem hi] at h
  simpa using h
/-- the height's cell of a knot that is not nobody's -/
theorem h_cell {w : World} {p : Option Addr} {t : Tr} (H : Rd w p t) (hn : t.none = false) : ∃ a : Nat, p = some ⟨a, 0, none⟩ ∧ w.cell? ⟨a, 0, none⟩ = some (.int .i64 t.h0) := by
  obtain ⟨hh, b, r, l, s, kids, rfl⟩ := Tr.not_none hn
  obtain ⟨a, A, cp, ps, rfl, c0, _⟩ := H.open_
  exact ⟨a, rfl, c0⟩
theorem none_q {w : World} {p : Option Addr} {t : Tr} {b : Bool} (H : Rd w p t) (h : t.none = b) (n : Nat) : Calls Try.prog 50 #[.pointer p] (w.drewN n) fun e w'' => e = .returned (.bool b) ∧ ∃ m, w'' = w.drewN m :=
  Calls.quiet_of_same (by rw [← h]; exact (none_calls _ p t (H.drewN n)).mono fun e w' ⟨he, hw⟩ => ⟨he, hw.symm⟩)
set_option maxHeartbeats 4000000 in
set_option maxRecDepth 100000 in
theorem even_calls (w : World) (A : Option Addr) (n cp : Nat) (ps : List (Option Addr)) (ts : List Tr) (H : Rs w A n ps ts) :
    Calls Try.prog 48 #[.slice A n cp] w fun e w' => e = .returned (.bool (evenB ts)) ∧ Drawn0 w w' := by
  have hlen := H.len
  have hmax := H.c.2.1
  subst hlen
  have HR := Aside0.mk H
  clear H
  go_enter Try.func48, Try.ntmps48
  go_wp2
  go_loopg [7] (ts.length + 1) (fun kq v7 w' => ∃ x : Int, v7 = .int .i64 x ∧ Aside0 (0 ≤ x ∧ x + kq = ts.length + 1 ∧ 1 ≤ kq) ∧ Aside0 (∀ i : Nat, i < x.toNat → evenAt ts (rdT ts i) = true) ∧ Drawn0 w w')
  case atStart => exact ⟨0, (by first | rfl | (simp; done)), ⟨by omega⟩, ⟨fun i hi => absurd hi (by simp)⟩, Drawn0.refl _⟩
  case round =>
    obtain ⟨x, rfl, HK, HE, HD⟩ := hrel
    have HDA := Aside0.mk HD
    have hbw := HD.below
    clear HD
    obtain ⟨k1, rfl⟩ : ∃ k1, gk = k1 + 1 := ⟨gk - 1, by have := HK.out; omega⟩
    have p0 : 0 ≤ x := HK.out.1
    by_cases cx : x < (ts.length : Int)
    · have cxb : decide (x < (ts.length : Int)) = true := decide_eq_true cx
      obtain ⟨ad0, p, q0, hx0, hp, hr⟩ := HR.out.at_ x p0 cx
      subst q0
      have HQ : Aside0 (0 ≤ x ∧ x < ts.length) := ⟨p0, cx⟩
      have HP := Aside0.mk (Rd.below hr hbw)
      replace hx0 := pw_cell_below hbw hx0
      obtain ⟨i, hi⟩ := Int.eq_ofNat_of_zero_le p0
      have p0c := eq_true p0
      have cxc := eq_true cx
      by_cases hn : (rdT ts x).none = true
      · have HN := Aside0.mk hn
        clear p0 cx hp hr hn hi hbw
        go_wp2
        repeat (go_quiet ((go_at_call 50; exact none_q HP.out HN.out _)); try go_wp2)
        go_ret
        refine ⟨?_, by repeat (first | exact HDA.out | apply Drawn0.step)⟩
        rw [even_not ts x.toNat (by have := HQ.out; omega) (by rw [Int.toNat_of_nonneg HQ.out.1]; unfold evenAt; rw [HN.out]; rfl)]
        rfl
      · have hn : (rdT ts x).none = false := by simpa using hn
        have HN := Aside0.mk hn
        have h0n : (rdT ts 0).none = false := by
          by_cases hi0 : x = 0
          · rw [← hi0]; exact hn
          · have := HE.out 0 (by omega)
            unfold evenAt at this
            rw [Bool.and_eq_true] at this
            simpa using this.1
        obtain ⟨ad1, p1, q1, hx1, _, hr1⟩ := HR.out.at_ 0 (by omega) (by omega)
        obtain rfl : ad0 = ad1 := by injection q1
        obtain ⟨a0, rfl, hc0⟩ := h_cell hr hn
        obtain ⟨a1, rfl, hc1⟩ := h_cell hr1 h0n
        have hx1' : w.cell? ad0 = some (.pointer (some ⟨a1, 0, none⟩)) := by
          have e : ad0.add 0 = ad0 := by simp [Addr.add]
          rw [← e]; exact hx1
        replace hx1' := pw_cell_below hbw hx1'
        replace hc0 := pw_cell_below hbw hc0
        replace hc1 := pw_cell_below hbw hc1
        have z0 : (0 : Int) < (ts.length : Int) := by omega
        have z0b : decide ((0 : Int) < (ts.length : Int)) = true := decide_eq_true z0
        have z0c := eq_true z0
        have z1 : 0 < ts.length := by omega
        have z1c := eq_true z1
        have z0d : decide (0 < ts.length) = true := decide_eq_true (by omega)
        by_cases he : (rdT ts x).h0 = (rdT ts 0).h0
        · have E1 : Aside0 ((rdT ts x).h0 = (rdT ts 0).h0) := ⟨he⟩
          have eb : ((rdT ts x).h0 != (rdT ts 0).h0) = false := bne_eq_false_iff_eq.mpr he
          clear p0 cx hp hr hn hi h0n hr1 q1 he z0 z1 hx1 hbw
          go_wp2
          repeat (go_quiet ((go_at_call 50; exact none_q HP.out HN.out _)); try go_wp2)
          go_roundg k1
          case measure => omega
          case rel =>
            refine ⟨wrap64 (x + 1), (by first | rfl | (simp; done)), ⟨by have := HK.out; have := HQ.out; unfold wrap64; omega⟩, ⟨fun j hj => ?_⟩, by repeat (first | exact HDA.out | apply Drawn0.step)⟩
            by_cases hj2 : j < x.toNat
            · exact HE.out j hj2
            · have hj3 : (j : Int) = x := by have := HQ.out; unfold wrap64 at hj; omega
              rw [hj3]
              unfold evenAt
              rw [HN.out, E1.out]
              simp
        · have E1 : Aside0 (¬ (rdT ts x).h0 = (rdT ts 0).h0) := ⟨he⟩
          have eb : ((rdT ts x).h0 != (rdT ts 0).h0) = true := bne_iff_ne.mpr he
          clear p0 cx hp hr hn hi h0n hr1 q1 he z0 z1 hx1 hbw
          go_wp2
          repeat (go_quiet ((go_at_call 50; exact none_q HP.out HN.out _)); try go_wp2)
          go_ret
          refine ⟨?_, by repeat (first | exact HDA.out | apply Drawn0.step)⟩
          rw [even_not ts x.toNat (by have := HQ.out; omega) (by rw [Int.toNat_of_nonneg HQ.out.1]; unfold evenAt; rw [HN.out, beq_eq_false_iff_ne.mpr E1.out]; rfl)]
          rfl
    · have cxb : decide (x < (ts.length : Int)) = false := decide_eq_false cx
      have E := Aside0.mk (even_upto ts x.toNat HE.out (by have := HK.out; omega))
      clear p0 cx hbw
      go_wp2
      go_ret
      refine ⟨?_, by repeat (first | exact HDA.out | apply Drawn0.step)⟩
      rw [E.out]
      rfl
end Go.Proofs.Ytgkjagfdlhcgjaa.Kb
