import Derived.Test.YtgkjagfdlhcgjaaKc
import Derived.Test.YtgkjagfdlhcgjaaShelf
/- Text, First, Last. -/
namespace Go.Proofs.Ytgkjagfdlhcgjaa.Kh
open Go.RowKit Go.Proofs.Ytgkjagfdlhcgjaa.QK Go.Proofs.Ytgkjagfdlhcgjaa.Kt Go.Proofs.Ytgkjagfdlhcgjaa.Ka Go.Proofs.Ytgkjagfdlhcgjaa.Kb Go.Proofs.Ytgkjagfdlhcgjaa.Kc Go.Proofs.YtgkjagfdlhcgjaaW.PrintWords Go.Proofs.YtgkjagfdlhcgjaaW.PrintLast Go.Proofs.YtgkjagfdlhcgjaaW.PrintMore
set_option linter.unusedVariables false
set_option linter.unusedSimpArgs false
/-- texts, one behind the other -/
def cat (l : List ByteArray) : ByteArray := ⟨((l.map (·.data.toList)).flatten).toArray⟩
theorem join_flat (xs : List (List UInt8)) : Lib.join xs [] = xs.flatten := by
  cases xs with
  | nil => rfl
  | cons x r =>
    rw [Lib.join_cons]
    unfold Lib.joinTail
    simp
theorem cat_nil : cat [] = ⟨#[]⟩ := rfl
theorem text_calls (w : World) (p : Option Addr) (t : Tr) (H : Rd w p t) (hm : (chunks t).length ≤ 1000000) (hs : (cat (chunks t)).size ≤ 140737488355328) :
    Calls Try.prog 29 #[.pointer p] w fun e w' => e = .returned (.string (cat (chunks t))) ∧ Below w.heap.size w w' := by
  have HG := Aside0.mk (chunks_calls w p t H hm)
  have HM : Aside0 ((chunks t).length ≤ 1000000 ∧ (cat (chunks t)).size ≤ 140737488355328) := ⟨hm, hs⟩
  have HJ : Aside0 (∀ (W : World) (A : Option Addr) (cp : Nat), Kd.R Kd.string 9 W w.heap.size (fun _ => True) (.slice A (chunks t).length cp) (chunks t) → Calls Try.prog 52 #[.slice A (chunks t).length cp, .string ⟨#[]⟩] W fun e w' => e = .returned (.string (cat (chunks t))) ∧ Below W.heap.size W w') := by
    refine ⟨fun W A cp hR => ?_⟩
    by_cases h0 : (chunks t).length = 0
    · have e : chunks t = [] := List.eq_nil_of_length_eq_zero h0
      rw [h0, e, cat_nil]
      exact (Try.strings_Join_none A cp ⟨#[]⟩ W).mono fun e w' ⟨h1, h2⟩ => ⟨h1, by rw [h2]; exact Below.refl _ _⟩
    · obtain ⟨g, cap, he, _, hlt, _⟩ := Kd.R_form hR (by omega)
      injection he with e1 _ e3
      subst e1
      obtain ⟨_, hcp, hC⟩ := Kd.R_reads' hR
      have h := Try.strings_Join g 0 cp (chunks t) ⟨#[]⟩ W (fun j x hj => by
        have hjl := (List.getElem?_eq_some_iff.1 hj).1
        obtain ⟨ad, q, hx⟩ := Kd.at_string hC (j : Int) (by omega) (by omega)
        injection q with q
        subst q
        rw [Int.toNat_natCast, add_plain] at hx
        rw [Nat.zero_add, hx]
        unfold rdOf
        rw [Int.toNat_natCast, List.getD_eq_getElem?_getD, hj]; rfl) hlt (by omega) hcp (by
          show (Lib.join ((chunks t).map (·.data.toList)) []).length ≤ _
          rw [join_flat]
          have := hs
          unfold cat at this
          simpa [ByteArray.size] using this)
      refine h.mono fun e w' ⟨h1, h2⟩ => ⟨?_, h2⟩
      rw [h1]
      show Ending.returned (Value.string ⟨(Lib.join ((chunks t).map (·.data.toList)) []).toArray⟩) = _
      rw [join_flat]
      rfl
  clear H hm hs
  go_enter Try.func29, Try.ntmps29
  go_wp2_with (first | (go_at_call 34; (with_reducible refine HG.out.mono ?_); rintro e w3 ⟨A4, cp4, rfl, ho, hb⟩; have HJ2 := Aside0.mk (HJ.out _ _ _ ho); have HB4 := Aside0.mk hb; clear ho hb HG) | (go_at_call 52; (with_reducible refine HJ2.out.mono ?_); rintro e w4 ⟨rfl, hb⟩; have HB5 := Aside0.mk (below_step HB4.out hb); clear hb))
  go_ret
  exact ⟨rfl, HB5.out⟩
mutual
def first : Tr → ByteArray
  | .nil => ⟨#[]⟩
  | .node _ _ _ _ s [] => s
  | .node _ _ _ _ _ (k :: ks) => firstL (k :: ks)
def firstL : List Tr → ByteArray
  | [] => ⟨#[]⟩
  | k :: _ => first k
end
mutual
def last : Tr → ByteArray
  | .nil => ⟨#[]⟩
  | .node _ _ _ _ s [] => s
  | .node _ _ _ _ _ (k :: ks) => lastL (k :: ks)
def lastL : List Tr → ByteArray
  | [] => ⟨#[]⟩
  | [k] => last k
  | _ :: k :: ks => lastL (k :: ks)
end
theorem lastL_eq (l : List Tr) (h : l.length ≠ 0) : lastL l = last (rdT l ((l.length : Int) - 1)) := by
  induction l with
  | nil => exact absurd rfl h
  | cons k ks ih =>
    cases ks with
    | nil => rw [lastL]; rfl
    | cons k2 ks =>
      rw [lastL, ih (by simp)]
      unfold rdT
      rw [show (((k2 :: ks).length : Int) - 1).toNat = ks.length by simp, show (((k :: k2 :: ks).length : Int) - 1).toNat = ks.length + 1 by simp]
      rfl
theorem first_kids {h b r l : Int} {s : ByteArray} {kids : List Tr} (hk : kids.length ≠ 0) : first (.node h b r l s kids) = first (rdT kids 0) := by
  cases kids with
  | nil => exact absurd rfl hk
  | cons k ks => rw [first, firstL]; rfl
theorem last_kids {h b r l : Int} {s : ByteArray} {kids : List Tr} (hk : kids.length ≠ 0) : last (.node h b r l s kids) = last (rdT kids ((kids.length : Int) - 1)) := by
  rw [← lastL_eq kids hk]
  cases kids with
  | nil => exact absurd rfl hk
  | cons k ks => rw [last]
theorem none_ends {t : Tr} (h : t.none = true) : first t = ⟨#[]⟩ ∧ last t = ⟨#[]⟩ := by
  cases t with
  | nil => rw [first, last]; exact ⟨rfl, rfl⟩
  | node hh b r l s kids =>
    have h' : ((s.toList == []) && (kids.length == 0)) = true := h
    rw [Bool.and_eq_true] at h'
    obtain rfl := List.eq_nil_of_length_eq_zero (beq_iff_eq.mp h'.2)
    rw [first, last]
    have e : s = ⟨#[]⟩ := by
      have h1 : s.toList = [] := beq_iff_eq.mp h'.1
      apply ByteArray.ext
      apply Array.toList_inj.mp
      rw [← Lib.toList_data, h1]
    exact ⟨e, e⟩
set_option maxHeartbeats 4000000 in
theorem first_calls (w : World) (p : Option Addr) (t : Tr) (H : Rd w p t) : Calls Try.prog 35 #[.pointer p] w fun e w' => e = .returned (.string (first t)) ∧ Drawn0 w w' := by
  have HD := Aside0.mk H
  clear H
  go_enter Try.func35, Try.ntmps35
  go_wp2
  go_loopg [0] (SizeOf.sizeOf t + 1) (fun kq v0 w' => ∃ (q : Option Addr) (u : Tr), v0 = .pointer q ∧ Aside0 (Rd w q u ∧ first u = first t ∧ SizeOf.sizeOf u + 1 ≤ kq) ∧ Drawn0 w w')
  case atStart => exact ⟨p, t, rfl, ⟨HD.out, rfl, Nat.le_refl _⟩, Drawn0.refl _⟩
  case round =>
    obtain ⟨q, u, rfl, HK, HDr⟩ := hrel
    obtain ⟨k1, rfl⟩ : ∃ k1, gk = k1 + 1 := ⟨gk - 1, by have := HK.out.2.2; omega⟩
    have HX := Aside0.mk HDr
    have hbw := HDr.below
    have hrd := HK.out.1.below hbw
    clear HDr
    by_cases hn : u.none = true
    · have HN := Aside0.mk (none_t hrd hn)
      have hz := HK.out.2.1
      rw [(none_ends hn).1] at hz
      have HZ := Aside0.mk hz
      clear hn hz hrd hbw
      go_wp2_with (go_at_call 50; (with_reducible refine HN.out.mono ?_); rintro e w' ⟨rfl, rfl⟩)
      go_ret
      rw [← HZ.out]
      exact ⟨rfl, HX.out⟩
    have hn : u.none = false := by simpa using hn
    have HN := Aside0.mk (none_f hrd hn)
    obtain ⟨hh, b, r, lc, s, kids, rfl⟩ := Tr.not_none hn
    obtain ⟨a, A2, cp2, ps, rfl, c0, c1, c2, c3, c4, c5, hcp, _, hr⟩ := hrd.open_
    obtain ⟨a_, A_, cp_, ps_, e1, _, _, _, _, _, c5_, _, _, hr0⟩ := HK.out.1.open_
    obtain rfl : a = a_ := by injection e1 with e1; injection e1
    have c5w := pw_cell_below hbw c5_
    rw [c5] at c5w
    injection c5w with c5w
    injection c5w with e2 _ e3
    subst e2
    clear c0 c1 c2 c3 c5_ e1 hn hcp hr
    by_cases hk : kids.length = 0
    · have k0 : decide (0 < kids.length) = false := decide_eq_false (by omega)
      have k1' : decide (0 < (kids.length : Int)) = false := decide_eq_false (by omega)
      obtain rfl := List.eq_nil_of_length_eq_zero hk
      have hz := HK.out.2.1
      rw [first] at hz
      have HZ := Aside0.mk hz
      have c5' : wr.cell? ⟨a, 5, none⟩ = some (.slice A2 0 cp2) := c5
      clear hk hz hrd hbw hr0 c5
      go_wp2_with (go_at_call 50; (with_reducible refine HN.out.mono ?_); rintro e w' ⟨rfl, rfl⟩)
      go_ret
      rw [← HZ.out]
      exact ⟨rfl, HX.out⟩
    · have k0 : decide (0 < kids.length) = true := decide_eq_true (by omega)
      have k1' : decide (0 < (kids.length : Int)) = true := decide_eq_true (by omega)
      obtain ⟨ad0, p1, q0, hx0, hp0, hr1⟩ := hr0.at_ 0 (by omega) (by omega)
      subst q0
      have hx0' : wr.cell? ad0 = some (.pointer p1) := by
        have e : ad0.add 0 = ad0 := by simp [Addr.add]
        rw [← e]; exact pw_cell_below hbw hx0
      have HY : Aside0 (Rd w p1 (rdT kids 0) ∧ first (rdT kids 0) = first t ∧ SizeOf.sizeOf (rdT kids 0) + 1 ≤ k1) := ⟨hr1, by rw [← HK.out.2.1, first_kids hk], by have := HK.out.2.2; have := size_kid (h := hh) (b := b) (r := r) (l := lc) (s := s) (rdT_mem kids 0 (Int.le_refl 0) (by omega)); omega⟩
      have z1 : 0 < kids.length := by omega
      have z1c := eq_true z1
      clear hk hrd hbw hr0 hr1 hx0 hp0 z1
      go_wp2_with (go_at_call 50; (with_reducible refine HN.out.mono ?_); rintro e w' ⟨rfl, rfl⟩)
      go_roundg k1
      case measure => omega
      case rel => exact ⟨p1, rdT kids 0, (by first | rfl | (simp; done)), HY, HX.out⟩
set_option maxHeartbeats 4000000 in
theorem last_calls (w : World) (p : Option Addr) (t : Tr) (H : Rd w p t) : Calls Try.prog 40 #[.pointer p] w fun e w' => e = .returned (.string (last t)) ∧ Drawn0 w w' := by
  have HD := Aside0.mk H
  clear H
  go_enter Try.func40, Try.ntmps40
  go_wp2
  go_loopg [0] (SizeOf.sizeOf t + 1) (fun kq v0 w' => ∃ (q : Option Addr) (u : Tr), v0 = .pointer q ∧ Aside0 (Rd w q u ∧ last u = last t ∧ SizeOf.sizeOf u + 1 ≤ kq) ∧ Drawn0 w w')
  case atStart => exact ⟨p, t, rfl, ⟨HD.out, rfl, Nat.le_refl _⟩, Drawn0.refl _⟩
  case round =>
    obtain ⟨q, u, rfl, HK, HDr⟩ := hrel
    obtain ⟨k1, rfl⟩ : ∃ k1, gk = k1 + 1 := ⟨gk - 1, by have := HK.out.2.2; omega⟩
    have HX := Aside0.mk HDr
    have hbw := HDr.below
    have hrd := HK.out.1.below hbw
    clear HDr
    by_cases hn : u.none = true
    · have HN := Aside0.mk (none_t hrd hn)
      have hz := HK.out.2.1
      rw [(none_ends hn).2] at hz
      have HZ := Aside0.mk hz
      clear hn hz hrd hbw
      go_wp2_with (go_at_call 50; (with_reducible refine HN.out.mono ?_); rintro e w' ⟨rfl, rfl⟩)
      go_ret
      rw [← HZ.out]
      exact ⟨rfl, HX.out⟩
    have hn : u.none = false := by simpa using hn
    have HN := Aside0.mk (none_f hrd hn)
    obtain ⟨hh, b, r, lc, s, kids, rfl⟩ := Tr.not_none hn
    obtain ⟨a, A2, cp2, ps, rfl, c0, c1, c2, c3, c4, c5, hcp, _, hr⟩ := hrd.open_
    obtain ⟨a_, A_, cp_, ps_, e1, _, _, _, _, _, c5_, _, _, hr0⟩ := HK.out.1.open_
    obtain rfl : a = a_ := by injection e1 with e1; injection e1
    have c5w := pw_cell_below hbw c5_
    rw [c5] at c5w
    injection c5w with c5w
    injection c5w with e2 _ e3
    subst e2
    clear c0 c1 c2 c3 c5_ e1 hn hcp hr
    by_cases hk : kids.length = 0
    · have k0 : decide (0 < kids.length) = false := decide_eq_false (by omega)
      have k1' : decide (0 < (kids.length : Int)) = false := decide_eq_false (by omega)
      obtain rfl := List.eq_nil_of_length_eq_zero hk
      have hz := HK.out.2.1
      rw [last] at hz
      have HZ := Aside0.mk hz
      have c5' : wr.cell? ⟨a, 5, none⟩ = some (.slice A2 0 cp2) := c5
      clear hk hz hrd hbw hr0 c5
      go_wp2_with (go_at_call 50; (with_reducible refine HN.out.mono ?_); rintro e w' ⟨rfl, rfl⟩)
      go_ret
      rw [← HZ.out]
      exact ⟨rfl, HX.out⟩
    · have k0 : decide (0 < kids.length) = true := decide_eq_true (by omega)
      have k1' : decide (0 < (kids.length : Int)) = true := decide_eq_true (by omega)
      have hlm := hr0.c.2.1
      obtain ⟨m, hm⟩ : ∃ m : Int, (kids.length : Int) - 1 = m := ⟨_, rfl⟩
      have hw1 : wrap64 ((kids.length : Int) - 1) = m := by rw [← hm]; unfold wrap64; omega
      have hw2 : IntKind.i64.wrap ((kids.length : Int) - 1) = m := (i64_w _).trans hw1
      obtain ⟨ad0, p1, q0, hx0, hp0, hr1⟩ := hr0.at_ m (by omega) (by omega)
      subst q0
      have hx0' := pw_cell_below hbw hx0
      have HY : Aside0 (Rd w p1 (rdT kids ((kids.length : Int) - 1)) ∧ last (rdT kids ((kids.length : Int) - 1)) = last t ∧ SizeOf.sizeOf (rdT kids ((kids.length : Int) - 1)) + 1 ≤ k1) := ⟨by rw [hm]; exact hr1, by rw [← HK.out.2.1, last_kids hk], by have := HK.out.2.2; have := size_kid (h := hh) (b := b) (r := r) (l := lc) (s := s) (rdT_mem kids ((kids.length : Int) - 1) (by omega) (by omega)); omega⟩
      have z1c := eq_true (show 0 ≤ m by omega)
      have z2c := eq_true (show m < (kids.length : Int) by omega)
      have z3c := eq_true (show 1 ≤ kids.length by omega)
      clear hk hrd hbw hr0 hr1 hx0 hp0 hm hlm
      go_wp2_with (go_at_call 50; (with_reducible refine HN.out.mono ?_); rintro e w' ⟨rfl, rfl⟩)
      go_quiet (fail)
      go_wp2
      go_roundg k1
      case measure => omega
      case rel => exact ⟨p1, rdT kids ((kids.length : Int) - 1), (by first | rfl | (simp; done)), HY, by repeat (first | exact HX.out | apply Drawn0.step)⟩
end Go.Proofs.Ytgkjagfdlhcgjaa.Kh
