import Derived.Test.YtgkjagfdlhcgjaaKa
/- gather, Chunks, First, Last. -/
namespace Go.Proofs.Ytgkjagfdlhcgjaa.Kc
open Go.RowKit Go.Proofs.Ytgkjagfdlhcgjaa.QK Go.Proofs.Ytgkjagfdlhcgjaa.Kt Go.Proofs.Ytgkjagfdlhcgjaa.Ka Go.Proofs.Ytgkjagfdlhcgjaa.Kb Go.Proofs.YtgkjagfdlhcgjaaW.PrintWords Go.Proofs.YtgkjagfdlhcgjaaW.PrintLast Go.Proofs.YtgkjagfdlhcgjaaW.PrintMore
set_option linter.unusedVariables false
set_option linter.unusedSimpArgs false
mutual
/-- all chunks, from the left -/
def chunks : Tr → List ByteArray
  | .nil => []
  | .node _ _ _ _ s [] => if s.toList = [] then [] else [s]
  | .node _ _ _ _ _ (k :: ks) => chunksL (k :: ks)
def chunksL : List Tr → List ByteArray
  | [] => []
  | t :: ts => chunks t ++ chunksL ts
end
theorem chunksL_eq (l : List Tr) : chunksL l = (l.map chunks).flatten := by
  induction l with
  | nil => rw [chunksL]; rfl
  | cons t ts ih => rw [chunksL, ih]; rfl
theorem chunksL_next (l : List Tr) (i : Nat) (h : i < l.length) : chunksL (l.take (i + 1)) = chunksL (l.take i) ++ chunks (rdT l i) := by
  rw [List.take_succ_eq_append_getElem h, chunksL_eq, chunksL_eq, List.map_append, List.flatten_append]
  congr 1
  unfold rdT
  rw [show ((i : Int)).toNat = i by omega, List.getD_eq_getElem?_getD, List.getElem?_eq_getElem h]
  simp
theorem chunksL_take_le (l : List Tr) (i : Nat) : (chunksL (l.take i)).length ≤ (chunksL l).length := by
  conv => rhs; rw [← List.take_append_drop i l, chunksL_eq, List.map_append, List.flatten_append, List.length_append]
  rw [chunksL_eq]; omega
theorem chunks_kids {h b r l : Int} {s : ByteArray} {kids : List Tr} (hk : kids.length ≠ 0) : chunks (.node h b r l s kids) = chunksL kids := by
  cases kids with
  | nil => exact absurd rfl hk
  | cons k ks => rw [chunks]
theorem chunks_none {t : Tr} (h : t.none = true) : chunks t = [] := by
  cases t with
  | nil => rw [chunks]
  | node hh b r l s kids =>
    have h' : ((s.toList == []) && (kids.length == 0)) = true := h
    rw [Bool.and_eq_true] at h'
    obtain rfl := List.eq_nil_of_length_eq_zero (beq_iff_eq.mp h'.2)
    rw [chunks, if_pos (beq_iff_eq.mp h'.1)]
theorem chunks_leaf {h b r l : Int} {s : ByteArray} {kids : List Tr} (hn : (Tr.node h b r l s kids).none = false) (hk : kids.length = 0) : chunks (.node h b r l s kids) = [s] := by
  obtain rfl := List.eq_nil_of_length_eq_zero hk
  have h' : ((s.toList == []) && (([] : List Tr).length == 0)) = false := hn
  have h2 : ¬ s.toList = [] := by
    intro e; rw [e] at h'; exact absurd h' (by decide)
  rw [chunks, if_neg h2]
theorem size_kid {h b r l : Int} {s : ByteArray} {kids : List Tr} {k : Tr} (hk : k ∈ kids) : SizeOf.sizeOf k < SizeOf.sizeOf (Tr.node h b r l s kids) := by
  have := List.sizeOf_lt_of_mem hk
  simp only [Tr.node.sizeOf_spec]
  omega
theorem rdT_mem (ts : List Tr) (i : Int) (h0 : 0 ≤ i) (h : i < ts.length) : rdT ts i ∈ ts := by
  unfold rdT
  rw [List.getD_eq_getElem?_getD, List.getElem?_eq_getElem (by omega)]
  exact List.getElem_mem _
theorem infoS : (Try.prog.info? 9).map (fun i => (i.zero, i.size, i.bytes)) = some (some (.string ⟨#[]⟩), 1, 16) := by kernel_rfl
/-- what gather leaves -/
def GPost (w0 : World) (l : List ByteArray) (e : Ending) (w' : World) : Prop := ∃ A cp, e = .returned (.slice A l.length cp) ∧ Kd.R Kd.string 9 w' w0.heap.size (fun _ => True) (.slice A l.length cp) l ∧ Below w0.heap.size w0 w'
theorem R_at {w : World} {base A n cp : Nat} {l : List ByteArray} : True := trivial
set_option maxHeartbeats 8000000 in
set_option maxRecDepth 100000 in
theorem gather_calls (n : Nat) : ∀ (t : Tr), SizeOf.sizeOf t < n → ∀ (w0 W : World) (p : Option Addr) (A : Option Addr) (cp : Nat) (l : List ByteArray), Rd w0 p t → Below w0.heap.size w0 W → Kd.R Kd.string 9 W w0.heap.size (fun _ => True) (.slice A l.length cp) l → l.length + (chunks t).length ≤ 1000000 →
    Calls Try.prog 54 #[.pointer p, .slice A l.length cp] W (GPost w0 (l ++ chunks t)) := by
  induction n with
  | zero => intro t ht; omega
  | succ n ih =>
    intro t ht w0 W p A cp l H hB hR hm
    by_cases hn : t.none = true
    · have HN := Aside0.mk (none_t (H.below hB) hn)
      have HB := Aside0.mk hB
      have HR := Aside0.mk hR
      rw [chunks_none hn, List.append_nil]
      clear H hn hm hB hR ih ht
      go_enter Try.func54, Try.ntmps54
      go_wp2_with (go_at_call 50; (with_reducible refine HN.out.mono ?_); rintro e w' ⟨rfl, rfl⟩)
      go_ret
      exact ⟨A, cp, rfl, HR.out, HB.out⟩
    have hn : t.none = false := by simpa using hn
    obtain ⟨hh, b, r, lc, s, kids, rfl⟩ := Tr.not_none hn
    have HN := Aside0.mk (none_f (H.below hB) hn)
    obtain ⟨a, A2, cp2, ps, rfl, c0, c1, c2, c3, c4, c5, hcp, _, hr⟩ := H.open_
    have HC4 := Aside0.mk c4
    have HC5 := Aside0.mk c5
    replace c4 := (hB.cell (World.block_lt_of_cell? w0 _ c4)).trans c4
    replace c5 := (hB.cell (World.block_lt_of_cell? w0 _ c5)).trans c5
    have HB := Aside0.mk hB
    have HR := Aside0.mk hR
    have HK := Aside0.mk hr
    have IH := Aside0.mk ih
    have HT : Aside0 (∀ k, k ∈ kids → SizeOf.sizeOf k < n) := ⟨fun k hk => by have := size_kid (h := hh) (b := b) (r := r) (l := lc) (s := s) hk; omega⟩
    clear H c0 c1 c2 c3 hB hR hr ih ht hcp
    by_cases hk : kids.length = 0
    · have k0 : (kids.length == 0) = true := beq_iff_eq.mpr hk
      have k1 : ((kids.length : Int) == 0) = true := beq_iff_eq.mpr (by omega)
      rw [chunks_leaf hn hk] at hm ⊢
      have HM := Aside0.mk hm
      clear hk hn hm
      go_enter Try.func54, Try.ntmps54
      go_wp2_with (first | (go_at_call 50; (with_reducible refine HN.out.mono ?_); rintro e w' ⟨rfl, rfl⟩) | ((with_reducible refine gate_builtin (b := .append) (xs := #[.tmp 16, .tmp 21]) rfl ?_); at_builtin; refine Kd.R_append Kd.string (w0 := w0) w0.heap.size rfl (.tmp 16) (.tmp 21) 26 9 (.string ⟨#[]⟩) 16 rfl Try.underlying26 infoS rfl (by decide) (by omega) (.slice A l.length cp) l s [.string s] (fun _ => True) (fun _ => False) rfl rfl ?aP (fun _ hk => hk.elim) (fun _ _ => trivial) HR.out HB.out HB.out.size (by have := HM.out; simp only [List.length_cons, List.length_nil] at this; omega) ?_; (case aP => exact rfl); intro v2 w3 ho hb hgr hat; obtain ⟨A3, cp3, rfl⟩ := Kd.R_slice ho; have HO := Aside0.mk ho; have HB2 := Aside0.mk hb; clear ho hb hgr hat))
      go_ret
      exact ⟨A3, cp3, by rw [show (l ++ [s]).length = l.length + 1 by simp]; rfl, HO.out, HB2.out⟩
    · have k0 : (kids.length == 0) = false := beq_eq_false_iff_ne.mpr hk
      have k1 : ((kids.length : Int) == 0) = false := beq_eq_false_iff_ne.mpr (by omega)
      rw [chunks_kids hk] at hm ⊢
      have HM := Aside0.mk hm
      clear hk hn hm
      go_enter Try.func54, Try.ntmps54
      go_wp2_with (first | (go_at_call 50; (with_reducible refine HN.out.mono ?_); rintro e w' ⟨rfl, rfl⟩))
      go_loopg [1, 28] (kids.length + 1) (fun kq v1 v28 w' => ∃ (x : Int) (A3 : Option Addr) (cp3 : Nat) (l3 : List ByteArray), v28 = .int .i64 x ∧ v1 = .slice A3 l3.length cp3 ∧ Aside0 (0 ≤ x ∧ x + kq = kids.length + 1 ∧ 1 ≤ kq ∧ kids.length ≤ 9223372036854775807) ∧ Aside0 (l3 = l ++ chunksL (kids.take x.toNat)) ∧ Aside0 (Kd.R Kd.string 9 w' w0.heap.size (fun _ => True) (.slice A3 l3.length cp3) l3) ∧ Aside0 (Below w0.heap.size w0 w'))
      case atStart => exact ⟨0, A, cp, l, (by first | rfl | (simp; done)), rfl, ⟨by have := HK.out.c.2.1; omega⟩, ⟨by rw [show (0 : Int).toNat = 0 from rfl, List.take_zero, chunksL, List.append_nil]⟩, HR, HB⟩
      case round =>
        clear HR HB
        obtain ⟨x, A3, cp3, l3, rfl, rfl, HQ, HL, HR, HB⟩ := hrel
        obtain ⟨k2, rfl⟩ : ∃ k2, gk = k2 + 1 := ⟨gk - 1, by have := HQ.out; omega⟩
        have p0 : 0 ≤ x := HQ.out.1
        by_cases cx : x < (kids.length : Int)
        · have cxb : decide (x < (kids.length : Int)) = true := decide_eq_true cx
          obtain ⟨ad0, q, q0, hx0, hp, hr⟩ := HK.out.at_ x p0 cx
          subst q0
          replace hx0 := (HB.out.cell (World.block_lt_of_cell? w0 _ hx0)).trans hx0
          have HP : Aside0 (0 ≤ x ∧ x < kids.length) := ⟨p0, cx⟩
          have HX := Aside0.mk (chunksL_next kids x.toNat (by omega))
          have HY := Aside0.mk (chunksL_take_le kids (x.toNat + 1))
          have HG := Aside0.mk (IH.out (rdT kids x) (HT.out _ (rdT_mem kids x p0 cx)) w0 _ q A3 cp3 l3 hr HB.out HR.out (by
            have h1 := HX.out
            have h2 := HY.out
            rw [h1, List.length_append] at h2
            rw [show ((x.toNat : Int)) = x by omega] at h2
            have h3 := HM.out
            rw [HL.out, List.length_append]
            omega))
          have p0c := eq_true p0
          have cxc := eq_true cx
          clear p0 cx hp hr
          go_wp2_with (go_at_call 54; (with_reducible refine HG.out.mono ?_); rintro e w3 ⟨A4, cp4, rfl, ho, hb⟩; obtain ⟨l4, hl4⟩ : ∃ l4, l3 ++ chunks (rdT kids x) = l4 := ⟨_, rfl⟩; rw [hl4] at ho ⊢; have HL4 := Aside0.mk hl4; have HR4 := Aside0.mk ho; have HB4 := Aside0.mk hb; clear hl4 ho hb HG)
          go_roundg k2
          case measure => omega
          case rel =>
            refine ⟨wrap64 (x + 1), A4, cp4, l4, (by first | rfl | (simp; done)), rfl, ⟨by have := HQ.out; have := HP.out; unfold wrap64; omega⟩, ⟨?_⟩, HR4, HB4⟩
            rw [← HL4.out, HL.out, show (wrap64 (x + 1)).toNat = x.toNat + 1 by have := HQ.out; have := HP.out; unfold wrap64; omega, HX.out, List.append_assoc, show ((x.toNat : Int)) = x by have := HP.out; omega]
        · have cxb : decide (x < (kids.length : Int)) = false := decide_eq_false cx
          have e := HL.out
          rw [List.take_of_length_le (by omega)] at e
          have HE := Aside0.mk e
          clear p0 cx e
          go_wp2
          go_ret
          rw [← HE.out]
          exact ⟨A3, cp3, rfl, HR.out, HB.out⟩
theorem chunks_calls (w : World) (p : Option Addr) (t : Tr) (H : Rd w p t) (hm : (chunks t).length ≤ 1000000) : Calls Try.prog 34 #[.pointer p] w (GPost w (chunks t)) := by
  have hg := gather_calls (SizeOf.sizeOf t + 1) t (by omega) w w p none 0 [] H (Below.refl _ _) (Kd.R_nil _ _ _ _ _) (by simpa using hm)
  rw [List.nil_append] at hg
  have HG : Aside0 (Calls Try.prog 54 #[.pointer p, .slice none 0 0] w (GPost w (chunks t))) := ⟨hg⟩
  clear hg
  clear H hm
  go_enter Try.func34, Try.ntmps34
  go_wp2_with (go_at_call 54; (with_reducible refine HG.out.mono ?_); rintro e w3 ⟨A4, cp4, rfl, ho, hb⟩; have HR4 := Aside0.mk ho; have HB4 := Aside0.mk hb; clear ho hb HG)
  go_ret
  exact ⟨A4, cp4, rfl, HR4.out, HB4.out⟩
end Go.Proofs.Ytgkjagfdlhcgjaa.Kc
