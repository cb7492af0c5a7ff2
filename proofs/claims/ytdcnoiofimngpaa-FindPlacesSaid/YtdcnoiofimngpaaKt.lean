import Derived.Test.YtdcnoiofimngpaaWMore
import Derived.Test.YtdcnoiofimngpaaSa
import Derived.Test.YtdcnoiofimngpaaQKx
import Derived.Deep.QuietTactic
import Derived.BigQuiet
import Derived.Deep.LoopGhost
import Derived.Deep.RegionHeld3
/- Trees behind pointers: a knot as plain data, and what it is in memory. -/
namespace Go.Proofs.Ytdcnoiofimngpaa.Kt
open Go.RowKit Go.Proofs.YtdcnoiofimngpaaW.PrintWords Go.Proofs.YtdcnoiofimngpaaW.PrintLast Go.Proofs.YtdcnoiofimngpaaW.PrintMore
set_option linter.unusedVariables false
/-- a pointer as an element -/
def kPtr : Kd (Option Addr) := Kd.scalar (fun p => .pointer p) (fun _ => rfl)
theorem at_ptr {w : World} {A : Option Addr} {n : Nat} {xs : List (Option Addr)} (h : kPtr.C w A n xs) (i : Int) (h0 : 0 ≤ i) (h1 : i < n) : ∃ ad, A = some ad ∧ w.cell? (ad.add i.toNat) = some (.pointer (rdOf none xs i)) :=
  ReadsOf.at_ (Kd.reads_of_C (enc := fun p => Value.pointer p) (d := (none : Option Addr)) (h1 := fun _ => rfl) h) i h0 h1
/-- a knot: its height, its count (bytes, runes, lines), its text, its kids -/
inductive Tr where
  | nil : Tr
  | node (h b r l : Int) (s : ByteArray) (kids : List Tr) : Tr
/-- what a knot is in memory; its blocks are 'ok' -/
inductive Rp (w : World) (ok : Nat → Prop) : Option Addr → Tr → Prop
  | nil : Rp w ok none .nil
  | node (a : Nat) (h b r l : Int) (s : ByteArray) (kids : List Tr) (A : Option Addr) (cp : Nat) (ps : List (Option Addr))
      (hok : ok a)
      (hh : w.heap[a]? = some (.cells #[.int .i64 h, .int .i64 b, .int .i64 r, .int .i64 l, .string s, .slice A kids.length cp] 129 (0, 0)))
      (hl : ps.length = kids.length)
      (hR : kPtr.R 73 w 0 ok (.slice A kids.length cp) ps)
      (hk : ∀ (j : Nat) (p : Option Addr) (t : Tr), ps[j]? = some p → kids[j]? = some t → Rp w ok p t) : Rp w ok (some ⟨a, 0, none⟩) (.node h b r l s kids)
section
variable {w w1 : World} {ok ok' : Nat → Prop} {p : Option Addr} {t : Tr}
theorem Rp.mono (h : Rp w ok p t) (hm : ∀ k, ok k → ok' k) : Rp w ok' p t := by
  induction h with
  | nil => exact .nil
  | node a h b r l s kids A cp ps hok hh hl hR hk ih => exact .node a h b r l s kids A cp ps (hm a hok) hh hl (Kd.R_mono hR hm) ih
theorem Rp.step (h : Rp w ok p t) (hm : ∀ k, ok k → k < w.heap.size → w1.heap[k]? = w.heap[k]?) : Rp w1 ok p t := by
  induction h with
  | nil => exact .nil
  | node a h b r l s kids A cp ps hok hh hl hR hk ih => exact .node a h b r l s kids A cp ps hok ((hm a hok (blk_lt hh)).trans hh) hl (Kd.R_step hR hm) ih
theorem Rp.bound (h : Rp w ok p t) : Rp w (fun k => ok k ∧ k < w.heap.size) p t := by
  induction h with
  | nil => exact .nil
  | node a h b r l s kids A cp ps hok hh hl hR hk ih =>
    exact .node a h b r l s kids A cp ps ⟨hok, blk_lt hh⟩ hh hl (Kd.R_mono (Kd.R_bound hR) (fun k hk => ⟨hk.1, hk.2.2.1⟩)) ih
theorem Rp.later (h : Rp w ok p t) (hb : Below w.heap.size w w1) : Rp w1 ok p t := h.step fun k _ hk => hb.block k hk
end
/-- a knot that is read -/
def Rd (w : World) (p : Option Addr) (t : Tr) : Prop := Rp w (fun k => k < w.heap.size) p t
theorem Rp.rd {w : World} {ok : Nat → Prop} {p : Option Addr} {t : Tr} (h : Rp w ok p t) : Rd w p t := h.bound.mono fun _ h => h.2
theorem Rd.below {w w1 : World} {p : Option Addr} {t : Tr} (h : Rd w p t) (hb : Below w.heap.size w w1) : Rd w1 p t := (Rp.later h hb).rd
theorem Rd.drewN {w : World} {p : Option Addr} {t : Tr} (h : Rd w p t) (n : Nat) : Rd (w.drewN n) p t := h.below (pw_below_drewN (Below.refl _ _) n)
/-! ### what is said of a knot in plain words -/
def Tr.kids : Tr → List Tr
  | .nil => []
  | .node _ _ _ _ _ ks => ks
def Tr.none : Tr → Bool
  | .nil => true
  | .node _ _ _ _ s ks => (s.toList == []) && (ks.length == 0)
def Tr.h0 : Tr → Int
  | .nil => 0
  | .node h _ _ _ _ _ => h
def Tr.height (t : Tr) : Int := if t.none then -1 else t.h0
def Tr.cb (t : Tr) : Int := match t with | .nil => 0 | .node _ b _ _ _ _ => b
def Tr.cr (t : Tr) : Int := match t with | .nil => 0 | .node _ _ r _ _ _ => r
def Tr.cl (t : Tr) : Int := match t with | .nil => 0 | .node _ _ _ l _ _ => l
def Tr.text (t : Tr) : ByteArray := match t with | .nil => ⟨#[]⟩ | .node _ _ _ _ s _ => s
/-- rows of knots that are read -/
structure Rs (w : World) (A : Option Addr) (n : Nat) (ps : List (Option Addr)) (ts : List Tr) : Prop where
  c : kPtr.C w A n ps
  len : ts.length = n
  r : ∀ (j : Nat) (p : Option Addr) (t : Tr), ps[j]? = some p → ts[j]? = some t → Rd w p t
theorem Rs.below {w w1 : World} {A : Option Addr} {n : Nat} {ps : List (Option Addr)} {ts : List Tr} (h : Rs w A n ps ts) (hb : Below w.heap.size w w1) : Rs w1 A n ps ts :=
  ⟨Kd.C_below h.c hb, h.len, fun j p t hp ht => (h.r j p t hp ht).below hb⟩
theorem Rs.drewN {w : World} {A : Option Addr} {n : Nat} {ps : List (Option Addr)} {ts : List Tr} (h : Rs w A n ps ts) (m : Nat) : Rs (w.drewN m) A n ps ts := h.below (pw_below_drewN (Below.refl _ _) m)
def rdT (ts : List Tr) (i : Int) : Tr := ts.getD i.toNat .nil
/-- element i of a row -/
theorem Rs.at_ {w : World} {A : Option Addr} {n : Nat} {ps : List (Option Addr)} {ts : List Tr} (h : Rs w A n ps ts) (i : Int) (h0 : 0 ≤ i) (h1 : i < n) :
    ∃ ad p, A = some ad ∧ w.cell? (ad.add i.toNat) = some (.pointer p) ∧ ps[i.toNat]? = some p ∧ Rd w p (rdT ts i) := by
  obtain ⟨ad, e, hc⟩ := at_ptr h.c i h0 h1
  have hl : ps.length = n := h.c.1
  have e1 : ps[i.toNat]? = some (rdOf none ps i) := by
    unfold rdOf; rw [List.getD_eq_getElem?_getD, List.getElem?_eq_getElem (by omega)]; rfl
  have e2 : ts[i.toNat]? = some (rdT ts i) := by
    unfold rdT; rw [List.getD_eq_getElem?_getD, List.getElem?_eq_getElem (by have := h.len; omega)]; rfl
  exact ⟨ad, _, e, hc, e1, h.r _ _ _ e1 e2⟩
/-- a knot laid open -/
theorem Rd.open_ {w : World} {p : Option Addr} {h b r l : Int} {s : ByteArray} {kids : List Tr} (H : Rd w p (.node h b r l s kids)) :
    ∃ (a : Nat) (A : Option Addr) (cp : Nat) (ps : List (Option Addr)), p = some ⟨a, 0, none⟩ ∧ w.cell? ⟨a, 0, none⟩ = some (.int .i64 h) ∧ w.cell? ⟨a, 1, none⟩ = some (.int .i64 b) ∧ w.cell? ⟨a, 2, none⟩ = some (.int .i64 r) ∧ w.cell? ⟨a, 3, none⟩ = some (.int .i64 l) ∧
      w.cell? ⟨a, 4, none⟩ = some (.string s) ∧ w.cell? ⟨a, 5, none⟩ = some (.slice A kids.length cp) ∧ kids.length ≤ cp ∧ kids.length ≤ 9223372036854775807 ∧ Rs w A kids.length ps kids := by
  cases H with
  | node a h b r l s kids A cp ps hok hh hl hR hk =>
    obtain ⟨h1, h2, h3⟩ := Kd.R_reads' hR
    rw [hl] at h3
    exact ⟨a, A, cp, ps, rfl, (blk_cell hh 0).trans rfl, (blk_cell hh 1).trans rfl, (blk_cell hh 2).trans rfl, (blk_cell hh 3).trans rfl, (blk_cell hh 4).trans rfl, (blk_cell hh 5).trans rfl, h2, h3.2.1, h3, rfl, fun j p t hp ht => hk j p t hp ht⟩
theorem Rd.nil_ {w : World} {p : Option Addr} (H : Rd w p .nil) : p = none := by cases H; rfl
end Go.Proofs.Ytdcnoiofimngpaa.Kt
/- Contracts of knots that are read: none, Height, Count, Kids, even. -/
namespace Go.Proofs.Ytdcnoiofimngpaa.Ka
open Go.RowKit Go.Proofs.Ytdcnoiofimngpaa.QK Go.Proofs.Ytdcnoiofimngpaa.Kt Go.Proofs.YtdcnoiofimngpaaW.PrintWords Go.Proofs.YtdcnoiofimngpaaW.PrintLast Go.Proofs.YtdcnoiofimngpaaW.PrintMore
set_option linter.unusedVariables false
set_option linter.unusedSimpArgs false
theorem none_nil (w : World) : Calls Try.prog 107 #[.pointer none] w fun e w' => e = .returned (.bool true) ∧ w = w' := by
  go_enter Try.func107, Try.ntmps107
  go_wp2
  go_ret
  exact ⟨rfl, rfl⟩
set_option maxHeartbeats 1000000 in
theorem none_calls (w : World) (p : Option Addr) (t : Tr) (H : Rd w p t) : Calls Try.prog 107 #[.pointer p] w fun e w' => e = .returned (.bool t.none) ∧ w = w' := by
  cases t with
  | nil => obtain rfl := H.nil_; exact none_nil w
  | node h b r l s kids =>
    obtain ⟨a, A, cp, ps, rfl, c0, c1, c2, c3, c4, c5, _, _, _⟩ := H.open_
    clear H c0 c1 c2 c3
    by_cases hs : s.toList = ([] : List UInt8)
    · have d0 : (s.toList == ([] : List UInt8)) = true := beq_iff_eq.mpr hs
      have d1 : (s.toList != ([] : List UInt8)) = false := bne_eq_false_iff_eq.mpr hs
      clear hs
      have e : (Tr.node h b r l s kids).none = (kids.length == 0) := by show ((s.toList == []) && (kids.length == 0)) = _; rw [d0]; rfl
      rw [e]
      clear e
      by_cases hk : kids.length = 0
      · have k0 : (kids.length == 0) = true := beq_iff_eq.mpr hk
        have k1 : ((kids.length : Int) == 0) = true := beq_iff_eq.mpr (by omega)
        rw [k0]
        clear hk
        go_enter Try.func107, Try.ntmps107
        go_wp2
        go_ret
        exact ⟨rfl, rfl⟩
      · have k0 : (kids.length == 0) = false := beq_eq_false_iff_ne.mpr hk
        have k1 : ((kids.length : Int) == 0) = false := beq_eq_false_iff_ne.mpr (by omega)
        rw [k0]
        clear hk
        go_enter Try.func107, Try.ntmps107
        go_wp2
        go_ret
        exact ⟨rfl, rfl⟩
    · have d0 : (s.toList == ([] : List UInt8)) = false := beq_eq_false_iff_ne.mpr hs
      have d1 : (s.toList != ([] : List UInt8)) = true := bne_iff_ne.mpr hs
      have d2 : (!s.toList.isEmpty) = true := by cases hl : s.toList <;> simp_all
      clear hs
      have e : (Tr.node h b r l s kids).none = false := by show ((s.toList == []) && (kids.length == 0)) = _; rw [d0]; rfl
      rw [e]
      clear e
      go_enter Try.func107, Try.ntmps107
      go_wp2
      go_ret
      exact ⟨rfl, rfl⟩
/-- where it is none, where not -/
theorem none_t {w : World} {p : Option Addr} {t : Tr} (H : Rd w p t) (h : t.none = true) : Calls Try.prog 107 #[.pointer p] w fun e w' => e = .returned (.bool true) ∧ w = w' := by rw [← h]; exact none_calls w p t H
theorem none_f {w : World} {p : Option Addr} {t : Tr} (H : Rd w p t) (h : t.none = false) : Calls Try.prog 107 #[.pointer p] w fun e w' => e = .returned (.bool false) ∧ w = w' := by rw [← h]; exact none_calls w p t H
theorem Tr.not_none {t : Tr} (h : t.none = false) : ∃ hh b r l s kids, t = .node hh b r l s kids := by
  cases t with
  | nil => cases h
  | node hh b r l s kids => exact ⟨hh, b, r, l, s, kids, rfl⟩
theorem height_calls (w : World) (p : Option Addr) (t : Tr) (H : Rd w p t) : Calls Try.prog 83 #[.pointer p] w fun e w' => e = .returned (.int .i64 t.height) ∧ w = w' := by
  by_cases hn : t.none = true
  · have e : t.height = -1 := by unfold Tr.height; rw [hn]; rfl
    rw [e]
    have HN := Aside0.mk (none_t H hn)
    clear H hn e
    go_enter Try.func83, Try.ntmps83
    go_wp2_with (go_at_call 107; (with_reducible refine HN.out.mono ?_); rintro e w' ⟨rfl, rfl⟩)
    go_ret
    exact ⟨rfl, rfl⟩
  · have hn : t.none = false := by simpa using hn
    have e : t.height = t.h0 := by unfold Tr.height; rw [hn]; rfl
    rw [e]
    have HN := Aside0.mk (none_f H hn)
    obtain ⟨hh, b, r, l, s, kids, rfl⟩ := Tr.not_none hn
    obtain ⟨a, A, cp, ps, rfl, c0, c1, c2, c3, c4, c5, _, _, _⟩ := H.open_
    clear H hn e c1 c2 c3 c4 c5
    go_enter Try.func83, Try.ntmps83
    go_wp2_with (go_at_call 107; (with_reducible refine HN.out.mono ?_); rintro e w' ⟨rfl, rfl⟩)
    go_ret
    exact ⟨rfl, rfl⟩
/-- the count's cells, as one value -/
def agg3 (b r l : Int) : Value := .agg #[.int .i64 b, .int .i64 r, .int .i64 l]
set_option maxHeartbeats 4000000 in
set_option maxRecDepth 100000 in
theorem count_calls (w : World) (p : Option Addr) (t : Tr) (H : Rd w p t) : Calls Try.prog 82 #[.pointer p] w fun e w' =>
    e = .returned (.agg #[.int .i64 (if t.none then 0 else t.cb), .int .i64 (if t.none then 0 else t.cr), .int .i64 (if t.none then 0 else t.cl)]) ∧ Below w.heap.size w w' := by
  have hux := Try.underlying91
  by_cases hn : t.none = true
  · rw [hn]
    show Calls _ _ _ _ fun e w' => e = .returned (.agg #[.int .i64 0, .int .i64 0, .int .i64 0]) ∧ Below w.heap.size w w'
    have HN := Aside0.mk (none_t (H.below (below_alloc (Below.refl _ _) (.cells #[.int .i64 0, .int .i64 0, .int .i64 0] 91))) hn)
    have HM : Aside0 (∀ w', Below w.heap.size w w' → Calls Try.prog 107 #[.pointer p] w' fun e w'' => e = .returned (.bool true) ∧ w' = w'') := ⟨fun w' hb => none_t (H.below hb) hn⟩
    clear H hn HN
    go_enter Try.func82, Try.ntmps82
    go_wp2_with (first | ((with_reducible refine gate_dst (N := 2) rfl ?_); refine box_event ?hg (N := 2) ?hd (cs := #[.int .i64 0, .int .i64 0, .int .i64 0]) (t := 91) ?hr ?_; (case hd => rfl); (case hg => rfl); (case hr => first | (go_simp; done) | (go_simp; rfl)); intro gb hg w2 hbox hb; have BK := Aside0.mk hbox; have HB := Aside0.mk hb; have GE : Aside0 (w.heap.size ≤ gb) := ⟨by rw [hg]; exact Nat.le_refl _⟩; clear hb hbox hg) | (go_at_call 107; (with_reducible refine (HM.out _ HB.out).mono ?_); rintro e w' ⟨rfl, rfl⟩) | ((with_reducible refine gate_store (t := 91) (p := 2) (v := .tmp 5) rfl ?_); refine Sa.store_whole rfl rfl 91 (.tmp 2) (.tmp 5) rfl gb #[.int .i64 0, .int .i64 0, .int .i64 0] [.int .i64 0, .int .i64 0, .int .i64 0] rfl rfl (by kernel_rfl) BK.out rfl (by simp [Value.oneCell']) ?_; intro w9 hbox hg; have n0_ := Aside0.mk (Sa.grown_below HB.out (below_size HB.out) hg GE.out); clear BK HB; have BK := Aside0.mk hbox; have HB := n0_; clear n0_ hbox hg))
    refine bodyPost_ret (results_cell_row rfl _ _ gb 91 #[.int .i64 0, .int .i64 0, .int .i64 0] (0, 0) _ rfl BK.out Try.underlying91 rfl (by kernel_rfl)) rfl ?_
    exact ⟨rfl, HB.out⟩
  · have hn : t.none = false := by simpa using hn
    rw [hn]
    obtain ⟨hh, b, r, l, s, kids, rfl⟩ := Tr.not_none hn
    have HM : Aside0 (∀ w', Below w.heap.size w w' → Calls Try.prog 107 #[.pointer p] w' fun e w'' => e = .returned (.bool false) ∧ w' = w'') := ⟨fun w' hb => none_f (H.below hb) hn⟩
    obtain ⟨a, A, cp, ps, rfl, c0, c1, c2, c3, c4, c5, _, _, _⟩ := H.open_
    have C1 := Aside0.mk c1
    have C2 := Aside0.mk c2
    have C3 := Aside0.mk c3
    clear H hn c0 c4 c5 c1 c2 c3
    show Calls _ _ _ _ fun e w' => e = .returned (.agg #[.int .i64 b, .int .i64 r, .int .i64 l]) ∧ Below w.heap.size w w'
    go_enter Try.func82, Try.ntmps82
    go_wp2_with (first | ((with_reducible refine gate_dst (N := 2) rfl ?_); refine box_event ?hg (N := 2) ?hd (cs := #[.int .i64 0, .int .i64 0, .int .i64 0]) (t := 91) ?hr ?_; (case hd => rfl); (case hg => rfl); (case hr => first | (go_simp; done) | (go_simp; rfl)); intro gb hg w2 hbox hb; have BK := Aside0.mk hbox; have HB := Aside0.mk hb; have GE : Aside0 (w.heap.size ≤ gb) := ⟨by rw [hg]; exact Nat.le_refl _⟩; have d1 := pw_cell_below hb C1.out; have d2 := pw_cell_below hb C2.out; have d3 := pw_cell_below hb C3.out; clear hb hbox hg) | (go_at_call 107; (with_reducible refine (HM.out _ HB.out).mono ?_); rintro e w' ⟨rfl, rfl⟩) | ((with_reducible refine gate_store (t := 91) (p := 2) (v := .tmp 10) rfl ?_); refine Sa.store_whole rfl rfl 91 (.tmp 2) (.tmp 10) rfl gb #[.int .i64 0, .int .i64 0, .int .i64 0] [.int .i64 b, .int .i64 r, .int .i64 l] rfl rfl (by kernel_rfl) BK.out rfl (by simp [Value.oneCell']) ?_; intro w9 hbox hg; have n0_ := Aside0.mk (Sa.grown_below HB.out (below_size HB.out) hg GE.out); clear BK HB; have BK := Aside0.mk hbox; have HB := n0_; clear n0_ hbox hg))
    refine bodyPost_ret (results_cell_row rfl _ _ gb 91 #[.int .i64 b, .int .i64 r, .int .i64 l] (0, 0) _ rfl BK.out Try.underlying91 rfl (by kernel_rfl)) rfl ?_
    exact ⟨rfl, HB.out⟩
theorem kids_none {t : Tr} (h : t.none = true) : t.kids = [] := by
  cases t with
  | nil => rfl
  | node hh b r l s kids =>
    have h' : ((s.toList == []) && (kids.length == 0)) = true := h
    rw [Bool.and_eq_true] at h'
    exact List.eq_nil_of_length_eq_zero (beq_iff_eq.mp h'.2)
theorem Rs.nil (w : World) : Rs w none 0 [] [] := ⟨Kd.C_nil kPtr w, rfl, fun j p t h => by cases h⟩
theorem infoP : (Try.prog.info? 73).map (fun i => (i.zero, i.size, i.bytes)) = some (some (.pointer none), 1, 8) := by kernel_rfl
def KidsPost (w : World) (ks : List Tr) (e : Ending) (w' : World) : Prop := ∃ A cp ps, e = .returned (.slice A ks.length cp) ∧ ks.length ≤ cp ∧ Rs w' A ks.length ps ks ∧ Below w.heap.size w w'
set_option maxHeartbeats 1000000 in
theorem kids_calls (w : World) (p : Option Addr) (t : Tr) (H : Rd w p t) (hm : t.kids.length ≤ 1000000) : Calls Try.prog 84 #[.pointer p] w (KidsPost w t.kids) := by
  by_cases hn : t.none = true
  · have HN := Aside0.mk (none_t H hn)
    rw [kids_none hn]
    clear H hn hm
    go_enter Try.func84, Try.ntmps84
    go_wp2_with (go_at_call 107; (with_reducible refine HN.out.mono ?_); rintro e w' ⟨rfl, rfl⟩)
    go_ret
    exact ⟨none, 0, [], rfl, Nat.le_refl _, Rs.nil w, Below.refl _ _⟩
  · have hn : t.none = false := by simpa using hn
    obtain ⟨hh, b, r, l, s, kids, rfl⟩ := Tr.not_none hn
    have HN := Aside0.mk (none_f H hn)
    obtain ⟨a, A, cp, ps, rfl, c0, c1, c2, c3, c4, c5, hcp, _, hr⟩ := H.open_
    have HR := Aside0.mk hr
    have HM : Aside0 (kids.length ≤ 1000000) := ⟨hm⟩
    clear H hn c0 c1 c2 c3 c4 hr hm
    change Calls _ _ _ _ (KidsPost w kids)
    by_cases hk : kids.length = 0
    · have k0 : (kids.length == 0) = true := beq_iff_eq.mpr hk
      have k1 : ((kids.length : Int) == 0) = true := beq_iff_eq.mpr (by omega)
      have e : kids = [] := List.eq_nil_of_length_eq_zero hk
      have E := Aside0.mk e
      clear hk e hcp
      go_enter Try.func84, Try.ntmps84
      go_wp2_with (go_at_call 107; (with_reducible refine HN.out.mono ?_); rintro e w' ⟨rfl, rfl⟩)
      go_ret
      rw [E.out]
      exact ⟨none, 0, [], rfl, Nat.le_refl _, Rs.nil w, Below.refl _ _⟩
    · have k0 : (kids.length == 0) = false := beq_eq_false_iff_ne.mpr hk
      have k1 : ((kids.length : Int) == 0) = false := beq_eq_false_iff_ne.mpr (by omega)
      clear hk hcp
      go_enter Try.func84, Try.ntmps84
      go_wp2_with (first | (go_at_call 107; (with_reducible refine HN.out.mono ?_); rintro e w' ⟨rfl, rfl⟩) | ((with_reducible refine gate_builtin (b := .append) (xs := #[.const (.slice none 0 0), .tmp 16]) rfl ?_); at_builtin; refine Kd.R_append_row (fun p => Value.pointer p) (none : Option Addr) (h1 := fun _ => rfl) (w0 := w) w.heap.size rfl (.const (.slice none 0 0)) (.tmp 16) 105 73 (.pointer none) 8 rfl Try.underlying105 infoP rfl (by decide) (.slice none 0 0) [] ps A kids.length cp (fun k => True) rfl rfl (fun _ _ => trivial) (Kd.R_nil _ _ _ _ _) HR.out.c (Below.refl _ _) (Nat.le_refl _) (by have := HM.out; simp only [List.length_nil]; omega) ?_; intro v1 w1 ho hb hg hat; obtain ⟨A2, cp2, rfl, h2, h3⟩ := Kd.R_reads ho; have HO := Aside0.mk (And.intro h2 h3); have HB := Aside0.mk hb; clear ho hb hg hat h2 h3))
      go_ret
      have hl : ps.length = kids.length := HR.out.c.1
      refine ⟨A2, cp2, ps, ?_, ?_, ⟨?_, rfl, fun j p t hp ht => (HR.out.r j p t hp ht).below HB.out⟩, HB.out⟩
      · rw [← hl]; rfl
      · have := HO.out.1; rw [List.nil_append, hl] at this; exact this
      · have := HO.out.2; rw [List.nil_append, hl] at this; exact this
end Go.Proofs.Ytdcnoiofimngpaa.Ka
/- even: are all knots of one height, and none nobody's? -/
namespace Go.Proofs.Ytdcnoiofimngpaa.Kb
open Go.RowKit Go.Proofs.Ytdcnoiofimngpaa.QK Go.Proofs.Ytdcnoiofimngpaa.Kt Go.Proofs.Ytdcnoiofimngpaa.Ka Go.Proofs.YtdcnoiofimngpaaW.PrintWords Go.Proofs.YtdcnoiofimngpaaW.PrintLast Go.Proofs.YtdcnoiofimngpaaW.PrintMore
set_option linter.unusedVariables false
set_option linter.unusedSimpArgs false
/-- one knot beside the first one -/
def evenAt (ts : List Tr) (t : Tr) : Bool := !t.none && t.h0 == (rdT ts 0).h0
def evenB (ts : List Tr) : Bool := ts.all (evenAt ts)
theorem even_upto (ts : List Tr) (n : Nat) (h : ∀ i : Nat, i < n → evenAt ts (rdT ts i) = true) (hn : n = ts.length) : evenB ts = true := by
  unfold evenB
  rw [List.all_eq_true]
  intro t ht
  obtain ⟨i, hi, rfl⟩ := List.getElem_of_mem ht
  have := h i (by omega)
  unfold rdT at this
  rw [show ((i : Int)).toNat = i by omega, List.getD_eq_getElem?_getD, List.getElem?_eq_getElem hi] at this
  exact this
theorem even_not (ts : List Tr) (i : Nat) (hi : i < ts.length) (h : evenAt ts (rdT ts i) = false) : evenB ts = false := by
  unfold evenB
  rw [List.all_eq_false]
  refine ⟨ts[i], List.getElem_mem hi, ?_⟩
  unfold rdT at h
  rw [show ((i : Int)).toNat = i by omega, List.getD_eq_getElem?_getD, List.getElem?_eq_getElem hi] at h
  simpa using h
/-- the height's cell of a knot that is not nobody's -/
theorem h_cell {w : World} {p : Option Addr} {t : Tr} (H : Rd w p t) (hn : t.none = false) : ∃ a : Nat, p = some ⟨a, 0, none⟩ ∧ w.cell? ⟨a, 0, none⟩ = some (.int .i64 t.h0) := by
  obtain ⟨hh, b, r, l, s, kids, rfl⟩ := Tr.not_none hn
  obtain ⟨a, A, cp, ps, rfl, c0, _⟩ := H.open_
  exact ⟨a, rfl, c0⟩
theorem none_q {w : World} {p : Option Addr} {t : Tr} {b : Bool} (H : Rd w p t) (h : t.none = b) (n : Nat) : Calls Try.prog 107 #[.pointer p] (w.drewN n) fun e w'' => e = .returned (.bool b) ∧ ∃ m, w'' = w.drewN m :=
  Calls.quiet_of_same (by rw [← h]; exact (none_calls _ p t (H.drewN n)).mono fun e w' ⟨he, hw⟩ => ⟨he, hw.symm⟩)
set_option maxHeartbeats 4000000 in
set_option maxRecDepth 100000 in
theorem even_calls (w : World) (A : Option Addr) (n cp : Nat) (ps : List (Option Addr)) (ts : List Tr) (H : Rs w A n ps ts) :
    Calls Try.prog 100 #[.slice A n cp] w fun e w' => e = .returned (.bool (evenB ts)) ∧ Drawn0 w w' := by
  have hlen := H.len
  have hmax := H.c.2.1
  subst hlen
  have HR := Aside0.mk H
  clear H
  go_enter Try.func100, Try.ntmps100
  go_wp2
  go_loopg [7] (ts.length + 1) (fun kq v7 w' => ∃ x : Int, v7 = .int .i64 x ∧ Aside0 (0 ≤ x ∧ x + kq = ts.length + 1 ∧ 1 ≤ kq) ∧ Aside0 (∀ i : Nat, i < x.toNat → evenAt ts (rdT ts i) = true) ∧ Drawn0 w w')
  case atStart => exact ⟨0, (by first | rfl | (simp; done)), ⟨by omega⟩, ⟨fun i hi => absurd hi (by simp)⟩, Drawn0.refl _⟩
  case round =>
    obtain ⟨x, rfl, HK, HE, HD⟩ := hrel
    have HDA := Aside0.mk HD
    have hbw := HD.below
    clear HD
    obtain ⟨k1, rfl⟩ : ∃ k1, gk = k1 + 1 := ⟨gk - 1, by have := HK.out; omega⟩
    have p0 : 0 ≤ x := HK.out.1
    by_cases cx : x < (ts.length : Int)
    · have cxb : decide (x < (ts.length : Int)) = true := decide_eq_true cx
      obtain ⟨ad0, p, q0, hx0, hp, hr⟩ := HR.out.at_ x p0 cx
      subst q0
      have HQ : Aside0 (0 ≤ x ∧ x < ts.length) := ⟨p0, cx⟩
      have HP := Aside0.mk (Rd.below hr hbw)
      replace hx0 := pw_cell_below hbw hx0
      obtain ⟨i, hi⟩ := Int.eq_ofNat_of_zero_le p0
      have p0c := eq_true p0
      have cxc := eq_true cx
      by_cases hn : (rdT ts x).none = true
      · have HN := Aside0.mk hn
        clear p0 cx hp hr hn hi hbw
        go_wp2
        repeat (go_quiet ((go_at_call 107; exact none_q HP.out HN.out _)); try go_wp2)
        go_ret
        refine ⟨?_, by repeat (first | exact HDA.out | apply Drawn0.step)⟩
        rw [even_not ts x.toNat (by have := HQ.out; omega) (by rw [Int.toNat_of_nonneg HQ.out.1]; unfold evenAt; rw [HN.out]; rfl)]
        rfl
      · have hn : (rdT ts x).none = false := by simpa using hn
        have HN := Aside0.mk hn
        have h0n : (rdT ts 0).none = false := by
          by_cases hi0 : x = 0
          · rw [← hi0]; exact hn
          · have := HE.out 0 (by omega)
            unfold evenAt at this
            rw [Bool.and_eq_true] at this
            simpa using this.1
        obtain ⟨ad1, p1, q1, hx1, _, hr1⟩ := HR.out.at_ 0 (by omega) (by omega)
        obtain rfl : ad0 = ad1 := by injection q1
        obtain ⟨a0, rfl, hc0⟩ := h_cell hr hn
        obtain ⟨a1, rfl, hc1⟩ := h_cell hr1 h0n
        have hx1' : w.cell? ad0 = some (.pointer (some ⟨a1, 0, none⟩)) := by
          have e : ad0.add 0 = ad0 := by simp [Addr.add]
          rw [← e]; exact hx1
        replace hx1' := pw_cell_below hbw hx1'
        replace hc0 := pw_cell_below hbw hc0
        replace hc1 := pw_cell_below hbw hc1
        have z0 : (0 : Int) < (ts.length : Int) := by omega
        have z0b : decide ((0 : Int) < (ts.length : Int)) = true := decide_eq_true z0
        have z0c := eq_true z0
        have z1 : 0 < ts.length := by omega
        have z1c := eq_true z1
        have z0d : decide (0 < ts.length) = true := decide_eq_true (by omega)
        by_cases he : (rdT ts x).h0 = (rdT ts 0).h0
        · have E1 : Aside0 ((rdT ts x).h0 = (rdT ts 0).h0) := ⟨he⟩
          have eb : ((rdT ts x).h0 != (rdT ts 0).h0) = false := bne_eq_false_iff_eq.mpr he
          clear p0 cx hp hr hn hi h0n hr1 q1 he z0 z1 hx1 hbw
          go_wp2
          repeat (go_quiet ((go_at_call 107; exact none_q HP.out HN.out _)); try go_wp2)
          go_roundg k1
          case measure => omega
          case rel =>
            refine ⟨wrap64 (x + 1), (by first | rfl | (simp; done)), ⟨by have := HK.out; have := HQ.out; unfold wrap64; omega⟩, ⟨fun j hj => ?_⟩, by repeat (first | exact HDA.out | apply Drawn0.step)⟩
            by_cases hj2 : j < x.toNat
            · exact HE.out j hj2
            · have hj3 : (j : Int) = x := by have := HQ.out; unfold wrap64 at hj; omega
              rw [hj3]
              unfold evenAt
              rw [HN.out, E1.out]
              simp
        · have E1 : Aside0 (¬ (rdT ts x).h0 = (rdT ts 0).h0) := ⟨he⟩
          have eb : ((rdT ts x).h0 != (rdT ts 0).h0) = true := bne_iff_ne.mpr he
          clear p0 cx hp hr hn hi h0n hr1 q1 he z0 z1 hx1 hbw
          go_wp2
          repeat (go_quiet ((go_at_call 107; exact none_q HP.out HN.out _)); try go_wp2)
          go_ret
          refine ⟨?_, by repeat (first | exact HDA.out | apply Drawn0.step)⟩
          rw [even_not ts x.toNat (by have := HQ.out; omega) (by rw [Int.toNat_of_nonneg HQ.out.1]; unfold evenAt; rw [HN.out, beq_eq_false_iff_ne.mpr E1.out]; rfl)]
          rfl
    · have cxb : decide (x < (ts.length : Int)) = false := decide_eq_false cx
      have E := Aside0.mk (even_upto ts x.toNat HE.out (by have := HK.out; omega))
      clear p0 cx hbw
      go_wp2
      go_ret
      refine ⟨?_, by repeat (first | exact HDA.out | apply Drawn0.step)⟩
      rw [E.out]
      rfl
end Go.Proofs.Ytdcnoiofimngpaa.Kb
/- gather, Chunks, First, Last. -/
namespace Go.Proofs.Ytdcnoiofimngpaa.Kc
open Go.RowKit Go.Proofs.Ytdcnoiofimngpaa.QK Go.Proofs.Ytdcnoiofimngpaa.Kt Go.Proofs.Ytdcnoiofimngpaa.Ka Go.Proofs.Ytdcnoiofimngpaa.Kb Go.Proofs.YtdcnoiofimngpaaW.PrintWords Go.Proofs.YtdcnoiofimngpaaW.PrintLast Go.Proofs.YtdcnoiofimngpaaW.PrintMore
set_option linter.unusedVariables false
set_option linter.unusedSimpArgs false
mutual
/-- all chunks, from the left -/
def chunks : Tr → List ByteArray
  | .nil => []
  | .node _ _ _ _ s [] => if s.toList = [] then [] else [s]
  | .node _ _ _ _ _ (k :: ks) => chunksL (k :: ks)
def chunksL : List Tr → List ByteArray
  | [] => []
  | t :: ts => chunks t ++ chunksL ts
end
theorem chunksL_eq (l : List Tr) : chunksL l = (l.map chunks).flatten := by
  induction l with
  | nil => rw [chunksL]; rfl
  | cons t ts ih => rw [chunksL, ih]; rfl
theorem chunksL_next (l : List Tr) (i : Nat) (h : i < l.length) : chunksL (l.take (i + 1)) = chunksL (l.take i) ++ chunks (rdT l i) := by
  rw [List.take_succ_eq_append_getElem h, chunksL_eq, chunksL_eq, List.map_append, List.flatten_append]
  congr 1
  unfold rdT
  rw [show ((i : Int)).toNat = i by omega, List.getD_eq_getElem?_getD, List.getElem?_eq_getElem h]
  simp
theorem chunksL_take_le (l : List Tr) (i : Nat) : (chunksL (l.take i)).length ≤ (chunksL l).length := by
  conv => rhs; rw [← List.take_append_drop i l, chunksL_eq, List.map_append, List.flatten_append, List.length_append]
  rw [chunksL_eq]; omega
theorem chunks_kids {h b r l : Int} {s : ByteArray} {kids : List Tr} (hk : kids.length ≠ 0) : chunks (.node h b r l s kids) = chunksL kids := by
  cases kids with
  | nil => exact absurd rfl hk
  | cons k ks => rw [chunks]
theorem chunks_none {t : Tr} (h : t.none = true) : chunks t = [] := by
  cases t with
  | nil => rw [chunks]
  | node hh b r l s kids =>
    have h' : ((s.toList == []) && (kids.length == 0)) = true := h
    rw [Bool.and_eq_true] at h'
    obtain rfl := List.eq_nil_of_length_eq_zero (beq_iff_eq.mp h'.2)
    rw [chunks, if_pos (beq_iff_eq.mp h'.1)]
theorem chunks_leaf {h b r l : Int} {s : ByteArray} {kids : List Tr} (hn : (Tr.node h b r l s kids).none = false) (hk : kids.length = 0) : chunks (.node h b r l s kids) = [s] := by
  obtain rfl := List.eq_nil_of_length_eq_zero hk
  have h' : ((s.toList == []) && (([] : List Tr).length == 0)) = false := hn
  have h2 : ¬ s.toList = [] := by
    intro e; rw [e] at h'; exact absurd h' (by decide)
  rw [chunks, if_neg h2]
theorem size_kid {h b r l : Int} {s : ByteArray} {kids : List Tr} {k : Tr} (hk : k ∈ kids) : SizeOf.sizeOf k < SizeOf.sizeOf (Tr.node h b r l s kids) := by
  have := List.sizeOf_lt_of_mem hk
  simp only [Tr.node.sizeOf_spec]
  omega
theorem rdT_mem (ts : List Tr) (i : Int) (h0 : 0 ≤ i) (h : i < ts.length) : rdT ts i ∈ ts := by
  unfold rdT
  rw [List.getD_eq_getElem?_getD, List.getElem?_eq_getElem (by omega)]
  exact List.getElem_mem _
theorem infoS : (Try.prog.info? 9).map (fun i => (i.zero, i.size, i.bytes)) = some (some (.string ⟨#[]⟩), 1, 16) := by kernel_rfl
/-- what gather leaves -/
def GPost (w0 : World) (l : List ByteArray) (e : Ending) (w' : World) : Prop := ∃ A cp, e = .returned (.slice A l.length cp) ∧ Kd.R Kd.string 9 w' w0.heap.size (fun _ => True) (.slice A l.length cp) l ∧ Below w0.heap.size w0 w'
theorem R_at {w : World} {base A n cp : Nat} {l : List ByteArray} : True := trivial
set_option maxHeartbeats 8000000 in
set_option maxRecDepth 100000 in
theorem gather_calls (n : Nat) : ∀ (t : Tr), SizeOf.sizeOf t < n → ∀ (w0 W : World) (p : Option Addr) (A : Option Addr) (cp : Nat) (l : List ByteArray), Rd w0 p t → Below w0.heap.size w0 W → Kd.R Kd.string 9 W w0.heap.size (fun _ => True) (.slice A l.length cp) l → l.length + (chunks t).length ≤ 1000000 →
    Calls Try.prog 119 #[.pointer p, .slice A l.length cp] W (GPost w0 (l ++ chunks t)) := by
  induction n with
  | zero => intro t ht; omega
  | succ n ih =>
    intro t ht w0 W p A cp l H hB hR hm
    by_cases hn : t.none = true
    · have HN := Aside0.mk (none_t (H.below hB) hn)
      have HB := Aside0.mk hB
      have HR := Aside0.mk hR
      rw [chunks_none hn, List.append_nil]
      clear H hn hm hB hR ih ht
      go_enter Try.func119, Try.ntmps119
      go_wp2_with (go_at_call 107; (with_reducible refine HN.out.mono ?_); rintro e w' ⟨rfl, rfl⟩)
      go_ret
      exact ⟨A, cp, rfl, HR.out, HB.out⟩
    have hn : t.none = false := by simpa using hn
    obtain ⟨hh, b, r, lc, s, kids, rfl⟩ := Tr.not_none hn
    have HN := Aside0.mk (none_f (H.below hB) hn)
    obtain ⟨a, A2, cp2, ps, rfl, c0, c1, c2, c3, c4, c5, hcp, _, hr⟩ := H.open_
    have HC4 := Aside0.mk c4
    have HC5 := Aside0.mk c5
    replace c4 := (hB.cell (World.block_lt_of_cell? w0 _ c4)).trans c4
    replace c5 := (hB.cell (World.block_lt_of_cell? w0 _ c5)).trans c5
    have HB := Aside0.mk hB
    have HR := Aside0.mk hR
    have HK := Aside0.mk hr
    have IH := Aside0.mk ih
    have HT : Aside0 (∀ k, k ∈ kids → SizeOf.sizeOf k < n) := ⟨fun k hk => by have := size_kid (h := hh) (b := b) (r := r) (l := lc) (s := s) hk; omega⟩
    clear H c0 c1 c2 c3 hB hR hr ih ht hcp
    by_cases hk : kids.length = 0
    · have k0 : (kids.length == 0) = true := beq_iff_eq.mpr hk
      have k1 : ((kids.length : Int) == 0) = true := beq_iff_eq.mpr (by omega)
      rw [chunks_leaf hn hk] at hm ⊢
      have HM := Aside0.mk hm
      clear hk hn hm
      go_enter Try.func119, Try.ntmps119
      go_wp2_with (first | (go_at_call 107; (with_reducible refine HN.out.mono ?_); rintro e w' ⟨rfl, rfl⟩) | ((with_reducible refine gate_builtin (b := .append) (xs := #[.tmp 16, .tmp 21]) rfl ?_); at_builtin; refine Kd.R_append Kd.string (w0 := w0) w0.heap.size rfl (.tmp 16) (.tmp 21) 48 9 (.string ⟨#[]⟩) 16 rfl Try.underlying48 infoS rfl (by decide) (by omega) (.slice A l.length cp) l s [.string s] (fun _ => True) (fun _ => False) rfl rfl ?aP (fun _ hk => hk.elim) (fun _ _ => trivial) HR.out HB.out HB.out.size (by have := HM.out; simp only [List.length_cons, List.length_nil] at this; omega) ?_; (case aP => exact rfl); intro v2 w3 ho hb hgr hat; obtain ⟨A3, cp3, rfl⟩ := Kd.R_slice ho; have HO := Aside0.mk ho; have HB2 := Aside0.mk hb; clear ho hb hgr hat))
      go_ret
      exact ⟨A3, cp3, by rw [show (l ++ [s]).length = l.length + 1 by simp]; rfl, HO.out, HB2.out⟩
    · have k0 : (kids.length == 0) = false := beq_eq_false_iff_ne.mpr hk
      have k1 : ((kids.length : Int) == 0) = false := beq_eq_false_iff_ne.mpr (by omega)
      rw [chunks_kids hk] at hm ⊢
      have HM := Aside0.mk hm
      clear hk hn hm
      go_enter Try.func119, Try.ntmps119
      go_wp2_with (first | (go_at_call 107; (with_reducible refine HN.out.mono ?_); rintro e w' ⟨rfl, rfl⟩))
      go_loopg [1, 28] (kids.length + 1) (fun kq v1 v28 w' => ∃ (x : Int) (A3 : Option Addr) (cp3 : Nat) (l3 : List ByteArray), v28 = .int .i64 x ∧ v1 = .slice A3 l3.length cp3 ∧ Aside0 (0 ≤ x ∧ x + kq = kids.length + 1 ∧ 1 ≤ kq ∧ kids.length ≤ 9223372036854775807) ∧ Aside0 (l3 = l ++ chunksL (kids.take x.toNat)) ∧ Aside0 (Kd.R Kd.string 9 w' w0.heap.size (fun _ => True) (.slice A3 l3.length cp3) l3) ∧ Aside0 (Below w0.heap.size w0 w'))
      case atStart => exact ⟨0, A, cp, l, (by first | rfl | (simp; done)), rfl, ⟨by have := HK.out.c.2.1; omega⟩, ⟨by rw [show (0 : Int).toNat = 0 from rfl, List.take_zero, chunksL, List.append_nil]⟩, HR, HB⟩
      case round =>
        clear HR HB
        obtain ⟨x, A3, cp3, l3, rfl, rfl, HQ, HL, HR, HB⟩ := hrel
        obtain ⟨k2, rfl⟩ : ∃ k2, gk = k2 + 1 := ⟨gk - 1, by have := HQ.out; omega⟩
        have p0 : 0 ≤ x := HQ.out.1
        by_cases cx : x < (kids.length : Int)
        · have cxb : decide (x < (kids.length : Int)) = true := decide_eq_true cx
          obtain ⟨ad0, q, q0, hx0, hp, hr⟩ := HK.out.at_ x p0 cx
          subst q0
          replace hx0 := (HB.out.cell (World.block_lt_of_cell? w0 _ hx0)).trans hx0
          have HP : Aside0 (0 ≤ x ∧ x < kids.length) := ⟨p0, cx⟩
          have HX := Aside0.mk (chunksL_next kids x.toNat (by omega))
          have HY := Aside0.mk (chunksL_take_le kids (x.toNat + 1))
          have HG := Aside0.mk (IH.out (rdT kids x) (HT.out _ (rdT_mem kids x p0 cx)) w0 _ q A3 cp3 l3 hr HB.out HR.out (by
            have h1 := HX.out
            have h2 := HY.out
            rw [h1, List.length_append] at h2
            rw [show ((x.toNat : Int)) = x by omega] at h2
            have h3 := HM.out
            rw [HL.out, List.length_append]
            omega))
          have p0c := eq_true p0
          have cxc := eq_true cx
          clear p0 cx hp hr
          go_wp2_with (go_at_call 119; (with_reducible refine HG.out.mono ?_); rintro e w3 ⟨A4, cp4, rfl, ho, hb⟩; obtain ⟨l4, hl4⟩ : ∃ l4, l3 ++ chunks (rdT kids x) = l4 := ⟨_, rfl⟩; rw [hl4] at ho ⊢; have HL4 := Aside0.mk hl4; have HR4 := Aside0.mk ho; have HB4 := Aside0.mk hb; clear hl4 ho hb HG)
          go_roundg k2
          case measure => omega
          case rel =>
            refine ⟨wrap64 (x + 1), A4, cp4, l4, (by first | rfl | (simp; done)), rfl, ⟨by have := HQ.out; have := HP.out; unfold wrap64; omega⟩, ⟨?_⟩, HR4, HB4⟩
            rw [← HL4.out, HL.out, show (wrap64 (x + 1)).toNat = x.toNat + 1 by have := HQ.out; have := HP.out; unfold wrap64; omega, HX.out, List.append_assoc, show ((x.toNat : Int)) = x by have := HP.out; omega]
        · have cxb : decide (x < (kids.length : Int)) = false := decide_eq_false cx
          have e := HL.out
          rw [List.take_of_length_le (by omega)] at e
          have HE := Aside0.mk e
          clear p0 cx e
          go_wp2
          go_ret
          rw [← HE.out]
          exact ⟨A3, cp3, rfl, HR.out, HB.out⟩
theorem chunks_calls (w : World) (p : Option Addr) (t : Tr) (H : Rd w p t) (hm : (chunks t).length ≤ 1000000) : Calls Try.prog 109 #[.pointer p] w (GPost w (chunks t)) := by
  have hg := gather_calls (SizeOf.sizeOf t + 1) t (by omega) w w p none 0 [] H (Below.refl _ _) (Kd.R_nil _ _ _ _ _) (by simpa using hm)
  rw [List.nil_append] at hg
  have HG : Aside0 (Calls Try.prog 119 #[.pointer p, .slice none 0 0] w (GPost w (chunks t))) := ⟨hg⟩
  clear hg
  clear H hm
  go_enter Try.func109, Try.ntmps109
  go_wp2_with (go_at_call 119; (with_reducible refine HG.out.mono ?_); rintro e w3 ⟨A4, cp4, rfl, ho, hb⟩; have HR4 := Aside0.mk ho; have HB4 := Aside0.mk hb; clear ho hb HG)
  go_ret
  exact ⟨A4, cp4, rfl, HR4.out, HB4.out⟩
end Go.Proofs.Ytdcnoiofimngpaa.Kc
