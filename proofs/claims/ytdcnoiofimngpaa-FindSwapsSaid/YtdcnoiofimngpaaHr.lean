import Derived.Test.YtdcnoiofimngpaaHp
import Derived.Deep.QuietTactic
import Derived.BigQuiet
/- find.Replace: the walk. -/
namespace Go.Proofs.Ytdcnoiofimngpaa.Hr
open Go.RowKit Go.Proofs.Ytdcnoiofimngpaa.U Go.Proofs.Ytdcnoiofimngpaa.QH Go.Proofs.Ytdcnoiofimngpaa.Kt Go.Proofs.Ytdcnoiofimngpaa.Kh Go.Proofs.Ytdcnoiofimngpaa.Kj Go.Proofs.Ytdcnoiofimngpaa.Gs Go.Proofs.Ytdcnoiofimngpaa.Gr Go.Proofs.Ytdcnoiofimngpaa.Wl Go.Proofs.Ytdcnoiofimngpaa.Fn Go.Proofs.Ytdcnoiofimngpaa.Fa Go.Proofs.Ytdcnoiofimngpaa.Hp Go.Proofs.YtdcnoiofimngpaaW.PrintWords Go.Proofs.YtdcnoiofimngpaaW.PrintLast Go.Proofs.YtdcnoiofimngpaaW.PrintMore
set_option linter.unusedVariables false
set_option linter.unusedSimpArgs false
/-- a block of one slice -/
def Bs (W : World) (g : Nat) (v : Value) : Prop := W.heap[g]? = some (.cells #[v] 30 (0, 0))
def RepPost (w : World) (r : List S78 × Int) (e : Ending) (w' : World) : Prop := ∃ v, e = .returned (.tuple #[.agg #[v], .int .i64 r.2]) ∧ Kd.R k78 78 w' w.heap.size (fun _ => True) v r.1 ∧ Below w.heap.size w w'
theorem valid_plain (s : ByteArray) (hs : s.size ≤ 100000) (w : World) : Calls Try.prog 47 #[.string s] w fun e w' => e = .returned (.bool (Sp.valid (ld s))) ∧ Below w.heap.size w w' := by
  refine utf_Valid.calls s _ w ?_
  unfold utf_Valid.f
  rw [if_pos (by omega)]
theorem ints_at {w : World} {base : Nat} {ok : Nat → Prop} {A : Option Addr} {n cp : Nat} {l : List Int} (h : Kd.R (Kd.int .i64) 3 w base ok (.slice A n cp) l) (i : Int) (h0 : 0 ≤ i) (h1 : i < l.length) : ∃ ad, A = some ad ∧ w.cell? (ad.add i.toNat) = some (.int .i64 (rd l i)) := by
  obtain ⟨A', c', he, _, hC⟩ := Kd.R_reads h
  cases he
  exact ReadsOf.at_ (Kd.reads_of_C (enc := Value.int .i64) (d := (0 : Int)) (h1 := fun _ => rfl) hC) i h0 h1
theorem bs_put {w : World} {g : Nat} {u : Value} (h : Bs w g u) (v : Value) : Bs (w.setCell ⟨g, 0, none⟩ v) g v := blk_put (cs := #[u]) h 0 v rfl
theorem bs_far {w : World} {g k : Nat} {u : Value} (h : Bs w g u) (hk : g ≠ k) (j : Nat) (v : Value) : Bs (w.setCell ⟨k, j, none⟩ v) g u := (Below.heap_setCell w ⟨k, j, none⟩ v g hk).trans h
theorem bs_cell {w : World} {g : Nat} {u : Value} (h : Bs w g u) : w.cell? ⟨g, 0, none⟩ = some u := (blk_cell h 0).trans rfl
theorem bs_fr {w : World} {g : Nat} {u : Value} (h : Bs w g u) : w.frozen? ⟨g, 0, none⟩ = false := by simp [World.frozen?, show w.heap[g]? = _ from h]
set_option maxHeartbeats 8000000 in
set_option maxRecDepth 100000 in
theorem rep_l_calls {w0 : World} {g : Nat} {p : Option Addr} {t : Tr} {C : List ByteArray} (h : Rope w0 g p t C) {w : World} (hb : Below w0.heap.size w0 w) (a b : ByteArray) (ha : a.size ≤ 1000) (hb2 : b.size ≤ 1000) (l : List Int) (hl : AllP (ld (cat C)) (ld a) 0 l) :
    Calls Try.prog 14 #[.pointer (some ⟨g, 0, none⟩), .string a, .string b] w (RepPost w (repV a b l)) := by
  have hu30 := Try.underlying30
  have hu78 := Try.underlying78
  have HB := Aside0.mk (Below.refl w.heap.size w)
  have HAL : Aside0 (∀ W, Below w.heap.size w W → Calls Try.prog 23 #[.pointer (some ⟨g, 0, none⟩), .string a] W fun e w' => ∃ A cp, e = .returned (.slice A l.length cp) ∧ Kd.R (Kd.int .i64) 3 w' W.heap.size (fun _ => True) (.slice A l.length cp) l ∧ Below W.heap.size W w') := ⟨fun W h2 => (all_calls h (below_step hb h2) a ha).mono fun e w' ⟨A, cp, l2, h3, h4, h5, h6⟩ => by
    have e2 := all_one h5 hl
    subst e2
    exact ⟨A, cp, h3, h4, h6⟩⟩
  unfold repV
  by_cases c0 : a.toList = ([] : List UInt8)
  · have d0 : (a.toList == ([] : List UInt8)) = true := beq_iff_eq.mpr c0
    rw [if_pos ((Lib.toList_data a).symm.trans c0)]
    clear h hb hl c0 HAL
    go_enter Try.func14, Try.ntmps14
    go_wp2_with (first
      | ((with_reducible refine gate_dst (N := 6) rfl ?_); refine box_event ?hg (N := 6) ?hd (cs := #[.slice none 0 0]) (t := 30) ?hr ?_; (case hd => rfl); (case hg => rfl); (case hr => first | (go_simp; done) | (go_simp; rfl)); intro g6 hg w6 hbox hb; have BK6 : Aside0 (Bs w6 g6 (.slice none 0 0)) := ⟨hbox⟩; have GE6 : Aside0 (w.heap.size ≤ g6) := ⟨by rw [hg]; exact HB.out.size⟩; clear hbox hg; have HB2 := Aside0.mk (below_step HB.out hb); clear HB hb; have HB := HB2; clear HB2)
      | ((with_reducible refine gate_store (t := 30) (p := 6) (v := .tmp 16) rfl ?_); refine Sa.store_whole rfl rfl 30 (.tmp 6) (.tmp 16) rfl g6 #[.slice none 0 0] [(.slice none 0 0)] rfl rfl (by kernel_rfl) BK6.out rfl (by simp [Value.oneCell']) ?_; intro w9 hbox hg; have BK7 : Aside0 (Bs w9 g6 (.slice none 0 0)) := ⟨hbox⟩; have HB2 := Aside0.mk (Sa.grown_below HB.out (below_size HB.out) hg GE6.out); clear HB BK6 hbox hg; have HB := HB2; clear HB2))
    refine bodyPost_ret (results_ct rfl _ _ g6 30 #[.slice none 0 0] (0, 0) _ rfl BK7.out Try.underlying30 rfl (by kernel_rfl)) rfl ?_
    exact ⟨_, rfl, Kd.R_nil _ _ _ _ _, HB.out⟩
  · have d0 : (a.toList == ([] : List UInt8)) = false := beq_eq_false_iff_ne.mpr c0
    rw [if_neg (fun e => c0 ((Lib.toList_data a).trans e))]
    have HVA := Aside0.mk (valid_plain a (by omega))
    have HVB := Aside0.mk (valid_plain b (by omega))
    cases hva : Sp.valid (ld a)
    · rw [hva] at HVA
      rw [if_neg (by decide)]
      clear h hb hl c0 HAL hva
      go_enter Try.func14, Try.ntmps14
      go_wp2_with (first
        | ((with_reducible refine gate_dst (N := 6) rfl ?_); refine box_event ?hg (N := 6) ?hd (cs := #[.slice none 0 0]) (t := 30) ?hr ?_; (case hd => rfl); (case hg => rfl); (case hr => first | (go_simp; done) | (go_simp; rfl)); intro g6 hg w6 hbox hb; have BK6 : Aside0 (Bs w6 g6 (.slice none 0 0)) := ⟨hbox⟩; have GE6 : Aside0 (w.heap.size ≤ g6) := ⟨by rw [hg]; exact HB.out.size⟩; clear hbox hg; have HB2 := Aside0.mk (below_step HB.out hb); clear HB hb; have HB := HB2; clear HB2)
        | (go_at_call 47; (with_reducible refine (HVA.out _).mono ?_); rintro e wv ⟨rfl, hb⟩; have BK9 : Aside0 (Bs wv g6 (.slice none 0 0)) := ⟨blk_below BK6.out hb⟩; clear BK6; have BK6 := BK9; clear BK9; have HB2 := Aside0.mk (below_step HB.out hb); clear HB hb; have HB := HB2; clear HB2)
        | ((with_reducible refine gate_store (t := 30) (p := 6) (v := .tmp 26) rfl ?_); refine Sa.store_whole rfl rfl 30 (.tmp 6) (.tmp 26) rfl g6 #[.slice none 0 0] [(.slice none 0 0)] rfl rfl (by kernel_rfl) BK6.out rfl (by simp [Value.oneCell']) ?_; intro w9 hbox hg; have BK7 : Aside0 (Bs w9 g6 (.slice none 0 0)) := ⟨hbox⟩; have HB2 := Aside0.mk (Sa.grown_below HB.out (below_size HB.out) hg GE6.out); clear HB BK6 hbox hg; have HB := HB2; clear HB2))
      refine bodyPost_ret (results_ct rfl _ _ g6 30 #[.slice none 0 0] (0, 0) _ rfl BK7.out Try.underlying30 rfl (by kernel_rfl)) rfl ?_
      exact ⟨_, rfl, Kd.R_nil _ _ _ _ _, HB.out⟩
    · rw [hva] at HVA
      rw [if_pos rfl]
      cases hvb : Sp.valid (ld b)
      · rw [hvb] at HVB
        rw [if_neg (by decide)]
        clear h hb hl c0 HAL hva hvb
        go_enter Try.func14, Try.ntmps14
        go_wp2_with (first
          | ((with_reducible refine gate_dst (N := 6) rfl ?_); refine box_event ?hg (N := 6) ?hd (cs := #[.slice none 0 0]) (t := 30) ?hr ?_; (case hd => rfl); (case hg => rfl); (case hr => first | (go_simp; done) | (go_simp; rfl)); intro g6 hg w6 hbox hb; have BK6 : Aside0 (Bs w6 g6 (.slice none 0 0)) := ⟨hbox⟩; have GE6 : Aside0 (w.heap.size ≤ g6) := ⟨by rw [hg]; exact HB.out.size⟩; clear hbox hg; have HB2 := Aside0.mk (below_step HB.out hb); clear HB hb; have HB := HB2; clear HB2)
          | (go_at_call 47; (with_reducible refine (HVA.out _).mono ?_); rintro e wv ⟨rfl, hb⟩; have BK9 : Aside0 (Bs wv g6 (.slice none 0 0)) := ⟨blk_below BK6.out hb⟩; clear BK6; have BK6 := BK9; clear BK9; have HB2 := Aside0.mk (below_step HB.out hb); clear HB hb; have HB := HB2; clear HB2; clear HVA)
          | (go_at_call 47; (with_reducible refine (HVB.out _).mono ?_); rintro e wv ⟨rfl, hb⟩; have BK9 : Aside0 (Bs wv g6 (.slice none 0 0)) := ⟨blk_below BK6.out hb⟩; clear BK6; have BK6 := BK9; clear BK9; have HB2 := Aside0.mk (below_step HB.out hb); clear HB hb; have HB := HB2; clear HB2)
          | ((with_reducible refine gate_store (t := 30) (p := 6) (v := .tmp 26) rfl ?_); refine Sa.store_whole rfl rfl 30 (.tmp 6) (.tmp 26) rfl g6 #[.slice none 0 0] [(.slice none 0 0)] rfl rfl (by kernel_rfl) BK6.out rfl (by simp [Value.oneCell']) ?_; intro w9 hbox hg; have BK7 : Aside0 (Bs w9 g6 (.slice none 0 0)) := ⟨hbox⟩; have HB2 := Aside0.mk (Sa.grown_below HB.out (below_size HB.out) hg GE6.out); clear HB BK6 hbox hg; have HB := HB2; clear HB2))
        refine bodyPost_ret (results_ct rfl _ _ g6 30 #[.slice none 0 0] (0, 0) _ rfl BK7.out Try.underlying30 rfl (by kernel_rfl)) rfl ?_
        exact ⟨_, rfl, Kd.R_nil _ _ _ _ _, HB.out⟩
      · rw [hvb] at HVB
        rw [if_pos rfl]
        by_cases c1 : l = []
        · rw [if_pos c1]
          have d1 : ((l.length : Int) == 0) = true := beq_iff_eq.mpr (by rw [c1]; rfl)
          have d1n : (l.length == 0) = true := beq_iff_eq.mpr (by rw [c1]; rfl)
          clear h hb hl c0 hva hvb c1
          go_enter Try.func14, Try.ntmps14
          go_wp2_with (first
            | ((with_reducible refine gate_dst (N := 6) rfl ?_); refine box_event ?hg (N := 6) ?hd (cs := #[.slice none 0 0]) (t := 30) ?hr ?_; (case hd => rfl); (case hg => rfl); (case hr => first | (go_simp; done) | (go_simp; rfl)); intro g6 hg w6 hbox hb; have BK6 : Aside0 (Bs w6 g6 (.slice none 0 0)) := ⟨hbox⟩; have GE6 : Aside0 (w.heap.size ≤ g6) := ⟨by rw [hg]; exact HB.out.size⟩; clear hbox hg; have HB2 := Aside0.mk (below_step HB.out hb); clear HB hb; have HB := HB2; clear HB2)
            | (go_at_call 47; (with_reducible refine (HVA.out _).mono ?_); rintro e wv ⟨rfl, hb⟩; have BK9 : Aside0 (Bs wv g6 (.slice none 0 0)) := ⟨blk_below BK6.out hb⟩; clear BK6; have BK6 := BK9; clear BK9; have HB2 := Aside0.mk (below_step HB.out hb); clear HB hb; have HB := HB2; clear HB2; clear HVA)
            | (go_at_call 47; (with_reducible refine (HVB.out _).mono ?_); rintro e wv ⟨rfl, hb⟩; have BK9 : Aside0 (Bs wv g6 (.slice none 0 0)) := ⟨blk_below BK6.out hb⟩; clear BK6; have BK6 := BK9; clear BK9; have HB2 := Aside0.mk (below_step HB.out hb); clear HB hb; have HB := HB2; clear HB2)
            | (go_at_call 23; (with_reducible refine (HAL.out _ HB.out).mono ?_); rintro e wl ⟨A, cp, rfl, hr, hb⟩; have HRL := Aside0.mk (Kd.R_lower hr HB.out.size); have BK9 : Aside0 (Bs wl g6 (.slice none 0 0)) := ⟨blk_below BK6.out hb⟩; clear hr BK6; have BK6 := BK9; clear BK9; have HB2 := Aside0.mk (below_step HB.out hb); clear HB hb; have HB := HB2; clear HB2)
            | ((with_reducible refine gate_store (t := 30) (p := 6) (v := .tmp 34) rfl ?_); refine Sa.store_whole rfl rfl 30 (.tmp 6) (.tmp 34) rfl g6 #[.slice none 0 0] [(.slice none 0 0)] rfl rfl (by kernel_rfl) BK6.out rfl (by simp [Value.oneCell']) ?_; intro w9 hbox hg; have BK7 : Aside0 (Bs w9 g6 (.slice none 0 0)) := ⟨hbox⟩; have HB2 := Aside0.mk (Sa.grown_below HB.out (below_size HB.out) hg GE6.out); clear HB BK6 hbox hg; have HB := HB2; clear HB2))
          refine bodyPost_ret (results_ct rfl _ _ g6 30 #[.slice none 0 0] (0, 0) _ rfl BK7.out Try.underlying30 rfl (by kernel_rfl)) rfl ?_
          exact ⟨_, rfl, Kd.R_nil _ _ _ _ _, HB.out⟩
        · have hp := List.length_pos_iff.mpr c1
          have d1 : ((l.length : Int) == 0) = false := beq_eq_false_iff_ne.mpr (by omega)
          have d1n : (l.length == 0) = false := beq_eq_false_iff_ne.mpr (by omega)
          rw [if_neg c1]
          by_cases c2 : 32 < l.length
          · rw [if_pos c2]
            have d2 : decide (32 < l.length) = true := decide_eq_true c2
            have d2i : decide (32 < (l.length : Int)) = true := decide_eq_true (by omega)
            clear h hb hl c0 hva hvb c1 c2 hp
            go_enter Try.func14, Try.ntmps14
            go_wp2_with (first
              | ((with_reducible refine gate_dst (N := 6) rfl ?_); refine box_event ?hg (N := 6) ?hd (cs := #[.slice none 0 0]) (t := 30) ?hr ?_; (case hd => rfl); (case hg => rfl); (case hr => first | (go_simp; done) | (go_simp; rfl)); intro g6 hg w6 hbox hb; have BK6 : Aside0 (Bs w6 g6 (.slice none 0 0)) := ⟨hbox⟩; have GE6 : Aside0 (w.heap.size ≤ g6) := ⟨by rw [hg]; exact HB.out.size⟩; clear hbox hg; have HB2 := Aside0.mk (below_step HB.out hb); clear HB hb; have HB := HB2; clear HB2)
              | (go_at_call 47; (with_reducible refine (HVA.out _).mono ?_); rintro e wv ⟨rfl, hb⟩; have BK9 : Aside0 (Bs wv g6 (.slice none 0 0)) := ⟨blk_below BK6.out hb⟩; clear BK6; have BK6 := BK9; clear BK9; have HB2 := Aside0.mk (below_step HB.out hb); clear HB hb; have HB := HB2; clear HB2; clear HVA)
              | (go_at_call 47; (with_reducible refine (HVB.out _).mono ?_); rintro e wv ⟨rfl, hb⟩; have BK9 : Aside0 (Bs wv g6 (.slice none 0 0)) := ⟨blk_below BK6.out hb⟩; clear BK6; have BK6 := BK9; clear BK9; have HB2 := Aside0.mk (below_step HB.out hb); clear HB hb; have HB := HB2; clear HB2)
              | (go_at_call 23; (with_reducible refine (HAL.out _ HB.out).mono ?_); rintro e wl ⟨A, cp, rfl, hr, hb⟩; have HRL := Aside0.mk (Kd.R_lower hr HB.out.size); have BK9 : Aside0 (Bs wl g6 (.slice none 0 0)) := ⟨blk_below BK6.out hb⟩; clear hr BK6; have BK6 := BK9; clear BK9; have HB2 := Aside0.mk (below_step HB.out hb); clear HB hb; have HB := HB2; clear HB2)
              | ((with_reducible refine gate_store (t := 30) (p := 6) (v := .tmp 39) rfl ?_); refine Sa.store_whole rfl rfl 30 (.tmp 6) (.tmp 39) rfl g6 #[.slice none 0 0] [(.slice none 0 0)] rfl rfl (by kernel_rfl) BK6.out rfl (by simp [Value.oneCell']) ?_; intro w9 hbox hg; have BK7 : Aside0 (Bs w9 g6 (.slice none 0 0)) := ⟨hbox⟩; have HB2 := Aside0.mk (Sa.grown_below HB.out (below_size HB.out) hg GE6.out); clear HB BK6 hbox hg; have HB := HB2; clear HB2))
            refine bodyPost_ret (results_ct rfl _ _ g6 30 #[.slice none 0 0] (0, 0) _ rfl BK7.out Try.underlying30 rfl (by kernel_rfl)) rfl ?_
            exact ⟨_, rfl, Kd.R_nil _ _ _ _ _, HB.out⟩
          · rw [if_neg c2]
            have d2 : decide (32 < l.length) = false := decide_eq_false c2
            have d2i : decide (32 < (l.length : Int)) = false := decide_eq_false (by omega)
            have hs := h.s 0
            have hS : (ld (cat C)).length ≤ 5000 := by rw [kt_cat, show kf 0 (cat C) = ((cat C).size : Int) from rfl] at hs; rw [ld_len]; omega
            have hm := all_mem hl (Int.le_refl _)
            have HM : Aside0 (∀ j : Nat, j < l.length → 0 ≤ rd l j ∧ rd l j ≤ 5000) := ⟨fun j hj => by have := hm _ (rd_mem l j hj); omega⟩
            have HL : Aside0 (l.length ≤ 32) := ⟨by omega⟩
            obtain ⟨d, hd⟩ : ∃ d : Int, (b.size : Int) - a.size = d := ⟨_, rfl⟩
            have HD : Aside0 (-1000 ≤ d ∧ d ≤ 1000) := ⟨by omega⟩
            have HDE := Aside0.mk hd
            have wd : wrap64 ((b.size : Int) - (a.size : Int)) = d := by rw [hd]; unfold wrap64; omega
            clear h hb hl c0 hva hvb c1 c2 hp hs hS hm hd ha hb2
            go_enter Try.func14, Try.ntmps14
            go_wp2_with (first
              | ((with_reducible refine gate_dst (N := 6) rfl ?_); refine box_event ?hg (N := 6) ?hd (cs := #[.slice none 0 0]) (t := 30) ?hr ?_; (case hd => rfl); (case hg => rfl); (case hr => first | (go_simp; done) | (go_simp; rfl)); intro g6 hg w6 hbox hb; have BK6 : Aside0 (Bs w6 g6 (.slice none 0 0)) := ⟨hbox⟩; have GE6 : Aside0 (w.heap.size ≤ g6) := ⟨by rw [hg]; exact HB.out.size⟩; clear hbox hg; have HB2 := Aside0.mk (below_step HB.out hb); clear HB hb; have HB := HB2; clear HB2)
              | (go_at_call 47; (with_reducible refine (HVA.out _).mono ?_); rintro e wv ⟨rfl, hb⟩; have BK9 : Aside0 (Bs wv g6 (.slice none 0 0)) := ⟨blk_below BK6.out hb⟩; clear BK6; have BK6 := BK9; clear BK9; have HB2 := Aside0.mk (below_step HB.out hb); clear HB hb; have HB := HB2; clear HB2; clear HVA)
              | (go_at_call 47; (with_reducible refine (HVB.out _).mono ?_); rintro e wv ⟨rfl, hb⟩; have BK9 : Aside0 (Bs wv g6 (.slice none 0 0)) := ⟨blk_below BK6.out hb⟩; clear BK6; have BK6 := BK9; clear BK9; have HB2 := Aside0.mk (below_step HB.out hb); clear HB hb; have HB := HB2; clear HB2)
              | (go_at_call 23; (with_reducible refine (HAL.out _ HB.out).mono ?_); rintro e wl ⟨A, cp, rfl, hr, hb⟩; have HRL := Aside0.mk (Kd.R_lower hr HB.out.size); have BK9 : Aside0 (Bs wl g6 (.slice none 0 0)) := ⟨blk_below BK6.out hb⟩; clear hr BK6; have BK6 := BK9; clear BK9; have HB2 := Aside0.mk (below_step HB.out hb); clear HB hb; have HB := HB2; clear HB2)
              | ((with_reducible refine gate_dst (N := 9) rfl ?_); refine box_event ?hg (N := 9) ?hd (cs := #[.slice none 0 0]) (t := 30) ?hr ?_; (case hd => rfl); (case hg => rfl); (case hr => first | (go_simp; done) | (go_simp; rfl)); intro g9 hg w9 hbox hb; have BK9 : Aside0 (Bs w9 g9 (.slice none 0 0)) := ⟨hbox⟩; have GE9 : Aside0 (w.heap.size ≤ g9 ∧ g6 < g9) := ⟨by rw [hg]; exact ⟨HB.out.size, blk_lt BK6.out⟩⟩; have BK2 : Aside0 (Bs w9 g6 (.slice none 0 0)) := ⟨blk_below BK6.out hb⟩; have HR2 := Aside0.mk (Kd.R_below HRL.out hb); clear BK6 HRL hbox hg; have BK6 := BK2; have HRL := HR2; clear BK2 HR2; have HB2 := Aside0.mk (below_step HB.out hb); clear HB hb; have HB := HB2; clear HB2))
            go_loopg [10, 42] (l.length + 1) (fun kq v10 v42 w' => ∃ (x gr : Int) (A3 : Option Addr) (cp3 : Nat), v10 = .int .i64 gr ∧ v42 = .int .i64 x ∧ Aside0 (0 ≤ x ∧ x ≤ l.length ∧ x + kq = l.length + 1 ∧ gr = x * d) ∧ Aside0 (Bs w' g9 (.slice A3 (edV a b l x.toNat).length cp3)) ∧ Aside0 (Kd.R k78 78 w' w.heap.size (fun _ => True) (.slice A3 (edV a b l x.toNat).length cp3) (edV a b l x.toNat)) ∧ Aside0 (Kd.R (Kd.int .i64) 3 w' w.heap.size (fun _ => True) (.slice A l.length cp) l) ∧ Aside0 (Bs w' g6 (.slice none 0 0)) ∧ Aside0 (Below w.heap.size w w'))
            case atStart => exact ⟨0, 0, none, 0, rfl, rfl, ⟨by omega⟩, BK9, ⟨Kd.R_nil _ _ _ _ _⟩, HRL, BK6, HB⟩
            case round =>
              clear BK9 HRL BK6 HB
              obtain ⟨x, gr, A3, cp3, rfl, rfl, HX, BK9, HE, HRL, BK6, HB⟩ := hrel
              obtain ⟨k2, rfl⟩ : ∃ k2, gk = k2 + 1 := ⟨gk - 1, by have := HX.out; omega⟩
              have y9 : wr.cell? ⟨g9, 0, none⟩ = some (.slice A3 (edV a b l x.toNat).length cp3) := (blk_cell BK9.out 0).trans rfl
              by_cases cx : x < (l.length : Int)
              · have cxb : decide (x < (l.length : Int)) = true := decide_eq_true cx
                have HXX := Aside0.mk cx
                obtain ⟨ad, hA, hcell⟩ := ints_at HRL.out x HX.out.1 cx
                subst hA
                have cxc := eq_true cx
                have p0c := eq_true HX.out.1
                have b0 : decide (0 ≤ x) = true := decide_eq_true HX.out.1
                obtain ⟨y, hy⟩ : ∃ y, rd l x = y := ⟨_, rfl⟩
                have HY : Aside0 (0 ≤ y ∧ y ≤ 5000) := ⟨by
                  have h2 := HM.out x.toNat (by have := HX.out; omega)
                  rw [Int.toNat_of_nonneg HX.out.1, hy] at h2
                  exact h2⟩
                rw [hy] at hcell
                have HG : Aside0 (-32000 ≤ gr ∧ gr ≤ 32000) := ⟨by
                  have h1 : x * d ≤ x * 1000 := Int.mul_le_mul_of_nonneg_left HD.out.2 HX.out.1
                  have h2 : x * (-1000) ≤ x * d := Int.mul_le_mul_of_nonneg_left HD.out.1 HX.out.1
                  have := HX.out
                  have := HL.out
                  omega⟩
                have wy : wrap64 (y + gr) = y + gr := by have := HY.out; have := HG.out; unfold wrap64; omega
                have wg : wrap64 (gr + d) = gr + d := by have := HD.out; have := HG.out; unfold wrap64; omega
                have w1 : wrap64 (x + 1) = x + 1 := by have := HX.out; have := HL.out; unfold wrap64; omega
                have HEQ : Aside0 (edV a b l x.toNat ++ [(⟨y + gr, a, b⟩ : S78)] = edV a b l (x + 1).toNat) := ⟨by
                  rw [show (x + 1).toNat = x.toNat + 1 by have := HX.out; omega, edV_succ, Int.toNat_of_nonneg HX.out.1, hy, HDE.out, HX.out.2.2.2]⟩
                have HLN : Aside0 ((edV a b l x.toNat).length = x.toNat) := ⟨edV_len _ _ _ _⟩
                have HYE := Aside0.mk hy
                clear cx hy
                go_wp2_with (first
                  | ((with_reducible refine gate_builtin (b := .append) (xs := #[.tmp 47, .tmp 54]) rfl ?_); at_builtin; refine Kd.R_append k78 (w0 := w) w.heap.size rfl (.tmp 47) (.tmp 54) 28 78 (.agg #[.int .i64 0, .string ⟨#[]⟩, .string ⟨#[]⟩]) 40 rfl Try.underlying28 info78 rfl (by decide) (by omega) (.slice A3 (edV a b l x.toNat).length cp3) (edV a b l x.toNat) (⟨y + gr, a, b⟩ : S78) [.int .i64 (y + gr), .string a, .string b] (fun _ => True) (fun _ => False) rfl rfl ?aP (fun _ hk => hk.elim) (fun _ _ => trivial) HE.out HB.out HB.out.size (by have := HX.out; have := HL.out; have := HLN.out; omega) ?_; (case aP => exact k78_mkM _ _ _ _); intro v2 w4 ho hb hgr hat; obtain ⟨A4, cp4, rfl⟩ := Kd.R_slice ho; have HO := Aside0.mk ho; have HB4 := Aside0.mk hb; have BK9n : Aside0 (Bs w4 g9 (.slice A3 (edV a b l x.toNat).length cp3)) := ⟨(hgr.block g9 (blk_lt BK9.out) (Kd.R_ne HE.out BK9.out (by decide))).trans BK9.out⟩; have BK6n : Aside0 (Bs w4 g6 (.slice none 0 0)) := ⟨(hgr.block g6 (blk_lt BK6.out) (Kd.R_ne HE.out BK6.out (by decide))).trans BK6.out⟩; have HRLn : Aside0 (Kd.R (Kd.int .i64) 3 w4 w.heap.size (fun _ => True) (.slice (some ad) l.length cp) l) := ⟨Kd.R_grown2 HRL.out rfl hgr (fun k hk => by obtain ⟨inner, ho2⟩ := Kd.R_own HE.out; obtain ⟨cells, hc⟩ := own_typed ho2 k hk; exact Kd.R_ne HRL.out hc (by decide))⟩; have z9 := bs_cell BK9n.out; have z9f := bs_fr BK9n.out; clear ho hb hgr hat HE HB BK9 BK6 HRL y9))
                go_roundg k2
                case measure => omega
                case rel =>
                  have he := HEQ.out
                  have ho := HO.out
                  rw [he] at ho
                  refine ⟨x + 1, gr + d, A4, cp4, ?_, ?_, ⟨?_⟩, ⟨?_⟩, ⟨Kd.R_set ho BK9n.out (by decide) 0 _⟩, ⟨Kd.R_set HRLn.out BK9n.out (by decide) 0 _⟩, ⟨bs_far BK6n.out (by have := GE9.out; omega) 0 _⟩, ⟨HB4.out.setCell (p := ⟨g9, 0, none⟩) GE9.out.1 _⟩⟩
                  · first | rfl | rw [wg]
                  · first | rfl | rw [w1]
                  · have := HX.out; have := HXX.out; have e : (x + 1) * d = x * d + d := by rw [Int.add_mul, Int.one_mul]
                    rw [e]; omega
                  · have e2 : (edV a b l (x + 1).toNat).length = (edV a b l x.toNat).length + 1 := by rw [← he, List.length_append, List.length_singleton]
                    rw [e2]; exact bs_put BK9n.out _
              · have cxb : decide (x < (l.length : Int)) = false := decide_eq_false cx
                have hx : x.toNat = l.length := by have := HX.out; omega
                have y6 : wr.cell? ⟨g6, 0, none⟩ = some (.slice none 0 0) := (blk_cell BK6.out 0).trans rfl
                have f6 : wr.frozen? ⟨g6, 0, none⟩ = false := by simp [World.frozen?, show wr.heap[g6]? = _ from BK6.out]
                clear cx
                go_wp2
                rw [hx] at HE BK9
                refine bodyPost_ret (results_ct rfl _ _ g6 30 #[.slice A3 (edV a b l l.length).length cp3] (0, 0) _ rfl (bs_put BK6.out _) Try.underlying30 rfl (by kernel_rfl)) rfl ?_
                exact ⟨_, rfl, Kd.R_set HE.out BK6.out (by decide) 0 _, HB.out.setCell (p := ⟨g6, 0, none⟩) GE6.out _⟩
end Go.Proofs.Ytdcnoiofimngpaa.Hr
