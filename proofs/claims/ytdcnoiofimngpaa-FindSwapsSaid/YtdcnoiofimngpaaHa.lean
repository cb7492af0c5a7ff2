import Derived.Test.YtdcnoiofimngpaaHp
import Derived.Deep.QuietTactic
import Derived.BigQuiet
import Derived.Test.YtdcnoiofimngpaaHr
/- The document's Apply and Run, where the edits are right. -/
namespace Go.Proofs.Ytdcnoiofimngpaa.Ha
open Go.RowKit Go.Proofs.Ytdcnoiofimngpaa.U Go.Proofs.Ytdcnoiofimngpaa.QH Go.Proofs.Ytdcnoiofimngpaa.Kt Go.Proofs.Ytdcnoiofimngpaa.Kh Go.Proofs.Ytdcnoiofimngpaa.Kj Go.Proofs.Ytdcnoiofimngpaa.Gs Go.Proofs.Ytdcnoiofimngpaa.Gr Go.Proofs.Ytdcnoiofimngpaa.Wl Go.Proofs.Ytdcnoiofimngpaa.Fn Go.Proofs.Ytdcnoiofimngpaa.Fa Go.Proofs.Ytdcnoiofimngpaa.Hp Go.Proofs.YtdcnoiofimngpaaW.PrintWords Go.Proofs.YtdcnoiofimngpaaW.PrintLast Go.Proofs.YtdcnoiofimngpaaW.PrintMore
set_option linter.unusedVariables false
set_option linter.unusedSimpArgs false
set_option maxHeartbeats 8000000 in
set_option maxRecDepth 100000 in
theorem apply_ok (w : World) (T O V : ByteArray) (x : Int) (h0 : 0 ≤ x) (h1 : x + O.size ≤ T.size) (hT : T.size ≤ 5000) (hV : V.size ≤ 1000) (he : (T.extract x.toNat (x + O.size).toNat).toList = O.toList) (g1 : Sp.edge (ld T) x = true) (g2 : Sp.edge (ld T) (x + O.size) = true) (vO : Sp.valid (ld O) = true) (vV : Sp.valid (ld V) = true) (hm : T.size + V.size ≤ 4096 + O.size) :
    Calls Try.prog 49 #[.string T, .agg #[.int .i64 x, .string O, .string V]] w fun e w' => e = .returned (.tuple #[.string (T.extract 0 x.toNat ++ V ++ T.extract (x + O.size).toNat T.size), .int .i64 0]) ∧ Below w.heap.size w w' := by
  have hu78 := Try.underlying78
  have HB := Aside0.mk (Below.refl w.heap.size w)
  have HE1 : Aside0 (∀ W, Calls Try.prog 58 #[.string T, .int .i64 x] W fun e w' => e = .returned (.bool true) ∧ Below W.heap.size W w') := ⟨fun W => (stylusref01_Edge.calls T x true W (by unfold stylusref01_Edge.f; exact congrArg some g1)).mono fun e w' ⟨h1, h2⟩ => ⟨h1, h2.below⟩⟩
  obtain ⟨y, hy⟩ : ∃ y, x + (O.size : Int) = y := ⟨_, rfl⟩
  rw [hy] at he g2 h1 ⊢
  have HE2 : Aside0 (∀ W, Calls Try.prog 58 #[.string T, .int .i64 y] W fun e w' => e = .returned (.bool true) ∧ Below W.heap.size W w') := ⟨fun W => (stylusref01_Edge.calls T y true W (by unfold stylusref01_Edge.f; exact congrArg some g2)).mono fun e w' ⟨h1, h2⟩ => ⟨h1, h2.below⟩⟩
  have HV1 : Aside0 (∀ W, Calls Try.prog 11 #[.string O] W fun e w' => e = .returned (.bool true) ∧ Below W.heap.size W w') := ⟨fun W => stylusref01_Valid.calls O true W (by unfold stylusref01_Valid.f; rw [if_pos (by omega)]; exact congrArg some vO)⟩
  have HV2 : Aside0 (∀ W, Calls Try.prog 11 #[.string V] W fun e w' => e = .returned (.bool true) ∧ Below W.heap.size W w') := ⟨fun W => stylusref01_Valid.calls V true W (by unfold stylusref01_Valid.f; rw [if_pos (by omega)]; exact congrArg some vV)⟩
  have wy : wrap64 (x + (O.size : Int)) = y := by rw [hy]; unfold wrap64; omega
  have wx : wrap64 ((T.size : Int) - x) = T.size - x := by unfold wrap64; omega
  have wm : wrap64 (wrap64 ((T.size : Int) - (O.size : Int)) + (V.size : Int)) = T.size - O.size + V.size := by unfold wrap64; omega
  have d1 : decide (x < 0) = false := decide_eq_false (by omega)
  have d2 : decide ((T.size : Int) < x) = false := decide_eq_false (by omega)
  have d3 : decide ((T.size : Int) - x < (O.size : Int)) = false := decide_eq_false (by omega)
  have d4 : decide (4096 < (T.size : Int) - (O.size : Int) + (V.size : Int)) = false := decide_eq_false (by omega)
  have q0 : 0 ≤ x := h0
  have q1 : x ≤ y := by omega
  have q2 : y ≤ (T.size : Int) := h1
  have q3 : x ≤ (T.size : Int) := by omega
  have q4 : 0 ≤ y := by omega
  have e0 := eq_true q0
  have e1 := eq_true q1
  have e2 := eq_true q2
  have e3 := eq_true q3
  have e4 := eq_true q4
  have f0 : decide (0 ≤ x) = true := decide_eq_true q0
  have f1 : decide (x ≤ y) = true := decide_eq_true q1
  have f2 : decide (y ≤ (T.size : Int)) = true := decide_eq_true q2
  have f3 : decide (x ≤ (T.size : Int)) = true := decide_eq_true q3
  have f4 : decide (0 ≤ y) = true := decide_eq_true q4
  have hq : ((T.extract x.toNat y.toNat).toList != O.toList) = false := by rw [he]; exact bne_self_eq_false _
  have hq2 : ((T.extract x.toNat y.toNat).toList == O.toList) = true := by rw [he]; exact beq_self_eq_true _
  have z1 : (T.extract 0 x.toNat).size = x.toNat := by rw [ByteArray.size_extract]; omega
  have z2 : (T.extract y.toNat T.size).size = T.size - y.toNat := by rw [ByteArray.size_extract]; omega
  obtain ⟨Pr, hPr⟩ : ∃ Pr, T.extract 0 x.toNat = Pr := ⟨_, rfl⟩
  obtain ⟨Re, hRe⟩ : ∃ Re, T.extract y.toNat T.size = Re := ⟨_, rfl⟩
  rw [hPr] at z1 ⊢
  rw [hRe] at z2 ⊢
  have m1 : (9223372036854775807 < Pr.size + V.size) = False := eq_false (by omega)
  have m2 : (9223372036854775807 < Pr.size + V.size + Re.size) = False := eq_false (by omega)
  clear g1 g2 vO vV hm he h0 h1 hT hV z1 z2 hy
  go_enter Try.func49, Try.ntmps49
  go_wp2_with (first
    | ((with_reducible refine gate_dst (N := 3) rfl ?_); refine box_event ?hg (N := 3) ?hd (cs := #[.int .i64 x, .string O, .string V]) (t := 78) ?hr ?_; (case hd => rfl); (case hg => rfl); (case hr => first | (go_simp; done) | (go_simp; rfl)); intro g3 hg w2 hbox hb; have BK := Aside0.mk hbox; have k0 : w2.cell? ⟨g3, 0, none⟩ = some (.int .i64 x) := (blk_cell hbox 0).trans rfl; have k1 : w2.cell? ⟨g3, 1, none⟩ = some (.string O) := (blk_cell hbox 1).trans rfl; have k2 : w2.cell? ⟨g3, 2, none⟩ = some (.string V) := (blk_cell hbox 2).trans rfl; have HB2 := Aside0.mk (below_step HB.out hb); clear HB hb hbox hg; have HB := HB2; clear HB2)
    | (go_at_call 11; (with_reducible refine (HV1.out _).mono ?_); rintro e w5 ⟨rfl, hb⟩; have BKn := Aside0.mk (show w5.heap[g3]? = some (.cells #[.int .i64 x, .string O, .string V] 78 (0, 0)) from by first | exact blk_below BK.out hb | exact blk_below (blk_drewN BK.out _) hb); have k0n : w5.cell? ⟨g3, 0, none⟩ = some (.int .i64 x) := (blk_cell BKn.out 0).trans rfl; have k1n : w5.cell? ⟨g3, 1, none⟩ = some (.string O) := (blk_cell BKn.out 1).trans rfl; have k2n : w5.cell? ⟨g3, 2, none⟩ = some (.string V) := (blk_cell BKn.out 2).trans rfl; clear k0 k1 k2 BK HV1; have k0 := k0n; have k1 := k1n; have k2 := k2n; have BK := BKn; clear k0n k1n k2n BKn; have HB2 : Aside0 (Below w.heap.size w w5) := ⟨by first | exact below_step HB.out hb | exact below_step (pw_below_drewN HB.out _) hb⟩; clear HB hb; have HB := HB2; clear HB2)
    | (go_at_call 11; (with_reducible refine (HV2.out _).mono ?_); rintro e w6 ⟨rfl, hb⟩; have BKn := Aside0.mk (show w6.heap[g3]? = some (.cells #[.int .i64 x, .string O, .string V] 78 (0, 0)) from by first | exact blk_below BK.out hb | exact blk_below (blk_drewN BK.out _) hb); have k0n : w6.cell? ⟨g3, 0, none⟩ = some (.int .i64 x) := (blk_cell BKn.out 0).trans rfl; have k1n : w6.cell? ⟨g3, 1, none⟩ = some (.string O) := (blk_cell BKn.out 1).trans rfl; have k2n : w6.cell? ⟨g3, 2, none⟩ = some (.string V) := (blk_cell BKn.out 2).trans rfl; clear k0 k1 k2 BK HV2; have k0 := k0n; have k1 := k1n; have k2 := k2n; have BK := BKn; clear k0n k1n k2n BKn; have HB2 : Aside0 (Below w.heap.size w w6) := ⟨by first | exact below_step HB.out hb | exact below_step (pw_below_drewN HB.out _) hb⟩; clear HB hb; have HB := HB2; clear HB2)
    | (go_at_call 58; (with_reducible refine (HE1.out _).mono ?_); rintro e w3 ⟨rfl, hb⟩; have BKn := Aside0.mk (show w3.heap[g3]? = some (.cells #[.int .i64 x, .string O, .string V] 78 (0, 0)) from by first | exact blk_below BK.out hb | exact blk_below (blk_drewN BK.out _) hb); have k0n : w3.cell? ⟨g3, 0, none⟩ = some (.int .i64 x) := (blk_cell BKn.out 0).trans rfl; have k1n : w3.cell? ⟨g3, 1, none⟩ = some (.string O) := (blk_cell BKn.out 1).trans rfl; have k2n : w3.cell? ⟨g3, 2, none⟩ = some (.string V) := (blk_cell BKn.out 2).trans rfl; clear k0 k1 k2 BK HE1; have k0 := k0n; have k1 := k1n; have k2 := k2n; have BK := BKn; clear k0n k1n k2n BKn; have HB2 : Aside0 (Below w.heap.size w w3) := ⟨by first | exact below_step HB.out hb | exact below_step (pw_below_drewN HB.out _) hb⟩; clear HB hb; have HB := HB2; clear HB2)
    | (go_at_call 58; (with_reducible refine (HE2.out _).mono ?_); rintro e w4 ⟨rfl, hb⟩; have BKn := Aside0.mk (show w4.heap[g3]? = some (.cells #[.int .i64 x, .string O, .string V] 78 (0, 0)) from by first | exact blk_below BK.out hb | exact blk_below (blk_drewN BK.out _) hb); have k0n : w4.cell? ⟨g3, 0, none⟩ = some (.int .i64 x) := (blk_cell BKn.out 0).trans rfl; have k1n : w4.cell? ⟨g3, 1, none⟩ = some (.string O) := (blk_cell BKn.out 1).trans rfl; have k2n : w4.cell? ⟨g3, 2, none⟩ = some (.string V) := (blk_cell BKn.out 2).trans rfl; clear k0 k1 k2 BK HE2; have k0 := k0n; have k1 := k1n; have k2 := k2n; have BK := BKn; clear k0n k1n k2n BKn; have HB2 : Aside0 (Below w.heap.size w w4) := ⟨by first | exact below_step HB.out hb | exact below_step (pw_below_drewN HB.out _) hb⟩; clear HB hb; have HB := HB2; clear HB2)
    | (go_quiet (fail)))
  go_ret2
  exact ⟨rfl, pw_below_drewN HB.out _⟩
/-! ### plain: an edit that is right -/
theorem head_ncont {y : UInt8} {t : List UInt8} (h : Sp.valid (y :: t) = true) : Sp.cont y = false := by
  rw [Sp.valid_step _ (by simp), Bool.and_eq_true] at h
  obtain ⟨u, h1, h2, h3⟩ := Sp.dec_some (of_decide_eq_true h.1)
  obtain ⟨x, v, h4, h5, h6⟩ := Sp.enc_cont h1
  rw [h4] at h3
  injection h3 with h3 _
  rw [h3]; exact h5
theorem edge_join (P Q : List UInt8) (hQ : Sp.valid Q = true) : Sp.edge (P ++ Q) (P.length : Int) = true := by
  unfold Sp.edge
  rw [decide_eq_true (show (0 : Int) ≤ P.length by omega), decide_eq_true (show (P.length : Int) ≤ ((P ++ Q).length : Nat) by rw [List.length_append]; omega)]
  cases Q with
  | nil => simp
  | cons y t =>
    have h := head_ncont hQ
    have e : (P ++ y :: t).getD (P.length : Int).toNat 0 = y := by
      rw [Int.toNat_natCast, List.getD_eq_getElem?_getD, List.getElem?_append_right (Nat.le_refl _), Nat.sub_self]; rfl
    rw [e, h]; simp
structure OkE (T : List UInt8) (e : S78) (T' : List UInt8) : Prop where
  out : ∃ P R, T = P ++ (ld e.f1 ++ R) ∧ e.f0 = (P.length : Int) ∧ T' = P ++ (ld e.f2 ++ R) ∧ Sp.valid R = true
  v1 : Sp.valid (ld e.f1) = true
  v2 : Sp.valid (ld e.f2) = true
  l1 : T.length ≤ 4096
  l2 : T'.length ≤ 4096
  b1 : e.f1.size ≤ 1000
  b2 : e.f2.size ≤ 1000
def inv (e : S78) : S78 := ⟨e.f0, e.f2, e.f1⟩
theorem OkE.back {T T' : List UInt8} {e : S78} (h : OkE T e T') : OkE T' (inv e) T :=
  ⟨by obtain ⟨P, R, h1, h2, h3, h4⟩ := h.out; exact ⟨P, R, h3, h2, h1, h4⟩, h.v2, h.v1, h.l2, h.l1, h.b2, h.b1⟩
inductive Steps : List UInt8 → List S78 → List UInt8 → Prop
  | nil (T : List UInt8) : Steps T [] T
  | cons {T T1 T' : List UInt8} (e : S78) (l : List S78) (h : OkE T e T1) (r : Steps T1 l T') : Steps T (e :: l) T'
theorem Steps.nil_eq {T T' : List UInt8} (h : Steps T [] T') : T = T' := by cases h; rfl
theorem Steps.snoc {T T1 T' : List UInt8} {l : List S78} {e : S78} (h : Steps T l T1) (r : OkE T1 e T') : Steps T (l ++ [e]) T' := by
  induction h with
  | nil T => exact .cons _ _ r (.nil _)
  | cons e l h _ ih => exact .cons _ _ h (ih r)
theorem Steps.back {T T' : List UInt8} {l : List S78} (h : Steps T l T') : Steps T' (l.map inv).reverse T := by
  induction h with
  | nil T => exact .nil _
  | cons e l h _ ih =>
    rw [List.map_cons, List.reverse_cons]
    exact ih.snoc h.back
theorem ld_mk (l : List UInt8) : ld ⟨l.toArray⟩ = l := rfl
theorem apply_calls {T : ByteArray} {e : S78} {T' : List UInt8} (h : OkE (ld T) e T') (w : World) :
    Calls Try.prog 49 #[.string T, .agg #[.int .i64 e.f0, .string e.f1, .string e.f2]] w fun r w' => ∃ t, r = .returned (.tuple #[.string t, .int .i64 0]) ∧ ld t = T' ∧ Below w.heap.size w w' := by
  obtain ⟨⟨P, R, h1, h2, h3, h4⟩, v1, v2, l1, l2, b1, b2⟩ := h
  have hl := congrArg List.length h1
  rw [ld_len, List.length_append, List.length_append, ld_len] at hl
  rw [ld_len] at l1
  rw [h3, List.length_append, List.length_append, ld_len] at l2
  have hx : (e.f0 + (e.f1.size : Int)).toNat = P.length + e.f1.size := by omega
  have hx0 : e.f0.toNat = P.length := by omega
  have hp : ld (T.extract 0 P.length) = P := by rw [Gc.ld_take, h1, List.take_left']; rfl
  have hr : ld (T.extract (P.length + e.f1.size) T.size) = R := by
    rw [Gc.ld_drop, h1, ← List.append_assoc, List.drop_left']; rw [List.length_append, ld_len]
  refine (apply_ok w T e.f1 e.f2 e.f0 (by omega) (by omega) (by omega) b2 ?_ ?_ ?_ v1 v2 (by omega)).mono ?_
  · rw [hx, hx0, Lib.toList_data, Lib.toList_data]
    show ld (T.extract _ _) = ld e.f1
    rw [Gc.ld_extract, List.extract_eq_take_drop, h1, Nat.add_sub_cancel_left, List.drop_left', List.take_left']
    · exact ld_len _
    · rfl
  · rw [h1, h2]
    exact edge_join _ _ (by rw [Sp.valid_app v1]; exact h4)
  · rw [h1, ← List.append_assoc, show e.f0 + (e.f1.size : Int) = ((P ++ ld e.f1).length : Int) by rw [List.length_append, ld_len]; omega]
    exact edge_join _ _ h4
  · rintro r w' ⟨rfl, hb⟩
    refine ⟨_, rfl, ?_, hb⟩
    rw [hx, hx0, Gc.ld_app, Gc.ld_app, hp, hr, h3, List.append_assoc]
set_option maxHeartbeats 8000000 in
set_option maxRecDepth 100000 in
theorem run_ok (w : World) (T : ByteArray) (A : Option Addr) (cp : Nat) (l : List S78) (T' : ByteArray) (hC : Kd.C k78 w A l.length l) (hcp : l.length ≤ cp) (hl : l.length ≤ 1000) (h : Steps (ld T) l (ld T')) :
    Calls Try.prog 17 #[.string T, .agg #[.slice A l.length cp]] w fun e w' => e = .returned (.tuple #[.string T', .int .i64 0]) ∧ Below w.heap.size w w' := by
  have hu78 := Try.underlying78
  have hu30 := Try.underlying30
  have HB := Aside0.mk (Below.refl w.heap.size w)
  have HC := Aside0.mk hC
  have HL := Aside0.mk hl
  have HST : Aside0 (Steps (ld T) (l.drop 0) (ld T')) := ⟨by rw [List.drop_zero]; exact h⟩
  clear hC hl h
  go_enter Try.func17, Try.ntmps17
  go_wp2_with ((with_reducible refine gate_dst (N := 3) rfl ?_); refine box_event ?hg (N := 3) ?hd (cs := #[.slice A l.length cp]) (t := 30) ?hr ?_; (case hd => rfl); (case hg => rfl); (case hr => first | (go_simp; done) | (go_simp; rfl)); intro g3 hg w2 hbox hb; have BK : Aside0 (w2.heap[g3]? = some (.cells #[.slice A l.length cp] 30 (0, 0))) := ⟨hbox⟩; have HB2 := Aside0.mk (below_step HB.out hb); clear HB hb hbox hg; have HB := HB2; clear HB2)
  go_loopg [0, 6] (l.length + 1) (fun kq v0 v6 w' => ∃ (t : ByteArray) (i : Int), v0 = .string t ∧ v6 = .int .i64 i ∧ Aside0 (0 ≤ i ∧ i ≤ l.length ∧ i + kq = l.length + 1) ∧ Aside0 (Steps (ld t) (l.drop i.toNat) (ld T')) ∧ Aside0 (w'.heap[g3]? = some (.cells #[.slice A l.length cp] 30 (0, 0))) ∧ Aside0 (Below w.heap.size w w'))
  case atStart => exact ⟨T, 0, rfl, rfl, ⟨by omega⟩, HST, BK, HB⟩
  case round =>
    clear BK HB HST
    obtain ⟨t, i, rfl, rfl, HI, HST, BK, HB⟩ := hrel
    obtain ⟨k2, rfl⟩ : ∃ k2, gk = k2 + 1 := ⟨gk - 1, by have := HI.out; omega⟩
    have k0 : wr.cell? ⟨g3, 0, none⟩ = some (.slice A l.length cp) := (blk_cell BK.out 0).trans rfl
    by_cases c : i < (l.length : Int)
    · have cb : decide (i < (l.length : Int)) = true := decide_eq_true c
      obtain ⟨ad, hA, y0, y1, y2⟩ := at_T78 (Kd.C_below HC.out HB.out) i HI.out.1 c
      subst hA
      have p0c := eq_true HI.out.1
      have cxc := eq_true c
      have b0 : decide (0 ≤ i) = true := decide_eq_true HI.out.1
      obtain ⟨el, hel⟩ : ∃ el, rd_T78 l i = el := ⟨_, rfl⟩
      rw [hel] at y0 y1 y2
      have hd : l.drop i.toNat = el :: l.drop (i + 1).toNat := by
        have hi : i.toNat < l.length := by have := HI.out; omega
        rw [List.drop_eq_getElem_cons hi, show (i + 1).toNat = i.toNat + 1 by have := HI.out; omega, ← hel]
        unfold rd_T78
        rw [List.getD_eq_getElem?_getD, List.getElem?_eq_getElem hi]; rfl
      have hst := HST.out
      rw [hd] at hst
      obtain ⟨T1, ho, hr⟩ : ∃ T1, OkE (ld t) el T1 ∧ Steps T1 (l.drop (i + 1).toNat) (ld T') := by
        cases hst with
        | cons _ _ ho hr => exact ⟨_, ho, hr⟩
      have HCI := Aside0.mk c
      have HAP := Aside0.mk (apply_calls ho)
      have HRS := Aside0.mk hr
      have w1 : wrap64 (i + 1) = i + 1 := by have := HI.out; have := HL.out; unfold wrap64; omega
      clear hst hd hel ho hr c
      go_wp2_with (go_at_call 49; (with_reducible refine (HAP.out _).mono ?_); rintro e w3 ⟨t2, rfl, ht, hb⟩; have HT2 := Aside0.mk ht; have BKn := Aside0.mk (blk_below BK.out hb); have HB2 := Aside0.mk (below_step HB.out hb); clear BK HB hb ht k0 y0 y1 y2 HAP; have BK := BKn; have HB := HB2; clear BKn HB2)
      go_roundg k2
      case measure => omega
      case rel => exact ⟨t2, i + 1, rfl, by first | rfl | rw [w1], ⟨by have := HI.out; have := HCI.out; omega⟩, ⟨by rw [HT2.out]; exact HRS.out⟩, BK, HB⟩
    · have cb : decide (i < (l.length : Int)) = false := decide_eq_false c
      have hst := HST.out
      rw [List.drop_eq_nil_of_le (by have := HI.out; omega)] at hst
      have ht : t = T' := ld_ext (Steps.nil_eq hst)
      subst ht
      clear hst c
      go_wp2
      go_ret2
      exact ⟨rfl, HB.out⟩
end Go.Proofs.Ytdcnoiofimngpaa.Ha
/- The edits of Replace, one after the other; the document's Swap and Inverse in plain words. -/
namespace Go.Proofs.Ytdcnoiofimngpaa.Hb
open Go.RowKit Go.Proofs.Ytdcnoiofimngpaa.U Go.Proofs.Ytdcnoiofimngpaa.QH Go.Proofs.Ytdcnoiofimngpaa.Kh Go.Proofs.Ytdcnoiofimngpaa.Kj Go.Proofs.Ytdcnoiofimngpaa.Fn Go.Proofs.Ytdcnoiofimngpaa.Fa Go.Proofs.Ytdcnoiofimngpaa.Hp Go.Proofs.Ytdcnoiofimngpaa.Ha Go.Proofs.YtdcnoiofimngpaaW.PrintWords
set_option linter.unusedVariables false
set_option linter.unusedSimpArgs false
/-- each place replaced at once -/
def swapB (s a b : ByteArray) : ByteArray → Int → List Int → ByteArray
  | out, f, [] => out ++ s.extract f.toNat s.size
  | out, f, x :: l => swapB s a b (out ++ s.extract f.toNat x.toNat ++ b) (x + a.size) l
/-- the edits, from a place on; gr: what the text has grown -/
def edF (a b : ByteArray) : Int → List Int → List S78
  | _, [] => []
  | gr, x :: l => ⟨x + gr, a, b⟩ :: edF a b (gr + ((b.size : Int) - a.size)) l
theorem edF_eq (a b : ByteArray) : ∀ (l : List Int) (gr : Int), edF a b gr l = (List.range l.length).map fun (j : Nat) => (⟨rd l j + (gr + j * ((b.size : Int) - a.size)), a, b⟩ : S78)
  | [], gr => rfl
  | x :: l, gr => by
    rw [edF, edF_eq a b l, List.length_cons, List.range_succ_eq_map, List.map_cons, List.map_map]
    congr 1
    · show (⟨x + gr, a, b⟩ : S78) = ⟨x + (gr + ((0 : Nat) : Int) * _), a, b⟩
      rw [Int.ofNat_zero, Int.zero_mul, Int.add_zero]
    · apply List.map_congr_left
      intro j _
      show (⟨rd l j + (gr + ((b.size : Int) - a.size) + j * ((b.size : Int) - a.size)), a, b⟩ : S78) = ⟨rd (x :: l) ((j + 1 : Nat) : Int) + (gr + ((j + 1 : Nat) : Int) * ((b.size : Int) - a.size)), a, b⟩
      have e : rd (x :: l) ((j + 1 : Nat) : Int) = rd l j := by
        unfold rd
        rw [Int.toNat_natCast, Int.toNat_natCast]; rfl
      rw [e, show ((j + 1 : Nat) : Int) = (j : Int) + 1 by omega, Int.add_mul, Int.one_mul]
      congr 2
      omega
theorem edF_edV (a b : ByteArray) (l : List Int) : edF a b 0 l = edV a b l l.length := by
  rw [edF_eq]
  unfold edV
  apply List.map_congr_left
  intro j _
  rw [Int.zero_add]
theorem hit_drop {S A : List UInt8} {i : Nat} (h : hit S A i) : S.drop i = A ++ S.drop (i + A.length) := by
  have e := List.take_append_drop A.length (S.drop i)
  rw [show (S.drop i).take A.length = A from h, List.drop_drop] at e
  exact e.symm
theorem run_all (s a b : ByteArray) (va : Sp.valid (ld a) = true) (vb : Sp.valid (ld b) = true) (ha : a.size ≤ 100) (hb : b.size ≤ 100) {f : Int} {l : List Int} (h : AllP (ld s) (ld a) f l) :
    ∀ (gr : Int) (out : ByteArray), 0 ≤ f → f ≤ s.size → Sp.valid (ld out) = true → Sp.valid ((ld s).drop f.toNat) = true → (out.size : Int) = f + gr → (out.size : Int) + s.size + l.length * 100 ≤ 4096 + f →
      Ha.Steps (ld out ++ (ld s).drop f.toNat) (edF a b gr l) (ld (swapB s a b out f l)) := by
  induction h with
  | nil f h =>
    intro gr out h0 h1 vo vs hg hm
    rw [edF, swapB, Gc.ld_app, Gc.ld_drop]
    exact .nil _
  | cons f x l h r ih =>
    intro gr out h0 h1 vo vs hg hm
    obtain ⟨a1, a2, a3, a4⟩ := next_in_ h
    rw [List.length_cons] at hm
    rw [ld_len] at a4
    rw [ld_len, ld_len] at a3
    obtain ⟨i, hi, hh⟩ : ∃ i : Nat, x = i ∧ hit (ld s) (ld a) i := by
      rcases h with ⟨_, _, i, h2, _, h3, _⟩ | ⟨h2, _⟩
      · exact ⟨i, h2, h3⟩
      · cases h2
    have e1 := hit_drop hh
    obtain ⟨P, hP⟩ : ∃ P, ld (s.extract f.toNat x.toNat) = P := ⟨_, rfl⟩
    obtain ⟨R, hR⟩ : ∃ R, (ld s).drop (i + (ld a).length) = R := ⟨_, rfl⟩
    have hPl : P.length = x.toNat - f.toNat := by
      rw [← hP, ld_len, ByteArray.size_extract]; omega
    have e2 : (ld s).drop f.toNat = P ++ (ld a ++ R) := by
      rw [← hR, ← e1, ← hP, Gc.ld_extract, List.extract_eq_take_drop]
      have e := List.take_append_drop (x.toNat - f.toNat) ((ld s).drop f.toNat)
      rw [List.drop_drop, show f.toNat + (x.toNat - f.toNat) = i by omega] at e
      exact e.symm
    rw [e2] at vs ⊢
    obtain ⟨y, t, hA⟩ : ∃ y t, ld a = y :: t := by
      cases hq : ld a with
      | nil => have := ld_len a; rw [hq] at this; simp at this; omega
      | cons y t => exact ⟨y, t, rfl⟩
    have hy : Sp.cont y = false := head_ncont (by rw [← hA]; exact va)
    have vP : Sp.valid P = true := by
      have vs2 := vs
      rw [hA] at vs2
      exact Sp.valid_front P.length P y (t ++ R) (Nat.le_refl _) hy vs2
    have vR : Sp.valid R = true := by rw [Sp.valid_app vP, Sp.valid_app va] at vs; exact vs
    have hRl : R.length = s.size - (i + a.size) := by rw [← hR, List.length_drop, ld_len, ld_len]
    have ho : ld (out ++ s.extract f.toNat x.toNat ++ b) = ld out ++ (P ++ ld b) := by rw [Gc.ld_app, Gc.ld_app, hP, List.append_assoc]
    have hos : (out ++ s.extract f.toNat x.toNat ++ b).size = out.size + (x.toNat - f.toNat) + b.size := by
      rw [← ld_len, ho, List.length_append, List.length_append, ld_len, ld_len, hPl]; omega
    have hnx : (x + (a.size : Int)).toNat = i + (ld a).length := by rw [ld_len]; omega
    have k1 := ih (gr + ((b.size : Int) - a.size)) (out ++ s.extract f.toNat x.toNat ++ b)
    rw [show (x + ((ld a).length : Int)) = x + (a.size : Int) by rw [ld_len], hnx, hR] at k1
    have k2 := k1 (by omega) (by omega) (by rw [ho, Sp.valid_app vo, Sp.valid_app vP]; exact vb) vR (by rw [hos]; omega) (by rw [hos]; omega)
    rw [edF, swapB]
    refine .cons _ _ (T1 := ld out ++ P ++ (ld b ++ R)) ⟨⟨ld out ++ P, R, ?_, ?_, rfl, vR⟩, va, vb, ?_, ?_, ?_, ?_⟩ ?_
    · rw [List.append_assoc]
    · show x + gr = _
      rw [List.length_append, ld_len, hPl]; omega
    · rw [List.length_append, List.length_append, List.length_append, ld_len, ld_len, hPl, hRl]; omega
    · rw [List.length_append, List.length_append, List.length_append, ld_len, ld_len, hPl, hRl]; omega
    · show a.size ≤ 1000; omega
    · show b.size ≤ 1000; omega
    · rw [ho] at k2
      rw [show ld out ++ P ++ (ld b ++ R) = ld out ++ (P ++ ld b) ++ R by simp [List.append_assoc]]
      exact k2
theorem swap_l (s a b : ByteArray) (l : List Int) (hs : s.size ≤ 5000) (ha : a.size ≤ 1000) (hb : b.size ≤ 1000) (hl : l.length ≤ 32) (k : Nat) : ∀ (m i : Nat) (out : ByteArray) (f : Int), m + i = l.length → 0 ≤ f → f ≤ s.size → (out.size : Int) ≤ f + i * 1000 → AllP (ld s) (ld a) f (l.drop i) →
    stylusref49_Swap.l0 (m + 1 + k) s a b l out f (i : Int) = some (swapB s a b out f (l.drop i))
  | m, i, out, f, h, h0, h1, ho, hA => by
    have w3 : wrap64 ((i : Int) + 1) = ((i + 1 : Nat) : Int) := by unfold wrap64; omega
    rw [show m + 1 + k = (m + k) + 1 by omega, stylusref49_Swap.l0, w3]
    by_cases c : i < l.length
    · obtain ⟨m', rfl⟩ : ∃ m', m = m' + 1 := ⟨m - 1, by omega⟩
      have hd : l.drop i = rd l i :: l.drop (i + 1) := by
        rw [List.drop_eq_getElem_cons c]
        unfold rd
        rw [Int.toNat_natCast, List.getD_eq_getElem?_getD, List.getElem?_eq_getElem c]; rfl
      rw [hd] at hA ⊢
      obtain ⟨hn, hr⟩ : IsNext (ld s) (ld a) f (rd l i) true ∧ AllP (ld s) (ld a) (rd l i + (ld a).length) (l.drop (i + 1)) := by
        cases hA with
        | cons _ _ _ hn hr => exact ⟨hn, hr⟩
      obtain ⟨a1, a2, a3, a4⟩ := next_in_ hn
      rw [ld_len] at a4
      rw [ld_len, ld_len] at a3
      rw [ld_len] at hr
      have w4 : wrap64 (rd l i + (a.size : Int)) = rd l i + a.size := by unfold wrap64; omega
      have z : (s.extract f.toNat (rd l i).toNat).size = (rd l i).toNat - f.toNat := by rw [ByteArray.size_extract]; omega
      rw [w4, if_pos (by omega), if_pos (by omega), if_pos (by omega), if_pos (by omega), if_pos (by omega), if_pos (by omega), if_pos (by rw [ByteArray.size_append]; omega)]
      rw [swapB, show m' + 1 + k = m' + 1 + k from rfl]
      exact swap_l s a b l hs ha hb hl k m' (i + 1) _ _ (by omega) (by omega) (by omega) (by rw [ByteArray.size_append, ByteArray.size_append, z]; omega) hr
    · have hd : l.drop i = [] := List.drop_eq_nil_of_le (by omega)
      have z : (s.extract f.toNat s.size).size = s.size - f.toNat := by rw [ByteArray.size_extract]; omega
      rw [hd, swapB, if_neg (by omega), if_pos h0, if_pos h1, if_pos (by omega)]
theorem ref_swap (s a b : ByteArray) (hs : s.size ≤ 5000) (ha : a.size ≤ 1000) (hb : b.size ≤ 1000) (l : List Int) (hl : l.length ≤ 32) (h : AllP (ld s) (ld a) 0 l) : stylusref49_Swap.f 20100 s a b = some (swapB s a b ⟨#[]⟩ 0 l) := by
  obtain ⟨l2, h1, h2⟩ := ref_all s a hs (by omega) (20100 - (s.size + 2 + (s.size + 2)))
  rw [show s.size + 2 + (s.size + 2 + (20100 - (s.size + 2 + (s.size + 2)))) = 20100 by omega] at h1
  obtain rfl := all_one h2 h
  unfold stylusref49_Swap.f
  rw [h1, Option.bind_some]
  have := swap_l s a b l2 hs ha hb hl (20100 - (l2.length + 1)) l2.length 0 ⟨#[]⟩ 0 (by omega) (by omega) (by omega) (by show (0 : Int) ≤ _; omega) h
  rw [show l2.length + 1 + (20100 - (l2.length + 1)) = 20100 by omega] at this
  exact this
theorem inv_l (l : List S78) (hl : l.length ≤ 1000) (k : Nat) : ∀ (i : Nat) (acc : List S78), i ≤ l.length → acc.length + i ≤ 2000 → stylusref23_Inverse.l0 (i + 1 + k) ((i : Int) - 1) l acc = some (acc ++ ((l.take i).map inv).reverse)
  | 0, acc, h, h2 => by
    rw [show 0 + 1 + k = k + 1 by omega, stylusref23_Inverse.l0, if_neg (by omega)]
    simp
  | i + 1, acc, h, h2 => by
    have w3 : wrap64 (((i + 1 : Nat) : Int) - 1 - 1) = (i : Int) - 1 := by unfold wrap64; omega
    rw [show i + 1 + 1 + k = (i + 1 + k) + 1 by omega, stylusref23_Inverse.l0, w3, if_pos (by omega), if_pos (by omega), if_pos (by omega)]
    unfold stylusref21_Inverse.f
    rw [Option.bind_some, if_pos (by omega), inv_l l hl k i _ (by omega) (by rw [List.length_append, List.length_singleton]; omega)]
    have hi : i < l.length := by omega
    have e : rd_T78 l (((i + 1 : Nat) : Int) - 1) = l[i] := by
      unfold rd_T78
      rw [show (((i + 1 : Nat) : Int) - 1).toNat = i by omega, List.getD_eq_getElem?_getD, List.getElem?_eq_getElem hi]; rfl
    rw [e, List.take_succ_eq_append_getElem hi, List.map_append, List.reverse_append, List.append_assoc]
    rfl
theorem ref_inv (l : List S78) (hl : l.length ≤ 1000) : stylusref23_Inverse.f 2000 l = some ((l.map inv).reverse) := by
  unfold stylusref23_Inverse.f
  have w : wrap64 ((l.length : Int) - 1) = (l.length : Int) - 1 := by unfold wrap64; omega
  have := inv_l l hl (2000 - (l.length + 1)) l.length [] (Nat.le_refl _) (by simp; omega)
  rw [show l.length + 1 + (2000 - (l.length + 1)) = 2000 by omega] at this
  rw [w, this, List.take_length, List.nil_append]
theorem rep_err (a b : ByteArray) (l : List Int) (h : (repV a b l).2 ≠ 0) : (repV a b l).1 = [] := by
  unfold repV at h ⊢
  split
  · rfl
  · split
    · split
      · split
        · rfl
        · split
          · rfl
          · rename_i h1 h2 h3 h4 h5
            rw [if_neg h1, if_pos h2, if_pos h3, if_neg h4, if_neg h5] at h
            exact absurd rfl h
      · rfl
    · rfl
theorem rep_ok (a b : ByteArray) (l : List Int) (h : (repV a b l).2 = 0) : (repV a b l).1 = edV a b l l.length ∧ l.length ≤ 32 ∧ Sp.valid (ld a) = true ∧ Sp.valid (ld b) = true := by
  unfold repV at h ⊢
  split
  · rename_i h1
    rw [if_pos h1] at h
    exact absurd h (by decide)
  · rename_i h1
    rw [if_neg h1] at h
    split
    · rename_i h2
      rw [if_pos h2] at h
      split
      · rename_i h3
        rw [if_pos h3] at h
        split
        · rename_i h4
          rw [if_pos h4] at h
          exact absurd h (by decide)
        · rename_i h4
          rw [if_neg h4] at h
          split
          · rename_i h5
            rw [if_pos h5] at h
            exact absurd h (by decide)
          · exact ⟨rfl, by omega, h2, h3⟩
      · rename_i h3
        rw [if_neg h3] at h
        exact absurd h (by decide)
    · rename_i h2
      rw [if_neg h2] at h
      exact absurd h (by decide)
/-- the step, run; and taken back -/
theorem runs (s a b : ByteArray) (hs : s.size ≤ 600) (vs : Sp.valid (ld s) = true) (va : Sp.valid (ld a) = true) (vb : Sp.valid (ld b) = true) (ha : a.size ≤ 100) (hb : b.size ≤ 100) (l : List Int) (hl : l.length ≤ 32) (h : AllP (ld s) (ld a) 0 l) :
    Ha.Steps (ld s) (edV a b l l.length) (ld (swapB s a b ⟨#[]⟩ 0 l)) := by
  have := run_all s a b va vb ha hb h 0 ⟨#[]⟩ (by omega) (by omega) rfl vs rfl (by show (0 : Int) + _ + _ ≤ _; omega)
  rw [edF_edV] at this
  exact this
end Go.Proofs.Ytdcnoiofimngpaa.Hb
/- FindSwaps: the walk. -/
namespace Go.Proofs.Ytdcnoiofimngpaa.Hw
open Go.RowKit Go.Proofs.Ytdcnoiofimngpaa.U Go.Proofs.Ytdcnoiofimngpaa.QH Go.Proofs.Ytdcnoiofimngpaa.Kt Go.Proofs.Ytdcnoiofimngpaa.Kd_ Go.Proofs.Ytdcnoiofimngpaa.Ke Go.Proofs.Ytdcnoiofimngpaa.Kf Go.Proofs.Ytdcnoiofimngpaa.Kh Go.Proofs.Ytdcnoiofimngpaa.Kj Go.Proofs.Ytdcnoiofimngpaa.Gc Go.Proofs.Ytdcnoiofimngpaa.Gs Go.Proofs.Ytdcnoiofimngpaa.Gt Go.Proofs.Ytdcnoiofimngpaa.Gr Go.Proofs.Ytdcnoiofimngpaa.Wl Go.Proofs.Ytdcnoiofimngpaa.Fn Go.Proofs.Ytdcnoiofimngpaa.Fa Go.Proofs.Ytdcnoiofimngpaa.Hp Go.Proofs.Ytdcnoiofimngpaa.Hr Go.Proofs.Ytdcnoiofimngpaa.Ha Go.Proofs.Ytdcnoiofimngpaa.Hb Go.Proofs.YtdcnoiofimngpaaW.PrintWords Go.Proofs.YtdcnoiofimngpaaW.PrintLast Go.Proofs.YtdcnoiofimngpaaW.PrintMore
set_option linter.unusedVariables false
set_option linter.unusedSimpArgs false
theorem kf_le (j : Int) (s : ByteArray) : kf j s ≤ s.size := by
  have h1 := Sp.runes_le (ld s)
  have h2 := Sp.lines_le (ld s)
  rw [ld_len] at h1 h2
  unfold kf
  split
  · omega
  · split <;> omega
/-- what Of answers for a valid text -/
def OfP (w : World) (s : ByteArray) (e : Ending) (w' : World) : Prop := ∃ g p t C, e = .returned (.tuple #[.pointer (some ⟨g, 0, none⟩), .int .i64 0]) ∧ Rope w' g p t C ∧ Gt.IsCut s C ∧ Below w.heap.size w w'
theorem of3_calls (w : World) (s : ByteArray) (hs : s.size ≤ 1500) (hv : Sp.valid (ld s) = true) : Calls Try.prog 13 #[.string s] w (OfP w s) := by
  obtain ⟨C, hC⟩ := cut_of s (by omega) hv
  have hl := hC.len
  refine (rope_calls w s C (by omega) hv hC).mono fun e w' ⟨g, p, h1, h2, h3, h4⟩ => ⟨g, p, tree C, C, h1, ⟨h2, h3, ?_, tree_chunks hC.fits (by omega), fun j => ?_, by omega⟩, hC, h4⟩
  · by_cases h0 : C.length = 0
    · left
      obtain rfl := List.eq_nil_of_length_eq_zero h0
      unfold tree; rw [List.map_nil, upT_nil]
    · exact .inr (tree_fine hC.fits (by omega) h0)
  · rw [kt_cat, hC.cat_]
    have := kf_le j s
    omega
/-- "aaa", "aa" -/
def a3 : ByteArray := ⟨#[97, 97, 97]⟩
def a2 : ByteArray := ⟨#[97, 97]⟩
theorem all_a : AllP (ld a3) (ld a2) 0 [0] := by
  refine .cons 0 0 [] (.inl ⟨rfl, by decide, 0, rfl, by decide, by show _ = _; decide, fun j h1 h2 => by omega⟩) (.nil _ (.inr ⟨rfl, rfl, .inr fun j h1 h2 => ?_⟩))
  have e := congrArg List.length (show ((ld a3).drop j).take (ld a2).length = ld a2 from h2)
  rw [List.length_take, List.length_drop] at e
  have h3 : (ld a2).length = 2 := rfl
  have h4 : (ld a3).length = 3 := rfl
  rw [h3, h4] at e
  rw [h3] at h1
  omega
theorem a3_valid : Sp.valid (ld a3) = true := by decide
set_option maxHeartbeats 4000000 in
set_option maxRecDepth 100000 in
theorem lives49 (w : World) : Calls Try.prog 12 #[] w fun e w' => e = .returned (.bool true) ∧ Below w.heap.size w w' := by
  have HO : Aside0 (Calls Try.prog 13 #[.string ⟨#[97, 97, 97]⟩] w (OfP w a3)) := ⟨of3_calls w a3 (by decide) a3_valid⟩
  have HAL : Aside0 (∀ (w1 : World) g p t C, Rope w1 g p t C → cat C = a3 → ∀ W, Below w1.heap.size w1 W → Calls Try.prog 23 #[.pointer (some ⟨g, 0, none⟩), .string ⟨#[97, 97]⟩] W fun e w' => ∃ ad cp, e = .returned (.slice (some ad) 1 cp) ∧ w'.cell? ad = some (.int .i64 0) ∧ Below W.heap.size W w') := ⟨fun w1 g p t C h hc W hb => (all_calls h hb a2 (by decide)).mono fun e w' ⟨A, cp, l, h1, h2, h3, h4⟩ => by
    rw [hc] at h3
    obtain rfl := all_one h3 all_a
    obtain ⟨ad, rfl, h5⟩ := ints_at h2 0 (by decide) (by decide)
    exact ⟨ad, cp, h1, h5, h4⟩⟩
  go_enter Try.func12, Try.ntmps12
  go_wp2_with (first
    | (go_at_call 13; (with_reducible refine HO.out.mono ?_); rintro e w1 ⟨g, p, t, C, rfl, hR, hc, hb⟩; have HR := Aside0.mk hR; have HCC := Aside0.mk hc.cat_; have HB1 := Aside0.mk hb; have HB := Aside0.mk (Below.refl w1.heap.size w1); clear hR hc hb HO)
    | (go_at_call 23; (with_reducible refine (HAL.out w1 g p t C HR.out HCC.out _ HB.out).mono ?_); rintro e w2 ⟨ad, cp, rfl, h0, hb⟩; have HB2 := Aside0.mk (below_step HB.out hb); clear HB hb; have HB := HB2; clear HB2))
  go_ret
  exact ⟨rfl, HB1.out.trans (HB.out.mono HB1.out.size)⟩
theorem bs_new (w : World) (v : Value) : Bs (w.alloc (.cells #[v] 30)) w.heap.size v := by
  unfold Bs World.alloc
  simp
theorem of_alloc (w : World) (o : Obj) : Below w.heap.size w (w.alloc o) := (Below.refl _ w).alloc (Nat.le_refl _) o
def Ok (w : World) (e : Ending) (w' : World) : Prop := e = .returned (.bool true) ∧ Below w.heap.size w w'
set_option maxHeartbeats 8000000 in
set_option maxRecDepth 100000 in
theorem FindSwaps (w : World) (s a b : ByteArray) : Calls Try.prog 4 #[.string s, .string a, .string b] w (Ok w) := by
  have hu30 := Try.underlying30
  have HLV := Aside0.mk lives49
  have HB0 := Aside0.mk (Below.refl w.heap.size w)
  by_cases c1 : 600 < s.size
  · have d1 : decide (600 < s.size) = true := decide_eq_true c1
    have d1i : decide (600 < (s.size : Int)) = true := decide_eq_true (by omega)
    clear c1
    go_enter Try.func4, Try.ntmps4
    go_wp2_with (go_at_call 12; (with_reducible refine (HLV.out _).mono ?_); rintro e w2 ⟨rfl, hb⟩; have HB2 := Aside0.mk (below_step HB0.out hb); clear HB0 hb; have HB0 := HB2; clear HB2)
    go_ret
    exact ⟨rfl, HB0.out⟩
  · have d1 : decide (600 < s.size) = false := decide_eq_false c1
    have d1i : decide (600 < (s.size : Int)) = false := decide_eq_false (by omega)
    by_cases c2 : 100 < a.size
    · have d2 : decide (100 < a.size) = true := decide_eq_true c2
      have d2i : decide (100 < (a.size : Int)) = true := decide_eq_true (by omega)
      clear c1 c2
      go_enter Try.func4, Try.ntmps4
      go_wp2_with (go_at_call 12; (with_reducible refine (HLV.out _).mono ?_); rintro e w2 ⟨rfl, hb⟩; have HB2 := Aside0.mk (below_step HB0.out hb); clear HB0 hb; have HB0 := HB2; clear HB2)
      go_ret
      exact ⟨rfl, HB0.out⟩
    · have d2 : decide (100 < a.size) = false := decide_eq_false c2
      have d2i : decide (100 < (a.size : Int)) = false := decide_eq_false (by omega)
      by_cases c3 : 100 < b.size
      · have d3 : decide (100 < b.size) = true := decide_eq_true c3
        have d3i : decide (100 < (b.size : Int)) = true := decide_eq_true (by omega)
        clear c1 c2 c3
        go_enter Try.func4, Try.ntmps4
        go_wp2_with (go_at_call 12; (with_reducible refine (HLV.out _).mono ?_); rintro e w2 ⟨rfl, hb⟩; have HB2 := Aside0.mk (below_step HB0.out hb); clear HB0 hb; have HB0 := HB2; clear HB2)
        go_ret
        exact ⟨rfl, HB0.out⟩
      · have d3 : decide (100 < b.size) = false := decide_eq_false c3
        have d3i : decide (100 < (b.size : Int)) = false := decide_eq_false (by omega)
        have HVA : Aside0 (∀ W, Calls Try.prog 11 #[.string s] W fun e w' => e = .returned (.bool (Sp.valid (ld s))) ∧ Below W.heap.size W w') := ⟨fun W => stylusref01_Valid.calls s _ W (by unfold stylusref01_Valid.f; rw [if_pos (by omega)])⟩
        cases hva : Sp.valid (ld s)
        · rw [hva] at HVA
          clear c1 c2 c3 hva
          go_enter Try.func4, Try.ntmps4
          go_wp2_with (first
            | (go_at_call 11; (with_reducible refine (HVA.out _).mono ?_); rintro e w1 ⟨rfl, hb⟩; have HB2 := Aside0.mk (below_step HB0.out hb); clear HB0 hb; have HB0 := HB2; clear HB2)
            | (go_at_call 12; (with_reducible refine (HLV.out _).mono ?_); rintro e w2 ⟨rfl, hb⟩; have HB2 := Aside0.mk (below_step HB0.out hb); clear HB0 hb; have HB0 := HB2; clear HB2))
          go_ret
          exact ⟨rfl, HB0.out⟩
        · rw [hva] at HVA
          have HO : Aside0 (∀ W, Calls Try.prog 13 #[.string s] W (OfP W s)) := ⟨fun W => of3_calls W s (by omega) hva⟩
          obtain ⟨l, hl1, hl2⟩ := ref_all s a (by omega) (by omega) 0
          have HRP : Aside0 (∀ (w1 : World) g p t C, Rope w1 g p t C → cat C = s → ∀ W, Below w1.heap.size w1 W → Calls Try.prog 14 #[.pointer (some ⟨g, 0, none⟩), .string a, .string b] W (RepPost W (repV a b l))) := ⟨fun w1 g p t C h hc W hb => rep_l_calls h hb a b (by omega) (by omega) l (by rw [hc]; exact hl2)⟩
          obtain ⟨⟨rs, re⟩, hr⟩ : ∃ r, repV a b l = r := ⟨_, rfl⟩
          by_cases c4 : re = 0
          · have hok := rep_ok a b l (by rw [hr]; exact c4)
            rw [hr] at HRP hok
            subst c4
            obtain ⟨h1, h2, h3, h4⟩ := hok
            replace h1 : rs = edV a b l l.length := h1
            have hst := runs s a b (by omega) hva h3 h4 (by omega) (by omega) l h2 hl2
            have hsw := ref_swap s a b (by omega) (by omega) (by omega) l h2 hl2
            rw [← h1] at hst
            have hrl : rs.length ≤ 32 := by rw [h1, edV_len]; exact h2
            obtain ⟨tt, htt⟩ : ∃ tt, swapB s a b ⟨#[]⟩ 0 l = tt := ⟨_, rfl⟩
            rw [htt] at hst hsw
            have hbk := hst.back
            have hiv := ref_inv rs (by omega)
            have hil : ((rs.map inv).reverse).length ≤ 32 := by rw [List.length_reverse, List.length_map]; exact hrl
            obtain ⟨is, his⟩ : ∃ is, (rs.map inv).reverse = is := ⟨_, rfl⟩
            rw [his] at hbk hiv hil
            have HR1 : Aside0 (∀ W A cp, Kd.C k78 W A rs.length rs → rs.length ≤ cp → Calls Try.prog 17 #[.string s, .agg #[.slice A rs.length cp]] W fun e w' => e = .returned (.tuple #[.string tt, .int .i64 0]) ∧ Below W.heap.size W w') := ⟨fun W A cp hC hcp => run_ok W s A cp rs tt hC hcp (by omega) hst⟩
            have HR3 : Aside0 (∀ W A cp, Kd.C k78 W A is.length is → is.length ≤ cp → Calls Try.prog 17 #[.string tt, .agg #[.slice A is.length cp]] W fun e w' => e = .returned (.tuple #[.string s, .int .i64 0]) ∧ Below W.heap.size W w') := ⟨fun W A cp hC hcp => run_ok W tt A cp is s hC hcp (by omega) hbk⟩
            have HIV : Aside0 (∀ W A cp, Kd.C k78 W A rs.length rs → rs.length ≤ cp → Calls Try.prog 18 #[.agg #[.slice A rs.length cp]] W fun e w' => ∃ A2 cp2, e = .returned (.agg #[.slice A2 is.length cp2]) ∧ Kd.C k78 w' A2 is.length is ∧ is.length ≤ cp2 ∧ Below W.heap.size W w') := ⟨fun W A cp hC hcp => (stylusref23_Inverse.calls 2000 A cp rs is W hC hcp hiv).mono fun e w' ⟨v, h1, h2, h3⟩ => by
              obtain ⟨A2, c2, rfl, h4, h5⟩ := Kd.R_reads h2
              exact ⟨A2, c2, h1, h5, h4, h3⟩⟩
            have HSW : Aside0 (∀ W, Calls Try.prog 19 #[.string s, .string a, .string b] W fun e w' => e = .returned (.string tt) ∧ Below W.heap.size W w') := ⟨fun W => stylusref49_Swap.calls 20100 s a b tt W hsw⟩
            unfold RepPost at HRP
            dsimp only at HRP
            have q1 : (tt.toList == tt.toList) = true := beq_self_eq_true _
            have q2 : (s.toList == s.toList) = true := beq_self_eq_true _
            clear c1 c2 c3 hva hl1 hl2 hr h1 h2 h3 h4 hst hsw hrl htt hbk hiv hil his
            go_enter Try.func4, Try.ntmps4
            go_wp2_with (first
              | (go_at_call 11; (with_reducible refine (HVA.out _).mono ?_); rintro e w1 ⟨rfl, hb⟩; have HB2 := Aside0.mk (below_step HB0.out hb); clear HB0 hb; have HB0 := HB2; clear HB2)
              | (go_at_call 13; (with_reducible refine (HO.out _).mono ?_); rintro e w1 ⟨g, p, t, C, rfl, hR, hc, hb⟩; have HR := Aside0.mk hR; have HCC := Aside0.mk hc.cat_; have HB1 := Aside0.mk (below_step HB0.out hb); have HB := Aside0.mk (Below.refl w1.heap.size w1); clear hR hc hb HO HB0)
              | (go_at_call 14; (with_reducible refine (HRP.out w1 g p t C HR.out HCC.out _ HB.out).mono ?_); rintro e w2 ⟨v, rfl, hR2, hb⟩; obtain ⟨A1, cp1, rfl, hcp1, hC1⟩ := Kd.R_reads hR2; have HC1 := Aside0.mk (Kd.C_below hC1 (of_alloc w2 (.cells #[.slice A1 rs.length cp1] 30))); have BX : Aside0 (Bs (w2.alloc (.cells #[.slice A1 rs.length cp1] 30)) w2.heap.size (.slice A1 rs.length cp1)) := ⟨bs_new w2 _⟩; have x9 := bs_cell BX.out; have HB2 := Aside0.mk (below_step HB.out hb); clear HB hb; have HB := HB2; clear HB2; have HB2 := Aside0.mk (HB.out.alloc HB.out.size (.cells #[.slice A1 rs.length cp1] 30)); clear HB; have HB := HB2; clear HB2 HRP hR2 hC1)
              | (go_at_call 17; (with_reducible refine (HR1.out _ A1 cp1 HC1.out hcp1).mono ?_); rintro e w3 ⟨rfl, hb⟩; have BY := Aside0.mk (blk_below BX.out hb); have HC3 := Aside0.mk (Kd.C_below HC1.out hb); clear BX HC1 x9; have BX := BY; have HC1 := HC3; clear BY HC3; have x9 := bs_cell BX.out; have HB2 := Aside0.mk (below_step HB.out hb); clear HB hb; have HB := HB2; clear HB2)
              | (go_at_call 18; (with_reducible refine (HIV.out _ A1 cp1 HC1.out hcp1).mono ?_); rintro e w4 ⟨A2, cp2, rfl, hC2, hcp2, hb⟩; have HC2 := Aside0.mk hC2; clear hC2; have HB2 := Aside0.mk (below_step HB.out hb); clear HB hb; have HB := HB2; clear HB2)
              | (go_at_call 17; (with_reducible refine (HR3.out _ A2 cp2 HC2.out hcp2).mono ?_); rintro e w5 ⟨rfl, hb⟩; have HB2 := Aside0.mk (below_step HB.out hb); clear HB hb; have HB := HB2; clear HB2)
              | (go_at_call 19; (with_reducible refine (HSW.out _).mono ?_); rintro e w6 ⟨rfl, hb⟩; have HB2 := Aside0.mk (below_step HB.out hb); clear HB hb; have HB := HB2; clear HB2)
              | (go_at_call 12; (with_reducible refine (HLV.out _).mono ?_); rintro e w7 ⟨rfl, hb⟩; have HB2 := Aside0.mk (below_step HB.out hb); clear HB hb; have HB := HB2; clear HB2))
            go_ret
            exact ⟨rfl, HB1.out.trans (HB.out.mono HB1.out.size)⟩
          · have her := rep_err a b l (by rw [hr]; exact c4)
            rw [hr] at HRP her
            have her : rs = [] := her
            subst her
            unfold RepPost at HRP
            dsimp only at HRP
            have q1 : (re != 0) = true := bne_iff_ne.mpr c4
            have q2 : (re == 0) = false := beq_eq_false_iff_ne.mpr c4
            clear c1 c2 c3 hva hl1 hl2 hr c4
            go_enter Try.func4, Try.ntmps4
            go_wp2_with (first
              | (go_at_call 11; (with_reducible refine (HVA.out _).mono ?_); rintro e w1 ⟨rfl, hb⟩; have HB2 := Aside0.mk (below_step HB0.out hb); clear HB0 hb; have HB0 := HB2; clear HB2)
              | (go_at_call 13; (with_reducible refine (HO.out _).mono ?_); rintro e w1 ⟨g, p, t, C, rfl, hR, hc, hb⟩; have HR := Aside0.mk hR; have HCC := Aside0.mk hc.cat_; have HB1 := Aside0.mk (below_step HB0.out hb); have HB := Aside0.mk (Below.refl w1.heap.size w1); clear hR hc hb HO HB0)
              | (go_at_call 14; (with_reducible refine (HRP.out w1 g p t C HR.out HCC.out _ HB.out).mono ?_); rintro e w2 ⟨v, rfl, hR2, hb⟩; obtain ⟨A1, cp1, rfl, hcp1, hC1⟩ := Kd.R_reads hR2; have HC1 := Aside0.mk (Kd.C_below hC1 (of_alloc w2 (.cells #[.slice A1 0 cp1] 30))); have BX : Aside0 (Bs (w2.alloc (.cells #[.slice A1 0 cp1] 30)) w2.heap.size (.slice A1 0 cp1)) := ⟨bs_new w2 _⟩; have x9 := bs_cell BX.out; have HB2 := Aside0.mk (below_step HB.out hb); clear HB hb; have HB := HB2; clear HB2; have HB2 := Aside0.mk (HB.out.alloc HB.out.size (.cells #[.slice A1 0 cp1] 30)); clear HB; have HB := HB2; clear HB2 HRP hR2 hC1)
              | (go_at_call 12; (with_reducible refine (HLV.out _).mono ?_); rintro e w7 ⟨rfl, hb⟩; have HB2 := Aside0.mk (below_step HB.out hb); clear HB hb; have HB := HB2; clear HB2))
            go_ret
            exact ⟨rfl, HB1.out.trans (HB.out.mono HB1.out.size)⟩
end Go.Proofs.Ytdcnoiofimngpaa.Hw
