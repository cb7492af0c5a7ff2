import Derived.Test.YtdcnoiofimngpaaWr
/- WalkRows: the walk. -/
namespace Go.Proofs.Ytdcnoiofimngpaa.Wz
open Go.RowKit Go.Proofs.Ytdcnoiofimngpaa.U Go.Proofs.Ytdcnoiofimngpaa.QK Go.Proofs.Ytdcnoiofimngpaa.QS Go.Proofs.Ytdcnoiofimngpaa.Kt Go.Proofs.Ytdcnoiofimngpaa.Kh Go.Proofs.Ytdcnoiofimngpaa.Kj Go.Proofs.Ytdcnoiofimngpaa.Gs Go.Proofs.Ytdcnoiofimngpaa.Gr Go.Proofs.Ytdcnoiofimngpaa.Ge Go.Proofs.Ytdcnoiofimngpaa.Gq Go.Proofs.Ytdcnoiofimngpaa.Gn Go.Proofs.Ytdcnoiofimngpaa.Gl Go.Proofs.Ytdcnoiofimngpaa.Gv Go.Proofs.Ytdcnoiofimngpaa.Gy Go.Proofs.Ytdcnoiofimngpaa.Gp Go.Proofs.Ytdcnoiofimngpaa.Wl Go.Proofs.Ytdcnoiofimngpaa.Wr Go.Proofs.YtdcnoiofimngpaaW.PrintWords Go.Proofs.YtdcnoiofimngpaaW.PrintLast Go.Proofs.YtdcnoiofimngpaaW.PrintMore
set_option linter.unusedVariables false
set_option linter.unusedSimpArgs false
attribute [local go_sem] max2_int min2_int max_two min_two
/-- a row of lines that is read -/
theorem own_at {W : World} {base k : Nat} {v : Value} {s : ByteArray} (h : W.ownsRow base 9 1 v k (rowsV s k)) : ∃ A cp, v = .slice A k cp ∧ k ≤ cp ∧ ∀ x : Int, 0 ≤ x → x < k → ∃ ad, A = some ad ∧ W.cell? (ad.add x.toNat) = some (.string (rowS s x.toNat)) := by
  have h0 := h
  rcases h.2 with ⟨rfl, rfl⟩ | ⟨g, cap, cur, rfl, hb, hg, hc, _⟩
  · exact ⟨none, 0, rfl, Nat.le_refl _, fun x h1 h2 => by omega⟩
  · refine ⟨_, cap, rfl, hc, fun x h1 h2 => ⟨_, rfl, ?_⟩⟩
    have := h0.cells (g := g) rfl x.toNat (.string (rowS s x.toNat)) (by unfold rowsV; rw [List.getElem?_map, List.getElem?_range (by omega)]; rfl)
    simpa [Addr.add] using this
theorem own_two {W : World} {base : Nat} {v : Value} {s : ByteArray} (h : W.ownsRow base 9 1 v 2 (rowsV s 2)) : ∃ g cp, v = .slice (some ⟨g, 0, none⟩) 2 cp ∧ W.cell? ⟨g, 0, none⟩ = some (.string (rowS s 0)) ∧ W.cell? ⟨g, 1, none⟩ = some (.string (rowS s 1)) := by
  have h0 := h
  rcases h.2 with ⟨rfl, h2⟩ | ⟨g, cap, cur, rfl, hb, hg, hc, _⟩
  · omega
  · refine ⟨g, cap, rfl, ?_, ?_⟩
    · have := h0.cells (g := g) rfl 0 (.string (rowS s 0)) rfl
      simpa [Addr.add] using this
    · have := h0.cells (g := g) rfl 1 (.string (rowS s 1)) rfl
      simpa [Addr.add] using this
theorem add_zero_ (ad : Addr) : ad.add 0 = ad := by cases ad; rfl
def a2 : ByteArray := ⟨#[97, 10]⟩
theorem a2_lines : Sp.lines (ld a2) = 1 := by decide +kernel
theorem a2_0 : rowS a2 0 = ⟨#[97]⟩ := by decide +kernel
theorem a2_1 : rowS a2 1 = ⟨#[]⟩ := by decide +kernel
theorem a2_valid : Sp.valid (ld a2) = true := by decide +kernel
/-- the lines that are taken -/
def RowsPost (w : World) (s : ByteArray) (k : Nat) (e : Ending) (w' : World) : Prop := ∃ v, e = .returned (.tuple #[v, .bool true]) ∧ w'.ownsRow w.heap.size 9 1 v k (rowsV s k) ∧ Below w.heap.size w w'
theorem rowsOf_calls {w0 w : World} {g : Nat} {p : Option Addr} {t : Tr} {C : List ByteArray} {s : ByteArray} (h : Rope w0 g p t C) (hc : cat C = s) (hb : Below w0.heap.size w0 w) (most : Int) : Calls Try.prog 29 #[.pointer (some ⟨g, 0, none⟩), .int .i64 most] w (RowsPost w s (min (Sp.lines (ld s) + 1) most.toNat)) := by
  have := callsIn_wide.1 (rowsOf_in h hb most)
  rw [hc] at this
  exact this
set_option maxHeartbeats 4000000 in
set_option maxRecDepth 100000 in
theorem lives20 (w : World) : Calls Try.prog 28 #[] w fun e w' => e = .returned (.bool true) ∧ Below w.heap.size w w' := by
  have HO : Aside0 (Calls Try.prog 13 #[.string ⟨#[97, 10]⟩] w (OfPost w a2)) := ⟨of_calls w a2 (by decide) a2_valid⟩
  have HRO : Aside0 (∀ (w1 : World) g p t C, Rope w1 g p t C → cat C = a2 → ∀ W, Below w1.heap.size w1 W → Calls Try.prog 29 #[.pointer (some ⟨g, 0, none⟩), .int .i64 10] W (RowsPost W a2 2)) := ⟨fun w1 g p t C h hc W hb => by
    have := rowsOf_calls h hc hb 10
    rw [a2_lines] at this
    exact this⟩
  go_enter Try.func28, Try.ntmps28
  go_wp2_with (first
    | (go_at_call 13; (with_reducible refine HO.out.mono ?_); rintro e w1 ⟨g, p, t, C, rfl, hR, hc, hv, hb⟩; have HR := Aside0.mk hR; have HCC := Aside0.mk hc; have HB1 := Aside0.mk hb; have HB := Aside0.mk (Below.refl w1.heap.size w1); clear hR hc hv hb HO)
    | (go_at_call 29; (with_reducible refine (HRO.out w1 g p t C HR.out HCC.out _ HB.out).mono ?_); rintro e w2 ⟨v, rfl, ho, hb⟩; obtain ⟨gA, cp, rfl, h0, h1⟩ := own_two ho; rw [a2_0] at h0; rw [a2_1] at h1; have HB2 := Aside0.mk (below_step HB.out hb); clear HB hb ho; have HB := HB2; clear HB2))
  go_ret
  exact ⟨rfl, HB1.out.trans (HB.out.mono HB1.out.size)⟩
set_option maxHeartbeats 16000000 in
set_option maxRecDepth 100000 in
theorem WalkRows (w : World) (s : ByteArray) (m : Int) (hm : 0 ≤ m ∧ m ≤ 255) : Calls Try.prog 6 #[.string s, .int .u8 m] w fun e w' => e = .returned (.bool true) ∧ Below w.heap.size w w' := by
  have HLV := Aside0.mk lives20
  have hm0 : IntKind.i64.wrap m = m := by rw [i64_w]; unfold wrap64; omega
  have hm1 : wrap64 m = m := by unfold wrap64; omega
  by_cases c1 : 600 < s.size
  · have d1 : decide (600 < s.size) = true := decide_eq_true c1
    have d2 : decide (600 < (s.size : Int)) = true := decide_eq_true (by omega)
    clear c1 hm
    go_enter Try.func6, Try.ntmps6
    go_wp2_with (go_at_call 28; (with_reducible refine (HLV.out _).mono ?_); rintro e w1 ⟨rfl, hb⟩; have HB := Aside0.mk hb; clear hb)
    go_ret
    exact ⟨rfl, HB.out⟩
  · have d1 : decide (600 < s.size) = false := decide_eq_false c1
    have d2 : decide (600 < (s.size : Int)) = false := decide_eq_false (by omega)
    have HVA : Aside0 (∀ W, Calls Try.prog 11 #[.string s] W fun e w' => e = .returned (.bool (Sp.valid (ld s))) ∧ Below W.heap.size W w') := ⟨fun W => stylusref01_Valid.calls s _ W (by unfold stylusref01_Valid.f; rw [if_pos (by omega)])⟩
    by_cases c2 : Sp.valid (ld s) = true
    · rw [c2] at HVA
      have hll := Sp.lines_le (ld s)
      rw [ld_len] at hll
      obtain ⟨R, hR⟩ : ∃ R, Sp.lines (ld s) + 1 = R := ⟨_, rfl⟩
      obtain ⟨Fw, hFw⟩ : ∃ Fw, min R m.toNat = Fw := ⟨_, rfl⟩
      have HRB : Aside0 (1 ≤ R ∧ R ≤ 601 ∧ Fw ≤ R) := ⟨by omega⟩
      have HO : Aside0 (∀ W, Calls Try.prog 13 #[.string s] W (OfPost W s)) := ⟨fun W => of_calls W s (by omega) c2⟩
      have HR1 : Aside0 (∀ (w1 : World) g p t C, Rope w1 g p t C → cat C = s → ∀ W, Below w1.heap.size w1 W → Calls Try.prog 29 #[.pointer (some ⟨g, 0, none⟩), .int .i64 1000] W (RowsPost W s R)) := ⟨fun w1 g p t C h hc W hb => by
        have := rowsOf_calls h hc hb 1000
        rw [show min (Sp.lines (ld s) + 1) (1000 : Int).toNat = R by omega] at this
        exact this⟩
      have HR2 : Aside0 (∀ (w1 : World) g p t C, Rope w1 g p t C → cat C = s → ∀ W, Below w1.heap.size w1 W → Calls Try.prog 29 #[.pointer (some ⟨g, 0, none⟩), .int .i64 m] W (RowsPost W s Fw)) := ⟨fun w1 g p t C h hc W hb => by
        have := rowsOf_calls h hc hb m
        rw [hR, hFw] at this
        exact this⟩
      have HRS : Aside0 (∀ W, Calls Try.prog 30 #[.string s] W fun e w' => ∃ v0_ : Value, e = .returned (v0_) ∧ Kd.R (Kd.int .i64) 3 w' W.heap.size (fun _ => True) v0_ (starts s) ∧ Below W.heap.size W w') := ⟨fun W => stylusref19_Starts.calls (s.size + 1 + 0) s _ W (ref_starts s (by omega) 0)⟩
      have HRR : Aside0 (∀ W (x : Int), 0 ≤ x → x < R → Calls Try.prog 31 #[.string s, .int .i64 x] W fun e w' => e = .returned (.tuple #[.string (rowS s x.toNat), .int .i64 0]) ∧ Below W.heap.size W w') := ⟨fun W x h0 h1 => by
        have hv : rowV s x = (rowS s x.toNat, 0) := by
          unfold rowV
          rw [kf2, if_neg (by omega), if_neg (by omega)]
          rfl
        have e := ref_row s (by omega) 0 x
        rw [hv] at e
        exact stylusref19_Row.calls (s.size + 1 + 0) s x _ _ W e⟩
      have hsl : (starts s).length = R := by rw [starts_len, hR]
      have el : ((R : Int) != (((starts s).length : Nat) : Int)) = false := bne_eq_false_iff_eq.mpr (by omega)
      have em : (if m < (R : Int) then m else (R : Int)) = (Fw : Int) := by split <;> omega
      have em2 : ((Fw : Int) != (Fw : Int)) = false := bne_self_eq_false _
      have HB0 := Aside0.mk (Below.refl w.heap.size w)
      generalize starts s = sl at HRS el
      clear c1 c2 hll hR hFw hsl hm
      go_enter Try.func6, Try.ntmps6
      go_wp2_with (first
        | (go_at_call 11; (with_reducible refine (HVA.out _).mono ?_); rintro e w1 ⟨rfl, hb⟩; have HB2 := Aside0.mk (below_step HB0.out hb); clear HB0 hb; have HB0 := HB2; clear HB2)
        | (go_at_call 13; (with_reducible refine (HO.out _).mono ?_); rintro e w1 ⟨g, p, t, C, rfl, hR, hc, hv, hb⟩; have HR := Aside0.mk hR; have HCC := Aside0.mk hc; have HB1 := Aside0.mk (below_step HB0.out hb); have HB := Aside0.mk (Below.refl w1.heap.size w1); clear hR hc hv hb HO HB0)
        | (go_at_call 29; (with_reducible refine (HR1.out w1 g p t C HR.out HCC.out _ HB.out).mono ?_); rintro e w2 ⟨v1, rfl, ho, hb⟩; obtain ⟨A1, cp1, rfl, hcp, hat⟩ := own_at ho; have HA1 := Aside0.mk hat; have HC1 : Aside0 (R ≤ cp1) := ⟨hcp⟩; have HBA := Aside0.mk (Below.refl w2.heap.size w2); have HB2 := Aside0.mk (below_step HB.out hb); clear HB hb ho hat hcp HR1; have HB := HB2; clear HB2)
        | (go_at_call 29; (with_reducible refine (HR2.out w1 g p t C HR.out HCC.out _ HB.out).mono ?_); rintro e w3 ⟨v2, rfl, ho, hb⟩; obtain ⟨A2, cp2, rfl, hcp, hat⟩ := own_at ho; have HA2 := Aside0.mk hat; have HBA2 := Aside0.mk (below_step HBA.out hb); have HBB := Aside0.mk (Below.refl w3.heap.size w3); have HB2 := Aside0.mk (below_step HB.out hb); clear HB hb ho hat hcp HBA; have HB := HB2; have HBA := HBA2; clear HB2 HBA2)
        | (go_at_call 30; (with_reducible refine (HRS.out _).mono ?_); rintro e w4 ⟨v_, rfl, ho, hb⟩; obtain ⟨A_, cp_, rfl⟩ := Kd.R_slice ho; clear ho; have HB2 := Aside0.mk (below_step HB.out hb); have HBA2 := Aside0.mk (below_step HBA.out hb); have HBB2 := Aside0.mk (below_step HBB.out hb); clear HB HBA HBB hb; have HB := HB2; have HBA := HBA2; have HBB := HBB2; clear HB2 HBA2 HBB2))
      go_loopg [12] (R + 1) (fun kq v12 w' => ∃ x : Int, v12 = .int .i64 x ∧ Aside0 (0 ≤ x ∧ x ≤ R ∧ x + kq = R + 1) ∧ Aside0 (Below w1.heap.size w1 w') ∧ Aside0 (Below w2.heap.size w2 w') ∧ Aside0 (Below w3.heap.size w3 w'))
      case atStart => exact ⟨0, rfl, ⟨by omega⟩, HB, HBA, HBB⟩
      case round =>
        clear HB HBA HBB
        obtain ⟨x, rfl, HX, HB, HBA, HBB⟩ := hrel
        obtain ⟨k2, rfl⟩ : ∃ k2, gk = k2 + 1 := ⟨gk - 1, by have := HX.out; omega⟩
        have p0 : 0 ≤ x := HX.out.1
        by_cases cx : x < (R : Int)
        · have cxb : decide (x < (R : Int)) = true := decide_eq_true cx
          obtain ⟨ad1, q1, hx1⟩ := HA1.out x p0 cx
          subst q1
          replace hx1 := (HBA.out.cell (World.block_lt_of_cell? w2 _ hx1)).trans hx1
          have HRW := Aside0.mk (fun W => HRR.out W x p0 cx)
          have wx : wrap64 (x + 1) = x + 1 := by have := HRB.out; unfold wrap64; omega
          have HXX : Aside0 (0 ≤ x ∧ x < R) := ⟨p0, cx⟩
          have p0c := eq_true p0
          have cxc := eq_true cx
          by_cases cf : x < (Fw : Int)
          · have cfb : decide (x < (Fw : Int)) = true := decide_eq_true cf
            have cfc := eq_true cf
            obtain ⟨ad2, q2, hx2⟩ := HA2.out x p0 cf
            subst q2
            replace hx2 := (HBB.out.cell (World.block_lt_of_cell? w3 _ hx2)).trans hx2
            clear p0 cx cf
            go_wp2_with (go_at_call 31; (with_reducible refine (HRW.out _).mono ?_); rintro e w5 ⟨rfl, hb⟩; have hy1 := pw_cell_below hb hx1; have hy2 := pw_cell_below hb hx2; have HB2 := Aside0.mk (below_step HB.out hb); have HBA2 := Aside0.mk (below_step HBA.out hb); have HBB2 := Aside0.mk (below_step HBB.out hb); clear HB HBA HBB hb hx1 hx2; have HB := HB2; have HBA := HBA2; have HBB := HBB2; clear HB2 HBA2 HBB2)
            go_roundg k2
            case measure => omega
            case rel => exact ⟨x + 1, by first | rfl | (rw [wx]) | (rw [← wx]; rfl), ⟨by have := HX.out; have := HXX.out; omega⟩, HB, HBA, HBB⟩
          · have cfb : decide (x < (Fw : Int)) = false := decide_eq_false cf
            clear p0 cx cf
            go_wp2_with (go_at_call 31; (with_reducible refine (HRW.out _).mono ?_); rintro e w5 ⟨rfl, hb⟩; have hy1 := pw_cell_below hb hx1; have HB2 := Aside0.mk (below_step HB.out hb); have HBA2 := Aside0.mk (below_step HBA.out hb); have HBB2 := Aside0.mk (below_step HBB.out hb); clear HB HBA HBB hb hx1; have HB := HB2; have HBA := HBA2; have HBB := HBB2; clear HB2 HBA2 HBB2)
            go_roundg k2
            case measure => omega
            case rel => exact ⟨x + 1, by first | rfl | (rw [wx]) | (rw [← wx]; rfl), ⟨by have := HX.out; have := HXX.out; omega⟩, HB, HBA, HBB⟩
        · have cxb : decide (x < (R : Int)) = false := decide_eq_false cx
          clear p0 cx
          go_wp2_with (go_at_call 28; (with_reducible refine (HLV.out _).mono ?_); rintro e w5 ⟨rfl, hb⟩; have HB2 := Aside0.mk (below_step HB.out hb); clear HB hb; have HB := HB2; clear HB2)
          go_ret
          exact ⟨rfl, HB1.out.trans (HB.out.mono HB1.out.size)⟩
    · have c3 : Sp.valid (ld s) = false := by simpa using c2
      rw [c3] at HVA
      clear c1 c2 c3 hm
      go_enter Try.func6, Try.ntmps6
      go_wp2_with (first
        | (go_at_call 11; (with_reducible refine (HVA.out _).mono ?_); rintro e w1 ⟨rfl, hb⟩; have HB0 := Aside0.mk hb; clear hb)
        | (go_at_call 28; (with_reducible refine (HLV.out _).mono ?_); rintro e w3 ⟨rfl, hb⟩; have HB := Aside0.mk (below_step HB0.out hb); clear hb))
      go_ret
      exact ⟨rfl, HB.out⟩
end Go.Proofs.Ytdcnoiofimngpaa.Wz
