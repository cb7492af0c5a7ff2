import Derived.Test.YtdcnoiofimngpaaGp
/- SeekLines: the walk. -/
namespace Go.Proofs.Ytdcnoiofimngpaa.Gw
open Go.RowKit Go.Proofs.Ytdcnoiofimngpaa.U Go.Proofs.Ytdcnoiofimngpaa.QK Go.Proofs.Ytdcnoiofimngpaa.QS Go.Proofs.Ytdcnoiofimngpaa.Kt Go.Proofs.Ytdcnoiofimngpaa.Kh Go.Proofs.Ytdcnoiofimngpaa.Kj Go.Proofs.Ytdcnoiofimngpaa.Gs Go.Proofs.Ytdcnoiofimngpaa.Gr Go.Proofs.Ytdcnoiofimngpaa.Gq Go.Proofs.Ytdcnoiofimngpaa.Gn Go.Proofs.Ytdcnoiofimngpaa.Gl Go.Proofs.Ytdcnoiofimngpaa.Gb Go.Proofs.Ytdcnoiofimngpaa.Gf Go.Proofs.Ytdcnoiofimngpaa.Gv Go.Proofs.Ytdcnoiofimngpaa.Gy Go.Proofs.Ytdcnoiofimngpaa.Gp Go.Proofs.YtdcnoiofimngpaaW.PrintWords Go.Proofs.YtdcnoiofimngpaaW.PrintLast Go.Proofs.YtdcnoiofimngpaaW.PrintMore
set_option linter.unusedVariables false
set_option linter.unusedSimpArgs false
set_option maxHeartbeats 8000000 in
set_option maxRecDepth 100000 in
theorem SeekLines (w : World) (s : ByteArray) (x n : Int) : Calls Try.prog 9 #[.string s, .int .i64 x, .int .i64 n] w fun e w' => e = .returned (.bool true) ∧ Below w.heap.size w w' := by
  have HLV := Aside0.mk lives_calls
  by_cases c1 : 1500 < s.size
  · have d1 : decide (1500 < s.size) = true := decide_eq_true c1
    have d2 : decide (1500 < (s.size : Int)) = true := decide_eq_true (by omega)
    clear c1
    go_enter Try.func9, Try.ntmps9
    go_wp2_with (go_at_call 32; (with_reducible refine (HLV.out _).mono ?_); rintro e w1 ⟨rfl, hb⟩; have HB := Aside0.mk hb; clear hb)
    go_ret
    exact ⟨rfl, HB.out⟩
  · have d1 : decide (1500 < s.size) = false := decide_eq_false c1
    have d2 : decide (1500 < (s.size : Int)) = false := decide_eq_false (by omega)
    have HVA : Aside0 (∀ W, Calls Try.prog 11 #[.string s] W fun e w' => e = .returned (.bool (Sp.valid (ld s))) ∧ Below W.heap.size W w') := ⟨fun W => stylusref01_Valid.calls s _ W (by unfold stylusref01_Valid.f; rw [if_pos (by omega)])⟩
    by_cases c2 : Sp.valid (ld s) = true
    · rw [c2] at HVA
      have HO : Aside0 (∀ W, Calls Try.prog 13 #[.string s] W (OfPost W s)) := ⟨fun W => of_calls W s (by omega) c2⟩
      have HRL : Aside0 (∀ W, Calls Try.prog 41 #[.string s, .int .i64 x] W fun e w' => e = .returned (.tuple #[.int .i64 (lineV s x).1, .int .i64 (lineV s x).2.1, .int .i64 (lineV s x).2.2]) ∧ Below W.heap.size W w') := ⟨fun W => stylusref19_Line.calls (s.size + 1 + 0) s x _ _ _ W (ref_line s (by omega) 0 x)⟩
      have HRS : Aside0 (∀ W, Calls Try.prog 30 #[.string s] W fun e w' => ∃ v0_ : Value, e = .returned (v0_) ∧ Kd.R (Kd.int .i64) 3 w' W.heap.size (fun _ => True) v0_ (starts s) ∧ Below W.heap.size W w') := ⟨fun W => stylusref19_Starts.calls (s.size + 1 + 0) s _ W (ref_starts s (by omega) 0)⟩
      have HRT : Aside0 (∀ W, Calls Try.prog 44 #[.string s, .int .i64 n] W fun e w' => e = .returned (.tuple #[.int .i64 (startV s n).1, .int .i64 (startV s n).2]) ∧ Below W.heap.size W w') := ⟨fun W => stylusref19_Start.calls (s.size + 1 + 0) s n _ _ W (ref_start s (by omega) 0 n)⟩
      have HRR : Aside0 (∀ W, Calls Try.prog 31 #[.string s, .int .i64 n] W fun e w' => e = .returned (.tuple #[.string (rowV s n).1, .int .i64 (rowV s n).2]) ∧ Below W.heap.size W w') := ⟨fun W => stylusref19_Row.calls (s.size + 1 + 0) s n _ _ W (ref_row s (by omega) 0 n)⟩
      have HLI : Aside0 (∀ (w1 : World) g p t C, Rope w1 g p t C → cat C = s → (∀ y ∈ C, Sp.valid (ld y) = true) → ∀ W, Below w1.heap.size w1 W → Calls Try.prog 40 #[.pointer (some ⟨g, 0, none⟩), .int .i64 x] W fun e w' => e = .returned (.tuple #[.int .i64 (lineV s x).1, .int .i64 (lineV s x).2.1, .int .i64 (lineV s x).2.2]) ∧ Below W.heap.size W w') := ⟨fun w1 g p t C h hc hv W hb => by
        have := line_calls h hv hb x
        rw [hc] at this
        exact this⟩
      have HST : Aside0 (∀ (w1 : World) g p t C, Rope w1 g p t C → cat C = s → (∀ y ∈ C, Sp.valid (ld y) = true) → ∀ W, Below w1.heap.size w1 W → Calls Try.prog 43 #[.pointer (some ⟨g, 0, none⟩), .int .i64 n] W fun e w' => e = .returned (.tuple #[.int .i64 (startV s n).1, .int .i64 (startV s n).2]) ∧ Below W.heap.size W w') := ⟨fun w1 g p t C h hc hv W hb => by
        have := start_calls h hb n
        rw [hc] at this
        exact this⟩
      have HRO : Aside0 (∀ (w1 : World) g p t C, Rope w1 g p t C → cat C = s → (∀ y ∈ C, Sp.valid (ld y) = true) → ∀ W, Below w1.heap.size w1 W → Calls Try.prog 45 #[.pointer (some ⟨g, 0, none⟩), .int .i64 n] W fun e w' => e = .returned (.tuple #[.string (rowV s n).1, .int .i64 (rowV s n).2]) ∧ Below W.heap.size W w') := ⟨fun w1 g p t C h hc hv W hb => by
        have := row_calls h hb n
        rw [hc] at this
        exact this⟩
      have HLN : Aside0 (∀ (w1 : World) g p t C, Rope w1 g p t C → cat C = s → (∀ y ∈ C, Sp.valid (ld y) = true) → ∀ W, Below w1.heap.size w1 W → Calls Try.prog 42 #[.pointer (some ⟨g, 0, none⟩)] W fun e w' => e = .returned (.int .i64 (kf 2 s + 1)) ∧ Below W.heap.size W w') := ⟨fun w1 g p t C h hc hv W hb => by
        have := lines_calls h hb
        rw [kt_cat, hc] at this
        exact this⟩
      have el : ((kf 2 s + 1 : Int) != (((starts s).length : Nat) : Int)) = false := bne_eq_false_iff_eq.mpr (by rw [starts_len, kf2]; omega)
      have el2 : ((kf 2 s + 1 : Int) == (((starts s).length : Nat) : Int)) = true := beq_iff_eq.mpr (by rw [starts_len, kf2]; omega)
      clear c1 c2
      generalize kf 2 s + 1 = kl at HLN el el2
      generalize starts s = sl at HRS el el2
      generalize lineV s x = lv at HRL HLI
      generalize startV s n = sv at HST HRT
      generalize rowV s n = rv at HRO HRR
      obtain ⟨l1, l2, l3⟩ := lv
      obtain ⟨s1, s2⟩ := sv
      obtain ⟨r1, r2⟩ := rv
      have e1 : (l1 == l1) = true := beq_self_eq_true _
      have e2 : (l2 == l2) = true := beq_self_eq_true _
      have e3 : (l3 == l3) = true := beq_self_eq_true _
      have e4 : (s1 == s1) = true := beq_self_eq_true _
      have e5 : (s2 == s2) = true := beq_self_eq_true _
      have e6 : (r2 == r2) = true := beq_self_eq_true _
      dsimp only at HRL HLI HST HRT HRO HRR
      have HB0 := Aside0.mk (Below.refl w.heap.size w)
      go_enter Try.func9, Try.ntmps9
      go_wp2_with (first
        | (go_at_call 11; (with_reducible refine (HVA.out _).mono ?_); rintro e w1 ⟨rfl, hb⟩; have HB2 := Aside0.mk (below_step HB0.out hb); clear HB0 hb; have HB0 := HB2; clear HB2)
        | (go_at_call 13; (with_reducible refine (HO.out _).mono ?_); rintro e w1 ⟨g, p, t, C, rfl, hR, hc, hv, hb⟩; have HR := Aside0.mk hR; have HCC := Aside0.mk hc; have HV := Aside0.mk hv; have HB1 := Aside0.mk (below_step HB0.out hb); have HB := Aside0.mk (Below.refl w1.heap.size w1); clear hR hc hv hb HO HB0)
        | (go_at_call 40; (with_reducible refine (HLI.out w1 g p t C HR.out HCC.out HV.out _ HB.out).mono ?_); rintro e w2 ⟨rfl, hb⟩; have HB2 := Aside0.mk (below_step HB.out hb); clear HB hb; have HB := HB2; clear HB2)
        | (go_at_call 41; (with_reducible refine (HRL.out _).mono ?_); rintro e w2 ⟨rfl, hb⟩; have HB2 := Aside0.mk (below_step HB.out hb); clear HB hb; have HB := HB2; clear HB2)
        | (go_at_call 42; (with_reducible refine (HLN.out w1 g p t C HR.out HCC.out HV.out _ HB.out).mono ?_); rintro e w2 ⟨rfl, hb⟩; have HB2 := Aside0.mk (below_step HB.out hb); clear HB hb; have HB := HB2; clear HB2)
        | (go_at_call 30; (with_reducible refine (HRS.out _).mono ?_); rintro e w2 ⟨v_, rfl, ho, hb⟩; obtain ⟨A_, cp_, rfl⟩ := Kd.R_slice ho; clear ho; have HB2 := Aside0.mk (below_step HB.out hb); clear HB hb; have HB := HB2; clear HB2)
        | (go_at_call 43; (with_reducible refine (HST.out w1 g p t C HR.out HCC.out HV.out _ HB.out).mono ?_); rintro e w2 ⟨rfl, hb⟩; have HB2 := Aside0.mk (below_step HB.out hb); clear HB hb; have HB := HB2; clear HB2)
        | (go_at_call 44; (with_reducible refine (HRT.out _).mono ?_); rintro e w2 ⟨rfl, hb⟩; have HB2 := Aside0.mk (below_step HB.out hb); clear HB hb; have HB := HB2; clear HB2)
        | (go_at_call 45; (with_reducible refine (HRO.out w1 g p t C HR.out HCC.out HV.out _ HB.out).mono ?_); rintro e w2 ⟨rfl, hb⟩; have HB2 := Aside0.mk (below_step HB.out hb); clear HB hb; have HB := HB2; clear HB2)
        | (go_at_call 31; (with_reducible refine (HRR.out _).mono ?_); rintro e w2 ⟨rfl, hb⟩; have HB2 := Aside0.mk (below_step HB.out hb); clear HB hb; have HB := HB2; clear HB2)
        | (go_at_call 32; (with_reducible refine (HLV.out _).mono ?_); rintro e w3 ⟨rfl, hb⟩; have HB2 := Aside0.mk (below_step HB.out hb); clear HB hb; have HB := HB2; clear HB2))
      go_ret
      exact ⟨rfl, HB1.out.trans (HB.out.mono HB1.out.size)⟩
    · have c3 : Sp.valid (ld s) = false := by simpa using c2
      rw [c3] at HVA
      clear c1 c2 c3
      go_enter Try.func9, Try.ntmps9
      go_wp2_with (first
        | (go_at_call 11; (with_reducible refine (HVA.out _).mono ?_); rintro e w1 ⟨rfl, hb⟩; have HB0 := Aside0.mk hb; clear hb)
        | (go_at_call 32; (with_reducible refine (HLV.out _).mono ?_); rintro e w3 ⟨rfl, hb⟩; have HB := Aside0.mk (below_step HB0.out hb); clear hb))
      go_ret
      exact ⟨rfl, HB.out⟩
end Go.Proofs.Ytdcnoiofimngpaa.Gw
