import Derived.Test.YtdcnoiofimngpaaGl
/- SeekRunes: the walk. -/
namespace Go.Proofs.Ytdcnoiofimngpaa.Gx
open Go.RowKit Go.Proofs.Ytdcnoiofimngpaa.U Go.Proofs.Ytdcnoiofimngpaa.QK Go.Proofs.Ytdcnoiofimngpaa.QS Go.Proofs.Ytdcnoiofimngpaa.Kt Go.Proofs.Ytdcnoiofimngpaa.Kh Go.Proofs.Ytdcnoiofimngpaa.Kj Go.Proofs.Ytdcnoiofimngpaa.Gs Go.Proofs.Ytdcnoiofimngpaa.Gr Go.Proofs.Ytdcnoiofimngpaa.Gq Go.Proofs.Ytdcnoiofimngpaa.Gn Go.Proofs.Ytdcnoiofimngpaa.Gl Go.Proofs.Ytdcnoiofimngpaa.Gb Go.Proofs.Ytdcnoiofimngpaa.Gf Go.Proofs.Ytdcnoiofimngpaa.Gv Go.Proofs.YtdcnoiofimngpaaW.PrintWords Go.Proofs.YtdcnoiofimngpaaW.PrintLast Go.Proofs.YtdcnoiofimngpaaW.PrintMore
set_option linter.unusedVariables false
set_option linter.unusedSimpArgs false
set_option maxHeartbeats 8000000 in
set_option maxRecDepth 100000 in
theorem SeekRunes (w : World) (s : ByteArray) (x n : Int) : Calls Try.prog 7 #[.string s, .int .i64 x, .int .i64 n] w fun e w' => e = .returned (.bool true) ∧ Below w.heap.size w w' := by
  have HLV := Aside0.mk lives_calls
  by_cases c1 : 1500 < s.size
  · have d1 : decide (1500 < s.size) = true := decide_eq_true c1
    have d2 : decide (1500 < (s.size : Int)) = true := decide_eq_true (by omega)
    clear c1
    go_enter Try.func7, Try.ntmps7
    go_wp2_with (go_at_call 32; (with_reducible refine (HLV.out _).mono ?_); rintro e w1 ⟨rfl, hb⟩; have HB := Aside0.mk hb; clear hb)
    go_ret
    exact ⟨rfl, HB.out⟩
  · have d1 : decide (1500 < s.size) = false := decide_eq_false c1
    have d2 : decide (1500 < (s.size : Int)) = false := decide_eq_false (by omega)
    have HVA : Aside0 (∀ W, Calls Try.prog 11 #[.string s] W fun e w' => e = .returned (.bool (Sp.valid (ld s))) ∧ Below W.heap.size W w') := ⟨fun W => stylusref01_Valid.calls s _ W (by unfold stylusref01_Valid.f; rw [if_pos (by omega)])⟩
    by_cases c2 : Sp.valid (ld s) = true
    · rw [c2] at HVA
      have HO : Aside0 (∀ W, Calls Try.prog 13 #[.string s] W (OfPost W s)) := ⟨fun W => of_calls W s (by omega) c2⟩
      have HRR : Aside0 (∀ W, Calls Try.prog 34 #[.string s, .int .i64 x] W fun e w' => e = .returned (.tuple #[.int .i64 (runeV s x).1, .int .i64 (runeV s x).2]) ∧ Drawn0 W w') := ⟨fun W => stylusref19_Rune.calls 1 s x _ _ W (ref_rune s x 0 (by omega))⟩
      have HRB : Aside0 (∀ W, Calls Try.prog 36 #[.string s, .int .i64 n] W fun e w' => e = .returned (.tuple #[.int .i64 (byteV s n).1, .int .i64 (byteV s n).2]) ∧ Drawn0 W w') := ⟨fun W => stylusref19_Byte.calls (s.size + 1 + 1) s n _ _ W (ref_byte s n (s.size + 1) (by omega) (by omega) c2)⟩
      have HRU : Aside0 (∀ (w1 : World) g p t C, Rope w1 g p t C → cat C = s → (∀ y ∈ C, Sp.valid (ld y) = true) → ∀ W, Below w1.heap.size w1 W → Calls Try.prog 33 #[.pointer (some ⟨g, 0, none⟩), .int .i64 x] W fun e w' => e = .returned (.tuple #[.int .i64 (runeV s x).1, .int .i64 (runeV s x).2]) ∧ Below W.heap.size W w') := ⟨fun w1 g p t C h hc hv W hb => by
        have := rune_calls h hv hb x
        rw [hc] at this
        exact this⟩
      have HBY : Aside0 (∀ (w1 : World) g p t C, Rope w1 g p t C → cat C = s → (∀ y ∈ C, Sp.valid (ld y) = true) → ∀ W, Below w1.heap.size w1 W → Calls Try.prog 35 #[.pointer (some ⟨g, 0, none⟩), .int .i64 n] W fun e w' => e = .returned (.tuple #[.int .i64 (byteV s n).1, .int .i64 (byteV s n).2]) ∧ Below W.heap.size W w') := ⟨fun w1 g p t C h hc hv W hb => by
        have := byte_calls h hv hb n
        rw [hc] at this
        exact this⟩
      clear c1 c2
      generalize runeV s x = rv at HRR HRU
      generalize byteV s n = bv at HRB HBY
      obtain ⟨r1, r2⟩ := rv
      obtain ⟨b1, b2⟩ := bv
      have e1 : (r1 == r1) = true := beq_self_eq_true _
      have e2 : (r2 == r2) = true := beq_self_eq_true _
      have e3 : (b1 == b1) = true := beq_self_eq_true _
      have e4 : (b2 == b2) = true := beq_self_eq_true _
      dsimp only at HRR HRU HRB HBY
      have HB0 := Aside0.mk (Below.refl w.heap.size w)
      go_enter Try.func7, Try.ntmps7
      go_wp2_with (first
        | (go_at_call 11; (with_reducible refine (HVA.out _).mono ?_); rintro e w1 ⟨rfl, hb⟩; have HB2 := Aside0.mk (below_step HB0.out hb); clear HB0 hb; have HB0 := HB2; clear HB2)
        | (go_at_call 13; (with_reducible refine (HO.out _).mono ?_); rintro e w1 ⟨g, p, t, C, rfl, hR, hc, hv, hb⟩; have HR := Aside0.mk hR; have HCC := Aside0.mk hc; have HV := Aside0.mk hv; have HB1 := Aside0.mk (below_step HB0.out hb); have HB := Aside0.mk (Below.refl w1.heap.size w1); clear hR hc hv hb HO HB0)
        | (go_at_call 33; (with_reducible refine (HRU.out w1 g p t C HR.out HCC.out HV.out _ HB.out).mono ?_); rintro e w2 ⟨rfl, hb⟩; have HB2 := Aside0.mk (below_step HB.out hb); clear HB hb; have HB := HB2; clear HB2)
        | (go_at_call 34; (with_reducible refine (HRR.out _).mono ?_); rintro e w2 ⟨rfl, hb⟩; have HB2 := Aside0.mk (below_step HB.out hb.below); clear HB hb; have HB := HB2; clear HB2)
        | (go_at_call 35; (with_reducible refine (HBY.out w1 g p t C HR.out HCC.out HV.out _ HB.out).mono ?_); rintro e w2 ⟨rfl, hb⟩; have HB2 := Aside0.mk (below_step HB.out hb); clear HB hb; have HB := HB2; clear HB2)
        | (go_at_call 36; (with_reducible refine (HRB.out _).mono ?_); rintro e w2 ⟨rfl, hb⟩; have HB2 := Aside0.mk (below_step HB.out hb.below); clear HB hb; have HB := HB2; clear HB2)
        | (go_at_call 32; (with_reducible refine (HLV.out _).mono ?_); rintro e w3 ⟨rfl, hb⟩; have HB2 := Aside0.mk (below_step HB.out hb); clear HB hb; have HB := HB2; clear HB2))
      go_ret
      exact ⟨rfl, HB1.out.trans (HB.out.mono HB1.out.size)⟩
    · have c3 : Sp.valid (ld s) = false := by simpa using c2
      rw [c3] at HVA
      clear c1 c2 c3
      go_enter Try.func7, Try.ntmps7
      go_wp2_with (first
        | (go_at_call 11; (with_reducible refine (HVA.out _).mono ?_); rintro e w1 ⟨rfl, hb⟩; have HB0 := Aside0.mk hb; clear hb)
        | (go_at_call 32; (with_reducible refine (HLV.out _).mono ?_); rintro e w3 ⟨rfl, hb⟩; have HB := Aside0.mk (below_step HB0.out hb); clear hb))
      go_ret
      exact ⟨rfl, HB.out⟩
end Go.Proofs.Ytdcnoiofimngpaa.Gx
