import Derived.Test.YtdcnoiofimngpaaFr
/- Of, and layer 49's lives; FindReplaces: the walk. -/
namespace Go.Proofs.Ytdcnoiofimngpaa.Fw
open Go.RowKit Go.Proofs.Ytdcnoiofimngpaa.U Go.Proofs.Ytdcnoiofimngpaa.QF Go.Proofs.Ytdcnoiofimngpaa.Kt Go.Proofs.Ytdcnoiofimngpaa.Kd_ Go.Proofs.Ytdcnoiofimngpaa.Ke Go.Proofs.Ytdcnoiofimngpaa.Kf Go.Proofs.Ytdcnoiofimngpaa.Kh Go.Proofs.Ytdcnoiofimngpaa.Kj Go.Proofs.Ytdcnoiofimngpaa.Gc Go.Proofs.Ytdcnoiofimngpaa.Gs Go.Proofs.Ytdcnoiofimngpaa.Gt Go.Proofs.Ytdcnoiofimngpaa.Gr Go.Proofs.Ytdcnoiofimngpaa.Wl Go.Proofs.Ytdcnoiofimngpaa.Fn Go.Proofs.Ytdcnoiofimngpaa.Fa Go.Proofs.Ytdcnoiofimngpaa.Fp Go.Proofs.Ytdcnoiofimngpaa.Fr Go.Proofs.YtdcnoiofimngpaaW.PrintWords Go.Proofs.YtdcnoiofimngpaaW.PrintLast Go.Proofs.YtdcnoiofimngpaaW.PrintMore
set_option linter.unusedVariables false
set_option linter.unusedSimpArgs false
theorem kf_le (j : Int) (s : ByteArray) : kf j s ≤ s.size := by
  have h1 := Sp.runes_le (ld s)
  have h2 := Sp.lines_le (ld s)
  rw [ld_len] at h1 h2
  unfold kf
  split
  · omega
  · split <;> omega
/-- what Of answers for a valid text -/
def OfP (w : World) (s : ByteArray) (e : Ending) (w' : World) : Prop := ∃ g p t C, e = .returned (.tuple #[.pointer (some ⟨g, 0, none⟩), .int .i64 0]) ∧ Rope w' g p t C ∧ Gt.IsCut s C ∧ Below w.heap.size w w'
theorem of3_calls (w : World) (s : ByteArray) (hs : s.size ≤ 1500) (hv : Sp.valid (ld s) = true) : Calls Try.prog 13 #[.string s] w (OfP w s) := by
  obtain ⟨C, hC⟩ := cut_of s (by omega) hv
  have hl := hC.len
  refine (rope_calls w s C (by omega) hv hC).mono fun e w' ⟨g, p, h1, h2, h3, h4⟩ => ⟨g, p, tree C, C, h1, ⟨h2, h3, ?_, tree_chunks hC.fits (by omega), fun j => ?_, by omega⟩, hC, h4⟩
  · by_cases h0 : C.length = 0
    · left
      obtain rfl := List.eq_nil_of_length_eq_zero h0
      unfold tree; rw [List.map_nil, upT_nil]
    · exact .inr (tree_fine hC.fits (by omega) h0)
  · rw [kt_cat, hC.cat_]
    have := kf_le j s
    omega
/-- "aaa", "aa" -/
def a3 : ByteArray := ⟨#[97, 97, 97]⟩
def a2 : ByteArray := ⟨#[97, 97]⟩
theorem all_a : AllP (ld a3) (ld a2) 0 [0] := by
  refine .cons 0 0 [] (.inl ⟨rfl, by decide, 0, rfl, by decide, by show _ = _; decide, fun j h1 h2 => by omega⟩) (.nil _ (.inr ⟨rfl, rfl, .inr fun j h1 h2 => ?_⟩))
  have e := congrArg List.length (show ((ld a3).drop j).take (ld a2).length = ld a2 from h2)
  rw [List.length_take, List.length_drop] at e
  have h3 : (ld a2).length = 2 := rfl
  have h4 : (ld a3).length = 3 := rfl
  rw [h3, h4] at e
  rw [h3] at h1
  omega
theorem a3_valid : Sp.valid (ld a3) = true := by decide
set_option maxHeartbeats 4000000 in
set_option maxRecDepth 100000 in
theorem lives49 (w : World) : Calls Try.prog 12 #[] w fun e w' => e = .returned (.bool true) ∧ Below w.heap.size w w' := by
  have HO : Aside0 (Calls Try.prog 13 #[.string ⟨#[97, 97, 97]⟩] w (OfP w a3)) := ⟨of3_calls w a3 (by decide) a3_valid⟩
  have HAL : Aside0 (∀ (w1 : World) g p t C, Rope w1 g p t C → cat C = a3 → ∀ W, Below w1.heap.size w1 W → Calls Try.prog 23 #[.pointer (some ⟨g, 0, none⟩), .string ⟨#[97, 97]⟩] W fun e w' => ∃ ad cp, e = .returned (.slice (some ad) 1 cp) ∧ w'.cell? ad = some (.int .i64 0) ∧ Below W.heap.size W w') := ⟨fun w1 g p t C h hc W hb => (all_calls h hb a2 (by decide)).mono fun e w' ⟨A, cp, l, h1, h2, h3, h4⟩ => by
    rw [hc] at h3
    obtain rfl := all_one h3 all_a
    obtain ⟨ad, rfl, h5⟩ := ints_at h2 0 (by decide) (by decide)
    exact ⟨ad, cp, h1, h5, h4⟩⟩
  go_enter Try.func12, Try.ntmps12
  go_wp2_with (first
    | (go_at_call 13; (with_reducible refine HO.out.mono ?_); rintro e w1 ⟨g, p, t, C, rfl, hR, hc, hb⟩; have HR := Aside0.mk hR; have HCC := Aside0.mk hc.cat_; have HB1 := Aside0.mk hb; have HB := Aside0.mk (Below.refl w1.heap.size w1); clear hR hc hb HO)
    | (go_at_call 23; (with_reducible refine (HAL.out w1 g p t C HR.out HCC.out _ HB.out).mono ?_); rintro e w2 ⟨ad, cp, rfl, h0, hb⟩; have HB2 := Aside0.mk (below_step HB.out hb); clear HB hb; have HB := HB2; clear HB2))
  go_ret
  exact ⟨rfl, HB1.out.trans (HB.out.mono HB1.out.size)⟩
theorem rep_len (a b : ByteArray) (l : List Int) : (repV a b l).1.length ≤ 32 := by
  unfold repV
  split
  · exact Nat.zero_le _
  · split
    · split
      · split
        · exact Nat.zero_le _
        · split
          · exact Nat.zero_le _
          · show (edV a b l l.length).length ≤ 32
            rw [edV_len]; omega
      · exact Nat.zero_le _
    · exact Nat.zero_le _
theorem bs_new (w : World) (v : Value) : Bs (w.alloc (.cells #[v] 30)) w.heap.size v := by
  unfold Bs World.alloc
  simp
theorem of_alloc (w : World) (o : Obj) : Below w.heap.size w (w.alloc o) := (Below.refl _ w).alloc (Nat.le_refl _) o
theorem same_calls {W : World} {rs : List S78} {A1 A2 : Option Addr} {c1 c2 b1 b2 : Nat} {ok1 ok2 : Nat → Prop} (h : stylusref23_Same.f 2000 rs rs = some true) (h1 : Kd.R k78 78 W b1 ok1 (.slice A1 rs.length c1) rs) (h2 : Kd.R k78 78 W b2 ok2 (.slice A2 rs.length c2) rs) :
    Calls Try.prog 16 #[.agg #[.slice A1 rs.length c1], .agg #[.slice A2 rs.length c2]] W fun e w' => e = .returned (.bool true) ∧ Below W.heap.size W w' := by
  obtain ⟨A, c, e, hc, hC⟩ := Kd.R_reads h1
  cases e
  obtain ⟨A', c', e, hc', hC'⟩ := Kd.R_reads h2
  cases e
  exact stylusref23_Same.calls 2000 _ _ rs _ _ rs true W hC hc hC' hc' h
def Ok (w : World) (e : Ending) (w' : World) : Prop := e = .returned (.bool true) ∧ Below w.heap.size w w'
set_option maxHeartbeats 8000000 in
set_option maxRecDepth 100000 in
theorem FindReplaces (w : World) (s a b : ByteArray) : Calls Try.prog 3 #[.string s, .string a, .string b] w (Ok w) := by
  have HLV := Aside0.mk lives49
  have HB0 := Aside0.mk (Below.refl w.heap.size w)
  by_cases c1 : 600 < s.size
  · have d1 : decide (600 < s.size) = true := decide_eq_true c1
    have d1i : decide (600 < (s.size : Int)) = true := decide_eq_true (by omega)
    clear c1
    go_enter Try.func3, Try.ntmps3
    go_wp2_with (go_at_call 12; (with_reducible refine (HLV.out _).mono ?_); rintro e w2 ⟨rfl, hb⟩; have HB2 := Aside0.mk (below_step HB0.out hb); clear HB0 hb; have HB0 := HB2; clear HB2)
    go_ret
    exact ⟨rfl, HB0.out⟩
  · have d1 : decide (600 < s.size) = false := decide_eq_false c1
    have d1i : decide (600 < (s.size : Int)) = false := decide_eq_false (by omega)
    by_cases c2 : 100 < a.size
    · have d2 : decide (100 < a.size) = true := decide_eq_true c2
      have d2i : decide (100 < (a.size : Int)) = true := decide_eq_true (by omega)
      clear c1 c2
      go_enter Try.func3, Try.ntmps3
      go_wp2_with (go_at_call 12; (with_reducible refine (HLV.out _).mono ?_); rintro e w2 ⟨rfl, hb⟩; have HB2 := Aside0.mk (below_step HB0.out hb); clear HB0 hb; have HB0 := HB2; clear HB2)
      go_ret
      exact ⟨rfl, HB0.out⟩
    · have d2 : decide (100 < a.size) = false := decide_eq_false c2
      have d2i : decide (100 < (a.size : Int)) = false := decide_eq_false (by omega)
      by_cases c3 : 100 < b.size
      · have d3 : decide (100 < b.size) = true := decide_eq_true c3
        have d3i : decide (100 < (b.size : Int)) = true := decide_eq_true (by omega)
        clear c1 c2 c3
        go_enter Try.func3, Try.ntmps3
        go_wp2_with (go_at_call 12; (with_reducible refine (HLV.out _).mono ?_); rintro e w2 ⟨rfl, hb⟩; have HB2 := Aside0.mk (below_step HB0.out hb); clear HB0 hb; have HB0 := HB2; clear HB2)
        go_ret
        exact ⟨rfl, HB0.out⟩
      · have d3 : decide (100 < b.size) = false := decide_eq_false c3
        have d3i : decide (100 < (b.size : Int)) = false := decide_eq_false (by omega)
        have HVA : Aside0 (∀ W, Calls Try.prog 11 #[.string s] W fun e w' => e = .returned (.bool (Sp.valid (ld s))) ∧ Below W.heap.size W w') := ⟨fun W => stylusref01_Valid.calls s _ W (by unfold stylusref01_Valid.f; rw [if_pos (by omega)])⟩
        cases hva : Sp.valid (ld s)
        · rw [hva] at HVA
          clear c1 c2 c3 hva
          go_enter Try.func3, Try.ntmps3
          go_wp2_with (first
            | (go_at_call 11; (with_reducible refine (HVA.out _).mono ?_); rintro e w1 ⟨rfl, hb⟩; have HB2 := Aside0.mk (below_step HB0.out hb); clear HB0 hb; have HB0 := HB2; clear HB2)
            | (go_at_call 12; (with_reducible refine (HLV.out _).mono ?_); rintro e w2 ⟨rfl, hb⟩; have HB2 := Aside0.mk (below_step HB0.out hb); clear HB0 hb; have HB0 := HB2; clear HB2))
          go_ret
          exact ⟨rfl, HB0.out⟩
        · rw [hva] at HVA
          have HO : Aside0 (∀ W, Calls Try.prog 13 #[.string s] W (OfP W s)) := ⟨fun W => of3_calls W s (by omega) hva⟩
          obtain ⟨l, hl1, hl2⟩ := ref_rep s a b (by omega) (by omega) (by omega)
          have HRP : Aside0 (∀ (w1 : World) g p t C, Rope w1 g p t C → cat C = s → ∀ W, Below w1.heap.size w1 W → Calls Try.prog 14 #[.pointer (some ⟨g, 0, none⟩), .string a, .string b] W (RepPost W (repV a b l))) := ⟨fun w1 g p t C h hc W hb => rep_l_calls h hb a b (by omega) (by omega) l (by rw [hc]; exact hl2)⟩
          have hlen := rep_len a b l
          obtain ⟨⟨rs, re⟩, hr⟩ : ∃ r, repV a b l = r := ⟨_, rfl⟩
          rw [hr] at hl1 HRP hlen
          have HRR : Aside0 (∀ W, Calls Try.prog 15 #[.string s, .string a, .string b] W (RepPost W (rs, re))) := ⟨fun W => stylusref49_Replace.calls 20100 s a b rs re W hl1⟩
          unfold RepPost at HRP HRR
          dsimp only at HRP HRR
          have HSA := Aside0.mk (same_f rs (by have : rs.length ≤ 32 := hlen; omega))
          clear c1 c2 c3 hva hl1 hl2 hr hlen
          have e0 : (re == re) = true := beq_self_eq_true re
          go_enter Try.func3, Try.ntmps3
          go_wp2_with (first
            | (go_at_call 11; (with_reducible refine (HVA.out _).mono ?_); rintro e w1 ⟨rfl, hb⟩; have HB2 := Aside0.mk (below_step HB0.out hb); clear HB0 hb; have HB0 := HB2; clear HB2)
            | (go_at_call 13; (with_reducible refine (HO.out _).mono ?_); rintro e w1 ⟨g, p, t, C, rfl, hR, hc, hb⟩; have HR := Aside0.mk hR; have HCC := Aside0.mk hc.cat_; have HB1 := Aside0.mk (below_step HB0.out hb); have HB := Aside0.mk (Below.refl w1.heap.size w1); clear hR hc hb HO HB0)
            | (go_at_call 14; (with_reducible refine (HRP.out w1 g p t C HR.out HCC.out _ HB.out).mono ?_); rintro e w2 ⟨v, rfl, hR2, hb⟩; obtain ⟨A1, cp1, rfl⟩ := Kd.R_slice hR2; have HR2 := Aside0.mk hR2; have HB2 := Aside0.mk (below_step HB.out hb); clear HB hb; have HB := HB2; clear HB2; clear hR2 HRP)
            | (have HB2 := Aside0.mk (HB.out.alloc HB.out.size (.cells #[.slice A1 rs.length cp1] 30)); clear HB; have HB := HB2; clear HB2; go_at_call 15; (with_reducible refine (HRR.out _).mono ?_); rintro e w3 ⟨v, rfl, hR3, hb⟩; obtain ⟨A2, cp2, rfl⟩ := Kd.R_slice hR3; have HR3 := Aside0.mk (Kd.R_below hR3 (of_alloc w3 (.cells #[.slice A2 rs.length cp2] 30))); have HR2b := Aside0.mk (Kd.R_below (Kd.R_below (Kd.R_below HR2.out (of_alloc w2 (.cells #[.slice A1 rs.length cp1] 30))) hb) (of_alloc w3 (.cells #[.slice A2 rs.length cp2] 30))); have x9 : (w3.alloc (.cells #[.slice A2 rs.length cp2] 30)).cell? ⟨w2.heap.size, 0, none⟩ = some (.slice A1 rs.length cp1) := bs_cell (blk_alloc (blk_below (bs_new w2 (.slice A1 rs.length cp1)) hb) _); have x11 : (w3.alloc (.cells #[.slice A2 rs.length cp2] 30)).cell? ⟨w3.heap.size, 0, none⟩ = some (.slice A2 rs.length cp2) := bs_cell (bs_new w3 (.slice A2 rs.length cp2)); have HB2 := Aside0.mk (below_step HB.out hb); clear HB hb; have HB := HB2; clear HB2; have HB2 := Aside0.mk (HB.out.alloc HB.out.size (.cells #[.slice A2 rs.length cp2] 30)); clear HB; have HB := HB2; clear HB2 HR2 hR3 HRR)
            | (go_at_call 16; (with_reducible refine (same_calls HSA.out HR2b.out HR3.out).mono ?_); rintro e w4 ⟨rfl, hb⟩; have HB2 := Aside0.mk (below_step HB.out hb); clear HB hb; have HB := HB2; clear HB2)
            | (go_at_call 12; (with_reducible refine (HLV.out _).mono ?_); rintro e w5 ⟨rfl, hb⟩; have HB2 := Aside0.mk (below_step HB.out hb); clear HB hb; have HB := HB2; clear HB2))
          go_ret
          exact ⟨rfl, HB1.out.trans (HB.out.mono HB1.out.size)⟩
end Go.Proofs.Ytdcnoiofimngpaa.Fw
