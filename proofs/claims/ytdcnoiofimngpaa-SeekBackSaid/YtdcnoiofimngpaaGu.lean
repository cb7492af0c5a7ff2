import Derived.Test.YtdcnoiofimngpaaGp
/- SeekBack: the walk. -/
namespace Go.Proofs.Ytdcnoiofimngpaa.Gu
open Go.RowKit Go.Proofs.Ytdcnoiofimngpaa.U Go.Proofs.Ytdcnoiofimngpaa.QK Go.Proofs.Ytdcnoiofimngpaa.QS Go.Proofs.Ytdcnoiofimngpaa.Kt Go.Proofs.Ytdcnoiofimngpaa.Kh Go.Proofs.Ytdcnoiofimngpaa.Kj Go.Proofs.Ytdcnoiofimngpaa.Gs Go.Proofs.Ytdcnoiofimngpaa.Gr Go.Proofs.Ytdcnoiofimngpaa.Ge Go.Proofs.Ytdcnoiofimngpaa.Gq Go.Proofs.Ytdcnoiofimngpaa.Gn Go.Proofs.Ytdcnoiofimngpaa.Gl Go.Proofs.Ytdcnoiofimngpaa.Gb Go.Proofs.Ytdcnoiofimngpaa.Gf Go.Proofs.Ytdcnoiofimngpaa.Gv Go.Proofs.Ytdcnoiofimngpaa.Gy Go.Proofs.Ytdcnoiofimngpaa.Gp Go.Proofs.YtdcnoiofimngpaaW.PrintWords Go.Proofs.YtdcnoiofimngpaaW.PrintLast Go.Proofs.YtdcnoiofimngpaaW.PrintMore
set_option linter.unusedVariables false
set_option linter.unusedSimpArgs false
theorem getD_at (l : List UInt8) (p : Nat) (hp : p < l.length) : l.getD p 0 = l[p]'hp := by rw [List.getD_eq_getElem?_getD, List.getElem?_eq_getElem hp]; rfl
/-- behind a line end stands an edge -/
theorem edge_nl (l : List UInt8) (hv : Sp.valid l = true) (p : Nat) (hp : p < l.length) (h : (l[p]'hp).toNat = 10) : Sp.edge l ((p + 1 : Nat) : Int) = true := by
  by_cases hq : p + 1 < l.length
  · have hc : Sp.cont (l.getD p 0) = false := by rw [getD_at l p hp]; exact Sp.cont_not (.inl (by omega))
    have he := Gc.edge_of hp hc
    have hd := (Sp.valid_cut l p (by omega) he hv).2
    rw [List.drop_eq_getElem_cons hp, Sp.valid_step _ (List.cons_ne_nil _ _), Bool.and_eq_true] at hd
    have h1 : (Sp.dec (l[p]'hp :: l.drop (p + 1))).2 = 1 := by
      rw [Sp.dec_cons, h]
      rfl
    have h2 := hd.2
    rw [h1, List.drop_succ_cons, List.drop_zero] at h2
    have h3 := head_not h2 (by rw [List.length_drop]; omega)
    rw [List.getD_eq_getElem?_getD, List.getElem?_drop, Nat.add_zero, ← List.getD_eq_getElem?_getD] at h3
    exact Gc.edge_of hq h3
  · unfold Sp.edge
    rw [decide_eq_true (show (0 : Int) ≤ ((p + 1 : Nat) : Int) by omega), decide_eq_true (show ((p + 1 : Nat) : Int) ≤ (l.length : Int) by omega), decide_eq_true (show ((p + 1 : Nat) : Int) = (l.length : Int) by omega), Bool.or_true]
    rfl
theorem check_nl (s : ByteArray) (hv : Sp.valid (ld s) = true) (j : Nat) (h : j ≤ Sp.lines (ld s)) : checkV s (nl (ld s) j : Int) = 0 := by
  have hle := nl_le (ld s) j
  rw [ld_len] at hle
  have he : Sp.edge (ld s) (nl (ld s) j : Int) = true := by
    cases j with
    | zero =>
      rw [nl_zero]
      unfold Sp.edge
      rw [decide_eq_true (show (0 : Int) ≤ ((0 : Nat) : Int) by omega), decide_eq_true (show ((0 : Nat) : Int) ≤ ((ld s).length : Int) by omega), decide_eq_true (show ((0 : Nat) : Int) = 0 from rfl)]
      rfl
    | succ j =>
      obtain ⟨hp, hn⟩ := is_nl (ld s) j (by omega)
      have m := nl_mono (ld s) j (by omega)
      have := edge_nl (ld s) hv _ hp hn
      rw [show nl (ld s) (j + 1) - 1 + 1 = nl (ld s) (j + 1) by omega] at this
      exact this
  unfold checkV
  rw [if_neg (by omega), if_neg (by omega), if_pos he]
theorem line_nl (s : ByteArray) (hv : Sp.valid (ld s) = true) (j : Nat) (h : j ≤ Sp.lines (ld s)) : lineV s (nl (ld s) j : Int) = ((j : Int), 0, 0) := by
  unfold lineV
  rw [if_pos (check_nl s hv j h), Int.toNat_natCast, kf2, Gc.ld_take, nl_lines (ld s) j h, Int.toNat_natCast, Int.sub_self]
theorem start_nl (s : ByteArray) (j : Nat) (h : j ≤ Sp.lines (ld s)) : startV s (j : Int) = ((nl (ld s) j : Int), 0) := by
  unfold startV
  rw [kf2, if_neg (by omega), if_neg (by omega), Int.toNat_natCast]
theorem row_nl (s : ByteArray) (j : Nat) (h : j ≤ Sp.lines (ld s)) : rowV s (j : Int) = (s.extract (nl (ld s) j) (rowE s j), 0) := by
  unfold rowV
  rw [kf2, if_neg (by omega), if_neg (by omega), Int.toNat_natCast]
/-- the place of as many runes as stand ahead of an edge -/
theorem rn_back (l : List UInt8) (hv : Sp.valid l = true) (x : Nat) (hx : x ≤ l.length) (he : Sp.edge l (x : Int) = true) : rn l (Sp.runes (l.take x)) = x := by
  have hr : Sp.runes (l.take x) ≤ Sp.runes l := by
    conv => rhs; rw [← List.take_append_drop x l, Sp.runes_append]
    omega
  rcases Nat.lt_trichotomy (rn l (Sp.runes (l.take x))) x with h | h | h
  · exfalso
    have h1 := rn_edge l (Sp.runes (l.take x)) (by omega)
    have h2 := rn_runes l (Sp.runes (l.take x)) hr
    have hp : rn l (Sp.runes (l.take x)) < l.length := by omega
    have h3 := Sp.runes_take l (rn l (Sp.runes (l.take x))) hp
    rw [getD_at l _ hp] at h1
    rw [h1, h2] at h3
    simp only [Bool.false_eq_true, if_false] at h3
    have h4 : Sp.runes (l.take (rn l (Sp.runes (l.take x)) + 1)) ≤ Sp.runes (l.take x) := by
      have e : l.take x = l.take (rn l (Sp.runes (l.take x)) + 1) ++ (l.take x).drop (rn l (Sp.runes (l.take x)) + 1) := by
        conv => lhs; rw [← List.take_append_drop (rn l (Sp.runes (l.take x)) + 1) (l.take x), List.take_take, Nat.min_eq_left (by omega)]
      have e2 := congrArg Sp.runes e
      rw [Sp.runes_append] at e2
      omega
    omega
  · exact h
  · exfalso
    have hle := rn_le l (Sp.runes (l.take x))
    rcases rn_far l _ x h with h1 | h1
    · omega
    · unfold Sp.edge at he
      rw [Int.toNat_natCast, h1] at he
      simp only [Bool.not_true, Bool.or_false, Bool.and_eq_true, Bool.or_eq_true, decide_eq_true_eq] at he
      rcases he.2 with h2 | h2
      · have h0 : x = 0 := by omega
        subst h0
        rw [head_not hv (by omega)] at h1
        cases h1
      · omega
theorem byte_back (s : ByteArray) (hv : Sp.valid (ld s) = true) (x : Int) (c : checkV s x = 0) : byteV s (kf 1 (s.extract 0 x.toNat)) = (x, 0) := by
  obtain ⟨x0, x1⟩ := check_in c
  have he : Sp.edge (ld s) x = true := by
    unfold checkV at c
    rw [if_neg (by omega), if_neg (by omega)] at c
    split at c
    · assumption
    · cases c
  have h1 := kf_nonneg 1 (s.extract 0 x.toNat)
  have h2 := kf_take 1 s x.toNat
  unfold byteV
  rw [if_neg (by omega), if_neg (by omega)]
  have hr := rn_back (ld s) hv x.toNat (by rw [ld_len]; omega) (by rw [Int.toNat_of_nonneg x0]; exact he)
  rw [kf1, Gc.ld_take, Int.toNat_natCast, hr, Int.toNat_of_nonneg x0]
/-- what all lines ahead are, with what ends them but the last one -/
def acc (s : ByteArray) : Nat → ByteArray
  | 0 => ⟨#[]⟩
  | j + 1 => s.extract 0 (rowE s j)
theorem acc_zero (s : ByteArray) (h : 0 ≤ Sp.lines (ld s)) : acc s 0 ++ s.extract (nl (ld s) 0) (rowE s 0) = acc s 1 := by
  rw [nl_zero]
  apply ld_ext
  rw [Gc.ld_app]
  rfl
theorem acc_next (s : ByteArray) (j : Nat) (h : j + 1 ≤ Sp.lines (ld s)) : (acc s (j + 1) ++ ⟨#[10]⟩) ++ s.extract (nl (ld s) (j + 1)) (rowE s (j + 1)) = acc s (j + 2) := by
  obtain ⟨hp, hn⟩ := is_nl (ld s) j (by omega)
  have m := nl_mono (ld s) j (by omega)
  obtain ⟨e1, e2⟩ := rowE_le s (j + 1)
  have er : rowE s j = nl (ld s) (j + 1) - 1 := by unfold rowE; rw [if_pos (by omega)]
  show (s.extract 0 (rowE s j) ++ ⟨#[10]⟩) ++ _ = s.extract 0 (rowE s (j + 1))
  apply ld_ext
  rw [Gc.ld_app, Gc.ld_app, Gc.ld_take, Gc.ld_take, Gc.ld_extract, List.extract_eq_take_drop, er]
  have h10 : ld (⟨#[10]⟩ : ByteArray) = [(ld s)[nl (ld s) (j + 1) - 1]'hp] := by
    have : (ld s)[nl (ld s) (j + 1) - 1]'hp = (10 : UInt8) := UInt8.toNat_inj.mp hn
    rw [this]
  rw [h10, ← List.take_succ_eq_append_getElem hp, show nl (ld s) (j + 1) - 1 + 1 = nl (ld s) (j + 1) by omega, ← List.take_add, Nat.add_sub_cancel' e1]
theorem acc_le (s : ByteArray) (j : Nat) : (acc s j).size ≤ s.size := by
  cases j with
  | zero => exact Nat.zero_le _
  | succ j =>
    show (s.extract 0 (rowE s j)).size ≤ _
    rw [ByteArray.size_extract]; omega
theorem acc_end (s : ByteArray) : acc s (Sp.lines (ld s) + 1) = s := by
  show s.extract 0 (rowE s (Sp.lines (ld s))) = s
  unfold rowE
  rw [if_neg (by omega)]
  apply ld_ext
  rw [Gc.ld_take, List.take_of_length_le (by rw [ld_len]; omega)]
set_option maxHeartbeats 16000000 in
set_option maxRecDepth 100000 in
theorem SeekBack (w : World) (s : ByteArray) (x : Int) : Calls Try.prog 10 #[.string s, .int .i64 x] w fun e w' => e = .returned (.bool true) ∧ Below w.heap.size w w' := by
  have HLV := Aside0.mk lives_calls
  by_cases c1 : 600 < s.size
  · have d1 : decide (600 < s.size) = true := decide_eq_true c1
    have d2 : decide (600 < (s.size : Int)) = true := decide_eq_true (by omega)
    clear c1
    go_enter Try.func10, Try.ntmps10
    go_wp2_with (go_at_call 32; (with_reducible refine (HLV.out _).mono ?_); rintro e w1 ⟨rfl, hb⟩; have HB := Aside0.mk hb; clear hb)
    go_ret
    exact ⟨rfl, HB.out⟩
  · have d1 : decide (600 < s.size) = false := decide_eq_false c1
    have d2 : decide (600 < (s.size : Int)) = false := decide_eq_false (by omega)
    have HVA : Aside0 (∀ W, Calls Try.prog 11 #[.string s] W fun e w' => e = .returned (.bool (Sp.valid (ld s))) ∧ Below W.heap.size W w') := ⟨fun W => stylusref01_Valid.calls s _ W (by unfold stylusref01_Valid.f; rw [if_pos (by omega)])⟩
    by_cases c2 : Sp.valid (ld s) = true
    · rw [c2] at HVA
      have HSV := Aside0.mk c2
      have HSZ : Aside0 (s.size ≤ 600) := ⟨by omega⟩
      have hll := Sp.lines_le (ld s)
      rw [ld_len] at hll
      have HLL : Aside0 (Sp.lines (ld s) ≤ 600) := ⟨by omega⟩
      have HO : Aside0 (∀ W, Calls Try.prog 13 #[.string s] W (OfPost W s)) := ⟨fun W => of_calls W s (by omega) c2⟩
      have HRU : Aside0 (∀ (w1 : World) g p t C, Rope w1 g p t C → cat C = s → (∀ y ∈ C, Sp.valid (ld y) = true) → ∀ W, Below w1.heap.size w1 W → Calls Try.prog 33 #[.pointer (some ⟨g, 0, none⟩), .int .i64 x] W fun e w' => e = .returned (.tuple #[.int .i64 (runeV s x).1, .int .i64 (runeV s x).2]) ∧ Below W.heap.size W w') := ⟨fun w1 g p t C h hc hv W hb => by
        have := rune_calls h hv hb x
        rw [hc] at this
        exact this⟩
      have HLN : Aside0 (∀ (w1 : World) g p t C, Rope w1 g p t C → cat C = s → (∀ y ∈ C, Sp.valid (ld y) = true) → ∀ W, Below w1.heap.size w1 W → Calls Try.prog 42 #[.pointer (some ⟨g, 0, none⟩)] W fun e w' => e = .returned (.int .i64 ((Sp.lines (ld s) : Int) + 1)) ∧ Below W.heap.size W w') := ⟨fun w1 g p t C h hc hv W hb => by
        have := lines_calls h hb
        rw [kt_cat, hc, kf2] at this
        exact this⟩
      have HST : Aside0 (∀ (w1 : World) g p t C, Rope w1 g p t C → cat C = s → ∀ W, Below w1.heap.size w1 W → ∀ j, j ≤ Sp.lines (ld s) → Calls Try.prog 43 #[.pointer (some ⟨g, 0, none⟩), .int .i64 (j : Int)] W fun e w' => e = .returned (.tuple #[.int .i64 (nl (ld s) j : Int), .int .i64 0]) ∧ Below W.heap.size W w') := ⟨fun w1 g p t C h hc W hb j hj => by
        have := start_calls h hb (j : Int)
        rw [hc, start_nl s j hj] at this
        exact this⟩
      have HLI : Aside0 (∀ (w1 : World) g p t C, Rope w1 g p t C → cat C = s → (∀ y ∈ C, Sp.valid (ld y) = true) → ∀ W, Below w1.heap.size w1 W → ∀ j, j ≤ Sp.lines (ld s) → Calls Try.prog 40 #[.pointer (some ⟨g, 0, none⟩), .int .i64 (nl (ld s) j : Int)] W fun e w' => e = .returned (.tuple #[.int .i64 (j : Int), .int .i64 0, .int .i64 0]) ∧ Below W.heap.size W w') := ⟨fun w1 g p t C h hc hv W hb j hj => by
        have := line_calls h hv hb (nl (ld s) j : Int)
        rw [hc, line_nl s c2 j hj] at this
        exact this⟩
      have HRO : Aside0 (∀ (w1 : World) g p t C, Rope w1 g p t C → cat C = s → ∀ W, Below w1.heap.size w1 W → ∀ j, j ≤ Sp.lines (ld s) → Calls Try.prog 45 #[.pointer (some ⟨g, 0, none⟩), .int .i64 (j : Int)] W fun e w' => e = .returned (.tuple #[.string (s.extract (nl (ld s) j) (rowE s j)), .int .i64 0]) ∧ Below W.heap.size W w') := ⟨fun w1 g p t C h hc W hb j hj => by
        have := row_calls h hb (j : Int)
        rw [hc, row_nl s j hj] at this
        exact this⟩
      have HBY : Aside0 (∀ (w1 : World) g p t C, Rope w1 g p t C → cat C = s → (∀ y ∈ C, Sp.valid (ld y) = true) → checkV s x = 0 → ∀ W, Below w1.heap.size w1 W → Calls Try.prog 35 #[.pointer (some ⟨g, 0, none⟩), .int .i64 (kf 1 (s.extract 0 x.toNat))] W fun e w' => e = .returned (.tuple #[.int .i64 x, .int .i64 0]) ∧ Below W.heap.size W w') := ⟨fun w1 g p t C h hc hv hx W hb => by
        have := byte_calls h hv hb (kf 1 (s.extract 0 x.toNat))
        rw [hc, byte_back s c2 x hx] at this
        exact this⟩
      have HB0 := Aside0.mk (Below.refl w.heap.size w)
      clear c1 c2 hll
      obtain ⟨LN, hLN⟩ : ∃ LN, Sp.lines (ld s) = LN := ⟨_, rfl⟩
      rw [hLN] at HLL HLN HST HLI HRO
      have HLE := Aside0.mk hLN
      clear hLN
      have e0 : (x != x) = false := bne_self_eq_false x
      by_cases c3 : checkV s x = 0
      · have hrv : runeV s x = (kf 1 (s.extract 0 x.toNat), 0) := by unfold runeV; rw [if_pos c3]
        rw [hrv] at HRU
        dsimp only at HRU
        have HC3 := Aside0.mk c3
        clear c3 hrv
        go_enter Try.func10, Try.ntmps10
        go_wp2_with (first
          | (go_at_call 11; (with_reducible refine (HVA.out _).mono ?_); rintro e w1 ⟨rfl, hb⟩; have HB2 := Aside0.mk (below_step HB0.out hb); clear HB0 hb; have HB0 := HB2; clear HB2)
          | (go_at_call 13; (with_reducible refine (HO.out _).mono ?_); rintro e w1 ⟨g, p, t, C, rfl, hR, hc, hv, hb⟩; have HR := Aside0.mk hR; have HCC := Aside0.mk hc; have HV := Aside0.mk hv; have HB1 := Aside0.mk (below_step HB0.out hb); have HB := Aside0.mk (Below.refl w1.heap.size w1); clear hR hc hv hb HO HB0)
          | (go_at_call 33; (with_reducible refine (HRU.out w1 g p t C HR.out HCC.out HV.out _ HB.out).mono ?_); rintro e w2 ⟨rfl, hb⟩; have HB2 := Aside0.mk (below_step HB.out hb); clear HB hb; have HB := HB2; clear HB2)
          | (go_at_call 42; (with_reducible refine (HLN.out w1 g p t C HR.out HCC.out HV.out _ HB.out).mono ?_); rintro e w2 ⟨rfl, hb⟩; have HB2 := Aside0.mk (below_step HB.out hb); clear HB hb; have HB := HB2; clear HB2)
          | (go_at_call 35; (with_reducible refine (HBY.out w1 g p t C HR.out HCC.out HV.out HC3.out _ HB.out).mono ?_); rintro e w2 ⟨rfl, hb⟩; have HB2 := Aside0.mk (below_step HB.out hb); clear HB hb; have HB := HB2; clear HB2))
        go_loopg [11, 13] (LN + 2) (fun kq v11 v13 w' => ∃ j : Nat, v11 = .string (acc s j) ∧ v13 = .int .i64 (j : Int) ∧ Aside0 (j + kq = LN + 2 ∧ j ≤ LN + 1) ∧ Aside0 (Below w1.heap.size w1 w'))
        case atStart => exact ⟨0, rfl, rfl, ⟨by omega⟩, HB⟩
        case round =>
          clear HB
          obtain ⟨j, rfl, rfl, HJ, HB⟩ := hrel
          obtain ⟨k2, rfl⟩ : ∃ k2, gk = k2 + 1 := ⟨gk - 1, by have := HJ.out; omega⟩
          by_cases c4 : j ≤ LN
          · have c4b : decide ((j : Int) < (LN : Int) + 1) = true := decide_eq_true (by omega)
            have c5b : decide ((j : Int) < 700) = true := decide_eq_true (by have := HLL.out; omega)
            have HJL := Aside0.mk c4
            have ej : ((j : Int) != (j : Int)) = false := bne_self_eq_false _
            have HWJ : Aside0 (wrap64 ((j : Int) + 1) = ((j + 1 : Nat) : Int)) := ⟨by have := HLL.out; unfold wrap64; omega⟩
            obtain ⟨aj, haj⟩ : ∃ a_, acc s j = a_ := ⟨_, rfl⟩
            obtain ⟨ac, hac⟩ : ∃ a_, acc s (j + 1) = a_ := ⟨_, rfl⟩
            obtain ⟨y, hy⟩ : ∃ y_, s.extract (nl (ld s) j) (rowE s j) = y_ := ⟨_, rfl⟩
            have HACT := Aside0.mk hac
            have ha6 : aj.size ≤ 600 := by rw [← haj]; have := acc_le s j; have := HSZ.out; omega
            have hy6 : y.size ≤ 600 := by rw [← hy, ByteArray.size_extract]; have := HSZ.out; omega
            have HST2 := Aside0.mk (fun W hb => HST.out w1 g p t C HR.out HCC.out W hb j c4)
            have HLI2 := Aside0.mk (fun W hb => HLI.out w1 g p t C HR.out HCC.out HV.out W hb j c4)
            have HRO2 := Aside0.mk (fun W hb => HRO.out w1 g p t C HR.out HCC.out W hb j c4)
            rw [hy] at HRO2
            rw [haj]
            have m1 : (9223372036854775807 < aj.size + 1) = False := eq_false (by omega)
            have m2 : (9223372036854775807 < aj.size + (⟨#[10]⟩ : ByteArray).size) = False := m1
            have m3 : (9223372036854775807 < aj.size + 1 + y.size) = False := eq_false (by omega)
            have m4 : (9223372036854775807 < (aj ++ (⟨#[10]⟩ : ByteArray)).size + y.size) = False := by rw [ByteArray.size_append]; exact m3
            have m5 : (9223372036854775807 < aj.size + (⟨#[10]⟩ : ByteArray).size + y.size) = False := m3
            have m6 : (9223372036854775807 < aj.size + y.size) = False := eq_false (by omega)
            by_cases c6 : 0 < j
            · have c6b : decide (0 < (j : Int)) = true := decide_eq_true (by omega)
              have c6c : decide (0 < j) = true := decide_eq_true c6
              have HACC : Aside0 ((aj ++ ⟨#[10]⟩) ++ y = ac) := ⟨by
                rw [← haj, ← hy, ← hac]
                obtain ⟨i, rfl⟩ : ∃ i, j = i + 1 := ⟨j - 1, by omega⟩
                exact acc_next s i (by rw [HLE.out]; omega)⟩
              clear c4 c6 haj hac hy
              go_wp2_with (first
              | (go_at_call 43; (with_reducible refine (HST2.out _ HB.out).mono ?_); rintro e w2 ⟨rfl, hb⟩; have HB2 := Aside0.mk (below_step HB.out hb); clear HB hb; have HB := HB2; clear HB2)
              | (go_at_call 40; (with_reducible refine (HLI2.out _ HB.out).mono ?_); rintro e w2 ⟨rfl, hb⟩; have HB2 := Aside0.mk (below_step HB.out hb); clear HB hb; have HB := HB2; clear HB2)
              | (go_at_call 45; (with_reducible refine (HRO2.out _ HB.out).mono ?_); rintro e w2 ⟨rfl, hb⟩; have HB2 := Aside0.mk (below_step HB.out hb); clear HB hb; have HB := HB2; clear HB2))
              go_roundg k2
              case measure => omega
              case rel => exact ⟨j + 1, by first | (rw [HACT.out, ← HACC.out]; rfl) | (rw [HACT.out, ← HACC.out]), by first | (rw [← HWJ.out]; rfl) | (rw [← HWJ.out]), ⟨by have := HJ.out; have := HJL.out; omega⟩, HB⟩
            · have c6b : decide (0 < (j : Int)) = false := decide_eq_false (by omega)
              have c6c : decide (0 < j) = false := decide_eq_false c6
              have HACC : Aside0 (aj ++ y = ac) := ⟨by
                obtain rfl : j = 0 := by omega
                rw [← haj, ← hy, ← hac]
                exact acc_zero s (Nat.zero_le _)⟩
              clear c4 c6 haj hac hy
              go_wp2_with (first
              | (go_at_call 43; (with_reducible refine (HST2.out _ HB.out).mono ?_); rintro e w2 ⟨rfl, hb⟩; have HB2 := Aside0.mk (below_step HB.out hb); clear HB hb; have HB := HB2; clear HB2)
              | (go_at_call 40; (with_reducible refine (HLI2.out _ HB.out).mono ?_); rintro e w2 ⟨rfl, hb⟩; have HB2 := Aside0.mk (below_step HB.out hb); clear HB hb; have HB := HB2; clear HB2)
              | (go_at_call 45; (with_reducible refine (HRO2.out _ HB.out).mono ?_); rintro e w2 ⟨rfl, hb⟩; have HB2 := Aside0.mk (below_step HB.out hb); clear HB hb; have HB := HB2; clear HB2))
              go_roundg k2
              case measure => omega
              case rel => exact ⟨j + 1, by first | (rw [HACT.out, ← HACC.out]; rfl) | (rw [HACT.out, ← HACC.out]), by first | (rw [← HWJ.out]; rfl) | (rw [← HWJ.out]), ⟨by have := HJ.out; have := HJL.out; omega⟩, HB⟩
          · have c4b : decide ((j : Int) < (LN : Int) + 1) = false := decide_eq_false (by omega)
            have hj : j = LN + 1 := by have := HJ.out; omega
            subst hj
            have ea : acc s (LN + 1) = s := by rw [← HLE.out]; exact acc_end s
            rw [ea]
            clear c4 ea
            go_wp2_with (go_at_call 32; (with_reducible refine (HLV.out _).mono ?_); rintro e w3 ⟨rfl, hb⟩; have HB2 := Aside0.mk (below_step HB.out hb); clear HB hb; have HB := HB2; clear HB2)
            go_ret
            exact ⟨rfl, HB1.out.trans (HB.out.mono HB1.out.size)⟩
      · have hrv : runeV s x = (0, checkV s x) := by unfold runeV; rw [if_neg c3]
        rw [hrv] at HRU
        dsimp only at HRU
        have c3b : (checkV s x == 0) = false := beq_eq_false_iff_ne.mpr c3
        generalize checkV s x = cv at HRU c3b
        clear c3 hrv
        go_enter Try.func10, Try.ntmps10
        go_wp2_with (first
          | (go_at_call 11; (with_reducible refine (HVA.out _).mono ?_); rintro e w1 ⟨rfl, hb⟩; have HB2 := Aside0.mk (below_step HB0.out hb); clear HB0 hb; have HB0 := HB2; clear HB2)
          | (go_at_call 13; (with_reducible refine (HO.out _).mono ?_); rintro e w1 ⟨g, p, t, C, rfl, hR, hc, hv, hb⟩; have HR := Aside0.mk hR; have HCC := Aside0.mk hc; have HV := Aside0.mk hv; have HB1 := Aside0.mk (below_step HB0.out hb); have HB := Aside0.mk (Below.refl w1.heap.size w1); clear hR hc hv hb HO HB0)
          | (go_at_call 33; (with_reducible refine (HRU.out w1 g p t C HR.out HCC.out HV.out _ HB.out).mono ?_); rintro e w2 ⟨rfl, hb⟩; have HB2 := Aside0.mk (below_step HB.out hb); clear HB hb; have HB := HB2; clear HB2)
          | (go_at_call 42; (with_reducible refine (HLN.out w1 g p t C HR.out HCC.out HV.out _ HB.out).mono ?_); rintro e w2 ⟨rfl, hb⟩; have HB2 := Aside0.mk (below_step HB.out hb); clear HB hb; have HB := HB2; clear HB2))
        go_loopg [11, 13] (LN + 2) (fun kq v11 v13 w' => ∃ j : Nat, v11 = .string (acc s j) ∧ v13 = .int .i64 (j : Int) ∧ Aside0 (j + kq = LN + 2 ∧ j ≤ LN + 1) ∧ Aside0 (Below w1.heap.size w1 w'))
        case atStart => exact ⟨0, rfl, rfl, ⟨by omega⟩, HB⟩
        case round =>
          clear HB
          obtain ⟨j, rfl, rfl, HJ, HB⟩ := hrel
          obtain ⟨k2, rfl⟩ : ∃ k2, gk = k2 + 1 := ⟨gk - 1, by have := HJ.out; omega⟩
          by_cases c4 : j ≤ LN
          · have c4b : decide ((j : Int) < (LN : Int) + 1) = true := decide_eq_true (by omega)
            have c5b : decide ((j : Int) < 700) = true := decide_eq_true (by have := HLL.out; omega)
            have HJL := Aside0.mk c4
            have ej : ((j : Int) != (j : Int)) = false := bne_self_eq_false _
            have HWJ : Aside0 (wrap64 ((j : Int) + 1) = ((j + 1 : Nat) : Int)) := ⟨by have := HLL.out; unfold wrap64; omega⟩
            obtain ⟨aj, haj⟩ : ∃ a_, acc s j = a_ := ⟨_, rfl⟩
            obtain ⟨ac, hac⟩ : ∃ a_, acc s (j + 1) = a_ := ⟨_, rfl⟩
            obtain ⟨y, hy⟩ : ∃ y_, s.extract (nl (ld s) j) (rowE s j) = y_ := ⟨_, rfl⟩
            have HACT := Aside0.mk hac
            have ha6 : aj.size ≤ 600 := by rw [← haj]; have := acc_le s j; have := HSZ.out; omega
            have hy6 : y.size ≤ 600 := by rw [← hy, ByteArray.size_extract]; have := HSZ.out; omega
            have HST2 := Aside0.mk (fun W hb => HST.out w1 g p t C HR.out HCC.out W hb j c4)
            have HLI2 := Aside0.mk (fun W hb => HLI.out w1 g p t C HR.out HCC.out HV.out W hb j c4)
            have HRO2 := Aside0.mk (fun W hb => HRO.out w1 g p t C HR.out HCC.out W hb j c4)
            rw [hy] at HRO2
            rw [haj]
            have m1 : (9223372036854775807 < aj.size + 1) = False := eq_false (by omega)
            have m2 : (9223372036854775807 < aj.size + (⟨#[10]⟩ : ByteArray).size) = False := m1
            have m3 : (9223372036854775807 < aj.size + 1 + y.size) = False := eq_false (by omega)
            have m4 : (9223372036854775807 < (aj ++ (⟨#[10]⟩ : ByteArray)).size + y.size) = False := by rw [ByteArray.size_append]; exact m3
            have m5 : (9223372036854775807 < aj.size + (⟨#[10]⟩ : ByteArray).size + y.size) = False := m3
            have m6 : (9223372036854775807 < aj.size + y.size) = False := eq_false (by omega)
            by_cases c6 : 0 < j
            · have c6b : decide (0 < (j : Int)) = true := decide_eq_true (by omega)
              have c6c : decide (0 < j) = true := decide_eq_true c6
              have HACC : Aside0 ((aj ++ ⟨#[10]⟩) ++ y = ac) := ⟨by
                rw [← haj, ← hy, ← hac]
                obtain ⟨i, rfl⟩ : ∃ i, j = i + 1 := ⟨j - 1, by omega⟩
                exact acc_next s i (by rw [HLE.out]; omega)⟩
              clear c4 c6 haj hac hy
              go_wp2_with (first
              | (go_at_call 43; (with_reducible refine (HST2.out _ HB.out).mono ?_); rintro e w2 ⟨rfl, hb⟩; have HB2 := Aside0.mk (below_step HB.out hb); clear HB hb; have HB := HB2; clear HB2)
              | (go_at_call 40; (with_reducible refine (HLI2.out _ HB.out).mono ?_); rintro e w2 ⟨rfl, hb⟩; have HB2 := Aside0.mk (below_step HB.out hb); clear HB hb; have HB := HB2; clear HB2)
              | (go_at_call 45; (with_reducible refine (HRO2.out _ HB.out).mono ?_); rintro e w2 ⟨rfl, hb⟩; have HB2 := Aside0.mk (below_step HB.out hb); clear HB hb; have HB := HB2; clear HB2))
              go_roundg k2
              case measure => omega
              case rel => exact ⟨j + 1, by first | (rw [HACT.out, ← HACC.out]; rfl) | (rw [HACT.out, ← HACC.out]), by first | (rw [← HWJ.out]; rfl) | (rw [← HWJ.out]), ⟨by have := HJ.out; have := HJL.out; omega⟩, HB⟩
            · have c6b : decide (0 < (j : Int)) = false := decide_eq_false (by omega)
              have c6c : decide (0 < j) = false := decide_eq_false c6
              have HACC : Aside0 (aj ++ y = ac) := ⟨by
                obtain rfl : j = 0 := by omega
                rw [← haj, ← hy, ← hac]
                exact acc_zero s (Nat.zero_le _)⟩
              clear c4 c6 haj hac hy
              go_wp2_with (first
              | (go_at_call 43; (with_reducible refine (HST2.out _ HB.out).mono ?_); rintro e w2 ⟨rfl, hb⟩; have HB2 := Aside0.mk (below_step HB.out hb); clear HB hb; have HB := HB2; clear HB2)
              | (go_at_call 40; (with_reducible refine (HLI2.out _ HB.out).mono ?_); rintro e w2 ⟨rfl, hb⟩; have HB2 := Aside0.mk (below_step HB.out hb); clear HB hb; have HB := HB2; clear HB2)
              | (go_at_call 45; (with_reducible refine (HRO2.out _ HB.out).mono ?_); rintro e w2 ⟨rfl, hb⟩; have HB2 := Aside0.mk (below_step HB.out hb); clear HB hb; have HB := HB2; clear HB2))
              go_roundg k2
              case measure => omega
              case rel => exact ⟨j + 1, by first | (rw [HACT.out, ← HACC.out]; rfl) | (rw [HACT.out, ← HACC.out]), by first | (rw [← HWJ.out]; rfl) | (rw [← HWJ.out]), ⟨by have := HJ.out; have := HJL.out; omega⟩, HB⟩
          · have c4b : decide ((j : Int) < (LN : Int) + 1) = false := decide_eq_false (by omega)
            have hj : j = LN + 1 := by have := HJ.out; omega
            subst hj
            have ea : acc s (LN + 1) = s := by rw [← HLE.out]; exact acc_end s
            rw [ea]
            clear c4 ea
            go_wp2_with (go_at_call 32; (with_reducible refine (HLV.out _).mono ?_); rintro e w3 ⟨rfl, hb⟩; have HB2 := Aside0.mk (below_step HB.out hb); clear HB hb; have HB := HB2; clear HB2)
            go_ret
            exact ⟨rfl, HB1.out.trans (HB.out.mono HB1.out.size)⟩
    · have c3 : Sp.valid (ld s) = false := by simpa using c2
      rw [c3] at HVA
      clear c1 c2 c3
      go_enter Try.func10, Try.ntmps10
      go_wp2_with (first
        | (go_at_call 11; (with_reducible refine (HVA.out _).mono ?_); rintro e w1 ⟨rfl, hb⟩; have HB0 := Aside0.mk hb; clear hb)
        | (go_at_call 32; (with_reducible refine (HLV.out _).mono ?_); rintro e w3 ⟨rfl, hb⟩; have HB := Aside0.mk (below_step HB0.out hb); clear hb))
      go_ret
      exact ⟨rfl, HB.out⟩
end Go.Proofs.Ytdcnoiofimngpaa.Gu
