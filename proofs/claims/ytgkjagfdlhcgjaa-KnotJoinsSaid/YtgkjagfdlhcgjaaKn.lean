import Derived.Test.YtgkjagfdlhcgjaaKl
/- A tree over any chunks: the walk of the statement. -/
namespace Go.Proofs.Ytgkjagfdlhcgjaa.Kn
open Go.RowKit Go.Proofs.Ytgkjagfdlhcgjaa.U Go.Proofs.Ytgkjagfdlhcgjaa.QK Go.Proofs.Ytgkjagfdlhcgjaa.Kt Go.Proofs.Ytgkjagfdlhcgjaa.Ka Go.Proofs.Ytgkjagfdlhcgjaa.Kb Go.Proofs.Ytgkjagfdlhcgjaa.Kc Go.Proofs.Ytgkjagfdlhcgjaa.Kd_ Go.Proofs.Ytgkjagfdlhcgjaa.Ke Go.Proofs.Ytgkjagfdlhcgjaa.Kf Go.Proofs.Ytgkjagfdlhcgjaa.Kg Go.Proofs.Ytgkjagfdlhcgjaa.Kh Go.Proofs.Ytgkjagfdlhcgjaa.Ki Go.Proofs.Ytgkjagfdlhcgjaa.Kj Go.Proofs.Ytgkjagfdlhcgjaa.Kk Go.Proofs.Ytgkjagfdlhcgjaa.Kl Go.Proofs.Ytgkjagfdlhcgjaa.Km Go.Proofs.YtgkjagfdlhcgjaaW.PrintWords Go.Proofs.YtgkjagfdlhcgjaaW.PrintLast Go.Proofs.YtgkjagfdlhcgjaaW.PrintMore
set_option linter.unusedVariables false
set_option linter.unusedSimpArgs false
/-- the tree over texts that are chunks -/
def tree (tx : List ByteArray) : Tr := upT (tx.map leafT)
section
variable {tx : List ByteArray} (hf : ∀ s ∈ tx, fits s = true) (hn : tx.length ≤ 200)
include hf hn
theorem tree_chunks : chunks (tree tx) = tx := by
  by_cases h0 : tx.length = 0
  · obtain rfl := List.eq_nil_of_length_eq_zero h0
    unfold tree; rw [List.map_nil, upT_nil, chunks]
  · unfold tree
    rw [upT_chunks (leafs_lv tx hf (by omega)) (by rw [List.length_map]; exact h0), leafs_chunks tx hf]
theorem tree_counts : (if (tree tx).none then 0 else (tree tx).cb) = ((cat tx).size : Int) ∧ (if (tree tx).none then 0 else (tree tx).cr) = (Sp.runes (ld (cat tx)) : Int) ∧ (if (tree tx).none then 0 else (tree tx).cl) = (Sp.lines (ld (cat tx)) : Int) := by
  by_cases h0 : tx.length = 0
  · obtain rfl := List.eq_nil_of_length_eq_zero h0
    unfold tree; rw [List.map_nil, upT_nil]; exact ⟨rfl, rfl, rfl⟩
  · have hl := leafs_lv tx hf (by omega)
    have hm : (tx.map leafT).length ≠ 0 := by rw [List.length_map]; exact h0
    obtain ⟨e1, e2, e3⟩ := sums_leafs tx
    unfold tree
    rw [upT_none hl hm, (upT_sums hl hm).1, (upT_sums hl hm).2.1, (upT_sums hl hm).2.2]
    exact ⟨e1, e2, e3⟩
theorem tree_height : (tree tx).height = if tx.length = 0 then -1 else hts tx.length 0 := by
  by_cases h0 : tx.length = 0
  · obtain rfl := List.eq_nil_of_length_eq_zero h0
    unfold tree; rw [List.map_nil, upT_nil]; rfl
  · have hl := leafs_lv tx hf (by omega)
    have hm : (tx.map leafT).length ≠ 0 := by rw [List.length_map]; exact h0
    unfold Tr.height tree
    rw [upT_none hl hm, if_neg h0, upT_h tx.length 0 _ (List.length_map _) hl hm]; rfl
theorem tree_fine (h0 : tx.length ≠ 0) : FineT (tree tx) :=
  upT_good _ 0 _ rfl (leafs_lv tx hf (by omega)) (by rw [List.length_map]; omega) (by rw [List.length_map]; exact h0) (leafs_fine tx hf)
theorem tree_right (W : World) (p : Option Addr) (h : Rd W p (tree tx)) : Calls Try.prog 30 #[.pointer p] W fun e w' => e = .returned (.bool true) ∧ Below W.heap.size W w' := by
  by_cases h0 : tx.length = 0
  · obtain rfl := List.eq_nil_of_length_eq_zero h0
    unfold tree at h
    rw [List.map_nil, upT_nil] at h
    rw [h.nil_]
    exact (right_nil W).mono fun e w' ⟨h1, h2⟩ => ⟨h1, by rw [← h2]; exact Below.refl _ _⟩
  · exact right_calls (tree_fine hf hn h0) W p h
theorem tree_first (h0 : tx.length ≠ 0) : first (tree tx) = rdOf ByteArray.empty tx 0 := by
  obtain ⟨s, r, h1, h2⟩ := first_head (tree_fine hf hn h0)
  rw [tree_chunks hf hn] at h1
  rw [h2, h1]; rfl
theorem tree_last (h0 : tx.length ≠ 0) : last (tree tx) = rdOf ByteArray.empty tx ((tx.length : Int) - 1) := by
  obtain ⟨s, r, h1, h2⟩ := last_end (tree_fine hf hn h0)
  rw [tree_chunks hf hn] at h1
  rw [h2, h1]
  unfold rdOf
  rw [show (((r ++ [s]).length : Int) - 1).toNat = r.length by rw [List.length_append, List.length_singleton]; omega]
  simp
theorem tree_up (W : World) (ok : Nat → Prop) (A : Option Addr) (cp : Nat) (ps : List (Option Addr)) (h : Rk W ok A tx.length ps (tx.map leafT)) (hcp : tx.length ≤ cp) : Calls Try.prog 25 #[.slice A tx.length cp] W (UpPost W ok (tree tx)) := by
  by_cases h0 : tx.length = 0
  · obtain rfl := List.eq_nil_of_length_eq_zero h0
    refine (up_none W A 0 cp ps [] h.rs (.inl rfl)).mono fun e w' ⟨h1, h2⟩ => ⟨none, h1, ?_, h2⟩
    unfold tree; rw [List.map_nil, upT_nil]; exact .nil
  · exact up_calls W ok 0 A tx.length cp ps _ h (leafs_lv tx hf (by omega)) h0 hcp (by omega) (by omega)
end
/-- the tree, and the texts beside it -/
structure KU (w W : World) (p : Option Addr) (t : Tr) (A2 : Option Addr) (tx : List ByteArray) : Prop where
  r : Rd W p t
  c : Kd.C Kd.string W A2 tx.length tx
  bel : Below w.heap.size w W
theorem KU.later {w W W2 : World} {p : Option Addr} {t : Tr} {A2 : Option Addr} {tx : List ByteArray} (h : KU w W p t A2 tx) (hb : Below W.heap.size W W2) : KU w W2 p t A2 tx := ⟨h.r.below hb, Kd.C_below h.c hb, below_step h.bel hb⟩
set_option maxHeartbeats 8000000 in
set_option maxRecDepth 100000 in
theorem KnotUps (w : World) (A0 : Option Addr) (c0 : Nat) (l0 : List ByteArray) (hr0 : Kd.C Kd.string w A0 l0.length l0) : Calls Try.prog 9 #[.slice A0 l0.length c0] w fun e w' => e = .returned (.bool true) ∧ Below w.heap.size w w' := by
  obtain ⟨tx, htx⟩ : ∃ tx, texts l0 = tx := ⟨_, rfl⟩
  have hf := texts_fits l0
  have hn := texts_len l0
  have HL := Aside0.mk (leaves_calls w A0 c0 l0 hr0)
  rw [htx] at hf hn HL
  have HN := Aside0.mk hn
  have HFS := Aside0.mk hf
  obtain ⟨T, hT⟩ : ∃ T, tree tx = T := ⟨_, rfl⟩
  have HUP : Aside0 (∀ W ok A cp ps, Rk W ok A tx.length ps (tx.map leafT) → tx.length ≤ cp → Calls Try.prog 25 #[.slice A tx.length cp] W (UpPost W ok T)) := ⟨fun W ok A cp ps h hcp => by rw [← hT]; exact tree_up hf hn W ok A cp ps h hcp⟩
  have hch := tree_chunks hf hn
  rw [hT] at hch
  have hcs := cat_size_le tx (fun s hs => (fits_spec (hf s hs)).2.1)
  obtain ⟨S, hS⟩ : ∃ S, cat tx = S := ⟨_, rfl⟩
  rw [hS] at hcs
  have HWH : Aside0 (∀ W A cp, Kd.C Kd.string W A tx.length tx → tx.length ≤ cp → Calls Try.prog 22 #[.slice A tx.length cp] W fun e w' => e = .returned (.string S) ∧ Drawn0 W w') := ⟨fun W A cp h hcp => stylusref15_Whole.calls 2000 A cp tx S W h hcp (by rw [← hS]; exact whole_f tx (by omega) (fun s hs => (fits_spec (hf s hs)).2.1))⟩
  have HCH : Aside0 (∀ W p, Rd W p T → Calls Try.prog 34 #[.pointer p] W (GPost W tx)) := ⟨fun W p h => by have := chunks_calls W p T h (by rw [hch]; omega); rw [hch] at this; exact this⟩
  have HTX : Aside0 (∀ W p, Rd W p T → Calls Try.prog 29 #[.pointer p] W fun e w' => e = .returned (.string S) ∧ Below W.heap.size W w') := ⟨fun W p h => by have := text_calls W p T h (by rw [hch]; omega) (by rw [hch, hS]; omega); rw [hch, hS] at this; exact this⟩
  have HTS : Aside0 (∀ W A cp A2 cp2, Kd.C Kd.string W A tx.length tx → tx.length ≤ cp → Kd.C Kd.string W A2 tx.length tx → tx.length ≤ cp2 → Calls Try.prog 37 #[.slice A tx.length cp, .slice A2 tx.length cp2] W fun e w' => e = .returned (.bool true) ∧ Drawn0 W w') := ⟨fun W A cp A2 cp2 h1 h2 h3 h4 => stylusref16_Texts.calls 2000 A cp tx A2 cp2 tx true W h1 h2 h3 h4 (texts_f tx (by omega))⟩
  obtain ⟨k1, hk1⟩ : ∃ x : Int, (S.size : Int) = x := ⟨_, rfl⟩
  obtain ⟨k2, hk2⟩ : ∃ x : Int, (Sp.runes (ld S) : Int) = x := ⟨_, rfl⟩
  obtain ⟨k3, hk3⟩ : ∃ x : Int, (Sp.lines (ld S) : Int) = x := ⟨_, rfl⟩
  have HCO : Aside0 (∀ W p, Rd W p T → Calls Try.prog 36 #[.pointer p] W fun e w' => e = .returned (.agg #[.int .i64 k1, .int .i64 k2, .int .i64 k3]) ∧ Below W.heap.size W w') := ⟨fun W p h => by
    have := count_calls W p T h
    have hc := tree_counts hf hn
    rw [hT, hS, hk1, hk2, hk3] at hc
    rw [hc.1, hc.2.1, hc.2.2] at this; exact this⟩
  have HOF : Aside0 (∀ W, Calls Try.prog 38 #[.string S] W fun e w' => e = .returned (.agg #[.int .i64 k1, .int .i64 k2, .int .i64 k3]) ∧ Below W.heap.size W w') := ⟨fun W => stylusref04_Of.calls S k1 k2 k3 W (by rw [rof_f (by omega), hk1, hk2, hk3])⟩
  obtain ⟨h_, hh⟩ : ∃ x : Int, (if tx.length = 0 then (-1 : Int) else hts tx.length 0) = x := ⟨_, rfl⟩
  have HHE : Aside0 (∀ W p, Rd W p T → Calls Try.prog 26 #[.pointer p] W fun e w' => e = .returned (.int .i64 h_) ∧ W = w') := ⟨fun W p h => by have := height_calls W p T h; rw [← hT, tree_height hf hn, hh] at this; exact this⟩
  have HRH : Aside0 (∀ W, Calls Try.prog 39 #[.int .i64 (tx.length : Int), .int .i64 0] W fun e w' => e = .returned (.int .i64 h_) ∧ Below W.heap.size W w') := ⟨fun W => stylusref16_Height.calls 2000 _ _ _ W (by rw [height_f tx.length (by omega), hh])⟩
  have HRI : Aside0 (∀ W p, Rd W p T → Calls Try.prog 30 #[.pointer p] W fun e w' => e = .returned (.bool true) ∧ Below W.heap.size W w') := ⟨fun W p h => tree_right hf hn W p (by rw [hT]; exact h)⟩
  have HNIL : Aside0 (tx.length = 0 → T = .nil) := ⟨fun h0 => by rw [← hT]; unfold tree; rw [List.eq_nil_of_length_eq_zero h0, List.map_nil, upT_nil]⟩
  have HFI : Aside0 (tx.length ≠ 0 → first T = rdOf ByteArray.empty tx 0 ∧ last T = rdOf ByteArray.empty tx ((tx.length : Int) - 1)) := ⟨fun h0 => by rw [← hT]; exact ⟨tree_first hf hn h0, tree_last hf hn h0⟩⟩
  clear hch hcs hS hh hk1 hk2 hk3 hT htx hf hn hr0
  have HCALLS : True := trivial
  by_cases h0 : tx.length = 0
  · have n0 : (tx.length == 0) = true := beq_iff_eq.mpr h0
    have n1 : ((tx.length : Int) == 0) = true := beq_iff_eq.mpr (by omega)
    have HZ := Aside0.mk h0
    clear h0
    go_enter Try.func9, Try.ntmps9
    go_wp2_with (first
      | (go_at_call 24; (with_reducible refine HL.out.mono ?_); rintro e w1 ⟨A, cp, ps, A2, cp2, rfl, hr, hcp, hc, hcp2, hb⟩; have HR1 := Aside0.mk hr; have HCP := Aside0.mk (And.intro hcp hcp2); have HC1 := Aside0.mk (Kd.R_reads' hc).2.2; have HB1 := Aside0.mk hb; clear hr hcp hc hcp2 hb HL)
      | (go_at_call 25; (with_reducible refine (HUP.out _ _ A cp ps HR1.out HCP.out.1).mono ?_); rintro e w2 ⟨p, rfl, hp, hb⟩; obtain rfl := (by have h := hp.rd; rw [HNIL.out HZ.out] at h; exact h.nil_ : p = none); have HS : Aside0 (KU w w2 none T A2 tx) := ⟨⟨hp.rd, Kd.C_below HC1.out hb, below_step HB1.out hb⟩⟩; clear hp hb HR1 HC1 HB1)
      | (go_at_call 22; (with_reducible refine (HWH.out _ A2 cp2 HS.out.c HCP.out.2).mono ?_); rintro e w3 ⟨rfl, hd⟩; have n0_ := Aside0.mk (HS.out.later hd.below); clear HS hd; have HS := n0_; clear n0_)
      | (go_at_call 34; (with_reducible refine (HCH.out _ none HS.out.r).mono ?_); rintro e w4 ⟨A4, cp4, rfl, ho, hb⟩; have n0_ := Aside0.mk (HS.out.later hb); have HC4 := Aside0.mk (Kd.R_reads' ho).2; clear HS hb ho; have HS := n0_; clear n0_)
      | (go_at_call 37; (with_reducible refine (HTS.out _ A4 cp4 A2 cp2 HC4.out.2 HC4.out.1 HS.out.c HCP.out.2).mono ?_); rintro e w5 ⟨rfl, hd⟩; have n0_ := Aside0.mk (HS.out.later hd.below); clear HS hd HC4; have HS := n0_; clear n0_)
      | (go_at_call 29; (with_reducible refine (HTX.out _ none HS.out.r).mono ?_); rintro e w6 ⟨rfl, hb⟩; have n0_ := Aside0.mk (HS.out.later hb); clear HS hb; have HS := n0_; clear n0_)
      | (go_at_call 36; (with_reducible refine (HCO.out _ none HS.out.r).mono ?_); rintro e w6 ⟨rfl, hb⟩; have n0_ := Aside0.mk (HS.out.later hb); clear HS hb; have HS := n0_; clear n0_)
      | (go_at_call 38; (with_reducible refine (HOF.out _).mono ?_); rintro e w6 ⟨rfl, hb⟩; have n0_ := Aside0.mk (HS.out.later hb); clear HS hb; have HS := n0_; clear n0_)
      | (go_at_call 26; (with_reducible refine (HHE.out _ none HS.out.r).mono ?_); rintro e w6 ⟨rfl, rfl⟩)
      | (go_at_call 39; (with_reducible refine (HRH.out _).mono ?_); rintro e w6 ⟨rfl, hb⟩; have n0_ := Aside0.mk (HS.out.later hb); clear HS hb; have HS := n0_; clear n0_)
      | (go_at_call 30; (with_reducible refine (HRI.out _ none HS.out.r).mono ?_); rintro e w6 ⟨rfl, hb⟩; have n0_ := Aside0.mk (HS.out.later hb); clear HS hb; have HS := n0_; clear n0_)
      | (go_at_call 35; have hfi := first_calls _ none T HS.out.r; rw [HNIL.out HZ.out, first] at hfi; (with_reducible refine hfi.mono ?_); clear hfi; rintro e w9 ⟨rfl, hd⟩; have n0_ := Aside0.mk (HS.out.later hd.below); clear HS hd; have HS := n0_; clear n0_)
      | (go_at_call 40; have hfi := last_calls _ none T HS.out.r; rw [HNIL.out HZ.out, last] at hfi; (with_reducible refine hfi.mono ?_); clear hfi; rintro e w9 ⟨rfl, hd⟩; have n0_ := Aside0.mk (HS.out.later hd.below); clear HS hd; have HS := n0_; clear n0_)
      | (go_at_call 23; (with_reducible refine (lives_calls _).mono ?_); rintro e w9 ⟨rfl, hb⟩; have n0_ := Aside0.mk (HS.out.later hb); clear HS hb; have HS := n0_; clear n0_))
    go_ret
    exact ⟨rfl, HS.out.bel⟩
  · have n0 : (tx.length == 0) = false := beq_eq_false_iff_ne.mpr h0
    have n1 : ((tx.length : Int) == 0) = false := beq_eq_false_iff_ne.mpr (by omega)
    have HZ := Aside0.mk h0
    clear h0
    go_enter Try.func9, Try.ntmps9
    go_wp2_with (first
      | (go_at_call 24; (with_reducible refine HL.out.mono ?_); rintro e w1 ⟨A, cp, ps, A2, cp2, rfl, hr, hcp, hc, hcp2, hb⟩; have HR1 := Aside0.mk hr; have HCP := Aside0.mk (And.intro hcp hcp2); have HC1 := Aside0.mk (Kd.R_reads' hc).2.2; have HB1 := Aside0.mk hb; clear hr hcp hc hcp2 hb HL)
      | (go_at_call 25; (with_reducible refine (HUP.out _ _ A cp ps HR1.out HCP.out.1).mono ?_); rintro e w2 ⟨p, rfl, hp, hb⟩; have HS : Aside0 (KU w w2 p T A2 tx) := ⟨⟨hp.rd, Kd.C_below HC1.out hb, below_step HB1.out hb⟩⟩; clear hp hb HR1 HC1 HB1)
      | (go_at_call 22; (with_reducible refine (HWH.out _ A2 cp2 HS.out.c HCP.out.2).mono ?_); rintro e w3 ⟨rfl, hd⟩; have n0_ := Aside0.mk (HS.out.later hd.below); clear HS hd; have HS := n0_; clear n0_)
      | (go_at_call 34; (with_reducible refine (HCH.out _ p HS.out.r).mono ?_); rintro e w4 ⟨A4, cp4, rfl, ho, hb⟩; have n0_ := Aside0.mk (HS.out.later hb); have HC4 := Aside0.mk (Kd.R_reads' ho).2; clear HS hb ho; have HS := n0_; clear n0_)
      | (go_at_call 37; (with_reducible refine (HTS.out _ A4 cp4 A2 cp2 HC4.out.2 HC4.out.1 HS.out.c HCP.out.2).mono ?_); rintro e w5 ⟨rfl, hd⟩; have n0_ := Aside0.mk (HS.out.later hd.below); clear HS hd HC4; have HS := n0_; clear n0_)
      | (go_at_call 29; (with_reducible refine (HTX.out _ p HS.out.r).mono ?_); rintro e w6 ⟨rfl, hb⟩; have n0_ := Aside0.mk (HS.out.later hb); clear HS hb; have HS := n0_; clear n0_)
      | (go_at_call 36; (with_reducible refine (HCO.out _ p HS.out.r).mono ?_); rintro e w6 ⟨rfl, hb⟩; have n0_ := Aside0.mk (HS.out.later hb); clear HS hb; have HS := n0_; clear n0_)
      | (go_at_call 38; (with_reducible refine (HOF.out _).mono ?_); rintro e w6 ⟨rfl, hb⟩; have n0_ := Aside0.mk (HS.out.later hb); clear HS hb; have HS := n0_; clear n0_)
      | (go_at_call 26; (with_reducible refine (HHE.out _ p HS.out.r).mono ?_); rintro e w6 ⟨rfl, rfl⟩)
      | (go_at_call 39; (with_reducible refine (HRH.out _).mono ?_); rintro e w6 ⟨rfl, hb⟩; have n0_ := Aside0.mk (HS.out.later hb); clear HS hb; have HS := n0_; clear n0_)
      | (go_at_call 30; (with_reducible refine (HRI.out _ p HS.out.r).mono ?_); rintro e w6 ⟨rfl, hb⟩; have n0_ := Aside0.mk (HS.out.later hb); clear HS hb; have HS := n0_; clear n0_))
    rename World => wz
    obtain ⟨s0, hs0⟩ : ∃ s, rdOf ByteArray.empty tx 0 = s := ⟨_, rfl⟩
    obtain ⟨s1, hs1⟩ : ∃ s, rdOf ByteArray.empty tx ((tx.length : Int) - 1) = s := ⟨_, rfl⟩
    obtain ⟨m1, hm1⟩ : ∃ m : Int, (tx.length : Int) - 1 = m := ⟨_, rfl⟩
    have hnn := HN.out
    have hz := HZ.out
    have hfl := HFI.out HZ.out
    rw [hs0, hs1] at hfl
    have hw1 : wrap64 ((tx.length : Int) - 1) = m1 := by rw [← hm1]; unfold wrap64; omega
    have hw2 : IntKind.i64.wrap ((tx.length : Int) - 1) = m1 := (i64_w _).trans hw1
    obtain ⟨ad0, q0, y0⟩ := Kd.at_string HS.out.c 0 (by omega) (by omega)
    obtain ⟨ad1, q1, x1⟩ := Kd.at_string HS.out.c m1 (by omega) (by omega)
    obtain rfl : ad0 = ad1 := by rw [q0] at q1; injection q1
    subst q0
    rw [hs0] at y0
    rw [← hm1, hs1, hm1] at x1
    have x0 : wz.cell? ad0 = some (.string s0) := by
      have e : ad0.add 0 = ad0 := by simp [Addr.add]
      rw [← e]; exact y0
    have HFA : Aside0 (∀ W, Rd W p T → Calls Try.prog 35 #[.pointer p] W fun e w' => e = .returned (.string s0) ∧ Drawn0 W w') := ⟨fun W h => by have := first_calls W p T h; rw [hfl.1] at this; exact this⟩
    have HLA : Aside0 (∀ W, Rd W p T → Calls Try.prog 40 #[.pointer p] W fun e w' => e = .returned (.string s1) ∧ Drawn0 W w') := ⟨fun W h => by have := last_calls W p T h; rw [hfl.2] at this; exact this⟩
    have HRD : Aside0 (∀ W', Below wz.heap.size wz W' → Rd W' p T) := ⟨fun W' hb => HS.out.r.below hb⟩
    have z1 : 0 < tx.length := by omega
    have z1c := eq_true z1
    have z2c := eq_true (show (0 : Int) < (tx.length : Int) by omega)
    have z3c := eq_true (show 0 ≤ m1 by omega)
    have z4c := eq_true (show m1 < (tx.length : Int) by omega)
    have z5c := eq_true (show 1 ≤ tx.length by omega)
    clear hs0 hs1 hm1 hnn hz hfl y0 q1 z1
    refine start_ (n := 21) (S := fun w' => w'.cell? ad0 = some (.string s0) ∧ w'.cell? (ad0.add m1.toNat) = some (.string s1)) (ds := []) #[false, false, false, false, false, false, false, false, false, false, false, false, false, false, false, false, false, false, false, false, false] (by kernel_rfl) rfl rfl ⟨x0, x1⟩ (fun hHeld => ?_)
    refine pure_ (i := 0) (N := some 65) (v := ?_) (a' := ?_) #[true, false, false, false, false, false, false, false, false, false, false, false, false, false, false, false, false, false, false, false, false] rfl rfl (by kernel_rfl) (fun _ _ _ h => h) (Or.inl ⟨by rfl, ?_⟩) ?_ ?_
    rotate_left
    · intro w'
      go_simp
      with_reducible rfl
    rotate_left
    · simp only [Act.put, List.setIfInBounds_toArray, List.set_cons_zero, List.set_cons_succ, i64_w, i32_w]
      rfl
    refine pure_ (i := 2) (N := some 67) (v := ?_) (a' := ?_) #[true, false, true, false, false, false, false, false, false, false, false, false, false, false, false, false, false, false, false, false, false] rfl rfl (by kernel_rfl) (fun _ _ _ h => h) (Or.inl ⟨by rfl, ?_⟩) ?_ ?_
    rotate_left
    · intro w'
      go_simp
      with_reducible rfl
    rotate_left
    · simp only [Act.put, List.setIfInBounds_toArray, List.set_cons_zero, List.set_cons_succ, i64_w, i32_w]
      rfl
    refine pure_ (i := 3) (N := some 68) (v := ?_) (a' := ?_) #[true, false, true, true, false, false, false, false, false, false, false, false, false, false, false, false, false, false, false, false, false] rfl rfl (by kernel_rfl) (fun _ _ _ h => h) (Or.inl ⟨by rfl, ?_⟩) ?_ ?_
    rotate_left
    · intro w'
      go_simp
      with_reducible rfl
    rotate_left
    · simp only [Act.put, List.setIfInBounds_toArray, List.set_cons_zero, List.set_cons_succ, i64_w, i32_w]
      rfl
    refine take_ (i := 4) (N := some 69) (v := ?_) (a' := ?_) #[true, false, true, true, true, false, false, false, false, false, false, false, false, false, false, false, false, false, false, false, false] rfl rfl (by kernel_rfl) (fun _ _ _ h => h) (Or.inl ⟨by rfl, ?_⟩) hHeld ?_ ?_
    rotate_left
    · rintro w' ⟨s0, s1⟩
      go_simp
      with_reducible rfl
    rotate_left
    · simp only [Act.put, List.setIfInBounds_toArray, List.set_cons_zero, List.set_cons_succ, i64_w, i32_w]
      rfl
    refine one_ (i := 1) (N := some 66) #[true, true, true, true, true, false, false, false, false, false, false, false, false, false, false, false, false, false, false, false, false] rfl rfl (by kernel_rfl) (by decide) (fun K hK => ?_)
    refine goes_ Try.func35 (by kernel_rfl) rfl #[.pointer p] (by rfl) rfl rfl (by simp only [List.map_toArray, List.map_cons, List.map_nil]; rfl) ?_
    with_reducible refine (HFA.out _ (HRD.out _ (below_drew1 (Below.refl _ _)))).mono ?_
    rintro e w5 ⟨rfl, hd5⟩
    refine ⟨_, rfl, ?_⟩
    have HD5 := Aside0.mk hd5
    refine hK.out _ _ ⟨(pw_cell_below hd5.below hHeld.1), (pw_cell_below hd5.below hHeld.2)⟩ (fun hHeld => ?_)
    clear hK K
    refine norm_ (a' := ?_) ?_ ?_
    rotate_left
    · show Act.put _ (some 66) _ = _
      simp only [Act.put, List.setIfInBounds_toArray, List.set_cons_zero, List.set_cons_succ, i64_w, i32_w]
      rfl
    refine pure_ (i := 5) (N := some 70) (v := ?_) (a' := ?_) #[true, true, true, true, true, true, false, false, false, false, false, false, false, false, false, false, false, false, false, false, false] rfl rfl (by kernel_rfl) (fun _ _ _ h => h) (Or.inl ⟨by rfl, ?_⟩) ?_ ?_
    rotate_left
    · intro w'
      go_simp
      with_reducible rfl
    rotate_left
    · simp only [Act.put, List.setIfInBounds_toArray, List.set_cons_zero, List.set_cons_succ, i64_w, i32_w]
      rfl
    refine pure_ (i := 6) (N := some 71) (v := ?_) (a' := ?_) #[true, true, true, true, true, true, true, false, false, false, false, false, false, false, false, false, false, false, false, false, false] rfl rfl (by kernel_rfl) (fun _ _ _ h => h) (Or.inl ⟨by rfl, ?_⟩) ?_ ?_
    rotate_left
    · intro w'
      go_simp
      with_reducible rfl
    rotate_left
    · simp only [Act.put, List.setIfInBounds_toArray, List.set_cons_zero, List.set_cons_succ, i64_w, i32_w]
      rfl
    refine pure_ (i := 7) (N := some 72) (v := ?_) (a' := ?_) #[true, true, true, true, true, true, true, true, false, false, false, false, false, false, false, false, false, false, false, false, false] rfl rfl (by kernel_rfl) (fun _ _ _ h => h) (Or.inl ⟨by rfl, ?_⟩) ?_ ?_
    rotate_left
    · intro w'
      go_simp
      with_reducible rfl
    rotate_left
    · simp only [Act.put, List.setIfInBounds_toArray, List.set_cons_zero, List.set_cons_succ, i64_w, i32_w]
      rfl
    refine pure_ (i := 9) (N := some 74) (v := ?_) (a' := ?_) #[true, true, true, true, true, true, true, true, false, true, false, false, false, false, false, false, false, false, false, false, false] rfl rfl (by kernel_rfl) (fun _ _ _ h => h) (Or.inl ⟨by rfl, ?_⟩) ?_ ?_
    rotate_left
    · intro w'
      go_simp
      with_reducible rfl
    rotate_left
    · simp only [Act.put, List.setIfInBounds_toArray, List.set_cons_zero, List.set_cons_succ, i64_w, i32_w]
      rfl
    refine pure_ (i := 10) (N := some 75) (v := ?_) (a' := ?_) #[true, true, true, true, true, true, true, true, false, true, true, false, false, false, false, false, false, false, false, false, false] rfl rfl (by kernel_rfl) (fun _ _ _ h => h) (Or.inl ⟨by rfl, ?_⟩) ?_ ?_
    rotate_left
    · intro w'
      go_simp
      with_reducible rfl
    rotate_left
    · simp only [Act.put, List.setIfInBounds_toArray, List.set_cons_zero, List.set_cons_succ, i64_w, i32_w]
      rfl
    refine pure_ (i := 11) (N := some 76) (v := ?_) (a' := ?_) #[true, true, true, true, true, true, true, true, false, true, true, true, false, false, false, false, false, false, false, false, false] rfl rfl (by kernel_rfl) (fun _ _ _ h => h) (Or.inl ⟨by rfl, ?_⟩) ?_ ?_
    rotate_left
    · intro w'
      go_simp
      with_reducible rfl
    rotate_left
    · simp only [Act.put, List.setIfInBounds_toArray, List.set_cons_zero, List.set_cons_succ, i64_w, i32_w]
      rfl
    refine pure_ (i := 12) (N := some 77) (v := ?_) (a' := ?_) #[true, true, true, true, true, true, true, true, false, true, true, true, true, false, false, false, false, false, false, false, false] rfl rfl (by kernel_rfl) (fun _ _ _ h => h) (Or.inl ⟨by rfl, ?_⟩) ?_ ?_
    rotate_left
    · intro w'
      go_simp
      with_reducible rfl
    rotate_left
    · simp only [Act.put, List.setIfInBounds_toArray, List.set_cons_zero, List.set_cons_succ, i64_w, i32_w]
      rfl
    refine pure_ (i := 13) (N := some 78) (v := ?_) (a' := ?_) #[true, true, true, true, true, true, true, true, false, true, true, true, true, true, false, false, false, false, false, false, false] rfl rfl (by kernel_rfl) (fun _ _ _ h => h) (Or.inl ⟨by rfl, ?_⟩) ?_ ?_
    rotate_left
    · intro w'
      go_simp
      with_reducible rfl
    rotate_left
    · simp only [Act.put, List.setIfInBounds_toArray, List.set_cons_zero, List.set_cons_succ, i64_w, i32_w]
      rfl
    refine take_ (i := 14) (N := some 79) (v := ?_) (a' := ?_) #[true, true, true, true, true, true, true, true, false, true, true, true, true, true, true, false, false, false, false, false, false] rfl rfl (by kernel_rfl) (fun _ _ _ h => h) (Or.inl ⟨by rfl, ?_⟩) hHeld ?_ ?_
    rotate_left
    · rintro w' ⟨s0, s1⟩
      go_simp
      with_reducible rfl
    rotate_left
    · simp only [Act.put, List.setIfInBounds_toArray, List.set_cons_zero, List.set_cons_succ, i64_w, i32_w]
      rfl
    refine one_ (i := 8) (N := some 73) #[true, true, true, true, true, true, true, true, true, true, true, true, true, true, true, false, false, false, false, false, false] rfl rfl (by kernel_rfl) (by decide) (fun K hK => ?_)
    refine goes_ Try.func40 (by kernel_rfl) rfl #[.pointer p] (by rfl) rfl rfl (by simp only [List.map_toArray, List.map_cons, List.map_nil]; rfl) ?_
    with_reducible refine (HLA.out _ (HRD.out _ (below_step (below_drew1 (Below.refl _ _)) HD5.out.below))).mono ?_
    rintro e w6 ⟨rfl, hd6⟩
    refine ⟨_, rfl, ?_⟩
    have HD6 := Aside0.mk hd6
    refine hK.out _ _ ⟨(pw_cell_below hd6.below hHeld.1), (pw_cell_below hd6.below hHeld.2)⟩ (fun hHeld => ?_)
    clear hK K
    refine norm_ (a' := ?_) ?_ ?_
    rotate_left
    · show Act.put _ (some 73) _ = _
      simp only [Act.put, List.setIfInBounds_toArray, List.set_cons_zero, List.set_cons_succ, i64_w, i32_w]
      rfl
    refine pure_ (i := 15) (N := some 80) (v := ?_) (a' := ?_) #[true, true, true, true, true, true, true, true, true, true, true, true, true, true, true, true, false, false, false, false, false] rfl rfl (by kernel_rfl) (fun _ _ _ h => h) (Or.inl ⟨by rfl, ?_⟩) ?_ ?_
    rotate_left
    · intro w'
      go_simp
      with_reducible rfl
    rotate_left
    · simp only [Act.put, List.setIfInBounds_toArray, List.set_cons_zero, List.set_cons_succ, i64_w, i32_w]
      rfl
    refine pure_ (i := 16) (N := some 81) (v := ?_) (a' := ?_) #[true, true, true, true, true, true, true, true, true, true, true, true, true, true, true, true, true, false, false, false, false] rfl rfl (by kernel_rfl) (fun _ _ _ h => h) (Or.inl ⟨by rfl, ?_⟩) ?_ ?_
    rotate_left
    · intro w'
      go_simp
      with_reducible rfl
    rotate_left
    · simp only [Act.put, List.setIfInBounds_toArray, List.set_cons_zero, List.set_cons_succ, i64_w, i32_w]
      rfl
    refine pure_ (i := 17) (N := some 82) (v := ?_) (a' := ?_) #[true, true, true, true, true, true, true, true, true, true, true, true, true, true, true, true, true, true, false, false, false] rfl rfl (by kernel_rfl) (fun _ _ _ h => h) (Or.inl ⟨by rfl, ?_⟩) ?_ ?_
    rotate_left
    · intro w'
      go_simp
      with_reducible rfl
    rotate_left
    · simp only [Act.put, List.setIfInBounds_toArray, List.set_cons_zero, List.set_cons_succ, i64_w, i32_w]
      rfl
    refine one_ (i := 18) (N := some 83) #[true, true, true, true, true, true, true, true, true, true, true, true, true, true, true, true, true, true, true, false, false] rfl rfl (by kernel_rfl) (by decide) (fun K hK => ?_)
    refine goes_ Try.func23 (by kernel_rfl) rfl #[] (by rfl) rfl rfl (by simp only [List.map_toArray, List.map_cons, List.map_nil]) ?_
    with_reducible refine (lives_calls _).mono ?_
    rintro e w7 ⟨rfl, hb7⟩
    refine ⟨_, rfl, ?_⟩
    have HB7 := Aside0.mk hb7
    refine hK.out _ _ ⟨(pw_cell_below hb7 hHeld.1), (pw_cell_below hb7 hHeld.2)⟩ (fun hHeld => ?_)
    clear hK K
    refine norm_ (a' := ?_) ?_ ?_
    rotate_left
    · show Act.put _ (some 83) _ = _
      simp only [Act.put, List.setIfInBounds_toArray, List.set_cons_zero, List.set_cons_succ, i64_w, i32_w]
      rfl
    refine pure_ (i := 19) (N := some 84) (v := ?_) (a' := ?_) #[true, true, true, true, true, true, true, true, true, true, true, true, true, true, true, true, true, true, true, true, false] rfl rfl (by kernel_rfl) (fun _ _ _ h => h) (Or.inl ⟨by rfl, ?_⟩) ?_ ?_
    rotate_left
    · intro w'
      go_simp
      with_reducible rfl
    rotate_left
    · simp only [Act.put, List.setIfInBounds_toArray, List.set_cons_zero, List.set_cons_succ, i64_w, i32_w]
      rfl
    refine pure_ (i := 20) (N := some 2) (v := ?_) (a' := ?_) #[true, true, true, true, true, true, true, true, true, true, true, true, true, true, true, true, true, true, true, true, true] rfl rfl (by kernel_rfl) (fun _ _ _ h => h) (Or.inl ⟨by rfl, ?_⟩) ?_ ?_
    rotate_left
    · intro w'
      go_simp
      with_reducible rfl
    rotate_left
    · simp only [Act.put, List.setIfInBounds_toArray, List.set_cons_zero, List.set_cons_succ, i64_w, i32_w]
      rfl
    refine done_ (by kernel_rfl) ?_
    go_wp2
    go_ret
    exact ⟨by first | rfl | (simp; done), below_step HS.out.bel (below_step (below_step (below_step (below_drew1 (Below.refl _ _)) HD5.out.below) HD6.out.below) HB7.out)⟩
end Go.Proofs.Ytgkjagfdlhcgjaa.Kn
