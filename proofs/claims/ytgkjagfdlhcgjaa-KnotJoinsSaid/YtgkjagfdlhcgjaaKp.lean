import Derived.Test.YtgkjagfdlhcgjaaKn
/- A tree's levels: the walk of the statement that it is low. -/
namespace Go.Proofs.Ytgkjagfdlhcgjaa.Kp
open Go.RowKit Go.Proofs.Ytgkjagfdlhcgjaa.U Go.Proofs.Ytgkjagfdlhcgjaa.QK Go.Proofs.Ytgkjagfdlhcgjaa.Kt Go.Proofs.Ytgkjagfdlhcgjaa.Ka Go.Proofs.Ytgkjagfdlhcgjaa.Kb Go.Proofs.Ytgkjagfdlhcgjaa.Kc Go.Proofs.Ytgkjagfdlhcgjaa.Kd_ Go.Proofs.Ytgkjagfdlhcgjaa.Ke Go.Proofs.Ytgkjagfdlhcgjaa.Kf Go.Proofs.Ytgkjagfdlhcgjaa.Kg Go.Proofs.Ytgkjagfdlhcgjaa.Kh Go.Proofs.Ytgkjagfdlhcgjaa.Ki Go.Proofs.Ytgkjagfdlhcgjaa.Kj Go.Proofs.Ytgkjagfdlhcgjaa.Kk Go.Proofs.Ytgkjagfdlhcgjaa.Kl Go.Proofs.Ytgkjagfdlhcgjaa.Km Go.Proofs.Ytgkjagfdlhcgjaa.Kn Go.Proofs.YtgkjagfdlhcgjaaW.PrintWords Go.Proofs.YtgkjagfdlhcgjaaW.PrintLast Go.Proofs.YtgkjagfdlhcgjaaW.PrintMore
set_option linter.unusedVariables false
set_option linter.unusedSimpArgs false
theorem fine_none {t : Tr} (h : FineT t) : t.none = false := by
  cases h with
  | leaf s r l hf ho =>
    show ((s.toList == []) && (([] : List Tr).length == 0)) = false
    rw [beq_eq_false_iff_ne.mpr (fits_size hf).1]; rfl
  | join kids d h2 h8 hl hd hk => exact (joinT_e hl (by omega)).1
theorem fine_split {t : Tr} (h : FineT t) : (t.h0 = 0 ∧ (chunks t).length = 1) ∨ (∃ d, 0 ≤ d ∧ t.h0 = d + 1 ∧ 2 ≤ t.kids.length ∧ t.kids.length ≤ 8 ∧ (∀ k ∈ t.kids, FineT k ∧ k.h0 = d) ∧ chunks t = chunksL t.kids) := by
  cases h with
  | leaf s r l hf ho =>
    left
    refine ⟨rfl, ?_⟩
    rw [chunks, if_neg (fits_size hf).1]; rfl
  | join kids d h2 h8 hl hd hk =>
    right
    exact ⟨d, hl.d0, (joinT_e hl (by omega)).2.1, h2, h8, fun k hk' => ⟨hk k hk', (hl.e k hk').2.1⟩, joinT_chunks (d := d) (by omega)⟩
theorem chunksL_len (ts : List Tr) : (chunksL ts).length = (ts.map fun t => (chunks t).length).sum := by
  induction ts with
  | nil => rw [chunksL]; rfl
  | cons t ts ih => rw [chunksL_cons, List.length_append, ih, List.map_cons, List.sum_cons]
theorem sum_ge (m : Nat) (ts : List Tr) (h : ∀ t ∈ ts, m ≤ (chunks t).length) : m * ts.length ≤ (chunksL ts).length := by
  induction ts with
  | nil => simp
  | cons t ts ih =>
    rw [chunksL_cons, List.length_append, List.length_cons, Nat.mul_succ]
    have := h t (by simp)
    have := ih (fun x hx => h x (by simp [hx]))
    omega
theorem fine_pow {t : Tr} (h : FineT t) : 0 ≤ t.h0 ∧ 2 ^ t.h0.toNat ≤ (chunks t).length := by
  induction h with
  | leaf s r l hf ho =>
    refine ⟨Int.le_refl 0, ?_⟩
    rw [chunks, if_neg (fits_size hf).1]; exact Nat.le_refl 1
  | join kids d h2 h8 hl hd hk ih =>
    have e := (joinT_e hl (by omega)).2.1
    have d0 := hl.d0
    rw [e, joinT_chunks (d := d) (by omega)]
    refine ⟨by omega, ?_⟩
    rw [show (d + 1).toNat = d.toNat + 1 by omega, Nat.pow_succ]
    have hs := sum_ge (2 ^ d.toNat) kids (fun k hk' => by have := (ih k hk').2; rwa [(hl.e k hk').2.1] at this)
    have : 2 ^ d.toNat * 2 ≤ 2 ^ d.toNat * kids.length := Nat.mul_le_mul_left _ h2
    omega
theorem fine_one {t : Tr} (h : FineT t) : 1 ≤ (chunks t).length := by
  have := (fine_pow h).2
  have h1 : 0 < 2 ^ t.h0.toNat := Nat.pow_pos (by omega)
  omega
/-- the level below -/
def lvl (ts : List Tr) : List Tr := (ts.map Tr.kids).flatten
/-- a level: all as they must be, of one height -/
structure Le (h : Int) (ts : List Tr) : Prop where
  f : ∀ t ∈ ts, FineT t ∧ t.h0 = h
theorem Le.next {h : Int} {ts : List Tr} (H : Le h ts) (hp : 0 < h) : Le (h - 1) (lvl ts) ∧ chunksL (lvl ts) = chunksL ts := by
  have hf : ∀ (l : List Tr), (∀ t ∈ l, FineT t ∧ t.h0 = h) → (∀ k ∈ lvl l, FineT k ∧ k.h0 = h - 1) ∧ chunksL (lvl l) = chunksL l := by
    intro l
    induction l with
    | nil => intro _; exact ⟨(fun k hk => by cases hk), rfl⟩
    | cons t l ih =>
      intro hl
      obtain ⟨i1, i2⟩ := ih (fun x hx => hl x (by simp [hx]))
      obtain ⟨h1, h2⟩ := hl t (by simp)
      rcases fine_split h1 with h3 | ⟨d, _, h4, _, _, h5, h6⟩
      · omega
      · have e : lvl (t :: l) = t.kids ++ lvl l := by unfold lvl; rw [List.map_cons, List.flatten_cons]
        rw [e]
        refine ⟨fun k hk => ?_, ?_⟩
        · rcases List.mem_append.1 hk with hk | hk
          · obtain ⟨q1, q2⟩ := h5 k hk; exact ⟨q1, by omega⟩
          · exact i1 k hk
        · have ea : ∀ a b : List Tr, chunksL (a ++ b) = chunksL a ++ chunksL b := fun a b => by rw [chunksL_eq, chunksL_eq, chunksL_eq, List.map_append, List.flatten_append]
          rw [ea, i2, chunksL_cons, h6]
  exact ⟨⟨(hf ts H.f).1⟩, (hf ts H.f).2⟩
theorem Le.len {h : Int} {ts : List Tr} (H : Le h ts) : ts.length ≤ (chunksL ts).length := by
  have := sum_ge 1 ts (fun t ht => fine_one (H.f t ht).1); omega
theorem Le.zero {ts : List Tr} (H : Le 0 ts) : ts.length = (chunksL ts).length := by
  have hf : ∀ (l : List Tr), (∀ t ∈ l, FineT t ∧ t.h0 = 0) → l.length = (chunksL l).length := by
    intro l
    induction l with
    | nil => intro _; rw [chunksL]; rfl
    | cons t l ih =>
      intro hl
      rw [chunksL_cons, List.length_append, List.length_cons, ih (fun x hx => hl x (by simp [hx]))]
      rcases fine_split (hl t (by simp)).1 with ⟨_, h3⟩ | ⟨d, h0, h4, _⟩
      · omega
      · have := (hl t (by simp)).2; omega
  exact hf ts H.f
theorem Le.pow {h : Int} {ts : List Tr} (H : Le h ts) (h0 : ts.length ≠ 0) : 0 ≤ h ∧ 2 ^ h.toNat ≤ (chunksL ts).length := by
  have hm : rdT ts 0 ∈ ts := rdT_mem ts 0 (Int.le_refl 0) (by omega)
  obtain ⟨h1, h2⟩ := H.f _ hm
  obtain ⟨h3, h4⟩ := fine_pow h1
  rw [h2] at h3 h4
  have h5 := sum_ge (2 ^ h.toNat) ts (fun t ht => by have := (fine_pow (H.f t ht).1).2; rwa [(H.f t ht).2] at this)
  refine ⟨h3, Nat.le_trans ?_ h5⟩
  exact Nat.le_mul_of_pos_right _ (by omega)
theorem lvl_take (ts : List Tr) (i : Nat) (h : i < ts.length) : lvl (ts.take (i + 1)) = lvl (ts.take i) ++ (rdT ts i).kids := by
  unfold lvl
  rw [List.take_succ_eq_append_getElem h, List.map_append, List.flatten_append]
  congr 1
  unfold rdT
  rw [show ((i : Int)).toNat = i by omega, List.getD_eq_getElem?_getD, List.getElem?_eq_getElem h]
  simp
/-- Kids: the pointers are those that stood there ahead -/
def Kids2 (w0 w : World) (ks : List Tr) (e : Ending) (w' : World) : Prop := ∃ A cp ps, e = .returned (.slice A ks.length cp) ∧ ks.length ≤ cp ∧ kPtr.C w' A ks.length ps ∧ (∀ (j : Nat) (p : Option Addr) (t : Tr), ps[j]? = some p → ks[j]? = some t → Rd w0 p t) ∧ Below w.heap.size w w'
set_option maxHeartbeats 1000000 in
theorem kids2_calls (w0 w : World) (p : Option Addr) (t : Tr) (H : Rd w0 p t) (hB : Below w0.heap.size w0 w) (hn : t.none = false) (hm : t.kids.length ≤ 1000000) (h0 : t.kids.length ≠ 0) : Calls Try.prog 28 #[.pointer p] w (Kids2 w0 w t.kids) := by
  obtain ⟨hh, b, r, l, s, kids, rfl⟩ := Tr.not_none hn
  have HN := Aside0.mk (none_f (H.below hB) hn)
  obtain ⟨a, A, cp, ps, rfl, c0, c1, c2, c3, c4, c5, hcp, _, hr⟩ := H.open_
  have HR := Aside0.mk hr
  have HM : Aside0 (kids.length ≤ 1000000) := ⟨hm⟩
  have HC := Aside0.mk (Kd.C_below hr.c hB)
  replace c5 := (hB.cell (World.block_lt_of_cell? w0 _ c5)).trans c5
  clear H hn c0 c1 c2 c3 c4 hr hm
  change Calls _ _ _ _ (Kids2 w0 w kids)
  have hk : kids.length ≠ 0 := h0
  have k0 : (kids.length == 0) = false := beq_eq_false_iff_ne.mpr hk
  have k1 : ((kids.length : Int) == 0) = false := beq_eq_false_iff_ne.mpr (by omega)
  clear hk hcp h0 hB
  go_enter Try.func28, Try.ntmps28
  go_wp2_with (first | (go_at_call 50; (with_reducible refine HN.out.mono ?_); rintro e w' ⟨rfl, rfl⟩) | ((with_reducible refine gate_builtin (b := .append) (xs := #[.const (.slice none 0 0), .tmp 16]) rfl ?_); at_builtin; refine Kd.R_append_row (fun p => Value.pointer p) (none : Option Addr) (h1 := fun _ => rfl) (w0 := w) w.heap.size rfl (.const (.slice none 0 0)) (.tmp 16) 35 38 (.pointer none) 8 rfl Try.underlying35 infoP rfl (by decide) (.slice none 0 0) [] ps A kids.length cp (fun k => True) rfl rfl (fun _ _ => trivial) (Kd.R_nil _ _ _ _ _) HC.out (Below.refl _ _) (Nat.le_refl _) (by have := HM.out; simp only [List.length_nil]; omega) ?_; intro v1 w1 ho hb hg hat; obtain ⟨A2, cp2, rfl, h2, h3⟩ := Kd.R_reads ho; have HO := Aside0.mk (And.intro h2 h3); have HB := Aside0.mk hb; clear ho hb hg hat h2 h3))
  go_ret
  have hl : ps.length = kids.length := HR.out.c.1
  refine ⟨A2, cp2, ps, ?_, ?_, ?_, fun j p t hp ht => HR.out.r j p t hp ht, HB.out⟩
  · rw [← hl]; rfl
  · have := HO.out.1; rw [List.nil_append, hl] at this; exact this
  · have := HO.out.2; rw [List.nil_append, hl] at this; exact this
/-- the tree, the level, the texts -/
structure Lo (w W : World) (tx : List ByteArray) (A2 : Option Addr) (p : Option Addr) (T : Tr) (A : Option Addr) (ps : List (Option Addr)) (ts : List Tr) (h : Int) : Prop where
  r : Rd W p T
  c : Kd.C Kd.string W A2 tx.length tx
  rs : Rs W A ts.length ps ts
  le : Le h ts
  ch : chunksL ts = tx
  bel : Below w.heap.size w W
theorem Lo.later {w W W2 : World} {tx : List ByteArray} {A2 : Option Addr} {p : Option Addr} {T : Tr} {A : Option Addr} {ps : List (Option Addr)} {ts : List Tr} {h : Int} (H : Lo w W tx A2 p T A ps ts h) (hb : Below W.heap.size W W2) : Lo w W2 tx A2 p T A ps ts h :=
  ⟨H.r.below hb, Kd.C_below H.c hb, H.rs.below hb, H.le, H.ch, below_step H.bel hb⟩
/-- inside a level: what lies below its first x knots -/
structure Li (wo W : World) (ts : List Tr) (x : Int) (A3 : Option Addr) (cp3 : Nat) (ps3 : List (Option Addr)) : Prop where
  row : kPtr.R 38 W wo.heap.size (fun _ => True) (.slice A3 ps3.length cp3) ps3
  len : ps3.length = (lvl (ts.take x.toNat)).length
  r : ∀ (j : Nat) (p : Option Addr) (t : Tr), ps3[j]? = some p → (lvl (ts.take x.toNat))[j]? = some t → Rd wo p t
  bel : Below wo.heap.size wo W
theorem Li.next {wo W w1 : World} {ts : List Tr} {x : Int} {A3 : Option Addr} {cp3 : Nat} {ps3 psk : List (Option Addr)} {v1 : Value} (H : Li wo W ts x A3 cp3 ps3) (h0 : 0 ≤ x) (hx : x < ts.length) (hx2 : x < 1000) (hk : psk.length = (rdT ts x).kids.length) (hr : ∀ (j : Nat) (p : Option Addr) (t : Tr), psk[j]? = some p → (rdT ts x).kids[j]? = some t → Rd wo p t)
    (ho : kPtr.R 38 w1 wo.heap.size (fun _ => True) v1 (ps3 ++ psk)) (hb : Below wo.heap.size wo w1) : ∃ A4 cp4 ps4, v1 = .slice A4 (ps4 : List (Option Addr)).length cp4 ∧ Li wo w1 ts (wrap64 (x + 1)) A4 cp4 ps4 := by
  obtain ⟨A4, cp4, rfl⟩ := Kd.R_slice ho
  have e : (wrap64 (x + 1)).toNat = x.toNat + 1 := by unfold wrap64; omega
  have hl := lvl_take ts x.toNat (by omega)
  rw [show ((x.toNat : Int)) = x by omega] at hl
  have hlen := H.len
  refine ⟨A4, cp4, ps3 ++ psk, rfl, ho, ?_, ?_, hb⟩
  · rw [e, hl, List.length_append, List.length_append, hlen, hk]
  · rw [e, hl]
    intro j p t hp ht
    by_cases hj : j < ps3.length
    · rw [List.getElem?_append_left hj] at hp
      rw [List.getElem?_append_left (by omega)] at ht
      exact H.r j p t hp ht
    · rw [List.getElem?_append_right (by omega)] at hp
      rw [List.getElem?_append_right (by omega), ← hlen] at ht
      exact hr _ p t hp ht
theorem Lo.down {w wo W : World} {tx : List ByteArray} {A2 : Option Addr} {p : Option Addr} {T : Tr} {A : Option Addr} {ps : List (Option Addr)} {ts : List Tr} {h : Int} {x : Int} {A3 : Option Addr} {cp3 : Nat} {ps3 : List (Option Addr)} (H : Lo w wo tx A2 p T A ps ts h) (hp : 0 < h) (K : Li wo W ts x A3 cp3 ps3) (hx : ¬ x < ts.length) :
    ps3.length = (lvl ts).length ∧ Lo w W tx A2 p T A3 ps3 (lvl ts) (h - 1) ∧ ps3.length ≤ tx.length := by
  have e : ts.take x.toNat = ts := List.take_of_length_le (by omega)
  have hl := K.len
  have hr := K.r
  rw [e] at hl hr
  obtain ⟨n1, n2⟩ := H.le.next hp
  have q := (Kd.R_reads' K.row).2.2
  rw [hl] at q
  have hle := n1.len
  rw [n2, H.ch] at hle
  refine ⟨hl, ⟨H.r.below K.bel, Kd.C_below H.c K.bel, ⟨q, rfl, fun j p t hp ht => (hr j p t hp ht).below K.bel⟩, n1, by rw [n2, H.ch], below_step H.bel K.bel⟩, by omega⟩
set_option maxHeartbeats 8000000 in
set_option maxRecDepth 100000 in
theorem KnotLow (w : World) (A0 : Option Addr) (c0 : Nat) (l0 : List ByteArray) (hr0 : Kd.C Kd.string w A0 l0.length l0) : Calls Try.prog 7 #[.slice A0 l0.length c0] w fun e w' => e = .returned (.bool true) ∧ Below w.heap.size w w' := by
  obtain ⟨tx, htx⟩ : ∃ tx, texts l0 = tx := ⟨_, rfl⟩
  have hf := texts_fits l0
  have hn := texts_len l0
  have HL := Aside0.mk (leaves_calls w A0 c0 l0 hr0)
  rw [htx] at hf hn HL
  have HN := Aside0.mk hn
  obtain ⟨T, hT⟩ : ∃ T, tree tx = T := ⟨_, rfl⟩
  have HUP : Aside0 (∀ W ok A cp ps, Rk W ok A tx.length ps (tx.map leafT) → tx.length ≤ cp → Calls Try.prog 25 #[.slice A tx.length cp] W (UpPost W ok T)) := ⟨fun W ok A cp ps h hcp => by rw [← hT]; exact tree_up hf hn W ok A cp ps h hcp⟩
  obtain ⟨b_, hb_⟩ : ∃ x : Int, (Kk.bits tx.length : Int) = x := ⟨_, rfl⟩
  have HBI : Aside0 (∀ W, Calls Try.prog 31 #[.int .i64 (tx.length : Int)] W fun e w' => e = .returned (.int .i64 b_) ∧ Drawn0 W w') := ⟨fun W => stylusref16_Bits.calls 2000 _ _ W (by rw [bits_f tx.length (by omega), hb_])⟩
  obtain ⟨h_, hh⟩ : ∃ x : Int, T.height = x := ⟨_, rfl⟩
  have HHE : Aside0 (∀ W p, Rd W p T → Calls Try.prog 26 #[.pointer p] W fun e w' => e = .returned (.int .i64 h_) ∧ W = w') := ⟨fun W p h => by have := height_calls W p T h; rw [hh] at this; exact this⟩
  by_cases h0 : tx.length = 0
  · have n0 : (tx.length == 0) = true := beq_iff_eq.mpr h0
    have n1 : ((tx.length : Int) == 0) = true := beq_iff_eq.mpr (by omega)
    have hm : h_ = -1 := by rw [← hh, ← hT, tree_height hf hn, if_pos h0]
    have hb0 : decide (h_ ≤ b_) = true := decide_eq_true (by omega)
    have hd : decide (0 < h_) = false := decide_eq_false (by omega)
    clear h0 hm hh hT htx hf hn hr0 hb_
    go_enter Try.func7, Try.ntmps7
    go_wp2_with (first
      | (go_at_call 24; (with_reducible refine HL.out.mono ?_); rintro e w1 ⟨A, cp, ps, A2, cp2, rfl, hr, hcp, hc, hcp2, hb⟩; have HR1 := Aside0.mk hr; have HCP := Aside0.mk (And.intro hcp hcp2); have HC1 := Aside0.mk (Kd.R_reads' hc).2.2; have HB1 := Aside0.mk hb; clear hr hcp hc hcp2 hb HL)
      | (go_at_call 25; (with_reducible refine (HUP.out _ _ A cp ps HR1.out HCP.out.1).mono ?_); rintro e w2 ⟨p, rfl, hp, hb⟩; have HS : Aside0 (KU w w2 p T A2 tx) := ⟨⟨hp.rd, Kd.C_below HC1.out hb, below_step HB1.out hb⟩⟩; have HS2 := Aside0.mk (HS.out.later (below_alloc (Below.refl _ _) (.cells #[.pointer p] 38))); clear hp hb HR1 HC1 HB1)
      | (go_at_call 26; (with_reducible refine (HHE.out _ p HS2.out.r).mono ?_); rintro e w6 ⟨rfl, rfl⟩))
    go_loopg [6, 7] 1 (fun kq v6 v7 w' => v7 = .int .i64 h_ ∧ (∃ A n cp, v6 = .slice A n cp) ∧ Aside0 (KU w w' p T A2 tx))
    case atStart => exact ⟨rfl, ⟨_, _, _, rfl⟩, ⟨HS.out.later (below_alloc (Below.refl _ _) _)⟩⟩
    case round =>
      clear HS
      obtain ⟨rfl, ⟨A9, n9, cp9, rfl⟩, HS⟩ := hrel
      go_wp2_with (first
        | (go_at_call 26; (with_reducible refine (HHE.out _ p HS.out.r).mono ?_); rintro e w6 ⟨rfl, rfl⟩)
        | (go_at_call 31; (with_reducible refine (HBI.out _).mono ?_); rintro e w6 ⟨rfl, hd⟩; have n0_ := Aside0.mk (HS.out.later hd.below); clear HS hd; have HS := n0_; clear n0_)
        | (go_at_call 23; (with_reducible refine (lives_calls _).mono ?_); rintro e w9 ⟨rfl, hb⟩; have n0_ := Aside0.mk (HS.out.later hb); clear HS hb; have HS := n0_; clear n0_))
      go_ret
      exact ⟨by first | rfl | (simp; done), HS.out.bel⟩
  · have n0 : (tx.length == 0) = false := beq_eq_false_iff_ne.mpr h0
    have n1 : ((tx.length : Int) == 0) = false := beq_eq_false_iff_ne.mpr (by omega)
    have hfi : FineT T := by rw [← hT]; exact tree_fine hf hn h0
    have hch : chunks T = tx := by rw [← hT]; exact tree_chunks hf hn
    have hth : T.height = T.h0 := by unfold Tr.height; rw [fine_none hfi]; rfl
    have hpw := fine_pow hfi
    rw [← hth, hh, hch] at hpw
    have hb0 : decide (h_ ≤ b_) = true := decide_eq_true (by have := pow_bits hpw.2; omega)
    have HLE : Aside0 (Le h_ [T] ∧ chunksL [T] = tx) := ⟨⟨fun t ht => by rw [List.mem_singleton.1 ht]; exact ⟨hfi, by rw [← hth, hh]⟩⟩, by rw [chunksL_cons, chunksL, List.append_nil, hch]⟩
    have HZ := Aside0.mk h0
    have HH7 : Aside0 (0 ≤ h_ ∧ h_ ≤ 200) := ⟨hpw.1, by have := pow_bits hpw.2; have := bits_le tx.length; omega⟩
    clear h0 hh hT htx hf hn hr0 hb_ hfi hch hth hpw
    go_enter Try.func7, Try.ntmps7
    go_wp2_with (first
      | (go_at_call 24; (with_reducible refine HL.out.mono ?_); rintro e w1 ⟨A, cp, ps, A2, cp2, rfl, hr, hcp, hc, hcp2, hb⟩; have HR1 := Aside0.mk hr; have HCP := Aside0.mk (And.intro hcp hcp2); have HC1 := Aside0.mk (Kd.R_reads' hc).2.2; have HB1 := Aside0.mk hb; clear hr hcp hc hcp2 hb HL)
      | (go_at_call 25; (with_reducible refine (HUP.out _ _ A cp ps HR1.out HCP.out.1).mono ?_); rintro e w2 ⟨p, rfl, hp, hb⟩; have HS : Aside0 (KU w w2 p T A2 tx) := ⟨⟨hp.rd, Kd.C_below HC1.out hb, below_step HB1.out hb⟩⟩; have HS2 := Aside0.mk (HS.out.later (below_alloc (Below.refl _ _) (.cells #[.pointer p] 38))); clear hp hb HR1 HC1 HB1)
      | (go_at_call 26; (with_reducible refine (HHE.out _ p HS2.out.r).mono ?_); rintro e w6 ⟨rfl, rfl⟩))
    rename World => wz
    have HLO : Aside0 (Lo w (wz.alloc (.cells #[.pointer p] 38)) tx A2 p T (some ⟨wz.heap.size, 0, none⟩) [p] [T] h_) := by
      have h1 := one_ptr wz p T HS.out.r
      have h2 := HS.out.later (below_alloc (Below.refl _ _) (.cells #[.pointer p] 38))
      exact ⟨⟨h2.r, h2.c, h1.rs, HLE.out.1, HLE.out.2, h2.bel⟩⟩
    clear HS
    go_loopg [6, 7] (h_.toNat + 1) (fun kq v6 v7 w' => ∃ (A : Option Addr) (cp : Nat) (ps : List (Option Addr)) (ts : List Tr) (h : Int), v7 = .int .i64 h ∧ v6 = .slice A ts.length cp ∧ Aside0 (0 ≤ h ∧ h ≤ 200 ∧ h + 1 ≤ kq ∧ ts.length ≠ 0) ∧ Aside0 (Lo w w' tx A2 p T A ps ts h))
    case atStart => exact ⟨_, 1, [p], [T], h_, rfl, rfl, ⟨by have := HH7.out; refine ⟨this.1, this.2, by omega, by simp⟩⟩, HLO⟩
    case round =>
      clear HLO
      obtain ⟨A, cp, ps, ts, h, rfl, rfl, HK, HS⟩ := hrel
      rename World => wo
      obtain ⟨k1, rfl⟩ : ∃ k1, gk = k1 + 1 := ⟨gk - 1, by have := HK.out; omega⟩
      by_cases hp : 0 < h
      · have hpb : decide (0 < h) = true := decide_eq_true hp
        have HP := Aside0.mk hp
        have hlt := HS.out.le.len
        rw [HS.out.ch] at hlt
        have HLN : Aside0 (ts.length ≤ 200) := ⟨by have := HN.out; omega⟩
        have hpw := (HS.out.le.pow HK.out.2.2.2).2
        rw [HS.out.ch] at hpw
        have h20 : decide (20 < h) = false := decide_eq_false (fun hc => by
          have h1 : 2 ^ 20 ≤ 2 ^ h.toNat := Nat.pow_le_pow_right (by omega) (by omega)
          have := HN.out
          have h2 : (2 : Nat) ^ 20 = 1048576 := by decide
          omega)
        clear hp hlt hpw
        go_wp2
        go_loopg [8, 9] (ts.length + 1) (fun kq v8 v9 w' => ∃ (x : Int) (A3 : Option Addr) (cp3 : Nat) (ps3 : List (Option Addr)), v9 = .int .i64 x ∧ v8 = .slice A3 ps3.length cp3 ∧ Aside0 (0 ≤ x ∧ x + kq = ts.length + 1 ∧ 1 ≤ kq) ∧ Aside0 (Li wo w' ts x A3 cp3 ps3))
        case atStart => exact ⟨0, none, 0, [], (by first | rfl | (simp; done)), rfl, ⟨by omega⟩, ⟨⟨Kd.R_nil _ _ _ _ _, rfl, (fun j p t hp ht => by cases hp), Below.refl _ _⟩⟩⟩
        case round =>
          obtain ⟨x, A3, cp3, ps3, rfl, rfl, HX, HI⟩ := hrel
          obtain ⟨k2, rfl⟩ : ∃ k2, gk = k2 + 1 := ⟨gk - 1, by have := HX.out; omega⟩
          have p0 : 0 ≤ x := HX.out.1
          by_cases cx : x < (ts.length : Int)
          · have cxb : decide (x < (ts.length : Int)) = true := decide_eq_true cx
            obtain ⟨ad0, q, q0, hx0, _, hr⟩ := HS.out.rs.at_ x p0 cx
            have hm := rdT_mem ts x p0 cx
            obtain ⟨f1, f2⟩ := HS.out.le.f _ hm
            have hsp := (fine_split f1).resolve_left (fun hc => by have := HP.out; omega)
            obtain ⟨d_, _, _, k2_, k8_, _, _⟩ := hsp
            have hlp : (lvl (ts.take x.toNat)).length ≤ 8 * ts.length := by
              have hf8 : ∀ (l : List Tr), (∀ t ∈ l, t ∈ ts) → (lvl l).length ≤ 8 * l.length := by
                intro l
                induction l with
                | nil => intro _; simp [lvl]
                | cons t l ih =>
                  intro hl
                  have e : lvl (t :: l) = t.kids ++ lvl l := by unfold lvl; rw [List.map_cons, List.flatten_cons]
                  rw [e, List.length_append, List.length_cons]
                  have := ih (fun y hy => hl y (by simp [hy]))
                  have ht := HS.out.le.f t (hl t (by simp))
                  obtain ⟨_, _, _, _, h8, _, _⟩ := (fine_split ht.1).resolve_left (fun hc => by have := HP.out; omega)
                  omega
              have := hf8 (ts.take x.toNat) (fun t ht => List.mem_of_mem_take ht)
              have hl2 := List.length_take_le' x.toNat ts
              omega
            have HPL : Aside0 (ps3.length ≤ 1600) := ⟨by rw [HI.out.len]; have := HLN.out; omega⟩
            subst q0
            have HKI := Aside0.mk (kids2_calls wo _ q (rdT ts x) hr HI.out.bel (fine_none f1) (by omega) (by omega))
            replace hx0 := (HI.out.bel.cell (World.block_lt_of_cell? wo _ hx0)).trans hx0
            obtain ⟨kn, hkn⟩ : ∃ kn, (rdT ts x).kids.length = kn := ⟨_, rfl⟩
            have HKN : Aside0 (2 ≤ kn ∧ kn ≤ 8) := ⟨by omega⟩
            have HKL := Aside0.mk hkn
            have kb2 : decide (kn < 2) = false := decide_eq_false (by omega)
            have kb2i : decide ((kn : Int) < 2) = false := decide_eq_false (by omega)
            have kb8 : decide (8 < kn) = false := decide_eq_false (by omega)
            have kb8i : decide (8 < (kn : Int)) = false := decide_eq_false (by omega)
            have HQ : Aside0 (0 ≤ x ∧ x < ts.length) := ⟨p0, cx⟩
            have p0c := eq_true p0
            have cxc := eq_true cx
            clear p0 cx hr hm f1 f2 k2_ k8_ hlp hkn
            go_wp2_with (first
              | (go_at_call 28; (with_reducible refine HKI.out.mono ?_); rintro e w3 ⟨Ak, cpk, psk, rfl, hcp, hc, hrk, hb⟩; rw [HKL.out] at hc hcp ⊢; have HCK := Aside0.mk hc; have HRK := Aside0.mk hrk; have HB3 := Aside0.mk hb; clear hcp hc hrk hb HKI hx0)
              | ((with_reducible refine gate_builtin (b := .append) (xs := #[.tmp 45, .tmp 46]) rfl ?_); at_builtin; refine Kd.R_append_row (fun p => Value.pointer p) (none : Option Addr) (h1 := fun _ => rfl) (w0 := wo) wo.heap.size rfl (.tmp 45) (.tmp 46) 35 38 (.pointer none) 8 rfl Try.underlying35 infoP rfl (by decide) (.slice A3 ps3.length cp3) ps3 psk Ak kn cpk (fun _ => True) rfl rfl (fun _ _ => trivial) (Kd.R_below HI.out.row HB3.out) HCK.out (below_step HI.out.bel HB3.out) (below_step HI.out.bel HB3.out).size (by have := HPL.out; have := HKN.out; omega) ?_; intro v1 w4 ho hb1 hg hat; obtain ⟨A5, cp5, ps5, rfl, hk⟩ := HI.out.next HQ.out.1 HQ.out.2 (by have := HQ.out; have := HLN.out; omega) (by rw [HKL.out]; exact HCK.out.1) HRK.out ho hb1; have HI5 := Aside0.mk hk; clear ho hb1 hg hat hk HCK HRK HB3))
            go_roundg k2
            case measure => omega
            case rel => exact ⟨wrap64 (x + 1), A5, cp5, ps5, (by first | rfl | (simp; done)), rfl, ⟨by have := HX.out; have := HQ.out; have := HLN.out; unfold wrap64; omega⟩, HI5⟩
          · have cxb : decide (x < (ts.length : Int)) = false := decide_eq_false cx
            obtain ⟨hl, hlo, hle⟩ := HS.out.down HP.out HI.out cx
            have hle2 := hlo.le.len
            have hne : (lvl ts).length ≠ 0 := fun hc => by
              have h1 := hlo.ch
              rw [List.eq_nil_of_length_eq_zero hc, chunksL] at h1
              exact HZ.out (by rw [← h1]; rfl)
            have HLO := Aside0.mk hlo
            have HNE := Aside0.mk hne
            rw [hl]
            have c1000 : decide (1000 < (lvl ts).length) = false := decide_eq_false (by have := HN.out; omega)
            have c1000i : decide (1000 < ((lvl ts).length : Int)) = false := decide_eq_false (by have := HN.out; omega)
            obtain ⟨h1, hh1⟩ : ∃ h1 : Int, h - 1 = h1 := ⟨_, rfl⟩
            have hw1 : wrap64 (h - 1) = h1 := by rw [← hh1]; have := HK.out; unfold wrap64; omega
            have hw2 : IntKind.i64.wrap (h - 1) = h1 := (i64_w _).trans hw1
            rw [hh1] at HLO
            have HH1 : Aside0 (0 ≤ h1 ∧ h1 ≤ 200 ∧ h1 + 1 ≤ k1 ∧ (lvl ts).length ≠ 0) := ⟨by have := HK.out; have := HP.out; exact ⟨by omega, by omega, by omega, hne⟩⟩
            clear p0 cx hl hlo hle hle2 hne hh1 HI
            go_wp2
            go_roundg k1
            case measure => omega
            case rel => exact ⟨A3, cp3, ps3, lvl ts, h1, (by first | rfl | (simp; done) | (simp [*]; done)), rfl, HH1, HLO⟩
      · have hpb : decide (0 < h) = false := decide_eq_false hp
        have e0 : h = 0 := by have := HK.out; omega
        subst e0
        have hzl := HS.out.le.zero
        rw [HS.out.ch] at hzl
        have HZL := Aside0.mk hzl
        clear hp hzl
        rw [HZL.out]
        go_wp2_with (first
        | (go_at_call 26; (with_reducible refine (HHE.out _ p HS.out.r).mono ?_); rintro e w6 ⟨rfl, rfl⟩)
        | (go_at_call 31; (with_reducible refine (HBI.out _).mono ?_); rintro e w6 ⟨rfl, hd⟩; have n0_ := Aside0.mk (HS.out.later hd.below); clear HS hd; have HS := n0_; clear n0_)
        | (go_at_call 23; (with_reducible refine (lives_calls _).mono ?_); rintro e w9 ⟨rfl, hb⟩; have n0_ := Aside0.mk (HS.out.later hb); clear HS hb; have HS := n0_; clear n0_))
        go_ret
        exact ⟨by first | rfl | (simp; done), HS.out.bel⟩
end Go.Proofs.Ytgkjagfdlhcgjaa.Kp
