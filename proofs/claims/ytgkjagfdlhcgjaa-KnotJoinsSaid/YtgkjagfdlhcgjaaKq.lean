import Derived.Test.YtgkjagfdlhcgjaaKp
import Derived.Test.YtgkjagfdlhcgjaaKo
/- Knots put under one: the walk of the statement. -/
namespace Go.Proofs.Ytgkjagfdlhcgjaa.Kq
open Go.RowKit Go.Proofs.Ytgkjagfdlhcgjaa.U Go.Proofs.Ytgkjagfdlhcgjaa.QK Go.Proofs.Ytgkjagfdlhcgjaa.Kt Go.Proofs.Ytgkjagfdlhcgjaa.Ka Go.Proofs.Ytgkjagfdlhcgjaa.Kb Go.Proofs.Ytgkjagfdlhcgjaa.Kc Go.Proofs.Ytgkjagfdlhcgjaa.Kd_ Go.Proofs.Ytgkjagfdlhcgjaa.Ke Go.Proofs.Ytgkjagfdlhcgjaa.Kf Go.Proofs.Ytgkjagfdlhcgjaa.Kg Go.Proofs.Ytgkjagfdlhcgjaa.Kh Go.Proofs.Ytgkjagfdlhcgjaa.Ki Go.Proofs.Ytgkjagfdlhcgjaa.Kj Go.Proofs.Ytgkjagfdlhcgjaa.Kk Go.Proofs.Ytgkjagfdlhcgjaa.Kl Go.Proofs.Ytgkjagfdlhcgjaa.Km Go.Proofs.Ytgkjagfdlhcgjaa.Kn Go.Proofs.Ytgkjagfdlhcgjaa.Ko Go.Proofs.Ytgkjagfdlhcgjaa.Kp Go.Proofs.YtgkjagfdlhcgjaaW.PrintWords Go.Proofs.YtgkjagfdlhcgjaaW.PrintLast Go.Proofs.YtgkjagfdlhcgjaaW.PrintMore
set_option linter.unusedVariables false
set_option linter.unusedSimpArgs false
def rdL (ls : List (List ByteArray)) (i : Int) : List ByteArray := ls.getD i.toNat []
theorem at_list {w : World} {A : Option Addr} {n : Nat} {ls : List (List ByteArray)} (h : (Kd.slice 9 Kd.string).C w A n ls) (i : Int) (h0 : 0 ≤ i) (h1 : i < n) :
    ∃ ad A1 c1, A = some ad ∧ w.cell? (ad.add i.toNat) = some (.slice A1 (rdL ls i).length c1) ∧ Kd.C Kd.string w A1 (rdL ls i).length (rdL ls i) := by
  obtain ⟨ad, c, e, _, ⟨A1, c1, rfl, _, hC⟩, hc⟩ := Kd.C_get h [] i h0 h1
  have := hc 0 _ rfl
  have sz : (Kd.slice 9 Kd.string).sz = 1 := rfl
  rw [sz, Nat.mul_one, Nat.add_zero] at this
  exact ⟨ad, A1, c1, e, this, hC⟩
/-- the trees over lists -/
def trs (ls : List (List ByteArray)) : List Tr := ls.map fun l => tree (texts l)
def cats (ls : List (List ByteArray)) : ByteArray := cat ((ls.map texts).flatten)
theorem trs_next (ls : List (List ByteArray)) (i : Int) (h0 : 0 ≤ i) (h : i < ls.length) : trs (ls.take (i.toNat + 1)) = trs (ls.take i.toNat) ++ [tree (texts (rdL ls i))] := by
  unfold trs rdL
  rw [List.take_succ_eq_append_getElem (by omega), List.map_append, List.getD_eq_getElem?_getD, List.getElem?_eq_getElem (by omega)]; rfl
theorem cats_next (ls : List (List ByteArray)) (i : Int) (h0 : 0 ≤ i) (h : i < ls.length) : cats (ls.take (i.toNat + 1)) = cats (ls.take i.toNat) ++ cat (texts (rdL ls i)) := by
  unfold cats rdL
  rw [List.take_succ_eq_append_getElem (by omega), List.map_append, List.flatten_append, cat_app, List.getD_eq_getElem?_getD, List.getElem?_eq_getElem (by omega)]
  simp
theorem cat_le (l : List ByteArray) : (cat (texts l)).size ≤ 3200 := by
  have h := cat_size_le (texts l) (fun s hs => (fits_spec (texts_fits l s hs)).2.1)
  have := texts_len l; omega
theorem cats_le (ls : List (List ByteArray)) : (cats ls).size ≤ 3200 * ls.length := by
  induction ls with
  | nil => decide
  | cons l ls ih =>
    have e : cats (l :: ls) = cat (texts l) ++ cats ls := by unfold cats; rw [List.map_cons, List.flatten_cons, cat_app]
    rw [e, ByteArray.size_append, List.length_cons]
    have := cat_le l; omega
theorem trs_chunks (ls : List (List ByteArray)) : chunksL (trs ls) = (ls.map texts).flatten := by
  induction ls with
  | nil => rw [trs, List.map_nil, chunksL]; rfl
  | cons l ls ih =>
    have e : trs (l :: ls) = tree (texts l) :: trs ls := rfl
    rw [e, chunksL_cons, ih, tree_chunks (texts_fits l) (texts_len l)]; rfl
theorem tree_no {l : List ByteArray} : (tree (texts l)).none = decide ((texts l).length = 0) := by
  by_cases h : (texts l).length = 0
  · rw [decide_eq_true h]
    unfold tree
    rw [List.eq_nil_of_length_eq_zero h, List.map_nil, upT_nil]; rfl
  · rw [decide_eq_false h]
    exact fine_none (tree_fine (texts_fits l) (texts_len l) h)
/-- what 'even' tells -/
def Ev (n : Nat) (ts : List Tr) : Prop := 2 ≤ n ∧ n ≤ 8 ∧ ∀ t ∈ ts, t.none = false ∧ t.height = (rdT ts 0).height
def Evb (e : Bool) (n : Nat) (ts : List Tr) : Prop := e = true ↔ Ev n ts
theorem ev_next {n : Nat} {ts : List Tr} {t : Tr} : Ev n (ts ++ [t]) ↔ Ev n ts ∧ t.none = false ∧ t.height = (rdT (ts ++ [t]) 0).height := by
  have h0 : ts ≠ [] → rdT (ts ++ [t]) 0 = rdT ts 0 := by
    intro hne
    cases ts with
    | nil => exact absurd rfl hne
    | cons a b => rfl
  constructor
  · rintro ⟨h1, h2, h3⟩
    refine ⟨⟨h1, h2, fun u hu => ?_⟩, h3 t (by simp)⟩
    have := h3 u (by simp [hu])
    rwa [h0 (fun e => by rw [e] at hu; cases hu)] at this
  · rintro ⟨⟨h1, h2, h3⟩, h4⟩
    refine ⟨h1, h2, fun u hu => ?_⟩
    rcases List.mem_append.1 hu with hu | hu
    · rw [h0 (fun e => by rw [e] at hu; cases hu)]; exact h3 u hu
    · rw [List.mem_singleton.1 hu]; exact h4
theorem ev_even {n : Nat} {ts : List Tr} (hl : ts.length = n) : Ev n ts ↔ (2 ≤ n ∧ n ≤ 8 ∧ evenB ts = true) := by
  unfold Ev evenB
  rw [List.all_eq_true]
  have hh : ∀ t : Tr, t.none = false → t.height = t.h0 := fun t h => by unfold Tr.height; rw [h]; rfl
  constructor
  · rintro ⟨h1, h2, h3⟩
    refine ⟨h1, h2, fun t ht => ?_⟩
    have h0 := h3 _ (rdT_mem ts 0 (Int.le_refl 0) (by omega))
    obtain ⟨e1, e2⟩ := h3 t ht
    unfold evenAt
    rw [e1, ← hh t e1, ← hh _ h0.1, e2]; simp
  · rintro ⟨h1, h2, h3⟩
    refine ⟨h1, h2, fun t ht => ?_⟩
    have h0 := h3 _ (rdT_mem ts 0 (Int.le_refl 0) (by omega))
    have e := h3 t ht
    unfold evenAt at e h0
    rw [Bool.and_eq_true] at e h0
    have e1 : t.none = false := by simpa using e.1
    have e0 : (rdT ts 0).none = false := by simpa using h0.1
    exact ⟨e1, by rw [hh t e1, hh _ e0]; simpa using e.2⟩
/-- trees of one height: their level -/
theorem trs_lv {ls : List (List ByteArray)} (hn : ls.length ≤ 12) (h : ∀ t ∈ trs ls, t.none = false ∧ t.h0 = (rdT (trs ls) 0).h0) (hne : ls.length ≠ 0) : Lv (rdT (trs ls) 0).h0 (trs ls) ∧ (∀ t ∈ trs ls, FineT t) ∧ (rdT (trs ls) 0).h0 ≤ 200 := by
  have hlen : (trs ls).length = ls.length := List.length_map _
  have hf : ∀ t ∈ trs ls, FineT t ∧ (∃ l, t = tree (texts l)) := by
    intro t ht
    obtain ⟨l, hl, rfl⟩ := List.mem_map.1 ht
    have h1 := (h _ ht).1
    rw [tree_no] at h1
    exact ⟨tree_fine (texts_fits l) (texts_len l) (by simpa using h1), l, rfl⟩
  have hc : ∀ t ∈ trs ls, (0 ≤ t.cb ∧ t.cb ≤ 3200) ∧ (0 ≤ t.cr ∧ t.cr ≤ 3200) ∧ (0 ≤ t.cl ∧ t.cl ≤ 3200) := by
    intro t ht
    obtain ⟨_, l, rfl⟩ := hf t ht
    have h1 := (h _ ht).1
    obtain ⟨c1, c2, c3⟩ := tree_counts (texts_fits l) (texts_len l)
    rw [h1] at c1 c2 c3
    have e1 : (tree (texts l)).cb = ((cat (texts l)).size : Int) := c1
    have e2 : (tree (texts l)).cr = (Sp.runes (ld (cat (texts l))) : Int) := c2
    have e3 : (tree (texts l)).cl = (Sp.lines (ld (cat (texts l))) : Int) := c3
    have q1 := cat_le l
    have q2 := Sp.runes_le (ld (cat (texts l)))
    have q3 := Sp.lines_le (ld (cat (texts l)))
    rw [ld_len] at q2 q3
    omega
  have hs : ∀ (f : Tr → Int), (∀ t ∈ trs ls, 0 ≤ f t ∧ f t ≤ 3200) → ((trs ls).map f).sum ≤ 100000000000 := by
    intro f hff
    have := sum_bound f (trs ls) (fun t ht => ⟨(hff t ht).1, by have := (hff t ht).2; omega⟩)
    have hb : ∀ l : List Tr, (∀ t ∈ l, f t ≤ 3200) → (l.map f).sum ≤ 3200 * l.length := by
      intro l
      induction l with
      | nil => intro _; simp
      | cons a b ih => intro hh; rw [List.map_cons, List.sum_cons, List.length_cons]; have := hh a (by simp); have := ih (fun x hx => hh x (by simp [hx])); omega
    have := hb (trs ls) (fun t ht => (hff t ht).2)
    rw [hlen] at this
    omega
  have hm := rdT_mem (trs ls) 0 (Int.le_refl 0) (by omega)
  obtain ⟨f0, l0, e0⟩ := hf _ hm
  have hp := fine_pow f0
  have hh200 : (rdT (trs ls) 0).h0 ≤ 200 := by
    have hb := pow_bits hp.2
    have hc0 : (chunks (rdT (trs ls) 0)).length ≤ 200 := by rw [e0, tree_chunks (texts_fits l0) (texts_len l0)]; exact texts_len l0
    have := bits_le (chunks (rdT (trs ls) 0)).length
    omega
  exact ⟨⟨fun t ht => ⟨(h t ht).1, (h t ht).2, (hc t ht).1.1, (hc t ht).2.1.1, (hc t ht).2.2.1⟩, hp.1, hs _ (fun t ht => (hc t ht).1), hs _ (fun t ht => (hc t ht).2.1), hs _ (fun t ht => (hc t ht).2.2)⟩, fun t ht => (hf t ht).1, hh200⟩
/-- the row of trees -/
structure Jo (w W : World) (ts : List Tr) (A : Option Addr) (cp : Nat) (ps : List (Option Addr)) : Prop where
  row : kPtr.R 38 W w.heap.size (fun _ => True) (.slice A ps.length cp) ps
  ts_ : Ts W (fun k => w.heap.size ≤ k) (.slice A ps.length cp) ps ts
  bel : Below w.heap.size w W
theorem Jo.later {w W W2 : World} {ts : List Tr} {A : Option Addr} {cp : Nat} {ps : List (Option Addr)} (h : Jo w W ts A cp ps) (hb : Below W.heap.size W W2) : Jo w W2 ts A cp ps := ⟨Kd.R_below h.row hb, h.ts_.later hb, below_step h.bel hb⟩
theorem Jo.app {w W W2 w1 : World} {ts : List Tr} {A : Option Addr} {cp : Nat} {ps : List (Option Addr)} {q : Option Addr} {t : Tr} {v1 : Value} (h : Jo w W ts A cp ps) (hp : Rp W2 (fun k => W.heap.size ≤ k) q t) (hb : Below W.heap.size W W2)
    (ho : kPtr.R 38 w1 w.heap.size (fun _ => True) v1 (ps ++ [q])) (hb1 : Below w.heap.size w w1) (hg : W2.grownBy w1 (Value.slice A ps.length cp).ownBlock) (hat : v1.ownBlock = (Value.slice A ps.length cp).ownBlock ∨ ∃ b, v1.ownBlock = some b ∧ W2.heap.size ≤ b) :
    ∃ A4 cp4 ps4, v1 = .slice A4 (ps4 : List (Option Addr)).length cp4 ∧ Jo w w1 (ts ++ [t]) A4 cp4 ps4 := by
  obtain ⟨A4, cp4, rfl⟩ := Kd.R_slice ho
  have hsz := h.bel.size
  have h2 := h.later hb
  have hq : Rp W2 (fun k => w.heap.size ≤ k ∧ some k ≠ (Value.slice A ps.length cp).ownBlock) q t := hp.mono (fun k hk => ⟨by omega, fun he => by have := Kd.R_lt h.row k he.symm; omega⟩)
  exact ⟨A4, cp4, ps ++ [q], rfl, ho, h2.ts_.app hq hg hat, hb1⟩
theorem Jo.rk {w W : World} {ts : List Tr} {A : Option Addr} {cp : Nat} {ps : List (Option Addr)} (h : Jo w W ts A cp ps) : Rk W (fun k => w.heap.size ≤ k) A ps.length ps ts ∧ ps.length ≤ cp := by
  obtain ⟨q1, q2, q3⟩ := Kd.R_reads' h.row
  exact ⟨⟨q3, h.ts_.len.symm, fun j p t hp ht => (h.ts_.r j p t hp ht).mono (fun k hk => hk.1)⟩, q2⟩
set_option maxHeartbeats 16000000 in
set_option maxRecDepth 100000 in
theorem KnotJoins (w : World) (A0 : Option Addr) (c0 : Nat) (ls : List (List ByteArray)) (hr0 : (Kd.slice 9 Kd.string).C w A0 ls.length ls) : Calls Try.prog 6 #[.slice A0 ls.length c0] w fun e w' => e = .returned (.bool true) ∧ Below w.heap.size w w' := by
  have HR0 := Aside0.mk hr0
  clear hr0
  by_cases d0 : 12 < ls.length
  · have d0b : decide (12 < ls.length) = true := decide_eq_true d0
    have d0c : decide (12 < (ls.length : Int)) = true := decide_eq_true (by omega)
    clear d0
    go_enter Try.func6, Try.ntmps6
    go_wp2_with (go_at_call 23; (with_reducible refine (lives_calls _).mono ?_); rintro e w1 ⟨rfl, hb⟩; have HB1 := Aside0.mk hb; clear hb)
    go_ret
    exact ⟨rfl, HB1.out⟩
  have d0b : decide (12 < ls.length) = false := decide_eq_false d0
  have d0c : decide (12 < (ls.length : Int)) = false := decide_eq_false (by omega)
  have D0 : Aside0 (ls.length ≤ 12) := ⟨by omega⟩
  clear d0
  obtain ⟨ev0, hev⟩ : ∃ e : Bool, (decide (2 ≤ ls.length) && decide (ls.length ≤ 8)) = e := ⟨_, rfl⟩
  have HE0 : Aside0 (Evb ev0 ls.length []) := ⟨by
    unfold Evb
    rw [← hev, Bool.and_eq_true, decide_eq_true_eq, decide_eq_true_eq]
    exact ⟨fun h => ⟨h.1, h.2, (fun t ht => by cases ht)⟩, fun h => ⟨h.1, h.2.1⟩⟩⟩
  have HJ0 : Aside0 (Jo w w [] none 0 []) := ⟨⟨Kd.R_nil _ _ _ _ _, Ts.nil _ _ _, Below.refl _ _⟩⟩
  rcases (show (decide (2 ≤ ls.length) = false ∧ decide ((2 : Int) ≤ (ls.length : Int)) = false ∧ ev0 = false) ∨ (decide (2 ≤ ls.length) = true ∧ decide ((2 : Int) ≤ (ls.length : Int)) = true ∧ decide (ls.length ≤ 8) = true ∧ decide ((ls.length : Int) ≤ 8) = true ∧ ev0 = true) ∨ (decide (2 ≤ ls.length) = true ∧ decide ((2 : Int) ≤ (ls.length : Int)) = true ∧ decide (ls.length ≤ 8) = false ∧ decide ((ls.length : Int) ≤ 8) = false ∧ ev0 = false) by
    by_cases c2 : 2 ≤ ls.length
    · by_cases c8 : ls.length ≤ 8
      · exact .inr (.inl ⟨decide_eq_true c2, decide_eq_true (by omega), decide_eq_true c8, decide_eq_true (by omega), by rw [← hev, decide_eq_true c2, decide_eq_true c8]; rfl⟩)
      · exact .inr (.inr ⟨decide_eq_true c2, decide_eq_true (by omega), decide_eq_false c8, decide_eq_false (by omega), by rw [← hev, decide_eq_true c2, decide_eq_false c8]; rfl⟩)
    · exact .inl ⟨decide_eq_false c2, decide_eq_false (by omega), by rw [← hev, decide_eq_false c2]; rfl⟩) with ⟨g1, g2, rfl⟩ | ⟨g1, g2, g3, g4, rfl⟩ | ⟨g1, g2, g3, g4, rfl⟩
  · clear hev
    have HE0_ : ∀ ts, Ev ls.length ts → False := fun ts h => by have h1 := h.1; have h2 := h.2.1; have := of_decide_eq_false g1; omega
    go_enter Try.func6, Try.ntmps6
    go_wp2
    go_loopg [3, 4, 5, 6] (ls.length + 1) (fun kq v3 v4 v5 v6 w' => ∃ (x : Int) (e : Bool) (s : ByteArray) (ts : List Tr) (A : Option Addr) (cp : Nat) (ps : List (Option Addr)), v6 = .int .i64 x ∧ v4 = .bool e ∧ v5 = .string s ∧ v3 = .slice A ps.length cp ∧ Aside0 (0 ≤ x ∧ x ≤ ls.length ∧ x + kq = ls.length + 1 ∧ 1 ≤ kq) ∧ Aside0 (Evb e ls.length ts) ∧ Aside0 (ts = trs (ls.take x.toNat) ∧ s = cats (ls.take x.toNat)) ∧ Aside0 (Jo w w' ts A cp ps))
    case atStart => exact ⟨0, _, ⟨#[]⟩, [], none, 0, [], (by first | rfl | (simp; done)), rfl, rfl, rfl, ⟨by omega⟩, HE0, ⟨⟨rfl, rfl⟩⟩, HJ0⟩
    case round =>
      clear HJ0 HE0
      obtain ⟨x, e, s, ts, A, cp, ps, rfl, rfl, rfl, rfl, HK, HE, HTS, HJ⟩ := hrel
      rename World => wr0
      obtain ⟨k1, rfl⟩ : ∃ k1, gk = k1 + 1 := ⟨gk - 1, by have := HK.out; omega⟩
      have p0 : 0 ≤ x := HK.out.1
      by_cases cx : x < (ls.length : Int)
      · have cxb : decide (x < (ls.length : Int)) = true := decide_eq_true cx
        obtain ⟨ad0, A1, c1, q0, hx0, hC1⟩ := at_list HR0.out x p0 cx
        subst q0
        have hy0 := (HJ.out.bel.cell (World.block_lt_of_cell? w _ hx0)).trans hx0
        have HQ : Aside0 (0 ≤ x ∧ x < ls.length) := ⟨p0, cx⟩
        have hnt := trs_next ls x p0 cx
        have hnc := cats_next ls x p0 cx
        have hsz := cats_le (ls.take x.toNat)
        have hsl := List.length_take_le x.toNat ls
        rw [← HTS.out.1] at hnt
        rw [← HTS.out.2] at hnc hsz
        have hlc := cat_le (rdL ls x)
        have hno := tree_no (l := rdL ls x)
        have hff := texts_fits (rdL ls x)
        have hln := texts_len (rdL ls x)
        obtain ⟨li, hli⟩ : ∃ li, rdL ls x = li := ⟨_, rfl⟩
        rw [hli] at hy0 hC1 hnt hnc hlc hno hff hln
        obtain ⟨tx, htx⟩ : ∃ tx, texts li = tx := ⟨_, rfl⟩
        have HLV : Aside0 (∀ W, Below w.heap.size w W → Calls Try.prog 24 #[.slice A1 li.length c1] W (LeavesPost W tx)) := ⟨fun W hb => by rw [← htx]; exact leaves_calls W A1 c1 li (Kd.C_below hC1 hb)⟩
        rw [htx] at hnt hnc hlc hno hff hln
        obtain ⟨T, hT⟩ : ∃ T, tree tx = T := ⟨_, rfl⟩
        have HUP : Aside0 (∀ W ok A cp ps, Rk W ok A tx.length ps (tx.map leafT) → tx.length ≤ cp → Calls Try.prog 25 #[.slice A tx.length cp] W (UpPost W ok T)) := ⟨fun W ok A cp ps h hcp => by rw [← hT]; exact tree_up hff hln W ok A cp ps h hcp⟩
        obtain ⟨S1, hS⟩ : ∃ S, cat tx = S := ⟨_, rfl⟩
        have HWH : Aside0 (∀ W A cp, Kd.C Kd.string W A tx.length tx → tx.length ≤ cp → Calls Try.prog 22 #[.slice A tx.length cp] W fun e w' => e = .returned (.string S1) ∧ Drawn0 W w') := ⟨fun W A cp h hcp => stylusref15_Whole.calls 2000 A cp tx S1 W h hcp (by rw [← hS]; exact whole_f tx (by omega) (fun s hs => (fits_spec (hff s hs)).2.1))⟩
        rw [hS] at hnc hlc
        rw [hT] at hnt hno
        have cc0 := eq_true (show s.size + S1.size ≤ 9223372036854775807 by have := D0.out; omega)
        have cc1 := decide_eq_true (show s.size + S1.size ≤ 9223372036854775807 by have := D0.out; omega)
        have cc2 : (9223372036854775807 < s.size + S1.size) = False := eq_false (by have := D0.out; omega)
        have HNT := Aside0.mk hnt
        have HNC := Aside0.mk hnc
        have HNO := Aside0.mk hno
        have HPL : Aside0 (ps.length ≤ 12) := ⟨by rw [HJ.out.ts_.len, HTS.out.1]; unfold trs; rw [List.length_map]; have := D0.out; omega⟩
        have p0c := eq_true p0
        have cxc := eq_true cx
        by_cases h20 : 20 < li.length
        · have h20b : decide (20 < li.length) = true := decide_eq_true h20
          have h20c : decide (20 < (li.length : Int)) = true := decide_eq_true (by omega)
          clear h20 p0 cx hx0 hC1 hnt hnc hsz hsl hlc hno hff hln hli htx hT hS HLV HUP HWH cc0 cc1 cc2
          go_wp2_with (go_at_call 23; (with_reducible refine (lives_calls _).mono ?_); rintro e w1 ⟨rfl, hb⟩; have HB1 := Aside0.mk (below_step HJ.out.bel hb); clear hb)
          go_ret
          exact ⟨rfl, HB1.out⟩
        have h20b : decide (20 < li.length) = false := decide_eq_false h20
        have h20c : decide (20 < (li.length : Int)) = false := decide_eq_false (by omega)
        clear h20 p0 cx hx0 hC1 hnt hnc hsz hsl hlc hno hff hln hli htx hT hS
        go_wp2_with (first | (go_at_call 24; (with_reducible refine (HLV.out _ HJ.out.bel).mono ?_); rintro e_ w1 ⟨Al, cpl, psl, A2, cp2, rfl, hr, hcp, hc, hcp2, hb⟩; have HR1 := Aside0.mk hr; have HCP := Aside0.mk (And.intro hcp hcp2); have HC1 := Aside0.mk hc; have HB1 := Aside0.mk hb; clear hr hcp hc hcp2 hb HLV hy0) | (go_at_call 25; (with_reducible refine (HUP.out _ _ Al cpl psl HR1.out HCP.out.1).mono ?_); rintro e_ w2 ⟨q, rfl, hp, hb⟩; have HP2 : Aside0 (Rp w2 (fun k => wr0.heap.size ≤ k) q T) := ⟨hp.mono (fun k hk => by have := HB1.out.size; omega)⟩; have HC2 := Aside0.mk (Kd.R_below HC1.out hb); have HB2 := Aside0.mk (below_step HB1.out hb); clear hp hb HR1 HC1 HB1 HUP) | ((with_reducible refine gate_builtin (b := .append) (xs := #[.tmp 45, .tmp 48]) rfl ?_); at_builtin; refine Kd.R_append kPtr (w0 := w) w.heap.size rfl (.tmp 45) (.tmp 48) 35 38 (.pointer none) 8 rfl Try.underlying35 infoP rfl (by decide) (by omega) (.slice A ps.length cp) ps q [.pointer q] (fun _ => True) (fun _ => False) rfl rfl ?aP (fun _ hk => hk.elim) (fun _ _ => trivial) (Kd.R_below HJ.out.row HB2.out) (below_step HJ.out.bel HB2.out) (below_step HJ.out.bel HB2.out).size (by have := HPL.out; omega) ?_; (case aP => exact rfl); intro v1 w4 ho hb1 hg hat; have HC4 := Aside0.mk (Kd.R_over HC2.out (Kd.R_below HJ.out.row HB2.out) (by intro q hq; rcases List.mem_cons.1 hq with rfl | hq; exact (by decide); exact absurd hq (by simp [Kd.string, Kd.scalar])) hg); obtain ⟨A5, cp5, ps5, rfl, hk⟩ := HJ.out.app HP2.out HB2.out ho hb1 hg hat; have HJ5 := Aside0.mk hk; clear ho hb1 hg hat hk HC2 HP2) | (go_at_call 22; (with_reducible refine (HWH.out _ A2 cp2 (Kd.R_reads' HC4.out).2.2 HCP.out.2).mono ?_); rintro e_ w5 ⟨rfl, hd⟩; have HJ6 := Aside0.mk (HJ5.out.later hd.below); clear hd HJ5 HC4))
        rename World => wz
        have hlen5 : ps5.length = ts.length + 1 := by rw [HJ6.out.ts_.len, List.length_append]; rfl
        have htl : ts.length = x.toNat := by rw [HTS.out.1]; unfold trs; rw [List.length_map, List.length_take]; have := HQ.out; omega
        have hxn : (wrap64 (x + 1)).toNat = x.toNat + 1 := by have := HQ.out; have := D0.out; unfold wrap64; omega
        have HREL1 : Aside0 (0 ≤ wrap64 (x + 1) ∧ wrap64 (x + 1) ≤ ls.length ∧ wrap64 (x + 1) + k1 = ls.length + 1 ∧ 1 ≤ k1) := ⟨by have := HK.out; have := HQ.out; have := D0.out; unfold wrap64; omega⟩
        have HREL2 : Aside0 (ts ++ [T] = trs (ls.take (wrap64 (x + 1)).toNat) ∧ s ++ S1 = cats (ls.take (wrap64 (x + 1)).toNat)) := ⟨by rw [hxn]; exact ⟨HNT.out.symm, HNC.out.symm⟩⟩
        cases e with
        | false =>
          have HEV : Aside0 (Evb false ls.length (ts ++ [T])) := ⟨by
            have h := HE.out
            unfold Evb at h ⊢
            rw [ev_next]
            exact ⟨(fun hc => by cases hc), fun hc => absurd (h.mpr hc.1) (by decide)⟩⟩
          clear hlen5 htl hxn
          go_quiet (fail)
          go_wp2
          go_roundg k1
          case measure => omega
          case rel => exact ⟨wrap64 (x + 1), false, s ++ S1, ts ++ [T], A5, cp5, ps5, (by first | rfl | (simp; done)), (by first | rfl | (simp; done) | (simp [*]; done)), rfl, rfl, HREL1, HEV, HREL2, ⟨HJ6.out.later (pw_below_drewN (Below.refl _ _) _)⟩⟩
        | true => exact absurd (HE0_ _ (HE.out.mp rfl)) (fun h => h)
      · have cxb : decide (x < (ls.length : Int)) = false := decide_eq_false cx
        have hxx : ls.take x.toNat = ls := List.take_of_length_le (by omega)
        have hts := HTS.out
        rw [hxx] at hts
        obtain ⟨hts, hss⟩ := hts
        have hpl : ps.length = ls.length := by rw [HJ.out.ts_.len, hts]; exact List.length_map _
        obtain ⟨rk, hcp⟩ := HJ.out.rk
        have hle := HE.out
        have HE1 := Aside0.mk hle
        unfold Evb at hle
        have htl : ts.length = ls.length := by rw [hts]; exact List.length_map _
        rw [ev_even htl] at hle
        clear p0 cx hxx HTS HK
        cases e with
        | false =>
          have HJN := Aside0.mk (join_no wr0 A ps.length cp ps ts rk.rs (by
            rw [hpl]
            by_cases q2 : ls.length < 2
            · exact .inl q2
            · by_cases q8 : 8 < ls.length
              · exact .inr (.inl q8)
              · refine .inr (.inr ?_)
                cases q : evenB ts
                · rfl
                · exact absurd (hle.mpr ⟨by omega, by omega, q⟩) (by decide)))
          clear hts hss hpl rk hcp hle htl
          go_wp2_with (first | (go_at_call 27; (with_reducible refine HJN.out.mono ?_); rintro e_ w5 ⟨rfl, hb⟩; have HB5 := Aside0.mk (below_step HJ.out.bel hb); clear hb HJN) | (go_at_call 23; (with_reducible refine (lives_calls _).mono ?_); rintro e_ w6 ⟨rfl, hb⟩; have HB6 := Aside0.mk (below_step HB5.out hb); clear hb))
          go_ret
          exact ⟨rfl, HB6.out⟩
        | true => exact absurd (HE0_ _ (HE.out.mp rfl)) (fun h => h)
  · clear hev
    go_enter Try.func6, Try.ntmps6
    go_wp2
    go_loopg [3, 4, 5, 6] (ls.length + 1) (fun kq v3 v4 v5 v6 w' => ∃ (x : Int) (e : Bool) (s : ByteArray) (ts : List Tr) (A : Option Addr) (cp : Nat) (ps : List (Option Addr)), v6 = .int .i64 x ∧ v4 = .bool e ∧ v5 = .string s ∧ v3 = .slice A ps.length cp ∧ Aside0 (0 ≤ x ∧ x ≤ ls.length ∧ x + kq = ls.length + 1 ∧ 1 ≤ kq) ∧ Aside0 (Evb e ls.length ts) ∧ Aside0 (ts = trs (ls.take x.toNat) ∧ s = cats (ls.take x.toNat)) ∧ Aside0 (Jo w w' ts A cp ps))
    case atStart => exact ⟨0, _, ⟨#[]⟩, [], none, 0, [], (by first | rfl | (simp; done)), rfl, rfl, rfl, ⟨by omega⟩, HE0, ⟨⟨rfl, rfl⟩⟩, HJ0⟩
    case round =>
      clear HJ0 HE0
      obtain ⟨x, e, s, ts, A, cp, ps, rfl, rfl, rfl, rfl, HK, HE, HTS, HJ⟩ := hrel
      rename World => wr0
      obtain ⟨k1, rfl⟩ : ∃ k1, gk = k1 + 1 := ⟨gk - 1, by have := HK.out; omega⟩
      have p0 : 0 ≤ x := HK.out.1
      by_cases cx : x < (ls.length : Int)
      · have cxb : decide (x < (ls.length : Int)) = true := decide_eq_true cx
        obtain ⟨ad0, A1, c1, q0, hx0, hC1⟩ := at_list HR0.out x p0 cx
        subst q0
        have hy0 := (HJ.out.bel.cell (World.block_lt_of_cell? w _ hx0)).trans hx0
        have HQ : Aside0 (0 ≤ x ∧ x < ls.length) := ⟨p0, cx⟩
        have hnt := trs_next ls x p0 cx
        have hnc := cats_next ls x p0 cx
        have hsz := cats_le (ls.take x.toNat)
        have hsl := List.length_take_le x.toNat ls
        rw [← HTS.out.1] at hnt
        rw [← HTS.out.2] at hnc hsz
        have hlc := cat_le (rdL ls x)
        have hno := tree_no (l := rdL ls x)
        have hff := texts_fits (rdL ls x)
        have hln := texts_len (rdL ls x)
        obtain ⟨li, hli⟩ : ∃ li, rdL ls x = li := ⟨_, rfl⟩
        rw [hli] at hy0 hC1 hnt hnc hlc hno hff hln
        obtain ⟨tx, htx⟩ : ∃ tx, texts li = tx := ⟨_, rfl⟩
        have HLV : Aside0 (∀ W, Below w.heap.size w W → Calls Try.prog 24 #[.slice A1 li.length c1] W (LeavesPost W tx)) := ⟨fun W hb => by rw [← htx]; exact leaves_calls W A1 c1 li (Kd.C_below hC1 hb)⟩
        rw [htx] at hnt hnc hlc hno hff hln
        obtain ⟨T, hT⟩ : ∃ T, tree tx = T := ⟨_, rfl⟩
        have HUP : Aside0 (∀ W ok A cp ps, Rk W ok A tx.length ps (tx.map leafT) → tx.length ≤ cp → Calls Try.prog 25 #[.slice A tx.length cp] W (UpPost W ok T)) := ⟨fun W ok A cp ps h hcp => by rw [← hT]; exact tree_up hff hln W ok A cp ps h hcp⟩
        obtain ⟨S1, hS⟩ : ∃ S, cat tx = S := ⟨_, rfl⟩
        have HWH : Aside0 (∀ W A cp, Kd.C Kd.string W A tx.length tx → tx.length ≤ cp → Calls Try.prog 22 #[.slice A tx.length cp] W fun e w' => e = .returned (.string S1) ∧ Drawn0 W w') := ⟨fun W A cp h hcp => stylusref15_Whole.calls 2000 A cp tx S1 W h hcp (by rw [← hS]; exact whole_f tx (by omega) (fun s hs => (fits_spec (hff s hs)).2.1))⟩
        rw [hS] at hnc hlc
        rw [hT] at hnt hno
        have cc0 := eq_true (show s.size + S1.size ≤ 9223372036854775807 by have := D0.out; omega)
        have cc1 := decide_eq_true (show s.size + S1.size ≤ 9223372036854775807 by have := D0.out; omega)
        have cc2 : (9223372036854775807 < s.size + S1.size) = False := eq_false (by have := D0.out; omega)
        have HNT := Aside0.mk hnt
        have HNC := Aside0.mk hnc
        have HNO := Aside0.mk hno
        have HPL : Aside0 (ps.length ≤ 12) := ⟨by rw [HJ.out.ts_.len, HTS.out.1]; unfold trs; rw [List.length_map]; have := D0.out; omega⟩
        have p0c := eq_true p0
        have cxc := eq_true cx
        by_cases h20 : 20 < li.length
        · have h20b : decide (20 < li.length) = true := decide_eq_true h20
          have h20c : decide (20 < (li.length : Int)) = true := decide_eq_true (by omega)
          clear h20 p0 cx hx0 hC1 hnt hnc hsz hsl hlc hno hff hln hli htx hT hS HLV HUP HWH cc0 cc1 cc2
          go_wp2_with (go_at_call 23; (with_reducible refine (lives_calls _).mono ?_); rintro e w1 ⟨rfl, hb⟩; have HB1 := Aside0.mk (below_step HJ.out.bel hb); clear hb)
          go_ret
          exact ⟨rfl, HB1.out⟩
        have h20b : decide (20 < li.length) = false := decide_eq_false h20
        have h20c : decide (20 < (li.length : Int)) = false := decide_eq_false (by omega)
        clear h20 p0 cx hx0 hC1 hnt hnc hsz hsl hlc hno hff hln hli htx hT hS
        go_wp2_with (first | (go_at_call 24; (with_reducible refine (HLV.out _ HJ.out.bel).mono ?_); rintro e_ w1 ⟨Al, cpl, psl, A2, cp2, rfl, hr, hcp, hc, hcp2, hb⟩; have HR1 := Aside0.mk hr; have HCP := Aside0.mk (And.intro hcp hcp2); have HC1 := Aside0.mk hc; have HB1 := Aside0.mk hb; clear hr hcp hc hcp2 hb HLV hy0) | (go_at_call 25; (with_reducible refine (HUP.out _ _ Al cpl psl HR1.out HCP.out.1).mono ?_); rintro e_ w2 ⟨q, rfl, hp, hb⟩; have HP2 : Aside0 (Rp w2 (fun k => wr0.heap.size ≤ k) q T) := ⟨hp.mono (fun k hk => by have := HB1.out.size; omega)⟩; have HC2 := Aside0.mk (Kd.R_below HC1.out hb); have HB2 := Aside0.mk (below_step HB1.out hb); clear hp hb HR1 HC1 HB1 HUP) | ((with_reducible refine gate_builtin (b := .append) (xs := #[.tmp 45, .tmp 48]) rfl ?_); at_builtin; refine Kd.R_append kPtr (w0 := w) w.heap.size rfl (.tmp 45) (.tmp 48) 35 38 (.pointer none) 8 rfl Try.underlying35 infoP rfl (by decide) (by omega) (.slice A ps.length cp) ps q [.pointer q] (fun _ => True) (fun _ => False) rfl rfl ?aP (fun _ hk => hk.elim) (fun _ _ => trivial) (Kd.R_below HJ.out.row HB2.out) (below_step HJ.out.bel HB2.out) (below_step HJ.out.bel HB2.out).size (by have := HPL.out; omega) ?_; (case aP => exact rfl); intro v1 w4 ho hb1 hg hat; have HC4 := Aside0.mk (Kd.R_over HC2.out (Kd.R_below HJ.out.row HB2.out) (by intro q hq; rcases List.mem_cons.1 hq with rfl | hq; exact (by decide); exact absurd hq (by simp [Kd.string, Kd.scalar])) hg); obtain ⟨A5, cp5, ps5, rfl, hk⟩ := HJ.out.app HP2.out HB2.out ho hb1 hg hat; have HJ5 := Aside0.mk hk; clear ho hb1 hg hat hk HC2 HP2) | (go_at_call 22; (with_reducible refine (HWH.out _ A2 cp2 (Kd.R_reads' HC4.out).2.2 HCP.out.2).mono ?_); rintro e_ w5 ⟨rfl, hd⟩; have HJ6 := Aside0.mk (HJ5.out.later hd.below); clear hd HJ5 HC4))
        rename World => wz
        have hlen5 : ps5.length = ts.length + 1 := by rw [HJ6.out.ts_.len, List.length_append]; rfl
        have htl : ts.length = x.toNat := by rw [HTS.out.1]; unfold trs; rw [List.length_map, List.length_take]; have := HQ.out; omega
        have hxn : (wrap64 (x + 1)).toNat = x.toNat + 1 := by have := HQ.out; have := D0.out; unfold wrap64; omega
        have HREL1 : Aside0 (0 ≤ wrap64 (x + 1) ∧ wrap64 (x + 1) ≤ ls.length ∧ wrap64 (x + 1) + k1 = ls.length + 1 ∧ 1 ≤ k1) := ⟨by have := HK.out; have := HQ.out; have := D0.out; unfold wrap64; omega⟩
        have HREL2 : Aside0 (ts ++ [T] = trs (ls.take (wrap64 (x + 1)).toNat) ∧ s ++ S1 = cats (ls.take (wrap64 (x + 1)).toNat)) := ⟨by rw [hxn]; exact ⟨HNT.out.symm, HNC.out.symm⟩⟩
        cases e with
        | false =>
          have HEV : Aside0 (Evb false ls.length (ts ++ [T])) := ⟨by
            have h := HE.out
            unfold Evb at h ⊢
            rw [ev_next]
            exact ⟨(fun hc => by cases hc), fun hc => absurd (h.mpr hc.1) (by decide)⟩⟩
          clear hlen5 htl hxn
          go_quiet (fail)
          go_wp2
          go_roundg k1
          case measure => omega
          case rel => exact ⟨wrap64 (x + 1), false, s ++ S1, ts ++ [T], A5, cp5, ps5, (by first | rfl | (simp; done)), (by first | rfl | (simp; done) | (simp [*]; done)), rfl, rfl, HREL1, HEV, HREL2, ⟨HJ6.out.later (pw_below_drewN (Below.refl _ _) _)⟩⟩
        | true =>
          by_cases hz : tx.length = 0
          · have z0 : decide (0 < tx.length) = false := decide_eq_false (by omega)
            have z1 : decide (0 < (tx.length : Int)) = false := decide_eq_false (by omega)
            have HEV : Aside0 (Evb false ls.length (ts ++ [T])) := ⟨by
              have h := HNO.out
              rw [decide_eq_true hz] at h
              unfold Evb
              rw [ev_next]
              exact ⟨(fun hc => by cases hc), fun hc => absurd hc.2.1 (by rw [h]; decide)⟩⟩
            clear hlen5 htl hxn hz
            go_quiet (fail)
            go_wp2
            go_roundg k1
            case measure => omega
            case rel => exact ⟨wrap64 (x + 1), false, s ++ S1, ts ++ [T], A5, cp5, ps5, (by first | rfl | (simp; done)), (by first | rfl | (simp; done) | (simp [*]; done)), rfl, rfl, HREL1, HEV, HREL2, ⟨HJ6.out.later (pw_below_drewN (Below.refl _ _) _)⟩⟩
          · have z0 : decide (0 < tx.length) = true := decide_eq_true (by omega)
            have z1 : decide (0 < (tx.length : Int)) = true := decide_eq_true (by omega)
            have hno := HNO.out
            rw [decide_eq_false hz] at hno
            obtain ⟨rk, _⟩ := HJ6.out.rk
            obtain ⟨adk, qx, e1, hcx, _, hrx⟩ := rk.rs.at_ x HQ.out.1 (by have := HQ.out; omega)
            obtain ⟨adk2, qz, e2, hcz, _, hrz⟩ := rk.rs.at_ 0 (by omega) (by omega)
            obtain rfl : adk = adk2 := by rw [e1] at e2; injection e2
            subst e1
            have eT : rdT (ts ++ [T]) x = T := by
              unfold rdT
              rw [← htl, List.getD_eq_getElem?_getD, List.getElem?_append_right (Nat.le_refl _), Nat.sub_self]; rfl
            rw [eT] at hrx
            have hcz' : wz.cell? adk = some (.pointer qz) := by
              have e : adk.add 0 = adk := by simp [Addr.add]
              rw [← e]; exact hcz
            obtain ⟨hx, hhx⟩ : ∃ h : Int, T.height = h := ⟨_, rfl⟩
            obtain ⟨h0, hh0⟩ : ∃ h : Int, (rdT (ts ++ [T]) 0).height = h := ⟨_, rfl⟩
            have HQX : Aside0 (∀ n, Calls Try.prog 26 #[.pointer qx] (wz.drewN n) fun e w'' => e = .returned (.int .i64 hx) ∧ ∃ m, w'' = wz.drewN m) := ⟨fun n => Calls.quiet_of_same (by rw [← hhx]; exact (height_calls _ qx T (hrx.drewN n)).mono fun e w' ⟨h1, h2⟩ => ⟨h1, h2.symm⟩)⟩
            have HQZ : Aside0 (∀ n, Calls Try.prog 26 #[.pointer qz] (wz.drewN n) fun e w'' => e = .returned (.int .i64 h0) ∧ ∃ m, w'' = wz.drewN m) := ⟨fun n => Calls.quiet_of_same (by rw [← hh0]; exact (height_calls _ qz _ (hrz.drewN n)).mono fun e w' ⟨h1, h2⟩ => ⟨h1, h2.symm⟩)⟩
            have i1 := eq_true (show x < (ps5.length : Int) by have := HQ.out; omega)
            have i2 := eq_true (show 0 < ps5.length by omega)
            have i3 := eq_true (show (0 : Int) < (ps5.length : Int) by omega)
            by_cases heq : hx = h0
            · have b1 : (hx == h0) = true := beq_iff_eq.mpr heq
              have HEV : Aside0 (Evb true ls.length (ts ++ [T])) := ⟨by
                have h := HE.out
                unfold Evb at h ⊢
                rw [ev_next]
                exact ⟨fun _ => ⟨h.mp rfl, hno, by rw [hhx, hh0, heq]⟩, fun _ => rfl⟩⟩
              clear hlen5 htl hxn hz hno rk hrx hrz eT hcz hhx hh0 e2 heq
              go_quiet ((go_at_call 26; first | exact HQX.out _ | exact HQZ.out _))
              go_wp2
              go_roundg k1
              case measure => omega
              case rel => exact ⟨wrap64 (x + 1), true, s ++ S1, ts ++ [T], (some adk), cp5, ps5, (by first | rfl | (simp; done)), (by first | rfl | (simp; done) | (simp [*]; done)), rfl, rfl, HREL1, HEV, HREL2, ⟨HJ6.out.later (pw_below_drewN (Below.refl _ _) _)⟩⟩
            · have b1 : (hx == h0) = false := beq_eq_false_iff_ne.mpr heq
              have HEV : Aside0 (Evb false ls.length (ts ++ [T])) := ⟨by
                unfold Evb
                rw [ev_next]
                exact ⟨(fun hc => by cases hc), fun hc => absurd (by rw [← hhx, ← hh0]; exact hc.2.2) heq⟩⟩
              clear hlen5 htl hxn hz hno rk hrx hrz eT hcz hhx hh0 e2 heq
              go_quiet ((go_at_call 26; first | exact HQX.out _ | exact HQZ.out _))
              go_wp2
              go_roundg k1
              case measure => omega
              case rel => exact ⟨wrap64 (x + 1), false, s ++ S1, ts ++ [T], (some adk), cp5, ps5, (by first | rfl | (simp; done)), (by first | rfl | (simp; done) | (simp [*]; done)), rfl, rfl, HREL1, HEV, HREL2, ⟨HJ6.out.later (pw_below_drewN (Below.refl _ _) _)⟩⟩
      · have cxb : decide (x < (ls.length : Int)) = false := decide_eq_false cx
        have hxx : ls.take x.toNat = ls := List.take_of_length_le (by omega)
        have hts := HTS.out
        rw [hxx] at hts
        obtain ⟨hts, hss⟩ := hts
        have hpl : ps.length = ls.length := by rw [HJ.out.ts_.len, hts]; exact List.length_map _
        obtain ⟨rk, hcp⟩ := HJ.out.rk
        have hle := HE.out
        unfold Evb at hle
        have htl : ts.length = ls.length := by rw [hts]; exact List.length_map _
        rw [ev_even htl] at hle
        clear p0 cx hxx HTS HK HE
        cases e with
        | false =>
          have HJN := Aside0.mk (join_no wr0 A ps.length cp ps ts rk.rs (by
            rw [hpl]
            by_cases q2 : ls.length < 2
            · exact .inl q2
            · by_cases q8 : 8 < ls.length
              · exact .inr (.inl q8)
              · refine .inr (.inr ?_)
                cases q : evenB ts
                · rfl
                · exact absurd (hle.mpr ⟨by omega, by omega, q⟩) (by decide)))
          clear hts hss hpl rk hcp hle htl
          go_wp2_with (first | (go_at_call 27; (with_reducible refine HJN.out.mono ?_); rintro e_ w5 ⟨rfl, hb⟩; have HB5 := Aside0.mk (below_step HJ.out.bel hb); clear hb HJN) | (go_at_call 23; (with_reducible refine (lives_calls _).mono ?_); rintro e_ w6 ⟨rfl, hb⟩; have HB6 := Aside0.mk (below_step HB5.out hb); clear hb))
          go_ret
          exact ⟨rfl, HB6.out⟩
        | true =>
          obtain ⟨h2, h8, hev2⟩ := hle.mp rfl
          have hall : ∀ t ∈ trs ls, t.none = false ∧ t.h0 = (rdT (trs ls) 0).h0 := by
            rw [← hts]
            intro t ht
            have h1 := (List.all_eq_true.mp hev2) _ ht
            unfold evenAt at h1
            rw [Bool.and_eq_true] at h1
            exact ⟨by simpa using h1.1, by simpa using h1.2⟩
          obtain ⟨hlv, hfine, hd⟩ := trs_lv (ls := ls) (by omega) hall (by omega)
          rw [← hts] at hlv hfine hd hall
          obtain ⟨d, hdd⟩ : ∃ d, (rdT ts 0).h0 = d := ⟨_, rfl⟩
          rw [hdd] at hlv hd
          have hjt := joinT_e hlv (by omega)
          have hft : FineT (joinT ts) := .join ts d (by omega) (by omega) hlv (by omega) hfine
          have hch : chunks (joinT ts) = (ls.map texts).flatten := by rw [joinT_chunks (d := d) (by omega), hts, trs_chunks]
          have hcl : (chunks (joinT ts)).length ≤ 1000000 := by
            rw [hch]
            have hf : ∀ l : List (List ByteArray), ((l.map texts).flatten).length ≤ 200 * l.length := by
              intro l
              induction l with
              | nil => simp
              | cons a b ih => rw [List.map_cons, List.flatten_cons, List.length_append, List.length_cons]; have := texts_len a; omega
            have := hf ls; have := D0.out; omega
          have hcs : cat (chunks (joinT ts)) = s := by rw [hch, hss]; rfl
          have hs1 := cats_le ls
          rw [← hss] at hs1
          have h0m := rdT_mem ts 0 (Int.le_refl 0) (by omega)
          have hh0 : (rdT ts 0).height = d := by unfold Tr.height; rw [(hall _ h0m).1, hdd]; rfl
          have hhT : (joinT ts).height = d + 1 := by unfold Tr.height; rw [hjt.1, hjt.2.1]; rfl
          obtain ⟨T, hT⟩ : ∃ T, joinT ts = T := ⟨_, rfl⟩
          obtain ⟨t0, ht0⟩ : ∃ t0, rdT ts 0 = t0 := ⟨_, rfl⟩
          obtain ⟨H1, hH1⟩ : ∃ x : Int, d + 1 = x := ⟨_, rfl⟩
          have hTk : T.kids = ts := by rw [← hT]; rfl
          have hJ := join_calls wr0 _ A ps.length cp ps ts rk (by omega) (by omega) hev2 (hlv.sm (by omega))
          rw [hT] at hft hcl hcs hhT hJ
          rw [ht0] at hh0
          rw [hH1] at hhT
          have hd0 := hlv.d0
          have hw1 : wrap64 (d + 1) = H1 := by rw [← hH1]; unfold wrap64; omega
          have hw2 : IntKind.i64.wrap (d + 1) = H1 := (i64_w _).trans hw1
          have HTT : Aside0 (∀ W p, Rd W p T → Calls Try.prog 29 #[.pointer p] W fun e w' => e = .returned (.string s) ∧ Below W.heap.size W w') := ⟨fun W p h => by have := text_calls W p T h hcl (by rw [hcs]; have := D0.out; omega); rw [hcs] at this; exact this⟩
          have HRT : Aside0 (∀ W p, Rd W p T → Calls Try.prog 30 #[.pointer p] W fun e w' => e = .returned (.bool true) ∧ Below W.heap.size W w') := ⟨fun W p h => right_calls hft W p h⟩
          have HHT : Aside0 (∀ W p, Rd W p T → Calls Try.prog 26 #[.pointer p] W fun e w' => e = .returned (.int .i64 H1) ∧ W = w') := ⟨fun W p h => by have := height_calls W p T h; rw [hhT] at this; exact this⟩
          have HH0 : Aside0 (∀ W p, Rd W p t0 → Calls Try.prog 26 #[.pointer p] W fun e w' => e = .returned (.int .i64 d) ∧ W = w') := ⟨fun W p h => by have := height_calls W p t0 h; rw [hh0] at this; exact this⟩
          have HKI : Aside0 (∀ W p, Rd W p T → Calls Try.prog 28 #[.pointer p] W (Kids2 W W ts)) := ⟨fun W p h => by have := kids2_calls W W p T h (Below.refl _ _) (fine_none hft) (by rw [hTk]; omega) (by rw [hTk]; omega); rw [hTk] at this; exact this⟩
          have HJC := Aside0.mk hJ
          have HTY : Aside0 (∀ y : Int, 0 ≤ y → y < ts.length → ∃ (c_ : ByteArray) (h_ : Int), (∀ W p, Rd W p (rdT ts y) → Calls Try.prog 29 #[.pointer p] W fun e w' => e = .returned (.string c_) ∧ Below W.heap.size W w') ∧ (∀ W p, Rd W p (rdT ts y) → Calls Try.prog 26 #[.pointer p] W fun e w' => e = .returned (.int .i64 h_) ∧ W = w')) := ⟨fun y y0 y1 => by
            have hm := rdT_mem ts y y0 y1
            rw [hts] at hm
            obtain ⟨l, _, hl⟩ := List.mem_map.1 hm
            rw [← hts] at hl
            refine ⟨cat (texts l), (rdT ts y).height, fun W p h => ?_, fun W p h => height_calls W p _ h⟩
            have hc := tree_chunks (texts_fits l) (texts_len l)
            rw [hl] at hc
            have := text_calls W p (rdT ts y) h (by rw [hc]; have := texts_len l; omega) (by rw [hc]; have := cat_le l; omega)
            rw [hc] at this; exact this⟩
          have HTL : Aside0 (ts.length = ls.length ∧ ps.length = ls.length ∧ 2 ≤ ls.length ∧ ls.length ≤ 8 ∧ rdT ts 0 = t0) := ⟨htl, hpl, h2, h8, ht0⟩
          have HRK := Aside0.mk rk
          rw [hpl]
          rw [hpl] at hcp HJC HRK
          clear hts hss hpl rk hcp hle htl h2 h8 hev2 hall hlv hfine hd hdd hjt hft hch hcl hcs hs1 h0m hh0 hhT hT ht0 hH1 hTk hJ hd0
          go_wp2_with (first | (go_at_call 27; (with_reducible refine HJC.out.mono ?_); rintro e_ w5 ⟨aT, rfl, hp, hb⟩; have HPT : Aside0 (Rd w5 (some ⟨aT, 0, none⟩) T) := ⟨hp.rd⟩; have HRS := Aside0.mk (HRK.out.rs.below hb); have HB5 := Aside0.mk (below_step HJ.out.bel hb); clear hb hp HJC HRK) | (go_at_call 28; (with_reducible refine (HKI.out _ _ HPT.out).mono ?_); rintro e_ w6 ⟨Ak, cpk, psk, rfl, hcpk, hck, hrk, hb⟩; rw [HTL.out.1] at hck hcpk ⊢; have HK6 : Aside0 (Rs w6 Ak ls.length psk ts) := ⟨⟨hck, HTL.out.1, fun j p t h1 h2 => (hrk j p t h1 h2).below hb⟩⟩; have HR6 := Aside0.mk (HRS.out.below hb); have HP6 := Aside0.mk (HPT.out.below hb); have HBW := Aside0.mk (below_step HB5.out hb); clear hck hcpk hrk hb HPT HRS HB5 HKI))
          rename World => wz
          obtain ⟨ad3, q0, e1, hc0, _, hr0⟩ := HR6.out.at_ 0 (by omega) (by have := HTL.out; omega)
          rw [HTL.out.2.2.2.2] at hr0
          subst e1
          have x0 : wz.cell? ad3 = some (.pointer q0) := by
            have e : ad3.add 0 = ad3 := by simp [Addr.add]
            rw [← e]; exact hc0
          obtain ⟨pT, hpT⟩ : ∃ p : Option Addr, p = some ⟨aT, 0, none⟩ := ⟨_, rfl⟩
          have HRD : Aside0 (∀ W', Below wz.heap.size wz W' → Rd W' (some ⟨aT, 0, none⟩) T ∧ Rd W' q0 t0) := ⟨fun W' hb => ⟨HP6.out.below hb, hr0.below hb⟩⟩
          have i2 := eq_true (show 0 < ls.length by have := HTL.out; omega)
          have i3 := eq_true (show (0 : Int) < (ls.length : Int) by have := HTL.out; omega)
          clear hr0 hc0 hpT
          refine start_ (n := 30) (S := fun w' => w'.cell? ad3 = some (.pointer q0)) (ds := []) #[false, false, false, false, false, false, false, false, false, false, false, false, false, false, false, false, false, false, false, false, false, false, false, false, false, false, false, false, false, false] (by kernel_rfl) rfl rfl (x0) (fun hHeld => ?_)
          refine pure_ (i := 0) (N := some 83) (v := ?_) (a' := ?_) #[true, false, false, false, false, false, false, false, false, false, false, false, false, false, false, false, false, false, false, false, false, false, false, false, false, false, false, false, false, false] rfl rfl (by kernel_rfl) (fun _ _ _ h => h) (Or.inl ⟨by rfl, ?_⟩) ?_ ?_
          rotate_left
          · intro w'
            go_simp
            with_reducible rfl
          rotate_left
          · simp only [Act.put, List.setIfInBounds_toArray, List.set_cons_zero, List.set_cons_succ, i64_w, i32_w]
            rfl
          refine pure_ (i := 1) (N := some 84) (v := ?_) (a' := ?_) #[true, true, false, false, false, false, false, false, false, false, false, false, false, false, false, false, false, false, false, false, false, false, false, false, false, false, false, false, false, false] rfl rfl (by kernel_rfl) (fun _ _ _ h => h) (Or.inl ⟨by rfl, ?_⟩) ?_ ?_
          rotate_left
          · intro w'
            go_simp
            with_reducible rfl
          rotate_left
          · simp only [Act.put, List.setIfInBounds_toArray, List.set_cons_zero, List.set_cons_succ, i64_w, i32_w]
            rfl
          refine pure_ (i := 2) (N := some 85) (v := ?_) (a' := ?_) #[true, true, true, false, false, false, false, false, false, false, false, false, false, false, false, false, false, false, false, false, false, false, false, false, false, false, false, false, false, false] rfl rfl (by kernel_rfl) (fun _ _ _ h => h) (Or.inl ⟨by rfl, ?_⟩) ?_ ?_
          rotate_left
          · intro w'
            go_simp
            with_reducible rfl
          rotate_left
          · simp only [Act.put, List.setIfInBounds_toArray, List.set_cons_zero, List.set_cons_succ, i64_w, i32_w]
            rfl
          refine pure_ (i := 3) (N := some 86) (v := ?_) (a' := ?_) #[true, true, true, true, false, false, false, false, false, false, false, false, false, false, false, false, false, false, false, false, false, false, false, false, false, false, false, false, false, false] rfl rfl (by kernel_rfl) (fun _ _ _ h => h) (Or.inl ⟨by rfl, ?_⟩) ?_ ?_
          rotate_left
          · intro w'
            go_simp
            with_reducible rfl
          rotate_left
          · simp only [Act.put, List.setIfInBounds_toArray, List.set_cons_zero, List.set_cons_succ, i64_w, i32_w]
            rfl
          refine pure_ (i := 4) (N := some 87) (v := ?_) (a' := ?_) #[true, true, true, true, true, false, false, false, false, false, false, false, false, false, false, false, false, false, false, false, false, false, false, false, false, false, false, false, false, false] rfl rfl (by kernel_rfl) (fun _ _ _ h => h) (Or.inl ⟨by rfl, ?_⟩) ?_ ?_
          rotate_left
          · intro w'
            go_simp
            with_reducible rfl
          rotate_left
          · simp only [Act.put, List.setIfInBounds_toArray, List.set_cons_zero, List.set_cons_succ, i64_w, i32_w]
            rfl
          refine pure_ (i := 5) (N := some 88) (v := ?_) (a' := ?_) #[true, true, true, true, true, true, false, false, false, false, false, false, false, false, false, false, false, false, false, false, false, false, false, false, false, false, false, false, false, false] rfl rfl (by kernel_rfl) (fun _ _ _ h => h) (Or.inl ⟨by rfl, ?_⟩) ?_ ?_
          rotate_left
          · intro w'
            go_simp
            with_reducible rfl
          rotate_left
          · simp only [Act.put, List.setIfInBounds_toArray, List.set_cons_zero, List.set_cons_succ, i64_w, i32_w]
            rfl
          refine pure_ (i := 6) (N := some 89) (v := ?_) (a' := ?_) #[true, true, true, true, true, true, true, false, false, false, false, false, false, false, false, false, false, false, false, false, false, false, false, false, false, false, false, false, false, false] rfl rfl (by kernel_rfl) (fun _ _ _ h => h) (Or.inl ⟨by rfl, ?_⟩) ?_ ?_
          rotate_left
          · intro w'
            go_simp
            with_reducible rfl
          rotate_left
          · simp only [Act.put, List.setIfInBounds_toArray, List.set_cons_zero, List.set_cons_succ, i64_w, i32_w]
            rfl
          refine pure_ (i := 7) (N := some 90) (v := ?_) (a' := ?_) #[true, true, true, true, true, true, true, true, false, false, false, false, false, false, false, false, false, false, false, false, false, false, false, false, false, false, false, false, false, false] rfl rfl (by kernel_rfl) (fun _ _ _ h => h) (Or.inl ⟨by rfl, ?_⟩) ?_ ?_
          rotate_left
          · intro w'
            go_simp
            with_reducible rfl
          rotate_left
          · simp only [Act.put, List.setIfInBounds_toArray, List.set_cons_zero, List.set_cons_succ, i64_w, i32_w]
            rfl
          refine pure_ (i := 8) (N := some 91) (v := ?_) (a' := ?_) #[true, true, true, true, true, true, true, true, true, false, false, false, false, false, false, false, false, false, false, false, false, false, false, false, false, false, false, false, false, false] rfl rfl (by kernel_rfl) (fun _ _ _ h => h) (Or.inl ⟨by rfl, ?_⟩) ?_ ?_
          rotate_left
          · intro w'
            go_simp
            with_reducible rfl
          rotate_left
          · simp only [Act.put, List.setIfInBounds_toArray, List.set_cons_zero, List.set_cons_succ, i64_w, i32_w]
            rfl
          refine pure_ (i := 9) (N := some 92) (v := ?_) (a' := ?_) #[true, true, true, true, true, true, true, true, true, true, false, false, false, false, false, false, false, false, false, false, false, false, false, false, false, false, false, false, false, false] rfl rfl (by kernel_rfl) (fun _ _ _ h => h) (Or.inl ⟨by rfl, ?_⟩) ?_ ?_
          rotate_left
          · intro w'
            go_simp
            with_reducible rfl
          rotate_left
          · simp only [Act.put, List.setIfInBounds_toArray, List.set_cons_zero, List.set_cons_succ, i64_w, i32_w]
            rfl
          refine pure_ (i := 10) (N := some 93) (v := ?_) (a' := ?_) #[true, true, true, true, true, true, true, true, true, true, true, false, false, false, false, false, false, false, false, false, false, false, false, false, false, false, false, false, false, false] rfl rfl (by kernel_rfl) (fun _ _ _ h => h) (Or.inl ⟨by rfl, ?_⟩) ?_ ?_
          rotate_left
          · intro w'
            go_simp
            with_reducible rfl
          rotate_left
          · simp only [Act.put, List.setIfInBounds_toArray, List.set_cons_zero, List.set_cons_succ, i64_w, i32_w]
            rfl
          refine pure_ (i := 12) (N := some 95) (v := ?_) (a' := ?_) #[true, true, true, true, true, true, true, true, true, true, true, false, true, false, false, false, false, false, false, false, false, false, false, false, false, false, false, false, false, false] rfl rfl (by kernel_rfl) (fun _ _ _ h => h) (Or.inl ⟨by rfl, ?_⟩) ?_ ?_
          rotate_left
          · intro w'
            go_simp
            with_reducible rfl
          rotate_left
          · simp only [Act.put, List.setIfInBounds_toArray, List.set_cons_zero, List.set_cons_succ, i64_w, i32_w]
            rfl
          refine one_ (i := 11) (N := some 94) #[true, true, true, true, true, true, true, true, true, true, true, true, true, false, false, false, false, false, false, false, false, false, false, false, false, false, false, false, false, false] rfl rfl (by kernel_rfl) (by decide) (fun K hK => ?_)
          refine goes_ Try.func29 (by kernel_rfl) rfl #[.pointer (some ⟨aT, 0, none⟩)] (by rfl) rfl rfl (by simp only [List.map_toArray, List.map_cons, List.map_nil]; rfl) ?_
          with_reducible refine (HTT.out _ _ (HRD.out _ (below_drew1 (Below.refl _ _))).1).mono ?_
          rintro e w5 ⟨rfl, hb5⟩
          refine ⟨_, rfl, ?_⟩
          have HB5 := Aside0.mk (below_step (below_drew1 (Below.refl _ _)) hb5)
          refine hK.out _ _ ((pw_cell_below hb5 hHeld)) (fun hHeld => ?_)
          clear hK K
          refine norm_ (a' := ?_) ?_ ?_
          rotate_left
          · show Act.put _ (some 94) _ = _
            simp only [Act.put, List.setIfInBounds_toArray, List.set_cons_zero, List.set_cons_succ, i64_w, i32_w]
            rfl
          refine pure_ (i := 13) (N := some 96) (v := ?_) (a' := ?_) #[true, true, true, true, true, true, true, true, true, true, true, true, true, true, false, false, false, false, false, false, false, false, false, false, false, false, false, false, false, false] rfl rfl (by kernel_rfl) (fun _ _ _ h => h) (Or.inl ⟨by rfl, ?_⟩) ?_ ?_
          rotate_left
          · intro w'
            go_simp
            with_reducible rfl
          rotate_left
          · simp only [Act.put, List.setIfInBounds_toArray, List.set_cons_zero, List.set_cons_succ, i64_w, i32_w]
            rfl
          refine pure_ (i := 14) (N := some 97) (v := ?_) (a' := ?_) #[true, true, true, true, true, true, true, true, true, true, true, true, true, true, true, false, false, false, false, false, false, false, false, false, false, false, false, false, false, false] rfl rfl (by kernel_rfl) (fun _ _ _ h => h) (Or.inl ⟨by rfl, ?_⟩) ?_ ?_
          rotate_left
          · intro w'
            go_simp
            with_reducible rfl
          rotate_left
          · simp only [Act.put, List.setIfInBounds_toArray, List.set_cons_zero, List.set_cons_succ, i64_w, i32_w]
            rfl
          refine pure_ (i := 15) (N := some 98) (v := ?_) (a' := ?_) #[true, true, true, true, true, true, true, true, true, true, true, true, true, true, true, true, false, false, false, false, false, false, false, false, false, false, false, false, false, false] rfl rfl (by kernel_rfl) (fun _ _ _ h => h) (Or.inl ⟨by rfl, ?_⟩) ?_ ?_
          rotate_left
          · intro w'
            go_simp
            with_reducible rfl
          rotate_left
          · simp only [Act.put, List.setIfInBounds_toArray, List.set_cons_zero, List.set_cons_succ, i64_w, i32_w]
            rfl
          refine pure_ (i := 16) (N := some 99) (v := ?_) (a' := ?_) #[true, true, true, true, true, true, true, true, true, true, true, true, true, true, true, true, true, false, false, false, false, false, false, false, false, false, false, false, false, false] rfl rfl (by kernel_rfl) (fun _ _ _ h => h) (Or.inl ⟨by rfl, ?_⟩) ?_ ?_
          rotate_left
          · intro w'
            go_simp
            with_reducible rfl
          rotate_left
          · simp only [Act.put, List.setIfInBounds_toArray, List.set_cons_zero, List.set_cons_succ, i64_w, i32_w]
            rfl
          refine one_ (i := 17) (N := some 100) #[true, true, true, true, true, true, true, true, true, true, true, true, true, true, true, true, true, true, false, false, false, false, false, false, false, false, false, false, false, false] rfl rfl (by kernel_rfl) (by decide) (fun K hK => ?_)
          refine goes_ Try.func30 (by kernel_rfl) rfl #[.pointer (some ⟨aT, 0, none⟩)] (by rfl) rfl rfl (by simp only [List.map_toArray, List.map_cons, List.map_nil]; rfl) ?_
          with_reducible refine (HRT.out _ _ (HRD.out _ HB5.out).1).mono ?_
          rintro e w6 ⟨rfl, hb6⟩
          refine ⟨_, rfl, ?_⟩
          have HB6 := Aside0.mk (below_step HB5.out hb6)
          refine hK.out _ _ ((pw_cell_below hb6 hHeld)) (fun hHeld => ?_)
          clear hK K
          refine norm_ (a' := ?_) ?_ ?_
          rotate_left
          · show Act.put _ (some 100) _ = _
            simp only [Act.put, List.setIfInBounds_toArray, List.set_cons_zero, List.set_cons_succ, i64_w, i32_w]
            rfl
          refine pure_ (i := 18) (N := some 101) (v := ?_) (a' := ?_) #[true, true, true, true, true, true, true, true, true, true, true, true, true, true, true, true, true, true, true, false, false, false, false, false, false, false, false, false, false, false] rfl rfl (by kernel_rfl) (fun _ _ _ h => h) (Or.inl ⟨by rfl, ?_⟩) ?_ ?_
          rotate_left
          · intro w'
            go_simp
            with_reducible rfl
          rotate_left
          · simp only [Act.put, List.setIfInBounds_toArray, List.set_cons_zero, List.set_cons_succ, i64_w, i32_w]
            rfl
          refine pure_ (i := 19) (N := some 102) (v := ?_) (a' := ?_) #[true, true, true, true, true, true, true, true, true, true, true, true, true, true, true, true, true, true, true, true, false, false, false, false, false, false, false, false, false, false] rfl rfl (by kernel_rfl) (fun _ _ _ h => h) (Or.inl ⟨by rfl, ?_⟩) ?_ ?_
          rotate_left
          · intro w'
            go_simp
            with_reducible rfl
          rotate_left
          · simp only [Act.put, List.setIfInBounds_toArray, List.set_cons_zero, List.set_cons_succ, i64_w, i32_w]
            rfl
          refine pure_ (i := 20) (N := some 103) (v := ?_) (a' := ?_) #[true, true, true, true, true, true, true, true, true, true, true, true, true, true, true, true, true, true, true, true, true, false, false, false, false, false, false, false, false, false] rfl rfl (by kernel_rfl) (fun _ _ _ h => h) (Or.inl ⟨by rfl, ?_⟩) ?_ ?_
          rotate_left
          · intro w'
            go_simp
            with_reducible rfl
          rotate_left
          · simp only [Act.put, List.setIfInBounds_toArray, List.set_cons_zero, List.set_cons_succ, i64_w, i32_w]
            rfl
          refine pure_ (i := 21) (N := some 104) (v := ?_) (a' := ?_) #[true, true, true, true, true, true, true, true, true, true, true, true, true, true, true, true, true, true, true, true, true, true, false, false, false, false, false, false, false, false] rfl rfl (by kernel_rfl) (fun _ _ _ h => h) (Or.inl ⟨by rfl, ?_⟩) ?_ ?_
          rotate_left
          · intro w'
            go_simp
            with_reducible rfl
          rotate_left
          · simp only [Act.put, List.setIfInBounds_toArray, List.set_cons_zero, List.set_cons_succ, i64_w, i32_w]
            rfl
          refine pure_ (i := 23) (N := some 106) (v := ?_) (a' := ?_) #[true, true, true, true, true, true, true, true, true, true, true, true, true, true, true, true, true, true, true, true, true, true, false, true, false, false, false, false, false, false] rfl rfl (by kernel_rfl) (fun _ _ _ h => h) (Or.inl ⟨by rfl, ?_⟩) ?_ ?_
          rotate_left
          · intro w'
            go_simp
            with_reducible rfl
          rotate_left
          · simp only [Act.put, List.setIfInBounds_toArray, List.set_cons_zero, List.set_cons_succ, i64_w, i32_w]
            rfl
          refine pure_ (i := 24) (N := some 107) (v := ?_) (a' := ?_) #[true, true, true, true, true, true, true, true, true, true, true, true, true, true, true, true, true, true, true, true, true, true, false, true, true, false, false, false, false, false] rfl rfl (by kernel_rfl) (fun _ _ _ h => h) (Or.inl ⟨by rfl, ?_⟩) ?_ ?_
          rotate_left
          · intro w'
            go_simp
            with_reducible rfl
          rotate_left
          · simp only [Act.put, List.setIfInBounds_toArray, List.set_cons_zero, List.set_cons_succ, i64_w, i32_w]
            rfl
          refine take_ (i := 25) (N := some 108) (v := ?_) (a' := ?_) #[true, true, true, true, true, true, true, true, true, true, true, true, true, true, true, true, true, true, true, true, true, true, false, true, true, true, false, false, false, false] rfl rfl (by kernel_rfl) (fun _ _ _ h => h) (Or.inl ⟨by rfl, ?_⟩) hHeld ?_ ?_
          rotate_left
          · intro w' s0
            go_simp
            with_reducible rfl
          rotate_left
          · simp only [Act.put, List.setIfInBounds_toArray, List.set_cons_zero, List.set_cons_succ, i64_w, i32_w]
            rfl
          refine one_ (i := 22) (N := some 105) #[true, true, true, true, true, true, true, true, true, true, true, true, true, true, true, true, true, true, true, true, true, true, true, true, true, true, false, false, false, false] rfl rfl (by kernel_rfl) (by decide) (fun K hK => ?_)
          refine goes_ Try.func26 (by kernel_rfl) rfl #[.pointer (some ⟨aT, 0, none⟩)] (by rfl) rfl rfl (by simp only [List.map_toArray, List.map_cons, List.map_nil]; rfl) ?_
          with_reducible refine (HHT.out _ _ (HRD.out _ HB6.out).1).mono ?_
          rintro e w7 ⟨rfl, rfl⟩
          refine ⟨_, rfl, ?_⟩
          refine hK.out _ _ (hHeld) (fun hHeld => ?_)
          clear hK K
          refine norm_ (a' := ?_) ?_ ?_
          rotate_left
          · show Act.put _ (some 105) _ = _
            simp only [Act.put, List.setIfInBounds_toArray, List.set_cons_zero, List.set_cons_succ, i64_w, i32_w]
            rfl
          refine one_ (i := 26) (N := some 109) #[true, true, true, true, true, true, true, true, true, true, true, true, true, true, true, true, true, true, true, true, true, true, true, true, true, true, true, false, false, false] rfl rfl (by kernel_rfl) (by decide) (fun K hK => ?_)
          refine goes_ Try.func26 (by kernel_rfl) rfl #[.pointer q0] (by rfl) rfl rfl (by simp only [List.map_toArray, List.map_cons, List.map_nil]; rfl) ?_
          with_reducible refine (HH0.out _ _ (HRD.out _ HB6.out).2).mono ?_
          rintro e w8 ⟨rfl, rfl⟩
          refine ⟨_, rfl, ?_⟩
          refine hK.out _ _ (hHeld) (fun hHeld => ?_)
          clear hK K
          refine norm_ (a' := ?_) ?_ ?_
          rotate_left
          · show Act.put _ (some 109) _ = _
            simp only [Act.put, List.setIfInBounds_toArray, List.set_cons_zero, List.set_cons_succ, i64_w, i32_w]
            rfl
          refine pure_ (i := 27) (N := some 110) (v := ?_) (a' := ?_) #[true, true, true, true, true, true, true, true, true, true, true, true, true, true, true, true, true, true, true, true, true, true, true, true, true, true, true, true, false, false] rfl rfl (by kernel_rfl) (fun _ _ _ h => h) (Or.inl ⟨by rfl, ?_⟩) ?_ ?_
          rotate_left
          · intro w'
            go_simp
            with_reducible rfl
          rotate_left
          · simp only [Act.put, List.setIfInBounds_toArray, List.set_cons_zero, List.set_cons_succ, i64_w, i32_w]
            rfl
          refine pure_ (i := 28) (N := some 111) (v := ?_) (a' := ?_) #[true, true, true, true, true, true, true, true, true, true, true, true, true, true, true, true, true, true, true, true, true, true, true, true, true, true, true, true, true, false] rfl rfl (by kernel_rfl) (fun _ _ _ h => h) (Or.inl ⟨by rfl, ?_⟩) ?_ ?_
          rotate_left
          · intro w'
            go_simp
            with_reducible rfl
          rotate_left
          · simp only [Act.put, List.setIfInBounds_toArray, List.set_cons_zero, List.set_cons_succ, i64_w, i32_w]
            rfl
          refine pure_ (i := 29) (N := some 112) (v := ?_) (a' := ?_) #[true, true, true, true, true, true, true, true, true, true, true, true, true, true, true, true, true, true, true, true, true, true, true, true, true, true, true, true, true, true] rfl rfl (by kernel_rfl) (fun _ _ _ h => h) (Or.inl ⟨by rfl, ?_⟩) ?_ ?_
          rotate_left
          · intro w'
            go_simp
            with_reducible rfl
          rotate_left
          · simp only [Act.put, List.setIfInBounds_toArray, List.set_cons_zero, List.set_cons_succ, i64_w, i32_w]
            rfl
          refine done_ (by kernel_rfl) ?_
          go_wp2
          rename World => wy
          go_loopg [11] (ls.length + 1) (fun kq v11 w' => ∃ y : Int, v11 = .int .i64 y ∧ Aside0 (0 ≤ y ∧ y + kq = ls.length + 1 ∧ 1 ≤ kq) ∧ Aside0 (Below wz.heap.size wz w'))
          case atStart => exact ⟨0, (by first | rfl | (simp; done)), ⟨by omega⟩, HB6⟩
          case round =>
            obtain ⟨y, rfl, HY, HBY⟩ := hrel
            rename World => wr1
            obtain ⟨k2, rfl⟩ : ∃ k2, gk = k2 + 1 := ⟨gk - 1, by have := HY.out; omega⟩
            have y0 : 0 ≤ y := HY.out.1
            by_cases cy : y < (ls.length : Int)
            · have cyb : decide (y < (ls.length : Int)) = true := decide_eq_true cy
              obtain ⟨adk, qk, f1, x1, _, hr1⟩ := HK6.out.at_ y y0 cy
              obtain ⟨ad4, q3, f2, x2, _, hr2⟩ := HR6.out.at_ y y0 cy
              obtain rfl : ad3 = ad4 := by injection f2
              subst f1
              obtain ⟨c_, h_, ht1, ht2⟩ := HTY.out y y0 (by have := HTL.out; omega)
              have HTX := Aside0.mk ht1
              have HHX := Aside0.mk ht2
              replace x1 := pw_cell_below HBY.out x1
              replace x2 := pw_cell_below HBY.out x2
              have HRD2 : Aside0 (∀ W', Below wr1.heap.size wr1 W' → Rd W' qk (rdT ts y) ∧ Rd W' q3 (rdT ts y)) := ⟨fun W' hb => ⟨(hr1.below HBY.out).below hb, (hr2.below HBY.out).below hb⟩⟩
              have HQ : Aside0 (0 ≤ y ∧ y < ls.length) := ⟨y0, cy⟩
              have y0c := eq_true y0
              have cyc := eq_true cy
              clear y0 cy hr1 hr2 f2 ht1 ht2 HB5 HB6
              go_wp2
              refine start_ (n := 24) (S := fun w' => w'.cell? (adk.add y.toNat) = some (.pointer qk) ∧ w'.cell? (ad3.add y.toNat) = some (.pointer q3)) (ds := []) #[false, false, false, false, false, false, false, false, false, false, false, false, false, false, false, false, false, false, false, false, false, false, false, false] (by kernel_rfl) rfl rfl ⟨x1, x2⟩ (fun hHeld => ?_)
              refine pure_ (i := 0) (N := some 119) (v := ?_) (a' := ?_) #[true, false, false, false, false, false, false, false, false, false, false, false, false, false, false, false, false, false, false, false, false, false, false, false] rfl rfl (by kernel_rfl) (fun _ _ _ h => h) (Or.inl ⟨by rfl, ?_⟩) ?_ ?_
              rotate_left
              · intro w'
                go_simp
                with_reducible rfl
              rotate_left
              · simp only [Act.put, List.setIfInBounds_toArray, List.set_cons_zero, List.set_cons_succ, i64_w, i32_w]
                rfl
              refine pure_ (i := 1) (N := some 120) (v := ?_) (a' := ?_) #[true, true, false, false, false, false, false, false, false, false, false, false, false, false, false, false, false, false, false, false, false, false, false, false] rfl rfl (by kernel_rfl) (fun _ _ _ h => h) (Or.inl ⟨by rfl, ?_⟩) ?_ ?_
              rotate_left
              · intro w'
                go_simp
                with_reducible rfl
              rotate_left
              · simp only [Act.put, List.setIfInBounds_toArray, List.set_cons_zero, List.set_cons_succ, i64_w, i32_w]
                rfl
              refine pure_ (i := 2) (N := some 121) (v := ?_) (a' := ?_) #[true, true, true, false, false, false, false, false, false, false, false, false, false, false, false, false, false, false, false, false, false, false, false, false] rfl rfl (by kernel_rfl) (fun _ _ _ h => h) (Or.inl ⟨by rfl, ?_⟩) ?_ ?_
              rotate_left
              · intro w'
                go_simp
                with_reducible rfl
              rotate_left
              · simp only [Act.put, List.setIfInBounds_toArray, List.set_cons_zero, List.set_cons_succ, i64_w, i32_w]
                rfl
              refine pure_ (i := 5) (N := some 124) (v := ?_) (a' := ?_) #[true, true, true, false, false, true, false, false, false, false, false, false, false, false, false, false, false, false, false, false, false, false, false, false] rfl rfl (by kernel_rfl) (fun _ _ _ h => h) (Or.inl ⟨by rfl, ?_⟩) ?_ ?_
              rotate_left
              · intro w'
                go_simp
                with_reducible rfl
              rotate_left
              · simp only [Act.put, List.setIfInBounds_toArray, List.set_cons_zero, List.set_cons_succ, i64_w, i32_w]
                rfl
              refine pure_ (i := 6) (N := some 125) (v := ?_) (a' := ?_) #[true, true, true, false, false, true, true, false, false, false, false, false, false, false, false, false, false, false, false, false, false, false, false, false] rfl rfl (by kernel_rfl) (fun _ _ _ h => h) (Or.inl ⟨by rfl, ?_⟩) ?_ ?_
              rotate_left
              · intro w'
                go_simp
                with_reducible rfl
              rotate_left
              · simp only [Act.put, List.setIfInBounds_toArray, List.set_cons_zero, List.set_cons_succ, i64_w, i32_w]
                rfl
              refine pure_ (i := 7) (N := some 126) (v := ?_) (a' := ?_) #[true, true, true, false, false, true, true, true, false, false, false, false, false, false, false, false, false, false, false, false, false, false, false, false] rfl rfl (by kernel_rfl) (fun _ _ _ h => h) (Or.inl ⟨by rfl, ?_⟩) ?_ ?_
              rotate_left
              · intro w'
                go_simp
                with_reducible rfl
              rotate_left
              · simp only [Act.put, List.setIfInBounds_toArray, List.set_cons_zero, List.set_cons_succ, i64_w, i32_w]
                rfl
              refine take_ (i := 3) (N := some 122) (v := ?_) (a' := ?_) #[true, true, true, true, false, true, true, true, false, false, false, false, false, false, false, false, false, false, false, false, false, false, false, false] rfl rfl (by kernel_rfl) (fun _ _ _ h => h) (Or.inl ⟨by rfl, ?_⟩) hHeld ?_ ?_
              rotate_left
              · rintro w' ⟨s0, s1⟩
                go_simp
                with_reducible rfl
              rotate_left
              · simp only [Act.put, List.setIfInBounds_toArray, List.set_cons_zero, List.set_cons_succ, i64_w, i32_w]
                rfl
              refine take_ (i := 8) (N := some 127) (v := ?_) (a' := ?_) #[true, true, true, true, false, true, true, true, true, false, false, false, false, false, false, false, false, false, false, false, false, false, false, false] rfl rfl (by kernel_rfl) (fun _ _ _ h => h) (Or.inl ⟨by rfl, ?_⟩) hHeld ?_ ?_
              rotate_left
              · rintro w' ⟨s0, s1⟩
                go_simp
                with_reducible rfl
              rotate_left
              · simp only [Act.put, List.setIfInBounds_toArray, List.set_cons_zero, List.set_cons_succ, i64_w, i32_w]
                rfl
              refine one_ (i := 4) (N := some 123) #[true, true, true, true, true, true, true, true, true, false, false, false, false, false, false, false, false, false, false, false, false, false, false, false] rfl rfl (by kernel_rfl) (by decide) (fun K hK => ?_)
              refine goes_ Try.func29 (by kernel_rfl) rfl #[.pointer qk] (by rfl) rfl rfl (by simp only [List.map_toArray, List.map_cons, List.map_nil]; rfl) ?_
              with_reducible refine (HTX.out _ _ (HRD2.out _ (below_drew1 (Below.refl _ _))).1).mono ?_
              rintro e w5 ⟨rfl, hb5⟩
              refine ⟨_, rfl, ?_⟩
              have HB5 := Aside0.mk (below_step (below_drew1 (Below.refl _ _)) hb5)
              refine hK.out _ _ ⟨(pw_cell_below hb5 hHeld.1), (pw_cell_below hb5 hHeld.2)⟩ (fun hHeld => ?_)
              clear hK K
              refine norm_ (a' := ?_) ?_ ?_
              rotate_left
              · show Act.put _ (some 123) _ = _
                simp only [Act.put, List.setIfInBounds_toArray, List.set_cons_zero, List.set_cons_succ, i64_w, i32_w]
                rfl
              refine one_ (i := 9) (N := some 128) #[true, true, true, true, true, true, true, true, true, true, false, false, false, false, false, false, false, false, false, false, false, false, false, false] rfl rfl (by kernel_rfl) (by decide) (fun K hK => ?_)
              refine goes_ Try.func29 (by kernel_rfl) rfl #[.pointer q3] (by rfl) rfl rfl (by simp only [List.map_toArray, List.map_cons, List.map_nil]; rfl) ?_
              with_reducible refine (HTX.out _ _ (HRD2.out _ HB5.out).2).mono ?_
              rintro e w6 ⟨rfl, hb6⟩
              refine ⟨_, rfl, ?_⟩
              have HB6 := Aside0.mk (below_step HB5.out hb6)
              refine hK.out _ _ ⟨(pw_cell_below hb6 hHeld.1), (pw_cell_below hb6 hHeld.2)⟩ (fun hHeld => ?_)
              clear hK K
              refine norm_ (a' := ?_) ?_ ?_
              rotate_left
              · show Act.put _ (some 128) _ = _
                simp only [Act.put, List.setIfInBounds_toArray, List.set_cons_zero, List.set_cons_succ, i64_w, i32_w]
                rfl
              refine pure_ (i := 10) (N := some 129) (v := ?_) (a' := ?_) #[true, true, true, true, true, true, true, true, true, true, true, false, false, false, false, false, false, false, false, false, false, false, false, false] rfl rfl (by kernel_rfl) (fun _ _ _ h => h) (Or.inl ⟨by rfl, ?_⟩) ?_ ?_
              rotate_left
              · intro w'
                go_simp
                with_reducible rfl
              rotate_left
              · simp only [Act.put, List.setIfInBounds_toArray, List.set_cons_zero, List.set_cons_succ, i64_w, i32_w]
                rfl
              refine pure_ (i := 11) (N := some 130) (v := ?_) (a' := ?_) #[true, true, true, true, true, true, true, true, true, true, true, true, false, false, false, false, false, false, false, false, false, false, false, false] rfl rfl (by kernel_rfl) (fun _ _ _ h => h) (Or.inl ⟨by rfl, ?_⟩) ?_ ?_
              rotate_left
              · intro w'
                go_simp
                with_reducible rfl
              rotate_left
              · simp only [Act.put, List.setIfInBounds_toArray, List.set_cons_zero, List.set_cons_succ, i64_w, i32_w]
                rfl
              refine pure_ (i := 12) (N := some 131) (v := ?_) (a' := ?_) #[true, true, true, true, true, true, true, true, true, true, true, true, true, false, false, false, false, false, false, false, false, false, false, false] rfl rfl (by kernel_rfl) (fun _ _ _ h => h) (Or.inl ⟨by rfl, ?_⟩) ?_ ?_
              rotate_left
              · intro w'
                go_simp
                with_reducible rfl
              rotate_left
              · simp only [Act.put, List.setIfInBounds_toArray, List.set_cons_zero, List.set_cons_succ, i64_w, i32_w]
                rfl
              refine pure_ (i := 13) (N := some 132) (v := ?_) (a' := ?_) #[true, true, true, true, true, true, true, true, true, true, true, true, true, true, false, false, false, false, false, false, false, false, false, false] rfl rfl (by kernel_rfl) (fun _ _ _ h => h) (Or.inl ⟨by rfl, ?_⟩) ?_ ?_
              rotate_left
              · intro w'
                go_simp
                with_reducible rfl
              rotate_left
              · simp only [Act.put, List.setIfInBounds_toArray, List.set_cons_zero, List.set_cons_succ, i64_w, i32_w]
                rfl
              refine pure_ (i := 14) (N := some 133) (v := ?_) (a' := ?_) #[true, true, true, true, true, true, true, true, true, true, true, true, true, true, true, false, false, false, false, false, false, false, false, false] rfl rfl (by kernel_rfl) (fun _ _ _ h => h) (Or.inl ⟨by rfl, ?_⟩) ?_ ?_
              rotate_left
              · intro w'
                go_simp
                with_reducible rfl
              rotate_left
              · simp only [Act.put, List.setIfInBounds_toArray, List.set_cons_zero, List.set_cons_succ, i64_w, i32_w]
                rfl
              refine pure_ (i := 17) (N := some 136) (v := ?_) (a' := ?_) #[true, true, true, true, true, true, true, true, true, true, true, true, true, true, true, false, false, true, false, false, false, false, false, false] rfl rfl (by kernel_rfl) (fun _ _ _ h => h) (Or.inl ⟨by rfl, ?_⟩) ?_ ?_
              rotate_left
              · intro w'
                go_simp
                with_reducible rfl
              rotate_left
              · simp only [Act.put, List.setIfInBounds_toArray, List.set_cons_zero, List.set_cons_succ, i64_w, i32_w]
                rfl
              refine pure_ (i := 18) (N := some 137) (v := ?_) (a' := ?_) #[true, true, true, true, true, true, true, true, true, true, true, true, true, true, true, false, false, true, true, false, false, false, false, false] rfl rfl (by kernel_rfl) (fun _ _ _ h => h) (Or.inl ⟨by rfl, ?_⟩) ?_ ?_
              rotate_left
              · intro w'
                go_simp
                with_reducible rfl
              rotate_left
              · simp only [Act.put, List.setIfInBounds_toArray, List.set_cons_zero, List.set_cons_succ, i64_w, i32_w]
                rfl
              refine pure_ (i := 19) (N := some 138) (v := ?_) (a' := ?_) #[true, true, true, true, true, true, true, true, true, true, true, true, true, true, true, false, false, true, true, true, false, false, false, false] rfl rfl (by kernel_rfl) (fun _ _ _ h => h) (Or.inl ⟨by rfl, ?_⟩) ?_ ?_
              rotate_left
              · intro w'
                go_simp
                with_reducible rfl
              rotate_left
              · simp only [Act.put, List.setIfInBounds_toArray, List.set_cons_zero, List.set_cons_succ, i64_w, i32_w]
                rfl
              refine take_ (i := 15) (N := some 134) (v := ?_) (a' := ?_) #[true, true, true, true, true, true, true, true, true, true, true, true, true, true, true, true, false, true, true, true, false, false, false, false] rfl rfl (by kernel_rfl) (fun _ _ _ h => h) (Or.inl ⟨by rfl, ?_⟩) hHeld ?_ ?_
              rotate_left
              · rintro w' ⟨s0, s1⟩
                go_simp
                with_reducible rfl
              rotate_left
              · simp only [Act.put, List.setIfInBounds_toArray, List.set_cons_zero, List.set_cons_succ, i64_w, i32_w]
                rfl
              refine take_ (i := 20) (N := some 139) (v := ?_) (a' := ?_) #[true, true, true, true, true, true, true, true, true, true, true, true, true, true, true, true, false, true, true, true, true, false, false, false] rfl rfl (by kernel_rfl) (fun _ _ _ h => h) (Or.inl ⟨by rfl, ?_⟩) hHeld ?_ ?_
              rotate_left
              · rintro w' ⟨s0, s1⟩
                go_simp
                with_reducible rfl
              rotate_left
              · simp only [Act.put, List.setIfInBounds_toArray, List.set_cons_zero, List.set_cons_succ, i64_w, i32_w]
                rfl
              refine one_ (i := 16) (N := some 135) #[true, true, true, true, true, true, true, true, true, true, true, true, true, true, true, true, true, true, true, true, true, false, false, false] rfl rfl (by kernel_rfl) (by decide) (fun K hK => ?_)
              refine goes_ Try.func26 (by kernel_rfl) rfl #[.pointer qk] (by rfl) rfl rfl (by simp only [List.map_toArray, List.map_cons, List.map_nil]; rfl) ?_
              with_reducible refine (HHX.out _ _ (HRD2.out _ HB6.out).1).mono ?_
              rintro e w7 ⟨rfl, rfl⟩
              refine ⟨_, rfl, ?_⟩
              refine hK.out _ _ ⟨hHeld.1, hHeld.2⟩ (fun hHeld => ?_)
              clear hK K
              refine norm_ (a' := ?_) ?_ ?_
              rotate_left
              · show Act.put _ (some 135) _ = _
                simp only [Act.put, List.setIfInBounds_toArray, List.set_cons_zero, List.set_cons_succ, i64_w, i32_w]
                rfl
              refine one_ (i := 21) (N := some 140) #[true, true, true, true, true, true, true, true, true, true, true, true, true, true, true, true, true, true, true, true, true, true, false, false] rfl rfl (by kernel_rfl) (by decide) (fun K hK => ?_)
              refine goes_ Try.func26 (by kernel_rfl) rfl #[.pointer q3] (by rfl) rfl rfl (by simp only [List.map_toArray, List.map_cons, List.map_nil]; rfl) ?_
              with_reducible refine (HHX.out _ _ (HRD2.out _ HB6.out).2).mono ?_
              rintro e w8 ⟨rfl, rfl⟩
              refine ⟨_, rfl, ?_⟩
              refine hK.out _ _ ⟨hHeld.1, hHeld.2⟩ (fun hHeld => ?_)
              clear hK K
              refine norm_ (a' := ?_) ?_ ?_
              rotate_left
              · show Act.put _ (some 140) _ = _
                simp only [Act.put, List.setIfInBounds_toArray, List.set_cons_zero, List.set_cons_succ, i64_w, i32_w]
                rfl
              refine pure_ (i := 22) (N := some 141) (v := ?_) (a' := ?_) #[true, true, true, true, true, true, true, true, true, true, true, true, true, true, true, true, true, true, true, true, true, true, true, false] rfl rfl (by kernel_rfl) (fun _ _ _ h => h) (Or.inl ⟨by rfl, ?_⟩) ?_ ?_
              rotate_left
              · intro w'
                go_simp
                with_reducible rfl
              rotate_left
              · simp only [Act.put, List.setIfInBounds_toArray, List.set_cons_zero, List.set_cons_succ, i64_w, i32_w]
                rfl
              refine pure_ (i := 23) (N := some 142) (v := ?_) (a' := ?_) #[true, true, true, true, true, true, true, true, true, true, true, true, true, true, true, true, true, true, true, true, true, true, true, true] rfl rfl (by kernel_rfl) (fun _ _ _ h => h) (Or.inl ⟨by rfl, ?_⟩) ?_ ?_
              rotate_left
              · intro w'
                go_simp
                with_reducible rfl
              rotate_left
              · simp only [Act.put, List.setIfInBounds_toArray, List.set_cons_zero, List.set_cons_succ, i64_w, i32_w]
                rfl
              refine done_ (by kernel_rfl) ?_
              go_wp2
              go_roundg k2
              case measure => omega
              case rel => exact ⟨wrap64 (y + 1), (by first | rfl | (simp; done)), ⟨by have := HY.out; have := HQ.out; have := D0.out; unfold wrap64; omega⟩, ⟨below_step HBY.out HB6.out⟩⟩
            · have cyb : decide (y < (ls.length : Int)) = false := decide_eq_false cy
              clear y0 cy
              go_wp2_with (go_at_call 23; (with_reducible refine (lives_calls _).mono ?_); rintro e_ w9 ⟨rfl, hb⟩; have HB9 := Aside0.mk (below_step (below_step HBW.out HBY.out) hb); clear hb)
              go_ret
              exact ⟨rfl, HB9.out⟩
  · clear hev
    have HE0_ : ∀ ts, Ev ls.length ts → False := fun ts h => by have h1 := h.1; have h2 := h.2.1; have := of_decide_eq_false g3; omega
    go_enter Try.func6, Try.ntmps6
    go_wp2
    go_loopg [3, 4, 5, 6] (ls.length + 1) (fun kq v3 v4 v5 v6 w' => ∃ (x : Int) (e : Bool) (s : ByteArray) (ts : List Tr) (A : Option Addr) (cp : Nat) (ps : List (Option Addr)), v6 = .int .i64 x ∧ v4 = .bool e ∧ v5 = .string s ∧ v3 = .slice A ps.length cp ∧ Aside0 (0 ≤ x ∧ x ≤ ls.length ∧ x + kq = ls.length + 1 ∧ 1 ≤ kq) ∧ Aside0 (Evb e ls.length ts) ∧ Aside0 (ts = trs (ls.take x.toNat) ∧ s = cats (ls.take x.toNat)) ∧ Aside0 (Jo w w' ts A cp ps))
    case atStart => exact ⟨0, _, ⟨#[]⟩, [], none, 0, [], (by first | rfl | (simp; done)), rfl, rfl, rfl, ⟨by omega⟩, HE0, ⟨⟨rfl, rfl⟩⟩, HJ0⟩
    case round =>
      clear HJ0 HE0
      obtain ⟨x, e, s, ts, A, cp, ps, rfl, rfl, rfl, rfl, HK, HE, HTS, HJ⟩ := hrel
      rename World => wr0
      obtain ⟨k1, rfl⟩ : ∃ k1, gk = k1 + 1 := ⟨gk - 1, by have := HK.out; omega⟩
      have p0 : 0 ≤ x := HK.out.1
      by_cases cx : x < (ls.length : Int)
      · have cxb : decide (x < (ls.length : Int)) = true := decide_eq_true cx
        obtain ⟨ad0, A1, c1, q0, hx0, hC1⟩ := at_list HR0.out x p0 cx
        subst q0
        have hy0 := (HJ.out.bel.cell (World.block_lt_of_cell? w _ hx0)).trans hx0
        have HQ : Aside0 (0 ≤ x ∧ x < ls.length) := ⟨p0, cx⟩
        have hnt := trs_next ls x p0 cx
        have hnc := cats_next ls x p0 cx
        have hsz := cats_le (ls.take x.toNat)
        have hsl := List.length_take_le x.toNat ls
        rw [← HTS.out.1] at hnt
        rw [← HTS.out.2] at hnc hsz
        have hlc := cat_le (rdL ls x)
        have hno := tree_no (l := rdL ls x)
        have hff := texts_fits (rdL ls x)
        have hln := texts_len (rdL ls x)
        obtain ⟨li, hli⟩ : ∃ li, rdL ls x = li := ⟨_, rfl⟩
        rw [hli] at hy0 hC1 hnt hnc hlc hno hff hln
        obtain ⟨tx, htx⟩ : ∃ tx, texts li = tx := ⟨_, rfl⟩
        have HLV : Aside0 (∀ W, Below w.heap.size w W → Calls Try.prog 24 #[.slice A1 li.length c1] W (LeavesPost W tx)) := ⟨fun W hb => by rw [← htx]; exact leaves_calls W A1 c1 li (Kd.C_below hC1 hb)⟩
        rw [htx] at hnt hnc hlc hno hff hln
        obtain ⟨T, hT⟩ : ∃ T, tree tx = T := ⟨_, rfl⟩
        have HUP : Aside0 (∀ W ok A cp ps, Rk W ok A tx.length ps (tx.map leafT) → tx.length ≤ cp → Calls Try.prog 25 #[.slice A tx.length cp] W (UpPost W ok T)) := ⟨fun W ok A cp ps h hcp => by rw [← hT]; exact tree_up hff hln W ok A cp ps h hcp⟩
        obtain ⟨S1, hS⟩ : ∃ S, cat tx = S := ⟨_, rfl⟩
        have HWH : Aside0 (∀ W A cp, Kd.C Kd.string W A tx.length tx → tx.length ≤ cp → Calls Try.prog 22 #[.slice A tx.length cp] W fun e w' => e = .returned (.string S1) ∧ Drawn0 W w') := ⟨fun W A cp h hcp => stylusref15_Whole.calls 2000 A cp tx S1 W h hcp (by rw [← hS]; exact whole_f tx (by omega) (fun s hs => (fits_spec (hff s hs)).2.1))⟩
        rw [hS] at hnc hlc
        rw [hT] at hnt hno
        have cc0 := eq_true (show s.size + S1.size ≤ 9223372036854775807 by have := D0.out; omega)
        have cc1 := decide_eq_true (show s.size + S1.size ≤ 9223372036854775807 by have := D0.out; omega)
        have cc2 : (9223372036854775807 < s.size + S1.size) = False := eq_false (by have := D0.out; omega)
        have HNT := Aside0.mk hnt
        have HNC := Aside0.mk hnc
        have HNO := Aside0.mk hno
        have HPL : Aside0 (ps.length ≤ 12) := ⟨by rw [HJ.out.ts_.len, HTS.out.1]; unfold trs; rw [List.length_map]; have := D0.out; omega⟩
        have p0c := eq_true p0
        have cxc := eq_true cx
        by_cases h20 : 20 < li.length
        · have h20b : decide (20 < li.length) = true := decide_eq_true h20
          have h20c : decide (20 < (li.length : Int)) = true := decide_eq_true (by omega)
          clear h20 p0 cx hx0 hC1 hnt hnc hsz hsl hlc hno hff hln hli htx hT hS HLV HUP HWH cc0 cc1 cc2
          go_wp2_with (go_at_call 23; (with_reducible refine (lives_calls _).mono ?_); rintro e w1 ⟨rfl, hb⟩; have HB1 := Aside0.mk (below_step HJ.out.bel hb); clear hb)
          go_ret
          exact ⟨rfl, HB1.out⟩
        have h20b : decide (20 < li.length) = false := decide_eq_false h20
        have h20c : decide (20 < (li.length : Int)) = false := decide_eq_false (by omega)
        clear h20 p0 cx hx0 hC1 hnt hnc hsz hsl hlc hno hff hln hli htx hT hS
        go_wp2_with (first | (go_at_call 24; (with_reducible refine (HLV.out _ HJ.out.bel).mono ?_); rintro e_ w1 ⟨Al, cpl, psl, A2, cp2, rfl, hr, hcp, hc, hcp2, hb⟩; have HR1 := Aside0.mk hr; have HCP := Aside0.mk (And.intro hcp hcp2); have HC1 := Aside0.mk hc; have HB1 := Aside0.mk hb; clear hr hcp hc hcp2 hb HLV hy0) | (go_at_call 25; (with_reducible refine (HUP.out _ _ Al cpl psl HR1.out HCP.out.1).mono ?_); rintro e_ w2 ⟨q, rfl, hp, hb⟩; have HP2 : Aside0 (Rp w2 (fun k => wr0.heap.size ≤ k) q T) := ⟨hp.mono (fun k hk => by have := HB1.out.size; omega)⟩; have HC2 := Aside0.mk (Kd.R_below HC1.out hb); have HB2 := Aside0.mk (below_step HB1.out hb); clear hp hb HR1 HC1 HB1 HUP) | ((with_reducible refine gate_builtin (b := .append) (xs := #[.tmp 45, .tmp 48]) rfl ?_); at_builtin; refine Kd.R_append kPtr (w0 := w) w.heap.size rfl (.tmp 45) (.tmp 48) 35 38 (.pointer none) 8 rfl Try.underlying35 infoP rfl (by decide) (by omega) (.slice A ps.length cp) ps q [.pointer q] (fun _ => True) (fun _ => False) rfl rfl ?aP (fun _ hk => hk.elim) (fun _ _ => trivial) (Kd.R_below HJ.out.row HB2.out) (below_step HJ.out.bel HB2.out) (below_step HJ.out.bel HB2.out).size (by have := HPL.out; omega) ?_; (case aP => exact rfl); intro v1 w4 ho hb1 hg hat; have HC4 := Aside0.mk (Kd.R_over HC2.out (Kd.R_below HJ.out.row HB2.out) (by intro q hq; rcases List.mem_cons.1 hq with rfl | hq; exact (by decide); exact absurd hq (by simp [Kd.string, Kd.scalar])) hg); obtain ⟨A5, cp5, ps5, rfl, hk⟩ := HJ.out.app HP2.out HB2.out ho hb1 hg hat; have HJ5 := Aside0.mk hk; clear ho hb1 hg hat hk HC2 HP2) | (go_at_call 22; (with_reducible refine (HWH.out _ A2 cp2 (Kd.R_reads' HC4.out).2.2 HCP.out.2).mono ?_); rintro e_ w5 ⟨rfl, hd⟩; have HJ6 := Aside0.mk (HJ5.out.later hd.below); clear hd HJ5 HC4))
        rename World => wz
        have hlen5 : ps5.length = ts.length + 1 := by rw [HJ6.out.ts_.len, List.length_append]; rfl
        have htl : ts.length = x.toNat := by rw [HTS.out.1]; unfold trs; rw [List.length_map, List.length_take]; have := HQ.out; omega
        have hxn : (wrap64 (x + 1)).toNat = x.toNat + 1 := by have := HQ.out; have := D0.out; unfold wrap64; omega
        have HREL1 : Aside0 (0 ≤ wrap64 (x + 1) ∧ wrap64 (x + 1) ≤ ls.length ∧ wrap64 (x + 1) + k1 = ls.length + 1 ∧ 1 ≤ k1) := ⟨by have := HK.out; have := HQ.out; have := D0.out; unfold wrap64; omega⟩
        have HREL2 : Aside0 (ts ++ [T] = trs (ls.take (wrap64 (x + 1)).toNat) ∧ s ++ S1 = cats (ls.take (wrap64 (x + 1)).toNat)) := ⟨by rw [hxn]; exact ⟨HNT.out.symm, HNC.out.symm⟩⟩
        cases e with
        | false =>
          have HEV : Aside0 (Evb false ls.length (ts ++ [T])) := ⟨by
            have h := HE.out
            unfold Evb at h ⊢
            rw [ev_next]
            exact ⟨(fun hc => by cases hc), fun hc => absurd (h.mpr hc.1) (by decide)⟩⟩
          clear hlen5 htl hxn
          go_quiet (fail)
          go_wp2
          go_roundg k1
          case measure => omega
          case rel => exact ⟨wrap64 (x + 1), false, s ++ S1, ts ++ [T], A5, cp5, ps5, (by first | rfl | (simp; done)), (by first | rfl | (simp; done) | (simp [*]; done)), rfl, rfl, HREL1, HEV, HREL2, ⟨HJ6.out.later (pw_below_drewN (Below.refl _ _) _)⟩⟩
        | true => exact absurd (HE0_ _ (HE.out.mp rfl)) (fun h => h)
      · have cxb : decide (x < (ls.length : Int)) = false := decide_eq_false cx
        have hxx : ls.take x.toNat = ls := List.take_of_length_le (by omega)
        have hts := HTS.out
        rw [hxx] at hts
        obtain ⟨hts, hss⟩ := hts
        have hpl : ps.length = ls.length := by rw [HJ.out.ts_.len, hts]; exact List.length_map _
        obtain ⟨rk, hcp⟩ := HJ.out.rk
        have hle := HE.out
        have HE1 := Aside0.mk hle
        unfold Evb at hle
        have htl : ts.length = ls.length := by rw [hts]; exact List.length_map _
        rw [ev_even htl] at hle
        clear p0 cx hxx HTS HK
        cases e with
        | false =>
          have HJN := Aside0.mk (join_no wr0 A ps.length cp ps ts rk.rs (by
            rw [hpl]
            by_cases q2 : ls.length < 2
            · exact .inl q2
            · by_cases q8 : 8 < ls.length
              · exact .inr (.inl q8)
              · refine .inr (.inr ?_)
                cases q : evenB ts
                · rfl
                · exact absurd (hle.mpr ⟨by omega, by omega, q⟩) (by decide)))
          clear hts hss hpl rk hcp hle htl
          go_wp2_with (first | (go_at_call 27; (with_reducible refine HJN.out.mono ?_); rintro e_ w5 ⟨rfl, hb⟩; have HB5 := Aside0.mk (below_step HJ.out.bel hb); clear hb HJN) | (go_at_call 23; (with_reducible refine (lives_calls _).mono ?_); rintro e_ w6 ⟨rfl, hb⟩; have HB6 := Aside0.mk (below_step HB5.out hb); clear hb))
          go_ret
          exact ⟨rfl, HB6.out⟩
        | true => exact absurd (HE0_ _ (HE.out.mp rfl)) (fun h => h)
end Go.Proofs.Ytgkjagfdlhcgjaa.Kq
