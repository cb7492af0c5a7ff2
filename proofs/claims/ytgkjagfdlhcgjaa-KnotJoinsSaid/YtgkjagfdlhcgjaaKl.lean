import Derived.Test.YtgkjagfdlhcgjaaKj
/- The leaves of texts that are chunks: the walk. -/
namespace Go.Proofs.Ytgkjagfdlhcgjaa.Kl
open Go.RowKit Go.Proofs.Ytgkjagfdlhcgjaa.U Go.Proofs.Ytgkjagfdlhcgjaa.QK Go.Proofs.Ytgkjagfdlhcgjaa.Kt Go.Proofs.Ytgkjagfdlhcgjaa.Ka Go.Proofs.Ytgkjagfdlhcgjaa.Kb Go.Proofs.Ytgkjagfdlhcgjaa.Kc Go.Proofs.Ytgkjagfdlhcgjaa.Kd_ Go.Proofs.Ytgkjagfdlhcgjaa.Ke Go.Proofs.Ytgkjagfdlhcgjaa.Kf Go.Proofs.Ytgkjagfdlhcgjaa.Kg Go.Proofs.Ytgkjagfdlhcgjaa.Kh Go.Proofs.Ytgkjagfdlhcgjaa.Ki Go.Proofs.Ytgkjagfdlhcgjaa.Kj Go.Proofs.Ytgkjagfdlhcgjaa.Kk Go.Proofs.YtgkjagfdlhcgjaaW.PrintWords Go.Proofs.YtgkjagfdlhcgjaaW.PrintLast Go.Proofs.YtgkjagfdlhcgjaaW.PrintMore
set_option linter.unusedVariables false
set_option linter.unusedSimpArgs false
/-- a row of texts has grown: no knot's block is its -/
theorem rp_over {W w1 : World} {ok oks : Nat → Prop} {b : Nat} {p : Option Addr} {t : Tr} {v : Value} {l : List ByteArray} (h : Rp W ok p t) (hv : Kd.R Kd.string 9 W b oks v l) (hg : W.grownBy w1 v.ownBlock) : Rp w1 ok p t := by
  induction h with
  | nil => exact .nil
  | node a hh bb r lc s kids A cp ps hok hb hl hR hk ih =>
    refine .node a hh bb r lc s kids A cp ps hok ((hg.block a (blk_lt hb) (fun he => ?_)).trans hb) hl (Kd.R_over hR hv (by intro q hq; rcases List.mem_cons.1 hq with rfl | hq; exact (by decide); exact absurd hq (by simp [kPtr, Kd.scalar])) hg) ih
    obtain ⟨cells, hc⟩ := Kd.R_typed hv a he.symm
    rw [hb] at hc
    injection hc with hc
    injection hc with _ hc
    exact absurd hc (by decide)
def texts (l : List ByteArray) : List ByteArray := (l.take 200).filter fits
theorem texts_fits (l : List ByteArray) : ∀ s ∈ texts l, fits s = true := fun s hs => (List.mem_filter.1 hs).2
theorem texts_len (l : List ByteArray) : (texts l).length ≤ 200 := by
  have h1 := List.length_filter_le fits (l.take 200)
  have h2 := List.length_take_le 200 l
  unfold texts; omega
theorem take_filter (l : List ByteArray) (i : Int) (h0 : 0 ≤ i) (h : i < l.length) : (l.take (i.toNat + 1)).filter fits = (l.take i.toNat).filter fits ++ (if fits (rdOf ByteArray.empty l i) then [rdOf ByteArray.empty l i] else []) := by
  rw [List.take_succ_eq_append_getElem (by omega), List.filter_append]
  have e : rdOf ByteArray.empty l i = l[i.toNat]'(by omega) := by
    unfold rdOf; rw [List.getD_eq_getElem?_getD, List.getElem?_eq_getElem (by omega)]; rfl
  rw [e]
  congr 1
  cases hf : fits (l[i.toNat]'(by omega)) <;> simp [hf]
/-- what leaves holds -/
structure Lf (w W : World) (tx : List ByteArray) (A : Option Addr) (cp : Nat) (ps : List (Option Addr)) (A2 : Option Addr) (cp2 : Nat) : Prop where
  row : kPtr.R 38 W w.heap.size (fun k => w.heap.size ≤ k) (.slice A ps.length cp) ps
  ts_ : Ts W (fun k => w.heap.size ≤ k) (.slice A ps.length cp) ps (tx.map leafT)
  str : Kd.R Kd.string 9 W w.heap.size (fun k => w.heap.size ≤ k) (.slice A2 tx.length cp2) tx
  bel : Below w.heap.size w W
theorem Lf.nil (w : World) : Lf w w [] none 0 [] none 0 := ⟨Kd.R_nil _ _ _ _ _, Ts.nil _ _ _, Kd.R_nil _ _ _ _ _, Below.refl _ _⟩
theorem Lf.later {w W W2 : World} {tx : List ByteArray} {A : Option Addr} {cp : Nat} {ps : List (Option Addr)} {A2 : Option Addr} {cp2 : Nat} (h : Lf w W tx A cp ps A2 cp2) (hb : Below W.heap.size W W2) : Lf w W2 tx A cp ps A2 cp2 :=
  ⟨Kd.R_below h.row hb, h.ts_.later hb, Kd.R_below h.str hb, below_step h.bel hb⟩
/-- a leaf more, its text not yet -/
structure Lg (w W : World) (tx : List ByteArray) (s : ByteArray) (A : Option Addr) (cp : Nat) (ps : List (Option Addr)) (A2 : Option Addr) (cp2 : Nat) : Prop where
  row : kPtr.R 38 W w.heap.size (fun k => w.heap.size ≤ k) (.slice A ps.length cp) ps
  ts_ : Ts W (fun k => w.heap.size ≤ k) (.slice A ps.length cp) ps ((tx ++ [s]).map leafT)
  str : Kd.R Kd.string 9 W w.heap.size (fun k => w.heap.size ≤ k) (.slice A2 tx.length cp2) tx
  bel : Below w.heap.size w W
theorem Lf.app {w W W2 w1 : World} {tx : List ByteArray} {A : Option Addr} {cp : Nat} {ps : List (Option Addr)} {A2 : Option Addr} {cp2 : Nat} {q : Option Addr} {s : ByteArray} {v1 : Value} (h : Lf w W tx A cp ps A2 cp2) (hp : Rp W2 (fun k => W.heap.size ≤ k) q (leafT s)) (hb : Below W.heap.size W W2)
    (ho : kPtr.R 38 w1 w.heap.size (fun k => w.heap.size ≤ k) v1 (ps ++ [q])) (hb1 : Below w.heap.size w w1) (hg : W2.grownBy w1 (Value.slice A ps.length cp).ownBlock) (hat : v1.ownBlock = (Value.slice A ps.length cp).ownBlock ∨ ∃ b, v1.ownBlock = some b ∧ W2.heap.size ≤ b) :
    ∃ A4 cp4 ps4, v1 = .slice A4 (ps4 : List (Option Addr)).length cp4 ∧ Lg w w1 tx s A4 cp4 ps4 A2 cp2 := by
  obtain ⟨A4, cp4, rfl⟩ := Kd.R_slice ho
  have hsz := h.bel.size
  have h2 := h.later hb
  have hq : Rp W2 (fun k => w.heap.size ≤ k ∧ some k ≠ (Value.slice A ps.length cp).ownBlock) q (leafT s) := hp.mono (fun k hk => ⟨by omega, fun he => by have := Kd.R_lt h.row k he.symm; omega⟩)
  refine ⟨A4, cp4, ps ++ [q], rfl, ho, ?_, Kd.R_over h2.str h2.row (by intro q hq; rcases List.mem_cons.1 hq with rfl | hq; exact (by decide); exact absurd hq (by simp [Kd.string, Kd.scalar])) hg, hb1⟩
  rw [List.map_append]
  exact h2.ts_.app hq hg hat
theorem Lg.app {w W w1 : World} {tx : List ByteArray} {s : ByteArray} {A : Option Addr} {cp : Nat} {ps : List (Option Addr)} {A2 : Option Addr} {cp2 : Nat} {v1 : Value} (h : Lg w W tx s A cp ps A2 cp2)
    (ho : Kd.R Kd.string 9 w1 w.heap.size (fun k => w.heap.size ≤ k) v1 (tx ++ [s])) (hb1 : Below w.heap.size w w1) (hg : W.grownBy w1 (Value.slice A2 tx.length cp2).ownBlock) :
    ∃ A4 cp4, v1 = .slice A4 (tx ++ [s]).length cp4 ∧ Lf w w1 (tx ++ [s]) A cp ps A4 cp4 := by
  obtain ⟨A4, cp4, rfl⟩ := Kd.R_slice ho
  exact ⟨A4, cp4, rfl, Kd.R_over h.row h.str (by intro q hq; rcases List.mem_cons.1 hq with rfl | hq; exact (by decide); exact absurd hq (by simp [kPtr, Kd.scalar])) hg, ⟨h.ts_.len, fun j p t hp ht => rp_over (h.ts_.r j p t hp ht) h.str hg⟩, ho, hb1⟩
def LeavesPost (w : World) (tx : List ByteArray) (e : Ending) (w' : World) : Prop := ∃ (A : Option Addr) (cp : Nat) (ps : List (Option Addr)) (A2 : Option Addr) (cp2 : Nat), e = .returned (.tuple #[.slice A tx.length cp, .slice A2 tx.length cp2]) ∧
  Rk w' (fun k => w.heap.size ≤ k) A tx.length ps (tx.map leafT) ∧ tx.length ≤ cp ∧ Kd.R Kd.string 9 w' w.heap.size (fun k => w.heap.size ≤ k) (.slice A2 tx.length cp2) tx ∧ tx.length ≤ cp2 ∧ Below w.heap.size w w'
theorem Lf.post {w W : World} {tx : List ByteArray} {A : Option Addr} {cp : Nat} {ps : List (Option Addr)} {A2 : Option Addr} {cp2 : Nat} (h : Lf w W tx A cp ps A2 cp2) : ps.length = tx.length ∧ Rk W (fun k => w.heap.size ≤ k) A tx.length ps (tx.map leafT) ∧ tx.length ≤ cp ∧ Kd.R Kd.string 9 W w.heap.size (fun k => w.heap.size ≤ k) (.slice A2 tx.length cp2) tx ∧ tx.length ≤ cp2 := by
  have hl := h.ts_.len
  rw [List.length_map] at hl
  obtain ⟨q1, q2, q3⟩ := Kd.R_reads' h.row
  obtain ⟨r1, r2, r3⟩ := Kd.R_reads' h.str
  rw [hl] at q2 q3
  exact ⟨hl, ⟨q3, by rw [List.length_map], fun j p t hp ht => (h.ts_.r j p t hp ht).mono (fun k hk => hk.1)⟩, q2, h.str, r2⟩
set_option maxHeartbeats 8000000 in
set_option maxRecDepth 100000 in
theorem leaves_calls (w : World) (A0 : Option Addr) (c0 : Nat) (l0 : List ByteArray) (hr0 : Kd.C Kd.string w A0 l0.length l0) : Calls Try.prog 24 #[.slice A0 l0.length c0] w (LeavesPost w (texts l0)) := by
  have HR0 := Aside0.mk hr0
  clear hr0
  have HF := Aside0.mk (Lf.nil w)
  go_enter Try.func24, Try.ntmps24
  go_wp2
  go_loopg [4, 5, 6] 201 (fun kq v4 v5 v6 w' => ∃ (x : Int) (tx : List ByteArray) (A : Option Addr) (cp : Nat) (ps : List (Option Addr)) (A2 : Option Addr) (cp2 : Nat), v6 = .int .i64 x ∧ v4 = .slice A ps.length cp ∧ v5 = .slice A2 tx.length cp2 ∧ Aside0 (0 ≤ x ∧ x ≤ l0.length ∧ x + kq = 201 ∧ 1 ≤ kq) ∧ Aside0 (tx = (l0.take x.toNat).filter fits) ∧ Aside0 (Lf w w' tx A cp ps A2 cp2))
  case atStart => exact ⟨0, [], none, 0, [], none, 0, (by first | rfl | (simp; done)), rfl, rfl, ⟨by omega⟩, ⟨rfl⟩, HF⟩
  case round =>
    clear HF
    obtain ⟨x, tx, A, cp, ps, A2, cp2, rfl, rfl, rfl, HK, HT, HF⟩ := hrel
    obtain ⟨k1, rfl⟩ : ∃ k1, gk = k1 + 1 := ⟨gk - 1, by have := HK.out; omega⟩
    have p0 : 0 ≤ x := HK.out.1
    by_cases cx : x < (l0.length : Int)
    · have cxb : decide (x < (l0.length : Int)) = true := decide_eq_true cx
      by_cases c2 : x < 200
      · have c2b : decide (x < 200) = true := decide_eq_true c2
        obtain ⟨ad0, q0, hx0⟩ := Kd.at_string HR0.out x p0 cx
        subst q0
        have HX := Aside0.mk hx0
        have hy0 := (HF.out.bel.cell (World.block_lt_of_cell? w _ hx0)).trans hx0
        have HQ : Aside0 (0 ≤ x ∧ x < l0.length ∧ x < 200) := ⟨p0, cx, c2⟩
        have HN := Aside0.mk (take_filter l0 x p0 cx)
        have hlen : tx.length ≤ 200 := by rw [HT.out]; have h1 := List.length_filter_le fits (l0.take x.toNat); have h2 := List.length_take_le x.toNat l0; omega
        have hpl := HF.out.ts_.len
        rw [List.length_map] at hpl
        have HLN : Aside0 (tx.length ≤ 200 ∧ ps.length ≤ 200) := ⟨by omega⟩
        have p0c := eq_true p0
        have cxc := eq_true cx
        clear p0 cx c2 hx0 hlen hpl
        generalize rdOf ByteArray.empty l0 x = s at hy0 HX HN
        by_cases hf : fits s = true
        · have HFI := Aside0.mk hf
          clear hf
          go_wp2_with (first
            | (go_at_call 17; (with_reducible refine (stylusref15_Fits.calls s true _ (by rw [rfits_f, HFI.out])).mono ?_); rintro e w2 ⟨rfl, hb⟩; have HF2 := Aside0.mk (HF.out.later hb); clear hb HF hy0; have hy1 := (HF2.out.bel.cell (World.block_lt_of_cell? w _ HX.out)).trans HX.out)
            | (go_at_call 32; (with_reducible refine (leaf_at _ HFI.out).mono ?_); rintro e w3 ⟨a, rfl, hp, hb⟩; have HP := Aside0.mk hp; have HB := Aside0.mk hb; clear hp hb hy1)
            | ((with_reducible refine gate_builtin (b := .append) (xs := #[.tmp 22, .tmp 28]) rfl ?_); at_builtin; refine Kd.R_append kPtr (w0 := w) w.heap.size rfl (.tmp 22) (.tmp 28) 35 38 (.pointer none) 8 rfl Try.underlying35 infoP rfl (by decide) (by omega) (.slice A ps.length cp) ps (some ⟨a, 0, none⟩) [.pointer (some ⟨a, 0, none⟩)] (fun k => w.heap.size ≤ k) (fun _ => False) rfl rfl ?aP (fun _ hk => hk.elim) (fun k hk => Nat.le_trans (below_step HF2.out.bel HB.out).size hk) (Kd.R_below HF2.out.row HB.out) (below_step HF2.out.bel HB.out) (below_step HF2.out.bel HB.out).size (by have := HLN.out; omega) ?_; (case aP => exact rfl); intro v1 w4 ho hb1 hg hat; obtain ⟨A4, cp4, ps4, rfl, hk⟩ := HF2.out.app HP.out HB.out ho hb1 hg hat; have HG := Aside0.mk hk; clear ho hb1 hg hat hk HB HP HF2; have hy2 := (HG.out.bel.cell (World.block_lt_of_cell? w _ HX.out)).trans HX.out)
            | ((with_reducible refine gate_builtin (b := .append) (xs := #[.tmp 30, .tmp 35]) rfl ?_); at_builtin; refine Kd.R_append Kd.string (w0 := w) w.heap.size rfl (.tmp 30) (.tmp 35) 26 9 (.string ⟨#[]⟩) 16 rfl Try.underlying26 infoS rfl (by decide) (by omega) (.slice A2 tx.length cp2) tx s [.string s] (fun k => w.heap.size ≤ k) (fun _ => False) rfl rfl ?aQ (fun _ hk => hk.elim) (fun k hk => Nat.le_trans HG.out.bel.size hk) HG.out.str HG.out.bel HG.out.bel.size (by have := HLN.out; omega) ?_; (case aQ => exact rfl); intro v1 w5 ho hb1 hg hat; obtain ⟨A5, cp5, rfl, hk⟩ := HG.out.app ho hb1 hg; obtain ⟨ty, hty⟩ : ∃ ty, tx ++ [s] = ty := ⟨_, rfl⟩; rw [hty] at hk ⊢; have HTY := Aside0.mk hty; have HF5 := Aside0.mk hk; clear ho hb1 hg hat hk HG hty hy2))
          go_roundg k1
          case measure => omega
          case rel =>
            refine ⟨wrap64 (x + 1), ty, A4, cp4, ps4, A5, cp5, (by first | rfl | (simp; done)), rfl, rfl, ⟨by have := HK.out; have := HQ.out; unfold wrap64; omega⟩, ⟨?_⟩, HF5⟩
            rw [show (wrap64 (x + 1)).toNat = x.toNat + 1 by have := HQ.out; unfold wrap64; omega, HN.out, if_pos HFI.out, ← HT.out, HTY.out]
        · have hf : fits s = false := by simpa using hf
          have HFI := Aside0.mk hf
          clear hf
          go_wp2_with (go_at_call 17; (with_reducible refine (stylusref15_Fits.calls s false _ (by rw [rfits_f, HFI.out])).mono ?_); rintro e w2 ⟨rfl, hb⟩; have HF2 := Aside0.mk (HF.out.later hb); clear hb HF hy0)
          go_roundg k1
          case measure => omega
          case rel =>
            refine ⟨wrap64 (x + 1), tx, A, cp, ps, A2, cp2, (by first | rfl | (simp; done)), rfl, rfl, ⟨by have := HK.out; have := HQ.out; unfold wrap64; omega⟩, ⟨?_⟩, HF2⟩
            rw [show (wrap64 (x + 1)).toNat = x.toNat + 1 by have := HQ.out; unfold wrap64; omega, HN.out, HFI.out, ← HT.out]
            simp
      · have c2b : decide (x < 200) = false := decide_eq_false c2
        have e := HT.out
        have hx : x = 200 := by have := HK.out; omega
        rw [hx] at e
        have HE : Aside0 (tx = texts l0) := ⟨e⟩
        clear p0 cx c2 e hx
        go_wp2
        go_ret2
        obtain ⟨hl, hp⟩ := HF.out.post
        rw [← HE.out]
        refine ⟨A, cp, ps, A2, cp2, ?_, hp.1, hp.2.1, hp.2.2.1, hp.2.2.2, HF.out.bel⟩
        show Ending.returned (Value.tuple #[.slice A ps.length cp, .slice A2 tx.length cp2]) = _
        rw [hl]
    · have cxb : decide (x < (l0.length : Int)) = false := decide_eq_false cx
      have e := HT.out
      have hx : l0.take x.toNat = l0.take 200 := by
        rw [List.take_of_length_le (by have := HK.out; omega), List.take_of_length_le (by have := HK.out; omega)]
      rw [hx] at e
      have HE : Aside0 (tx = texts l0) := ⟨e⟩
      clear p0 cx e hx
      go_wp2
      go_ret2
      obtain ⟨hl, hp⟩ := HF.out.post
      rw [← HE.out]
      refine ⟨A, cp, ps, A2, cp2, ?_, hp.1, hp.2.1, hp.2.2.1, hp.2.2.2, HF.out.bel⟩
      show Ending.returned (Value.tuple #[.slice A ps.length cp, .slice A2 tx.length cp2]) = _
      rw [hl]
end Go.Proofs.Ytgkjagfdlhcgjaa.Kl
/- lives, and the tree over any chunks: the walks. -/
namespace Go.Proofs.Ytgkjagfdlhcgjaa.Km
open Go.RowKit Go.Proofs.Ytgkjagfdlhcgjaa.U Go.Proofs.Ytgkjagfdlhcgjaa.QK Go.Proofs.Ytgkjagfdlhcgjaa.Kt Go.Proofs.Ytgkjagfdlhcgjaa.Ka Go.Proofs.Ytgkjagfdlhcgjaa.Kb Go.Proofs.Ytgkjagfdlhcgjaa.Kc Go.Proofs.Ytgkjagfdlhcgjaa.Kd_ Go.Proofs.Ytgkjagfdlhcgjaa.Ke Go.Proofs.Ytgkjagfdlhcgjaa.Kf Go.Proofs.Ytgkjagfdlhcgjaa.Kg Go.Proofs.Ytgkjagfdlhcgjaa.Kh Go.Proofs.Ytgkjagfdlhcgjaa.Ki Go.Proofs.Ytgkjagfdlhcgjaa.Kj Go.Proofs.Ytgkjagfdlhcgjaa.Kk Go.Proofs.Ytgkjagfdlhcgjaa.Kl Go.Proofs.YtgkjagfdlhcgjaaW.PrintWords Go.Proofs.YtgkjagfdlhcgjaaW.PrintLast Go.Proofs.YtgkjagfdlhcgjaaW.PrintMore
set_option linter.unusedVariables false
set_option linter.unusedSimpArgs false
theorem Rp.all {w : World} {ok : Nat → Prop} {p : Option Addr} {t : Tr} (h : Rp w ok p t) : Rp w (fun _ => True) p t := h.mono fun _ _ => trivial
theorem row_ptr (W : World) (ps : List (Option Addr)) (hm : ps.length ≤ 1000) : kPtr.C (W.alloc (.cells (ps.map fun p => Value.pointer p).toArray 38)) (some ⟨W.heap.size, 0, none⟩) ps.length ps := by
  refine ⟨rfl, by omega, fun _ => ⟨_, rfl, fun j p hj => ⟨[.pointer p], rfl, rfl, fun i u hu => ?_⟩⟩⟩
  have hb := heap_alloc_new W (.cells (ps.map fun p => Value.pointer p).toArray 38)
  have hi : i = 0 := by
    rcases i with _ | i
    · rfl
    · simp at hu
  subst hi
  rw [add_plain]
  have sz : kPtr.sz = 1 := rfl
  rw [sz, Nat.mul_one, Nat.add_zero]
  refine (blk_cell hb j).trans ?_
  simp at hu
  subst hu
  simp [hj]
theorem two_ptr (W : World) (pa pb : Option Addr) (ta tb : Tr) (ha : Rd W pa ta) (hb : Rd W pb tb) : Rk (W.alloc (.cells #[.pointer pa, .pointer pb] 38)) (fun _ => True) (some ⟨W.heap.size, 0, none⟩) 2 [pa, pb] [ta, tb] := by
  refine ⟨row_ptr W [pa, pb] (by simp), rfl, fun j p t hp ht => ?_⟩
  have hbl := below_alloc (Below.refl W.heap.size W) (.cells #[.pointer pa, .pointer pb] 38)
  rcases j with _ | _ | j
  · simp at hp ht; subst hp; subst ht; exact Rp.all (ha.below hbl)
  · simp at hp ht; subst hp; subst ht; exact Rp.all (hb.below hbl)
  · simp at hp
theorem one_ptr (W : World) (pa : Option Addr) (ta : Tr) (ha : Rd W pa ta) : Rk (W.alloc (.cells #[.pointer pa] 38)) (fun _ => True) (some ⟨W.heap.size, 0, none⟩) 1 [pa] [ta] := by
  refine ⟨row_ptr W [pa] (by simp), rfl, fun j p t hp ht => ?_⟩
  have hbl := below_alloc (Below.refl W.heap.size W) (.cells #[.pointer pa] 38)
  rcases j with _ | j
  · simp at hp ht; subst hp; subst ht; exact Rp.all (ha.below hbl)
  · simp at hp
/-- a tree that is read -/
structure KS (w W : World) (p : Option Addr) (t : Tr) : Prop where
  r : Rd W p t
  bel : Below w.heap.size w W
theorem KS.later {w W W2 : World} {p : Option Addr} {t : Tr} (h : KS w W p t) (hb : Below W.heap.size W W2) : KS w W2 p t := ⟨h.r.below hb, below_step h.bel hb⟩
/-! ### lives -/
def sA : ByteArray := ⟨#[97]⟩
def sB : ByteArray := ⟨#[98]⟩
theorem fA : fits sA = true := by decide +kernel
theorem fB : fits sB = true := by decide +kernel
def tAB : Tr := joinT [leafT sA, leafT sB]
theorem lAB : Lv 0 [leafT sA, leafT sB] := by
  refine leafs_lv [sA, sB] (fun s hs => ?_) (by simp)
  rcases List.mem_cons.1 hs with rfl | hs
  · exact fA
  · rcases List.mem_cons.1 hs with rfl | hs
    · exact fB
    · cases hs
theorem tAB_chunks : chunks tAB = [sA, sB] := by
  unfold tAB
  rw [joinT_chunks (d := 0) (by simp), chunksL_cons, chunksL_cons, chunksL, leaf_chunks fA, leaf_chunks fB]; rfl
theorem tAB_cat : cat (chunks tAB) = ⟨#[97, 98]⟩ := by rw [tAB_chunks]; rfl
theorem tAB_fine : FineT tAB := by
  refine .join _ 0 (by simp) (by simp) lAB (by omega) (fun k hk => ?_)
  rcases List.mem_cons.1 hk with rfl | hk
  · exact leaf_good fA
  · rcases List.mem_cons.1 hk with rfl | hk
    · exact leaf_good fB
    · cases hk
theorem tAB_first : first tAB = sA := by
  obtain ⟨s, r, h1, h2⟩ := first_head tAB_fine
  rw [tAB_chunks] at h1
  rw [h2]; exact (List.cons.inj h1).1.symm
theorem tAB_height : tAB.height = 1 := by
  have h := joinT_e lAB (by simp)
  unfold Tr.height tAB
  rw [h.1, h.2.1]; rfl
theorem joinAB (W : World) (pa pb : Option Addr) (ha : Rd W pa (leafT sA)) (hb : Rd W pb (leafT sB)) : Calls Try.prog 27 #[.slice (some ⟨W.heap.size, 0, none⟩) 2 2] (W.alloc (.cells #[.pointer pa, .pointer pb] 38)) fun e w' => ∃ a : Nat, e = .returned (.pointer (some ⟨a, 0, none⟩)) ∧ KS W w' (some ⟨a, 0, none⟩) tAB :=
  (join_calls _ (fun _ => True) _ 2 2 _ _ (two_ptr W pa pb _ _ ha hb) (by omega) (by omega) lAB.even (lAB.sm (by omega))).mono fun e w' ⟨a, he, hp, hb⟩ => ⟨a, he, hp.rd, below_step (below_alloc (Below.refl _ _) _) hb⟩
theorem leafAt (W : World) (s : ByteArray) (h : fits s = true) : Calls Try.prog 32 #[.string s] W fun e w' => ∃ a : Nat, e = .returned (.pointer (some ⟨a, 0, none⟩)) ∧ KS W w' (some ⟨a, 0, none⟩) (leafT s) :=
  (leaf_at W h).mono fun e w' ⟨a, he, hp, hb⟩ => ⟨a, he, hp.rd, hb⟩
set_option maxHeartbeats 4000000 in
set_option maxRecDepth 100000 in
theorem lives_calls (w : World) : Calls Try.prog 23 #[] w fun e w' => e = .returned (.bool true) ∧ Below w.heap.size w w' := by
  have LA : Aside0 (∀ W, Calls Try.prog 32 #[.string ⟨#[97]⟩] W fun e w' => ∃ a : Nat, e = .returned (.pointer (some ⟨a, 0, none⟩)) ∧ KS W w' (some ⟨a, 0, none⟩) (leafT sA)) := ⟨fun W => leafAt W sA fA⟩
  have LB : Aside0 (∀ W, Calls Try.prog 32 #[.string ⟨#[98]⟩] W fun e w' => ∃ a : Nat, e = .returned (.pointer (some ⟨a, 0, none⟩)) ∧ KS W w' (some ⟨a, 0, none⟩) (leafT sB)) := ⟨fun W => leafAt W sB fB⟩
  have HH : Aside0 (∀ W p, Rd W p tAB → Calls Try.prog 26 #[.pointer p] W fun e w' => e = .returned (.int .i64 1) ∧ W = w') := ⟨fun W p h => by have := height_calls W p tAB h; rw [tAB_height] at this; exact this⟩
  have HX : Aside0 (∀ W p, Rd W p tAB → Calls Try.prog 29 #[.pointer p] W fun e w' => e = .returned (.string ⟨#[97, 98]⟩) ∧ Below W.heap.size W w') := ⟨fun W p h => by
    have := text_calls W p tAB h (by rw [tAB_chunks]; decide) (by rw [tAB_cat]; decide)
    rw [tAB_cat] at this; exact this⟩
  have HF : Aside0 (∀ W p, Rd W p tAB → Calls Try.prog 35 #[.pointer p] W fun e w' => e = .returned (.string ⟨#[97]⟩) ∧ Drawn0 W w') := ⟨fun W p h => by have := first_calls W p tAB h; rw [tAB_first] at this; exact this⟩
  go_enter Try.func23, Try.ntmps23
  go_wp2_with (first
    | (go_at_call 32; (with_reducible refine (LA.out _).mono ?_); rintro e w1 ⟨a, rfl, h⟩; have H1 := Aside0.mk h; clear h LA)
    | (go_at_call 32; (with_reducible refine (LB.out _).mono ?_); rintro e w2 ⟨b, rfl, h⟩; have H2 := Aside0.mk (And.intro h (H1.out.later h.bel)); clear h LB)
    | (go_at_call 27; (with_reducible refine (joinAB _ _ _ H2.out.2.r H2.out.1.r).mono ?_); rintro e w3 ⟨g, rfl, h⟩; have HS : Aside0 (KS w _ (some ⟨g, 0, none⟩) tAB) := ⟨⟨h.r, below_step H2.out.2.bel h.bel⟩⟩; clear h H2)
    | (go_at_call 26; (with_reducible refine (HH.out _ _ HS.out.r).mono ?_); rintro e w4 ⟨rfl, rfl⟩)
    | (go_at_call 29; (with_reducible refine (HX.out _ _ HS.out.r).mono ?_); rintro e w5 ⟨rfl, hb⟩; have n0_ := Aside0.mk (HS.out.later hb); clear HS hb; have HS := n0_; clear n0_)
    | (go_at_call 35; (with_reducible refine (HF.out _ _ HS.out.r).mono ?_); rintro e w6 ⟨rfl, hd⟩; have n0_ := Aside0.mk (HS.out.later hd.below); clear HS hd; have HS := n0_; clear n0_)
    | (go_at_call 30; (with_reducible refine (right_calls tAB_fine _ _ HS.out.r).mono ?_); rintro e w7 ⟨rfl, hb⟩; have n0_ := Aside0.mk (HS.out.later hb); clear HS hb; have HS := n0_; clear n0_))
  go_ret
  exact ⟨rfl, HS.out.bel⟩
end Go.Proofs.Ytgkjagfdlhcgjaa.Km
