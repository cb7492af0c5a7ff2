import Derived.Test.YtgkjagfdlhcgjaaKe
/- Up: the walk. -/
namespace Go.Proofs.Ytgkjagfdlhcgjaa.Kg
open Go.RowKit Go.Proofs.Ytgkjagfdlhcgjaa.QK Go.Proofs.Ytgkjagfdlhcgjaa.Kt Go.Proofs.Ytgkjagfdlhcgjaa.Ka Go.Proofs.Ytgkjagfdlhcgjaa.Kb Go.Proofs.Ytgkjagfdlhcgjaa.Kd_ Go.Proofs.Ytgkjagfdlhcgjaa.Ke Go.Proofs.Ytgkjagfdlhcgjaa.Kf Go.Proofs.YtgkjagfdlhcgjaaW.PrintWords Go.Proofs.YtgkjagfdlhcgjaaW.PrintLast Go.Proofs.YtgkjagfdlhcgjaaW.PrintMore
set_option linter.unusedVariables false
set_option linter.unusedSimpArgs false
/-- a round's row -/
structure Ro (w W : World) (ok : Nat → Prop) (A : Option Addr) (n cp : Nat) (ps : List (Option Addr)) (ts0 ts : List Tr) (d : Int) (m : Nat) : Prop where
  r : Rk W (fun k => ok k ∨ w.heap.size ≤ k) A n ps ts
  lv : Lv d ts
  up : upT ts = upT ts0
  n0 : n ≠ 0
  cp_ : n ≤ cp
  hm : n ≤ 1000000
  hd : d + n ≤ 1000000
  lt : n + 1 ≤ m
  bel : Below w.heap.size w W
/-- the inner round -/
structure Ri (w wr W : World) (ok : Nat → Prop) (A : Option Addr) (n cp : Nat) (ps : List (Option Addr)) (tr ts : List Tr) (d : Int) (A3 : Option Addr) (cp3 : Nat) (ps3 : List (Option Addr)) (ts3 : List Tr) (m : Nat) : Prop where
  r : Rk wr (fun k => (ok k ∨ w.heap.size ≤ k) ∧ k < wr.heap.size) A n ps ts
  lv : Lv d ts
  n0 : n = 0 ∨ 2 ≤ n
  cp_ : n ≤ cp
  hm : ps3.length + n ≤ 1000000
  hd : d ≤ 1000000
  lt : n + 1 ≤ m
  bel : Below wr.heap.size wr W
  row : kPtr.R 38 W wr.heap.size (fun _ => True) (.slice A3 ps3.length cp3) ps3
  ts_ : Ts W (fun k => ok k ∨ w.heap.size ≤ k) (.slice A3 ps3.length cp3) ps3 ts3
  lev : ts3 ++ level ts = level tr
theorem Ri.first {w wr : World} {ok : Nat → Prop} {A : Option Addr} {n cp : Nat} {ps : List (Option Addr)} {ts0 ts : List Tr} {d : Int} {m : Nat} (h : Ro w wr ok A n cp ps ts0 ts d m) (h8 : 8 < n) : Ri w wr wr ok A n cp ps ts ts d none 0 [] [] (n + 1) :=
  ⟨h.r.bound, h.lv, .inr (by omega), h.cp_, by have := h.hm; simpa using this, by have := h.hd; omega, Nat.le_refl _, Below.refl _ _, Kd.R_nil _ _ _ _ _, Ts.nil _ _ _, rfl⟩
theorem Ri.last {w wr W : World} {ok : Nat → Prop} {A A1 : Option Addr} {n n1 cp cp1 : Nat} {ps ps1 : List (Option Addr)} {ts0 tr ts1 : List Tr} {d : Int} {A3 : Option Addr} {cp3 : Nat} {ps3 : List (Option Addr)} {ts3 : List Tr} {m m2 : Nat}
    (h : Ro w wr ok A n cp ps ts0 tr d (m + 1)) (h8 : 8 < n) (k : Ri w wr W ok A1 n1 cp1 ps1 tr ts1 d A3 cp3 ps3 ts3 m2) (h0 : n1 = 0) : Ro w W ok A3 ps3.length cp3 ps3 ts0 ts3 (d + 1) m := by
  have e0 : ts1 = [] := List.eq_nil_of_length_eq_zero (by rw [k.r.len]; exact h0)
  have e1 := k.lev
  rw [e0, level_nil, List.append_nil] at e1
  have hl := k.ts_.len
  have hn : tr.length = n := h.r.len
  obtain ⟨q1, q2, q3⟩ := Kd.R_reads' k.row
  have hlt : ts3.length < n := by
    rw [e1]
    rcases level_len _ tr rfl with h' | h' <;> omega
  have hne : ts3.length ≠ 0 := by
    rw [e1, level_cons (by omega)]; simp
  have hle := h.lt
  have hd := h.hd
  have hm := h.hm
  exact ⟨⟨q3, by rw [hl], fun j p t hp ht => (k.ts_.r j p t hp ht).mono (fun k hk => hk.1)⟩, by rw [e1]; exact (level_lv _ d tr rfl h.lv).1, by rw [e1, ← upT_level (by omega)]; exact h.up, by omega, q2, by omega, by omega, by omega, below_step h.bel k.bel⟩
theorem Ri.join {w wr W : World} {ok : Nat → Prop} {A : Option Addr} {n cp : Nat} {ps : List (Option Addr)} {tr ts : List Tr} {d : Int} {A3 : Option Addr} {cp3 : Nat} {ps3 : List (Option Addr)} {ts3 : List Tr} {m : Nat}
    (k : Ri w wr W ok A n cp ps tr ts d A3 cp3 ps3 ts3 m) (h0 : n ≠ 0) (hw : w.heap.size ≤ wr.heap.size) : Calls Try.prog 27 #[.slice A (grp n) cp] W fun e w' => ∃ q, e = .returned (.pointer q) ∧
      Rp w' (fun k => (ok k ∨ w.heap.size ≤ k) ∧ some k ≠ (Value.slice A3 ps3.length cp3).ownBlock) q (joinT (ts.take (grp n))) ∧ Below W.heap.size W w' := by
  have hg := grp_pos h0
  have h2 := k.n0.resolve_left h0
  have hg2 := grp_two h2
  have hbs : ∀ x, (Value.slice A3 ps3.length cp3).ownBlock = some x → wr.heap.size ≤ x ∧ x < W.heap.size := fun x hx => ⟨Kd.R_base k.row x hx, Kd.R_lt k.row x hx⟩
  have hr : Rk W (fun k => (ok k ∨ w.heap.size ≤ k) ∧ some k ≠ (Value.slice A3 ps3.length cp3).ownBlock) A (grp n) (ps.take (grp n)) (ts.take (grp n)) :=
    ((k.r.take (grp n) hg.2.1).later k.bel).mono (fun x hx => ⟨hx.1, fun he => by have := hbs x he.symm; omega⟩)
  have hlv := k.lv.take (grp n)
  refine (join_calls W _ A (grp n) cp _ _ hr hg2.1 hg.2.2 hlv.even (hlv.sm k.hd)).mono fun e w' ⟨a, he, hp, hb⟩ => ⟨_, he, hp.mono (fun x hx => ?_), hb⟩
  rcases hx with hx | hx
  · exact hx
  · have := k.bel.size
    exact ⟨.inr (by omega), fun he => by have := hbs x he.symm; omega⟩
theorem Ri.next {w wr W W2 w1 : World} {ok : Nat → Prop} {A A' : Option Addr} {n cp : Nat} {ps : List (Option Addr)} {tr ts : List Tr} {d : Int} {A3 : Option Addr} {cp3 : Nat} {ps3 : List (Option Addr)} {ts3 : List Tr} {m : Nat} {q : Option Addr} {v1 : Value}
    (k : Ri w wr W ok A n cp ps tr ts d A3 cp3 ps3 ts3 (m + 1)) (h0 : n ≠ 0) (hA : A' = if cp = grp n then A else A.map (·.add (grp n))) (hb : Below W.heap.size W W2)
    (hp : Rp W2 (fun k => (ok k ∨ w.heap.size ≤ k) ∧ some k ≠ (Value.slice A3 ps3.length cp3).ownBlock) q (joinT (ts.take (grp n))))
    (ho : kPtr.R 38 w1 wr.heap.size (fun _ => True) v1 (ps3 ++ [q])) (hb1 : Below wr.heap.size wr w1) (hg : W2.grownBy w1 (Value.slice A3 ps3.length cp3).ownBlock) (hat : v1.ownBlock = (Value.slice A3 ps3.length cp3).ownBlock ∨ ∃ b, v1.ownBlock = some b ∧ W2.heap.size ≤ b) :
    ∃ A4 cp4 ps4, v1 = .slice A4 (ps4 : List (Option Addr)).length cp4 ∧ ∃ ts4, Ri w wr w1 ok A' (n - grp n) (cp - grp n) (ps.drop (grp n)) tr (ts.drop (grp n)) d A4 cp4 ps4 ts4 m := by
  have hgp := grp_pos h0
  have h2 := k.n0.resolve_left h0
  have hg2 := grp_two h2
  have hcp := k.cp_
  have hlt := k.lt
  have hm := k.hm
  obtain ⟨A4, cp4, rfl⟩ := Kd.R_slice ho
  have hl : ts.length = n := k.r.len
  refine ⟨A4, cp4, ps3 ++ [q], rfl, ts3 ++ [joinT (ts.take (grp n))], ⟨?_, k.lv.drop _, hg2.2, by omega, ?_, k.hd, by omega, hb1, ho, ?_, ?_⟩⟩
  · rw [hA]; exact k.r.drop (grp n) hgp.2.1 hcp
  · rw [List.length_append, List.length_singleton]; omega
  · exact (k.ts_.later hb).app hp hg hat
  · rw [List.append_assoc, ← k.lev, level_cons (ts := ts) (by omega), hl]; rfl
theorem Ri.later {w wr W W2 : World} {ok : Nat → Prop} {A : Option Addr} {n cp : Nat} {ps : List (Option Addr)} {tr ts : List Tr} {d : Int} {A3 : Option Addr} {cp3 : Nat} {ps3 : List (Option Addr)} {ts3 : List Tr} {m : Nat}
    (k : Ri w wr W ok A n cp ps tr ts d A3 cp3 ps3 ts3 m) (hb : Below W.heap.size W W2) : Ri w wr W2 ok A n cp ps tr ts d A3 cp3 ps3 ts3 m :=
  ⟨k.r, k.lv, k.n0, k.cp_, k.hm, k.hd, k.lt, below_step k.bel hb, Kd.R_below k.row hb, k.ts_.later hb, k.lev⟩
set_option maxHeartbeats 8000000 in
set_option maxRecDepth 100000 in
theorem up_calls (w : World) (ok : Nat → Prop) (d : Int) (A : Option Addr) (n cp : Nat) (ps : List (Option Addr)) (ts : List Tr) (H : Rk w ok A n ps ts) (hL : Lv d ts) (h0 : n ≠ 0) (hcp : n ≤ cp) (hm : n ≤ 1000000) (hd : d + n ≤ 1000000) :
    Calls Try.prog 25 #[.slice A n cp] w (UpPost w ok (upT ts)) := by
  have HE : Aside0 (Calls Try.prog 48 #[.slice A n cp] w fun e w' => e = .returned (.bool true) ∧ Drawn0 w w') := ⟨by have := even_calls w A n cp ps ts H.rs; rw [hL.even] at this; exact this⟩
  have HR0 : Aside0 (∀ W, Below w.heap.size w W → Ro w W ok A n cp ps ts ts d (n + 1)) := ⟨fun W hb => ⟨(H.later hb).mono (fun k hk => .inl hk), hL, rfl, h0, hcp, hm, hd, Nat.le_refl _, hb⟩⟩
  obtain ⟨i0, hi0, _⟩ := info_parts infoP
  have HI := Aside0.mk hi0
  have n0 : ((n : Int) == 0) = false := beq_eq_false_iff_ne.mpr (by omega)
  have n1 : (n == 0) = false := beq_eq_false_iff_ne.mpr h0
  clear H hL h0 hcp hm hd hi0
  go_enter Try.func25, Try.ntmps25
  go_wp2_with (go_at_call 48; (with_reducible refine HE.out.mono ?_); rintro e wd ⟨rfl, hd⟩; have HR := Aside0.mk (HR0.out _ hd.below); clear hd)
  go_loopg [0] (n + 1) (fun kq v0 w' => ∃ (A : Option Addr) (n cp : Nat) (ps : List (Option Addr)) (tr : List Tr) (d : Int), v0 = .slice A n cp ∧ Aside0 (Ro w w' ok A n cp ps ts tr d kq))
  case atStart => exact ⟨A, n, cp, ps, ts, d, rfl, HR⟩
  case round =>
    clear HR HR0 HE n0 n1
    obtain ⟨A, n, cp, ps, tr, d, rfl, HR⟩ := hrel
    rename World => wo
    obtain ⟨k1, rfl⟩ : ∃ k1, gk = k1 + 1 := ⟨gk - 1, by have := HR.out.lt; omega⟩
    by_cases h8 : 8 < n
    · have h8b : decide (8 < n) = true := decide_eq_true h8
      have h8c : decide (8 < (n : Int)) = true := decide_eq_true (by omega)
      have H8 := Aside0.mk h8
      clear h8
      go_wp2
      go_loopg [0, 3] (n + 1) (fun kq v0 v3 w' => ∃ (A1 : Option Addr) (n1 cp1 : Nat) (ps1 : List (Option Addr)) (ts1 : List Tr) (A3 : Option Addr) (cp3 : Nat) (ps3 : List (Option Addr)) (ts3 : List Tr), v0 = .slice A1 n1 cp1 ∧ v3 = .slice A3 ps3.length cp3 ∧ Aside0 (Ri w wo w' ok A1 n1 cp1 ps1 tr ts1 d A3 cp3 ps3 ts3 kq))
      case atStart => exact ⟨A, n, cp, ps, tr, none, 0, [], [], rfl, rfl, ⟨Ri.first HR.out H8.out⟩⟩
      case round =>
        obtain ⟨A1, n1, cp1, ps1, ts1, A3, cp3, ps3, ts3, rfl, rfl, HK⟩ := hrel
        obtain ⟨k2, rfl⟩ : ∃ k2, gk = k2 + 1 := ⟨gk - 1, by have := HK.out.lt; omega⟩
        by_cases hz : 0 < n1
        · have hzb : decide (0 < n1) = true := decide_eq_true hz
          have hzc : decide (0 < (n1 : Int)) = true := decide_eq_true (by omega)
          have HZ : Aside0 (n1 ≠ 0) := ⟨by omega⟩
          have hg := grp_pos HZ.out
          have hc1 := cut_to (P := Try.prog) 35 38 .i64 Try.underlying35 HI.out A1 n1 cp1 ((grp n1 : Nat) : Int) (by omega) (by omega) HK.out.cp_
          have hc2 := cut_from (P := Try.prog) 35 38 .i64 Try.underlying35 HI.out 1 (infoC HI.out) A1 n1 cp1 ((grp n1 : Nat) : Int) (by omega) (by omega)
          rw [Int.toNat_natCast] at hc1 hc2
          rw [Nat.mul_one] at hc2
          obtain ⟨A4, hA4⟩ : ∃ A4 : Option Addr, A4 = if cp1 = grp n1 then A1 else A1.map (·.add (grp n1)) := ⟨_, rfl⟩
          rw [← hA4] at hc2
          have HA4 := Aside0.mk hA4
          have HG := Aside0.mk (fun W => grp_calls W n1)
          obtain ⟨gn, hgn⟩ : ∃ gn, grp n1 = gn := ⟨_, rfl⟩
          rw [hgn] at hc1 hc2 HG
          have HGN := Aside0.mk hgn
          clear hz hA4 hg hgn
          go_wp2_with (first | (go_at_call 49; (with_reducible refine (HG.out _).mono ?_); rintro e w2 ⟨rfl, hb⟩; have HK2 := Aside0.mk (HK.out.later hb); clear HK hb; have hj := HK2.out.join HZ.out HR.out.bel.size; rw [HGN.out] at hj; have HJ := Aside0.mk hj; clear hj) | (go_at_call 27; (with_reducible refine HJ.out.mono ?_); rintro e w3 ⟨q, rfl, hp, hb⟩; have HP := Aside0.mk hp; have HB := Aside0.mk hb; clear hp hb HJ) | ((with_reducible refine gate_builtin (b := .append) (xs := #[.tmp 22, .tmp 27]) rfl ?_); at_builtin; refine Kd.R_append kPtr (w0 := wo) wo.heap.size rfl (.tmp 22) (.tmp 27) 35 38 (.pointer none) 8 rfl Try.underlying35 infoP rfl (by decide) (by omega) (.slice A3 ps3.length cp3) ps3 q [.pointer q] (fun _ => True) (fun _ => False) rfl rfl ?aP (fun _ hk => hk.elim) (fun _ _ => trivial) (Kd.R_below HK2.out.row HB.out) (below_step HK2.out.bel HB.out) (below_step HK2.out.bel HB.out).size (by have := HK2.out.hm; omega) ?_; (case aP => exact rfl); intro v1 w4 ho hb1 hg hat; obtain ⟨A5, cp5, ps5, rfl, ts5, hk⟩ := HK2.out.next HZ.out HA4.out HB.out (by rw [HGN.out]; exact HP.out) ho hb1 hg hat; rw [HGN.out] at hk; have HK5 := Aside0.mk hk; clear ho hb1 hg hat hk HB HP))
          go_roundg k2
          case measure => omega
          case rel => exact ⟨A4, n1 - gn, cp1 - gn, ps1.drop gn, ts1.drop gn, A5, cp5, ps5, ts5, rfl, rfl, HK5⟩
        · have hzb : decide (0 < n1) = false := decide_eq_false hz
          have hzc : decide (0 < (n1 : Int)) = false := decide_eq_false (by omega)
          have HL := Aside0.mk (Ri.last HR.out H8.out HK.out (by omega))
          clear hz HK
          go_wp2
          go_roundg k1
          case measure => omega
          case rel => exact ⟨A3, ps3.length, cp3, ps3, ts3, d + 1, rfl, HL⟩
    · have h8b : decide (8 < n) = false := decide_eq_false h8
      have h8c : decide (8 < (n : Int)) = false := decide_eq_false (by omega)
      have hlen : tr.length = n := HR.out.r.len
      by_cases h1 : n = 1
      · subst h1
        obtain ⟨ad0, p0, q0, hx0, hp0, _⟩ := HR.out.r.rs.at_ 0 (by omega) (by omega)
        subst q0
        have hx0' : wo.cell? ad0 = some (.pointer p0) := by
          have e : ad0.add 0 = ad0 := by simp [Addr.add]
          rw [← e]; exact hx0
        have e1 : rdT tr 0 = upT ts := by rw [← HR.out.up, upT_one hlen]
        have hrp := HR.out.r.r 0 p0 (rdT tr 0) hp0 (by show tr[0]? = some (tr.getD 0 .nil); rw [List.getD_eq_getElem?_getD, List.getElem?_eq_getElem (by omega)]; rfl)
        rw [e1] at hrp
        have HP := Aside0.mk hrp
        clear h8 hx0 hp0 e1 hrp hlen
        go_wp2
        go_ret
        exact ⟨p0, rfl, HP.out, HR.out.bel⟩
      · have h1b : (n == 1) = false := beq_eq_false_iff_ne.mpr h1
        have h1c : ((n : Int) == 1) = false := beq_eq_false_iff_ne.mpr (by omega)
        have hn0 := HR.out.n0
        have hj := join_calls wo _ A n cp ps tr HR.out.r (by omega) (by omega) HR.out.lv.even (HR.out.lv.sm (by have := HR.out.hd; omega))
        rw [← upT_join (ts := tr) (by omega) (by omega), HR.out.up] at hj
        have HJ := Aside0.mk hj
        clear h8 h1 hn0 hj hlen
        go_wp2_with (go_at_call 27; (with_reducible refine HJ.out.mono ?_); rintro e w3 ⟨a, rfl, hp, hb⟩; have HP := Aside0.mk hp; have HB := Aside0.mk hb; clear hp hb HJ)
        go_ret
        refine ⟨_, rfl, HP.out.mono (fun k hk => ?_), below_step HR.out.bel HB.out⟩
        rcases hk with hk | hk
        · exact hk
        · exact .inr (Nat.le_trans HR.out.bel.size hk)
end Go.Proofs.Ytgkjagfdlhcgjaa.Kg
