import Derived.Test.YtgkjagfdlhcgjaaKa
import Derived.StillTailTactics
import Derived.Deep.Slices
import Derived.Deep.Strs
/- Join: a knot over others. -/
namespace Go.Proofs.Ytgkjagfdlhcgjaa.Kd_
open Go.RowKit Go.Proofs.Ytgkjagfdlhcgjaa.QK Go.Proofs.Ytgkjagfdlhcgjaa.Kt Go.Proofs.Ytgkjagfdlhcgjaa.Ka Go.Proofs.Ytgkjagfdlhcgjaa.Kb Go.Proofs.YtgkjagfdlhcgjaaW.PrintWords Go.Proofs.YtgkjagfdlhcgjaaW.PrintLast Go.Proofs.YtgkjagfdlhcgjaaW.PrintMore
set_option linter.unusedVariables false
set_option linter.unusedSimpArgs false
/-! ### two counts -/
theorem wsum {a b : Int} (ha : 0 ≤ a ∧ a ≤ 1000000000000) (hb : 0 ≤ b ∧ b ≤ 1000000000000) : wrap64 (a + b) = a + b := by unfold wrap64; omega
theorem nz3 (a b c : Int) : ((!(a == 0) || (!(b == 0) || (!(c == 0)))) = true) ↔ ¬ (a = 0 ∧ b = 0 ∧ c = 0) := by
  by_cases h1 : a = 0 <;> by_cases h2 : b = 0 <;> by_cases h3 : c = 0 <;> simp [h1, h2, h3]
def SM (x : Int) : Prop := 0 ≤ x ∧ x ≤ 1000000000000
theorem add2_f (a b c d e f : Int) (ha : SM a) (hb : SM b) (hc : SM c) (hd : SM d) (he : SM e) (hf : SM f) : tally_Add.f 3 [(⟨a, b, c⟩ : S47), ⟨d, e, f⟩] = some (a + d, b + e, c + f) := by
  have r0 : rd_T47 [(⟨a, b, c⟩ : S47), ⟨d, e, f⟩] 0 = ⟨a, b, c⟩ := rfl
  have r1 : rd_T47 [(⟨a, b, c⟩ : S47), ⟨d, e, f⟩] 1 = ⟨d, e, f⟩ := rfl
  have z : ∀ x, SM x → wrap64 (0 + x) = x := fun x hx => by unfold SM at hx; unfold wrap64; omega
  have w1 : wrap64 (0 + 1) = 1 := by unfold wrap64; omega
  have w2 : wrap64 (1 + 1) = 2 := by unfold wrap64; omega
  have last : ∀ x y v, tally_Add.l0 1 [(⟨a, b, c⟩ : S47), ⟨d, e, f⟩] 2 2 x y v = some (x, y, v) := fun x y v => by
    rw [tally_Add.l0, if_neg (by omega)]
  have second : tally_Add.l0 2 [(⟨a, b, c⟩ : S47), ⟨d, e, f⟩] 2 1 a b c = some (a + d, b + e, c + f) := by
    rw [tally_Add.l0, if_pos (by omega), if_pos (by omega), if_pos (show (1 : Int) < (([(⟨a, b, c⟩ : S47), ⟨d, e, f⟩] : List S47).length : Int) by show (1 : Int) < ((2 : Nat) : Int); omega), r1, w2]
    by_cases h : d = 0 ∧ e = 0 ∧ f = 0
    · rw [if_neg (by rw [nz3]; exact fun hn => hn h), last]
      obtain ⟨rfl, rfl, rfl⟩ := h
      rw [Int.add_zero, Int.add_zero, Int.add_zero]
    · rw [if_pos (by rw [nz3]; exact h)]
      unfold tally_plus.f
      rw [Option.bind_some]
      dsimp only
      rw [last, wsum ha hd, wsum hb he, wsum hc hf]
  unfold tally_Add.f
  show tally_Add.l0 3 _ ((2 : Nat) : Int) 0 0 0 0 = _
  rw [show ((2 : Nat) : Int) = 2 from rfl, tally_Add.l0, if_pos (by omega), if_pos (by omega), if_pos (show (0 : Int) < (([(⟨a, b, c⟩ : S47), ⟨d, e, f⟩] : List S47).length : Int) by show (0 : Int) < ((2 : Nat) : Int); omega), r0, w1]
  by_cases h : a = 0 ∧ b = 0 ∧ c = 0
  · rw [if_neg (by rw [nz3]; exact fun hn => hn h)]
    obtain ⟨rfl, rfl, rfl⟩ := h
    exact second
  · rw [if_pos (by rw [nz3]; exact h)]
    unfold tally_plus.f
    rw [Option.bind_some]
    dsimp only
    rw [z a ha, z b hb, z c hc]
    exact second
theorem two_row {W : World} {g : Nat} {a b c d e f : Int} (h : W.heap[g]? = some (.cells #[.int .i64 a, .int .i64 b, .int .i64 c, .int .i64 d, .int .i64 e, .int .i64 f] 47 (0, 0))) : Kd.C k47 W (some ⟨g, 0, none⟩) 2 [⟨a, b, c⟩, ⟨d, e, f⟩] := by
  refine ⟨rfl, by omega, fun _ => ⟨_, rfl, fun j p hj => ?_⟩⟩
  have hc : ∀ i u, (#[Value.int .i64 a, .int .i64 b, .int .i64 c, .int .i64 d, .int .i64 e, .int .i64 f] : Array Value)[i]? = some u → W.cell? ⟨g, i, none⟩ = some u := fun i u hu => (blk_cell h i).trans hu
  rcases j with _ | _ | j
  · obtain rfl : (⟨a, b, c⟩ : S47) = p := by simpa using hj
    refine ⟨[.int .i64 a, .int .i64 b, .int .i64 c], rfl, k47_mk W ⟨a, b, c⟩, fun i u hu => ?_⟩
    rw [add_plain]
    apply hc
    have sz : k47.sz = 3 := rfl
    rw [sz]
    rcases i with _ | _ | _ | i
    · simpa using hu
    · simpa using hu
    · simpa using hu
    · simp at hu
  · obtain rfl : (⟨d, e, f⟩ : S47) = p := by simpa using hj
    refine ⟨[.int .i64 d, .int .i64 e, .int .i64 f], rfl, k47_mk W ⟨d, e, f⟩, fun i u hu => ?_⟩
    rw [add_plain]
    apply hc
    have sz : k47.sz = 3 := rfl
    rw [sz]
    rcases i with _ | _ | _ | i
    · simpa using hu
    · simpa using hu
    · simpa using hu
    · simp at hu
  · simp at hj
theorem add2_calls (W : World) (a b c d e f : Int) (ha : SM a) (hb : SM b) (hc : SM c) (hd : SM d) (he : SM e) (hf : SM f) :
    Calls Try.prog 51 #[.slice (some ⟨W.heap.size, 0, none⟩) 2 2] (W.alloc (.cells #[.int .i64 a, .int .i64 b, .int .i64 c, .int .i64 d, .int .i64 e, .int .i64 f] 47)) fun e_ w' => e_ = .returned (.agg #[.int .i64 (a + d), .int .i64 (b + e), .int .i64 (c + f)]) ∧ Below W.heap.size W w' := by
  refine (tally_Add.calls 3 (some ⟨W.heap.size, 0, none⟩) 2 [⟨a, b, c⟩, ⟨d, e, f⟩] _ _ _ _ (two_row (heap_alloc_new W _)) (by simp) (add2_f a b c d e f ha hb hc hd he hf)).mono fun e_ w' ⟨h1, h2⟩ => ⟨h1, ?_⟩
  exact (below_alloc (Below.refl _ _) _).trans (h2.mono (by simp))
theorem add2_drew (W : World) (a b c d e f : Int) (ha : SM a) (hb : SM b) (hc : SM c) (hd : SM d) (he : SM e) (hf : SM f) :
    Calls Try.prog 51 #[.slice (some ⟨W.drew.heap.size, 0, none⟩) 2 2] (W.alloc (.cells #[.int .i64 a, .int .i64 b, .int .i64 c, .int .i64 d, .int .i64 e, .int .i64 f] 47)).drew fun e_ w' => e_ = .returned (.agg #[.int .i64 (a + d), .int .i64 (b + e), .int .i64 (c + f)]) ∧ Below W.heap.size W w' := by
  have h := add2_calls W.drew a b c d e f ha hb hc hd he hf
  have e1 : (W.alloc (.cells #[.int .i64 a, .int .i64 b, .int .i64 c, .int .i64 d, .int .i64 e, .int .i64 f] 47)).drew = W.drew.alloc (.cells #[.int .i64 a, .int .i64 b, .int .i64 c, .int .i64 d, .int .i64 e, .int .i64 f] 47) := rfl
  rw [e1]
  exact h.mono fun e_ w' ⟨h1, h2⟩ => ⟨h1, (below_drew1 (Below.refl _ _)).trans h2⟩
/-! ### the row, the knot above -/
/-- a row of knots whose blocks are ok -/
structure Rk (w : World) (ok : Nat → Prop) (A : Option Addr) (n : Nat) (ps : List (Option Addr)) (ts : List Tr) : Prop where
  c : kPtr.C w A n ps
  len : ts.length = n
  r : ∀ (j : Nat) (p : Option Addr) (t : Tr), ps[j]? = some p → ts[j]? = some t → Rp w ok p t
theorem Rk.rs {w : World} {ok : Nat → Prop} {A : Option Addr} {n : Nat} {ps : List (Option Addr)} {ts : List Tr} (h : Rk w ok A n ps ts) : Rs w A n ps ts := ⟨h.c, h.len, fun j p t hp ht => (h.r j p t hp ht).rd⟩
def sumB (ts : List Tr) : Int := (ts.map Tr.cb).sum
def sumR (ts : List Tr) : Int := (ts.map Tr.cr).sum
def sumL (ts : List Tr) : Int := (ts.map Tr.cl).sum
def joinT (ts : List Tr) : Tr := .node ((rdT ts 0).h0 + 1) (sumB ts) (sumR ts) (sumL ts) ⟨#[]⟩ ts
/-- counts in range -/
def SmT (t : Tr) : Prop := (0 ≤ t.cb ∧ t.cb ≤ 100000000000) ∧ (0 ≤ t.cr ∧ t.cr ≤ 100000000000) ∧ (0 ≤ t.cl ∧ t.cl ≤ 100000000000) ∧ 0 ≤ t.h0 ∧ t.h0 ≤ 1000000
theorem sum_take (f : Tr → Int) (ts : List Tr) (i : Nat) (hi : i < ts.length) : ((ts.take (i + 1)).map f).sum = ((ts.take i).map f).sum + f (rdT ts i) := by
  rw [List.take_succ_eq_append_getElem hi, List.map_append, List.sum_append]
  unfold rdT
  rw [show ((i : Int)).toNat = i by omega, List.getD_eq_getElem?_getD, List.getElem?_eq_getElem hi]
  simp
theorem sum_bound (f : Tr → Int) (l : List Tr) (hf : ∀ t ∈ l, 0 ≤ f t ∧ f t ≤ 100000000000) : 0 ≤ (l.map f).sum ∧ (l.map f).sum ≤ 100000000000 * l.length := by
  induction l with
  | nil => simp
  | cons t ts ih =>
    have h1 := hf t (by simp)
    have h2 := ih (fun x hx => hf x (by simp [hx]))
    rw [List.map_cons, List.sum_cons, List.length_cons]
    omega
theorem sum_SM (f : Tr → Int) (ts : List Tr) (h8 : ts.length ≤ 8) (hf : ∀ t ∈ ts, 0 ≤ f t ∧ f t ≤ 100000000000) (i : Nat) : SM ((ts.take i).map f).sum := by
  have h := sum_bound f (ts.take i) (fun t ht => hf t (List.mem_of_mem_take ht))
  have hl : (ts.take i).length ≤ 8 := by rw [List.length_take]; omega
  unfold SM
  omega
def okJ (w : World) (k : Nat) : Prop := w.heap.size ≤ k
/-- what stands in the new knot's block while it is filled -/
def Blk (w' : World) (g : Nat) (h b r l : Int) (A : Option Addr) (n cp : Nat) : Prop := w'.heap[g]? = some (.cells #[.int .i64 h, .int .i64 b, .int .i64 r, .int .i64 l, .string ⟨#[]⟩, .slice A n cp] 51 (0, 0))
def JoinPost (w : World) (ok : Nat → Prop) (t : Tr) (e : Ending) (w' : World) : Prop := ∃ a : Nat, e = .returned (.pointer (some ⟨a, 0, none⟩)) ∧ Rp w' (fun k => ok k ∨ w.heap.size ≤ k) (some ⟨a, 0, none⟩) t ∧ Below w.heap.size w w'
theorem cells_kt {w : World} {p : Option Addr} {t : Tr} (H : Rd w p t) (hn : t.none = false) : ∃ a : Nat, p = some ⟨a, 0, none⟩ ∧ w.cell? ⟨a, 1, none⟩ = some (.int .i64 t.cb) ∧ w.cell? ⟨a, 2, none⟩ = some (.int .i64 t.cr) ∧ w.cell? ⟨a, 3, none⟩ = some (.int .i64 t.cl) := by
  obtain ⟨hh, b, r, l, s, kids, rfl⟩ := Tr.not_none hn
  obtain ⟨a, A, cp, ps, rfl, c0, c1, c2, c3, _⟩ := H.open_
  exact ⟨a, rfl, c1, c2, c3⟩
theorem even_none {ts : List Tr} (h : evenB ts = true) {i : Int} (h0 : 0 ≤ i) (hi : i < ts.length) : (rdT ts i).none = false ∧ (rdT ts i).h0 = (rdT ts 0).h0 := by
  have hm : rdT ts i ∈ ts := by
    unfold rdT; rw [List.getD_eq_getElem?_getD, List.getElem?_eq_getElem (by omega)]; exact List.getElem_mem _
  have h1 := (List.all_eq_true.mp h) _ hm
  unfold evenAt at h1
  rw [Bool.and_eq_true] at h1
  exact ⟨by simpa using h1.1, by simpa using h1.2⟩
set_option maxHeartbeats 8000000 in
set_option maxRecDepth 100000 in
theorem join_calls (w : World) (ok : Nat → Prop) (A : Option Addr) (n cp : Nat) (ps : List (Option Addr)) (ts : List Tr) (H : Rk w ok A n ps ts) (h2 : 2 ≤ n) (h8 : n ≤ 8) (he : evenB ts = true) (hs : ∀ t ∈ ts, SmT t) :
    Calls Try.prog 27 #[.slice A n cp] w (JoinPost w ok (joinT ts)) := by
  have hlen := H.len
  subst hlen
  have HR := Aside0.mk H
  have HE : Aside0 (∀ W, Rs W A ts.length ps ts → Calls Try.prog 48 #[.slice A ts.length cp] W fun e w' => e = .returned (.bool true) ∧ Drawn0 W w') := ⟨fun W hr => by have := even_calls W A ts.length cp ps ts hr; rw [he] at this; exact this⟩
  have HV := Aside0.mk he
  have HS := Aside0.mk hs
  have n2 : decide (ts.length < 2) = false := decide_eq_false (by omega)
  have n2i : decide ((ts.length : Int) < 2) = false := decide_eq_false (by omega)
  have n8 : decide (8 < ts.length) = false := decide_eq_false (by omega)
  have n8i : decide (8 < (ts.length : Int)) = false := decide_eq_false (by omega)
  have N28 : Aside0 (2 ≤ ts.length ∧ ts.length ≤ 8) := ⟨h2, h8⟩
  obtain ⟨ad0, p0, q0, hx0, hp0, hr0⟩ := H.rs.at_ 0 (by omega) (by omega)
  have hh := hs _ (show rdT ts 0 ∈ ts by unfold rdT; rw [List.getD_eq_getElem?_getD, List.getElem?_eq_getElem (by simp; omega)]; exact List.getElem_mem _)
  obtain ⟨a0, rfl, hc0⟩ := h_cell hr0 (even_none he (Int.le_refl 0) (by omega)).1
  subst q0
  have hx0' : w.cell? ad0 = some (.pointer (some ⟨a0, 0, none⟩)) := by
    have e : ad0.add 0 = ad0 := by simp [Addr.add]
    rw [← e]; exact hx0
  have X0 := Aside0.mk hx0'
  have C0 := Aside0.mk hc0
  obtain ⟨H1, hH1⟩ : ∃ x : Int, x = (rdT ts 0).h0 + 1 := ⟨_, rfl⟩
  have hw1 : wrap64 ((rdT ts 0).h0 + 1) = H1 := by rw [hH1]; unfold SmT at hh; unfold wrap64; omega
  have hw2 : IntKind.i64.wrap ((rdT ts 0).h0 + 1) = H1 := (i64_w _).trans hw1
  have HH := Aside0.mk hH1
  have z1 : 0 < ts.length := by omega
  have z1c := eq_true z1
  clear H he hs h2 h8 hx0 hp0 hr0 hh hx0' hc0 hH1 z1
  go_enter Try.func27, Try.ntmps27
  go_wp2_with (first | (go_at_call 48; (with_reducible refine (HE.out _ HR.out.rs).mono ?_); rintro e wd ⟨rfl, hd⟩; have HB0 := Aside0.mk hd.below; have HC1 := Aside0.mk (Kd.C_below HR.out.c hd.below); clear hd) | ((with_reducible refine gate_builtin (b := .append) (xs := #[.const (.slice none 0 0), .tmp 19]) rfl ?_); at_builtin; refine Kd.R_append_row (fun p => Value.pointer p) (none : Option Addr) (h1 := fun _ => rfl) (w0 := w) w.heap.size rfl (.const (.slice none 0 0)) (.tmp 19) 35 38 (.pointer none) 8 rfl Try.underlying35 infoP rfl (by decide) (.slice none 0 0) [] ps (some ad0) ts.length cp (fun k => w.heap.size ≤ k) rfl rfl (fun k hk => Nat.le_trans HB0.out.size hk) (Kd.R_nil _ _ _ _ _) HC1.out HB0.out HB0.out.size (by have := N28.out; simp only [List.length_nil]; omega) ?_; intro v1 wa ho hb hg hat; rw [List.nil_append] at ho; obtain ⟨A2, cp2, rfl⟩ := Kd.R_slice ho; have HO := Aside0.mk ho; have HB1 := Aside0.mk hb; clear ho hb hg hat HC1) | ((with_reducible refine gate_dst (N := 22) rfl ?_); refine box_event ?hg (N := 22) ?hd (cs := #[.int .i64 0, .int .i64 0, .int .i64 0, .int .i64 0, .string ⟨#[]⟩, .slice A2 ps.length cp2]) (t := 51) ?hr ?_; (case hd => rfl); (case hg => rfl); (case hr => first | (go_simp; done) | (go_simp; rfl)); intro gb hg wb hbox hb; have HB2 := Aside0.mk (below_step HB1.out hb); have BK : Aside0 (Blk wb gb 0 0 0 0 A2 ps.length cp2) := ⟨hbox⟩; have HO2 : Aside0 (kPtr.R 38 wb 0 (fun k => w.heap.size ≤ k ∧ k < gb) (.slice A2 ps.length cp2) ps) := ⟨Kd.R_below (Kd.R_lower (Kd.R_mono (Kd.R_bound HO.out) (fun k hk => ⟨hk.1, by rw [hg]; exact hk.2.2.1⟩)) (Nat.zero_le _)) hb⟩; have GE : Aside0 (w.heap.size ≤ gb) := ⟨by rw [hg]; exact HB1.out.size⟩; clear HB0 HB1 HO hb hg hbox; have x0 := pw_cell_below HB2.out X0.out; have y0 := pw_cell_below HB2.out C0.out; have z0 := (blk_cell BK.out 0).trans (rfl : _ = some (Value.int .i64 0)); have f0 := blk_frozen BK.out 0))
  have hst : Blk (wb.setCell ⟨gb, 0, none⟩ (.int .i64 H1)) gb H1 0 0 0 A2 ps.length cp2 := blk_put BK.out 0 (.int .i64 H1) rfl
  have HB3 := Aside0.mk (below_set (j := 0) (v := .int .i64 H1) HB2.out GE.out)
  have HO3 := Aside0.mk (Kd.R_far HO2.out (p := ⟨gb, 0, none⟩) (fun k hk => by show k ≠ gb; omega) (.int .i64 H1))
  have BK3 := Aside0.mk hst
  clear hst HB2 HO2 BK x0 y0 z0 f0
  go_loopg [37] (ts.length + 1) (fun kq v37 w' => ∃ x : Int, v37 = .int .i64 x ∧ Aside0 (0 ≤ x ∧ x + kq = ts.length + 1 ∧ 1 ≤ kq) ∧ Aside0 (Blk w' gb H1 (sumB (ts.take x.toNat)) (sumR (ts.take x.toNat)) (sumL (ts.take x.toNat)) A2 ps.length cp2) ∧ Aside0 (Below w.heap.size w w') ∧ Aside0 (kPtr.R 38 w' 0 (fun k => w.heap.size ≤ k ∧ k < gb) (.slice A2 ps.length cp2) ps))
  case atStart => exact ⟨0, (by first | rfl | (simp; done)), ⟨by omega⟩, BK3, HB3, HO3⟩
  case round =>
    clear BK3 HB3 HO3
    obtain ⟨x, rfl, HK, BK, HB, HO⟩ := hrel
    obtain ⟨k1, rfl⟩ : ∃ k1, gk = k1 + 1 := ⟨gk - 1, by have := HK.out; omega⟩
    have p0 : 0 ≤ x := HK.out.1
    by_cases cx : x < (ts.length : Int)
    · have cxb : decide (x < (ts.length : Int)) = true := decide_eq_true cx
      obtain ⟨ad1, q, q1, hx1, _, hr⟩ := HR.out.rs.at_ x p0 cx
      obtain rfl : ad0 = ad1 := by injection q1
      obtain ⟨a, rfl, d1, d2, d3⟩ := cells_kt hr (even_none HV.out p0 cx).1
      replace hx1 := pw_cell_below HB.out hx1
      replace d1 := pw_cell_below HB.out d1
      replace d2 := pw_cell_below HB.out d2
      replace d3 := pw_cell_below HB.out d3
      have HP : Aside0 (0 ≤ x ∧ x < ts.length) := ⟨p0, cx⟩
      have hsm := HS.out _ (show rdT ts x ∈ ts by unfold rdT; rw [List.getD_eq_getElem?_getD, List.getElem?_eq_getElem (by omega)]; exact List.getElem_mem _)
      have eB := sum_take Tr.cb ts x.toNat (by omega)
      have eR := sum_take Tr.cr ts x.toNat (by omega)
      have eL := sum_take Tr.cl ts x.toNat (by omega)
      rw [show ((x.toNat : Int)) = x by omega] at eB eR eL
      have sB := sum_SM Tr.cb ts N28.out.2 (fun t ht => (HS.out t ht).1) x.toNat
      have sR := sum_SM Tr.cr ts N28.out.2 (fun t ht => (HS.out t ht).2.1) x.toNat
      have sL := sum_SM Tr.cl ts N28.out.2 (fun t ht => (HS.out t ht).2.2.1) x.toNat
      have bk := BK.out
      unfold sumB sumR sumL at bk
      generalize hB0 : ((ts.take x.toNat).map Tr.cb).sum = xB at eB sB bk
      generalize hR0 : ((ts.take x.toNat).map Tr.cr).sum = xR at eR sR bk
      generalize hL0 : ((ts.take x.toNat).map Tr.cl).sum = xL at eL sL bk
      have sD : SM (rdT ts x).cb ∧ SM (rdT ts x).cr ∧ SM (rdT ts x).cl := by unfold SmT at hsm; unfold SM; omega
      generalize hyB : (rdT ts x).cb = yB at d1 eB sD
      generalize hyR : (rdT ts x).cr = yR at d2 eR sD
      generalize hyL : (rdT ts x).cl = yL at d3 eL sD
      have HSum := Aside0.mk (And.intro eB (And.intro eR eL))
      have HSM := Aside0.mk (And.intro sB (And.intro sR (And.intro sL sD)))
      have BK1 : Aside0 (Blk wr gb H1 xB xR xL A2 ps.length cp2) := ⟨bk⟩
      have c1 := (blk_cell BK1.out 1).trans (rfl : _ = some (Value.int .i64 xB))
      have c2 := (blk_cell BK1.out 2).trans (rfl : _ = some (Value.int .i64 xR))
      have c3 := (blk_cell BK1.out 3).trans (rfl : _ = some (Value.int .i64 xL))
      have p0c := eq_true p0
      have cxc := eq_true cx
      clear p0 cx hr bk BK hsm eB eR eL sB sR sL sD hB0 hR0 hL0 hyB hyR hyL q1
      go_wp2
      refine start_ (n := 17) (S := fun w' => w'.cell? ⟨gb, 1, none⟩ = some (.int .i64 xB) ∧ w'.cell? ⟨gb, 2, none⟩ = some (.int .i64 xR) ∧ w'.cell? ⟨gb, 3, none⟩ = some (.int .i64 xL) ∧ w'.cell? ⟨a, 1, none⟩ = some (.int .i64 yB) ∧ w'.cell? ⟨a, 2, none⟩ = some (.int .i64 yR) ∧ w'.cell? ⟨a, 3, none⟩ = some (.int .i64 yL)) (ds := [16]) #[false, false, false, false, false, false, false, false, false, false, false, false, false, false, false, false, false] (by kernel_rfl) rfl rfl ⟨c1, c2, c3, d1, d2, d3⟩ (fun hHeld => ?_)
      refine pure_ (i := 0) (N := some 41) (v := ?_) (a' := ?_) #[true, false, false, false, false, false, false, false, false, false, false, false, false, false, false, false, false] rfl rfl (by kernel_rfl) (fun _ _ _ h => h) (Or.inl ⟨by rfl, ?_⟩) ?_ ?_
      rotate_left
      · intro w'
        go_simp
        with_reducible rfl
      rotate_left
      · simp only [Act.put, List.setIfInBounds_toArray, List.set_cons_zero, List.set_cons_succ, i64_w, i32_w]
        rfl
      refine pure_ (i := 1) (N := some 42) (v := ?_) (a' := ?_) #[true, true, false, false, false, false, false, false, false, false, false, false, false, false, false, false, false] rfl rfl (by kernel_rfl) (fun _ _ _ h => h) (Or.inl ⟨by rfl, ?_⟩) ?_ ?_
      rotate_left
      · intro w'
        go_simp
        with_reducible rfl
      rotate_left
      · simp only [Act.put, List.setIfInBounds_toArray, List.set_cons_zero, List.set_cons_succ, i64_w, i32_w]
        rfl
      refine pure_ (i := 2) (N := some 43) (v := ?_) (a' := ?_) #[true, true, true, false, false, false, false, false, false, false, false, false, false, false, false, false, false] rfl rfl (by kernel_rfl) (fun _ _ _ h => h) (Or.inl ⟨by rfl, ?_⟩) ?_ ?_
      rotate_left
      · intro w'
        go_simp
        with_reducible rfl
      rotate_left
      · simp only [Act.put, List.setIfInBounds_toArray, List.set_cons_zero, List.set_cons_succ, i64_w, i32_w]
        rfl
      refine pure_ (i := 3) (N := some 44) (v := ?_) (a' := ?_) #[true, true, true, true, false, false, false, false, false, false, false, false, false, false, false, false, false] rfl rfl (by kernel_rfl) (fun _ _ _ h => h) (Or.inl ⟨by rfl, ?_⟩) ?_ ?_
      rotate_left
      · intro w'
        go_simp
        with_reducible rfl
      rotate_left
      · simp only [Act.put, List.setIfInBounds_toArray, List.set_cons_zero, List.set_cons_succ, i64_w, i32_w]
        rfl
      refine pure_ (i := 4) (N := some 45) (v := ?_) (a' := ?_) #[true, true, true, true, true, false, false, false, false, false, false, false, false, false, false, false, false] rfl rfl (by kernel_rfl) (fun _ _ _ h => h) (Or.inl ⟨by rfl, ?_⟩) ?_ ?_
      rotate_left
      · intro w'
        go_simp
        with_reducible rfl
      rotate_left
      · simp only [Act.put, List.setIfInBounds_toArray, List.set_cons_zero, List.set_cons_succ, i64_w, i32_w]
        rfl
      refine pure_ (i := 6) (N := some 47) (v := ?_) (a' := ?_) #[true, true, true, true, true, false, true, false, false, false, false, false, false, false, false, false, false] rfl rfl (by kernel_rfl) (fun _ _ _ h => h) (Or.inl ⟨by rfl, ?_⟩) ?_ ?_
      rotate_left
      · intro w'
        go_simp
        with_reducible rfl
      rotate_left
      · simp only [Act.put, List.setIfInBounds_toArray, List.set_cons_zero, List.set_cons_succ, i64_w, i32_w]
        rfl
      refine pure_ (i := 7) (N := some 48) (v := ?_) (a' := ?_) #[true, true, true, true, true, false, true, true, false, false, false, false, false, false, false, false, false] rfl rfl (by kernel_rfl) (fun _ _ _ h => h) (Or.inl ⟨by rfl, ?_⟩) ?_ ?_
      rotate_left
      · intro w'
        go_simp
        with_reducible rfl
      rotate_left
      · simp only [Act.put, List.setIfInBounds_toArray, List.set_cons_zero, List.set_cons_succ, i64_w, i32_w]
        rfl
      refine pure_ (i := 8) (N := some 49) (v := ?_) (a' := ?_) #[true, true, true, true, true, false, true, true, true, false, false, false, false, false, false, false, false] rfl rfl (by kernel_rfl) (fun _ _ _ h => h) (Or.inl ⟨by rfl, ?_⟩) ?_ ?_
      rotate_left
      · intro w'
        go_simp
        with_reducible rfl
      rotate_left
      · simp only [Act.put, List.setIfInBounds_toArray, List.set_cons_zero, List.set_cons_succ, i64_w, i32_w]
        rfl
      refine pure_ (i := 9) (N := some 50) (v := ?_) (a' := ?_) #[true, true, true, true, true, false, true, true, true, true, false, false, false, false, false, false, false] rfl rfl (by kernel_rfl) (fun _ _ _ h => h) (Or.inl ⟨by rfl, ?_⟩) ?_ ?_
      rotate_left
      · intro w'
        go_simp
        with_reducible rfl
      rotate_left
      · simp only [Act.put, List.setIfInBounds_toArray, List.set_cons_zero, List.set_cons_succ, i64_w, i32_w]
        rfl
      refine take_ (i := 5) (N := some 46) (v := ?_) (a' := ?_) #[true, true, true, true, true, true, true, true, true, true, false, false, false, false, false, false, false] rfl rfl (by kernel_rfl) (fun _ _ _ h => h) (Or.inl ⟨by rfl, ?_⟩) hHeld ?_ ?_
      rotate_left
      · rintro w' ⟨s0, s1, s2, s3, s4, s5⟩
        go_simp
        with_reducible rfl
      rotate_left
      · simp only [Act.put, List.setIfInBounds_toArray, List.set_cons_zero, List.set_cons_succ, i64_w, i32_w]
        rfl
      refine take_ (i := 10) (N := some 51) (v := ?_) (a' := ?_) #[true, true, true, true, true, true, true, true, true, true, true, false, false, false, false, false, false] rfl rfl (by kernel_rfl) (fun _ _ _ h => h) (Or.inl ⟨by rfl, ?_⟩) hHeld ?_ ?_
      rotate_left
      · rintro w' ⟨s0, s1, s2, s3, s4, s5⟩
        go_simp
        with_reducible rfl
      rotate_left
      · simp only [Act.put, List.setIfInBounds_toArray, List.set_cons_zero, List.set_cons_succ, i64_w, i32_w]
        rfl
      refine one_ (i := 11) (N := some 52) #[true, true, true, true, true, true, true, true, true, true, true, true, false, false, false, false, false] rfl rfl (by kernel_rfl) (by decide) (fun K hK => ?_)
      refine value_ (w1 := ?_) (v := ?_) (by rfl) rfl ?_ ?_
      rotate_left 2
      · go_simp
        constructor
        · rfl
        · rfl
      refine hK.out _ _ ⟨(pw_cell_below (below_alloc (Below.refl _ _) _) c1), (pw_cell_below (below_alloc (Below.refl _ _) _) c2), (pw_cell_below (below_alloc (Below.refl _ _) _) c3), (pw_cell_below (below_alloc (Below.refl _ _) _) d1), (pw_cell_below (below_alloc (Below.refl _ _) _) d2), (pw_cell_below (below_alloc (Below.refl _ _) _) d3)⟩ (fun hHeld => ?_)
      clear hK K
      refine norm_ (a' := ?_) ?_ ?_
      rotate_left
      · show Act.put _ (some 52) _ = _
        simp only [Act.put, List.setIfInBounds_toArray, List.set_cons_zero, List.set_cons_succ, i64_w, i32_w]
        rfl
      refine one_ (i := 12) (N := some 53) #[true, true, true, true, true, true, true, true, true, true, true, true, true, false, false, false, false] rfl rfl (by kernel_rfl) (by decide) (fun K hK => ?_)
      refine goes_ Try.func51 (by kernel_rfl) rfl #[.slice (some ⟨wr.drew.heap.size, 0, none⟩) 2 2] (by rfl) rfl rfl (by simp only [List.map_toArray, List.map_cons, List.map_nil]; rfl) ?_
      with_reducible refine (add2_drew wr xB xR xL yB yR yL HSM.out.1 HSM.out.2.1 HSM.out.2.2.1 HSM.out.2.2.2.1 HSM.out.2.2.2.2.1 HSM.out.2.2.2.2.2).mono ?_
      rintro e w7 ⟨rfl, hb⟩
      refine ⟨_, rfl, ?_⟩
      have HB7 := Aside0.mk hb
      have BK7 : Aside0 (Blk w7 gb H1 xB xR xL A2 ps.length cp2) := ⟨(hb.block gb (blk_lt BK1.out)).trans BK1.out⟩
      have f1 := blk_frozen BK7.out 1
      have f2 := blk_frozen BK7.out 2
      have f3 := blk_frozen BK7.out 3
      refine hK.out _ _ ⟨(pw_cell_below hb c1), (pw_cell_below hb c2), (pw_cell_below hb c3), (pw_cell_below hb d1), (pw_cell_below hb d2), (pw_cell_below hb d3)⟩ (fun hHeld => ?_)
      clear hK K
      refine norm_ (a' := ?_) ?_ ?_
      rotate_left
      · show Act.put _ (some 53) _ = _
        simp only [Act.put, List.setIfInBounds_toArray, List.set_cons_zero, List.set_cons_succ, i64_w, i32_w]
        rfl
      refine pure_ (i := 13) (N := some 54) (v := ?_) (a' := ?_) #[true, true, true, true, true, true, true, true, true, true, true, true, true, true, false, false, false] rfl rfl (by kernel_rfl) (fun _ _ _ h => h) (Or.inl ⟨by rfl, ?_⟩) ?_ ?_
      rotate_left
      · intro w'
        go_simp
        with_reducible rfl
      rotate_left
      · simp only [Act.put, List.setIfInBounds_toArray, List.set_cons_zero, List.set_cons_succ, i64_w, i32_w]
        rfl
      refine pure_ (i := 14) (N := some 55) (v := ?_) (a' := ?_) #[true, true, true, true, true, true, true, true, true, true, true, true, true, true, true, false, false] rfl rfl (by kernel_rfl) (fun _ _ _ h => h) (Or.inl ⟨by rfl, ?_⟩) ?_ ?_
      rotate_left
      · intro w'
        go_simp
        with_reducible rfl
      rotate_left
      · simp only [Act.put, List.setIfInBounds_toArray, List.set_cons_zero, List.set_cons_succ, i64_w, i32_w]
        rfl
      refine pure_ (i := 15) (N := some 56) (v := ?_) (a' := ?_) #[true, true, true, true, true, true, true, true, true, true, true, true, true, true, true, true, false] rfl rfl (by kernel_rfl) (fun _ _ _ h => h) (Or.inl ⟨by rfl, ?_⟩) ?_ ?_
      rotate_left
      · intro w'
        go_simp
        with_reducible rfl
      rotate_left
      · simp only [Act.put, List.setIfInBounds_toArray, List.set_cons_zero, List.set_cons_succ, i64_w, i32_w]
        rfl
      refine last_ (i := 16) (N := none) #[true, true, true, true, true, true, true, true, true, true, true, true, true, true, true, true, true] rfl rfl (by kernel_rfl) (by decide) (fun K hK => ?_)
      refine skip_ (w1 := ?_) (by rfl) rfl ?_ ?_
      rotate_left
      · go_simp
        rfl
      refine hK.out _ _ ?_
      clear hK K
      refine done_ (by kernel_rfl) ?_
      go_wp2
      go_roundg k1
      case measure => omega
      case rel =>
        have e := HSum.out
        have hx : (wrap64 (x + 1)).toNat = x.toNat + 1 := by have := HK.out; have := HP.out; have := N28.out; unfold wrap64; omega
        refine ⟨wrap64 (x + 1), (by first | rfl | (simp; done)), ⟨by have := HK.out; have := HP.out; have := N28.out; unfold wrap64; omega⟩, ⟨?_⟩, ⟨?_⟩, ⟨?_⟩⟩
        · rw [hx]
          unfold sumB sumR sumL
          rw [e.1, e.2.1, e.2.2]
          exact blk_put (blk_put (blk_put BK7.out 1 (.int .i64 (xB + yB)) rfl) 2 (.int .i64 (xR + yR)) rfl) 3 (.int .i64 (xL + yL)) rfl
        · exact below_set (below_set (below_set (below_step HB.out HB7.out) GE.out) GE.out) GE.out
        · exact Kd.R_far (p := ⟨gb, 3, none⟩) (Kd.R_far (p := ⟨gb, 2, none⟩) (Kd.R_far (p := ⟨gb, 1, none⟩) (Kd.R_below HO.out HB7.out) (fun k hk => by show k ≠ gb; omega) _) (fun k hk => by show k ≠ gb; omega) _) (fun k hk => by show k ≠ gb; omega) _
    · have cxb : decide (x < (ts.length : Int)) = false := decide_eq_false cx
      clear p0
      go_wp2
      go_ret
      have hx : ts.take x.toNat = ts := List.take_of_length_le (by omega)
      have bk := BK.out
      rw [hx] at bk
      have hl : ps.length = ts.length := HR.out.c.1
      have ho := HO.out
      rw [hl] at bk ho
      refine ⟨gb, rfl, ?_, HB.out⟩
      unfold joinT
      rw [← HH.out]
      exact .node gb H1 (sumB ts) (sumR ts) (sumL ts) ⟨#[]⟩ ts A2 cp2 ps (Or.inr GE.out) bk hl (Kd.R_mono ho (fun k hk => Or.inr hk.1)) (fun j p t hp ht => ((HR.out.r j p t hp ht).later HB.out).mono (fun k hk => Or.inl hk))
theorem Rk.later {w w1 : World} {ok : Nat → Prop} {A : Option Addr} {n : Nat} {ps : List (Option Addr)} {ts : List Tr} (h : Rk w ok A n ps ts) (hb : Below w.heap.size w w1) : Rk w1 ok A n ps ts :=
  ⟨Kd.C_below h.c hb, h.len, fun j p t hp ht => (h.r j p t hp ht).later hb⟩
theorem Rk.mono {w : World} {ok ok' : Nat → Prop} {A : Option Addr} {n : Nat} {ps : List (Option Addr)} {ts : List Tr} (h : Rk w ok A n ps ts) (hm : ∀ k, ok k → ok' k) : Rk w ok' A n ps ts :=
  ⟨h.c, h.len, fun j p t hp ht => (h.r j p t hp ht).mono hm⟩
theorem Rk.bound {w : World} {ok : Nat → Prop} {A : Option Addr} {n : Nat} {ps : List (Option Addr)} {ts : List Tr} (h : Rk w ok A n ps ts) : Rk w (fun k => ok k ∧ k < w.heap.size) A n ps ts :=
  ⟨h.c, h.len, fun j p t hp ht => (h.r j p t hp ht).bound⟩
theorem Rk.plen {w : World} {ok : Nat → Prop} {A : Option Addr} {n : Nat} {ps : List (Option Addr)} {ts : List Tr} (h : Rk w ok A n ps ts) : ps.length = ts.length := by rw [h.len]; exact h.c.1
theorem Rk.take {w : World} {ok : Nat → Prop} {A : Option Addr} {n : Nat} {ps : List (Option Addr)} {ts : List Tr} (h : Rk w ok A n ps ts) (m : Nat) (hm : m ≤ n) : Rk w ok A m (ps.take m) (ts.take m) := by
  have hl : ps.length = n := h.c.1
  have hc := h.c
  rw [← hl] at hc
  have h1 := Kd.C_take (m := m) hc (by omega)
  have e : (ps.take m).length = m := by rw [List.length_take]; omega
  rw [e] at h1
  refine ⟨h1, by rw [List.length_take, h.len]; omega, fun j p t hp ht => ?_⟩
  rw [List.getElem?_take] at hp ht
  split at hp
  · rename_i hj
    rw [if_pos hj] at ht
    exact h.r j p t hp ht
  · cases hp
theorem Rk.drop {w : World} {ok : Nat → Prop} {A : Option Addr} {n cp : Nat} {ps : List (Option Addr)} {ts : List Tr} (h : Rk w ok A n ps ts) (m : Nat) (hm : m ≤ n) (hcp : n ≤ cp) : Rk w ok (if cp = m then A else A.map (·.add m)) (n - m) (ps.drop m) (ts.drop m) := by
  have hl : ps.length = n := h.c.1
  have hc := h.c
  rw [← hl] at hc
  have h1 := Kd.C_drop (m := m) (c := cp) hc (by omega) (by omega)
  rw [List.length_drop, hl, show m * kPtr.sz = m from Nat.mul_one m] at h1
  refine ⟨h1, by rw [List.length_drop, h.len], fun j p t hp ht => ?_⟩
  rw [List.getElem?_drop] at hp ht
  exact h.r _ p t hp ht
end Go.Proofs.Ytgkjagfdlhcgjaa.Kd_
