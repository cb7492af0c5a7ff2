import Derived.Test.YtdcnoiofimngpaaKt
import Derived.StillTailTactics
import Derived.Deep.Slices
import Derived.Deep.Strs
/- Join: a knot over others. -/
namespace Go.Proofs.Ytdcnoiofimngpaa.Kd_
open Go.RowKit Go.Proofs.Ytdcnoiofimngpaa.QK Go.Proofs.Ytdcnoiofimngpaa.Kt Go.Proofs.Ytdcnoiofimngpaa.Ka Go.Proofs.Ytdcnoiofimngpaa.Kb Go.Proofs.YtdcnoiofimngpaaW.PrintWords Go.Proofs.YtdcnoiofimngpaaW.PrintLast Go.Proofs.YtdcnoiofimngpaaW.PrintMore
set_option linter.unusedVariables false
set_option linter.unusedSimpArgs false
/-! ### two counts -/
theorem wsum {a b : Int} (ha : 0 ≤ a ∧ a ≤ 1000000000000) (hb : 0 ≤ b ∧ b ≤ 1000000000000) : wrap64 (a + b) = a + b := by unfold wrap64; omega
theorem nz3 (a b c : Int) : ((!(a == 0) || (!(b == 0) || (!(c == 0)))) = true) ↔ ¬ (a = 0 ∧ b = 0 ∧ c = 0) := by
  by_cases h1 : a = 0 <;> by_cases h2 : b = 0 <;> by_cases h3 : c = 0 <;> simp [h1, h2, h3]
def SM (x : Int) : Prop := 0 ≤ x ∧ x ≤ 1000000000000
theorem add2_f (a b c d e f : Int) (ha : SM a) (hb : SM b) (hc : SM c) (hd : SM d) (he : SM e) (hf : SM f) : tally_Add.f 3 [(⟨a, b, c⟩ : S91), ⟨d, e, f⟩] = some (a + d, b + e, c + f) := by
  have r0 : rd_T91 [(⟨a, b, c⟩ : S91), ⟨d, e, f⟩] 0 = ⟨a, b, c⟩ := rfl
  have r1 : rd_T91 [(⟨a, b, c⟩ : S91), ⟨d, e, f⟩] 1 = ⟨d, e, f⟩ := rfl
  have z : ∀ x, SM x → wrap64 (0 + x) = x := fun x hx => by unfold SM at hx; unfold wrap64; omega
  have w1 : wrap64 (0 + 1) = 1 := by unfold wrap64; omega
  have w2 : wrap64 (1 + 1) = 2 := by unfold wrap64; omega
  have last : ∀ x y v, tally_Add.l0 1 [(⟨a, b, c⟩ : S91), ⟨d, e, f⟩] 2 2 x y v = some (x, y, v) := fun x y v => by
    rw [tally_Add.l0, if_neg (by omega)]
  have second : tally_Add.l0 2 [(⟨a, b, c⟩ : S91), ⟨d, e, f⟩] 2 1 a b c = some (a + d, b + e, c + f) := by
    rw [tally_Add.l0, if_pos (by omega), if_pos (by omega), if_pos (show (1 : Int) < (([(⟨a, b, c⟩ : S91), ⟨d, e, f⟩] : List S91).length : Int) by show (1 : Int) < ((2 : Nat) : Int); omega), r1, w2]
    by_cases h : d = 0 ∧ e = 0 ∧ f = 0
    · rw [if_neg (by rw [nz3]; exact fun hn => hn h), last]
      obtain ⟨rfl, rfl, rfl⟩ := h
      rw [Int.add_zero, Int.add_zero, Int.add_zero]
    · rw [if_pos (by rw [nz3]; exact h)]
      unfold tally_plus.f
      rw [Option.bind_some]
      dsimp only
      rw [last, wsum ha hd, wsum hb he, wsum hc hf]
  unfold tally_Add.f
  show tally_Add.l0 3 _ ((2 : Nat) : Int) 0 0 0 0 = _
  rw [show ((2 : Nat) : Int) = 2 from rfl, tally_Add.l0, if_pos (by omega), if_pos (by omega), if_pos (show (0 : Int) < (([(⟨a, b, c⟩ : S91), ⟨d, e, f⟩] : List S91).length : Int) by show (0 : Int) < ((2 : Nat) : Int); omega), r0, w1]
  by_cases h : a = 0 ∧ b = 0 ∧ c = 0
  · rw [if_neg (by rw [nz3]; exact fun hn => hn h)]
    obtain ⟨rfl, rfl, rfl⟩ := h
    exact second
  · rw [if_pos (by rw [nz3]; exact h)]
    unfold tally_plus.f
    rw [Option.bind_some]
    dsimp only
    rw [z a ha, z b hb, z c hc]
    exact second
theorem two_row {W : World} {g : Nat} {a b c d e f : Int} (h : W.heap[g]? = some (.cells #[.int .i64 a, .int .i64 b, .int .i64 c, .int .i64 d, .int .i64 e, .int .i64 f] 91 (0, 0))) : Kd.C k91 W (some ⟨g, 0, none⟩) 2 [⟨a, b, c⟩, ⟨d, e, f⟩] := by
  refine ⟨rfl, by omega, fun _ => ⟨_, rfl, fun j p hj => ?_⟩⟩
  have hc : ∀ i u, (#[Value.int .i64 a, .int .i64 b, .int .i64 c, .int .i64 d, .int .i64 e, .int .i64 f] : Array Value)[i]? = some u → W.cell? ⟨g, i, none⟩ = some u := fun i u hu => (blk_cell h i).trans hu
  rcases j with _ | _ | j
  · obtain rfl : (⟨a, b, c⟩ : S91) = p := by simpa using hj
    refine ⟨[.int .i64 a, .int .i64 b, .int .i64 c], rfl, k91_mk W ⟨a, b, c⟩, fun i u hu => ?_⟩
    rw [add_plain]
    apply hc
    have sz : k91.sz = 3 := rfl
    rw [sz]
    rcases i with _ | _ | _ | i
    · simpa using hu
    · simpa using hu
    · simpa using hu
    · simp at hu
  · obtain rfl : (⟨d, e, f⟩ : S91) = p := by simpa using hj
    refine ⟨[.int .i64 d, .int .i64 e, .int .i64 f], rfl, k91_mk W ⟨d, e, f⟩, fun i u hu => ?_⟩
    rw [add_plain]
    apply hc
    have sz : k91.sz = 3 := rfl
    rw [sz]
    rcases i with _ | _ | _ | i
    · simpa using hu
    · simpa using hu
    · simpa using hu
    · simp at hu
  · simp at hj
theorem add2_calls (W : World) (a b c d e f : Int) (ha : SM a) (hb : SM b) (hc : SM c) (hd : SM d) (he : SM e) (hf : SM f) :
    Calls Try.prog 79 #[.slice (some ⟨W.heap.size, 0, none⟩) 2 2] (W.alloc (.cells #[.int .i64 a, .int .i64 b, .int .i64 c, .int .i64 d, .int .i64 e, .int .i64 f] 91)) fun e_ w' => e_ = .returned (.agg #[.int .i64 (a + d), .int .i64 (b + e), .int .i64 (c + f)]) ∧ Below W.heap.size W w' := by
  refine (tally_Add.calls 3 (some ⟨W.heap.size, 0, none⟩) 2 [⟨a, b, c⟩, ⟨d, e, f⟩] _ _ _ _ (two_row (heap_alloc_new W _)) (by simp) (add2_f a b c d e f ha hb hc hd he hf)).mono fun e_ w' ⟨h1, h2⟩ => ⟨h1, ?_⟩
  exact (below_alloc (Below.refl _ _) _).trans (h2.mono (by simp))
theorem add2_drew (W : World) (a b c d e f : Int) (ha : SM a) (hb : SM b) (hc : SM c) (hd : SM d) (he : SM e) (hf : SM f) :
    Calls Try.prog 79 #[.slice (some ⟨W.drew.heap.size, 0, none⟩) 2 2] (W.alloc (.cells #[.int .i64 a, .int .i64 b, .int .i64 c, .int .i64 d, .int .i64 e, .int .i64 f] 91)).drew fun e_ w' => e_ = .returned (.agg #[.int .i64 (a + d), .int .i64 (b + e), .int .i64 (c + f)]) ∧ Below W.heap.size W w' := by
  have h := add2_calls W.drew a b c d e f ha hb hc hd he hf
  have e1 : (W.alloc (.cells #[.int .i64 a, .int .i64 b, .int .i64 c, .int .i64 d, .int .i64 e, .int .i64 f] 91)).drew = W.drew.alloc (.cells #[.int .i64 a, .int .i64 b, .int .i64 c, .int .i64 d, .int .i64 e, .int .i64 f] 91) := rfl
  rw [e1]
  exact h.mono fun e_ w' ⟨h1, h2⟩ => ⟨h1, (below_drew1 (Below.refl _ _)).trans h2⟩
/-! ### the row, the knot above -/
/-- a row of knots whose blocks are ok -/
structure Rk (w : World) (ok : Nat → Prop) (A : Option Addr) (n : Nat) (ps : List (Option Addr)) (ts : List Tr) : Prop where
  c : kPtr.C w A n ps
  len : ts.length = n
  r : ∀ (j : Nat) (p : Option Addr) (t : Tr), ps[j]? = some p → ts[j]? = some t → Rp w ok p t
theorem Rk.rs {w : World} {ok : Nat → Prop} {A : Option Addr} {n : Nat} {ps : List (Option Addr)} {ts : List Tr} (h : Rk w ok A n ps ts) : Rs w A n ps ts := ⟨h.c, h.len, fun j p t hp ht => (h.r j p t hp ht).rd⟩
def sumB (ts : List Tr) : Int := (ts.map Tr.cb).sum
def sumR (ts : List Tr) : Int := (ts.map Tr.cr).sum
def sumL (ts : List Tr) : Int := (ts.map Tr.cl).sum
def joinT (ts : List Tr) : Tr := .node ((rdT ts 0).h0 + 1) (sumB ts) (sumR ts) (sumL ts) ⟨#[]⟩ ts
/-- counts in range -/
def SmT (t : Tr) : Prop := (0 ≤ t.cb ∧ t.cb ≤ 100000000000) ∧ (0 ≤ t.cr ∧ t.cr ≤ 100000000000) ∧ (0 ≤ t.cl ∧ t.cl ≤ 100000000000) ∧ 0 ≤ t.h0 ∧ t.h0 ≤ 1000000
theorem sum_take (f : Tr → Int) (ts : List Tr) (i : Nat) (hi : i < ts.length) : ((ts.take (i + 1)).map f).sum = ((ts.take i).map f).sum + f (rdT ts i) := by
  rw [List.take_succ_eq_append_getElem hi, List.map_append, List.sum_append]
  unfold rdT
  rw [show ((i : Int)).toNat = i by omega, List.getD_eq_getElem?_getD, List.getElem?_eq_getElem hi]
  simp
theorem sum_bound (f : Tr → Int) (l : List Tr) (hf : ∀ t ∈ l, 0 ≤ f t ∧ f t ≤ 100000000000) : 0 ≤ (l.map f).sum ∧ (l.map f).sum ≤ 100000000000 * l.length := by
  induction l with
  | nil => simp
  | cons t ts ih =>
    have h1 := hf t (by simp)
    have h2 := ih (fun x hx => hf x (by simp [hx]))
    rw [List.map_cons, List.sum_cons, List.length_cons]
    omega
theorem sum_SM (f : Tr → Int) (ts : List Tr) (h8 : ts.length ≤ 8) (hf : ∀ t ∈ ts, 0 ≤ f t ∧ f t ≤ 100000000000) (i : Nat) : SM ((ts.take i).map f).sum := by
  have h := sum_bound f (ts.take i) (fun t ht => hf t (List.mem_of_mem_take ht))
  have hl : (ts.take i).length ≤ 8 := by rw [List.length_take]; omega
  unfold SM
  omega
def okJ (w : World) (k : Nat) : Prop := w.heap.size ≤ k
/-- what stands in the new knot's block while it is filled -/
def Blk (w' : World) (g : Nat) (h b r l : Int) (A : Option Addr) (n cp : Nat) : Prop := w'.heap[g]? = some (.cells #[.int .i64 h, .int .i64 b, .int .i64 r, .int .i64 l, .string ⟨#[]⟩, .slice A n cp] 129 (0, 0))
def JoinPost (w : World) (ok : Nat → Prop) (t : Tr) (e : Ending) (w' : World) : Prop := ∃ a : Nat, e = .returned (.pointer (some ⟨a, 0, none⟩)) ∧ Rp w' (fun k => ok k ∨ w.heap.size ≤ k) (some ⟨a, 0, none⟩) t ∧ Below w.heap.size w w'
theorem cells_kt {w : World} {p : Option Addr} {t : Tr} (H : Rd w p t) (hn : t.none = false) : ∃ a : Nat, p = some ⟨a, 0, none⟩ ∧ w.cell? ⟨a, 1, none⟩ = some (.int .i64 t.cb) ∧ w.cell? ⟨a, 2, none⟩ = some (.int .i64 t.cr) ∧ w.cell? ⟨a, 3, none⟩ = some (.int .i64 t.cl) := by
  obtain ⟨hh, b, r, l, s, kids, rfl⟩ := Tr.not_none hn
  obtain ⟨a, A, cp, ps, rfl, c0, c1, c2, c3, _⟩ := H.open_
  exact ⟨a, rfl, c1, c2, c3⟩
theorem even_none {ts : List Tr} (h : evenB ts = true) {i : Int} (h0 : 0 ≤ i) (hi : i < ts.length) : (rdT ts i).none = false ∧ (rdT ts i).h0 = (rdT ts 0).h0 := by
  have hm : rdT ts i ∈ ts := by
    unfold rdT; rw [List.getD_eq_getElem?_getD, List.getElem?_eq_getElem (by omega)]; exact List.getElem_mem _
  have h1 := (List.all_eq_true.mp h) _ hm
  unfold evenAt at h1
  rw [Bool.and_eq_true] at h1
  exact ⟨by simpa using h1.1, by simpa using h1.2⟩
set_option maxHeartbeats 8000000 in
set_option maxRecDepth 100000 in
theorem join_calls (w : World) (ok : Nat → Prop) (A : Option Addr) (n cp : Nat) (ps : List (Option Addr)) (ts : List Tr) (H : Rk w ok A n ps ts) (h2 : 2 ≤ n) (h8 : n ≤ 8) (he : evenB ts = true) (hs : ∀ t ∈ ts, SmT t) :
    Calls Try.prog 102 #[.slice A n cp] w (JoinPost w ok (joinT ts)) := by
  have hlen := H.len
  subst hlen
  have HR := Aside0.mk H
  have HE : Aside0 (∀ W, Rs W A ts.length ps ts → Calls Try.prog 100 #[.slice A ts.length cp] W fun e w' => e = .returned (.bool true) ∧ Drawn0 W w') := ⟨fun W hr => by have := even_calls W A ts.length cp ps ts hr; rw [he] at this; exact this⟩
  have HV := Aside0.mk he
  have HS := Aside0.mk hs
  have n2 : decide (ts.length < 2) = false := decide_eq_false (by omega)
  have n2i : decide ((ts.length : Int) < 2) = false := decide_eq_false (by omega)
  have n8 : decide (8 < ts.length) = false := decide_eq_false (by omega)
  have n8i : decide (8 < (ts.length : Int)) = false := decide_eq_false (by omega)
  have N28 : Aside0 (2 ≤ ts.length ∧ ts.length ≤ 8) := ⟨h2, h8⟩
  obtain ⟨ad0, p0, q0, hx0, hp0, hr0⟩ := H.rs.at_ 0 (by omega) (by omega)
  have hh := hs _ (show rdT ts 0 ∈ ts by unfold rdT; rw [List.getD_eq_getElem?_getD, List.getElem?_eq_getElem (by simp; omega)]; exact List.getElem_mem _)
  obtain ⟨a0, rfl, hc0⟩ := h_cell hr0 (even_none he (Int.le_refl 0) (by omega)).1
  subst q0
  have hx0' : w.cell? ad0 = some (.pointer (some ⟨a0, 0, none⟩)) := by
    have e : ad0.add 0 = ad0 := by simp [Addr.add]
    rw [← e]; exact hx0
  have X0 := Aside0.mk hx0'
  have C0 := Aside0.mk hc0
  obtain ⟨H1, hH1⟩ : ∃ x : Int, x = (rdT ts 0).h0 + 1 := ⟨_, rfl⟩
  have hw1 : wrap64 ((rdT ts 0).h0 + 1) = H1 := by rw [hH1]; unfold SmT at hh; unfold wrap64; omega
  have hw2 : IntKind.i64.wrap ((rdT ts 0).h0 + 1) = H1 := (i64_w _).trans hw1
  have HH := Aside0.mk hH1
  have z1 : 0 < ts.length := by omega
  have z1c := eq_true z1
  clear H he hs h2 h8 hx0 hp0 hr0 hh hx0' hc0 hH1 z1
  go_enter Try.func102, Try.ntmps102
  go_wp2_with (first | (go_at_call 100; (with_reducible refine (HE.out _ HR.out.rs).mono ?_); rintro e wd ⟨rfl, hd⟩; have HB0 := Aside0.mk hd.below; have HC1 := Aside0.mk (Kd.C_below HR.out.c hd.below); clear hd) | ((with_reducible refine gate_builtin (b := .append) (xs := #[.const (.slice none 0 0), .tmp 19]) rfl ?_); at_builtin; refine Kd.R_append_row (fun p => Value.pointer p) (none : Option Addr) (h1 := fun _ => rfl) (w0 := w) w.heap.size rfl (.const (.slice none 0 0)) (.tmp 19) 105 73 (.pointer none) 8 rfl Try.underlying105 infoP rfl (by decide) (.slice none 0 0) [] ps (some ad0) ts.length cp (fun k => w.heap.size ≤ k) rfl rfl (fun k hk => Nat.le_trans HB0.out.size hk) (Kd.R_nil _ _ _ _ _) HC1.out HB0.out HB0.out.size (by have := N28.out; simp only [List.length_nil]; omega) ?_; intro v1 wa ho hb hg hat; rw [List.nil_append] at ho; obtain ⟨A2, cp2, rfl⟩ := Kd.R_slice ho; have HO := Aside0.mk ho; have HB1 := Aside0.mk hb; clear ho hb hg hat HC1) | ((with_reducible refine gate_dst (N := 22) rfl ?_); refine box_event ?hg (N := 22) ?hd (cs := #[.int .i64 0, .int .i64 0, .int .i64 0, .int .i64 0, .string ⟨#[]⟩, .slice A2 ps.length cp2]) (t := 129) ?hr ?_; (case hd => rfl); (case hg => rfl); (case hr => first | (go_simp; done) | (go_simp; rfl)); intro gb hg wb hbox hb; have HB2 := Aside0.mk (below_step HB1.out hb); have BK : Aside0 (Blk wb gb 0 0 0 0 A2 ps.length cp2) := ⟨hbox⟩; have HO2 : Aside0 (kPtr.R 73 wb 0 (fun k => w.heap.size ≤ k ∧ k < gb) (.slice A2 ps.length cp2) ps) := ⟨Kd.R_below (Kd.R_lower (Kd.R_mono (Kd.R_bound HO.out) (fun k hk => ⟨hk.1, by rw [hg]; exact hk.2.2.1⟩)) (Nat.zero_le _)) hb⟩; have GE : Aside0 (w.heap.size ≤ gb) := ⟨by rw [hg]; exact HB1.out.size⟩; clear HB0 HB1 HO hb hg hbox; have x0 := pw_cell_below HB2.out X0.out; have y0 := pw_cell_below HB2.out C0.out; have z0 := (blk_cell BK.out 0).trans (rfl : _ = some (Value.int .i64 0)); have f0 := blk_frozen BK.out 0))
  have hst : Blk (wb.setCell ⟨gb, 0, none⟩ (.int .i64 H1)) gb H1 0 0 0 A2 ps.length cp2 := blk_put BK.out 0 (.int .i64 H1) rfl
  have HB3 := Aside0.mk (below_set (j := 0) (v := .int .i64 H1) HB2.out GE.out)
  have HO3 := Aside0.mk (Kd.R_far HO2.out (p := ⟨gb, 0, none⟩) (fun k hk => by show k ≠ gb; omega) (.int .i64 H1))
  have BK3 := Aside0.mk hst
  clear hst HB2 HO2 BK x0 y0 z0 f0
  go_loopg [37] (ts.length + 1) (fun kq v37 w' => ∃ x : Int, v37 = .int .i64 x ∧ Aside0 (0 ≤ x ∧ x + kq = ts.length + 1 ∧ 1 ≤ kq) ∧ Aside0 (Blk w' gb H1 (sumB (ts.take x.toNat)) (sumR (ts.take x.toNat)) (sumL (ts.take x.toNat)) A2 ps.length cp2) ∧ Aside0 (Below w.heap.size w w') ∧ Aside0 (kPtr.R 73 w' 0 (fun k => w.heap.size ≤ k ∧ k < gb) (.slice A2 ps.length cp2) ps))
  case atStart => exact ⟨0, (by first | rfl | (simp; done)), ⟨by omega⟩, BK3, HB3, HO3⟩
  case round =>
    clear BK3 HB3 HO3
    obtain ⟨x, rfl, HK, BK, HB, HO⟩ := hrel
    obtain ⟨k1, rfl⟩ : ∃ k1, gk = k1 + 1 := ⟨gk - 1, by have := HK.out; omega⟩
    have p0 : 0 ≤ x := HK.out.1
    by_cases cx : x < (ts.length : Int)
    · have cxb : decide (x < (ts.length : Int)) = true := decide_eq_true cx
      obtain ⟨ad1, q, q1, hx1, _, hr⟩ := HR.out.rs.at_ x p0 cx
      obtain rfl : ad0 = ad1 := by injection q1
      obtain ⟨a, rfl, d1, d2, d3⟩ := cells_kt hr (even_none HV.out p0 cx).1
      replace hx1 := pw_cell_below HB.out hx1
      replace d1 := pw_cell_below HB.out d1
      replace d2 := pw_cell_below HB.out d2
      replace d3 := pw_cell_below HB.out d3
      have HP : Aside0 (0 ≤ x ∧ x < ts.length) := ⟨p0, cx⟩
      have hsm := HS.out _ (show rdT ts x ∈ ts by unfold rdT; rw [List.getD_eq_getElem?_getD, List.getElem?_eq_getElem (by omega)]; exact List.getElem_mem _)
      have eB := sum_take Tr.cb ts x.toNat (by omega)
      have eR := sum_take Tr.cr ts x.toNat (by omega)
      have eL := sum_take Tr.cl ts x.toNat (by omega)
      rw [show ((x.toNat : Int)) = x by omega] at eB eR eL
      have sB := sum_SM Tr.cb ts N28.out.2 (fun t ht => (HS.out t ht).1) x.toNat
      have sR := sum_SM Tr.cr ts N28.out.2 (fun t ht => (HS.out t ht).2.1) x.toNat
      have sL := sum_SM Tr.cl ts N28.out.2 (fun t ht => (HS.out t ht).2.2.1) x.toNat
      have bk := BK.out
      unfold sumB sumR sumL at bk
      generalize hB0 : ((ts.take x.toNat).map Tr.cb).sum = xB at eB sB bk
      generalize hR0 : ((ts.take x.toNat).map Tr.cr).sum = xR at eR sR bk
      generalize hL0 : ((ts.take x.toNat).map Tr.cl).sum = xL at eL sL bk
      have sD : SM (rdT ts x).cb ∧ SM (rdT ts x).cr ∧ SM (rdT ts x).cl := by unfold SmT at hsm; unfold SM; omega
      generalize hyB : (rdT ts x).cb = yB at d1 eB sD
      generalize hyR : (rdT ts x).cr = yR at d2 eR sD
      generalize hyL : (rdT ts x).cl = yL at d3 eL sD
      have HSum := Aside0.mk (And.intro eB (And.intro eR eL))
      have HSM := Aside0.mk (And.intro sB (And.intro sR (And.intro sL sD)))
      have BK1 : Aside0 (Blk wr gb H1 xB xR xL A2 ps.length cp2) := ⟨bk⟩
      have c1 := (blk_cell BK1.out 1).trans (rfl : _ = some (Value.int .i64 xB))
      have c2 := (blk_cell BK1.out 2).trans (rfl : _ = some (Value.int .i64 xR))
      have c3 := (blk_cell BK1.out 3).trans (rfl : _ = some (Value.int .i64 xL))
      have p0c := eq_true p0
      have cxc := eq_true cx
      clear p0 cx hr bk BK hsm eB eR eL sB sR sL sD hB0 hR0 hL0 hyB hyR hyL q1
      go_wp2
      refine start_ (n := 17) (S := fun w' => w'.cell? ⟨gb, 1, none⟩ = some (.int .i64 xB) ∧ w'.cell? ⟨gb, 2, none⟩ = some (.int .i64 xR) ∧ w'.cell? ⟨gb, 3, none⟩ = some (.int .i64 xL) ∧ w'.cell? ⟨a, 1, none⟩ = some (.int .i64 yB) ∧ w'.cell? ⟨a, 2, none⟩ = some (.int .i64 yR) ∧ w'.cell? ⟨a, 3, none⟩ = some (.int .i64 yL)) (ds := [16]) #[false, false, false, false, false, false, false, false, false, false, false, false, false, false, false, false, false] (by kernel_rfl) rfl rfl ⟨c1, c2, c3, d1, d2, d3⟩ (fun hHeld => ?_)
      refine pure_ (i := 0) (N := some 41) (v := ?_) (a' := ?_) #[true, false, false, false, false, false, false, false, false, false, false, false, false, false, false, false, false] rfl rfl (by kernel_rfl) (fun _ _ _ h => h) (Or.inl ⟨by rfl, ?_⟩) ?_ ?_
      rotate_left
      · intro w'
        go_simp
        with_reducible rfl
      rotate_left
      · simp only [Act.put, List.setIfInBounds_toArray, List.set_cons_zero, List.set_cons_succ, i64_w, i32_w]
        rfl
      refine pure_ (i := 1) (N := some 42) (v := ?_) (a' := ?_) #[true, true, false, false, false, false, false, false, false, false, false, false, false, false, false, false, false] rfl rfl (by kernel_rfl) (fun _ _ _ h => h) (Or.inl ⟨by rfl, ?_⟩) ?_ ?_
      rotate_left
      · intro w'
        go_simp
        with_reducible rfl
      rotate_left
      · simp only [Act.put, List.setIfInBounds_toArray, List.set_cons_zero, List.set_cons_succ, i64_w, i32_w]
        rfl
      refine pure_ (i := 2) (N := some 43) (v := ?_) (a' := ?_) #[true, true, true, false, false, false, false, false, false, false, false, false, false, false, false, false, false] rfl rfl (by kernel_rfl) (fun _ _ _ h => h) (Or.inl ⟨by rfl, ?_⟩) ?_ ?_
      rotate_left
      · intro w'
        go_simp
        with_reducible rfl
      rotate_left
      · simp only [Act.put, List.setIfInBounds_toArray, List.set_cons_zero, List.set_cons_succ, i64_w, i32_w]
        rfl
      refine pure_ (i := 3) (N := some 44) (v := ?_) (a' := ?_) #[true, true, true, true, false, false, false, false, false, false, false, false, false, false, false, false, false] rfl rfl (by kernel_rfl) (fun _ _ _ h => h) (Or.inl ⟨by rfl, ?_⟩) ?_ ?_
      rotate_left
      · intro w'
        go_simp
        with_reducible rfl
      rotate_left
      · simp only [Act.put, List.setIfInBounds_toArray, List.set_cons_zero, List.set_cons_succ, i64_w, i32_w]
        rfl
      refine pure_ (i := 4) (N := some 45) (v := ?_) (a' := ?_) #[true, true, true, true, true, false, false, false, false, false, false, false, false, false, false, false, false] rfl rfl (by kernel_rfl) (fun _ _ _ h => h) (Or.inl ⟨by rfl, ?_⟩) ?_ ?_
      rotate_left
      · intro w'
        go_simp
        with_reducible rfl
      rotate_left
      · simp only [Act.put, List.setIfInBounds_toArray, List.set_cons_zero, List.set_cons_succ, i64_w, i32_w]
        rfl
      refine pure_ (i := 6) (N := some 47) (v := ?_) (a' := ?_) #[true, true, true, true, true, false, true, false, false, false, false, false, false, false, false, false, false] rfl rfl (by kernel_rfl) (fun _ _ _ h => h) (Or.inl ⟨by rfl, ?_⟩) ?_ ?_
      rotate_left
      · intro w'
        go_simp
        with_reducible rfl
      rotate_left
      · simp only [Act.put, List.setIfInBounds_toArray, List.set_cons_zero, List.set_cons_succ, i64_w, i32_w]
        rfl
      refine pure_ (i := 7) (N := some 48) (v := ?_) (a' := ?_) #[true, true, true, true, true, false, true, true, false, false, false, false, false, false, false, false, false] rfl rfl (by kernel_rfl) (fun _ _ _ h => h) (Or.inl ⟨by rfl, ?_⟩) ?_ ?_
      rotate_left
      · intro w'
        go_simp
        with_reducible rfl
      rotate_left
      · simp only [Act.put, List.setIfInBounds_toArray, List.set_cons_zero, List.set_cons_succ, i64_w, i32_w]
        rfl
      refine pure_ (i := 8) (N := some 49) (v := ?_) (a' := ?_) #[true, true, true, true, true, false, true, true, true, false, false, false, false, false, false, false, false] rfl rfl (by kernel_rfl) (fun _ _ _ h => h) (Or.inl ⟨by rfl, ?_⟩) ?_ ?_
      rotate_left
      · intro w'
        go_simp
        with_reducible rfl
      rotate_left
      · simp only [Act.put, List.setIfInBounds_toArray, List.set_cons_zero, List.set_cons_succ, i64_w, i32_w]
        rfl
      refine pure_ (i := 9) (N := some 50) (v := ?_) (a' := ?_) #[true, true, true, true, true, false, true, true, true, true, false, false, false, false, false, false, false] rfl rfl (by kernel_rfl) (fun _ _ _ h => h) (Or.inl ⟨by rfl, ?_⟩) ?_ ?_
      rotate_left
      · intro w'
        go_simp
        with_reducible rfl
      rotate_left
      · simp only [Act.put, List.setIfInBounds_toArray, List.set_cons_zero, List.set_cons_succ, i64_w, i32_w]
        rfl
      refine take_ (i := 5) (N := some 46) (v := ?_) (a' := ?_) #[true, true, true, true, true, true, true, true, true, true, false, false, false, false, false, false, false] rfl rfl (by kernel_rfl) (fun _ _ _ h => h) (Or.inl ⟨by rfl, ?_⟩) hHeld ?_ ?_
      rotate_left
      · rintro w' ⟨s0, s1, s2, s3, s4, s5⟩
        go_simp
        with_reducible rfl
      rotate_left
      · simp only [Act.put, List.setIfInBounds_toArray, List.set_cons_zero, List.set_cons_succ, i64_w, i32_w]
        rfl
      refine take_ (i := 10) (N := some 51) (v := ?_) (a' := ?_) #[true, true, true, true, true, true, true, true, true, true, true, false, false, false, false, false, false] rfl rfl (by kernel_rfl) (fun _ _ _ h => h) (Or.inl ⟨by rfl, ?_⟩) hHeld ?_ ?_
      rotate_left
      · rintro w' ⟨s0, s1, s2, s3, s4, s5⟩
        go_simp
        with_reducible rfl
      rotate_left
      · simp only [Act.put, List.setIfInBounds_toArray, List.set_cons_zero, List.set_cons_succ, i64_w, i32_w]
        rfl
      refine one_ (i := 11) (N := some 52) #[true, true, true, true, true, true, true, true, true, true, true, true, false, false, false, false, false] rfl rfl (by kernel_rfl) (by decide) (fun K hK => ?_)
      refine value_ (w1 := ?_) (v := ?_) (by rfl) rfl ?_ ?_
      rotate_left 2
      · go_simp
        constructor
        · rfl
        · rfl
      refine hK.out _ _ ⟨(pw_cell_below (below_alloc (Below.refl _ _) _) c1), (pw_cell_below (below_alloc (Below.refl _ _) _) c2), (pw_cell_below (below_alloc (Below.refl _ _) _) c3), (pw_cell_below (below_alloc (Below.refl _ _) _) d1), (pw_cell_below (below_alloc (Below.refl _ _) _) d2), (pw_cell_below (below_alloc (Below.refl _ _) _) d3)⟩ (fun hHeld => ?_)
      clear hK K
      refine norm_ (a' := ?_) ?_ ?_
      rotate_left
      · show Act.put _ (some 52) _ = _
        simp only [Act.put, List.setIfInBounds_toArray, List.set_cons_zero, List.set_cons_succ, i64_w, i32_w]
        rfl
      refine one_ (i := 12) (N := some 53) #[true, true, true, true, true, true, true, true, true, true, true, true, true, false, false, false, false] rfl rfl (by kernel_rfl) (by decide) (fun K hK => ?_)
      refine goes_ Try.func79 (by kernel_rfl) rfl #[.slice (some ⟨wr.drew.heap.size, 0, none⟩) 2 2] (by rfl) rfl rfl (by simp only [List.map_toArray, List.map_cons, List.map_nil]; rfl) ?_
      with_reducible refine (add2_drew wr xB xR xL yB yR yL HSM.out.1 HSM.out.2.1 HSM.out.2.2.1 HSM.out.2.2.2.1 HSM.out.2.2.2.2.1 HSM.out.2.2.2.2.2).mono ?_
      rintro e w7 ⟨rfl, hb⟩
      refine ⟨_, rfl, ?_⟩
      have HB7 := Aside0.mk hb
      have BK7 : Aside0 (Blk w7 gb H1 xB xR xL A2 ps.length cp2) := ⟨(hb.block gb (blk_lt BK1.out)).trans BK1.out⟩
      have f1 := blk_frozen BK7.out 1
      have f2 := blk_frozen BK7.out 2
      have f3 := blk_frozen BK7.out 3
      refine hK.out _ _ ⟨(pw_cell_below hb c1), (pw_cell_below hb c2), (pw_cell_below hb c3), (pw_cell_below hb d1), (pw_cell_below hb d2), (pw_cell_below hb d3)⟩ (fun hHeld => ?_)
      clear hK K
      refine norm_ (a' := ?_) ?_ ?_
      rotate_left
      · show Act.put _ (some 53) _ = _
        simp only [Act.put, List.setIfInBounds_toArray, List.set_cons_zero, List.set_cons_succ, i64_w, i32_w]
        rfl
      refine pure_ (i := 13) (N := some 54) (v := ?_) (a' := ?_) #[true, true, true, true, true, true, true, true, true, true, true, true, true, true, false, false, false] rfl rfl (by kernel_rfl) (fun _ _ _ h => h) (Or.inl ⟨by rfl, ?_⟩) ?_ ?_
      rotate_left
      · intro w'
        go_simp
        with_reducible rfl
      rotate_left
      · simp only [Act.put, List.setIfInBounds_toArray, List.set_cons_zero, List.set_cons_succ, i64_w, i32_w]
        rfl
      refine pure_ (i := 14) (N := some 55) (v := ?_) (a' := ?_) #[true, true, true, true, true, true, true, true, true, true, true, true, true, true, true, false, false] rfl rfl (by kernel_rfl) (fun _ _ _ h => h) (Or.inl ⟨by rfl, ?_⟩) ?_ ?_
      rotate_left
      · intro w'
        go_simp
        with_reducible rfl
      rotate_left
      · simp only [Act.put, List.setIfInBounds_toArray, List.set_cons_zero, List.set_cons_succ, i64_w, i32_w]
        rfl
      refine pure_ (i := 15) (N := some 56) (v := ?_) (a' := ?_) #[true, true, true, true, true, true, true, true, true, true, true, true, true, true, true, true, false] rfl rfl (by kernel_rfl) (fun _ _ _ h => h) (Or.inl ⟨by rfl, ?_⟩) ?_ ?_
      rotate_left
      · intro w'
        go_simp
        with_reducible rfl
      rotate_left
      · simp only [Act.put, List.setIfInBounds_toArray, List.set_cons_zero, List.set_cons_succ, i64_w, i32_w]
        rfl
      refine last_ (i := 16) (N := none) #[true, true, true, true, true, true, true, true, true, true, true, true, true, true, true, true, true] rfl rfl (by kernel_rfl) (by decide) (fun K hK => ?_)
      refine skip_ (w1 := ?_) (by rfl) rfl ?_ ?_
      rotate_left
      · go_simp
        rfl
      refine hK.out _ _ ?_
      clear hK K
      refine done_ (by kernel_rfl) ?_
      go_wp2
      go_roundg k1
      case measure => omega
      case rel =>
        have e := HSum.out
        have hx : (wrap64 (x + 1)).toNat = x.toNat + 1 := by have := HK.out; have := HP.out; have := N28.out; unfold wrap64; omega
        refine ⟨wrap64 (x + 1), (by first | rfl | (simp; done)), ⟨by have := HK.out; have := HP.out; have := N28.out; unfold wrap64; omega⟩, ⟨?_⟩, ⟨?_⟩, ⟨?_⟩⟩
        · rw [hx]
          unfold sumB sumR sumL
          rw [e.1, e.2.1, e.2.2]
          exact blk_put (blk_put (blk_put BK7.out 1 (.int .i64 (xB + yB)) rfl) 2 (.int .i64 (xR + yR)) rfl) 3 (.int .i64 (xL + yL)) rfl
        · exact below_set (below_set (below_set (below_step HB.out HB7.out) GE.out) GE.out) GE.out
        · exact Kd.R_far (p := ⟨gb, 3, none⟩) (Kd.R_far (p := ⟨gb, 2, none⟩) (Kd.R_far (p := ⟨gb, 1, none⟩) (Kd.R_below HO.out HB7.out) (fun k hk => by show k ≠ gb; omega) _) (fun k hk => by show k ≠ gb; omega) _) (fun k hk => by show k ≠ gb; omega) _
    · have cxb : decide (x < (ts.length : Int)) = false := decide_eq_false cx
      clear p0
      go_wp2
      go_ret
      have hx : ts.take x.toNat = ts := List.take_of_length_le (by omega)
      have bk := BK.out
      rw [hx] at bk
      have hl : ps.length = ts.length := HR.out.c.1
      have ho := HO.out
      rw [hl] at bk ho
      refine ⟨gb, rfl, ?_, HB.out⟩
      unfold joinT
      rw [← HH.out]
      exact .node gb H1 (sumB ts) (sumR ts) (sumL ts) ⟨#[]⟩ ts A2 cp2 ps (Or.inr GE.out) bk hl (Kd.R_mono ho (fun k hk => Or.inr hk.1)) (fun j p t hp ht => ((HR.out.r j p t hp ht).later HB.out).mono (fun k hk => Or.inl hk))
theorem Rk.later {w w1 : World} {ok : Nat → Prop} {A : Option Addr} {n : Nat} {ps : List (Option Addr)} {ts : List Tr} (h : Rk w ok A n ps ts) (hb : Below w.heap.size w w1) : Rk w1 ok A n ps ts :=
  ⟨Kd.C_below h.c hb, h.len, fun j p t hp ht => (h.r j p t hp ht).later hb⟩
theorem Rk.mono {w : World} {ok ok' : Nat → Prop} {A : Option Addr} {n : Nat} {ps : List (Option Addr)} {ts : List Tr} (h : Rk w ok A n ps ts) (hm : ∀ k, ok k → ok' k) : Rk w ok' A n ps ts :=
  ⟨h.c, h.len, fun j p t hp ht => (h.r j p t hp ht).mono hm⟩
theorem Rk.bound {w : World} {ok : Nat → Prop} {A : Option Addr} {n : Nat} {ps : List (Option Addr)} {ts : List Tr} (h : Rk w ok A n ps ts) : Rk w (fun k => ok k ∧ k < w.heap.size) A n ps ts :=
  ⟨h.c, h.len, fun j p t hp ht => (h.r j p t hp ht).bound⟩
theorem Rk.plen {w : World} {ok : Nat → Prop} {A : Option Addr} {n : Nat} {ps : List (Option Addr)} {ts : List Tr} (h : Rk w ok A n ps ts) : ps.length = ts.length := by rw [h.len]; exact h.c.1
theorem Rk.take {w : World} {ok : Nat → Prop} {A : Option Addr} {n : Nat} {ps : List (Option Addr)} {ts : List Tr} (h : Rk w ok A n ps ts) (m : Nat) (hm : m ≤ n) : Rk w ok A m (ps.take m) (ts.take m) := by
  have hl : ps.length = n := h.c.1
  have hc := h.c
  rw [← hl] at hc
  have h1 := Kd.C_take (m := m) hc (by omega)
  have e : (ps.take m).length = m := by rw [List.length_take]; omega
  rw [e] at h1
  refine ⟨h1, by rw [List.length_take, h.len]; omega, fun j p t hp ht => ?_⟩
  rw [List.getElem?_take] at hp ht
  split at hp
  · rename_i hj
    rw [if_pos hj] at ht
    exact h.r j p t hp ht
  · cases hp
theorem Rk.drop {w : World} {ok : Nat → Prop} {A : Option Addr} {n cp : Nat} {ps : List (Option Addr)} {ts : List Tr} (h : Rk w ok A n ps ts) (m : Nat) (hm : m ≤ n) (hcp : n ≤ cp) : Rk w ok (if cp = m then A else A.map (·.add m)) (n - m) (ps.drop m) (ts.drop m) := by
  have hl : ps.length = n := h.c.1
  have hc := h.c
  rw [← hl] at hc
  have h1 := Kd.C_drop (m := m) (c := cp) hc (by omega) (by omega)
  rw [List.length_drop, hl, show m * kPtr.sz = m from Nat.mul_one m] at h1
  refine ⟨h1, by rw [List.length_drop, h.len], fun j p t hp ht => ?_⟩
  rw [List.getElem?_drop] at hp ht
  exact h.r _ p t hp ht
end Go.Proofs.Ytdcnoiofimngpaa.Kd_
/- Leaf; groups, levels, and the tree over them, in plain words. -/
namespace Go.Proofs.Ytdcnoiofimngpaa.Ke
open Go.RowKit Go.Proofs.Ytdcnoiofimngpaa.U Go.Proofs.Ytdcnoiofimngpaa.QK Go.Proofs.Ytdcnoiofimngpaa.Kt Go.Proofs.Ytdcnoiofimngpaa.Ka Go.Proofs.Ytdcnoiofimngpaa.Kb Go.Proofs.Ytdcnoiofimngpaa.Kd_ Go.Proofs.YtdcnoiofimngpaaW.PrintWords Go.Proofs.YtdcnoiofimngpaaW.PrintLast Go.Proofs.YtdcnoiofimngpaaW.PrintMore
set_option linter.unusedVariables false
set_option linter.unusedSimpArgs false
/-! ### groups and levels -/
def grp (n : Nat) : Nat := if n = 9 then 7 else min n 8
theorem grp_pos {n : Nat} (h : n ≠ 0) : 0 < grp n ∧ grp n ≤ n ∧ grp n ≤ 8 := by unfold grp; split <;> omega
theorem grp_two {n : Nat} (h : 2 ≤ n) : 2 ≤ grp n ∧ (n - grp n = 0 ∨ 2 ≤ n - grp n) := by unfold grp; split <;> omega
def level (ts : List Tr) : List Tr := if h : ts = [] then [] else joinT (ts.take (grp ts.length)) :: level (ts.drop (grp ts.length))
  termination_by ts.length
  decreasing_by
    have h1 : ts.length ≠ 0 := fun e => h (List.eq_nil_of_length_eq_zero e)
    have := grp_pos h1
    rw [List.length_drop]; omega
theorem level_nil : level [] = [] := by rw [level]; rfl
theorem level_cons {ts : List Tr} (h : ts.length ≠ 0) : level ts = joinT (ts.take (grp ts.length)) :: level (ts.drop (grp ts.length)) := by
  rw [level, dif_neg (fun e => h (by rw [e]; rfl))]
theorem level_len (n : Nat) : ∀ ts : List Tr, ts.length = n → ts.length ≤ 1 ∨ (level ts).length < ts.length := by
  induction n using Nat.strongRecOn with
  | _ n ih =>
    intro ts hn
    by_cases h1 : ts.length ≤ 1
    · exact .inl h1
    · right
      have hg := grp_two (n := ts.length) (by omega)
      have hp := grp_pos (n := ts.length) (by omega)
      rw [level_cons (by omega), List.length_cons]
      have hd : (ts.drop (grp ts.length)).length = ts.length - grp ts.length := by rw [List.length_drop]
      rcases ih _ (by omega) (ts.drop (grp ts.length)) hd with h | h
      · have h0 : (ts.drop (grp ts.length)).length = 0 := by omega
        rw [List.eq_nil_of_length_eq_zero h0, level_nil]
        simp; omega
      · omega
def upT (ts : List Tr) : Tr := if h : 8 < ts.length then upT (level ts) else match ts with | [] => .nil | [t] => t | _ => joinT ts
  termination_by ts.length
  decreasing_by rcases level_len _ ts rfl with h' | h' <;> omega
theorem upT_level {ts : List Tr} (h : 8 < ts.length) : upT ts = upT (level ts) := by rw [upT, dif_pos h]
theorem upT_one {ts : List Tr} (h : ts.length = 1) : upT ts = rdT ts 0 := by
  obtain ⟨t, rfl⟩ := List.length_eq_one_iff.mp h
  rw [upT, dif_neg (by simp)]; rfl
theorem upT_join {ts : List Tr} (h : 2 ≤ ts.length) (h8 : ts.length ≤ 8) : upT ts = joinT ts := by
  rw [upT, dif_neg (by omega)]
  match ts, h with
  | _ :: _ :: _, _ => rfl
theorem upT_nil : upT [] = .nil := by rw [upT, dif_neg (by simp)]
/-- knots of one height, in range -/
structure Lv (d : Int) (ts : List Tr) : Prop where
  e : ∀ t ∈ ts, t.none = false ∧ t.h0 = d ∧ 0 ≤ t.cb ∧ 0 ≤ t.cr ∧ 0 ≤ t.cl
  d0 : 0 ≤ d
  b : sumB ts ≤ 100000000000
  r : sumR ts ≤ 100000000000
  l : sumL ts ≤ 100000000000
theorem sum_nonneg (f : Tr → Int) (l : List Tr) (hf : ∀ t ∈ l, 0 ≤ f t) : 0 ≤ (l.map f).sum := by
  induction l with
  | nil => simp
  | cons t ts ih => rw [List.map_cons, List.sum_cons]; have := hf t (by simp); have := ih (fun x hx => hf x (by simp [hx])); omega
theorem sum_part (f : Tr → Int) (l : List Tr) (n : Nat) : (l.map f).sum = ((l.take n).map f).sum + ((l.drop n).map f).sum := by
  conv => lhs; rw [← List.take_append_drop n l, List.map_append, List.sum_append]
theorem sum_mem (f : Tr → Int) (l : List Tr) (hf : ∀ t ∈ l, 0 ≤ f t) (t : Tr) (ht : t ∈ l) : f t ≤ (l.map f).sum := by
  induction l with
  | nil => cases ht
  | cons x xs ih =>
    rw [List.map_cons, List.sum_cons]
    have h0 := hf x (by simp)
    have h1 := sum_nonneg f xs (fun y hy => hf y (by simp [hy]))
    rcases List.mem_cons.1 ht with rfl | ht
    · omega
    · have := ih (fun y hy => hf y (by simp [hy])) ht; omega
theorem Lv.sm {d : Int} {ts : List Tr} (h : Lv d ts) (hd : d ≤ 1000000) : ∀ t ∈ ts, SmT t := by
  intro t ht
  have hb := sum_mem Tr.cb ts (fun t ht => (h.e t ht).2.2.1) t ht
  have hr := sum_mem Tr.cr ts (fun t ht => (h.e t ht).2.2.2.1) t ht
  have hl := sum_mem Tr.cl ts (fun t ht => (h.e t ht).2.2.2.2) t ht
  have h1 := h.b
  have h2 := h.r
  have h3 := h.l
  have h4 := h.d0
  obtain ⟨e1, e2, e3, e4, e5⟩ := h.e t ht
  unfold sumB at h1
  unfold sumR at h2
  unfold sumL at h3
  unfold SmT
  omega
theorem Lv.even {d : Int} {ts : List Tr} (h : Lv d ts) : evenB ts = true := by
  unfold evenB
  rw [List.all_eq_true]
  intro t ht
  have h0 : rdT ts 0 ∈ ts := by
    have : ts.length ≠ 0 := fun e => by rw [List.eq_nil_of_length_eq_zero e] at ht; cases ht
    unfold rdT; rw [List.getD_eq_getElem?_getD, List.getElem?_eq_getElem (by simp; omega)]; exact List.getElem_mem _
  unfold evenAt
  rw [(h.e t ht).1, (h.e t ht).2.1, (h.e _ h0).2.1]
  simp
theorem Lv.take {d : Int} {ts : List Tr} (h : Lv d ts) (n : Nat) : Lv d (ts.take n) := by
  have p := fun f hf => sum_nonneg f (ts.drop n) hf
  have hb := sum_part Tr.cb ts n
  have hr := sum_part Tr.cr ts n
  have hl := sum_part Tr.cl ts n
  have qb := p Tr.cb (fun t ht => (h.e t (List.mem_of_mem_drop ht)).2.2.1)
  have qr := p Tr.cr (fun t ht => (h.e t (List.mem_of_mem_drop ht)).2.2.2.1)
  have ql := p Tr.cl (fun t ht => (h.e t (List.mem_of_mem_drop ht)).2.2.2.2)
  have h1 := h.b
  have h2 := h.r
  have h3 := h.l
  unfold sumB at h1
  unfold sumR at h2
  unfold sumL at h3
  exact ⟨fun t ht => h.e t (List.mem_of_mem_take ht), h.d0, by unfold sumB; omega, by unfold sumR; omega, by unfold sumL; omega⟩
theorem Lv.drop {d : Int} {ts : List Tr} (h : Lv d ts) (n : Nat) : Lv d (ts.drop n) := by
  have p := fun f hf => sum_nonneg f (ts.take n) hf
  have hb := sum_part Tr.cb ts n
  have hr := sum_part Tr.cr ts n
  have hl := sum_part Tr.cl ts n
  have qb := p Tr.cb (fun t ht => (h.e t (List.mem_of_mem_take ht)).2.2.1)
  have qr := p Tr.cr (fun t ht => (h.e t (List.mem_of_mem_take ht)).2.2.2.1)
  have ql := p Tr.cl (fun t ht => (h.e t (List.mem_of_mem_take ht)).2.2.2.2)
  have h1 := h.b
  have h2 := h.r
  have h3 := h.l
  unfold sumB at h1
  unfold sumR at h2
  unfold sumL at h3
  exact ⟨fun t ht => h.e t (List.mem_of_mem_drop ht), h.d0, by unfold sumB; omega, by unfold sumR; omega, by unfold sumL; omega⟩
theorem joinT_e {d : Int} {ts : List Tr} (h : Lv d ts) (hn : ts.length ≠ 0) : (joinT ts).none = false ∧ (joinT ts).h0 = d + 1 ∧ (joinT ts).cb = sumB ts ∧ (joinT ts).cr = sumR ts ∧ (joinT ts).cl = sumL ts := by
  have h0 : rdT ts 0 ∈ ts := by
    unfold rdT; rw [List.getD_eq_getElem?_getD, List.getElem?_eq_getElem (by simp; omega)]; exact List.getElem_mem _
  refine ⟨?_, ?_, rfl, rfl, rfl⟩
  · show ((_ == _) && (ts.length == 0)) = false
    rw [beq_eq_false_iff_ne.mpr hn, Bool.and_false]
  · show (rdT ts 0).h0 + 1 = d + 1
    rw [(h.e _ h0).2.1]
theorem level_lv (n : Nat) : ∀ (d : Int) (ts : List Tr), ts.length = n → Lv d ts → Lv (d + 1) (level ts) ∧ sumB (level ts) = sumB ts ∧ sumR (level ts) = sumR ts ∧ sumL (level ts) = sumL ts := by
  induction n using Nat.strongRecOn with
  | _ n ih =>
    intro d ts hn h
    by_cases h0 : ts.length = 0
    · obtain rfl := List.eq_nil_of_length_eq_zero h0
      rw [level_nil]
      exact ⟨⟨(fun t ht => by cases ht), by have := h.d0; omega, h.b, h.r, h.l⟩, rfl, rfl, rfl⟩
    · have hp := grp_pos h0
      obtain ⟨i1, i2, i3, i4⟩ := ih _ (by rw [List.length_drop]; omega) d (ts.drop (grp ts.length)) rfl (h.drop _)
      have ht := h.take (grp ts.length)
      obtain ⟨j1, j2, j3, j4, j5⟩ := joinT_e ht (by rw [List.length_take]; omega)
      rw [level_cons h0]
      have eb : sumB (joinT (ts.take (grp ts.length)) :: level (ts.drop (grp ts.length))) = sumB ts := by
        unfold sumB at i2 j3 ⊢; rw [List.map_cons, List.sum_cons, i2, j3, ← sum_part]
      have er : sumR (joinT (ts.take (grp ts.length)) :: level (ts.drop (grp ts.length))) = sumR ts := by
        unfold sumR at i3 j4 ⊢; rw [List.map_cons, List.sum_cons, i3, j4, ← sum_part]
      have el : sumL (joinT (ts.take (grp ts.length)) :: level (ts.drop (grp ts.length))) = sumL ts := by
        unfold sumL at i4 j5 ⊢; rw [List.map_cons, List.sum_cons, i4, j5, ← sum_part]
      refine ⟨⟨fun t hm => ?_, by have := h.d0; omega, by rw [eb]; exact h.b, by rw [er]; exact h.r, by rw [el]; exact h.l⟩, eb, er, el⟩
      rcases List.mem_cons.1 hm with rfl | hm
      · refine ⟨j1, j2, ?_, ?_, ?_⟩
        · rw [j3]; exact sum_nonneg _ _ (fun t ht' => (ht.e t ht').2.2.1)
        · rw [j4]; exact sum_nonneg _ _ (fun t ht' => (ht.e t ht').2.2.2.1)
        · rw [j5]; exact sum_nonneg _ _ (fun t ht' => (ht.e t ht').2.2.2.2)
      · exact i1.e t hm
theorem grp_f (n : Nat) : knot_group.f (n : Int) = some ((grp n : Nat) : Int) := by
  unfold knot_group.f grp mn
  by_cases h : n = 9
  · rw [if_pos (by omega), if_pos h]; rfl
  · rw [if_neg (by omega), if_neg h]
    congr 1
    split <;> omega
theorem grp_calls (w : World) (n : Nat) : Calls Try.prog 101 #[.int .i64 (n : Int)] w fun e w' => e = .returned (.int .i64 ((grp n : Nat) : Int)) ∧ Below w.heap.size w w' := knot_group.calls _ _ w (grp_f n)
/-! ### Leaf -/
def LeafPost (w : World) (t : Tr) (e : Ending) (w' : World) : Prop := ∃ a : Nat, e = .returned (.pointer (some ⟨a, 0, none⟩)) ∧ Rp w' (fun k => w.heap.size ≤ k) (some ⟨a, 0, none⟩) t ∧ Below w.heap.size w w'
theorem leaf_no (w : World) (s : ByteArray) (h : chunk_Fits.f s = some false) : Calls Try.prog 74 #[.string s] w fun e w' => e = .returned (.pointer none) ∧ Below w.heap.size w w' := by
  have H := Aside0.mk h
  clear h
  go_enter Try.func74, Try.ntmps74
  go_wp2_with (go_at_call 98; (with_reducible refine (chunk_Fits.calls s false _ H.out).mono ?_); rintro e w1 ⟨rfl, hb⟩; have HB := Aside0.mk hb; clear hb)
  go_ret
  exact ⟨rfl, HB.out⟩
set_option maxHeartbeats 4000000 in
theorem leaf_calls (w : World) (s : ByteArray) (r1 r2 r3 : Int) (h : chunk_Fits.f s = some true) (ho : tally_Of.f s = some (r1, r2, r3)) : Calls Try.prog 74 #[.string s] w (LeafPost w (.node 0 r1 r2 r3 s [])) := by
  have H := Aside0.mk h
  have HO := Aside0.mk ho
  clear h ho
  go_enter Try.func74, Try.ntmps74
  go_wp2_with (first | (go_at_call 98; (with_reducible refine (chunk_Fits.calls s true _ H.out).mono ?_); rintro e w1 ⟨rfl, hb⟩; have HB := Aside0.mk hb; clear hb) | (go_at_call 99; (with_reducible refine (tally_Of.calls s r1 r2 r3 _ HO.out).mono ?_); rintro e w2 ⟨rfl, hb⟩; have HB1 := Aside0.mk (below_step HB.out hb); clear hb HB) | ((with_reducible refine gate_dst (N := 11) rfl ?_); refine box_event ?hg (N := 11) ?hd (cs := #[.int .i64 0, .int .i64 r1, .int .i64 r2, .int .i64 r3, .string s, .slice none 0 0]) (t := 129) ?hr ?_; (case hd => rfl); (case hg => rfl); (case hr => first | (go_simp; done) | (go_simp; rfl)); intro gb hg wb hbox hb; have HB2 := Aside0.mk (below_step HB1.out hb); have BK := Aside0.mk hbox; have GE : Aside0 (w.heap.size ≤ gb) := ⟨by rw [hg]; exact HB1.out.size⟩; clear hb hbox hg HB1))
  go_ret
  refine ⟨gb, rfl, ?_, HB2.out⟩
  exact .node gb 0 r1 r2 r3 s [] none 0 [] GE.out BK.out rfl (Kd.R_nil _ _ _ _ _) (fun j p t hp ht => by cases hp)
end Go.Proofs.Ytdcnoiofimngpaa.Ke
/- Up: the tree over knots of one height. -/
namespace Go.Proofs.Ytdcnoiofimngpaa.Kf
open Go.RowKit Go.Proofs.Ytdcnoiofimngpaa.QK Go.Proofs.Ytdcnoiofimngpaa.Kt Go.Proofs.Ytdcnoiofimngpaa.Ka Go.Proofs.Ytdcnoiofimngpaa.Kb Go.Proofs.Ytdcnoiofimngpaa.Kd_ Go.Proofs.Ytdcnoiofimngpaa.Ke Go.Proofs.YtdcnoiofimngpaaW.PrintWords Go.Proofs.YtdcnoiofimngpaaW.PrintLast Go.Proofs.YtdcnoiofimngpaaW.PrintMore
set_option linter.unusedVariables false
set_option linter.unusedSimpArgs false
/-- trees beside a row that grows: they are told from its block -/
structure Ts (W : World) (Q : Nat → Prop) (v : Value) (ps : List (Option Addr)) (ts : List Tr) : Prop where
  len : ps.length = ts.length
  r : ∀ (j : Nat) (p : Option Addr) (t : Tr), ps[j]? = some p → ts[j]? = some t → Rp W (fun k => Q k ∧ some k ≠ v.ownBlock) p t
theorem Ts.nil (W : World) (Q : Nat → Prop) (v : Value) : Ts W Q v [] [] := ⟨rfl, fun j p t hp ht => by cases hp⟩
theorem Ts.later {W W1 : World} {Q : Nat → Prop} {v : Value} {ps : List (Option Addr)} {ts : List Tr} (h : Ts W Q v ps ts) (hb : Below W.heap.size W W1) : Ts W1 Q v ps ts :=
  ⟨h.len, fun j p t hp ht => (h.r j p t hp ht).later hb⟩
theorem rp_after {W w1 : World} {Q : Nat → Prop} {v v1 : Value} {p : Option Addr} {t : Tr} (h : Rp W (fun k => Q k ∧ some k ≠ v.ownBlock) p t) (hg : W.grownBy w1 v.ownBlock) (hat : v1.ownBlock = v.ownBlock ∨ ∃ b, v1.ownBlock = some b ∧ W.heap.size ≤ b) :
    Rp w1 (fun k => Q k ∧ some k ≠ v1.ownBlock) p t := by
  refine (h.bound.step (fun k hk hlt => hg.block k hlt hk.1.2)).mono (fun k hk => ⟨hk.1.1, fun he => ?_⟩)
  rcases hat with e1 | ⟨b, e1, hb⟩
  · exact hk.1.2 (by rw [← e1]; exact he)
  · rw [e1] at he
    injection he with he
    have := hk.2
    omega
theorem Ts.app {W w1 : World} {Q : Nat → Prop} {v v1 : Value} {ps : List (Option Addr)} {ts : List Tr} {p : Option Addr} {t : Tr} (h : Ts W Q v ps ts) (hp : Rp W (fun k => Q k ∧ some k ≠ v.ownBlock) p t) (hg : W.grownBy w1 v.ownBlock) (hat : v1.ownBlock = v.ownBlock ∨ ∃ b, v1.ownBlock = some b ∧ W.heap.size ≤ b) : Ts w1 Q v1 (ps ++ [p]) (ts ++ [t]) := by
  have hl := h.len
  refine ⟨by rw [List.length_append, List.length_append, hl]; rfl, fun j q u hq hu => ?_⟩
  by_cases hj : j < ps.length
  · rw [List.getElem?_append_left hj] at hq
    rw [List.getElem?_append_left (by omega)] at hu
    exact rp_after (h.r j q u hq hu) hg hat
  · have hj2 : j = ps.length := by
      have := (List.getElem?_eq_some_iff.1 hq).1
      rw [List.length_append, List.length_singleton] at this; omega
    subst hj2
    rw [List.getElem?_append_right (Nat.le_refl _)] at hq
    rw [List.getElem?_append_right (by omega), ← hl] at hu
    simp at hq hu
    subst hq; subst hu
    exact rp_after hp hg hat
theorem infoC {i : TypeInfo} (hi : Try.prog.info? 73 = some i) : i.size = 1 := by
  have h := infoP
  rw [hi] at h
  simp at h
  exact h.2.1
def UpPost (w : World) (ok : Nat → Prop) (t : Tr) (e : Ending) (w' : World) : Prop := ∃ p, e = .returned (.pointer p) ∧ Rp w' (fun k => ok k ∨ w.heap.size ≤ k) p t ∧ Below w.heap.size w w'
/-- nothing, or nobody's knots -/
theorem up_none (w : World) (A : Option Addr) (n cp : Nat) (ps : List (Option Addr)) (ts : List Tr) (H : Rs w A n ps ts) (h : n = 0 ∨ evenB ts = false) :
    Calls Try.prog 75 #[.slice A n cp] w fun e w' => e = .returned (.pointer none) ∧ Below w.heap.size w w' := by
  by_cases h0 : n = 0
  · subst h0
    go_enter Try.func75, Try.ntmps75
    go_wp2
    go_ret
    exact ⟨rfl, Below.refl _ _⟩
  · have he : evenB ts = false := h.resolve_left h0
    have HE : Aside0 (Calls Try.prog 100 #[.slice A n cp] w fun e w' => e = .returned (.bool false) ∧ Drawn0 w w') := ⟨by have := even_calls w A n cp ps ts H; rw [he] at this; exact this⟩
    have n0 : ((n : Int) == 0) = false := beq_eq_false_iff_ne.mpr (by omega)
    have n1 : (n == 0) = false := beq_eq_false_iff_ne.mpr h0
    clear H h h0 he
    go_enter Try.func75, Try.ntmps75
    go_wp2_with (go_at_call 100; (with_reducible refine HE.out.mono ?_); rintro e wd ⟨rfl, hd⟩; have HB0 := Aside0.mk hd.below; clear hd)
    go_ret
    exact ⟨rfl, HB0.out⟩
end Go.Proofs.Ytdcnoiofimngpaa.Kf
/- Up: the walk. -/
namespace Go.Proofs.Ytdcnoiofimngpaa.Kg
open Go.RowKit Go.Proofs.Ytdcnoiofimngpaa.QK Go.Proofs.Ytdcnoiofimngpaa.Kt Go.Proofs.Ytdcnoiofimngpaa.Ka Go.Proofs.Ytdcnoiofimngpaa.Kb Go.Proofs.Ytdcnoiofimngpaa.Kd_ Go.Proofs.Ytdcnoiofimngpaa.Ke Go.Proofs.Ytdcnoiofimngpaa.Kf Go.Proofs.YtdcnoiofimngpaaW.PrintWords Go.Proofs.YtdcnoiofimngpaaW.PrintLast Go.Proofs.YtdcnoiofimngpaaW.PrintMore
set_option linter.unusedVariables false
set_option linter.unusedSimpArgs false
/-- a round's row -/
structure Ro (w W : World) (ok : Nat → Prop) (A : Option Addr) (n cp : Nat) (ps : List (Option Addr)) (ts0 ts : List Tr) (d : Int) (m : Nat) : Prop where
  r : Rk W (fun k => ok k ∨ w.heap.size ≤ k) A n ps ts
  lv : Lv d ts
  up : upT ts = upT ts0
  n0 : n ≠ 0
  cp_ : n ≤ cp
  hm : n ≤ 1000000
  hd : d + n ≤ 1000000
  lt : n + 1 ≤ m
  bel : Below w.heap.size w W
/-- the inner round -/
structure Ri (w wr W : World) (ok : Nat → Prop) (A : Option Addr) (n cp : Nat) (ps : List (Option Addr)) (tr ts : List Tr) (d : Int) (A3 : Option Addr) (cp3 : Nat) (ps3 : List (Option Addr)) (ts3 : List Tr) (m : Nat) : Prop where
  r : Rk wr (fun k => (ok k ∨ w.heap.size ≤ k) ∧ k < wr.heap.size) A n ps ts
  lv : Lv d ts
  n0 : n = 0 ∨ 2 ≤ n
  cp_ : n ≤ cp
  hm : ps3.length + n ≤ 1000000
  hd : d ≤ 1000000
  lt : n + 1 ≤ m
  bel : Below wr.heap.size wr W
  row : kPtr.R 73 W wr.heap.size (fun _ => True) (.slice A3 ps3.length cp3) ps3
  ts_ : Ts W (fun k => ok k ∨ w.heap.size ≤ k) (.slice A3 ps3.length cp3) ps3 ts3
  lev : ts3 ++ level ts = level tr
theorem Ri.first {w wr : World} {ok : Nat → Prop} {A : Option Addr} {n cp : Nat} {ps : List (Option Addr)} {ts0 ts : List Tr} {d : Int} {m : Nat} (h : Ro w wr ok A n cp ps ts0 ts d m) (h8 : 8 < n) : Ri w wr wr ok A n cp ps ts ts d none 0 [] [] (n + 1) :=
  ⟨h.r.bound, h.lv, .inr (by omega), h.cp_, by have := h.hm; simpa using this, by have := h.hd; omega, Nat.le_refl _, Below.refl _ _, Kd.R_nil _ _ _ _ _, Ts.nil _ _ _, rfl⟩
theorem Ri.last {w wr W : World} {ok : Nat → Prop} {A A1 : Option Addr} {n n1 cp cp1 : Nat} {ps ps1 : List (Option Addr)} {ts0 tr ts1 : List Tr} {d : Int} {A3 : Option Addr} {cp3 : Nat} {ps3 : List (Option Addr)} {ts3 : List Tr} {m m2 : Nat}
    (h : Ro w wr ok A n cp ps ts0 tr d (m + 1)) (h8 : 8 < n) (k : Ri w wr W ok A1 n1 cp1 ps1 tr ts1 d A3 cp3 ps3 ts3 m2) (h0 : n1 = 0) : Ro w W ok A3 ps3.length cp3 ps3 ts0 ts3 (d + 1) m := by
  have e0 : ts1 = [] := List.eq_nil_of_length_eq_zero (by rw [k.r.len]; exact h0)
  have e1 := k.lev
  rw [e0, level_nil, List.append_nil] at e1
  have hl := k.ts_.len
  have hn : tr.length = n := h.r.len
  obtain ⟨q1, q2, q3⟩ := Kd.R_reads' k.row
  have hlt : ts3.length < n := by
    rw [e1]
    rcases level_len _ tr rfl with h' | h' <;> omega
  have hne : ts3.length ≠ 0 := by
    rw [e1, level_cons (by omega)]; simp
  have hle := h.lt
  have hd := h.hd
  have hm := h.hm
  exact ⟨⟨q3, by rw [hl], fun j p t hp ht => (k.ts_.r j p t hp ht).mono (fun k hk => hk.1)⟩, by rw [e1]; exact (level_lv _ d tr rfl h.lv).1, by rw [e1, ← upT_level (by omega)]; exact h.up, by omega, q2, by omega, by omega, by omega, below_step h.bel k.bel⟩
theorem Ri.join {w wr W : World} {ok : Nat → Prop} {A : Option Addr} {n cp : Nat} {ps : List (Option Addr)} {tr ts : List Tr} {d : Int} {A3 : Option Addr} {cp3 : Nat} {ps3 : List (Option Addr)} {ts3 : List Tr} {m : Nat}
    (k : Ri w wr W ok A n cp ps tr ts d A3 cp3 ps3 ts3 m) (h0 : n ≠ 0) (hw : w.heap.size ≤ wr.heap.size) : Calls Try.prog 102 #[.slice A (grp n) cp] W fun e w' => ∃ q, e = .returned (.pointer q) ∧
      Rp w' (fun k => (ok k ∨ w.heap.size ≤ k) ∧ some k ≠ (Value.slice A3 ps3.length cp3).ownBlock) q (joinT (ts.take (grp n))) ∧ Below W.heap.size W w' := by
  have hg := grp_pos h0
  have h2 := k.n0.resolve_left h0
  have hg2 := grp_two h2
  have hbs : ∀ x, (Value.slice A3 ps3.length cp3).ownBlock = some x → wr.heap.size ≤ x ∧ x < W.heap.size := fun x hx => ⟨Kd.R_base k.row x hx, Kd.R_lt k.row x hx⟩
  have hr : Rk W (fun k => (ok k ∨ w.heap.size ≤ k) ∧ some k ≠ (Value.slice A3 ps3.length cp3).ownBlock) A (grp n) (ps.take (grp n)) (ts.take (grp n)) :=
    ((k.r.take (grp n) hg.2.1).later k.bel).mono (fun x hx => ⟨hx.1, fun he => by have := hbs x he.symm; omega⟩)
  have hlv := k.lv.take (grp n)
  refine (join_calls W _ A (grp n) cp _ _ hr hg2.1 hg.2.2 hlv.even (hlv.sm k.hd)).mono fun e w' ⟨a, he, hp, hb⟩ => ⟨_, he, hp.mono (fun x hx => ?_), hb⟩
  rcases hx with hx | hx
  · exact hx
  · have := k.bel.size
    exact ⟨.inr (by omega), fun he => by have := hbs x he.symm; omega⟩
theorem Ri.next {w wr W W2 w1 : World} {ok : Nat → Prop} {A A' : Option Addr} {n cp : Nat} {ps : List (Option Addr)} {tr ts : List Tr} {d : Int} {A3 : Option Addr} {cp3 : Nat} {ps3 : List (Option Addr)} {ts3 : List Tr} {m : Nat} {q : Option Addr} {v1 : Value}
    (k : Ri w wr W ok A n cp ps tr ts d A3 cp3 ps3 ts3 (m + 1)) (h0 : n ≠ 0) (hA : A' = if cp = grp n then A else A.map (·.add (grp n))) (hb : Below W.heap.size W W2)
    (hp : Rp W2 (fun k => (ok k ∨ w.heap.size ≤ k) ∧ some k ≠ (Value.slice A3 ps3.length cp3).ownBlock) q (joinT (ts.take (grp n))))
    (ho : kPtr.R 73 w1 wr.heap.size (fun _ => True) v1 (ps3 ++ [q])) (hb1 : Below wr.heap.size wr w1) (hg : W2.grownBy w1 (Value.slice A3 ps3.length cp3).ownBlock) (hat : v1.ownBlock = (Value.slice A3 ps3.length cp3).ownBlock ∨ ∃ b, v1.ownBlock = some b ∧ W2.heap.size ≤ b) :
    ∃ A4 cp4 ps4, v1 = .slice A4 (ps4 : List (Option Addr)).length cp4 ∧ ∃ ts4, Ri w wr w1 ok A' (n - grp n) (cp - grp n) (ps.drop (grp n)) tr (ts.drop (grp n)) d A4 cp4 ps4 ts4 m := by
  have hgp := grp_pos h0
  have h2 := k.n0.resolve_left h0
  have hg2 := grp_two h2
  have hcp := k.cp_
  have hlt := k.lt
  have hm := k.hm
  obtain ⟨A4, cp4, rfl⟩ := Kd.R_slice ho
  have hl : ts.length = n := k.r.len
  refine ⟨A4, cp4, ps3 ++ [q], rfl, ts3 ++ [joinT (ts.take (grp n))], ⟨?_, k.lv.drop _, hg2.2, by omega, ?_, k.hd, by omega, hb1, ho, ?_, ?_⟩⟩
  · rw [hA]; exact k.r.drop (grp n) hgp.2.1 hcp
  · rw [List.length_append, List.length_singleton]; omega
  · exact (k.ts_.later hb).app hp hg hat
  · rw [List.append_assoc, ← k.lev, level_cons (ts := ts) (by omega), hl]; rfl
theorem Ri.later {w wr W W2 : World} {ok : Nat → Prop} {A : Option Addr} {n cp : Nat} {ps : List (Option Addr)} {tr ts : List Tr} {d : Int} {A3 : Option Addr} {cp3 : Nat} {ps3 : List (Option Addr)} {ts3 : List Tr} {m : Nat}
    (k : Ri w wr W ok A n cp ps tr ts d A3 cp3 ps3 ts3 m) (hb : Below W.heap.size W W2) : Ri w wr W2 ok A n cp ps tr ts d A3 cp3 ps3 ts3 m :=
  ⟨k.r, k.lv, k.n0, k.cp_, k.hm, k.hd, k.lt, below_step k.bel hb, Kd.R_below k.row hb, k.ts_.later hb, k.lev⟩
set_option maxHeartbeats 8000000 in
set_option maxRecDepth 100000 in
theorem up_calls (w : World) (ok : Nat → Prop) (d : Int) (A : Option Addr) (n cp : Nat) (ps : List (Option Addr)) (ts : List Tr) (H : Rk w ok A n ps ts) (hL : Lv d ts) (h0 : n ≠ 0) (hcp : n ≤ cp) (hm : n ≤ 1000000) (hd : d + n ≤ 1000000) :
    Calls Try.prog 75 #[.slice A n cp] w (UpPost w ok (upT ts)) := by
  have HE : Aside0 (Calls Try.prog 100 #[.slice A n cp] w fun e w' => e = .returned (.bool true) ∧ Drawn0 w w') := ⟨by have := even_calls w A n cp ps ts H.rs; rw [hL.even] at this; exact this⟩
  have HR0 : Aside0 (∀ W, Below w.heap.size w W → Ro w W ok A n cp ps ts ts d (n + 1)) := ⟨fun W hb => ⟨(H.later hb).mono (fun k hk => .inl hk), hL, rfl, h0, hcp, hm, hd, Nat.le_refl _, hb⟩⟩
  obtain ⟨i0, hi0, _⟩ := info_parts infoP
  have HI := Aside0.mk hi0
  have n0 : ((n : Int) == 0) = false := beq_eq_false_iff_ne.mpr (by omega)
  have n1 : (n == 0) = false := beq_eq_false_iff_ne.mpr h0
  clear H hL h0 hcp hm hd hi0
  go_enter Try.func75, Try.ntmps75
  go_wp2_with (go_at_call 100; (with_reducible refine HE.out.mono ?_); rintro e wd ⟨rfl, hd⟩; have HR := Aside0.mk (HR0.out _ hd.below); clear hd)
  go_loopg [0] (n + 1) (fun kq v0 w' => ∃ (A : Option Addr) (n cp : Nat) (ps : List (Option Addr)) (tr : List Tr) (d : Int), v0 = .slice A n cp ∧ Aside0 (Ro w w' ok A n cp ps ts tr d kq))
  case atStart => exact ⟨A, n, cp, ps, ts, d, rfl, HR⟩
  case round =>
    clear HR HR0 HE n0 n1
    obtain ⟨A, n, cp, ps, tr, d, rfl, HR⟩ := hrel
    rename World => wo
    obtain ⟨k1, rfl⟩ : ∃ k1, gk = k1 + 1 := ⟨gk - 1, by have := HR.out.lt; omega⟩
    by_cases h8 : 8 < n
    · have h8b : decide (8 < n) = true := decide_eq_true h8
      have h8c : decide (8 < (n : Int)) = true := decide_eq_true (by omega)
      have H8 := Aside0.mk h8
      clear h8
      go_wp2
      go_loopg [0, 3] (n + 1) (fun kq v0 v3 w' => ∃ (A1 : Option Addr) (n1 cp1 : Nat) (ps1 : List (Option Addr)) (ts1 : List Tr) (A3 : Option Addr) (cp3 : Nat) (ps3 : List (Option Addr)) (ts3 : List Tr), v0 = .slice A1 n1 cp1 ∧ v3 = .slice A3 ps3.length cp3 ∧ Aside0 (Ri w wo w' ok A1 n1 cp1 ps1 tr ts1 d A3 cp3 ps3 ts3 kq))
      case atStart => exact ⟨A, n, cp, ps, tr, none, 0, [], [], rfl, rfl, ⟨Ri.first HR.out H8.out⟩⟩
      case round =>
        obtain ⟨A1, n1, cp1, ps1, ts1, A3, cp3, ps3, ts3, rfl, rfl, HK⟩ := hrel
        obtain ⟨k2, rfl⟩ : ∃ k2, gk = k2 + 1 := ⟨gk - 1, by have := HK.out.lt; omega⟩
        by_cases hz : 0 < n1
        · have hzb : decide (0 < n1) = true := decide_eq_true hz
          have hzc : decide (0 < (n1 : Int)) = true := decide_eq_true (by omega)
          have HZ : Aside0 (n1 ≠ 0) := ⟨by omega⟩
          have hg := grp_pos HZ.out
          have hc1 := cut_to (P := Try.prog) 105 73 .i64 Try.underlying105 HI.out A1 n1 cp1 ((grp n1 : Nat) : Int) (by omega) (by omega) HK.out.cp_
          have hc2 := cut_from (P := Try.prog) 105 73 .i64 Try.underlying105 HI.out 1 (infoC HI.out) A1 n1 cp1 ((grp n1 : Nat) : Int) (by omega) (by omega)
          rw [Int.toNat_natCast] at hc1 hc2
          rw [Nat.mul_one] at hc2
          obtain ⟨A4, hA4⟩ : ∃ A4 : Option Addr, A4 = if cp1 = grp n1 then A1 else A1.map (·.add (grp n1)) := ⟨_, rfl⟩
          rw [← hA4] at hc2
          have HA4 := Aside0.mk hA4
          have HG := Aside0.mk (fun W => grp_calls W n1)
          obtain ⟨gn, hgn⟩ : ∃ gn, grp n1 = gn := ⟨_, rfl⟩
          rw [hgn] at hc1 hc2 HG
          have HGN := Aside0.mk hgn
          clear hz hA4 hg hgn
          go_wp2_with (first | (go_at_call 101; (with_reducible refine (HG.out _).mono ?_); rintro e w2 ⟨rfl, hb⟩; have HK2 := Aside0.mk (HK.out.later hb); clear HK hb; have hj := HK2.out.join HZ.out HR.out.bel.size; rw [HGN.out] at hj; have HJ := Aside0.mk hj; clear hj) | (go_at_call 102; (with_reducible refine HJ.out.mono ?_); rintro e w3 ⟨q, rfl, hp, hb⟩; have HP := Aside0.mk hp; have HB := Aside0.mk hb; clear hp hb HJ) | ((with_reducible refine gate_builtin (b := .append) (xs := #[.tmp 22, .tmp 27]) rfl ?_); at_builtin; refine Kd.R_append kPtr (w0 := wo) wo.heap.size rfl (.tmp 22) (.tmp 27) 105 73 (.pointer none) 8 rfl Try.underlying105 infoP rfl (by decide) (by omega) (.slice A3 ps3.length cp3) ps3 q [.pointer q] (fun _ => True) (fun _ => False) rfl rfl ?aP (fun _ hk => hk.elim) (fun _ _ => trivial) (Kd.R_below HK2.out.row HB.out) (below_step HK2.out.bel HB.out) (below_step HK2.out.bel HB.out).size (by have := HK2.out.hm; omega) ?_; (case aP => exact rfl); intro v1 w4 ho hb1 hg hat; obtain ⟨A5, cp5, ps5, rfl, ts5, hk⟩ := HK2.out.next HZ.out HA4.out HB.out (by rw [HGN.out]; exact HP.out) ho hb1 hg hat; rw [HGN.out] at hk; have HK5 := Aside0.mk hk; clear ho hb1 hg hat hk HB HP))
          go_roundg k2
          case measure => omega
          case rel => exact ⟨A4, n1 - gn, cp1 - gn, ps1.drop gn, ts1.drop gn, A5, cp5, ps5, ts5, rfl, rfl, HK5⟩
        · have hzb : decide (0 < n1) = false := decide_eq_false hz
          have hzc : decide (0 < (n1 : Int)) = false := decide_eq_false (by omega)
          have HL := Aside0.mk (Ri.last HR.out H8.out HK.out (by omega))
          clear hz HK
          go_wp2
          go_roundg k1
          case measure => omega
          case rel => exact ⟨A3, ps3.length, cp3, ps3, ts3, d + 1, rfl, HL⟩
    · have h8b : decide (8 < n) = false := decide_eq_false h8
      have h8c : decide (8 < (n : Int)) = false := decide_eq_false (by omega)
      have hlen : tr.length = n := HR.out.r.len
      by_cases h1 : n = 1
      · subst h1
        obtain ⟨ad0, p0, q0, hx0, hp0, _⟩ := HR.out.r.rs.at_ 0 (by omega) (by omega)
        subst q0
        have hx0' : wo.cell? ad0 = some (.pointer p0) := by
          have e : ad0.add 0 = ad0 := by simp [Addr.add]
          rw [← e]; exact hx0
        have e1 : rdT tr 0 = upT ts := by rw [← HR.out.up, upT_one hlen]
        have hrp := HR.out.r.r 0 p0 (rdT tr 0) hp0 (by show tr[0]? = some (tr.getD 0 .nil); rw [List.getD_eq_getElem?_getD, List.getElem?_eq_getElem (by omega)]; rfl)
        rw [e1] at hrp
        have HP := Aside0.mk hrp
        clear h8 hx0 hp0 e1 hrp hlen
        go_wp2
        go_ret
        exact ⟨p0, rfl, HP.out, HR.out.bel⟩
      · have h1b : (n == 1) = false := beq_eq_false_iff_ne.mpr h1
        have h1c : ((n : Int) == 1) = false := beq_eq_false_iff_ne.mpr (by omega)
        have hn0 := HR.out.n0
        have hj := join_calls wo _ A n cp ps tr HR.out.r (by omega) (by omega) HR.out.lv.even (HR.out.lv.sm (by have := HR.out.hd; omega))
        rw [← upT_join (ts := tr) (by omega) (by omega), HR.out.up] at hj
        have HJ := Aside0.mk hj
        clear h8 h1 hn0 hj hlen
        go_wp2_with (go_at_call 102; (with_reducible refine HJ.out.mono ?_); rintro e w3 ⟨a, rfl, hp, hb⟩; have HP := Aside0.mk hp; have HB := Aside0.mk hb; clear hp hb HJ)
        go_ret
        refine ⟨_, rfl, HP.out.mono (fun k hk => ?_), below_step HR.out.bel HB.out⟩
        rcases hk with hk | hk
        · exact hk
        · exact .inr (Nat.le_trans HR.out.bel.size hk)
end Go.Proofs.Ytdcnoiofimngpaa.Kg
