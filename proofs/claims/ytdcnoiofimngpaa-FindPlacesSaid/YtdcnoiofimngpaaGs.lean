import Derived.Test.YtdcnoiofimngpaaGc
import Derived.Test.YtdcnoiofimngpaaQSx
/- The chunk that a place lies in; knots' kids as they stood. -/
namespace Go.Proofs.Ytdcnoiofimngpaa.Gs
open Go.RowKit Go.Proofs.Ytdcnoiofimngpaa.U Go.Proofs.Ytdcnoiofimngpaa.QK Go.Proofs.Ytdcnoiofimngpaa.Kt Go.Proofs.Ytdcnoiofimngpaa.Ka Go.Proofs.Ytdcnoiofimngpaa.Kc Go.Proofs.Ytdcnoiofimngpaa.Kd_ Go.Proofs.Ytdcnoiofimngpaa.Ke Go.Proofs.Ytdcnoiofimngpaa.Kf Go.Proofs.Ytdcnoiofimngpaa.Kh Go.Proofs.Ytdcnoiofimngpaa.Ki Go.Proofs.Ytdcnoiofimngpaa.Kj Go.Proofs.Ytdcnoiofimngpaa.Kk Go.Proofs.YtdcnoiofimngpaaW.PrintWords Go.Proofs.YtdcnoiofimngpaaW.PrintLast Go.Proofs.YtdcnoiofimngpaaW.PrintMore
set_option linter.unusedVariables false
set_option linter.unusedSimpArgs false
/-- what a text has of a kind (0 bytes, 1 runes, 2 line ends) -/
def kf (k : Int) (s : ByteArray) : Int := if k = 1 then (Sp.runes (ld s) : Int) else if k = 2 then (Sp.lines (ld s) : Int) else (s.size : Int)
/-- the same of many -/
def kt (k : Int) (l : List ByteArray) : Int := (l.map (kf k)).sum
theorem kf_nonneg (k : Int) (s : ByteArray) : 0 ≤ kf k s := by unfold kf; split; · omega
                                                               split <;> omega
theorem kt_nil (k : Int) : kt k [] = 0 := rfl
theorem kt_cons (k : Int) (s : ByteArray) (l : List ByteArray) : kt k (s :: l) = kf k s + kt k l := by unfold kt; rw [List.map_cons, List.sum_cons]
theorem kt_app (k : Int) (a b : List ByteArray) : kt k (a ++ b) = kt k a + kt k b := by unfold kt; rw [List.map_append, List.sum_append]
theorem kt_nonneg (k : Int) (l : List ByteArray) : 0 ≤ kt k l := by
  induction l with
  | nil => exact Int.le_refl _
  | cons s r ih => rw [kt_cons]; have := kf_nonneg k s; omega
theorem runes_app (a b : ByteArray) : Sp.runes (ld (a ++ b)) = Sp.runes (ld a) + Sp.runes (ld b) := by
  have h := sums_leafs [a, b]
  have h2 := h.2.1
  rw [Gc.cat_two] at h2
  have h3 : sumR ([a, b].map leafT) = (Sp.runes (ld a) : Int) + (Sp.runes (ld b) : Int) := by simp [sumR, leafT, Tr.cr]
  omega
theorem lines_app (a b : ByteArray) : Sp.lines (ld (a ++ b)) = Sp.lines (ld a) + Sp.lines (ld b) := by
  have h := sums_leafs [a, b]
  have h2 := h.2.2
  rw [Gc.cat_two] at h2
  have h3 : sumL ([a, b].map leafT) = (Sp.lines (ld a) : Int) + (Sp.lines (ld b) : Int) := by simp [sumL, leafT, Tr.cl]
  omega
theorem kf_app (k : Int) (a b : ByteArray) : kf k (a ++ b) = kf k a + kf k b := by
  unfold kf
  split
  · rw [runes_app]; omega
  · split
    · rw [lines_app]; omega
    · rw [ByteArray.size_append]; omega
theorem kf_empty (k : Int) : kf k ⟨#[]⟩ = 0 := by
  have h : kf k (⟨#[]⟩ ++ ⟨#[]⟩) = kf k ⟨#[]⟩ + kf k ⟨#[]⟩ := kf_app k _ _
  have e : (⟨#[]⟩ ++ ⟨#[]⟩ : ByteArray) = ⟨#[]⟩ := by apply ld_ext; simp [ld]
  rw [e] at h
  omega
theorem kt_cat (k : Int) (l : List ByteArray) : kt k l = kf k (cat l) := by
  induction l with
  | nil => rw [kt_nil, cat_nil, kf_empty]
  | cons s r ih => rw [kt_cons, cat_cons, kf_app, ih]
/-- the chunk in which the n-th thing lies: those ahead, it, and how many lack in it -/
def pick (k : Int) : List ByteArray → Int → List ByteArray × ByteArray × Int
  | [], n => ([], ⟨#[]⟩, n)
  | [s], n => ([], s, n)
  | s :: u :: r, n => if n < kf k s then ([], s, n) else let q := pick k (u :: r) (n - kf k s); (s :: q.1, q.2.1, q.2.2)
theorem pick_two (k : Int) (s u : ByteArray) (r : List ByteArray) (n : Int) : pick k (s :: u :: r) n = if n < kf k s then ([], s, n) else (s :: (pick k (u :: r) (n - kf k s)).1, (pick k (u :: r) (n - kf k s)).2.1, (pick k (u :: r) (n - kf k s)).2.2) := by rw [pick]
theorem pick_lt (k : Int) (l2 : List ByteArray) : ∀ (l1 : List ByteArray) (n : Int), n < kt k l1 → l1 ≠ [] → pick k (l1 ++ l2) n = pick k l1 n
  | [], n, h, h0 => absurd rfl h0
  | [s], n, h, _ => by
    rw [kt_cons, kt_nil] at h
    cases l2 with
    | nil => rfl
    | cons u r => show pick k (s :: u :: r) n = _; rw [pick_two, if_pos (by omega)]; rfl
  | s :: u :: r, n, h, _ => by
    rw [kt_cons] at h
    show pick k (s :: u :: (r ++ l2)) n = _
    have ih := fun (hc : ¬ n < kf k s) => pick_lt k l2 (u :: r) (n - kf k s) (by omega) (by simp)
    rw [List.cons_append] at ih
    rw [pick_two, pick_two]
    split
    · rfl
    · rename_i hc
      rw [ih hc]
theorem pick_ge (k : Int) (l2 : List ByteArray) (h2 : l2 ≠ []) : ∀ (l1 : List ByteArray) (n : Int), kt k l1 ≤ n → pick k (l1 ++ l2) n = (l1 ++ (pick k l2 (n - kt k l1)).1, (pick k l2 (n - kt k l1)).2.1, (pick k l2 (n - kt k l1)).2.2)
  | [], n, h => by rw [kt_nil, Int.sub_zero]; rfl
  | s :: r, n, h => by
    rw [kt_cons] at h
    have hr := kt_nonneg k r
    obtain ⟨u, v, e⟩ : ∃ u v, r ++ l2 = u :: v := by
      cases r with
      | nil => cases l2 with
        | nil => exact absurd rfl h2
        | cons u v => exact ⟨u, v, rfl⟩
      | cons u v => exact ⟨u, v ++ l2, rfl⟩
    have ih := pick_ge k l2 h2 r (n - kf k s) (by omega)
    rw [List.cons_append, e, pick_two, if_neg (by omega), ← e, ih, kt_cons]
    rw [show n - kf k s - kt k r = n - (kf k s + kt k r) by omega]
    rfl
theorem pick_parts (k : Int) : ∀ (l : List ByteArray) (n : Int), l ≠ [] → ∃ b, (pick k l n).1 ++ (pick k l n).2.1 :: b = l
  | [], n, h => absurd rfl h
  | [s], n, _ => ⟨[], rfl⟩
  | s :: u :: r, n, _ => by
    rw [pick_two]
    split
    · exact ⟨u :: r, rfl⟩
    · obtain ⟨b, hb⟩ := pick_parts k (u :: r) (n - kf k s) (by simp)
      exact ⟨b, by show s :: (_ ++ _) = _; rw [hb]⟩
/-- what a tree counts is what its chunks have -/
theorem sums_of (ks : List Tr) (h : ∀ t ∈ ks, t.cb = kt 0 (chunks t) ∧ t.cr = kt 1 (chunks t) ∧ t.cl = kt 2 (chunks t)) : sumB ks = kt 0 (chunksL ks) ∧ sumR ks = kt 1 (chunksL ks) ∧ sumL ks = kt 2 (chunksL ks) := by
  induction ks with
  | nil => exact ⟨rfl, rfl, rfl⟩
  | cons t r ih =>
    obtain ⟨a, b, c⟩ := ih (fun x hx => h x (by simp [hx]))
    obtain ⟨a2, b2, c2⟩ := h t (by simp)
    unfold sumB at a ⊢
    unfold sumR at b ⊢
    unfold sumL at c ⊢
    rw [chunksL_cons, kt_app, kt_app, kt_app, List.map_cons, List.sum_cons, List.map_cons, List.sum_cons, List.map_cons, List.sum_cons]
    omega
theorem fine_sums {t : Tr} (h : FineT t) : t.cb = kt 0 (chunks t) ∧ t.cr = kt 1 (chunks t) ∧ t.cl = kt 2 (chunks t) := by
  induction h with
  | leaf s r l hf ho =>
    have hz := fits_size hf
    rw [of_f (by omega)] at ho
    simp only [Option.some.injEq, Prod.mk.injEq] at ho
    obtain ⟨_, rfl, rfl⟩ := ho
    have hn : (leafT s).none = false := by
      show ((s.toList == []) && _) = false
      rw [beq_eq_false_iff_ne.mpr hz.1, Bool.false_and]
    have e := chunks_leaf hn rfl
    unfold leafT at e
    rw [e]
    refine ⟨?_, ?_, ?_⟩ <;> simp [kt, kf, Tr.cb, Tr.cr, Tr.cl]
  | join kids d h2 h8 hl hd hk ih =>
    rw [joinT_chunks (d := d) (by omega)]
    exact sums_of kids ih
/-- Kids: the pointers are those that stood there ahead -/
def Kids3 (w0 w : World) (ks : List Tr) (e : Ending) (w' : World) : Prop := ∃ A cp ps, e = .returned (.slice A ks.length cp) ∧ ks.length ≤ cp ∧ ps.length = ks.length ∧ kPtr.R 73 w' w.heap.size (fun k => w.heap.size ≤ k) (.slice A ks.length cp) ps ∧ (∀ (j : Nat) (p : Option Addr) (t : Tr), ps[j]? = some p → ks[j]? = some t → Rd w0 p t) ∧ Below w.heap.size w w'
set_option maxHeartbeats 1000000 in
theorem kids3_calls (w0 w : World) (p : Option Addr) (t : Tr) (H : Rd w0 p t) (hB : Below w0.heap.size w0 w) (hn : t.none = false) (hm : t.kids.length ≤ 1000000) (h0 : t.kids.length ≠ 0) : Calls Try.prog 84 #[.pointer p] w (Kids3 w0 w t.kids) := by
  obtain ⟨hh, b, r, l, s, kids, rfl⟩ := Tr.not_none hn
  have HN := Aside0.mk (none_f (H.below hB) hn)
  obtain ⟨a, A, cp, ps, rfl, c0, c1, c2, c3, c4, c5, hcp, _, hr⟩ := H.open_
  have HR := Aside0.mk hr
  have HM : Aside0 (kids.length ≤ 1000000) := ⟨hm⟩
  have HC := Aside0.mk (Kd.C_below hr.c hB)
  replace c5 := (hB.cell (World.block_lt_of_cell? w0 _ c5)).trans c5
  clear H hn c0 c1 c2 c3 c4 hr hm
  change Calls _ _ _ _ (Kids3 w0 w kids)
  have hk : kids.length ≠ 0 := h0
  have k0 : (kids.length == 0) = false := beq_eq_false_iff_ne.mpr hk
  have k1 : ((kids.length : Int) == 0) = false := beq_eq_false_iff_ne.mpr (by omega)
  clear hk hcp h0 hB
  go_enter Try.func84, Try.ntmps84
  go_wp2_with (first | (go_at_call 107; (with_reducible refine HN.out.mono ?_); rintro e w' ⟨rfl, rfl⟩) | ((with_reducible refine gate_builtin (b := .append) (xs := #[.const (.slice none 0 0), .tmp 16]) rfl ?_); at_builtin; refine Kd.R_append_row (fun p => Value.pointer p) (none : Option Addr) (h1 := fun _ => rfl) (w0 := w) w.heap.size rfl (.const (.slice none 0 0)) (.tmp 16) 105 73 (.pointer none) 8 rfl Try.underlying105 infoP rfl (by decide) (.slice none 0 0) [] ps A kids.length cp (fun k => w.heap.size ≤ k) rfl rfl (fun _ h => h) (Kd.R_nil _ _ _ _ _) HC.out (Below.refl _ _) (Nat.le_refl _) (by have := HM.out; simp only [List.length_nil]; omega) ?_; intro v1 w1 ho hb hg hat; obtain ⟨A2, cp2, rfl⟩ := Kd.R_slice ho; have HO := Aside0.mk ho; have HB := Aside0.mk hb; clear ho hb hg hat))
  go_ret
  have hl : ps.length = kids.length := HR.out.c.1
  have ho := HO.out
  rw [List.nil_append] at ho
  rw [hl] at ho
  refine ⟨A2, cp2, ps, ?_, ?_, hl, ho, fun j p t hp ht => HR.out.r j p t hp ht, HB.out⟩
  · rw [← hl]; rfl
  · have := (Kd.R_reads' HO.out).2.1; rw [List.nil_append, hl] at this; exact this
end Go.Proofs.Ytdcnoiofimngpaa.Gs
/- seek.down: the walk. -/
namespace Go.Proofs.Ytdcnoiofimngpaa.Gd
open Go.RowKit Go.Proofs.Ytdcnoiofimngpaa.U Go.Proofs.Ytdcnoiofimngpaa.QK Go.Proofs.Ytdcnoiofimngpaa.QS Go.Proofs.Ytdcnoiofimngpaa.Kt Go.Proofs.Ytdcnoiofimngpaa.Ka Go.Proofs.Ytdcnoiofimngpaa.Kb Go.Proofs.Ytdcnoiofimngpaa.Kc Go.Proofs.Ytdcnoiofimngpaa.Kd_ Go.Proofs.Ytdcnoiofimngpaa.Ke Go.Proofs.Ytdcnoiofimngpaa.Kf Go.Proofs.Ytdcnoiofimngpaa.Kh Go.Proofs.Ytdcnoiofimngpaa.Ki Go.Proofs.Ytdcnoiofimngpaa.Kj Go.Proofs.Ytdcnoiofimngpaa.Kk Go.Proofs.Ytdcnoiofimngpaa.Gs Go.Proofs.YtdcnoiofimngpaaW.PrintWords Go.Proofs.YtdcnoiofimngpaaW.PrintLast Go.Proofs.YtdcnoiofimngpaaW.PrintMore
set_option linter.unusedVariables false
set_option linter.unusedSimpArgs false
theorem fine_none {t : Tr} (h : FineT t) : t.none = false := by
  cases h with
  | leaf s r l hf ho =>
    have hz := fits_size hf
    show ((s.toList == []) && _) = false
    rw [beq_eq_false_iff_ne.mpr hz.1, Bool.false_and]
  | join kids d h2 h8 hl hd hk => exact (joinT_e hl (by omega)).1
theorem count_fine (w0 w : World) (p : Option Addr) (t : Tr) (H : Rd w0 p t) (hB : Below w0.heap.size w0 w) (hF : FineT t) : Calls Try.prog 82 #[.pointer p] w fun e w' =>
    e = .returned (.agg #[.int .i64 (kt 0 (chunks t)), .int .i64 (kt 1 (chunks t)), .int .i64 (kt 2 (chunks t))]) ∧ Below w.heap.size w w' := by
  refine (count_calls w p t (H.below hB)).mono fun e w' ⟨h1, h2⟩ => ⟨?_, h2⟩
  obtain ⟨a, b, c⟩ := fine_sums hF
  rw [h1, fine_none hF, ← a, ← b, ← c]; rfl
/-- where down stands: in a tree, behind the chunks `a`, at a count that lacks -/
structure At (k : Int) (C : List ByteArray) (n : Int) (a l : List ByteArray) (n' : Int) : Prop where
  n0 : 0 ≤ n'
  n1 : n' ≤ 1000000
  pk : pick k C n = (a ++ (pick k l n').1, (pick k l n').2.1, (pick k l n').2.2)
  sm : ∀ j, kt j a + kt j l ≤ 1000000
  ln : l.length ≤ C.length
def Bk3 (w : World) (g : Nat) (x y z : Int) : Prop := w.heap[g]? = some (.cells #[.int .i64 x, .int .i64 y, .int .i64 z] 91 (0, 0))
/-- what stands in a round of the inner loop -/
structure In (w : World) (base g7 g9 : Nat) (x y z : Int) (A : Option Addr) (m cp : Nat) (ps : List (Option Addr)) (W : World) : Prop where
  b9 : Bk3 W g9 x y z
  b7 : Bk3 W g7 0 0 0
  bel : Below w.heap.size w W
  row : kPtr.R 73 W base (fun k => base ≤ k) (.slice A m cp) ps
theorem In.later {w W W2 : World} {base g7 g9 : Nat} {x y z : Int} {A : Option Addr} {m cp : Nat} {ps : List (Option Addr)} (h : In w base g7 g9 x y z A m cp ps W) (hb : Below W.heap.size W W2) : In w base g7 g9 x y z A m cp ps W2 :=
  ⟨blk_below h.b9 hb, blk_below h.b7 hb, below_step h.bel hb, Kd.R_below h.row hb⟩
theorem In.put {w W W2 : World} {base g7 g9 : Nat} {x y z x2 y2 z2 : Int} {A : Option Addr} {m cp : Nat} {ps : List (Option Addr)} (h : In w base g7 g9 x y z A m cp ps W) (hbox : Bk3 W2 g9 x2 y2 z2) (hg : W.grownBy W2 (some g9)) (h9 : w.heap.size ≤ g9) (hne : g7 ≠ g9) (hlt : g9 < base) : In w base g7 g9 x2 y2 z2 A m cp ps W2 :=
  ⟨hbox, (hg.block g7 (blk_lt h.b7) (fun e => hne (by injection e))).trans h.b7, Sa.grown_below h.bel h.bel.size hg h9, Kd.R_grown h.row hg (fun k hk e => by injection e; omega)⟩
theorem kind_f (k : Int) (l : List ByteArray) : seek_kind_of.f k (kt 0 l) (kt 1 l) (kt 2 l) = some (kt k l) := by
  unfold seek_kind_of.f
  split
  · rename_i h; rw [h]
  · split
    · rename_i h; rw [h]
    · rename_i h1 h2
      have e : kf k = kf 0 := by funext s; unfold kf; rw [if_neg h1, if_neg h2]; rfl
      unfold kt; rw [e]
theorem kind_calls (w : World) (k : Int) (l : List ByteArray) : Calls Try.prog 85 #[.int .i64 k, .agg #[.int .i64 (kt 0 l), .int .i64 (kt 1 l), .int .i64 (kt 2 l)]] w fun e w' => e = .returned (.int .i64 (kt k l)) ∧ Below w.heap.size w w' :=
  seek_kind_of.calls k _ _ _ _ w (kind_f k l)
/-- a tree with no knots under it -/
theorem at_leaf (k n : Int) {t : Tr} (h : t = .nil ∨ FineT t) (h0 : ¬ 0 < t.height) : pick k (chunks t) n = ([], cat (chunks t), n) ∧ (cat (chunks t)).size ≤ 16 ∧ (chunks t).length ≤ 1 := by
  rcases h with rfl | h
  · have e : chunks .nil = [] := by rw [chunks]
    rw [e, cat_nil]
    exact ⟨rfl, by decide, by decide⟩
  · have hn := fine_none h
    cases h with
    | leaf s r l hf ho =>
      rw [chunks_leaf hn rfl, Gc.cat_one]
      exact ⟨rfl, (fits_size hf).2, Nat.le_refl _⟩
    | join kids d h2 h8 hl hd hk =>
      exfalso
      apply h0
      unfold Tr.height
      rw [hn]
      have := (joinT_e hl (by omega)).2.1
      have := hl.d0
      simp only [Bool.false_eq_true, if_false]
      omega
theorem at_join {t : Tr} (h : t = .nil ∨ FineT t) (h0 : 0 < t.height) : t.none = false ∧ 2 ≤ t.kids.length ∧ t.kids.length ≤ 8 ∧ (∀ c ∈ t.kids, FineT c ∧ SizeOf.sizeOf c < SizeOf.sizeOf t) ∧ chunks t = chunksL t.kids := by
  rcases h with rfl | h
  · exact absurd h0 (by decide)
  · have hn := fine_none h
    refine ⟨hn, ?_⟩
    cases h with
    | leaf s r l hf ho =>
      exfalso
      unfold Tr.height at h0
      rw [hn] at h0
      exact absurd h0 (by simp [Tr.h0])
    | join kids d h2 h8 hl hd hk => exact ⟨h2, h8, fun c hc => ⟨hk c hc, size_kid hc⟩, chunks_kids (by omega)⟩
theorem fine_chunks {t : Tr} (h : FineT t) : chunks t ≠ [] := by
  obtain ⟨s, r, e, _⟩ := first_head h
  rw [e]; simp
theorem chunksL_drop (ks : List Tr) (i : Nat) (h : i < ks.length) : chunksL (ks.drop i) = chunks (rdT ks i) ++ chunksL (ks.drop (i + 1)) := by
  rw [List.drop_eq_getElem_cons h, chunksL_cons]
  congr 2
  unfold rdT
  rw [Int.toNat_natCast, List.getD_eq_getElem?_getD, List.getElem?_eq_getElem h]; rfl
theorem At.enter {k n n' : Int} {C a l1 l2 : List ByteArray} (h : At k C n a (l1 ++ l2) n') (h1 : l1 ≠ []) (hc : n' < kt k l1 ∨ l2 = []) : At k C n a l1 n' := by
  have e : pick k (l1 ++ l2) n' = pick k l1 n' := by
    rcases hc with hc | rfl
    · exact pick_lt k l2 l1 n' hc h1
    · rw [List.append_nil]
  refine ⟨h.n0, h.n1, by rw [h.pk, e], fun j => ?_, ?_⟩
  · have := h.sm j; rw [kt_app] at this; have := kt_nonneg j l2; omega
  · have := h.ln; rw [List.length_append] at this; omega
theorem At.next {k n n' : Int} {C a l1 l2 : List ByteArray} (h : At k C n a (l1 ++ l2) n') (h2 : l2 ≠ []) (hc : ¬ n' < kt k l1) : At k C n (a ++ l1) l2 (n' - kt k l1) := by
  have h0 := kt_nonneg k l1
  have h3 := h.n1
  refine ⟨by omega, by omega, ?_, fun j => ?_, ?_⟩
  · rw [h.pk, pick_ge k l2 h2 l1 n' (by omega), List.append_assoc]
  · have := h.sm j; rw [kt_app] at this ⊢; omega
  · have := h.ln; rw [List.length_append] at this; omega
theorem At.sums {k n n' : Int} {C a l1 l2 : List ByteArray} (h : At k C n a (l1 ++ l2) n') : SM (kt 0 a) ∧ SM (kt 1 a) ∧ SM (kt 2 a) ∧ SM (kt 0 l1) ∧ SM (kt 1 l1) ∧ SM (kt 2 l1) := by
  have q : ∀ j, 0 ≤ kt j a ∧ 0 ≤ kt j l1 ∧ kt j a + kt j l1 ≤ 1000000 := fun j => by
    have := h.sm j; rw [kt_app] at this
    have := kt_nonneg j a; have := kt_nonneg j l1; have := kt_nonneg j l2
    omega
  have q0 := q 0
  have q1 := q 1
  have q2 := q 2
  unfold SM
  omega
/-- what down answers -/
def DownPost (k : Int) (C : List ByteArray) (n : Int) (w : World) (e : Ending) (w' : World) : Prop := ∃ a x m, pick k C n = (a, x, m) ∧ e = .returned (.tuple #[.string x, .agg #[.int .i64 (kt 0 a), .int .i64 (kt 1 a), .int .i64 (kt 2 a)], .int .i64 m]) ∧ Below w.heap.size w w'
theorem nil_height : Tr.height .nil = -1 := rfl
set_option maxHeartbeats 8000000 in
set_option maxRecDepth 100000 in
theorem down_calls (w : World) (p : Option Addr) (t : Tr) (k n : Int) (H : Rd w p t) (hF : t = .nil ∨ FineT t) (hn : 0 ≤ n ∧ n ≤ 1000000) (hs : ∀ j, kt j (chunks t) ≤ 1000000) (hl : (chunks t).length ≤ 100000) : Calls Try.prog 61 #[.pointer p, .int .i64 k, .int .i64 n] w (DownPost k (chunks t) n w) := by
  have hu91 := Try.underlying91
  have HS0 : Aside0 (At k (chunks t) n [] (chunks t) n) := ⟨hn.1, hn.2, rfl, fun j => by rw [kt_nil]; have := hs j; omega, Nat.le_refl _⟩
  have HR0 := Aside0.mk H
  have HF0 := Aside0.mk hF
  have HL0 := Aside0.mk hl
  obtain ⟨C, hC⟩ : ∃ C, chunks t = C := ⟨_, rfl⟩
  rw [hC] at HS0 HL0 ⊢
  have HC0 := Aside0.mk hC
  have HB0 := Aside0.mk (Below.refl w.heap.size w)
  clear H hF hn hs hl hC
  go_enter Try.func61, Try.ntmps61
  go_wp2_with ((with_reducible refine gate_dst (N := 7) rfl ?_); refine box_event ?hg (N := 7) ?hd (cs := #[.int .i64 0, .int .i64 0, .int .i64 0]) (t := 91) ?hr ?_; (case hd => rfl); (case hg => rfl); (case hr => first | (go_simp; done) | (go_simp; rfl)); intro g7 hg w2 hbox hb; have BK7 : Aside0 (Bk3 w2 g7 0 0 0) := ⟨hbox⟩; have HB7 := Aside0.mk hb; have GE7 : Aside0 (w.heap.size ≤ g7) := ⟨by rw [hg]; exact Nat.le_refl _⟩; clear hb hbox hg)
  go_step3
  go_wp2_with ((with_reducible refine gate_dst (N := 9) rfl ?_); refine box_event ?hg (N := 9) ?hd (cs := #[.int .i64 0, .int .i64 0, .int .i64 0]) (t := 91) ?hr ?_; (case hd => rfl); (case hg => rfl); (case hr => first | (go_simp; done) | (go_simp; rfl)); intro g9 hg w3 hbox hb; have BK9 : Aside0 (Bk3 w3 g9 0 0 0) := ⟨hbox⟩; have BKr : Aside0 (Bk3 w3 g7 0 0 0) := ⟨blk_below BK7.out hb⟩; have HB9 := Aside0.mk (below_step HB7.out hb); have GE9 : Aside0 (w.heap.size ≤ g9) := ⟨by rw [hg]; exact HB7.out.size⟩; have NE : Aside0 (g7 < g9) := ⟨by rw [hg]; exact blk_lt BK7.out⟩; clear hb hbox hg HB7 BK7)
  simp only [Act.put, List.setIfInBounds_toArray, List.set_cons_zero, List.set_cons_succ]
  go_step3
  go_wp2
  go_loopg [0, 2] (SizeOf.sizeOf t + 1) (fun kq v0 v2 w' => ∃ (q : Option Addr) (tq : Tr) (n' : Int) (a : List ByteArray), v0 = .pointer q ∧ v2 = .int .i64 n' ∧ Aside0 (SizeOf.sizeOf tq < kq) ∧ Aside0 (Rd w q tq) ∧ Aside0 (tq = .nil ∨ FineT tq) ∧ Aside0 (At k C n a (chunks tq) n') ∧ Aside0 (Bk3 w' g9 (kt 0 a) (kt 1 a) (kt 2 a)) ∧ Aside0 (Bk3 w' g7 0 0 0) ∧ Aside0 (Below w.heap.size w w'))
  case atStart => exact ⟨p, t, n, [], rfl, rfl, ⟨Nat.lt_succ_self _⟩, HR0, HF0, ⟨by rw [HC0.out]; exact HS0.out⟩, BK9, BKr, HB9⟩
  case round =>
    clear HS0 HR0 HF0 HC0 BK9 BKr HB9
    obtain ⟨q, tq, n', a, rfl, rfl, HM, HQ, HF, HA, BK9, BKr, HB⟩ := hrel
    obtain ⟨k1, rfl⟩ : ∃ k1, gk = k1 + 1 := ⟨gk - 1, by have := HM.out; omega⟩
    have HHE := Aside0.mk (height_calls _ q tq (HQ.out.below HB.out))
    by_cases ch : 0 < tq.height
    · have chb : decide (0 < tq.height) = true := decide_eq_true ch
      obtain ⟨hn, h2, h8, hk, hch⟩ := at_join HF.out ch
      obtain ⟨ks, hks⟩ : ∃ ks, tq.kids = ks := ⟨_, rfl⟩
      have HKI := Aside0.mk (kids3_calls w wr q tq HQ.out HB.out hn (by omega) (by omega))
      rw [hks] at h2 h8 hk hch HKI
      rw [hch] at HA
      have HK2 := Aside0.mk h2
      have HK8 := Aside0.mk h8
      have HKF := Aside0.mk hk
      have HMZ : Aside0 (SizeOf.sizeOf tq < k1 + 1) := HM
      have hm1 : decide (0 < ks.length) = true := decide_eq_true (by omega)
      have hm1i : decide (0 < (ks.length : Int)) = true := decide_eq_true (by omega)
      obtain ⟨bs, hbs⟩ : ∃ bs, wr.heap.size = bs := ⟨_, rfl⟩
      have HBS := Aside0.mk hbs
      have LT9 : Aside0 (g9 < bs) := ⟨by rw [← hbs]; exact blk_lt BK9.out⟩
      clear ch hn h2 h8 hk hch hks HF HM hbs
      go_wp2_with (first
        | (go_at_call 83; (with_reducible refine HHE.out.mono ?_); rintro e wh ⟨rfl, rfl⟩; clear HHE)
        | (go_at_call 84; (with_reducible refine HKI.out.mono ?_); rintro e wk ⟨A, cp, ps, rfl, hcp, hpl, hrow, hrd, hb⟩; have HPL := Aside0.mk hpl; have HCP := Aside0.mk hcp; rw [HBS.out] at hrow; have HRD := Aside0.mk hrd; have HI : Aside0 (In w bs g7 g9 (kt 0 a) (kt 1 a) (kt 2 a) A ks.length cp ps wk) := ⟨⟨blk_below BK9.out hb, blk_below BKr.out hb, below_step HB.out hb, hrow⟩⟩; clear hcp hpl hrow hrd hb HKI BK9 BKr HB))
      go_loopg [2, 21] (ks.length + 1) (fun kq v2 v21 w' => ∃ (x n2 : Int) (a2 : List ByteArray), v2 = .int .i64 n2 ∧ v21 = .int .i64 x ∧ Aside0 (0 ≤ x ∧ x < ks.length ∧ x + kq = ks.length + 1) ∧ Aside0 (At k C n a2 (chunksL (ks.drop x.toNat)) n2) ∧ Aside0 (In w bs g7 g9 (kt 0 a2) (kt 1 a2) (kt 2 a2) A ks.length cp ps w'))
      case atStart => exact ⟨0, n', a, rfl, rfl, ⟨by have := HK2.out; omega⟩, ⟨HA.out⟩, HI⟩
      case round =>
        clear HI HA
        obtain ⟨x, n2, a2, rfl, rfl, HX, HA2, HI⟩ := hrel
        obtain ⟨k2, rfl⟩ : ∃ k2, gk = k2 + 1 := ⟨gk - 1, by have := HX.out; omega⟩
        have p0 : 0 ≤ x := HX.out.1
        have cx : x < (ks.length : Int) := HX.out.2.1
        have cxb : decide (x < (ks.length : Int)) = true := decide_eq_true cx
        obtain ⟨ad0, q0, hx0⟩ := at_ptr (n := ks.length) (by have h := (Kd.R_reads' HI.out.row).2.2; rw [HPL.out] at h; exact h) x p0 cx
        subst q0
        have HRK : Aside0 (Rd w (rdOf none ps x) (rdT ks x)) := ⟨HRD.out x.toNat _ _ (by unfold rdOf; rw [List.getD_eq_getElem?_getD, List.getElem?_eq_getElem (by have := HPL.out; omega)]; rfl) (by unfold rdT; rw [List.getD_eq_getElem?_getD, List.getElem?_eq_getElem (by omega)]; rfl)⟩
        obtain ⟨hfk, hsz⟩ := HKF.out _ (rdT_mem ks x p0 cx)
        have hdr := chunksL_drop ks x.toNat (by omega)
        rw [show rdT ks ((x.toNat : Nat) : Int) = rdT ks x by unfold rdT; rw [Int.toNat_natCast]] at hdr
        have HA3 := Aside0.mk HA2.out
        rw [hdr] at HA3
        clear HA2
        generalize rdT ks x = kid at HRK hfk hsz HA3 hdr
        generalize rdOf none ps x = qk at hx0 HRK
        have HFK := Aside0.mk hfk
        have HSZ := Aside0.mk hsz
        have HCO : Aside0 (∀ W, Below w.heap.size w W → Calls Try.prog 82 #[.pointer qk] W fun e w' => e = .returned (.agg #[.int .i64 (kt 0 (chunks kid)), .int .i64 (kt 1 (chunks kid)), .int .i64 (kt 2 (chunks kid))]) ∧ Below W.heap.size W w') := ⟨fun W hb => count_fine w W qk kid HRK.out hb HFK.out⟩
        have HKO : Aside0 (∀ W, Calls Try.prog 85 #[.int .i64 k, .agg #[.int .i64 (kt 0 (chunks kid)), .int .i64 (kt 1 (chunks kid)), .int .i64 (kt 2 (chunks kid))]] W fun e w' => e = .returned (.int .i64 (kt k (chunks kid))) ∧ Below W.heap.size W w') := ⟨fun W => kind_calls W k (chunks kid)⟩
        have HSM := Aside0.mk HA3.out.sums
        have p0c := eq_true p0
        have cxc := eq_true cx
        have wl : wrap64 ((ks.length : Int) - 1) = (ks.length : Int) - 1 := by have := HK8.out; unfold wrap64; omega
        by_cases c1 : n2 < kt k (chunks kid)
        · have c1b : decide (n2 < kt k (chunks kid)) = true := decide_eq_true c1
          have HEN := Aside0.mk (HA3.out.enter (fine_chunks hfk) (.inl c1))
          clear c1 p0 cx hfk hsz hdr
          go_wp2_with (first
            | (go_at_call 82; (with_reducible refine (HCO.out _ HI.out.bel).mono ?_); rintro e wc ⟨rfl, hb⟩; have HI2 := Aside0.mk (HI.out.later hb); clear hb HI hx0; have HI := HI2; clear HI2)
            | ((with_reducible refine gate_dst (N := 13) rfl ?_); refine box_event ?hg (N := 13) ?hd (cs := #[.int .i64 0, .int .i64 0, .int .i64 0]) (t := 91) ?hr ?_; (case hd => rfl); (case hg => rfl); (case hr => first | (go_simp; done) | (go_simp; rfl)); intro g13 hg wb hbox hb; have BK13 : Aside0 (Bk3 wb g13 0 0 0) := ⟨hbox⟩; have HI2 := Aside0.mk (HI.out.later hb); have GE13 := Aside0.mk (show _ ≤ g13 from by rw [hg]; exact Nat.le_refl _); have HBB := Aside0.mk hb; clear hb hbox hg)
            | ((with_reducible refine gate_store (t := 91) (p := 13) (v := .tmp 27) rfl ?_); refine Sa.store_whole rfl rfl 91 (.tmp 13) (.tmp 27) rfl g13 #[.int .i64 0, .int .i64 0, .int .i64 0] [.int .i64 (kt 0 (chunks kid)), .int .i64 (kt 1 (chunks kid)), .int .i64 (kt 2 (chunks kid))] rfl rfl (by kernel_rfl) BK13.out rfl (by simp [Value.oneCell']) ?_; intro w9 hbox hg; have HI3 := Aside0.mk (HI.out.later (Sa.grown_below HBB.out (below_size HBB.out) hg GE13.out)); clear HI HI2 HBB BK13; have HI := HI3; clear HI3; have z0 : w9.cell? ⟨g13, 0, none⟩ = some (.int .i64 (kt 0 (chunks kid))) := (blk_cell hbox 0).trans rfl; have z1 : w9.cell? ⟨g13, 1, none⟩ = some (.int .i64 (kt 1 (chunks kid))) := (blk_cell hbox 1).trans rfl; have z2 : w9.cell? ⟨g13, 2, none⟩ = some (.int .i64 (kt 2 (chunks kid))) := (blk_cell hbox 2).trans rfl; clear hbox hg)
            | (go_at_call 85; (with_reducible refine (HKO.out _).mono ?_); rintro e wk ⟨rfl, hb⟩; have HI2 := Aside0.mk (HI.out.later hb); clear HI; have HI := HI2; clear HI2; replace z0 := pw_cell_below hb z0; replace z1 := pw_cell_below hb z1; replace z2 := pw_cell_below hb z2; clear hb))
          go_roundg k1
          case measure => omega
          case rel => exact ⟨qk, kid, n2, a2, rfl, rfl, ⟨by have := HSZ.out; have := HMZ.out; omega⟩, HRK, ⟨.inr HFK.out⟩, ⟨HEN.out⟩, ⟨HI.out.b9⟩, ⟨HI.out.b7⟩, ⟨HI.out.bel⟩⟩
        · have c1b : decide (n2 < kt k (chunks kid)) = false := decide_eq_false c1
          by_cases c2 : x = (ks.length : Int) - 1
          · have c2b : (x == (ks.length : Int) - 1) = true := beq_iff_eq.mpr c2
            have HEN := Aside0.mk (HA3.out.enter (fine_chunks hfk) (.inr (by rw [List.drop_eq_nil_of_le (by omega), chunksL])))
            clear c1 c2 p0 cx hfk hsz hdr
            go_wp2_with (first
              | (go_at_call 82; (with_reducible refine (HCO.out _ HI.out.bel).mono ?_); rintro e wc ⟨rfl, hb⟩; have HI2 := Aside0.mk (HI.out.later hb); clear hb HI hx0; have HI := HI2; clear HI2)
              | ((with_reducible refine gate_dst (N := 13) rfl ?_); refine box_event ?hg (N := 13) ?hd (cs := #[.int .i64 0, .int .i64 0, .int .i64 0]) (t := 91) ?hr ?_; (case hd => rfl); (case hg => rfl); (case hr => first | (go_simp; done) | (go_simp; rfl)); intro g13 hg wb hbox hb; have BK13 : Aside0 (Bk3 wb g13 0 0 0) := ⟨hbox⟩; have HI2 := Aside0.mk (HI.out.later hb); have GE13 := Aside0.mk (show _ ≤ g13 from by rw [hg]; exact Nat.le_refl _); have HBB := Aside0.mk hb; clear hb hbox hg)
              | ((with_reducible refine gate_store (t := 91) (p := 13) (v := .tmp 27) rfl ?_); refine Sa.store_whole rfl rfl 91 (.tmp 13) (.tmp 27) rfl g13 #[.int .i64 0, .int .i64 0, .int .i64 0] [.int .i64 (kt 0 (chunks kid)), .int .i64 (kt 1 (chunks kid)), .int .i64 (kt 2 (chunks kid))] rfl rfl (by kernel_rfl) BK13.out rfl (by simp [Value.oneCell']) ?_; intro w9 hbox hg; have HI3 := Aside0.mk (HI.out.later (Sa.grown_below HBB.out (below_size HBB.out) hg GE13.out)); clear HI HI2 HBB BK13; have HI := HI3; clear HI3; have z0 : w9.cell? ⟨g13, 0, none⟩ = some (.int .i64 (kt 0 (chunks kid))) := (blk_cell hbox 0).trans rfl; have z1 : w9.cell? ⟨g13, 1, none⟩ = some (.int .i64 (kt 1 (chunks kid))) := (blk_cell hbox 1).trans rfl; have z2 : w9.cell? ⟨g13, 2, none⟩ = some (.int .i64 (kt 2 (chunks kid))) := (blk_cell hbox 2).trans rfl; clear hbox hg)
              | (go_at_call 85; (with_reducible refine (HKO.out _).mono ?_); rintro e wk ⟨rfl, hb⟩; have HI2 := Aside0.mk (HI.out.later hb); clear HI; have HI := HI2; clear HI2; replace z0 := pw_cell_below hb z0; replace z1 := pw_cell_below hb z1; replace z2 := pw_cell_below hb z2; clear hb))
            go_roundg k1
            case measure => omega
            case rel => exact ⟨qk, kid, n2, a2, rfl, rfl, ⟨by have := HSZ.out; have := HMZ.out; omega⟩, HRK, ⟨.inr HFK.out⟩, ⟨HEN.out⟩, ⟨HI.out.b9⟩, ⟨HI.out.b7⟩, ⟨HI.out.bel⟩⟩
          · have c2b : (x == (ks.length : Int) - 1) = false := beq_eq_false_iff_ne.mpr c2
            have HNX := Aside0.mk (HA3.out.next (by
              rw [chunksL_drop ks (x.toNat + 1) (by omega)]
              obtain ⟨h3, _⟩ := HKF.out _ (rdT_mem ks ((x.toNat + 1 : Nat) : Int) (by omega) (by omega))
              intro h
              exact fine_chunks h3 (List.append_eq_nil_iff.mp h).1) c1)
            have HN2 : Aside0 (wrap64 (n2 - kt k (chunks kid)) = n2 - kt k (chunks kid)) := ⟨by have := HNX.out.n0; have := HNX.out.n1; unfold wrap64; omega⟩
            have HC2 := Aside0.mk c2
            have HX2 : Aside0 (0 ≤ x ∧ x < ks.length) := ⟨p0, cx⟩
            clear c1 c2 p0 cx hfk hsz hdr
            go_wp2_with (first
              | (go_at_call 82; (with_reducible refine (HCO.out _ HI.out.bel).mono ?_); rintro e wc ⟨rfl, hb⟩; have HI2 := Aside0.mk (HI.out.later hb); clear hb HI hx0; have HI := HI2; clear HI2)
              | ((with_reducible refine gate_dst (N := 13) rfl ?_); refine box_event ?hg (N := 13) ?hd (cs := #[.int .i64 0, .int .i64 0, .int .i64 0]) (t := 91) ?hr ?_; (case hd => rfl); (case hg => rfl); (case hr => first | (go_simp; done) | (go_simp; rfl)); intro g13 hg wb hbox hb; have BK13 : Aside0 (Bk3 wb g13 0 0 0) := ⟨hbox⟩; have HI2 := Aside0.mk (HI.out.later hb); have GE13 := Aside0.mk (show _ ≤ g13 from by rw [hg]; exact Nat.le_refl _); have HBB := Aside0.mk hb; clear hb hbox hg)
              | ((with_reducible refine gate_store (t := 91) (p := 13) (v := .tmp 27) rfl ?_); refine Sa.store_whole rfl rfl 91 (.tmp 13) (.tmp 27) rfl g13 #[.int .i64 0, .int .i64 0, .int .i64 0] [.int .i64 (kt 0 (chunks kid)), .int .i64 (kt 1 (chunks kid)), .int .i64 (kt 2 (chunks kid))] rfl rfl (by kernel_rfl) BK13.out rfl (by simp [Value.oneCell']) ?_; intro w9 hbox hg; have HI3 := Aside0.mk (HI.out.later (Sa.grown_below HBB.out (below_size HBB.out) hg GE13.out)); clear HI HI2 HBB BK13; have HI := HI3; clear HI3; have z0 : w9.cell? ⟨g13, 0, none⟩ = some (.int .i64 (kt 0 (chunks kid))) := (blk_cell hbox 0).trans rfl; have z1 : w9.cell? ⟨g13, 1, none⟩ = some (.int .i64 (kt 1 (chunks kid))) := (blk_cell hbox 1).trans rfl; have z2 : w9.cell? ⟨g13, 2, none⟩ = some (.int .i64 (kt 2 (chunks kid))) := (blk_cell hbox 2).trans rfl; clear hbox hg)
              | (go_at_call 85; (with_reducible refine (HKO.out _).mono ?_); rintro e wk ⟨rfl, hb⟩; have HI2 := Aside0.mk (HI.out.later hb); clear HI; have HI := HI2; clear HI2; replace z0 := pw_cell_below hb z0; replace z1 := pw_cell_below hb z1; replace z2 := pw_cell_below hb z2; clear hb; (try clear y0 y1 y2); have y0 : wk.cell? ⟨g9, 0, none⟩ = some (.int .i64 (kt 0 a2)) := (blk_cell HI.out.b9 0).trans rfl; have y1 : wk.cell? ⟨g9, 1, none⟩ = some (.int .i64 (kt 1 a2)) := (blk_cell HI.out.b9 1).trans rfl; have y2 : wk.cell? ⟨g9, 2, none⟩ = some (.int .i64 (kt 2 a2)) := (blk_cell HI.out.b9 2).trans rfl)
              | (go_at_call 79; (with_reducible refine (add2_calls _ _ _ _ _ _ _ HSM.out.1 HSM.out.2.1 HSM.out.2.2.1 HSM.out.2.2.2.1 HSM.out.2.2.2.2.1 HSM.out.2.2.2.2.2).mono ?_); rintro e wa ⟨rfl, hb⟩; have HI2 := Aside0.mk (HI.out.later hb); clear hb HI; have HI := HI2; clear HI2 z0 z1 z2 y0 y1 y2)
              | ((with_reducible refine gate_store (t := 91) (p := 9) (v := .tmp 49) rfl ?_); refine Sa.store_whole rfl rfl 91 (.tmp 9) (.tmp 49) rfl g9 #[.int .i64 (kt 0 a2), .int .i64 (kt 1 a2), .int .i64 (kt 2 a2)] [.int .i64 (kt 0 a2 + kt 0 (chunks kid)), .int .i64 (kt 1 a2 + kt 1 (chunks kid)), .int .i64 (kt 2 a2 + kt 2 (chunks kid))] rfl rfl (by kernel_rfl) HI.out.b9 rfl (by simp [Value.oneCell']) ?_; intro w9 hbox hg; have HI2 := Aside0.mk (HI.out.put hbox hg GE9.out (Nat.ne_of_lt NE.out) LT9.out); clear HI hbox hg; have HI := HI2; clear HI2))
            go_roundg k2
            case measure => omega
            case rel => exact ⟨wrap64 (x + 1), wrap64 (n2 - kt k (chunks kid)), a2 ++ chunks kid, (by first | rfl | (simp; done)), rfl, ⟨by have := HX.out; have := HX2.out; have := HC2.out; have := HK8.out; unfold wrap64; omega⟩, ⟨by rw [HN2.out, show (wrap64 (x + 1)).toNat = x.toNat + 1 by have := HX2.out; have := HK8.out; unfold wrap64; omega]; exact HNX.out⟩, ⟨by rw [kt_app, kt_app, kt_app]; exact HI.out⟩⟩
    · have chb : decide (0 < tq.height) = false := decide_eq_false ch
      obtain ⟨hpk, hsz, hln⟩ := at_leaf k n' HF.out ch
      have HTX : Aside0 (∀ W, Below wr.heap.size wr W → Calls Try.prog 86 #[.pointer q] W fun e w' => e = .returned (.string (cat (chunks tq))) ∧ Below W.heap.size W w') := ⟨fun W hb => text_calls W q tq ((HQ.out.below HB.out).below hb) (by omega) (by omega)⟩
      have HPK := Aside0.mk hpk
      clear ch hpk hsz hln
      go_wp2_with (go_at_call 83; (with_reducible refine HHE.out.mono ?_); rintro e wh ⟨rfl, rfl⟩; clear HHE)
      have p0 : wr.cell? ⟨g9, 0, none⟩ = some (.int .i64 (kt 0 a)) := (blk_cell BK9.out 0).trans rfl
      have p1 : wr.cell? ⟨g9, 1, none⟩ = some (.int .i64 (kt 1 a)) := (blk_cell BK9.out 1).trans rfl
      have p2 : wr.cell? ⟨g9, 2, none⟩ = some (.int .i64 (kt 2 a)) := (blk_cell BK9.out 2).trans rfl
      refine start_ (n := 7) (S := fun w' => w'.cell? ⟨g9, 0, none⟩ = some (.int .i64 (kt 0 a)) ∧ w'.cell? ⟨g9, 1, none⟩ = some (.int .i64 (kt 1 a)) ∧ w'.cell? ⟨g9, 2, none⟩ = some (.int .i64 (kt 2 a))) (ds := [5]) #[false, false, false, false, false, false, false] (by kernel_rfl) rfl rfl ⟨p0, p1, p2⟩ (fun hHeld => ?_)
      refine pure_ (i := 0) (N := some 51) (v := ?_) (a' := ?_) #[true, false, false, false, false, false, false] rfl rfl (by kernel_rfl) (fun _ _ _ h => h) (Or.inl ⟨by rfl, ?_⟩) ?_ ?_
      rotate_left
      · intro w'
        go_simp
        with_reducible rfl
      rotate_left
      · simp only [Act.put, List.setIfInBounds_toArray, List.set_cons_zero, List.set_cons_succ, i64_w, i32_w]
        rfl
      refine pure_ (i := 3) (N := some 54) (v := ?_) (a' := ?_) #[true, false, false, true, false, false, false] rfl rfl (by kernel_rfl) (fun _ _ _ h => h) (Or.inl ⟨by rfl, ?_⟩) ?_ ?_
      rotate_left
      · intro w'
        go_simp
        with_reducible rfl
      rotate_left
      · simp only [Act.put, List.setIfInBounds_toArray, List.set_cons_zero, List.set_cons_succ, i64_w, i32_w]
        rfl
      refine take_ (i := 2) (N := some 53) (v := ?_) (a' := ?_) #[true, false, true, true, false, false, false] rfl rfl (by kernel_rfl) (fun _ _ _ h => h) (Or.inl ⟨by rfl, ?_⟩) hHeld ?_ ?_
      rotate_left
      · rintro w' ⟨s0, s1, s2⟩
        go_simp
        with_reducible rfl
      rotate_left
      · simp only [Act.put, List.setIfInBounds_toArray, List.set_cons_zero, List.set_cons_succ, i64_w, i32_w]
        rfl
      refine one_ (i := 1) (N := some 52) #[true, true, true, true, false, false, false] rfl rfl (by kernel_rfl) (by decide) (fun K hK => ?_)
      refine goes_ Try.func86 (by kernel_rfl) rfl #[.pointer q] (by rfl) rfl rfl (by simp only [List.map_toArray, List.map_cons, List.map_nil]; rfl) ?_
      with_reducible refine (HTX.out _ (below_drew1 (Below.refl _ _))).mono ?_
      rintro e wt ⟨rfl, hb⟩
      refine ⟨_, rfl, ?_⟩
      have HBT := Aside0.mk hb
      have BKT : Aside0 (Bk3 wt g7 0 0 0) := ⟨blk_below (blk_drew BKr.out) hb⟩
      have f0 := blk_frozen BKT.out 0
      have e0 : wt.cell? ⟨g7, 0, none⟩ = some (.int .i64 0) := (blk_cell BKT.out 0).trans rfl
      have f1 := blk_frozen BKT.out 1
      have e1 : wt.cell? ⟨g7, 1, none⟩ = some (.int .i64 0) := (blk_cell BKT.out 1).trans rfl
      have f2 := blk_frozen BKT.out 2
      have e2 : wt.cell? ⟨g7, 2, none⟩ = some (.int .i64 0) := (blk_cell BKT.out 2).trans rfl
      refine hK.out _ _ ⟨(pw_cell_below hb hHeld.1), (pw_cell_below hb hHeld.2.1), (pw_cell_below hb hHeld.2.2)⟩ (fun hHeld => ?_)
      clear hK K
      refine norm_ (a' := ?_) ?_ ?_
      rotate_left
      · show Act.put _ (some 52) _ = _
        simp only [Act.put, List.setIfInBounds_toArray, List.set_cons_zero, List.set_cons_succ, i64_w, i32_w]
        rfl
      refine pure_ (i := 4) (N := some 6) (v := ?_) (a' := ?_) #[true, true, true, true, true, false, false] rfl rfl (by kernel_rfl) (fun _ _ _ h => h) (Or.inl ⟨by rfl, ?_⟩) ?_ ?_
      rotate_left
      · intro w'
        go_simp
        with_reducible rfl
      rotate_left
      · simp only [Act.put, List.setIfInBounds_toArray, List.set_cons_zero, List.set_cons_succ, i64_w, i32_w]
        rfl
      refine last_ (i := 5) (N := none) #[true, true, true, true, true, true, false] rfl rfl (by kernel_rfl) (by decide) (fun K hK => ?_)
      refine skip_ (w1 := ?_) (by rfl) rfl ?_ ?_
      rotate_left
      · go_simp
        rfl
      refine hK.out _ _ ?_
      clear hK K
      refine pure_ (i := 6) (N := some 8) (v := ?_) (a' := ?_) #[true, true, true, true, true, true, true] rfl rfl (by kernel_rfl) (fun _ _ _ h => h) (Or.inl ⟨by rfl, ?_⟩) ?_ ?_
      rotate_left
      · intro w'
        go_simp
        with_reducible rfl
      rotate_left
      · simp only [Act.put, List.setIfInBounds_toArray, List.set_cons_zero, List.set_cons_succ, i64_w, i32_w]
        rfl
      refine done_ (by kernel_rfl) ?_
      go_wp2
      (try rw [Exit.noGoto_ret])
      refine bodyPost_ret (results_list (rs := [.tmp 6, .cell 7 91, .tmp 8]) rfl (by simp) (.tmp (.cell g7 91 #[.int .i64 (kt 0 a), .int .i64 (kt 1 a), .int .i64 (kt 2 a)] (0, 0) _ rfl (blk_put (cs := #[.int .i64 (kt 0 a), .int .i64 (kt 1 a), .int .i64 0]) (blk_put (cs := #[.int .i64 (kt 0 a), .int .i64 0, .int .i64 0]) (blk_put (cs := #[.int .i64 0, .int .i64 0, .int .i64 0]) BKT.out 0 _ rfl) 1 _ rfl) 2 _ rfl) Try.underlying91 rfl (by kernel_rfl) (.tmp .nil)))) rfl ?_
      exact ⟨a, cat (chunks tq), n', by rw [HA.out.pk, HPK.out, List.append_nil], rfl, below_set (below_set (below_set (below_step (below_drew1 HB.out) HBT.out) GE7.out) GE7.out) GE7.out⟩
end Go.Proofs.Ytdcnoiofimngpaa.Gd
/- A rope: Root, Count, Len, within, leaf. -/
namespace Go.Proofs.Ytdcnoiofimngpaa.Gr
open Go.RowKit Go.Proofs.Ytdcnoiofimngpaa.U Go.Proofs.Ytdcnoiofimngpaa.QK Go.Proofs.Ytdcnoiofimngpaa.QS Go.Proofs.Ytdcnoiofimngpaa.Kt Go.Proofs.Ytdcnoiofimngpaa.Ka Go.Proofs.Ytdcnoiofimngpaa.Kb Go.Proofs.Ytdcnoiofimngpaa.Kc Go.Proofs.Ytdcnoiofimngpaa.Kd_ Go.Proofs.Ytdcnoiofimngpaa.Ke Go.Proofs.Ytdcnoiofimngpaa.Kf Go.Proofs.Ytdcnoiofimngpaa.Kh Go.Proofs.Ytdcnoiofimngpaa.Ki Go.Proofs.Ytdcnoiofimngpaa.Kj Go.Proofs.Ytdcnoiofimngpaa.Kk Go.Proofs.Ytdcnoiofimngpaa.Gs Go.Proofs.Ytdcnoiofimngpaa.Gd Go.Proofs.Ytdcnoiofimngpaa.Gt Go.Proofs.YtdcnoiofimngpaaW.PrintWords Go.Proofs.YtdcnoiofimngpaaW.PrintLast Go.Proofs.YtdcnoiofimngpaaW.PrintMore
set_option linter.unusedVariables false
set_option linter.unusedSimpArgs false
/-- a rope of the chunks `C` that stood in the world `w0` -/
structure Rope (w0 : World) (g : Nat) (p : Option Addr) (t : Tr) (C : List ByteArray) : Prop where
  r : IsRope w0 g p
  d : Rd w0 p t
  f : t = .nil ∨ FineT t
  c : chunks t = C
  s : ∀ j, kt j C ≤ 5000
  l : C.length ≤ 5000
theorem field91 (a b c : Int) (w : World) : (Instr.field 91 (.agg #[.int .i64 a, .int .i64 b, .int .i64 c]) 0).run Try.prog w = .ok (.int .i64 a) w := by
  have hux := Try.underlying91

  simp [Instr.field, asAgg, part, hux]
theorem root_calls (w : World) (g : Nat) (p : Option Addr) (h : IsRope w g p) : Calls Try.prog 62 #[.pointer (some ⟨g, 0, none⟩)] w fun e w' => e = .returned (.pointer p) ∧ w = w' := by
  have c0 : w.cell? ⟨g, 0, none⟩ = some (.pointer p) := (blk_cell h 0).trans rfl
  have hux := Try.underlying76
  clear h
  go_enter Try.func62, Try.ntmps62
  go_wp2
  go_ret
  exact ⟨rfl, rfl⟩
variable {w0 : World} {g : Nat} {p : Option Addr} {t : Tr} {C : List ByteArray}
theorem Rope.root (h : Rope w0 g p t C) {w : World} (hb : Below w0.heap.size w0 w) : Calls Try.prog 62 #[.pointer (some ⟨g, 0, none⟩)] w fun e w' => e = .returned (.pointer p) ∧ w = w' := root_calls w g p (blk_below h.r hb)
theorem Rope.kcount (h : Rope w0 g p t C) {w : World} (hb : Below w0.heap.size w0 w) : Calls Try.prog 82 #[.pointer p] w fun e w' => e = .returned (.agg #[.int .i64 (kt 0 C), .int .i64 (kt 1 C), .int .i64 (kt 2 C)]) ∧ Below w.heap.size w w' := by
  rcases h.f with e | hf
  · have hd := h.d
    have hc := h.c
    subst e
    have ec : chunks .nil = [] := by rw [chunks]
    rw [ec] at hc
    subst hc
    exact (count_calls w p .nil (hd.below hb)).mono fun e w' ⟨h1, h2⟩ => ⟨by rw [h1]; rfl, h2⟩
  · have := count_fine w0 w p t h.d hb hf
    rw [h.c] at this
    exact this
set_option maxHeartbeats 1000000 in
set_option maxRecDepth 100000 in
theorem Rope.count (h : Rope w0 g p t C) {w : World} (hb : Below w0.heap.size w0 w) : Calls Try.prog 60 #[.pointer (some ⟨g, 0, none⟩)] w fun e w' => e = .returned (.agg #[.int .i64 (kt 0 C), .int .i64 (kt 1 C), .int .i64 (kt 2 C)]) ∧ Below w.heap.size w w' := by
  have hu91 := Try.underlying91
  have HR : Aside0 (∀ W, Below w.heap.size w W → Calls Try.prog 62 #[.pointer (some ⟨g, 0, none⟩)] W fun e w' => e = .returned (.pointer p) ∧ W = w') := ⟨fun W h2 => h.root (below_step hb h2)⟩
  have HC : Aside0 (∀ W, Below w.heap.size w W → Calls Try.prog 82 #[.pointer p] W fun e w' => e = .returned (.agg #[.int .i64 (kt 0 C), .int .i64 (kt 1 C), .int .i64 (kt 2 C)]) ∧ Below W.heap.size W w') := ⟨fun W h2 => h.kcount (below_step hb h2)⟩
  clear h hb
  go_enter Try.func60, Try.ntmps60
  go_wp2_with (first
    | ((with_reducible refine gate_dst (N := 2) rfl ?_); refine box_event ?hg (N := 2) ?hd (cs := #[.int .i64 0, .int .i64 0, .int .i64 0]) (t := 91) ?hr ?_; (case hd => rfl); (case hg => rfl); (case hr => first | (go_simp; done) | (go_simp; rfl)); intro gb hg w2 hbox hb; have BK := Aside0.mk hbox; have HB := Aside0.mk hb; have GE : Aside0 (w.heap.size ≤ gb) := ⟨by rw [hg]; exact Nat.le_refl _⟩; clear hb hbox hg)
    | (go_at_call 62; (with_reducible refine (HR.out _ HB.out).mono ?_); rintro e w' ⟨rfl, rfl⟩)
    | (go_at_call 82; (with_reducible refine (HC.out _ HB.out).mono ?_); rintro e w3 ⟨rfl, hb⟩; have BK2 := Aside0.mk (blk_below BK.out hb); have HB2 := Aside0.mk (below_step HB.out hb); clear BK HB hb; have BK := BK2; have HB := HB2; clear BK2 HB2)
    | ((with_reducible refine gate_store (t := 91) (p := 2) (v := .tmp 5) rfl ?_); refine Sa.store_whole rfl rfl 91 (.tmp 2) (.tmp 5) rfl gb #[.int .i64 0, .int .i64 0, .int .i64 0] [.int .i64 (kt 0 C), .int .i64 (kt 1 C), .int .i64 (kt 2 C)] rfl rfl (by kernel_rfl) BK.out rfl (by simp [Value.oneCell']) ?_; intro w9 hbox hg; have n0_ := Aside0.mk (Sa.grown_below HB.out (below_size HB.out) hg GE.out); clear BK HB; have BK := Aside0.mk hbox; have HB := n0_; clear n0_ hbox hg))
  refine bodyPost_ret (results_cell_row rfl _ _ gb 91 #[.int .i64 (kt 0 C), .int .i64 (kt 1 C), .int .i64 (kt 2 C)] (0, 0) _ rfl BK.out Try.underlying91 rfl (by kernel_rfl)) rfl ?_
  exact ⟨rfl, HB.out⟩
theorem Rope.len (h : Rope w0 g p t C) {w : World} (hb : Below w0.heap.size w0 w) : Calls Try.prog 69 #[.pointer (some ⟨g, 0, none⟩)] w fun e w' => e = .returned (.int .i64 (kt 0 C)) ∧ Below w.heap.size w w' := by
  have hu91 := Try.underlying91
  have HC := Aside0.mk (h.count hb)
  clear h hb
  go_enter Try.func69, Try.ntmps69
  go_wp2_with (first | (go_at_call 60; (with_reducible refine HC.out.mono ?_); rintro e w3 ⟨rfl, hb⟩; have HB := Aside0.mk hb; clear hb) | (rw [field91]; go_simp))
  go_ret
  exact ⟨rfl, HB.out⟩
/-- are so many bytes there? -/
def inside (n at_ k : Int) : Bool := decide (0 ≤ at_) && decide (0 ≤ k) && decide (at_ ≤ n) && decide (k ≤ n - at_)
theorem Rope.within (h : Rope w0 g p t C) {w : World} (hb : Below w0.heap.size w0 w) (x k : Int) : Calls Try.prog 92 #[.pointer (some ⟨g, 0, none⟩), .int .i64 x, .int .i64 k] w fun e w' => e = .returned (.bool (inside (kt 0 C) x k)) ∧ Below w.heap.size w w' := by
  have HC := Aside0.mk (h.len hb)
  have hs := h.s 0
  have h0 := kt_nonneg 0 C
  have HS : Aside0 (0 ≤ kt 0 C ∧ kt 0 C ≤ 5000) := ⟨h0, hs⟩
  clear h hb hs h0
  generalize kt 0 C = m at HC HS
  unfold inside
  by_cases c1 : 0 ≤ x
  · have c1b : decide (0 ≤ x) = true := decide_eq_true c1
    by_cases c2 : 0 ≤ k
    · have c2b : decide (0 ≤ k) = true := decide_eq_true c2
      by_cases c3 : x ≤ m
      · have c3b : decide (x ≤ m) = true := decide_eq_true c3
        have wq : wrap64 (m - x) = m - x := by have := HS.out; unfold wrap64; omega
        have WQ := Aside0.mk wq
        by_cases c4 : k ≤ m - x
        · have c4b : decide (k ≤ m - x) = true := decide_eq_true c4
          rw [c1b, c2b, c3b, c4b]
          clear c1 c2 c3 c4
          go_enter Try.func92, Try.ntmps92
          go_wp2_with (go_at_call 69; (with_reducible refine HC.out.mono ?_); rintro e w3 ⟨rfl, hb⟩; have HB := Aside0.mk hb; clear hb)
          go_ret
          exact ⟨rfl, HB.out⟩
        · have c4b : decide (k ≤ m - x) = false := decide_eq_false c4
          rw [c1b, c2b, c3b, c4b]
          clear c1 c2 c3 c4
          go_enter Try.func92, Try.ntmps92
          go_wp2_with (go_at_call 69; (with_reducible refine HC.out.mono ?_); rintro e w3 ⟨rfl, hb⟩; have HB := Aside0.mk hb; clear hb)
          go_ret
          exact ⟨rfl, HB.out⟩
      · have c3b : decide (x ≤ m) = false := decide_eq_false c3
        rw [c1b, c2b, c3b]
        clear c1 c2 c3
        go_enter Try.func92, Try.ntmps92
        go_wp2_with (go_at_call 69; (with_reducible refine HC.out.mono ?_); rintro e w3 ⟨rfl, hb⟩; have HB := Aside0.mk hb; clear hb)
        go_ret
        exact ⟨rfl, HB.out⟩
    · have c2b : decide (0 ≤ k) = false := decide_eq_false c2
      rw [c1b, c2b]
      clear c1 c2
      go_enter Try.func92, Try.ntmps92
      go_wp2_with (go_at_call 69; (with_reducible refine HC.out.mono ?_); rintro e w3 ⟨rfl, hb⟩; have HB := Aside0.mk hb; clear hb)
      go_ret
      exact ⟨rfl, HB.out⟩
  · have c1b : decide (0 ≤ x) = false := decide_eq_false c1
    rw [c1b]
    clear c1
    go_enter Try.func92, Try.ntmps92
    go_wp2_with (go_at_call 69; (with_reducible refine HC.out.mono ?_); rintro e w3 ⟨rfl, hb⟩; have HB := Aside0.mk hb; clear hb)
    go_ret
    exact ⟨rfl, HB.out⟩
theorem Rope.down (h : Rope w0 g p t C) {w : World} (hb : Below w0.heap.size w0 w) (k n : Int) (hn : 0 ≤ n ∧ n ≤ 1000000) : Calls Try.prog 61 #[.pointer p, .int .i64 k, .int .i64 n] w (DownPost k C n w) := by
  have := down_calls w p t k n (h.d.below hb) h.f hn (fun j => by rw [h.c]; have := h.s j; omega) (by rw [h.c]; have := h.l; omega)
  rw [h.c] at this
  exact this
/-- what leaf answers -/
def LeafOf (C : List ByteArray) (n : Int) (w : World) (e : Ending) (w' : World) : Prop := ∃ a x m, pick 0 C n = (a, x, m) ∧ e = .returned (.tuple #[.string x, .int .i64 m]) ∧ Below w.heap.size w w'
set_option maxHeartbeats 8000000 in
set_option maxRecDepth 100000 in
theorem Rope.leaf (h : Rope w0 g p t C) {w : World} (hb : Below w0.heap.size w0 w) (n : Int) (hn : 0 ≤ n ∧ n < kt 0 C) : Calls Try.prog 103 #[.pointer (some ⟨g, 0, none⟩), .int .i64 n] w (LeafOf C n w) := by
  have hu91 := Try.underlying91
  have hs0 := h.s 0
  have HS0 : Aside0 (At 0 C n [] (chunks t) n) := ⟨hn.1, by omega, by rw [h.c]; rfl, fun j => by rw [kt_nil, h.c]; have := h.s j; omega, by rw [h.c]; exact Nat.le_refl _⟩
  have HT0 : Aside0 (n < kt 0 (chunks t)) := ⟨by rw [h.c]; exact hn.2⟩
  have HR0 := Aside0.mk (h.d.below hb)
  have HF0 := Aside0.mk h.f
  have HRT := Aside0.mk (h.root hb)
  have HB0 := Aside0.mk (Below.refl w.heap.size w)
  clear h hn hs0 hb
  go_enter Try.func103, Try.ntmps103
  go_wp2_with (go_at_call 62; (with_reducible refine HRT.out.mono ?_); rintro e wh ⟨rfl, rfl⟩)
  go_loopg [1, 6] (SizeOf.sizeOf t + 1) (fun kq v1 v6 w' => ∃ (q : Option Addr) (tq : Tr) (n' : Int) (a : List ByteArray), v6 = .pointer q ∧ v1 = .int .i64 n' ∧ Aside0 (SizeOf.sizeOf tq < kq) ∧ Aside0 (Rd w q tq) ∧ Aside0 (tq = .nil ∨ FineT tq) ∧ Aside0 (At 0 C n a (chunks tq) n') ∧ Aside0 (n' < kt 0 (chunks tq)) ∧ Aside0 (Below w.heap.size w w'))
  case atStart => exact ⟨p, t, n, [], rfl, rfl, ⟨Nat.lt_succ_self _⟩, HR0, HF0, HS0, HT0, HB0⟩
  case round =>
    clear HS0 HR0 HF0 HT0 HB0 HRT
    obtain ⟨q, tq, n', a, rfl, rfl, HM, HQ, HF, HA, HT, HB⟩ := hrel
    obtain ⟨k1, rfl⟩ : ∃ k1, gk = k1 + 1 := ⟨gk - 1, by have := HM.out; omega⟩
    have HHE := Aside0.mk (height_calls _ q tq (HQ.out.below HB.out))
    by_cases ch : 0 < tq.height
    · have chb : decide (0 < tq.height) = true := decide_eq_true ch
      obtain ⟨hn, h2, h8, hk, hch⟩ := at_join HF.out ch
      obtain ⟨ks, hks⟩ : ∃ ks, tq.kids = ks := ⟨_, rfl⟩
      have HKI := Aside0.mk (kids3_calls w wr q tq HQ.out HB.out hn (by omega) (by omega))
      rw [hks] at h2 h8 hk hch HKI
      rw [hch] at HA HT
      have HK2 := Aside0.mk h2
      have HK8 := Aside0.mk h8
      have HKF := Aside0.mk hk
      have HMZ : Aside0 (SizeOf.sizeOf tq < k1 + 1) := HM
      have hm1 : decide (0 < ks.length) = true := decide_eq_true (by omega)
      have hm1i : decide (0 < (ks.length : Int)) = true := decide_eq_true (by omega)
      obtain ⟨bs, hbs⟩ : ∃ bs, wr.heap.size = bs := ⟨_, rfl⟩
      have HBS := Aside0.mk hbs
      clear ch hn h2 h8 hk hch hks HF HM hbs
      go_wp2_with (first
        | (go_at_call 83; (with_reducible refine HHE.out.mono ?_); rintro e wh ⟨rfl, rfl⟩; clear HHE)
        | (go_at_call 84; (with_reducible refine HKI.out.mono ?_); rintro e wk ⟨A, cp, ps, rfl, hcp, hpl, hrow, hrd, hb⟩; have HPL := Aside0.mk hpl; have HCP := Aside0.mk hcp; rw [HBS.out] at hrow; have HRD := Aside0.mk hrd; have HI : Aside0 (Below w.heap.size w wk) := ⟨below_step HB.out hb⟩; have HW := Aside0.mk hrow; clear hcp hpl hrow hrd hb HKI HB))
      go_loopg [1, 18] (ks.length + 1) (fun kq v1 v18 w' => ∃ (x n2 : Int) (a2 : List ByteArray), v1 = .int .i64 n2 ∧ v18 = .int .i64 x ∧ Aside0 (0 ≤ x ∧ x < ks.length ∧ x + kq = ks.length + 1) ∧ Aside0 (At 0 C n a2 (chunksL (ks.drop x.toNat)) n2) ∧ Aside0 (n2 < kt 0 (chunksL (ks.drop x.toNat))) ∧ Aside0 (Below w.heap.size w w') ∧ Aside0 (kPtr.R 73 w' bs (fun k => bs ≤ k) (.slice A ks.length cp) ps))
      case atStart => exact ⟨0, n', a, rfl, rfl, ⟨by have := HK2.out; omega⟩, ⟨HA.out⟩, ⟨HT.out⟩, HI, HW⟩
      case round =>
        clear HI HA HT HW
        obtain ⟨x, n2, a2, rfl, rfl, HX, HA2, HT2, HI, HW⟩ := hrel
        obtain ⟨k2, rfl⟩ : ∃ k2, gk = k2 + 1 := ⟨gk - 1, by have := HX.out; omega⟩
        have p0 : 0 ≤ x := HX.out.1
        have cx : x < (ks.length : Int) := HX.out.2.1
        have cxb : decide (x < (ks.length : Int)) = true := decide_eq_true cx
        obtain ⟨ad0, q0, hx0⟩ := at_ptr (n := ks.length) (by have h := (Kd.R_reads' HW.out).2.2; rw [HPL.out] at h; exact h) x p0 cx
        subst q0
        have HRK : Aside0 (Rd w (rdOf none ps x) (rdT ks x)) := ⟨HRD.out x.toNat _ _ (by unfold rdOf; rw [List.getD_eq_getElem?_getD, List.getElem?_eq_getElem (by have := HPL.out; omega)]; rfl) (by unfold rdT; rw [List.getD_eq_getElem?_getD, List.getElem?_eq_getElem (by omega)]; rfl)⟩
        obtain ⟨hfk, hsz⟩ := HKF.out _ (rdT_mem ks x p0 cx)
        have hdr := chunksL_drop ks x.toNat (by omega)
        rw [show rdT ks ((x.toNat : Nat) : Int) = rdT ks x by unfold rdT; rw [Int.toNat_natCast]] at hdr
        have HA3 := Aside0.mk HA2.out
        have HT3 := Aside0.mk HT2.out
        rw [hdr] at HA3 HT3
        clear HA2 HT2
        generalize rdT ks x = kid at HRK hfk hsz HA3 HT3 hdr
        generalize rdOf none ps x = qk at hx0 HRK
        have HFK := Aside0.mk hfk
        have HSZ := Aside0.mk hsz
        have HCO : Aside0 (∀ W, Below w.heap.size w W → Calls Try.prog 82 #[.pointer qk] W fun e w' => e = .returned (.agg #[.int .i64 (kt 0 (chunks kid)), .int .i64 (kt 1 (chunks kid)), .int .i64 (kt 2 (chunks kid))]) ∧ Below W.heap.size W w') := ⟨fun W hb => count_fine w W qk kid HRK.out hb HFK.out⟩
        have p0c := eq_true p0
        have cxc := eq_true cx
        by_cases c1 : n2 < kt 0 (chunks kid)
        · have c1b : decide (n2 < kt 0 (chunks kid)) = true := decide_eq_true c1
          have HEN := Aside0.mk (HA3.out.enter (fine_chunks hfk) (.inl c1))
          have HC1 := Aside0.mk c1
          clear c1 p0 cx hfk hsz hdr
          go_wp2_with (first | (go_at_call 82; (with_reducible refine (HCO.out _ HI.out).mono ?_); rintro e wc ⟨rfl, hb⟩; have HI2 := Aside0.mk (below_step HI.out hb); clear hb HI hx0; have HI := HI2; clear HI2) | (rw [field91]; go_simp))
          go_roundg k1
          case measure => omega
          case rel => exact ⟨qk, kid, n2, a2, rfl, rfl, ⟨by have := HSZ.out; have := HMZ.out; omega⟩, HRK, ⟨.inr HFK.out⟩, ⟨HEN.out⟩, HC1, HI⟩
        · have c1b : decide (n2 < kt 0 (chunks kid)) = false := decide_eq_false c1
          have hlt : x + 1 < ks.length := by
            apply Decidable.byContradiction
            intro hc
            have ht := HT3.out
            rw [List.drop_eq_nil_of_le (by omega), chunksL, List.append_nil] at ht
            exact c1 ht
          have HNX := Aside0.mk (HA3.out.next (by
            rw [chunksL_drop ks (x.toNat + 1) (by omega)]
            obtain ⟨h3, _⟩ := HKF.out _ (rdT_mem ks ((x.toNat + 1 : Nat) : Int) (by omega) (by omega))
            intro h
            exact fine_chunks h3 (List.append_eq_nil_iff.mp h).1) c1)
          have HTX : Aside0 (n2 - kt 0 (chunks kid) < kt 0 (chunksL (ks.drop (x.toNat + 1)))) := ⟨by have := HT3.out; rw [kt_app] at this; omega⟩
          have HN2 : Aside0 (wrap64 (n2 - kt 0 (chunks kid)) = n2 - kt 0 (chunks kid)) := ⟨by have := HNX.out.n0; have := HNX.out.n1; unfold wrap64; omega⟩
          have HC2 := Aside0.mk hlt
          have HX2 : Aside0 (0 ≤ x ∧ x < ks.length) := ⟨p0, cx⟩
          clear c1 p0 cx hfk hsz hdr hlt
          go_wp2_with (first | (go_at_call 82; (with_reducible refine (HCO.out _ HI.out).mono ?_); rintro e wc ⟨rfl, hb⟩; have HI2 := Aside0.mk (below_step HI.out hb); have HW2 := Aside0.mk (Kd.R_below HW.out hb); clear hb HI HW hx0; have HI := HI2; have HW := HW2; clear HI2 HW2) | (rw [field91]; go_simp))
          go_roundg k2
          case measure => omega
          case rel => exact ⟨wrap64 (x + 1), wrap64 (n2 - kt 0 (chunks kid)), a2 ++ chunks kid, rfl, (by first | rfl | (simp; done)), ⟨by have := HX.out; have := HX2.out; have := HC2.out; have := HK8.out; unfold wrap64; omega⟩, ⟨by rw [HN2.out, show (wrap64 (x + 1)).toNat = x.toNat + 1 by have := HX2.out; have := HK8.out; unfold wrap64; omega]; exact HNX.out⟩, ⟨by rw [HN2.out, show (wrap64 (x + 1)).toNat = x.toNat + 1 by have := HX2.out; have := HK8.out; unfold wrap64; omega]; exact HTX.out⟩, HI, HW⟩
    · have chb : decide (0 < tq.height) = false := decide_eq_false ch
      obtain ⟨hpk, hsz, hln⟩ := at_leaf 0 n' HF.out ch
      have HTX := Aside0.mk (text_calls wr q tq (HQ.out.below HB.out) (by omega) (by omega))
      have HPK := Aside0.mk hpk
      clear ch hpk hsz hln
      go_wp2_with (first | (go_at_call 83; (with_reducible refine HHE.out.mono ?_); rintro e wh ⟨rfl, rfl⟩; clear HHE) | (go_at_call 86; (with_reducible refine HTX.out.mono ?_); rintro e wt ⟨rfl, hb⟩; have HB2 := Aside0.mk (below_step HB.out hb); clear hb))
      go_ret2
      exact ⟨a, cat (chunks tq), n', by rw [HA.out.pk, HPK.out, List.append_nil], rfl, HB2.out⟩
end Go.Proofs.Ytdcnoiofimngpaa.Gr
