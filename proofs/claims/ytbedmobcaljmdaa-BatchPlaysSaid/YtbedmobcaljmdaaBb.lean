import Derived.Test.YtbedmobcaljmdaaBa
import Derived.Test.YtbedmobcaljmdaaSa
import Derived.Conc.SmallLaws
/- The contracts of a batch's methods. -/
namespace Go.Proofs.Ytbedmobcaljmdaa.Bb
open Go.RowKit Go.Conc Go.Proofs.Ytbedmobcaljmdaa.Ba Go.Proofs.YtbedmobcaljmdaaW.PrintWords Go.Proofs.YtbedmobcaljmdaaW.PrintLast Go.Proofs.YtbedmobcaljmdaaW.PrintMore
set_option linter.unusedVariables false
/-- a batch that New made: its struct at g, its channel at c -/
def BX (w : World) (g c n : Nat) (l : List ByteArray) (by_ : Int) (cl : Bool) (s r : Nat) : Prop :=
  w.heap[g]? = some (.cells #[.chan (some c), .int .i64 by_, .bool cl] 52 (0, 0)) ∧ w.heap[c]? = some (.chan n (l.map Value.string).toArray false s r false)
section
variable {w : World} {g c n : Nat} {l : List ByteArray} {by_ : Int} {cl : Bool} {s r : Nat}
theorem BX.c0 (h : BX w g c n l by_ cl s r) : w.cell? ⟨g, 0, none⟩ = some (.chan (some c)) := (blk_cell h.1 0).trans rfl
theorem BX.c1 (h : BX w g c n l by_ cl s r) : w.cell? ⟨g, 1, none⟩ = some (.int .i64 by_) := (blk_cell h.1 1).trans rfl
theorem BX.c2 (h : BX w g c n l by_ cl s r) : w.cell? ⟨g, 2, none⟩ = some (.bool cl) := (blk_cell h.1 2).trans rfl
theorem BX.ne (h : BX w g c n l by_ cl s r) : g ≠ c := by rintro rfl; have h1 := h.1; rw [h.2] at h1; cases h1
end
theorem info9 : (Try.prog.info? 9).map (fun i => (i.zero, i.size, i.bytes)) = some (some (.string ⟨#[]⟩), 1, 16) := by kernel_rfl
theorem eqlIn_chan (d : Nat) (w : World) (p : Option Nat) : (Op.equalIn (d + 1) 50 (.chan p) (.chan none)).run Try.prog w = .ok p.isNone w := by
  cases p <;> simp [Op.equalIn, run_underlying Try.underlying50]
theorem eql_chan (w : World) (p : Option Nat) : (binOp .eql 50 (.chan p) (.chan none)).run Try.prog w = .ok (.bool p.isNone) w := by
  simp only [binOp]
  simp [show Op.equal 50 (.chan p) (.chan none) = Op.equalIn (9999 + 1) 50 (.chan p) (.chan none) from rfl, eqlIn_chan 9999 w p]
theorem none_calls (w : World) (g c n : Nat) (l : List ByteArray) (by_ : Int) (cl : Bool) (s r : Nat) (h : BX w g c n l by_ cl s r) :
    Calls Try.prog 37 #[.pointer (some ⟨g, 0, none⟩)] w fun e w' => e = .returned (.bool false) ∧ w = w' := by
  have h0 := h.c0
  have he := eql_chan
  go_enter Try.func37, Try.ntmps37
  go_wp2
  go_ret
  exact ⟨rfl, rfl⟩
theorem len_calls (w : World) (g c n : Nat) (l : List ByteArray) (by_ : Int) (cl : Bool) (s r : Nat) (h : BX w g c n l by_ cl s r) :
    Calls Try.prog 31 #[.pointer (some ⟨g, 0, none⟩)] w fun e w' => e = .returned (.int .i64 l.length) ∧ w = w' := by
  have h0 := h.c0
  have hlen := fun ty => run_len_chan (P := Try.prog) 50 ty Try.underlying50 h.2
  rw [List.size_toArray, List.length_map] at hlen
  go_enter Try.func31, Try.ntmps31
  go_wp2_with (go_at_call 37; (with_reducible refine (none_calls _ g c n l by_ cl s r h).mono ?_); rintro e w' ⟨rfl, rfl⟩)
  go_ret
  exact ⟨rfl, rfl⟩
theorem bytes_calls (w : World) (g c n : Nat) (l : List ByteArray) (by_ : Int) (cl : Bool) (s r : Nat) (h : BX w g c n l by_ cl s r) :
    Calls Try.prog 32 #[.pointer (some ⟨g, 0, none⟩)] w fun e w' => e = .returned (.int .i64 by_) ∧ w = w' := by
  have h1 := h.c1
  go_enter Try.func32, Try.ntmps32
  go_wp2_with (go_at_call 37; (with_reducible refine (none_calls _ g c n l by_ cl s r h).mono ?_); rintro e w' ⟨rfl, rfl⟩)
  go_ret
  exact ⟨rfl, rfl⟩
/-- what a method of it leaves as it was -/
def KeepX (w w' : World) (g c : Nat) : Prop := w.heap.size ≤ w'.heap.size ∧ ∀ k, k < w.heap.size → k ≠ g → k ≠ c → w'.heap[k]? = w.heap[k]?
theorem KeepX.refl (w : World) (g c : Nat) : KeepX w w g c := ⟨Nat.le_refl _, fun _ _ _ _ => rfl⟩
theorem KeepX.trans {w w1 w2 : World} {g c : Nat} (h : KeepX w w1 g c) (k : KeepX w1 w2 g c) : KeepX w w2 g c :=
  ⟨Nat.le_trans h.1 k.1, fun i hi hg hc => (k.2 i (Nat.lt_of_lt_of_le hi h.1) hg hc).trans (h.2 i hi hg hc)⟩
theorem BX.keep {w w' : World} {g c g2 c2 n : Nat} {l : List ByteArray} {by_ : Int} {cl : Bool} {s r : Nat} (h : BX w g c n l by_ cl s r) (hk : KeepX w w' g2 c2) (h1 : g ≠ g2) (h2 : g ≠ c2) (h3 : c ≠ g2) (h4 : c ≠ c2) : BX w' g c n l by_ cl s r :=
  ⟨(hk.2 g (blk_lt h.1) h1 h2).trans h.1, (hk.2 c (blk_lt h.2) h3 h4).trans h.2⟩
theorem BX.below {w w' : World} {g c n : Nat} {l : List ByteArray} {by_ : Int} {cl : Bool} {s r : Nat} (h : BX w g c n l by_ cl s r) (hb : Below w.heap.size w w') : BX w' g c n l by_ cl s r :=
  ⟨(hb.block g (blk_lt h.1)).trans h.1, (hb.block c (blk_lt h.2)).trans h.2⟩
theorem new_calls (w : World) (n : Nat) (h1 : 1 ≤ n) (h8 : n ≤ 8) :
    Calls Try.prog 20 #[.int .i64 n] w fun e w' => ∃ g c, e = .returned (.pointer (some ⟨g, 0, none⟩)) ∧ w.heap.size ≤ g ∧ w.heap.size ≤ c ∧ BX w' g c n [] 0 false 0 0 ∧ Below w.heap.size w w' := by
  obtain ⟨i, hi, _, _, hb⟩ := info_parts info9
  have hmk := fun w => run_makeChan (P := Try.prog) (w := w) Try.underlying50 hi .i64 n (by omega) (by rw [hb]; omega)
  have d1 : decide ((n : Int) < 1) = false := decide_eq_false (by omega)
  have d2 : decide ((8 : Int) < n) = false := decide_eq_false (by omega)
  go_enter Try.func20, Try.ntmps20
  go_wp2
  go_ret
  refine ⟨w.heap.size + 1, w.heap.size, rfl, by omega, Nat.le_refl _, ⟨?_, ?_⟩, below_alloc (below_alloc (Below.refl _ _) _) _⟩
  · have := heap_alloc_new (w.alloc (.chan n #[] false 0 0 false)) (.cells #[.chan (some w.heap.size), .int .i64 0, .bool false] 52)
    simpa only [World.size_alloc] using this
  · exact (Below.heap_alloc _ _ _ (by simp)).trans (heap_alloc_new w _)
theorem close_calls (w0 w : World) (g c n : Nat) (l : List ByteArray) (by_ : Int) (cl : Bool) (s r : Nat) (h : BX w g c n l by_ cl s r) (hg : w0.heap.size ≤ g) (hB : Below w0.heap.size w0 w) :
    Calls Try.prog 30 #[.pointer (some ⟨g, 0, none⟩)] w fun e w' => e = .returned (.tuple #[]) ∧ BX w' g c n l by_ true s r ∧ KeepX w w' g c ∧ Below w0.heap.size w0 w' := by
  have h2 := h.c2
  have hf := blk_frozen h.1 2
  go_enter Try.func30, Try.ntmps30
  go_wp2_with (go_at_call 37; (with_reducible refine (none_calls _ g c n l by_ cl s r h).mono ?_); rintro e w' ⟨rfl, rfl⟩)
  go_end0
  exact ⟨rfl, ⟨by simpa using blk_set h.1 2 (.bool true), (Below.heap_setCell w ⟨g, 2, none⟩ _ c (Ne.symm h.ne)).trans h.2⟩, ⟨by simp [World.setCell], fun k _ hk _ => Below.heap_setCell w ⟨g, 2, none⟩ _ k hk⟩, below_set hB hg⟩
theorem setChan_blk (w : World) (c k cap : Nat) (buf : Array Value) (cl : Bool) (s r : Nat) (tm : Bool) (h : c ≠ k) : (w.setChan c cap buf cl s r tm).heap[k]? = w.heap[k]? := by
  simp [World.setChan, Array.getElem?_setIfInBounds_ne h]
theorem keep_setChan (w : World) (g c cap : Nat) (buf : Array Value) (cl : Bool) (s r : Nat) (tm : Bool) : KeepX w (w.setChan c cap buf cl s r tm) g c :=
  ⟨by rw [size_setChan]; exact Nat.le_refl _, fun k _ _ hk => setChan_blk w c k cap buf cl s r tm (Ne.symm hk)⟩
theorem keep_setCell {w w1 : World} {g c : Nat} (h : KeepX w w1 g c) (j : Nat) (u : Value) : KeepX w (w1.setCell ⟨g, j, none⟩ u) g c :=
  ⟨by simpa [World.setCell] using h.1, fun k hi hk hk2 => (Below.heap_setCell w1 ⟨g, j, none⟩ u k hk).trans (h.2 k hi hk hk2)⟩
theorem BX.setBytes {w : World} {g c n : Nat} {l : List ByteArray} {by_ : Int} {cl : Bool} {s r : Nat} (h : BX w g c n l by_ cl s r) (x : Int) : BX (w.setCell ⟨g, 1, none⟩ (.int .i64 x)) g c n l x cl s r :=
  ⟨by simpa using blk_set h.1 1 (.int .i64 x), (Below.heap_setCell w ⟨g, 1, none⟩ _ c (Ne.symm h.ne)).trans h.2⟩
theorem BX.sent {w : World} {g c n : Nat} {l : List ByteArray} {by_ : Int} {s r : Nat} (h : BX w g c n l by_ false s r) (x : ByteArray) : BX (w.setChan c n ((l.map Value.string).toArray.push (.string x)) false (s + 1) r false) g c n (l ++ [x]) by_ false (s + 1) r :=
  ⟨(setChan_blk w c g n _ _ _ _ _ (Ne.symm h.ne)).trans h.1, by rw [heap_setChan w c n _ _ _ _ _ (blk_lt h.2), List.push_toArray, List.map_append]; rfl⟩
theorem BX.got {w : World} {g c n : Nat} {l : List ByteArray} {by_ : Int} {cl : Bool} {s r : Nat} {x : ByteArray} (h : BX w g c n (x :: l) by_ cl s r) : BX (w.setChan c n ((((x :: l).map Value.string).toArray).extract 1 (((x :: l).map Value.string).toArray).size) false s (r + 1) false) g c n l by_ cl s (r + 1) :=
  ⟨(setChan_blk w c g n _ _ _ _ _ (Ne.symm h.ne)).trans h.1, by rw [heap_setChan w c n _ _ _ _ _ (blk_lt h.2)]; simp [List.take_of_length_le]⟩
/-- Put, where it has a place -/
theorem put_calls (w0 w : World) (g c n : Nat) (l : List ByteArray) (by_ : Int) (s r : Nat) (x : ByteArray) (h : BX w g c n l by_ false s r) (hl : l.length < n) (hg : w0.heap.size ≤ g) (hc : w0.heap.size ≤ c) (hB : Below w0.heap.size w0 w) (hx : x.size ≤ 9223372036854775807) :
    Calls Try.prog 21 #[.pointer (some ⟨g, 0, none⟩), .string x] w fun e w' => e = .returned (.bool true) ∧ BX w' g c n (l ++ [x]) (wrap64 (by_ + x.size)) false (s + 1) r ∧ KeepX w w' g c ∧ Below w0.heap.size w0 w' := by
  have h0 := h.c0
  have h2 := h.c2
  refine calls_of_nwp Try.func21 rfl ?_
  simp only [Try.ntmps21, List.size_toArray, List.length_cons, List.length_nil, Nat.reduceAdd, Nat.reduceSub, Array.replicate_succ, Array.replicate_zero, List.push_toArray, List.append_toArray, List.nil_append, List.cons_append]
  refine n_seq_k (fun K hK => ?_)
  go_wp2
  refine n_seq_k (fun K hK => ?_)
  go_wp2_with (go_at_call 37; (with_reducible refine (none_calls _ g c n l by_ false s r h).mono ?_); rintro e w' ⟨rfl, rfl⟩)
  refine n_seq_k (fun K hK => ?_)
  go_wp2
  have hX := h.sent x
  have hk := keep_setChan w g c n ((l.map Value.string).toArray.push (.string x)) false (s + 1) r false
  have hb := below_setChan hB hc n ((l.map Value.string).toArray.push (.string x)) false (s + 1) r false
  have hst := fun fr cs es he => step_lone_select_send_room (P := Try.prog) (fr := fr) (cs := cs) (w := w) (w₁ := w) (es := es) (c := c) (v := .string x) (z' := .string ⟨#[]⟩) he h.2 (by rw [List.size_toArray, List.length_map]; exact hl)
  generalize w.setChan c n ((l.map Value.string).toArray.push (.string x)) false (s + 1) r false = w1 at hX hk hb hst
  refine n_seq_n (fun K hK => ?_)
  refine n_comm (cases := #[scase c (.string x) (.string ⟨#[]⟩)]) (blocking := false) (shape := .select) (v := .tuple #[goInt 0, .bool false]) (w' := w1) rfl (by simp [go_sem, execOp, scase, Act.eval]) hst ?_
  go_wp2
  have h1 := hX.c1
  have hf := blk_frozen hX.1 1
  refine n_of ?_
  go_wp2
  go_ret
  exact ⟨rfl, hX.setBytes _, keep_setCell hk 1 _, below_set hb hg⟩
/-- Put, where it has none -/
theorem put_full (w : World) (g c n : Nat) (l : List ByteArray) (by_ : Int) (s r : Nat) (x : ByteArray) (h : BX w g c n l by_ false s r) (hl : n ≤ l.length) :
    Calls Try.prog 21 #[.pointer (some ⟨g, 0, none⟩), .string x] w fun e w' => e = .returned (.bool false) ∧ w = w' := by
  have h0 := h.c0
  have h2 := h.c2
  refine calls_of_nwp Try.func21 rfl ?_
  simp only [Try.ntmps21, List.size_toArray, List.length_cons, List.length_nil, Nat.reduceAdd, Nat.reduceSub, Array.replicate_succ, Array.replicate_zero, List.push_toArray, List.append_toArray, List.nil_append, List.cons_append]
  refine n_seq_k (fun K hK => ?_)
  go_wp2
  refine n_seq_k (fun K hK => ?_)
  go_wp2_with (go_at_call 37; (with_reducible refine (none_calls _ g c n l by_ false s r h).mono ?_); rintro e w' ⟨rfl, rfl⟩)
  refine n_seq_k (fun K hK => ?_)
  go_wp2
  have hst := fun fr cs es he => step_lone_select_send_full (P := Try.prog) (fr := fr) (cs := cs) (w := w) (w₁ := w) (es := es) (c := c) (v := .string x) (z' := .string ⟨#[]⟩) he h.2 (by rw [List.size_toArray, List.length_map]; exact hl)
  refine n_seq_n (fun K hK => ?_)
  refine n_comm (cases := #[scase c (.string x) (.string ⟨#[]⟩)]) (blocking := false) (shape := .select) (v := .tuple #[goInt (-1), .bool false]) (w' := w) rfl (by simp [go_sem, execOp, scase, Act.eval]) hst ?_
  go_wp2
  refine n_of ?_
  go_wp2
  go_ret
  exact ⟨rfl, rfl⟩
theorem put_closed (w : World) (g c n : Nat) (l : List ByteArray) (by_ : Int) (s r : Nat) (x : ByteArray) (h : BX w g c n l by_ true s r) :
    Calls Try.prog 21 #[.pointer (some ⟨g, 0, none⟩), .string x] w fun e w' => e = .returned (.bool false) ∧ w = w' := by
  have h0 := h.c0
  have h2 := h.c2
  refine calls_of_nwp Try.func21 rfl ?_
  simp only [Try.ntmps21, List.size_toArray, List.length_cons, List.length_nil, Nat.reduceAdd, Nat.reduceSub, Array.replicate_succ, Array.replicate_zero, List.push_toArray, List.append_toArray, List.nil_append, List.cons_append]
  refine n_seq_k (fun K hK => ?_)
  go_wp2
  refine n_seq_k (fun K hK => ?_)
  go_wp2_with (go_at_call 37; (with_reducible refine (none_calls _ g c n l by_ true s r h).mono ?_); rintro e w' ⟨rfl, rfl⟩)
  go_ret
  exact ⟨rfl, rfl⟩
def takeB (b : Int) : List ByteArray → Int
  | [] => b
  | x :: t => takeB (wrap64 (b - x.size)) t
theorem takeB_app (b : Int) (l : List ByteArray) (x : ByteArray) : takeB b (l ++ [x]) = wrap64 (takeB b l - x.size) := by
  induction l generalizing b with
  | nil => rfl
  | cons y t ih => exact ih _
def bufLen (c : Nat) (w : World) : Nat := match w.heap[c]? with | some (.chan _ buf _ _ _ _) => buf.size | _ => 0
theorem BX.bufLen {w : World} {g c n : Nat} {l : List ByteArray} {by_ : Int} {cl : Bool} {s r : Nat} (h : BX w g c n l by_ cl s r) : Bb.bufLen c w = l.length := by
  unfold Bb.bufLen; rw [h.2]; simp
theorem BX.grown {w w' : World} {g c n : Nat} {l : List ByteArray} {by_ : Int} {cl : Bool} {s r : Nat} {row : Option Nat} (h : BX w g c n l by_ cl s r) (hw : w.grownBy w' row) (h1 : row ≠ some g) (h2 : row ≠ some c) : BX w' g c n l by_ cl s r :=
  ⟨(hw.block g (blk_lt h.1) (Ne.symm h1)).trans h.1, (hw.block c (blk_lt h.2) (Ne.symm h2)).trans h.2⟩
theorem KeepX.grown {w w1 w2 : World} {g c : Nat} {row : Option Nat} (h : KeepX w w1 g c) (hw : w1.grownBy w2 row) (hr : ∀ k, row = some k → w.heap.size ≤ k) : KeepX w w2 g c :=
  ⟨Nat.le_trans h.1 hw.size, fun k hk hg hc => (hw.block k (Nat.lt_of_lt_of_le hk h.1) (fun hq => by have := hr k hq.symm; omega)).trans (h.2 k hk hg hc)⟩
theorem R_set {w : World} {c cap base : Nat} {buf : Array Value} {s r : Nat} {ok : Nat → Prop} {v : Value} {l : List ByteArray} (h : Kd.R Kd.string 9 w base ok v l) (hc : ∀ k, ok k → k ≠ c) : Kd.R Kd.string 9 (w.setChan c cap buf false s r false) base ok v l := by
  refine Kd.R_step h (fun k hk hlt => ?_)
  exact setChan_blk w c k cap buf false s r false (Ne.symm (hc k hk))
set_option maxHeartbeats 1000000 in
theorem take_calls (w0 w : World) (g c n : Nat) (l : List ByteArray) (by_ : Int) (cl : Bool) (s r : Nat) (h : BX w g c n l by_ cl s r) (hg : w0.heap.size ≤ g) (hc : w0.heap.size ≤ c) (hB : Below w0.heap.size w0 w) (hl : l.length ≤ 1000) :
    Calls Try.prog 22 #[.pointer (some ⟨g, 0, none⟩)] w fun e w' => ∃ v, e = .returned v ∧ Kd.R Kd.string 9 w' w0.heap.size (fun k => w.heap.size ≤ k) v l ∧ BX w' g c n [] (takeB by_ l) cl s (r + l.length) ∧ KeepX w w' g c ∧ Below w0.heap.size w0 w' := by
  have h0 := h.c0
  refine calls_of_nwp Try.func22 rfl ?_
  simp only [Try.ntmps22, List.size_toArray, List.length_cons, List.length_nil, Nat.reduceAdd, Nat.reduceSub, Array.replicate_succ, Array.replicate_zero, List.push_toArray, List.append_toArray, List.nil_append, List.cons_append]
  refine n_seq_k (fun K hK => ?_)
  go_wp2
  refine n_scope ?_
  refine n_seq_k (fun K hK => ?_)
  go_wp2_with (go_at_call 37; (with_reducible refine (none_calls _ g c n l by_ cl s r h).mono ?_); rintro e w' ⟨rfl, rfl⟩)
  refine n_seq_k (fun K hK => ?_)
  go_wp2
  refine n_seq_k (fun K hK => wp_label (hK _ _ ?_))
  clear hK K
  refine n_seq_n (fun K hK => ?_)
  refine n_block ?_
  refine n_loop (fun a' w' => ∃ (l1 l2 : List ByteArray) (v u4 u7 u8 u9 u10 u11 u12 u13 u14 u15 u16 u17 u18 u19 u20 u21 u22 u23 u24 u25 u26 u27 : Value), a' = { tmps := #[.pointer (some ⟨g, 0, none⟩), undef, .slice none 0 0, v, u4, .pointer (some ⟨g, 0, none⟩), .bool false, u7, u8, u9, u10, u11, u12, u13, u14, u15, u16, u17, u18, u19, u20, u21, u22, u23, u24, u25, u26, u27, undef], defers := [] } ∧ l = l1 ++ l2 ∧ Kd.R Kd.string 9 w' w0.heap.size (fun k => w.heap.size ≤ k) v l1 ∧ BX w' g c n l2 (takeB by_ l1) cl s (r + l1.length) ∧ KeepX w w' g c ∧ Below w0.heap.size w0 w') (fun _ w' => bufLen c w') ?_ ?_
  · exact ⟨[], l, .slice none 0 0, _, _, _, _, _, _, _, _, _, _, _, _, _, _, _, _, _, _, _, _, _, _, rfl, rfl, Kd.R_nil _ _ _ _ _, h, KeepX.refl w g c, hB⟩
  · rintro a1 w1 ⟨l1, l2, v, u4, u7, u8, u9, u10, u11, u12, u13, u14, u15, u16, u17, u18, u19, u20, u21, u22, u23, u24, u25, u26, u27, rfl, hl12, hR, hX, hK1, hB1⟩
    have hx0 := hX.c0
    refine n_block ?_
    refine n_seq_k (fun K2 hK2 => ?_)
    go_wp2
    refine n_seq_n (fun K2 hK2 => ?_)
    cases l2 with
    | nil =>
      refine n_comm (cases := #[rcase c (.string ⟨#[]⟩)]) (blocking := false) (shape := .select) (v := .tuple #[goInt (-1), .bool false, .string ⟨#[]⟩]) (w' := w1) rfl (by simp [go_sem, execOp, rcase, Act.eval]) (fun fr cs es he => step_lone_select_default (P := Try.prog) (fr := fr) (cs := cs) (w := w1) (w₁ := w1) (es := es) (c := c) (z := .string ⟨#[]⟩) he hX.2) ?_
      go_wp2
      rw [List.append_nil] at hl12
      subst hl12
      refine n_of ?_
      go_wp2
      refine n_of ?_
      go_wp2
      rw [Exit.noGoto_ret]
      go_ret
      exact ⟨v, rfl, hR, hX, hK1, hB1⟩
    | cons x l2 =>
      have hst := fun fr cs es he => step_lone_select_recv_buf (P := Try.prog) (fr := fr) (cs := cs) (w := w1) (w₁ := w1) (es := es) (c := c) (z := .string ⟨#[]⟩) he hX.2 (by simp)
      have hsz := hX.bufLen
      have hX2 := hX.got
      have hk2 := hK1.trans (keep_setChan w1 g c n ((((x :: l2).map Value.string).toArray).extract 1 (((x :: l2).map Value.string).toArray).size) false s (r + l1.length + 1) false)
      have hb2 := below_setChan hB1 hc n ((((x :: l2).map Value.string).toArray).extract 1 (((x :: l2).map Value.string).toArray).size) false s (r + l1.length + 1) false
      have hR2 := R_set (c := c) (cap := n) (buf := (((x :: l2).map Value.string).toArray).extract 1 (((x :: l2).map Value.string).toArray).size) (s := s) (r := r + l1.length + 1) hR (fun k hk => by have := blk_lt h.2; omega)
      generalize w1.setChan c n ((((x :: l2).map Value.string).toArray).extract 1 (((x :: l2).map Value.string).toArray).size) false s (r + l1.length + 1) false = w2 at hX2 hk2 hb2 hst hR2
      have hst2 : ∀ fr cs es, stepG Try.prog true (G fr cs) w1 = .comm (G fr cs) #[rcase c (.string ⟨#[]⟩)] false .select w1 es → step Try.prog (solo (G fr cs) w1) = .next (solo (G (fr.finish (.tuple #[goInt 0, .bool true, .string x])) cs) w2) := hst
      clear hst
      refine n_comm (cases := #[rcase c (.string ⟨#[]⟩)]) (blocking := false) (shape := .select) (v := .tuple #[goInt 0, .bool true, .string x]) (w' := w2) rfl (by simp [go_sem, execOp, rcase, Act.eval]) hst2 ?_
      go_wp2
      have hbound := hl12 ▸ hl
      rw [List.length_append, List.length_cons] at hbound
      have hBX := hX2
      clear hX hK1 hB1 hR hx0 hst2
      have hx1 := hX2.c1
      have hf := blk_frozen hX2.1 1
      refine n_of ?_
      go_wp2_with (first | ((with_reducible refine gate_builtin (b := .append) (xs := #[.tmp 15, .tmp 17]) rfl ?_); at_builtin; refine Kd.R_append Kd.string (w0 := w0) w0.heap.size rfl (.tmp 15) (.tmp 17) 32 9 (.string ⟨#[]⟩) 16 rfl Try.underlying32 info9 rfl (by decide) (by omega) v l1 x [.string x] (fun k => w.heap.size ≤ k) (fun _ => False) rfl rfl ?aP (fun _ hk => hk.elim) ?aF ?aO ?aB ?aS ?aL ?_; (case aP => exact rfl); (case aB => exact hb2); (case aF => exact (fun k hk => Nat.le_trans hk2.1 hk)); (case aO => exact hR2); (case aS => exact hb2.size); (case aL => omega); intro v2 w3 ho hb hgr hat; have hX3 := hX2.grown hgr (fun hq => by have := hR2.1 g hq; have := blk_lt h.1; omega) (fun hq => by have := hR2.1 c hq; have := blk_lt h.2; omega); have hk3 := hk2.grown hgr (fun k hq => (hR2.1 k hq)); have hx3 := hX3.c1; have hf3 := blk_frozen hX3.1 1; clear hX2 hk2 hb2 hR2 hx1 hf hat hgr))
      refine ⟨⟨l1 ++ [x], l2, v2, _, _, _, _, _, _, _, _, _, _, _, _, _, _, _, _, _, _, _, _, _, _, rfl, by rw [List.append_assoc]; exact hl12, Kd.R_far ho (fun k hk => by have := blk_lt h.1; show k ≠ g; omega) _, by rw [takeB_app, List.length_append]; exact hX3.setBytes _, keep_setCell hk3 1 _, below_set hb hg⟩, ?_⟩
      have e1 := (hX3.setBytes (wrap64 (takeB by_ l1 - x.size))).bufLen
      rw [e1, hsz, List.length_cons]
      omega
end Go.Proofs.Ytbedmobcaljmdaa.Bb
