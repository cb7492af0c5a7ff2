import Derived.Test.YtdcnoiofimngpaaQTx
import Derived.Test.YtdcnoiofimngpaaWc
import Derived.Test.YtdcnoiofimngpaaWr
/- WalkChunks: the walk. -/
namespace Go.Proofs.Ytdcnoiofimngpaa.Wu
open Go.RowKit Go.Proofs.Ytdcnoiofimngpaa.U Go.Proofs.Ytdcnoiofimngpaa.QT Go.Proofs.Ytdcnoiofimngpaa.Kh Go.Proofs.Ytdcnoiofimngpaa.Ki Go.Proofs.Ytdcnoiofimngpaa.Kj Go.Proofs.Ytdcnoiofimngpaa.Gc Go.Proofs.YtdcnoiofimngpaaW.PrintWords Go.Proofs.YtdcnoiofimngpaaW.PrintLast Go.Proofs.YtdcnoiofimngpaaW.PrintMore
set_option linter.unusedVariables false
set_option linter.unusedSimpArgs false
theorem rfitsT_f (s : ByteArray) : stylusref15_Fits.f s = some (fits s) := by
  unfold stylusref15_Fits.f fits
  by_cases h0 : (s.size : Int) ≥ 1
  · rw [if_pos h0]
    by_cases h1 : (s.size : Int) ≤ 16
    · rw [if_pos h1]; unfold stylusref01_Valid.f; rw [if_pos (by omega), Option.bind_some, decide_eq_true (show 1 ≤ s.size by omega), decide_eq_true (show s.size ≤ 16 by omega)]; rfl
    · rw [if_neg h1, decide_eq_false (show ¬ s.size ≤ 16 by omega)]; simp
  · rw [if_neg h0, decide_eq_false (show ¬ 1 ≤ s.size by omega)]; simp
theorem rtight_l0 (l : List ByteArray) (hl : Small l) (hn : l.length ≤ 100000) : ∀ (k i : Nat), i ≤ l.length → l.length - i < k →
    stylusref15_Tight.l0 k l i = some (snug (prev l i) (l.drop i)) := by
  intro k
  induction k with
  | zero => intro i h1 h2; omega
  | succ k ih =>
    intro i h1 h2
    rw [stylusref15_Tight.l0]
    by_cases hi : i < l.length
    · have hnx : prev l (i + 1) = some (l.getD i ByteArray.empty) := by unfold prev; rw [if_neg (by omega)]; rfl
      rw [if_pos (by omega), if_pos (by omega), rdOf_nat, rfitsT_f, Option.bind_some, getD_drop l i hi, snug, wq ((i : Int) + 1) (by omega) (by omega), show (i : Int) + 1 = ((i + 1 : Nat) : Int) by omega, ih (i + 1) (by omega) (by omega), hnx]
      have hs := small_at hl hi
      cases hf : fits (l.getD i ByteArray.empty)
      · rw [if_neg (by simp)]; simp
      · rw [if_pos rfl]
        by_cases h0 : i = 0
        · subst h0; rw [if_neg (by omega)]; simp [prev, far]
        · have hs' := small_at hl (show i - 1 < l.length by omega)
          rw [if_pos (by omega), wq ((i : Int) - 1) (by omega) (by omega), if_pos (by omega), if_pos (by omega), show (i : Int) - 1 = ((i - 1 : Nat) : Int) by omega, rdOf_nat, wq _ (by omega) (by omega)]
          unfold prev
          rw [if_neg h0]
          by_cases h16 : (l.getD (i - 1) ByteArray.empty).size + (l.getD i ByteArray.empty).size ≤ 16
          · rw [if_pos (by omega)]; simp only [far, decide_eq_false (show ¬ 16 < (l.getD (i - 1) ByteArray.empty).size + (l.getD i ByteArray.empty).size by omega)]; simp
          · rw [if_neg (by omega)]; simp only [far, decide_eq_true (show 16 < (l.getD (i - 1) ByteArray.empty).size + (l.getD i ByteArray.empty).size by omega)]; simp
    · rw [if_neg (by omega), List.drop_of_length_le (by omega)]; simp [snug]
theorem rtight_f (l : List ByteArray) (hl : Small l) (hn : l.length ≤ 100000) (k : Nat) (hk : l.length < k) : stylusref15_Tight.f k l = some (snug none l) := by
  unfold stylusref15_Tight.f
  have h := rtight_l0 l hl hn k 0 (by omega) (by omega)
  rw [show ((0 : Nat) : Int) = 0 from rfl, List.drop_zero] at h
  exact h
end Go.Proofs.Ytdcnoiofimngpaa.Wu
/- the walk -/
namespace Go.Proofs.Ytdcnoiofimngpaa.Wt
open Go.RowKit Go.Shelf Go.Proofs.Ytdcnoiofimngpaa.U Go.Proofs.Ytdcnoiofimngpaa.QK Go.Proofs.Ytdcnoiofimngpaa.QT Go.Proofs.Ytdcnoiofimngpaa.Kt Go.Proofs.Ytdcnoiofimngpaa.Kc Go.Proofs.Ytdcnoiofimngpaa.Kd_ Go.Proofs.Ytdcnoiofimngpaa.Ke Go.Proofs.Ytdcnoiofimngpaa.Kf Go.Proofs.Ytdcnoiofimngpaa.Kh Go.Proofs.Ytdcnoiofimngpaa.Ki Go.Proofs.Ytdcnoiofimngpaa.Kj Go.Proofs.Ytdcnoiofimngpaa.Kk Go.Proofs.Ytdcnoiofimngpaa.Gs Go.Proofs.Ytdcnoiofimngpaa.Gt Go.Proofs.Ytdcnoiofimngpaa.Gr Go.Proofs.Ytdcnoiofimngpaa.Gv Go.Proofs.Ytdcnoiofimngpaa.Wl Go.Proofs.Ytdcnoiofimngpaa.Wc Go.Proofs.Ytdcnoiofimngpaa.Wv Go.Proofs.YtdcnoiofimngpaaW.PrintWords Go.Proofs.YtdcnoiofimngpaaW.PrintLast Go.Proofs.YtdcnoiofimngpaaW.PrintMore
set_option linter.unusedVariables false
set_option linter.unusedSimpArgs false
attribute [local go_sem] Oper.semAt_some
set_option maxHeartbeats 2000000 in
set_option maxRecDepth 100000 in
theorem early (w : World) (s : ByteArray) (h : 1500 < s.size ∨ s.size ≤ 1500 ∧ Sp.valid (ld s) = false) : CallsIn Fence.wide 9 Try.prog 8 #[.string s] w fun e w' => e = .returned (.bool true) ∧ Below w.heap.size w w' := by
  have HLV := Aside0.mk lives20
  have hb0 := Aside0.mk (Boxed.new w 4 (.bool false))
  have hB0 : Aside0 (Below w.heap.size w (w.alloc (.cells #[.bool false] 4))) := ⟨(Below.refl _ w).alloc (Nat.le_refl _) _⟩
  rcases h with c1 | ⟨c0, c1⟩
  · have d1 : decide (1500 < s.size) = true := decide_eq_true c1
    have d2 : decide (1500 < (s.size : Int)) = true := decide_eq_true (by omega)
    clear c1
    refine callsIn_of_wp_marks Try.func8 rfl trivial ?_ rfl
    simp only [Try.ntmps8, List.size_toArray, List.length_cons, List.length_nil, Nat.reduceAdd, Nat.reduceSub, Array.replicate_succ, Array.replicate_zero, List.push_toArray, List.append_toArray, List.nil_append, List.cons_append]
    refine wpIn_wide.2 ?_
    go_wp2_with (go_at_call 28; (with_reducible refine (HLV.out _).mono ?_); rintro e w1 ⟨rfl, hb⟩; have bx : Aside0 (Boxed w1 w.heap.size 4 (.bool false)) := ⟨(hb.block _ hb0.out.lt).trans hb0.out⟩; have hc1 := bx.out.cell; have hf1 := bx.out.frozen; have HB := Aside0.mk hb; clear hb)
    have hc5 := (bx.out.set (.bool true)).cell
    refine ⟨.bool true, ?_, rfl, ?_⟩
    · simp [results, Try.f8, go_sem, hc5]
    · exact (hB0.out.trans (HB.out.mono hB0.out.size)).setCell (p := ⟨w.heap.size, 0, none⟩) (Nat.le_refl _) _
  · have d1 : decide (1500 < s.size) = false := decide_eq_false (by omega)
    have d2 : decide (1500 < (s.size : Int)) = false := decide_eq_false (by omega)
    have HVA : Aside0 (∀ W, Calls Try.prog 11 #[.string s] W fun e w' => e = .returned (.bool false) ∧ Below W.heap.size W w') := ⟨fun W => by
      have := stylusref01_Valid.calls s _ W (by unfold stylusref01_Valid.f; rw [if_pos (by omega)])
      rw [c1] at this
      exact this⟩
    clear c0 c1
    refine callsIn_of_wp_marks Try.func8 rfl trivial ?_ rfl
    simp only [Try.ntmps8, List.size_toArray, List.length_cons, List.length_nil, Nat.reduceAdd, Nat.reduceSub, Array.replicate_succ, Array.replicate_zero, List.push_toArray, List.append_toArray, List.nil_append, List.cons_append]
    refine wpIn_wide.2 ?_
    go_wp2_with (first
      | (go_at_call 11; (with_reducible refine (HVA.out _).mono ?_); rintro e w1 ⟨rfl, hb⟩; have HB1 := Aside0.mk hb; clear hb)
      | (go_at_call 28; (with_reducible refine (HLV.out _).mono ?_); rintro e w2 ⟨rfl, hb⟩; have bx : Aside0 (Boxed w2 w.heap.size 4 (.bool false)) := ⟨(hb.block _ (by have := hb0.out.lt; have := HB1.out.size; omega)).trans ((HB1.out.block _ hb0.out.lt).trans hb0.out)⟩; have hc1 := bx.out.cell; have hf1 := bx.out.frozen; have HB := Aside0.mk (below_step HB1.out hb); clear hb))
    have hc5 := (bx.out.set (.bool true)).cell
    refine ⟨.bool true, ?_, rfl, ?_⟩
    · simp [results, Try.f8, go_sem, hc5]
    · exact (hB0.out.trans (HB.out.mono hB0.out.size)).setCell (p := ⟨w.heap.size, 0, none⟩) (Nat.le_refl _) _
theorem neq_nil (w : World) (f : Fn) (a c : Array Value) : (binOp BinOp.neq 62 (.func f a c) .nilFunc).run Try.prog w = .ok (.bool true) w := by
  have hu := Try.underlying62
  have e : Op.maxDepth = 9999 + 1 := rfl
  have h : (Op.equal 62 (.func f a c) .nilFunc).run Try.prog w = .ok false w := by
    unfold Op.equal
    rw [e, Op.equalIn]
    simp [Sem.run_bind, run_underlying hu]
  simp [binOp, h]
theorem chunks_plain (g : Nat) (w : World) : Calls Try.prog 37 #[.pointer (some ⟨g, 0, none⟩)] w fun e w' => e = .returned (.func (.func 64) #[] #[.pointer (some ⟨w.heap.size, 0, none⟩)]) ∧ w' = w.alloc (.cells #[.pointer (some ⟨g, 0, none⟩)] 24) := callsIn_wide.1 (chunks_calls g 3 w)
theorem info9 : (Try.prog.info? 9).map (fun i => (i.zero, i.size, i.bytes)) = some (some (.string ⟨#[]⟩), 1, 16) := by kernel_rfl
def chunkAt (C : List ByteArray) (k : Nat) : ByteArray := C.getD k ⟨#[]⟩
/-- what Of answers for a valid text, with its cut -/
def OfPost2 (w : World) (s : ByteArray) (e : Ending) (w' : World) : Prop := ∃ g p t C, e = .returned (.tuple #[.pointer (some ⟨g, 0, none⟩), .int .i64 0]) ∧ Rope w' g p t C ∧ Gt.IsCut s C ∧ Below w.heap.size w w'
theorem of2_calls (w : World) (s : ByteArray) (hs : s.size ≤ 1500) (hv : Sp.valid (ld s) = true) : Calls Try.prog 13 #[.string s] w (OfPost2 w s) := by
  obtain ⟨C, hC⟩ := cut_of s (by omega) hv
  have hl := hC.len
  refine (rope_calls w s C (by omega) hv hC).mono fun e w' ⟨g, p, h1, h2, h3, h4⟩ => ⟨g, p, tree C, C, h1, ⟨h2, h3, ?_, tree_chunks hC.fits (by omega), fun j => ?_, by omega⟩, hC, h4⟩
  · by_cases h0 : C.length = 0
    · left
      obtain rfl := List.eq_nil_of_length_eq_zero h0
      unfold tree; rw [List.map_nil, upT_nil]
    · exact .inr (tree_fine hC.fits (by omega) h0)
  · rw [kt_cat, hC.cat_]
    have := Gq.kf_le j s
    omega
theorem whole_g (l : List ByteArray) (hn : l.length ≤ 2000) (hs : ∀ s ∈ l, s.size ≤ 16) : stylusref15_Whole.f 3000 l = some (cat l) := by
  unfold stylusref15_Whole.f
  have hc := cat_size_le l hs
  have h := whole_l l (by omega) 3000 0 ⟨#[]⟩ (by omega) (by omega) (by rw [List.drop_zero]; show 0 + _ ≤ _; omega)
  rw [List.drop_zero] at h
  rw [show (0 : Int) = ((0 : Nat) : Int) from rfl, h]
  first | (congr 1; done) | (congr 1; apply ld_ext; simp [ld])
/-- what lies between two rounds: k chunks are taken -/
structure Sc (w w2 : World) (g br bl bn : Nat) (C : List ByteArray) (k : Nat) (v : Value) (W : World) : Prop where
  bo : Boxed W w.heap.size 4 (.bool false)
  br : Boxed W br 24 (.pointer (some ⟨g, 0, none⟩))
  bl : Boxed W bl 48 v
  bn : Boxed W bn 3 (.int .i64 (pos C k))
  o : W.ownsRow w2.heap.size 9 1 v k (encs Value.string (C.take k))
  b : Below w.heap.size w W
  b2 : Below w2.heap.size w2 W
theorem Sc.firm {w w2 : World} {g br bl bn B : Nat} {C : List ByteArray} (h0 : w.heap.size < B) (h1 : br < B) (h2 : bl < B) (h3 : bn < B) (h4 : w2.heap.size ≤ B) (k : Nat) : Firm B (fun W => ∃ v, Sc w w2 g br bl bn C k v W) := by
  refine Firm.ex fun v A A' row hs hg hr => ?_
  exact ⟨Firm.boxed h0 A A' row hs.bo hg hr, Firm.boxed h1 A A' row hs.br hg hr, Firm.boxed h2 A A' row hs.bl hg hr, Firm.boxed h3 A A' row hs.bn hg hr, Firm.row (by decide) A A' row hs.o hg hr, Firm.below (Nat.le_refl _) (by omega) A A' row hs.b hg hr, Firm.below (Nat.le_refl _) h4 A A' row hs.b2 hg hr⟩
theorem Sc.start {w w2 Wt : World} {g br bl bn : Nat} {C : List ByteArray} (bo : Boxed Wt w.heap.size 4 (.bool false)) (hbr : Boxed Wt br 24 (.pointer (some ⟨g, 0, none⟩))) (b : Below w.heap.size w Wt) (b2 : Below w2.heap.size w2 Wt) (e1 : bl = Wt.heap.size) (e2 : bn = Wt.heap.size + 1) :
    Sc w w2 g br bl bn C 0 (.slice none 0 0) ((Wt.alloc (.cells #[.slice none 0 0] 48)).alloc (.cells #[.int .i64 0] 3)) := by
  subst e1
  subst e2
  have q1 := Boxed.new Wt 48 (.slice none 0 0)
  have q2 := Boxed.new (Wt.alloc (.cells #[.slice none 0 0] 48)) 3 (.int .i64 0)
  rw [World.size_alloc] at q2
  have h1 := b.size
  have h2 := b2.size
  exact ⟨(bo.alloc _).alloc _, (hbr.alloc _).alloc _, q1.alloc _, q2, World.ownsRow_nil _ _ _ _, (b.alloc h1 _).alloc (by simp; omega) _, (b2.alloc h2 _).alloc (by simp; omega) _⟩
theorem Sc.next {w w2 W w1 : World} {g br bl bn B : Nat} {C : List ByteArray} {k : Nat} {v v' : Value} {tmp : Obj} (hs : Sc w w2 g br bl bn C k v W) (h0 : w.heap.size < w2.heap.size) (h1 : w2.heap.size ≤ bl) (h2 : br < bl) (h3 : bl < bn) (h4 : bn < B)
    (hown : w1.ownsRow w2.heap.size 9 1 v' (k + 1) (encs Value.string (C.take (k + 1)))) (hg : (W.alloc tmp).grownBy w1 v.ownBlock) :
    Boxed w1 bl 48 v ∧ Boxed (w1.setCell ⟨bl, 0, none⟩ v') bn 3 (.int .i64 (pos C k)) ∧
    KeepsOthers W ((w1.setCell ⟨bl, 0, none⟩ v').setCell ⟨bn, 0, none⟩ (.int .i64 (pos C (k + 1)))) ∧ Kp w2.heap.size B br W ((w1.setCell ⟨bl, 0, none⟩ v').setCell ⟨bn, 0, none⟩ (.int .i64 (pos C (k + 1)))) ∧ ∃ u, Sc w w2 g br bl bn C (k + 1) u ((w1.setCell ⟨bl, 0, none⟩ v').setCell ⟨bn, 0, none⟩ (.int .i64 (pos C (k + 1)))) := by
  have hlt := hs.bn.lt
  have hlw := hs.b2.size
  obtain ⟨a1, a2, a3, a4, a5⟩ := hs.bl.appended (by decide) hs.o hlw (by omega) hown hg
  have z0 := ((hs.bo.alloc tmp).kept hg ((hs.bo.alloc tmp).not_row (by decide) (hs.o.alloc tmp)))
  have z1 := ((hs.br.alloc tmp).kept hg ((hs.br.alloc tmp).not_row (by decide) (hs.o.alloc tmp)))
  have z2 := ((hs.bn.alloc tmp).kept hg ((hs.bn.alloc tmp).not_row (by decide) (hs.o.alloc tmp)))
  have y2 : Boxed (w1.setCell ⟨bl, 0, none⟩ v') bn 3 (.int .i64 (pos C k)) := box_other z2 (by omega)
  have hb : Below w.heap.size w (w1.setCell ⟨bl, 0, none⟩ v') := hs.b.trans (a5.mono (by omega))
  refine ⟨a1, y2, a4.trans (KeepsOthers.setCell _ _ _), ?_, v', ⟨box_other (box_other z0 (by omega)) (by omega), box_other (box_other z1 (by omega)) (by omega), box_other a2 (by omega), y2.set _, ?_, ?_, ?_⟩⟩
  · refine (Kp.alloc W tmp hlw).trans (Kp.trans ?_ ((Kp.set v' a1 (.inl (by omega)) (by omega) (by omega)).trans (Kp.set _ y2 (.inl h4) (by omega) (by omega))))
    exact Kp.row (hs.o.alloc tmp) hg (by decide) (by simp; omega) (hs.br.alloc tmp) (by decide)
  · exact a3.kept (grownBy_setCell' _ _ _) (.inr (y2.not_row (by decide) a3).symm)
  · exact hb.setCell (p := ⟨bn, 0, none⟩) (by show w.heap.size ≤ bn; omega) _
  · exact (hs.b2.trans a5).setCell (p := ⟨bn, 0, none⟩) (by show w2.heap.size ≤ bn; omega) _
set_option maxHeartbeats 8000000 in
set_option maxRecDepth 100000 in
theorem late (w : World) (s : ByteArray) (hs : s.size ≤ 1500) (hv : Sp.valid (ld s) = true) : CallsIn Fence.wide 9 Try.prog 8 #[.string s] w fun e w' => e = .returned (.bool true) ∧ Below w.heap.size w w' := by
  have HLV := Aside0.mk lives20
  have hb0 := Aside0.mk (Boxed.new w 4 (.bool false))
  have hB0 : Aside0 (Below w.heap.size w (w.alloc (.cells #[.bool false] 4))) := ⟨(Below.refl _ w).alloc (Nat.le_refl _) _⟩
  have d1 : decide (1500 < s.size) = false := decide_eq_false (by omega)
  have d2 : decide (1500 < (s.size : Int)) = false := decide_eq_false (by omega)
  have HVA : Aside0 (∀ W, Calls Try.prog 11 #[.string s] W fun e w' => e = .returned (.bool true) ∧ Below W.heap.size W w') := ⟨fun W => by
    have := stylusref01_Valid.calls s _ W (by unfold stylusref01_Valid.f; rw [if_pos (by omega)])
    rw [hv] at this
    exact this⟩
  have HO : Aside0 (∀ W, Calls Try.prog 13 #[.string s] W (OfPost2 W s)) := ⟨fun W => of2_calls W s hs hv⟩
  have hnn := neq_nil
  refine callsIn_of_wp_marks Try.func8 rfl trivial ?_ rfl
  simp only [Try.ntmps8, List.size_toArray, List.length_cons, List.length_nil, Nat.reduceAdd, Nat.reduceSub, Array.replicate_succ, Array.replicate_zero, List.push_toArray, List.append_toArray, List.nil_append, List.cons_append]
  refine wpIn_wide.2 ?_
  go_wp2_with (first
    | (go_at_call 11; (with_reducible refine (HVA.out _).mono ?_); rintro e w1 ⟨rfl, hb⟩; have bx : Aside0 (Boxed w1 w.heap.size 4 (.bool false)) := ⟨(hb.block _ hb0.out.lt).trans hb0.out⟩; have HB : Aside0 (Below w.heap.size w w1) := ⟨hB0.out.trans (hb.mono hB0.out.size)⟩; clear hb HVA)
    | (go_at_call 13; (with_reducible refine (HO.out _).mono ?_); rintro e w2 ⟨g, p, t, C, rfl, hR, hc, hb⟩; have HR := Aside0.mk hR; have HCC := Aside0.mk hc; have bx2 : Aside0 (Boxed w2 w.heap.size 4 (.bool false)) := ⟨(hb.block _ bx.out.lt).trans bx.out⟩; have HB2 : Aside0 (Below w.heap.size w w2) := ⟨HB.out.trans (hb.mono HB.out.size)⟩; clear bx HB hR hc hb HO; have bx := bx2; have HB := HB2; clear bx2 HB2)
    | (go_at_call 37; (with_reducible refine (chunks_plain _ _).mono ?_); rintro e w3 ⟨rfl, rfl⟩))
  refine wp_loop_rounds 3 ?_
  rw [rounds_succ]
  go_wp2
  refine (wpIn_wide (n := 9)).1 ?_
  have bo_1 : Boxed (w2.alloc (Obj.cells #[Value.pointer (some { block := g, off := 0 })] 24)) w.heap.size 4 (.bool false) := bx.out.alloc _
  have br_1 : Boxed (w2.alloc (Obj.cells #[Value.pointer (some { block := g, off := 0 })] 24)) w2.heap.size 24 (.pointer (some ⟨g, 0, none⟩)) := Boxed.new _ _ _
  have b_1 : Below w.heap.size w (w2.alloc (Obj.cells #[Value.pointer (some { block := g, off := 0 })] 24)) := HB.out.alloc HB.out.size _
  have b2_1 : Below w2.heap.size w2 (w2.alloc (Obj.cells #[Value.pointer (some { block := g, off := 0 })] 24)) := (Below.refl _ _).alloc (Nat.le_refl _) _
  have hww : w.heap.size < w2.heap.size := bx.out.lt
  have hs0 := HR.out.s 0
  have HPS : Aside0 (∀ k, k ≤ C.length → pos C k ≤ 5000 ∧ 0 ≤ pos C k) := ⟨fun k hk => by
    have e : kt 0 C = kt 0 (C.take k) + kt 0 (C.drop k) := by rw [← kt_app, List.take_append_drop]
    have := kt_nonneg 0 (C.drop k)
    have := kt_nonneg 0 (C.take k)
    unfold pos
    omega⟩
  have HLC : Aside0 (C.length ≤ 1500) := ⟨by have := HCC.out.len; omega⟩
  have HWF : Aside0 (stylusref15_Whole.f 3000 C = some s) := ⟨by have := HCC.out.len; have h := whole_g C (by omega) (fun x hx => (fits_spec (HCC.out.fits x hx)).2.1); rw [HCC.out.cat_] at h; exact h⟩
  have HTF : Aside0 (stylusref15_Tight.f 3000 C = some true) := ⟨by have := HCC.out.len; rw [Wu.rtight_f C (fun x hx => by have := (fits_spec (HCC.out.fits x hx)).2.1; omega) (by omega) 3000 (by omega), HCC.out.snug_]⟩
  obtain ⟨i0, hi, hz0, hz1, hz2⟩ := info_parts info9
  obtain ⟨W0_1, hW0_1⟩ : ∃ W0, (((w2.alloc (Obj.cells #[Value.pointer (some { block := g, off := 0 })] 24)).alloc (Obj.cells #[Value.slice none 0 0] 48)).alloc (Obj.cells #[Value.int IntKind.i64 0] 3)) = W0 := ⟨_, rfl⟩
  have s0_1 : Sc w w2 g w2.heap.size (w2.heap.size + 1) (w2.heap.size + 1 + 1) C 0 (.slice none 0 0) W0_1 := by rw [← hW0_1]; exact Sc.start bo_1 br_1 b_1 b2_1 (by simp) (by simp)
  have hsz_1 : W0_1.heap.size = (w2.heap.size + 1 + 1) + 1 := by rw [← hW0_1]; simp
  rw [hW0_1]
  refine range_law rfl (by omega) (gf := 64) (lb := #[.pointer (some ⟨w2.heap.size, 0, none⟩)]) rfl trivial (enters_of Try.func64 (by kernel_rfl) rfl)
    (chunks1_seq HR.out 8 ((w2.heap.size + 1 + 1) + 1) (w2.heap.size) W0_1 (by omega) s0_1.b2 s0_1.br) (fun _ => rfl) (fun h k => h.trans k) (fun W l o o' h1 h2 h3 => Kp.put o' h2 h3 (by have := s0_1.b2.size; omega) (by have := s0_1.br.lt; omega))
    (fun k W => ∃ v, Sc w w2 g w2.heap.size (w2.heap.size + 1) (w2.heap.size + 1 + 1) C k v W) (fun _ _ _ => False)
    (fun k => Sc.firm (by have := s0_1.bo.lt; omega) (by have := s0_1.br.lt; omega) (by have := s0_1.bl.lt; omega) (by have := s0_1.bn.lt; omega) s0_1.b2.size k)
    (fun _ _ _ _ _ hs _ _ => hs) ⟨_, s0_1⟩ ?a1_1 ?assign_1 ?body_1 ?done_1 ?stop_1
  case assign_1 =>
    intro l k W K hK
    simp only [chunkE]
    rw [show C.getD k ⟨#[]⟩ = chunkAt C k from rfl]
    gi_wp2
    exact hK
  case body_1 =>
    rintro l k W hk ⟨v, hs⟩
    obtain ⟨A_, cp, rfl⟩ := own_slice hs.o
    have hcl := hs.bl.cell
    have hcn := hs.bn.cell
    have hkd : decide (1500 < k) = false := decide_eq_false (by have := HLC.out; omega)
    have hkd2 : decide (1500 < (k : Int)) = false := decide_eq_false (by have := HLC.out; omega)
    have hrow := hs.o
    obtain ⟨sk, hsk0⟩ : ∃ z, chunkAt C k = z := ⟨_, rfl⟩
    have hsk : C.getD k ⟨#[]⟩ = sk := hsk0
    have htk : encs Value.string (C.take (k + 1)) = encs Value.string (C.take k) ++ [.string sk] := by
      rw [List.take_succ_eq_append_getElem hk, encs_append, ← hsk, List.getD_eq_getElem?_getD, List.getElem?_eq_getElem hk]; rfl
    have hpn := pos_next C k hk
    rw [hsk] at hpn
    have hp5 := HPS.out (k + 1) (by omega)
    have hp6 := HPS.out k (by omega)
    have hwp : wrap64 (pos C k + (sk.size : Int)) = pos C (k + 1) := by rw [hpn]; unfold wrap64; omega
    have HLC2 := HLC.out
    have hs2 := hs.b2.size
    rw [hsk0]
    clear hsk hsk0
    gi_wp2_with (gi_at_builtin; refine wpListIn_append_own _ rfl _ _ 48 rfl w2.heap.size 9 i0 (.string ⟨#[]⟩) 1 16 Try.underlying48 hi hz0 hz1 hz2 rfl (by decide) _ _ _ rfl (hrow.alloc _) ⟨W.heap.size, 0, none⟩ 1 1 [.string sk] rfl rfl (cell_one_new _ _ _) (by simp [Value.oneCell']) (by simp only [maxLen]; omega) (by omega) (by rw [World.size_alloc]; omega) ?_; intro v' w1 hown' hgrow _; obtain ⟨g', cap', rfl⟩ := ownsRow_succ hown'; rw [← htk] at hown'; obtain ⟨hk0, hk1, hk2, hk3, hk4⟩ := hs.next (B := (w2.heap.size + 1 + 1) + 1) (by omega) (by omega) (by omega) (by omega) (by omega) hown' hgrow; have hc1 := hk0.cell; have hf1 := hk0.frozen; have hc2 := hk1.cell; have hf2 := hk1.frozen)
    rw [← hpn]
    exact ⟨hk2, hk3, hk4⟩
  case done_1 =>
    rintro D_1 Wd_1 hD_1 ⟨v_1, hs_1⟩ hK_1
    have ho_1 := hs_1.o
    rw [List.take_length] at ho_1
    obtain ⟨A_1, cp_1, rfl, hcp_1, hrd_1⟩ := own_reads_of_le (d := ByteArray.empty) ho_1
    have HC_1 := Aside0.mk (Kd.C_of_reads (h1 := fun _ => rfl) hrd_1)
    have HWH_1 : Aside0 (Calls Try.prog 38 #[.slice A_1 C.length cp_1] Wd_1 fun e w' => e = .returned (.string s) ∧ Drawn0 Wd_1 w') := ⟨stylusref15_Whole.calls 3000 A_1 cp_1 C s Wd_1 HC_1.out hcp_1 HWF.out⟩
    have HTI_1 : Aside0 (∀ W, Below Wd_1.heap.size Wd_1 W → Calls Try.prog 39 #[.slice A_1 C.length cp_1] W fun e w' => e = .returned (.bool true) ∧ Below W.heap.size W w') := ⟨fun W hb => stylusref15_Tight.calls 3000 A_1 cp_1 C true W (Kd.C_below HC_1.out hb) hcp_1 HTF.out⟩
    have hcl_1 := hs_1.bl.cell
    have HS_1 := Aside0.mk hs_1
    have HK_1 := Aside0.mk hK_1
    have HD_1 := Aside0.mk hD_1
    clear ho_1 hrd_1 hs_1 hK_1 hcp_1
    go_wp2_with (first
      | (go_at_call 38; (with_reducible refine HWH_1.out.mono ?_); rintro e w5_1 ⟨rfl, hb⟩; have HBT_1 := Aside0.mk hb.below; have hcl2_1 := (hb.below.cell (World.block_lt_of_cell? _ _ hcl_1)).trans hcl_1; clear hb)
      | (go_at_call 39; (with_reducible refine (HTI_1.out _ HBT_1.out).mono ?_); rintro e w6_1 ⟨rfl, hb⟩; have HBU_1 := Aside0.mk (below_step HBT_1.out hb); clear hb HBT_1))
    rw [rounds_succ]
    go_wp2
    refine (wpIn_wide (n := 9)).1 ?_
    have bo_2 : Boxed w6_1 w.heap.size 4 (.bool false) := (HBU_1.out.block _ HS_1.out.bo.lt).trans HS_1.out.bo
    have br_2 : Boxed w6_1 w2.heap.size 24 (.pointer (some ⟨g, 0, none⟩)) := (HBU_1.out.block _ HS_1.out.br.lt).trans HS_1.out.br
    have b_2 : Below w.heap.size w w6_1 := HS_1.out.b.trans (HBU_1.out.mono HS_1.out.b.size)
    have b2_2 : Below w6_1.heap.size w6_1 w6_1 := Below.refl _ _
    have hr_2 : Below w2.heap.size w2 w6_1 := HS_1.out.b2.trans (HBU_1.out.mono HS_1.out.b2.size)
    have HR_2 : Rope w6_1 g p t C := ⟨blk_below HR.out.r hr_2, HR.out.d.below hr_2, HR.out.f, HR.out.c, HR.out.s, HR.out.l⟩
    have hlt_2 := br_2.lt
    obtain ⟨W0_2, hW0_2⟩ : ∃ W0, ((w6_1.alloc (Obj.cells #[Value.slice none 0 0] 48)).alloc (Obj.cells #[Value.int IntKind.i64 0] 3)) = W0 := ⟨_, rfl⟩
    have s0_2 : Sc w w6_1 g w2.heap.size w6_1.heap.size (w6_1.heap.size + 1) C 0 (.slice none 0 0) W0_2 := by rw [← hW0_2]; exact Sc.start bo_2 br_2 b_2 b2_2 (by simp) (by simp)
    have hsz_2 : W0_2.heap.size = (w6_1.heap.size + 1) + 1 := by rw [← hW0_2]; simp
    rw [hW0_2]
    refine range_law rfl (by omega) (gf := 64) (lb := #[.pointer (some ⟨w2.heap.size, 0, none⟩)]) rfl trivial (enters_of Try.func64 (by kernel_rfl) rfl)
      (chunks1_seq HR_2 8 ((w6_1.heap.size + 1) + 1) (w2.heap.size) W0_2 (by omega) s0_2.b2 s0_2.br) (fun _ => rfl) (fun h k => h.trans k) (fun W l o o' h1 h2 h3 => Kp.put o' h2 h3 (by have := s0_2.b2.size; omega) (by have := s0_2.br.lt; omega))
      (fun k W => ∃ v, Sc w w6_1 g w2.heap.size w6_1.heap.size (w6_1.heap.size + 1) C k v W) (fun _ _ _ => False)
      (fun k => Sc.firm (by have := s0_2.bo.lt; omega) (by have := s0_2.br.lt; omega) (by have := s0_2.bl.lt; omega) (by have := s0_2.bn.lt; omega) s0_2.b2.size k)
      (fun _ _ _ _ _ hs _ _ => hs) ⟨_, s0_2⟩ ?a1_2 ?assign_2 ?body_2 ?done_2 ?stop_2
    case assign_2 =>
      intro l k W K hK
      simp only [chunkE]
      rw [show C.getD k ⟨#[]⟩ = chunkAt C k from rfl]
      gi_wp2
      exact hK
    case body_2 =>
      rintro l k W hk ⟨v, hs⟩
      obtain ⟨A_, cp, rfl⟩ := own_slice hs.o
      have hcl := hs.bl.cell
      have hcn := hs.bn.cell
      have hkd : decide (1500 < k) = false := decide_eq_false (by have := HLC.out; omega)
      have hkd2 : decide (1500 < (k : Int)) = false := decide_eq_false (by have := HLC.out; omega)
      have hrow := hs.o
      obtain ⟨sk, hsk0⟩ : ∃ z, chunkAt C k = z := ⟨_, rfl⟩
      have hsk : C.getD k ⟨#[]⟩ = sk := hsk0
      have htk : encs Value.string (C.take (k + 1)) = encs Value.string (C.take k) ++ [.string sk] := by
        rw [List.take_succ_eq_append_getElem hk, encs_append, ← hsk, List.getD_eq_getElem?_getD, List.getElem?_eq_getElem hk]; rfl
      have hpn := pos_next C k hk
      rw [hsk] at hpn
      have hp5 := HPS.out (k + 1) (by omega)
      have hp6 := HPS.out k (by omega)
      have hwp : wrap64 (pos C k + (sk.size : Int)) = pos C (k + 1) := by rw [hpn]; unfold wrap64; omega
      have HLC2 := HLC.out
      have hs2 := hs.b2.size
      rw [hsk0]
      clear hsk hsk0
      gi_wp2_with (gi_at_builtin; refine wpListIn_append_own _ rfl _ _ 48 rfl w6_1.heap.size 9 i0 (.string ⟨#[]⟩) 1 16 Try.underlying48 hi hz0 hz1 hz2 rfl (by decide) _ _ _ rfl (hrow.alloc _) ⟨W.heap.size, 0, none⟩ 1 1 [.string sk] rfl rfl (cell_one_new _ _ _) (by simp [Value.oneCell']) (by simp only [maxLen]; omega) (by omega) (by rw [World.size_alloc]; omega) ?_; intro v' w1 hown' hgrow _; obtain ⟨g', cap', rfl⟩ := ownsRow_succ hown'; rw [← htk] at hown'; obtain ⟨hk0, hk1, hk2, hk3, hk4⟩ := hs.next (B := (w6_1.heap.size + 1) + 1) (by omega) (by omega) (by omega) (by omega) (by omega) hown' hgrow; have hc1 := hk0.cell; have hf1 := hk0.frozen; have hc2 := hk1.cell; have hf2 := hk1.frozen)
      rw [← hpn]
      exact ⟨hk2, hk3, hk4⟩
    case done_2 =>
      rintro D_2 Wd_2 hD_2 ⟨v_2, hs_2⟩ hK_2
      have ho_2 := hs_2.o
      rw [List.take_length] at ho_2
      obtain ⟨A_2, cp_2, rfl, hcp_2, hrd_2⟩ := own_reads_of_le (d := ByteArray.empty) ho_2
      have HC_2 := Aside0.mk (Kd.C_of_reads (h1 := fun _ => rfl) hrd_2)
      have HWH_2 : Aside0 (Calls Try.prog 38 #[.slice A_2 C.length cp_2] Wd_2 fun e w' => e = .returned (.string s) ∧ Drawn0 Wd_2 w') := ⟨stylusref15_Whole.calls 3000 A_2 cp_2 C s Wd_2 HC_2.out hcp_2 HWF.out⟩
      have HTI_2 : Aside0 (∀ W, Below Wd_2.heap.size Wd_2 W → Calls Try.prog 39 #[.slice A_2 C.length cp_2] W fun e w' => e = .returned (.bool true) ∧ Below W.heap.size W w') := ⟨fun W hb => stylusref15_Tight.calls 3000 A_2 cp_2 C true W (Kd.C_below HC_2.out hb) hcp_2 HTF.out⟩
      have hcl_2 := hs_2.bl.cell
      have HS_2 := Aside0.mk hs_2
      have HK_2 := Aside0.mk hK_2
      have HD_2 := Aside0.mk hD_2
      clear ho_2 hrd_2 hs_2 hK_2 hcp_2
      go_wp2_with (first
        | (go_at_call 38; (with_reducible refine HWH_2.out.mono ?_); rintro e w5_2 ⟨rfl, hb⟩; have HBT_2 := Aside0.mk hb.below; have hcl2_2 := (hb.below.cell (World.block_lt_of_cell? _ _ hcl_2)).trans hcl_2; clear hb)
        | (go_at_call 39; (with_reducible refine (HTI_2.out _ HBT_2.out).mono ?_); rintro e w6_2 ⟨rfl, hb⟩; have HBU_2 := Aside0.mk (below_step HBT_2.out hb); clear hb HBT_2))
      rw [rounds_succ]
      go_wp2_with (go_at_call 28; (with_reducible refine (HLV.out _).mono ?_); rintro e w7 ⟨rfl, hb⟩; have bx7 : Aside0 (Boxed w7 w.heap.size 4 (.bool false)) := ⟨(hb.block _ (by have := HS_2.out.bo.lt; have := HBU_2.out.size; omega)).trans ((HBU_2.out.block _ HS_2.out.bo.lt).trans HS_2.out.bo)⟩; have hc7 := bx7.out.cell; have hf7 := bx7.out.frozen; have HB7 := Aside0.mk (below_step HBU_2.out hb); clear hb)
      have hlt1 := lt_of_at HK_1.out
      have hlt2 := lt_of_at HK_2.out
      have hs1 := HBU_1.out.size
      have hd1 := HD_1.out
      have hd2 := HD_2.out
      rw [hsz_1] at hd1
      rw [hsz_2] at hd2
      have k2 : (w7.setCell ⟨w.heap.size, 0, none⟩ (.bool true)).heap[D_2]? = some (.deferred (some [])) := (Below.heap_setCell _ _ _ _ (by show D_2 ≠ w.heap.size; omega)).trans ((HB7.out.block _ hlt2).trans HK_2.out)
      have k1' : Wd_2.heap[D_1]? = some (.deferred (some [])) := (HS_2.out.b2.block _ (by omega)).trans ((HBU_1.out.block _ hlt1).trans HK_1.out)
      have k1 : ((w7.setCell ⟨w.heap.size, 0, none⟩ (.bool true)).putObj D_2 (.deferred none)).heap[D_1]? = some (.deferred (some [])) := (World.putObj_heap_other (by omega)).trans ((Below.heap_setCell _ _ _ _ (by show D_1 ≠ w.heap.size; omega)).trans ((HB7.out.block _ (lt_of_at k1')).trans k1'))
      have b8 := (bx7.out.set (.bool true)).kept (grownBy_putObj' _ D_2 (.deferred none)) (fun e => by cases e; omega)
      have b9 := (b8.kept (grownBy_putObj' _ D_1 (.deferred none)) (fun e => by cases e; omega)).cell
      have bl7 : Below w.heap.size w w7 := HS_2.out.b.trans (HB7.out.mono HS_2.out.b.size)
      have bl8 : Below w.heap.size w (w7.setCell ⟨w.heap.size, 0, none⟩ (.bool true)) := bl7.setCell (p := ⟨w.heap.size, 0, none⟩) (Nat.le_refl _) _
      have bl9 := (bl8.grown (grownBy_putObj' _ D_2 (.deferred none)) bl8.size (fun k e => by cases e; omega))
      have bl10 := (bl9.grown (grownBy_putObj' _ D_1 (.deferred none)) bl9.size (fun k e => by cases e; omega))
      refine ⟨by simp, .inl ⟨_, _, rfl, run_takeDeferred (ds := []) k2, ?_⟩⟩
      refine ⟨by simp, .inl ⟨_, _, rfl, run_takeDeferred (ds := []) k1, ?_⟩⟩
      refine ⟨.bool true, ?_, rfl, bl10⟩
      simp [results, Try.f8, go_sem, b9]
    case stop_2 =>
      rintro D c k W _ h _
      exact h.elim
  case stop_1 =>
    rintro D c k W _ h _
    exact h.elim
theorem WalkChunks (w : World) (s : ByteArray) : Calls Try.prog 8 #[.string s] w fun e w' => e = .returned (.bool true) ∧ Below w.heap.size w w' := by
  by_cases c1 : 1500 < s.size
  · exact callsIn_wide.1 (early w s (.inl c1))
  · cases c2 : Sp.valid (ld s)
    · exact callsIn_wide.1 (early w s (.inr ⟨by omega, c2⟩))
    · exact callsIn_wide.1 (late w s (by omega) c2)
end Go.Proofs.Ytdcnoiofimngpaa.Wt
