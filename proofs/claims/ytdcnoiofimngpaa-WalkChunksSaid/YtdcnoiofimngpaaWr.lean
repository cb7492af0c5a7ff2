import Derived.Test.YtdcnoiofimngpaaWl
import Derived.Test.YtdcnoiofimngpaaGy
import Derived.Shelf.Abstract
import Derived.Shelf.RegionOpen
import Derived.WalkKit
import Derived.OwnWalkIn
import Derived.TacticsInMore
import Derived.LoopNIn
import Derived.LoopIn
import Derived.Maps.AppendAt
/- All lines of a rope, gone over: Rows and the lines that are taken of it. -/
namespace Go.Proofs.Ytdcnoiofimngpaa.Wr
open Go.RowKit Go.Shelf Go.Proofs.Ytdcnoiofimngpaa.U Go.Proofs.Ytdcnoiofimngpaa.Kt Go.Proofs.Ytdcnoiofimngpaa.Kh Go.Proofs.Ytdcnoiofimngpaa.Kj Go.Proofs.Ytdcnoiofimngpaa.Gs Go.Proofs.Ytdcnoiofimngpaa.Gr Go.Proofs.Ytdcnoiofimngpaa.Ge Go.Proofs.Ytdcnoiofimngpaa.Gq Go.Proofs.Ytdcnoiofimngpaa.Gn Go.Proofs.Ytdcnoiofimngpaa.Gl Go.Proofs.Ytdcnoiofimngpaa.Gv Go.Proofs.Ytdcnoiofimngpaa.Gy Go.Proofs.Ytdcnoiofimngpaa.Gp Go.Proofs.Ytdcnoiofimngpaa.Wl Go.Proofs.YtdcnoiofimngpaaW.PrintWords Go.Proofs.YtdcnoiofimngpaaW.PrintLast Go.Proofs.YtdcnoiofimngpaaW.PrintMore
set_option linter.unusedVariables false
set_option linter.unusedSimpArgs false
attribute [local go_sem] Oper.semAt_some
/-- what a round keeps for the iterator: what lay ahead; its own box br; from B on numbers, trees and boxes of functions -/
structure Kp (n₀ B br : Nat) (W W' : World) : Prop where
  b : Below n₀ W W'
  r : ∀ cs t x, W.heap[br]? = some (.cells cs t x) → W'.heap[br]? = some (.cells cs t x)
  o : ∀ (k : Nat) cs t x, B ≤ k → t = 3 ∨ t = 73 ∨ t = 100 → W.heap[k]? = some (.cells cs t x) → W'.heap[k]? = some (.cells cs t x)
theorem Kp.refl (n₀ B br : Nat) (W : World) : Kp n₀ B br W W := ⟨Below.refl _ _, fun _ _ _ h => h, fun _ _ _ _ _ _ h => h⟩
theorem Kp.trans {n₀ B br : Nat} {X Y Z : World} (h : Kp n₀ B br X Y) (k : Kp n₀ B br Y Z) : Kp n₀ B br X Z :=
  ⟨h.b.trans k.b, fun cs t x hx => k.r cs t x (h.r cs t x hx), fun j cs t x hj ht hx => k.o j cs t x hj ht (h.o j cs t x hj ht hx)⟩
theorem Kp.grown {n₀ B br : Nat} {W W' : World} {row : Option Nat} (hg : W.grownBy W' row) (hn : n₀ ≤ W.heap.size) (hr : ∀ j, row = some j → n₀ ≤ j ∧ j ≠ br ∧ (B ≤ j → ∀ cs t x, W.heap[j]? = some (.cells cs t x) → ¬ (t = 3 ∨ t = 73 ∨ t = 100))) : Kp n₀ B br W W' :=
  ⟨(Below.refl n₀ W).grown hg hn (fun k e => (hr k e).1), fun cs t x hx => (hg.block br (blk_lt' hx) (fun e => (hr br e.symm).2.1 rfl)).trans hx,
    fun k cs t x hk ht hx => (hg.block k (blk_lt' hx) (fun e => (hr k e.symm).2.2 hk cs t x hx ht)).trans hx⟩
theorem Kp.put {n₀ B br : Nat} {W : World} {l : Nat} {o : Obj} (o' : Obj) (hl : W.heap[l]? = some o) (ho : o.isCells = false) (hn : n₀ ≤ l) (hbr : br < l) : Kp n₀ B br W (W.putObj l o') :=
  Kp.grown (grownBy_putObj' W l o') (by have := blk_lt' hl; omega) (fun j e => by
    cases e
    refine ⟨hn, by omega, ?_⟩
    intro _ cs t x hx; rw [hl] at hx; cases hx; cases ho)
theorem Kp.set {n₀ B br b : Nat} {W : World} {t : TypeId} {u : Value} (v : Value) (h : Boxed W b t u) (ht : ¬ (t = 3 ∨ t = 73 ∨ t = 100)) (hn : n₀ ≤ b) (hbr : b ≠ br) : Kp n₀ B br W (W.setCell ⟨b, 0, none⟩ v) :=
  Kp.grown (grownBy_setCell' W b v) (by have := h.lt; omega) (fun j e => by
    cases e
    refine ⟨hn, hbr, ?_⟩
    intro _ cs t' x hx; rw [show W.heap[b]? = _ from h] at hx; cases hx; exact ht)
theorem Kp.alloc {n₀ B br : Nat} (W : World) (o : Obj) (hn : n₀ ≤ W.heap.size) : Kp n₀ B br W (W.alloc o) := Kp.grown (World.grownBy_alloc W o none) hn (fun j e => by cases e)
theorem Kp.row {n₀ B br m size : Nat} {W W' : World} {e : TypeId} {v : Value} {xs : List Value} (ho : W.ownsRow n₀ e size v m xs) (hg : W.grownBy W' v.ownBlock) (he : ¬ (e = 3 ∨ e = 73 ∨ e = 100)) (hn : n₀ ≤ W.heap.size) {tb : TypeId} {ub : Value} (hbr : Boxed W br tb ub) (hne : tb ≠ e) : Kp n₀ B br W W' :=
  Kp.grown hg hn (fun j ej => by
    have hb := own_base ho j ej
    obtain ⟨cells, hc⟩ := own_typed ho j ej
    refine ⟨hb, ?_, ?_⟩
    · rintro rfl
      rw [show W.heap[j]? = _ from hbr] at hc
      cases hc
      exact hne rfl
    · intro _ cs t x hx; rw [hc] at hx; cases hx; exact he)
theorem size_setCell_ (W : World) (a : Addr) (v : Value) : (W.setCell a v).heap.size = W.heap.size := by show (W.heap.modify _ _).size = _; rw [Array.size_modify]
theorem box_other {W : World} {b b' : Nat} {t : TypeId} {v u : Value} (h : Boxed W b t v) (hne : b ≠ b') : Boxed (W.setCell ⟨b', 0, none⟩ u) b t v := h.kept (grownBy_setCell' W b' u) (fun e => by cases e; exact hne rfl)
theorem still_calm {B : Nat} {X : World → Prop} (h : Still B X) {W W' : World} (hx : X W) (hb : Below W.heap.size W W') : X W' := h W W' none hx (grown_of_below hb none) (fun r e => by cases e)
def numOf : Value → Int | .int _ q => q | _ => 0
def rowS (s : ByteArray) (k : Nat) : ByteArray := s.extract (nl (ld s) k) (rowE s k)
def rowsE (s : ByteArray) (k : Nat) : Array Value := #[.int .i64 (k : Int), .string (rowS s k)]
variable {w0 : World} {g : Nat} {p : Option Addr} {t : Tr} {C : List ByteArray}
theorem row_at (h : Rope w0 g p t C) {w : World} (hb : Below w0.heap.size w0 w) (k : Nat) (hk : k ≤ Sp.lines (ld (cat C))) : Calls Try.prog 45 #[.pointer (some ⟨g, 0, none⟩), .int .i64 (k : Int)] w fun e w' => e = .returned (.tuple #[.string (rowS (cat C) k), .int .i64 0]) ∧ Below w.heap.size w w' := by
  have := row_calls h hb (k : Int)
  unfold rowV at this
  rw [kf2, if_neg (by omega), if_neg (by omega), Int.toNat_natCast] at this
  exact this
set_option maxHeartbeats 4000000 in
set_option maxRecDepth 100000 in
theorem rows1_seq (h : Rope w0 g p t C) (n : Nat) (hn : 1 ≤ n) (B br : Nat) (w : World) (hb : Below w0.heap.size w0 w) (hbr : Boxed w br 24 (.pointer (some ⟨g, 0, none⟩))) :
    Seq Fence.wide n Try.prog 77 #[.pointer (some ⟨br, 0, none⟩)] (rowsE (cat C)) (Kp w0.heap.size B br) (Sp.lines (ld (cat C)) + 1) w := by
  intro l J Jx W hW hJ hJx hY h0
  have hbW : Below w0.heap.size w0 W := hb.trans (hW.mono hb.size)
  have hbrW : Boxed W br 24 (.pointer (some ⟨g, 0, none⟩)) := (hW.block br hbr.lt).trans hbr
  have hc0 := hbrW.cell
  have hl2 := h.s 2
  rw [kt_cat, kf2] at hl2
  have HLN : Calls Try.prog 42 #[.pointer (some ⟨g, 0, none⟩)] W fun e w' => e = .returned (.int .i64 ((Sp.lines (ld (cat C)) : Int) + 1)) ∧ Below W.heap.size W w' := by
    have := lines_calls h hbW
    rw [kt_cat, kf2] at this
    exact this
  obtain ⟨L, hL⟩ : ∃ L, Sp.lines (ld (cat C)) = L := ⟨_, rfl⟩
  rw [hL] at HLN hl2 hY ⊢
  refine callsIn_of_wp Try.func77 rfl trivial ?_ rfl
  simp only [Try.ntmps77, List.size_toArray, List.length_cons, List.length_nil, Nat.reduceAdd, Nat.reduceSub, Array.replicate_succ, Array.replicate_zero, List.push_toArray, List.append_toArray, List.nil_append, List.cons_append]
  gi_wp2_with (refine ⟨trivial, ?_⟩; gi_at_call 42; refine (callsIn_wide.2 HLN).mono ?_; rintro e w2 ⟨rfl, hb2⟩)
  have hJ2 := still_calm (hJ 0) h0 hb2
  have hb20 : Below w0.heap.size w0 w2 := hbW.trans (hb2.mono hbW.size)
  have hbr2 : Boxed w2 br 24 (.pointer (some ⟨g, 0, none⟩)) := (hb2.block br hbrW.lt).trans hbrW
  clear hc0 HLN hb2 h0 hbrW hbW hb hbr
  gi_loopw [8] (fun q wr => ∃ k : Nat, q = .int .i64 (k : Int) ∧ k ≤ L + 1 ∧ J k wr ∧ Below w0.heap.size w0 wr ∧ Boxed wr br 24 (.pointer (some ⟨g, 0, none⟩))) (fun q wr => L + 1 - (numOf q).toNat)
  case atStart => exact ⟨0, rfl, by omega, hJ2, hb20, hbr2⟩
  case round =>
    clear hJ2 hb20 hbr2
    obtain ⟨k, rfl, hk, hJk, hbk, hbrk⟩ := hrel
    have hc := hbrk.cell
    by_cases ck : k < L + 1
    · have ckb : decide ((k : Int) < (L : Int) + 1) = true := decide_eq_true (by omega)
      have HRO := row_at h hbk k (by rw [hL]; omega)
      gi_wp2_with (refine ⟨trivial, ?_⟩; gi_at_call 45; refine (callsIn_wide.2 HRO).mono ?_; rintro e w3 ⟨rfl, hb3⟩; have hJ3 := still_calm (hJ k) hJk hb3; obtain ⟨fn_, tm_, as_, bo_, hy, hR⟩ := hY k _ ck hJ3; dsimp only [rowsE] at hy)
      refine hR.mono ?_
      have hb3' : Below w0.heap.size w0 w3 := hbk.trans (hb3.mono hbk.size)
      have hbr3 : Boxed w3 br 24 (.pointer (some ⟨g, 0, none⟩)) := (hb3.block br hbrk.lt).trans hbrk
      have wk : wrap64 ((k : Int) + 1) = ((k + 1 : Nat) : Int) := by unfold wrap64; omega
      rintro e W4 (⟨rfl, hJ4, hk4⟩ | ⟨rfl, hJx4⟩)
      · clear hc hy hR HRO
        gi_wp2
        go_roundw
        case rel => exact ⟨k + 1, by first | rfl | (rw [← wk]; rfl) | simp, by omega, hJ4, hb3'.trans hk4.b, hk4.r _ _ _ hbr3⟩
        case measure => simp only [numOf]; omega
      · clear hc hy hR HRO
        gi_wp2
        refine bodyPost_ret (results_none rfl _ _ _) rfl ?_
        exact ⟨⟨_, rfl⟩, .inr ⟨k + 1, hJx4⟩⟩
    · have ckb : decide ((k : Int) < (L : Int) + 1) = false := decide_eq_false (by omega)
      obtain rfl : k = L + 1 := by omega
      gi_wp2
      go_end0
      exact ⟨⟨_, rfl⟩, .inl hJk⟩
/-- walk.Rows: the rope is boxed -/
theorem rows_calls (g n : Nat) (w : World) : CallsIn Fence.wide n Try.prog 55 #[.pointer (some ⟨g, 0, none⟩)] w fun e w' => e = .returned (.func (.func 77) #[] #[.pointer (some ⟨w.heap.size, 0, none⟩)]) ∧ w' = w.alloc (.cells #[.pointer (some ⟨g, 0, none⟩)] 24) := by
  refine callsIn_of_wp Try.func55 rfl trivial ?_ rfl
  simp only [Try.ntmps55, List.size_toArray, List.length_cons, List.length_nil, Nat.reduceAdd, Nat.reduceSub, Array.replicate_succ, Array.replicate_zero, List.push_toArray, List.append_toArray, List.nil_append, List.cons_append]
  gi_wp2
  go_ret
  exact ⟨rfl, rfl⟩
theorem eq_nil (w : World) (f : Fn) (a c : Array Value) : (binOp BinOp.eql 62 (.func f a c) .nilFunc).run Try.prog w = .ok (.bool false) w := by
  have hu := Try.underlying62
  have e : Op.maxDepth = 9999 + 1 := rfl
  have h : (Op.equal 62 (.func f a c) .nilFunc).run Try.prog w = .ok false w := by
    unfold Op.equal
    rw [e, Op.equalIn]
    simp [Sem.run_bind, run_underlying hu]
  simp [binOp, h]
theorem info9 : (Try.prog.info? 9).map (fun i => (i.zero, i.size, i.bytes)) = some (some (.string ⟨#[]⟩), 1, 16) := by kernel_rfl
/-- the first k lines -/
def rowsV (s : ByteArray) (k : Nat) : List Value := (List.range k).map fun j => .string (rowS s j)
theorem rowsV_len (s : ByteArray) (k : Nat) : (rowsV s k).length = k := by unfold rowsV; rw [List.length_map, List.length_range]
theorem rowsV_succ (s : ByteArray) (k : Nat) : rowsV s (k + 1) = rowsV s k ++ [.string (rowS s k)] := by unfold rowsV; rw [List.range_succ, List.map_append]; rfl
/-- what lies between two rounds: k lines are taken -/
structure St (w : World) (n₀ g : Nat) (s : ByteArray) (most : Int) (k : Nat) (v : Value) (W : World) : Prop where
  bm : Boxed W w.heap.size 3 (.int .i64 most)
  bo : Boxed W (w.heap.size + 1) 48 v
  bk : Boxed W (w.heap.size + 1 + 1) 4 (.bool true)
  br : Boxed W (w.heap.size + 1 + 1 + 1) 24 (.pointer (some ⟨g, 0, none⟩))
  o : W.ownsRow w.heap.size 9 1 v k (rowsV s k)
  m : k = 0 ∨ (k : Int) ≤ most
  b : Below w.heap.size w W
theorem St.firm (w : World) (n₀ g : Nat) (s : ByteArray) (most : Int) (k : Nat) : Firm (w.heap.size + 1 + 1 + 1 + 1) (fun W => ∃ v, St w n₀ g s most k v W) := by
  refine Firm.ex fun v A A' row hs hg hr => ?_
  exact ⟨Firm.boxed (by omega) A A' row hs.bm hg hr, Firm.boxed (by omega) A A' row hs.bo hg hr, Firm.boxed (by omega) A A' row hs.bk hg hr, Firm.boxed (by omega) A A' row hs.br hg hr, Firm.row (by decide) A A' row hs.o hg hr, hs.m, Firm.below (Nat.le_refl _) (by omega) A A' row hs.b hg hr⟩
theorem St.next {w W w1 : World} {n₀ g B : Nat} {s : ByteArray} {most : Int} {k : Nat} {v v' : Value} {tmp : Obj} (hs : St w n₀ g s most k v W) (hn : n₀ ≤ w.heap.size)
    (hown : w1.ownsRow w.heap.size 9 1 v' (k + 1) (rowsV s (k + 1))) (hg : ((W.setCell ⟨w.heap.size + 1 + 1, 0, none⟩ (.bool true)).alloc tmp).grownBy w1 v.ownBlock) (hm : (k : Int) < most) :
    Boxed w1 (w.heap.size + 1) 48 v ∧ KeepsOthers W (w1.setCell ⟨w.heap.size + 1, 0, none⟩ v') ∧ Kp n₀ B (w.heap.size + 1 + 1 + 1) W (w1.setCell ⟨w.heap.size + 1, 0, none⟩ v') ∧ ∃ u, St w n₀ g s most (k + 1) u (w1.setCell ⟨w.heap.size + 1, 0, none⟩ v') := by
  obtain ⟨W2, hW2⟩ : ∃ W2, W.setCell ⟨w.heap.size + 1 + 1, 0, none⟩ (.bool true) = W2 := ⟨_, rfl⟩
  have q1 : Boxed W2 w.heap.size 3 (.int .i64 most) := by rw [← hW2]; exact box_other hs.bm (by omega)
  have q2 : Boxed W2 (w.heap.size + 1) 48 v := by rw [← hW2]; exact box_other hs.bo (by omega)
  have q3 : Boxed W2 (w.heap.size + 1 + 1) 4 (.bool true) := by rw [← hW2]; exact hs.bk.set _
  have q4 : Boxed W2 (w.heap.size + 1 + 1 + 1) 24 (.pointer (some ⟨g, 0, none⟩)) := by rw [← hW2]; exact box_other hs.br (by omega)
  have q5 : W2.ownsRow w.heap.size 9 1 v k (rowsV s k) := by rw [← hW2]; exact hs.o.kept (grownBy_setCell' _ _ _) (.inr (hs.bk.not_row (by decide) hs.o).symm)
  have q6 : Below w.heap.size W W2 := by rw [← hW2]; exact (Below.refl _ _).setCell (p := ⟨w.heap.size + 1 + 1, 0, none⟩) (by show w.heap.size ≤ w.heap.size + 1 + 1; omega) _
  have k1 : Kp n₀ B (w.heap.size + 1 + 1 + 1) W W2 := by rw [← hW2]; exact Kp.set _ hs.bk (by decide) (by omega) (by omega)
  have k2 : KeepsOthers W W2 := by rw [← hW2]; exact KeepsOthers.setCell _ _ _
  rw [hW2] at hg
  have hlt := q4.lt
  obtain ⟨a1, a2, a3, a4, a5⟩ := q2.appended (by decide) q5 (by omega) (by omega) hown hg
  have z1 := ((q1.alloc tmp).kept hg ((q1.alloc tmp).not_row (by decide) (q5.alloc tmp)))
  have z3 := ((q3.alloc tmp).kept hg ((q3.alloc tmp).not_row (by decide) (q5.alloc tmp)))
  have z4 := ((q4.alloc tmp).kept hg ((q4.alloc tmp).not_row (by decide) (q5.alloc tmp)))
  refine ⟨a1, k2.trans a4, ?_, v', ⟨box_other z1 (by omega), a2, box_other z3 (by omega), box_other z4 (by omega), a3, .inr (by omega), hs.b.trans (q6.trans a5)⟩⟩
  refine k1.trans ((Kp.alloc W2 tmp (by omega)).trans (Kp.trans ?_ (Kp.set v' a1 (by decide) (by omega) (by omega))))
  exact Kp.row (own_less (q5.alloc tmp) hn) hg (by decide) (by simp; omega) (q4.alloc tmp) (by decide)
set_option maxHeartbeats 4000000 in
set_option maxRecDepth 100000 in
theorem rowsOf_in (h : Rope w0 g p t C) {w : World} (hb : Below w0.heap.size w0 w) (most : Int) : CallsIn Fence.wide 9 Try.prog 29 #[.pointer (some ⟨g, 0, none⟩), .int .i64 most] w fun e w' =>
    ∃ v, e = .returned (.tuple #[v, .bool true]) ∧ w'.ownsRow w.heap.size 9 1 v (min (Sp.lines (ld (cat C)) + 1) most.toNat) (rowsV (cat C) (min (Sp.lines (ld (cat C)) + 1) most.toNat)) ∧ Below w.heap.size w w' := by
  obtain ⟨i0, hi, hz0, hz1, hz2⟩ := info_parts info9
  have hl2 := h.s 2
  rw [kt_cat, kf2] at hl2
  refine callsIn_of_wp_marks Try.func29 rfl trivial ?_ rfl
  simp only [Try.ntmps29, List.size_toArray, List.length_cons, List.length_nil, Nat.reduceAdd, Nat.reduceSub, Array.replicate_succ, Array.replicate_zero, List.push_toArray, List.append_toArray, List.nil_append, List.cons_append]
  have hen := eq_nil
  gi_wp2_with (refine ⟨trivial, ?_⟩; gi_at_call 55; refine (rows_calls g _ _).mono ?_; rintro e w' ⟨rfl, rfl⟩)
  obtain ⟨W0, hW0⟩ : ∃ W0, ((((w.alloc (Obj.cells #[Value.int IntKind.i64 most] 3)).alloc (Obj.cells #[Value.slice none 0 0] 48)).alloc (Obj.cells #[Value.bool true] 4)).alloc (Obj.cells #[Value.pointer (some { block := g, off := 0 })] 24)) = W0 := ⟨_, rfl⟩
  have hsz : W0.heap.size = w.heap.size + 1 + 1 + 1 + 1 := by rw [← hW0]; simp
  have b1 := Boxed.new w 3 (.int .i64 most)
  have b2 := Boxed.new (w.alloc (Obj.cells #[Value.int IntKind.i64 most] 3)) 48 (.slice none 0 0)
  have b3 := Boxed.new ((w.alloc (Obj.cells #[Value.int IntKind.i64 most] 3)).alloc (Obj.cells #[Value.slice none 0 0] 48)) 4 (.bool true)
  have b4 := Boxed.new (((w.alloc (Obj.cells #[Value.int IntKind.i64 most] 3)).alloc (Obj.cells #[Value.slice none 0 0] 48)).alloc (Obj.cells #[Value.bool true] 4)) 24 (.pointer (some ⟨g, 0, none⟩))
  simp only [World.size_alloc] at b2 b3 b4
  have s0 : St w w0.heap.size g (cat C) most 0 (.slice none 0 0) W0 := by
    rw [← hW0]
    exact ⟨((b1.alloc _).alloc _).alloc _, (b2.alloc _).alloc _, b3.alloc _, b4, World.ownsRow_nil _ _ _ _, .inl rfl, ((((Below.refl _ w).alloc (Nat.le_refl _) _).alloc (by simp) _).alloc (by simp; omega) _).alloc (by simp; omega) _⟩
  have hbW : Below w0.heap.size w0 W0 := hb.trans (s0.b.mono hb.size)
  rw [hW0]
  clear hW0 b1 b2 b3 b4
  refine range_law rfl (by omega) (gf := 77) (lb := #[.pointer (some ⟨w.heap.size + 1 + 1 + 1, 0, none⟩)]) rfl trivial (enters_of Try.func77 (by kernel_rfl) rfl)
    (rows1_seq h 8 (by omega) (w.heap.size + 1 + 1 + 1 + 1) (w.heap.size + 1 + 1 + 1) W0 hbW s0.br) (fun _ => rfl) (fun h k => h.trans k) (fun W l o o' h1 h2 h3 => Kp.put o' h2 h3 (by have := hbW.size; omega) (by omega))
    (fun k W => ∃ v, St w w0.heap.size g (cat C) most k v W)
    (fun c k W => c = .exit 0 ∧ ∃ (j : Nat) (v : Value), most ≤ (j : Int) ∧ j < Sp.lines (ld (cat C)) + 1 ∧ St w w0.heap.size g (cat C) most j v W)
    (fun k => by rw [hsz]; exact St.firm _ _ _ _ _ _)
    (fun c k A A' row hs hg hr => by
      obtain ⟨hc, j, v, h1, h2, h3⟩ := hs
      rw [hsz] at hr
      obtain ⟨u, hu⟩ := St.firm w w0.heap.size g (cat C) most j A A' row ⟨v, h3⟩ hg hr
      exact ⟨hc, j, u, h1, h2, hu⟩)
    ⟨_, s0⟩
    (fun k => { tmps := #[.pointer (some ⟨g, 0, none⟩), .int .i64 most, undef, .pointer (some ⟨w.heap.size, 0, none⟩), .slice none 0 0, .bool false, .pointer (some ⟨w.heap.size + 1, 0, none⟩), .pointer (some ⟨w.heap.size + 1 + 1, 0, none⟩), .func (.func 77) #[] #[.pointer (some ⟨w.heap.size + 1 + 1 + 1, 0, none⟩)], .int .i64 (k : Int), .string (rowS (cat C) k), .pointer (some ⟨g, 0, none⟩), .func (.func 77) #[] #[.pointer (some ⟨w.heap.size + 1 + 1 + 1, 0, none⟩)], .func (.func 77) #[] #[.pointer (some ⟨w.heap.size + 1 + 1 + 1, 0, none⟩)], .bool false, .func (.func 77) #[] #[.pointer (some ⟨w.heap.size + 1 + 1 + 1, 0, none⟩)], .int .i64 (k : Int), .string (rowS (cat C) k), undef, undef, undef, undef, undef, undef, undef, undef, undef, undef, undef, undef, undef, undef, undef, undef, undef], defers := [] }) ?assign ?body ?done ?stop
  case assign =>
    intro l k W K hK
    simp only [rowsE]
    gi_wp2
    exact hK
  case body =>
    rintro l k W hk ⟨v, hs⟩
    obtain ⟨A, cp, rfl⟩ := own_slice hs.o
    have hcm := hs.bm.cell
    have hco := hs.bo.cell
    have hck := hs.bk.cell
    have hfk := hs.bk.frozen
    by_cases cm : most ≤ (k : Int)
    · have cmb : decide (most ≤ (k : Int)) = true := decide_eq_true cm
      gi_wp2
      exact ⟨KeepsOthers.refl _, rfl, k, _, cm, hk, hs⟩
    · have cmb : decide (most ≤ (k : Int)) = false := decide_eq_false cm
      have ekk : ((k : Int) == (k : Int)) = true := beq_self_eq_true _
      have b2 := box_other (u := .bool true) hs.bo (show w.heap.size + 1 ≠ w.heap.size + 1 + 1 by omega)
      have hco2 := b2.cell
      have hrow : (W.setCell ⟨w.heap.size + 1 + 1, 0, none⟩ (.bool true)).ownsRow w.heap.size 9 1 (.slice A k cp) k (rowsV (cat C) k) := hs.o.kept (grownBy_setCell' _ _ _) (.inr (hs.bk.not_row (by decide) hs.o).symm)
      have hsl := hs.b.size
      gi_wp2_with (gi_at_builtin; refine wpListIn_append_own _ rfl _ _ 48 rfl w.heap.size 9 i0 (.string ⟨#[]⟩) 1 16 Try.underlying48 hi hz0 hz1 hz2 rfl (by decide) _ _ _ rfl (hrow.alloc _) ⟨W.heap.size, 0, none⟩ 1 1 [.string (rowS (cat C) k)] rfl rfl (by have := cell_one_new (W.setCell ⟨w.heap.size + 1 + 1, 0, none⟩ (.bool true)) (.string (rowS (cat C) k)) 9; rw [size_setCell_] at this; exact this) (by simp [Value.oneCell']) (by simp only [maxLen]; omega) (by omega) (by rw [World.size_alloc, size_setCell_]; omega) ?_; intro v' w1 hown' hgrow _; obtain ⟨g', cap', rfl⟩ := ownsRow_succ hown'; rw [← rowsV_succ] at hown'; obtain ⟨hk0, hk1, hk2, hk3⟩ := hs.next (B := w.heap.size + 1 + 1 + 1 + 1) hb.size hown' hgrow (by omega); have hc1 := hk0.cell; have hf1 := hk0.frozen)
      exact ⟨hk1, hk2, hk3⟩
  case done =>
    rintro D W hD ⟨v, hs⟩ hK
    have hm := hs.m
    have hco := hs.bo.cell
    have hck := hs.bk.cell
    rw [hsz] at hD
    have e : min (Sp.lines (ld (cat C)) + 1) most.toNat = Sp.lines (ld (cat C)) + 1 := by omega
    gi_wp2
    refine wpIn_wide.2 ?_
    go_quiet (fail)
    go_wp2
    gi_wp2
    refine ⟨by simp, .inl ⟨_, _, rfl, run_takeDeferred (ds := []) (by exact hK), ?_⟩⟩
    refine ⟨_, results_tmp2 rfl _ _ _, v, rfl, ?_, ?_⟩
    · rw [e]
      exact ownsRow_putObj (pw_own_drewN hs.o _) _ (show (W.drewN _).heap[D]? = _ from hK) rfl
    · exact (pw_below_drewN hs.b _).trans (belowK_b (w := w) (Nat.le_refl _) (W.drewN _) D _ _ (by omega) (show (W.drewN _).heap[D]? = _ from hK) rfl rfl)
  case stop =>
    rintro D c k W hD ⟨rfl, j, v, hj, hj2, hs⟩ hK
    have hm := hs.m
    have hco := hs.bo.cell
    have hck := hs.bk.cell
    rw [hsz] at hD
    have e : min (Sp.lines (ld (cat C)) + 1) most.toNat = j := by omega
    gi_wp2
    refine wpIn_wide.2 ?_
    go_quiet (fail)
    go_wp2
    gi_wp2
    refine ⟨by simp, .inl ⟨_, _, rfl, run_takeDeferred (ds := []) (by exact hK), ?_⟩⟩
    refine ⟨_, results_tmp2 rfl _ _ _, v, rfl, ?_, ?_⟩
    · rw [e]
      exact ownsRow_putObj (pw_own_drewN hs.o _) _ (show (W.drewN _).heap[D]? = _ from hK) rfl
    · exact (pw_below_drewN hs.b _).trans (belowK_b (w := w) (Nat.le_refl _) (W.drewN _) D _ _ (by omega) (show (W.drewN _).heap[D]? = _ from hK) rfl rfl)
end Go.Proofs.Ytdcnoiofimngpaa.Wr
/- The page's example of lines. -/
namespace Go.Proofs.Ytdcnoiofimngpaa.Wv
open Go.RowKit Go.Proofs.Ytdcnoiofimngpaa.U Go.Proofs.Ytdcnoiofimngpaa.QK Go.Proofs.Ytdcnoiofimngpaa.QS Go.Proofs.Ytdcnoiofimngpaa.Kt Go.Proofs.Ytdcnoiofimngpaa.Kh Go.Proofs.Ytdcnoiofimngpaa.Kj Go.Proofs.Ytdcnoiofimngpaa.Gs Go.Proofs.Ytdcnoiofimngpaa.Gr Go.Proofs.Ytdcnoiofimngpaa.Ge Go.Proofs.Ytdcnoiofimngpaa.Gq Go.Proofs.Ytdcnoiofimngpaa.Gn Go.Proofs.Ytdcnoiofimngpaa.Gl Go.Proofs.Ytdcnoiofimngpaa.Gv Go.Proofs.Ytdcnoiofimngpaa.Gy Go.Proofs.Ytdcnoiofimngpaa.Gp Go.Proofs.Ytdcnoiofimngpaa.Wl Go.Proofs.Ytdcnoiofimngpaa.Wr Go.Proofs.YtdcnoiofimngpaaW.PrintWords Go.Proofs.YtdcnoiofimngpaaW.PrintLast Go.Proofs.YtdcnoiofimngpaaW.PrintMore
set_option linter.unusedVariables false
set_option linter.unusedSimpArgs false
attribute [local go_sem] max2_int min2_int max_two min_two
theorem own_two {W : World} {base : Nat} {v : Value} {s : ByteArray} (h : W.ownsRow base 9 1 v 2 (rowsV s 2)) : ∃ g cp, v = .slice (some ⟨g, 0, none⟩) 2 cp ∧ W.cell? ⟨g, 0, none⟩ = some (.string (rowS s 0)) ∧ W.cell? ⟨g, 1, none⟩ = some (.string (rowS s 1)) := by
  have h0 := h
  rcases h.2 with ⟨rfl, h2⟩ | ⟨g, cap, cur, rfl, hb, hg, hc, _⟩
  · omega
  · refine ⟨g, cap, rfl, ?_, ?_⟩
    · have := h0.cells (g := g) rfl 0 (.string (rowS s 0)) rfl
      simpa [Addr.add] using this
    · have := h0.cells (g := g) rfl 1 (.string (rowS s 1)) rfl
      simpa [Addr.add] using this
theorem add_zero_ (ad : Addr) : ad.add 0 = ad := by cases ad; rfl
def a2 : ByteArray := ⟨#[97, 10]⟩
theorem a2_lines : Sp.lines (ld a2) = 1 := by decide +kernel
theorem a2_0 : rowS a2 0 = ⟨#[97]⟩ := by decide +kernel
theorem a2_1 : rowS a2 1 = ⟨#[]⟩ := by decide +kernel
theorem a2_valid : Sp.valid (ld a2) = true := by decide +kernel
/-- the lines that are taken -/
def RowsPost (w : World) (s : ByteArray) (k : Nat) (e : Ending) (w' : World) : Prop := ∃ v, e = .returned (.tuple #[v, .bool true]) ∧ w'.ownsRow w.heap.size 9 1 v k (rowsV s k) ∧ Below w.heap.size w w'
theorem rowsOf_calls {w0 w : World} {g : Nat} {p : Option Addr} {t : Tr} {C : List ByteArray} {s : ByteArray} (h : Rope w0 g p t C) (hc : cat C = s) (hb : Below w0.heap.size w0 w) (most : Int) : Calls Try.prog 29 #[.pointer (some ⟨g, 0, none⟩), .int .i64 most] w (RowsPost w s (min (Sp.lines (ld s) + 1) most.toNat)) := by
  have := callsIn_wide.1 (rowsOf_in h hb most)
  rw [hc] at this
  exact this
set_option maxHeartbeats 4000000 in
set_option maxRecDepth 100000 in
theorem lives20 (w : World) : Calls Try.prog 28 #[] w fun e w' => e = .returned (.bool true) ∧ Below w.heap.size w w' := by
  have HO : Aside0 (Calls Try.prog 13 #[.string ⟨#[97, 10]⟩] w (OfPost w a2)) := ⟨of_calls w a2 (by decide) a2_valid⟩
  have HRO : Aside0 (∀ (w1 : World) g p t C, Rope w1 g p t C → cat C = a2 → ∀ W, Below w1.heap.size w1 W → Calls Try.prog 29 #[.pointer (some ⟨g, 0, none⟩), .int .i64 10] W (RowsPost W a2 2)) := ⟨fun w1 g p t C h hc W hb => by
    have := rowsOf_calls h hc hb 10
    rw [a2_lines] at this
    exact this⟩
  go_enter Try.func28, Try.ntmps28
  go_wp2_with (first
    | (go_at_call 13; (with_reducible refine HO.out.mono ?_); rintro e w1 ⟨g, p, t, C, rfl, hR, hc, hv, hb⟩; have HR := Aside0.mk hR; have HCC := Aside0.mk hc; have HB1 := Aside0.mk hb; have HB := Aside0.mk (Below.refl w1.heap.size w1); clear hR hc hv hb HO)
    | (go_at_call 29; (with_reducible refine (HRO.out w1 g p t C HR.out HCC.out _ HB.out).mono ?_); rintro e w2 ⟨v, rfl, ho, hb⟩; obtain ⟨gA, cp, rfl, h0, h1⟩ := own_two ho; rw [a2_0] at h0; rw [a2_1] at h1; have HB2 := Aside0.mk (below_step HB.out hb); clear HB hb ho; have HB := HB2; clear HB2))
  go_ret
  exact ⟨rfl, HB1.out.trans (HB.out.mono HB1.out.size)⟩
end Go.Proofs.Ytdcnoiofimngpaa.Wv
