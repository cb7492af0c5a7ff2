import Derived.Test.YtdcnoiofimngpaaWl
import Derived.Test.YtdcnoiofimngpaaGs
import Derived.Shelf.Abstract
import Derived.Shelf.RegionOpen
import Derived.WalkKit
import Derived.OwnWalkIn
import Derived.TacticsInMore
import Derived.LoopNIn
import Derived.LoopIn
import Derived.Maps.AppendAt
/- All chunks of a rope, gone over: leaves, Chunks. -/
namespace Go.Proofs.Ytdcnoiofimngpaa.Wc
open Go.RowKit Go.Shelf Go.Proofs.Ytdcnoiofimngpaa.U Go.Proofs.Ytdcnoiofimngpaa.QK Go.Proofs.Ytdcnoiofimngpaa.Kt Go.Proofs.Ytdcnoiofimngpaa.Ka Go.Proofs.Ytdcnoiofimngpaa.Kb Go.Proofs.Ytdcnoiofimngpaa.Kc Go.Proofs.Ytdcnoiofimngpaa.Kd_ Go.Proofs.Ytdcnoiofimngpaa.Ke Go.Proofs.Ytdcnoiofimngpaa.Kf Go.Proofs.Ytdcnoiofimngpaa.Kh Go.Proofs.Ytdcnoiofimngpaa.Ki Go.Proofs.Ytdcnoiofimngpaa.Kj Go.Proofs.Ytdcnoiofimngpaa.Kk Go.Proofs.Ytdcnoiofimngpaa.Gs Go.Proofs.Ytdcnoiofimngpaa.Gd Go.Proofs.Ytdcnoiofimngpaa.Gt Go.Proofs.Ytdcnoiofimngpaa.Gr Go.Proofs.Ytdcnoiofimngpaa.Wl Go.Proofs.YtdcnoiofimngpaaW.PrintWords Go.Proofs.YtdcnoiofimngpaaW.PrintLast Go.Proofs.YtdcnoiofimngpaaW.PrintMore
set_option linter.unusedVariables false
set_option linter.unusedSimpArgs false
attribute [local go_sem] Oper.semAt_some
theorem lt_of_at {w : World} {k : Nat} {o : Obj} (h : w.heap[k]? = some o) : k < w.heap.size := (Array.getElem?_eq_some_iff.1 h).1
/-- what a round keeps for the iterator: what lay ahead; its own box br; from B on numbers, trees and boxes of functions -/
structure Kp (n₀ B br : Nat) (W W' : World) : Prop where
  b : Below n₀ W W'
  r : ∀ cs t x, W.heap[br]? = some (.cells cs t x) → W'.heap[br]? = some (.cells cs t x)
  o : ∀ (k : Nat) cs t x, B ≤ k → t = 3 ∨ t = 73 ∨ t = 100 → W.heap[k]? = some (.cells cs t x) → W'.heap[k]? = some (.cells cs t x)
theorem Kp.refl (n₀ B br : Nat) (W : World) : Kp n₀ B br W W := ⟨Below.refl _ _, fun _ _ _ h => h, fun _ _ _ _ _ _ h => h⟩
theorem Kp.trans {n₀ B br : Nat} {X Y Z : World} (h : Kp n₀ B br X Y) (k : Kp n₀ B br Y Z) : Kp n₀ B br X Z :=
  ⟨h.b.trans k.b, fun cs t x hx => k.r cs t x (h.r cs t x hx), fun j cs t x hj ht hx => k.o j cs t x hj ht (h.o j cs t x hj ht hx)⟩
theorem Kp.grown {n₀ B br : Nat} {W W' : World} {row : Option Nat} (hg : W.grownBy W' row) (hn : n₀ ≤ W.heap.size) (hr : ∀ j, row = some j → n₀ ≤ j ∧ j ≠ br ∧ (B ≤ j → ∀ cs t x, W.heap[j]? = some (.cells cs t x) → ¬ (t = 3 ∨ t = 73 ∨ t = 100))) : Kp n₀ B br W W' :=
  ⟨(Below.refl n₀ W).grown hg hn (fun k e => (hr k e).1), fun cs t x hx => (hg.block br (lt_of_at hx) (fun e => (hr br e.symm).2.1 rfl)).trans hx,
    fun k cs t x hk ht hx => (hg.block k (lt_of_at hx) (fun e => (hr k e.symm).2.2 hk cs t x hx ht)).trans hx⟩
theorem Kp.put {n₀ B br : Nat} {W : World} {l : Nat} {o : Obj} (o' : Obj) (hl : W.heap[l]? = some o) (ho : o.isCells = false) (hn : n₀ ≤ l) (hbr : br < l) : Kp n₀ B br W (W.putObj l o') :=
  Kp.grown (grownBy_putObj' W l o') (by have := lt_of_at hl; omega) (fun j e => by
    cases e
    refine ⟨hn, by omega, ?_⟩
    intro _ cs t x hx; rw [hl] at hx; cases hx; cases ho)
/-- a store into a box of the caller's: of another type, or ahead of B -/
theorem Kp.set {n₀ B br b : Nat} {W : World} {t : TypeId} {u : Value} (v : Value) (h : Boxed W b t u) (ht : b < B ∨ ¬ (t = 3 ∨ t = 73 ∨ t = 100)) (hn : n₀ ≤ b) (hbr : b ≠ br) : Kp n₀ B br W (W.setCell ⟨b, 0, none⟩ v) :=
  Kp.grown (grownBy_setCell' W b v) (by have := h.lt; omega) (fun j e => by
    cases e
    refine ⟨hn, hbr, ?_⟩
    intro hB cs t' x hx; rw [show W.heap[b]? = _ from h] at hx; cases hx
    rcases ht with ht | ht
    · omega
    · exact ht)
theorem Kp.alloc {n₀ B br : Nat} (W : World) (o : Obj) (hn : n₀ ≤ W.heap.size) : Kp n₀ B br W (W.alloc o) := Kp.grown (World.grownBy_alloc W o none) hn (fun j e => by cases e)
theorem Kp.calm {n₀ B br : Nat} {W W' : World} (hb : Below W.heap.size W W') (hn : n₀ ≤ W.heap.size) : Kp n₀ B br W W' := Kp.grown (grown_of_below hb none) hn (fun j e => by cases e)
theorem Kp.row {n₀ B br m size : Nat} {W W' : World} {e : TypeId} {v : Value} {xs : List Value} (ho : W.ownsRow n₀ e size v m xs) (hg : W.grownBy W' v.ownBlock) (he : ¬ (e = 3 ∨ e = 73 ∨ e = 100)) (hn : n₀ ≤ W.heap.size) {tb : TypeId} {ub : Value} (hbr : Boxed W br tb ub) (hne : tb ≠ e) : Kp n₀ B br W W' :=
  Kp.grown hg hn (fun j ej => by
    have hb := own_base ho j ej
    obtain ⟨cells, hc⟩ := own_typed ho j ej
    refine ⟨hb, ?_, ?_⟩
    · rintro rfl
      rw [show W.heap[j]? = _ from hbr] at hc
      cases hc
      exact hne rfl
    · intro _ cs t x hx; rw [hc] at hx; cases hx; exact he)
theorem box_other {W : World} {b b' : Nat} {t : TypeId} {v u : Value} (h : Boxed W b t v) (hne : b ≠ b') : Boxed (W.setCell ⟨b', 0, none⟩ u) b t v := h.kept (grownBy_setCell' W b' u) (fun e => by cases e; exact hne rfl)
theorem size_setCell_ (W : World) (a : Addr) (v : Value) : (W.setCell a v).heap.size = W.heap.size := by show (W.heap.modify _ _).size = _; rw [Array.size_modify]
theorem still_calm {B : Nat} {X : World → Prop} (h : Still B X) {W W' : World} (hx : X W) (hb : Below W.heap.size W W') : X W' := h W W' none hx (grown_of_below hb none) (fun r e => by cases e)
theorem still_set {B b : Nat} {X : World → Prop} (h : Still B X) {W : World} {u : Value} (v : Value) (hx : X W) (hb : Boxed W b 3 u) (hB : B ≤ b) : X (W.setCell ⟨b, 0, none⟩ v) :=
  h W _ (some b) hx (grownBy_setCell' W b v) (fun r e => by cases e; exact ⟨hB, _, hb⟩)
def numOf : Value → Int | .int _ q => q | _ => 0
/-- where chunk k begins -/
def pos (C : List ByteArray) (k : Nat) : Int := kt 0 (C.take k)
def chunkE (C : List ByteArray) (k : Nat) : Array Value := #[.int .i64 (pos C k), .string (C.getD k ⟨#[]⟩)]
theorem pos_next (C : List ByteArray) (k : Nat) (h : k < C.length) : pos C (k + 1) = pos C k + (C.getD k ⟨#[]⟩).size := by
  unfold pos
  rw [List.take_succ_eq_append_getElem h, kt_app, kt_cons, kt_nil, List.getD_eq_getElem?_getD, List.getElem?_eq_getElem h]
  show _ + (kf 0 _ + 0) = _
  rw [show kf 0 C[k] = (C[k].size : Int) from rfl]
  simp
/-- what lies between two rounds -/
structure Mid (w0 : World) (C : List ByteArray) (B bA bY br l g : Nat) (J : Nat → World → Prop) (k : Nat) (W : World) : Prop where
  j : J k W
  a : Boxed W bA 3 (.int .i64 (pos C k))
  y : Boxed W bY 100 (.func (.yield l) #[] #[])
  b : Below w0.heap.size w0 W
/-- what goes over the tree keeps -/
structure Kq (w0 : World) (B : Nat) (W W' : World) : Prop where
  b : Below w0.heap.size W W'
  o : ∀ (k : Nat) cs x, B ≤ k → W.heap[k]? = some (.cells cs 73 x) → W'.heap[k]? = some (.cells cs 73 x)
theorem Kq.refl (w0 : World) (B : Nat) (W : World) : Kq w0 B W W := ⟨Below.refl _ _, fun _ _ _ _ h => h⟩
theorem Kq.trans {w0 : World} {B : Nat} {X Y Z : World} (h : Kq w0 B X Y) (k : Kq w0 B Y Z) : Kq w0 B X Z := ⟨h.b.trans k.b, fun j cs x hj hx => k.o j cs x hj (h.o j cs x hj hx)⟩
theorem Kq.calm {w0 : World} {B : Nat} {W W' : World} (hw : w0.heap.size ≤ W.heap.size) (hb : Below W.heap.size W W') : Kq w0 B W W' := ⟨hb.mono hw, fun k cs x _ hx => (hb.block k (lt_of_at hx)).trans hx⟩
theorem Kq.row {w0 : World} {B bs : Nat} {W W' : World} {v : Value} {ps : List (Option Addr)} (h : Kq w0 B W W') (hB : B ≤ bs) (hR : kPtr.R 73 W bs (fun _ => True) v ps) : kPtr.R 73 W' bs (fun _ => True) v ps :=
  Kd.R_mono (Kd.R_move (Kd.R_bound hR) (fun k hk => by
    obtain ⟨_, h1, _, q, hq, cells, hc⟩ := hk
    have e : q = 73 := by simpa [kPtr, Kd.scalar] using hq
    subst e
    exact (h.o k cells _ (by omega) hc).trans hc.symm)) (fun _ hk => hk.1)
section
variable {w0 : World} {C : List ByteArray} {B bA bY br l g : Nat} {J Jx : Nat → World → Prop}
theorem Mid.calm {k : Nat} {W W' : World} (hJ : ∀ k, Still B (J k)) (h : Mid w0 C B bA bY br l g J k W) (hb : Below W.heap.size W W') : Mid w0 C B bA bY br l g J k W' :=
  ⟨still_calm (hJ k) h.j hb, (hb.block bA h.a.lt).trans h.a, (hb.block bY h.y.lt).trans h.y, h.b.trans (hb.mono h.b.size)⟩
set_option maxHeartbeats 2000000 in
set_option maxRecDepth 100000 in
/-- the function that is handed each chunk -/
theorem see_in (n : Nat) (hJ : ∀ k, Still B (J k)) (hBA : B ≤ bA) (hAY : bA ≠ bY) (hBY : B ≤ bY) (hsz : ∀ k, k ≤ C.length → pos C k ≤ 5000 ∧ 0 ≤ pos C k) (hw : w0.heap.size ≤ B)
    (hY : ∀ m k W1, k < C.length → J k W1 → YieldAt Fence.wide m Try.prog l (chunkE C k) W1 fun e W' => (e = .returned (.bool true) ∧ J (k + 1) W' ∧ Kp w0.heap.size B br W1 W') ∨ (e = .returned (.bool false) ∧ Jx (k + 1) W'))
    (k : Nat) (hk : k < C.length) (W : World) (h : Mid w0 C B bA bY br l g J k W) :
    CallsIn Fence.wide n Try.prog 66 #[.string (C.getD k ⟨#[]⟩), .pointer (some ⟨bA, 0, none⟩), .pointer (some ⟨bY, 0, none⟩)] W fun e W' =>
      (e = .returned (.bool true) ∧ Mid w0 C B bA bY br l g J (k + 1) W' ∧ Kq w0 B W W') ∨ (e = .returned (.bool false) ∧ ∃ j, Jx j W') := by
  have hcA := h.a.cell
  have hfA := h.a.frozen
  have hp := pos_next C k hk
  have h1 := hsz k (by omega)
  have h2 := hsz (k + 1) (by omega)
  have hwp : wrap64 (pos C k + ((C.getD k ⟨#[]⟩).size : Int)) = pos C (k + 1) := by rw [← hp]; unfold wrap64; omega
  have b2 := box_other (u := .int .i64 (pos C (k + 1))) h.y (Ne.symm hAY)
  have hcY := b2.cell
  have hj2 : J k (W.setCell ⟨bA, 0, none⟩ (.int .i64 (pos C (k + 1)))) := still_set (hJ k) _ h.j h.a hBA
  have a2 : Boxed (W.setCell ⟨bA, 0, none⟩ (.int .i64 (pos C (k + 1)))) bA 3 (.int .i64 (pos C (k + 1))) := h.a.set _
  have bb2 : Below w0.heap.size W (W.setCell ⟨bA, 0, none⟩ (.int .i64 (pos C (k + 1)))) := (Below.refl _ _).setCell (p := ⟨bA, 0, none⟩) (by show w0.heap.size ≤ bA; omega) _
  have hkq : Kq w0 B W (W.setCell ⟨bA, 0, none⟩ (.int .i64 (pos C (k + 1)))) := ⟨bb2, fun j cs x hj hx => (Below.heap_setCell W ⟨bA, 0, none⟩ _ j (by
    intro e
    have e : j = bA := e
    rw [e, show W.heap[bA]? = _ from h.a] at hx; cases hx)).trans hx⟩
  have hB2 : Below w0.heap.size w0 (W.setCell ⟨bA, 0, none⟩ (.int .i64 (pos C (k + 1)))) := h.b.trans bb2
  obtain ⟨fn_, tm_, as_, bo_, hy, hR⟩ := hY (n - 1) k _ hk hj2
  dsimp only [chunkE] at hy
  obtain ⟨s, hs⟩ : ∃ s, C.getD k ⟨#[]⟩ = s := ⟨_, rfl⟩
  rw [hs] at hy hwp ⊢
  clear hY hp h1 h2 hs hsz h
  refine callsIn_of_wp Try.func66 rfl trivial ?_ rfl
  simp only [Try.ntmps66, List.size_toArray, List.length_cons, List.length_nil, Nat.reduceAdd, Nat.reduceSub, Array.replicate_succ, Array.replicate_zero, List.push_toArray, List.append_toArray, List.nil_append, List.cons_append]
  gi_wp2
  refine ⟨fun h => (by cases h), hR.mono ?_⟩
  clear hy hR hcA hfA hcY
  rintro e W4 (⟨rfl, hJ4, hk4⟩ | ⟨rfl, hJx4⟩)
  · gi_wp2
    go_ret
    exact .inl ⟨rfl, ⟨hJ4, hk4.o bA _ _ _ hBA (.inl rfl) a2, hk4.o bY _ _ _ hBY (.inr (.inr rfl)) b2, hB2.trans hk4.b⟩, hkq.trans ⟨hk4.b, fun j cs x hj hx => hk4.o j cs 73 x hj (.inr (.inl rfl)) hx⟩⟩
  · gi_wp2
    go_ret
    exact .inr ⟨rfl, _, hJx4⟩
/-- the chunks of a tree stand in C from place k on -/
def Sub (C : List ByteArray) (k : Nat) (D : List ByteArray) : Prop := ∃ a b, C = a ++ (D ++ b) ∧ a.length = k
theorem Sub.le {k : Nat} {D : List ByteArray} (h : Sub C k D) : k + D.length ≤ C.length := by
  obtain ⟨a, b, rfl, rfl⟩ := h
  simp
theorem Sub.one {k : Nat} {s : ByteArray} (h : Sub C k [s]) : C.getD k ⟨#[]⟩ = s := by
  obtain ⟨a, b, rfl, rfl⟩ := h
  simp
theorem Sub.left {k : Nat} {D E : List ByteArray} (h : Sub C k (D ++ E)) : Sub C k D := by
  obtain ⟨a, b, e, hk⟩ := h
  exact ⟨a, E ++ b, by rw [e, List.append_assoc], hk⟩
theorem Sub.right {k : Nat} {D E : List ByteArray} (h : Sub C k (D ++ E)) : Sub C (k + D.length) E := by
  obtain ⟨a, b, e, hk⟩ := h
  exact ⟨a ++ D, b, by rw [e]; simp, by rw [List.length_append, hk]⟩
set_option maxHeartbeats 8000000 in
set_option maxRecDepth 100000 in
theorem leaves_in (hJ : ∀ k, Still B (J k)) (hBA : B ≤ bA) (hAY : bA ≠ bY) (hBY : B ≤ bY) (hsz : ∀ k, k ≤ C.length → pos C k ≤ 5000 ∧ 0 ≤ pos C k) (hw : w0.heap.size ≤ B)
    (hY : ∀ m k W1, k < C.length → J k W1 → YieldAt Fence.wide m Try.prog l (chunkE C k) W1 fun e W' => (e = .returned (.bool true) ∧ J (k + 1) W' ∧ Kp w0.heap.size B br W1 W') ∨ (e = .returned (.bool false) ∧ Jx (k + 1) W'))
    (N : Nat) : ∀ (t : Tr), SizeOf.sizeOf t < N → FineT t → ∀ (n : Nat) (W : World) (q : Option Addr) (k : Nat), Rd w0 q t → Mid w0 C B bA bY br l g J k W → Sub C k (chunks t) → (cat (chunks t)).size ≤ 100000 →
    CallsIn Fence.wide n Try.prog 65 #[.pointer q, .bool false, .func (.func 66) #[] #[.pointer (some ⟨bA, 0, none⟩), .pointer (some ⟨bY, 0, none⟩)]] W fun e W' =>
      (e = .returned (.bool true) ∧ Mid w0 C B bA bY br l g J (k + (chunks t).length) W' ∧ Kq w0 B W W') ∨ (e = .returned (.bool false) ∧ ∃ j, Jx j W') := by
  induction N with
  | zero => intro t ht; omega
  | succ N ih =>
    intro t ht hf n W q k H hM hS hz
    by_cases ch : 0 < t.height
    · have chb : (t.height == 0) = false := beq_eq_false_iff_ne.mpr (by omega)
      obtain ⟨hn, h2, h8, hk, hch⟩ := at_join (.inr hf) ch
      obtain ⟨ks, hks⟩ : ∃ ks, t.kids = ks := ⟨_, rfl⟩
      have HKI := kids3_calls w0 W q t H hM.b hn (by omega) (by omega)
      have HHE : ∀ W', Below W.heap.size W W' → Calls Try.prog 83 #[.pointer q] W' fun e w' => e = .returned (.int .i64 t.height) ∧ W' = w' := fun W' hb => height_calls W' q t (H.below (hM.b.trans (hb.mono hM.b.size)))
      rw [hks] at h2 h8 hk hch HKI
      rw [hch] at hS hz ⊢
      have hwB : w0.heap.size ≤ W.heap.size := hM.b.size
      have hBW : B ≤ W.heap.size := by have := hM.a.lt; omega
      refine callsIn_of_wp Try.func65 rfl trivial ?_ rfl
      simp only [Try.ntmps65, List.size_toArray, List.length_cons, List.length_nil, Nat.reduceAdd, Nat.reduceSub, Array.replicate_succ, Array.replicate_zero, List.push_toArray, List.append_toArray, List.nil_append, List.cons_append]
      gi_wp2_with (first
        | ((try first | (refine ⟨trivial, fun h => (by cases h), ?_⟩) | (refine ⟨trivial, ?_⟩) | (refine ⟨fun h => (by cases h), ?_⟩)); gi_at_call 84; refine (callsIn_wide.2 HKI).mono ?_; rintro e w2 ⟨A, cp, ps, rfl, hcp, hpl, hrow, hrd, hb2⟩)
        | ((try first | (refine ⟨trivial, fun h => (by cases h), ?_⟩) | (refine ⟨trivial, ?_⟩) | (refine ⟨fun h => (by cases h), ?_⟩)); gi_at_call 83; refine (callsIn_wide.2 (HHE _ hb2)).mono ?_; rintro e w3 ⟨rfl, rfl⟩))
      have hM2 := hM.calm hJ hb2
      have hq2 : Kq w0 B W w2 := Kq.calm hwB hb2
      have hR2 : kPtr.R 73 w2 W.heap.size (fun _ => True) (.slice A ks.length cp) ps := Kd.R_mono hrow (fun _ _ => trivial)
      clear HKI HHE hrow hb2 hM
      gi_loopw [21] (fun v wr => ∃ x : Int, v = .int .i64 x ∧ (0 ≤ x ∧ x ≤ ks.length) ∧ Mid w0 C B bA bY br l g J (k + (chunksL (ks.take x.toNat)).length) wr ∧ Kq w0 B W wr ∧ kPtr.R 73 wr W.heap.size (fun _ => True) (.slice A ks.length cp) ps) (fun v wr => ks.length - (numOf v).toNat)
      case atStart => exact ⟨0, rfl, by omega, by rw [Int.toNat_zero, List.take_zero, chunksL]; exact hM2, hq2, hR2⟩
      case round =>
        clear hM2 hq2 hR2
        obtain ⟨x, rfl, hx, hM, hq, hR⟩ := hrel
        have HM := Aside0.mk hM
        have HQ := Aside0.mk hq
        have HR := Aside0.mk hR
        have HX := Aside0.mk hx
        have HK8 : Aside0 (ks.length ≤ 8) := ⟨h8⟩
        have HBW := Aside0.mk hBW
        by_cases cx : x < (ks.length : Int)
        · have cxb : decide (x < (ks.length : Int)) = true := decide_eq_true cx
          have p0 : 0 ≤ x := hx.1
          have HCX := Aside0.mk cx
          obtain ⟨ad0, q0, hx0⟩ := at_ptr (n := ks.length) (by have h := (Kd.R_reads' hR).2.2; rw [hpl] at h; exact h) x p0 cx
          subst q0
          have hrk : Rd w0 (rdOf none ps x) (rdT ks x) := hrd x.toNat _ _ (by unfold rdOf; rw [List.getD_eq_getElem?_getD, List.getElem?_eq_getElem (by omega)]; rfl) (by unfold rdT; rw [List.getD_eq_getElem?_getD, List.getElem?_eq_getElem (by omega)]; rfl)
          obtain ⟨hfk, hszk⟩ := hk _ (rdT_mem ks x p0 cx)
          have hnx := chunksL_next ks x.toNat (by omega)
          rw [show rdT ks ((x.toNat : Nat) : Int) = rdT ks x by unfold rdT; rw [Int.toNat_natCast]] at hnx
          have hall : chunksL ks = chunksL (ks.take (x.toNat + 1)) ++ chunksL (ks.drop (x.toNat + 1)) := by
            conv => lhs; rw [← List.take_append_drop (x.toNat + 1) ks, chunksL_eq, List.map_append, List.flatten_append, ← chunksL_eq, ← chunksL_eq]
          have hSx : Sub C (k + (chunksL (ks.take x.toNat)).length) (chunks (rdT ks x)) := by
            have h1 := hS
            rw [hall] at h1
            have h2 := h1.left
            rw [hnx] at h2
            exact h2.right
          have hzx : (cat (chunks (rdT ks x))).size ≤ 100000 := by
            have h1 := hz
            rw [hall, hnx, Gc.cat_app, Gc.cat_app, ByteArray.size_append, ByteArray.size_append] at h1
            omega
          have HNX : Aside0 (chunksL (ks.take (x.toNat + 1)) = chunksL (ks.take x.toNat) ++ chunks (rdT ks x)) := ⟨hnx⟩
          have HG := Aside0.mk (ih (rdT ks x) (by omega) hfk (n - 1) wr (rdOf none ps x) _ hrk hM hSx hzx)
          generalize rdT ks x = kid at HG HNX
          generalize rdOf none ps x = qk at hx0 HG
          have p0c := eq_true p0
          have cxc := eq_true cx
          clear hrk hfk hszk hSx hzx hall hS hz hnx ih hY hJ hsz hrd hk hpl hM hq hR hx p0 cx h2 h8 hBW hwB hn ht hf H hw hAY hBA hBY hcp
          gi_wp2_with ((try first | (refine ⟨trivial, fun h => (by cases h), ?_⟩) | (refine ⟨trivial, ?_⟩) | (refine ⟨fun h => (by cases h), ?_⟩)); gi_at_call 65; refine HG.out.mono ?_; clear HG; rintro e w5 (⟨rfl, hM5, hK5⟩ | ⟨rfl, j, hj⟩))
          · have HM5 := Aside0.mk hM5
            have HK5 := Aside0.mk hK5
            clear hM5 hK5
            go_roundw
            case rel =>
              refine ⟨wrap64 (x + 1), by first | rfl | simp, ?_, ?_, HQ.out.trans HK5.out, HK5.out.row HBW.out HR.out⟩
              · have := HX.out; have := HK8.out; have := HCX.out; unfold wrap64; omega
              · rw [show (wrap64 (x + 1)).toNat = x.toNat + 1 by have := HX.out; have := HK8.out; have := HCX.out; unfold wrap64; omega, HNX.out, List.length_append, ← Nat.add_assoc]
                exact HM5.out
            case measure =>
              have h1 := HX.out
              have h2 := HK8.out
              have h3 := HCX.out
              have e : wrap64 (x + 1) = x + 1 := by unfold wrap64; omega
              simp only [numOf]
              omega
          · go_ret
            exact .inr ⟨rfl, j, hj⟩
        · have cxb : decide (x < (ks.length : Int)) = false := decide_eq_false cx
          obtain rfl : x = ks.length := by omega
          rw [Int.toNat_natCast, List.take_length] at hM
          gi_wp2
          go_ret
          exact .inl ⟨rfl, hM, hq⟩
    · have ch0 : t.height = 0 := by
        have hn := fine_none hf
        cases hf with
        | leaf s r l hf ho => unfold Tr.height; rw [hn]; rfl
        | join kids d h2 h8 hl hd hk =>
          exfalso; apply ch
          unfold Tr.height
          rw [hn]
          have := (joinT_e hl (by omega)).2.1
          have := hl.d0
          simp only [Bool.false_eq_true, if_false]
          omega
      obtain ⟨hpk, hsz1, hln⟩ := at_leaf 0 0 (.inr hf) ch
      obtain ⟨s, hs⟩ : ∃ s, chunks t = [s] := by
        have := List.length_pos_iff.mpr (fine_chunks hf)
        exact List.length_eq_one_iff.mp (by omega)
      have HHE : ∀ W', Below W.heap.size W W' → Calls Try.prog 83 #[.pointer q] W' fun e w' => e = .returned (.int .i64 t.height) ∧ W' = w' := fun W' hb => height_calls W' q t (H.below (hM.b.trans (hb.mono hM.b.size)))
      have HTX : ∀ W', Below W.heap.size W W' → Calls Try.prog 86 #[.pointer q] W' fun e w' => e = .returned (.string (cat (chunks t))) ∧ Below W'.heap.size W' w' := fun W' hb => text_calls W' q t (H.below (hM.b.trans (hb.mono hM.b.size))) (by omega) (by omega)
      rw [hs] at HTX hS ⊢
      rw [Gc.cat_one] at HTX
      have hone := hS.one
      have hkl := hS.le
      have HSE := fun W' (hm : Mid w0 C B bA bY br l g J k W') => see_in (n - 1) hJ hBA hAY hBY hsz hw hY k (by have := hkl; simp at this; omega) W' hm
      rw [hone] at HSE
      have HKD : Calls Try.prog 84 #[.pointer q] W (KidsPost W t.kids) := kids_calls W q t (H.below hM.b) (by
        cases hf with
        | leaf s r l hf ho => exact Nat.zero_le _
        | join kids d h2 h8 hl hd hk => exfalso; exact absurd ch0 (by
            have hn := fine_none (FineT.join kids d h2 h8 hl hd hk)
            unfold Tr.height; rw [hn]
            have := (joinT_e hl (by omega)).2.1
            have := hl.d0
            simp only [Bool.false_eq_true, if_false]
            omega))
      rw [ch0] at HHE
      clear ih hpk hsz1 hln hs hS hz hY hone hkl hf H ch ch0
      refine callsIn_of_wp Try.func65 rfl trivial ?_ rfl
      simp only [Try.ntmps65, List.size_toArray, List.length_cons, List.length_nil, Nat.reduceAdd, Nat.reduceSub, Array.replicate_succ, Array.replicate_zero, List.push_toArray, List.append_toArray, List.nil_append, List.cons_append]
      gi_wp2_with (first
        | ((try first | (refine ⟨trivial, fun h => (by cases h), ?_⟩) | (refine ⟨trivial, ?_⟩) | (refine ⟨fun h => (by cases h), ?_⟩)); gi_at_call 84; refine (callsIn_wide.2 HKD).mono ?_; rintro e w2 ⟨A, cp, ps, rfl, hcp, hr, hb2⟩)
        | ((try first | (refine ⟨trivial, fun h => (by cases h), ?_⟩) | (refine ⟨trivial, ?_⟩) | (refine ⟨fun h => (by cases h), ?_⟩)); gi_at_call 83; refine (callsIn_wide.2 (HHE _ hb2)).mono ?_; rintro e w3 ⟨rfl, rfl⟩)
        | ((try first | (refine ⟨trivial, fun h => (by cases h), ?_⟩) | (refine ⟨trivial, ?_⟩) | (refine ⟨fun h => (by cases h), ?_⟩)); gi_at_call 86; refine (callsIn_wide.2 (HTX _ hb2)).mono ?_; rintro e w4 ⟨rfl, hb4⟩))
      have hb5 := below_step hb2 hb4
      have hm4 := hM.calm hJ hb5
      have hq4 : Kq w0 B W w4 := Kq.calm hM.b.size hb5
      refine ⟨trivial, fun h => (by cases h), (HSE _ hm4).mono ?_⟩
      clear HSE HTX HHE HKD
      rintro e w5 (⟨rfl, hM5, hK5⟩ | ⟨rfl, j, hj⟩)
      · gi_wp2
        go_ret
        exact .inl ⟨rfl, hM5, hq4.trans hK5⟩
      · gi_wp2
        go_ret
        exact .inr ⟨rfl, j, hj⟩
set_option maxHeartbeats 1000000 in
theorem leaves_nil (n : Nat) (W : World) (a b : Value) : CallsIn Fence.wide n Try.prog 65 #[.pointer none, .bool false, .func (.func 66) #[] #[a, b]] W fun e W' => e = .returned (.bool true) ∧ Below W.heap.size W W' := by
  have HKD : Calls Try.prog 84 #[.pointer none] W (KidsPost W Tr.nil.kids) := kids_calls W none .nil .nil (Nat.zero_le _)
  have HHE : ∀ W', Calls Try.prog 83 #[.pointer none] W' fun e w' => e = .returned (.int .i64 (-1)) ∧ W' = w' := fun W' => height_calls W' none .nil .nil
  refine callsIn_of_wp Try.func65 rfl trivial ?_ rfl
  simp only [Try.ntmps65, List.size_toArray, List.length_cons, List.length_nil, Nat.reduceAdd, Nat.reduceSub, Array.replicate_succ, Array.replicate_zero, List.push_toArray, List.append_toArray, List.nil_append, List.cons_append]
  gi_wp2_with (first
    | ((try first | (refine ⟨trivial, fun h => (by cases h), ?_⟩) | (refine ⟨trivial, ?_⟩) | (refine ⟨fun h => (by cases h), ?_⟩)); gi_at_call 84; refine (callsIn_wide.2 HKD).mono ?_; rintro e w2 ⟨A, cp, ps, rfl, hcp, hr, hb2⟩)
    | ((try first | (refine ⟨trivial, fun h => (by cases h), ?_⟩) | (refine ⟨trivial, ?_⟩) | (refine ⟨fun h => (by cases h), ?_⟩)); gi_at_call 83; refine (callsIn_wide.2 (HHE _)).mono ?_; rintro e w3 ⟨rfl, rfl⟩))
  gi_loopw [21] (fun v wr => v = .int .i64 0 ∧ wr = w2) (fun v wr => 0)
  case atStart => exact ⟨rfl, rfl⟩
  case round =>
    obtain ⟨rfl, rfl⟩ := hrel
    have e : Tr.nil.kids.length = 0 := rfl
    gi_wp2
    go_ret
    exact ⟨rfl, hb2⟩
end
theorem room_wide (k : Nat) : Fence.wide.room k := fun d h => by cases h
theorem yield_any {m : Nat} (m' : Nat) {l : Nat} {args : Array Value} {W : World} {R : Ending → World → Prop} (h : YieldAt Fence.wide m Try.prog l args W R) : YieldAt Fence.wide m' Try.prog l args W R := by
  obtain ⟨fn, tmps, assign, body, hy, hR⟩ := h
  exact ⟨fn, tmps, assign, body, hy, ⟨hR.1, fun c cs _ => hR.2 c cs (room_wide _)⟩⟩
theorem Kp.less {n₀ B B' br : Nat} {W W' : World} (h : Kp n₀ B br W W') (hB : B ≤ B') : Kp n₀ B' br W W' := ⟨h.b, h.r, fun k cs t x hk => h.o k cs t x (Nat.le_trans hB hk)⟩
set_option maxHeartbeats 2000000 in
set_option maxRecDepth 100000 in
theorem chunks1_seq {w0 : World} {g : Nat} {p : Option Addr} {t : Tr} {C : List ByteArray} (h : Rope w0 g p t C) (n : Nat) (B br : Nat) (w : World) (hB : B ≤ w.heap.size) (hb : Below w0.heap.size w0 w) (hbr : Boxed w br 24 (.pointer (some ⟨g, 0, none⟩))) :
    Seq Fence.wide n Try.prog 64 #[.pointer (some ⟨br, 0, none⟩)] (chunkE C) (Kp w0.heap.size B br) C.length w := by
  intro l J Jx W hW hJ hJx hY h0
  have hbW : Below w0.heap.size w0 W := hb.trans (hW.mono hb.size)
  have hbrW : Boxed W br 24 (.pointer (some ⟨g, 0, none⟩)) := (hW.block br hbr.lt).trans hbr
  obtain ⟨W2, hW2⟩ : ∃ W2, ((W.alloc (.cells #[.func (.yield l) #[] #[]] 100)).alloc (.cells #[.int .i64 0] 3)) = W2 := ⟨_, rfl⟩
  have bY := Boxed.new W 100 (.func (.yield l) #[] #[])
  have bA := Boxed.new (W.alloc (.cells #[.func (.yield l) #[] #[]] 100)) 3 (.int .i64 0)
  rw [World.size_alloc] at bA
  have bY2 := bY.alloc (.cells #[.int .i64 0] 3)
  have bR2 := (hbrW.alloc (.cells #[.func (.yield l) #[] #[]] 100)).alloc (.cells #[.int .i64 0] 3)
  have hj2 : J 0 ((W.alloc (.cells #[.func (.yield l) #[] #[]] 100)).alloc (.cells #[.int .i64 0] 3)) := hJ 0 _ _ none (hJ 0 _ _ none h0 (World.grownBy_alloc W _ none) (fun r e => by cases e)) (World.grownBy_alloc _ _ none) (fun r e => by cases e)
  have hb2 : Below W.heap.size W ((W.alloc (.cells #[.func (.yield l) #[] #[]] 100)).alloc (.cells #[.int .i64 0] 3)) := ((Below.refl _ W).alloc (Nat.le_refl _) _).alloc (by simp) _
  rw [hW2] at bA bY2 bR2 hj2 hb2
  have hbW2 : Below w0.heap.size w0 W2 := hbW.trans (hb2.mono hbW.size)
  have hM : Mid w0 C W.heap.size (W.heap.size + 1) W.heap.size br l g J 0 W2 := ⟨hj2, bA, bY2, hbW2⟩
  have hs := h.s 0
  have hsz : ∀ k, k ≤ C.length → pos C k ≤ 5000 ∧ 0 ≤ pos C k := fun k hk => by
    have e : kt 0 C = kt 0 (C.take k) + kt 0 (C.drop k) := by rw [← kt_app, List.take_append_drop]
    have := kt_nonneg 0 (C.drop k)
    have := kt_nonneg 0 (C.take k)
    unfold pos
    omega
  have hRT : Calls Try.prog 62 #[.pointer (some ⟨g, 0, none⟩)] W2 fun e w' => e = .returned (.pointer p) ∧ W2 = w' := h.root hbW2
  have hLV : CallsIn Fence.wide (n - 1) Try.prog 65 #[.pointer p, .bool false, .func (.func 66) #[] #[.pointer (some ⟨W.heap.size + 1, 0, none⟩), .pointer (some ⟨W.heap.size, 0, none⟩)]] W2 fun e W' =>
      (e = .returned (.bool true) ∧ J C.length W') ∨ (e = .returned (.bool false) ∧ ∃ j, Jx j W') := by
    rcases h.f with e | hf
    · have hd := h.d
      have hc := h.c
      subst e
      obtain rfl := hd.nil_
      have ec : C = [] := by rw [← hc, chunks]
      rw [ec]
      exact (leaves_nil (n - 1) W2 _ _).mono fun e w' ⟨he, hb⟩ => .inl ⟨he, still_calm (fun A A' row hx hg hr => hJ 0 A A' row hx hg hr) hj2 hb⟩
    · have := leaves_in (w0 := w0) (C := C) (B := W.heap.size) (bA := W.heap.size + 1) (bY := W.heap.size) (br := br) (l := l) (g := g) (J := J) (Jx := Jx) hJ (by omega) (by omega) (Nat.le_refl _) hsz hbW.size
        (fun m k W1 hk hj => (yield_any m (hY k W1 hk hj)).mono fun e W' hh => hh.elim (fun ⟨a, b, c⟩ => .inl ⟨a, b, c.less (by have := hW.size; omega)⟩) .inr)
        (SizeOf.sizeOf t + 1) t (by omega) hf (n - 1) W2 p 0 h.d hM ⟨[], [], by rw [h.c]; simp, rfl⟩ (by
          rw [h.c]
          rw [kt_cat] at hs
          have : kf 0 (cat C) = ((cat C).size : Int) := rfl
          omega)
      refine this.mono fun e W' hh => ?_
      rcases hh with ⟨a, b, c⟩ | ⟨a, b⟩
      · left
        have := b.j
        rw [h.c, Nat.zero_add] at this
        exact ⟨a, this⟩
      · exact .inr ⟨a, b⟩
  have hcR := bR2.cell
  have hcR0 := hbrW.cell
  have hcR1 := (hbrW.alloc (.cells #[.func (.yield l) #[] #[]] 100)).cell
  clear hY h0 hbrW bY bA bY2 hj2 hM hs hsz hb2 bR2 h
  refine callsIn_of_wp Try.func64 rfl trivial ?_ rfl
  simp only [Try.ntmps64, List.size_toArray, List.length_cons, List.length_nil, Nat.reduceAdd, Nat.reduceSub, Array.replicate_succ, Array.replicate_zero, List.push_toArray, List.append_toArray, List.nil_append, List.cons_append]
  subst hW2
  gi_wp2_with (first
    | ((try first | (refine ⟨trivial, fun h => (by cases h), ?_⟩) | (refine ⟨trivial, ?_⟩) | (refine ⟨fun h => (by cases h), ?_⟩)); gi_at_call 62; refine (callsIn_wide.2 hRT).mono ?_; rintro e w3 ⟨rfl, rfl⟩)
    | ((try first | (refine ⟨trivial, fun h => (by cases h), ?_⟩) | (refine ⟨trivial, ?_⟩) | (refine ⟨fun h => (by cases h), ?_⟩)); gi_at_call 65; refine hLV.mono ?_; clear hLV; rintro e w5 (⟨rfl, hj⟩ | ⟨rfl, j, hj⟩)))
  · go_end0
    exact ⟨⟨_, rfl⟩, .inl hj⟩
  · go_end0
    exact ⟨⟨_, rfl⟩, .inr ⟨j, hj⟩⟩
/-- walk.Chunks: the rope is boxed -/
theorem chunks_calls (g n : Nat) (w : World) : CallsIn Fence.wide n Try.prog 37 #[.pointer (some ⟨g, 0, none⟩)] w fun e w' => e = .returned (.func (.func 64) #[] #[.pointer (some ⟨w.heap.size, 0, none⟩)]) ∧ w' = w.alloc (.cells #[.pointer (some ⟨g, 0, none⟩)] 24) := by
  refine callsIn_of_wp Try.func37 rfl trivial ?_ rfl
  simp only [Try.ntmps37, List.size_toArray, List.length_cons, List.length_nil, Nat.reduceAdd, Nat.reduceSub, Array.replicate_succ, Array.replicate_zero, List.push_toArray, List.append_toArray, List.nil_append, List.cons_append]
  gi_wp2
  go_ret
  exact ⟨rfl, rfl⟩
end Go.Proofs.Ytdcnoiofimngpaa.Wc
