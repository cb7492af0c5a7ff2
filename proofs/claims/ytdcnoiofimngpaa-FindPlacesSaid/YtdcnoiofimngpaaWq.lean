import Derived.Test.YtdcnoiofimngpaaWl
import Derived.BigQuiet
import Derived.OrdersIn
import Derived.OwnWalkIn
import Derived.Test.YtdcnoiofimngpaaWc
/- A region that draws its order and only reads, within a round of a range over a function: one walk in the text's order serves. -/
namespace Go.Proofs.Ytdcnoiofimngpaa.Wq
open Go Go.RowKit
set_option linter.unusedVariables false
variable {P : Program} {ops : Array Oper} {md : Region.Mode} {C : World → Prop} {l n : Nat}
/-- no operation puts a call off -/
def calmB (ops : List Oper) : Bool := ops.all fun o => match o.op with | .defer _ => false | _ => true
theorem calm_spec {ops : List Oper} (h : calmB ops = true) {o : Oper} (ho : o ∈ ops) : ∀ c, o.op ≠ .defer c := by
  intro c e
  have := List.all_eq_true.mp h o ho
  rw [e] at this
  cases this
theorem op_in {o : Oper} {a : Act} {K : Act → Prop} {K' : Act → World → Prop} {Q' : Exit → Act → World → Prop} {w : World} (hd : ∀ c, o.op ≠ .defer c) (hw : C w) (h : ∀ a w', C w' → K a → K' a w') (hh : o.quiet P a C K) : o.wpIn (Fence.wide.inRound l) n P a w K' Q' := by
  obtain ⟨v, h1, h2⟩ := hh
  have h3 := h1 w hw
  refine ⟨fun _ _ => trivial, ?_⟩
  rw [Oper.semAt_plain _ _ _ hd]
  unfold Oper.quietAt at h3
  generalize (execOp a.eval o).run P w = r at *
  match r, h3 with
  | .ok (.value u) w', ⟨e1, e2⟩ => subst e1; subst e2; exact h _ _ hw h2
  | .ok .skip w', ⟨e1, e2⟩ => subst e1; subst e2; exact h _ _ hw h2
  | .ok (.enter f args) w', ⟨e1, hc⟩ =>
    subst e1
    refine ⟨fun hx => (by cases hx), CallsIn.inRound l ((callsIn_wide.2 hc).mono fun e w'' ⟨he, hw''⟩ => ?_)⟩
    subst he
    exact h _ _ hw'' h2
theorem at_in {i : Nat} {a : Act} {K : Act → Prop} {K' : Act → World → Prop} {Q' : Exit → Act → World → Prop} {w : World} (hd : calmB ops.toList = true) (hC : C w) (h : ∀ a w', C w' → K a → K' a w') (hh : qOp P ops C i K a) : wpOpIn (Fence.wide.inRound l) n P ops Q' i K' a w := by
  unfold qOp at hh
  unfold wpOpIn
  cases ho : ops[i]? with
  | none => simp only [ho] at hh; exact h _ _ hC hh
  | some o =>
    simp only [ho] at hh
    by_cases hw : Region.wanted o (yielded ops a.tmps) = true
    · simp only [hw, if_true] at hh ⊢
      exact op_in (calm_spec hd (Array.mem_toList_iff.mpr (Array.mem_of_getElem? ho))) hC h hh
    · simp only [hw] at hh ⊢
      exact ⟨fun _ _ => trivial, h _ _ hC hh⟩
theorem any_in (hd : calmB ops.toList = true) {Q : Act → Prop} {Q' : Exit → Act → World → Prop} (hQ : ∀ a w, C w → Q a → Q' .normal a w) : ∀ (fuel : Nat) (listed : Array Bool) (a : Act) (w : World), C w → wpAnyQ P md ops C Q fuel listed a → wpAnyIn (Fence.wide.inRound l) n P md ops Q' fuel listed a w
  | 0, _, _, _, hw, h => ⟨h.1, hQ _ _ hw h.2⟩
  | fuel + 1, _, _, _, hw, h => ⟨fun h0 => hQ _ _ hw (h.1 h0), fun i hi => at_in hd hw (fun a' w' hw' => any_in hd hQ fuel _ a' w' hw') (h.2 i hi)⟩
theorem quiet_in {id : Nat} {Q : Exit → Act → World → Prop} {a : Act} {w : World} {L : List Oper} (hm : P.follows .mixedOrders = true) (hB : Region.lexB .any L.toArray = true) (hd : calmB L = true)
    (h : wpQuiet P L.toArray (fun w' => ∃ n, w' = w.drewN n) (fun a' => ∀ w', (∃ n, w' = w.drewN n) → Q .normal a' w') L a) : (Code.region id L.toArray true).wpIn (Fence.wide.inRound l) n P Q a w := by
  simp only [Region.lexB, Bool.and_eq_true] at hB
  refine wpIn_region_any hm (any_in (C := fun w' => ∃ n, w' = w.drewN n) (Q := fun a' => ∀ w', (∃ n, w' = w.drewN n) → Q .normal a' w') (by simpa using hd) (fun _ w' hw' h => h w' hw') _ _ _ _ ⟨1, rfl⟩ ?_)
  have := wpAnyQ_lex (C := fun w' => ∃ n, w' = w.drewN n) (md := .any) hB.1 L 0 (Array.replicate L.toArray.size false) a (by simp) (by simpa using hB.2) h
  simpa using this
end Go.Proofs.Ytdcnoiofimngpaa.Wq
/- find.Next: the walk. -/
namespace Go.Proofs.Ytdcnoiofimngpaa.Fn
open Go.RowKit Go.Shelf Go.Proofs.Ytdcnoiofimngpaa.U Go.Proofs.Ytdcnoiofimngpaa.QK Go.Proofs.Ytdcnoiofimngpaa.Kt Go.Proofs.Ytdcnoiofimngpaa.Kc Go.Proofs.Ytdcnoiofimngpaa.Kh Go.Proofs.Ytdcnoiofimngpaa.Kj Go.Proofs.Ytdcnoiofimngpaa.Kk Go.Proofs.Ytdcnoiofimngpaa.Gs Go.Proofs.Ytdcnoiofimngpaa.Gt Go.Proofs.Ytdcnoiofimngpaa.Gr Go.Proofs.Ytdcnoiofimngpaa.Wl Go.Proofs.Ytdcnoiofimngpaa.Wc Go.Proofs.Ytdcnoiofimngpaa.Wq Go.Proofs.YtdcnoiofimngpaaW.PrintWords Go.Proofs.YtdcnoiofimngpaaW.PrintLast Go.Proofs.YtdcnoiofimngpaaW.PrintMore
set_option linter.unusedVariables false
set_option linter.unusedSimpArgs false
attribute [local go_sem] Oper.semAt_some max2_int min2_int max_two min_two
/-- the window's block -/
def Win (W : World) (b : Nat) (at_ : Int) (s : ByteArray) : Prop := W.heap[b]? = some (.cells #[.int .i64 at_, .string s] 82 (0, 0))
theorem Win.c0 {W : World} {b : Nat} {x : Int} {s : ByteArray} (h : Win W b x s) : W.cell? ⟨b, 0, none⟩ = some (.int .i64 x) := (blk_cell h 0).trans rfl
theorem Win.c1 {W : World} {b : Nat} {x : Int} {s : ByteArray} (h : Win W b x s) : W.cell? ⟨b, 1, none⟩ = some (.string s) := (blk_cell h 1).trans rfl
theorem Win.f {W : World} {b : Nat} {x : Int} {s : ByteArray} (h : Win W b x s) (j : Nat) : W.frozen? ⟨b, j, none⟩ = false := by simp [World.frozen?, show W.heap[b]? = _ from h]
theorem Win.s0 {W : World} {b : Nat} {x : Int} {s : ByteArray} (h : Win W b x s) (y : Int) : Win (W.setCell ⟨b, 0, none⟩ (.int .i64 y)) b y s := blk_put (cs := #[.int .i64 x, .string s]) h 0 _ rfl
theorem Win.s1 {W : World} {b : Nat} {x : Int} {s : ByteArray} (h : Win W b x s) (u : ByteArray) : Win (W.setCell ⟨b, 1, none⟩ (.string u)) b x u := blk_put (cs := #[.int .i64 x, .string s]) h 1 _ rfl
theorem grown_cell (W : World) (b j : Nat) (v : Value) : W.grownBy (W.setCell ⟨b, j, none⟩ v) (some b) :=
  ⟨rfl, rfl, rfl, (KeepsWalks.setCell W _ v).size, fun k _ hk => Below.heap_setCell _ _ _ k (fun e => hk (by rw [e]))⟩
theorem grown_trans {A B C : World} {b : Nat} (h : A.grownBy B (some b)) (k : B.grownBy C (some b)) : A.grownBy C (some b) :=
  ⟨k.os.trans h.os, k.tape.trans h.tape, k.output.trans h.output, Nat.le_trans h.size k.size, fun j hj hn => (k.block j (Nat.lt_of_lt_of_le hj h.size) hn).trans (h.block j hj hn)⟩
/-- the window behind a push -/
def pushAt (x : Int) (u : ByteArray) (n : Int) : Int := if 0 < (u.size : Int) - n + 1 then x + ((u.size : Int) - n + 1) else x
def pushS (u : ByteArray) (n : Int) (s : ByteArray) : ByteArray := (if 0 < (u.size : Int) - n + 1 then u.extract ((u.size : Int) - n + 1).toNat u.size else u) ++ s
set_option maxHeartbeats 2000000 in
set_option maxRecDepth 100000 in
theorem push_calls (W : World) (b : Nat) (x n : Int) (u s : ByteArray) (h : Win W b x u) (hx : 0 ≤ x ∧ x ≤ 100000) (hn : 1 ≤ n ∧ n ≤ 100000) (hu : u.size ≤ 100000) (hs : s.size ≤ 100000) :
    Calls Try.prog 51 #[.pointer (some ⟨b, 0, none⟩), .string s, .int .i64 n] W fun e W' => (∃ v, e = .returned v) ∧ Win W' b (pushAt x u n) (pushS u n s) ∧ W.grownBy W' (some b) := by
  have hux := Try.underlying82
  have hc0 := h.c0
  have hc1 := h.c1
  have hf0 := h.f 0
  have hf1 := h.f 1
  have w1 : wrap64 (wrap64 ((u.size : Int) - n) + 1) = (u.size : Int) - n + 1 := by unfold wrap64; omega
  unfold pushAt pushS
  by_cases c : 0 < (u.size : Int) - n + 1
  · rw [if_pos c, if_pos c]
    have cb : decide (0 < (u.size : Int) - n + 1) = true := decide_eq_true c
    obtain ⟨d, hd⟩ : ∃ d, (u.size : Int) - n + 1 = d := ⟨_, rfl⟩
    rw [hd] at w1 cb c ⊢
    have q0 : 0 ≤ d := by omega
    have q1 : d ≤ (u.size : Int) := by omega
    have q0c := eq_true q0
    have q1c := eq_true q1
    have e0 : decide (0 ≤ d) = true := decide_eq_true q0
    have e1 : decide (d ≤ (u.size : Int)) = true := decide_eq_true q1
    have w2 : wrap64 (x + d) = x + d := by unfold wrap64; omega
    obtain ⟨u2, hu2⟩ : ∃ u2, u.extract d.toNat u.size = u2 := ⟨_, rfl⟩
    rw [hu2]
    have hu3 : u2.size ≤ 100000 := by rw [← hu2, ByteArray.size_extract]; omega
    have m6 : (9223372036854775807 < u2.size + s.size) = False := eq_false (by omega)
    have h1 := h.s0 (x + d)
    have h2 := h1.s1 u2
    have H := Aside0.mk (h2.s1 (u2 ++ s))
    have hc2 := h1.c1
    have hf2 := h1.f 1
    have hc3 := h2.c1
    have hf3 := h2.f 1
    have HG := Aside0.mk (grown_trans (grown_trans (grown_cell W b 0 (.int .i64 (x + d))) (grown_cell _ b 1 (.string u2))) (grown_cell _ b 1 (.string (u2 ++ s))))
    clear h c hx hn hu hs hd q0 q1 h1 h2 hu3
    go_enter Try.func51, Try.ntmps51
    go_wp2
    go_end0
    exact ⟨⟨_, rfl⟩, H.out, HG.out⟩
  · rw [if_neg c, if_neg c]
    have cb : decide (0 < (u.size : Int) - n + 1) = false := decide_eq_false c
    have m6 : (9223372036854775807 < u.size + s.size) = False := eq_false (by omega)
    have H := Aside0.mk (h.s1 (u ++ s))
    clear h c hx hn hu hs
    go_enter Try.func51, Try.ntmps51
    go_wp2
    go_end0
    exact ⟨⟨_, rfl⟩, H.out, grown_cell _ _ _ _⟩
/-- does a text stand at a place? -/
def hit (s w : List UInt8) (i : Nat) : Prop := (s.drop i).take w.length = w
/-- the next place, from f on -/
def IsNext (s w : List UInt8) (f x : Int) (b : Bool) : Prop :=
  (b = true ∧ w ≠ [] ∧ ∃ i : Nat, x = i ∧ (f ≤ i) ∧ hit s w i ∧ ∀ j : Nat, f ≤ j → j < i → ¬ hit s w j) ∨ (b = false ∧ x = 0 ∧ (w = [] ∨ ∀ j : Nat, f ≤ j → ¬ hit s w j))
/-- the window, in plain words: P bytes are gone over -/
structure Wi (S wl : List UInt8) (F : Int) (P : Nat) (x : Int) (u : List UInt8) : Prop where
  x0 : 0 ≤ x
  len : x + u.length = P
  eq : u = (S.take P).drop x.toNat
  le : P ≤ S.length
  old : ∀ j : Nat, F ≤ j → j + wl.length ≤ P → ¬ hit S wl j
  new : ∀ j : Nat, F ≤ j → P < j + wl.length → x ≤ j
theorem Wi.start (S wl : List UInt8) (F : Int) (hF : 0 ≤ F) (hw : wl ≠ []) : Wi S wl F 0 0 [] :=
  ⟨Int.le_refl _, rfl, by simp, Nat.zero_le _, fun j h1 h2 h3 => by have := List.length_pos_iff.mpr hw; omega, fun j h1 h2 => by omega⟩
theorem Wi.skip {S wl : List UInt8} {F : Int} {P P' : Nat} {x : Int} {u : List UInt8} (h : Wi S wl F P x u) (hF : (P' : Int) ≤ F - wl.length) (hw : wl ≠ []) (hle : P' ≤ S.length) : Wi S wl F P' P' [] := by
  have := List.length_pos_iff.mpr hw
  exact ⟨by omega, by simp, by rw [Int.toNat_natCast, List.drop_eq_nil_of_le (by rw [List.length_take]; omega)], hle, fun j h1 h2 => by omega, fun j h1 h2 => by omega⟩
/-- a place in the window -/
theorem in_win {S : List UInt8} {P' : Nat} {x : Int} {u : List UInt8} (h0 : 0 ≤ x) (hu : u = (S.take P').drop x.toNat) (i n : Nat) (hi : x.toNat + i + n ≤ P') : (u.drop i).take n = (S.drop (x.toNat + i)).take n := by
  rw [hu, List.drop_drop, List.drop_take, List.take_take, Nat.min_eq_left (by omega)]
/-- behind a push, ahead of the looking -/
structure Wj (S wl : List UInt8) (F : Int) (P P' : Nat) (x : Int) (u : List UInt8) : Prop where
  x0 : 0 ≤ x
  len : x + u.length = P'
  eq : u = (S.take P').drop x.toNat
  le : P' ≤ S.length
  old : ∀ j : Nat, F ≤ j → j + wl.length ≤ P → ¬ hit S wl j
  new : ∀ j : Nat, F ≤ j → P < j + wl.length → x ≤ j
theorem Wi.push {S : List UInt8} {what : ByteArray} {F : Int} {P : Nat} {x : Int} {u s : ByteArray} (h : Wi S (ld what) F P x (ld u)) (hw : ld what ≠ []) (hs : ld s = (S.drop P).take s.size) (hle : P + s.size ≤ S.length) :
    Wj S (ld what) F P (P + s.size) (pushAt x u what.size) (ld (pushS u what.size s)) := by
  have hpos := List.length_pos_iff.mpr hw
  have hl := h.len
  have hx := h.x0
  have hn := h.new
  rw [ld_len] at hl hpos
  rw [ld_len] at hn
  have hus := ld_len u
  have hss := ld_len s
  unfold pushAt pushS
  by_cases c : 0 < (u.size : Int) - what.size + 1
  · rw [if_pos c, if_pos c]
    obtain ⟨d, hd⟩ : ∃ d : Nat, (u.size : Int) - what.size + 1 = d := ⟨((u.size : Int) - what.size + 1).toNat, by omega⟩
    rw [hd, Int.toNat_natCast]
    have e1 : ld (u.extract d u.size ++ s) = (ld u).drop d ++ ld s := by rw [Gc.ld_app, Gc.ld_drop]
    refine ⟨by omega, ?_, ?_, hle, h.old, fun j h1 h2 => by rw [ld_len] at h2; omega⟩
    · rw [e1, List.length_append, List.length_drop, hus, hss]; omega
    · rw [e1, h.eq, hs, List.drop_drop, List.take_add, List.drop_append_of_le_length (by rw [List.length_take]; omega)]
      congr 2
      omega
  · rw [if_neg c, if_neg c]
    have e1 : ld (u ++ s) = ld u ++ ld s := Gc.ld_app _ _
    refine ⟨hx, ?_, ?_, hle, h.old, fun j h1 h2 => by rw [ld_len] at h2; exact hn j h1 h2⟩
    · rw [e1, List.length_append, hus, hss]; omega
    · rw [e1, h.eq, hs, List.take_add, List.drop_append_of_le_length (by rw [List.length_take]; omega)]
theorem Wj.none {S wl : List UInt8} {F : Int} {P P' : Nat} {x : Int} {u : List UInt8} (h : Wj S wl F P P' x u) (hP : P ≤ P') (hno : ∀ i : Nat, i + wl.length ≤ u.length → F ≤ x + i → ¬ (u.drop i).take wl.length = wl) : Wi S wl F P' x u := by
  have hx := h.x0
  have hl := h.len
  refine ⟨hx, hl, h.eq, h.le, fun j h1 h2 h3 => ?_, fun j h1 h2 => h.new j h1 (by omega)⟩
  by_cases c : j + wl.length ≤ P
  · exact h.old j h1 c h3
  · have h4 := h.new j h1 (by omega)
    have e := in_win hx h.eq (j - x.toNat) wl.length (by omega)
    refine hno (j - x.toNat) (by omega) (by omega) ?_
    rw [e, show x.toNat + (j - x.toNat) = j by omega]
    exact h3
theorem Wj.found {S wl : List UInt8} {f F : Int} {P P' : Nat} {x : Int} {u : List UInt8} (h : Wj S wl F P P' x u) (hP : P ≤ P') (hw : wl ≠ []) (hF : F = if f < 0 then 0 else f) (i : Nat) (hi : i + wl.length ≤ u.length) (hge : F ≤ x + i) (hm : (u.drop i).take wl.length = wl)
    (hno : ∀ i' : Nat, i' < i → F ≤ x + i' → ¬ (u.drop i').take wl.length = wl) : IsNext S wl f (x + i) true := by
  have hx := h.x0
  have hl := h.len
  have hFf : f ≤ F ∧ 0 ≤ F ∧ (0 ≤ f → F = f) := by rw [hF]; split <;> omega
  refine .inl ⟨rfl, hw, x.toNat + i, by omega, by omega, ?_, fun j h1 h2 h3 => ?_⟩
  · unfold hit
    rw [← in_win hx h.eq i wl.length (by omega)]
    exact hm
  · have hFj : F ≤ j := by
      rcases Int.lt_or_le f 0 with c | c
      · rw [hF, if_pos c]; omega
      · rw [hFf.2.2 c]; exact h1
    by_cases c : j + wl.length ≤ P
    · exact h.old j hFj c h3
    · have h4 := h.new j hFj (by omega)
      have e := in_win hx h.eq (j - x.toNat) wl.length (by omega)
      refine hno (j - x.toNat) (by omega) (by omega) ?_
      rw [e, show x.toNat + (j - x.toNat) = j by omega]
      exact h3
theorem Wi.end_ {S wl : List UInt8} {f F x : Int} {u : List UInt8} (h : Wi S wl F S.length x u) (hw : wl ≠ []) (hF : F = if f < 0 then 0 else f) : IsNext S wl f 0 false := by
  refine .inr ⟨rfl, rfl, .inr fun j h1 h3 => ?_⟩
  have hFj : F ≤ j := by rw [hF]; split <;> omega
  have hl : j + wl.length ≤ S.length := by
    have e := congrArg List.length h3
    rw [List.length_take, List.length_drop] at e
    have := List.length_pos_iff.mpr hw
    omega
  exact h.old j hFj hl h3
/-- what lies between two rounds of Next -/
structure Nx (w : World) (g : Nat) (what : ByteArray) (F : Int) (S : List UInt8) (P : Nat) (W : World) : Prop where
  q0 : Boxed W w.heap.size 9 (.string what)
  q1 : Boxed W (w.heap.size + 1) 3 (.int .i64 F)
  q2 : Boxed W (w.heap.size + 1 + 1) 3 (.int .i64 0)
  q3 : Boxed W (w.heap.size + 1 + 1 + 1) 4 (.bool false)
  q4 : Boxed W (w.heap.size + 1 + 1 + 1 + 1) 3 (.int .i64 what.size)
  q5 : ∃ x u, Win W (w.heap.size + 1 + 1 + 1 + 1 + 1) x u ∧ Wi S (ld what) F P x (ld u)
  q6 : Boxed W (w.heap.size + 1 + 1 + 1 + 1 + 1 + 1) 24 (.pointer (some ⟨g, 0, none⟩))
  b : Below w.heap.size w W
theorem Win.kept {W W' : World} {row : Option Nat} {b : Nat} {x : Int} {u : ByteArray} (h : Win W b x u) (hg : W.grownBy W' row) (hne : some b ≠ row) : Win W' b x u := (hg.block b (lt_of_at h) hne).trans h
theorem Nx.firm {w : World} {g : Nat} {what : ByteArray} {F : Int} {S : List UInt8} {P : Nat} : Firm (w.heap.size + 1 + 1 + 1 + 1 + 1 + 1 + 1) (Nx w g what F S P) := by
  intro A A' row hs hg hr
  have ne : ∀ b, b < w.heap.size + 1 + 1 + 1 + 1 + 1 + 1 + 1 → some b ≠ row := fun b hb e => by have := (hr b e.symm).1; omega
  obtain ⟨x, u, hw, hi⟩ := hs.q5
  exact ⟨hs.q0.kept hg (ne _ (by omega)), hs.q1.kept hg (ne _ (by omega)), hs.q2.kept hg (ne _ (by omega)), hs.q3.kept hg (ne _ (by omega)), hs.q4.kept hg (ne _ (by omega)), ⟨x, u, hw.kept hg (ne _ (by omega)), hi⟩, hs.q6.kept hg (ne _ (by omega)), Firm.below (Nat.le_refl _) (by omega) A A' row hs.b hg hr⟩
/-- another window -/
theorem Nx.win {w : World} {g : Nat} {what : ByteArray} {F : Int} {S : List UInt8} {P P' : Nat} {W W' : World} {n₀ B : Nat} {x : Int} {u : ByteArray} (h : Nx w g what F S P W) (hg : W.grownBy W' (some (w.heap.size + 1 + 1 + 1 + 1 + 1))) (hn : n₀ ≤ w.heap.size) (hw : Win W' (w.heap.size + 1 + 1 + 1 + 1 + 1) x u) (hi : Wi S (ld what) F P' x (ld u)) :
    KeepsOthers W W' ∧ Kp n₀ B (w.heap.size + 1 + 1 + 1 + 1 + 1 + 1) W W' ∧ Nx w g what F S P' W' := by
  obtain ⟨x0, u0, hw0, _⟩ := h.q5
  have hlt := h.q6.lt
  have ne : ∀ b, b ≠ w.heap.size + 1 + 1 + 1 + 1 + 1 → some b ≠ some (w.heap.size + 1 + 1 + 1 + 1 + 1) := fun b hb e => by cases e; exact hb rfl
  refine ⟨KeepsOthers.of_grownBy hg (fun j o ej hj => by cases ej; rw [show W.heap[_]? = _ from hw0] at hj; cases hj; rfl), Kp.grown hg (by omega) (fun j e => by
    cases e
    refine ⟨by omega, by omega, fun _ cs t x' hx => ?_⟩
    rw [show W.heap[_]? = _ from hw0] at hx
    cases hx
    decide), ⟨h.q0.kept hg (ne _ (by omega)), h.q1.kept hg (ne _ (by omega)), h.q2.kept hg (ne _ (by omega)), h.q3.kept hg (ne _ (by omega)), h.q4.kept hg (ne _ (by omega)), ⟨x, u, hw, hi⟩, h.q6.kept hg (ne _ (by omega)), h.b.grown hg h.b.size (fun k e => by cases e; omega)⟩⟩
theorem chunk_in (C : List ByteArray) (k : Nat) (hk : k < C.length) : ld (C.getD k ⟨#[]⟩) = ((ld (cat C)).drop (pos C k).toNat).take (C.getD k ⟨#[]⟩).size ∧ (pos C k).toNat + (C.getD k ⟨#[]⟩).size ≤ (ld (cat C)).length := by
  have e : C = C.take k ++ (C.getD k ⟨#[]⟩ :: C.drop (k + 1)) := by
    conv => lhs; rw [← List.take_append_drop k C, List.drop_eq_getElem_cons hk]
    rw [List.getD_eq_getElem?_getD, List.getElem?_eq_getElem hk]; rfl
  have e2 : ld (cat C) = ld (cat (C.take k)) ++ (ld (C.getD k ⟨#[]⟩) ++ ld (cat (C.drop (k + 1)))) := by
    conv => lhs; rw [e, Gc.cat_app, cat_cons, Gc.ld_app, Gc.ld_app]
  have ep : (pos C k).toNat = (ld (cat (C.take k))).length := by
    unfold pos
    rw [kt_cat, show kf 0 (cat (C.take k)) = ((cat (C.take k)).size : Int) from rfl, Int.toNat_natCast, ld_len]
  rw [ep, e2, List.drop_left, ← ld_len, List.take_left]
  refine ⟨rfl, ?_⟩
  rw [List.length_append, List.length_append]; omega
def chunkAt (C : List ByteArray) (k : Nat) : ByteArray := C.getD k ⟨#[]⟩
theorem chunks_plain (g : Nat) (w : World) : Calls Try.prog 37 #[.pointer (some ⟨g, 0, none⟩)] w fun e w' => e = .returned (.func (.func 64) #[] #[.pointer (some ⟨w.heap.size, 0, none⟩)]) ∧ w' = w.alloc (.cells #[.pointer (some ⟨g, 0, none⟩)] 24) := callsIn_wide.1 (chunks_calls g 3 w)
set_option maxHeartbeats 8000000 in
set_option maxRecDepth 100000 in
theorem next_in {w0 : World} {g : Nat} {p : Option Addr} {t : Tr} {C : List ByteArray} (h : Rope w0 g p t C) {w : World} (hb : Below w0.heap.size w0 w) (what : ByteArray) (from_ : Int) (hw : what.size ≤ 1000) (hf : from_ ≤ 9223372036854775807) :
    CallsIn Fence.wide 9 Try.prog 20 #[.pointer (some ⟨g, 0, none⟩), .string what, .int .i64 from_] w fun e w' => ∃ x b, e = .returned (.tuple #[.int .i64 x, .bool b]) ∧ IsNext (ld (cat C)) (ld what) from_ x b ∧ Below w.heap.size w w' := by
  by_cases c0 : what.toList = ([] : List UInt8)
  · have d0 : (what.toList == ([] : List UInt8)) = true := beq_iff_eq.mpr c0
    have hwl : ld what = [] := (Lib.toList_data what).symm.trans c0
    have a2 := Boxed.new ((w.alloc (Obj.cells #[Value.string what] 9)).alloc (Obj.cells #[Value.int IntKind.i64 from_] 3)) 3 (.int .i64 0)
    have a3 := Boxed.new (((w.alloc (Obj.cells #[Value.string what] 9)).alloc (Obj.cells #[Value.int IntKind.i64 from_] 3)).alloc (Obj.cells #[Value.int IntKind.i64 0] 3)) 4 (.bool false)
    simp only [World.size_alloc] at a2 a3
    have b2 := a2.alloc (Obj.cells #[Value.bool false] 4)
    have HB2 := Aside0.mk b2
    have HB3 := Aside0.mk a3
    have HBL : Aside0 (Below w.heap.size w ((((w.alloc (Obj.cells #[Value.string what] 9)).alloc (Obj.cells #[Value.int IntKind.i64 from_] 3)).alloc (Obj.cells #[Value.int IntKind.i64 0] 3)).alloc (Obj.cells #[Value.bool false] 4))) := ⟨((((Below.refl _ w).alloc (Nat.le_refl _) _).alloc (by simp) _).alloc (by simp; omega) _).alloc (by simp; omega) _⟩
    clear a2 a3 b2 h hb
    refine callsIn_of_wp_marks Try.func20 rfl trivial ?_ rfl
    simp only [Try.ntmps20, List.size_toArray, List.length_cons, List.length_nil, Nat.reduceAdd, Nat.reduceSub, Array.replicate_succ, Array.replicate_zero, List.push_toArray, List.append_toArray, List.nil_append, List.cons_append]
    refine wpIn_wide.2 ?_
    go_wp2
    go_step3
    go_wp2
    rw [Exit.noGoto_ret]
    have c2 := HB2.out.cell
    have c3 := HB3.out.cell
    refine ⟨.tuple #[.int .i64 0, .bool false], ?_, 0, false, rfl, .inr ⟨rfl, rfl, .inl hwl⟩, HBL.out⟩
    simp [results, Try.f20, go_sem, c2, c3]
  · have d0 : (what.toList == ([] : List UInt8)) = false := beq_eq_false_iff_ne.mpr c0
    obtain ⟨F, hF⟩ : ∃ F, (if from_ < 0 then 0 else from_) = F := ⟨_, rfl⟩
    refine callsIn_of_wp_marks Try.func20 rfl trivial ?_ rfl
    simp only [Try.ntmps20, List.size_toArray, List.length_cons, List.length_nil, Nat.reduceAdd, Nat.reduceSub, Array.replicate_succ, Array.replicate_zero, List.push_toArray, List.append_toArray, List.nil_append, List.cons_append]
    refine wpIn_wide.2 ?_
    go_wp2
    go_step3
    go_wp2_with (go_at_call 37; (with_reducible refine (chunks_plain _ _).mono ?_); rintro e w3 ⟨rfl, rfl⟩)
    go_step3
    go_wp2_with (go_at_call 37; (with_reducible refine (chunks_plain _ _).mono ?_); rintro e w3 ⟨rfl, rfl⟩)
    refine (wpIn_wide (n := 9)).1 ?_
    obtain ⟨W0, hW0⟩ : ∃ W0, (((((((w.alloc (Obj.cells #[Value.string what] 9)).alloc (Obj.cells #[Value.int IntKind.i64 F] 3)).alloc (Obj.cells #[Value.int IntKind.i64 0] 3)).alloc (Obj.cells #[Value.bool false] 4)).alloc (Obj.cells #[Value.int IntKind.i64 ↑what.size] 3)).alloc (Obj.cells #[Value.int IntKind.i64 0, Value.string { data := #[] }] 82)).alloc (Obj.cells #[Value.pointer (some { block := g, off := 0 })] 24)) = W0 := ⟨_, rfl⟩
    have hsz : W0.heap.size = w.heap.size + 1 + 1 + 1 + 1 + 1 + 1 + 1 := by rw [← hW0]; simp
    have hwl : ld what ≠ [] := fun e => c0 ((Lib.toList_data what).trans e)
    have hF0 : 0 ≤ F := by rw [← hF]; split <;> omega
    have s0 : Nx w g what F (ld (cat C)) (pos C 0).toNat W0 := by
      rw [← hW0]
      have a0 := Boxed.new w 9 (.string what)
      have a1 := Boxed.new (w.alloc (Obj.cells #[Value.string what] 9)) 3 (.int .i64 F)
      have a2 := Boxed.new ((w.alloc (Obj.cells #[Value.string what] 9)).alloc (Obj.cells #[Value.int IntKind.i64 F] 3)) 3 (.int .i64 0)
      have a3 := Boxed.new (((w.alloc (Obj.cells #[Value.string what] 9)).alloc (Obj.cells #[Value.int IntKind.i64 F] 3)).alloc (Obj.cells #[Value.int IntKind.i64 0] 3)) 4 (.bool false)
      have a4 := Boxed.new ((((w.alloc (Obj.cells #[Value.string what] 9)).alloc (Obj.cells #[Value.int IntKind.i64 F] 3)).alloc (Obj.cells #[Value.int IntKind.i64 0] 3)).alloc (Obj.cells #[Value.bool false] 4)) 3 (.int .i64 what.size)
      have a5 : Win ((((((w.alloc (Obj.cells #[Value.string what] 9)).alloc (Obj.cells #[Value.int IntKind.i64 F] 3)).alloc (Obj.cells #[Value.int IntKind.i64 0] 3)).alloc (Obj.cells #[Value.bool false] 4)).alloc (Obj.cells #[Value.int IntKind.i64 ↑what.size] 3)).alloc (Obj.cells #[Value.int IntKind.i64 0, Value.string { data := #[] }] 82)) _ 0 ⟨#[]⟩ := World.alloc_heap_new _ _
      have a6 := Boxed.new ((((((w.alloc (Obj.cells #[Value.string what] 9)).alloc (Obj.cells #[Value.int IntKind.i64 F] 3)).alloc (Obj.cells #[Value.int IntKind.i64 0] 3)).alloc (Obj.cells #[Value.bool false] 4)).alloc (Obj.cells #[Value.int IntKind.i64 ↑what.size] 3)).alloc (Obj.cells #[Value.int IntKind.i64 0, Value.string { data := #[] }] 82)) 24 (.pointer (some ⟨g, 0, none⟩))
      simp only [World.size_alloc] at a1 a2 a3 a4 a5 a6
      refine ⟨((((((a0.alloc _).alloc _).alloc _).alloc _).alloc _).alloc _), (((((a1.alloc _).alloc _).alloc _).alloc _).alloc _), ((((a2.alloc _).alloc _).alloc _).alloc _), (((a3.alloc _).alloc _).alloc _), ((a4.alloc _).alloc _), ⟨0, ⟨#[]⟩, a5.kept (World.grownBy_alloc _ _ none) (by simp), Wi.start _ _ _ hF0 hwl⟩, a6, ?_⟩
      exact (((((((Below.refl _ w).alloc (Nat.le_refl _) _).alloc (by simp) _).alloc (by simp; omega) _).alloc (by simp; omega) _).alloc (by simp; omega) _).alloc (by simp; omega) _).alloc (by simp; omega) _
    rw [hW0]
    clear hW0
    have hbW : Below w0.heap.size w0 W0 := hb.trans (s0.b.mono hb.size)
    have hs0 := h.s 0
    have HPS : Aside0 (∀ k, k ≤ C.length → pos C k ≤ 5000 ∧ 0 ≤ pos C k) := ⟨fun k hk => by
      have e : kt 0 C = kt 0 (C.take k) + kt 0 (C.drop k) := by rw [← kt_app, List.take_append_drop]
      have := kt_nonneg 0 (C.drop k)
      have := kt_nonneg 0 (C.take k)
      unfold pos
      omega⟩
    refine range_law rfl (by omega) (gf := 64) (lb := #[.pointer (some ⟨w.heap.size + 1 + 1 + 1 + 1 + 1 + 1, 0, none⟩)]) rfl trivial (enters_of Try.func64 (by kernel_rfl) rfl)
      (chunks1_seq h 8 (w.heap.size + 1 + 1 + 1 + 1 + 1 + 1 + 1) _ W0 (by omega) hbW s0.q6) (fun _ => rfl) (fun h k => h.trans k) (fun W l o o' h1 h2 h3 => Kp.put o' h2 h3 (by have := hbW.size; omega) (by omega))
      (fun k W => Nx w g what F (ld (cat C)) (pos C k).toNat W)
      (fun c k W => c = .ret ∧ ∃ x, IsNext (ld (cat C)) (ld what) from_ x true ∧ Boxed W (w.heap.size + 1 + 1) 3 (.int .i64 x) ∧ Boxed W (w.heap.size + 1 + 1 + 1) 4 (.bool true) ∧ Below w.heap.size w W)
      (fun k => by rw [hsz]; exact Nx.firm)
      (fun c k A A' row hs hg hr => by
        obtain ⟨hc, x, h1, h2, h3, h4⟩ := hs
        exact ⟨hc, x, h1, Firm.boxed (by omega) A A' row h2 hg hr, Firm.boxed (by omega) A A' row h3 hg hr, Firm.below (Nat.le_refl _) (by omega) A A' row h4 hg hr⟩)
      s0 ?a1 ?assign ?body ?done ?stop
    case assign =>
      intro l k W K hK
      simp only [chunkE]
      rw [show C.getD k ⟨#[]⟩ = chunkAt C k from rfl]
      gi_wp2
      exact hK
    case body =>
      rintro l k W hk hs
      obtain ⟨sk, hsk0⟩ : ∃ z, chunkAt C k = z := ⟨_, rfl⟩
      have hsk : C.getD k ⟨#[]⟩ = sk := hsk0
      have hpn := pos_next C k hk
      obtain ⟨hin, hle⟩ := chunk_in C k hk
      rw [hsk] at hpn hin hle
      have hp5 := HPS.out (k + 1) (by omega)
      have hp6 := HPS.out k (by omega)
      obtain ⟨Q1, hQ1⟩ : ∃ Q1, pos C (k + 1) = Q1 := ⟨_, rfl⟩
      obtain ⟨Q0, hQ0⟩ : ∃ Q0, pos C k = Q0 := ⟨_, rfl⟩
      rw [hQ1] at hpn hp5
      rw [hQ0] at hpn hp6 hin hle hs
      have hwp : wrap64 (Q0 + (sk.size : Int)) = Q1 := by rw [hpn]; unfold wrap64; omega
      have hFle : F ≤ 9223372036854775807 := by rw [← hF]; split <;> omega
      have hwf : wrap64 (F - (what.size : Int)) = F - what.size := by unfold wrap64; omega
      obtain ⟨x, u, hwin, hwi⟩ := hs.q5
      have hc1 := hs.q1.cell
      have hc4 := hs.q4.cell
      rw [hsk0, hQ0]
      by_cases cs : Q1 ≤ F - what.size
      · have csb : decide (Q1 ≤ F - (what.size : Int)) = true := decide_eq_true cs
        have hw0 := hwin.c0
        have hw1 := hwin.c1
        have hg0 := hwin.f 0
        have hg1 := hwin.f 1
        have h2 := hwin.s0 Q1
        have h3 := h2.s1 ⟨#[]⟩
        have hw2 := h2.c0
        have hw3 := h2.c1
        have hg2 := h2.f 0
        have hg3 := h2.f 1
        have HPN := Aside0.mk hpn
        have HSK := Aside0.mk (hwi.skip (P' := Q1.toNat) (by rw [ld_len]; omega) hwl (by omega))
        have h3' : Win ((W.setCell ⟨w.heap.size + 1 + 1 + 1 + 1 + 1, 0, none⟩ (.int .i64 Q1)).setCell ⟨w.heap.size + 1 + 1 + 1 + 1 + 1, 1, none⟩ (.string ⟨#[]⟩)) (w.heap.size + 1 + 1 + 1 + 1 + 1) (Q1.toNat : Int) ⟨#[]⟩ := by rw [Int.toNat_of_nonneg (by omega)]; exact h3
        have HRS := Aside0.mk (hs.win (n₀ := w0.heap.size) (B := w.heap.size + 1 + 1 + 1 + 1 + 1 + 1 + 1) (grown_trans (grown_cell W (w.heap.size + 1 + 1 + 1 + 1 + 1) 0 (.int .i64 Q1)) (grown_cell _ _ 1 (.string ⟨#[]⟩))) hb.size h3' HSK.out)
        clear hpn h3'
        gi_wp2
        obtain ⟨k1, k2, k3⟩ := HRS.out
        refine ⟨k1, k2, ?_⟩
        show Nx w g what F (ld (cat C)) (pos C (k + 1)).toNat _
        rw [hQ1]
        exact k3
      · have csb : decide (Q1 ≤ F - (what.size : Int)) = false := decide_eq_false cs
        have hxl := hwi.len
        have hx0 := hwi.x0
        rw [ld_len] at hxl
        have hwpos : 1 ≤ what.size := by have := List.length_pos_iff.mpr hwl; rw [ld_len] at this; omega
        have hssz : sk.size ≤ 5000 := by omega
        have HPU := push_calls W (w.heap.size + 1 + 1 + 1 + 1 + 1) x what.size u sk hwin (by omega) (by omega) (by omega) (by omega)
        have HWJ := hwi.push (s := sk) hwl hin hle
        rw [show Q0.toNat + sk.size = Q1.toNat by omega] at HWJ
        obtain ⟨x1, hx1⟩ : ∃ x1, pushAt x u what.size = x1 := ⟨_, rfl⟩
        obtain ⟨u1, hu1⟩ : ∃ u1, pushS u what.size sk = u1 := ⟨_, rfl⟩
        rw [hx1, hu1] at HPU HWJ
        have HWJ := Aside0.mk HWJ
        have HPN : Aside0 (Q0 ≤ Q1 ∧ Q1 ≤ 5000 ∧ 0 ≤ Q0 ∧ F ≤ 9223372036854775807 ∧ 0 ≤ F ∧ 1 ≤ what.size ∧ what.size ≤ 1000) := ⟨by omega⟩
        have HSW := Aside0.mk hs
        have HHB := Aside0.mk hb
        have HWL := Aside0.mk hwl
        have HQ1 := Aside0.mk hQ1
        have HF := Aside0.mk hF
        clear hpn hin hle hp5 hp6 hQ0 hwi hxl hx0 hwin hx1 hu1 hssz cs hsk hsk0 hwpos hFle hbW hs0 HPS s0 hk hb hwl hF0 hF hQ1
        gi_wp2_with ((try first | (refine ⟨trivial, fun h => (by cases h), ?_⟩) | (refine ⟨trivial, ?_⟩) | (refine ⟨fun h => (by cases h), ?_⟩)); gi_at_call 51; refine (CallsIn.inRound l (callsIn_wide.2 HPU)).mono ?_; clear HPU; rintro e W3 ⟨⟨v_, rfl⟩, hwin3, hg3⟩)
        have ne : ∀ b, b ≠ w.heap.size + 1 + 1 + 1 + 1 + 1 → some b ≠ some (w.heap.size + 1 + 1 + 1 + 1 + 1) := fun b hb e => by cases e; exact hb rfl
        have z0 := hs.q0.kept hg3 (ne _ (by omega))
        have z1 := hs.q1.kept hg3 (ne _ (by omega))
        have z2 := hs.q2.kept hg3 (ne _ (by omega))
        have z3 := hs.q3.kept hg3 (ne _ (by omega))
        have z4 := hs.q4.kept hg3 (ne _ (by omega))
        have HG3 := Aside0.mk hg3
        have HWN := Aside0.mk hwin3
        have HZ := Aside0.mk (And.intro z2 z3)
        have y0 := z0.cell
        have y1 := z1.cell
        have y4 := z4.cell
        have yw0 := hwin3.c0
        have yw1 := hwin3.c1
        clear hs hg3 ne z0 z1 z2 z3 z4 hwin3 hc1 hc4
        gi_loopw [12] (fun v wr => ∃ i : Int, v = .int .i64 i ∧ Aside0 (0 ≤ i ∧ i ≤ 20000) ∧ (∃ m, wr = W3.drewN m) ∧ Aside0 (∀ i' : Nat, (i' : Int) < i → F ≤ x1 + i' → ¬ ((ld u1).drop i').take (ld what).length = ld what)) (fun v wr => 30000 - (numOf v).toNat)
        case atStart => exact ⟨0, rfl, ⟨by omega⟩, ⟨0, rfl⟩, ⟨fun i' h1 => by omega⟩⟩
        case round =>
          obtain ⟨i, rfl, HI, ⟨m, rfl⟩, HNO⟩ := hrel
          have v0 : (W3.drewN m).cell? ⟨w.heap.size, 0, none⟩ = some (.string what) := y0
          have v1 : (W3.drewN m).cell? ⟨w.heap.size + 1, 0, none⟩ = some (.int .i64 F) := y1
          have v4 : (W3.drewN m).cell? ⟨w.heap.size + 1 + 1 + 1 + 1, 0, none⟩ = some (.int .i64 what.size) := y4
          have vw0 : (W3.drewN m).cell? ⟨w.heap.size + 1 + 1 + 1 + 1 + 1, 0, none⟩ = some (.int .i64 x1) := yw0
          have vw1 : (W3.drewN m).cell? ⟨w.heap.size + 1 + 1 + 1 + 1 + 1, 1, none⟩ = some (.string u1) := yw1
          have hul : x1 + (u1.size : Int) = Q1.toNat := by have := HWJ.out.len; rw [ld_len] at this; exact this
          have hx10 := HWJ.out.x0
          have wi : wrap64 (i + (what.size : Int)) = i + what.size := by have := HI.out; have := HPN.out; unfold wrap64; omega
          have wx : wrap64 (x1 + i) = x1 + i := by have := HI.out; have := HPN.out; unfold wrap64; omega
          have w1 : wrap64 (i + 1) = i + 1 := by have := HI.out; unfold wrap64; omega
          by_cases c13 : i + (what.size : Int) ≤ (u1.size : Int)
          · have c13b : decide (i + (what.size : Int) ≤ (u1.size : Int)) = true := decide_eq_true c13
            have HCC : Aside0 (i + (what.size : Int) ≤ (u1.size : Int) ∧ x1 + (u1.size : Int) = Q1.toNat ∧ 0 ≤ x1) := ⟨c13, hul, hx10⟩
            by_cases c15 : F ≤ x1 + i
            · have c15b : decide (F ≤ x1 + i) = true := decide_eq_true c15
              have i0 : 0 ≤ i := HI.out.1
              have i1 : i ≤ i + (what.size : Int) := by omega
              have i2 : 0 ≤ i + (what.size : Int) := by omega
              have g0 := eq_true i0
              have g1 := eq_true i1
              have g2 := eq_true c13
              have g3 := eq_true i2
              have f0 : decide (0 ≤ i) = true := decide_eq_true i0
              have f1 : decide (i ≤ i + (what.size : Int)) = true := decide_eq_true i1
              have HM : Aside0 ((u1.extract i.toNat (i + (what.size : Int)).toNat).toList = what.toList ↔ ((ld u1).drop i.toNat).take (ld what).length = ld what) := ⟨by
                rw [Lib.toList_data, Lib.toList_data]
                show ld (u1.extract i.toNat (i + (what.size : Int)).toNat) = ld what ↔ _
                rw [Gc.ld_extract, List.extract_eq_take_drop, ld_len, show (i + (what.size : Int)).toNat - i.toNat = what.size by omega]⟩
              by_cases ceq : (u1.extract i.toNat (i + (what.size : Int)).toNat).toList = what.toList
              · have cq : ((u1.extract i.toNat (i + (what.size : Int)).toNat).toList == what.toList) = true := beq_iff_eq.mpr ceq
                have HCE := Aside0.mk (HM.out.mp ceq)
                have HC5 := Aside0.mk c15
                clear i0 i1 i2 ceq
                gi_wp2
                refine quiet_in (by kernel_rfl) (by kernel_rfl) (by kernel_rfl) ?_
                repeat (go_big_quiet_step (fail))
                refine wpQuiet_nil ?_
                intro _ hw'
                obtain ⟨nq, hw''⟩ := hw'
                subst hw''
                have r2 : Boxed (W3.drewN (m + nq)) (w.heap.size + 1 + 1) 3 (.int .i64 0) := HZ.out.1
                have r3 : Boxed (W3.drewN (m + nq)) (w.heap.size + 1 + 1 + 1) 4 (.bool false) := HZ.out.2
                have r2c := r2.cell
                have r2f := r2.frozen
                have r4 := box_other (u := .int .i64 (x1 + i)) r3 (show w.heap.size + 1 + 1 + 1 ≠ w.heap.size + 1 + 1 by omega)
                have r4c := r4.cell
                have r4f := r4.frozen
                have rw0 : (W3.drewN (m + nq)).cell? ⟨w.heap.size + 1 + 1 + 1 + 1 + 1, 0, none⟩ = some (.int .i64 x1) := yw0
                gi_wp2
                have hko : KeepsOthers W W3 := KeepsOthers.of_grownBy HG3.out (fun j o ej hj => by
                  cases ej
                  obtain ⟨x', u', hw', _⟩ := HSW.out.q5
                  rw [show W.heap[_]? = _ from hw'] at hj
                  cases hj
                  rfl)
                have hko2 : KeepsOthers W (W3.drewN (m + nq)) := ⟨hko.size, hko.same⟩
                have hbl : Below w.heap.size w (W3.drewN (m + nq)) := pw_below_drewN (HSW.out.b.grown HG3.out HSW.out.b.size (fun k e => by cases e; omega)) _
                refine ⟨(hko2.trans (KeepsOthers.setCell _ _ _)).trans (KeepsOthers.setCell _ _ _), rfl, x1 + i, ?_, box_other (r2.set _) (by omega), r4.set _, (hbl.setCell (p := ⟨w.heap.size + 1 + 1, 0, none⟩) (by show w.heap.size ≤ w.heap.size + 1 + 1; omega) _).setCell (p := ⟨w.heap.size + 1 + 1 + 1, 0, none⟩) (by show w.heap.size ≤ w.heap.size + 1 + 1 + 1; omega) _⟩
                have hfd := HWJ.out.found (f := from_) (by have := HPN.out; omega) HWL.out HF.out.symm i.toNat (by have := HCC.out; have := HI.out; rw [ld_len, ld_len]; omega) (by have := HC5.out; have := HI.out; omega) HCE.out (fun i' h1 h2 h3 => HNO.out i' (by omega) h2 h3)
                rw [Int.toNat_of_nonneg HI.out.1] at hfd
                exact hfd
              · have cq : ((u1.extract i.toNat (i + (what.size : Int)).toNat).toList == what.toList) = false := beq_eq_false_iff_ne.mpr ceq
                have HCE : Aside0 (¬ ((ld u1).drop i.toNat).take (ld what).length = ld what) := ⟨fun h => ceq (HM.out.mpr h)⟩
                clear i0 i1 i2 ceq
                gi_wp2
                refine quiet_in (by kernel_rfl) (by kernel_rfl) (by kernel_rfl) ?_
                repeat (go_big_quiet_step (fail))
                refine wpQuiet_nil ?_
                intro _ hw'
                obtain ⟨nq, hw''⟩ := hw'
                subst hw''
                gi_wp2
                refine ⟨⟨wrap64 (i + 1), rfl, ⟨by have := HI.out; have := HPN.out; have := HCC.out; rw [w1]; omega⟩, ⟨_, rfl⟩, ⟨fun i' h1 h2 h3 => ?_⟩⟩, by have := HI.out; simp only [numOf]; rw [w1]; omega⟩
                rw [w1] at h1
                by_cases c9 : (i' : Int) < i
                · exact HNO.out i' c9 h2 h3
                · have e9 : (i' : Int) = i := by omega
                  exact HCE.out (by rw [show i.toNat = i' by omega]; exact h3)
            · have c15b : decide (F ≤ x1 + i) = false := decide_eq_false c15
              gi_wp2
              refine quiet_in (by kernel_rfl) (by kernel_rfl) (by kernel_rfl) ?_
              repeat (go_big_quiet_step (fail))
              refine wpQuiet_nil ?_
              intro _ hw'
              obtain ⟨nq, hw''⟩ := hw'
              subst hw''
              gi_wp2
              refine ⟨⟨wrap64 (i + 1), rfl, ⟨by have := HI.out; have := HPN.out; have := HCC.out; rw [w1]; omega⟩, ⟨_, rfl⟩, ⟨fun i' h1 h2 h3 => ?_⟩⟩, by have := HI.out; simp only [numOf]; rw [w1]; omega⟩
              rw [w1] at h1
              by_cases c9 : (i' : Int) < i
              · exact HNO.out i' c9 h2 h3
              · have e9 : (i' : Int) = i := by omega
                omega
          · have c13b : decide (i + (what.size : Int) ≤ (u1.size : Int)) = false := decide_eq_false c13
            have HC3 := Aside0.mk c13
            clear c13
            gi_wp2
            have hwi2 := HWJ.out.none (by have := HPN.out; omega) (fun i' h1 h2 => HNO.out i' (by have := HC3.out; rw [ld_len, ld_len] at h1; omega) h2)
            have hg4 : W.grownBy (W3.drewN m) (some (w.heap.size + 1 + 1 + 1 + 1 + 1)) := ⟨HG3.out.os, HG3.out.tape, HG3.out.output, HG3.out.size, HG3.out.block⟩
            obtain ⟨k1, k2, k3⟩ := HSW.out.win (n₀ := w0.heap.size) (B := w.heap.size + 1 + 1 + 1 + 1 + 1 + 1 + 1) hg4 HHB.out.size (show Win (W3.drewN m) _ x1 u1 from HWN.out) hwi2
            refine ⟨k1, k2, ?_⟩
            show Nx w g what F (ld (cat C)) (pos C (k + 1)).toNat _
            rw [HQ1.out]
            exact k3
    case done =>
      rintro D W hD hs hK
      have hN : (pos C C.length).toNat = (ld (cat C)).length := by
        unfold pos
        rw [List.take_length, kt_cat, show kf 0 (cat C) = ((cat C).size : Int) from rfl, Int.toNat_natCast, ld_len]
      rw [hN] at hs
      obtain ⟨x, u, hwin, hwi⟩ := hs.q5
      have hix := hwi.end_ (f := from_) hwl hF.symm
      have h2 := hs.q2
      have h3 := hs.q3
      have r2c := h2.cell
      have r2f := h2.frozen
      have r4 := box_other (u := .int .i64 0) h3 (show w.heap.size + 1 + 1 + 1 ≠ w.heap.size + 1 + 1 by omega)
      have r4c := r4.cell
      have r4f := r4.frozen
      go_wp2
      rw [hsz] at hD
      rw [Exit.noGoto_ret]
      have hbl2 := (hs.b.setCell (p := ⟨w.heap.size + 1 + 1, 0, none⟩) (by show w.heap.size ≤ w.heap.size + 1 + 1; omega) (.int .i64 0)).setCell (p := ⟨w.heap.size + 1 + 1 + 1, 0, none⟩) (by show w.heap.size ≤ w.heap.size + 1 + 1 + 1; omega) (.bool false)
      have hK3 : ((W.setCell ⟨w.heap.size + 1 + 1, 0, none⟩ (.int .i64 0)).setCell ⟨w.heap.size + 1 + 1 + 1, 0, none⟩ (.bool false)).heap[D]? = some (.deferred (some [])) := (Below.heap_setCell _ _ _ _ (by show D ≠ w.heap.size + 1 + 1 + 1; omega)).trans ((Below.heap_setCell _ _ _ _ (by show D ≠ w.heap.size + 1 + 1; omega)).trans hK)
      have hb2 := (box_other (u := .bool false) (h2.set (.int .i64 0)) (show w.heap.size + 1 + 1 ≠ w.heap.size + 1 + 1 + 1 by omega))
      have hb3 := (r4.set (.bool false))
      have c2 := (hb2.kept (grownBy_putObj' _ D (.deferred none)) (fun e => by cases e; omega)).cell
      have c3 := (hb3.kept (grownBy_putObj' _ D (.deferred none)) (fun e => by cases e; omega)).cell
      have hbf := (hbl2 : Below w.heap.size w _).grown (grownBy_putObj' _ D (.deferred none)) (Below.size hbl2) (fun k e => by cases e; omega)
      refine ⟨by simp, .inl ⟨_, _, rfl, run_takeDeferred (ds := []) hK3, ?_⟩⟩
      refine ⟨.tuple #[.int .i64 0, .bool false], ?_, 0, false, rfl, hix, hbf⟩
      simp [results, Try.f20, go_sem, c2, c3]
    case stop =>
      rintro D c k W hD ⟨rfl, x, hix, h2, h3, hbl⟩ hK
      rw [hsz] at hD
      gi_wp2
      rw [Exit.noGoto_ret]
      have hb2 := h2
      have hb3 := h3
      have c2 := (hb2.kept (grownBy_putObj' _ D (.deferred none)) (fun e => by cases e; omega)).cell
      have c3 := (hb3.kept (grownBy_putObj' _ D (.deferred none)) (fun e => by cases e; omega)).cell
      have hbf := (hbl : Below w.heap.size w _).grown (grownBy_putObj' _ D (.deferred none)) (Below.size hbl) (fun k e => by cases e; omega)
      refine ⟨by simp, .inl ⟨_, _, rfl, run_takeDeferred (ds := []) hK, ?_⟩⟩
      refine ⟨.tuple #[.int .i64 x, .bool true], ?_, x, true, rfl, hix, hbf⟩
      simp [results, Try.f20, go_sem, c2, c3]
theorem next_calls {w0 : World} {g : Nat} {p : Option Addr} {t : Tr} {C : List ByteArray} (h : Rope w0 g p t C) {w : World} (hb : Below w0.heap.size w0 w) (what : ByteArray) (from_ : Int) (hw : what.size ≤ 1000) (hf : from_ ≤ 9223372036854775807) :
    Calls Try.prog 20 #[.pointer (some ⟨g, 0, none⟩), .string what, .int .i64 from_] w fun e w' => ∃ x b, e = .returned (.tuple #[.int .i64 x, .bool b]) ∧ IsNext (ld (cat C)) (ld what) from_ x b ∧ Below w.heap.size w w' := callsIn_wide.1 (next_in h hb what from_ hw hf)
end Go.Proofs.Ytdcnoiofimngpaa.Fn
/- find.All: the walk. -/
namespace Go.Proofs.Ytdcnoiofimngpaa.Fa
open Go.RowKit Go.Proofs.Ytdcnoiofimngpaa.U Go.Proofs.Ytdcnoiofimngpaa.QK Go.Proofs.Ytdcnoiofimngpaa.Kt Go.Proofs.Ytdcnoiofimngpaa.Kc Go.Proofs.Ytdcnoiofimngpaa.Kh Go.Proofs.Ytdcnoiofimngpaa.Kj Go.Proofs.Ytdcnoiofimngpaa.Gs Go.Proofs.Ytdcnoiofimngpaa.Gr Go.Proofs.Ytdcnoiofimngpaa.Fn Go.Proofs.YtdcnoiofimngpaaW.PrintWords Go.Proofs.YtdcnoiofimngpaaW.PrintLast Go.Proofs.YtdcnoiofimngpaaW.PrintMore
set_option linter.unusedVariables false
set_option linter.unusedSimpArgs false
/-- all places, from f on -/
inductive AllP (S w : List UInt8) : Int → List Int → Prop
  | nil (f : Int) (h : IsNext S w f 0 false) : AllP S w f []
  | cons (f x : Int) (l : List Int) (h : IsNext S w f x true) (r : AllP S w (x + w.length) l) : AllP S w f (x :: l)
theorem next_one {S w : List UInt8} {f x y : Int} {a b : Bool} (h : IsNext S w f x a) (k : IsNext S w f y b) : x = y ∧ a = b := by
  rcases h with ⟨rfl, h1, i, rfl, h2, h3, h4⟩ | ⟨rfl, rfl, h1⟩ <;> rcases k with ⟨rfl, k1, j, rfl, k2, k3, k4⟩ | ⟨rfl, rfl, k1⟩
  · refine ⟨?_, rfl⟩
    rcases Nat.lt_trichotomy i j with c | c | c
    · exact absurd h3 (k4 i h2 c)
    · rw [c]
    · exact absurd k3 (h4 j k2 c)
  · rcases k1 with k1 | k1
    · exact absurd k1 h1
    · exact absurd h3 (k1 i h2)
  · rcases h1 with h1 | h1
    · exact absurd h1 k1
    · exact absurd k3 (h1 j k2)
  · exact ⟨rfl, rfl⟩
theorem all_one {S w : List UInt8} {f : Int} {l m : List Int} (h : AllP S w f l) (k : AllP S w f m) : l = m := by
  induction h generalizing m with
  | nil f h =>
    cases k with
    | nil => rfl
    | cons _ x l h2 _ => exact absurd (next_one h h2).2 (by decide)
  | cons f x l h r ih =>
    cases k with
    | nil _ h2 => exact absurd (next_one h h2).2 (by decide)
    | cons _ y m h2 r2 =>
      obtain ⟨rfl, _⟩ := next_one h h2
      rw [ih r2]
/-- where a place lies -/
theorem next_in_ {S w : List UInt8} {f x : Int} (h : IsNext S w f x true) : 0 ≤ x ∧ f ≤ x ∧ x + w.length ≤ S.length ∧ 1 ≤ w.length := by
  rcases h with ⟨_, h1, i, rfl, h2, h3, h4⟩ | ⟨h, _⟩
  · have := List.length_pos_iff.mpr h1
    have e := congrArg List.length h3
    rw [List.length_take, List.length_drop] at e
    omega
  · cases h
theorem info3 : (Try.prog.info? 3).map (fun i => (i.zero, i.size, i.bytes)) = some (some (.int .i64 0), 1, 8) := by kernel_rfl
def AllPost (w : World) (S wl : List UInt8) (e : Ending) (w' : World) : Prop := ∃ A cp l, e = .returned (.slice A l.length cp) ∧ Kd.R (Kd.int .i64) 3 w' w.heap.size (fun _ => True) (.slice A l.length cp) l ∧ AllP S wl 0 l ∧ Below w.heap.size w w'
set_option maxHeartbeats 4000000 in
set_option maxRecDepth 100000 in
theorem all_calls {w0 : World} {g : Nat} {p : Option Addr} {t : Tr} {C : List ByteArray} (h : Rope w0 g p t C) {w : World} (hb : Below w0.heap.size w0 w) (what : ByteArray) (hw : what.size ≤ 1000) :
    Calls Try.prog 23 #[.pointer (some ⟨g, 0, none⟩), .string what] w (AllPost w (ld (cat C)) (ld what)) := by
  have hs := h.s 0
  have hS : (ld (cat C)).length ≤ 5000 := by rw [kt_cat, show kf 0 (cat C) = ((cat C).size : Int) from rfl] at hs; rw [ld_len]; omega
  have HN : Aside0 (∀ W f, Below w.heap.size w W → f ≤ 9223372036854775807 → Calls Try.prog 20 #[.pointer (some ⟨g, 0, none⟩), .string what, .int .i64 f] W fun e w' => ∃ x b, e = .returned (.tuple #[.int .i64 x, .bool b]) ∧ IsNext (ld (cat C)) (ld what) f x b ∧ Below W.heap.size W w') := ⟨fun W f h2 hf => next_calls h (below_step hb h2) what f hw hf⟩
  have HS := Aside0.mk hS
  have HW : Aside0 (what.size ≤ 1000) := ⟨hw⟩
  have HB := Aside0.mk (Below.refl w.heap.size w)
  have HR : Aside0 (Kd.R (Kd.int .i64) 3 w w.heap.size (fun _ => True) (.slice none 0 0) []) := ⟨Kd.R_nil _ _ _ _ _⟩
  clear h hb hs hS hw
  generalize ld (cat C) = S at HN HS ⊢
  go_enter Try.func23, Try.ntmps23
  go_wp2
  go_loopg [5, 6] (5001) (fun kq v5 v6 w' => ∃ (f : Int) (l : List Int) (A : Option Addr) (cp : Nat), v5 = .slice A l.length cp ∧ v6 = .int .i64 f ∧ Aside0 (0 ≤ f ∧ f ≤ 5000 ∧ 5001 ≤ f + kq ∧ (l.length : Int) ≤ f) ∧ Aside0 (∀ m, AllP S (ld what) f m → AllP S (ld what) 0 (l ++ m)) ∧ Aside0 (Kd.R (Kd.int .i64) 3 w' w.heap.size (fun _ => True) (.slice A l.length cp) l) ∧ Aside0 (Below w.heap.size w w'))
  case atStart => exact ⟨0, [], none, 0, rfl, rfl, ⟨by simp⟩, ⟨fun m h => h⟩, HR, HB⟩
  case round =>
    clear HR HB
    obtain ⟨f, l, A, cp, rfl, rfl, HF, HA, HR, HB⟩ := hrel
    obtain ⟨k2, rfl⟩ : ∃ k2, gk = k2 + 1 := ⟨gk - 1, by have := HF.out; omega⟩
    have HNX := Aside0.mk (HN.out wr f HB.out (by have := HF.out; omega))
    go_wp2_with (first
      | (go_at_call 20; (with_reducible refine HNX.out.mono ?_); rintro e w3 ⟨x, b, rfl, hx, hb3⟩; have HX := Aside0.mk hx; have HB3 := Aside0.mk (below_step HB.out hb3); have HR3 := Aside0.mk (Kd.R_below HR.out hb3); clear hx hb3 HNX HR HB; cases b)
      | ((with_reducible refine gate_builtin (b := .append) (xs := #[.tmp 19, .tmp 21]) rfl ?_); at_builtin; refine Kd.R_append (Kd.int .i64) (w0 := w) w.heap.size rfl (.tmp 19) (.tmp 21) 44 3 (.int .i64 0) 8 rfl Try.underlying44 info3 rfl (by decide) (by omega) (.slice A l.length cp) l x [.int .i64 x] (fun _ => True) (fun _ => False) rfl rfl ?aP (fun _ hk => hk.elim) (fun _ _ => trivial) HR3.out HB3.out HB3.out.size (by have := HF.out; omega) ?_; (case aP => exact rfl); intro v2 w4 ho hb hgr hat; obtain ⟨A3, cp3, rfl⟩ := Kd.R_slice ho; have HO := Aside0.mk ho; have HB4 := Aside0.mk hb; clear ho hb hgr hat))
    · go_ret
      have hx0 : x = 0 := by
        rcases HX.out with ⟨h, _⟩ | ⟨_, h, _⟩
        · cases h
        · exact h
      have hn := HX.out
      rw [hx0] at hn
      refine ⟨A, cp, l, rfl, HR3.out, ?_, HB3.out⟩
      have := HA.out [] (.nil f hn)
      rwa [List.append_nil] at this
    · have HIX := Aside0.mk (next_in_ HX.out)
      have HWL : Aside0 ((ld what).length = what.size) := ⟨ld_len what⟩
      go_roundg k2
      case measure => omega
      case rel =>
        have wx : wrap64 (x + (what.size : Int)) = x + what.size := by have := HIX.out; have := HS.out; have := HW.out; have := HF.out; unfold wrap64; omega
        refine ⟨x + what.size, l ++ [x], A3, cp3, ?_, ?_, ⟨?_⟩, ⟨fun m hm => ?_⟩, HO.out |> fun h => ⟨h⟩, HB4⟩
        · first | rfl | (rw [List.length_append]; rfl)
        · first | rfl | (rw [wx]) | (rw [← wx]; rfl)
        · have := HIX.out; have := HS.out; have := HF.out; have := HWL.out; rw [List.length_append, List.length_singleton]; omega
        · rw [List.append_assoc]
          exact HA.out _ (.cons f x m HX.out (by rw [HWL.out]; exact hm))
end Go.Proofs.Ytdcnoiofimngpaa.Fa
