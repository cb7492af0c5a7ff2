import Derived.RangeFuncBox
import Derived.RangeFuncLeaves
import Derived.RangeFuncBound
import Derived.RangeFuncCalls
/- A range over a function: a law for iterators that keep a number of their own between two rounds; the rounds are told by their number. -/
namespace Go.Proofs.Ytdcnoiofimngpaa.Wl
open Go Go.RowKit
set_option linter.unusedVariables false
variable {F : Fence} {n : Nat} {P : Program}
/-- what an iterator may do between two rounds: new blocks; a store into a number's block that lies at B or behind it -/
def Still (B : Nat) (X : World → Prop) : Prop := ∀ A A' row, X A → A.grownBy A' row → (∀ r, row = some r → B ≤ r ∧ ∃ c, A.heap[r]? = some (.cells c 3 (0, 0))) → X A'
/-- the same, and the book-keeping of the loop -/
def Firm (B : Nat) (X : World → Prop) : Prop := ∀ A A' row, X A → A.grownBy A' row → (∀ r, row = some r → B ≤ r ∧ ∃ o : Obj, A.heap[r]? = some o ∧ (o.isCells = false ∨ ∃ c, o = .cells c 3 (0, 0))) → X A'
theorem Firm.put {B : Nat} {X : World → Prop} (h : Firm B X) {W : World} {l : Nat} {o : Obj} (o' : Obj) (hx : X W) (hB : B ≤ l) (hl : W.heap[l]? = some o) (ho : o.isCells = false) : X (W.putObj l o') :=
  h W _ (some l) hx (grownBy_putObj' W l o') (fun r e => by cases e; exact ⟨hB, o, hl, .inl ho⟩)
theorem Firm.alloc {B : Nat} {X : World → Prop} (h : Firm B X) {W : World} (o : Obj) (hx : X W) : X (W.alloc o) := h W _ none hx (World.grownBy_alloc W o none) (fun r e => by cases e)
theorem Firm.and {B : Nat} {X Y : World → Prop} (h : Firm B X) (k : Firm B Y) : Firm B (fun W => X W ∧ Y W) := fun A A' row hs hg hr => ⟨h A A' row hs.1 hg hr, k A A' row hs.2 hg hr⟩
theorem Firm.below {n₀ B : Nat} {w₀ : World} (hn : n₀ ≤ w₀.heap.size) (hB : n₀ ≤ B) : Firm B (fun W => Below n₀ w₀ W) := fun A A' row hs hg hr => hs.grown hg (Nat.le_trans hn hs.size) (fun k e => Nat.le_trans hB (hr k e).1)
theorem Firm.boxed {B b : Nat} {t : TypeId} {v : Value} (hb : b < B) : Firm B (fun W => Boxed W b t v) := fun A A' row hs hg hr => hs.kept hg (fun e => by have := (hr b e.symm).1; omega)
/-- a row of the call's own, of no numbers -/
theorem Firm.row {B n₀ : Nat} {e : TypeId} {size k : Nat} {v : Value} {xs : List Value} (he : e ≠ 3) : Firm B (fun W => W.ownsRow n₀ e size v k xs) := fun A A' row hs hg hr => by
  refine hs.kept hg ?_
  rcases hs.2 with ⟨rfl, _⟩ | ⟨g, cap, cur, rfl, _, hgb, _⟩
  · exact .inl rfl
  · refine .inr fun e' => ?_
    obtain ⟨_, o, ho, hc⟩ := hr g (by simpa [Value.ownBlock] using e'.symm)
    rw [hgb] at ho
    cases ho
    rcases hc with hc | ⟨c, hc⟩
    · cases hc
    · cases hc; exact he rfl
theorem Firm.ex {α : Type} {B : Nat} {X : α → World → Prop} (h : ∀ v, Firm B (X v)) : Firm B (fun W => ∃ v, X v W) := fun A A' row ⟨v, hv⟩ hg hr => ⟨v, h v A A' row hv hg hr⟩
theorem Firm.pure {B : Nat} (p : Prop) : Firm B (fun _ => p) := fun _ _ _ hs _ _ => hs
/-- AN ITERATOR: N rounds at most; round k is handed 'enc k'; 'Kp': what a round that goes on keeps -/
def Seq (F : Fence) (n : Nat) (P : Program) (g : Nat) (lb : Array Value) (enc : Nat → Array Value) (Kp : World → World → Prop) (N : Nat) (w : World) : Prop :=
  ∀ (l : Nat) (J Jx : Nat → World → Prop) (W : World), Below w.heap.size w W → (∀ k, Still W.heap.size (J k)) → (∀ k, Still W.heap.size (Jx k)) →
    (∀ k W1, k < N → J k W1 → YieldAt F (n - 1) P l (enc k) W1 fun e W' => (e = .returned (.bool true) ∧ J (k + 1) W' ∧ Kp W1 W') ∨ (e = .returned (.bool false) ∧ Jx (k + 1) W')) →
    J 0 W → CallsIn F n P g (#[.func (.yield l) #[] #[]] ++ lb) W fun e W' => (∃ v, e = .returned v) ∧ (J N W' ∨ ∃ k, Jx k W')
/-- how a round's body may be left -/
def Post (Kp : World → World → Prop) (I : Nat → World → Prop) (Ix : Code → Nat → World → Prop) (k : Nat) (W : World) : Exit → Act → World → Prop
  | .normal, _, W' => KeepsOthers W W' ∧ Kp W W' ∧ I k W'
  | .ret, _, W' => KeepsOthers W W' ∧ Ix .ret k W'
  | .exit id, _, W' => KeepsOthers W W' ∧ Ix (.exit id) k W'
  | .goto _, _, _ => False
  | .panic _, _, _ => False
  | .outgrown, _, _ => False
theorem range_law {g : Operand} {ps : Array Tmp} {assign body : Code} {Q : Exit → Act → World → Prop} {a : Act} {w : World}
    (hro : F.round = none) (h1 : 1 ≤ n) {gf : Nat} {lb : Array Value} (hg : a.eval g = .func (.func gf) #[] lb) (hFg : F.fn gf) (eg : ∀ args w, (callFunc gf args).run P w = .ok (.enter gf args) w)
    {enc : Nat → Array Value} {Kp : World → World → Prop} {N : Nat} (hseq : Seq F (n - 1) P gf lb enc Kp N w) (hps : ∀ k, (enc k).size = ps.size)
    (hKt : ∀ {A B C : World}, Kp A B → Kp B C → Kp A C) (hKb : ∀ (W : World) (l : Nat) (o o' : Obj), w.heap.size ≤ l → W.heap[l]? = some o → o.isCells = false → Kp W (W.putObj l o'))
    (I : Nat → World → Prop) (Ix : Code → Nat → World → Prop) (hI : ∀ k, Firm w.heap.size (I k)) (hIx : ∀ c k, Firm w.heap.size (Ix c k)) (h0 : I 0 w) (a₁ : Nat → Act)
    (hassign : ∀ (l k : Nat) (W : World) (K : Act → World → Prop), K (a₁ k) W →
      assign.wpIn (F.inRound l) (n - 1 - 1) P (Exit.then K (fun _ _ _ => False)) { tmps := (ps.zip (enc k)).foldl (fun t (p, v) => t.setIfInBounds p v) a.tmps, defers := [] } W)
    (hbody : ∀ (l k : Nat) (W : World), k < N → I k W → body.wpIn (F.inRound l) (n - 1 - 1) P (Post Kp I Ix (k + 1) W) (a₁ k) W)
    (hdone : ∀ (D : Nat) (W : World), w.heap.size ≤ D → I N W → W.heap[D]? = some (.deferred (some [])) → Q .normal { a with defers := { target := .collected D, args := #[] } :: a.defers } W)
    (hstop : ∀ (D : Nat) (c : Code) (k : Nat) (W : World), w.heap.size ≤ D → Ix c k W → W.heap[D]? = some (.deferred (some [])) → c.wpIn F n P Q { a with defers := { target := .collected D, args := #[] } :: a.defers } W) :
    (Code.rangeFunc g ps assign body).wpIn F n P Q a w := by
  refine wpIn_rangeFunc fun fn hfn => ?_
  rw [hro]
  obtain ⟨D, hD⟩ : ∃ D, w.heap.size = D := ⟨_, rfl⟩
  let rec_ : LoopState → Option Code → Loop := fun st pe => { state := st, pending := pe, fn, tmps := a.tmps, params := ps, assign, body, defers := w.heap.size }
  obtain ⟨W1, hW1⟩ : ∃ W1, (w.alloc (.deferred (some []))).alloc (.loop (rec_ .ready none)) = W1 := ⟨_, rfl⟩
  have hs1 : W1.heap.size = D + 2 := by rw [← hW1, World.size_alloc, World.size_alloc, hD]
  have hL1 : W1.heap[D + 1]? = some (.loop (rec_ .ready none)) := by
    have := World.alloc_heap_new (w.alloc (.deferred (some []))) (.loop (rec_ .ready none))
    rw [World.size_alloc, hW1, hD] at this
    exact this
  have hD1 : W1.heap[D]? = some (.deferred (some [])) := by
    have := World.alloc_heap_new w (.deferred (some []))
    rw [← hW1, ← hD]
    exact (Below.heap_alloc _ _ _ (by simp)).trans this
  have hb1 : Below w.heap.size w W1 := by rw [← hW1]; exact ((Below.refl _ w).alloc (Nat.le_refl _) _).alloc (by simp) _
  have hI1 : I 0 W1 := by rw [← hW1]; exact (hI 0).alloc _ ((hI 0).alloc _ h0)
  refine ⟨D + 1, [{ target := .collected D, args := #[] }], W1, { target := .fn (.func gf) lb, args := #[.func (.yield (D + 1)) #[] #[]] }, W1, gf, #[.func (.yield (D + 1)) #[] #[]] ++ lb, W1, ?_, ?_, ?_, ?_, fun _ => h1, ?_⟩
  · rw [← hW1, ← hD]; exact run_enterLoop_outer _ _ _ _ _
  · simp only [resolve, hg]
    simp [go_sem]
  · intro f' hf'; simp [Target.leads] at hf'; subst hf'; exact hFg
  · simp [invoke, go_sem, eg]
  have still : ∀ {X : World → Prop} (rc : Loop), Firm w.heap.size X → Still W1.heap.size (fun W => X W ∧ W.heap[D + 1]? = some (.loop rc) ∧ W.heap[D]? = some (.deferred (some []))) := by
    intro X rc hX A A' row hs hg' hr
    have keep : ∀ (k : Nat) (o : Obj), k ≤ D + 1 → A.heap[k]? = some o → A'.heap[k]? = some o := fun k o hk ho =>
      (hg'.block k (Array.getElem?_eq_some_iff.1 ho).1 (fun e => by have := (hr k e.symm).1; omega)).trans ho
    refine ⟨hX A A' row hs.1 hg' (fun r e => ?_), keep _ _ (Nat.le_refl _) hs.2.1, keep _ _ (by omega) hs.2.2⟩
    obtain ⟨q1, c, q2⟩ := hr r e
    exact ⟨by omega, _, q2, .inr ⟨c, rfl⟩⟩
  refine (hseq (D + 1) (fun k W => I k W ∧ W.heap[D + 1]? = some (.loop (rec_ .ready none)) ∧ W.heap[D]? = some (.deferred (some [])))
    (fun k W => ∃ c, Ix c k W ∧ W.heap[D + 1]? = some (.loop (rec_ .done (some c))) ∧ W.heap[D]? = some (.deferred (some []))) W1 hb1 (fun k => still _ (hI k))
    (fun k A A' row ⟨c, hs⟩ hg' hr => ⟨c, still _ (hIx c k) A A' row hs hg' hr⟩) ?_ ⟨hI1, hL1, hD1⟩).mono ?_
  · rintro k W hk ⟨hi, hl, hd⟩
    have hlt : D + 1 < W.heap.size := (Array.getElem?_eq_some_iff.1 hl).1
    refine ⟨fn, _, assign, body, run_yield (P := P) (args := enc k) hl (hps k), roundIn_of_wpIn hfn (hassign _ k W _ ⟨_, run_beginRound hl rfl, ?_⟩)⟩
    obtain ⟨W2, hW2⟩ : ∃ W2, W.putObj (D + 1) (.loop { rec_ .ready none with state := .busy }) = W2 := ⟨_, rfl⟩
    have hl2 : W2.heap[D + 1]? = some (.loop { rec_ .ready none with state := .busy }) := by rw [← hW2]; exact World.putObj_heap_same hlt
    have hd2 : W2.heap[D]? = some (.deferred (some [])) := by rw [← hW2]; exact (World.putObj_heap_other (by omega)).trans hd
    have hi2 : I k W2 := by rw [← hW2]; exact (hI k).put _ hi (by omega) hl rfl
    have hk2 : Kp W W2 := by rw [← hW2]; exact hKb _ _ _ _ (by omega) hl rfl
    show body.wpIn _ _ _ _ _ (W.putObj (D + 1) (.loop { rec_ .ready none with state := .busy }))
    rw [hW2]
    refine wpIn_mono (hbody _ k W2 hk hi2) ?_
    have fin : ∀ (jump : Option Code) (W3 : World), KeepsOthers W2 W3 →
        (Instr.endRound (D + 1) jump).run P W3 = .ok (.bool jump.isNone) (W3.putObj (D + 1) (.loop (rec_ (if jump.isNone then .ready else .done) jump))) ∧ W3.heap[D + 1]? = some (.loop { rec_ .ready none with state := .busy }) ∧
        (W3.putObj (D + 1) (.loop (rec_ (if jump.isNone then .ready else .done) jump))).heap[D + 1]? = some (.loop (rec_ (if jump.isNone then .ready else .done) jump)) ∧
        (W3.putObj (D + 1) (.loop (rec_ (if jump.isNone then .ready else .done) jump))).heap[D]? = some (.deferred (some [])) := fun jump W3 hk3 => by
      have hl3 := hk3.same _ _ hl2 rfl
      exact ⟨run_endRound (P := P) jump hl3, hl3, World.putObj_heap_same (Array.getElem?_eq_some_iff.1 hl3).1, (World.putObj_heap_other (by omega)).trans (hk3.same _ _ hd2 rfl)⟩
    rintro e a3 W3 hp
    cases e with
    | normal =>
      obtain ⟨hk3, hkp3, hi3⟩ := hp
      obtain ⟨hr, hl3, hl4, hd4⟩ := fin none W3 hk3
      exact ⟨_, _, hr, .inl ⟨rfl, ⟨(hI _).put _ hi3 (by omega) hl3 rfl, hl4, hd4⟩, hKt (hKt hk2 hkp3) (hKb _ _ _ _ (by omega) hl3 rfl)⟩⟩
    | ret =>
      obtain ⟨hk3, hi3⟩ := hp
      obtain ⟨hr, hl3, hl4, hd4⟩ := fin (some .ret) W3 hk3
      exact ⟨_, _, hr, .inr ⟨rfl, .ret, (hIx _ _).put _ hi3 (by omega) hl3 rfl, hl4, hd4⟩⟩
    | exit id =>
      obtain ⟨hk3, hi3⟩ := hp
      obtain ⟨hr, hl3, hl4, hd4⟩ := fin (some (.exit id)) W3 hk3
      exact ⟨_, _, hr, .inr ⟨rfl, .exit id, (hIx _ _).put _ hi3 (by omega) hl3 rfl, hl4, hd4⟩⟩
    | goto t => exact hp.elim
    | panic ch => exact hp.elim
    | outgrown => exact hp.elim
  · rintro e W2 ⟨⟨v, rfl⟩, (⟨hi, hl, hd⟩ | ⟨k, c, hi, hl, hd⟩)⟩
    · exact ⟨none, _, run_endLoop (P := P) hl (by simp [rec_]), hdone _ _ (by omega) ((hI _).put _ hi (by omega) hl rfl) ((World.putObj_heap_other (by omega)).trans hd)⟩
    · exact ⟨some c, _, run_endLoop (P := P) hl (by simp [rec_]), hstop _ c k _ (by omega) ((hIx c k).put _ hi (by omega) hl rfl) ((World.putObj_heap_other (by omega)).trans hd)⟩
end Go.Proofs.Ytdcnoiofimngpaa.Wl
