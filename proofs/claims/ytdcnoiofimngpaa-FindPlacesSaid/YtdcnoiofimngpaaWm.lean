import Derived.Test.YtdcnoiofimngpaaWq
import Derived.Lib.OthersKept
/- A range over a function, once more: for iterators that go over another iterator in their turn (and so call yield within a round of their own). -/
namespace Go.Proofs.Ytdcnoiofimngpaa.Wm
open Go Go.RowKit Go.Proofs.Ytdcnoiofimngpaa.Wl Go.Proofs.YtdcnoiofimngpaaW.PrintWords
set_option linter.unusedVariables false
variable {F : Fence} {n : Nat} {P : Program}
/-- what is no cells, from B on, stays -/
def KF (B : Nat) (W W' : World) : Prop := ∀ (j : Nat) (o : Obj), B ≤ j → W.heap[j]? = some o → o.isCells = false → W'.heap[j]? = some o
theorem KF.refl (B : Nat) (W : World) : KF B W W := fun _ _ _ h _ => h
theorem KF.trans {B : Nat} {X Y Z : World} (h : KF B X Y) (k : KF B Y Z) : KF B X Z := fun j o hj ho hc => k j o hj (h j o hj ho hc) hc
theorem KF.less {B B' : Nat} {X Y : World} (h : KF B X Y) (hB : B ≤ B') : KF B' X Y := fun j o hj ho hc => h j o (Nat.le_trans hB hj) ho hc
theorem KF.calm {B : Nat} {W W' : World} (hb : Below W.heap.size W W') : KF B W W' := fun j o _ ho _ => (hb.block j (Array.getElem?_eq_some_iff.1 ho).1).trans ho
theorem KF.cells {B : Nat} {W W' : World} {row : Option Nat} (hg : W.grownBy W' row) (hr : ∀ r, row = some r → ∃ cs t x, W.heap[r]? = some (.cells cs t x)) : KF B W W' := fun j o _ ho hc =>
  (hg.block j (Array.getElem?_eq_some_iff.1 ho).1 (fun e => by
    obtain ⟨cs, t, x, h⟩ := hr j e.symm
    rw [ho] at h; cases h; cases hc)).trans ho
theorem KF.put {B l : Nat} {W : World} (o' : Obj) (hl : l < B) : KF B W (W.putObj l o') := fun j o hj ho _ => (World.putObj_heap_other (by omega)).trans ho
theorem KF.keeps {B : Nat} {W W' : World} (h : KeepsOthers W W') : KF B W W' := fun j o _ ho hc => h.same j o ho hc
theorem Firm.less {B B' : Nat} {X : World → Prop} (h : Firm B X) (hB : B ≤ B') : Firm B' X := fun A A' row hx hg hr => h A A' row hx hg (fun r e => by obtain ⟨a, b⟩ := hr r e; exact ⟨Nat.le_trans hB a, b⟩)
theorem Firm.still {B : Nat} {X : World → Prop} (h : Firm B X) : Still B X := fun A A' row hx hg hr => h A A' row hx hg (fun r e => by obtain ⟨a, c, b⟩ := hr r e; exact ⟨a, _, b, .inr ⟨c, rfl⟩⟩)
theorem Firm.calm {B : Nat} {X : World → Prop} (h : Firm B X) {W W' : World} (hx : X W) (hb : Below W.heap.size W W') : X W' := h W W' none hx (grown_of_below hb none) (fun r e => by cases e)
/-- AN ITERATOR, that may keep what is no cells, and is told that a round keeps that -/
def Seq2 (F : Fence) (n : Nat) (P : Program) (g : Nat) (lb : Array Value) (enc : Nat → Array Value) (Kp : World → World → Prop) (N : Nat) (w : World) : Prop :=
  ∀ (l : Nat) (J Jx : Nat → World → Prop) (W : World), Below w.heap.size w W → (∀ k, Firm W.heap.size (J k)) → (∀ k, Firm W.heap.size (Jx k)) →
    (∀ k W1, k < N → J k W1 → YieldAt F (n - 1) P l (enc k) W1 fun e W' => ((e = .returned (.bool true) ∧ J (k + 1) W' ∧ Kp W1 W') ∨ (e = .returned (.bool false) ∧ Jx (k + 1) W')) ∧ KF W.heap.size W1 W') →
    J 0 W → CallsIn F n P g (#[.func (.yield l) #[] #[]] ++ lb) W fun e W' => (∃ v, e = .returned v) ∧ (J N W' ∨ ∃ k, Jx k W')
theorem Seq2.of {g : Nat} {lb : Array Value} {enc : Nat → Array Value} {Kp : World → World → Prop} {N : Nat} {w : World} (h : Seq F n P g lb enc Kp N w) : Seq2 F n P g lb enc Kp N w :=
  fun l J Jx W hW hJ hJx hY h0 => h l J Jx W hW (fun k => Firm.still (hJ k)) (fun k => Firm.still (hJx k)) (fun k W1 hk hj => (hY k W1 hk hj).mono fun _ _ hh => hh.1) h0
/-- how a round's body may be left -/
def Post2 (B : Nat) (Kp : World → World → Prop) (I : Nat → World → Prop) (Ix : Code → Nat → World → Prop) (k : Nat) (W : World) : Exit → Act → World → Prop
  | .normal, _, W' => KF B W W' ∧ Kp W W' ∧ I k W'
  | .ret, _, W' => KF B W W' ∧ Ix .ret k W'
  | .exit id, _, W' => KF B W W' ∧ Ix (.exit id) k W'
  | .goto _, _, _ => False
  | .panic _, _, _ => False
  | .outgrown, _, _ => False
theorem range_law2 {g : Operand} {ps : Array Tmp} {assign body : Code} {Q : Exit → Act → World → Prop} {a : Act} {w : World}
    (hro : F.round = none) (h1 : 1 ≤ n) {gf : Nat} {lb : Array Value} (hg : a.eval g = .func (.func gf) #[] lb) (hFg : F.fn gf) (eg : ∀ args w, (callFunc gf args).run P w = .ok (.enter gf args) w)
    {enc : Nat → Array Value} {Kp : World → World → Prop} {N : Nat} (hseq : Seq2 F (n - 1) P gf lb enc Kp N w) (hps : ∀ k, (enc k).size = ps.size)
    (hKt : ∀ {A B C : World}, Kp A B → Kp B C → Kp A C) (hKb : ∀ (W : World) (l : Nat) (o o' : Obj), w.heap.size ≤ l → W.heap[l]? = some o → o.isCells = false → Kp W (W.putObj l o'))
    (I : Nat → World → Prop) (Ix : Code → Nat → World → Prop) (hI : ∀ k, Firm w.heap.size (I k)) (hIx : ∀ c k, Firm w.heap.size (Ix c k)) (h0 : I 0 w) (a₁ : Nat → Act)
    (hassign : ∀ (l k : Nat) (W : World) (K : Act → World → Prop), K (a₁ k) W →
      assign.wpIn (F.inRound l) (n - 1 - 1) P (Exit.then K (fun _ _ _ => False)) { tmps := (ps.zip (enc k)).foldl (fun t (p, v) => t.setIfInBounds p v) a.tmps, defers := [] } W)
    (hbody : ∀ (l k : Nat) (W : World), k < N → I k W → body.wpIn (F.inRound l) (n - 1 - 1) P (Post2 w.heap.size Kp I Ix (k + 1) W) (a₁ k) W)
    (hdone : ∀ (D : Nat) (W : World), w.heap.size ≤ D → I N W → W.heap[D]? = some (.deferred (some [])) → Q .normal { a with defers := { target := .collected D, args := #[] } :: a.defers } W)
    (hstop : ∀ (D : Nat) (c : Code) (k : Nat) (W : World), w.heap.size ≤ D → Ix c k W → W.heap[D]? = some (.deferred (some [])) → c.wpIn F n P Q { a with defers := { target := .collected D, args := #[] } :: a.defers } W) :
    (Code.rangeFunc g ps assign body).wpIn F n P Q a w := by
  refine wpIn_rangeFunc fun fn hfn => ?_
  rw [hro]
  obtain ⟨D, hD⟩ : ∃ D, w.heap.size = D := ⟨_, rfl⟩
  let rec_ : LoopState → Option Code → Loop := fun st pe => { state := st, pending := pe, fn, tmps := a.tmps, params := ps, assign, body, defers := w.heap.size }
  obtain ⟨W1, hW1⟩ : ∃ W1, (w.alloc (.deferred (some []))).alloc (.loop (rec_ .ready none)) = W1 := ⟨_, rfl⟩
  have hs1 : W1.heap.size = D + 2 := by rw [← hW1, World.size_alloc, World.size_alloc, hD]
  have hL1 : W1.heap[D + 1]? = some (.loop (rec_ .ready none)) := by
    have := World.alloc_heap_new (w.alloc (.deferred (some []))) (.loop (rec_ .ready none))
    rw [World.size_alloc, hW1, hD] at this
    exact this
  have hD1 : W1.heap[D]? = some (.deferred (some [])) := by
    have := World.alloc_heap_new w (.deferred (some []))
    rw [← hW1, ← hD]
    exact (Below.heap_alloc _ _ _ (by simp)).trans this
  have hb1 : Below w.heap.size w W1 := by rw [← hW1]; exact ((Below.refl _ w).alloc (Nat.le_refl _) _).alloc (by simp) _
  have hI1 : I 0 W1 := by rw [← hW1]; exact (hI 0).alloc _ ((hI 0).alloc _ h0)
  refine ⟨D + 1, [{ target := .collected D, args := #[] }], W1, { target := .fn (.func gf) lb, args := #[.func (.yield (D + 1)) #[] #[]] }, W1, gf, #[.func (.yield (D + 1)) #[] #[]] ++ lb, W1, ?_, ?_, ?_, ?_, fun _ => h1, ?_⟩
  · rw [← hW1, ← hD]; exact run_enterLoop_outer _ _ _ _ _
  · simp only [resolve, hg]
    simp [go_sem]
  · intro f' hf'; simp [Target.leads] at hf'; subst hf'; exact hFg
  · simp [invoke, go_sem, eg]
  have still : ∀ {X : World → Prop} (rc : Loop), Firm w.heap.size X → Firm W1.heap.size (fun W => X W ∧ W.heap[D + 1]? = some (.loop rc) ∧ W.heap[D]? = some (.deferred (some []))) := by
    intro X rc hX A A' row hs hg' hr
    have keep : ∀ (k : Nat) (o : Obj), k ≤ D + 1 → A.heap[k]? = some o → A'.heap[k]? = some o := fun k o hk ho =>
      (hg'.block k (Array.getElem?_eq_some_iff.1 ho).1 (fun e => by have := (hr k e.symm).1; omega)).trans ho
    refine ⟨hX A A' row hs.1 hg' (fun r e => ?_), keep _ _ (Nat.le_refl _) hs.2.1, keep _ _ (by omega) hs.2.2⟩
    obtain ⟨q1, q2⟩ := hr r e
    exact ⟨by omega, q2⟩
  refine (hseq (D + 1) (fun k W => I k W ∧ W.heap[D + 1]? = some (.loop (rec_ .ready none)) ∧ W.heap[D]? = some (.deferred (some [])))
    (fun k W => ∃ c, Ix c k W ∧ W.heap[D + 1]? = some (.loop (rec_ .done (some c))) ∧ W.heap[D]? = some (.deferred (some []))) W1 hb1 (fun k => still _ (hI k))
    (fun k A A' row ⟨c, hs⟩ hg' hr => ⟨c, still _ (hIx c k) A A' row hs hg' hr⟩) ?_ ⟨hI1, hL1, hD1⟩).mono ?_
  · rintro k W hk ⟨hi, hl, hd⟩
    have hlt : D + 1 < W.heap.size := (Array.getElem?_eq_some_iff.1 hl).1
    refine ⟨fn, _, assign, body, run_yield (P := P) (args := enc k) hl (hps k), roundIn_of_wpIn hfn (hassign _ k W _ ⟨_, run_beginRound hl rfl, ?_⟩)⟩
    obtain ⟨W2, hW2⟩ : ∃ W2, W.putObj (D + 1) (.loop { rec_ .ready none with state := .busy }) = W2 := ⟨_, rfl⟩
    have hl2 : W2.heap[D + 1]? = some (.loop { rec_ .ready none with state := .busy }) := by rw [← hW2]; exact World.putObj_heap_same hlt
    have hd2 : W2.heap[D]? = some (.deferred (some [])) := by rw [← hW2]; exact (World.putObj_heap_other (by omega)).trans hd
    have hi2 : I k W2 := by rw [← hW2]; exact (hI k).put _ hi (by omega) hl rfl
    have hk2 : Kp W W2 := by rw [← hW2]; exact hKb _ _ _ _ (by omega) hl rfl
    have hf2 : KF W1.heap.size W W2 := by rw [← hW2]; exact KF.put _ (by omega)
    show body.wpIn _ _ _ _ _ (W.putObj (D + 1) (.loop { rec_ .ready none with state := .busy }))
    rw [hW2]
    refine wpIn_mono (hbody _ k W2 hk hi2) ?_
    have fin : ∀ (jump : Option Code) (W3 : World), KF w.heap.size W2 W3 →
        (Instr.endRound (D + 1) jump).run P W3 = .ok (.bool jump.isNone) (W3.putObj (D + 1) (.loop (rec_ (if jump.isNone then .ready else .done) jump))) ∧ W3.heap[D + 1]? = some (.loop { rec_ .ready none with state := .busy }) ∧
        (W3.putObj (D + 1) (.loop (rec_ (if jump.isNone then .ready else .done) jump))).heap[D + 1]? = some (.loop (rec_ (if jump.isNone then .ready else .done) jump)) ∧
        (W3.putObj (D + 1) (.loop (rec_ (if jump.isNone then .ready else .done) jump))).heap[D]? = some (.deferred (some [])) ∧ KF W1.heap.size W (W3.putObj (D + 1) (.loop (rec_ (if jump.isNone then .ready else .done) jump))) := fun jump W3 hk3 => by
      have hl3 := hk3 _ _ (by omega) hl2 rfl
      exact ⟨run_endRound (P := P) jump hl3, hl3, World.putObj_heap_same (Array.getElem?_eq_some_iff.1 hl3).1, (World.putObj_heap_other (by omega)).trans (hk3 _ _ (by omega) hd2 rfl), (hf2.trans (hk3.less (by omega))).trans (KF.put _ (by omega))⟩
    rintro e a3 W3 hp
    cases e with
    | normal =>
      obtain ⟨hk3, hkp3, hi3⟩ := hp
      obtain ⟨hr, hl3, hl4, hd4, hf4⟩ := fin none W3 hk3
      exact ⟨_, _, hr, .inl ⟨rfl, ⟨(hI _).put _ hi3 (by omega) hl3 rfl, hl4, hd4⟩, hKt (hKt hk2 hkp3) (hKb _ _ _ _ (by omega) hl3 rfl)⟩, hf4⟩
    | ret =>
      obtain ⟨hk3, hi3⟩ := hp
      obtain ⟨hr, hl3, hl4, hd4, hf4⟩ := fin (some .ret) W3 hk3
      exact ⟨_, _, hr, .inr ⟨rfl, .ret, (hIx _ _).put _ hi3 (by omega) hl3 rfl, hl4, hd4⟩, hf4⟩
    | exit id =>
      obtain ⟨hk3, hi3⟩ := hp
      obtain ⟨hr, hl3, hl4, hd4, hf4⟩ := fin (some (.exit id)) W3 hk3
      exact ⟨_, _, hr, .inr ⟨rfl, .exit id, (hIx _ _).put _ hi3 (by omega) hl3 rfl, hl4, hd4⟩, hf4⟩
    | goto t => exact hp.elim
    | panic ch => exact hp.elim
    | outgrown => exact hp.elim
  · rintro e W2 ⟨⟨v, rfl⟩, (⟨hi, hl, hd⟩ | ⟨k, c, hi, hl, hd⟩)⟩
    · exact ⟨none, _, run_endLoop (P := P) hl (by simp [rec_]), hdone _ _ (by omega) ((hI _).put _ hi (by omega) hl rfl) ((World.putObj_heap_other (by omega)).trans hd)⟩
    · exact ⟨some c, _, run_endLoop (P := P) hl (by simp [rec_]), hstop _ c k _ (by omega) ((hIx c k).put _ hi (by omega) hl rfl) ((World.putObj_heap_other (by omega)).trans hd)⟩
end Go.Proofs.Ytdcnoiofimngpaa.Wm
/- All runes of a rope, gone over. -/
namespace Go.Proofs.Ytdcnoiofimngpaa.Rn
open Go.RowKit Go.Shelf Go.Proofs.Ytdcnoiofimngpaa.U Go.Proofs.Ytdcnoiofimngpaa.QK Go.Proofs.Ytdcnoiofimngpaa.Kt Go.Proofs.Ytdcnoiofimngpaa.Kc Go.Proofs.Ytdcnoiofimngpaa.Kh Go.Proofs.Ytdcnoiofimngpaa.Kj Go.Proofs.Ytdcnoiofimngpaa.Kk Go.Proofs.Ytdcnoiofimngpaa.Gs Go.Proofs.Ytdcnoiofimngpaa.Gt Go.Proofs.Ytdcnoiofimngpaa.Gr Go.Proofs.Ytdcnoiofimngpaa.Wl Go.Proofs.Ytdcnoiofimngpaa.Wc Go.Proofs.Ytdcnoiofimngpaa.Wq Go.Proofs.Ytdcnoiofimngpaa.Fn Go.Proofs.Ytdcnoiofimngpaa.Wm Go.Proofs.YtdcnoiofimngpaaW.PrintWords Go.Proofs.YtdcnoiofimngpaaW.PrintLast Go.Proofs.YtdcnoiofimngpaaW.PrintMore
set_option linter.unusedVariables false
set_option linter.unusedSimpArgs false
attribute [local go_sem] Oper.semAt_some
/-- where rune k begins -/
def rp (S : List UInt8) : Nat → Nat
  | 0 => 0
  | k + 1 => rp S k + (Sp.dec (S.drop (rp S k))).2
/-- rune k -/
def rc (S : List UInt8) (k : Nat) : Nat := (Sp.dec (S.drop (rp S k))).1
def runeE (S : List UInt8) (k : Nat) : Array Value := #[.int .i64 (rp S k : Nat), .int .i32 (rc S k : Nat)]
/-- N runes -/
def Runes (S : List UInt8) (N : Nat) : Prop := rp S N = S.length ∧ ∀ k, k < N → rp S k < S.length
theorem rp_step {S : List UInt8} {k : Nat} (hv : Sp.valid (S.drop (rp S k)) = true) (hk : rp S k < S.length) : (Sp.dec (S.drop (rp S k))).2 ≠ 0 ∧ Sp.valid (S.drop (rp S (k + 1))) = true ∧ rp S (k + 1) ≤ S.length := by
  have hne : S.drop (rp S k) ≠ [] := fun e => by have := congrArg List.length e; rw [List.length_drop, List.length_nil] at this; omega
  have h2 := hv
  rw [Sp.valid_step _ hne, Bool.and_eq_true, List.drop_drop] at h2
  have := @Sp.dec_le (S.drop (rp S k))
  rw [List.length_drop] at this
  refine ⟨of_decide_eq_true h2.1, h2.2, ?_⟩
  show rp S k + _ ≤ _
  omega
theorem runes_from (S : List UInt8) : ∀ (m k : Nat), S.length ≤ m + rp S k → Sp.valid (S.drop (rp S k)) = true → rp S k ≤ S.length → (∀ i, i < k → rp S i < S.length) → ∃ N, Runes S N
  | m, k, hm, hv, hk, hi => by
    by_cases c : rp S k < S.length
    · obtain ⟨h1, h2, h3⟩ := rp_step hv c
      have h4 : rp S (k + 1) = rp S k + (Sp.dec (S.drop (rp S k))).2 := rfl
      cases m with
      | zero => omega
      | succ m => exact runes_from S m (k + 1) (by omega) h2 h3 (fun i hh => by
          by_cases ce : i = k
          · rw [ce]; exact c
          · exact hi i (by omega))
    · exact ⟨k, by omega, hi⟩
theorem runes_of (S : List UInt8) (hv : Sp.valid S = true) : ∃ N, Runes S N :=
  runes_from S S.length 0 (Nat.le_add_right _ _) (by show Sp.valid (S.drop 0) = true; rw [List.drop_zero]; exact hv) (Nat.zero_le _) (fun i h => absurd h (Nat.not_lt_zero i))
theorem Runes.lt {S : List UInt8} {N j : Nat} (h : Runes S N) (hj : j ≤ N) (hp : rp S j < S.length) : j < N := by
  rcases Nat.lt_or_ge j N with c | c
  · exact c
  · have e : j = N := by omega
    rw [e, h.1] at hp; omega
theorem Runes.eq {S : List UInt8} {N j : Nat} (h : Runes S N) (hj : j ≤ N) (hp : rp S j = S.length) : j = N := by
  rcases Nat.lt_or_ge j N with c | c
  · have := h.2 j c; omega
  · omega
/-- what a round keeps for Runes -/
structure KpR (n₀ B bf : Nat) (W W' : World) : Prop where
  b : Below n₀ W W'
  f : ∀ cs t x, W.heap[bf]? = some (.cells cs t x) → W'.heap[bf]? = some (.cells cs t x)
  o : ∀ (k : Nat) cs t x, B ≤ k → t = 3 ∨ t = 73 ∨ t = 100 ∨ t = 24 ∨ t = 108 → W.heap[k]? = some (.cells cs t x) → W'.heap[k]? = some (.cells cs t x)
theorem KpR.trans {n₀ B bf : Nat} {X Y Z : World} (h : KpR n₀ B bf X Y) (k : KpR n₀ B bf Y Z) : KpR n₀ B bf X Z :=
  ⟨h.b.trans k.b, fun cs t x hx => k.f cs t x (h.f cs t x hx), fun j cs t x hj ht hx => k.o j cs t x hj ht (h.o j cs t x hj ht hx)⟩
theorem KpR.grown {n₀ B bf : Nat} {W W' : World} {row : Option Nat} (hg : W.grownBy W' row) (hn : n₀ ≤ W.heap.size) (hr : ∀ j, row = some j → n₀ ≤ j ∧ j ≠ bf ∧ (B ≤ j → ∀ cs t x, W.heap[j]? = some (.cells cs t x) → ¬ (t = 3 ∨ t = 73 ∨ t = 100 ∨ t = 24 ∨ t = 108))) : KpR n₀ B bf W W' :=
  ⟨(Below.refl n₀ W).grown hg hn (fun k e => (hr k e).1), fun cs t x hx => (hg.block bf (lt_of_at hx) (fun e => (hr bf e.symm).2.1 rfl)).trans hx,
    fun k cs t x hk ht hx => (hg.block k (lt_of_at hx) (fun e => (hr k e.symm).2.2 hk cs t x hx ht)).trans hx⟩
theorem KpR.put {n₀ B bf : Nat} {W : World} {l : Nat} {o : Obj} (o' : Obj) (hl : W.heap[l]? = some o) (ho : o.isCells = false) (hn : n₀ ≤ l) (hbf : bf < l) : KpR n₀ B bf W (W.putObj l o') :=
  KpR.grown (grownBy_putObj' W l o') (by have := lt_of_at hl; omega) (fun j e => by
    cases e
    refine ⟨hn, by omega, ?_⟩
    intro _ cs t x hx; rw [hl] at hx; cases hx; cases ho)
theorem KpR.set {n₀ B bf b : Nat} {W : World} {t : TypeId} {u : Value} (v : Value) (h : Boxed W b t u) (ht : b < B ∨ ¬ (t = 3 ∨ t = 73 ∨ t = 100 ∨ t = 24 ∨ t = 108)) (hn : n₀ ≤ b) (hbf : b ≠ bf) : KpR n₀ B bf W (W.setCell ⟨b, 0, none⟩ v) :=
  KpR.grown (grownBy_setCell' W b v) (by have := h.lt; omega) (fun j e => by
    cases e
    refine ⟨hn, hbf, ?_⟩
    intro hB cs t' x hx; rw [show W.heap[b]? = _ from h] at hx; cases hx
    rcases ht with ht | ht
    · omega
    · exact ht)
theorem KpR.calm {n₀ B bf : Nat} {W W' : World} (hb : Below W.heap.size W W') (hn : n₀ ≤ W.heap.size) : KpR n₀ B bf W W' := KpR.grown (grown_of_below hb none) hn (fun j e => by cases e)
theorem KpR.kp {n₀ B B' bf bc : Nat} {v : Value} {W W' : World} (h : KpR n₀ B bf W W') (hB : B ≤ B') (hbc : B ≤ bc) (hc : Boxed W bc 24 v) : Kp n₀ B' bc W W' :=
  ⟨h.b, fun cs t x hx => by
    rw [show W.heap[bc]? = _ from hc] at hx
    cases hx
    exact h.o bc _ 24 _ hbc (.inr (.inr (.inr (.inl rfl)))) hc, fun k cs t x hk ht hx => h.o k cs t x (by omega) (by rcases ht with ht | ht | ht <;> simp [ht]) hx⟩
/-- what lies between two runes: P bytes are gone over -/
structure Rv (w0 : World) (g l bY bf bc N : Nat) (S : List UInt8) (J : Nat → World → Prop) (P : Nat) (W : World) : Prop where
  j : ∃ j, j ≤ N ∧ rp S j = P ∧ J j W
  y : Boxed W bY 108 (.func (.yield l) #[] #[])
  f : Boxed W bf 3 (.int .i64 0)
  c : Boxed W bc 24 (.pointer (some ⟨g, 0, none⟩))
  b : Below w0.heap.size w0 W
theorem Rv.firm {w0 : World} {g l bY bf bc N : Nat} {S : List UInt8} {J : Nat → World → Prop} {B P : Nat} (hJ : ∀ k, Firm B (J k)) (h0 : w0.heap.size ≤ B) (h1 : bY < B) (h2 : bf < B) (h3 : bc < B) : Firm B (Rv w0 g l bY bf bc N S J P) := by
  intro A A' row hs hg hr
  obtain ⟨j, a1, a2, a3⟩ := hs.j
  exact ⟨⟨j, a1, a2, hJ j A A' row a3 hg hr⟩, Firm.boxed h1 A A' row hs.y hg hr, Firm.boxed h2 A A' row hs.f hg hr, Firm.boxed h3 A A' row hs.c hg hr, Firm.below (Nat.le_refl _) h0 A A' row hs.b hg hr⟩
/-- within a chunk -/
structure Rl (w0 : World) (g l bY bf bc N : Nat) (S : List UInt8) (J : Nat → World → Prop) (n0 B' : Nat) (Q0 : Int) (sk : ByteArray) (W1 : World) (p j : Nat) (wr : World) : Prop where
  lp : p ≤ sk.size
  lj : j ≤ N
  lr : rp S j = Q0.toNat + p
  lv : Sp.valid ((ld sk).drop p) = true
  li : wr.heap[W1.heap.size]? = some (.stringIter sk p)
  lh : J j wr
  ly : Boxed wr bY 108 (.func (.yield l) #[] #[])
  lf : Boxed wr bf 3 (.int .i64 0)
  lc : Boxed wr bc 24 (.pointer (some ⟨g, 0, none⟩))
  lb : Below w0.heap.size w0 wr
  lk : KF B' W1 wr
  lq : Kp w0.heap.size B' bc W1 wr
theorem kf_put {B l : Nat} {W X : World} (o' : Obj) (h : KF B W X) (hl : W.heap.size ≤ l) : KF B W (X.putObj l o') := fun j o hj ho hc =>
  (World.putObj_heap_other (by have := lt_of_at ho; omega)).trans (h j o hj ho hc)
theorem dec_in {S s : List UInt8} {Q p : Nat} (hs : s = (S.drop Q).take s.length) (hp : p < s.length) (hv : Sp.valid (s.drop p) = true) : Sp.dec (S.drop (Q + p)) = Sp.dec (s.drop p) ∧ (Sp.dec (s.drop p)).2 ≠ 0 ∧ Sp.valid (s.drop (p + (Sp.dec (s.drop p)).2)) = true ∧ p + (Sp.dec (s.drop p)).2 ≤ s.length := by
  have hne : s.drop p ≠ [] := fun e => by have := congrArg List.length e; rw [List.length_drop, List.length_nil] at this; omega
  have h2 := hv
  rw [Sp.valid_step _ hne, Bool.and_eq_true, List.drop_drop] at h2
  have h3 := of_decide_eq_true h2.1
  have h4 := @Sp.dec_le (s.drop p)
  rw [List.length_drop] at h4
  refine ⟨?_, h3, h2.2, by omega⟩
  have e : S.drop (Q + p) = s.drop p ++ (S.drop Q).drop s.length := by
    have e1 := List.take_append_drop s.length (S.drop Q)
    rw [← hs] at e1
    have e2 := congrArg (List.drop p) e1
    rw [List.drop_append_of_le_length (by omega)] at e2
    rw [e2, List.drop_drop]
  rw [e, Sp.dec_append h3]
set_option maxHeartbeats 8000000 in
set_option maxRecDepth 100000 in
theorem runes1_seq {w0 : World} {g : Nat} {p : Option Addr} {t : Tr} {C : List ByteArray} (h : Rope w0 g p t C) (hv : ∀ x ∈ C, Sp.valid (ld x) = true) (N : Nat) (hN : Runes (ld (cat C)) N) (n B br bf : Nat) (w : World) (hB : B ≤ w.heap.size) (hb : Below w0.heap.size w0 w) (hbr : Boxed w br 24 (.pointer (some ⟨g, 0, none⟩))) (hbf : Boxed w bf 3 (.int .i64 0)) :
    Seq2 Fence.wide n Try.prog 76 #[.pointer (some ⟨br, 0, none⟩), .pointer (some ⟨bf, 0, none⟩)] (runeE (ld (cat C))) (KpR w0.heap.size B bf) N w := by
  intro l J Jx W hW hJ hJx hY h0
  have hbW : Below w0.heap.size w0 W := hb.trans (hW.mono hb.size)
  have hbrW : Boxed W br 24 (.pointer (some ⟨g, 0, none⟩)) := (hW.block br hbr.lt).trans hbr
  have hbfW : Boxed W bf 3 (.int .i64 0) := (hW.block bf hbf.lt).trans hbf
  have hc0 := (hbrW.alloc (.cells #[.func (.yield l) #[] #[]] 108)).cell
  have hc1 := hbrW.cell
  have hY2 : ∀ m k W1, k < N → J k W1 → YieldAt Fence.wide m Try.prog l (runeE (ld (cat C)) k) W1 fun e W' => ((e = .returned (.bool true) ∧ J (k + 1) W' ∧ KpR w0.heap.size B bf W1 W') ∨ (e = .returned (.bool false) ∧ Jx (k + 1) W')) ∧ KF W.heap.size W1 W' := fun m k W1 hk hj => yield_any m (hY k W1 hk hj)
  clear hY
  refine callsIn_of_wp_marks Try.func76 rfl trivial ?_ rfl
  simp only [Try.ntmps76, List.size_toArray, List.length_cons, List.length_nil, Nat.reduceAdd, Nat.reduceSub, Array.replicate_succ, Array.replicate_zero, List.push_toArray, List.append_toArray, List.nil_append, List.cons_append]
  refine wpIn_wide.2 ?_
  go_wp2_with (go_at_call 37; (with_reducible refine (chunks_plain _ _).mono ?_); rintro e w3 ⟨rfl, rfl⟩)
  refine (wpIn_wide (n := 9)).1 ?_
  obtain ⟨W0, hW0⟩ : ∃ W0, ((W.alloc (.cells #[.func (.yield l) #[] #[]] 108)).alloc (.cells #[.pointer (some ⟨g, 0, none⟩)] 24)) = W0 := ⟨_, rfl⟩
  have hsz : W0.heap.size = W.heap.size + 1 + 1 := by rw [← hW0]; simp
  have s0 : Rv w0 g l W.heap.size bf (W.heap.size + 1) N (ld (cat C)) J (pos C 0).toNat W0 := by
    rw [← hW0]
    have b1 := Boxed.new W 108 (.func (.yield l) #[] #[])
    have b2 := Boxed.new (W.alloc (.cells #[.func (.yield l) #[] #[]] 108)) 24 (.pointer (some ⟨g, 0, none⟩))
    simp only [World.size_alloc] at b2
    exact ⟨⟨0, Nat.zero_le _, rfl, Firm.alloc (hJ 0) _ (Firm.alloc (hJ 0) _ h0)⟩, b1.alloc _, (hbfW.alloc _).alloc _, b2, (hbW.alloc hbW.size _).alloc (by have := hbW.size; simp; omega) _⟩
  have hWlt : W.heap.size ≤ W0.heap.size := by omega
  have hbs := hbW.size
  have hBW : B ≤ W.heap.size := Nat.le_trans hB hW.size
  have hbflt := hbfW.lt
  rw [hW0]
  clear hW0 hc0 hc1
  have hs0 := h.s 0
  have HPS : Aside0 (∀ k, k ≤ C.length → pos C k ≤ 5000 ∧ 0 ≤ pos C k) := ⟨fun k hk => by
    have e : kt 0 C = kt 0 (C.take k) + kt 0 (C.drop k) := by rw [← kt_app, List.take_append_drop]
    have := kt_nonneg 0 (C.drop k)
    have := kt_nonneg 0 (C.take k)
    unfold pos
    omega⟩
  refine range_law2 rfl (by omega) (gf := 64) (lb := #[.pointer (some ⟨W.heap.size + 1, 0, none⟩)]) rfl trivial (enters_of Try.func64 (by kernel_rfl) rfl)
    (Seq2.of (chunks1_seq h 8 W0.heap.size _ W0 (Nat.le_refl _) s0.b s0.c)) (fun _ => rfl) (fun h k => h.trans k) (fun W l o o' h1 h2 h3 => Kp.put o' h2 h3 (by omega) (by omega))
    (fun k W' => Rv w0 g l W.heap.size bf (W.heap.size + 1) N (ld (cat C)) J (pos C k).toNat W')
    (fun c k W' => c = .ret ∧ ∃ j, Jx j W')
    (fun k => Rv.firm (fun k => Firm.less (hJ k) hWlt) (by omega) (by omega) (by omega) (by omega))
    (fun c k A A' row hs hg hr => ⟨hs.1, hs.2.elim fun j hj => ⟨j, Firm.less (hJx j) hWlt A A' row hj hg hr⟩⟩)
    s0 ?a1 ?assign ?body ?done ?stop
  case assign =>
    intro l k W K hK
    simp only [chunkE]
    rw [show C.getD k ⟨#[]⟩ = chunkAt C k from rfl]
    gi_wp2
    exact hK
  case body =>
    rintro l' k W1 hk hs
    obtain ⟨sk, hsk0⟩ : ∃ z, chunkAt C k = z := ⟨_, rfl⟩
    have hsk : C.getD k ⟨#[]⟩ = sk := hsk0
    have hpn := pos_next C k hk
    obtain ⟨hin, hle⟩ := chunk_in C k hk
    have hvk : Sp.valid (ld sk) = true := hv _ (by rw [← hsk, List.getD_eq_getElem?_getD, List.getElem?_eq_getElem hk]; exact List.getElem_mem hk)
    rw [hsk] at hpn hin hle
    have hp5 := HPS.out (k + 1) (by omega)
    have hp6 := HPS.out k (by omega)
    obtain ⟨Q1, hQ1⟩ : ∃ Q1, pos C (k + 1) = Q1 := ⟨_, rfl⟩
    obtain ⟨Q0, hQ0⟩ : ∃ Q0, pos C k = Q0 := ⟨_, rfl⟩
    rw [hQ1] at hpn hp5
    rw [hQ0] at hpn hp6 hin hle hs
    have hwp : wrap64 (Q0 + (sk.size : Int)) = Q1 := by rw [hpn]; unfold wrap64; omega
    have hcf := hs.f.cell
    rw [hsk0, hQ0]
    by_cases cs : Q1 ≤ 0
    · have csb : decide (Q1 ≤ 0) = true := decide_eq_true cs
      have HEND : Aside0 (Rv w0 g l W.heap.size bf (W.heap.size + 1) N (ld (cat C)) J (pos C (k + 1)).toNat W1) := ⟨by rw [hQ1, show Q1.toNat = Q0.toNat by omega]; exact hs⟩
      clear hin hle hvk hpn hp5 hp6 hQ0 hQ1 hsk hsk0 hs hs0 hv
      gi_wp2
      exact ⟨KF.refl _ _, Kp.refl _ _ _ _, HEND.out⟩
    · have csb : decide (Q1 ≤ 0) = false := decide_eq_false cs
      have HPN : Aside0 (0 ≤ Q0 ∧ Q0 ≤ 5000 ∧ Q1 = Q0 + sk.size ∧ Q1 ≤ 5000 ∧ Q0.toNat + sk.size ≤ (ld (cat C)).length) := ⟨by omega⟩
      have HIN := Aside0.mk hin
      have HQ1 := Aside0.mk hQ1
      have hbcW := hs.c.lt
      obtain ⟨j0, hj0, hj1, hj2⟩ := hs.j
      have s1 : Rl w0 g l W.heap.size bf (W.heap.size + 1) N (ld (cat C)) J w0.heap.size W0.heap.size Q0 sk W1 0 j0 (W1.alloc (.stringIter sk 0)) :=
        ⟨Nat.zero_le _, hj0, hj1, by rw [List.drop_zero]; exact hvk, World.alloc_heap_new _ _, Firm.alloc (Firm.less (hJ _) hWlt) _ hj2, hs.y.alloc _, hs.f.alloc _, hs.c.alloc _, hs.b.alloc hs.b.size _, KF.calm ((Below.refl _ W1).alloc (Nat.le_refl _) _), Kp.alloc _ _ hs.b.size⟩
      have S1 := Aside0.mk s1
      have HLT : Aside0 (W.heap.size + 1 < W1.heap.size ∧ bf < W1.heap.size ∧ w0.heap.size ≤ W1.heap.size) := ⟨by omega⟩
      clear hin hle hvk hpn hp5 hp6 hQ0 hQ1 hsk hsk0 hs s1 hs0 hv hj0 hj1 hj2
      gi_wp2
      gi_loopw [6, 7] (fun v6 v7 wr => ∃ p j, Aside0 (Rl w0 g l W.heap.size bf (W.heap.size + 1) N (ld (cat C)) J w0.heap.size W0.heap.size Q0 sk W1 p j wr)) (fun _ _ wr => sk.size - wr.iterPos W1.heap.size)
      case atStart => exact ⟨0, _, S1⟩
      case round =>
        clear S1
        obtain ⟨p, j, HR⟩ := hrel
        have hit := HR.out.li
        have hlp := HR.out.lp
        by_cases hp : p < sk.size
        · obtain ⟨e1, e2, e3, e4⟩ := dec_in (S := ld (cat C)) (s := ld sk) (Q := Q0.toNat) (p := p) (by rw [ld_len]; exact HIN.out) (by rw [ld_len]; exact hp) HR.out.lv
          have hdec := UP.decode_dec sk p hp
          rw [if_neg (show ¬ (Sp.dec (sk.data.toList.drop p)).2 = 0 from e2)] at hdec
          have hnx : ∀ ty, (Instr.next (.pointer (some ⟨W1.heap.size, 0, none⟩)) true ty).run Try.prog wr = .ok (.tuple #[.bool true, .int .i64 (p : Nat), .int .i32 ((Sp.dec ((ld sk).drop p)).1 : Nat)]) (wr.putObj W1.heap.size (.stringIter sk (p + (Sp.dec ((ld sk).drop p)).2))) := by
            intro ty
            have := Lib.run_next_any_at (P := Try.prog) wr W1.heap.size sk p ty hit hp
            rw [hdec] at this
            exact this
          have hrp : rp (ld (cat C)) (j + 1) = Q0.toNat + (p + (Sp.dec ((ld sk).drop p)).2) := by
            show rp _ j + (Sp.dec ((ld (cat C)).drop (rp _ j))).2 = _
            rw [HR.out.lr, e1]; omega
          have hrc : rc (ld (cat C)) j = (Sp.dec ((ld sk).drop p)).1 := by
            unfold rc
            rw [HR.out.lr, e1]
          have hjN : j < N := hN.lt HR.out.lj (by have := HPN.out; rw [HR.out.lr]; omega)
          rw [ld_len] at e4
          obtain ⟨m, hm⟩ : ∃ m, p + (Sp.dec ((ld sk).drop p)).2 = m := ⟨_, rfl⟩
          obtain ⟨cI, hcI⟩ : ∃ cI : Int, ((Sp.dec ((ld sk).drop p)).1 : Int) = cI := ⟨_, rfl⟩
          obtain ⟨pI, hpI⟩ : ∃ pI : Int, (p : Int) = pI := ⟨_, rfl⟩
          have hpm : p < m := by omega
          rw [hm] at hnx hrp e3 e4
          rw [hcI, hpI] at hnx
          have hj2 : J j (wr.putObj W1.heap.size (.stringIter sk m)) := Firm.put (hJ j) _ HR.out.lh (by have := HLT.out; omega) hit rfl
          have keep : ∀ b t v, b < W1.heap.size → Boxed wr b t v → Boxed (wr.putObj W1.heap.size (.stringIter sk m)) b t v := fun b t v hb hx => (World.putObj_heap_other (by omega)).trans hx
          have y2 := keep _ _ _ (by have := HLT.out; omega) HR.out.ly
          have f2 := keep _ _ _ (by have := HLT.out; omega) HR.out.lf
          have c2 := keep _ _ _ (by have := HLT.out; omega) HR.out.lc
          have b2 : Below w0.heap.size w0 (wr.putObj W1.heap.size (.stringIter sk m)) := Lib.below_iterAt HR.out.lb (by have := HLT.out; omega) sk m
          have k2 : KF W0.heap.size W1 (wr.putObj W1.heap.size (.stringIter sk m)) := kf_put _ HR.out.lk (Nat.le_refl _)
          have q2 : Kp w0.heap.size W0.heap.size (W.heap.size + 1) W1 (wr.putObj W1.heap.size (.stringIter sk m)) := HR.out.lq.trans (Kp.put _ hit rfl (by have := HLT.out; omega) (by have := HLT.out; omega))
          have i2 : (wr.putObj W1.heap.size (.stringIter sk m)).heap[W1.heap.size]? = some (.stringIter sk m) := World.putObj_heap_same (lt_of_at hit)
          have hip : wr.iterPos W1.heap.size = p := by unfold World.iterPos; rw [hit]
          obtain ⟨W3, hW3⟩ : ∃ W3, wr.putObj W1.heap.size (.stringIter sk m) = W3 := ⟨_, rfl⟩
          rw [hW3] at hnx hj2 y2 f2 c2 b2 k2 q2 i2
          obtain ⟨fn_, tm_, as_, bo_, hy, hRR⟩ := hY2 (9 - 1 - 1 - 1) j W3 hjN hj2
          dsimp only [runeE] at hy
          rw [hrc, hcI, HR.out.lr] at hy
          obtain ⟨z, hz⟩ : ∃ z : Int, ((Q0.toNat + p : Nat) : Int) = z := ⟨_, rfl⟩
          rw [hz] at hy
          have wz : wrap64 (Q0 + pI) = z := by have := HPN.out; unfold wrap64; omega
          have z0 : decide (0 ≤ z) = true := decide_eq_true (by omega)
          have cy := y2.cell
          have cf := f2.cell
          have HS2 := Aside0.mk (And.intro c2 (And.intro b2 (And.intro k2 (And.intro q2 (And.intro i2 (And.intro y2 f2))))))
          have HE := Aside0.mk (And.intro e3 (And.intro e4 (And.intro hrp (And.intro hjN (And.intro hip hpm)))))
          clear c2 b2 k2 q2 i2 e1 e2 e3 e4 hrp hrc hjN hdec hit hm hcI hpI hW3 keep hz hj2 hp hlp hip hpm y2 f2
          gi_wp2
          refine RoundIn.mono (F := Fence.wide.inRound l') hRR ?_
          clear hy hRR hnx cy cf hcf
          rintro e W4 ⟨(⟨rfl, hJ4, hk4⟩ | ⟨rfl, hJx4⟩), hf4⟩
          · have HJ4 := Aside0.mk (And.intro hJ4 (And.intro hk4 hf4))
            clear hJ4 hk4 hf4
            gi_wp2
            obtain ⟨c2, b2, k2, q2, i2, y2, f2⟩ := HS2.out
            obtain ⟨e3, e4, hrp, hjN, hip, hpm⟩ := HE.out
            obtain ⟨hJ4, hk4, hf4⟩ := HJ4.out
            have i4 : W4.heap[W1.heap.size]? = some (.stringIter sk m) := hf4 _ _ (by have := HLT.out; omega) i2 rfl
            have hiq : W4.iterPos W1.heap.size = m := by unfold World.iterPos; rw [i4]
            refine ⟨⟨m, j + 1, ⟨⟨e4, by omega, hrp, e3, i4, hJ4, hk4.o _ _ 108 _ hBW (.inr (.inr (.inr (.inr rfl)))) y2, hk4.f _ _ _ f2, hk4.o _ _ 24 _ (by omega) (.inr (.inr (.inr (.inl rfl)))) c2, b2.trans hk4.b, k2.trans (hf4.less hWlt), q2.trans (hk4.kp (by omega) (by omega) c2)⟩⟩⟩, ?_⟩
            rw [hip, hiq]
            omega
          · have HJ4 := Aside0.mk (And.intro hJx4 hf4)
            clear hJx4 hf4
            gi_wp2
            exact ⟨HS2.out.2.2.1.trans (HJ4.out.2.less hWlt), rfl, _, HJ4.out.1⟩
        · obtain rfl : p = sk.size := by omega
          have hnx : ∀ ty, (Instr.next (.pointer (some ⟨W1.heap.size, 0, none⟩)) true ty).run Try.prog wr = .ok (.tuple #[.bool false]) wr := fun ty => Lib.run_next_end_at (P := Try.prog) wr W1.heap.size sk sk.size ty hit hp
          clear hit hp hlp
          gi_wp2
          refine ⟨HR.out.lk, HR.out.lq, ⟨j, HR.out.lj, ?_, HR.out.lh⟩, HR.out.ly, HR.out.lf, HR.out.lc, HR.out.lb⟩
          rw [HR.out.lr, HQ1.out]
          have := HPN.out
          omega
  case done =>
    rintro D W2 hD hs hK
    go_wp2
    refine ⟨by simp, .inl ⟨_, _, rfl, run_takeDeferred (ds := []) hK, ?_⟩⟩
    obtain ⟨j, h1, h2, h3⟩ := hs.j
    have hcl : (pos C C.length).toNat = (ld (cat C)).length := by
      unfold pos
      rw [List.take_length, kt_cat, show kf 0 (cat C) = ((cat C).size : Int) from rfl, ld_len, Int.toNat_natCast]
    rw [hcl] at h2
    obtain rfl := hN.eq h1 h2
    refine ⟨.tuple #[], ?_, ⟨_, rfl⟩, .inl (Firm.put (hJ _) _ h3 (by omega) hK rfl)⟩
    simp [results, Try.f76, go_sem]
  case stop =>
    rintro D c k W2 hD ⟨rfl, j, hj⟩ hK
    gi_wp2
    refine ⟨by simp, .inl ⟨_, _, rfl, run_takeDeferred (ds := []) hK, ?_⟩⟩
    refine ⟨.tuple #[], ?_, ⟨_, rfl⟩, .inr ⟨j, Firm.put (hJx _) _ hj (by omega) hK rfl⟩⟩
    simp [results, Try.f76, go_sem]
end Go.Proofs.Ytdcnoiofimngpaa.Rn
/- Runs of letters: byte by byte, rune by rune. -/
namespace Go.Proofs.Ytdcnoiofimngpaa.Wo
open Go.RowKit Go.Shelf Go.Proofs.Ytdcnoiofimngpaa.U Go.Proofs.Ytdcnoiofimngpaa.Kh Go.Proofs.Ytdcnoiofimngpaa.Kj Go.Proofs.Ytdcnoiofimngpaa.Gs Go.Proofs.Ytdcnoiofimngpaa.Gr Go.Proofs.Ytdcnoiofimngpaa.Wl Go.Proofs.Ytdcnoiofimngpaa.Wc Go.Proofs.Ytdcnoiofimngpaa.Fn Go.Proofs.Ytdcnoiofimngpaa.Wm Go.Proofs.Ytdcnoiofimngpaa.Rn Go.Proofs.YtdcnoiofimngpaaW.PrintWords Go.Proofs.YtdcnoiofimngpaaW.PrintLast Go.Proofs.YtdcnoiofimngpaaW.PrintMore
set_option linter.unusedVariables false
set_option linter.unusedSimpArgs false
/-- is it a letter? -/
def isL (c : Nat) : Bool := (decide (97 ≤ c) && decide (c ≤ 122)) || (decide (65 ≤ c) && decide (c ≤ 90))
theorem isL_lt {c : Nat} (h : isL c = true) : c < 128 := by
  unfold isL at h
  simp at h
  omega
/-- a word is at its end -/
def flush (s : List ByteArray × ByteArray) : List ByteArray × ByteArray := if ld s.2 = [] then s else (s.1 ++ [s.2], ⟨#[]⟩)
def wstep (s : List ByteArray × ByteArray) (b : UInt8) : List ByteArray × ByteArray := if isL b.toNat = true then (s.1, s.2 ++ ⟨#[b]⟩) else flush s
/-- the words ahead, and the word under way -/
def wst (l : List UInt8) : List ByteArray × ByteArray := l.foldl wstep ([], ⟨#[]⟩)
/-- all words -/
def wordsV (l : List UInt8) : List ByteArray := (flush (wst l)).1
theorem flush_flush (s : List ByteArray × ByteArray) : flush (flush s) = flush s := by
  by_cases c : ld s.2 = []
  · have e : flush s = s := by unfold flush; rw [if_pos c]
    rw [e, e]
  · have e : flush s = (s.1 ++ [s.2], ⟨#[]⟩) := by unfold flush; rw [if_neg c]
    rw [e]
    show flush (s.1 ++ [s.2], ⟨#[]⟩) = _
    unfold flush
    rw [if_pos rfl]
theorem fold_no : ∀ (l : List UInt8) (s : List ByteArray × ByteArray), (∀ b ∈ l, isL b.toNat = false) → l.foldl wstep (flush s) = flush s
  | [], s, h => rfl
  | b :: l, s, h => by
    rw [List.foldl_cons]
    have e : wstep (flush s) b = flush s := by
      unfold wstep
      rw [if_neg (by rw [h b (List.mem_cons_self)]; decide), flush_flush]
    rw [e]
    exact fold_no l s (fun x hx => h x (List.mem_cons_of_mem _ hx))
theorem fold_no1 (l : List UInt8) (s : List ByteArray × ByteArray) (hne : l ≠ []) (h : ∀ b ∈ l, isL b.toNat = false) : l.foldl wstep s = flush s := by
  cases l with
  | nil => exact absurd rfl hne
  | cons b l =>
    rw [List.foldl_cons]
    have e : wstep s b = flush s := by unfold wstep; rw [if_neg (by rw [h b (List.mem_cons_self)]; decide)]
    rw [e]
    exact fold_no l s (fun x hx => h x (List.mem_cons_of_mem _ hx))
theorem enc_no {c : Nat} (hc : Sp.isRune c = true) (hl : isL c = false) : ∀ b ∈ Sp.enc c, isL b.toNat = false := by
  have hle := Sp.isRune_le hc
  intro b hb
  unfold Sp.enc at hb
  rw [if_pos hc] at hb
  by_cases h1 : c < 128
  · rw [if_pos h1] at hb
    rw [List.mem_singleton.mp hb, Sp.u8_ofNat (by omega)]
    exact hl
  · rw [if_neg h1] at hb
    have key : ∀ n, 128 ≤ n → n < 256 → isL (UInt8.ofNat n).toNat = false := by
      intro n h2 h3
      rw [Sp.u8_ofNat h3]
      unfold isL
      simp
      omega
    by_cases h2 : c < 2048
    · rw [if_pos h2] at hb
      simp only [List.mem_cons, List.not_mem_nil, or_false] at hb
      rcases hb with rfl | rfl <;> exact key _ (by omega) (by omega)
    · rw [if_neg h2] at hb
      by_cases h3 : c < 65536
      · rw [if_pos h3] at hb
        simp only [List.mem_cons, List.not_mem_nil, or_false] at hb
        rcases hb with rfl | rfl | rfl <;> exact key _ (by omega) (by omega)
      · rw [if_neg h3] at hb
        simp only [List.mem_cons, List.not_mem_nil, or_false] at hb
        rcases hb with rfl | rfl | rfl | rfl <;> exact key _ (by omega) (by omega)
/-- a rune more -/
theorem wst_rune {S : List UInt8} {k : Nat} (hv : Sp.valid (S.drop (rp S k)) = true) (hk : rp S k < S.length) :
    wst (S.take (rp S (k + 1))) = if isL (rc S k) = true then ((wst (S.take (rp S k))).1, (wst (S.take (rp S k))).2 ++ ⟨#[UInt8.ofNat (rc S k)]⟩) else flush (wst (S.take (rp S k))) := by
  obtain ⟨h1, _, _⟩ := rp_step hv hk
  obtain ⟨t, h2, h3, h4⟩ := Sp.dec_some h1
  have h5 := Sp.enc_length h2
  have e1 : S.take (rp S (k + 1)) = S.take (rp S k) ++ Sp.enc (rc S k) := by
    show S.take (rp S k + _) = _
    rw [List.take_add]
    congr 1
    have e2 : ((Sp.enc (rc S k)) ++ t).take (Sp.enc (rc S k)).length = Sp.enc (rc S k) := List.take_left
    rw [show Sp.enc (rc S k) ++ t = S.drop (rp S k) from h4.symm] at e2
    rw [h3, ← h5]
    exact e2
  unfold wst
  rw [e1, List.foldl_append]
  by_cases c : isL (rc S k) = true
  · rw [if_pos c]
    have hl := isL_lt c
    have e : Sp.enc (rc S k) = [UInt8.ofNat (rc S k)] := by unfold Sp.enc; rw [if_pos (show Sp.isRune (rc S k) = true from h2), if_pos hl]
    rw [e, List.foldl_cons, List.foldl_nil]
    unfold wstep
    rw [Sp.u8_ofNat (by omega), if_pos c]
  · rw [if_neg c]
    exact fold_no1 _ _ (Sp.enc_ne h2) (enc_no h2 (by simpa using c))
theorem rp_valid {S : List UInt8} (hv : Sp.valid S = true) {N : Nat} (hN : Runes S N) : ∀ k, k ≤ N → Sp.valid (S.drop (rp S k)) = true
  | 0, _ => by show Sp.valid (S.drop 0) = true; rw [List.drop_zero]; exact hv
  | k + 1, h => (rp_step (rp_valid hv hN k (by omega)) (hN.2 k (by omega))).2.1
/-- how long -/
theorem wst_small : ∀ (l : List UInt8), (wst l).1.length + (wst l).2.size ≤ l.length ∧ (wst l).1.length ≤ l.length := by
  have key : ∀ (l : List UInt8) (s : List ByteArray × ByteArray), (l.foldl wstep s).1.length + (l.foldl wstep s).2.size ≤ s.1.length + s.2.size + l.length := by
    intro l
    induction l with
    | nil => intro s; exact Nat.le_refl _
    | cons b l ih =>
      intro s
      rw [List.foldl_cons, List.length_cons]
      have h := ih (wstep s b)
      have h2 : (wstep s b).1.length + (wstep s b).2.size ≤ s.1.length + s.2.size + 1 := by
        unfold wstep flush
        split
        · show s.1.length + (s.2 ++ ⟨#[b]⟩).size ≤ _
          rw [ByteArray.size_append]
          show _ + (_ + 1) ≤ _
          omega
        · split
          · omega
          · show (s.1 ++ [s.2]).length + 0 ≤ _
            rw [List.length_append, List.length_singleton]; omega
      omega
  intro l
  have := key l ([], ⟨#[]⟩)
  have e : (([], ⟨#[]⟩) : List ByteArray × ByteArray).1.length + (([], ⟨#[]⟩) : List ByteArray × ByteArray).2.size = 0 := rfl
  rw [e] at this
  unfold wst
  omega
end Go.Proofs.Ytdcnoiofimngpaa.Wo
/- find.Words: the walk. -/
namespace Go.Proofs.Ytdcnoiofimngpaa.Wn
open Go.RowKit Go.Shelf Go.Proofs.Ytdcnoiofimngpaa.U Go.Proofs.Ytdcnoiofimngpaa.QK Go.Proofs.Ytdcnoiofimngpaa.Kt Go.Proofs.Ytdcnoiofimngpaa.Kc Go.Proofs.Ytdcnoiofimngpaa.Kh Go.Proofs.Ytdcnoiofimngpaa.Kj Go.Proofs.Ytdcnoiofimngpaa.Kk Go.Proofs.Ytdcnoiofimngpaa.Gs Go.Proofs.Ytdcnoiofimngpaa.Gt Go.Proofs.Ytdcnoiofimngpaa.Gr Go.Proofs.Ytdcnoiofimngpaa.Wl Go.Proofs.Ytdcnoiofimngpaa.Wc Go.Proofs.Ytdcnoiofimngpaa.Wq Go.Proofs.Ytdcnoiofimngpaa.Fn Go.Proofs.Ytdcnoiofimngpaa.Wm Go.Proofs.Ytdcnoiofimngpaa.Rn Go.Proofs.Ytdcnoiofimngpaa.Wo Go.Proofs.YtdcnoiofimngpaaW.PrintWords Go.Proofs.YtdcnoiofimngpaaW.PrintLast Go.Proofs.YtdcnoiofimngpaaW.PrintMore
set_option linter.unusedVariables false
set_option linter.unusedSimpArgs false
attribute [local go_sem] Oper.semAt_some
set_option maxHeartbeats 4000000 in
set_option maxRecDepth 100000 in
theorem letter_calls (c : Nat) (w : World) : Calls Try.prog 53 #[.int .i32 (c : Int)] w fun e w' => e = .returned (.bool (isL c)) ∧ w = w' := by
  unfold isL
  obtain ⟨x, hx⟩ : ∃ x : Int, (c : Int) = x := ⟨_, rfl⟩
  have h1 : decide (97 ≤ c) = decide (97 ≤ x) := by rw [Bool.eq_iff_iff, decide_eq_true_iff, decide_eq_true_iff]; omega
  have h2 : decide (c ≤ 122) = decide (x ≤ 122) := by rw [Bool.eq_iff_iff, decide_eq_true_iff, decide_eq_true_iff]; omega
  have h3 : decide (65 ≤ c) = decide (65 ≤ x) := by rw [Bool.eq_iff_iff, decide_eq_true_iff, decide_eq_true_iff]; omega
  have h4 : decide (c ≤ 90) = decide (x ≤ 90) := by rw [Bool.eq_iff_iff, decide_eq_true_iff, decide_eq_true_iff]; omega
  rw [h1, h2, h3, h4, hx]
  clear h1 h2 h3 h4 hx
  cases d1 : decide (97 ≤ x) <;> cases d2 : decide (x ≤ 122) <;> cases d3 : decide (65 ≤ x) <;> cases d4 : decide (x ≤ 90)
  all_goals
    go_enter Try.func53, Try.ntmps53
    go_wp2
    go_ret
    exact ⟨rfl, rfl⟩
theorem runes_plain (g : Nat) (w : World) : Calls Try.prog 52 #[.pointer (some ⟨g, 0, none⟩), .int .i64 0] w fun e w' => e = .returned (.func (.func 76) #[] #[.pointer (some ⟨w.heap.size, 0, none⟩), .pointer (some ⟨w.heap.size + 1, 0, none⟩)]) ∧ w' = (w.alloc (.cells #[.pointer (some ⟨g, 0, none⟩)] 24)).alloc (.cells #[.int .i64 0] 3) := by
  go_enter Try.func52, Try.ntmps52
  go_wp2
  go_ret
  exact ⟨by simp, rfl⟩
theorem enc_letter {c : Nat} (h : c < 128) : Utf8.encode (c : Int) = ⟨#[UInt8.ofNat c]⟩ := by
  have hv : Utf8.valid (c : Int) = true := by rw [UP.valid_iff, Sp.isRune_iff]; omega
  unfold Utf8.encode
  rw [if_pos hv, Int.toNat_natCast]
  show (if c < 128 then _ else _) = _
  rw [if_pos h]
theorem own_R {W : World} {base n : Nat} {v : Value} {xs : List ByteArray} (h : W.ownsRow base 9 1 v n (xs.map Value.string)) (hn : n = xs.length) : Kd.R Kd.string 9 W base (fun _ => True) v xs := by
  subst hn
  refine ⟨fun _ _ => trivial, _, h, (by rw [List.length_map]; exact (Nat.mul_one _).symm), fun j p hj => ?_⟩
  show ((xs.map Value.string).drop (j * 1)).take 1 = [Value.string p]
  obtain ⟨hl, hp⟩ := List.getElem?_eq_some_iff.1 hj
  rw [Nat.mul_one, List.drop_eq_getElem_cons (by rw [List.length_map]; exact hl), List.getElem_map, hp]
  rfl
theorem KpR.row {n₀ B bf m size nn : Nat} {W W' : World} {v u : Value} {xs : List Value} (ho : W.ownsRow nn 9 size v m xs) (hnn : n₀ ≤ nn) (hg : W.grownBy W' v.ownBlock) (hn : n₀ ≤ W.heap.size) (hbf : Boxed W bf 3 u) : KpR n₀ B bf W W' :=
  KpR.grown hg hn (fun j ej => by
    have hb := own_base ho j ej
    obtain ⟨cells, hc⟩ := own_typed ho j ej
    refine ⟨by omega, ?_, ?_⟩
    · rintro rfl
      rw [show W.heap[j]? = _ from hbf] at hc
      cases hc
    · intro _ cs t x hx; rw [hc] at hx; cases hx; decide)
theorem R_put {W : World} {base D : Nat} {v : Value} {xs : List ByteArray} {ds : Option (List Deferred)} (h : Kd.R Kd.string 9 W base (fun _ => True) v xs) {o' : Obj} (hD : W.heap[D]? = some (.deferred ds)) : Kd.R Kd.string 9 (W.putObj D o') base (fun _ => True) v xs :=
  Kd.R_grown2 h rfl (grownBy_putObj' W D o') (fun k hk e => by
    cases hk
    obtain ⟨inner, ho⟩ := Kd.R_own h
    obtain ⟨cells, hc⟩ := own_typed ho D e.symm
    rw [hD] at hc; cases hc)
/-- what lies between two runes -/
structure Ws (w : World) (st : List ByteArray × ByteArray) (v : Value) (W : World) : Prop where
  bo : Boxed W w.heap.size 48 v
  bw : Boxed W (w.heap.size + 1) 9 (.string st.2)
  bf : Boxed W (w.heap.size + 1 + 1 + 1) 3 (.int .i64 0)
  o : W.ownsRow (w.heap.size + 1 + 1) 9 1 v st.1.length (st.1.map Value.string)
  b : Below w.heap.size w W
theorem Ws.firm (w : World) (st : List ByteArray × ByteArray) : Firm (w.heap.size + 1 + 1 + 1 + 1) (fun W => ∃ v, Ws w st v W) :=
  Firm.ex fun v A A' row hs hg hr => ⟨Firm.boxed (by omega) A A' row hs.bo hg hr, Firm.boxed (by omega) A A' row hs.bw hg hr, Firm.boxed (by omega) A A' row hs.bf hg hr, Firm.row (by decide) A A' row hs.o hg hr, Firm.below (Nat.le_refl _) (by omega) A A' row hs.b hg hr⟩
theorem Ws.ne {w W : World} {st : List ByteArray × ByteArray} {v : Value} (hs : Ws w st v W) {b : Nat} {t : TypeId} {u : Value} (hb : Boxed W b t u) (ht : t ≠ 9 ∨ b < w.heap.size + 1 + 1) : some b ≠ v.ownBlock := fun e => by
  rcases ht with ht | ht
  · obtain ⟨cells, hc⟩ := own_typed hs.o b e.symm
    rw [show W.heap[b]? = _ from hb] at hc
    cases hc
    exact ht rfl
  · have := own_base hs.o b e.symm
    omega
/-- another word under way -/
theorem Ws.word {w W : World} {st : List ByteArray × ByteArray} {v : Value} (hs : Ws w st v W) (u : ByteArray) {n₀ B B' : Nat} (hn : n₀ ≤ w.heap.size) :
    KF B' W (W.setCell ⟨w.heap.size + 1, 0, none⟩ (.string u)) ∧ KpR n₀ B (w.heap.size + 1 + 1 + 1) W (W.setCell ⟨w.heap.size + 1, 0, none⟩ (.string u)) ∧ Ws w (st.1, u) v (W.setCell ⟨w.heap.size + 1, 0, none⟩ (.string u)) :=
  ⟨KF.cells (grownBy_setCell' _ _ _) (fun r e => by cases e; exact ⟨_, _, _, hs.bw⟩), KpR.set _ hs.bw (.inr (by decide)) (by omega) (by omega),
    ⟨box_other hs.bo (by omega), hs.bw.set _, box_other hs.bf (by omega), hs.o.kept (grownBy_setCell' _ _ _) (.inr (fun e => hs.ne hs.bw (.inr (by omega)) e.symm)), hs.b.setCell (p := ⟨w.heap.size + 1, 0, none⟩) (by show w.heap.size ≤ w.heap.size + 1; omega) _⟩⟩
/-- a word more -/
theorem Ws.cut {w W w1 : World} {st : List ByteArray × ByteArray} {v v' : Value} {tmp : Obj} (hs : Ws w st v W) (hown : w1.ownsRow (w.heap.size + 1 + 1) 9 1 v' (st.1.length + 1) ((st.1 ++ [st.2]).map Value.string)) (hg : (W.alloc tmp).grownBy w1 v.ownBlock) {n₀ B B' : Nat} (hn : n₀ ≤ w.heap.size) :
    Boxed w1 w.heap.size 48 v ∧ Boxed (w1.setCell ⟨w.heap.size, 0, none⟩ v') (w.heap.size + 1) 9 (.string st.2) ∧
    KF B' W ((w1.setCell ⟨w.heap.size, 0, none⟩ v').setCell ⟨w.heap.size + 1, 0, none⟩ (.string ⟨#[]⟩)) ∧ KpR n₀ B (w.heap.size + 1 + 1 + 1) W ((w1.setCell ⟨w.heap.size, 0, none⟩ v').setCell ⟨w.heap.size + 1, 0, none⟩ (.string ⟨#[]⟩)) ∧
    Ws w (st.1 ++ [st.2], ⟨#[]⟩) v' ((w1.setCell ⟨w.heap.size, 0, none⟩ v').setCell ⟨w.heap.size + 1, 0, none⟩ (.string ⟨#[]⟩)) := by
  have hlt := hs.bf.lt
  have p1 : Boxed w1 w.heap.size 48 v := (hs.bo.alloc tmp).kept hg (hs.ne hs.bo (.inl (by decide)))
  have p2 : Boxed w1 (w.heap.size + 1) 9 (.string st.2) := (hs.bw.alloc tmp).kept hg (hs.ne hs.bw (.inr (by omega)))
  have p3 : Boxed w1 (w.heap.size + 1 + 1 + 1) 3 (.int .i64 0) := (hs.bf.alloc tmp).kept hg (hs.ne hs.bf (.inl (by decide)))
  have hb1 : Below w.heap.size W w1 := ((Below.refl _ W).alloc hs.b.size tmp).grown hg (by simp; omega) (fun k e => by have := own_base hs.o k e; omega)
  have q1 : KpR n₀ B (w.heap.size + 1 + 1 + 1) W w1 := (KpR.calm ((Below.refl _ W).alloc (Nat.le_refl _) tmp) (by omega)).trans (KpR.row (hs.o.alloc tmp) (by omega) hg (by simp; omega) (hs.bf.alloc tmp))
  have f1 : KF B' W w1 := (KF.calm ((Below.refl _ W).alloc (Nat.le_refl _) tmp)).trans (KF.cells hg (fun r e => by obtain ⟨cells, hc⟩ := own_typed (hs.o.alloc tmp) r e; exact ⟨_, _, _, hc⟩))
  obtain ⟨W2, hW2⟩ : ∃ W2, w1.setCell ⟨w.heap.size, 0, none⟩ v' = W2 := ⟨_, rfl⟩
  have r1 : Boxed W2 w.heap.size 48 v' := by rw [← hW2]; exact p1.set _
  have r2 : Boxed W2 (w.heap.size + 1) 9 (.string st.2) := by rw [← hW2]; exact box_other p2 (by omega)
  have r3 : Boxed W2 (w.heap.size + 1 + 1 + 1) 3 (.int .i64 0) := by rw [← hW2]; exact box_other p3 (by omega)
  have r4 : W2.ownsRow (w.heap.size + 1 + 1) 9 1 v' (st.1.length + 1) ((st.1 ++ [st.2]).map Value.string) := by
    rw [← hW2]
    exact hown.kept (grownBy_setCell' _ _ _) (.inr (fun e => by have := own_base hown _ e; omega))
  have r5 : Below w.heap.size w W2 := by rw [← hW2]; exact (hs.b.trans hb1).setCell (p := ⟨w.heap.size, 0, none⟩) (Nat.le_refl _) _
  have q2 : KpR n₀ B (w.heap.size + 1 + 1 + 1) W W2 := by rw [← hW2]; exact q1.trans (KpR.set _ p1 (.inr (by decide)) (by omega) (by omega))
  have f2 : KF B' W W2 := by rw [← hW2]; exact f1.trans (KF.cells (grownBy_setCell' _ _ _) (fun r e => by cases e; exact ⟨_, _, _, p1⟩))
  rw [hW2]
  refine ⟨p1, r2, f2.trans (KF.cells (grownBy_setCell' _ _ _) (fun r e => by cases e; exact ⟨_, _, _, r2⟩)), q2.trans (KpR.set _ r2 (.inr (by decide)) (by omega) (by omega)), box_other r1 (by omega), r2.set _, box_other r3 (by omega), ?_, r5.setCell (p := ⟨w.heap.size + 1, 0, none⟩) (by show w.heap.size ≤ w.heap.size + 1; omega) _⟩
  show World.ownsRow _ _ _ _ _ (st.1 ++ [st.2]).length _
  rw [List.length_append, List.length_singleton]
  exact r4.kept (grownBy_setCell' _ _ _) (.inr (fun e => by have := own_base r4 _ e; omega))
theorem info9 : (Try.prog.info? 9).map (fun i => (i.zero, i.size, i.bytes)) = some (some (.string ⟨#[]⟩), 1, 16) := by kernel_rfl
set_option maxHeartbeats 8000000 in
set_option maxRecDepth 100000 in
theorem words_in {w0 : World} {g : Nat} {p : Option Addr} {t : Tr} {C : List ByteArray} (h : Rope w0 g p t C) (hv : ∀ x ∈ C, Sp.valid (ld x) = true) (hS : Sp.valid (ld (cat C)) = true) {w : World} (hb : Below w0.heap.size w0 w) :
    CallsIn Fence.wide 9 Try.prog 26 #[.pointer (some ⟨g, 0, none⟩)] w fun e w' => ∃ v, e = .returned v ∧ Kd.R Kd.string 9 w' w.heap.size (fun _ => True) v (wordsV (ld (cat C))) ∧ Below w.heap.size w w' := by
  obtain ⟨i0, hi, hz0, hz1, hz2⟩ := info_parts info9
  obtain ⟨NR, hN⟩ := runes_of _ hS
  have hsz0 := h.s 0
  rw [kt_cat, show kf 0 (cat C) = ((cat C).size : Int) from rfl] at hsz0
  have hSL : (ld (cat C)).length ≤ 5000 := by rw [ld_len]; omega
  have hseq := fun W0 B br bf hB hb2 h1 h2 => runes1_seq h hv NR hN 8 B br bf W0 hB hb2 h1 h2
  have hvk := rp_valid hS hN
  obtain ⟨S, hSe⟩ : ∃ S, ld (cat C) = S := ⟨_, rfl⟩
  rw [hSe] at hN hSL hseq hvk ⊢
  clear hSe hsz0 hS hv
  refine callsIn_of_wp_marks Try.func26 rfl trivial ?_ rfl
  simp only [Try.ntmps26, List.size_toArray, List.length_cons, List.length_nil, Nat.reduceAdd, Nat.reduceSub, Array.replicate_succ, Array.replicate_zero, List.push_toArray, List.append_toArray, List.nil_append, List.cons_append]
  refine wpIn_wide.2 ?_
  go_wp2_with (go_at_call 52; (with_reducible refine (runes_plain _ _).mono ?_); rintro e w3 ⟨rfl, rfl⟩)
  refine (wpIn_wide (n := 9)).1 ?_
  obtain ⟨W0, hW0⟩ : ∃ W0, ((((w.alloc (Obj.cells #[Value.slice none 0 0] 48)).alloc (Obj.cells #[Value.string { data := #[] }] 9)).alloc (Obj.cells #[Value.pointer (some { block := g, off := 0 })] 24)).alloc (Obj.cells #[Value.int IntKind.i64 0] 3)) = W0 := ⟨_, rfl⟩
  have hsz : W0.heap.size = w.heap.size + 1 + 1 + 1 + 1 := by rw [← hW0]; simp
  have b1 := Boxed.new w 48 (.slice none 0 0)
  have b2 := Boxed.new (w.alloc (Obj.cells #[Value.slice none 0 0] 48)) 9 (.string ⟨#[]⟩)
  have b3 := Boxed.new ((w.alloc (Obj.cells #[Value.slice none 0 0] 48)).alloc (Obj.cells #[Value.string { data := #[] }] 9)) 24 (.pointer (some ⟨g, 0, none⟩))
  have b4 := Boxed.new (((w.alloc (Obj.cells #[Value.slice none 0 0] 48)).alloc (Obj.cells #[Value.string { data := #[] }] 9)).alloc (Obj.cells #[Value.pointer (some { block := g, off := 0 })] 24)) 3 (.int .i64 0)
  simp only [World.size_alloc] at b2 b3 b4
  have s0 : Ws w (wst (S.take (rp S 0))) (.slice none 0 0) W0 := by
    rw [← hW0]
    exact ⟨((b1.alloc _).alloc _).alloc _, (b2.alloc _).alloc _, b4, World.ownsRow_nil _ _ _ _, ((((Below.refl _ w).alloc (Nat.le_refl _) _).alloc (by simp) _).alloc (by simp; omega) _).alloc (by simp; omega) _⟩
  have hbr : Boxed W0 (w.heap.size + 1 + 1) 24 (.pointer (some ⟨g, 0, none⟩)) := by rw [← hW0]; exact b3.alloc _
  have hbW : Below w0.heap.size w0 W0 := hb.trans (s0.b.mono hb.size)
  have hw0 := hb.size
  rw [hW0]
  clear hW0 b1 b2 b3 b4
  refine range_law2 rfl (by omega) (gf := 76) (lb := #[.pointer (some ⟨w.heap.size + 1 + 1, 0, none⟩), .pointer (some ⟨w.heap.size + 1 + 1 + 1, 0, none⟩)]) rfl trivial (enters_of Try.func76 (by kernel_rfl) rfl)
    (hseq W0 W0.heap.size _ _ (Nat.le_refl _) hbW hbr s0.bf) (fun _ => rfl) (fun h k => h.trans k) (fun W l o o' h1 h2 h3 => KpR.put o' h2 h3 (by omega) (by omega))
    (fun k W => ∃ v, Ws w (wst (S.take (rp S k))) v W)
    (fun c k W => False)
    (fun k => by rw [hsz]; exact Ws.firm _ _)
    (fun c k A A' row hs hg hr => hs.elim)
    ⟨_, s0⟩ ?a1 ?assign ?body ?done ?stop
  case assign =>
    intro l k W K hK
    simp only [runeE]
    gi_wp2
    exact hK
  case body =>
    rintro l k W hk ⟨v, hs⟩
    obtain ⟨A, cp, rfl⟩ := own_slice hs.o
    have hwr := wst_rune (hvk k (by omega)) (hN.2 k hk)
    have hsm := wst_small (S.take (rp S k))
    rw [List.length_take] at hsm
    have HLT := CallsIn.inRound l ((callsIn_wide (n := 9 - 1 - 1 - 1)).2 (letter_calls (rc S k) W))
    obtain ⟨c, hc⟩ : ∃ c, rc S k = c := ⟨_, rfl⟩
    obtain ⟨st, hst⟩ : ∃ st, wst (S.take (rp S k)) = st := ⟨_, rfl⟩
    rw [hc, hst] at hwr
    rw [hst] at hs hsm
    rw [hc] at HLT ⊢
    obtain ⟨out, word⟩ := st
    have hcw := hs.bw.cell
    have hfw := hs.bw.frozen
    have hco := hs.bo.cell
    have hfo := hs.bo.frozen
    by_cases cl : isL c = true
    · rw [if_pos cl] at hwr
      have hec := enc_letter (isL_lt cl)
      obtain ⟨k1, k2, k3⟩ := hs.word (word ++ ⟨#[UInt8.ofNat c]⟩) (n₀ := w0.heap.size) (B := W0.heap.size) (B' := W0.heap.size) hw0
      rw [cl] at HLT
      have ml : (9223372036854775807 < word.size + 1) = False := eq_false (by have h5 : word.size ≤ 5000 := by { have h6 := hsm.1; dsimp only at h6; omega }; omega)
      have HP := Aside0.mk (And.intro k1 (And.intro k2 k3))
      clear k1 k2 k3 hs hsm cl hco hfo
      gi_wp2_with ((try first | (refine ⟨trivial, fun h => (by cases h), ?_⟩) | (refine ⟨trivial, ?_⟩) | (refine ⟨fun h => (by cases h), ?_⟩)); gi_at_call 53; refine HLT.mono ?_; clear HLT; rintro e W3 ⟨rfl, rfl⟩)
      obtain ⟨k1, k2, k3⟩ := HP.out
      exact ⟨k1, k2, _, by rw [hwr]; exact k3⟩
    · rw [if_neg cl] at hwr
      have cl : isL c = false := by simpa using cl
      rw [cl] at HLT
      by_cases cw : ld word = []
      · have ew : (word.toList == ([] : List UInt8)) = true := beq_iff_eq.mpr ((Lib.toList_data word).trans cw)
        have ewn : (word.toList != ([] : List UInt8)) = false := by rw [bne, ew]; rfl
        have hfl : flush (out, word) = (out, word) := by unfold flush; rw [if_pos cw]
        have HP := Aside0.mk hs
        clear hs hsm cl hco hfo cw
        gi_wp2_with ((try first | (refine ⟨trivial, fun h => (by cases h), ?_⟩) | (refine ⟨trivial, ?_⟩) | (refine ⟨fun h => (by cases h), ?_⟩)); gi_at_call 53; refine HLT.mono ?_; clear HLT; rintro e W3 ⟨rfl, rfl⟩)
        exact ⟨KF.refl _ _, KpR.calm (Below.refl _ _) (by have := HP.out.b.size; omega), _, by rw [hwr, hfl]; exact HP.out⟩
      · have ew : (word.toList == ([] : List UInt8)) = false := beq_eq_false_iff_ne.mpr (fun e => cw ((Lib.toList_data word).symm.trans e))
        have ewn : (word.toList != ([] : List UInt8)) = true := by rw [bne, ew]; rfl
        have hfl : flush (out, word) = (out ++ [word], ⟨#[]⟩) := by unfold flush; rw [if_neg cw]
        have hol : out.length ≤ 5000 := by have h6 := hsm.2; dsimp only at h6; omega
        have hrow : W.ownsRow (w.heap.size + 1 + 1) 9 1 (.slice A out.length cp) out.length (out.map Value.string) := hs.o
        have hsl := hs.b.size
        have hwl := hs.bf.lt
        clear hsm cl cw
        gi_wp2_with (first
          | ((try first | (refine ⟨trivial, fun h => (by cases h), ?_⟩) | (refine ⟨trivial, ?_⟩) | (refine ⟨fun h => (by cases h), ?_⟩)); gi_at_call 53; refine HLT.mono ?_; clear HLT; rintro e W3 ⟨rfl, rfl⟩)
          | (gi_at_builtin; refine wpListIn_append_own _ rfl _ _ 48 rfl (w.heap.size + 1 + 1) 9 i0 (.string ⟨#[]⟩) 1 16 Try.underlying48 hi hz0 hz1 hz2 rfl (by decide) _ _ _ rfl (hrow.alloc _) ⟨W.heap.size, 0, none⟩ 1 1 [.string word] rfl rfl (cell_one_new W (.string word) 9) (by simp [Value.oneCell']) (by simp only [maxLen]; omega) (by omega) (by rw [World.size_alloc]; omega) ?_; intro v' w1 hown' hgrow _; obtain ⟨g', cap', rfl⟩ := ownsRow_succ hown'; rw [← List.map_singleton (f := Value.string), ← List.map_append] at hown'; obtain ⟨hk0, hk1, hk2, hk3, hk4⟩ := hs.cut (B := w.heap.size + 1 + 1 + 1 + 1) (B' := w.heap.size + 1 + 1 + 1 + 1) hown' hgrow hw0; have hc1 := hk0.cell; have hf1 := hk0.frozen; have hc2 := hk1.cell; have hf2 := hk1.frozen))
        exact ⟨hk2, hk3, _, by rw [hwr, hfl]; exact hk4⟩
  case done =>
    rintro D W hD ⟨v, hs⟩ hK
    rw [hsz] at hD
    rw [hN.1, List.take_length] at hs
    obtain ⟨A, cp, rfl⟩ := own_slice hs.o
    have hsm := wst_small S
    obtain ⟨st, hst⟩ : ∃ st, wst S = st := ⟨_, rfl⟩
    have hwv : wordsV S = (flush st).1 := by unfold wordsV; rw [hst]
    rw [hst] at hs hsm
    obtain ⟨out, word⟩ := st
    dsimp only at hsm
    have hcw := hs.bw.cell
    have hco := hs.bo.cell
    have HR : Kd.R Kd.string 9 W w.heap.size (fun _ => True) (.slice A out.length cp) out := own_R (own_less hs.o (by omega)) rfl
    clear hseq hvk hN h hb
    by_cases cw : ld word = []
    · have ew : (word.toList == ([] : List UInt8)) = true := beq_iff_eq.mpr ((Lib.toList_data word).trans cw)
      have ewn : (word.toList != ([] : List UInt8)) = false := by rw [bne, ew]; rfl
      have hfl : flush (out, word) = (out, word) := by unfold flush; rw [if_pos cw]
      rw [hfl] at hwv
      have HWV := Aside0.mk hwv
      clear cw hwv hfl hst
      go_wp2
      refine ⟨by simp, .inl ⟨_, _, rfl, run_takeDeferred (ds := []) hK, ?_⟩⟩
      exact ⟨_, results_tmp rfl _ _ _, _, rfl, by rw [HWV.out]; exact R_put HR hK, hs.b.grown (grownBy_putObj' _ _ _) hs.b.size (fun k e => by cases e; omega)⟩
    · have ew : (word.toList == ([] : List UInt8)) = false := beq_eq_false_iff_ne.mpr (fun e => cw ((Lib.toList_data word).symm.trans e))
      have ewn : (word.toList != ([] : List UInt8)) = true := by rw [bne, ew]; rfl
      have hfl : flush (out, word) = (out ++ [word], ⟨#[]⟩) := by unfold flush; rw [if_neg cw]
      rw [hfl] at hwv
      have HWV := Aside0.mk hwv
      clear hwv hfl hst
      have HB := Aside0.mk hs.b
      have HRR := Aside0.mk HR
      have hol : out.length ≤ 5000 := by omega
      have HS := Aside0.mk hs
      clear cw hs
      go_wp2_with ((with_reducible refine gate_builtin (b := .append) (xs := #[.tmp 25, .tmp 27]) rfl ?_); at_builtin; refine Kd.R_append Kd.string (w0 := w) w.heap.size rfl (.tmp 25) (.tmp 27) 48 9 (.string ⟨#[]⟩) 16 rfl Try.underlying48 info9 rfl (by decide) (by omega) (.slice A out.length cp) out word [.string word] (fun _ => True) (fun _ => False) rfl rfl ?aP (fun _ hk => hk.elim) (fun _ _ => trivial) HRR.out HB.out HB.out.size (by omega) ?_; (case aP => exact rfl); intro v2 w4 ho hb hgr hat; obtain ⟨A3, cp3, rfl⟩ := Kd.R_slice ho; have HO := Aside0.mk ho; have HB4 := Aside0.mk hb; have p1 : Boxed w4 w.heap.size 48 (.slice A out.length cp) := HS.out.bo.kept hgr (HS.out.ne HS.out.bo (.inl (by decide))); have hc1 := p1.cell; have hf1 := p1.frozen; have HK4 : Aside0 (w4.heap[D]? = some (.deferred (some []))) := ⟨(hgr.block D (lt_of_at hK) (fun e => by obtain ⟨cells, hc⟩ := own_typed HS.out.o D e.symm; rw [hK] at hc; cases hc)).trans hK⟩; have HP1 := Aside0.mk p1; clear ho hb hgr hat p1)
      have hK5 : (w4.setCell ⟨w.heap.size, 0, none⟩ (.slice A3 (out.length + 1) cp3)).heap[D]? = some (.deferred (some [])) := (Below.heap_setCell _ _ _ _ (by show D ≠ w.heap.size; omega)).trans HK4.out
      refine ⟨by simp, .inl ⟨_, _, rfl, run_takeDeferred (ds := []) hK5, ?_⟩⟩
      have HO2 := Kd.R_set HO.out HP1.out (by decide) 0 (.slice A3 (out.length + 1) cp3)
      have hb5 := HB4.out.setCell (p := ⟨w.heap.size, 0, none⟩) (Nat.le_refl _) (.slice A3 (out.length + 1) cp3)
      exact ⟨_, results_tmp rfl _ _ _, _, rfl, by
        rw [HWV.out]
        have e : (out ++ [word]).length = out.length + 1 := by rw [List.length_append, List.length_singleton]
        rw [e] at HO2
        exact R_put HO2 hK5, hb5.grown (grownBy_putObj' _ _ _) hb5.size (fun k e => by cases e; omega)⟩
  case stop =>
    rintro D c k W hD hF hK
    exact hF.elim
theorem words_calls {w0 : World} {g : Nat} {p : Option Addr} {t : Tr} {C : List ByteArray} (h : Rope w0 g p t C) (hv : ∀ x ∈ C, Sp.valid (ld x) = true) (hS : Sp.valid (ld (cat C)) = true) {w : World} (hb : Below w0.heap.size w0 w) :
    Calls Try.prog 26 #[.pointer (some ⟨g, 0, none⟩)] w fun e w' => ∃ v, e = .returned v ∧ Kd.R Kd.string 9 w' w.heap.size (fun _ => True) v (wordsV (ld (cat C))) ∧ Below w.heap.size w w' := callsIn_wide.1 (words_in h hv hS hb)
end Go.Proofs.Ytdcnoiofimngpaa.Wn
