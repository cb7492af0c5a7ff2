import Derived.Test.YtdcnoiofimngpaaWWords
import Derived.Test.YtdcnoiofimngpaaWMore
import Derived.Deep.Slices
import Derived.Deep.Strs
import Derived.Lib.SmallJoins
import Derived.ChangeOld
import Derived.ShutString
import Derived.OpenShut
/- Arguments with depth, opened into lists: slices of strings, of structs, of slices. -/
namespace Go.Proofs.Ytdcnoiofimngpaa.Op
open Go.Deep Go.ChangeShapes Go.WideShapes Go.ChangeAt Go.RowKit Go.Proofs.YtdcnoiofimngpaaW.PrintWords Go.Proofs.YtdcnoiofimngpaaW.PrintLast
set_option linter.unusedVariables false

/-- What reads as data of type e is a value of the kind. -/
def Opens {H : Type} (enc : TypeId × Value → H) (P : Program) (w : World) (base : Nat) (spare : Nat → Bool) (held : Bool) {α : Type} (d : Kd α) (e : TypeId) (Q : α → Prop) : Prop :=
  ∀ (n : Nat) (cs : List Value) (x : DataW H × List MemPlace), DataW.trod enc P w base spare held n e cs = some x → ∃ y : α, d.K w y cs ∧ Q y
section
variable {H : Type} {enc : TypeId × Value → H} {P : Program} {w : World} {base : Nat} {spare : Nat → Bool} {held : Bool} {α : Type} {d : Kd α} {e : TypeId} {Q : α → Prop}
theorem opens_int {k : IntKind} (he : P.underlying e = some (.int k)) : Opens enc P w base spare held (Kd.int k) e (fun y => (Lit.int k y).wf = true) := by
  intro n cs x h
  obtain ⟨y, h1, h2, h3⟩ := DataW.trod_int he h
  exact ⟨y, h1, h3⟩
theorem opens_string (he : P.underlying e = some .string) : Opens enc P w base spare held Kd.string e (fun y => y.size ≤ maxLen) := by
  intro n cs x h
  obtain ⟨s, h1, h2, h3⟩ := DataW.trod_string he h
  exact ⟨s, h1, h3⟩
theorem row_of (hsz : P.cellsOf e = d.sz) (el : Opens enc P w base spare held d e Q) {a : Addr} {len : Nat} (hlen : len ≤ maxLen)
    (h : ∀ i, i < len → ∃ cs', w.cells? base (a.add (i * P.cellsOf e)) (P.cellsOf e) = some cs' ∧ ∃ n x, DataW.trod enc P w base spare held n e cs' = some x) :
    ∃ l : List α, l.length = len ∧ d.C w (some a) len l ∧ ∀ y ∈ l, Q y := by
  have h2 : ∀ i, i < len → ∃ y : α, Q y ∧ ∃ cs', cs'.length = d.sz ∧ d.K w y cs' ∧ ∀ j u, cs'[j]? = some u → w.cell? ((a.add (i * d.sz)).add j) = some u := by
    intro i hi
    obtain ⟨cs', h1, n, x, hx⟩ := h i hi
    obtain ⟨y, hk, hq⟩ := el n cs' x hx
    have hc := World.cells?_some h1
    rw [hsz] at hc
    refine ⟨y, hq, cs', d.K_len hk, hk, fun j u hu => ?_⟩
    have hj : j < d.sz := by rw [← d.K_len hk]; exact (List.getElem?_eq_some_iff.1 hu).1
    exact (hc.2.2 j hj).trans hu
  clear h
  induction len with
  | zero => exact ⟨[], rfl, ⟨rfl, by omega, fun h => by omega⟩, fun y hy => by cases hy⟩
  | succ len ih =>
    obtain ⟨l, hl, hc, hq⟩ := ih (by omega) (fun i hi => h2 i (by omega))
    obtain ⟨y, hy, cs', h3, h4, h5⟩ := h2 len (by omega)
    refine ⟨l ++ [y], by simp [hl], ⟨by simp [hl], by unfold maxLen at hlen; omega, fun _ => ⟨a, rfl, fun j p hj => ?_⟩⟩, fun z hz => ?_⟩
    · by_cases hjl : j < len
      · obtain ⟨ad, had, hr⟩ := hc.2.2 (by omega)
        obtain rfl := Option.some.inj had
        rw [List.getElem?_append_left (by omega)] at hj
        exact hr j p hj
      · have hjl' : j = len := by
          have := (List.getElem?_eq_some_iff.1 hj).1
          simp [hl] at this; omega
        subst hjl'
        rw [List.getElem?_append_right (by omega), hl] at hj
        simp at hj
        subst hj
        refine ⟨cs', h3, h4, fun i u hu => ?_⟩
        have := h5 i u hu
        rw [Go.Deep.add_add] at this
        exact this
    · rcases List.mem_append.1 hz with hz | hz
      · exact hq z hz
      · rw [List.mem_singleton.1 hz]; exact hy
/-- A slice opened into a list. -/
theorem open_row {t : TypeId} (ht : P.underlying t = some (.slice e)) (hsz : P.cellsOf e = d.sz) (el : Opens enc P w base spare held d e Q) {A : Option Addr} {len cap : Nat} {D : DataW H} {ps : List MemPlace}
    (h : DataW.Trod enc P w base spare held t (.slice A len cap) D ps) : ∃ l : List α, l.length = len ∧ len ≤ cap ∧ len ≤ maxLen ∧ d.C w A len l ∧ ∀ y ∈ l, Q y := by
  obtain ⟨fuel, hf⟩ := h
  rcases open_slice ht hf with ⟨hcs, _⟩ | ⟨a, l, c, m, n, D', Pl, hcs, hb, hl, hm, hmm, hx, hi⟩
  · simp [Value.cells] at hcs
    obtain ⟨rfl, rfl, rfl⟩ := hcs
    exact ⟨[], rfl, Nat.le_refl _, by unfold maxLen; omega, ⟨rfl, by omega, fun h => by omega⟩, fun y hy => by cases hy⟩
  · simp [Value.cells] at hcs
    obtain ⟨rfl, rfl, rfl⟩ := hcs
    obtain ⟨r, h1, h2, h3⟩ := row_of hsz el (a := a) (len := len) (Nat.le_trans hl hm) (fun i hi' => by
      obtain ⟨cs', h1, h2⟩ := hi i (by rw [hmm]; split <;> omega)
      exact ⟨cs', h1, n, _, h2⟩)
    exact ⟨r, h1, hl, Nat.le_trans hl hm, h2, h3⟩
/-- A slice inside data, opened. -/
theorem opens_slice {t : TypeId} (ht : P.underlying t = some (.slice e)) (hsz : P.cellsOf e = d.sz) (el : Opens enc P w base spare held d e Q) :
    Opens enc P w base spare held (Kd.slice e d) t (fun l => l.length ≤ maxLen ∧ ∀ y ∈ l, Q y) := by
  intro n cs x h
  obtain ⟨a, l, c, rfl⟩ := Go.Joins.slice_form ht h
  obtain ⟨r, h1, h2, h3, h4, h5⟩ := open_row ht hsz el (A := a) (len := l) (cap := c) (D := x.1) (ps := x.2) ⟨n, by simpa [Value.cells] using h⟩
  exact ⟨r, ⟨a, c, by rw [h1], by rw [h1]; exact h2, by rw [h1]; exact h4⟩, by rw [h1]; exact h3, h5⟩
end
end Go.Proofs.Ytdcnoiofimngpaa.Op
