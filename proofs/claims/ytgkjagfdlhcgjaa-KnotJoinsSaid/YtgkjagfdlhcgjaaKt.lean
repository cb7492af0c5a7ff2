import Derived.Test.YtgkjagfdlhcgjaaWMore
/- Trees behind pointers: a knot as plain data, and what it is in memory. -/
namespace Go.Proofs.Ytgkjagfdlhcgjaa.Kt
open Go.RowKit Go.Proofs.YtgkjagfdlhcgjaaW.PrintWords Go.Proofs.YtgkjagfdlhcgjaaW.PrintLast Go.Proofs.YtgkjagfdlhcgjaaW.PrintMore
set_option linter.unusedVariables false
/-- a pointer as an element -/
def kPtr : Kd (Option Addr) := Kd.scalar (fun p => .pointer p) (fun _ => rfl)
theorem at_ptr {w : World} {A : Option Addr} {n : Nat} {xs : List (Option Addr)} (h : kPtr.C w A n xs) (i : Int) (h0 : 0 ≤ i) (h1 : i < n) : ∃ ad, A = some ad ∧ w.cell? (ad.add i.toNat) = some (.pointer (rdOf none xs i)) :=
  ReadsOf.at_ (Kd.reads_of_C (enc := fun p => Value.pointer p) (d := (none : Option Addr)) (h1 := fun _ => rfl) h) i h0 h1
/-- a knot: its height, its count (bytes, runes, lines), its text, its kids -/
inductive Tr where
  | nil : Tr
  | node (h b r l : Int) (s : ByteArray) (kids : List Tr) : Tr
/-- what a knot is in memory; its blocks are 'ok' -/
inductive Rp (w : World) (ok : Nat → Prop) : Option Addr → Tr → Prop
  | nil : Rp w ok none .nil
  | node (a : Nat) (h b r l : Int) (s : ByteArray) (kids : List Tr) (A : Option Addr) (cp : Nat) (ps : List (Option Addr))
      (hok : ok a)
      (hh : w.heap[a]? = some (.cells #[.int .i64 h, .int .i64 b, .int .i64 r, .int .i64 l, .string s, .slice A kids.length cp] 51 (0, 0)))
      (hl : ps.length = kids.length)
      (hR : kPtr.R 38 w 0 ok (.slice A kids.length cp) ps)
      (hk : ∀ (j : Nat) (p : Option Addr) (t : Tr), ps[j]? = some p → kids[j]? = some t → Rp w ok p t) : Rp w ok (some ⟨a, 0, none⟩) (.node h b r l s kids)
section
variable {w w1 : World} {ok ok' : Nat → Prop} {p : Option Addr} {t : Tr}
theorem Rp.mono (h : Rp w ok p t) (hm : ∀ k, ok k → ok' k) : Rp w ok' p t := by
  induction h with
  | nil => exact .nil
  | node a h b r l s kids A cp ps hok hh hl hR hk ih => exact .node a h b r l s kids A cp ps (hm a hok) hh hl (Kd.R_mono hR hm) ih
theorem Rp.step (h : Rp w ok p t) (hm : ∀ k, ok k → k < w.heap.size → w1.heap[k]? = w.heap[k]?) : Rp w1 ok p t := by
  induction h with
  | nil => exact .nil
  | node a h b r l s kids A cp ps hok hh hl hR hk ih => exact .node a h b r l s kids A cp ps hok ((hm a hok (blk_lt hh)).trans hh) hl (Kd.R_step hR hm) ih
theorem Rp.bound (h : Rp w ok p t) : Rp w (fun k => ok k ∧ k < w.heap.size) p t := by
  induction h with
  | nil => exact .nil
  | node a h b r l s kids A cp ps hok hh hl hR hk ih =>
    exact .node a h b r l s kids A cp ps ⟨hok, blk_lt hh⟩ hh hl (Kd.R_mono (Kd.R_bound hR) (fun k hk => ⟨hk.1, hk.2.2.1⟩)) ih
theorem Rp.later (h : Rp w ok p t) (hb : Below w.heap.size w w1) : Rp w1 ok p t := h.step fun k _ hk => hb.block k hk
end
/-- a knot that is read -/
def Rd (w : World) (p : Option Addr) (t : Tr) : Prop := Rp w (fun k => k < w.heap.size) p t
theorem Rp.rd {w : World} {ok : Nat → Prop} {p : Option Addr} {t : Tr} (h : Rp w ok p t) : Rd w p t := h.bound.mono fun _ h => h.2
theorem Rd.below {w w1 : World} {p : Option Addr} {t : Tr} (h : Rd w p t) (hb : Below w.heap.size w w1) : Rd w1 p t := (Rp.later h hb).rd
theorem Rd.drewN {w : World} {p : Option Addr} {t : Tr} (h : Rd w p t) (n : Nat) : Rd (w.drewN n) p t := h.below (pw_below_drewN (Below.refl _ _) n)
/-! ### what is said of a knot in plain words -/
def Tr.kids : Tr → List Tr
  | .nil => []
  | .node _ _ _ _ _ ks => ks
def Tr.none : Tr → Bool
  | .nil => true
  | .node _ _ _ _ s ks => (s.toList == []) && (ks.length == 0)
def Tr.h0 : Tr → Int
  | .nil => 0
  | .node h _ _ _ _ _ => h
def Tr.height (t : Tr) : Int := if t.none then -1 else t.h0
def Tr.cb (t : Tr) : Int := match t with | .nil => 0 | .node _ b _ _ _ _ => b
def Tr.cr (t : Tr) : Int := match t with | .nil => 0 | .node _ _ r _ _ _ => r
def Tr.cl (t : Tr) : Int := match t with | .nil => 0 | .node _ _ _ l _ _ => l
def Tr.text (t : Tr) : ByteArray := match t with | .nil => ⟨#[]⟩ | .node _ _ _ _ s _ => s
/-- rows of knots that are read -/
structure Rs (w : World) (A : Option Addr) (n : Nat) (ps : List (Option Addr)) (ts : List Tr) : Prop where
  c : kPtr.C w A n ps
  len : ts.length = n
  r : ∀ (j : Nat) (p : Option Addr) (t : Tr), ps[j]? = some p → ts[j]? = some t → Rd w p t
theorem Rs.below {w w1 : World} {A : Option Addr} {n : Nat} {ps : List (Option Addr)} {ts : List Tr} (h : Rs w A n ps ts) (hb : Below w.heap.size w w1) : Rs w1 A n ps ts :=
  ⟨Kd.C_below h.c hb, h.len, fun j p t hp ht => (h.r j p t hp ht).below hb⟩
theorem Rs.drewN {w : World} {A : Option Addr} {n : Nat} {ps : List (Option Addr)} {ts : List Tr} (h : Rs w A n ps ts) (m : Nat) : Rs (w.drewN m) A n ps ts := h.below (pw_below_drewN (Below.refl _ _) m)
def rdT (ts : List Tr) (i : Int) : Tr := ts.getD i.toNat .nil
/-- element i of a row -/
theorem Rs.at_ {w : World} {A : Option Addr} {n : Nat} {ps : List (Option Addr)} {ts : List Tr} (h : Rs w A n ps ts) (i : Int) (h0 : 0 ≤ i) (h1 : i < n) :
    ∃ ad p, A = some ad ∧ w.cell? (ad.add i.toNat) = some (.pointer p) ∧ ps[i.toNat]? = some p ∧ Rd w p (rdT ts i) := by
  obtain ⟨ad, e, hc⟩ := at_ptr h.c i h0 h1
  have hl : ps.length = n := h.c.1
  have e1 : ps[i.toNat]? = some (rdOf none ps i) := by
    unfold rdOf; rw [List.getD_eq_getElem?_getD, List.getElem?_eq_getElem (by omega)]; rfl
  have e2 : ts[i.toNat]? = some (rdT ts i) := by
    unfold rdT; rw [List.getD_eq_getElem?_getD, List.getElem?_eq_getElem (by have := h.len; omega)]; rfl
  exact ⟨ad, _, e, hc, e1, h.r _ _ _ e1 e2⟩
/-- a knot laid open -/
theorem Rd.open_ {w : World} {p : Option Addr} {h b r l : Int} {s : ByteArray} {kids : List Tr} (H : Rd w p (.node h b r l s kids)) :
    ∃ (a : Nat) (A : Option Addr) (cp : Nat) (ps : List (Option Addr)), p = some ⟨a, 0, none⟩ ∧ w.cell? ⟨a, 0, none⟩ = some (.int .i64 h) ∧ w.cell? ⟨a, 1, none⟩ = some (.int .i64 b) ∧ w.cell? ⟨a, 2, none⟩ = some (.int .i64 r) ∧ w.cell? ⟨a, 3, none⟩ = some (.int .i64 l) ∧
      w.cell? ⟨a, 4, none⟩ = some (.string s) ∧ w.cell? ⟨a, 5, none⟩ = some (.slice A kids.length cp) ∧ kids.length ≤ cp ∧ kids.length ≤ 9223372036854775807 ∧ Rs w A kids.length ps kids := by
  cases H with
  | node a h b r l s kids A cp ps hok hh hl hR hk =>
    obtain ⟨h1, h2, h3⟩ := Kd.R_reads' hR
    rw [hl] at h3
    exact ⟨a, A, cp, ps, rfl, (blk_cell hh 0).trans rfl, (blk_cell hh 1).trans rfl, (blk_cell hh 2).trans rfl, (blk_cell hh 3).trans rfl, (blk_cell hh 4).trans rfl, (blk_cell hh 5).trans rfl, h2, h3.2.1, h3, rfl, fun j p t hp ht => hk j p t hp ht⟩
theorem Rd.nil_ {w : World} {p : Option Addr} (H : Rd w p .nil) : p = none := by cases H; rfl
end Go.Proofs.Ytgkjagfdlhcgjaa.Kt
