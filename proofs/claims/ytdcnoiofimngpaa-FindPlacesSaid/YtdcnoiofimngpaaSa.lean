import Derived.Test.YtdcnoiofimngpaaWMore
import Derived.BigRegion
import Derived.Deep.RegionHeld3
import Derived.StillTailTactics
/- A whole array (or struct) of cells stored into a block of the call's own: one event. -/
namespace Go.Proofs.Ytdcnoiofimngpaa.Sa
open Go.RowKit Go.Proofs.YtdcnoiofimngpaaW.PrintWords Go.Proofs.YtdcnoiofimngpaaW.PrintLast Go.Proofs.YtdcnoiofimngpaaW.PrintMore
set_option linter.unusedVariables false
variable {P : Program} {ops : Array Oper} {rest : List Oper} {o : Oper} {a : Act} {Q : Exit → Act → World → Prop}
theorem store_whole {W : World} (hN : o.dst = none) (hgd : o.guard = none) (t : TypeId) (p x : Operand) (ho : o.op = .store t p x) (g : Nat) (cur : Array Value) (seg : List Value)
    (haddr : a.eval p = .pointer (some ⟨g, 0, none⟩)) (hx : a.eval x = .agg seg.toArray) (ht : (P.info? t).map (·.size) = some seg.length) (hh : W.heap[g]? = some (.cells cur t (0, 0))) (hc : cur.size = seg.length) (h1 : ∀ q ∈ seg, q.oneCell' = true)
    (h : ∀ w1, w1.heap[g]? = some (.cells seg.toArray t (0, 0)) → W.grownBy w1 (some g) → wpList P ops Q rest a w1) : wpList P ops Q (o :: rest) a W := by
  have hrun : (Instr.storeAt t (.pointer (some ⟨g, 0, none⟩)) (.agg seg.toArray)).run P W = .ok () (W.setCells g 0 seg) := run_store_run t _ seg hh rfl ht (by omega) h1
  obtain ⟨cur', h3, h4, h5⟩ := setCells_row seg 0 W cur hh (by omega)
  have hcur : cur' = seg.toArray := by
    apply Array.toList_inj.mp
    rw [h5, List.take_zero, List.nil_append, Nat.zero_add, List.drop_eq_nil_of_le (by rw [Array.length_toList]; omega), List.append_nil]
  rw [hcur] at h3
  obtain ⟨s1, s2, s3, s4⟩ := setCells_same g seg 0 W
  refine wpList_plain hgd fun K hK => ?_
  unfold Oper.wp execOp
  simp only [ho, haddr, hx, Sem.run_bind, Sem.run_pure, Result.andThen_ok, hrun]
  show K (a.put o.dst undef) _
  rw [hN]
  exact hK a _ (h _ h3 ⟨s1, s2, s3, by rw [s4]; exact Nat.le_refl _, fun k _ hk => setCells_far _ _ k (fun he => hk (by rw [he]))⟩)
theorem grown_below {base : Nat} {w W w1 : World} {g : Nat} (hB : Below base w W) (hbase : base ≤ W.heap.size) (hg : W.grownBy w1 (some g)) (hb : base ≤ g) : Below base w w1 := hB.grown hg hbase (fun k hk => by injection hk with hk; omega)
end Go.Proofs.Ytdcnoiofimngpaa.Sa
