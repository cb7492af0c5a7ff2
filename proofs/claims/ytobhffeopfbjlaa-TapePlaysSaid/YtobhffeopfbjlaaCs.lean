import Derived.Test.YtobhffeopfbjlaaWMore
import Derived.Lib.BufferWrite
/- copy(v[m:], s): a string's bytes are laid into a row of one's own. -/
namespace Go.Proofs.Ytobhffeopfbjlaa.Cs
open Go.RowKit Go.Proofs.YtobhffeopfbjlaaW.PrintWords Go.Proofs.YtobhffeopfbjlaaW.PrintLast Go.Proofs.YtobhffeopfbjlaaW.PrintMore
set_option linter.unusedVariables false
variable {P : Program} {ops : Array Oper} {rest : List Oper} {o : Oper} {a : Act} {Q : Exit → Act → World → Prop}
theorem nums_cells (s : ByteArray) : encs (Value.int .u8) (bytesOf s) = Lib.byteCells s.data.toList := by
  simp [encs, bytesOf, Lib.byteCells]
/-- What a row is, a string laid at m. -/
def laid (xs : List Int) (m : Nat) (s : ByteArray) : List Int := xs.take m ++ bytesOf s ++ xs.drop (m + s.size)
theorem laid_length (xs : List Int) (m : Nat) (s : ByteArray) (h : m + s.size ≤ xs.length) : (laid xs m s).length = xs.length := by
  unfold laid
  rw [List.length_append, List.length_append, List.length_take, List.length_drop, bytesOf_length]; omega
theorem R_copystr {w0 W : World} (base : Nat) (hgd : o.guard = none) (s x : Operand) (t t' e : TypeId)
    (ho : o.op = .call { callee := .builtin .copy, args := #[s, x], argTypes := #[t, t'] }) (ht : P.underlying t = some (.slice e)) (hinfo : (P.info? e).map (·.size) = some 1)
    (g cap m n' c' : Nat) (str : ByteArray) (xs : List Int) (ok : Nat → Prop) (hs : a.eval s = .slice (some ⟨g, m, none⟩) n' c') (hx : a.eval x = .string str)
    (HO : (Kd.int .u8).R e W base ok (.slice (some ⟨g, 0, none⟩) xs.length cap) xs) (hn' : n' = xs.length - m) (hm : m + str.size ≤ xs.length) (hpos : 0 < xs.length) (HB : Below base w0 W) (hbase : base ≤ W.heap.size)
    (h : ∀ w1, (Kd.int .u8).R e w1 base ok (.slice (some ⟨g, 0, none⟩) xs.length cap) (laid xs m str) → Below base w0 w1 → W.grownBy w1 (some g) → wpList P ops Q rest (a.put o.dst (.int .i64 (str.size : Int))) w1) :
    wpList P ops Q (o :: rest) a W := by
  have hown := Kd.own_of_R HO
  obtain ⟨hl0, hown2⟩ := hown
  rcases hown2 with ⟨hv0, hx0⟩ | ⟨g', cap', cur, hv, hb, hh, hnc, hcm, hcs, htake⟩
  · exact absurd hv0 (by simp)
  · obtain ⟨rfl, rfl⟩ : g = g' ∧ cap = cap' := by
      injection hv with h1 _ h3
      injection h1 with h1
      injection h1 with h1
      exact ⟨h1, h3⟩
    rw [Nat.mul_one] at hcs htake
    have hcl : cur.toList.length = cap := by rw [Array.length_toList]; exact hcs
    have hr := Lib.run_copy_row_string (P := P) W t t' o.type e g m n' c' str cur e ht hinfo hh (by omega) (by omega)
    have hlay : (cur.toList.take m ++ Lib.byteCells str.data.toList ++ cur.toList.drop (m + str.size)).take xs.length = encs (Value.int .u8) (laid xs m str) := by
      have h1 : encs (Value.int .u8) (laid xs m str) = (encs (Value.int .u8) xs).take m ++ Lib.byteCells str.data.toList ++ (encs (Value.int .u8) xs).drop (m + str.size) := by
        unfold laid; rw [← nums_cells]; simp [encs, List.map_take, List.map_drop]
      have hbl : (Lib.byteCells str.data.toList).length = str.size := by rw [Lib.byteCells_length, Array.length_toList]; rfl
      have hlt : (cur.toList.take m ++ Lib.byteCells str.data.toList).length = m + str.size := by rw [List.length_append, hbl, List.length_take]; omega
      have htk : cur.toList.take xs.length = encs (Value.int .u8) xs := htake
      rw [h1, ← htk, List.take_take, Nat.min_eq_left (by omega), List.take_append, hlt, List.take_of_length_le (by omega), List.drop_take]
    have hlen := laid_length xs m str hm
    have hR : (Kd.int .u8).R e (W.setRow g (cur.toList.take m ++ Lib.byteCells str.data.toList ++ cur.toList.drop (m + str.size)).toArray) base ok (.slice (some ⟨g, 0, none⟩) xs.length cap) (laid xs m str) := by
      refine Kd.R_of_own ?_ HO.1
      rw [hlen]
      refine ⟨by rw [encs_length, hlen, Nat.mul_one], .inr ⟨g, cap, _, rfl, hb, setRow_heap _ _ _ _ _ _ hh, hnc, hcm, ?_, ?_⟩⟩
      · rw [Nat.mul_one]
        simp only [List.size_toArray, List.length_append, List.length_take, List.length_drop]
        have hbl : (Lib.byteCells str.data.toList).length = str.size := by rw [Lib.byteCells_length, Array.length_toList]; rfl
        rw [hbl]; omega
      · rw [Nat.mul_one]; exact hlay
    have hg : W.grownBy (W.setRow g (cur.toList.take m ++ Lib.byteCells str.data.toList ++ cur.toList.drop (m + str.size)).toArray) (some g) :=
      ⟨rfl, rfl, rfl, by simp, fun k _ hk => setRow_other _ _ _ _ (fun e => hk (by rw [e]))⟩
    refine wpList_plain hgd fun K hK => ?_
    unfold Oper.wp execOp
    simp only [ho, resolve, invoke, builtin, Sem.run_bind, Sem.run_pure, Result.andThen_ok, List.map_toArray, List.map_cons, List.map_nil, hs, hx, hr]
    exact hK _ _ (h _ hR (HB.grown hg hbase (fun k hk => by injection hk with hk; omega)) hg)
end Go.Proofs.Ytobhffeopfbjlaa.Cs
