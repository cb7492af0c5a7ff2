import Derived.Test.YtbedmobcaljmdaaBc
/- A batch that no call made: nil, and the zero value. -/
namespace Go.Proofs.Ytbedmobcaljmdaa.Bn
open Go.RowKit Go.Conc Go.Proofs.Ytbedmobcaljmdaa.Ba Go.Proofs.Ytbedmobcaljmdaa.Bb Go.Proofs.Ytbedmobcaljmdaa.Bc Go.Proofs.YtbedmobcaljmdaaW.PrintWords Go.Proofs.YtbedmobcaljmdaaW.PrintLast Go.Proofs.YtbedmobcaljmdaaW.PrintMore
set_option linter.unusedVariables false
set_option linter.unusedSimpArgs false
def BZ (w : World) (g : Nat) : Prop := w.heap[g]? = some (.cells #[.chan none, .int .i64 0, .bool false] 52 (0, 0))
theorem BZ.c0 {w : World} {g : Nat} (h : BZ w g) : w.cell? ⟨g, 0, none⟩ = some (.chan none) := (blk_cell h 0).trans rfl
theorem none_nil (w : World) : Calls Try.prog 37 #[.pointer none] w fun e w' => e = .returned (.bool true) ∧ w = w' := by
  go_enter Try.func37, Try.ntmps37
  go_wp2
  go_ret
  exact ⟨rfl, rfl⟩
theorem none_zero (w : World) (g : Nat) (h : BZ w g) : Calls Try.prog 37 #[.pointer (some ⟨g, 0, none⟩)] w fun e w' => e = .returned (.bool true) ∧ w = w' := by
  have h0 := h.c0
  have he := eql_chan
  go_enter Try.func37, Try.ntmps37
  go_wp2
  go_ret
  exact ⟨rfl, rfl⟩
/-- nobody's batch -/
def No (w : World) (p : Value) : Prop := p = .pointer none ∨ ∃ g, p = .pointer (some ⟨g, 0, none⟩) ∧ BZ w g
theorem none_no (w : World) (p : Value) (h : No w p) : Calls Try.prog 37 #[p] w fun e w' => e = .returned (.bool true) ∧ w = w' := by
  rcases h with rfl | ⟨g, rfl, hg⟩
  · exact none_nil w
  · exact none_zero w g hg
theorem close_no (w : World) (p : Value) (h : No w p) : Calls Try.prog 30 #[p] w fun e w' => e = .returned (.tuple #[]) ∧ w = w' := by
  have H := Aside0.mk h
  clear h
  go_enter Try.func30, Try.ntmps30
  go_wp2_with (go_at_call 37; (with_reducible refine (none_no _ _ H.out).mono ?_); rintro e w' ⟨rfl, rfl⟩)
  first | go_end0 | ((try simp only [Exit.inBlock, Exit.then]); refine bodyPost_ret (results_none rfl _ _ _) rfl ?_)
  exact ⟨rfl, rfl⟩
theorem len_no (w : World) (p : Value) (h : No w p) : Calls Try.prog 31 #[p] w fun e w' => e = .returned (.int .i64 0) ∧ w = w' := by
  have H := Aside0.mk h
  clear h
  go_enter Try.func31, Try.ntmps31
  go_wp2_with (go_at_call 37; (with_reducible refine (none_no _ _ H.out).mono ?_); rintro e w' ⟨rfl, rfl⟩)
  go_ret
  exact ⟨rfl, rfl⟩
theorem bytes_no (w : World) (p : Value) (h : No w p) : Calls Try.prog 32 #[p] w fun e w' => e = .returned (.int .i64 0) ∧ w = w' := by
  have H := Aside0.mk h
  clear h
  go_enter Try.func32, Try.ntmps32
  go_wp2_with (go_at_call 37; (with_reducible refine (none_no _ _ H.out).mono ?_); rintro e w' ⟨rfl, rfl⟩)
  go_ret
  exact ⟨rfl, rfl⟩
theorem put_no (w : World) (p x : Value) (h : No w p) : Calls Try.prog 21 #[p, x] w fun e w' => e = .returned (.bool false) ∧ w = w' := by
  have H := Aside0.mk h
  clear h
  refine calls_of_nwp Try.func21 rfl ?_
  simp only [Try.ntmps21, List.size_toArray, List.length_cons, List.length_nil, Nat.reduceAdd, Nat.reduceSub, Array.replicate_succ, Array.replicate_zero, List.push_toArray, List.append_toArray, List.nil_append, List.cons_append]
  refine n_seq_k (fun K hK => ?_)
  go_wp2
  refine n_seq_k (fun K hK => ?_)
  go_wp2_with (go_at_call 37; (with_reducible refine (none_no _ _ H.out).mono ?_); rintro e w' ⟨rfl, rfl⟩)
  go_ret
  exact ⟨rfl, rfl⟩
theorem take_no (w : World) (p : Value) (h : No w p) : Calls Try.prog 22 #[p] w fun e w' => e = .returned (.slice none 0 0) ∧ w = w' := by
  have H := Aside0.mk h
  clear h
  refine calls_of_nwp Try.func22 rfl ?_
  simp only [Try.ntmps22, List.size_toArray, List.length_cons, List.length_nil, Nat.reduceAdd, Nat.reduceSub, Array.replicate_succ, Array.replicate_zero, List.push_toArray, List.append_toArray, List.nil_append, List.cons_append]
  refine n_seq_k (fun K hK => ?_)
  go_wp2
  refine n_scope ?_
  refine n_seq_k (fun K hK => ?_)
  go_wp2_with (go_at_call 37; (with_reducible refine (none_no _ _ H.out).mono ?_); rintro e w' ⟨rfl, rfl⟩)
  rw [Exit.noGoto_ret]
  go_ret
  exact ⟨rfl, rfl⟩
set_option maxHeartbeats 8000000 in
set_option maxRecDepth 100000 in
theorem BatchNobody (s : ByteArray) (w : World) : Calls Try.prog 9 #[.string s] w fun e w' => e = .returned (.bool true) ∧ Below w.heap.size w w' := by
  have HB := Aside0.mk (Below.refl w.heap.size w)
  have HN : Aside0 (∀ W, No W (.pointer none)) := ⟨fun W => .inl rfl⟩
  go_enter Try.func9, Try.ntmps9
  go_wp2_with (first
    | ((with_reducible refine gate_dst (N := 4) rfl ?_); refine box_event ?hg (N := 4) ?hd (cs := #[.chan none, .int .i64 0, .bool false]) (t := 52) ?hr ?_; (case hd => rfl); (case hg => rfl); (case hr => first | (go_simp; done) | (go_simp; rfl)); intro gz hg w2 hbox hb; have HZ : Aside0 (No w2 (.pointer (some ⟨gz, 0, none⟩))) := ⟨.inr ⟨gz, rfl, hbox⟩⟩; have n0_ := Aside0.mk (below_step HB.out hb); clear HB hb hbox hg; have HB := n0_; clear n0_)
    | (go_at_call 30; (with_reducible refine (close_no _ (.pointer none) (HN.out _)).mono ?_); rintro e w' ⟨rfl, rfl⟩)
    | (go_at_call 30; (with_reducible refine (close_no _ _ HZ.out).mono ?_); rintro e w' ⟨rfl, rfl⟩)
    | (go_at_call 21; (with_reducible refine (put_no _ (.pointer none) _ (HN.out _)).mono ?_); rintro e w' ⟨rfl, rfl⟩)
    | (go_at_call 21; (with_reducible refine (put_no _ _ _ HZ.out).mono ?_); rintro e w' ⟨rfl, rfl⟩)
    | (go_at_call 22; (with_reducible refine (take_no _ (.pointer none) (HN.out _)).mono ?_); rintro e w' ⟨rfl, rfl⟩)
    | (go_at_call 22; (with_reducible refine (take_no _ _ HZ.out).mono ?_); rintro e w' ⟨rfl, rfl⟩)
    | (go_at_call 31; (with_reducible refine (len_no _ (.pointer none) (HN.out _)).mono ?_); rintro e w' ⟨rfl, rfl⟩)
    | (go_at_call 32; (with_reducible refine (bytes_no _ _ HZ.out).mono ?_); rintro e w' ⟨rfl, rfl⟩)
    | (go_at_call 19; (with_reducible refine (lives_calls _).mono ?_); rintro e w' ⟨rfl, hb⟩; have n0_ := Aside0.mk (below_step HB.out hb)))
  go_ret
  exact ⟨rfl, n0_.out⟩
end Go.Proofs.Ytbedmobcaljmdaa.Bn
