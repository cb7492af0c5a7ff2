import Derived.Test.YtobhffeopfbjlaaQTx3
import Derived.Test.YtobhffeopfbjlaaQTx2
import Derived.Test.YtobhffeopfbjlaaTk
/- A tape that no call made: nil, and the zero value. -/
namespace Go.Proofs.Ytobhffeopfbjlaa.Tn
open Go.RowKit Go.Proofs.Ytobhffeopfbjlaa.QT Go.Proofs.Ytobhffeopfbjlaa.QP Go.Proofs.YtobhffeopfbjlaaW.PrintWords Go.Proofs.YtobhffeopfbjlaaW.PrintLast Go.Proofs.YtobhffeopfbjlaaW.PrintMore
set_option linter.unusedVariables false
set_option linter.unusedSimpArgs false
section
set_option maxHeartbeats 8000000
set_option maxRecDepth 100000
theorem none_nil (w : World) : Calls Try.prog 43 #[.pointer none] w fun e w' => e = .returned (.bool true) ∧ w' = w := by
  go_enter Try.func43, Try.ntmps43
  go_wp2
  go_ret
  exact ⟨rfl, rfl⟩
theorem append_nil (s : ByteArray) (w : World) : Calls Try.prog 26 #[.pointer none, .string s] w fun e w' => e = .returned (.tuple #[]) ∧ Below w.heap.size w w' := by
  go_enter Try.func26, Try.ntmps26
  go_wp2_with (go_at_call 43; (with_reducible refine (none_nil _).mono ?_); rintro e w' ⟨rfl, rfl⟩)
  first | go_end0 | ((try simp only [Exit.inBlock, Exit.then]); refine bodyPost_ret (results_none rfl _ _ _) rfl ?_)
  exact ⟨rfl, Below.refl _ _⟩
theorem sync_nil (w : World) : Calls Try.prog 27 #[.pointer none] w fun e w' => e = .returned (.tuple #[]) ∧ Below w.heap.size w w' := by
  go_enter Try.func27, Try.ntmps27
  go_wp2_with (go_at_call 43; (with_reducible refine (none_nil _).mono ?_); rintro e w' ⟨rfl, rfl⟩)
  first | go_end0 | ((try simp only [Exit.inBlock, Exit.then]); refine bodyPost_ret (results_none rfl _ _ _) rfl ?_)
  exact ⟨rfl, Below.refl _ _⟩
theorem now_nil (w : World) : Calls Try.prog 29 #[.pointer none] w fun e w' => e = .returned (.string ⟨#[]⟩) ∧ Below w.heap.size w w' := by
  go_enter Try.func29, Try.ntmps29
  go_wp2_with (go_at_call 43; (with_reducible refine (none_nil _).mono ?_); rintro e w' ⟨rfl, rfl⟩)
  go_ret
  exact ⟨rfl, Below.refl _ _⟩
theorem kept_nil (w : World) : Calls Try.prog 30 #[.pointer none] w fun e w' => e = .returned (.string ⟨#[]⟩) ∧ Below w.heap.size w w' := by
  go_enter Try.func30, Try.ntmps30
  go_wp2_with (go_at_call 43; (with_reducible refine (none_nil _).mono ?_); rintro e w' ⟨rfl, rfl⟩)
  go_ret
  exact ⟨rfl, Below.refl _ _⟩
theorem cut_nil (n : Int) (w : World) : Calls Try.prog 32 #[.pointer none, .int .i64 n] w fun e w' => e = .returned (.bool false) ∧ Below w.heap.size w w' := by
  go_enter Try.func32, Try.ntmps32
  go_wp2_with (go_at_call 43; (with_reducible refine (none_nil _).mono ?_); rintro e w' ⟨rfl, rfl⟩)
  go_ret
  exact ⟨rfl, Below.refl _ _⟩
theorem dirty_nil (w : World) : Calls Try.prog 31 #[.pointer none] w fun e w' => e = .returned (.int .i64 0) ∧ Below w.heap.size w w' := by
  go_enter Try.func31, Try.ntmps31
  go_wp2_with (go_at_call 43; (with_reducible refine (none_nil _).mono ?_); rintro e w' ⟨rfl, rfl⟩)
  go_ret
  exact ⟨rfl, Below.refl _ _⟩
theorem copy_nil (w : World) : Calls Try.prog 34 #[.pointer none] w fun e w' => e = .returned (.pointer none) ∧ Below w.heap.size w w' := by
  go_enter Try.func34, Try.ntmps34
  go_wp2_with (go_at_call 43; (with_reducible refine (none_nil _).mono ?_); rintro e w' ⟨rfl, rfl⟩)
  go_ret
  exact ⟨rfl, Below.refl _ _⟩
theorem copy_zero (g : Nat) (a b : ByteArray) (w0 w : World) (hI : IsS50 w0 w g a b false) (hB : Below w0.heap.size w0 w) : Calls Try.prog 34 #[.pointer (some ⟨g, 0, none⟩)] w fun e w' => e = .returned (.pointer none) ∧ IsS50 w0 w' g a b false ∧ Below w0.heap.size w0 w' ∧ KeepBut w w' g none := by
  go_enter Try.func34, Try.ntmps34
  go_wp2_with (go_at_call 43; (with_reducible refine (tape_Tape_none.calls g a b false _ _ _ _ w0 _ hI hB rfl).mono ?_); rintro e w' ⟨rfl, hi, hb, hk⟩)
  go_ret
  exact ⟨rfl, hi, hb, hk⟩
end
/-- the zero tape at gz -/
structure St (w W : World) (gz : Nat) : Prop where
  z : IsS50 w W gz ⟨#[]⟩ ⟨#[]⟩ false
  bel : Below w.heap.size w W
theorem St.nil {w W W' : World} {gz : Nat} (h : St w W gz) (hb : Below W.heap.size W W') : St w W' gz := ⟨h.z.below hb, below_step h.bel hb⟩
theorem St.zero {w W W' : World} {gz : Nat} (h : St w W gz) (hi : IsS50 w W' gz ⟨#[]⟩ ⟨#[]⟩ false) (hb : Below w.heap.size w W') : St w W' gz := ⟨hi, hb⟩
theorem sectors_zero : tape_Tape_Sectors.f ⟨#[]⟩ ⟨#[]⟩ false = some (0, ⟨#[]⟩, ⟨#[]⟩, false) := by
  unfold tape_Tape_Sectors.f
  have e1 : tape_Tape_Now.f ⟨#[]⟩ ⟨#[]⟩ false = some (⟨#[]⟩, ⟨#[]⟩, ⟨#[]⟩, false) := rfl
  have e2 : tape_Tape_Kept.f ⟨#[]⟩ ⟨#[]⟩ false = some (⟨#[]⟩, ⟨#[]⟩, ⟨#[]⟩, false) := rfl
  have e3 : piece_Count.f (mx ((⟨#[]⟩ : ByteArray).size : Int) ((⟨#[]⟩ : ByteArray).size : Int)) = some 0 := by decide +kernel
  rw [e1, Option.bind_some]
  dsimp only
  rw [e2, Option.bind_some]
  dsimp only
  rw [e3, Option.bind_some]
set_option maxHeartbeats 8000000 in
set_option maxRecDepth 100000 in
theorem TapeNobody (s : ByteArray) (n : Int) (w : World) : Calls Try.prog 10 #[.string s, .int .i64 n] w fun e w' => e = .returned (.bool true) ∧ Below w.heap.size w w' := by
  have HB := Aside0.mk (Below.refl w.heap.size w)
  go_enter Try.func10, Try.ntmps10
  go_wp2_with (first
    | ((with_reducible refine gate_dst (N := 6) rfl ?_); refine box_event ?hg (N := 6) ?hd (cs := #[.string ⟨#[]⟩, .string ⟨#[]⟩, .bool false]) (t := 50) ?hr ?_; (case hd => rfl); (case hg => rfl); (case hr => first | (go_simp; done) | (go_simp; rfl)); intro gz hg w2 hbox hb; have HS : Aside0 (St w w2 gz) := ⟨⟨⟨hbox, by rw [hg]; exact below_size HB.out⟩, below_step HB.out hb⟩⟩; clear HB hb hbox hg)
    | (go_at_call 26; (with_reducible refine (append_nil s _).mono ?_); rintro e w' ⟨rfl, hb⟩; have n0_ := Aside0.mk (HS.out.nil hb); clear HS hb; have HS := n0_; clear n0_)
    | (go_at_call 26; (with_reducible refine (tape_Tape_Append.calls gz ⟨#[]⟩ ⟨#[]⟩ false s _ _ _ w _ HS.out.z HS.out.bel rfl).mono ?_); rintro e w' ⟨rfl, hi, hb, hk⟩; have n0_ := Aside0.mk (HS.out.zero hi hb); clear HS hi hb hk; have HS := n0_; clear n0_)
    | (go_at_call 27; (with_reducible refine (sync_nil _).mono ?_); rintro e w' ⟨rfl, hb⟩; have n0_ := Aside0.mk (HS.out.nil hb); clear HS hb; have HS := n0_; clear n0_)
    | (go_at_call 27; (with_reducible refine (tape_Tape_Sync.calls gz ⟨#[]⟩ ⟨#[]⟩ false _ _ _ w _ HS.out.z HS.out.bel rfl).mono ?_); rintro e w' ⟨rfl, hi, hb, hk⟩; have n0_ := Aside0.mk (HS.out.zero hi hb); clear HS hi hb hk; have HS := n0_; clear n0_)
    | (go_at_call 29; (with_reducible refine (now_nil _).mono ?_); rintro e w' ⟨rfl, hb⟩; have n0_ := Aside0.mk (HS.out.nil hb); clear HS hb; have HS := n0_; clear n0_)
    | (go_at_call 29; (with_reducible refine (tape_Tape_Now.calls gz ⟨#[]⟩ ⟨#[]⟩ false _ _ _ _ w _ HS.out.z HS.out.bel rfl).mono ?_); rintro e w' ⟨rfl, hi, hb, hk⟩; have n0_ := Aside0.mk (HS.out.zero hi hb); clear HS hi hb hk; have HS := n0_; clear n0_)
    | (go_at_call 30; (with_reducible refine (kept_nil _).mono ?_); rintro e w' ⟨rfl, hb⟩; have n0_ := Aside0.mk (HS.out.nil hb); clear HS hb; have HS := n0_; clear n0_)
    | (go_at_call 32; (with_reducible refine (cut_nil n _).mono ?_); rintro e w' ⟨rfl, hb⟩; have n0_ := Aside0.mk (HS.out.nil hb); clear HS hb; have HS := n0_; clear n0_)
    | (go_at_call 32; (with_reducible refine (tape_Tape_Cut.calls gz ⟨#[]⟩ ⟨#[]⟩ false n _ _ _ _ w _ HS.out.z HS.out.bel rfl).mono ?_); rintro e w' ⟨rfl, hi, hb, hk⟩; have n0_ := Aside0.mk (HS.out.zero hi hb); clear HS hi hb hk; have HS := n0_; clear n0_)
    | (go_at_call 31; (with_reducible refine (dirty_nil _).mono ?_); rintro e w' ⟨rfl, hb⟩; have n0_ := Aside0.mk (HS.out.nil hb); clear HS hb; have HS := n0_; clear n0_)
    | (go_at_call 33; (with_reducible refine (tape_Tape_Sectors.calls gz ⟨#[]⟩ ⟨#[]⟩ false _ _ _ _ w _ HS.out.z HS.out.bel sectors_zero).mono ?_); rintro e w' ⟨rfl, hi, hb, hk⟩; have n0_ := Aside0.mk (HS.out.zero hi hb); clear HS hi hb hk; have HS := n0_; clear n0_)
    | (go_at_call 28; (with_reducible refine (tape_Tape_Crash.calls 1 gz ⟨#[]⟩ ⟨#[]⟩ false s _ _ _ _ w _ HS.out.z HS.out.bel rfl).mono ?_); rintro e w' ⟨rfl, hi, hb, hk⟩; have n0_ := Aside0.mk (HS.out.zero hi hb); clear HS hi hb hk; have HS := n0_; clear n0_)
    | (go_at_call 34; (with_reducible refine (copy_nil _).mono ?_); rintro e w' ⟨rfl, hb⟩; have n0_ := Aside0.mk (HS.out.nil hb); clear HS hb; have HS := n0_; clear n0_)
    | (go_at_call 34; (with_reducible refine (copy_zero gz ⟨#[]⟩ ⟨#[]⟩ w _ HS.out.z HS.out.bel).mono ?_); rintro e w' ⟨rfl, hi, hb, hk⟩; have n0_ := Aside0.mk (HS.out.zero hi hb); clear HS hi hb hk; have HS := n0_; clear n0_)
    | (go_at_call 24; (with_reducible refine (styluslaw07_lives.calls 2000 true _ (Tk.lives 2000 (by omega))).mono ?_); rintro e w' ⟨rfl, hb⟩; have n0_ := Aside0.mk (below_step HS.out.bel hb)))
  go_ret
  exact ⟨rfl, n0_.out⟩
end Go.Proofs.Ytobhffeopfbjlaa.Tn
