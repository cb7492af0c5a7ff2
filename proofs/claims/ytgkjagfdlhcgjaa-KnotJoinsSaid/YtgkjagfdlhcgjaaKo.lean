import Derived.Test.YtgkjagfdlhcgjaaKl
/- Join of knots that it refuses; a knot that no call made. -/
namespace Go.Proofs.Ytgkjagfdlhcgjaa.Ko
open Go.RowKit Go.Proofs.Ytgkjagfdlhcgjaa.U Go.Proofs.Ytgkjagfdlhcgjaa.QK Go.Proofs.Ytgkjagfdlhcgjaa.Kt Go.Proofs.Ytgkjagfdlhcgjaa.Ka Go.Proofs.Ytgkjagfdlhcgjaa.Kb Go.Proofs.Ytgkjagfdlhcgjaa.Kc Go.Proofs.Ytgkjagfdlhcgjaa.Kd_ Go.Proofs.Ytgkjagfdlhcgjaa.Ke Go.Proofs.Ytgkjagfdlhcgjaa.Kf Go.Proofs.Ytgkjagfdlhcgjaa.Kg Go.Proofs.Ytgkjagfdlhcgjaa.Kh Go.Proofs.Ytgkjagfdlhcgjaa.Ki Go.Proofs.Ytgkjagfdlhcgjaa.Kj Go.Proofs.Ytgkjagfdlhcgjaa.Kk Go.Proofs.Ytgkjagfdlhcgjaa.Kl Go.Proofs.Ytgkjagfdlhcgjaa.Km Go.Proofs.YtgkjagfdlhcgjaaW.PrintWords Go.Proofs.YtgkjagfdlhcgjaaW.PrintLast Go.Proofs.YtgkjagfdlhcgjaaW.PrintMore
set_option linter.unusedVariables false
set_option linter.unusedSimpArgs false
theorem join_no (w : World) (A : Option Addr) (n cp : Nat) (ps : List (Option Addr)) (ts : List Tr) (H : Rs w A n ps ts) (h : n < 2 ∨ 8 < n ∨ evenB ts = false) :
    Calls Try.prog 27 #[.slice A n cp] w fun e w' => e = .returned (.pointer none) ∧ Below w.heap.size w w' := by
  by_cases h2 : n < 2
  · have n2 : decide (n < 2) = true := decide_eq_true h2
    have n2i : decide ((n : Int) < 2) = true := decide_eq_true (by omega)
    clear h h2 H
    go_enter Try.func27, Try.ntmps27
    go_wp2
    go_ret
    exact ⟨rfl, Below.refl _ _⟩
  have n2 : decide (n < 2) = false := decide_eq_false h2
  have n2i : decide ((n : Int) < 2) = false := decide_eq_false (by omega)
  by_cases h8 : 8 < n
  · have n8 : decide (8 < n) = true := decide_eq_true h8
    have n8i : decide (8 < (n : Int)) = true := decide_eq_true (by omega)
    clear h h2 h8 H
    go_enter Try.func27, Try.ntmps27
    go_wp2
    go_ret
    exact ⟨rfl, Below.refl _ _⟩
  have n8 : decide (8 < n) = false := decide_eq_false h8
  have n8i : decide (8 < (n : Int)) = false := decide_eq_false (by omega)
  have he : evenB ts = false := by rcases h with h | h | h; exact absurd h h2; exact absurd h h8; exact h
  have HE : Aside0 (Calls Try.prog 48 #[.slice A n cp] w fun e w' => e = .returned (.bool false) ∧ Drawn0 w w') := ⟨by have := even_calls w A n cp ps ts H; rw [he] at this; exact this⟩
  clear h h2 h8 H he
  go_enter Try.func27, Try.ntmps27
  go_wp2_with (go_at_call 48; (with_reducible refine HE.out.mono ?_); rintro e wd ⟨rfl, hd⟩; have HB0 := Aside0.mk hd.below; clear hd)
  go_ret
  exact ⟨rfl, HB0.out⟩
theorem leafText_calls (w : World) (s : ByteArray) : Calls Try.prog 33 #[.string s] w fun e w' => e = .returned (.string (if fits s then s else ⟨#[]⟩)) ∧ Below w.heap.size w w' := by
  have HF := Aside0.mk (fun W => stylusref15_Fits.calls s (fits s) W (rfits_f s))
  cases hf : fits s with
  | true =>
    rw [hf] at HF
    go_enter Try.func33, Try.ntmps33
    go_wp2_with (go_at_call 17; (with_reducible refine (HF.out _).mono ?_); rintro e w1 ⟨rfl, hb⟩; have HB := Aside0.mk hb; clear hb)
    go_ret
    exact ⟨rfl, HB.out⟩
  | false =>
    rw [hf] at HF
    go_enter Try.func33, Try.ntmps33
    go_wp2_with (go_at_call 17; (with_reducible refine (HF.out _).mono ?_); rintro e w1 ⟨rfl, hb⟩; have HB := Aside0.mk hb; clear hb)
    go_ret
    exact ⟨rfl, HB.out⟩
/-- the zero value -/
def zT : Tr := .node 0 0 0 0 ⟨#[]⟩ []
theorem zT_none : zT.none = true := by
  show (((⟨#[]⟩ : ByteArray).toList == []) && (([] : List Tr).length == 0)) = true
  rw [Lib.toList_data]; rfl
theorem z_new {w : World} {g : Nat} (h : w.heap[g]? = some (.cells #[.int .i64 0, .int .i64 0, .int .i64 0, .int .i64 0, .string ⟨#[]⟩, .slice none 0 0] 51 (0, 0))) : Rd w (some ⟨g, 0, none⟩) zT :=
  Rp.rd (ok := fun _ => True) (.node g 0 0 0 0 ⟨#[]⟩ [] none 0 [] trivial h rfl (Kd.R_nil _ _ _ _ _) (fun j p t hp ht => by cases hp))
theorem ev_z (t : Tr) : evenB [zT, t] = false := by
  unfold evenB
  rw [List.all_cons]
  have : evenAt [zT, t] zT = false := by unfold evenAt; rw [zT_none]; rfl
  rw [this]; rfl
theorem ev_z1 : evenB [zT] = false := by
  unfold evenB
  rw [List.all_cons]
  have : evenAt [zT] zT = false := by unfold evenAt; rw [zT_none]; rfl
  rw [this]; rfl
theorem joinZ (W : World) (pz pa : Option Addr) (ta : Tr) (hz : Rd W pz zT) (ha : Rd W pa ta) : Calls Try.prog 27 #[.slice (some ⟨W.heap.size, 0, none⟩) 2 2] (W.alloc (.cells #[.pointer pz, .pointer pa] 38)) fun e w' => e = .returned (.pointer none) ∧ Below W.heap.size W w' :=
  (join_no _ _ 2 2 _ _ (two_ptr W pz pa _ _ hz ha).rs (.inr (.inr (ev_z ta)))).mono fun e w' ⟨he, hb⟩ => ⟨he, below_step (below_alloc (Below.refl _ _) _) hb⟩
theorem upZ (W : World) (pz : Option Addr) (hz : Rd W pz zT) : Calls Try.prog 25 #[.slice (some ⟨W.heap.size, 0, none⟩) 1 1] (W.alloc (.cells #[.pointer pz] 38)) fun e w' => e = .returned (.pointer none) ∧ Below W.heap.size W w' :=
  (up_none _ _ 1 1 _ _ (one_ptr W pz _ hz).rs (.inr ev_z1)).mono fun e w' ⟨he, hb⟩ => ⟨he, below_step (below_alloc (Below.refl _ _) _) hb⟩
/-- what is told of a knot that is none -/
structure NoK (W : World) (p : Option Addr) : Prop where
  height : Calls Try.prog 26 #[.pointer p] W fun e w' => e = .returned (.int .i64 (-1)) ∧ W = w'
  kids : Calls Try.prog 28 #[.pointer p] W fun e w' => e = .returned (.slice none 0 0) ∧ Below W.heap.size W w'
  count : Calls Try.prog 36 #[.pointer p] W fun e w' => e = .returned (.agg #[.int .i64 0, .int .i64 0, .int .i64 0]) ∧ Below W.heap.size W w'
  chunks : Calls Try.prog 34 #[.pointer p] W fun e w' => ∃ A cp, e = .returned (.slice A 0 cp) ∧ Below W.heap.size W w'
  text : Calls Try.prog 29 #[.pointer p] W fun e w' => e = .returned (.string ⟨#[]⟩) ∧ Below W.heap.size W w'
  first : Calls Try.prog 35 #[.pointer p] W fun e w' => e = .returned (.string ⟨#[]⟩) ∧ Below W.heap.size W w'
theorem kids_no (w : World) (p : Option Addr) (t : Tr) (H : Rd w p t) (hn : t.none = true) : Calls Try.prog 28 #[.pointer p] w fun e w' => e = .returned (.slice none 0 0) ∧ Below w.heap.size w w' := by
  have HN := Aside0.mk (none_t H hn)
  clear H hn
  go_enter Try.func28, Try.ntmps28
  go_wp2_with (go_at_call 50; (with_reducible refine HN.out.mono ?_); rintro e w' ⟨rfl, rfl⟩)
  go_ret
  exact ⟨rfl, Below.refl _ _⟩
theorem noK (W : World) (p : Option Addr) (t : Tr) (h : Rd W p t) (hn : t.none = true) : NoK W p := by
  have hc := chunks_none hn
  refine ⟨?_, kids_no W p t h hn, ?_, ?_, ?_, ?_⟩
  · have := height_calls W p t h
    unfold Tr.height at this
    rw [hn] at this; exact this
  · have := count_calls W p t h
    rw [hn] at this; exact this
  · have := chunks_calls W p t h (by rw [hc]; decide)
    rw [hc] at this
    exact this.mono fun e w' ⟨A, cp, he, _, hb⟩ => ⟨A, cp, he, hb⟩
  · have := text_calls W p t h (by rw [hc]; decide) (by rw [hc]; decide)
    rw [hc] at this; exact this
  · have := first_calls W p t h
    rw [(none_ends hn).1] at this
    exact this.mono fun e w' ⟨he, hd⟩ => ⟨he, hd.below⟩
set_option maxHeartbeats 8000000 in
set_option maxRecDepth 100000 in
theorem KnotNobody (w : World) (s : ByteArray) : Calls Try.prog 8 #[.string s] w fun e w' => e = .returned (.bool true) ∧ Below w.heap.size w w' := by
  by_cases d0 : 400 < s.size
  · have d0b : decide (400 < s.size) = true := decide_eq_true d0
    have d0c : decide (400 < (s.size : Int)) = true := decide_eq_true (by omega)
    clear d0
    go_enter Try.func8, Try.ntmps8
    go_wp2_with (go_at_call 23; (with_reducible refine (lives_calls _).mono ?_); rintro e w1 ⟨rfl, hb⟩; have HB1 := Aside0.mk hb; clear hb)
    go_ret
    exact ⟨rfl, HB1.out⟩
  have d0b : decide (400 < s.size) = false := decide_eq_false d0
  have d0c : decide (400 < (s.size : Int)) = false := decide_eq_false (by omega)
  clear d0
  have HB := Aside0.mk (Below.refl w.heap.size w)
  have HF := Aside0.mk (fun W => stylusref15_Fits.calls s (fits s) W (rfits_f s))
  have HT := Aside0.mk (fun W => leafText_calls W s)
  have LA : Aside0 (∀ W, Calls Try.prog 32 #[.string ⟨#[97]⟩] W fun e w' => ∃ a : Nat, e = .returned (.pointer (some ⟨a, 0, none⟩)) ∧ KS W w' (some ⟨a, 0, none⟩) (leafT sA)) := ⟨fun W => leafAt W sA fA⟩
  have NN : Aside0 (∀ W, NoK W none) := ⟨fun W => noK W none .nil .nil rfl⟩
  have NZ : Aside0 (∀ W p, Rd W p zT → NoK W p) := ⟨fun W p h => noK W p zT h zT_none⟩
  cases hf : fits s with
  | true =>
    rw [hf] at HF HT
    have LS : Aside0 (∀ W, Calls Try.prog 32 #[.string s] W fun e w' => ∃ a : Nat, e = .returned (.pointer (some ⟨a, 0, none⟩)) ∧ KS W w' (some ⟨a, 0, none⟩) (leafT s)) := ⟨fun W => leafAt W s hf⟩
    have LT : Aside0 (∀ W p, Rd W p (leafT s) → Calls Try.prog 29 #[.pointer p] W fun e w' => e = .returned (.string s) ∧ Below W.heap.size W w') := ⟨fun W p h => by
      have hz := (fits_spec hf).2.1
      have hc : cat (chunks (leafT s)) = s := by rw [leaf_chunks hf]; apply ld_ext; simp [cat, ld]
      have := text_calls W p (leafT s) h (by rw [leaf_chunks hf]; simp) (by rw [hc]; omega)
      rw [hc] at this; exact this⟩
    clear hf
    go_enter Try.func8, Try.ntmps8
    go_wp2_with (first
      | ((with_reducible refine gate_dst (N := 4) rfl ?_); refine box_event ?hg (N := 4) ?hd (cs := #[.int .i64 0, .int .i64 0, .int .i64 0, .int .i64 0, .string ⟨#[]⟩, .slice none 0 0]) (t := 51) ?hr ?_; (case hd => rfl); (case hg => rfl); (case hr => first | (go_simp; done) | (go_simp; rfl)); intro gz hg w1 hbox hb; have HS : Aside0 (KS w w1 (some ⟨gz, 0, none⟩) zT) := ⟨⟨z_new hbox, below_step HB.out hb⟩⟩; clear hbox hb hg HB)
      | (go_at_call 32; (with_reducible refine (LS.out _).mono ?_); rintro e w2 ⟨a, rfl, h⟩; have LR := Aside0.mk h.r; have n0_ := Aside0.mk (HS.out.later h.bel); clear HS h; have HS := n0_; clear n0_)
      | (go_at_call 29; (with_reducible refine (LT.out _ _ LR.out).mono ?_); rintro e w2 ⟨rfl, hb⟩; have n0_ := Aside0.mk (HS.out.later hb); clear HS hb LR; have HS := n0_; clear n0_)
      | (go_at_call 17; (with_reducible refine (HF.out _).mono ?_); rintro e w3 ⟨rfl, hb⟩; have n0_ := Aside0.mk (HS.out.later hb); clear HS hb; have HS := n0_; clear n0_)
      | (go_at_call 33; (with_reducible refine (HT.out _).mono ?_); rintro e w3 ⟨rfl, hb⟩; have n0_ := Aside0.mk (HS.out.later hb); clear HS hb; have HS := n0_; clear n0_)
      | (go_at_call 26; (with_reducible refine (NN.out _).height.mono ?_); rintro e w3 ⟨rfl, rfl⟩)
      | (go_at_call 26; (with_reducible refine (NZ.out _ _ HS.out.r).height.mono ?_); rintro e w3 ⟨rfl, rfl⟩)
      | (go_at_call 30; (with_reducible refine (right_nil _).mono ?_); rintro e w3 ⟨rfl, rfl⟩)
      | (go_at_call 30; (with_reducible refine (right_none _ _ zT HS.out.r zT_none (by simp)).mono ?_); rintro e w3 ⟨rfl, rfl⟩)
      | (go_at_call 28; (with_reducible refine (NN.out _).kids.mono ?_); rintro e w3 ⟨rfl, hb⟩; have n0_ := Aside0.mk (HS.out.later hb); clear HS hb; have HS := n0_; clear n0_)
      | (go_at_call 28; (with_reducible refine (NZ.out _ _ HS.out.r).kids.mono ?_); rintro e w3 ⟨rfl, hb⟩; have n0_ := Aside0.mk (HS.out.later hb); clear HS hb; have HS := n0_; clear n0_)
      | (go_at_call 34; (with_reducible refine (NN.out _).chunks.mono ?_); rintro e w3 ⟨A_, cp_, rfl, hb⟩; have n0_ := Aside0.mk (HS.out.later hb); clear HS hb; have HS := n0_; clear n0_)
      | (go_at_call 34; (with_reducible refine (NZ.out _ _ HS.out.r).chunks.mono ?_); rintro e w3 ⟨A_, cp_, rfl, hb⟩; have n0_ := Aside0.mk (HS.out.later hb); clear HS hb; have HS := n0_; clear n0_)
      | (go_at_call 29; (with_reducible refine (NN.out _).text.mono ?_); rintro e w3 ⟨rfl, hb⟩; have n0_ := Aside0.mk (HS.out.later hb); clear HS hb; have HS := n0_; clear n0_)
      | (go_at_call 29; (with_reducible refine (NZ.out _ _ HS.out.r).text.mono ?_); rintro e w3 ⟨rfl, hb⟩; have n0_ := Aside0.mk (HS.out.later hb); clear HS hb; have HS := n0_; clear n0_)
      | (go_at_call 35; (with_reducible refine (NN.out _).first.mono ?_); rintro e w3 ⟨rfl, hb⟩; have n0_ := Aside0.mk (HS.out.later hb); clear HS hb; have HS := n0_; clear n0_)
      | (go_at_call 35; (with_reducible refine (NZ.out _ _ HS.out.r).first.mono ?_); rintro e w3 ⟨rfl, hb⟩; have n0_ := Aside0.mk (HS.out.later hb); clear HS hb; have HS := n0_; clear n0_)
      | (go_at_call 36; (with_reducible refine (NN.out _).count.mono ?_); rintro e w3 ⟨rfl, hb⟩; have n0_ := Aside0.mk (HS.out.later hb); clear HS hb; have HS := n0_; clear n0_)
      | (go_at_call 36; (with_reducible refine (NZ.out _ _ HS.out.r).count.mono ?_); rintro e w3 ⟨rfl, hb⟩; have n0_ := Aside0.mk (HS.out.later hb); clear HS hb; have HS := n0_; clear n0_)
      | (go_at_call 32; (with_reducible refine (LA.out _).mono ?_); rintro e w4 ⟨a4, rfl, h⟩; have AR := Aside0.mk h.r; have n0_ := Aside0.mk (HS.out.later h.bel); clear HS h; have HS := n0_; clear n0_)
      | (go_at_call 27; (with_reducible refine (joinZ _ _ _ _ HS.out.r AR.out).mono ?_); rintro e w5 ⟨rfl, hb⟩; have n0_ := Aside0.mk (HS.out.later hb); clear HS hb AR; have HS := n0_; clear n0_)
      | (go_at_call 25; (with_reducible refine (upZ _ _ HS.out.r).mono ?_); rintro e w6 ⟨rfl, hb⟩; have n0_ := Aside0.mk (HS.out.later hb); clear HS hb; have HS := n0_; clear n0_)
      | (go_at_call 23; (with_reducible refine (lives_calls _).mono ?_); rintro e w7 ⟨rfl, hb⟩; have n0_ := Aside0.mk (HS.out.later hb); clear HS hb; have HS := n0_; clear n0_))
    go_ret
    exact ⟨by first | rfl | (simp; done), HS.out.bel⟩
  | false =>
    rw [hf] at HF HT
    have LS : Aside0 (∀ W, Calls Try.prog 32 #[.string s] W fun e w' => e = .returned (.pointer none) ∧ Below W.heap.size W w') := ⟨fun W => leaf_not W hf⟩
    clear hf
    go_enter Try.func8, Try.ntmps8
    go_wp2_with (first
      | ((with_reducible refine gate_dst (N := 4) rfl ?_); refine box_event ?hg (N := 4) ?hd (cs := #[.int .i64 0, .int .i64 0, .int .i64 0, .int .i64 0, .string ⟨#[]⟩, .slice none 0 0]) (t := 51) ?hr ?_; (case hd => rfl); (case hg => rfl); (case hr => first | (go_simp; done) | (go_simp; rfl)); intro gz hg w1 hbox hb; have HS : Aside0 (KS w w1 (some ⟨gz, 0, none⟩) zT) := ⟨⟨z_new hbox, below_step HB.out hb⟩⟩; clear hbox hb hg HB)
      | (go_at_call 32; (with_reducible refine (LS.out _).mono ?_); rintro e w2 ⟨rfl, hb⟩; have n0_ := Aside0.mk (HS.out.later hb); clear HS hb; have HS := n0_; clear n0_)
      | (go_at_call 29; (with_reducible refine (NN.out _).text.mono ?_); rintro e w2 ⟨rfl, hb⟩; have n0_ := Aside0.mk (HS.out.later hb); clear HS hb; have HS := n0_; clear n0_)
      | (go_at_call 17; (with_reducible refine (HF.out _).mono ?_); rintro e w3 ⟨rfl, hb⟩; have n0_ := Aside0.mk (HS.out.later hb); clear HS hb; have HS := n0_; clear n0_)
      | (go_at_call 33; (with_reducible refine (HT.out _).mono ?_); rintro e w3 ⟨rfl, hb⟩; have n0_ := Aside0.mk (HS.out.later hb); clear HS hb; have HS := n0_; clear n0_)
      | (go_at_call 26; (with_reducible refine (NN.out _).height.mono ?_); rintro e w3 ⟨rfl, rfl⟩)
      | (go_at_call 26; (with_reducible refine (NZ.out _ _ HS.out.r).height.mono ?_); rintro e w3 ⟨rfl, rfl⟩)
      | (go_at_call 30; (with_reducible refine (right_nil _).mono ?_); rintro e w3 ⟨rfl, rfl⟩)
      | (go_at_call 30; (with_reducible refine (right_none _ _ zT HS.out.r zT_none (by simp)).mono ?_); rintro e w3 ⟨rfl, rfl⟩)
      | (go_at_call 28; (with_reducible refine (NN.out _).kids.mono ?_); rintro e w3 ⟨rfl, hb⟩; have n0_ := Aside0.mk (HS.out.later hb); clear HS hb; have HS := n0_; clear n0_)
      | (go_at_call 28; (with_reducible refine (NZ.out _ _ HS.out.r).kids.mono ?_); rintro e w3 ⟨rfl, hb⟩; have n0_ := Aside0.mk (HS.out.later hb); clear HS hb; have HS := n0_; clear n0_)
      | (go_at_call 34; (with_reducible refine (NN.out _).chunks.mono ?_); rintro e w3 ⟨A_, cp_, rfl, hb⟩; have n0_ := Aside0.mk (HS.out.later hb); clear HS hb; have HS := n0_; clear n0_)
      | (go_at_call 34; (with_reducible refine (NZ.out _ _ HS.out.r).chunks.mono ?_); rintro e w3 ⟨A_, cp_, rfl, hb⟩; have n0_ := Aside0.mk (HS.out.later hb); clear HS hb; have HS := n0_; clear n0_)
      | (go_at_call 29; (with_reducible refine (NN.out _).text.mono ?_); rintro e w3 ⟨rfl, hb⟩; have n0_ := Aside0.mk (HS.out.later hb); clear HS hb; have HS := n0_; clear n0_)
      | (go_at_call 29; (with_reducible refine (NZ.out _ _ HS.out.r).text.mono ?_); rintro e w3 ⟨rfl, hb⟩; have n0_ := Aside0.mk (HS.out.later hb); clear HS hb; have HS := n0_; clear n0_)
      | (go_at_call 35; (with_reducible refine (NN.out _).first.mono ?_); rintro e w3 ⟨rfl, hb⟩; have n0_ := Aside0.mk (HS.out.later hb); clear HS hb; have HS := n0_; clear n0_)
      | (go_at_call 35; (with_reducible refine (NZ.out _ _ HS.out.r).first.mono ?_); rintro e w3 ⟨rfl, hb⟩; have n0_ := Aside0.mk (HS.out.later hb); clear HS hb; have HS := n0_; clear n0_)
      | (go_at_call 36; (with_reducible refine (NN.out _).count.mono ?_); rintro e w3 ⟨rfl, hb⟩; have n0_ := Aside0.mk (HS.out.later hb); clear HS hb; have HS := n0_; clear n0_)
      | (go_at_call 36; (with_reducible refine (NZ.out _ _ HS.out.r).count.mono ?_); rintro e w3 ⟨rfl, hb⟩; have n0_ := Aside0.mk (HS.out.later hb); clear HS hb; have HS := n0_; clear n0_)
      | (go_at_call 32; (with_reducible refine (LA.out _).mono ?_); rintro e w4 ⟨a4, rfl, h⟩; have AR := Aside0.mk h.r; have n0_ := Aside0.mk (HS.out.later h.bel); clear HS h; have HS := n0_; clear n0_)
      | (go_at_call 27; (with_reducible refine (joinZ _ _ _ _ HS.out.r AR.out).mono ?_); rintro e w5 ⟨rfl, hb⟩; have n0_ := Aside0.mk (HS.out.later hb); clear HS hb AR; have HS := n0_; clear n0_)
      | (go_at_call 25; (with_reducible refine (upZ _ _ HS.out.r).mono ?_); rintro e w6 ⟨rfl, hb⟩; have n0_ := Aside0.mk (HS.out.later hb); clear HS hb; have HS := n0_; clear n0_)
      | (go_at_call 23; (with_reducible refine (lives_calls _).mono ?_); rintro e w7 ⟨rfl, hb⟩; have n0_ := Aside0.mk (HS.out.later hb); clear HS hb; have HS := n0_; clear n0_))
    go_ret
    exact ⟨by first | rfl | (simp; done), HS.out.bel⟩
end Go.Proofs.Ytgkjagfdlhcgjaa.Ko
