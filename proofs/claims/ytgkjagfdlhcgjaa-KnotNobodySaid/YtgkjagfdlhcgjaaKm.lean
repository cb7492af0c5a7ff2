import Derived.Test.YtgkjagfdlhcgjaaKl
/- lives, and the tree over any chunks: the walks. -/
namespace Go.Proofs.Ytgkjagfdlhcgjaa.Km
open Go.RowKit Go.Proofs.Ytgkjagfdlhcgjaa.U Go.Proofs.Ytgkjagfdlhcgjaa.QK Go.Proofs.Ytgkjagfdlhcgjaa.Kt Go.Proofs.Ytgkjagfdlhcgjaa.Ka Go.Proofs.Ytgkjagfdlhcgjaa.Kb Go.Proofs.Ytgkjagfdlhcgjaa.Kc Go.Proofs.Ytgkjagfdlhcgjaa.Kd_ Go.Proofs.Ytgkjagfdlhcgjaa.Ke Go.Proofs.Ytgkjagfdlhcgjaa.Kf Go.Proofs.Ytgkjagfdlhcgjaa.Kg Go.Proofs.Ytgkjagfdlhcgjaa.Kh Go.Proofs.Ytgkjagfdlhcgjaa.Ki Go.Proofs.Ytgkjagfdlhcgjaa.Kj Go.Proofs.Ytgkjagfdlhcgjaa.Kk Go.Proofs.Ytgkjagfdlhcgjaa.Kl Go.Proofs.YtgkjagfdlhcgjaaW.PrintWords Go.Proofs.YtgkjagfdlhcgjaaW.PrintLast Go.Proofs.YtgkjagfdlhcgjaaW.PrintMore
set_option linter.unusedVariables false
set_option linter.unusedSimpArgs false
theorem Rp.all {w : World} {ok : Nat → Prop} {p : Option Addr} {t : Tr} (h : Rp w ok p t) : Rp w (fun _ => True) p t := h.mono fun _ _ => trivial
theorem row_ptr (W : World) (ps : List (Option Addr)) (hm : ps.length ≤ 1000) : kPtr.C (W.alloc (.cells (ps.map fun p => Value.pointer p).toArray 38)) (some ⟨W.heap.size, 0, none⟩) ps.length ps := by
  refine ⟨rfl, by omega, fun _ => ⟨_, rfl, fun j p hj => ⟨[.pointer p], rfl, rfl, fun i u hu => ?_⟩⟩⟩
  have hb := heap_alloc_new W (.cells (ps.map fun p => Value.pointer p).toArray 38)
  have hi : i = 0 := by
    rcases i with _ | i
    · rfl
    · simp at hu
  subst hi
  rw [add_plain]
  have sz : kPtr.sz = 1 := rfl
  rw [sz, Nat.mul_one, Nat.add_zero]
  refine (blk_cell hb j).trans ?_
  simp at hu
  subst hu
  simp [hj]
theorem two_ptr (W : World) (pa pb : Option Addr) (ta tb : Tr) (ha : Rd W pa ta) (hb : Rd W pb tb) : Rk (W.alloc (.cells #[.pointer pa, .pointer pb] 38)) (fun _ => True) (some ⟨W.heap.size, 0, none⟩) 2 [pa, pb] [ta, tb] := by
  refine ⟨row_ptr W [pa, pb] (by simp), rfl, fun j p t hp ht => ?_⟩
  have hbl := below_alloc (Below.refl W.heap.size W) (.cells #[.pointer pa, .pointer pb] 38)
  rcases j with _ | _ | j
  · simp at hp ht; subst hp; subst ht; exact Rp.all (ha.below hbl)
  · simp at hp ht; subst hp; subst ht; exact Rp.all (hb.below hbl)
  · simp at hp
theorem one_ptr (W : World) (pa : Option Addr) (ta : Tr) (ha : Rd W pa ta) : Rk (W.alloc (.cells #[.pointer pa] 38)) (fun _ => True) (some ⟨W.heap.size, 0, none⟩) 1 [pa] [ta] := by
  refine ⟨row_ptr W [pa] (by simp), rfl, fun j p t hp ht => ?_⟩
  have hbl := below_alloc (Below.refl W.heap.size W) (.cells #[.pointer pa] 38)
  rcases j with _ | j
  · simp at hp ht; subst hp; subst ht; exact Rp.all (ha.below hbl)
  · simp at hp
/-- a tree that is read -/
structure KS (w W : World) (p : Option Addr) (t : Tr) : Prop where
  r : Rd W p t
  bel : Below w.heap.size w W
theorem KS.later {w W W2 : World} {p : Option Addr} {t : Tr} (h : KS w W p t) (hb : Below W.heap.size W W2) : KS w W2 p t := ⟨h.r.below hb, below_step h.bel hb⟩
/-! ### lives -/
def sA : ByteArray := ⟨#[97]⟩
def sB : ByteArray := ⟨#[98]⟩
theorem fA : fits sA = true := by decide +kernel
theorem fB : fits sB = true := by decide +kernel
def tAB : Tr := joinT [leafT sA, leafT sB]
theorem lAB : Lv 0 [leafT sA, leafT sB] := by
  refine leafs_lv [sA, sB] (fun s hs => ?_) (by simp)
  rcases List.mem_cons.1 hs with rfl | hs
  · exact fA
  · rcases List.mem_cons.1 hs with rfl | hs
    · exact fB
    · cases hs
theorem tAB_chunks : chunks tAB = [sA, sB] := by
  unfold tAB
  rw [joinT_chunks (d := 0) (by simp), chunksL_cons, chunksL_cons, chunksL, leaf_chunks fA, leaf_chunks fB]; rfl
theorem tAB_cat : cat (chunks tAB) = ⟨#[97, 98]⟩ := by rw [tAB_chunks]; rfl
theorem tAB_fine : FineT tAB := by
  refine .join _ 0 (by simp) (by simp) lAB (by omega) (fun k hk => ?_)
  rcases List.mem_cons.1 hk with rfl | hk
  · exact leaf_good fA
  · rcases List.mem_cons.1 hk with rfl | hk
    · exact leaf_good fB
    · cases hk
theorem tAB_first : first tAB = sA := by
  obtain ⟨s, r, h1, h2⟩ := first_head tAB_fine
  rw [tAB_chunks] at h1
  rw [h2]; exact (List.cons.inj h1).1.symm
theorem tAB_height : tAB.height = 1 := by
  have h := joinT_e lAB (by simp)
  unfold Tr.height tAB
  rw [h.1, h.2.1]; rfl
theorem joinAB (W : World) (pa pb : Option Addr) (ha : Rd W pa (leafT sA)) (hb : Rd W pb (leafT sB)) : Calls Try.prog 27 #[.slice (some ⟨W.heap.size, 0, none⟩) 2 2] (W.alloc (.cells #[.pointer pa, .pointer pb] 38)) fun e w' => ∃ a : Nat, e = .returned (.pointer (some ⟨a, 0, none⟩)) ∧ KS W w' (some ⟨a, 0, none⟩) tAB :=
  (join_calls _ (fun _ => True) _ 2 2 _ _ (two_ptr W pa pb _ _ ha hb) (by omega) (by omega) lAB.even (lAB.sm (by omega))).mono fun e w' ⟨a, he, hp, hb⟩ => ⟨a, he, hp.rd, below_step (below_alloc (Below.refl _ _) _) hb⟩
theorem leafAt (W : World) (s : ByteArray) (h : fits s = true) : Calls Try.prog 32 #[.string s] W fun e w' => ∃ a : Nat, e = .returned (.pointer (some ⟨a, 0, none⟩)) ∧ KS W w' (some ⟨a, 0, none⟩) (leafT s) :=
  (leaf_at W h).mono fun e w' ⟨a, he, hp, hb⟩ => ⟨a, he, hp.rd, hb⟩
set_option maxHeartbeats 4000000 in
set_option maxRecDepth 100000 in
theorem lives_calls (w : World) : Calls Try.prog 23 #[] w fun e w' => e = .returned (.bool true) ∧ Below w.heap.size w w' := by
  have LA : Aside0 (∀ W, Calls Try.prog 32 #[.string ⟨#[97]⟩] W fun e w' => ∃ a : Nat, e = .returned (.pointer (some ⟨a, 0, none⟩)) ∧ KS W w' (some ⟨a, 0, none⟩) (leafT sA)) := ⟨fun W => leafAt W sA fA⟩
  have LB : Aside0 (∀ W, Calls Try.prog 32 #[.string ⟨#[98]⟩] W fun e w' => ∃ a : Nat, e = .returned (.pointer (some ⟨a, 0, none⟩)) ∧ KS W w' (some ⟨a, 0, none⟩) (leafT sB)) := ⟨fun W => leafAt W sB fB⟩
  have HH : Aside0 (∀ W p, Rd W p tAB → Calls Try.prog 26 #[.pointer p] W fun e w' => e = .returned (.int .i64 1) ∧ W = w') := ⟨fun W p h => by have := height_calls W p tAB h; rw [tAB_height] at this; exact this⟩
  have HX : Aside0 (∀ W p, Rd W p tAB → Calls Try.prog 29 #[.pointer p] W fun e w' => e = .returned (.string ⟨#[97, 98]⟩) ∧ Below W.heap.size W w') := ⟨fun W p h => by
    have := text_calls W p tAB h (by rw [tAB_chunks]; decide) (by rw [tAB_cat]; decide)
    rw [tAB_cat] at this; exact this⟩
  have HF : Aside0 (∀ W p, Rd W p tAB → Calls Try.prog 35 #[.pointer p] W fun e w' => e = .returned (.string ⟨#[97]⟩) ∧ Drawn0 W w') := ⟨fun W p h => by have := first_calls W p tAB h; rw [tAB_first] at this; exact this⟩
  go_enter Try.func23, Try.ntmps23
  go_wp2_with (first
    | (go_at_call 32; (with_reducible refine (LA.out _).mono ?_); rintro e w1 ⟨a, rfl, h⟩; have H1 := Aside0.mk h; clear h LA)
    | (go_at_call 32; (with_reducible refine (LB.out _).mono ?_); rintro e w2 ⟨b, rfl, h⟩; have H2 := Aside0.mk (And.intro h (H1.out.later h.bel)); clear h LB)
    | (go_at_call 27; (with_reducible refine (joinAB _ _ _ H2.out.2.r H2.out.1.r).mono ?_); rintro e w3 ⟨g, rfl, h⟩; have HS : Aside0 (KS w _ (some ⟨g, 0, none⟩) tAB) := ⟨⟨h.r, below_step H2.out.2.bel h.bel⟩⟩; clear h H2)
    | (go_at_call 26; (with_reducible refine (HH.out _ _ HS.out.r).mono ?_); rintro e w4 ⟨rfl, rfl⟩)
    | (go_at_call 29; (with_reducible refine (HX.out _ _ HS.out.r).mono ?_); rintro e w5 ⟨rfl, hb⟩; have n0_ := Aside0.mk (HS.out.later hb); clear HS hb; have HS := n0_; clear n0_)
    | (go_at_call 35; (with_reducible refine (HF.out _ _ HS.out.r).mono ?_); rintro e w6 ⟨rfl, hd⟩; have n0_ := Aside0.mk (HS.out.later hd.below); clear HS hd; have HS := n0_; clear n0_)
    | (go_at_call 30; (with_reducible refine (right_calls tAB_fine _ _ HS.out.r).mono ?_); rintro e w7 ⟨rfl, hb⟩; have n0_ := Aside0.mk (HS.out.later hb); clear HS hb; have HS := n0_; clear n0_))
  go_ret
  exact ⟨rfl, HS.out.bel⟩
end Go.Proofs.Ytgkjagfdlhcgjaa.Km
