import Derived.Test.YtdcnoiofimngpaaGl
/- Where lines begin, by the document: Starts, Line, Start, Row in plain words. -/
namespace Go.Proofs.Ytdcnoiofimngpaa.Gy
open Go.RowKit Go.Proofs.Ytdcnoiofimngpaa.U Go.Proofs.Ytdcnoiofimngpaa.QK Go.Proofs.Ytdcnoiofimngpaa.QS Go.Proofs.Ytdcnoiofimngpaa.Kt Go.Proofs.Ytdcnoiofimngpaa.Kh Go.Proofs.Ytdcnoiofimngpaa.Ki Go.Proofs.Ytdcnoiofimngpaa.Kj Go.Proofs.Ytdcnoiofimngpaa.Kk Go.Proofs.Ytdcnoiofimngpaa.Gs Go.Proofs.Ytdcnoiofimngpaa.Gd Go.Proofs.Ytdcnoiofimngpaa.Gt Go.Proofs.Ytdcnoiofimngpaa.Gr Go.Proofs.Ytdcnoiofimngpaa.Ge Go.Proofs.Ytdcnoiofimngpaa.Gq Go.Proofs.Ytdcnoiofimngpaa.Gn Go.Proofs.Ytdcnoiofimngpaa.Gl  Go.Proofs.YtdcnoiofimngpaaW.PrintWords Go.Proofs.YtdcnoiofimngpaaW.PrintLast Go.Proofs.YtdcnoiofimngpaaW.PrintMore
set_option linter.unusedVariables false
set_option linter.unusedSimpArgs false
theorem nl_iff : ∀ (l : List UInt8) (j x : Nat), j ≤ Sp.lines l → (nl l j ≤ x ↔ j ≤ Sp.lines (l.take x))
  | l, 0, x, h => by rw [nl_zero]; simp
  | [], j + 1, x, h => by simp [Sp.lines] at h
  | b :: l, j + 1, 0, h => by rw [nl_cons, List.take_zero]; simp [Sp.lines]
  | b :: l, j + 1, x + 1, h => by
    rw [nl_cons, List.take_succ_cons, Sp.lines]
    rw [Sp.lines] at h
    by_cases hb : b.toNat = 10
    · rw [if_pos hb] at h ⊢
      rw [if_pos hb]
      have := nl_iff l j x (by omega)
      omega
    · rw [if_neg hb] at h ⊢
      rw [if_neg hb]
      have := nl_iff l (j + 1) x (by omega)
      omega
theorem lines_take_le (l : List UInt8) (x : Nat) : Sp.lines (l.take x) ≤ Sp.lines l := by
  conv => rhs; rw [← List.take_append_drop x l, Sp.lines_append]
  omega
theorem nl_lines (l : List UInt8) (j : Nat) (h : j ≤ Sp.lines l) : Sp.lines (l.take (nl l j)) = j := by
  have h1 := (nl_iff l j (nl l j) h).mp (Nat.le_refl _)
  apply Decidable.byContradiction
  intro hc
  have h2 := lines_take_le l (nl l j)
  have h3 := (nl_iff l (j + 1) (nl l j) (by omega)).mpr (by omega)
  obtain ⟨s1, s2⟩ := nl_step l j (by omega)
  omega
theorem nl_mono (l : List UInt8) (j : Nat) (h : j < Sp.lines l) : nl l j < nl l (j + 1) := by
  obtain ⟨s1, s2⟩ := nl_step l j h
  omega
/-- how many lines stand ahead of a place of a line -/
theorem in_line (l : List UInt8) (j p : Nat) (h : j ≤ Sp.lines l) (h0 : nl l j ≤ p) (h1 : j < Sp.lines l → p < nl l (j + 1)) : Sp.lines (l.take p) = j := by
  have a := (nl_iff l j p h).mp h0
  have b := lines_take_le l p
  apply Decidable.byContradiction
  intro hc
  have := (nl_iff l (j + 1) p (by omega)).mpr (by omega)
  have := h1 (by omega)
  omega
theorem no_nl (l : List UInt8) (j p : Nat) (h : j ≤ Sp.lines l) (h0 : nl l j ≤ p) (h1 : j < Sp.lines l → p + 1 < nl l (j + 1)) (hp : p < l.length) : ¬ (l[p]'hp).toNat = 10 := by
  intro e
  have a := in_line l j p h h0 (fun q => by have := h1 q; omega)
  have b := in_line l j (p + 1) h (by omega) h1
  rw [Sp.lines_take l p hp, if_pos e] at b
  omega
theorem is_nl (l : List UInt8) (j : Nat) (h : j < Sp.lines l) : ∃ hp : nl l (j + 1) - 1 < l.length, (l[nl l (j + 1) - 1]'hp).toNat = 10 := by
  have m := nl_mono l j h
  have le := nl_le l (j + 1)
  have hp : nl l (j + 1) - 1 < l.length := by omega
  refine ⟨hp, ?_⟩
  have a := in_line l j (nl l (j + 1) - 1) (by omega) (by omega) (fun _ => by omega)
  have b := nl_lines l (j + 1) (by omega)
  apply Decidable.byContradiction
  intro e
  have c := Sp.lines_take l (nl l (j + 1) - 1) hp
  rw [if_neg e, show nl l (j + 1) - 1 + 1 = nl l (j + 1) by omega] at c
  omega
/-- where a line ends -/
def rowE (s : ByteArray) (j : Nat) : Nat := if j < Sp.lines (ld s) then nl (ld s) (j + 1) - 1 else s.size
/-- Row -/
def rowV (s : ByteArray) (x : Int) : ByteArray × Int := if x < 0 then (⟨#[]⟩, 3) else if kf 2 s + 1 ≤ x then (⟨#[]⟩, 3) else (s.extract (nl (ld s) x.toNat) (rowE s x.toNat), 0)
theorem rowE_le (s : ByteArray) (j : Nat) : nl (ld s) j ≤ rowE s j ∧ rowE s j ≤ s.size := by
  unfold rowE
  have h1 := nl_le (ld s) j
  have h2 := nl_le (ld s) (j + 1)
  rw [ld_len] at h1 h2
  split
  · have := nl_mono (ld s) j (by omega)
    omega
  · omega
end Go.Proofs.Ytdcnoiofimngpaa.Gy
/- Some bytes of a tree: part, Slice, Row: the walks. -/
namespace Go.Proofs.Ytdcnoiofimngpaa.Gp
open Go.RowKit Go.Proofs.Ytdcnoiofimngpaa.U Go.Proofs.Ytdcnoiofimngpaa.QK Go.Proofs.Ytdcnoiofimngpaa.QS Go.Proofs.Ytdcnoiofimngpaa.Kt Go.Proofs.Ytdcnoiofimngpaa.Ka Go.Proofs.Ytdcnoiofimngpaa.Kb Go.Proofs.Ytdcnoiofimngpaa.Kc Go.Proofs.Ytdcnoiofimngpaa.Kd_ Go.Proofs.Ytdcnoiofimngpaa.Ke Go.Proofs.Ytdcnoiofimngpaa.Kf Go.Proofs.Ytdcnoiofimngpaa.Kh Go.Proofs.Ytdcnoiofimngpaa.Ki Go.Proofs.Ytdcnoiofimngpaa.Kj Go.Proofs.Ytdcnoiofimngpaa.Kk Go.Proofs.Ytdcnoiofimngpaa.Gs Go.Proofs.Ytdcnoiofimngpaa.Gd Go.Proofs.Ytdcnoiofimngpaa.Gt Go.Proofs.Ytdcnoiofimngpaa.Gr Go.Proofs.Ytdcnoiofimngpaa.Ge Go.Proofs.Ytdcnoiofimngpaa.Gq Go.Proofs.Ytdcnoiofimngpaa.Gn Go.Proofs.Ytdcnoiofimngpaa.Gl Go.Proofs.Ytdcnoiofimngpaa.Gy Go.Proofs.YtdcnoiofimngpaaW.PrintWords Go.Proofs.YtdcnoiofimngpaaW.PrintLast Go.Proofs.YtdcnoiofimngpaaW.PrintMore
set_option linter.unusedVariables false
set_option linter.unusedSimpArgs false
attribute [local go_sem] max2_int min2_int max_two min_two
/-- the bytes from a place on up to another one -/
def seg (l : List UInt8) (a b : Int) : List UInt8 := (l.take b.toNat).drop a.toNat
theorem seg_app (l m : List UInt8) (a b : Int) : seg (l ++ m) a b = seg l a b ++ seg m (a - l.length) (b - l.length) := by
  unfold seg
  rw [List.take_append, List.drop_append]
  congr 1
  rw [List.length_take, show (b - (l.length : Int)).toNat = b.toNat - l.length by omega]
  by_cases h : b.toNat ≤ l.length
  · rw [show b.toNat - l.length = 0 by omega, List.take_zero, List.drop_nil, List.drop_nil]
  · congr 1
    omega
theorem seg_nil (a b : Int) : seg [] a b = [] := by unfold seg; rw [List.take_nil, List.drop_nil]
theorem seg_le (l : List UInt8) (a b : Int) : (seg l a b).length ≤ l.length := by unfold seg; rw [List.length_drop, List.length_take]; omega
theorem seg_clip (l : List UInt8) (a b : Int) : seg l a b = seg l (if a < 0 then 0 else a) (if (l.length : Int) < b then (l.length : Int) else b) := by
  unfold seg
  congr 1
  · split <;> omega
  · split
    · rw [List.take_of_length_le (by omega), List.take_of_length_le (by omega)]
    · rfl
theorem seg_none (l : List UInt8) (a b : Int) (h : b ≤ a) : seg l a b = [] := by
  unfold seg
  apply List.drop_eq_nil_of_le
  rw [List.length_take]
  omega
/-- bytes as numbers -/
def ints (l : List UInt8) : List Int := l.map fun b => (b.toNat : Int)
theorem ints_len (l : List UInt8) : (ints l).length = l.length := List.length_map _
theorem ints_app (l m : List UInt8) : ints (l ++ m) = ints l ++ ints m := List.map_append
theorem ints_of (s : ByteArray) : bytesOf s = ints (ld s) := rfl
theorem ints_str (l : List UInt8) : strOfNums (ints l) = ⟨l.toArray⟩ := by
  unfold strOfNums ints
  rw [List.map_map]
  congr 2
  conv => rhs; rw [← List.map_id l]
  apply List.map_congr_left
  intro b _
  simp
/-- no block but rows of bytes changes -/
def Not5 (W w' : World) : Prop := ∀ (k : Nat) cs t x, t ≠ 5 → W.heap[k]? = some (.cells cs t x) → w'.heap[k]? = some (.cells cs t x)
theorem Not5.refl (W : World) : Not5 W W := fun _ _ _ _ _ h => h
theorem Not5.trans {a b c : World} (h : Not5 a b) (k : Not5 b c) : Not5 a c := fun j cs t x ht hj => k j cs t x ht (h j cs t x ht hj)
theorem Not5.below {W w' : World} (h : Below W.heap.size W w') : Not5 W w' := fun k cs t x _ hk => (h.block k (blk_lt hk)).trans hk
theorem blk_lt' {w : World} {k : Nat} {o : Obj} (h : w.heap[k]? = some o) : k < w.heap.size := by
  rcases Nat.lt_or_ge k w.heap.size with h' | h'
  · exact h'
  · rw [Array.getElem?_eq_none h'] at h; cases h
theorem Not5.grown {W w' : World} {base n : Nat} {v : Value} {xs : List Value} (ho : W.ownsRow base 5 1 v n xs) (hg : W.grownBy w' v.ownBlock) : Not5 W w' := fun k cs t x ht hk => by
  refine (hg.block k (blk_lt' hk) ?_).trans hk
  intro e
  obtain ⟨cells, hc⟩ := own_typed ho k e.symm
  rw [hc] at hk
  injection hk with hk
  injection hk with _ h2 _
  exact ht h2.symm
theorem Not5.row {W w' : World} {base : Nat} {ok : Nat → Prop} {v : Value} {ps : List (Option Addr)} (h : Not5 W w') (hR : kPtr.R 73 W base ok v ps) : kPtr.R 73 w' base ok v ps :=
  Kd.R_mono (Kd.R_move (Kd.R_bound hR) (fun k hk => by
    obtain ⟨_, _, _, q, hq, cells, hc⟩ := hk
    have e : q = 73 := by simpa [kPtr, Kd.scalar] using hq
    subst e
    exact (h k cells 73 _ (by decide) hc).trans hc.symm)) (fun _ hk => hk.1)
def PartPost (w0 W : World) (xs : List Int) (e : Ending) (w' : World) : Prop := ∃ v, e = .returned v ∧ w'.ownsRow w0.heap.size 5 1 v xs.length (nums .u8 xs) ∧ Below w0.heap.size w0 w' ∧ Not5 W w'
theorem infoB : (Try.prog.info? 5).map (fun i => (i.zero, i.size, i.bytes)) = some (some (.int .u8 0), 1, 1) := by kernel_rfl
theorem fine_height {t : Tr} (h : FineT t) : 0 ≤ t.height := by
  have hn := fine_none h
  cases h with
  | leaf s r l hf ho => unfold Tr.height; rw [hn]; exact Int.le_refl _
  | join kids d h2 h8 hl hd hk =>
    unfold Tr.height
    rw [hn]
    have := (joinT_e hl (by omega)).2.1
    have := hl.d0
    simp only [Bool.false_eq_true, if_false]
    omega
theorem kt0 (l : List ByteArray) : kt 0 l = ((ld (cat l)).length : Int) := by rw [kt_cat, kf0, ld_len]
theorem kt_take_le (ks : List Tr) (i : Nat) : kt 0 (chunksL (ks.take i)) ≤ kt 0 (chunksL ks) := by
  conv => rhs; rw [← List.take_append_drop i ks, chunksL_eq, List.map_append, List.flatten_append, ← chunksL_eq, ← chunksL_eq, kt_app]
  have := kt_nonneg 0 (chunksL (ks.drop i))
  omega
set_option maxHeartbeats 8000000 in
set_option maxRecDepth 100000 in
theorem part_calls (n : Nat) : ∀ (t : Tr), SizeOf.sizeOf t < n → (t = .nil ∨ FineT t) → ∀ (w0 W : World) (p : Option Addr) (v : Value) (xs : List Int) (a b : Int), Rd w0 p t → Below w0.heap.size w0 W → W.ownsRow w0.heap.size 5 1 v xs.length (nums .u8 xs) → (-10000 ≤ a ∧ a ≤ 10000 ∧ -10000 ≤ b ∧ b ≤ 10000 ∧ kt 0 (chunks t) ≤ 5000 ∧ xs.length + kt 0 (chunks t) ≤ 100000) →
    Calls Try.prog 93 #[v, .pointer p, .int .i64 a, .int .i64 b] W (PartPost w0 W (xs ++ ints (seg (ld (cat (chunks t))) a b))) := by
  induction n with
  | zero => intro t ht; omega
  | succ n ih =>
    intro t ht hF w0 W p v xs a b H hB hO hm
    have hu91 := Try.underlying91
    have hc : Calls Try.prog 82 #[.pointer p] W fun e w' => e = .returned (.agg #[.int .i64 (kt 0 (chunks t)), .int .i64 (kt 1 (chunks t)), .int .i64 (kt 2 (chunks t))]) ∧ Below W.heap.size W w' := by
      rcases hF with e | hf
      · subst e
        have ec : chunks .nil = [] := by rw [chunks]
        rw [ec]
        exact (count_calls W p .nil (H.below hB)).mono fun e w' ⟨h1, h2⟩ => ⟨by rw [h1]; rfl, h2⟩
      · exact count_fine w0 W p t H hB hf
    have HC := Aside0.mk hc
    have hcl := seg_clip (ld (cat (chunks t))) a b
    rw [← kt0] at hcl
    have k0 := kt_nonneg 0 (chunks t)
    have hAB : -10000 ≤ (if a < 0 then 0 else a) ∧ (if a < 0 then 0 else a) ≤ 10000 ∧ 0 ≤ (if a < 0 then 0 else a) ∧ (if kt 0 (chunks t) < b then kt 0 (chunks t) else b) ≤ kt 0 (chunks t) ∧ -10000 ≤ (if kt 0 (chunks t) < b then kt 0 (chunks t) else b) := by
      refine ⟨?_, ?_, ?_, ?_, ?_⟩ <;> split <;> omega
    obtain ⟨A, hA⟩ : ∃ A, (if a < 0 then 0 else a) = A := ⟨_, rfl⟩
    obtain ⟨B, hBd⟩ : ∃ B, (if kt 0 (chunks t) < b then kt 0 (chunks t) else b) = B := ⟨_, rfl⟩
    rw [hA, hBd] at hAB hcl
    rw [hcl]
    by_cases c1 : B ≤ A
    · have c1b : decide (B ≤ A) = true := decide_eq_true c1
      rw [seg_none _ _ _ c1]
      rw [show xs ++ ints [] = xs by simp [ints]]
      have HO := Aside0.mk hO
      have HB := Aside0.mk hB
      clear H hB hO hm ih ht hF hc k0 hAB hcl c1
      go_enter Try.func93, Try.ntmps93
      go_wp2_with (first | (go_at_call 82; (with_reducible refine HC.out.mono ?_); rintro e w3 ⟨rfl, hb⟩; have HN := Aside0.mk hb; clear hb) | (rw [field91]; go_simp))
      go_ret
      exact ⟨v, rfl, pw_own_below HO.out HN.out, HB.out.trans (HN.out.mono HB.out.size), Not5.below HN.out⟩
    · have c1b : decide (B ≤ A) = false := decide_eq_false c1
      rcases hF with e | hf
      · subst e
        exfalso
        have ec : chunks .nil = [] := by rw [chunks]
        rw [ec, kt_nil] at hAB
        omega
      have hHE := height_calls
      have HHE : Aside0 (∀ W', Below W.heap.size W W' → Calls Try.prog 83 #[.pointer p] W' fun e w' => e = .returned (.int .i64 t.height) ∧ W' = w') := ⟨fun W' hb => height_calls W' p t (H.below (hB.trans (hb.mono hB.size)))⟩
      have HB := Aside0.mk hB
      have HO := Aside0.mk hO
      have HAB : Aside0 (-10000 ≤ A ∧ A ≤ 10000 ∧ 0 ≤ A ∧ B ≤ kt 0 (chunks t) ∧ -10000 ≤ B ∧ A < B ∧ kt 0 (chunks t) ≤ 5000 ∧ xs.length + kt 0 (chunks t) ≤ 100000) := ⟨by omega⟩
      by_cases ch : 0 < t.height
      · have chb : (t.height == 0) = false := beq_eq_false_iff_ne.mpr (by omega)
        obtain ⟨hn, h2, h8, hk, hch⟩ := at_join (.inr hf) ch
        obtain ⟨ks, hks⟩ : ∃ ks, t.kids = ks := ⟨_, rfl⟩
        have HKI : Aside0 (∀ W', Below W.heap.size W W' → Calls Try.prog 84 #[.pointer p] W' (Kids3 w0 W' t.kids)) := ⟨fun W' hb => kids3_calls w0 W' p t H (hB.trans (hb.mono hB.size)) hn (by omega) (by omega)⟩
        rw [hks] at h2 h8 hk hch HKI
        rw [hch] at HC HAB hBd ⊢
        have HKF := Aside0.mk hk
        have IH := Aside0.mk ih
        have HT : Aside0 (∀ k, k ∈ ks → SizeOf.sizeOf k < n) := ⟨fun k hk2 => by have := (hk k hk2).2; omega⟩
        have HK8 : Aside0 (2 ≤ ks.length ∧ ks.length ≤ 8) := ⟨h2, h8⟩
        have HN : Aside0 (Below W.heap.size W W) := ⟨Below.refl _ _⟩
        clear H hB hO hm ih ht hf hc k0 hAB hcl c1 ch hn h2 h8 hk hch hks hHE
        go_enter Try.func93, Try.ntmps93
        go_wp2_with (first
          | (go_at_call 82; (with_reducible refine HC.out.mono ?_); rintro e w3 ⟨rfl, hb⟩; have HN2 := Aside0.mk (below_step HN.out hb); clear HN hb; have HN := HN2; clear HN2)
          | (rw [field91]; go_simp)
          | (go_at_call 83; (with_reducible refine (HHE.out _ HN.out).mono ?_); rintro e wh ⟨rfl, rfl⟩)
          | (go_at_call 84; (with_reducible refine (HKI.out _ HN.out).mono ?_); rintro e wk ⟨AK, cp, ps, rfl, hcp, hpl, hrow, hrd, hb⟩; have HPL := Aside0.mk hpl; have HW := Aside0.mk (Kd.R_mono (ok' := fun _ => True) (Kd.R_lower hrow (Nat.zero_le _)) (fun _ _ => trivial)); have HRD := Aside0.mk hrd; have HN2 := Aside0.mk (below_step HN.out hb); clear HN hb hcp hpl hrow hrd HKI; have HN := HN2; clear HN2; have HB2 := Aside0.mk (HB.out.trans (HN.out.mono HB.out.size)); have HO2 := Aside0.mk (pw_own_below HO.out HN.out); have H52 := Aside0.mk (Not5.below HN.out); clear HB HO HN; have HB := HB2; have HO := HO2; have H5 := H52; clear HB2 HO2 H52))
        go_loopg [0, 2, 3, 38] (ks.length + 1) (fun kq v0 v2 v3 v38 w' => ∃ (x a' b' : Int) (ys : List Int) (out : Value), out = v0 ∧ v2 = .int .i64 a' ∧ v3 = .int .i64 b' ∧ v38 = .int .i64 x ∧ Aside0 (0 ≤ x ∧ x ≤ ks.length ∧ x + kq = ks.length + 1) ∧ Aside0 (ys = xs ++ ints (seg (ld (cat (chunksL (ks.take x.toNat)))) A B) ∧ a' = A - kt 0 (chunksL (ks.take x.toNat)) ∧ b' = B - kt 0 (chunksL (ks.take x.toNat))) ∧ Aside0 (w'.ownsRow w0.heap.size 5 1 v0 ys.length (nums .u8 ys)) ∧ Aside0 (Below w0.heap.size w0 w') ∧ Aside0 (Not5 W w') ∧ Aside0 (kPtr.R 73 w' 0 (fun _ => True) (.slice AK ks.length cp) ps))
        case atStart => exact ⟨0, A, B, xs, _, rfl, rfl, rfl, rfl, ⟨by have := HK8.out; omega⟩, ⟨by rw [show (0 : Int).toNat = 0 from rfl, List.take_zero, chunksL, kt_nil, show ld (cat []) = [] from rfl, seg_nil]; simp [ints]⟩, HO, HB, H5, HW⟩
        case round =>
          clear HO HB H5 HW
          obtain ⟨x, a', b', ys, out, rfl, rfl, rfl, rfl, HX, HS, HO, HB, H5, HW⟩ := hrel
          obtain ⟨k2, rfl⟩ : ∃ k2, gk = k2 + 1 := ⟨gk - 1, by have := HX.out; omega⟩
          have p0 : 0 ≤ x := HX.out.1
          by_cases cx : x < (ks.length : Int)
          · have cxb : decide (x < (ks.length : Int)) = true := decide_eq_true cx
            obtain ⟨ad0, q0, hx0⟩ := at_ptr (n := ks.length) (by have h := (Kd.R_reads' HW.out).2.2; rw [HPL.out] at h; exact h) x p0 cx
            subst q0
            have HRK : Aside0 (Rd w0 (rdOf none ps x) (rdT ks x)) := ⟨HRD.out x.toNat _ _ (by unfold rdOf; rw [List.getD_eq_getElem?_getD, List.getElem?_eq_getElem (by have := HPL.out; omega)]; rfl) (by unfold rdT; rw [List.getD_eq_getElem?_getD, List.getElem?_eq_getElem (by omega)]; rfl)⟩
            have hmem := rdT_mem ks x p0 cx
            obtain ⟨hfk, hsz⟩ := HKF.out _ hmem
            have hst := HT.out _ hmem
            have hnx := chunksL_next ks x.toNat (by omega)
            rw [show rdT ks ((x.toNat : Nat) : Int) = rdT ks x by unfold rdT; rw [Int.toNat_natCast]] at hnx
            have htl := kt_take_le ks (x.toNat + 1)
            rw [hnx, kt_app] at htl
            have hsl := seg_le (ld (cat (chunksL (ks.take x.toNat)))) A B
            have hkt := kt0 (chunksL (ks.take x.toNat))
            have hn1 := kt_nonneg 0 (chunksL (ks.take x.toNat))
            have hn2 := kt_nonneg 0 (chunks (rdT ks x))
            have hbd : -10000 ≤ a' ∧ a' ≤ 10000 ∧ -10000 ≤ b' ∧ b' ≤ 10000 ∧ kt 0 (chunks (rdT ks x)) ≤ 5000 ∧ ys.length + kt 0 (chunks (rdT ks x)) ≤ 100000 := by
              have h1 := HAB.out
              obtain ⟨h2, h3, h4⟩ := HS.out
              have h5 : ys.length ≤ xs.length + (ld (cat (chunksL (ks.take x.toNat)))).length := by
                rw [h2, List.length_append, ints_len]; omega
              omega
            have HG := Aside0.mk (IH.out _ hst (.inr hfk) w0 wr _ out ys a' b' HRK.out HB.out HO.out hbd)
            have HCO : Aside0 (∀ W', Below w0.heap.size w0 W' → Calls Try.prog 82 #[.pointer (rdOf none ps x)] W' fun e w' => e = .returned (.agg #[.int .i64 (kt 0 (chunks (rdT ks x))), .int .i64 (kt 1 (chunks (rdT ks x))), .int .i64 (kt 2 (chunks (rdT ks x)))]) ∧ Below W'.heap.size W' w') := ⟨fun W' hb => count_fine w0 W' _ _ HRK.out hb hfk⟩
            have HNX : Aside0 (chunksL (ks.take (x.toNat + 1)) = chunksL (ks.take x.toNat) ++ chunks (rdT ks x)) := ⟨hnx⟩
            have HX2 : Aside0 (0 ≤ x ∧ x < ks.length ∧ 0 ≤ kt 0 (chunks (rdT ks x)) ∧ kt 0 (chunks (rdT ks x)) ≤ 5000 ∧ -10000 ≤ a' ∧ a' ≤ 10000 ∧ -10000 ≤ b' ∧ b' ≤ 10000) := ⟨by omega⟩
            clear hmem hfk hsz hst hnx htl hsl hkt hn1 hn2 hbd
            generalize rdT ks x = kid at HRK HG HCO HNX HX2
            generalize rdOf none ps x = qk at hx0 HRK HG HCO
            have p0c := eq_true p0
            have cxc := eq_true cx
            clear p0 cx
            go_wp2_with (first
              | (go_at_call 93; (with_reducible refine HG.out.mono ?_); rintro e w3 ⟨v1, rfl, ho, hb, hn⟩; have HO2 := Aside0.mk ho; have HB2 := Aside0.mk hb; have H52 := Aside0.mk (H5.out.trans hn); have HW2 := Aside0.mk (hn.row HW.out); clear ho hb hn HG HO HB H5 HW hx0; have HO := HO2; have HB := HB2; have H5 := H52; have HW := HW2; clear HO2 HB2 H52 HW2)
              | (go_at_call 82; (with_reducible refine (HCO.out _ HB.out).mono ?_); rintro e w4 ⟨rfl, hb⟩; have HO2 := Aside0.mk (pw_own_below HO.out hb); have HB2 := Aside0.mk (HB.out.trans (hb.mono HB.out.size)); have H52 := Aside0.mk (H5.out.trans (Not5.below hb)); have HW2 := Aside0.mk (Kd.R_below HW.out hb); clear hb HO HB H5 HW; have HO := HO2; have HB := HB2; have H5 := H52; have HW := HW2; clear HO2 HB2 H52 HW2)
              | (rw [field91]; go_simp))
            go_roundg k2
            case measure => omega
            case rel =>
              refine ⟨wrap64 (x + 1), wrap64 (a' - kt 0 (chunks kid)), wrap64 (b' - kt 0 (chunks kid)), _, _, rfl, rfl, rfl, (by first | rfl | (simp; done)), ⟨by have := HX.out; have := HX2.out; have := HK8.out; unfold wrap64; omega⟩, ⟨?_⟩, HO, HB, H5, HW⟩
              have e1 : (wrap64 (x + 1)).toNat = x.toNat + 1 := by have := HX2.out; have := HK8.out; unfold wrap64; omega
              have e2 : wrap64 (a' - kt 0 (chunks kid)) = a' - kt 0 (chunks kid) := by have := HX2.out; unfold wrap64; omega
              have e3 : wrap64 (b' - kt 0 (chunks kid)) = b' - kt 0 (chunks kid) := by have := HX2.out; unfold wrap64; omega
              obtain ⟨s1, s2, s3⟩ := HS.out
              rw [e1, e2, e3, HNX.out, kt_app, Gc.cat_app, Gc.ld_app, seg_app, ← kt0, ← s2, ← s3, ints_app, s1, List.append_assoc]
              exact ⟨rfl, by omega, by omega⟩
          · have cxb : decide (x < (ks.length : Int)) = false := decide_eq_false cx
            have e := HS.out.1
            rw [List.take_of_length_le (by omega)] at e
            have HE := Aside0.mk e
            clear p0 cx e
            go_wp2
            go_ret
            rw [← HE.out]
            exact ⟨_, rfl, HO.out, HB.out, H5.out⟩
      · have chb : (t.height == 0) = true := beq_iff_eq.mpr (by have := fine_height hf; omega)
        obtain ⟨hpk, hsz, hln⟩ := at_leaf 0 0 (.inr hf) ch
        have HTX : Aside0 (∀ W', Below W.heap.size W W' → Calls Try.prog 86 #[.pointer p] W' fun e w' => e = .returned (.string (cat (chunks t))) ∧ Below W'.heap.size W' w') := ⟨fun W' hb => text_calls W' p t (H.below (hB.trans (hb.mono hB.size))) (by omega) (by omega)⟩
        have hsz2 : kt 0 (chunks t) = ((cat (chunks t)).size : Int) := by rw [kt_cat, kf0]
        rw [hsz2] at HAB
        have q0 : 0 ≤ A := HAB.out.2.2.1
        have q1 : A ≤ B := by have := HAB.out; omega
        have q2 : B ≤ ((cat (chunks t)).size : Int) := HAB.out.2.2.2.1
        have q3 : 0 ≤ B := by omega
        have q0c := eq_true q0
        have q1c := eq_true q1
        have q2c := eq_true q2
        have q3c := eq_true q3
        have d0 : decide (0 ≤ A) = true := decide_eq_true q0
        have d1 : decide (A ≤ B) = true := decide_eq_true q1
        have d2 : decide (B ≤ ((cat (chunks t)).size : Int)) = true := decide_eq_true q2
        generalize cat (chunks t) = txt at *
        clear H hB hO hm ih ht hf hc k0 hAB hcl c1 ch hpk hsz hln hsz2 hHE
        have HN : Aside0 (Below W.heap.size W W) := ⟨Below.refl _ _⟩
        go_enter Try.func93, Try.ntmps93
        go_wp2_with (first
          | (go_at_call 82; (with_reducible refine HC.out.mono ?_); rintro e w3 ⟨rfl, hb⟩; have HN2 := Aside0.mk (below_step HN.out hb); clear HN hb; have HN := HN2; clear HN2)
          | (rw [field91]; go_simp)
          | (go_at_call 83; (with_reducible refine (HHE.out _ HN.out).mono ?_); rintro e wh ⟨rfl, rfl⟩)
          | (go_at_call 86; (with_reducible refine (HTX.out _ HN.out).mono ?_); rintro e w3 ⟨rfl, hb⟩; have HN2 := Aside0.mk (below_step HN.out hb); clear HN hb; have HN := HN2; clear HN2)
          | ((with_reducible refine gate_builtin (b := .append) (xs := #[.tmp 28, .tmp 33]) rfl ?_); at_builtin; refine print_append_str (w0 := w0) w0.heap.size rfl (.tmp 28) (.tmp 33) 120 9 5 rfl Try.underlying120 Try.underlying9 infoB v xs _ rfl rfl (pw_own_below HO.out HN.out) (HB.out.trans (HN.out.mono HB.out.size)) (HB.out.trans (HN.out.mono HB.out.size)).size ?hl ?_; (case hl => (rw [ByteArray.size_extract]; have := HAB.out; omega)); intro v1 w1 ho hb hg; have HO2 := Aside0.mk ho; have HB2 := Aside0.mk hb; have HG2 := Aside0.mk (Not5.grown (pw_own_below HO.out HN.out) hg); clear ho hb hg))
        go_ret
        have e : ints (seg (ld txt) A B) = bytesOf (txt.extract A.toNat B.toNat) := by
          rw [ints_of, Gc.ld_extract, List.extract_eq_take_drop]; unfold seg; rw [List.drop_take]
        rw [e]
        exact ⟨v1, rfl, HO2.out, HB2.out, (Not5.below HN.out).trans HG2.out⟩
variable {w0 : World} {g : Nat} {p : Option Addr} {t : Tr} {C : List ByteArray}
theorem seg_of (s : ByteArray) (a b : Nat) : (⟨(seg (ld s) a b).toArray⟩ : ByteArray) = s.extract a b := by
  apply ld_ext
  rw [Gc.ld_extract]
  unfold seg
  rw [List.extract_eq_take_drop, Int.toNat_natCast, Int.toNat_natCast, ← List.drop_take]
set_option maxHeartbeats 2000000 in
theorem slice_calls (h : Rope w0 g p t C) {w : World} (hb : Below w0.heap.size w0 w) (x k : Nat) (hx : x + k ≤ (cat C).size) : Calls Try.prog 70 #[.pointer (some ⟨g, 0, none⟩), .int .i64 x, .int .i64 k] w fun e w' => e = .returned (.tuple #[.string ((cat C).extract x (x + k)), .int .i64 0]) ∧ Below w.heap.size w w' := by
  have hs := h.s 0
  rw [kt_cat, kf0] at hs
  have hi : inside (kt 0 C) x k = true := by
    unfold inside
    rw [kt_cat, kf0, decide_eq_true (show (0 : Int) ≤ x by omega), decide_eq_true (show (0 : Int) ≤ k by omega), decide_eq_true (show (x : Int) ≤ (cat C).size by omega), decide_eq_true (show (k : Int) ≤ (cat C).size - x by omega)]
    rfl
  have hw := h.within hb x k
  rw [hi] at hw
  have HW := Aside0.mk hw
  have HR : Aside0 (∀ W, Below w.heap.size w W → Calls Try.prog 62 #[.pointer (some ⟨g, 0, none⟩)] W fun e w' => e = .returned (.pointer p) ∧ W = w') := ⟨fun W h2 => h.root (below_step hb h2)⟩
  have HP : Aside0 (∀ W, Below w.heap.size w W → Calls Try.prog 93 #[.slice none 0 0, .pointer p, .int .i64 x, .int .i64 (wrap64 ((x : Int) + k))] W (PartPost w W (ints (seg (ld (cat C)) x (x + k : Nat))))) := ⟨fun W h2 => by
    have := part_calls (SizeOf.sizeOf t + 1) t (by omega) h.f w W p (.slice none 0 0) [] x (wrap64 ((x : Int) + k)) (h.d.below hb) h2 ⟨rfl, .inl ⟨rfl, rfl⟩⟩ (by
      rw [h.c, kt_cat, kf0]
      simp only [List.length_nil]
      unfold wrap64
      omega)
    rw [h.c, List.nil_append, show wrap64 ((x : Int) + k) = ((x + k : Nat) : Int) by unfold wrap64; omega] at this
    rw [show wrap64 ((x : Int) + k) = ((x + k : Nat) : Int) by unfold wrap64; omega]
    exact this⟩
  have HC : Aside0 (Below w0.heap.size w0 w) := ⟨hb⟩
  clear h hb hs hi hw hx
  go_enter Try.func70, Try.ntmps70
  go_wp2_with (first
    | (go_at_call 92; (with_reducible refine HW.out.mono ?_); rintro e w3 ⟨rfl, hb⟩; have HB := Aside0.mk hb; clear hb)
    | (go_at_call 62; (with_reducible refine (HR.out _ HB.out).mono ?_); rintro e w' ⟨rfl, rfl⟩)
    | (go_at_call 93; (with_reducible refine (HP.out _ HB.out).mono ?_); rintro e w4 ⟨v, rfl, ho, hb, hn⟩; have hcv := own_string (P := Try.prog) (src := 120) (dst := 9) (e := 5) Try.underlying120 Try.underlying5 Try.underlying9 ho; have HB4 := Aside0.mk hb; clear hb hn ho)
    | (rw [hcv]; go_simp))
  go_ret2
  have e : strOfNums (ints (seg (ld (cat C)) (x : Int) ((x : Int) + (k : Int)))) = (cat C).extract x (x + k) := by
    rw [show (x : Int) + (k : Int) = ((x + k : Nat) : Int) by omega, ints_str, seg_of]
  exact ⟨by rw [← e]; rfl, HB4.out⟩
set_option maxHeartbeats 4000000 in
set_option maxRecDepth 100000 in
theorem row_calls (h : Rope w0 g p t C) {w : World} (hb : Below w0.heap.size w0 w) (n : Int) : Calls Try.prog 45 #[.pointer (some ⟨g, 0, none⟩), .int .i64 n] w fun e w' => e = .returned (.tuple #[.string (rowV (cat C) n).1, .int .i64 (rowV (cat C) n).2]) ∧ Below w.heap.size w w' := by
  have hst := start_calls h hb n
  unfold startV at hst
  unfold rowV
  by_cases c1 : n < 0
  · rw [if_pos c1] at hst
    rw [if_pos c1]
    have HS := Aside0.mk hst
    clear h hb c1 hst
    go_enter Try.func45, Try.ntmps45
    go_wp2_with (go_at_call 43; (with_reducible refine HS.out.mono ?_); rintro e w3 ⟨rfl, hb⟩; have HB := Aside0.mk hb; clear hb)
    go_ret2
    exact ⟨rfl, HB.out⟩
  · rw [if_neg c1] at hst
    rw [if_neg c1]
    by_cases c2 : kf 2 (cat C) + 1 ≤ n
    · rw [if_pos c2] at hst
      rw [if_pos c2]
      have HS := Aside0.mk hst
      clear h hb c1 c2 hst
      go_enter Try.func45, Try.ntmps45
      go_wp2_with (go_at_call 43; (with_reducible refine HS.out.mono ?_); rintro e w3 ⟨rfl, hb⟩; have HB := Aside0.mk hb; clear hb)
      go_ret2
      exact ⟨rfl, HB.out⟩
    · rw [if_neg c2] at hst
      rw [if_neg c2]
      have hs := h.s 0
      rw [kt_cat, kf0] at hs
      obtain ⟨l1, l2⟩ := rowE_le (cat C) n.toNat
      obtain ⟨a, ha⟩ : ∃ a, nl (ld (cat C)) n.toNat = a := ⟨_, rfl⟩
      obtain ⟨b, hbb⟩ : ∃ b, rowE (cat C) n.toNat = b := ⟨_, rfl⟩
      have hk2 := kf2 (cat C)
      have hl2 := kf_le 2 (cat C)
      have hnl := nl_le (ld (cat C)) (n.toNat + 1)
      rw [ld_len] at hnl
      have hsl : ∀ W, Below w.heap.size w W → Calls Try.prog 70 #[.pointer (some ⟨g, 0, none⟩), .int .i64 a, .int .i64 ((b : Int) - a)] W fun e w' => e = .returned (.tuple #[.string ((cat C).extract a b), .int .i64 0]) ∧ Below W.heap.size W w' := fun W h2 => by
        have := slice_calls h (below_step hb h2) a (b - a) (by omega)
        rw [show ((b - a : Nat) : Int) = (b : Int) - a by omega, show a + (b - a) = b by omega] at this
        exact this
      have HSL := Aside0.mk hsl
      have HLE : Aside0 (∀ W, Below w.heap.size w W → Calls Try.prog 69 #[.pointer (some ⟨g, 0, none⟩)] W fun e w' => e = .returned (.int .i64 (kt 0 C)) ∧ Below W.heap.size W w') := ⟨fun W h2 => h.len (below_step hb h2)⟩
      have hs2 : ∀ W, Below w.heap.size w W → Calls Try.prog 43 #[.pointer (some ⟨g, 0, none⟩), .int .i64 (n + 1)] W fun e w' => e = .returned (.tuple #[.int .i64 (startV (cat C) (n + 1)).1, .int .i64 (startV (cat C) (n + 1)).2]) ∧ Below W.heap.size W w' := fun W h2 => start_calls h (below_step hb h2) (n + 1)
      unfold startV at hs2
      rw [if_neg (show ¬ n + 1 < 0 by omega)] at hs2
      have wn : wrap64 (n + 1) = n + 1 := by unfold wrap64; omega
      rw [← wn] at hs2
      have HW : Aside0 (wrap64 ((b : Int) - a) = (b : Int) - a) := ⟨by unfold wrap64; omega⟩
      have HWN := Aside0.mk wn
      rw [ha] at hst ⊢
      rw [hbb]
      have HS := Aside0.mk hst
      by_cases c3 : kf 2 (cat C) + 1 ≤ n + 1
      · rw [← wn] at c3
        rw [if_pos c3] at hs2
        have HS2 := Aside0.mk hs2
        have hb2 : kt 0 C = (b : Int) := by
          rw [kt_cat, kf0, ← hbb]
          unfold rowE
          rw [if_neg (by omega)]
        rw [hb2] at HLE
        rw [← HW.out] at HSL
        clear h hb c1 c2 c3 hst hs l1 l2 ha hbb hk2 hl2 hnl hsl hs2 wn hb2 HW
        go_enter Try.func45, Try.ntmps45
        go_wp2_with (first
          | (go_at_call 43; (with_reducible refine HS.out.mono ?_); rintro e w3 ⟨rfl, hb⟩; have HB := Aside0.mk hb; clear hb HS)
          | (go_at_call 43; (with_reducible refine (HS2.out _ HB.out).mono ?_); rintro e w3 ⟨rfl, hb⟩; have HB2 := Aside0.mk (below_step HB.out hb); clear hb HB; have HB := HB2; clear HB2)
          | (go_at_call 69; (with_reducible refine (HLE.out _ HB.out).mono ?_); rintro e w3 ⟨rfl, hb⟩; have HB2 := Aside0.mk (below_step HB.out hb); clear hb HB; have HB := HB2; clear HB2)
          | (go_at_call 70; (with_reducible refine (HSL.out _ HB.out).mono ?_); rintro e w3 ⟨rfl, hb⟩; have HB2 := Aside0.mk (below_step HB.out hb); clear hb HB; have HB := HB2; clear HB2))
        go_ret2
        exact ⟨rfl, HB.out⟩
      · rw [← wn] at c3
        rw [if_neg c3, wn] at hs2
        rw [wn] at c3
        have hm := nl_mono (ld (cat C)) n.toNat (by omega)
        have hb2 : wrap64 (((nl (ld (cat C)) (n + 1).toNat : Nat) : Int) - 1) = (b : Int) := by
          rw [show (n + 1).toNat = n.toNat + 1 by omega, ← hbb]
          unfold rowE
          rw [if_pos (by omega)]
          unfold wrap64; omega
        obtain ⟨N1, hN1⟩ : ∃ N1, ((nl (ld (cat C)) (n + 1).toNat : Nat) : Int) = N1 := ⟨_, rfl⟩
        rw [hN1] at hb2 hs2
        rw [← wn] at hs2
        have HS2 := Aside0.mk hs2
        rw [← HW.out, ← hb2] at HSL
        clear h hb c1 c2 c3 hst hs l1 l2 ha hbb hk2 hl2 hnl hsl hs2 wn hb2 HW hm hN1
        go_enter Try.func45, Try.ntmps45
        go_wp2_with (first
          | (go_at_call 43; (with_reducible refine HS.out.mono ?_); rintro e w3 ⟨rfl, hb⟩; have HB := Aside0.mk hb; clear hb HS)
          | (go_at_call 43; (with_reducible refine (HS2.out _ HB.out).mono ?_); rintro e w3 ⟨rfl, hb⟩; have HB2 := Aside0.mk (below_step HB.out hb); clear hb HB; have HB := HB2; clear HB2)
          | (go_at_call 69; (with_reducible refine (HLE.out _ HB.out).mono ?_); rintro e w3 ⟨rfl, hb⟩; have HB2 := Aside0.mk (below_step HB.out hb); clear hb HB; have HB := HB2; clear HB2)
          | (go_at_call 70; (with_reducible refine (HSL.out _ HB.out).mono ?_); rintro e w3 ⟨rfl, hb⟩; have HB2 := Aside0.mk (below_step HB.out hb); clear hb HB; have HB := HB2; clear HB2))
        go_ret2
        exact ⟨rfl, HB.out⟩
end Go.Proofs.Ytdcnoiofimngpaa.Gp
