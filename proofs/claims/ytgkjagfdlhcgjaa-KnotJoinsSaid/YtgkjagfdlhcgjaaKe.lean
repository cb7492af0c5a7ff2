import Derived.Test.YtgkjagfdlhcgjaaKd
/- Leaf; groups, levels, and the tree over them, in plain words. -/
namespace Go.Proofs.Ytgkjagfdlhcgjaa.Ke
open Go.RowKit Go.Proofs.Ytgkjagfdlhcgjaa.U Go.Proofs.Ytgkjagfdlhcgjaa.QK Go.Proofs.Ytgkjagfdlhcgjaa.Kt Go.Proofs.Ytgkjagfdlhcgjaa.Ka Go.Proofs.Ytgkjagfdlhcgjaa.Kb Go.Proofs.Ytgkjagfdlhcgjaa.Kd_ Go.Proofs.YtgkjagfdlhcgjaaW.PrintWords Go.Proofs.YtgkjagfdlhcgjaaW.PrintLast Go.Proofs.YtgkjagfdlhcgjaaW.PrintMore
set_option linter.unusedVariables false
set_option linter.unusedSimpArgs false
/-! ### groups and levels -/
def grp (n : Nat) : Nat := if n = 9 then 7 else min n 8
theorem grp_pos {n : Nat} (h : n ≠ 0) : 0 < grp n ∧ grp n ≤ n ∧ grp n ≤ 8 := by unfold grp; split <;> omega
theorem grp_two {n : Nat} (h : 2 ≤ n) : 2 ≤ grp n ∧ (n - grp n = 0 ∨ 2 ≤ n - grp n) := by unfold grp; split <;> omega
def level (ts : List Tr) : List Tr := if h : ts = [] then [] else joinT (ts.take (grp ts.length)) :: level (ts.drop (grp ts.length))
  termination_by ts.length
  decreasing_by
    have h1 : ts.length ≠ 0 := fun e => h (List.eq_nil_of_length_eq_zero e)
    have := grp_pos h1
    rw [List.length_drop]; omega
theorem level_nil : level [] = [] := by rw [level]; rfl
theorem level_cons {ts : List Tr} (h : ts.length ≠ 0) : level ts = joinT (ts.take (grp ts.length)) :: level (ts.drop (grp ts.length)) := by
  rw [level, dif_neg (fun e => h (by rw [e]; rfl))]
theorem level_len (n : Nat) : ∀ ts : List Tr, ts.length = n → ts.length ≤ 1 ∨ (level ts).length < ts.length := by
  induction n using Nat.strongRecOn with
  | _ n ih =>
    intro ts hn
    by_cases h1 : ts.length ≤ 1
    · exact .inl h1
    · right
      have hg := grp_two (n := ts.length) (by omega)
      have hp := grp_pos (n := ts.length) (by omega)
      rw [level_cons (by omega), List.length_cons]
      have hd : (ts.drop (grp ts.length)).length = ts.length - grp ts.length := by rw [List.length_drop]
      rcases ih _ (by omega) (ts.drop (grp ts.length)) hd with h | h
      · have h0 : (ts.drop (grp ts.length)).length = 0 := by omega
        rw [List.eq_nil_of_length_eq_zero h0, level_nil]
        simp; omega
      · omega
def upT (ts : List Tr) : Tr := if h : 8 < ts.length then upT (level ts) else match ts with | [] => .nil | [t] => t | _ => joinT ts
  termination_by ts.length
  decreasing_by rcases level_len _ ts rfl with h' | h' <;> omega
theorem upT_level {ts : List Tr} (h : 8 < ts.length) : upT ts = upT (level ts) := by rw [upT, dif_pos h]
theorem upT_one {ts : List Tr} (h : ts.length = 1) : upT ts = rdT ts 0 := by
  obtain ⟨t, rfl⟩ := List.length_eq_one_iff.mp h
  rw [upT, dif_neg (by simp)]; rfl
theorem upT_join {ts : List Tr} (h : 2 ≤ ts.length) (h8 : ts.length ≤ 8) : upT ts = joinT ts := by
  rw [upT, dif_neg (by omega)]
  match ts, h with
  | _ :: _ :: _, _ => rfl
theorem upT_nil : upT [] = .nil := by rw [upT, dif_neg (by simp)]
/-- knots of one height, in range -/
structure Lv (d : Int) (ts : List Tr) : Prop where
  e : ∀ t ∈ ts, t.none = false ∧ t.h0 = d ∧ 0 ≤ t.cb ∧ 0 ≤ t.cr ∧ 0 ≤ t.cl
  d0 : 0 ≤ d
  b : sumB ts ≤ 100000000000
  r : sumR ts ≤ 100000000000
  l : sumL ts ≤ 100000000000
theorem sum_nonneg (f : Tr → Int) (l : List Tr) (hf : ∀ t ∈ l, 0 ≤ f t) : 0 ≤ (l.map f).sum := by
  induction l with
  | nil => simp
  | cons t ts ih => rw [List.map_cons, List.sum_cons]; have := hf t (by simp); have := ih (fun x hx => hf x (by simp [hx])); omega
theorem sum_part (f : Tr → Int) (l : List Tr) (n : Nat) : (l.map f).sum = ((l.take n).map f).sum + ((l.drop n).map f).sum := by
  conv => lhs; rw [← List.take_append_drop n l, List.map_append, List.sum_append]
theorem sum_mem (f : Tr → Int) (l : List Tr) (hf : ∀ t ∈ l, 0 ≤ f t) (t : Tr) (ht : t ∈ l) : f t ≤ (l.map f).sum := by
  induction l with
  | nil => cases ht
  | cons x xs ih =>
    rw [List.map_cons, List.sum_cons]
    have h0 := hf x (by simp)
    have h1 := sum_nonneg f xs (fun y hy => hf y (by simp [hy]))
    rcases List.mem_cons.1 ht with rfl | ht
    · omega
    · have := ih (fun y hy => hf y (by simp [hy])) ht; omega
theorem Lv.sm {d : Int} {ts : List Tr} (h : Lv d ts) (hd : d ≤ 1000000) : ∀ t ∈ ts, SmT t := by
  intro t ht
  have hb := sum_mem Tr.cb ts (fun t ht => (h.e t ht).2.2.1) t ht
  have hr := sum_mem Tr.cr ts (fun t ht => (h.e t ht).2.2.2.1) t ht
  have hl := sum_mem Tr.cl ts (fun t ht => (h.e t ht).2.2.2.2) t ht
  have h1 := h.b
  have h2 := h.r
  have h3 := h.l
  have h4 := h.d0
  obtain ⟨e1, e2, e3, e4, e5⟩ := h.e t ht
  unfold sumB at h1
  unfold sumR at h2
  unfold sumL at h3
  unfold SmT
  omega
theorem Lv.even {d : Int} {ts : List Tr} (h : Lv d ts) : evenB ts = true := by
  unfold evenB
  rw [List.all_eq_true]
  intro t ht
  have h0 : rdT ts 0 ∈ ts := by
    have : ts.length ≠ 0 := fun e => by rw [List.eq_nil_of_length_eq_zero e] at ht; cases ht
    unfold rdT; rw [List.getD_eq_getElem?_getD, List.getElem?_eq_getElem (by simp; omega)]; exact List.getElem_mem _
  unfold evenAt
  rw [(h.e t ht).1, (h.e t ht).2.1, (h.e _ h0).2.1]
  simp
theorem Lv.take {d : Int} {ts : List Tr} (h : Lv d ts) (n : Nat) : Lv d (ts.take n) := by
  have p := fun f hf => sum_nonneg f (ts.drop n) hf
  have hb := sum_part Tr.cb ts n
  have hr := sum_part Tr.cr ts n
  have hl := sum_part Tr.cl ts n
  have qb := p Tr.cb (fun t ht => (h.e t (List.mem_of_mem_drop ht)).2.2.1)
  have qr := p Tr.cr (fun t ht => (h.e t (List.mem_of_mem_drop ht)).2.2.2.1)
  have ql := p Tr.cl (fun t ht => (h.e t (List.mem_of_mem_drop ht)).2.2.2.2)
  have h1 := h.b
  have h2 := h.r
  have h3 := h.l
  unfold sumB at h1
  unfold sumR at h2
  unfold sumL at h3
  exact ⟨fun t ht => h.e t (List.mem_of_mem_take ht), h.d0, by unfold sumB; omega, by unfold sumR; omega, by unfold sumL; omega⟩
theorem Lv.drop {d : Int} {ts : List Tr} (h : Lv d ts) (n : Nat) : Lv d (ts.drop n) := by
  have p := fun f hf => sum_nonneg f (ts.take n) hf
  have hb := sum_part Tr.cb ts n
  have hr := sum_part Tr.cr ts n
  have hl := sum_part Tr.cl ts n
  have qb := p Tr.cb (fun t ht => (h.e t (List.mem_of_mem_take ht)).2.2.1)
  have qr := p Tr.cr (fun t ht => (h.e t (List.mem_of_mem_take ht)).2.2.2.1)
  have ql := p Tr.cl (fun t ht => (h.e t (List.mem_of_mem_take ht)).2.2.2.2)
  have h1 := h.b
  have h2 := h.r
  have h3 := h.l
  unfold sumB at h1
  unfold sumR at h2
  unfold sumL at h3
  exact ⟨fun t ht => h.e t (List.mem_of_mem_drop ht), h.d0, by unfold sumB; omega, by unfold sumR; omega, by unfold sumL; omega⟩
theorem joinT_e {d : Int} {ts : List Tr} (h : Lv d ts) (hn : ts.length ≠ 0) : (joinT ts).none = false ∧ (joinT ts).h0 = d + 1 ∧ (joinT ts).cb = sumB ts ∧ (joinT ts).cr = sumR ts ∧ (joinT ts).cl = sumL ts := by
  have h0 : rdT ts 0 ∈ ts := by
    unfold rdT; rw [List.getD_eq_getElem?_getD, List.getElem?_eq_getElem (by simp; omega)]; exact List.getElem_mem _
  refine ⟨?_, ?_, rfl, rfl, rfl⟩
  · show ((_ == _) && (ts.length == 0)) = false
    rw [beq_eq_false_iff_ne.mpr hn, Bool.and_false]
  · show (rdT ts 0).h0 + 1 = d + 1
    rw [(h.e _ h0).2.1]
theorem level_lv (n : Nat) : ∀ (d : Int) (ts : List Tr), ts.length = n → Lv d ts → Lv (d + 1) (level ts) ∧ sumB (level ts) = sumB ts ∧ sumR (level ts) = sumR ts ∧ sumL (level ts) = sumL ts := by
  induction n using Nat.strongRecOn with
  | _ n ih =>
    intro d ts hn h
    by_cases h0 : ts.length = 0
    · obtain rfl := List.eq_nil_of_length_eq_zero h0
      rw [level_nil]
      exact ⟨⟨(fun t ht => by cases ht), by have := h.d0; omega, h.b, h.r, h.l⟩, rfl, rfl, rfl⟩
    · have hp := grp_pos h0
      obtain ⟨i1, i2, i3, i4⟩ := ih _ (by rw [List.length_drop]; omega) d (ts.drop (grp ts.length)) rfl (h.drop _)
      have ht := h.take (grp ts.length)
      obtain ⟨j1, j2, j3, j4, j5⟩ := joinT_e ht (by rw [List.length_take]; omega)
      rw [level_cons h0]
      have eb : sumB (joinT (ts.take (grp ts.length)) :: level (ts.drop (grp ts.length))) = sumB ts := by
        unfold sumB at i2 j3 ⊢; rw [List.map_cons, List.sum_cons, i2, j3, ← sum_part]
      have er : sumR (joinT (ts.take (grp ts.length)) :: level (ts.drop (grp ts.length))) = sumR ts := by
        unfold sumR at i3 j4 ⊢; rw [List.map_cons, List.sum_cons, i3, j4, ← sum_part]
      have el : sumL (joinT (ts.take (grp ts.length)) :: level (ts.drop (grp ts.length))) = sumL ts := by
        unfold sumL at i4 j5 ⊢; rw [List.map_cons, List.sum_cons, i4, j5, ← sum_part]
      refine ⟨⟨fun t hm => ?_, by have := h.d0; omega, by rw [eb]; exact h.b, by rw [er]; exact h.r, by rw [el]; exact h.l⟩, eb, er, el⟩
      rcases List.mem_cons.1 hm with rfl | hm
      · refine ⟨j1, j2, ?_, ?_, ?_⟩
        · rw [j3]; exact sum_nonneg _ _ (fun t ht' => (ht.e t ht').2.2.1)
        · rw [j4]; exact sum_nonneg _ _ (fun t ht' => (ht.e t ht').2.2.2.1)
        · rw [j5]; exact sum_nonneg _ _ (fun t ht' => (ht.e t ht').2.2.2.2)
      · exact i1.e t hm
theorem grp_f (n : Nat) : knot_group.f (n : Int) = some ((grp n : Nat) : Int) := by
  unfold knot_group.f grp mn
  by_cases h : n = 9
  · rw [if_pos (by omega), if_pos h]; rfl
  · rw [if_neg (by omega), if_neg h]
    congr 1
    split <;> omega
theorem grp_calls (w : World) (n : Nat) : Calls Try.prog 49 #[.int .i64 (n : Int)] w fun e w' => e = .returned (.int .i64 ((grp n : Nat) : Int)) ∧ Below w.heap.size w w' := knot_group.calls _ _ w (grp_f n)
/-! ### Leaf -/
def LeafPost (w : World) (t : Tr) (e : Ending) (w' : World) : Prop := ∃ a : Nat, e = .returned (.pointer (some ⟨a, 0, none⟩)) ∧ Rp w' (fun k => w.heap.size ≤ k) (some ⟨a, 0, none⟩) t ∧ Below w.heap.size w w'
theorem leaf_no (w : World) (s : ByteArray) (h : chunk_Fits.f s = some false) : Calls Try.prog 32 #[.string s] w fun e w' => e = .returned (.pointer none) ∧ Below w.heap.size w w' := by
  have H := Aside0.mk h
  clear h
  go_enter Try.func32, Try.ntmps32
  go_wp2_with (go_at_call 16; (with_reducible refine (chunk_Fits.calls s false _ H.out).mono ?_); rintro e w1 ⟨rfl, hb⟩; have HB := Aside0.mk hb; clear hb)
  go_ret
  exact ⟨rfl, HB.out⟩
set_option maxHeartbeats 4000000 in
theorem leaf_calls (w : World) (s : ByteArray) (r1 r2 r3 : Int) (h : chunk_Fits.f s = some true) (ho : tally_Of.f s = some (r1, r2, r3)) : Calls Try.prog 32 #[.string s] w (LeafPost w (.node 0 r1 r2 r3 s [])) := by
  have H := Aside0.mk h
  have HO := Aside0.mk ho
  clear h ho
  go_enter Try.func32, Try.ntmps32
  go_wp2_with (first | (go_at_call 16; (with_reducible refine (chunk_Fits.calls s true _ H.out).mono ?_); rintro e w1 ⟨rfl, hb⟩; have HB := Aside0.mk hb; clear hb) | (go_at_call 53; (with_reducible refine (tally_Of.calls s r1 r2 r3 _ HO.out).mono ?_); rintro e w2 ⟨rfl, hb⟩; have HB1 := Aside0.mk (below_step HB.out hb); clear hb HB) | ((with_reducible refine gate_dst (N := 11) rfl ?_); refine box_event ?hg (N := 11) ?hd (cs := #[.int .i64 0, .int .i64 r1, .int .i64 r2, .int .i64 r3, .string s, .slice none 0 0]) (t := 51) ?hr ?_; (case hd => rfl); (case hg => rfl); (case hr => first | (go_simp; done) | (go_simp; rfl)); intro gb hg wb hbox hb; have HB2 := Aside0.mk (below_step HB1.out hb); have BK := Aside0.mk hbox; have GE : Aside0 (w.heap.size ≤ gb) := ⟨by rw [hg]; exact HB1.out.size⟩; clear hb hbox hg HB1))
  go_ret
  refine ⟨gb, rfl, ?_, HB2.out⟩
  exact .node gb 0 r1 r2 r3 s [] none 0 [] GE.out BK.out rfl (Kd.R_nil _ _ _ _ _) (fun j p t hp ht => by cases hp)
end Go.Proofs.Ytgkjagfdlhcgjaa.Ke
/- Up: the tree over knots of one height. -/
namespace Go.Proofs.Ytgkjagfdlhcgjaa.Kf
open Go.RowKit Go.Proofs.Ytgkjagfdlhcgjaa.QK Go.Proofs.Ytgkjagfdlhcgjaa.Kt Go.Proofs.Ytgkjagfdlhcgjaa.Ka Go.Proofs.Ytgkjagfdlhcgjaa.Kb Go.Proofs.Ytgkjagfdlhcgjaa.Kd_ Go.Proofs.Ytgkjagfdlhcgjaa.Ke Go.Proofs.YtgkjagfdlhcgjaaW.PrintWords Go.Proofs.YtgkjagfdlhcgjaaW.PrintLast Go.Proofs.YtgkjagfdlhcgjaaW.PrintMore
set_option linter.unusedVariables false
set_option linter.unusedSimpArgs false
/-- trees beside a row that grows: they are told from its block -/
structure Ts (W : World) (Q : Nat → Prop) (v : Value) (ps : List (Option Addr)) (ts : List Tr) : Prop where
  len : ps.length = ts.length
  r : ∀ (j : Nat) (p : Option Addr) (t : Tr), ps[j]? = some p → ts[j]? = some t → Rp W (fun k => Q k ∧ some k ≠ v.ownBlock) p t
theorem Ts.nil (W : World) (Q : Nat → Prop) (v : Value) : Ts W Q v [] [] := ⟨rfl, fun j p t hp ht => by cases hp⟩
theorem Ts.later {W W1 : World} {Q : Nat → Prop} {v : Value} {ps : List (Option Addr)} {ts : List Tr} (h : Ts W Q v ps ts) (hb : Below W.heap.size W W1) : Ts W1 Q v ps ts :=
  ⟨h.len, fun j p t hp ht => (h.r j p t hp ht).later hb⟩
theorem rp_after {W w1 : World} {Q : Nat → Prop} {v v1 : Value} {p : Option Addr} {t : Tr} (h : Rp W (fun k => Q k ∧ some k ≠ v.ownBlock) p t) (hg : W.grownBy w1 v.ownBlock) (hat : v1.ownBlock = v.ownBlock ∨ ∃ b, v1.ownBlock = some b ∧ W.heap.size ≤ b) :
    Rp w1 (fun k => Q k ∧ some k ≠ v1.ownBlock) p t := by
  refine (h.bound.step (fun k hk hlt => hg.block k hlt hk.1.2)).mono (fun k hk => ⟨hk.1.1, fun he => ?_⟩)
  rcases hat with e1 | ⟨b, e1, hb⟩
  · exact hk.1.2 (by rw [← e1]; exact he)
  · rw [e1] at he
    injection he with he
    have := hk.2
    omega
theorem Ts.app {W w1 : World} {Q : Nat → Prop} {v v1 : Value} {ps : List (Option Addr)} {ts : List Tr} {p : Option Addr} {t : Tr} (h : Ts W Q v ps ts) (hp : Rp W (fun k => Q k ∧ some k ≠ v.ownBlock) p t) (hg : W.grownBy w1 v.ownBlock) (hat : v1.ownBlock = v.ownBlock ∨ ∃ b, v1.ownBlock = some b ∧ W.heap.size ≤ b) : Ts w1 Q v1 (ps ++ [p]) (ts ++ [t]) := by
  have hl := h.len
  refine ⟨by rw [List.length_append, List.length_append, hl]; rfl, fun j q u hq hu => ?_⟩
  by_cases hj : j < ps.length
  · rw [List.getElem?_append_left hj] at hq
    rw [List.getElem?_append_left (by omega)] at hu
    exact rp_after (h.r j q u hq hu) hg hat
  · have hj2 : j = ps.length := by
      have := (List.getElem?_eq_some_iff.1 hq).1
      rw [List.length_append, List.length_singleton] at this; omega
    subst hj2
    rw [List.getElem?_append_right (Nat.le_refl _)] at hq
    rw [List.getElem?_append_right (by omega), ← hl] at hu
    simp at hq hu
    subst hq; subst hu
    exact rp_after hp hg hat
theorem infoC {i : TypeInfo} (hi : Try.prog.info? 38 = some i) : i.size = 1 := by
  have h := infoP
  rw [hi] at h
  simp at h
  exact h.2.1
def UpPost (w : World) (ok : Nat → Prop) (t : Tr) (e : Ending) (w' : World) : Prop := ∃ p, e = .returned (.pointer p) ∧ Rp w' (fun k => ok k ∨ w.heap.size ≤ k) p t ∧ Below w.heap.size w w'
/-- nothing, or nobody's knots -/
theorem up_none (w : World) (A : Option Addr) (n cp : Nat) (ps : List (Option Addr)) (ts : List Tr) (H : Rs w A n ps ts) (h : n = 0 ∨ evenB ts = false) :
    Calls Try.prog 25 #[.slice A n cp] w fun e w' => e = .returned (.pointer none) ∧ Below w.heap.size w w' := by
  by_cases h0 : n = 0
  · subst h0
    go_enter Try.func25, Try.ntmps25
    go_wp2
    go_ret
    exact ⟨rfl, Below.refl _ _⟩
  · have he : evenB ts = false := h.resolve_left h0
    have HE : Aside0 (Calls Try.prog 48 #[.slice A n cp] w fun e w' => e = .returned (.bool false) ∧ Drawn0 w w') := ⟨by have := even_calls w A n cp ps ts H; rw [he] at this; exact this⟩
    have n0 : ((n : Int) == 0) = false := beq_eq_false_iff_ne.mpr (by omega)
    have n1 : (n == 0) = false := beq_eq_false_iff_ne.mpr h0
    clear H h h0 he
    go_enter Try.func25, Try.ntmps25
    go_wp2_with (go_at_call 48; (with_reducible refine HE.out.mono ?_); rintro e wd ⟨rfl, hd⟩; have HB0 := Aside0.mk hd.below; clear hd)
    go_ret
    exact ⟨rfl, HB0.out⟩
end Go.Proofs.Ytgkjagfdlhcgjaa.Kf
