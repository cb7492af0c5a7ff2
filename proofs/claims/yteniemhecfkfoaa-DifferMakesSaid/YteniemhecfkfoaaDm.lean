import Derived.Test.YteniemhecfkfoaaDb
import Derived.Test.YteniemhecfkfoaaQDx20
import Derived.Test.YteniemhecfkfoaaQDx18
import Derived.Test.YteniemhecfkfoaaQDx19
/- What lies between two valid texts makes the one of the other, and goes no further than they are unlike: over numbers and lists. -/
namespace Go.Proofs.Yteniemhecfkfoaa.Da
open Go.RowKit Go.Proofs.Yteniemhecfkfoaa.QD Go.Proofs.Yteniemhecfkfoaa.U Go.Proofs.YteniemhecfkfoaaW.PrintWords Go.Proofs.YteniemhecfkfoaaW.PrintLast
set_option linter.unusedVariables false

theorem ba_eq {a b : ByteArray} (h : a.data.toList = b.data.toList) : a = b := by
  cases a; cases b; simp only at h; congr 1; exact Array.toList_inj.1 h
theorem app_d (a b : ByteArray) : (a ++ b).data.toList = a.data.toList ++ b.data.toList := by simp
theorem app_s (a b : ByteArray) : (a ++ b).size = a.size + b.size := by simp
theorem ext_s (s : ByteArray) (i j : Nat) (h : j ≤ s.size) : (s.extract i j).size = j - i := by rw [ByteArray.size_extract]; omega
theorem valid_r (s : ByteArray) (h : s.size ≤ 140737488351232) : stylusref01_Valid.f s = some (Sp.valid s.data.toList) := by unfold stylusref01_Valid.f; rw [if_pos h]
/-- An edit that fits is applied. -/
theorem apply_f (k : Nat) (hk : 10 ≤ k) (s : ByteArray) (n o : Nat) (old new : ByteArray) (hs : s.size ≤ 600) (hnew : new.size ≤ 600) (ho : old.size = o) (hn : n + o ≤ s.size) (hold : s.extract n (n + o) = old)
    (e1 : Sp.edge s.data.toList n = true) (e2 : Sp.edge s.data.toList ((n + o : Nat) : Int) = true) (v1 : Sp.valid old.data.toList = true) (v2 : Sp.valid new.data.toList = true) :
    stylusref21_Apply.f k s n old new = some ((s.extract 0 n ++ new) ++ s.extract (n + o) s.size, 0) := by
  obtain ⟨k, rfl⟩ : ∃ m, k = m + 4 := ⟨k - 4, by omega⟩
  have w1 : wrap64 ((s.size : Int) - (n : Int)) = ((s.size - n : Nat) : Int) := wsub3 s.size n (by omega) (by omega)
  have w2 : wrap64 ((n : Int) + (o : Int)) = ((n + o : Nat) : Int) := by rw [wq _ (by omega) (by omega)]; omega
  have w3 : wrap64 (wrap64 ((s.size : Int) - (o : Int)) + (new.size : Int)) = ((s.size - o + new.size : Nat) : Int) := by rw [wsub3 s.size o (by omega) (by omega), wq _ (by omega) (by omega)]; omega
  have W1 := Lib.hid w1
  have W2 := Lib.hid w2
  have W3 := Lib.hid w3
  clear w1 w2 w3
  have x0 := ext_s s 0 n (by omega)
  have x1 := ext_s s (n + o) s.size (Nat.le_refl _)
  have b1 : (s.extract 0 n).size + new.size ≤ 9223372036854775807 := by omega
  have b2 : (s.extract 0 n ++ new).size + (s.extract (n + o) s.size).size ≤ 9223372036854775807 := by rw [app_s]; omega
  have c1 : ¬ (((s.size - o + new.size : Nat) : Int) > 4096) := by omega
  have c2 : ¬ ((o : Int) > ((s.size - n : Nat) : Int)) := by omega
  have c3 : (n : Int) ≤ ((n + o : Nat) : Int) := by omega
  have c4 : ((n + o : Nat) : Int) ≤ (s.size : Int) := by omega
  have c5 : (n : Int) ≤ (s.size : Int) := by omega
  have c6 : decide ((n : Int) > (s.size : Int)) = false := by simp; omega
  have c7 : ¬ ((n : Int) < 0) := by omega
  have c8 : old.size ≤ 140737488351232 := by omega
  have c9 : new.size ≤ 140737488351232 := by omega
  unfold stylusref21_Apply.f
  rw [if_neg c7, c6, stylusref21_Apply.j0, if_neg (by decide), ho, W1.out, if_neg c2, W2.out, if_pos (i_nn _), if_pos c3, if_pos c4]
  simp only [Int.toNat_natCast]
  rw [hold, show (old.toList != old.toList) = false by simp, stylusref21_Apply.j1, if_neg (by decide), redge_f, Option.bind_some, if_pos e1, W2.out, redge_f, Option.bind_some, e2, Bool.not_true, stylusref21_Apply.j2, if_neg (by decide),
    valid_r old c8, Option.bind_some, if_pos v1, valid_r new c9, Option.bind_some, v2, Bool.not_true, stylusref21_Apply.j3, if_neg (by decide), W3.out, if_neg c1, if_pos (i_nn _), if_pos c5, Int.toNat_natCast, if_pos b1, W2.out, if_pos (i_nn _), if_pos c4, Int.toNat_natCast, if_pos b2]
/-- Cut at two places and put together again. -/
theorem glue (l : List UInt8) (n m : Nat) (h : n + m ≤ l.length) : l.take n ++ ((l.drop n).take (l.length - m - n) ++ l.drop (l.length - m)) = l := by
  have e : l.drop (l.length - m) = (l.drop n).drop (l.length - m - n) := by rw [List.drop_drop]; congr 1; omega
  rw [e, List.take_append_drop, List.take_append_drop]
theorem edge_first {l : List UInt8} (hv : Sp.valid l = true) (h : (Sp.dec l).2 ≠ 0) : Sp.edge l ((Sp.dec l).2 : Int) = true := by
  have hle := @Sp.dec_le l
  have hne : l ≠ [] := by intro h'; rw [h'] at h; exact h rfl
  rw [Sp.valid_step l hne, Bool.and_eq_true] at hv
  by_cases hl : (Sp.dec l).2 = l.length
  · rw [hl]; exact Sp.edge_len l
  · have hlt : (Sp.dec l).2 < l.length := by omega
    have hd := List.drop_eq_getElem_cons hlt
    have hv2 := hv.2
    rw [Sp.valid_step _ (by rw [hd]; exact List.cons_ne_nil _ _), Bool.and_eq_true, decide_eq_true_eq] at hv2
    obtain ⟨t, hr, hw, hx⟩ := Sp.dec_some hv2.1
    obtain ⟨x, u, hxu, hc, _⟩ := Sp.enc_cont hr
    rw [hxu, hd] at hx
    have hx1 := (List.cons.inj hx).1
    have e : l.getD (Sp.dec l).2 0 = l[(Sp.dec l).2]'hlt := by rw [List.getD_eq_getElem?_getD, List.getElem?_eq_getElem hlt]; rfl
    unfold Sp.edge
    rw [Int.toNat_natCast, e, hx1, hc]
    simp; omega
/-- Where the front ends no rune is common. -/
theorem front_stops (a b : List UInt8) (n : Nat) (hn : n = Sp.front a b) (va : Sp.valid a = true) (vb : Sp.valid b = true) (h1 : (Sp.dec (a.drop n)).2 ≠ 0) (h2 : (Sp.dec (b.drop n)).2 ≠ 0) : (Sp.dec (a.drop n)).1 ≠ (Sp.dec (b.drop n)).1 := by
  intro he
  have hs := Sp.front_spec a b
  have hl := Sp.front_le a b
  rw [← hn] at hs hl
  have wa := (Sp.valid_cut a n hl.1 hs.2.1 va).2
  have wb := (Sp.valid_cut b n hl.2 hs.2.2.1 vb).2
  have fa := edge_first wa h1
  have fb := edge_first wb h2
  have la := @Sp.dec_le (a.drop n)
  have lb := @Sp.dec_le (b.drop n)
  rw [List.length_drop] at la lb
  rw [Sp.edge_drop a n _ hl.1 hs.2.1 la] at fa
  rw [Sp.edge_drop b n _ hl.2 hs.2.2.1 lb] at fb
  obtain ⟨ta, ra, ga, xa⟩ := Sp.dec_some h1
  obtain ⟨tb, rb, gb, xb⟩ := Sp.dec_some h2
  have gw : (Sp.dec (b.drop n)).2 = (Sp.dec (a.drop n)).2 := by rw [ga, gb, he]
  rw [gw] at fb lb
  refine hs.2.2.2 (n + (Sp.dec (a.drop n)).2) (by omega) (by omega) (by omega) ?_ ⟨fa, fb⟩
  have la' : (Sp.enc (Sp.dec (a.drop n)).1).length = (Sp.dec (a.drop n)).2 := by rw [Sp.enc_length ra, ga]
  have p1 : (a.drop n).take (Sp.dec (a.drop n)).2 = Sp.enc (Sp.dec (a.drop n)).1 := by
    rw [← la']; exact (congrArg _ xa).trans List.take_left
  have p2 : (b.drop n).take (Sp.dec (a.drop n)).2 = Sp.enc (Sp.dec (a.drop n)).1 := by
    rw [← la', he]; exact (congrArg _ xb).trans List.take_left
  rw [List.take_add, List.take_add, hs.1, p1, p2]
theorem take0 (l : List UInt8) : Sp.take l 0 = Sp.dec l := by
  unfold Sp.take
  cases l with
  | nil => rfl
  | cons x l => rw [if_pos (by simp)]; rfl
theorem rtake_eq (s : ByteArray) (h : s.size ≤ 140737488351232) : stylusref01_Take.f s 0 = some (UP.pr (Sp.dec s.data.toList)) := by unfold stylusref01_Take.f; rw [if_pos h, take0]
theorem mid_valid (a : List UInt8) (n m : Nat) (h : n + m ≤ a.length) (e1 : Sp.edge a n = true) (e2 : Sp.edge a ((a.length - m : Nat) : Int) = true) (v : Sp.valid a = true) : Sp.valid ((a.drop n).take (a.length - m - n)) = true := by
  have h1 := (Sp.valid_cut a n (by omega) e1 v).2
  refine (Sp.valid_cut (a.drop n) (a.length - m - n) (by rw [List.length_drop]; omega) ?_ h1).1
  rw [Sp.edge_drop a n _ (by omega) e1 (by omega), show n + (a.length - m - n) = a.length - m by omega]
  exact e2
theorem makes0 (k : Nat) (s t : ByteArray) (hs : s.size ≤ 600) (ht : t.size ≤ 600) (va : Sp.valid s.data.toList = true) (vb : Sp.valid t.data.toList = true) (hk : 5000 ≤ k) : styluslaw48_DifferMakes.j0 (k + 1) s t false = some true := by
  have hsl := data_length s; have htl := data_length t
  have f1 : Sp.fits s.data.toList = true := by unfold Sp.fits; rw [va, hsl]; simp; omega
  have f2 : Sp.fits t.data.toList = true := by unfold Sp.fits; rw [vb, htl]; simp; omega
  have hal : Sp.alike s.data.toList t.data.toList = (Sp.front s.data.toList t.data.toList, Sp.rear s.data.toList t.data.toList (Sp.front s.data.toList t.data.toList)) := by unfold Sp.alike; rw [if_pos ⟨f1, f2⟩]
  have hfs := Sp.front_spec s.data.toList t.data.toList
  have hfl := Sp.front_le s.data.toList t.data.toList
  have hrs := Sp.rear_spec s.data.toList t.data.toList (Sp.front s.data.toList t.data.toList) hfl.1 hfl.2
  have hrl := Sp.rear_le s.data.toList t.data.toList (Sp.front s.data.toList t.data.toList)
  have hstop := front_stops s.data.toList t.data.toList _ rfl va vb
  rw [styluslaw48_DifferMakes.j0, if_neg (by decide), between_f s t (by omega) (by omega) k (by omega), Option.bind_some]
  by_cases he : s.toList = t.toList
  · rw [show btw s t = [] by unfold btw; rw [if_pos (.inl he)], if_pos (by decide), if_pos he, lives48 k (by omega), Option.bind_some]
  have hb : btw s t = [ed s t] := by unfold btw; rw [if_neg (by rintro (h | h); exact he h; exact h ⟨f1, f2⟩)]
  have hd1 : (ed s t).f1.data.toList = (s.data.toList.drop (Sp.front s.data.toList t.data.toList)).take (s.data.toList.length - Sp.rear s.data.toList t.data.toList (Sp.front s.data.toList t.data.toList) - Sp.front s.data.toList t.data.toList) := by
    unfold ed; rw [hal, Lib.extract_data, hsl]
  have hd2 : (ed s t).f2.data.toList = (t.data.toList.drop (Sp.front s.data.toList t.data.toList)).take (t.data.toList.length - Sp.rear s.data.toList t.data.toList (Sp.front s.data.toList t.data.toList) - Sp.front s.data.toList t.data.toList) := by
    unfold ed; rw [hal, Lib.extract_data, htl]
  have hx1 : (ed s t).f1 = s.extract (Sp.front s.data.toList t.data.toList) (s.size - Sp.rear s.data.toList t.data.toList (Sp.front s.data.toList t.data.toList)) := by unfold ed; rw [hal]
  have hx2 : (ed s t).f2 = t.extract (Sp.front s.data.toList t.data.toList) (t.size - Sp.rear s.data.toList t.data.toList (Sp.front s.data.toList t.data.toList)) := by unfold ed; rw [hal]
  have hx0 : (ed s t).f0 = (Sp.front s.data.toList t.data.toList : Int) := by unfold ed; rw [hal]
  generalize Sp.front s.data.toList t.data.toList = n at *
  generalize Sp.rear s.data.toList t.data.toList n = m at *
  clear hal
  rw [hsl] at hd1
  rw [htl] at hd2
  generalize ed s t = e at *
  have g1 : n + m ≤ s.size := by omega
  have g2 : n + m ≤ t.size := by omega
  have s1 : e.f1.size = s.size - m - n := by rw [hx1, ext_s _ _ _ (by omega)]
  have s2 : e.f2.size = t.size - m - n := by rw [hx2, ext_s _ _ _ (by omega)]
  have n1 : n + (s.size - m - n) = s.size - m := by omega
  have n2 : n + (t.size - m - n) = t.size - m := by omega
  have v1 : Sp.valid e.f1.data.toList = true := by rw [hd1, ← hsl]; exact mid_valid _ n m (by omega) hfs.2.1 hrs.2.1 va
  have v2 : Sp.valid e.f2.data.toList = true := by rw [hd2, ← htl]; exact mid_valid _ n m (by omega) hfs.2.2.1 hrs.2.2 vb
  have A1 := apply_f k (by omega) s n (s.size - m - n) e.f1 e.f2 hs (by omega) s1 (by omega) (by rw [n1]; exact hx1.symm) hfs.2.1 (by rw [n1, ← hsl]; exact hrs.2.1) v1 v2
  have A2 := apply_f k (by omega) t n (t.size - m - n) e.f2 e.f1 ht (by omega) s2 (by omega) (by rw [n2]; exact hx2.symm) hfs.2.2.1 (by rw [n2, ← htl]; exact hrs.2.2) v2 v1
  have R1 : ((s.extract 0 n ++ e.f2) ++ s.extract (n + (s.size - m - n)) s.size) = t := by
    refine ba_eq ?_
    have q1 : (s.extract (s.size - m) s.size).data.toList = s.data.toList.drop (s.data.toList.length - m) := by rw [Lib.extract_data, hsl]; exact List.take_of_length_le (by rw [List.length_drop]; omega)
    rw [app_d, app_d, n1, q1, Lib.extract_data, List.drop_zero, Nat.sub_zero, hd2, hfs.1, hrs.1, List.append_assoc, ← htl]
    exact glue _ n m (by omega)
  have R2 : ((t.extract 0 n ++ e.f1) ++ t.extract (n + (t.size - m - n)) t.size) = s := by
    refine ba_eq ?_
    have q1 : (t.extract (t.size - m) t.size).data.toList = t.data.toList.drop (t.data.toList.length - m) := by rw [Lib.extract_data, htl]; exact List.take_of_length_le (by rw [List.length_drop]; omega)
    rw [app_d, app_d, n2, q1, Lib.extract_data, List.drop_zero, Nat.sub_zero, hd1, ← hfs.1, ← hrs.1, List.append_assoc, ← hsl]
    exact glue _ n m (by omega)
  have hne : (e.f1.toList == e.f2.toList) = false := by
    rw [beq_eq_false_iff_ne]
    intro h
    rw [Lib.toList_data, Lib.toList_data] at h
    apply he
    have e12 : e.f1 = e.f2 := ba_eq h
    rw [← e12] at R1
    have R3 : ((s.extract 0 n ++ e.f1) ++ s.extract (n + (s.size - m - n)) s.size) = s := by
      refine ba_eq ?_
      have q1 : (s.extract (s.size - m) s.size).data.toList = s.data.toList.drop (s.data.toList.length - m) := by rw [Lib.extract_data, hsl]; exact List.take_of_length_le (by rw [List.length_drop]; omega)
      rw [app_d, app_d, n1, q1, Lib.extract_data, List.drop_zero, Nat.sub_zero, hd1, List.append_assoc, ← hsl]
      exact glue _ n m (by omega)
    exact congrArg ByteArray.toList (R3.symm.trans R1)
  have hd : ∀ (l : List UInt8) (x y : Nat), (Sp.dec ((l.drop x).take y)).2 ≠ 0 → Sp.dec (l.drop x) = Sp.dec ((l.drop x).take y) := by
    intro l x y h
    have := Sp.dec_append h ((l.drop x).drop y)
    rw [List.take_append_drop] at this; exact this
  rw [hb, if_neg (by simp), if_pos (by simp), rd0, hx0, A1, Option.bind_some]
  unfold stylusref21_Inverse.f
  rw [Option.bind_some, A2, Option.bind_some, if_pos (by simp), R1, R2, if_pos rfl, if_pos rfl, if_pos rfl, if_pos rfl, hne]
  obtain ⟨k, rfl⟩ : ∃ q, k = q + 1 := ⟨k - 1, by omega⟩
  rw [styluslaw48_DifferMakes.j1, if_neg (by decide), rtake_eq _ (by omega), Option.bind_some, rtake_eq _ (by omega), Option.bind_some, lives48 k (by omega)]
  simp only [UP.pr]
  by_cases z1 : (Sp.dec e.f1.data.toList).2 = 0
  · simp [z1]
  by_cases z2 : (Sp.dec e.f2.data.toList).2 = 0
  · simp [z2]
  have y1 := hd s.data.toList n (s.size - m - n) (by rw [← hd1]; exact z1)
  have y2 := hd t.data.toList n (t.size - m - n) (by rw [← hd2]; exact z2)
  rw [← hd1] at y1
  rw [← hd2] at y2
  have hno := hstop (by rw [y1]; exact z1) (by rw [y2]; exact z2)
  rw [y1, y2] at hno
  have z3 : ¬ (((Sp.dec e.f1.data.toList).1 : Int) = ((Sp.dec e.f2.data.toList).1 : Int)) := by omega
  simp [z1, z2]
  exact z3
theorem DifferMakes : styluslaw48_DifferMakes.Pure := by
  intro s t hs ht
  refine ⟨5000 + 1, ?_⟩
  have tt : styluslaw48_DifferMakes.j0 (5000 + 1) s t true = some true := by rw [styluslaw48_DifferMakes.j0, if_pos rfl, lives48 5000 (by decide), Option.bind_some]
  unfold styluslaw48_DifferMakes.f
  by_cases c : (s.size : Int) > 600
  · rw [if_pos c]; exact tt
  rw [if_neg c]
  by_cases c2 : (t.size : Int) > 600
  · rw [if_pos c2]; exact tt
  rw [if_neg c2, valid_r s hs, valid_r t ht, Option.bind_some, Option.bind_some]
  by_cases va : Sp.valid s.data.toList = true
  · rw [if_pos va]
    by_cases vb : Sp.valid t.data.toList = true
    · rw [vb]; exact makes0 5000 s t (by omega) (by omega) va vb (Nat.le_refl _)
    · rw [show Sp.valid t.data.toList = false by simpa using vb]; exact tt
  · rw [if_neg va]; exact tt
end Go.Proofs.Yteniemhecfkfoaa.Da
