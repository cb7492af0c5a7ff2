import Derived.Test.YteniemhecfkfoaaUq
import Derived.Test.YteniemhecfkfoaaUd
import Derived.Lib.Hide
import Derived.Lib.OthersKept
import Derived.LoopN
/- Contracts of the functions of runes, in plain words. -/
namespace Go.Proofs.Yteniemhecfkfoaa.U
open Go.RowKit Go.Proofs.YteniemhecfkfoaaW.PrintWords Go.Proofs.YteniemhecfkfoaaW.PrintLast Go.Proofs.YteniemhecfkfoaaW.PrintMore
set_option linter.unusedVariables false
set_option linter.unusedSimpArgs false

theorem fit {α : Type} {s : ByteArray} {x r : α} (h : (if s.size ≤ 140737488351232 then some x else none) = some r) : s.size ≤ 140737488351232 ∧ x = r := by
  by_cases h' : s.size ≤ 140737488351232
  · rw [if_pos h'] at h; exact ⟨h', Option.some.inj h⟩
  · rw [if_neg h'] at h; cases h

def utf_Take.f (a0 : ByteArray) (a1 : Int) : Option (Int × Int) := if a0.size ≤ 140737488351232 then some (UP.pr (Sp.take a0.data.toList a1)) else none
theorem utf_Take.calls (a0 : ByteArray) (a1 : Int) (r1 : Int) (r2 : Int) (w : World) (h : utf_Take.f a0 a1 = some (r1, r2)) :
    Calls Try.prog 25 #[.string a0, .int .i64 a1] w fun e w' => e = .returned (.tuple #[.int .i32 r1, .int .i64 r2]) ∧ Drawn0 w w' := by
  obtain ⟨hs, hr⟩ := fit h
  exact QU.utf_Take.calls 10 a0 a1 r1 r2 w (by rw [UP.take_f a0 hs a1 10 (Nat.le_refl _), hr])
def utf_Edge.f (a0 : ByteArray) (a1 : Int) : Option Bool := some (Sp.edge a0.data.toList a1)
theorem utf_Edge.calls (a0 : ByteArray) (a1 : Int) (r : Bool) (w : World) (h : utf_Edge.f a0 a1 = some r) :
    Calls Try.prog 28 #[.string a0, .int .i64 a1] w fun e w' => e = .returned (.bool r) ∧ Drawn0 w w' :=
  QU.utf_Edge.calls 1 a0 a1 r w (by rw [UP.edge_f a0 a1 1 (Nat.le_refl _)]; exact h)

def utf_Bad.f (a0 : ByteArray) : Option Int := if a0.size ≤ 140737488351232 then some (Sp.badI a0.data.toList) else none
theorem bad_here (l : List UInt8) (pos : Nat) (hp : pos < l.length) (hf : Sp.badF (l.drop pos).length (l.drop pos) pos = Sp.bad l) (h : (Sp.dec (l.drop pos)).2 = 0) : Sp.badI l = pos := by
  have hne : l.drop pos ≠ [] := by intro h'; have := congrArg List.length h'; rw [List.length_drop, List.length_nil] at this; omega
  rw [Sp.badF_step _ _ hne, if_pos h] at hf
  unfold Sp.badI; rw [← hf]
theorem bad_on (l : List UInt8) (pos : Nat) (hp : pos < l.length) (hf : Sp.badF (l.drop pos).length (l.drop pos) pos = Sp.bad l) (h : (Sp.dec (l.drop pos)).2 ≠ 0) :
    Sp.badF (l.drop (pos + (Sp.dec (l.drop pos)).2)).length (l.drop (pos + (Sp.dec (l.drop pos)).2)) (pos + (Sp.dec (l.drop pos)).2) = Sp.bad l ∧ pos + (Sp.dec (l.drop pos)).2 ≤ l.length := by
  have hne : l.drop pos ≠ [] := by intro h'; have := congrArg List.length h'; rw [List.length_drop, List.length_nil] at this; omega
  rw [Sp.badF_step _ _ hne, if_neg h, List.drop_drop] at hf
  have := @Sp.dec_le (l.drop pos)
  rw [List.length_drop] at this
  exact ⟨hf, by omega⟩
theorem bad_end (l : List UInt8) (pos : Nat) (hp : ¬ pos < l.length) (hf : Sp.badF (l.drop pos).length (l.drop pos) pos = Sp.bad l) : Sp.badI l = -1 := by
  rw [List.drop_of_length_le (by omega), Sp.badF_nil] at hf
  unfold Sp.badI; rw [← hf]
set_option maxHeartbeats 400000 in
theorem utf_Bad.calls (a0 : ByteArray) (r : Int) (w : World) (h : utf_Bad.f a0 = some r) :
    Calls Try.prog 34 #[.string a0] w fun e w' => e = .returned (.int .i64 r) ∧ Below w.heap.size w w' := by
  obtain ⟨hs, hr0⟩ := fit h
  clear h
  have hsz := Lib.hid (data_length a0)
  have hr := Lib.hid hr0
  clear hr0
  go_enter Try.func34, Try.ntmps34
  go_wp2
  go_loopw [3, 4] (fun v3 v4 w' => ∃ pos : Nat, w'.heap[w.heap.size]? = some (.stringIter a0 pos) ∧ pos ≤ a0.size ∧ Hid (Below w.heap.size w w') ∧ Hid (Sp.badF (a0.data.toList.drop pos).length (a0.data.toList.drop pos) pos = Sp.bad a0.data.toList)) (fun _ _ w' => a0.size - w'.iterPos w.heap.size)
  case atStart => exact ⟨0, World.iter_heap w a0 0, Nat.zero_le _, Lib.hid ((Below.refl _ _).alloc (Nat.le_refl _) _), Lib.hid rfl⟩
  case round =>
    obtain ⟨pos, hit, hple, hbel, hbad⟩ := hrel
    by_cases hp : pos < a0.size
    · have hp' : pos < a0.data.toList.length := by have := hsz.out; omega
      have hdec := UP.decode_dec a0 pos hp
      have htk := UP.take_at a0.data.toList pos hp'
      by_cases h0 : (Sp.dec (a0.data.toList.drop pos)).2 = 0
      · rw [if_pos h0] at hdec
        have hres := bad_here _ pos hp' hbad.out h0
        have hnx : ∀ ty, (Instr.next (.pointer (some ⟨w.heap.size, 0, none⟩)) true ty).run Try.prog wr = .ok (.tuple #[.bool true, .int .i64 pos, .int .i32 65533]) (wr.iterAt w.heap.size a0 (pos + 1)) := by
          intro ty
          have := Lib.run_next_any_at (P := Try.prog) wr w.heap.size a0 pos ty hit hp
          rw [hdec] at this; exact this
        have hT : utf_Take.f a0 pos = some (0, 0) := by
          unfold utf_Take.f; rw [if_pos hs, htk, Sp.dec_zero h0]; rfl
        have HT := Lib.hid hT
        have HR := Lib.hid hres
        clear hT hres hdec htk h0 hp'
        go_wp2_with (go_at_call 25; refine (utf_Take.calls _ _ _ _ _ HT.out).mono ?_; rintro e w' ⟨rfl, ⟨nd, rfl⟩⟩)
        go_ret
        exact ⟨by rw [← hr.out, HR.out]; rfl, pw_below_drewN (Lib.below_iterAt hbel.out (Nat.le_refl _) _ _) _⟩
      · rw [if_neg h0] at hdec
        have hon := bad_on _ pos hp' hbad.out h0
        generalize hq : Sp.dec (a0.data.toList.drop pos) = q at *
        obtain ⟨c, n⟩ := q
        have hnx : ∀ ty, (Instr.next (.pointer (some ⟨w.heap.size, 0, none⟩)) true ty).run Try.prog wr = .ok (.tuple #[.bool true, .int .i64 pos, .int .i32 c]) (wr.iterAt w.heap.size a0 (pos + n)) := by
          intro ty
          have := Lib.run_next_any_at (P := Try.prog) wr w.heap.size a0 pos ty hit hp
          rw [hdec] at this; exact this
        have hx := Lib.hid (Lib.iterAt_heap wr w.heap.size a0 pos (pos + n) hit)
        have hb2 := Lib.hid (Lib.below_iterAt hbel.out (Nat.le_refl w.heap.size) a0 (pos + n))
        have hn1 : 1 ≤ n := by simp at h0; omega
        have hle : pos + n ≤ a0.size := by have := hsz.out; omega
        have hb3 := Lib.hid hon.1
        have hm : a0.size - (pos + n) < a0.size - pos := by omega
        have hip : wr.iterPos w.heap.size = pos := by unfold World.iterPos; rw [hit]
        have hiq : (wr.iterAt w.heap.size a0 (pos + n)).iterPos w.heap.size = pos + n := by unfold World.iterPos; rw [hx.out]
        have HI := Lib.hid hip
        have HJ := Lib.hid hiq
        by_cases hc : c = 65533
        · have hT : utf_Take.f a0 pos = some ((c : Int), (n : Int)) := by
            unfold utf_Take.f; rw [if_pos hs, htk]; rfl
          have HT := Lib.hid hT
          have hcb : ((c : Int) != 65533) = false := by rw [hc]; rfl
          have hnb : ((n : Int) == 0) = false := by rw [beq_eq_false_iff_ne]; omega
          clear hT hdec htk h0 hp' hq hon hip hiq hc hit
          go_wp2_with (go_at_call 25; refine (utf_Take.calls _ _ _ _ _ HT.out).mono ?_; rintro e w' ⟨rfl, ⟨nd, rfl⟩⟩)
          refine ⟨⟨pos + n, hx.out, hle, Lib.hid (pw_below_drewN hb2.out _), hb3⟩, ?_⟩
          show a0.size - (wr.iterAt w.heap.size a0 (pos + n)).iterPos w.heap.size < _
          rw [HI.out, HJ.out]; exact hm
        · have hcb : ((c : Int) != 65533) = true := by rw [bne_iff_ne]; omega
          clear hdec htk h0 hp' hq hon hip hiq hc hit
          go_wp2
          refine ⟨⟨pos + n, hx.out, hle, hb2, hb3⟩, ?_⟩
          rw [HI.out, HJ.out]; exact hm
    · have hnx : ∀ ty, (Instr.next (.pointer (some ⟨w.heap.size, 0, none⟩)) true ty).run Try.prog wr = .ok (.tuple #[.bool false]) wr := fun ty => Lib.run_next_end_at (P := Try.prog) wr w.heap.size a0 pos ty hit hp
      have hres := Lib.hid (bad_end a0.data.toList pos (by have := hsz.out; omega) hbad.out)
      go_wp2
      go_ret
      exact ⟨by rw [← hr.out, hres.out]; rfl, hbel.out⟩


theorem bits_cont (b : UInt8) : ((Go.bits .and .u8 (b.toNat : Int) 192) == 128) = Sp.cont b := by
  have h : ∀ n : Fin 256, ((Go.bits .and .u8 ((n : Nat) : Int) 192) == 128) = (decide (128 ≤ (n : Nat)) && decide ((n : Nat) < 192)) := by decide +kernel
  exact h ⟨b.toNat, b.toNat_lt⟩

def utf_Runes.f (a0 : ByteArray) : Option Int := if a0.size ≤ 140737488351232 then some (Sp.runes a0.data.toList : Int) else none
set_option maxHeartbeats 400000 in
theorem utf_Runes.calls (a0 : ByteArray) (r : Int) (w : World) (h : utf_Runes.f a0 = some r) :
    Calls Try.prog 33 #[.string a0] w fun e w' => e = .returned (.int .i64 r) ∧ Below w.heap.size w w' := by
  unfold utf_Runes.f at h
  have hs : a0.size ≤ 140737488351232 := by
    by_cases h' : a0.size ≤ 140737488351232
    · exact h'
    · rw [if_neg h'] at h; cases h
  rw [if_pos hs] at h
  have hr := Lib.hid (Option.some.inj h)
  clear h
  have kb := fun W => print_bytes (P := Try.prog) 9 67 5 Try.underlying9 Try.underlying67 Try.underlying5 a0 W
  have hrd := bytes_reads w 5 a0 (by omega)
  have hbl := bytes_below (Below.refl w.heap.size w) (Nat.le_refl _) 5 a0
  generalize hl : a0.data.toList = l at *
  have hlen : l.length = a0.size := by rw [← hl]; exact data_length a0
  have Hl := Lib.hid hl
  clear hl
  go_enter Try.func33, Try.ntmps33
  go_wp2
  go_loopw [3, 9] (fun v3 v9 w' => ∃ k m : Nat, k ≤ l.length ∧ v3 = .int .i64 (Sp.runes (l.take k) : Nat) ∧ v9 = .int .i64 k ∧ w' = (Lib.bytesWorld w 5 a0).drewN m) (fun _ i _ => l.length - (intOf i).toNat)
  case atStart => exact ⟨0, 0, by omega, rfl, rfl, rfl⟩
  case round =>
    obtain ⟨k, m, hk, rfl, rfl, rfl⟩ := hrel
    by_cases hlt : k < l.length
    · have hcell : ((Lib.bytesWorld w 5 a0).drewN m).cell? ⟨w.heap.size, k, none⟩ = some (.int .u8 ((l[k]'hlt).toNat : Int)) := by
        obtain ⟨ad, had, hc⟩ := hrd.at_ (k : Int) (by omega) (by omega)
        simp at had; subst had
        rw [add_plain] at hc
        rw [rd_bytesOf] at hc
        have h1 := Hl.out
        subst h1
        rw [UP.bt_nat a0 k hlt] at hc
        exact hc
      have hb := bits_cont (l[k]'hlt)
      have ht := Sp.runes_take l k hlt
      cases hcb : Sp.cont (l[k]'hlt) with
      | true =>
        rw [hcb] at hb ht
        have Ht := Lib.hid ht
        clear ht
        go_wp2
        refine ⟨⟨k + 1, m, by omega, ?_, by go_num, rfl⟩, by simp [intOf]; omega⟩
        rw [Ht.out]; rfl
      | false =>
        rw [hcb] at hb ht
        have Ht := Lib.hid ht
        clear ht
        have hle := Sp.runes_le (l.take k)
        have hle2 : (l.take k).length ≤ k := List.length_take_le _ _
        go_wp2
        refine ⟨⟨k + 1, m, by omega, ?_, by go_num, rfl⟩, by simp [intOf]; omega⟩
        rw [Ht.out]; simp; try omega
    · have hk2 : l.take k = l := List.take_of_length_le (by omega)
      have Hk := Lib.hid hk2
      clear hk2
      go_wp2
      go_ret
      exact ⟨by rw [Hk.out, hr.out]; rfl, pw_below_drewN hbl _⟩

def utf_Lines.f (a0 : ByteArray) : Option Int := if a0.size ≤ 140737488351232 then some (Sp.lines a0.data.toList : Int) else none
set_option maxHeartbeats 400000 in
theorem utf_Lines.calls (a0 : ByteArray) (r : Int) (w : World) (h : utf_Lines.f a0 = some r) :
    Calls Try.prog 42 #[.string a0] w fun e w' => e = .returned (.int .i64 r) ∧ Below w.heap.size w w' := by
  unfold utf_Lines.f at h
  have hs : a0.size ≤ 140737488351232 := by
    by_cases h' : a0.size ≤ 140737488351232
    · exact h'
    · rw [if_neg h'] at h; cases h
  rw [if_pos hs] at h
  have hr := Lib.hid (Option.some.inj h)
  clear h
  have kb := fun W => print_bytes (P := Try.prog) 9 67 5 Try.underlying9 Try.underlying67 Try.underlying5 a0 W
  have hrd := bytes_reads w 5 a0 (by omega)
  have hbl := bytes_below (Below.refl w.heap.size w) (Nat.le_refl _) 5 a0
  generalize hl : a0.data.toList = l at *
  have hlen : l.length = a0.size := by rw [← hl]; exact data_length a0
  have Hl := Lib.hid hl
  clear hl
  go_enter Try.func42, Try.ntmps42
  go_wp2
  go_loopw [3, 9] (fun v3 v9 w' => ∃ k m : Nat, k ≤ l.length ∧ v3 = .int .i64 (Sp.lines (l.take k) : Nat) ∧ v9 = .int .i64 k ∧ w' = (Lib.bytesWorld w 5 a0).drewN m) (fun _ i _ => l.length - (intOf i).toNat)
  case atStart => exact ⟨0, 0, by omega, rfl, rfl, rfl⟩
  case round =>
    obtain ⟨k, m, hk, rfl, rfl, rfl⟩ := hrel
    by_cases hlt : k < l.length
    · have hcell : ((Lib.bytesWorld w 5 a0).drewN m).cell? ⟨w.heap.size, k, none⟩ = some (.int .u8 ((l[k]'hlt).toNat : Int)) := by
        obtain ⟨ad, had, hc⟩ := hrd.at_ (k : Int) (by omega) (by omega)
        simp at had; subst had
        rw [add_plain] at hc
        rw [rd_bytesOf] at hc
        have h1 := Hl.out
        subst h1
        rw [UP.bt_nat a0 k hlt] at hc
        exact hc
      have ht := Sp.lines_take l k hlt
      by_cases h10 : (l[k]'hlt).toNat = 10
      · have hb : (((l[k]'hlt).toNat : Int) == 10) = true := by rw [beq_iff_eq]; omega
        rw [if_pos h10] at ht
        have Ht := Lib.hid ht
        clear ht h10
        have hle := Sp.lines_le (l.take k)
        have hle2 : (l.take k).length ≤ k := List.length_take_le _ _
        go_wp2
        refine ⟨⟨k + 1, m, by omega, ?_, by go_num, rfl⟩, by simp [intOf]; omega⟩
        rw [Ht.out]; simp; try omega
      · have hb : (((l[k]'hlt).toNat : Int) == 10) = false := by rw [beq_eq_false_iff_ne]; omega
        rw [if_neg h10] at ht
        have Ht := Lib.hid ht
        clear ht h10
        go_wp2
        refine ⟨⟨k + 1, m, by omega, ?_, by go_num, rfl⟩, by simp [intOf]; omega⟩
        rw [Ht.out]; rfl
    · have hk2 : l.take k = l := List.take_of_length_le (by omega)
      have Hk := Lib.hid hk2
      clear hk2
      go_wp2
      go_ret
      exact ⟨by rw [Hk.out, hr.out]; rfl, pw_below_drewN hbl _⟩

def utf_Put.f (a0 : Int) : Option ByteArray := if -2147483648 ≤ a0 ∧ a0 ≤ 2147483647 then some ⟨(Sp.encI a0).toArray⟩ else none
theorem conv4 (w : World) (b0 b1 b2 b3 : Int) (n : Nat) (hn : n ≤ 4) :
    (convert 67 9 (.slice (some ⟨w.heap.size, 0, none⟩) n 4)).run Try.prog (w.alloc (.cells #[.int .u8 b0, .int .u8 b1, .int .u8 b2, .int .u8 b3] 63)) =
      .ok (.string (strOfNums ([b0, b1, b2, b3].take n))) (w.alloc (.cells #[.int .u8 b0, .int .u8 b1, .int .u8 b2, .int .u8 b3] 63)) := by
  refine string_of_reads Try.underlying67 Try.underlying5 Try.underlying9 ⟨by simp; omega, by omega, fun _ => ⟨_, rfl, fun j hj => ?_⟩⟩
  rw [add_plain, blk_cell (blk_new w _)]
  show _ = some (Value.int .u8 (rd ([b0, b1, b2, b3].take n) (j : Int)))
  have e : rd ([b0, b1, b2, b3].take n) (j : Int) = [b0, b1, b2, b3].getD j 0 := by
    unfold rd; rw [Int.toNat_natCast, List.getD_eq_getElem?_getD, List.getElem?_take_of_lt hj, ← List.getD_eq_getElem?_getD]
  rw [show rd ([b0, b1, b2, b3].take n) (j : Int) = _ from e]
  obtain rfl | rfl | rfl | rfl : j = 0 ∨ j = 1 ∨ j = 2 ∨ j = 3 := by omega
  all_goals rfl
theorem tl (m : Nat) (hm : m < 2147483648) : Go.bits .or .i32 128 (Go.bits .and .i32 (m : Int) 63) % 256 = ((128 + m % 64 : Nat) : Int) := by
  have h := bits_mask .i32 31 (by decide) wraps_i32 6 (by decide) (m : Int) (by omega) (by omega)
  have h' : Go.bits .and .i32 (m : Int) 63 = (m : Int) % 64 := h
  rw [h', i32_or6 128 _ (by omega) (by omega) (by omega) (by omega) (by omega)]; omega
set_option maxRecDepth 100000 in
set_option maxHeartbeats 800000 in
theorem put1 (n : Int) (h0 : 0 ≤ n) (h : n < 128) (r : ByteArray) (hr : Hid (strOfNums ([n, 0, 0, 0].take 1) = r)) (w : World) : Calls Try.prog 23 #[.int .i32 n] w fun e w' => e = .returned (.string r) ∧ Below w.heap.size w w' := by
  have hal : Try.prog.arrayLen 63 = 4 := by kernel_rfl
  have hcv := conv4 w (n) (0) (0) (0) 1 (by omega)
  rw [hr.out] at hcv
  clear hr
  go_enter Try.func23, Try.ntmps23
  go_wp2
  all_goals
    refine wp_loop_rounds 1 ?_
    rw [rounds_succ]
    go_wp2
    go_ret
    exact ⟨rfl, (Below.refl _ _).alloc (Nat.le_refl _) _⟩
set_option maxRecDepth 100000 in
set_option maxHeartbeats 800000 in
theorem put2 (n : Int) (h : 128 ≤ n) (h2 : n < 2048) (r : ByteArray) (hr : Hid (strOfNums ([192 + n / 64, Go.bits .or .i32 128 (Go.bits .and .i32 n 63) % 256, 0, 0].take 2) = r)) (w : World) : Calls Try.prog 23 #[.int .i32 n] w fun e w' => e = .returned (.string r) ∧ Below w.heap.size w w' := by
  have hal : Try.prog.arrayLen 63 = 4 := by kernel_rfl
  have hcv := conv4 w (192 + n / 64) (Go.bits .or .i32 128 (Go.bits .and .i32 n 63) % 256) (0) (0) 2 (by omega)
  rw [hr.out] at hcv
  clear hr
  go_enter Try.func23, Try.ntmps23
  go_wp2
  all_goals
    refine wp_loop_rounds 2 ?_
    rw [rounds_succ]
    go_wp2
    rw [rounds_succ]
    go_wp2
    go_ret
    exact ⟨rfl, (Below.refl _ _).alloc (Nat.le_refl _) _⟩
set_option maxRecDepth 100000 in
set_option maxHeartbeats 800000 in
theorem put3a (n : Int) (h : 2048 ≤ n) (h2 : n < 55296) (r : ByteArray) (hr : Hid (strOfNums ([Go.bits .or .i32 224 (n / 4096) % 256, Go.bits .or .i32 128 (Go.bits .and .i32 (n / 64) 63) % 256, Go.bits .or .i32 128 (Go.bits .and .i32 n 63) % 256, 0].take 3) = r)) (w : World) : Calls Try.prog 23 #[.int .i32 n] w fun e w' => e = .returned (.string r) ∧ Below w.heap.size w w' := by
  have hal : Try.prog.arrayLen 63 = 4 := by kernel_rfl
  have hcv := conv4 w (Go.bits .or .i32 224 (n / 4096) % 256) (Go.bits .or .i32 128 (Go.bits .and .i32 (n / 64) 63) % 256) (Go.bits .or .i32 128 (Go.bits .and .i32 n 63) % 256) (0) 3 (by omega)
  rw [hr.out] at hcv
  clear hr
  go_enter Try.func23, Try.ntmps23
  go_wp2
  all_goals
    refine wp_loop_rounds 3 ?_
    rw [rounds_succ]
    go_wp2
    rw [rounds_succ]
    go_wp2
    rw [rounds_succ]
    go_wp2
    go_ret
    exact ⟨rfl, (Below.refl _ _).alloc (Nat.le_refl _) _⟩
set_option maxRecDepth 100000 in
set_option maxHeartbeats 800000 in
theorem put3b (n : Int) (h : 57343 < n) (h2 : n < 65536) (r : ByteArray) (hr : Hid (strOfNums ([Go.bits .or .i32 224 (n / 4096) % 256, Go.bits .or .i32 128 (Go.bits .and .i32 (n / 64) 63) % 256, Go.bits .or .i32 128 (Go.bits .and .i32 n 63) % 256, 0].take 3) = r)) (w : World) : Calls Try.prog 23 #[.int .i32 n] w fun e w' => e = .returned (.string r) ∧ Below w.heap.size w w' := by
  have hal : Try.prog.arrayLen 63 = 4 := by kernel_rfl
  have hcv := conv4 w (Go.bits .or .i32 224 (n / 4096) % 256) (Go.bits .or .i32 128 (Go.bits .and .i32 (n / 64) 63) % 256) (Go.bits .or .i32 128 (Go.bits .and .i32 n 63) % 256) (0) 3 (by omega)
  rw [hr.out] at hcv
  clear hr
  go_enter Try.func23, Try.ntmps23
  go_wp2
  all_goals
    refine wp_loop_rounds 3 ?_
    rw [rounds_succ]
    go_wp2
    rw [rounds_succ]
    go_wp2
    rw [rounds_succ]
    go_wp2
    go_ret
    exact ⟨rfl, (Below.refl _ _).alloc (Nat.le_refl _) _⟩
set_option maxRecDepth 100000 in
set_option maxHeartbeats 800000 in
theorem put4 (n : Int) (h : 65536 ≤ n) (h3 : 57343 < n) (h2 : n ≤ 1114111) (r : ByteArray) (hr : Hid (strOfNums ([Go.bits .or .i32 240 (n / 262144) % 256, Go.bits .or .i32 128 (Go.bits .and .i32 (n / 4096) 63) % 256, Go.bits .or .i32 128 (Go.bits .and .i32 (n / 64) 63) % 256, Go.bits .or .i32 128 (Go.bits .and .i32 n 63) % 256].take 4) = r)) (w : World) : Calls Try.prog 23 #[.int .i32 n] w fun e w' => e = .returned (.string r) ∧ Below w.heap.size w w' := by
  have hal : Try.prog.arrayLen 63 = 4 := by kernel_rfl
  have hcv := conv4 w (Go.bits .or .i32 240 (n / 262144) % 256) (Go.bits .or .i32 128 (Go.bits .and .i32 (n / 4096) 63) % 256) (Go.bits .or .i32 128 (Go.bits .and .i32 (n / 64) 63) % 256) (Go.bits .or .i32 128 (Go.bits .and .i32 n 63) % 256) 4 (by omega)
  rw [hr.out] at hcv
  clear hr
  go_enter Try.func23, Try.ntmps23
  go_wp2
  all_goals
    refine wp_loop_rounds 4 ?_
    rw [rounds_succ]
    go_wp2
    rw [rounds_succ]
    go_wp2
    rw [rounds_succ]
    go_wp2
    rw [rounds_succ]
    go_wp2
    go_ret
    exact ⟨rfl, (Below.refl _ _).alloc (Nat.le_refl _) _⟩
set_option maxRecDepth 100000 in
set_option maxHeartbeats 800000 in
theorem put0a (n : Int) (h : n < 0) (w : World) : Calls Try.prog 23 #[.int .i32 n] w fun e w' => e = .returned (.string ⟨#[]⟩) ∧ Below w.heap.size w w' := by
  go_enter Try.func23, Try.ntmps23
  go_wp2
  go_ret
  exact ⟨rfl, Below.refl _ _⟩
set_option maxRecDepth 100000 in
set_option maxHeartbeats 800000 in
theorem put0b (n : Int) (h : 1114111 < n) (w : World) : Calls Try.prog 23 #[.int .i32 n] w fun e w' => e = .returned (.string ⟨#[]⟩) ∧ Below w.heap.size w w' := by
  go_enter Try.func23, Try.ntmps23
  go_wp2
  go_ret
  exact ⟨rfl, Below.refl _ _⟩
set_option maxRecDepth 100000 in
set_option maxHeartbeats 800000 in
theorem put0c (n : Int) (h : 55296 ≤ n) (h2 : n ≤ 57343) (w : World) : Calls Try.prog 23 #[.int .i32 n] w fun e w' => e = .returned (.string ⟨#[]⟩) ∧ Below w.heap.size w w' := by
  have hA : decide (n < 55296) = false := decide_eq_false (by omega)
  have hB : decide (57343 < n) = false := decide_eq_false (by omega)
  have h5 : ¬ 57343 < n := by omega
  go_enter Try.func23, Try.ntmps23
  go_wp2
  go_ret
  exact ⟨rfl, Below.refl _ _⟩
theorem or_lead (m j p : Nat) (hm : m < 16) (hj : (j = 224 ∧ p = 4) ∨ (j = 240 ∧ p = 3)) (hp : m < 2 ^ p) : Go.bits .or .i32 (j : Int) (m : Int) % 256 = ((j + m : Nat) : Int) := by
  rcases hj with ⟨rfl, rfl⟩ | ⟨rfl, rfl⟩
  · have h : Go.bits .or .i32 (224 : Int) (m : Int) = 224 + (m : Int) := bits_join .i32 31 (by decide) wraps_i32 4 224 m (by decide) (by decide) (by decide) (by omega) (by omega) (by omega)
    rw [show ((224 : Nat) : Int) = 224 from rfl, h]; omega
  · have h : Go.bits .or .i32 (240 : Int) (m : Int) = 240 + (m : Int) := bits_join .i32 31 (by decide) wraps_i32 3 240 m (by decide) (by decide) (by decide) (by omega) (by omega) (by omega)
    rw [show ((240 : Nat) : Int) = 240 from rfl, h]; omega
theorem utf_Put.calls (a0 : Int) (r : ByteArray) (w : World) (h : utf_Put.f a0 = some r) :
    Calls Try.prog 23 #[.int .i32 a0] w fun e w' => e = .returned (.string r) ∧ Below w.heap.size w w' := by
  unfold utf_Put.f at h
  by_cases hb : -2147483648 ≤ a0 ∧ a0 ≤ 2147483647
  · rw [if_pos hb] at h
    have hr := Option.some.inj h
    subst hr
    clear h
    by_cases hn : a0 < 0
    · rw [show Sp.encI a0 = [] by unfold Sp.encI; rw [if_neg (by omega)]]; exact put0a a0 hn w
    obtain ⟨n, rfl⟩ := Int.eq_ofNat_of_zero_le (by omega : 0 ≤ a0)
    by_cases hl : 1114111 < n
    · rw [show Sp.encI n = [] by unfold Sp.encI; rw [if_pos (by omega), Int.toNat_natCast]; exact Sp.enc_none (by simp [Sp.isRune]; omega)]; exact put0b n (by omega) w
    by_cases hs : 55296 ≤ n ∧ n ≤ 57343
    · rw [show Sp.encI n = [] by unfold Sp.encI; rw [if_pos (by omega), Int.toNat_natCast]; exact Sp.enc_none (by simp [Sp.isRune]; omega)]; exact put0c n (by omega) (by omega) w
    have hR : Sp.isRune n = true := by simp [Sp.isRune]; omega
    have hE : Sp.encI n = Sp.enc n := by unfold Sp.encI; rw [if_pos (by omega), Int.toNat_natCast]
    rw [hE]
    unfold Sp.enc
    rw [if_pos hR]
    by_cases c1 : n < 128
    · rw [if_pos c1]
      refine put1 n (by omega) (by omega) _ (Lib.hid ?_) w
      refine UP.str_of _ _ ?_
      simp only [List.take_succ_cons, List.take_zero, List.map_cons, List.map_nil, Int.toNat_natCast]
    rw [if_neg c1]
    have t0 := tl n (by omega)
    have t1 := tl (n / 64) (by omega)
    have t2 := tl (n / 4096) (by omega)
    by_cases c2 : n < 2048
    · rw [if_pos c2]
      refine put2 n (by omega) (by omega) _ (Lib.hid ?_) w
      refine UP.str_of _ _ ?_
      have e0 : (192 + (n : Int) / 64).toNat = 192 + n / 64 := by omega
      simp only [List.take_succ_cons, List.take_zero, List.map_cons, List.map_nil, e0, t0, Int.toNat_natCast]
    rw [if_neg c2]
    have d1 : ((n : Int) / 64) = ((n / 64 : Nat) : Int) := rfl
    have d2 : ((n : Int) / 4096) = ((n / 4096 : Nat) : Int) := rfl
    have d3 : ((n : Int) / 262144) = ((n / 262144 : Nat) : Int) := rfl
    by_cases c3 : n < 65536
    · rw [if_pos c3]
      have o := or_lead (n / 4096) 224 4 (by omega) (.inl ⟨rfl, rfl⟩) (by omega)
      have hst : strOfNums ([Go.bits .or .i32 224 ((n : Int) / 4096) % 256, Go.bits .or .i32 128 (Go.bits .and .i32 ((n : Int) / 64) 63) % 256, Go.bits .or .i32 128 (Go.bits .and .i32 (n : Int) 63) % 256, 0].take 3) = ⟨[UInt8.ofNat (224 + n / 4096), UInt8.ofNat (128 + n / 64 % 64), UInt8.ofNat (128 + n % 64)].toArray⟩ := by
        refine UP.str_of _ _ ?_
        rw [d1, d2, t0, t1, show Go.bits .or .i32 224 ((n / 4096 : Nat) : Int) % 256 = _ from o]
        simp only [List.take_succ_cons, List.take_zero, List.map_cons, List.map_nil, Int.toNat_natCast]
      by_cases c4 : n < 55296
      · exact put3a n (by omega) (by omega) _ (Lib.hid hst) w
      · exact put3b n (by omega) (by omega) _ (Lib.hid hst) w
    · rw [if_neg c3]
      have o := or_lead (n / 262144) 240 3 (by omega) (.inr ⟨rfl, rfl⟩) (by omega)
      refine put4 n (by omega) (by omega) (by omega) _ (Lib.hid ?_) w
      refine UP.str_of _ _ ?_
      rw [d1, d2, d3, t0, t1, t2, show Go.bits .or .i32 240 ((n / 262144 : Nat) : Int) % 256 = _ from o]
      simp only [List.take_succ_cons, List.take_zero, List.map_cons, List.map_nil, Int.toNat_natCast]
  · rw [if_neg hb] at h; cases h

theorem utf_Valid.walk (a0 : ByteArray) (v : Int) (w : World) (hv : utf_Bad.f a0 = some v) :
    Calls Try.prog 32 #[.string a0] w fun e w' => e = .returned (.bool (decide (v < 0))) ∧ Below w.heap.size w w' := by
  have HV := Lib.hid hv
  clear hv
  go_enter Try.func32, Try.ntmps32
  go_wp2_with (go_at_call 34; refine (utf_Bad.calls _ _ _ HV.out).mono ?_; rintro e w' ⟨rfl, hb⟩)
  go_ret
  exact ⟨rfl, hb⟩
def utf_Valid.f (a0 : ByteArray) : Option Bool := if a0.size ≤ 140737488351232 then some (Sp.valid a0.data.toList) else none
theorem utf_Valid.calls (a0 : ByteArray) (r : Bool) (w : World) (h : utf_Valid.f a0 = some r) :
    Calls Try.prog 32 #[.string a0] w fun e w' => e = .returned (.bool r) ∧ Below w.heap.size w w' := by
  obtain ⟨hs, rfl⟩ := fit h
  have := utf_Valid.walk a0 (Sp.badI a0.data.toList) w (by unfold utf_Bad.f; rw [if_pos hs])
  rw [Sp.badI_neg] at this
  exact this
def utf_Back.f (a0 : ByteArray) (a1 : Int) : Option Int := if a0.size ≤ 140737488351232 then some (Sp.back a0.data.toList a1 : Int) else none
theorem utf_Back.calls (a0 : ByteArray) (a1 : Int) (r : Int) (w : World) (h : utf_Back.f a0 a1 = some r) :
    Calls Try.prog 30 #[.string a0, .int .i64 a1] w fun e w' => e = .returned (.int .i64 r) ∧ Below w.heap.size w w' := by
  obtain ⟨hs, hr⟩ := fit h
  exact QU.utf_Back.calls (a0.size + 10) a0 a1 r w (by rw [UP.back_f a0 hs a1 _ (Nat.le_refl _), hr])
def stylusref01_Put.f (a0 : Int) : Option ByteArray := if -2147483648 ≤ a0 ∧ a0 ≤ 2147483647 then some ⟨(Sp.encI a0).toArray⟩ else none
theorem stylusref01_Put.calls (a0 : Int) (r : ByteArray) (w : World) (h : stylusref01_Put.f a0 = some r) :
    Calls Try.prog 24 #[.int .i32 a0] w fun e w' => e = .returned (.string r) ∧ Below w.heap.size w w' := by
  unfold stylusref01_Put.f at h
  by_cases hb : -2147483648 ≤ a0 ∧ a0 ≤ 2147483647
  · rw [if_pos hb] at h
    exact QU.stylusref01_Put.calls a0 r w (by rw [UP.put_f a0 hb.1 hb.2]; exact h)
  · rw [if_neg hb] at h; cases h
def stylusref01_Take.f (a0 : ByteArray) (a1 : Int) : Option (Int × Int) := if a0.size ≤ 140737488351232 then some (UP.pr (Sp.take a0.data.toList a1)) else none
theorem stylusref01_Take.calls (a0 : ByteArray) (a1 : Int) (r1 : Int) (r2 : Int) (w : World) (h : stylusref01_Take.f a0 a1 = some (r1, r2)) :
    Calls Try.prog 27 #[.string a0, .int .i64 a1] w fun e w' => e = .returned (.tuple #[.int .i32 r1, .int .i64 r2]) ∧ Below w.heap.size w w' := by
  obtain ⟨hs, hr⟩ := fit h
  exact QU.stylusref01_Take.calls 40 a0 a1 r1 r2 w (by rw [UP.rtake_f a0 hs a1 40 (Nat.le_refl _), hr])
def stylusref01_Bad.f (a0 : ByteArray) : Option Int := if a0.size ≤ 140737488351232 then some (Sp.badI a0.data.toList) else none
theorem stylusref01_Bad.calls (a0 : ByteArray) (r : Int) (w : World) (h : stylusref01_Bad.f a0 = some r) :
    Calls Try.prog 40 #[.string a0] w fun e w' => e = .returned (.int .i64 r) ∧ Below w.heap.size w w' := by
  obtain ⟨hs, hr⟩ := fit h
  exact QU.stylusref01_Bad.calls (a0.size + 50) a0 r w (by rw [UP.rbad_f a0 hs _ (Nat.le_refl _), hr])
def stylusref01_Valid.f (a0 : ByteArray) : Option Bool := if a0.size ≤ 140737488351232 then some (Sp.valid a0.data.toList) else none
theorem stylusref01_Valid.calls (a0 : ByteArray) (r : Bool) (w : World) (h : stylusref01_Valid.f a0 = some r) :
    Calls Try.prog 35 #[.string a0] w fun e w' => e = .returned (.bool r) ∧ Below w.heap.size w w' := by
  obtain ⟨hs, hr⟩ := fit h
  exact QU.stylusref01_Valid.calls (a0.size + 50) a0 r w (by rw [UP.rvalid_f a0 hs _ (Nat.le_refl _), hr])
def stylusref01_Edge.f (a0 : ByteArray) (a1 : Int) : Option Bool := some (Sp.edge a0.data.toList a1)
theorem stylusref01_Edge.calls (a0 : ByteArray) (a1 : Int) (r : Bool) (w : World) (h : stylusref01_Edge.f a0 a1 = some r) :
    Calls Try.prog 29 #[.string a0, .int .i64 a1] w fun e w' => e = .returned (.bool r) ∧ Drawn0 w w' :=
  QU.stylusref01_Edge.calls a0 a1 r w (by rw [UP.redge_f a0 a1]; exact h)
def stylusref01_Back.f (a0 : ByteArray) (a1 : Int) : Option Int := if a0.size ≤ 140737488351232 then some (Sp.back a0.data.toList a1 : Int) else none
theorem stylusref01_Back.calls (a0 : ByteArray) (a1 : Int) (r : Int) (w : World) (h : stylusref01_Back.f a0 a1 = some r) :
    Calls Try.prog 31 #[.string a0, .int .i64 a1] w fun e w' => e = .returned (.int .i64 r) ∧ Drawn0 w w' := by
  obtain ⟨hs, hr⟩ := fit h
  exact QU.stylusref01_Back.calls (2 * a0.size + 50) a0 a1 r w (by rw [UP.rback_f a0 hs a1 _ (Nat.le_refl _), hr])
def stylusref01_Runes.f (a0 : ByteArray) : Option Int := if a0.size ≤ 140737488351232 then some (Sp.runes a0.data.toList : Int) else none
theorem stylusref01_Runes.calls (a0 : ByteArray) (r : Int) (w : World) (h : stylusref01_Runes.f a0 = some r) :
    Calls Try.prog 41 #[.string a0] w fun e w' => e = .returned (.int .i64 r) ∧ Drawn0 w w' := by
  obtain ⟨hs, hr⟩ := fit h
  exact QU.stylusref01_Runes.calls (a0.size + 50) a0 r w (by rw [UP.rrunes_f a0 hs _ (Nat.le_refl _), hr])
def stylusref01_Lines.f (a0 : ByteArray) : Option Int := if a0.size ≤ 140737488351232 then some (Sp.lines a0.data.toList : Int) else none
theorem stylusref01_Lines.calls (a0 : ByteArray) (r : Int) (w : World) (h : stylusref01_Lines.f a0 = some r) :
    Calls Try.prog 43 #[.string a0] w fun e w' => e = .returned (.int .i64 r) ∧ Drawn0 w w' := by
  obtain ⟨hs, hr⟩ := fit h
  exact QU.stylusref01_Lines.calls (a0.size + 50) a0 r w (by rw [UP.rlines_f a0 hs _ (Nat.le_refl _), hr])
end Go.Proofs.Yteniemhecfkfoaa.U
