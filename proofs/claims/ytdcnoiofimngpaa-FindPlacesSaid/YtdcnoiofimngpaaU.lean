import Derived.Test.YtdcnoiofimngpaaUp
import Derived.Test.YtdcnoiofimngpaaSpec
import Derived.Lib.Hide
import Derived.Lib.OthersKept
import Derived.LoopN
/- Contracts of the functions of runes, in plain words. -/
namespace Go.Proofs.Ytdcnoiofimngpaa.U
open Go.RowKit Go.Proofs.YtdcnoiofimngpaaW.PrintWords Go.Proofs.YtdcnoiofimngpaaW.PrintLast Go.Proofs.YtdcnoiofimngpaaW.PrintMore
set_option linter.unusedVariables false
set_option linter.unusedSimpArgs false

theorem fit {α : Type} {s : ByteArray} {x r : α} (h : (if s.size ≤ 140737488351232 then some x else none) = some r) : s.size ≤ 140737488351232 ∧ x = r := by
  by_cases h' : s.size ≤ 140737488351232
  · rw [if_pos h'] at h; exact ⟨h', Option.some.inj h⟩
  · rw [if_neg h'] at h; cases h

def utf_Take.f (a0 : ByteArray) (a1 : Int) : Option (Int × Int) := if a0.size ≤ 140737488351232 then some (UP.pr (Sp.take a0.data.toList a1)) else none
theorem utf_Take.calls (a0 : ByteArray) (a1 : Int) (r1 : Int) (r2 : Int) (w : World) (h : utf_Take.f a0 a1 = some (r1, r2)) :
    Calls Try.prog 63 #[.string a0, .int .i64 a1] w fun e w' => e = .returned (.tuple #[.int .i32 r1, .int .i64 r2]) ∧ Drawn0 w w' := by
  obtain ⟨hs, hr⟩ := fit h
  exact QU.utf_Take.calls 10 a0 a1 r1 r2 w (by rw [UP.take_f a0 hs a1 10 (Nat.le_refl _), hr])
def utf_Edge.f (a0 : ByteArray) (a1 : Int) : Option Bool := some (Sp.edge a0.data.toList a1)
theorem utf_Edge.calls (a0 : ByteArray) (a1 : Int) (r : Bool) (w : World) (h : utf_Edge.f a0 a1 = some r) :
    Calls Try.prog 104 #[.string a0, .int .i64 a1] w fun e w' => e = .returned (.bool r) ∧ Drawn0 w w' :=
  QU.utf_Edge.calls 1 a0 a1 r w (by rw [UP.edge_f a0 a1 1 (Nat.le_refl _)]; exact h)

def utf_Bad.f (a0 : ByteArray) : Option Int := if a0.size ≤ 140737488351232 then some (Sp.badI a0.data.toList) else none
theorem bad_here (l : List UInt8) (pos : Nat) (hp : pos < l.length) (hf : Sp.badF (l.drop pos).length (l.drop pos) pos = Sp.bad l) (h : (Sp.dec (l.drop pos)).2 = 0) : Sp.badI l = pos := by
  have hne : l.drop pos ≠ [] := by intro h'; have := congrArg List.length h'; rw [List.length_drop, List.length_nil] at this; omega
  rw [Sp.badF_step _ _ hne, if_pos h] at hf
  unfold Sp.badI; rw [← hf]
theorem bad_on (l : List UInt8) (pos : Nat) (hp : pos < l.length) (hf : Sp.badF (l.drop pos).length (l.drop pos) pos = Sp.bad l) (h : (Sp.dec (l.drop pos)).2 ≠ 0) :
    Sp.badF (l.drop (pos + (Sp.dec (l.drop pos)).2)).length (l.drop (pos + (Sp.dec (l.drop pos)).2)) (pos + (Sp.dec (l.drop pos)).2) = Sp.bad l ∧ pos + (Sp.dec (l.drop pos)).2 ≤ l.length := by
  have hne : l.drop pos ≠ [] := by intro h'; have := congrArg List.length h'; rw [List.length_drop, List.length_nil] at this; omega
  rw [Sp.badF_step _ _ hne, if_neg h, List.drop_drop] at hf
  have := @Sp.dec_le (l.drop pos)
  rw [List.length_drop] at this
  exact ⟨hf, by omega⟩
theorem bad_end (l : List UInt8) (pos : Nat) (hp : ¬ pos < l.length) (hf : Sp.badF (l.drop pos).length (l.drop pos) pos = Sp.bad l) : Sp.badI l = -1 := by
  rw [List.drop_of_length_le (by omega), Sp.badF_nil] at hf
  unfold Sp.badI; rw [← hf]
set_option maxHeartbeats 400000 in
theorem utf_Bad.calls (a0 : ByteArray) (r : Int) (w : World) (h : utf_Bad.f a0 = some r) :
    Calls Try.prog 72 #[.string a0] w fun e w' => e = .returned (.int .i64 r) ∧ Below w.heap.size w w' := by
  obtain ⟨hs, hr0⟩ := fit h
  clear h
  have hsz := Lib.hid (data_length a0)
  have hr := Lib.hid hr0
  clear hr0
  go_enter Try.func72, Try.ntmps72
  go_wp2
  go_loopw [3, 4] (fun v3 v4 w' => ∃ pos : Nat, w'.heap[w.heap.size]? = some (.stringIter a0 pos) ∧ pos ≤ a0.size ∧ Hid (Below w.heap.size w w') ∧ Hid (Sp.badF (a0.data.toList.drop pos).length (a0.data.toList.drop pos) pos = Sp.bad a0.data.toList)) (fun _ _ w' => a0.size - w'.iterPos w.heap.size)
  case atStart => exact ⟨0, World.iter_heap w a0 0, Nat.zero_le _, Lib.hid ((Below.refl _ _).alloc (Nat.le_refl _) _), Lib.hid rfl⟩
  case round =>
    obtain ⟨pos, hit, hple, hbel, hbad⟩ := hrel
    by_cases hp : pos < a0.size
    · have hp' : pos < a0.data.toList.length := by have := hsz.out; omega
      have hdec := UP.decode_dec a0 pos hp
      have htk := UP.take_at a0.data.toList pos hp'
      by_cases h0 : (Sp.dec (a0.data.toList.drop pos)).2 = 0
      · rw [if_pos h0] at hdec
        have hres := bad_here _ pos hp' hbad.out h0
        have hnx : ∀ ty, (Instr.next (.pointer (some ⟨w.heap.size, 0, none⟩)) true ty).run Try.prog wr = .ok (.tuple #[.bool true, .int .i64 pos, .int .i32 65533]) (wr.iterAt w.heap.size a0 (pos + 1)) := by
          intro ty
          have := Lib.run_next_any_at (P := Try.prog) wr w.heap.size a0 pos ty hit hp
          rw [hdec] at this; exact this
        have hT : utf_Take.f a0 pos = some (0, 0) := by
          unfold utf_Take.f; rw [if_pos hs, htk, Sp.dec_zero h0]; rfl
        have HT := Lib.hid hT
        have HR := Lib.hid hres
        clear hT hres hdec htk h0 hp'
        go_wp2_with (go_at_call 63; refine (utf_Take.calls _ _ _ _ _ HT.out).mono ?_; rintro e w' ⟨rfl, ⟨nd, rfl⟩⟩)
        go_ret
        exact ⟨by rw [← hr.out, HR.out]; rfl, pw_below_drewN (Lib.below_iterAt hbel.out (Nat.le_refl _) _ _) _⟩
      · rw [if_neg h0] at hdec
        have hon := bad_on _ pos hp' hbad.out h0
        generalize hq : Sp.dec (a0.data.toList.drop pos) = q at *
        obtain ⟨c, n⟩ := q
        have hnx : ∀ ty, (Instr.next (.pointer (some ⟨w.heap.size, 0, none⟩)) true ty).run Try.prog wr = .ok (.tuple #[.bool true, .int .i64 pos, .int .i32 c]) (wr.iterAt w.heap.size a0 (pos + n)) := by
          intro ty
          have := Lib.run_next_any_at (P := Try.prog) wr w.heap.size a0 pos ty hit hp
          rw [hdec] at this; exact this
        have hx := Lib.hid (Lib.iterAt_heap wr w.heap.size a0 pos (pos + n) hit)
        have hb2 := Lib.hid (Lib.below_iterAt hbel.out (Nat.le_refl w.heap.size) a0 (pos + n))
        have hn1 : 1 ≤ n := by simp at h0; omega
        have hle : pos + n ≤ a0.size := by have := hsz.out; omega
        have hb3 := Lib.hid hon.1
        have hm : a0.size - (pos + n) < a0.size - pos := by omega
        have hip : wr.iterPos w.heap.size = pos := by unfold World.iterPos; rw [hit]
        have hiq : (wr.iterAt w.heap.size a0 (pos + n)).iterPos w.heap.size = pos + n := by unfold World.iterPos; rw [hx.out]
        have HI := Lib.hid hip
        have HJ := Lib.hid hiq
        by_cases hc : c = 65533
        · have hT : utf_Take.f a0 pos = some ((c : Int), (n : Int)) := by
            unfold utf_Take.f; rw [if_pos hs, htk]; rfl
          have HT := Lib.hid hT
          have hcb : ((c : Int) != 65533) = false := by rw [hc]; rfl
          have hnb : ((n : Int) == 0) = false := by rw [beq_eq_false_iff_ne]; omega
          clear hT hdec htk h0 hp' hq hon hip hiq hc hit
          go_wp2_with (go_at_call 63; refine (utf_Take.calls _ _ _ _ _ HT.out).mono ?_; rintro e w' ⟨rfl, ⟨nd, rfl⟩⟩)
          refine ⟨⟨pos + n, hx.out, hle, Lib.hid (pw_below_drewN hb2.out _), hb3⟩, ?_⟩
          show a0.size - (wr.iterAt w.heap.size a0 (pos + n)).iterPos w.heap.size < _
          rw [HI.out, HJ.out]; exact hm
        · have hcb : ((c : Int) != 65533) = true := by rw [bne_iff_ne]; omega
          clear hdec htk h0 hp' hq hon hip hiq hc hit
          go_wp2
          refine ⟨⟨pos + n, hx.out, hle, hb2, hb3⟩, ?_⟩
          rw [HI.out, HJ.out]; exact hm
    · have hnx : ∀ ty, (Instr.next (.pointer (some ⟨w.heap.size, 0, none⟩)) true ty).run Try.prog wr = .ok (.tuple #[.bool false]) wr := fun ty => Lib.run_next_end_at (P := Try.prog) wr w.heap.size a0 pos ty hit hp
      have hres := Lib.hid (bad_end a0.data.toList pos (by have := hsz.out; omega) hbad.out)
      go_wp2
      go_ret
      exact ⟨by rw [← hr.out, hres.out]; rfl, hbel.out⟩


theorem bits_cont (b : UInt8) : ((Go.bits .and .u8 (b.toNat : Int) 192) == 128) = Sp.cont b := by
  have h : ∀ n : Fin 256, ((Go.bits .and .u8 ((n : Nat) : Int) 192) == 128) = (decide (128 ≤ (n : Nat)) && decide ((n : Nat) < 192)) := by decide +kernel
  exact h ⟨b.toNat, b.toNat_lt⟩

def utf_Runes.f (a0 : ByteArray) : Option Int := if a0.size ≤ 140737488351232 then some (Sp.runes a0.data.toList : Int) else none
set_option maxHeartbeats 400000 in
theorem utf_Runes.calls (a0 : ByteArray) (r : Int) (w : World) (h : utf_Runes.f a0 = some r) :
    Calls Try.prog 114 #[.string a0] w fun e w' => e = .returned (.int .i64 r) ∧ Below w.heap.size w w' := by
  unfold utf_Runes.f at h
  have hs : a0.size ≤ 140737488351232 := by
    by_cases h' : a0.size ≤ 140737488351232
    · exact h'
    · rw [if_neg h'] at h; cases h
  rw [if_pos hs] at h
  have hr := Lib.hid (Option.some.inj h)
  clear h
  have kb := fun W => print_bytes (P := Try.prog) 9 120 5 Try.underlying9 Try.underlying120 Try.underlying5 a0 W
  have hrd := bytes_reads w 5 a0 (by omega)
  have hbl := bytes_below (Below.refl w.heap.size w) (Nat.le_refl _) 5 a0
  generalize hl : a0.data.toList = l at *
  have hlen : l.length = a0.size := by rw [← hl]; exact data_length a0
  have Hl := Lib.hid hl
  clear hl
  go_enter Try.func114, Try.ntmps114
  go_wp2
  go_loopw [3, 9] (fun v3 v9 w' => ∃ k m : Nat, k ≤ l.length ∧ v3 = .int .i64 (Sp.runes (l.take k) : Nat) ∧ v9 = .int .i64 k ∧ w' = (Lib.bytesWorld w 5 a0).drewN m) (fun _ i _ => l.length - (intOf i).toNat)
  case atStart => exact ⟨0, 0, by omega, rfl, rfl, rfl⟩
  case round =>
    obtain ⟨k, m, hk, rfl, rfl, rfl⟩ := hrel
    by_cases hlt : k < l.length
    · have hcell : ((Lib.bytesWorld w 5 a0).drewN m).cell? ⟨w.heap.size, k, none⟩ = some (.int .u8 ((l[k]'hlt).toNat : Int)) := by
        obtain ⟨ad, had, hc⟩ := hrd.at_ (k : Int) (by omega) (by omega)
        simp at had; subst had
        rw [add_plain] at hc
        rw [rd_bytesOf] at hc
        have h1 := Hl.out
        subst h1
        rw [UP.bt_nat a0 k hlt] at hc
        exact hc
      have hb := bits_cont (l[k]'hlt)
      have ht := Sp.runes_take l k hlt
      cases hcb : Sp.cont (l[k]'hlt) with
      | true =>
        rw [hcb] at hb ht
        have Ht := Lib.hid ht
        clear ht
        go_wp2
        refine ⟨⟨k + 1, m, by omega, ?_, by go_num, rfl⟩, by simp [intOf]; omega⟩
        rw [Ht.out]; rfl
      | false =>
        rw [hcb] at hb ht
        have Ht := Lib.hid ht
        clear ht
        have hle := Sp.runes_le (l.take k)
        have hle2 : (l.take k).length ≤ k := List.length_take_le _ _
        go_wp2
        refine ⟨⟨k + 1, m, by omega, ?_, by go_num, rfl⟩, by simp [intOf]; omega⟩
        rw [Ht.out]; simp; try omega
    · have hk2 : l.take k = l := List.take_of_length_le (by omega)
      have Hk := Lib.hid hk2
      clear hk2
      go_wp2
      go_ret
      exact ⟨by rw [Hk.out, hr.out]; rfl, pw_below_drewN hbl _⟩

def utf_Lines.f (a0 : ByteArray) : Option Int := if a0.size ≤ 140737488351232 then some (Sp.lines a0.data.toList : Int) else none
set_option maxHeartbeats 400000 in
theorem utf_Lines.calls (a0 : ByteArray) (r : Int) (w : World) (h : utf_Lines.f a0 = some r) :
    Calls Try.prog 115 #[.string a0] w fun e w' => e = .returned (.int .i64 r) ∧ Below w.heap.size w w' := by
  unfold utf_Lines.f at h
  have hs : a0.size ≤ 140737488351232 := by
    by_cases h' : a0.size ≤ 140737488351232
    · exact h'
    · rw [if_neg h'] at h; cases h
  rw [if_pos hs] at h
  have hr := Lib.hid (Option.some.inj h)
  clear h
  have kb := fun W => print_bytes (P := Try.prog) 9 120 5 Try.underlying9 Try.underlying120 Try.underlying5 a0 W
  have hrd := bytes_reads w 5 a0 (by omega)
  have hbl := bytes_below (Below.refl w.heap.size w) (Nat.le_refl _) 5 a0
  generalize hl : a0.data.toList = l at *
  have hlen : l.length = a0.size := by rw [← hl]; exact data_length a0
  have Hl := Lib.hid hl
  clear hl
  go_enter Try.func115, Try.ntmps115
  go_wp2
  go_loopw [3, 9] (fun v3 v9 w' => ∃ k m : Nat, k ≤ l.length ∧ v3 = .int .i64 (Sp.lines (l.take k) : Nat) ∧ v9 = .int .i64 k ∧ w' = (Lib.bytesWorld w 5 a0).drewN m) (fun _ i _ => l.length - (intOf i).toNat)
  case atStart => exact ⟨0, 0, by omega, rfl, rfl, rfl⟩
  case round =>
    obtain ⟨k, m, hk, rfl, rfl, rfl⟩ := hrel
    by_cases hlt : k < l.length
    · have hcell : ((Lib.bytesWorld w 5 a0).drewN m).cell? ⟨w.heap.size, k, none⟩ = some (.int .u8 ((l[k]'hlt).toNat : Int)) := by
        obtain ⟨ad, had, hc⟩ := hrd.at_ (k : Int) (by omega) (by omega)
        simp at had; subst had
        rw [add_plain] at hc
        rw [rd_bytesOf] at hc
        have h1 := Hl.out
        subst h1
        rw [UP.bt_nat a0 k hlt] at hc
        exact hc
      have ht := Sp.lines_take l k hlt
      by_cases h10 : (l[k]'hlt).toNat = 10
      · have hb : (((l[k]'hlt).toNat : Int) == 10) = true := by rw [beq_iff_eq]; omega
        rw [if_pos h10] at ht
        have Ht := Lib.hid ht
        clear ht h10
        have hle := Sp.lines_le (l.take k)
        have hle2 : (l.take k).length ≤ k := List.length_take_le _ _
        go_wp2
        refine ⟨⟨k + 1, m, by omega, ?_, by go_num, rfl⟩, by simp [intOf]; omega⟩
        rw [Ht.out]; simp; try omega
      · have hb : (((l[k]'hlt).toNat : Int) == 10) = false := by rw [beq_eq_false_iff_ne]; omega
        rw [if_neg h10] at ht
        have Ht := Lib.hid ht
        clear ht h10
        go_wp2
        refine ⟨⟨k + 1, m, by omega, ?_, by go_num, rfl⟩, by simp [intOf]; omega⟩
        rw [Ht.out]; rfl
    · have hk2 : l.take k = l := List.take_of_length_le (by omega)
      have Hk := Lib.hid hk2
      clear hk2
      go_wp2
      go_ret
      exact ⟨by rw [Hk.out, hr.out]; rfl, pw_below_drewN hbl _⟩

theorem utf_Valid.walk (a0 : ByteArray) (v : Int) (w : World) (hv : utf_Bad.f a0 = some v) :
    Calls Try.prog 47 #[.string a0] w fun e w' => e = .returned (.bool (decide (v < 0))) ∧ Below w.heap.size w w' := by
  have HV := Lib.hid hv
  clear hv
  go_enter Try.func47, Try.ntmps47
  go_wp2_with (go_at_call 72; refine (utf_Bad.calls _ _ _ HV.out).mono ?_; rintro e w' ⟨rfl, hb⟩)
  go_ret
  exact ⟨rfl, hb⟩
def utf_Valid.f (a0 : ByteArray) : Option Bool := if a0.size ≤ 140737488351232 then some (Sp.valid a0.data.toList) else none
theorem utf_Valid.calls (a0 : ByteArray) (r : Bool) (w : World) (h : utf_Valid.f a0 = some r) :
    Calls Try.prog 47 #[.string a0] w fun e w' => e = .returned (.bool r) ∧ Below w.heap.size w w' := by
  obtain ⟨hs, rfl⟩ := fit h
  have := utf_Valid.walk a0 (Sp.badI a0.data.toList) w (by unfold utf_Bad.f; rw [if_pos hs])
  rw [Sp.badI_neg] at this
  exact this
def utf_Back.f (a0 : ByteArray) (a1 : Int) : Option Int := if a0.size ≤ 140737488351232 then some (Sp.back a0.data.toList a1 : Int) else none
theorem utf_Back.calls (a0 : ByteArray) (a1 : Int) (r : Int) (w : World) (h : utf_Back.f a0 a1 = some r) :
    Calls Try.prog 96 #[.string a0, .int .i64 a1] w fun e w' => e = .returned (.int .i64 r) ∧ Below w.heap.size w w' := by
  obtain ⟨hs, hr⟩ := fit h
  exact QU.utf_Back.calls (a0.size + 10) a0 a1 r w (by rw [UP.back_f a0 hs a1 _ (Nat.le_refl _), hr])
def stylusref01_Put.f (a0 : Int) : Option ByteArray := if -2147483648 ≤ a0 ∧ a0 ≤ 2147483647 then some ⟨(Sp.encI a0).toArray⟩ else none
theorem stylusref01_Put.calls (a0 : Int) (r : ByteArray) (w : World) (h : stylusref01_Put.f a0 = some r) :
    Calls Try.prog 95 #[.int .i32 a0] w fun e w' => e = .returned (.string r) ∧ Below w.heap.size w w' := by
  unfold stylusref01_Put.f at h
  by_cases hb : -2147483648 ≤ a0 ∧ a0 ≤ 2147483647
  · rw [if_pos hb] at h
    exact QU.stylusref01_Put.calls a0 r w (by rw [UP.put_f a0 hb.1 hb.2]; exact h)
  · rw [if_neg hb] at h; cases h
def stylusref01_Take.f (a0 : ByteArray) (a1 : Int) : Option (Int × Int) := if a0.size ≤ 140737488351232 then some (UP.pr (Sp.take a0.data.toList a1)) else none
theorem stylusref01_Take.calls (a0 : ByteArray) (a1 : Int) (r1 : Int) (r2 : Int) (w : World) (h : stylusref01_Take.f a0 a1 = some (r1, r2)) :
    Calls Try.prog 71 #[.string a0, .int .i64 a1] w fun e w' => e = .returned (.tuple #[.int .i32 r1, .int .i64 r2]) ∧ Below w.heap.size w w' := by
  obtain ⟨hs, hr⟩ := fit h
  exact QU.stylusref01_Take.calls 40 a0 a1 r1 r2 w (by rw [UP.rtake_f a0 hs a1 40 (Nat.le_refl _), hr])
def stylusref01_Bad.f (a0 : ByteArray) : Option Int := if a0.size ≤ 140737488351232 then some (Sp.badI a0.data.toList) else none
theorem stylusref01_Bad.calls (a0 : ByteArray) (r : Int) (w : World) (h : stylusref01_Bad.f a0 = some r) :
    Calls Try.prog 46 #[.string a0] w fun e w' => e = .returned (.int .i64 r) ∧ Below w.heap.size w w' := by
  obtain ⟨hs, hr⟩ := fit h
  exact QU.stylusref01_Bad.calls (a0.size + 50) a0 r w (by rw [UP.rbad_f a0 hs _ (Nat.le_refl _), hr])
def stylusref01_Valid.f (a0 : ByteArray) : Option Bool := if a0.size ≤ 140737488351232 then some (Sp.valid a0.data.toList) else none
theorem stylusref01_Valid.calls (a0 : ByteArray) (r : Bool) (w : World) (h : stylusref01_Valid.f a0 = some r) :
    Calls Try.prog 11 #[.string a0] w fun e w' => e = .returned (.bool r) ∧ Below w.heap.size w w' := by
  obtain ⟨hs, hr⟩ := fit h
  exact QU.stylusref01_Valid.calls (a0.size + 50) a0 r w (by rw [UP.rvalid_f a0 hs _ (Nat.le_refl _), hr])
def stylusref01_Edge.f (a0 : ByteArray) (a1 : Int) : Option Bool := some (Sp.edge a0.data.toList a1)
theorem stylusref01_Edge.calls (a0 : ByteArray) (a1 : Int) (r : Bool) (w : World) (h : stylusref01_Edge.f a0 a1 = some r) :
    Calls Try.prog 58 #[.string a0, .int .i64 a1] w fun e w' => e = .returned (.bool r) ∧ Drawn0 w w' :=
  QU.stylusref01_Edge.calls a0 a1 r w (by rw [UP.redge_f a0 a1]; exact h)
def stylusref01_Runes.f (a0 : ByteArray) : Option Int := if a0.size ≤ 140737488351232 then some (Sp.runes a0.data.toList : Int) else none
theorem stylusref01_Runes.calls (a0 : ByteArray) (r : Int) (w : World) (h : stylusref01_Runes.f a0 = some r) :
    Calls Try.prog 59 #[.string a0] w fun e w' => e = .returned (.int .i64 r) ∧ Drawn0 w w' := by
  obtain ⟨hs, hr⟩ := fit h
  exact QU.stylusref01_Runes.calls (a0.size + 50) a0 r w (by rw [UP.rrunes_f a0 hs _ (Nat.le_refl _), hr])
end Go.Proofs.Ytdcnoiofimngpaa.U
