import Derived.Test.YtbedmobcaljmdaaWMore
/- A script's step: a whole number and a text, as cells. (Written by the kit's own program of kinds.) -/
namespace Go.Proofs.Ytbedmobcaljmdaa.Bo
open Go.RowKit Go.Proofs.YtbedmobcaljmdaaW.PrintWords Go.Proofs.YtbedmobcaljmdaaW.PrintLast Go.Proofs.YtbedmobcaljmdaaW.PrintMore
set_option linter.unusedVariables false
/-! #### struct type 47 -/
structure SOp where
  f0 : Int
  f1 : ByteArray
def zOp : SOp := ⟨(0 : Int), (⟨#[]⟩ : ByteArray)⟩
def kOp : Kd SOp := Kd.iso (Kd.pair (Kd.int .i64) Kd.string) (fun x : SOp => (x.f0, x.f1))
theorem kOp_open {w : World} {x : SOp} {cs : List Value} (h : kOp.K w x cs) : cs = [.int .i64 x.f0, .string x.f1] := by
  obtain ⟨_, _, rfl, rfl, rfl⟩ := h
  exact rfl
theorem kOp_openM {w : World} {base : Nat} {ok : Nat → Prop} {x : SOp} {cs : List Value} (h : kOp.M w base ok x cs) : cs = [.int .i64 x.f0, .string x.f1] := by
  obtain ⟨_, _, rfl, rfl, rfl⟩ := h
  exact rfl
theorem kOp_mk (w : World) (x : SOp)  : kOp.K w x [.int .i64 x.f0, .string x.f1] := ⟨[.int .i64 x.f0], [.string x.f1], rfl, rfl, rfl⟩
theorem kOp_mkM (w : World) (base : Nat) (ok : Nat → Prop) (x : SOp)  : kOp.M w base ok x [.int .i64 x.f0, .string x.f1] := ⟨[.int .i64 x.f0], [.string x.f1], rfl, rfl, rfl⟩
def rd_TOp (xs : List SOp) (i : Int) : SOp := xs.getD i.toNat zOp
theorem at_TOp {w : World} {A : Option Addr} {n : Nat} {xs : List SOp} (h : Kd.C kOp w A n xs) (i : Int) (h0 : 0 ≤ i) (h1 : i < n) : ∃ ad , A = some ad ∧ w.cell? (ad.add (i.toNat * 2)) = some (.int .i64 (rd_TOp xs i).f0) ∧ w.cell? ⟨(ad.add (i.toNat * 2)).block, (ad.add (i.toNat * 2)).off + 1, none⟩ = some (.string (rd_TOp xs i).f1) := by
  obtain ⟨ad, c, e, _, hK, hc0⟩ := Kd.C_get h zOp i h0 h1
  have hc : ∀ j u, c[j]? = some u → w.cell? (ad.add (i.toNat * 2 + j)) = some u := hc0
  obtain rfl := kOp_open hK
  exact ⟨ad, e, hc 0 _ rfl, by rw [← add_field _ _ 1 (by omega)]; exact hc 1 _ rfl⟩

end Go.Proofs.Ytbedmobcaljmdaa.Bo
