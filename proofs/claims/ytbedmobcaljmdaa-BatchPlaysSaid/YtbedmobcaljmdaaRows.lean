/-
  No cell of these rows narrows 'for every input' (looked for: loops, veiled, ifaces, maps, wideKeys, modest, calm, conditions, laid).
  DERIVED. THE GIVEN ROWS OF THIS SEAT. 9 by the template 'for every input the law returns true; each argument reads behind the call as it read before'; 0 by the template 'total and deterministic' (their statements: YtbedmobcaljmdaaTotals.lean).
  GIVEN WITH THE SEED: the statements are not yours to turn. If you find one false, say at which input.
  Laid BY PROGRAM, IN A SANDBOX (cutbox-rows.mjs): the forced cells as the released guide's own fill.sh prints them over the translation d25b97c3cc0ca142… (all of the seat's roots in one cut). By AI agents, Wed Nov 11 2026. No macro, syntax, notation, axiom, sorry.
-/
import Derived.Test.YtbedmobcaljmdaaChecked
import GoSem.Claim
import GoSem.ClaimJoined
import GoSem.ClaimMapViews
import Derived.JoinedTies
import Derived.KernelRfl
namespace Go.Proofs.Ytbedmobcaljmdaa
/- THE CELL 'sum', in the pinned program and in every row, IS THE sha256 OF THE DUMP (.gsa) THAT YtbedmobcaljmdaaProg.lean LOADS. Nothing in Lean hashes anything: it is a label: what it is worth is what the hold of that sum in a sandbox is worth. -/
noncomputable def Try.pinned : Pinned := { name := "ytbedmobcaljmdaa", sum := "d25b97c3cc0ca142da070db649d17edf4b36a6b4297d3fbf6032d4e913bd6c65", checked := Try.checked }
namespace Rows
def none {H : Type} : Left H := { results := [], args := [] }

/-- 'styluslaw40.PolicyNexts': WHATEVER THE INPUT: true; the input reads as it did. -/
def policyNextsSpec : ChangeSpec := { name := "policyNexts", fn := fun _ => fun
  | [d1, d2, d3] => { results := [.lit (.bool true)], args := [d1, d2, d3] }
  | _ => none }
def policyNextsRow : OpenClaim := { program := "ytbedmobcaljmdaa", sum := "d25b97c3cc0ca142da070db649d17edf4b36a6b4297d3fbf6032d4e913bd6c65", func := "stylus/styluslaw40.PolicyNexts", spec := "policyNexts", apart := false }
def PolicyNextsSaid : Prop := policyNextsRow.holds Try.pinned (OpenSpec.ofChange policyNextsSpec)

/-- ITS FALSE NEIGHBOUR: 'it returns false'. Refute it at one input. -/
def policyNextsWrong : ChangeSpec := { name := "policyNexts", fn := fun _ => fun
  | [d1, d2, d3] => { results := [.lit (.bool false)], args := [d1, d2, d3] }
  | _ => none }
def PolicyNextsWrongFalsely : Prop := policyNextsRow.holds Try.pinned (OpenSpec.ofChange policyNextsWrong)

/-- 'styluslaw40.PolicyAllows': WHATEVER THE INPUT: true; the input reads as it did. -/
def policyAllowsSpec : ChangeSpec := { name := "policyAllows", fn := fun _ => fun
  | [d1, d2] => { results := [.lit (.bool true)], args := [d1, d2] }
  | _ => none }
def policyAllowsRow : OpenClaim := { program := "ytbedmobcaljmdaa", sum := "d25b97c3cc0ca142da070db649d17edf4b36a6b4297d3fbf6032d4e913bd6c65", func := "stylus/styluslaw40.PolicyAllows", spec := "policyAllows", apart := false }
def PolicyAllowsSaid : Prop := policyAllowsRow.holds Try.pinned (OpenSpec.ofChange policyAllowsSpec)

/-- ITS FALSE NEIGHBOUR: 'it returns false'. Refute it at one input. -/
def policyAllowsWrong : ChangeSpec := { name := "policyAllows", fn := fun _ => fun
  | [d1, d2] => { results := [.lit (.bool false)], args := [d1, d2] }
  | _ => none }
def PolicyAllowsWrongFalsely : Prop := policyAllowsRow.holds Try.pinned (OpenSpec.ofChange policyAllowsWrong)

/-- 'styluslaw40.PolicyStays': WHATEVER THE INPUT: true; the input reads as it did. -/
def policyStaysSpec : ChangeSpec := { name := "policyStays", fn := fun _ => fun
  | [d1, d2, d3] => { results := [.lit (.bool true)], args := [d1, d2, d3] }
  | _ => none }
def policyStaysRow : OpenClaim := { program := "ytbedmobcaljmdaa", sum := "d25b97c3cc0ca142da070db649d17edf4b36a6b4297d3fbf6032d4e913bd6c65", func := "stylus/styluslaw40.PolicyStays", spec := "policyStays", apart := false }
def PolicyStaysSaid : Prop := policyStaysRow.holds Try.pinned (OpenSpec.ofChange policyStaysSpec)

/-- ITS FALSE NEIGHBOUR: 'it returns false'. Refute it at one input. -/
def policyStaysWrong : ChangeSpec := { name := "policyStays", fn := fun _ => fun
  | [d1, d2, d3] => { results := [.lit (.bool false)], args := [d1, d2, d3] }
  | _ => none }
def PolicyStaysWrongFalsely : Prop := policyStaysRow.holds Try.pinned (OpenSpec.ofChange policyStaysWrong)

/-- 'styluslaw30.BatchTwo': WHATEVER THE INPUT: true; the input reads as it did. -/
def batchTwoSpec : ChangeSpec := { name := "batchTwo", fn := fun _ => fun
  | [d1, d2] => { results := [.lit (.bool true)], args := [d1, d2] }
  | _ => none }
def batchTwoRow : OpenClaim := { program := "ytbedmobcaljmdaa", sum := "d25b97c3cc0ca142da070db649d17edf4b36a6b4297d3fbf6032d4e913bd6c65", func := "stylus/styluslaw30.BatchTwo", spec := "batchTwo", apart := false }
def BatchTwoSaid : Prop := batchTwoRow.holds Try.pinned (OpenSpec.ofChange batchTwoSpec)

/-- ITS FALSE NEIGHBOUR: 'it returns false'. Refute it at one input. -/
def batchTwoWrong : ChangeSpec := { name := "batchTwo", fn := fun _ => fun
  | [d1, d2] => { results := [.lit (.bool false)], args := [d1, d2] }
  | _ => none }
def BatchTwoWrongFalsely : Prop := batchTwoRow.holds Try.pinned (OpenSpec.ofChange batchTwoWrong)

/-- 'styluslaw10.FuseDown': WHATEVER THE INPUT: true; the input reads as it did. -/
def fuseDownSpec : ChangeSpec := { name := "fuseDown", fn := fun _ => fun
  | [d1, d2, d3] => { results := [.lit (.bool true)], args := [d1, d2, d3] }
  | _ => none }
def fuseDownRow : OpenClaim := { program := "ytbedmobcaljmdaa", sum := "d25b97c3cc0ca142da070db649d17edf4b36a6b4297d3fbf6032d4e913bd6c65", func := "stylus/styluslaw10.FuseDown", spec := "fuseDown", apart := false }
def FuseDownSaid : Prop := fuseDownRow.holds Try.pinned (OpenSpec.ofChange fuseDownSpec)

/-- ITS FALSE NEIGHBOUR: 'it returns false'. Refute it at one input. -/
def fuseDownWrong : ChangeSpec := { name := "fuseDown", fn := fun _ => fun
  | [d1, d2, d3] => { results := [.lit (.bool false)], args := [d1, d2, d3] }
  | _ => none }
def FuseDownWrongFalsely : Prop := fuseDownRow.holds Try.pinned (OpenSpec.ofChange fuseDownWrong)

/-- 'styluslaw30.BatchPlays': WHATEVER THE INPUT: true; the input reads as it did. -/
def batchPlaysSpec : ChangeSpec := { name := "batchPlays", fn := fun _ => fun
  | [d1, d2] => { results := [.lit (.bool true)], args := [d1, d2] }
  | _ => none }
def batchPlaysRow : OpenClaim := { program := "ytbedmobcaljmdaa", sum := "d25b97c3cc0ca142da070db649d17edf4b36a6b4297d3fbf6032d4e913bd6c65", func := "stylus/styluslaw30.BatchPlays", spec := "batchPlays", apart := false }
def BatchPlaysSaid : Prop := batchPlaysRow.holds Try.pinned (OpenSpec.ofChange batchPlaysSpec)

/-- ITS FALSE NEIGHBOUR: 'it returns false'. Refute it at one input. -/
def batchPlaysWrong : ChangeSpec := { name := "batchPlays", fn := fun _ => fun
  | [d1, d2] => { results := [.lit (.bool false)], args := [d1, d2] }
  | _ => none }
def BatchPlaysWrongFalsely : Prop := batchPlaysRow.holds Try.pinned (OpenSpec.ofChange batchPlaysWrong)

/-- 'styluslaw30.BatchNobody': WHATEVER THE INPUT: true; the input reads as it did. -/
def batchNobodySpec : ChangeSpec := { name := "batchNobody", fn := fun _ => fun
  | [d] => { results := [.lit (.bool true)], args := [d] }
  | _ => none }
def batchNobodyRow : OpenClaim := { program := "ytbedmobcaljmdaa", sum := "d25b97c3cc0ca142da070db649d17edf4b36a6b4297d3fbf6032d4e913bd6c65", func := "stylus/styluslaw30.BatchNobody", spec := "batchNobody", apart := false }
def BatchNobodySaid : Prop := batchNobodyRow.holds Try.pinned (OpenSpec.ofChange batchNobodySpec)

/-- ITS FALSE NEIGHBOUR: 'it returns false'. Refute it at one input. -/
def batchNobodyWrong : ChangeSpec := { name := "batchNobody", fn := fun _ => fun
  | [d] => { results := [.lit (.bool false)], args := [d] }
  | _ => none }
def BatchNobodyWrongFalsely : Prop := batchNobodyRow.holds Try.pinned (OpenSpec.ofChange batchNobodyWrong)

/-- 'styluslaw10.FusePlays': WHATEVER THE INPUT: true; the input reads as it did. -/
def fusePlaysSpec : ChangeSpec := { name := "fusePlays", fn := fun _ => fun
  | [d] => { results := [.lit (.bool true)], args := [d] }
  | _ => none }
def fusePlaysRow : OpenClaim := { program := "ytbedmobcaljmdaa", sum := "d25b97c3cc0ca142da070db649d17edf4b36a6b4297d3fbf6032d4e913bd6c65", func := "stylus/styluslaw10.FusePlays", spec := "fusePlays", apart := false }
def FusePlaysSaid : Prop := fusePlaysRow.holds Try.pinned (OpenSpec.ofChange fusePlaysSpec)

/-- ITS FALSE NEIGHBOUR: 'it returns false'. Refute it at one input. -/
def fusePlaysWrong : ChangeSpec := { name := "fusePlays", fn := fun _ => fun
  | [d] => { results := [.lit (.bool false)], args := [d] }
  | _ => none }
def FusePlaysWrongFalsely : Prop := fusePlaysRow.holds Try.pinned (OpenSpec.ofChange fusePlaysWrong)

/-- 'styluslaw10.FuseNobody': WHATEVER THE INPUT: true; the input reads as it did. -/
def fuseNobodySpec : ChangeSpec := { name := "fuseNobody", fn := fun _ => fun
  | [d] => { results := [.lit (.bool true)], args := [d] }
  | _ => none }
def fuseNobodyRow : OpenClaim := { program := "ytbedmobcaljmdaa", sum := "d25b97c3cc0ca142da070db649d17edf4b36a6b4297d3fbf6032d4e913bd6c65", func := "stylus/styluslaw10.FuseNobody", spec := "fuseNobody", apart := false }
def FuseNobodySaid : Prop := fuseNobodyRow.holds Try.pinned (OpenSpec.ofChange fuseNobodySpec)

/-- ITS FALSE NEIGHBOUR: 'it returns false'. Refute it at one input. -/
def fuseNobodyWrong : ChangeSpec := { name := "fuseNobody", fn := fun _ => fun
  | [d] => { results := [.lit (.bool false)], args := [d] }
  | _ => none }
def FuseNobodyWrongFalsely : Prop := fuseNobodyRow.holds Try.pinned (OpenSpec.ofChange fuseNobodyWrong)

/- THE SECOND FORM. 'bulk': how many values and letters a reading holds, each counted each time it is reached (what is shared counts as often as it is met; a slice's spare places count too). A statement '..UptoSaid' is the law's where the arguments, and the package variables that the reading takes, are together of bulk at most 1048576: NARROWER than '..Said'. Prove '..Said' where nothing that the law and all that it calls make is longer than what came in: it says more and counts as full. Else prove '..UptoSaid'. A law counts once. -/
mutual
def uptoBulk {H : Type} : DataW H → Nat
  | .lit (.string bytes) => bytes.length + 1
  | .lit _ => 1
  | .nil => 1
  | .ptr d => uptoBulk d + 1
  | .slice elems spare => uptoBulkAll elems + uptoBulkAll spare + 1
  | .agg parts => uptoBulkAll parts + 1
  | .iface _ d => uptoBulk d + 1
  | .map entries => uptoBulkEntries entries + 1
  | .held _ => 1
def uptoBulkAll {H : Type} : List (DataW H) → Nat
  | [] => 0
  | d :: r => uptoBulk d + uptoBulkAll r
def uptoBulkEntries {H : Type} : List (Lit × DataW H) → Nat
  | [] => 0
  | x :: r => uptoBulkEntry x + uptoBulkEntries r
def uptoBulkEntry {H : Type} : Lit × DataW H → Nat
  | (.string bytes, d) => bytes.length + uptoBulk d + 1
  | (_, d) => uptoBulk d + 1
 end
def uptoSmall : (H : Type) → List (DataW H) → Bool := fun _ ds => decide (uptoBulkAll ds ≤ 1048576)
def OpenSpec.upto (s : _root_.Go.ChangeSpec) : _root_.Go.OpenSpec := { _root_.Go.OpenSpec.ofChange s with cond := some uptoSmall }

/-- 'styluslaw40.PolicyNexts', WHERE WHAT IT READS IS OF BULK AT MOST 1048576: true; the input reads as it did. -/
def policyNextsUptoRow : OpenClaim := { program := "ytbedmobcaljmdaa", sum := "d25b97c3cc0ca142da070db649d17edf4b36a6b4297d3fbf6032d4e913bd6c65", func := "stylus/styluslaw40.PolicyNexts", spec := "policyNexts", apart := false, narrowed := true }
def PolicyNextsUptoSaid : Prop := policyNextsUptoRow.holds Try.pinned (OpenSpec.upto policyNextsSpec)

/-- 'styluslaw40.PolicyAllows', WHERE WHAT IT READS IS OF BULK AT MOST 1048576: true; the input reads as it did. -/
def policyAllowsUptoRow : OpenClaim := { program := "ytbedmobcaljmdaa", sum := "d25b97c3cc0ca142da070db649d17edf4b36a6b4297d3fbf6032d4e913bd6c65", func := "stylus/styluslaw40.PolicyAllows", spec := "policyAllows", apart := false, narrowed := true }
def PolicyAllowsUptoSaid : Prop := policyAllowsUptoRow.holds Try.pinned (OpenSpec.upto policyAllowsSpec)

/-- 'styluslaw40.PolicyStays', WHERE WHAT IT READS IS OF BULK AT MOST 1048576: true; the input reads as it did. -/
def policyStaysUptoRow : OpenClaim := { program := "ytbedmobcaljmdaa", sum := "d25b97c3cc0ca142da070db649d17edf4b36a6b4297d3fbf6032d4e913bd6c65", func := "stylus/styluslaw40.PolicyStays", spec := "policyStays", apart := false, narrowed := true }
def PolicyStaysUptoSaid : Prop := policyStaysUptoRow.holds Try.pinned (OpenSpec.upto policyStaysSpec)

/-- 'styluslaw30.BatchTwo', WHERE WHAT IT READS IS OF BULK AT MOST 1048576: true; the input reads as it did. -/
def batchTwoUptoRow : OpenClaim := { program := "ytbedmobcaljmdaa", sum := "d25b97c3cc0ca142da070db649d17edf4b36a6b4297d3fbf6032d4e913bd6c65", func := "stylus/styluslaw30.BatchTwo", spec := "batchTwo", apart := false, narrowed := true }
def BatchTwoUptoSaid : Prop := batchTwoUptoRow.holds Try.pinned (OpenSpec.upto batchTwoSpec)

/-- 'styluslaw10.FuseDown', WHERE WHAT IT READS IS OF BULK AT MOST 1048576: true; the input reads as it did. -/
def fuseDownUptoRow : OpenClaim := { program := "ytbedmobcaljmdaa", sum := "d25b97c3cc0ca142da070db649d17edf4b36a6b4297d3fbf6032d4e913bd6c65", func := "stylus/styluslaw10.FuseDown", spec := "fuseDown", apart := false, narrowed := true }
def FuseDownUptoSaid : Prop := fuseDownUptoRow.holds Try.pinned (OpenSpec.upto fuseDownSpec)

/-- 'styluslaw30.BatchPlays', WHERE WHAT IT READS IS OF BULK AT MOST 1048576: true; the input reads as it did. -/
def batchPlaysUptoRow : OpenClaim := { program := "ytbedmobcaljmdaa", sum := "d25b97c3cc0ca142da070db649d17edf4b36a6b4297d3fbf6032d4e913bd6c65", func := "stylus/styluslaw30.BatchPlays", spec := "batchPlays", apart := false, narrowed := true }
def BatchPlaysUptoSaid : Prop := batchPlaysUptoRow.holds Try.pinned (OpenSpec.upto batchPlaysSpec)

/-- 'styluslaw30.BatchNobody', WHERE WHAT IT READS IS OF BULK AT MOST 1048576: true; the input reads as it did. -/
def batchNobodyUptoRow : OpenClaim := { program := "ytbedmobcaljmdaa", sum := "d25b97c3cc0ca142da070db649d17edf4b36a6b4297d3fbf6032d4e913bd6c65", func := "stylus/styluslaw30.BatchNobody", spec := "batchNobody", apart := false, narrowed := true }
def BatchNobodyUptoSaid : Prop := batchNobodyUptoRow.holds Try.pinned (OpenSpec.upto batchNobodySpec)

/-- 'styluslaw10.FusePlays', WHERE WHAT IT READS IS OF BULK AT MOST 1048576: true; the input reads as it did. -/
def fusePlaysUptoRow : OpenClaim := { program := "ytbedmobcaljmdaa", sum := "d25b97c3cc0ca142da070db649d17edf4b36a6b4297d3fbf6032d4e913bd6c65", func := "stylus/styluslaw10.FusePlays", spec := "fusePlays", apart := false, narrowed := true }
def FusePlaysUptoSaid : Prop := fusePlaysUptoRow.holds Try.pinned (OpenSpec.upto fusePlaysSpec)

/-- 'styluslaw10.FuseNobody', WHERE WHAT IT READS IS OF BULK AT MOST 1048576: true; the input reads as it did. -/
def fuseNobodyUptoRow : OpenClaim := { program := "ytbedmobcaljmdaa", sum := "d25b97c3cc0ca142da070db649d17edf4b36a6b4297d3fbf6032d4e913bd6c65", func := "stylus/styluslaw10.FuseNobody", spec := "fuseNobody", apart := false, narrowed := true }
def FuseNobodyUptoSaid : Prop := fuseNobodyUptoRow.holds Try.pinned (OpenSpec.upto fuseNobodySpec)

end Rows
end Go.Proofs.Ytbedmobcaljmdaa
