/-
  No cell of these rows narrows 'for every input' (looked for: loops, veiled, ifaces, maps, wideKeys, modest, calm, conditions, laid).
  DERIVED. THE GIVEN ROWS OF THIS SEAT. 7 by the template 'for every input the law returns true; each argument reads behind the call as it read before'; 0 by the template 'total and deterministic' (their statements: YtgkjagfdlhcgjaaTotals.lean).
  GIVEN WITH THE SEED: the statements are not yours to turn. If you find one false, say at which input.
  Laid BY PROGRAM, IN A SANDBOX (cutbox-rows.mjs): the forced cells as the released guide's own fill.sh prints them over the translation edb4b6dd85b3ce82… (all of the seat's roots in one cut). By AI agents, Wed Nov 11 2026. No macro, syntax, notation, axiom, sorry.
-/
import Derived.Test.YtgkjagfdlhcgjaaChecked
import GoSem.Claim
import GoSem.ClaimJoined
import GoSem.ClaimMapViews
import Derived.JoinedTies
import Derived.KernelRfl
namespace Go.Proofs.Ytgkjagfdlhcgjaa
/- THE CELL 'sum', in the pinned program and in every row, IS THE sha256 OF THE DUMP (.gsa) THAT YtgkjagfdlhcgjaaProg.lean LOADS. Nothing in Lean hashes anything: it is a label: what it is worth is what the hold of that sum in a sandbox is worth. -/
noncomputable def Try.pinned : Pinned := { name := "ytgkjagfdlhcgjaa", sum := "edb4b6dd85b3ce8205037faf28d6b65f7faceaffd3585bdc2e571c773d12ef8a", checked := Try.checked }
namespace Rows
def none {H : Type} : Left H := { results := [], args := [] }

/-- 'styluslaw15.ChunkCuts': WHATEVER THE INPUT: true; the input reads as it did. -/
def chunkCutsSpec : ChangeSpec := { name := "chunkCuts", fn := fun _ => fun
  | [d] => { results := [.lit (.bool true)], args := [d] }
  | _ => none }
def chunkCutsRow : OpenClaim := { program := "ytgkjagfdlhcgjaa", sum := "edb4b6dd85b3ce8205037faf28d6b65f7faceaffd3585bdc2e571c773d12ef8a", func := "stylus/styluslaw15.ChunkCuts", spec := "chunkCuts", inPlace := ["internal/abi.NoEscape", "internal/bytealg.MakeNoZero"], apart := false }
def ChunkCutsSaid : Prop := chunkCutsRow.holds Try.pinned (OpenSpec.ofChange chunkCutsSpec)

/-- ITS FALSE NEIGHBOUR: 'it returns false'. Refute it at one input. -/
def chunkCutsWrong : ChangeSpec := { name := "chunkCuts", fn := fun _ => fun
  | [d] => { results := [.lit (.bool false)], args := [d] }
  | _ => none }
def ChunkCutsWrongFalsely : Prop := chunkCutsRow.holds Try.pinned (OpenSpec.ofChange chunkCutsWrong)

/-- 'styluslaw15.ChunkJoins': WHATEVER THE INPUT: true; the input reads as it did. -/
def chunkJoinsSpec : ChangeSpec := { name := "chunkJoins", fn := fun _ => fun
  | [d1, d2, d3] => { results := [.lit (.bool true)], args := [d1, d2, d3] }
  | _ => none }
def chunkJoinsRow : OpenClaim := { program := "ytgkjagfdlhcgjaa", sum := "edb4b6dd85b3ce8205037faf28d6b65f7faceaffd3585bdc2e571c773d12ef8a", func := "stylus/styluslaw15.ChunkJoins", spec := "chunkJoins", inPlace := ["internal/abi.NoEscape", "internal/bytealg.MakeNoZero"], apart := false }
def ChunkJoinsSaid : Prop := chunkJoinsRow.holds Try.pinned (OpenSpec.ofChange chunkJoinsSpec)

/-- ITS FALSE NEIGHBOUR: 'it returns false'. Refute it at one input. -/
def chunkJoinsWrong : ChangeSpec := { name := "chunkJoins", fn := fun _ => fun
  | [d1, d2, d3] => { results := [.lit (.bool false)], args := [d1, d2, d3] }
  | _ => none }
def ChunkJoinsWrongFalsely : Prop := chunkJoinsRow.holds Try.pinned (OpenSpec.ofChange chunkJoinsWrong)

/-- 'styluslaw15.ChunkWhole': WHATEVER THE INPUT: true; the input reads as it did. -/
def chunkWholeSpec : ChangeSpec := { name := "chunkWhole", fn := fun _ => fun
  | [d1, d2, d3] => { results := [.lit (.bool true)], args := [d1, d2, d3] }
  | _ => none }
def chunkWholeRow : OpenClaim := { program := "ytgkjagfdlhcgjaa", sum := "edb4b6dd85b3ce8205037faf28d6b65f7faceaffd3585bdc2e571c773d12ef8a", func := "stylus/styluslaw15.ChunkWhole", spec := "chunkWhole", inPlace := ["internal/abi.NoEscape", "internal/bytealg.MakeNoZero"], apart := false }
def ChunkWholeSaid : Prop := chunkWholeRow.holds Try.pinned (OpenSpec.ofChange chunkWholeSpec)

/-- ITS FALSE NEIGHBOUR: 'it returns false'. Refute it at one input. -/
def chunkWholeWrong : ChangeSpec := { name := "chunkWhole", fn := fun _ => fun
  | [d1, d2, d3] => { results := [.lit (.bool false)], args := [d1, d2, d3] }
  | _ => none }
def ChunkWholeWrongFalsely : Prop := chunkWholeRow.holds Try.pinned (OpenSpec.ofChange chunkWholeWrong)

/-- 'styluslaw16.KnotJoins': WHATEVER THE INPUT: true; the input reads as it did. -/
def knotJoinsSpec : ChangeSpec := { name := "knotJoins", fn := fun _ => fun
  | [d] => { results := [.lit (.bool true)], args := [d] }
  | _ => none }
def knotJoinsRow : OpenClaim := { program := "ytgkjagfdlhcgjaa", sum := "edb4b6dd85b3ce8205037faf28d6b65f7faceaffd3585bdc2e571c773d12ef8a", func := "stylus/styluslaw16.KnotJoins", spec := "knotJoins", inPlace := ["internal/abi.NoEscape", "internal/bytealg.MakeNoZero"], recurses := true, apart := false }
def KnotJoinsSaid : Prop := knotJoinsRow.holds Try.pinned (OpenSpec.ofChange knotJoinsSpec)

/-- ITS FALSE NEIGHBOUR: 'it returns false'. Refute it at one input. -/
def knotJoinsWrong : ChangeSpec := { name := "knotJoins", fn := fun _ => fun
  | [d] => { results := [.lit (.bool false)], args := [d] }
  | _ => none }
def KnotJoinsWrongFalsely : Prop := knotJoinsRow.holds Try.pinned (OpenSpec.ofChange knotJoinsWrong)

/-- 'styluslaw16.KnotLow': WHATEVER THE INPUT: true; the input reads as it did. -/
def knotLowSpec : ChangeSpec := { name := "knotLow", fn := fun _ => fun
  | [d] => { results := [.lit (.bool true)], args := [d] }
  | _ => none }
def knotLowRow : OpenClaim := { program := "ytgkjagfdlhcgjaa", sum := "edb4b6dd85b3ce8205037faf28d6b65f7faceaffd3585bdc2e571c773d12ef8a", func := "stylus/styluslaw16.KnotLow", spec := "knotLow", inPlace := ["internal/abi.NoEscape", "internal/bytealg.MakeNoZero"], recurses := true, apart := false }
def KnotLowSaid : Prop := knotLowRow.holds Try.pinned (OpenSpec.ofChange knotLowSpec)

/-- ITS FALSE NEIGHBOUR: 'it returns false'. Refute it at one input. -/
def knotLowWrong : ChangeSpec := { name := "knotLow", fn := fun _ => fun
  | [d] => { results := [.lit (.bool false)], args := [d] }
  | _ => none }
def KnotLowWrongFalsely : Prop := knotLowRow.holds Try.pinned (OpenSpec.ofChange knotLowWrong)

/-- 'styluslaw16.KnotNobody': WHATEVER THE INPUT: true; the input reads as it did. -/
def knotNobodySpec : ChangeSpec := { name := "knotNobody", fn := fun _ => fun
  | [d] => { results := [.lit (.bool true)], args := [d] }
  | _ => none }
def knotNobodyRow : OpenClaim := { program := "ytgkjagfdlhcgjaa", sum := "edb4b6dd85b3ce8205037faf28d6b65f7faceaffd3585bdc2e571c773d12ef8a", func := "stylus/styluslaw16.KnotNobody", spec := "knotNobody", inPlace := ["internal/abi.NoEscape", "internal/bytealg.MakeNoZero"], recurses := true, apart := false }
def KnotNobodySaid : Prop := knotNobodyRow.holds Try.pinned (OpenSpec.ofChange knotNobodySpec)

/-- ITS FALSE NEIGHBOUR: 'it returns false'. Refute it at one input. -/
def knotNobodyWrong : ChangeSpec := { name := "knotNobody", fn := fun _ => fun
  | [d] => { results := [.lit (.bool false)], args := [d] }
  | _ => none }
def KnotNobodyWrongFalsely : Prop := knotNobodyRow.holds Try.pinned (OpenSpec.ofChange knotNobodyWrong)

/-- 'styluslaw16.KnotUps': WHATEVER THE INPUT: true; the input reads as it did. -/
def knotUpsSpec : ChangeSpec := { name := "knotUps", fn := fun _ => fun
  | [d] => { results := [.lit (.bool true)], args := [d] }
  | _ => none }
def knotUpsRow : OpenClaim := { program := "ytgkjagfdlhcgjaa", sum := "edb4b6dd85b3ce8205037faf28d6b65f7faceaffd3585bdc2e571c773d12ef8a", func := "stylus/styluslaw16.KnotUps", spec := "knotUps", inPlace := ["internal/abi.NoEscape", "internal/bytealg.MakeNoZero"], recurses := true, apart := false }
def KnotUpsSaid : Prop := knotUpsRow.holds Try.pinned (OpenSpec.ofChange knotUpsSpec)

/-- ITS FALSE NEIGHBOUR: 'it returns false'. Refute it at one input. -/
def knotUpsWrong : ChangeSpec := { name := "knotUps", fn := fun _ => fun
  | [d] => { results := [.lit (.bool false)], args := [d] }
  | _ => none }
def KnotUpsWrongFalsely : Prop := knotUpsRow.holds Try.pinned (OpenSpec.ofChange knotUpsWrong)

/- THE SECOND FORM. 'bulk': how many values and letters a reading holds, each counted each time it is reached (what is shared counts as often as it is met; a slice's spare places count too). A statement '..UptoSaid' is the law's where the arguments, and the package variables that the reading takes, are together of bulk at most 1048576: NARROWER than '..Said'. Prove '..Said' where nothing that the law and all that it calls make is longer than what came in: it says more and counts as full. Else prove '..UptoSaid'. A law counts once. -/
mutual
def uptoBulk {H : Type} : DataW H → Nat
  | .lit (.string bytes) => bytes.length + 1
  | .lit _ => 1
  | .nil => 1
  | .ptr d => uptoBulk d + 1
  | .slice elems spare => uptoBulkAll elems + uptoBulkAll spare + 1
  | .agg parts => uptoBulkAll parts + 1
  | .iface _ d => uptoBulk d + 1
  | .map entries => uptoBulkEntries entries + 1
  | .held _ => 1
def uptoBulkAll {H : Type} : List (DataW H) → Nat
  | [] => 0
  | d :: r => uptoBulk d + uptoBulkAll r
def uptoBulkEntries {H : Type} : List (Lit × DataW H) → Nat
  | [] => 0
  | x :: r => uptoBulkEntry x + uptoBulkEntries r
def uptoBulkEntry {H : Type} : Lit × DataW H → Nat
  | (.string bytes, d) => bytes.length + uptoBulk d + 1
  | (_, d) => uptoBulk d + 1
 end
def uptoSmall : (H : Type) → List (DataW H) → Bool := fun _ ds => decide (uptoBulkAll ds ≤ 1048576)
def OpenSpec.upto (s : _root_.Go.ChangeSpec) : _root_.Go.OpenSpec := { _root_.Go.OpenSpec.ofChange s with cond := some uptoSmall }

/-- 'styluslaw15.ChunkCuts', WHERE WHAT IT READS IS OF BULK AT MOST 1048576: true; the input reads as it did. -/
def chunkCutsUptoRow : OpenClaim := { program := "ytgkjagfdlhcgjaa", sum := "edb4b6dd85b3ce8205037faf28d6b65f7faceaffd3585bdc2e571c773d12ef8a", func := "stylus/styluslaw15.ChunkCuts", spec := "chunkCuts", inPlace := ["internal/abi.NoEscape", "internal/bytealg.MakeNoZero"], apart := false, narrowed := true }
def ChunkCutsUptoSaid : Prop := chunkCutsUptoRow.holds Try.pinned (OpenSpec.upto chunkCutsSpec)

/-- 'styluslaw15.ChunkJoins', WHERE WHAT IT READS IS OF BULK AT MOST 1048576: true; the input reads as it did. -/
def chunkJoinsUptoRow : OpenClaim := { program := "ytgkjagfdlhcgjaa", sum := "edb4b6dd85b3ce8205037faf28d6b65f7faceaffd3585bdc2e571c773d12ef8a", func := "stylus/styluslaw15.ChunkJoins", spec := "chunkJoins", inPlace := ["internal/abi.NoEscape", "internal/bytealg.MakeNoZero"], apart := false, narrowed := true }
def ChunkJoinsUptoSaid : Prop := chunkJoinsUptoRow.holds Try.pinned (OpenSpec.upto chunkJoinsSpec)

/-- 'styluslaw15.ChunkWhole', WHERE WHAT IT READS IS OF BULK AT MOST 1048576: true; the input reads as it did. -/
def chunkWholeUptoRow : OpenClaim := { program := "ytgkjagfdlhcgjaa", sum := "edb4b6dd85b3ce8205037faf28d6b65f7faceaffd3585bdc2e571c773d12ef8a", func := "stylus/styluslaw15.ChunkWhole", spec := "chunkWhole", inPlace := ["internal/abi.NoEscape", "internal/bytealg.MakeNoZero"], apart := false, narrowed := true }
def ChunkWholeUptoSaid : Prop := chunkWholeUptoRow.holds Try.pinned (OpenSpec.upto chunkWholeSpec)

/-- 'styluslaw16.KnotJoins', WHERE WHAT IT READS IS OF BULK AT MOST 1048576: true; the input reads as it did. -/
def knotJoinsUptoRow : OpenClaim := { program := "ytgkjagfdlhcgjaa", sum := "edb4b6dd85b3ce8205037faf28d6b65f7faceaffd3585bdc2e571c773d12ef8a", func := "stylus/styluslaw16.KnotJoins", spec := "knotJoins", inPlace := ["internal/abi.NoEscape", "internal/bytealg.MakeNoZero"], recurses := true, apart := false, narrowed := true }
def KnotJoinsUptoSaid : Prop := knotJoinsUptoRow.holds Try.pinned (OpenSpec.upto knotJoinsSpec)

/-- 'styluslaw16.KnotLow', WHERE WHAT IT READS IS OF BULK AT MOST 1048576: true; the input reads as it did. -/
def knotLowUptoRow : OpenClaim := { program := "ytgkjagfdlhcgjaa", sum := "edb4b6dd85b3ce8205037faf28d6b65f7faceaffd3585bdc2e571c773d12ef8a", func := "stylus/styluslaw16.KnotLow", spec := "knotLow", inPlace := ["internal/abi.NoEscape", "internal/bytealg.MakeNoZero"], recurses := true, apart := false, narrowed := true }
def KnotLowUptoSaid : Prop := knotLowUptoRow.holds Try.pinned (OpenSpec.upto knotLowSpec)

/-- 'styluslaw16.KnotNobody', WHERE WHAT IT READS IS OF BULK AT MOST 1048576: true; the input reads as it did. -/
def knotNobodyUptoRow : OpenClaim := { program := "ytgkjagfdlhcgjaa", sum := "edb4b6dd85b3ce8205037faf28d6b65f7faceaffd3585bdc2e571c773d12ef8a", func := "stylus/styluslaw16.KnotNobody", spec := "knotNobody", inPlace := ["internal/abi.NoEscape", "internal/bytealg.MakeNoZero"], recurses := true, apart := false, narrowed := true }
def KnotNobodyUptoSaid : Prop := knotNobodyUptoRow.holds Try.pinned (OpenSpec.upto knotNobodySpec)

/-- 'styluslaw16.KnotUps', WHERE WHAT IT READS IS OF BULK AT MOST 1048576: true; the input reads as it did. -/
def knotUpsUptoRow : OpenClaim := { program := "ytgkjagfdlhcgjaa", sum := "edb4b6dd85b3ce8205037faf28d6b65f7faceaffd3585bdc2e571c773d12ef8a", func := "stylus/styluslaw16.KnotUps", spec := "knotUps", inPlace := ["internal/abi.NoEscape", "internal/bytealg.MakeNoZero"], recurses := true, apart := false, narrowed := true }
def KnotUpsUptoSaid : Prop := knotUpsUptoRow.holds Try.pinned (OpenSpec.upto knotUpsSpec)

end Rows
end Go.Proofs.Ytgkjagfdlhcgjaa
