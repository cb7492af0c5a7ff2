/-
  No cell of these rows narrows 'for every input' (looked for: loops, veiled, ifaces, maps, wideKeys, modest, calm, conditions, laid).
  DERIVED. THE GIVEN ROWS OF THIS SEAT. 8 by the template 'for every input the law returns true; each argument reads behind the call as it read before'; 0 by the template 'total and deterministic' (their statements: YtdcnoiofimngpaaTotals.lean).
  GIVEN WITH THE SEED: the statements are not yours to turn. If you find one false, say at which input.
  Laid BY PROGRAM, IN A SANDBOX (cutbox-rows.mjs): the forced cells as the released guide's own fill.sh prints them over the translation 4f9883789b7962f4… (all of the seat's roots in one cut). By AI agents, Wed Nov 11 2026. No macro, syntax, notation, axiom, sorry.
-/
import Derived.Test.YtdcnoiofimngpaaChecked
import GoSem.Claim
import GoSem.ClaimJoined
import GoSem.ClaimMapViews
import Derived.JoinedTies
import Derived.KernelRfl
namespace Go.Proofs.Ytdcnoiofimngpaa
/- THE CELL 'sum', in the pinned program and in every row, IS THE sha256 OF THE DUMP (.gsa) THAT YtdcnoiofimngpaaProg.lean LOADS. Nothing in Lean hashes anything: it is a label: what it is worth is what the hold of that sum in a sandbox is worth. -/
noncomputable def Try.pinned : Pinned := { name := "ytdcnoiofimngpaa", sum := "4f9883789b7962f42e931aebddc32c0ffbfb991500d10f2b2bc786e62476b2e8", checked := Try.checked }
namespace Rows
def none {H : Type} : Left H := { results := [], args := [] }

/-- 'styluslaw49.FindReplaces': WHATEVER THE INPUT: true; the input reads as it did. -/
def findReplacesSpec : ChangeSpec := { name := "findReplaces", fn := fun _ => fun
  | [d1, d2, d3] => { results := [.lit (.bool true)], args := [d1, d2, d3] }
  | _ => none }
def findReplacesRow : OpenClaim := { program := "ytdcnoiofimngpaa", sum := "4f9883789b7962f42e931aebddc32c0ffbfb991500d10f2b2bc786e62476b2e8", func := "stylus/styluslaw49.FindReplaces", spec := "findReplaces", inPlace := ["internal/abi.NoEscape", "internal/bytealg.MakeNoZero"], unfollowed := true, recurses := true, apart := false }
def FindReplacesSaid : Prop := findReplacesRow.holds Try.pinned (OpenSpec.ofChange findReplacesSpec)

/-- ITS FALSE NEIGHBOUR: 'it returns false'. Refute it at one input. -/
def findReplacesWrong : ChangeSpec := { name := "findReplaces", fn := fun _ => fun
  | [d1, d2, d3] => { results := [.lit (.bool false)], args := [d1, d2, d3] }
  | _ => none }
def FindReplacesWrongFalsely : Prop := findReplacesRow.holds Try.pinned (OpenSpec.ofChange findReplacesWrong)

/-- 'styluslaw49.FindSwaps': WHATEVER THE INPUT: true; the input reads as it did. -/
def findSwapsSpec : ChangeSpec := { name := "findSwaps", fn := fun _ => fun
  | [d1, d2, d3] => { results := [.lit (.bool true)], args := [d1, d2, d3] }
  | _ => none }
def findSwapsRow : OpenClaim := { program := "ytdcnoiofimngpaa", sum := "4f9883789b7962f42e931aebddc32c0ffbfb991500d10f2b2bc786e62476b2e8", func := "stylus/styluslaw49.FindSwaps", spec := "findSwaps", inPlace := ["internal/abi.NoEscape", "internal/bytealg.MakeNoZero"], unfollowed := true, recurses := true, apart := false }
def FindSwapsSaid : Prop := findSwapsRow.holds Try.pinned (OpenSpec.ofChange findSwapsSpec)

/-- ITS FALSE NEIGHBOUR: 'it returns false'. Refute it at one input. -/
def findSwapsWrong : ChangeSpec := { name := "findSwaps", fn := fun _ => fun
  | [d1, d2, d3] => { results := [.lit (.bool false)], args := [d1, d2, d3] }
  | _ => none }
def FindSwapsWrongFalsely : Prop := findSwapsRow.holds Try.pinned (OpenSpec.ofChange findSwapsWrong)

/-- 'styluslaw49.FindPlaces': WHATEVER THE INPUT: true; the input reads as it did. -/
def findPlacesSpec : ChangeSpec := { name := "findPlaces", fn := fun _ => fun
  | [d1, d2, d3] => { results := [.lit (.bool true)], args := [d1, d2, d3] }
  | _ => none }
def findPlacesRow : OpenClaim := { program := "ytdcnoiofimngpaa", sum := "4f9883789b7962f42e931aebddc32c0ffbfb991500d10f2b2bc786e62476b2e8", func := "stylus/styluslaw49.FindPlaces", spec := "findPlaces", inPlace := ["internal/abi.NoEscape", "internal/bytealg.MakeNoZero"], unfollowed := true, recurses := true, apart := false }
def FindPlacesSaid : Prop := findPlacesRow.holds Try.pinned (OpenSpec.ofChange findPlacesSpec)

/-- ITS FALSE NEIGHBOUR: 'it returns false'. Refute it at one input. -/
def findPlacesWrong : ChangeSpec := { name := "findPlaces", fn := fun _ => fun
  | [d1, d2, d3] => { results := [.lit (.bool false)], args := [d1, d2, d3] }
  | _ => none }
def FindPlacesWrongFalsely : Prop := findPlacesRow.holds Try.pinned (OpenSpec.ofChange findPlacesWrong)

/-- 'styluslaw20.WalkRows': WHATEVER THE INPUT: true; the input reads as it did. -/
def walkRowsSpec : ChangeSpec := { name := "walkRows", fn := fun _ => fun
  | [d1, d2] => { results := [.lit (.bool true)], args := [d1, d2] }
  | _ => none }
def walkRowsRow : OpenClaim := { program := "ytdcnoiofimngpaa", sum := "4f9883789b7962f42e931aebddc32c0ffbfb991500d10f2b2bc786e62476b2e8", func := "stylus/styluslaw20.WalkRows", spec := "walkRows", inPlace := ["internal/abi.NoEscape", "internal/bytealg.MakeNoZero", "internal/bytealg.IndexByteString"], unfollowed := true, recurses := true, apart := false }
def WalkRowsSaid : Prop := walkRowsRow.holds Try.pinned (OpenSpec.ofChange walkRowsSpec)

/-- ITS FALSE NEIGHBOUR: 'it returns false'. Refute it at one input. -/
def walkRowsWrong : ChangeSpec := { name := "walkRows", fn := fun _ => fun
  | [d1, d2] => { results := [.lit (.bool false)], args := [d1, d2] }
  | _ => none }
def WalkRowsWrongFalsely : Prop := walkRowsRow.holds Try.pinned (OpenSpec.ofChange walkRowsWrong)

/-- 'styluslaw19.SeekRunes': WHATEVER THE INPUT: true; the input reads as it did. -/
def seekRunesSpec : ChangeSpec := { name := "seekRunes", fn := fun _ => fun
  | [d1, d2, d3] => { results := [.lit (.bool true)], args := [d1, d2, d3] }
  | _ => none }
def seekRunesRow : OpenClaim := { program := "ytdcnoiofimngpaa", sum := "4f9883789b7962f42e931aebddc32c0ffbfb991500d10f2b2bc786e62476b2e8", func := "stylus/styluslaw19.SeekRunes", spec := "seekRunes", inPlace := ["internal/abi.NoEscape", "internal/bytealg.MakeNoZero", "internal/bytealg.IndexByteString"], recurses := true, apart := false }
def SeekRunesSaid : Prop := seekRunesRow.holds Try.pinned (OpenSpec.ofChange seekRunesSpec)

/-- ITS FALSE NEIGHBOUR: 'it returns false'. Refute it at one input. -/
def seekRunesWrong : ChangeSpec := { name := "seekRunes", fn := fun _ => fun
  | [d1, d2, d3] => { results := [.lit (.bool false)], args := [d1, d2, d3] }
  | _ => none }
def SeekRunesWrongFalsely : Prop := seekRunesRow.holds Try.pinned (OpenSpec.ofChange seekRunesWrong)

/-- 'styluslaw20.WalkChunks': WHATEVER THE INPUT: true; the input reads as it did. -/
def walkChunksSpec : ChangeSpec := { name := "walkChunks", fn := fun _ => fun
  | [d] => { results := [.lit (.bool true)], args := [d] }
  | _ => none }
def walkChunksRow : OpenClaim := { program := "ytdcnoiofimngpaa", sum := "4f9883789b7962f42e931aebddc32c0ffbfb991500d10f2b2bc786e62476b2e8", func := "stylus/styluslaw20.WalkChunks", spec := "walkChunks", inPlace := ["internal/abi.NoEscape", "internal/bytealg.MakeNoZero", "internal/bytealg.IndexByteString"], unfollowed := true, recurses := true, apart := false }
def WalkChunksSaid : Prop := walkChunksRow.holds Try.pinned (OpenSpec.ofChange walkChunksSpec)

/-- ITS FALSE NEIGHBOUR: 'it returns false'. Refute it at one input. -/
def walkChunksWrong : ChangeSpec := { name := "walkChunks", fn := fun _ => fun
  | [d] => { results := [.lit (.bool false)], args := [d] }
  | _ => none }
def WalkChunksWrongFalsely : Prop := walkChunksRow.holds Try.pinned (OpenSpec.ofChange walkChunksWrong)

/-- 'styluslaw19.SeekLines': WHATEVER THE INPUT: true; the input reads as it did. -/
def seekLinesSpec : ChangeSpec := { name := "seekLines", fn := fun _ => fun
  | [d1, d2, d3] => { results := [.lit (.bool true)], args := [d1, d2, d3] }
  | _ => none }
def seekLinesRow : OpenClaim := { program := "ytdcnoiofimngpaa", sum := "4f9883789b7962f42e931aebddc32c0ffbfb991500d10f2b2bc786e62476b2e8", func := "stylus/styluslaw19.SeekLines", spec := "seekLines", inPlace := ["internal/abi.NoEscape", "internal/bytealg.MakeNoZero", "internal/bytealg.IndexByteString"], recurses := true, apart := false }
def SeekLinesSaid : Prop := seekLinesRow.holds Try.pinned (OpenSpec.ofChange seekLinesSpec)

/-- ITS FALSE NEIGHBOUR: 'it returns false'. Refute it at one input. -/
def seekLinesWrong : ChangeSpec := { name := "seekLines", fn := fun _ => fun
  | [d1, d2, d3] => { results := [.lit (.bool false)], args := [d1, d2, d3] }
  | _ => none }
def SeekLinesWrongFalsely : Prop := seekLinesRow.holds Try.pinned (OpenSpec.ofChange seekLinesWrong)

/-- 'styluslaw19.SeekBack': WHATEVER THE INPUT: true; the input reads as it did. -/
def seekBackSpec : ChangeSpec := { name := "seekBack", fn := fun _ => fun
  | [d1, d2] => { results := [.lit (.bool true)], args := [d1, d2] }
  | _ => none }
def seekBackRow : OpenClaim := { program := "ytdcnoiofimngpaa", sum := "4f9883789b7962f42e931aebddc32c0ffbfb991500d10f2b2bc786e62476b2e8", func := "stylus/styluslaw19.SeekBack", spec := "seekBack", inPlace := ["internal/abi.NoEscape", "internal/bytealg.MakeNoZero", "internal/bytealg.IndexByteString"], recurses := true, apart := false }
def SeekBackSaid : Prop := seekBackRow.holds Try.pinned (OpenSpec.ofChange seekBackSpec)

/-- ITS FALSE NEIGHBOUR: 'it returns false'. Refute it at one input. -/
def seekBackWrong : ChangeSpec := { name := "seekBack", fn := fun _ => fun
  | [d1, d2] => { results := [.lit (.bool false)], args := [d1, d2] }
  | _ => none }
def SeekBackWrongFalsely : Prop := seekBackRow.holds Try.pinned (OpenSpec.ofChange seekBackWrong)

/- THE SECOND FORM. 'bulk': how many values and letters a reading holds, each counted each time it is reached (what is shared counts as often as it is met; a slice's spare places count too). A statement '..UptoSaid' is the law's where the arguments, and the package variables that the reading takes, are together of bulk at most 1048576: NARROWER than '..Said'. Prove '..Said' where nothing that the law and all that it calls make is longer than what came in: it says more and counts as full. Else prove '..UptoSaid'. A law counts once. -/
mutual
def uptoBulk {H : Type} : DataW H → Nat
  | .lit (.string bytes) => bytes.length + 1
  | .lit _ => 1
  | .nil => 1
  | .ptr d => uptoBulk d + 1
  | .slice elems spare => uptoBulkAll elems + uptoBulkAll spare + 1
  | .agg parts => uptoBulkAll parts + 1
  | .iface _ d => uptoBulk d + 1
  | .map entries => uptoBulkEntries entries + 1
  | .held _ => 1
def uptoBulkAll {H : Type} : List (DataW H) → Nat
  | [] => 0
  | d :: r => uptoBulk d + uptoBulkAll r
def uptoBulkEntries {H : Type} : List (Lit × DataW H) → Nat
  | [] => 0
  | x :: r => uptoBulkEntry x + uptoBulkEntries r
def uptoBulkEntry {H : Type} : Lit × DataW H → Nat
  | (.string bytes, d) => bytes.length + uptoBulk d + 1
  | (_, d) => uptoBulk d + 1
 end
def uptoSmall : (H : Type) → List (DataW H) → Bool := fun _ ds => decide (uptoBulkAll ds ≤ 1048576)
def OpenSpec.upto (s : _root_.Go.ChangeSpec) : _root_.Go.OpenSpec := { _root_.Go.OpenSpec.ofChange s with cond := some uptoSmall }

/-- 'styluslaw49.FindReplaces', WHERE WHAT IT READS IS OF BULK AT MOST 1048576: true; the input reads as it did. -/
def findReplacesUptoRow : OpenClaim := { program := "ytdcnoiofimngpaa", sum := "4f9883789b7962f42e931aebddc32c0ffbfb991500d10f2b2bc786e62476b2e8", func := "stylus/styluslaw49.FindReplaces", spec := "findReplaces", inPlace := ["internal/abi.NoEscape", "internal/bytealg.MakeNoZero"], unfollowed := true, recurses := true, apart := false, narrowed := true }
def FindReplacesUptoSaid : Prop := findReplacesUptoRow.holds Try.pinned (OpenSpec.upto findReplacesSpec)

/-- 'styluslaw49.FindSwaps', WHERE WHAT IT READS IS OF BULK AT MOST 1048576: true; the input reads as it did. -/
def findSwapsUptoRow : OpenClaim := { program := "ytdcnoiofimngpaa", sum := "4f9883789b7962f42e931aebddc32c0ffbfb991500d10f2b2bc786e62476b2e8", func := "stylus/styluslaw49.FindSwaps", spec := "findSwaps", inPlace := ["internal/abi.NoEscape", "internal/bytealg.MakeNoZero"], unfollowed := true, recurses := true, apart := false, narrowed := true }
def FindSwapsUptoSaid : Prop := findSwapsUptoRow.holds Try.pinned (OpenSpec.upto findSwapsSpec)

/-- 'styluslaw49.FindPlaces', WHERE WHAT IT READS IS OF BULK AT MOST 1048576: true; the input reads as it did. -/
def findPlacesUptoRow : OpenClaim := { program := "ytdcnoiofimngpaa", sum := "4f9883789b7962f42e931aebddc32c0ffbfb991500d10f2b2bc786e62476b2e8", func := "stylus/styluslaw49.FindPlaces", spec := "findPlaces", inPlace := ["internal/abi.NoEscape", "internal/bytealg.MakeNoZero"], unfollowed := true, recurses := true, apart := false, narrowed := true }
def FindPlacesUptoSaid : Prop := findPlacesUptoRow.holds Try.pinned (OpenSpec.upto findPlacesSpec)

/-- 'styluslaw20.WalkRows', WHERE WHAT IT READS IS OF BULK AT MOST 1048576: true; the input reads as it did. -/
def walkRowsUptoRow : OpenClaim := { program := "ytdcnoiofimngpaa", sum := "4f9883789b7962f42e931aebddc32c0ffbfb991500d10f2b2bc786e62476b2e8", func := "stylus/styluslaw20.WalkRows", spec := "walkRows", inPlace := ["internal/abi.NoEscape", "internal/bytealg.MakeNoZero", "internal/bytealg.IndexByteString"], unfollowed := true, recurses := true, apart := false, narrowed := true }
def WalkRowsUptoSaid : Prop := walkRowsUptoRow.holds Try.pinned (OpenSpec.upto walkRowsSpec)

/-- 'styluslaw19.SeekRunes', WHERE WHAT IT READS IS OF BULK AT MOST 1048576: true; the input reads as it did. -/
def seekRunesUptoRow : OpenClaim := { program := "ytdcnoiofimngpaa", sum := "4f9883789b7962f42e931aebddc32c0ffbfb991500d10f2b2bc786e62476b2e8", func := "stylus/styluslaw19.SeekRunes", spec := "seekRunes", inPlace := ["internal/abi.NoEscape", "internal/bytealg.MakeNoZero", "internal/bytealg.IndexByteString"], recurses := true, apart := false, narrowed := true }
def SeekRunesUptoSaid : Prop := seekRunesUptoRow.holds Try.pinned (OpenSpec.upto seekRunesSpec)

/-- 'styluslaw20.WalkChunks', WHERE WHAT IT READS IS OF BULK AT MOST 1048576: true; the input reads as it did. -/
def walkChunksUptoRow : OpenClaim := { program := "ytdcnoiofimngpaa", sum := "4f9883789b7962f42e931aebddc32c0ffbfb991500d10f2b2bc786e62476b2e8", func := "stylus/styluslaw20.WalkChunks", spec := "walkChunks", inPlace := ["internal/abi.NoEscape", "internal/bytealg.MakeNoZero", "internal/bytealg.IndexByteString"], unfollowed := true, recurses := true, apart := false, narrowed := true }
def WalkChunksUptoSaid : Prop := walkChunksUptoRow.holds Try.pinned (OpenSpec.upto walkChunksSpec)

/-- 'styluslaw19.SeekLines', WHERE WHAT IT READS IS OF BULK AT MOST 1048576: true; the input reads as it did. -/
def seekLinesUptoRow : OpenClaim := { program := "ytdcnoiofimngpaa", sum := "4f9883789b7962f42e931aebddc32c0ffbfb991500d10f2b2bc786e62476b2e8", func := "stylus/styluslaw19.SeekLines", spec := "seekLines", inPlace := ["internal/abi.NoEscape", "internal/bytealg.MakeNoZero", "internal/bytealg.IndexByteString"], recurses := true, apart := false, narrowed := true }
def SeekLinesUptoSaid : Prop := seekLinesUptoRow.holds Try.pinned (OpenSpec.upto seekLinesSpec)

/-- 'styluslaw19.SeekBack', WHERE WHAT IT READS IS OF BULK AT MOST 1048576: true; the input reads as it did. -/
def seekBackUptoRow : OpenClaim := { program := "ytdcnoiofimngpaa", sum := "4f9883789b7962f42e931aebddc32c0ffbfb991500d10f2b2bc786e62476b2e8", func := "stylus/styluslaw19.SeekBack", spec := "seekBack", inPlace := ["internal/abi.NoEscape", "internal/bytealg.MakeNoZero", "internal/bytealg.IndexByteString"], recurses := true, apart := false, narrowed := true }
def SeekBackUptoSaid : Prop := seekBackUptoRow.holds Try.pinned (OpenSpec.upto seekBackSpec)

end Rows
end Go.Proofs.Ytdcnoiofimngpaa
