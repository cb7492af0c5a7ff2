/-
  No cell of these rows narrows 'for every input' (looked for: loops, veiled, ifaces, maps, wideKeys, modest, calm, conditions, laid).
  DERIVED. THE GIVEN ROWS OF THIS SEAT. 9 by the template 'for every input the law returns true; each argument reads behind the call as it read before'; 0 by the template 'total and deterministic' (their statements: YtobhffeopfbjlaaTotals.lean).
  GIVEN WITH THE SEED: the statements are not yours to turn. If you find one false, say at which input.
  Laid BY PROGRAM, IN A SANDBOX (cutbox-rows.mjs): the forced cells as the released guide's own fill.sh prints them over the translation 601f326330e7deb6… (all of the seat's roots in one cut). By AI agents, Wed Nov 11 2026. No macro, syntax, notation, axiom, sorry.
-/
import Derived.Test.YtobhffeopfbjlaaChecked
import GoSem.Claim
import GoSem.ClaimJoined
import GoSem.ClaimMapViews
import Derived.JoinedTies
import Derived.KernelRfl
namespace Go.Proofs.Ytobhffeopfbjlaa
/- THE CELL 'sum', in the pinned program and in every row, IS THE sha256 OF THE DUMP (.gsa) THAT YtobhffeopfbjlaaProg.lean LOADS. Nothing in Lean hashes anything: it is a label: what it is worth is what the hold of that sum in a sandbox is worth. -/
noncomputable def Try.pinned : Pinned := { name := "ytobhffeopfbjlaa", sum := "601f326330e7deb6eff5ec06ebd1cdf427287b5a3949fa29432cb8c2a628b442", checked := Try.checked }
namespace Rows
def none {H : Type} : Left H := { results := [], args := [] }

/-- 'styluslaw05.PieceCuts': WHATEVER THE INPUT: true; the input reads as it did. -/
def pieceCutsSpec : ChangeSpec := { name := "pieceCuts", fn := fun _ => fun
  | [d1, d2] => { results := [.lit (.bool true)], args := [d1, d2] }
  | _ => none }
def pieceCutsRow : OpenClaim := { program := "ytobhffeopfbjlaa", sum := "601f326330e7deb6eff5ec06ebd1cdf427287b5a3949fa29432cb8c2a628b442", func := "stylus/styluslaw05.PieceCuts", spec := "pieceCuts", apart := false }
def PieceCutsSaid : Prop := pieceCutsRow.holds Try.pinned (OpenSpec.ofChange pieceCutsSpec)

/-- ITS FALSE NEIGHBOUR: 'it returns false'. Refute it at one input. -/
def pieceCutsWrong : ChangeSpec := { name := "pieceCuts", fn := fun _ => fun
  | [d1, d2] => { results := [.lit (.bool false)], args := [d1, d2] }
  | _ => none }
def PieceCutsWrongFalsely : Prop := pieceCutsRow.holds Try.pinned (OpenSpec.ofChange pieceCutsWrong)

/-- 'styluslaw05.PieceSlices': WHATEVER THE INPUT: true; the input reads as it did. -/
def pieceSlicesSpec : ChangeSpec := { name := "pieceSlices", fn := fun _ => fun
  | [d1, d2, d3] => { results := [.lit (.bool true)], args := [d1, d2, d3] }
  | _ => none }
def pieceSlicesRow : OpenClaim := { program := "ytobhffeopfbjlaa", sum := "601f326330e7deb6eff5ec06ebd1cdf427287b5a3949fa29432cb8c2a628b442", func := "stylus/styluslaw05.PieceSlices", spec := "pieceSlices", apart := false }
def PieceSlicesSaid : Prop := pieceSlicesRow.holds Try.pinned (OpenSpec.ofChange pieceSlicesSpec)

/-- ITS FALSE NEIGHBOUR: 'it returns false'. Refute it at one input. -/
def pieceSlicesWrong : ChangeSpec := { name := "pieceSlices", fn := fun _ => fun
  | [d1, d2, d3] => { results := [.lit (.bool false)], args := [d1, d2, d3] }
  | _ => none }
def PieceSlicesWrongFalsely : Prop := pieceSlicesRow.holds Try.pinned (OpenSpec.ofChange pieceSlicesWrong)

/-- 'styluslaw05.PieceWhole': WHATEVER THE INPUT: true; the input reads as it did. -/
def pieceWholeSpec : ChangeSpec := { name := "pieceWhole", fn := fun _ => fun
  | [d1, d2] => { results := [.lit (.bool true)], args := [d1, d2] }
  | _ => none }
def pieceWholeRow : OpenClaim := { program := "ytobhffeopfbjlaa", sum := "601f326330e7deb6eff5ec06ebd1cdf427287b5a3949fa29432cb8c2a628b442", func := "stylus/styluslaw05.PieceWhole", spec := "pieceWhole", apart := false }
def PieceWholeSaid : Prop := pieceWholeRow.holds Try.pinned (OpenSpec.ofChange pieceWholeSpec)

/-- ITS FALSE NEIGHBOUR: 'it returns false'. Refute it at one input. -/
def pieceWholeWrong : ChangeSpec := { name := "pieceWhole", fn := fun _ => fun
  | [d1, d2] => { results := [.lit (.bool false)], args := [d1, d2] }
  | _ => none }
def PieceWholeWrongFalsely : Prop := pieceWholeRow.holds Try.pinned (OpenSpec.ofChange pieceWholeWrong)

/-- 'styluslaw06.BlendMixes': WHATEVER THE INPUT: true; the input reads as it did. -/
def blendMixesSpec : ChangeSpec := { name := "blendMixes", fn := fun _ => fun
  | [d1, d2, d3] => { results := [.lit (.bool true)], args := [d1, d2, d3] }
  | _ => none }
def blendMixesRow : OpenClaim := { program := "ytobhffeopfbjlaa", sum := "601f326330e7deb6eff5ec06ebd1cdf427287b5a3949fa29432cb8c2a628b442", func := "stylus/styluslaw06.BlendMixes", spec := "blendMixes", apart := false }
def BlendMixesSaid : Prop := blendMixesRow.holds Try.pinned (OpenSpec.ofChange blendMixesSpec)

/-- ITS FALSE NEIGHBOUR: 'it returns false'. Refute it at one input. -/
def blendMixesWrong : ChangeSpec := { name := "blendMixes", fn := fun _ => fun
  | [d1, d2, d3] => { results := [.lit (.bool false)], args := [d1, d2, d3] }
  | _ => none }
def BlendMixesWrongFalsely : Prop := blendMixesRow.holds Try.pinned (OpenSpec.ofChange blendMixesWrong)

/-- 'styluslaw06.BlendEnds': WHATEVER THE INPUT: true; the input reads as it did. -/
def blendEndsSpec : ChangeSpec := { name := "blendEnds", fn := fun _ => fun
  | [d1, d2, d3] => { results := [.lit (.bool true)], args := [d1, d2, d3] }
  | _ => none }
def blendEndsRow : OpenClaim := { program := "ytobhffeopfbjlaa", sum := "601f326330e7deb6eff5ec06ebd1cdf427287b5a3949fa29432cb8c2a628b442", func := "stylus/styluslaw06.BlendEnds", spec := "blendEnds", apart := false }
def BlendEndsSaid : Prop := blendEndsRow.holds Try.pinned (OpenSpec.ofChange blendEndsSpec)

/-- ITS FALSE NEIGHBOUR: 'it returns false'. Refute it at one input. -/
def blendEndsWrong : ChangeSpec := { name := "blendEnds", fn := fun _ => fun
  | [d1, d2, d3] => { results := [.lit (.bool false)], args := [d1, d2, d3] }
  | _ => none }
def BlendEndsWrongFalsely : Prop := blendEndsRow.holds Try.pinned (OpenSpec.ofChange blendEndsWrong)

/-- 'styluslaw06.BlendBytes': WHATEVER THE INPUT: true; the input reads as it did. -/
def blendBytesSpec : ChangeSpec := { name := "blendBytes", fn := fun _ => fun
  | [d1, d2, d3] => { results := [.lit (.bool true)], args := [d1, d2, d3] }
  | _ => none }
def blendBytesRow : OpenClaim := { program := "ytobhffeopfbjlaa", sum := "601f326330e7deb6eff5ec06ebd1cdf427287b5a3949fa29432cb8c2a628b442", func := "stylus/styluslaw06.BlendBytes", spec := "blendBytes", apart := false }
def BlendBytesSaid : Prop := blendBytesRow.holds Try.pinned (OpenSpec.ofChange blendBytesSpec)

/-- ITS FALSE NEIGHBOUR: 'it returns false'. Refute it at one input. -/
def blendBytesWrong : ChangeSpec := { name := "blendBytes", fn := fun _ => fun
  | [d1, d2, d3] => { results := [.lit (.bool false)], args := [d1, d2, d3] }
  | _ => none }
def BlendBytesWrongFalsely : Prop := blendBytesRow.holds Try.pinned (OpenSpec.ofChange blendBytesWrong)

/-- 'styluslaw07.TapeKeeps': WHATEVER THE INPUT: true; the input reads as it did. -/
def tapeKeepsSpec : ChangeSpec := { name := "tapeKeeps", fn := fun _ => fun
  | [d1, d2, d3] => { results := [.lit (.bool true)], args := [d1, d2, d3] }
  | _ => none }
def tapeKeepsRow : OpenClaim := { program := "ytobhffeopfbjlaa", sum := "601f326330e7deb6eff5ec06ebd1cdf427287b5a3949fa29432cb8c2a628b442", func := "stylus/styluslaw07.TapeKeeps", spec := "tapeKeeps", unfollowed := true, recurses := true, apart := false }
def TapeKeepsSaid : Prop := tapeKeepsRow.holds Try.pinned (OpenSpec.ofChange tapeKeepsSpec)

/-- ITS FALSE NEIGHBOUR: 'it returns false'. Refute it at one input. -/
def tapeKeepsWrong : ChangeSpec := { name := "tapeKeeps", fn := fun _ => fun
  | [d1, d2, d3] => { results := [.lit (.bool false)], args := [d1, d2, d3] }
  | _ => none }
def TapeKeepsWrongFalsely : Prop := tapeKeepsRow.holds Try.pinned (OpenSpec.ofChange tapeKeepsWrong)

/-- 'styluslaw07.TapeNobody': WHATEVER THE INPUT: true; the input reads as it did. -/
def tapeNobodySpec : ChangeSpec := { name := "tapeNobody", fn := fun _ => fun
  | [d1, d2] => { results := [.lit (.bool true)], args := [d1, d2] }
  | _ => none }
def tapeNobodyRow : OpenClaim := { program := "ytobhffeopfbjlaa", sum := "601f326330e7deb6eff5ec06ebd1cdf427287b5a3949fa29432cb8c2a628b442", func := "stylus/styluslaw07.TapeNobody", spec := "tapeNobody", unfollowed := true, recurses := true, apart := false }
def TapeNobodySaid : Prop := tapeNobodyRow.holds Try.pinned (OpenSpec.ofChange tapeNobodySpec)

/-- ITS FALSE NEIGHBOUR: 'it returns false'. Refute it at one input. -/
def tapeNobodyWrong : ChangeSpec := { name := "tapeNobody", fn := fun _ => fun
  | [d1, d2] => { results := [.lit (.bool false)], args := [d1, d2] }
  | _ => none }
def TapeNobodyWrongFalsely : Prop := tapeNobodyRow.holds Try.pinned (OpenSpec.ofChange tapeNobodyWrong)

/-- 'styluslaw07.TapePlays': WHATEVER THE INPUT: true; the input reads as it did. -/
def tapePlaysSpec : ChangeSpec := { name := "tapePlays", fn := fun _ => fun
  | [d1, d2, d3] => { results := [.lit (.bool true)], args := [d1, d2, d3] }
  | _ => none }
def tapePlaysRow : OpenClaim := { program := "ytobhffeopfbjlaa", sum := "601f326330e7deb6eff5ec06ebd1cdf427287b5a3949fa29432cb8c2a628b442", func := "stylus/styluslaw07.TapePlays", spec := "tapePlays", unfollowed := true, recurses := true, apart := false }
def TapePlaysSaid : Prop := tapePlaysRow.holds Try.pinned (OpenSpec.ofChange tapePlaysSpec)

/-- ITS FALSE NEIGHBOUR: 'it returns false'. Refute it at one input. -/
def tapePlaysWrong : ChangeSpec := { name := "tapePlays", fn := fun _ => fun
  | [d1, d2, d3] => { results := [.lit (.bool false)], args := [d1, d2, d3] }
  | _ => none }
def TapePlaysWrongFalsely : Prop := tapePlaysRow.holds Try.pinned (OpenSpec.ofChange tapePlaysWrong)

/- THE SECOND FORM. 'bulk': how many values and letters a reading holds, each counted each time it is reached (what is shared counts as often as it is met; a slice's spare places count too). A statement '..UptoSaid' is the law's where the arguments, and the package variables that the reading takes, are together of bulk at most 1048576: NARROWER than '..Said'. Prove '..Said' where nothing that the law and all that it calls make is longer than what came in: it says more and counts as full. Else prove '..UptoSaid'. A law counts once. -/
mutual
def uptoBulk {H : Type} : DataW H → Nat
  | .lit (.string bytes) => bytes.length + 1
  | .lit _ => 1
  | .nil => 1
  | .ptr d => uptoBulk d + 1
  | .slice elems spare => uptoBulkAll elems + uptoBulkAll spare + 1
  | .agg parts => uptoBulkAll parts + 1
  | .iface _ d => uptoBulk d + 1
  | .map entries => uptoBulkEntries entries + 1
  | .held _ => 1
def uptoBulkAll {H : Type} : List (DataW H) → Nat
  | [] => 0
  | d :: r => uptoBulk d + uptoBulkAll r
def uptoBulkEntries {H : Type} : List (Lit × DataW H) → Nat
  | [] => 0
  | x :: r => uptoBulkEntry x + uptoBulkEntries r
def uptoBulkEntry {H : Type} : Lit × DataW H → Nat
  | (.string bytes, d) => bytes.length + uptoBulk d + 1
  | (_, d) => uptoBulk d + 1
 end
def uptoSmall : (H : Type) → List (DataW H) → Bool := fun _ ds => decide (uptoBulkAll ds ≤ 1048576)
def OpenSpec.upto (s : _root_.Go.ChangeSpec) : _root_.Go.OpenSpec := { _root_.Go.OpenSpec.ofChange s with cond := some uptoSmall }

/-- 'styluslaw05.PieceCuts', WHERE WHAT IT READS IS OF BULK AT MOST 1048576: true; the input reads as it did. -/
def pieceCutsUptoRow : OpenClaim := { program := "ytobhffeopfbjlaa", sum := "601f326330e7deb6eff5ec06ebd1cdf427287b5a3949fa29432cb8c2a628b442", func := "stylus/styluslaw05.PieceCuts", spec := "pieceCuts", apart := false, narrowed := true }
def PieceCutsUptoSaid : Prop := pieceCutsUptoRow.holds Try.pinned (OpenSpec.upto pieceCutsSpec)

/-- 'styluslaw05.PieceSlices', WHERE WHAT IT READS IS OF BULK AT MOST 1048576: true; the input reads as it did. -/
def pieceSlicesUptoRow : OpenClaim := { program := "ytobhffeopfbjlaa", sum := "601f326330e7deb6eff5ec06ebd1cdf427287b5a3949fa29432cb8c2a628b442", func := "stylus/styluslaw05.PieceSlices", spec := "pieceSlices", apart := false, narrowed := true }
def PieceSlicesUptoSaid : Prop := pieceSlicesUptoRow.holds Try.pinned (OpenSpec.upto pieceSlicesSpec)

/-- 'styluslaw05.PieceWhole', WHERE WHAT IT READS IS OF BULK AT MOST 1048576: true; the input reads as it did. -/
def pieceWholeUptoRow : OpenClaim := { program := "ytobhffeopfbjlaa", sum := "601f326330e7deb6eff5ec06ebd1cdf427287b5a3949fa29432cb8c2a628b442", func := "stylus/styluslaw05.PieceWhole", spec := "pieceWhole", apart := false, narrowed := true }
def PieceWholeUptoSaid : Prop := pieceWholeUptoRow.holds Try.pinned (OpenSpec.upto pieceWholeSpec)

/-- 'styluslaw06.BlendMixes', WHERE WHAT IT READS IS OF BULK AT MOST 1048576: true; the input reads as it did. -/
def blendMixesUptoRow : OpenClaim := { program := "ytobhffeopfbjlaa", sum := "601f326330e7deb6eff5ec06ebd1cdf427287b5a3949fa29432cb8c2a628b442", func := "stylus/styluslaw06.BlendMixes", spec := "blendMixes", apart := false, narrowed := true }
def BlendMixesUptoSaid : Prop := blendMixesUptoRow.holds Try.pinned (OpenSpec.upto blendMixesSpec)

/-- 'styluslaw06.BlendEnds', WHERE WHAT IT READS IS OF BULK AT MOST 1048576: true; the input reads as it did. -/
def blendEndsUptoRow : OpenClaim := { program := "ytobhffeopfbjlaa", sum := "601f326330e7deb6eff5ec06ebd1cdf427287b5a3949fa29432cb8c2a628b442", func := "stylus/styluslaw06.BlendEnds", spec := "blendEnds", apart := false, narrowed := true }
def BlendEndsUptoSaid : Prop := blendEndsUptoRow.holds Try.pinned (OpenSpec.upto blendEndsSpec)

/-- 'styluslaw06.BlendBytes', WHERE WHAT IT READS IS OF BULK AT MOST 1048576: true; the input reads as it did. -/
def blendBytesUptoRow : OpenClaim := { program := "ytobhffeopfbjlaa", sum := "601f326330e7deb6eff5ec06ebd1cdf427287b5a3949fa29432cb8c2a628b442", func := "stylus/styluslaw06.BlendBytes", spec := "blendBytes", apart := false, narrowed := true }
def BlendBytesUptoSaid : Prop := blendBytesUptoRow.holds Try.pinned (OpenSpec.upto blendBytesSpec)

/-- 'styluslaw07.TapeKeeps', WHERE WHAT IT READS IS OF BULK AT MOST 1048576: true; the input reads as it did. -/
def tapeKeepsUptoRow : OpenClaim := { program := "ytobhffeopfbjlaa", sum := "601f326330e7deb6eff5ec06ebd1cdf427287b5a3949fa29432cb8c2a628b442", func := "stylus/styluslaw07.TapeKeeps", spec := "tapeKeeps", unfollowed := true, recurses := true, apart := false, narrowed := true }
def TapeKeepsUptoSaid : Prop := tapeKeepsUptoRow.holds Try.pinned (OpenSpec.upto tapeKeepsSpec)

/-- 'styluslaw07.TapeNobody', WHERE WHAT IT READS IS OF BULK AT MOST 1048576: true; the input reads as it did. -/
def tapeNobodyUptoRow : OpenClaim := { program := "ytobhffeopfbjlaa", sum := "601f326330e7deb6eff5ec06ebd1cdf427287b5a3949fa29432cb8c2a628b442", func := "stylus/styluslaw07.TapeNobody", spec := "tapeNobody", unfollowed := true, recurses := true, apart := false, narrowed := true }
def TapeNobodyUptoSaid : Prop := tapeNobodyUptoRow.holds Try.pinned (OpenSpec.upto tapeNobodySpec)

/-- 'styluslaw07.TapePlays', WHERE WHAT IT READS IS OF BULK AT MOST 1048576: true; the input reads as it did. -/
def tapePlaysUptoRow : OpenClaim := { program := "ytobhffeopfbjlaa", sum := "601f326330e7deb6eff5ec06ebd1cdf427287b5a3949fa29432cb8c2a628b442", func := "stylus/styluslaw07.TapePlays", spec := "tapePlays", unfollowed := true, recurses := true, apart := false, narrowed := true }
def TapePlaysUptoSaid : Prop := tapePlaysUptoRow.holds Try.pinned (OpenSpec.upto tapePlaysSpec)

end Rows
end Go.Proofs.Ytobhffeopfbjlaa
