/-
  No cell of these rows narrows 'for every input' (looked for: loops, veiled, ifaces, maps, wideKeys, modest, calm, conditions, laid).
  DERIVED. THE GIVEN ROWS OF THIS SEAT. 11 by the template 'for every input the law returns true; each argument reads behind the call as it read before'; 0 by the template 'total and deterministic' (their statements: YteniemhecfkfoaaTotals.lean).
  GIVEN WITH THE SEED: the statements are not yours to turn. If you find one false, say at which input.
  Laid BY PROGRAM, IN A SANDBOX (cutbox-rows.mjs): the forced cells as the released guide's own fill.sh prints them over the translation 013629c06aa15a15… (all of the seat's roots in one cut). By AI agents, Wed Nov 11 2026. No macro, syntax, notation, axiom, sorry.
-/
import Derived.Test.YteniemhecfkfoaaChecked
import GoSem.Claim
import GoSem.ClaimJoined
import GoSem.ClaimMapViews
import Derived.JoinedTies
import Derived.KernelRfl
namespace Go.Proofs.Yteniemhecfkfoaa
/- THE CELL 'sum', in the pinned program and in every row, IS THE sha256 OF THE DUMP (.gsa) THAT YteniemhecfkfoaaProg.lean LOADS. Nothing in Lean hashes anything: it is a label: what it is worth is what the hold of that sum in a sandbox is worth. -/
noncomputable def Try.pinned : Pinned := { name := "yteniemhecfkfoaa", sum := "013629c06aa15a150bd7026385929e3948d0e0e379dbf86fe0ea3bf9e7f75c83", checked := Try.checked }
namespace Rows
def none {H : Type} : Left H := { results := [], args := [] }

/-- 'styluslaw04.TallyOfs': WHATEVER THE INPUT: true; the input reads as it did. -/
def tallyOfsSpec : ChangeSpec := { name := "tallyOfs", fn := fun _ => fun
  | [d1, d2] => { results := [.lit (.bool true)], args := [d1, d2] }
  | _ => none }
def tallyOfsRow : OpenClaim := { program := "yteniemhecfkfoaa", sum := "013629c06aa15a150bd7026385929e3948d0e0e379dbf86fe0ea3bf9e7f75c83", func := "stylus/styluslaw04.TallyOfs", spec := "tallyOfs", apart := false }
def TallyOfsSaid : Prop := tallyOfsRow.holds Try.pinned (OpenSpec.ofChange tallyOfsSpec)

/-- ITS FALSE NEIGHBOUR: 'it returns false'. Refute it at one input. -/
def tallyOfsWrong : ChangeSpec := { name := "tallyOfs", fn := fun _ => fun
  | [d1, d2] => { results := [.lit (.bool false)], args := [d1, d2] }
  | _ => none }
def TallyOfsWrongFalsely : Prop := tallyOfsRow.holds Try.pinned (OpenSpec.ofChange tallyOfsWrong)

/-- 'styluslaw04.TallyAdds': WHATEVER THE INPUT: true; the input reads as it did. -/
def tallyAddsSpec : ChangeSpec := { name := "tallyAdds", fn := fun _ => fun
  | [d1, d2, d3] => { results := [.lit (.bool true)], args := [d1, d2, d3] }
  | _ => none }
def tallyAddsRow : OpenClaim := { program := "yteniemhecfkfoaa", sum := "013629c06aa15a150bd7026385929e3948d0e0e379dbf86fe0ea3bf9e7f75c83", func := "stylus/styluslaw04.TallyAdds", spec := "tallyAdds", apart := false }
def TallyAddsSaid : Prop := tallyAddsRow.holds Try.pinned (OpenSpec.ofChange tallyAddsSpec)

/-- ITS FALSE NEIGHBOUR: 'it returns false'. Refute it at one input. -/
def tallyAddsWrong : ChangeSpec := { name := "tallyAdds", fn := fun _ => fun
  | [d1, d2, d3] => { results := [.lit (.bool false)], args := [d1, d2, d3] }
  | _ => none }
def TallyAddsWrongFalsely : Prop := tallyAddsRow.holds Try.pinned (OpenSpec.ofChange tallyAddsWrong)

/-- 'styluslaw04.TallyJoins': WHATEVER THE INPUT: true; the input reads as it did. -/
def tallyJoinsSpec : ChangeSpec := { name := "tallyJoins", fn := fun _ => fun
  | [d1, d2, d3] => { results := [.lit (.bool true)], args := [d1, d2, d3] }
  | _ => none }
def tallyJoinsRow : OpenClaim := { program := "yteniemhecfkfoaa", sum := "013629c06aa15a150bd7026385929e3948d0e0e379dbf86fe0ea3bf9e7f75c83", func := "stylus/styluslaw04.TallyJoins", spec := "tallyJoins", apart := false }
def TallyJoinsSaid : Prop := tallyJoinsRow.holds Try.pinned (OpenSpec.ofChange tallyJoinsSpec)

/-- ITS FALSE NEIGHBOUR: 'it returns false'. Refute it at one input. -/
def tallyJoinsWrong : ChangeSpec := { name := "tallyJoins", fn := fun _ => fun
  | [d1, d2, d3] => { results := [.lit (.bool false)], args := [d1, d2, d3] }
  | _ => none }
def TallyJoinsWrongFalsely : Prop := tallyJoinsRow.holds Try.pinned (OpenSpec.ofChange tallyJoinsWrong)

/-- 'styluslaw01.UtfPuts': WHATEVER THE INPUT: true; the input reads as it did. -/
def utfPutsSpec : ChangeSpec := { name := "utfPuts", fn := fun _ => fun
  | [d] => { results := [.lit (.bool true)], args := [d] }
  | _ => none }
def utfPutsRow : OpenClaim := { program := "yteniemhecfkfoaa", sum := "013629c06aa15a150bd7026385929e3948d0e0e379dbf86fe0ea3bf9e7f75c83", func := "stylus/styluslaw01.UtfPuts", spec := "utfPuts", apart := false }
def UtfPutsSaid : Prop := utfPutsRow.holds Try.pinned (OpenSpec.ofChange utfPutsSpec)

/-- ITS FALSE NEIGHBOUR: 'it returns false'. Refute it at one input. -/
def utfPutsWrong : ChangeSpec := { name := "utfPuts", fn := fun _ => fun
  | [d] => { results := [.lit (.bool false)], args := [d] }
  | _ => none }
def UtfPutsWrongFalsely : Prop := utfPutsRow.holds Try.pinned (OpenSpec.ofChange utfPutsWrong)

/-- 'styluslaw01.UtfTakes': WHATEVER THE INPUT: true; the input reads as it did. -/
def utfTakesSpec : ChangeSpec := { name := "utfTakes", fn := fun _ => fun
  | [d1, d2] => { results := [.lit (.bool true)], args := [d1, d2] }
  | _ => none }
def utfTakesRow : OpenClaim := { program := "yteniemhecfkfoaa", sum := "013629c06aa15a150bd7026385929e3948d0e0e379dbf86fe0ea3bf9e7f75c83", func := "stylus/styluslaw01.UtfTakes", spec := "utfTakes", apart := false }
def UtfTakesSaid : Prop := utfTakesRow.holds Try.pinned (OpenSpec.ofChange utfTakesSpec)

/-- ITS FALSE NEIGHBOUR: 'it returns false'. Refute it at one input. -/
def utfTakesWrong : ChangeSpec := { name := "utfTakes", fn := fun _ => fun
  | [d1, d2] => { results := [.lit (.bool false)], args := [d1, d2] }
  | _ => none }
def UtfTakesWrongFalsely : Prop := utfTakesRow.holds Try.pinned (OpenSpec.ofChange utfTakesWrong)

/-- 'styluslaw01.UtfEdges': WHATEVER THE INPUT: true; the input reads as it did. -/
def utfEdgesSpec : ChangeSpec := { name := "utfEdges", fn := fun _ => fun
  | [d1, d2] => { results := [.lit (.bool true)], args := [d1, d2] }
  | _ => none }
def utfEdgesRow : OpenClaim := { program := "yteniemhecfkfoaa", sum := "013629c06aa15a150bd7026385929e3948d0e0e379dbf86fe0ea3bf9e7f75c83", func := "stylus/styluslaw01.UtfEdges", spec := "utfEdges", apart := false }
def UtfEdgesSaid : Prop := utfEdgesRow.holds Try.pinned (OpenSpec.ofChange utfEdgesSpec)

/-- ITS FALSE NEIGHBOUR: 'it returns false'. Refute it at one input. -/
def utfEdgesWrong : ChangeSpec := { name := "utfEdges", fn := fun _ => fun
  | [d1, d2] => { results := [.lit (.bool false)], args := [d1, d2] }
  | _ => none }
def UtfEdgesWrongFalsely : Prop := utfEdgesRow.holds Try.pinned (OpenSpec.ofChange utfEdgesWrong)

/-- 'styluslaw01.UtfWhole': WHATEVER THE INPUT: true; the input reads as it did. -/
def utfWholeSpec : ChangeSpec := { name := "utfWhole", fn := fun _ => fun
  | [d1, d2, d3] => { results := [.lit (.bool true)], args := [d1, d2, d3] }
  | _ => none }
def utfWholeRow : OpenClaim := { program := "yteniemhecfkfoaa", sum := "013629c06aa15a150bd7026385929e3948d0e0e379dbf86fe0ea3bf9e7f75c83", func := "stylus/styluslaw01.UtfWhole", spec := "utfWhole", apart := false }
def UtfWholeSaid : Prop := utfWholeRow.holds Try.pinned (OpenSpec.ofChange utfWholeSpec)

/-- ITS FALSE NEIGHBOUR: 'it returns false'. Refute it at one input. -/
def utfWholeWrong : ChangeSpec := { name := "utfWhole", fn := fun _ => fun
  | [d1, d2, d3] => { results := [.lit (.bool false)], args := [d1, d2, d3] }
  | _ => none }
def UtfWholeWrongFalsely : Prop := utfWholeRow.holds Try.pinned (OpenSpec.ofChange utfWholeWrong)

/-- 'styluslaw48.DifferMakes': WHATEVER THE INPUT: true; the input reads as it did. -/
def differMakesSpec : ChangeSpec := { name := "differMakes", fn := fun _ => fun
  | [d1, d2] => { results := [.lit (.bool true)], args := [d1, d2] }
  | _ => none }
def differMakesRow : OpenClaim := { program := "yteniemhecfkfoaa", sum := "013629c06aa15a150bd7026385929e3948d0e0e379dbf86fe0ea3bf9e7f75c83", func := "stylus/styluslaw48.DifferMakes", spec := "differMakes", apart := false }
def DifferMakesSaid : Prop := differMakesRow.holds Try.pinned (OpenSpec.ofChange differMakesSpec)

/-- ITS FALSE NEIGHBOUR: 'it returns false'. Refute it at one input. -/
def differMakesWrong : ChangeSpec := { name := "differMakes", fn := fun _ => fun
  | [d1, d2] => { results := [.lit (.bool false)], args := [d1, d2] }
  | _ => none }
def DifferMakesWrongFalsely : Prop := differMakesRow.holds Try.pinned (OpenSpec.ofChange differMakesWrong)

/-- 'styluslaw01.UtfTexts': WHATEVER THE INPUT: true; the input reads as it did. -/
def utfTextsSpec : ChangeSpec := { name := "utfTexts", fn := fun _ => fun
  | [d] => { results := [.lit (.bool true)], args := [d] }
  | _ => none }
def utfTextsRow : OpenClaim := { program := "yteniemhecfkfoaa", sum := "013629c06aa15a150bd7026385929e3948d0e0e379dbf86fe0ea3bf9e7f75c83", func := "stylus/styluslaw01.UtfTexts", spec := "utfTexts", apart := false }
def UtfTextsSaid : Prop := utfTextsRow.holds Try.pinned (OpenSpec.ofChange utfTextsSpec)

/-- ITS FALSE NEIGHBOUR: 'it returns false'. Refute it at one input. -/
def utfTextsWrong : ChangeSpec := { name := "utfTexts", fn := fun _ => fun
  | [d] => { results := [.lit (.bool false)], args := [d] }
  | _ => none }
def UtfTextsWrongFalsely : Prop := utfTextsRow.holds Try.pinned (OpenSpec.ofChange utfTextsWrong)

/-- 'styluslaw48.DifferTells': WHATEVER THE INPUT: true; the input reads as it did. -/
def differTellsSpec : ChangeSpec := { name := "differTells", fn := fun _ => fun
  | [d1, d2] => { results := [.lit (.bool true)], args := [d1, d2] }
  | _ => none }
def differTellsRow : OpenClaim := { program := "yteniemhecfkfoaa", sum := "013629c06aa15a150bd7026385929e3948d0e0e379dbf86fe0ea3bf9e7f75c83", func := "stylus/styluslaw48.DifferTells", spec := "differTells", apart := false }
def DifferTellsSaid : Prop := differTellsRow.holds Try.pinned (OpenSpec.ofChange differTellsSpec)

/-- ITS FALSE NEIGHBOUR: 'it returns false'. Refute it at one input. -/
def differTellsWrong : ChangeSpec := { name := "differTells", fn := fun _ => fun
  | [d1, d2] => { results := [.lit (.bool false)], args := [d1, d2] }
  | _ => none }
def DifferTellsWrongFalsely : Prop := differTellsRow.holds Try.pinned (OpenSpec.ofChange differTellsWrong)

/-- 'styluslaw48.DifferPaths': WHATEVER THE INPUT: true; the input reads as it did. -/
def differPathsSpec : ChangeSpec := { name := "differPaths", fn := fun _ => fun
  | [d] => { results := [.lit (.bool true)], args := [d] }
  | _ => none }
def differPathsRow : OpenClaim := { program := "yteniemhecfkfoaa", sum := "013629c06aa15a150bd7026385929e3948d0e0e379dbf86fe0ea3bf9e7f75c83", func := "stylus/styluslaw48.DifferPaths", spec := "differPaths", apart := false }
def DifferPathsSaid : Prop := differPathsRow.holds Try.pinned (OpenSpec.ofChange differPathsSpec)

/-- ITS FALSE NEIGHBOUR: 'it returns false'. Refute it at one input. -/
def differPathsWrong : ChangeSpec := { name := "differPaths", fn := fun _ => fun
  | [d] => { results := [.lit (.bool false)], args := [d] }
  | _ => none }
def DifferPathsWrongFalsely : Prop := differPathsRow.holds Try.pinned (OpenSpec.ofChange differPathsWrong)

/- THE SECOND FORM. 'bulk': how many values and letters a reading holds, each counted each time it is reached (what is shared counts as often as it is met; a slice's spare places count too). A statement '..UptoSaid' is the law's where the arguments, and the package variables that the reading takes, are together of bulk at most 1048576: NARROWER than '..Said'. Prove '..Said' where nothing that the law and all that it calls make is longer than what came in: it says more and counts as full. Else prove '..UptoSaid'. A law counts once. -/
mutual
def uptoBulk {H : Type} : DataW H → Nat
  | .lit (.string bytes) => bytes.length + 1
  | .lit _ => 1
  | .nil => 1
  | .ptr d => uptoBulk d + 1
  | .slice elems spare => uptoBulkAll elems + uptoBulkAll spare + 1
  | .agg parts => uptoBulkAll parts + 1
  | .iface _ d => uptoBulk d + 1
  | .map entries => uptoBulkEntries entries + 1
  | .held _ => 1
def uptoBulkAll {H : Type} : List (DataW H) → Nat
  | [] => 0
  | d :: r => uptoBulk d + uptoBulkAll r
def uptoBulkEntries {H : Type} : List (Lit × DataW H) → Nat
  | [] => 0
  | x :: r => uptoBulkEntry x + uptoBulkEntries r
def uptoBulkEntry {H : Type} : Lit × DataW H → Nat
  | (.string bytes, d) => bytes.length + uptoBulk d + 1
  | (_, d) => uptoBulk d + 1
 end
def uptoSmall : (H : Type) → List (DataW H) → Bool := fun _ ds => decide (uptoBulkAll ds ≤ 1048576)
def OpenSpec.upto (s : _root_.Go.ChangeSpec) : _root_.Go.OpenSpec := { _root_.Go.OpenSpec.ofChange s with cond := some uptoSmall }

/-- 'styluslaw04.TallyOfs', WHERE WHAT IT READS IS OF BULK AT MOST 1048576: true; the input reads as it did. -/
def tallyOfsUptoRow : OpenClaim := { program := "yteniemhecfkfoaa", sum := "013629c06aa15a150bd7026385929e3948d0e0e379dbf86fe0ea3bf9e7f75c83", func := "stylus/styluslaw04.TallyOfs", spec := "tallyOfs", apart := false, narrowed := true }
def TallyOfsUptoSaid : Prop := tallyOfsUptoRow.holds Try.pinned (OpenSpec.upto tallyOfsSpec)

/-- 'styluslaw04.TallyAdds', WHERE WHAT IT READS IS OF BULK AT MOST 1048576: true; the input reads as it did. -/
def tallyAddsUptoRow : OpenClaim := { program := "yteniemhecfkfoaa", sum := "013629c06aa15a150bd7026385929e3948d0e0e379dbf86fe0ea3bf9e7f75c83", func := "stylus/styluslaw04.TallyAdds", spec := "tallyAdds", apart := false, narrowed := true }
def TallyAddsUptoSaid : Prop := tallyAddsUptoRow.holds Try.pinned (OpenSpec.upto tallyAddsSpec)

/-- 'styluslaw04.TallyJoins', WHERE WHAT IT READS IS OF BULK AT MOST 1048576: true; the input reads as it did. -/
def tallyJoinsUptoRow : OpenClaim := { program := "yteniemhecfkfoaa", sum := "013629c06aa15a150bd7026385929e3948d0e0e379dbf86fe0ea3bf9e7f75c83", func := "stylus/styluslaw04.TallyJoins", spec := "tallyJoins", apart := false, narrowed := true }
def TallyJoinsUptoSaid : Prop := tallyJoinsUptoRow.holds Try.pinned (OpenSpec.upto tallyJoinsSpec)

/-- 'styluslaw01.UtfPuts', WHERE WHAT IT READS IS OF BULK AT MOST 1048576: true; the input reads as it did. -/
def utfPutsUptoRow : OpenClaim := { program := "yteniemhecfkfoaa", sum := "013629c06aa15a150bd7026385929e3948d0e0e379dbf86fe0ea3bf9e7f75c83", func := "stylus/styluslaw01.UtfPuts", spec := "utfPuts", apart := false, narrowed := true }
def UtfPutsUptoSaid : Prop := utfPutsUptoRow.holds Try.pinned (OpenSpec.upto utfPutsSpec)

/-- 'styluslaw01.UtfTakes', WHERE WHAT IT READS IS OF BULK AT MOST 1048576: true; the input reads as it did. -/
def utfTakesUptoRow : OpenClaim := { program := "yteniemhecfkfoaa", sum := "013629c06aa15a150bd7026385929e3948d0e0e379dbf86fe0ea3bf9e7f75c83", func := "stylus/styluslaw01.UtfTakes", spec := "utfTakes", apart := false, narrowed := true }
def UtfTakesUptoSaid : Prop := utfTakesUptoRow.holds Try.pinned (OpenSpec.upto utfTakesSpec)

/-- 'styluslaw01.UtfEdges', WHERE WHAT IT READS IS OF BULK AT MOST 1048576: true; the input reads as it did. -/
def utfEdgesUptoRow : OpenClaim := { program := "yteniemhecfkfoaa", sum := "013629c06aa15a150bd7026385929e3948d0e0e379dbf86fe0ea3bf9e7f75c83", func := "stylus/styluslaw01.UtfEdges", spec := "utfEdges", apart := false, narrowed := true }
def UtfEdgesUptoSaid : Prop := utfEdgesUptoRow.holds Try.pinned (OpenSpec.upto utfEdgesSpec)

/-- 'styluslaw01.UtfWhole', WHERE WHAT IT READS IS OF BULK AT MOST 1048576: true; the input reads as it did. -/
def utfWholeUptoRow : OpenClaim := { program := "yteniemhecfkfoaa", sum := "013629c06aa15a150bd7026385929e3948d0e0e379dbf86fe0ea3bf9e7f75c83", func := "stylus/styluslaw01.UtfWhole", spec := "utfWhole", apart := false, narrowed := true }
def UtfWholeUptoSaid : Prop := utfWholeUptoRow.holds Try.pinned (OpenSpec.upto utfWholeSpec)

/-- 'styluslaw48.DifferMakes', WHERE WHAT IT READS IS OF BULK AT MOST 1048576: true; the input reads as it did. -/
def differMakesUptoRow : OpenClaim := { program := "yteniemhecfkfoaa", sum := "013629c06aa15a150bd7026385929e3948d0e0e379dbf86fe0ea3bf9e7f75c83", func := "stylus/styluslaw48.DifferMakes", spec := "differMakes", apart := false, narrowed := true }
def DifferMakesUptoSaid : Prop := differMakesUptoRow.holds Try.pinned (OpenSpec.upto differMakesSpec)

/-- 'styluslaw01.UtfTexts', WHERE WHAT IT READS IS OF BULK AT MOST 1048576: true; the input reads as it did. -/
def utfTextsUptoRow : OpenClaim := { program := "yteniemhecfkfoaa", sum := "013629c06aa15a150bd7026385929e3948d0e0e379dbf86fe0ea3bf9e7f75c83", func := "stylus/styluslaw01.UtfTexts", spec := "utfTexts", apart := false, narrowed := true }
def UtfTextsUptoSaid : Prop := utfTextsUptoRow.holds Try.pinned (OpenSpec.upto utfTextsSpec)

/-- 'styluslaw48.DifferTells', WHERE WHAT IT READS IS OF BULK AT MOST 1048576: true; the input reads as it did. -/
def differTellsUptoRow : OpenClaim := { program := "yteniemhecfkfoaa", sum := "013629c06aa15a150bd7026385929e3948d0e0e379dbf86fe0ea3bf9e7f75c83", func := "stylus/styluslaw48.DifferTells", spec := "differTells", apart := false, narrowed := true }
def DifferTellsUptoSaid : Prop := differTellsUptoRow.holds Try.pinned (OpenSpec.upto differTellsSpec)

/-- 'styluslaw48.DifferPaths', WHERE WHAT IT READS IS OF BULK AT MOST 1048576: true; the input reads as it did. -/
def differPathsUptoRow : OpenClaim := { program := "yteniemhecfkfoaa", sum := "013629c06aa15a150bd7026385929e3948d0e0e379dbf86fe0ea3bf9e7f75c83", func := "stylus/styluslaw48.DifferPaths", spec := "differPaths", apart := false, narrowed := true }
def DifferPathsUptoSaid : Prop := differPathsUptoRow.holds Try.pinned (OpenSpec.upto differPathsSpec)

end Rows
end Go.Proofs.Yteniemhecfkfoaa
