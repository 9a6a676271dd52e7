/-
  No cell of these rows narrows 'for every input' (looked for: loops, veiled, ifaces, maps, wideKeys, modest, calm, conditions, laid).
  DERIVED. THE GIVEN ROWS OF THIS SEAT. 7 by the template 'for every input the law returns true; each argument reads behind the call as it read before'; 0 by the template 'total and deterministic' (their statements: YtcijanmckhlpiaaTotals.lean).
  GIVEN WITH THE SEED: the statements are not yours to turn. If you find one false, say at which input.
  Laid BY PROGRAM, IN A SANDBOX (cutbox-rows.mjs): the forced cells as the released guide's own fill.sh prints them over the translation ba964b5300a50b6a… (all of the seat's roots in one cut). By AI agents, Wed Nov 11 2026. No macro, syntax, notation, axiom, sorry.
-/
import Derived.Test.YtcijanmckhlpiaaChecked
import GoSem.Claim
import GoSem.ClaimJoined
import GoSem.ClaimMapViews
import Derived.JoinedTies
import Derived.KernelRfl
namespace Go.Proofs.Ytcijanmckhlpiaa
/- THE CELL 'sum', in the pinned program and in every row, IS THE sha256 OF THE DUMP (.gsa) THAT YtcijanmckhlpiaaProg.lean LOADS. Nothing in Lean hashes anything: it is a label: what it is worth is what the hold of that sum in a sandbox is worth. -/
noncomputable def Try.pinned : Pinned := { name := "ytcijanmckhlpiaa", sum := "ba964b5300a50b6a8c998c9fd9f9c19085203ddeba0952b799d92f7ed2bdc1d3", checked := Try.checked }
namespace Rows
def none {H : Type} : Left H := { results := [], args := [] }

/-- 'trellislaw13.TableValids': WHATEVER THE INPUT: true; the input reads as it did. -/
def tableValidsSpec : ChangeSpec := { name := "tableValids", fn := fun _ => fun
  | [d1, d2] => { results := [.lit (.bool true)], args := [d1, d2] }
  | _ => none }
def tableValidsRow : OpenClaim := { program := "ytcijanmckhlpiaa", sum := "ba964b5300a50b6a8c998c9fd9f9c19085203ddeba0952b799d92f7ed2bdc1d3", func := "trellis/trellislaw13.TableValids", spec := "tableValids", apart := false }
def TableValidsSaid : Prop := tableValidsRow.holds Try.pinned (OpenSpec.ofChange tableValidsSpec)

/-- ITS FALSE NEIGHBOUR: 'it returns false'. Refute it at one input. -/
def tableValidsWrong : ChangeSpec := { name := "tableValids", fn := fun _ => fun
  | [d1, d2] => { results := [.lit (.bool false)], args := [d1, d2] }
  | _ => none }
def TableValidsWrongFalsely : Prop := tableValidsRow.holds Try.pinned (OpenSpec.ofChange tableValidsWrong)

/-- 'trellislaw10.GrammarPlaces': WHATEVER THE INPUT: true; the input reads as it did. -/
def grammarPlacesSpec : ChangeSpec := { name := "grammarPlaces", fn := fun _ => fun
  | [d1, d2] => { results := [.lit (.bool true)], args := [d1, d2] }
  | _ => none }
def grammarPlacesRow : OpenClaim := { program := "ytcijanmckhlpiaa", sum := "ba964b5300a50b6a8c998c9fd9f9c19085203ddeba0952b799d92f7ed2bdc1d3", func := "trellis/trellislaw10.GrammarPlaces", spec := "grammarPlaces", apart := false }
def GrammarPlacesSaid : Prop := grammarPlacesRow.holds Try.pinned (OpenSpec.ofChange grammarPlacesSpec)

/-- ITS FALSE NEIGHBOUR: 'it returns false'. Refute it at one input. -/
def grammarPlacesWrong : ChangeSpec := { name := "grammarPlaces", fn := fun _ => fun
  | [d1, d2] => { results := [.lit (.bool false)], args := [d1, d2] }
  | _ => none }
def GrammarPlacesWrongFalsely : Prop := grammarPlacesRow.holds Try.pinned (OpenSpec.ofChange grammarPlacesWrong)

/-- 'trellislaw21.PaintClasses': WHATEVER THE INPUT: true; the input reads as it did. -/
def paintClassesSpec : ChangeSpec := { name := "paintClasses", fn := fun _ => fun
  | [d1, d2, d3] => { results := [.lit (.bool true)], args := [d1, d2, d3] }
  | _ => none }
def paintClassesRow : OpenClaim := { program := "ytcijanmckhlpiaa", sum := "ba964b5300a50b6a8c998c9fd9f9c19085203ddeba0952b799d92f7ed2bdc1d3", func := "trellis/trellislaw21.PaintClasses", spec := "paintClasses", unfollowed := true, recurses := true, apart := false }
def PaintClassesSaid : Prop := paintClassesRow.holds Try.pinned (OpenSpec.ofChange paintClassesSpec)

/-- ITS FALSE NEIGHBOUR: 'it returns false'. Refute it at one input. -/
def paintClassesWrong : ChangeSpec := { name := "paintClasses", fn := fun _ => fun
  | [d1, d2, d3] => { results := [.lit (.bool false)], args := [d1, d2, d3] }
  | _ => none }
def PaintClassesWrongFalsely : Prop := paintClassesRow.holds Try.pinned (OpenSpec.ofChange paintClassesWrong)

/-- 'trellislaw13.TableEncodes': WHATEVER THE INPUT: true; the input reads as it did. -/
def tableEncodesSpec : ChangeSpec := { name := "tableEncodes", fn := fun _ => fun
  | [d] => { results := [.lit (.bool true)], args := [d] }
  | _ => none }
def tableEncodesRow : OpenClaim := { program := "ytcijanmckhlpiaa", sum := "ba964b5300a50b6a8c998c9fd9f9c19085203ddeba0952b799d92f7ed2bdc1d3", func := "trellis/trellislaw13.TableEncodes", spec := "tableEncodes", apart := false }
def TableEncodesSaid : Prop := tableEncodesRow.holds Try.pinned (OpenSpec.ofChange tableEncodesSpec)

/-- ITS FALSE NEIGHBOUR: 'it returns false'. Refute it at one input. -/
def tableEncodesWrong : ChangeSpec := { name := "tableEncodes", fn := fun _ => fun
  | [d] => { results := [.lit (.bool false)], args := [d] }
  | _ => none }
def TableEncodesWrongFalsely : Prop := tableEncodesRow.holds Try.pinned (OpenSpec.ofChange tableEncodesWrong)

/-- 'trellislaw21.PaintSpans': WHATEVER THE INPUT: true; the input reads as it did. -/
def paintSpansSpec : ChangeSpec := { name := "paintSpans", fn := fun _ => fun
  | [d1, d2] => { results := [.lit (.bool true)], args := [d1, d2] }
  | _ => none }
def paintSpansRow : OpenClaim := { program := "ytcijanmckhlpiaa", sum := "ba964b5300a50b6a8c998c9fd9f9c19085203ddeba0952b799d92f7ed2bdc1d3", func := "trellis/trellislaw21.PaintSpans", spec := "paintSpans", unfollowed := true, recurses := true, apart := false }
def PaintSpansSaid : Prop := paintSpansRow.holds Try.pinned (OpenSpec.ofChange paintSpansSpec)

/-- ITS FALSE NEIGHBOUR: 'it returns false'. Refute it at one input. -/
def paintSpansWrong : ChangeSpec := { name := "paintSpans", fn := fun _ => fun
  | [d1, d2] => { results := [.lit (.bool false)], args := [d1, d2] }
  | _ => none }
def PaintSpansWrongFalsely : Prop := paintSpansRow.holds Try.pinned (OpenSpec.ofChange paintSpansWrong)

/-- 'trellislaw21.PaintTiles': WHATEVER THE INPUT: true; the input reads as it did. -/
def paintTilesSpec : ChangeSpec := { name := "paintTiles", fn := fun _ => fun
  | [d1, d2] => { results := [.lit (.bool true)], args := [d1, d2] }
  | _ => none }
def paintTilesRow : OpenClaim := { program := "ytcijanmckhlpiaa", sum := "ba964b5300a50b6a8c998c9fd9f9c19085203ddeba0952b799d92f7ed2bdc1d3", func := "trellis/trellislaw21.PaintTiles", spec := "paintTiles", unfollowed := true, recurses := true, apart := false }
def PaintTilesSaid : Prop := paintTilesRow.holds Try.pinned (OpenSpec.ofChange paintTilesSpec)

/-- ITS FALSE NEIGHBOUR: 'it returns false'. Refute it at one input. -/
def paintTilesWrong : ChangeSpec := { name := "paintTiles", fn := fun _ => fun
  | [d1, d2] => { results := [.lit (.bool false)], args := [d1, d2] }
  | _ => none }
def PaintTilesWrongFalsely : Prop := paintTilesRow.holds Try.pinned (OpenSpec.ofChange paintTilesWrong)

/-- 'trellislaw21.PaintSpares': WHATEVER THE INPUT: true; the input reads as it did. -/
def paintSparesSpec : ChangeSpec := { name := "paintSpares", fn := fun _ => fun
  | [d1, d2] => { results := [.lit (.bool true)], args := [d1, d2] }
  | _ => none }
def paintSparesRow : OpenClaim := { program := "ytcijanmckhlpiaa", sum := "ba964b5300a50b6a8c998c9fd9f9c19085203ddeba0952b799d92f7ed2bdc1d3", func := "trellis/trellislaw21.PaintSpares", spec := "paintSpares", unfollowed := true, recurses := true, apart := false }
def PaintSparesSaid : Prop := paintSparesRow.holds Try.pinned (OpenSpec.ofChange paintSparesSpec)

/-- ITS FALSE NEIGHBOUR: 'it returns false'. Refute it at one input. -/
def paintSparesWrong : ChangeSpec := { name := "paintSpares", fn := fun _ => fun
  | [d1, d2] => { results := [.lit (.bool false)], args := [d1, d2] }
  | _ => none }
def PaintSparesWrongFalsely : Prop := paintSparesRow.holds Try.pinned (OpenSpec.ofChange paintSparesWrong)

/- THE SECOND FORM. 'bulk': how many values and letters a reading holds, each counted each time it is reached (what is shared counts as often as it is met; a slice's spare places count too). A statement '..UptoSaid' is the law's where the arguments, and the package variables that the reading takes, are together of bulk at most 1048576: NARROWER than '..Said'. Prove '..Said' where nothing that the law and all that it calls make is longer than what came in: it says more and counts as full. Else prove '..UptoSaid'. A law counts once. -/
mutual
def uptoBulk {H : Type} : DataW H → Nat
  | .lit (.string bytes) => bytes.length + 1
  | .lit _ => 1
  | .nil => 1
  | .ptr d => uptoBulk d + 1
  | .slice elems spare => uptoBulkAll elems + uptoBulkAll spare + 1
  | .agg parts => uptoBulkAll parts + 1
  | .iface _ d => uptoBulk d + 1
  | .map entries => uptoBulkEntries entries + 1
  | .held _ => 1
def uptoBulkAll {H : Type} : List (DataW H) → Nat
  | [] => 0
  | d :: r => uptoBulk d + uptoBulkAll r
def uptoBulkEntries {H : Type} : List (Lit × DataW H) → Nat
  | [] => 0
  | x :: r => uptoBulkEntry x + uptoBulkEntries r
def uptoBulkEntry {H : Type} : Lit × DataW H → Nat
  | (.string bytes, d) => bytes.length + uptoBulk d + 1
  | (_, d) => uptoBulk d + 1
 end
def uptoSmall : (H : Type) → List (DataW H) → Bool := fun _ ds => decide (uptoBulkAll ds ≤ 1048576)
def OpenSpec.upto (s : _root_.Go.ChangeSpec) : _root_.Go.OpenSpec := { _root_.Go.OpenSpec.ofChange s with cond := some uptoSmall }

/-- 'trellislaw13.TableValids', WHERE WHAT IT READS IS OF BULK AT MOST 1048576: true; the input reads as it did. -/
def tableValidsUptoRow : OpenClaim := { program := "ytcijanmckhlpiaa", sum := "ba964b5300a50b6a8c998c9fd9f9c19085203ddeba0952b799d92f7ed2bdc1d3", func := "trellis/trellislaw13.TableValids", spec := "tableValids", apart := false, narrowed := true }
def TableValidsUptoSaid : Prop := tableValidsUptoRow.holds Try.pinned (OpenSpec.upto tableValidsSpec)

/-- 'trellislaw10.GrammarPlaces', WHERE WHAT IT READS IS OF BULK AT MOST 1048576: true; the input reads as it did. -/
def grammarPlacesUptoRow : OpenClaim := { program := "ytcijanmckhlpiaa", sum := "ba964b5300a50b6a8c998c9fd9f9c19085203ddeba0952b799d92f7ed2bdc1d3", func := "trellis/trellislaw10.GrammarPlaces", spec := "grammarPlaces", apart := false, narrowed := true }
def GrammarPlacesUptoSaid : Prop := grammarPlacesUptoRow.holds Try.pinned (OpenSpec.upto grammarPlacesSpec)

/-- 'trellislaw21.PaintClasses', WHERE WHAT IT READS IS OF BULK AT MOST 1048576: true; the input reads as it did. -/
def paintClassesUptoRow : OpenClaim := { program := "ytcijanmckhlpiaa", sum := "ba964b5300a50b6a8c998c9fd9f9c19085203ddeba0952b799d92f7ed2bdc1d3", func := "trellis/trellislaw21.PaintClasses", spec := "paintClasses", unfollowed := true, recurses := true, apart := false, narrowed := true }
def PaintClassesUptoSaid : Prop := paintClassesUptoRow.holds Try.pinned (OpenSpec.upto paintClassesSpec)

/-- 'trellislaw13.TableEncodes', WHERE WHAT IT READS IS OF BULK AT MOST 1048576: true; the input reads as it did. -/
def tableEncodesUptoRow : OpenClaim := { program := "ytcijanmckhlpiaa", sum := "ba964b5300a50b6a8c998c9fd9f9c19085203ddeba0952b799d92f7ed2bdc1d3", func := "trellis/trellislaw13.TableEncodes", spec := "tableEncodes", apart := false, narrowed := true }
def TableEncodesUptoSaid : Prop := tableEncodesUptoRow.holds Try.pinned (OpenSpec.upto tableEncodesSpec)

/-- 'trellislaw21.PaintSpans', WHERE WHAT IT READS IS OF BULK AT MOST 1048576: true; the input reads as it did. -/
def paintSpansUptoRow : OpenClaim := { program := "ytcijanmckhlpiaa", sum := "ba964b5300a50b6a8c998c9fd9f9c19085203ddeba0952b799d92f7ed2bdc1d3", func := "trellis/trellislaw21.PaintSpans", spec := "paintSpans", unfollowed := true, recurses := true, apart := false, narrowed := true }
def PaintSpansUptoSaid : Prop := paintSpansUptoRow.holds Try.pinned (OpenSpec.upto paintSpansSpec)

/-- 'trellislaw21.PaintTiles', WHERE WHAT IT READS IS OF BULK AT MOST 1048576: true; the input reads as it did. -/
def paintTilesUptoRow : OpenClaim := { program := "ytcijanmckhlpiaa", sum := "ba964b5300a50b6a8c998c9fd9f9c19085203ddeba0952b799d92f7ed2bdc1d3", func := "trellis/trellislaw21.PaintTiles", spec := "paintTiles", unfollowed := true, recurses := true, apart := false, narrowed := true }
def PaintTilesUptoSaid : Prop := paintTilesUptoRow.holds Try.pinned (OpenSpec.upto paintTilesSpec)

/-- 'trellislaw21.PaintSpares', WHERE WHAT IT READS IS OF BULK AT MOST 1048576: true; the input reads as it did. -/
def paintSparesUptoRow : OpenClaim := { program := "ytcijanmckhlpiaa", sum := "ba964b5300a50b6a8c998c9fd9f9c19085203ddeba0952b799d92f7ed2bdc1d3", func := "trellis/trellislaw21.PaintSpares", spec := "paintSpares", unfollowed := true, recurses := true, apart := false, narrowed := true }
def PaintSparesUptoSaid : Prop := paintSparesUptoRow.holds Try.pinned (OpenSpec.upto paintSparesSpec)

end Rows
end Go.Proofs.Ytcijanmckhlpiaa
