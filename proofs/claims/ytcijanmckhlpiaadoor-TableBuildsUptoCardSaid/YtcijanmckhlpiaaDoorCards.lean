/-
  DERIVED. GIVEN WITH THE SEED: THE CARDS: each row of YtcijanmckhlpiaaDoorRows.lean that lists a variable, with what it lists TIED to the program's text (the seventh form; the later family's looks); each row that meets fmt, with fmt's text TOLD by the authors' own Lean function (tested against real Go, not proved from fmt's source: count such statements apart). THE CARD IS WHAT COUNTS. Prove the row's statement (the work); the ties are given (YtcijanmckhlpiaaDoorTie.lean); close each card by the builder's one call (the guide's Derived/Test/ToyasCard.lean, 'card_holds'). Laid BY PROGRAM, IN A SANDBOX (cutbox-door.mjs). By AI agents, Wed Nov 11 2026. No macro, syntax, notation, axiom, sorry.
-/
import Derived.Test.YtcijanmckhlpiaaDoorRows
import GoSem.ClaimSeven
namespace Go.Proofs.YtcijanmckhlpiaaDoor
namespace Rows

/-- THE TIED CARD OF 'trellislaw13.TableDecodes'. -/
def tableDecodesCard : Claim7 := { stood := { row := tableDecodesRow, standIns := [], harness := (true, "539cf754aeabea6d92a62c6d92c7a3befaf14702da63bda75f9ce22f957cc4af"), looks := true }, kinds := [], alts := [], laidByText := true, laidKinds := [.handle], laidTests := true, laidLooks := .later }
def TableDecodesCardSaid : Prop := Claim7.holds Tryd.pinned (.plain (OpenSpec.ofChange tableDecodesSpec)) tableDecodesCard

/-- THE TIED CARD OF 'trellislaw21.PaintLines'. -/
def paintLinesCard : Claim7 := { stood := { row := paintLinesRow, standIns := [], harness := (true, "539cf754aeabea6d92a62c6d92c7a3befaf14702da63bda75f9ce22f957cc4af"), looks := true }, kinds := [], alts := [], laidByText := true, laidKinds := [.data, .data, .data], laidTests := true, laidLooks := .later }
def PaintLinesCardSaid : Prop := Claim7.holds Tryd.pinned (.plain (OpenSpec.ofChange paintLinesSpec)) paintLinesCard

/-- THE TIED CARD OF 'trellislaw13.TableBuilds'. -/
def tableBuildsCard : Claim7 := { stood := { row := tableBuildsRow, standIns := [], harness := (true, "539cf754aeabea6d92a62c6d92c7a3befaf14702da63bda75f9ce22f957cc4af"), looks := true }, kinds := [], alts := [], laidByText := true, laidKinds := [.data, .data, .data, .handle], laidTests := true, laidLooks := .later }
def TableBuildsCardSaid : Prop := Claim7.holds Tryd.pinned (.plain (OpenSpec.ofChange tableBuildsSpec)) tableBuildsCard

/-- THE TIED CARD OF 'trellislaw13.TableBack'. -/
def tableBackCard : Claim7 := { stood := { row := tableBackRow, standIns := [], harness := (true, "539cf754aeabea6d92a62c6d92c7a3befaf14702da63bda75f9ce22f957cc4af"), looks := true }, kinds := [], alts := [], laidByText := true, laidKinds := [.data, .data, .data, .handle], laidTests := true, laidLooks := .later }
def TableBackCardSaid : Prop := Claim7.holds Tryd.pinned (.plain (OpenSpec.ofChange tableBackSpec)) tableBackCard

/-- THE TIED CARD OF 'trellislaw13.TableReads'. -/
def tableReadsCard : Claim7 := { stood := { row := tableReadsRow, standIns := [], harness := (true, "539cf754aeabea6d92a62c6d92c7a3befaf14702da63bda75f9ce22f957cc4af"), looks := true }, kinds := [], alts := [], laidByText := true, laidKinds := [.data, .data, .data, .handle], laidTests := true, laidLooks := .later }
def TableReadsCardSaid : Prop := Claim7.holds Tryd.pinned (.plain (OpenSpec.ofChange tableReadsSpec)) tableReadsCard

/-- THE TIED CARD OF 'trellislaw13.TableSpares'. -/
def tableSparesCard : Claim7 := { stood := { row := tableSparesRow, standIns := [], harness := (true, "539cf754aeabea6d92a62c6d92c7a3befaf14702da63bda75f9ce22f957cc4af"), looks := true }, kinds := [], alts := [], laidByText := true, laidKinds := [.data, .data, .data, .handle], laidTests := true, laidLooks := .later }
def TableSparesCardSaid : Prop := Claim7.holds Tryd.pinned (.plain (OpenSpec.ofChange tableSparesSpec)) tableSparesCard

/-- THE SECOND FORM's CARD OF 'trellislaw13.TableDecodes'. -/
def tableDecodesUptoCard : Claim7 := { stood := { row := tableDecodesUptoRow, standIns := [], harness := (true, "539cf754aeabea6d92a62c6d92c7a3befaf14702da63bda75f9ce22f957cc4af"), looks := true }, kinds := [], alts := [], laidByText := true, laidKinds := [.handle], laidTests := true, laidLooks := .later }
def TableDecodesUptoCardSaid : Prop := Claim7.holds Tryd.pinned (.plain (OpenSpec.upto tableDecodesSpec)) tableDecodesUptoCard

/-- THE SECOND FORM's CARD OF 'trellislaw21.PaintLines'. -/
def paintLinesUptoCard : Claim7 := { stood := { row := paintLinesUptoRow, standIns := [], harness := (true, "539cf754aeabea6d92a62c6d92c7a3befaf14702da63bda75f9ce22f957cc4af"), looks := true }, kinds := [], alts := [], laidByText := true, laidKinds := [.data, .data, .data], laidTests := true, laidLooks := .later }
def PaintLinesUptoCardSaid : Prop := Claim7.holds Tryd.pinned (.plain (OpenSpec.upto paintLinesSpec)) paintLinesUptoCard

/-- THE SECOND FORM's CARD OF 'trellislaw13.TableBuilds'. -/
def tableBuildsUptoCard : Claim7 := { stood := { row := tableBuildsUptoRow, standIns := [], harness := (true, "539cf754aeabea6d92a62c6d92c7a3befaf14702da63bda75f9ce22f957cc4af"), looks := true }, kinds := [], alts := [], laidByText := true, laidKinds := [.data, .data, .data, .handle], laidTests := true, laidLooks := .later }
def TableBuildsUptoCardSaid : Prop := Claim7.holds Tryd.pinned (.plain (OpenSpec.upto tableBuildsSpec)) tableBuildsUptoCard

/-- THE SECOND FORM's CARD OF 'trellislaw13.TableBack'. -/
def tableBackUptoCard : Claim7 := { stood := { row := tableBackUptoRow, standIns := [], harness := (true, "539cf754aeabea6d92a62c6d92c7a3befaf14702da63bda75f9ce22f957cc4af"), looks := true }, kinds := [], alts := [], laidByText := true, laidKinds := [.data, .data, .data, .handle], laidTests := true, laidLooks := .later }
def TableBackUptoCardSaid : Prop := Claim7.holds Tryd.pinned (.plain (OpenSpec.upto tableBackSpec)) tableBackUptoCard

/-- THE SECOND FORM's CARD OF 'trellislaw13.TableReads'. -/
def tableReadsUptoCard : Claim7 := { stood := { row := tableReadsUptoRow, standIns := [], harness := (true, "539cf754aeabea6d92a62c6d92c7a3befaf14702da63bda75f9ce22f957cc4af"), looks := true }, kinds := [], alts := [], laidByText := true, laidKinds := [.data, .data, .data, .handle], laidTests := true, laidLooks := .later }
def TableReadsUptoCardSaid : Prop := Claim7.holds Tryd.pinned (.plain (OpenSpec.upto tableReadsSpec)) tableReadsUptoCard

/-- THE SECOND FORM's CARD OF 'trellislaw13.TableSpares'. -/
def tableSparesUptoCard : Claim7 := { stood := { row := tableSparesUptoRow, standIns := [], harness := (true, "539cf754aeabea6d92a62c6d92c7a3befaf14702da63bda75f9ce22f957cc4af"), looks := true }, kinds := [], alts := [], laidByText := true, laidKinds := [.data, .data, .data, .handle], laidTests := true, laidLooks := .later }
def TableSparesUptoCardSaid : Prop := Claim7.holds Tryd.pinned (.plain (OpenSpec.upto tableSparesSpec)) tableSparesUptoCard
end Rows
end Go.Proofs.YtcijanmckhlpiaaDoor
