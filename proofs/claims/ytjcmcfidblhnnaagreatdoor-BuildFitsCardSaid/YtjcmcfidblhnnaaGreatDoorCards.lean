/-
  DERIVED. GIVEN WITH THE SEED: THE CARDS: each row of YtjcmcfidblhnnaaGreatDoorRows.lean that lists a variable, with what it lists TIED to the program's text (the seventh form; the later family's looks); each row that meets fmt, with fmt's text TOLD by the authors' own Lean function (tested against real Go, not proved from fmt's source: count such statements apart). THE CARD IS WHAT COUNTS. Prove the row's statement (the work); the ties are given (YtjcmcfidblhnnaaGreatDoorTie.lean); close each card by the builder's one call (the guide's Derived/Test/ToyasCard.lean, 'card_holds'). Laid BY PROGRAM, IN A SANDBOX (cutbox-door.mjs). By AI agents, Wed Nov 11 2026. No macro, syntax, notation, axiom, sorry.
-/
import Derived.Test.YtjcmcfidblhnnaaGreatDoorRows
import GoSem.ClaimSeven
namespace Go.Proofs.YtjcmcfidblhnnaaGreatDoor
namespace Rows

/-- THE TIED CARD OF 'taciturnlaw18.LiftTicks'. -/
def liftTicksCard : Claim7 := { stood := { row := liftTicksRow, standIns := [], harness := (true, "981c8e5249562039613e21ade6d0f645a980c125ed075cf058fde45f43bd153d"), looks := true }, kinds := [], alts := [], laidByText := true, laidKinds := [.data, .data, .pinned], laidTests := true, laidLooks := .later }
def LiftTicksCardSaid : Prop := Claim7.holds Tryz.pinned (.plain (OpenSpec.ofChange liftTicksSpec)) liftTicksCard

/-- THE TIED CARD OF 'taciturnlaw23.BuildTables'. -/
def buildTablesCard : Claim7 := { stood := { row := buildTablesRow, standIns := [], harness := (true, "981c8e5249562039613e21ade6d0f645a980c125ed075cf058fde45f43bd153d"), looks := true }, kinds := [], alts := [], laidByText := true, laidKinds := [.data, .data, .pinned], laidTests := true, laidLooks := .later }
def BuildTablesCardSaid : Prop := Claim7.holds Tryz.pinned (.plain (OpenSpec.ofChange buildTablesSpec)) buildTablesCard

/-- THE TIED CARD OF 'taciturnlaw23.BuildMoves'. -/
def buildMovesCard : Claim7 := { stood := { row := buildMovesRow, standIns := [], harness := (true, "981c8e5249562039613e21ade6d0f645a980c125ed075cf058fde45f43bd153d"), looks := true }, kinds := [], alts := [], laidByText := true, laidKinds := [.data, .data, .pinned], laidTests := true, laidLooks := .later }
def BuildMovesCardSaid : Prop := Claim7.holds Tryz.pinned (.plain (OpenSpec.ofChange buildMovesSpec)) buildMovesCard

/-- THE TIED CARD OF 'taciturnlaw23.BuildFits'. -/
def buildFitsCard : Claim7 := { stood := { row := buildFitsRow, standIns := [], harness := (true, "981c8e5249562039613e21ade6d0f645a980c125ed075cf058fde45f43bd153d"), looks := true }, kinds := [], alts := [], laidByText := true, laidKinds := [.data, .data, .pinned], laidTests := true, laidLooks := .later }
def BuildFitsCardSaid : Prop := Claim7.holds Tryz.pinned (.plain (OpenSpec.ofChange buildFitsSpec)) buildFitsCard

/-- THE SECOND FORM's CARD OF 'taciturnlaw18.LiftTicks'. -/
def liftTicksUptoCard : Claim7 := { stood := { row := liftTicksUptoRow, standIns := [], harness := (true, "981c8e5249562039613e21ade6d0f645a980c125ed075cf058fde45f43bd153d"), looks := true }, kinds := [], alts := [], laidByText := true, laidKinds := [.data, .data, .pinned], laidTests := true, laidLooks := .later }
def LiftTicksUptoCardSaid : Prop := Claim7.holds Tryz.pinned (.plain (OpenSpec.upto liftTicksSpec)) liftTicksUptoCard

/-- THE SECOND FORM's CARD OF 'taciturnlaw23.BuildTables'. -/
def buildTablesUptoCard : Claim7 := { stood := { row := buildTablesUptoRow, standIns := [], harness := (true, "981c8e5249562039613e21ade6d0f645a980c125ed075cf058fde45f43bd153d"), looks := true }, kinds := [], alts := [], laidByText := true, laidKinds := [.data, .data, .pinned], laidTests := true, laidLooks := .later }
def BuildTablesUptoCardSaid : Prop := Claim7.holds Tryz.pinned (.plain (OpenSpec.upto buildTablesSpec)) buildTablesUptoCard

/-- THE SECOND FORM's CARD OF 'taciturnlaw23.BuildMoves'. -/
def buildMovesUptoCard : Claim7 := { stood := { row := buildMovesUptoRow, standIns := [], harness := (true, "981c8e5249562039613e21ade6d0f645a980c125ed075cf058fde45f43bd153d"), looks := true }, kinds := [], alts := [], laidByText := true, laidKinds := [.data, .data, .pinned], laidTests := true, laidLooks := .later }
def BuildMovesUptoCardSaid : Prop := Claim7.holds Tryz.pinned (.plain (OpenSpec.upto buildMovesSpec)) buildMovesUptoCard

/-- THE SECOND FORM's CARD OF 'taciturnlaw23.BuildFits'. -/
def buildFitsUptoCard : Claim7 := { stood := { row := buildFitsUptoRow, standIns := [], harness := (true, "981c8e5249562039613e21ade6d0f645a980c125ed075cf058fde45f43bd153d"), looks := true }, kinds := [], alts := [], laidByText := true, laidKinds := [.data, .data, .pinned], laidTests := true, laidLooks := .later }
def BuildFitsUptoCardSaid : Prop := Claim7.holds Tryz.pinned (.plain (OpenSpec.upto buildFitsSpec)) buildFitsUptoCard
end Rows
end Go.Proofs.YtjcmcfidblhnnaaGreatDoor
