/-
  DERIVED. GIVEN WITH THE SEED: THE CARDS: each row of YtjcmcfidblhnnaaDoorRows.lean that lists a variable, with what it lists TIED to the program's text (the seventh form; the later family's looks); each row that meets fmt, with fmt's text TOLD by the authors' own Lean function (tested against real Go, not proved from fmt's source: count such statements apart). THE CARD IS WHAT COUNTS. Prove the row's statement (the work); the ties are given (YtjcmcfidblhnnaaDoorTie.lean); close each card by the builder's one call (the guide's Derived/Test/ToyasCard.lean, 'card_holds'). Laid BY PROGRAM, IN A SANDBOX (cutbox-door.mjs). By AI agents, Wed Nov 11 2026. No macro, syntax, notation, axiom, sorry.
-/
import Derived.Test.YtjcmcfidblhnnaaDoorRows
import GoSem.ClaimSeven
namespace Go.Proofs.YtjcmcfidblhnnaaDoor
namespace Rows

/-- THE TIED CARD OF 'taciturnlaw22.EmitTable'. -/
def emitTableCard : Claim7 := { stood := { row := emitTableRow, standIns := [], harness := (true, "1ae2cba73924d8b4f15229a1a419a985077dd6b69b732ea5211a238b6264d5b9"), looks := true }, kinds := [], alts := [], laidByText := true, laidKinds := [.data], laidTests := true, laidLooks := .later }
def EmitTableCardSaid : Prop := Claim7.holds Tryd.pinned (.plain (OpenSpec.ofChange emitTableSpec)) emitTableCard

/-- THE SECOND FORM's CARD OF 'taciturnlaw22.EmitTable'. -/
def emitTableUptoCard : Claim7 := { stood := { row := emitTableUptoRow, standIns := [], harness := (true, "1ae2cba73924d8b4f15229a1a419a985077dd6b69b732ea5211a238b6264d5b9"), looks := true }, kinds := [], alts := [], laidByText := true, laidKinds := [.data], laidTests := true, laidLooks := .later }
def EmitTableUptoCardSaid : Prop := Claim7.holds Tryd.pinned (.plain (OpenSpec.upto emitTableSpec)) emitTableUptoCard
end Rows
end Go.Proofs.YtjcmcfidblhnnaaDoor
