/-
  DERIVED. GIVEN WITH THE SEED: THE CARDS: each row of YtmhplplopdgfbaaDoorRows.lean that lists a variable, with what it lists TIED to the program's text (the seventh form; the later family's looks); each row that meets fmt, with fmt's text TOLD by the authors' own Lean function (tested against real Go, not proved from fmt's source: count such statements apart). THE CARD IS WHAT COUNTS. Prove the row's statement (the work); the ties are given (YtmhplplopdgfbaaDoorTie.lean); close each card by the builder's one call (the guide's Derived/Test/ToyasCard.lean, 'card_holds'). Laid BY PROGRAM, IN A SANDBOX (cutbox-door.mjs). By AI agents, Wed Nov 11 2026. No macro, syntax, notation, axiom, sorry.
-/
import Derived.Test.YtmhplplopdgfbaaDoorRows
import GoSem.ClaimSeven
namespace Go.Proofs.YtmhplplopdgfbaaDoor
namespace Rows

/-- THE TIED CARD OF 'taciturnlaw12.RoomKnown'. -/
def roomKnownCard : Claim7 := { stood := { row := roomKnownRow, standIns := [], harness := (true, "7b70739ba252f79629b9bf3cae9be746513f1530a4ab7039593bb945655c4886"), looks := true }, kinds := [], alts := [], laidByText := true, laidKinds := [.data], laidTests := true, laidLooks := .later }
def RoomKnownCardSaid : Prop := Claim7.holds Tryd.pinned (.plain (OpenSpec.ofChange roomKnownSpec)) roomKnownCard

/-- THE TIED CARD OF 'taciturnlaw18.LiftKnown'. -/
def liftKnownCard : Claim7 := { stood := { row := liftKnownRow, standIns := [], harness := (true, "7b70739ba252f79629b9bf3cae9be746513f1530a4ab7039593bb945655c4886"), looks := true }, kinds := [], alts := [], laidByText := true, laidKinds := [.data, .pinned], laidTests := true, laidLooks := .later }
def LiftKnownCardSaid : Prop := Claim7.holds Tryd.pinned (.plain (OpenSpec.ofChange liftKnownSpec)) liftKnownCard

/-- THE SECOND FORM's CARD OF 'taciturnlaw12.RoomKnown'. -/
def roomKnownUptoCard : Claim7 := { stood := { row := roomKnownUptoRow, standIns := [], harness := (true, "7b70739ba252f79629b9bf3cae9be746513f1530a4ab7039593bb945655c4886"), looks := true }, kinds := [], alts := [], laidByText := true, laidKinds := [.data], laidTests := true, laidLooks := .later }
def RoomKnownUptoCardSaid : Prop := Claim7.holds Tryd.pinned (.plain (OpenSpec.upto roomKnownSpec)) roomKnownUptoCard

/-- THE SECOND FORM's CARD OF 'taciturnlaw18.LiftKnown'. -/
def liftKnownUptoCard : Claim7 := { stood := { row := liftKnownUptoRow, standIns := [], harness := (true, "7b70739ba252f79629b9bf3cae9be746513f1530a4ab7039593bb945655c4886"), looks := true }, kinds := [], alts := [], laidByText := true, laidKinds := [.data, .pinned], laidTests := true, laidLooks := .later }
def LiftKnownUptoCardSaid : Prop := Claim7.holds Tryd.pinned (.plain (OpenSpec.upto liftKnownSpec)) liftKnownUptoCard
end Rows
end Go.Proofs.YtmhplplopdgfbaaDoor
