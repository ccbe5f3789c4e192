/-
  DERIVED. GIVEN WITH THE SEED: THE CARDS: each row of YtddbpleocbpjdaaGreatDoorRows.lean that lists a variable, with what it lists TIED to the program's text (the seventh form; the later family's looks); each row that meets fmt, with fmt's text TOLD by the authors' own Lean function (tested against real Go, not proved from fmt's source: count such statements apart). THE CARD IS WHAT COUNTS. Prove the row's statement (the work); the ties are given (YtddbpleocbpjdaaGreatDoorTie.lean); close each card by the builder's one call (the guide's Derived/Test/ToyasCard.lean, 'card_holds'). Laid BY PROGRAM, IN A SANDBOX (cutbox-door.mjs). By AI agents, Wed Nov 11 2026. No macro, syntax, notation, axiom, sorry.
-/
import Derived.Test.YtddbpleocbpjdaaGreatDoorRows
import GoSem.ClaimSeven
namespace Go.Proofs.YtddbpleocbpjdaaGreatDoor
namespace Rows

/-- THE TIED CARD OF 'taciturnlaw24.NativeKnown'. -/
def nativeKnownCard : Claim7 := { stood := { row := nativeKnownRow, standIns := [], harness := (true, "48575e0f6e79a268c390e181828fe9fed0727b79040b891b6401d264312c00ee"), looks := true }, kinds := [], alts := [], laidByText := true, laidKinds := [.data, .pinned], laidTests := true, laidLooks := .later }
def NativeKnownCardSaid : Prop := Claim7.holds Tryz.pinned (.plain (OpenSpec.ofChange nativeKnownSpec)) nativeKnownCard

/-- THE TIED CARD OF 'taciturnlaw25.CardKnown'. -/
def cardKnownCard : Claim7 := { stood := { row := cardKnownRow, standIns := [], harness := (true, "48575e0f6e79a268c390e181828fe9fed0727b79040b891b6401d264312c00ee"), looks := true }, kinds := [], alts := [], laidByText := true, laidKinds := [.data, .pinned], laidTests := true, laidLooks := .later }
def CardKnownCardSaid : Prop := Claim7.holds Tryz.pinned (.plain (OpenSpec.ofChange cardKnownSpec)) cardKnownCard

/-- THE SECOND FORM's CARD OF 'taciturnlaw24.NativeKnown'. -/
def nativeKnownUptoCard : Claim7 := { stood := { row := nativeKnownUptoRow, standIns := [], harness := (true, "48575e0f6e79a268c390e181828fe9fed0727b79040b891b6401d264312c00ee"), looks := true }, kinds := [], alts := [], laidByText := true, laidKinds := [.data, .pinned], laidTests := true, laidLooks := .later }
def NativeKnownUptoCardSaid : Prop := Claim7.holds Tryz.pinned (.plain (OpenSpec.upto nativeKnownSpec)) nativeKnownUptoCard

/-- THE SECOND FORM's CARD OF 'taciturnlaw25.CardKnown'. -/
def cardKnownUptoCard : Claim7 := { stood := { row := cardKnownUptoRow, standIns := [], harness := (true, "48575e0f6e79a268c390e181828fe9fed0727b79040b891b6401d264312c00ee"), looks := true }, kinds := [], alts := [], laidByText := true, laidKinds := [.data, .pinned], laidTests := true, laidLooks := .later }
def CardKnownUptoCardSaid : Prop := Claim7.holds Tryz.pinned (.plain (OpenSpec.upto cardKnownSpec)) cardKnownUptoCard
end Rows
end Go.Proofs.YtddbpleocbpjdaaGreatDoor
