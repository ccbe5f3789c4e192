/-
  DERIVED. GIVEN WITH THE SEED: THE CARDS: each row of YtbigfaomhfmpkaaGreatDoorRows.lean that lists a variable, with what it lists TIED to the program's text (the seventh form; the later family's looks); each row that meets fmt, with fmt's text TOLD by the authors' own Lean function (tested against real Go, not proved from fmt's source: count such statements apart). THE CARD IS WHAT COUNTS. Prove the row's statement (the work); the ties are given (YtbigfaomhfmpkaaGreatDoorTie.lean); close each card by the builder's one call (the guide's Derived/Test/ToyasCard.lean, 'card_holds'). Laid BY PROGRAM, IN A SANDBOX (cutbox-door.mjs). By AI agents, Wed Nov 11 2026. No macro, syntax, notation, axiom, sorry.
-/
import Derived.Test.YtbigfaomhfmpkaaGreatDoorRows
import GoSem.ClaimSeven
namespace Go.Proofs.YtbigfaomhfmpkaaGreatDoor
namespace Rows

/-- THE TIED CARD OF 'taciturnlaw26.TwinAlike'. -/
def twinAlikeCard : Claim7 := { stood := { row := twinAlikeRow, standIns := [], harness := (true, "6c8cab356482996c0998aa2236ac09dc87e41e6f988e7d669f4e428d00cc4d97"), looks := true }, kinds := [], alts := [], laidByText := true, laidKinds := [.data, .pinned], laidTests := true, laidLooks := .later }
def TwinAlikeCardSaid : Prop := Claim7.holds Tryz.pinned (.plain (OpenSpec.ofChange twinAlikeSpec)) twinAlikeCard

/-- THE SECOND FORM's CARD OF 'taciturnlaw26.TwinAlike'. -/
def twinAlikeUptoCard : Claim7 := { stood := { row := twinAlikeUptoRow, standIns := [], harness := (true, "6c8cab356482996c0998aa2236ac09dc87e41e6f988e7d669f4e428d00cc4d97"), looks := true }, kinds := [], alts := [], laidByText := true, laidKinds := [.data, .pinned], laidTests := true, laidLooks := .later }
def TwinAlikeUptoCardSaid : Prop := Claim7.holds Tryz.pinned (.plain (OpenSpec.upto twinAlikeSpec)) twinAlikeUptoCard
end Rows
end Go.Proofs.YtbigfaomhfmpkaaGreatDoor
