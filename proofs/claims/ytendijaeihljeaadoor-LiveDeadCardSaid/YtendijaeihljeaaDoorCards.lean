/-
  DERIVED. GIVEN WITH THE SEED: THE CARDS: each row of YtendijaeihljeaaDoorRows.lean that lists a variable, with what it lists TIED to the program's text (the seventh form; the later family's looks); each row that meets fmt, with fmt's text TOLD by the authors' own Lean function (tested against real Go, not proved from fmt's source: count such statements apart). THE CARD IS WHAT COUNTS. Prove the row's statement (the work); the ties are given (YtendijaeihljeaaDoorTie.lean); close each card by the builder's one call (the guide's Derived/Test/ToyasCard.lean, 'card_holds'). Laid BY PROGRAM, IN A SANDBOX (cutbox-door.mjs). By AI agents, Wed Nov 11 2026. No macro, syntax, notation, axiom, sorry.
-/
import Derived.Test.YtendijaeihljeaaDoorRows
import GoSem.ClaimSeven
namespace Go.Proofs.YtendijaeihljeaaDoor
namespace Rows

/-- THE TIED CARD OF 'taciturnlaw19.LiveDead'. -/
def liveDeadCard : Claim7 := { stood := { row := liveDeadRow, standIns := [], harness := (true, "159f4412be15b416d253c25f78eafa996fa4cddb9fec189ae687159ff57b9448"), looks := true }, kinds := [], alts := [], laidByText := true, laidKinds := [.data], laidTests := true, laidLooks := .later }
def LiveDeadCardSaid : Prop := Claim7.holds Tryd.pinned (.plain (OpenSpec.ofChange liveDeadSpec)) liveDeadCard

/-- THE TIED CARD OF 'taciturnlaw20.PlaceRight'. -/
def placeRightCard : Claim7 := { stood := { row := placeRightRow, standIns := [], harness := (true, "159f4412be15b416d253c25f78eafa996fa4cddb9fec189ae687159ff57b9448"), looks := true }, kinds := [], alts := [], laidByText := true, laidKinds := [.data], laidTests := true, laidLooks := .later }
def PlaceRightCardSaid : Prop := Claim7.holds Tryd.pinned (.plain (OpenSpec.ofChange placeRightSpec)) placeRightCard

/-- THE TIED CARD OF 'taciturnlaw20.PlaceAllocates'. -/
def placeAllocatesCard : Claim7 := { stood := { row := placeAllocatesRow, standIns := [], harness := (true, "159f4412be15b416d253c25f78eafa996fa4cddb9fec189ae687159ff57b9448"), looks := true }, kinds := [], alts := [], laidByText := true, laidKinds := [.data], laidTests := true, laidLooks := .later }
def PlaceAllocatesCardSaid : Prop := Claim7.holds Tryd.pinned (.plain (OpenSpec.ofChange placeAllocatesSpec)) placeAllocatesCard

/-- THE SECOND FORM's CARD OF 'taciturnlaw19.LiveDead'. -/
def liveDeadUptoCard : Claim7 := { stood := { row := liveDeadUptoRow, standIns := [], harness := (true, "159f4412be15b416d253c25f78eafa996fa4cddb9fec189ae687159ff57b9448"), looks := true }, kinds := [], alts := [], laidByText := true, laidKinds := [.data], laidTests := true, laidLooks := .later }
def LiveDeadUptoCardSaid : Prop := Claim7.holds Tryd.pinned (.plain (OpenSpec.upto liveDeadSpec)) liveDeadUptoCard

/-- THE SECOND FORM's CARD OF 'taciturnlaw20.PlaceRight'. -/
def placeRightUptoCard : Claim7 := { stood := { row := placeRightUptoRow, standIns := [], harness := (true, "159f4412be15b416d253c25f78eafa996fa4cddb9fec189ae687159ff57b9448"), looks := true }, kinds := [], alts := [], laidByText := true, laidKinds := [.data], laidTests := true, laidLooks := .later }
def PlaceRightUptoCardSaid : Prop := Claim7.holds Tryd.pinned (.plain (OpenSpec.upto placeRightSpec)) placeRightUptoCard

/-- THE SECOND FORM's CARD OF 'taciturnlaw20.PlaceAllocates'. -/
def placeAllocatesUptoCard : Claim7 := { stood := { row := placeAllocatesUptoRow, standIns := [], harness := (true, "159f4412be15b416d253c25f78eafa996fa4cddb9fec189ae687159ff57b9448"), looks := true }, kinds := [], alts := [], laidByText := true, laidKinds := [.data], laidTests := true, laidLooks := .later }
def PlaceAllocatesUptoCardSaid : Prop := Claim7.holds Tryd.pinned (.plain (OpenSpec.upto placeAllocatesSpec)) placeAllocatesUptoCard
end Rows
end Go.Proofs.YtendijaeihljeaaDoor
