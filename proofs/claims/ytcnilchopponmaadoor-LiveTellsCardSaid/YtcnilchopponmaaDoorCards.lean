/-
  DERIVED. GIVEN WITH THE SEED: THE CARDS: each row of YtcnilchopponmaaDoorRows.lean that lists a variable, with what it lists TIED to the program's text (the seventh form; the later family's looks); each row that meets fmt, with fmt's text TOLD by the authors' own Lean function (tested against real Go, not proved from fmt's source: count such statements apart). THE CARD IS WHAT COUNTS. Prove the row's statement (the work); the ties are given (YtcnilchopponmaaDoorTie.lean); close each card by the builder's one call (the guide's Derived/Test/ToyasCard.lean, 'card_holds'). Laid BY PROGRAM, IN A SANDBOX (cutbox-door.mjs). By AI agents, Wed Nov 11 2026. No macro, syntax, notation, axiom, sorry.
-/
import Derived.Test.YtcnilchopponmaaDoorRows
import GoSem.ClaimSeven
namespace Go.Proofs.YtcnilchopponmaaDoor
namespace Rows

/-- THE TIED CARD OF 'taciturnlaw19.LiveFixed'. -/
def liveFixedCard : Claim7 := { stood := { row := liveFixedRow, standIns := [], harness := (true, "d505f766d6f426c480e443edcf5203cb2265f01410a4de1138ab1b91d1bf9ea8"), looks := true }, kinds := [], alts := [], laidByText := true, laidKinds := [.data], laidTests := true, laidLooks := .later }
def LiveFixedCardSaid : Prop := Claim7.holds Tryd.pinned (.plain (OpenSpec.ofChange liveFixedSpec)) liveFixedCard

/-- THE TIED CARD OF 'taciturnlaw19.LiveTells'. -/
def liveTellsCard : Claim7 := { stood := { row := liveTellsRow, standIns := [], harness := (true, "d505f766d6f426c480e443edcf5203cb2265f01410a4de1138ab1b91d1bf9ea8"), looks := true }, kinds := [], alts := [], laidByText := true, laidKinds := [.data], laidTests := true, laidLooks := .later }
def LiveTellsCardSaid : Prop := Claim7.holds Tryd.pinned (.plain (OpenSpec.ofChange liveTellsSpec)) liveTellsCard

/-- THE SECOND FORM's CARD OF 'taciturnlaw19.LiveFixed'. -/
def liveFixedUptoCard : Claim7 := { stood := { row := liveFixedUptoRow, standIns := [], harness := (true, "d505f766d6f426c480e443edcf5203cb2265f01410a4de1138ab1b91d1bf9ea8"), looks := true }, kinds := [], alts := [], laidByText := true, laidKinds := [.data], laidTests := true, laidLooks := .later }
def LiveFixedUptoCardSaid : Prop := Claim7.holds Tryd.pinned (.plain (OpenSpec.upto liveFixedSpec)) liveFixedUptoCard

/-- THE SECOND FORM's CARD OF 'taciturnlaw19.LiveTells'. -/
def liveTellsUptoCard : Claim7 := { stood := { row := liveTellsUptoRow, standIns := [], harness := (true, "d505f766d6f426c480e443edcf5203cb2265f01410a4de1138ab1b91d1bf9ea8"), looks := true }, kinds := [], alts := [], laidByText := true, laidKinds := [.data], laidTests := true, laidLooks := .later }
def LiveTellsUptoCardSaid : Prop := Claim7.holds Tryd.pinned (.plain (OpenSpec.upto liveTellsSpec)) liveTellsUptoCard
end Rows
end Go.Proofs.YtcnilchopponmaaDoor
