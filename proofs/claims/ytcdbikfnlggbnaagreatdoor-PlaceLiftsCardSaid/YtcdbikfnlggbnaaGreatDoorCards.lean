/-
  DERIVED. GIVEN WITH THE SEED: THE CARDS: each row of YtcdbikfnlggbnaaGreatDoorRows.lean that lists a variable, with what it lists TIED to the program's text (the seventh form; the later family's looks); each row that meets fmt, with fmt's text TOLD by the authors' own Lean function (tested against real Go, not proved from fmt's source: count such statements apart). THE CARD IS WHAT COUNTS. Prove the row's statement (the work); the ties are given (YtcdbikfnlggbnaaGreatDoorTie.lean); close each card by the builder's one call (the guide's Derived/Test/ToyasCard.lean, 'card_holds'). Laid BY PROGRAM, IN A SANDBOX (cutbox-door.mjs). By AI agents, Wed Nov 11 2026. No macro, syntax, notation, axiom, sorry.
-/
import Derived.Test.YtcdbikfnlggbnaaGreatDoorRows
import GoSem.ClaimSeven
namespace Go.Proofs.YtcdbikfnlggbnaaGreatDoor
namespace Rows

/-- THE TIED CARD OF 'taciturnlaw18.LiftRefuses'. -/
def liftRefusesCard : Claim7 := { stood := { row := liftRefusesRow, standIns := [], harness := (true, "2ec9425f68d337b991384202c9f67654955a3dd220ffd301c131c2f9648da621"), looks := true }, kinds := [], alts := [], laidByText := true, laidKinds := [.data, .data, .pinned], laidTests := true, laidLooks := .later }
def LiftRefusesCardSaid : Prop := Claim7.holds Tryz.pinned (.plain (OpenSpec.ofChange liftRefusesSpec)) liftRefusesCard

/-- THE TIED CARD OF 'taciturnlaw18.LiftTicks'. -/
def liftTicksCard : Claim7 := { stood := { row := liftTicksRow, standIns := [], harness := (true, "2ec9425f68d337b991384202c9f67654955a3dd220ffd301c131c2f9648da621"), looks := true }, kinds := [], alts := [], laidByText := true, laidKinds := [.data, .data, .pinned], laidTests := true, laidLooks := .later }
def LiftTicksCardSaid : Prop := Claim7.holds Tryz.pinned (.plain (OpenSpec.ofChange liftTicksSpec)) liftTicksCard

/-- THE TIED CARD OF 'taciturnlaw18.LiftTells'. -/
def liftTellsCard : Claim7 := { stood := { row := liftTellsRow, standIns := [], harness := (true, "2ec9425f68d337b991384202c9f67654955a3dd220ffd301c131c2f9648da621"), looks := true }, kinds := [], alts := [], laidByText := true, laidKinds := [.data, .data, .pinned], laidTests := true, laidLooks := .later }
def LiftTellsCardSaid : Prop := Claim7.holds Tryz.pinned (.plain (OpenSpec.ofChange liftTellsSpec)) liftTellsCard

/-- THE TIED CARD OF 'taciturnlaw19.LiveLifts'. -/
def liveLiftsCard : Claim7 := { stood := { row := liveLiftsRow, standIns := [], harness := (true, "2ec9425f68d337b991384202c9f67654955a3dd220ffd301c131c2f9648da621"), looks := true }, kinds := [], alts := [], laidByText := true, laidKinds := [.data, .data, .pinned], laidTests := true, laidLooks := .later }
def LiveLiftsCardSaid : Prop := Claim7.holds Tryz.pinned (.plain (OpenSpec.ofChange liveLiftsSpec)) liveLiftsCard

/-- THE TIED CARD OF 'taciturnlaw20.PlaceLifts'. -/
def placeLiftsCard : Claim7 := { stood := { row := placeLiftsRow, standIns := [], harness := (true, "2ec9425f68d337b991384202c9f67654955a3dd220ffd301c131c2f9648da621"), looks := true }, kinds := [], alts := [], laidByText := true, laidKinds := [.data, .data, .pinned], laidTests := true, laidLooks := .later }
def PlaceLiftsCardSaid : Prop := Claim7.holds Tryz.pinned (.plain (OpenSpec.ofChange placeLiftsSpec)) placeLiftsCard

/-- THE SECOND FORM's CARD OF 'taciturnlaw18.LiftRefuses'. -/
def liftRefusesUptoCard : Claim7 := { stood := { row := liftRefusesUptoRow, standIns := [], harness := (true, "2ec9425f68d337b991384202c9f67654955a3dd220ffd301c131c2f9648da621"), looks := true }, kinds := [], alts := [], laidByText := true, laidKinds := [.data, .data, .pinned], laidTests := true, laidLooks := .later }
def LiftRefusesUptoCardSaid : Prop := Claim7.holds Tryz.pinned (.plain (OpenSpec.upto liftRefusesSpec)) liftRefusesUptoCard

/-- THE SECOND FORM's CARD OF 'taciturnlaw18.LiftTicks'. -/
def liftTicksUptoCard : Claim7 := { stood := { row := liftTicksUptoRow, standIns := [], harness := (true, "2ec9425f68d337b991384202c9f67654955a3dd220ffd301c131c2f9648da621"), looks := true }, kinds := [], alts := [], laidByText := true, laidKinds := [.data, .data, .pinned], laidTests := true, laidLooks := .later }
def LiftTicksUptoCardSaid : Prop := Claim7.holds Tryz.pinned (.plain (OpenSpec.upto liftTicksSpec)) liftTicksUptoCard

/-- THE SECOND FORM's CARD OF 'taciturnlaw18.LiftTells'. -/
def liftTellsUptoCard : Claim7 := { stood := { row := liftTellsUptoRow, standIns := [], harness := (true, "2ec9425f68d337b991384202c9f67654955a3dd220ffd301c131c2f9648da621"), looks := true }, kinds := [], alts := [], laidByText := true, laidKinds := [.data, .data, .pinned], laidTests := true, laidLooks := .later }
def LiftTellsUptoCardSaid : Prop := Claim7.holds Tryz.pinned (.plain (OpenSpec.upto liftTellsSpec)) liftTellsUptoCard

/-- THE SECOND FORM's CARD OF 'taciturnlaw19.LiveLifts'. -/
def liveLiftsUptoCard : Claim7 := { stood := { row := liveLiftsUptoRow, standIns := [], harness := (true, "2ec9425f68d337b991384202c9f67654955a3dd220ffd301c131c2f9648da621"), looks := true }, kinds := [], alts := [], laidByText := true, laidKinds := [.data, .data, .pinned], laidTests := true, laidLooks := .later }
def LiveLiftsUptoCardSaid : Prop := Claim7.holds Tryz.pinned (.plain (OpenSpec.upto liveLiftsSpec)) liveLiftsUptoCard

/-- THE SECOND FORM's CARD OF 'taciturnlaw20.PlaceLifts'. -/
def placeLiftsUptoCard : Claim7 := { stood := { row := placeLiftsUptoRow, standIns := [], harness := (true, "2ec9425f68d337b991384202c9f67654955a3dd220ffd301c131c2f9648da621"), looks := true }, kinds := [], alts := [], laidByText := true, laidKinds := [.data, .data, .pinned], laidTests := true, laidLooks := .later }
def PlaceLiftsUptoCardSaid : Prop := Claim7.holds Tryz.pinned (.plain (OpenSpec.upto placeLiftsSpec)) placeLiftsUptoCard
end Rows
end Go.Proofs.YtcdbikfnlggbnaaGreatDoor
