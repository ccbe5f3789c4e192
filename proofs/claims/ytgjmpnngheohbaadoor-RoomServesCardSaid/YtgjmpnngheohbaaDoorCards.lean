/-
  DERIVED. GIVEN WITH THE SEED: THE CARDS: each row of YtgjmpnngheohbaaDoorRows.lean that lists a variable, with what it lists TIED to the program's text (the seventh form; the later family's looks); each row that meets fmt, with fmt's text TOLD by the authors' own Lean function (tested against real Go, not proved from fmt's source: count such statements apart). THE CARD IS WHAT COUNTS. Prove the row's statement (the work); the ties are given (YtgjmpnngheohbaaDoorTie.lean); close each card by the builder's one call (the guide's Derived/Test/ToyasCard.lean, 'card_holds'). Laid BY PROGRAM, IN A SANDBOX (cutbox-door.mjs). By AI agents, Wed Nov 11 2026. No macro, syntax, notation, axiom, sorry.
-/
import Derived.Test.YtgjmpnngheohbaaDoorRows
import GoSem.ClaimSeven
namespace Go.Proofs.YtgjmpnngheohbaaDoor
namespace Rows

/-- THE TIED CARD OF 'taciturnlaw12.RoomFields'. -/
def roomFieldsCard : Claim7 := { stood := { row := roomFieldsRow, standIns := [], harness := (true, "97195ce3dd36974d16044ece3e8b9183227c00931cc9869e26a5654a38c07f2d"), looks := false }, kinds := [], alts := [], laidByText := true, laidKinds := [.data], laidTests := true, laidLooks := .later }
def RoomFieldsCardSaid : Prop := Claim7.holds Tryd.pinned (.plain (OpenSpec.ofChange roomFieldsSpec)) roomFieldsCard

/-- THE TIED CARD OF 'taciturnlaw12.RoomServes'. -/
def roomServesCard : Claim7 := { stood := { row := roomServesRow, standIns := [], harness := (true, "97195ce3dd36974d16044ece3e8b9183227c00931cc9869e26a5654a38c07f2d"), looks := false }, kinds := [], alts := [], laidByText := true, laidKinds := [.data], laidTests := true, laidLooks := .later }
def RoomServesCardSaid : Prop := Claim7.holds Tryd.pinned (.plain (OpenSpec.ofChange roomServesSpec)) roomServesCard

/-- THE SECOND FORM's CARD OF 'taciturnlaw12.RoomFields'. -/
def roomFieldsUptoCard : Claim7 := { stood := { row := roomFieldsUptoRow, standIns := [], harness := (true, "97195ce3dd36974d16044ece3e8b9183227c00931cc9869e26a5654a38c07f2d"), looks := false }, kinds := [], alts := [], laidByText := true, laidKinds := [.data], laidTests := true, laidLooks := .later }
def RoomFieldsUptoCardSaid : Prop := Claim7.holds Tryd.pinned (.plain (OpenSpec.upto roomFieldsSpec)) roomFieldsUptoCard

/-- THE SECOND FORM's CARD OF 'taciturnlaw12.RoomServes'. -/
def roomServesUptoCard : Claim7 := { stood := { row := roomServesUptoRow, standIns := [], harness := (true, "97195ce3dd36974d16044ece3e8b9183227c00931cc9869e26a5654a38c07f2d"), looks := false }, kinds := [], alts := [], laidByText := true, laidKinds := [.data], laidTests := true, laidLooks := .later }
def RoomServesUptoCardSaid : Prop := Claim7.holds Tryd.pinned (.plain (OpenSpec.upto roomServesSpec)) roomServesUptoCard
end Rows
end Go.Proofs.YtgjmpnngheohbaaDoor
