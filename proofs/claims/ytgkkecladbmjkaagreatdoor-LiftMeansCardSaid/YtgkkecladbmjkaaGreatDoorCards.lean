/-
  DERIVED. GIVEN WITH THE SEED: THE CARDS: each row of YtgkkecladbmjkaaGreatDoorRows.lean that lists a variable, with what it lists TIED to the program's text (the seventh form; the later family's looks); each row that meets fmt, with fmt's text TOLD by the authors' own Lean function (tested against real Go, not proved from fmt's source: count such statements apart). THE CARD IS WHAT COUNTS. Prove the row's statement (the work); the ties are given (YtgkkecladbmjkaaGreatDoorTie.lean); close each card by the builder's one call (the guide's Derived/Test/ToyasCard.lean, 'card_holds'). Laid BY PROGRAM, IN A SANDBOX (cutbox-door.mjs). By AI agents, Wed Nov 11 2026. No macro, syntax, notation, axiom, sorry.
-/
import Derived.Test.YtgkkecladbmjkaaGreatDoorRows
import GoSem.ClaimSeven
namespace Go.Proofs.YtgkkecladbmjkaaGreatDoor
namespace Rows

/-- THE TIED CARD OF 'taciturnlaw13.InterpHeights'. -/
def interpHeightsCard : Claim7 := { stood := { row := interpHeightsRow, standIns := [], harness := (true, "1b2bcc09d7af05ffd6e54d335f29d9ebc7b6ab55976fa95ff07bf7303874c3e9"), looks := true }, kinds := [], alts := [], laidByText := true, laidKinds := [.data, .data, .pinned], laidTests := true, laidLooks := .later }
def InterpHeightsCardSaid : Prop := Claim7.holds Tryz.pinned (.plain (OpenSpec.ofChange interpHeightsSpec)) interpHeightsCard

/-- THE TIED CARD OF 'taciturnlaw13.InterpFuel'. -/
def interpFuelCard : Claim7 := { stood := { row := interpFuelRow, standIns := [], harness := (true, "1b2bcc09d7af05ffd6e54d335f29d9ebc7b6ab55976fa95ff07bf7303874c3e9"), looks := true }, kinds := [], alts := [], laidByText := true, laidKinds := [.data, .data, .pinned], laidTests := true, laidLooks := .later }
def InterpFuelCardSaid : Prop := Claim7.holds Tryz.pinned (.plain (OpenSpec.ofChange interpFuelSpec)) interpFuelCard

/-- THE TIED CARD OF 'taciturnlaw13.InterpQuiet'. -/
def interpQuietCard : Claim7 := { stood := { row := interpQuietRow, standIns := [], harness := (true, "1b2bcc09d7af05ffd6e54d335f29d9ebc7b6ab55976fa95ff07bf7303874c3e9"), looks := true }, kinds := [], alts := [], laidByText := true, laidKinds := [.data, .data, .pinned], laidTests := true, laidLooks := .later }
def InterpQuietCardSaid : Prop := Claim7.holds Tryz.pinned (.plain (OpenSpec.ofChange interpQuietSpec)) interpQuietCard

/-- THE TIED CARD OF 'taciturnlaw13.InterpPlays'. -/
def interpPlaysCard : Claim7 := { stood := { row := interpPlaysRow, standIns := [], harness := (true, "1b2bcc09d7af05ffd6e54d335f29d9ebc7b6ab55976fa95ff07bf7303874c3e9"), looks := true }, kinds := [], alts := [], laidByText := true, laidKinds := [.data, .data, .pinned], laidTests := true, laidLooks := .later }
def InterpPlaysCardSaid : Prop := Claim7.holds Tryz.pinned (.plain (OpenSpec.ofChange interpPlaysSpec)) interpPlaysCard

/-- THE TIED CARD OF 'taciturnlaw18.LiftMeans'. -/
def liftMeansCard : Claim7 := { stood := { row := liftMeansRow, standIns := [], harness := (true, "1b2bcc09d7af05ffd6e54d335f29d9ebc7b6ab55976fa95ff07bf7303874c3e9"), looks := true }, kinds := [], alts := [], laidByText := true, laidKinds := [.data, .pinned], laidTests := true, laidLooks := .later }
def LiftMeansCardSaid : Prop := Claim7.holds Tryz.pinned (.plain (OpenSpec.ofChange liftMeansSpec)) liftMeansCard

/-- THE SECOND FORM's CARD OF 'taciturnlaw13.InterpHeights'. -/
def interpHeightsUptoCard : Claim7 := { stood := { row := interpHeightsUptoRow, standIns := [], harness := (true, "1b2bcc09d7af05ffd6e54d335f29d9ebc7b6ab55976fa95ff07bf7303874c3e9"), looks := true }, kinds := [], alts := [], laidByText := true, laidKinds := [.data, .data, .pinned], laidTests := true, laidLooks := .later }
def InterpHeightsUptoCardSaid : Prop := Claim7.holds Tryz.pinned (.plain (OpenSpec.upto interpHeightsSpec)) interpHeightsUptoCard

/-- THE SECOND FORM's CARD OF 'taciturnlaw13.InterpFuel'. -/
def interpFuelUptoCard : Claim7 := { stood := { row := interpFuelUptoRow, standIns := [], harness := (true, "1b2bcc09d7af05ffd6e54d335f29d9ebc7b6ab55976fa95ff07bf7303874c3e9"), looks := true }, kinds := [], alts := [], laidByText := true, laidKinds := [.data, .data, .pinned], laidTests := true, laidLooks := .later }
def InterpFuelUptoCardSaid : Prop := Claim7.holds Tryz.pinned (.plain (OpenSpec.upto interpFuelSpec)) interpFuelUptoCard

/-- THE SECOND FORM's CARD OF 'taciturnlaw13.InterpQuiet'. -/
def interpQuietUptoCard : Claim7 := { stood := { row := interpQuietUptoRow, standIns := [], harness := (true, "1b2bcc09d7af05ffd6e54d335f29d9ebc7b6ab55976fa95ff07bf7303874c3e9"), looks := true }, kinds := [], alts := [], laidByText := true, laidKinds := [.data, .data, .pinned], laidTests := true, laidLooks := .later }
def InterpQuietUptoCardSaid : Prop := Claim7.holds Tryz.pinned (.plain (OpenSpec.upto interpQuietSpec)) interpQuietUptoCard

/-- THE SECOND FORM's CARD OF 'taciturnlaw13.InterpPlays'. -/
def interpPlaysUptoCard : Claim7 := { stood := { row := interpPlaysUptoRow, standIns := [], harness := (true, "1b2bcc09d7af05ffd6e54d335f29d9ebc7b6ab55976fa95ff07bf7303874c3e9"), looks := true }, kinds := [], alts := [], laidByText := true, laidKinds := [.data, .data, .pinned], laidTests := true, laidLooks := .later }
def InterpPlaysUptoCardSaid : Prop := Claim7.holds Tryz.pinned (.plain (OpenSpec.upto interpPlaysSpec)) interpPlaysUptoCard

/-- THE SECOND FORM's CARD OF 'taciturnlaw18.LiftMeans'. -/
def liftMeansUptoCard : Claim7 := { stood := { row := liftMeansUptoRow, standIns := [], harness := (true, "1b2bcc09d7af05ffd6e54d335f29d9ebc7b6ab55976fa95ff07bf7303874c3e9"), looks := true }, kinds := [], alts := [], laidByText := true, laidKinds := [.data, .pinned], laidTests := true, laidLooks := .later }
def LiftMeansUptoCardSaid : Prop := Claim7.holds Tryz.pinned (.plain (OpenSpec.upto liftMeansSpec)) liftMeansUptoCard
end Rows
end Go.Proofs.YtgkkecladbmjkaaGreatDoor
