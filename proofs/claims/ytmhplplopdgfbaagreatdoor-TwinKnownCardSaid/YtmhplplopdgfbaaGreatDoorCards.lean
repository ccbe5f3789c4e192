/-
  DERIVED. GIVEN WITH THE SEED: THE CARDS: each row of YtmhplplopdgfbaaGreatDoorRows.lean that lists a variable, with what it lists TIED to the program's text (the seventh form; the later family's looks); each row that meets fmt, with fmt's text TOLD by the authors' own Lean function (tested against real Go, not proved from fmt's source: count such statements apart). THE CARD IS WHAT COUNTS. Prove the row's statement (the work); the ties are given (YtmhplplopdgfbaaGreatDoorTie.lean); close each card by the builder's one call (the guide's Derived/Test/ToyasCard.lean, 'card_holds'). Laid BY PROGRAM, IN A SANDBOX (cutbox-door.mjs). By AI agents, Wed Nov 11 2026. No macro, syntax, notation, axiom, sorry.
-/
import Derived.Test.YtmhplplopdgfbaaGreatDoorRows
import GoSem.ClaimSeven
namespace Go.Proofs.YtmhplplopdgfbaaGreatDoor
namespace Rows

/-- THE TIED CARD OF 'taciturnlaw23.BuildKnown'. -/
def buildKnownCard : Claim7 := { stood := { row := buildKnownRow, standIns := [], harness := (true, "2245b0d7f3c4c92e91922e38f52f8d8d0c5f14422fb8b533fa46619fd0165896"), looks := true }, kinds := [], alts := [], laidByText := true, laidKinds := [.data, .pinned], laidTests := true, laidLooks := .later }
def BuildKnownCardSaid : Prop := Claim7.holds Tryz.pinned (.plain (OpenSpec.ofChange buildKnownSpec)) buildKnownCard

/-- THE TIED CARD OF 'taciturnlaw24.NativeKnown'. -/
def nativeKnownCard : Claim7 := { stood := { row := nativeKnownRow, standIns := [], harness := (true, "2245b0d7f3c4c92e91922e38f52f8d8d0c5f14422fb8b533fa46619fd0165896"), looks := true }, kinds := [], alts := [], laidByText := true, laidKinds := [.data, .pinned], laidTests := true, laidLooks := .later }
def NativeKnownCardSaid : Prop := Claim7.holds Tryz.pinned (.plain (OpenSpec.ofChange nativeKnownSpec)) nativeKnownCard

/-- THE TIED CARD OF 'taciturnlaw25.CardKnown'. -/
def cardKnownCard : Claim7 := { stood := { row := cardKnownRow, standIns := [], harness := (true, "2245b0d7f3c4c92e91922e38f52f8d8d0c5f14422fb8b533fa46619fd0165896"), looks := true }, kinds := [], alts := [], laidByText := true, laidKinds := [.data, .pinned], laidTests := true, laidLooks := .later }
def CardKnownCardSaid : Prop := Claim7.holds Tryz.pinned (.plain (OpenSpec.ofChange cardKnownSpec)) cardKnownCard

/-- THE TIED CARD OF 'taciturnlaw26.TwinKnown'. -/
def twinKnownCard : Claim7 := { stood := { row := twinKnownRow, standIns := [], harness := (true, "2245b0d7f3c4c92e91922e38f52f8d8d0c5f14422fb8b533fa46619fd0165896"), looks := true }, kinds := [], alts := [], laidByText := true, laidKinds := [.data, .pinned], laidTests := true, laidLooks := .later }
def TwinKnownCardSaid : Prop := Claim7.holds Tryz.pinned (.plain (OpenSpec.ofChange twinKnownSpec)) twinKnownCard

/-- THE TIED CARD OF 'taciturnlaw27.ScriptKnown'. -/
def scriptKnownCard : Claim7 := { stood := { row := scriptKnownRow, standIns := [], harness := (true, "2245b0d7f3c4c92e91922e38f52f8d8d0c5f14422fb8b533fa46619fd0165896"), looks := true }, kinds := [], alts := [], laidByText := true, laidKinds := [.data, .data, .data, .data, .pinned], laidTests := true, laidLooks := .later }
def ScriptKnownCardSaid : Prop := Claim7.holds Tryz.pinned (.plain (OpenSpec.ofChange scriptKnownSpec)) scriptKnownCard

/-- THE TIED CARD OF 'taciturnlaw24.NativeCalls'. -/
def nativeCallsCard : Claim7 := { stood := { row := nativeCallsRow, standIns := [], harness := (true, "2245b0d7f3c4c92e91922e38f52f8d8d0c5f14422fb8b533fa46619fd0165896"), looks := true }, kinds := [], alts := [], laidByText := true, laidKinds := [.data, .pinned], laidTests := true, laidLooks := .later }
def NativeCallsCardSaid : Prop := Claim7.holds Tryz.pinned (.plain (OpenSpec.ofChange nativeCallsSpec)) nativeCallsCard

/-- THE SECOND FORM's CARD OF 'taciturnlaw23.BuildKnown'. -/
def buildKnownUptoCard : Claim7 := { stood := { row := buildKnownUptoRow, standIns := [], harness := (true, "2245b0d7f3c4c92e91922e38f52f8d8d0c5f14422fb8b533fa46619fd0165896"), looks := true }, kinds := [], alts := [], laidByText := true, laidKinds := [.data, .pinned], laidTests := true, laidLooks := .later }
def BuildKnownUptoCardSaid : Prop := Claim7.holds Tryz.pinned (.plain (OpenSpec.upto buildKnownSpec)) buildKnownUptoCard

/-- THE SECOND FORM's CARD OF 'taciturnlaw24.NativeKnown'. -/
def nativeKnownUptoCard : Claim7 := { stood := { row := nativeKnownUptoRow, standIns := [], harness := (true, "2245b0d7f3c4c92e91922e38f52f8d8d0c5f14422fb8b533fa46619fd0165896"), looks := true }, kinds := [], alts := [], laidByText := true, laidKinds := [.data, .pinned], laidTests := true, laidLooks := .later }
def NativeKnownUptoCardSaid : Prop := Claim7.holds Tryz.pinned (.plain (OpenSpec.upto nativeKnownSpec)) nativeKnownUptoCard

/-- THE SECOND FORM's CARD OF 'taciturnlaw25.CardKnown'. -/
def cardKnownUptoCard : Claim7 := { stood := { row := cardKnownUptoRow, standIns := [], harness := (true, "2245b0d7f3c4c92e91922e38f52f8d8d0c5f14422fb8b533fa46619fd0165896"), looks := true }, kinds := [], alts := [], laidByText := true, laidKinds := [.data, .pinned], laidTests := true, laidLooks := .later }
def CardKnownUptoCardSaid : Prop := Claim7.holds Tryz.pinned (.plain (OpenSpec.upto cardKnownSpec)) cardKnownUptoCard

/-- THE SECOND FORM's CARD OF 'taciturnlaw26.TwinKnown'. -/
def twinKnownUptoCard : Claim7 := { stood := { row := twinKnownUptoRow, standIns := [], harness := (true, "2245b0d7f3c4c92e91922e38f52f8d8d0c5f14422fb8b533fa46619fd0165896"), looks := true }, kinds := [], alts := [], laidByText := true, laidKinds := [.data, .pinned], laidTests := true, laidLooks := .later }
def TwinKnownUptoCardSaid : Prop := Claim7.holds Tryz.pinned (.plain (OpenSpec.upto twinKnownSpec)) twinKnownUptoCard

/-- THE SECOND FORM's CARD OF 'taciturnlaw27.ScriptKnown'. -/
def scriptKnownUptoCard : Claim7 := { stood := { row := scriptKnownUptoRow, standIns := [], harness := (true, "2245b0d7f3c4c92e91922e38f52f8d8d0c5f14422fb8b533fa46619fd0165896"), looks := true }, kinds := [], alts := [], laidByText := true, laidKinds := [.data, .data, .data, .data, .pinned], laidTests := true, laidLooks := .later }
def ScriptKnownUptoCardSaid : Prop := Claim7.holds Tryz.pinned (.plain (OpenSpec.upto scriptKnownSpec)) scriptKnownUptoCard

/-- THE SECOND FORM's CARD OF 'taciturnlaw24.NativeCalls'. -/
def nativeCallsUptoCard : Claim7 := { stood := { row := nativeCallsUptoRow, standIns := [], harness := (true, "2245b0d7f3c4c92e91922e38f52f8d8d0c5f14422fb8b533fa46619fd0165896"), looks := true }, kinds := [], alts := [], laidByText := true, laidKinds := [.data, .pinned], laidTests := true, laidLooks := .later }
def NativeCallsUptoCardSaid : Prop := Claim7.holds Tryz.pinned (.plain (OpenSpec.upto nativeCallsSpec)) nativeCallsUptoCard
end Rows
end Go.Proofs.YtmhplplopdgfbaaGreatDoor
