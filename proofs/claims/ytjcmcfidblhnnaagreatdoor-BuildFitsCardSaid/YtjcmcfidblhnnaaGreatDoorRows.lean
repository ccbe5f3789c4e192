/-
  NARROWER THAN 'FOR EVERY INPUT', by the rows' own cells (each row's printed sentence says how): LiftTicks: laid · BuildTables: laid · BuildMoves: laid · BuildFits: laid.
  DERIVED. THE GIVEN ROWS OF THIS SEAT. 4 by the template 'for every input the law returns true; each argument reads behind the call as it read before'; 0 by the template 'total and deterministic' (their statements: YtjcmcfidblhnnaaGreatDoorTotals.lean).
  GIVEN WITH THE SEED: the statements are not yours to turn. If you find one false, say at which input.
  Laid BY PROGRAM, IN A SANDBOX (cutbox-rows.mjs): the forced cells as the released guide's own fill.sh prints them over the translation 7a89de6114619961… (all of the seat's roots in one cut). By AI agents, Wed Nov 11 2026. No macro, syntax, notation, axiom, sorry.
-/
import Derived.Test.YtjcmcfidblhnnaaGreatDoorChecked
import GoSem.PinnedTables
import GoSem.Claim
import GoSem.ClaimJoined
import GoSem.ClaimMapViews
import Derived.JoinedTies
import Derived.KernelRfl
namespace Go.Proofs.YtjcmcfidblhnnaaGreatDoor
/- THE CELL 'sum', in the pinned program and in every row, IS THE sha256 OF THE DUMP (.gsa) THAT YtjcmcfidblhnnaaGreatDoorProg.lean LOADS. Nothing in Lean hashes anything: it is a label: what it is worth is what the hold of that sum in a sandbox is worth. -/
noncomputable def Tryz.pinned : Pinned := { name := "ytjcmcfidblhnnaagreatdoor", sum := "7a89de6114619961a69f268008eb85d716801bbf0d0b86982020e8af166a29ad", checked := Tryz.checked }
namespace Rows
def none {H : Type} : Left H := { results := [], args := [] }

/- WHAT THE LISTED PACKAGE-LEVEL VARIABLES READ AS WHEN THE CALL BEGINS. Each datum BY PROGRAM (the guide's laid-datum.mjs) off the statement by which the dump's own 'gosem.cut.vars' lays the variable. In a bare row this is a premise. The card (YtjcmcfidblhnnaaGreatDoorCards.lean) ties it to the program's text. -/
def laid_unicode_utf8_acceptRanges {H : Type} : DataW H := .agg [.agg [.lit (.int .u8 128), .lit (.int .u8 191)], .agg [.lit (.int .u8 160), .lit (.int .u8 191)], .agg [.lit (.int .u8 128), .lit (.int .u8 159)], .agg [.lit (.int .u8 144), .lit (.int .u8 191)], .agg [.lit (.int .u8 128), .lit (.int .u8 143)], .agg [.lit (.int .u8 0), .lit (.int .u8 0)], .agg [.lit (.int .u8 0), .lit (.int .u8 0)], .agg [.lit (.int .u8 0), .lit (.int .u8 0)], .agg [.lit (.int .u8 0), .lit (.int .u8 0)], .agg [.lit (.int .u8 0), .lit (.int .u8 0)], .agg [.lit (.int .u8 0), .lit (.int .u8 0)], .agg [.lit (.int .u8 0), .lit (.int .u8 0)], .agg [.lit (.int .u8 0), .lit (.int .u8 0)], .agg [.lit (.int .u8 0), .lit (.int .u8 0)], .agg [.lit (.int .u8 0), .lit (.int .u8 0)], .agg [.lit (.int .u8 0), .lit (.int .u8 0)]]
def laid_taciturn_taciturnhand_bins {H : Type} : DataW H := .agg [.lit (.int .i64 6), .lit (.int .i64 7), .lit (.int .i64 8), .lit (.int .i64 9), .lit (.int .i64 10), .lit (.int .i64 11), .lit (.int .i64 12), .lit (.int .i64 13), .lit (.int .i64 14), .lit (.int .i64 19), .lit (.int .i64 20), .lit (.int .i64 21)]
/-- One of Go's own tables, pinned by name: the form's constant. -/
def laid_unicode_utf8_first : DataW Unit := Go.Pinned.utf8First

/-- 'taciturnlaw18.LiftTicks': WHATEVER THE INPUT: true; the input reads as it did. -/
def liftTicksSpec : ChangeSpec := { name := "liftTicks", fn := fun _ => fun
  | [d1, d2, d3, d4, d5] => { results := [.lit (.bool true)], args := [d1, d2, d3, d4, d5] }
  | _ => none }
def liftTicksRow : OpenClaim := { program := "ytjcmcfidblhnnaagreatdoor", sum := "7a89de6114619961a69f268008eb85d716801bbf0d0b86982020e8af166a29ad", func := "taciturn/taciturnlaw18.LiftTicks", spec := "liftTicks", unfollowed := true, recurses := true, named := ["taciturn/taciturnhand.bins", "unicode/utf8.first", "unicode/utf8.acceptRanges"], apart := false, laid := [("unicode/utf8.acceptRanges", laid_unicode_utf8_acceptRanges), ("taciturn/taciturnhand.bins", laid_taciturn_taciturnhand_bins), ("unicode/utf8.first", laid_unicode_utf8_first)] }
def LiftTicksSaid : Prop := liftTicksRow.holds Tryz.pinned (OpenSpec.ofChange liftTicksSpec)

/-- ITS FALSE NEIGHBOUR: 'it returns false'. Refute it at one input. -/
def liftTicksWrong : ChangeSpec := { name := "liftTicks", fn := fun _ => fun
  | [d1, d2, d3, d4, d5] => { results := [.lit (.bool false)], args := [d1, d2, d3, d4, d5] }
  | _ => none }
def LiftTicksWrongFalsely : Prop := liftTicksRow.holds Tryz.pinned (OpenSpec.ofChange liftTicksWrong)

/-- 'taciturnlaw23.BuildTables': WHATEVER THE INPUT: true; the input reads as it did. -/
def buildTablesSpec : ChangeSpec := { name := "buildTables", fn := fun _ => fun
  | [d] => { results := [.lit (.bool true)], args := [d] }
  | _ => none }
def buildTablesRow : OpenClaim := { program := "ytjcmcfidblhnnaagreatdoor", sum := "7a89de6114619961a69f268008eb85d716801bbf0d0b86982020e8af166a29ad", func := "taciturn/taciturnlaw23.BuildTables", spec := "buildTables", unfollowed := true, recurses := true, named := ["taciturn/taciturnhand.bins", "unicode/utf8.first", "unicode/utf8.acceptRanges"], apart := false, laid := [("unicode/utf8.acceptRanges", laid_unicode_utf8_acceptRanges), ("taciturn/taciturnhand.bins", laid_taciturn_taciturnhand_bins), ("unicode/utf8.first", laid_unicode_utf8_first)] }
def BuildTablesSaid : Prop := buildTablesRow.holds Tryz.pinned (OpenSpec.ofChange buildTablesSpec)

/-- ITS FALSE NEIGHBOUR: 'it returns false'. Refute it at one input. -/
def buildTablesWrong : ChangeSpec := { name := "buildTables", fn := fun _ => fun
  | [d] => { results := [.lit (.bool false)], args := [d] }
  | _ => none }
def BuildTablesWrongFalsely : Prop := buildTablesRow.holds Tryz.pinned (OpenSpec.ofChange buildTablesWrong)

/-- 'taciturnlaw23.BuildMoves': WHATEVER THE INPUT: true; the input reads as it did. -/
def buildMovesSpec : ChangeSpec := { name := "buildMoves", fn := fun _ => fun
  | [d1, d2, d3] => { results := [.lit (.bool true)], args := [d1, d2, d3] }
  | _ => none }
def buildMovesRow : OpenClaim := { program := "ytjcmcfidblhnnaagreatdoor", sum := "7a89de6114619961a69f268008eb85d716801bbf0d0b86982020e8af166a29ad", func := "taciturn/taciturnlaw23.BuildMoves", spec := "buildMoves", unfollowed := true, recurses := true, named := ["taciturn/taciturnhand.bins", "unicode/utf8.first", "unicode/utf8.acceptRanges"], apart := false, laid := [("unicode/utf8.acceptRanges", laid_unicode_utf8_acceptRanges), ("taciturn/taciturnhand.bins", laid_taciturn_taciturnhand_bins), ("unicode/utf8.first", laid_unicode_utf8_first)] }
def BuildMovesSaid : Prop := buildMovesRow.holds Tryz.pinned (OpenSpec.ofChange buildMovesSpec)

/-- ITS FALSE NEIGHBOUR: 'it returns false'. Refute it at one input. -/
def buildMovesWrong : ChangeSpec := { name := "buildMoves", fn := fun _ => fun
  | [d1, d2, d3] => { results := [.lit (.bool false)], args := [d1, d2, d3] }
  | _ => none }
def BuildMovesWrongFalsely : Prop := buildMovesRow.holds Tryz.pinned (OpenSpec.ofChange buildMovesWrong)

/-- 'taciturnlaw23.BuildFits': WHATEVER THE INPUT: true; the input reads as it did. -/
def buildFitsSpec : ChangeSpec := { name := "buildFits", fn := fun _ => fun
  | [d1, d2, d3, d4, d5, d6, d7] => { results := [.lit (.bool true)], args := [d1, d2, d3, d4, d5, d6, d7] }
  | _ => none }
def buildFitsRow : OpenClaim := { program := "ytjcmcfidblhnnaagreatdoor", sum := "7a89de6114619961a69f268008eb85d716801bbf0d0b86982020e8af166a29ad", func := "taciturn/taciturnlaw23.BuildFits", spec := "buildFits", unfollowed := true, recurses := true, named := ["taciturn/taciturnhand.bins", "unicode/utf8.first", "unicode/utf8.acceptRanges"], apart := false, laid := [("unicode/utf8.acceptRanges", laid_unicode_utf8_acceptRanges), ("taciturn/taciturnhand.bins", laid_taciturn_taciturnhand_bins), ("unicode/utf8.first", laid_unicode_utf8_first)] }
def BuildFitsSaid : Prop := buildFitsRow.holds Tryz.pinned (OpenSpec.ofChange buildFitsSpec)

/-- ITS FALSE NEIGHBOUR: 'it returns false'. Refute it at one input. -/
def buildFitsWrong : ChangeSpec := { name := "buildFits", fn := fun _ => fun
  | [d1, d2, d3, d4, d5, d6, d7] => { results := [.lit (.bool false)], args := [d1, d2, d3, d4, d5, d6, d7] }
  | _ => none }
def BuildFitsWrongFalsely : Prop := buildFitsRow.holds Tryz.pinned (OpenSpec.ofChange buildFitsWrong)

/- THE SECOND FORM. 'bulk': how many values and letters a reading holds, each counted each time it is reached (what is shared counts as often as it is met; a slice's spare places count too). A statement '..UptoSaid' is the law's where the arguments, and the package variables that the reading takes, are together of bulk at most 1048576: NARROWER than '..Said'. Prove '..Said' where nothing that the law and all that it calls make is longer than what came in: it says more and counts as full. Else prove '..UptoSaid'. A law counts once. -/
mutual
def uptoBulk {H : Type} : DataW H → Nat
  | .lit (.string bytes) => bytes.length + 1
  | .lit _ => 1
  | .nil => 1
  | .ptr d => uptoBulk d + 1
  | .slice elems spare => uptoBulkAll elems + uptoBulkAll spare + 1
  | .agg parts => uptoBulkAll parts + 1
  | .iface _ d => uptoBulk d + 1
  | .map entries => uptoBulkEntries entries + 1
  | .held _ => 1
def uptoBulkAll {H : Type} : List (DataW H) → Nat
  | [] => 0
  | d :: r => uptoBulk d + uptoBulkAll r
def uptoBulkEntries {H : Type} : List (Lit × DataW H) → Nat
  | [] => 0
  | x :: r => uptoBulkEntry x + uptoBulkEntries r
def uptoBulkEntry {H : Type} : Lit × DataW H → Nat
  | (.string bytes, d) => bytes.length + uptoBulk d + 1
  | (_, d) => uptoBulk d + 1
 end
def uptoSmall : (H : Type) → List (DataW H) → Bool := fun _ ds => decide (uptoBulkAll ds ≤ 1048576)
def OpenSpec.upto (s : _root_.Go.ChangeSpec) : _root_.Go.OpenSpec := { _root_.Go.OpenSpec.ofChange s with cond := some uptoSmall }

/-- 'taciturnlaw18.LiftTicks', WHERE WHAT IT READS IS OF BULK AT MOST 1048576: true; the input reads as it did. -/
def liftTicksUptoRow : OpenClaim := { program := "ytjcmcfidblhnnaagreatdoor", sum := "7a89de6114619961a69f268008eb85d716801bbf0d0b86982020e8af166a29ad", func := "taciturn/taciturnlaw18.LiftTicks", spec := "liftTicks", unfollowed := true, recurses := true, named := ["taciturn/taciturnhand.bins", "unicode/utf8.first", "unicode/utf8.acceptRanges"], apart := false, laid := [("unicode/utf8.acceptRanges", laid_unicode_utf8_acceptRanges), ("taciturn/taciturnhand.bins", laid_taciturn_taciturnhand_bins), ("unicode/utf8.first", laid_unicode_utf8_first)], narrowed := true }
def LiftTicksUptoSaid : Prop := liftTicksUptoRow.holds Tryz.pinned (OpenSpec.upto liftTicksSpec)

/-- 'taciturnlaw23.BuildTables', WHERE WHAT IT READS IS OF BULK AT MOST 1048576: true; the input reads as it did. -/
def buildTablesUptoRow : OpenClaim := { program := "ytjcmcfidblhnnaagreatdoor", sum := "7a89de6114619961a69f268008eb85d716801bbf0d0b86982020e8af166a29ad", func := "taciturn/taciturnlaw23.BuildTables", spec := "buildTables", unfollowed := true, recurses := true, named := ["taciturn/taciturnhand.bins", "unicode/utf8.first", "unicode/utf8.acceptRanges"], apart := false, laid := [("unicode/utf8.acceptRanges", laid_unicode_utf8_acceptRanges), ("taciturn/taciturnhand.bins", laid_taciturn_taciturnhand_bins), ("unicode/utf8.first", laid_unicode_utf8_first)], narrowed := true }
def BuildTablesUptoSaid : Prop := buildTablesUptoRow.holds Tryz.pinned (OpenSpec.upto buildTablesSpec)

/-- 'taciturnlaw23.BuildMoves', WHERE WHAT IT READS IS OF BULK AT MOST 1048576: true; the input reads as it did. -/
def buildMovesUptoRow : OpenClaim := { program := "ytjcmcfidblhnnaagreatdoor", sum := "7a89de6114619961a69f268008eb85d716801bbf0d0b86982020e8af166a29ad", func := "taciturn/taciturnlaw23.BuildMoves", spec := "buildMoves", unfollowed := true, recurses := true, named := ["taciturn/taciturnhand.bins", "unicode/utf8.first", "unicode/utf8.acceptRanges"], apart := false, laid := [("unicode/utf8.acceptRanges", laid_unicode_utf8_acceptRanges), ("taciturn/taciturnhand.bins", laid_taciturn_taciturnhand_bins), ("unicode/utf8.first", laid_unicode_utf8_first)], narrowed := true }
def BuildMovesUptoSaid : Prop := buildMovesUptoRow.holds Tryz.pinned (OpenSpec.upto buildMovesSpec)

/-- 'taciturnlaw23.BuildFits', WHERE WHAT IT READS IS OF BULK AT MOST 1048576: true; the input reads as it did. -/
def buildFitsUptoRow : OpenClaim := { program := "ytjcmcfidblhnnaagreatdoor", sum := "7a89de6114619961a69f268008eb85d716801bbf0d0b86982020e8af166a29ad", func := "taciturn/taciturnlaw23.BuildFits", spec := "buildFits", unfollowed := true, recurses := true, named := ["taciturn/taciturnhand.bins", "unicode/utf8.first", "unicode/utf8.acceptRanges"], apart := false, laid := [("unicode/utf8.acceptRanges", laid_unicode_utf8_acceptRanges), ("taciturn/taciturnhand.bins", laid_taciturn_taciturnhand_bins), ("unicode/utf8.first", laid_unicode_utf8_first)], narrowed := true }
def BuildFitsUptoSaid : Prop := buildFitsUptoRow.holds Tryz.pinned (OpenSpec.upto buildFitsSpec)

end Rows
end Go.Proofs.YtjcmcfidblhnnaaGreatDoor
