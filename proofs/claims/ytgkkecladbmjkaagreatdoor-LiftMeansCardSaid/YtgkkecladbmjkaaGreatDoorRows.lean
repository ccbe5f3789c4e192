/-
  NARROWER THAN 'FOR EVERY INPUT', by the rows' own cells (each row's printed sentence says how): InterpHeights: laid · InterpFuel: laid · InterpQuiet: laid · InterpPlays: laid · LiftMeans: laid.
  DERIVED. THE GIVEN ROWS OF THIS SEAT. 5 by the template 'for every input the law returns true; each argument reads behind the call as it read before'; 0 by the template 'total and deterministic' (their statements: YtgkkecladbmjkaaGreatDoorTotals.lean).
  GIVEN WITH THE SEED: the statements are not yours to turn. If you find one false, say at which input.
  Laid BY PROGRAM, IN A SANDBOX (cutbox-rows.mjs): the forced cells as the released guide's own fill.sh prints them over the translation e5b580542f8c8c47… (all of the seat's roots in one cut). By AI agents, Wed Nov 11 2026. No macro, syntax, notation, axiom, sorry.
-/
import Derived.Test.YtgkkecladbmjkaaGreatDoorChecked
import GoSem.PinnedTables
import GoSem.Claim
import GoSem.ClaimJoined
import GoSem.ClaimMapViews
import Derived.JoinedTies
import Derived.KernelRfl
namespace Go.Proofs.YtgkkecladbmjkaaGreatDoor
/- THE CELL 'sum', in the pinned program and in every row, IS THE sha256 OF THE DUMP (.gsa) THAT YtgkkecladbmjkaaGreatDoorProg.lean LOADS. Nothing in Lean hashes anything: it is a label: what it is worth is what the hold of that sum in a sandbox is worth. -/
noncomputable def Tryz.pinned : Pinned := { name := "ytgkkecladbmjkaagreatdoor", sum := "e5b580542f8c8c476fa53e9af537c76801974c2958480f39032a769e9db75f7a", checked := Tryz.checked }
namespace Rows
def none {H : Type} : Left H := { results := [], args := [] }

/- WHAT THE LISTED PACKAGE-LEVEL VARIABLES READ AS WHEN THE CALL BEGINS. Each datum BY PROGRAM (the guide's laid-datum.mjs) off the statement by which the dump's own 'gosem.cut.vars' lays the variable. In a bare row this is a premise. The card (YtgkkecladbmjkaaGreatDoorCards.lean) ties it to the program's text. -/
def laid_unicode_utf8_acceptRanges {H : Type} : DataW H := .agg [.agg [.lit (.int .u8 128), .lit (.int .u8 191)], .agg [.lit (.int .u8 160), .lit (.int .u8 191)], .agg [.lit (.int .u8 128), .lit (.int .u8 159)], .agg [.lit (.int .u8 144), .lit (.int .u8 191)], .agg [.lit (.int .u8 128), .lit (.int .u8 143)], .agg [.lit (.int .u8 0), .lit (.int .u8 0)], .agg [.lit (.int .u8 0), .lit (.int .u8 0)], .agg [.lit (.int .u8 0), .lit (.int .u8 0)], .agg [.lit (.int .u8 0), .lit (.int .u8 0)], .agg [.lit (.int .u8 0), .lit (.int .u8 0)], .agg [.lit (.int .u8 0), .lit (.int .u8 0)], .agg [.lit (.int .u8 0), .lit (.int .u8 0)], .agg [.lit (.int .u8 0), .lit (.int .u8 0)], .agg [.lit (.int .u8 0), .lit (.int .u8 0)], .agg [.lit (.int .u8 0), .lit (.int .u8 0)], .agg [.lit (.int .u8 0), .lit (.int .u8 0)]]
def laid_taciturn_taciturnhand_bins {H : Type} : DataW H := .agg [.lit (.int .i64 6), .lit (.int .i64 7), .lit (.int .i64 8), .lit (.int .i64 9), .lit (.int .i64 10), .lit (.int .i64 11), .lit (.int .i64 12), .lit (.int .i64 13), .lit (.int .i64 14), .lit (.int .i64 19), .lit (.int .i64 20), .lit (.int .i64 21)]
/-- One of Go's own tables, pinned by name: the form's constant. -/
def laid_unicode_utf8_first : DataW Unit := Go.Pinned.utf8First

/-- 'taciturnlaw13.InterpHeights': WHATEVER THE INPUT: true; the input reads as it did. -/
def interpHeightsSpec : ChangeSpec := { name := "interpHeights", fn := fun _ => fun
  | [d1, d2, d3, d4, d5] => { results := [.lit (.bool true)], args := [d1, d2, d3, d4, d5] }
  | _ => none }
def interpHeightsRow : OpenClaim := { program := "ytgkkecladbmjkaagreatdoor", sum := "e5b580542f8c8c476fa53e9af537c76801974c2958480f39032a769e9db75f7a", func := "taciturn/taciturnlaw13.InterpHeights", spec := "interpHeights", unfollowed := true, recurses := true, named := ["taciturn/taciturnhand.bins", "unicode/utf8.first", "unicode/utf8.acceptRanges"], apart := false, laid := [("unicode/utf8.acceptRanges", laid_unicode_utf8_acceptRanges), ("taciturn/taciturnhand.bins", laid_taciturn_taciturnhand_bins), ("unicode/utf8.first", laid_unicode_utf8_first)] }
def InterpHeightsSaid : Prop := interpHeightsRow.holds Tryz.pinned (OpenSpec.ofChange interpHeightsSpec)

/-- ITS FALSE NEIGHBOUR: 'it returns false'. Refute it at one input. -/
def interpHeightsWrong : ChangeSpec := { name := "interpHeights", fn := fun _ => fun
  | [d1, d2, d3, d4, d5] => { results := [.lit (.bool false)], args := [d1, d2, d3, d4, d5] }
  | _ => none }
def InterpHeightsWrongFalsely : Prop := interpHeightsRow.holds Tryz.pinned (OpenSpec.ofChange interpHeightsWrong)

/-- 'taciturnlaw13.InterpFuel': WHATEVER THE INPUT: true; the input reads as it did. -/
def interpFuelSpec : ChangeSpec := { name := "interpFuel", fn := fun _ => fun
  | [d1, d2, d3, d4, d5] => { results := [.lit (.bool true)], args := [d1, d2, d3, d4, d5] }
  | _ => none }
def interpFuelRow : OpenClaim := { program := "ytgkkecladbmjkaagreatdoor", sum := "e5b580542f8c8c476fa53e9af537c76801974c2958480f39032a769e9db75f7a", func := "taciturn/taciturnlaw13.InterpFuel", spec := "interpFuel", unfollowed := true, recurses := true, named := ["taciturn/taciturnhand.bins", "unicode/utf8.first", "unicode/utf8.acceptRanges"], apart := false, laid := [("unicode/utf8.acceptRanges", laid_unicode_utf8_acceptRanges), ("taciturn/taciturnhand.bins", laid_taciturn_taciturnhand_bins), ("unicode/utf8.first", laid_unicode_utf8_first)] }
def InterpFuelSaid : Prop := interpFuelRow.holds Tryz.pinned (OpenSpec.ofChange interpFuelSpec)

/-- ITS FALSE NEIGHBOUR: 'it returns false'. Refute it at one input. -/
def interpFuelWrong : ChangeSpec := { name := "interpFuel", fn := fun _ => fun
  | [d1, d2, d3, d4, d5] => { results := [.lit (.bool false)], args := [d1, d2, d3, d4, d5] }
  | _ => none }
def InterpFuelWrongFalsely : Prop := interpFuelRow.holds Tryz.pinned (OpenSpec.ofChange interpFuelWrong)

/-- 'taciturnlaw13.InterpQuiet': WHATEVER THE INPUT: true; the input reads as it did. -/
def interpQuietSpec : ChangeSpec := { name := "interpQuiet", fn := fun _ => fun
  | [d1, d2, d3, d4, d5, d6] => { results := [.lit (.bool true)], args := [d1, d2, d3, d4, d5, d6] }
  | _ => none }
def interpQuietRow : OpenClaim := { program := "ytgkkecladbmjkaagreatdoor", sum := "e5b580542f8c8c476fa53e9af537c76801974c2958480f39032a769e9db75f7a", func := "taciturn/taciturnlaw13.InterpQuiet", spec := "interpQuiet", unfollowed := true, recurses := true, named := ["taciturn/taciturnhand.bins", "unicode/utf8.first", "unicode/utf8.acceptRanges"], apart := false, laid := [("unicode/utf8.acceptRanges", laid_unicode_utf8_acceptRanges), ("taciturn/taciturnhand.bins", laid_taciturn_taciturnhand_bins), ("unicode/utf8.first", laid_unicode_utf8_first)] }
def InterpQuietSaid : Prop := interpQuietRow.holds Tryz.pinned (OpenSpec.ofChange interpQuietSpec)

/-- ITS FALSE NEIGHBOUR: 'it returns false'. Refute it at one input. -/
def interpQuietWrong : ChangeSpec := { name := "interpQuiet", fn := fun _ => fun
  | [d1, d2, d3, d4, d5, d6] => { results := [.lit (.bool false)], args := [d1, d2, d3, d4, d5, d6] }
  | _ => none }
def InterpQuietWrongFalsely : Prop := interpQuietRow.holds Tryz.pinned (OpenSpec.ofChange interpQuietWrong)

/-- 'taciturnlaw13.InterpPlays': WHATEVER THE INPUT: true; the input reads as it did. -/
def interpPlaysSpec : ChangeSpec := { name := "interpPlays", fn := fun _ => fun
  | [d1, d2, d3, d4, d5, d6] => { results := [.lit (.bool true)], args := [d1, d2, d3, d4, d5, d6] }
  | _ => none }
def interpPlaysRow : OpenClaim := { program := "ytgkkecladbmjkaagreatdoor", sum := "e5b580542f8c8c476fa53e9af537c76801974c2958480f39032a769e9db75f7a", func := "taciturn/taciturnlaw13.InterpPlays", spec := "interpPlays", unfollowed := true, recurses := true, named := ["taciturn/taciturnhand.bins", "unicode/utf8.first", "unicode/utf8.acceptRanges"], apart := false, laid := [("unicode/utf8.acceptRanges", laid_unicode_utf8_acceptRanges), ("taciturn/taciturnhand.bins", laid_taciturn_taciturnhand_bins), ("unicode/utf8.first", laid_unicode_utf8_first)] }
def InterpPlaysSaid : Prop := interpPlaysRow.holds Tryz.pinned (OpenSpec.ofChange interpPlaysSpec)

/-- ITS FALSE NEIGHBOUR: 'it returns false'. Refute it at one input. -/
def interpPlaysWrong : ChangeSpec := { name := "interpPlays", fn := fun _ => fun
  | [d1, d2, d3, d4, d5, d6] => { results := [.lit (.bool false)], args := [d1, d2, d3, d4, d5, d6] }
  | _ => none }
def InterpPlaysWrongFalsely : Prop := interpPlaysRow.holds Tryz.pinned (OpenSpec.ofChange interpPlaysWrong)

/-- 'taciturnlaw18.LiftMeans': WHATEVER THE INPUT: true; the input reads as it did. -/
def liftMeansSpec : ChangeSpec := { name := "liftMeans", fn := fun _ => fun
  | [d1, d2, d3] => { results := [.lit (.bool true)], args := [d1, d2, d3] }
  | _ => none }
def liftMeansRow : OpenClaim := { program := "ytgkkecladbmjkaagreatdoor", sum := "e5b580542f8c8c476fa53e9af537c76801974c2958480f39032a769e9db75f7a", func := "taciturn/taciturnlaw18.LiftMeans", spec := "liftMeans", unfollowed := true, recurses := true, named := ["unicode/utf8.first", "unicode/utf8.acceptRanges"], apart := false, laid := [("unicode/utf8.acceptRanges", laid_unicode_utf8_acceptRanges), ("unicode/utf8.first", laid_unicode_utf8_first)] }
def LiftMeansSaid : Prop := liftMeansRow.holds Tryz.pinned (OpenSpec.ofChange liftMeansSpec)

/-- ITS FALSE NEIGHBOUR: 'it returns false'. Refute it at one input. -/
def liftMeansWrong : ChangeSpec := { name := "liftMeans", fn := fun _ => fun
  | [d1, d2, d3] => { results := [.lit (.bool false)], args := [d1, d2, d3] }
  | _ => none }
def LiftMeansWrongFalsely : Prop := liftMeansRow.holds Tryz.pinned (OpenSpec.ofChange liftMeansWrong)

/- THE SECOND FORM. 'bulk': how many values and letters a reading holds, each counted each time it is reached (what is shared counts as often as it is met; a slice's spare places count too). A statement '..UptoSaid' is the law's where the arguments, and the package variables that the reading takes, are together of bulk at most 1048576: NARROWER than '..Said'. Prove '..Said' where nothing that the law and all that it calls make is longer than what came in: it says more and counts as full. Else prove '..UptoSaid'. A law counts once. -/
mutual
def uptoBulk {H : Type} : DataW H → Nat
  | .lit (.string bytes) => bytes.length + 1
  | .lit _ => 1
  | .nil => 1
  | .ptr d => uptoBulk d + 1
  | .slice elems spare => uptoBulkAll elems + uptoBulkAll spare + 1
  | .agg parts => uptoBulkAll parts + 1
  | .iface _ d => uptoBulk d + 1
  | .map entries => uptoBulkEntries entries + 1
  | .held _ => 1
def uptoBulkAll {H : Type} : List (DataW H) → Nat
  | [] => 0
  | d :: r => uptoBulk d + uptoBulkAll r
def uptoBulkEntries {H : Type} : List (Lit × DataW H) → Nat
  | [] => 0
  | x :: r => uptoBulkEntry x + uptoBulkEntries r
def uptoBulkEntry {H : Type} : Lit × DataW H → Nat
  | (.string bytes, d) => bytes.length + uptoBulk d + 1
  | (_, d) => uptoBulk d + 1
 end
def uptoSmall : (H : Type) → List (DataW H) → Bool := fun _ ds => decide (uptoBulkAll ds ≤ 1048576)
def OpenSpec.upto (s : _root_.Go.ChangeSpec) : _root_.Go.OpenSpec := { _root_.Go.OpenSpec.ofChange s with cond := some uptoSmall }

/-- 'taciturnlaw13.InterpHeights', WHERE WHAT IT READS IS OF BULK AT MOST 1048576: true; the input reads as it did. -/
def interpHeightsUptoRow : OpenClaim := { program := "ytgkkecladbmjkaagreatdoor", sum := "e5b580542f8c8c476fa53e9af537c76801974c2958480f39032a769e9db75f7a", func := "taciturn/taciturnlaw13.InterpHeights", spec := "interpHeights", unfollowed := true, recurses := true, named := ["taciturn/taciturnhand.bins", "unicode/utf8.first", "unicode/utf8.acceptRanges"], apart := false, laid := [("unicode/utf8.acceptRanges", laid_unicode_utf8_acceptRanges), ("taciturn/taciturnhand.bins", laid_taciturn_taciturnhand_bins), ("unicode/utf8.first", laid_unicode_utf8_first)], narrowed := true }
def InterpHeightsUptoSaid : Prop := interpHeightsUptoRow.holds Tryz.pinned (OpenSpec.upto interpHeightsSpec)

/-- 'taciturnlaw13.InterpFuel', WHERE WHAT IT READS IS OF BULK AT MOST 1048576: true; the input reads as it did. -/
def interpFuelUptoRow : OpenClaim := { program := "ytgkkecladbmjkaagreatdoor", sum := "e5b580542f8c8c476fa53e9af537c76801974c2958480f39032a769e9db75f7a", func := "taciturn/taciturnlaw13.InterpFuel", spec := "interpFuel", unfollowed := true, recurses := true, named := ["taciturn/taciturnhand.bins", "unicode/utf8.first", "unicode/utf8.acceptRanges"], apart := false, laid := [("unicode/utf8.acceptRanges", laid_unicode_utf8_acceptRanges), ("taciturn/taciturnhand.bins", laid_taciturn_taciturnhand_bins), ("unicode/utf8.first", laid_unicode_utf8_first)], narrowed := true }
def InterpFuelUptoSaid : Prop := interpFuelUptoRow.holds Tryz.pinned (OpenSpec.upto interpFuelSpec)

/-- 'taciturnlaw13.InterpQuiet', WHERE WHAT IT READS IS OF BULK AT MOST 1048576: true; the input reads as it did. -/
def interpQuietUptoRow : OpenClaim := { program := "ytgkkecladbmjkaagreatdoor", sum := "e5b580542f8c8c476fa53e9af537c76801974c2958480f39032a769e9db75f7a", func := "taciturn/taciturnlaw13.InterpQuiet", spec := "interpQuiet", unfollowed := true, recurses := true, named := ["taciturn/taciturnhand.bins", "unicode/utf8.first", "unicode/utf8.acceptRanges"], apart := false, laid := [("unicode/utf8.acceptRanges", laid_unicode_utf8_acceptRanges), ("taciturn/taciturnhand.bins", laid_taciturn_taciturnhand_bins), ("unicode/utf8.first", laid_unicode_utf8_first)], narrowed := true }
def InterpQuietUptoSaid : Prop := interpQuietUptoRow.holds Tryz.pinned (OpenSpec.upto interpQuietSpec)

/-- 'taciturnlaw13.InterpPlays', WHERE WHAT IT READS IS OF BULK AT MOST 1048576: true; the input reads as it did. -/
def interpPlaysUptoRow : OpenClaim := { program := "ytgkkecladbmjkaagreatdoor", sum := "e5b580542f8c8c476fa53e9af537c76801974c2958480f39032a769e9db75f7a", func := "taciturn/taciturnlaw13.InterpPlays", spec := "interpPlays", unfollowed := true, recurses := true, named := ["taciturn/taciturnhand.bins", "unicode/utf8.first", "unicode/utf8.acceptRanges"], apart := false, laid := [("unicode/utf8.acceptRanges", laid_unicode_utf8_acceptRanges), ("taciturn/taciturnhand.bins", laid_taciturn_taciturnhand_bins), ("unicode/utf8.first", laid_unicode_utf8_first)], narrowed := true }
def InterpPlaysUptoSaid : Prop := interpPlaysUptoRow.holds Tryz.pinned (OpenSpec.upto interpPlaysSpec)

/-- 'taciturnlaw18.LiftMeans', WHERE WHAT IT READS IS OF BULK AT MOST 1048576: true; the input reads as it did. -/
def liftMeansUptoRow : OpenClaim := { program := "ytgkkecladbmjkaagreatdoor", sum := "e5b580542f8c8c476fa53e9af537c76801974c2958480f39032a769e9db75f7a", func := "taciturn/taciturnlaw18.LiftMeans", spec := "liftMeans", unfollowed := true, recurses := true, named := ["unicode/utf8.first", "unicode/utf8.acceptRanges"], apart := false, laid := [("unicode/utf8.acceptRanges", laid_unicode_utf8_acceptRanges), ("unicode/utf8.first", laid_unicode_utf8_first)], narrowed := true }
def LiftMeansUptoSaid : Prop := liftMeansUptoRow.holds Tryz.pinned (OpenSpec.upto liftMeansSpec)

end Rows
end Go.Proofs.YtgkkecladbmjkaaGreatDoor
