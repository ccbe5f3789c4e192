/-
  NARROWER THAN 'FOR EVERY INPUT', by the rows' own cells (each row's printed sentence says how): LiveDead: laid · PlaceRight: laid · PlaceAllocates: laid.
  DERIVED. THE GIVEN ROWS OF THIS SEAT. 3 by the template 'for every input the law returns true; each argument reads behind the call as it read before'; 0 by the template 'total and deterministic' (their statements: YtendijaeihljeaaDoorTotals.lean).
  GIVEN WITH THE SEED: the statements are not yours to turn. If you find one false, say at which input.
  Laid BY PROGRAM, IN A SANDBOX (cutbox-rows.mjs): the forced cells as the released guide's own fill.sh prints them over the translation c6e6b116d7c96abf… (all of the seat's roots in one cut). By AI agents, Wed Nov 11 2026. No macro, syntax, notation, axiom, sorry.
-/
import Derived.Test.YtendijaeihljeaaDoorChecked
import GoSem.Claim
import GoSem.ClaimJoined
import GoSem.ClaimMapViews
import Derived.JoinedTies
import Derived.KernelRfl
namespace Go.Proofs.YtendijaeihljeaaDoor
/- THE CELL 'sum', in the pinned program and in every row, IS THE sha256 OF THE DUMP (.gsa) THAT YtendijaeihljeaaDoorProg.lean LOADS. Nothing in Lean hashes anything: it is a label: what it is worth is what the hold of that sum in a sandbox is worth. -/
noncomputable def Tryd.pinned : Pinned := { name := "ytendijaeihljeaadoor", sum := "c6e6b116d7c96abf8a226143fdcbb0dda428743ddbe87dbe40e95ef6aa0ee320", checked := Tryd.checked }
namespace Rows
def none {H : Type} : Left H := { results := [], args := [] }

/- WHAT THE LISTED PACKAGE-LEVEL VARIABLES READ AS WHEN THE CALL BEGINS. Each datum BY PROGRAM (the guide's laid-datum.mjs) off the statement by which the dump's own 'gosem.cut.vars' lays the variable. In a bare row this is a premise. The card (YtendijaeihljeaaDoorCards.lean) ties it to the program's text. -/
def laid_taciturn_taciturnhand_bins {H : Type} : DataW H := .agg [.lit (.int .i64 6), .lit (.int .i64 7), .lit (.int .i64 8), .lit (.int .i64 9), .lit (.int .i64 10), .lit (.int .i64 11), .lit (.int .i64 12), .lit (.int .i64 13), .lit (.int .i64 14), .lit (.int .i64 19), .lit (.int .i64 20), .lit (.int .i64 21)]

/-- 'taciturnlaw19.LiveDead': WHATEVER THE INPUT: true; the input reads as it did. -/
def liveDeadSpec : ChangeSpec := { name := "liveDead", fn := fun _ => fun
  | [d1, d2, d3, d4, d5] => { results := [.lit (.bool true)], args := [d1, d2, d3, d4, d5] }
  | _ => none }
def liveDeadRow : OpenClaim := { program := "ytendijaeihljeaadoor", sum := "c6e6b116d7c96abf8a226143fdcbb0dda428743ddbe87dbe40e95ef6aa0ee320", func := "taciturn/taciturnlaw19.LiveDead", spec := "liveDead", unfollowed := true, recurses := true, named := ["taciturn/taciturnhand.bins"], apart := false, laid := [("taciturn/taciturnhand.bins", laid_taciturn_taciturnhand_bins)] }
def LiveDeadSaid : Prop := liveDeadRow.holds Tryd.pinned (OpenSpec.ofChange liveDeadSpec)

/-- ITS FALSE NEIGHBOUR: 'it returns false'. Refute it at one input. -/
def liveDeadWrong : ChangeSpec := { name := "liveDead", fn := fun _ => fun
  | [d1, d2, d3, d4, d5] => { results := [.lit (.bool false)], args := [d1, d2, d3, d4, d5] }
  | _ => none }
def LiveDeadWrongFalsely : Prop := liveDeadRow.holds Tryd.pinned (OpenSpec.ofChange liveDeadWrong)

/-- 'taciturnlaw20.PlaceRight': WHATEVER THE INPUT: true; the input reads as it did. -/
def placeRightSpec : ChangeSpec := { name := "placeRight", fn := fun _ => fun
  | [d1, d2, d3, d4, d5, d6] => { results := [.lit (.bool true)], args := [d1, d2, d3, d4, d5, d6] }
  | _ => none }
def placeRightRow : OpenClaim := { program := "ytendijaeihljeaadoor", sum := "c6e6b116d7c96abf8a226143fdcbb0dda428743ddbe87dbe40e95ef6aa0ee320", func := "taciturn/taciturnlaw20.PlaceRight", spec := "placeRight", unfollowed := true, recurses := true, named := ["taciturn/taciturnhand.bins"], apart := false, laid := [("taciturn/taciturnhand.bins", laid_taciturn_taciturnhand_bins)] }
def PlaceRightSaid : Prop := placeRightRow.holds Tryd.pinned (OpenSpec.ofChange placeRightSpec)

/-- ITS FALSE NEIGHBOUR: 'it returns false'. Refute it at one input. -/
def placeRightWrong : ChangeSpec := { name := "placeRight", fn := fun _ => fun
  | [d1, d2, d3, d4, d5, d6] => { results := [.lit (.bool false)], args := [d1, d2, d3, d4, d5, d6] }
  | _ => none }
def PlaceRightWrongFalsely : Prop := placeRightRow.holds Tryd.pinned (OpenSpec.ofChange placeRightWrong)

/-- 'taciturnlaw20.PlaceAllocates': WHATEVER THE INPUT: true; the input reads as it did. -/
def placeAllocatesSpec : ChangeSpec := { name := "placeAllocates", fn := fun _ => fun
  | [d1, d2, d3] => { results := [.lit (.bool true)], args := [d1, d2, d3] }
  | _ => none }
def placeAllocatesRow : OpenClaim := { program := "ytendijaeihljeaadoor", sum := "c6e6b116d7c96abf8a226143fdcbb0dda428743ddbe87dbe40e95ef6aa0ee320", func := "taciturn/taciturnlaw20.PlaceAllocates", spec := "placeAllocates", unfollowed := true, recurses := true, named := ["taciturn/taciturnhand.bins"], apart := false, laid := [("taciturn/taciturnhand.bins", laid_taciturn_taciturnhand_bins)] }
def PlaceAllocatesSaid : Prop := placeAllocatesRow.holds Tryd.pinned (OpenSpec.ofChange placeAllocatesSpec)

/-- ITS FALSE NEIGHBOUR: 'it returns false'. Refute it at one input. -/
def placeAllocatesWrong : ChangeSpec := { name := "placeAllocates", fn := fun _ => fun
  | [d1, d2, d3] => { results := [.lit (.bool false)], args := [d1, d2, d3] }
  | _ => none }
def PlaceAllocatesWrongFalsely : Prop := placeAllocatesRow.holds Tryd.pinned (OpenSpec.ofChange placeAllocatesWrong)

/- THE SECOND FORM. 'bulk': how many values and letters a reading holds, each counted each time it is reached (what is shared counts as often as it is met; a slice's spare places count too). A statement '..UptoSaid' is the law's where the arguments, and the package variables that the reading takes, are together of bulk at most 1048576: NARROWER than '..Said'. Prove '..Said' where nothing that the law and all that it calls make is longer than what came in: it says more and counts as full. Else prove '..UptoSaid'. A law counts once. -/
mutual
def uptoBulk {H : Type} : DataW H → Nat
  | .lit (.string bytes) => bytes.length + 1
  | .lit _ => 1
  | .nil => 1
  | .ptr d => uptoBulk d + 1
  | .slice elems spare => uptoBulkAll elems + uptoBulkAll spare + 1
  | .agg parts => uptoBulkAll parts + 1
  | .iface _ d => uptoBulk d + 1
  | .map entries => uptoBulkEntries entries + 1
  | .held _ => 1
def uptoBulkAll {H : Type} : List (DataW H) → Nat
  | [] => 0
  | d :: r => uptoBulk d + uptoBulkAll r
def uptoBulkEntries {H : Type} : List (Lit × DataW H) → Nat
  | [] => 0
  | x :: r => uptoBulkEntry x + uptoBulkEntries r
def uptoBulkEntry {H : Type} : Lit × DataW H → Nat
  | (.string bytes, d) => bytes.length + uptoBulk d + 1
  | (_, d) => uptoBulk d + 1
 end
def uptoSmall : (H : Type) → List (DataW H) → Bool := fun _ ds => decide (uptoBulkAll ds ≤ 1048576)
def OpenSpec.upto (s : _root_.Go.ChangeSpec) : _root_.Go.OpenSpec := { _root_.Go.OpenSpec.ofChange s with cond := some uptoSmall }

/-- 'taciturnlaw19.LiveDead', WHERE WHAT IT READS IS OF BULK AT MOST 1048576: true; the input reads as it did. -/
def liveDeadUptoRow : OpenClaim := { program := "ytendijaeihljeaadoor", sum := "c6e6b116d7c96abf8a226143fdcbb0dda428743ddbe87dbe40e95ef6aa0ee320", func := "taciturn/taciturnlaw19.LiveDead", spec := "liveDead", unfollowed := true, recurses := true, named := ["taciturn/taciturnhand.bins"], apart := false, laid := [("taciturn/taciturnhand.bins", laid_taciturn_taciturnhand_bins)], narrowed := true }
def LiveDeadUptoSaid : Prop := liveDeadUptoRow.holds Tryd.pinned (OpenSpec.upto liveDeadSpec)

/-- 'taciturnlaw20.PlaceRight', WHERE WHAT IT READS IS OF BULK AT MOST 1048576: true; the input reads as it did. -/
def placeRightUptoRow : OpenClaim := { program := "ytendijaeihljeaadoor", sum := "c6e6b116d7c96abf8a226143fdcbb0dda428743ddbe87dbe40e95ef6aa0ee320", func := "taciturn/taciturnlaw20.PlaceRight", spec := "placeRight", unfollowed := true, recurses := true, named := ["taciturn/taciturnhand.bins"], apart := false, laid := [("taciturn/taciturnhand.bins", laid_taciturn_taciturnhand_bins)], narrowed := true }
def PlaceRightUptoSaid : Prop := placeRightUptoRow.holds Tryd.pinned (OpenSpec.upto placeRightSpec)

/-- 'taciturnlaw20.PlaceAllocates', WHERE WHAT IT READS IS OF BULK AT MOST 1048576: true; the input reads as it did. -/
def placeAllocatesUptoRow : OpenClaim := { program := "ytendijaeihljeaadoor", sum := "c6e6b116d7c96abf8a226143fdcbb0dda428743ddbe87dbe40e95ef6aa0ee320", func := "taciturn/taciturnlaw20.PlaceAllocates", spec := "placeAllocates", unfollowed := true, recurses := true, named := ["taciturn/taciturnhand.bins"], apart := false, laid := [("taciturn/taciturnhand.bins", laid_taciturn_taciturnhand_bins)], narrowed := true }
def PlaceAllocatesUptoSaid : Prop := placeAllocatesUptoRow.holds Tryd.pinned (OpenSpec.upto placeAllocatesSpec)

end Rows
end Go.Proofs.YtendijaeihljeaaDoor
