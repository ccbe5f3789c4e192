/-
  NARROWER THAN 'FOR EVERY INPUT', by the rows' own cells (each row's printed sentence says how): RoomFields: laid · RoomServes: laid.
  DERIVED. THE GIVEN ROWS OF THIS SEAT. 2 by the template 'for every input the law returns true; each argument reads behind the call as it read before'; 0 by the template 'total and deterministic' (their statements: YtgjmpnngheohbaaDoorTotals.lean).
  GIVEN WITH THE SEED: the statements are not yours to turn. If you find one false, say at which input.
  Laid BY PROGRAM, IN A SANDBOX (cutbox-rows.mjs): the forced cells as the released guide's own fill.sh prints them over the translation aa1b0f52b0e097fc… (all of the seat's roots in one cut). By AI agents, Wed Nov 11 2026. No macro, syntax, notation, axiom, sorry.
-/
import Derived.Test.YtgjmpnngheohbaaDoorChecked
import GoSem.Claim
import GoSem.ClaimJoined
import GoSem.ClaimMapViews
import Derived.JoinedTies
import Derived.KernelRfl
namespace Go.Proofs.YtgjmpnngheohbaaDoor
/- THE CELL 'sum', in the pinned program and in every row, IS THE sha256 OF THE DUMP (.gsa) THAT YtgjmpnngheohbaaDoorProg.lean LOADS. Nothing in Lean hashes anything: it is a label: what it is worth is what the hold of that sum in a sandbox is worth. -/
noncomputable def Tryd.pinned : Pinned := { name := "ytgjmpnngheohbaadoor", sum := "aa1b0f52b0e097fcfd2d27465ad3d395a48b878a52c2c89c5bebd07fb5291a45", checked := Tryd.checked }
namespace Rows
def none {H : Type} : Left H := { results := [], args := [] }

/- WHAT THE LISTED PACKAGE-LEVEL VARIABLES READ AS WHEN THE CALL BEGINS. Each datum BY PROGRAM (the guide's laid-datum.mjs) off the statement by which the dump's own 'gosem.cut.vars' lays the variable. In a bare row this is a premise. The card (YtgjmpnngheohbaaDoorCards.lean) ties it to the program's text. -/
def laid_taciturn_taciturnhand_bins {H : Type} : DataW H := .agg [.lit (.int .i64 6), .lit (.int .i64 7), .lit (.int .i64 8), .lit (.int .i64 9), .lit (.int .i64 10), .lit (.int .i64 11), .lit (.int .i64 12), .lit (.int .i64 13), .lit (.int .i64 14), .lit (.int .i64 19), .lit (.int .i64 20), .lit (.int .i64 21)]

/-- 'taciturnlaw12.RoomFields': WHATEVER THE INPUT: true; the input reads as it did. -/
def roomFieldsSpec : ChangeSpec := { name := "roomFields", fn := fun _ => fun
  | [d] => { results := [.lit (.bool true)], args := [d] }
  | _ => none }
def roomFieldsRow : OpenClaim := { program := "ytgjmpnngheohbaadoor", sum := "aa1b0f52b0e097fcfd2d27465ad3d395a48b878a52c2c89c5bebd07fb5291a45", func := "taciturn/taciturnlaw12.RoomFields", spec := "roomFields", recurses := true, named := ["taciturn/taciturnhand.bins"], apart := false, laid := [("taciturn/taciturnhand.bins", laid_taciturn_taciturnhand_bins)] }
def RoomFieldsSaid : Prop := roomFieldsRow.holds Tryd.pinned (OpenSpec.ofChange roomFieldsSpec)

/-- ITS FALSE NEIGHBOUR: 'it returns false'. Refute it at one input. -/
def roomFieldsWrong : ChangeSpec := { name := "roomFields", fn := fun _ => fun
  | [d] => { results := [.lit (.bool false)], args := [d] }
  | _ => none }
def RoomFieldsWrongFalsely : Prop := roomFieldsRow.holds Tryd.pinned (OpenSpec.ofChange roomFieldsWrong)

/-- 'taciturnlaw12.RoomServes': WHATEVER THE INPUT: true; the input reads as it did. -/
def roomServesSpec : ChangeSpec := { name := "roomServes", fn := fun _ => fun
  | [d1, d2] => { results := [.lit (.bool true)], args := [d1, d2] }
  | _ => none }
def roomServesRow : OpenClaim := { program := "ytgjmpnngheohbaadoor", sum := "aa1b0f52b0e097fcfd2d27465ad3d395a48b878a52c2c89c5bebd07fb5291a45", func := "taciturn/taciturnlaw12.RoomServes", spec := "roomServes", recurses := true, named := ["taciturn/taciturnhand.bins"], apart := false, laid := [("taciturn/taciturnhand.bins", laid_taciturn_taciturnhand_bins)] }
def RoomServesSaid : Prop := roomServesRow.holds Tryd.pinned (OpenSpec.ofChange roomServesSpec)

/-- ITS FALSE NEIGHBOUR: 'it returns false'. Refute it at one input. -/
def roomServesWrong : ChangeSpec := { name := "roomServes", fn := fun _ => fun
  | [d1, d2] => { results := [.lit (.bool false)], args := [d1, d2] }
  | _ => none }
def RoomServesWrongFalsely : Prop := roomServesRow.holds Tryd.pinned (OpenSpec.ofChange roomServesWrong)

/- THE SECOND FORM. 'bulk': how many values and letters a reading holds, each counted each time it is reached (what is shared counts as often as it is met; a slice's spare places count too). A statement '..UptoSaid' is the law's where the arguments, and the package variables that the reading takes, are together of bulk at most 1048576: NARROWER than '..Said'. Prove '..Said' where nothing that the law and all that it calls make is longer than what came in: it says more and counts as full. Else prove '..UptoSaid'. A law counts once. -/
mutual
def uptoBulk {H : Type} : DataW H → Nat
  | .lit (.string bytes) => bytes.length + 1
  | .lit _ => 1
  | .nil => 1
  | .ptr d => uptoBulk d + 1
  | .slice elems spare => uptoBulkAll elems + uptoBulkAll spare + 1
  | .agg parts => uptoBulkAll parts + 1
  | .iface _ d => uptoBulk d + 1
  | .map entries => uptoBulkEntries entries + 1
  | .held _ => 1
def uptoBulkAll {H : Type} : List (DataW H) → Nat
  | [] => 0
  | d :: r => uptoBulk d + uptoBulkAll r
def uptoBulkEntries {H : Type} : List (Lit × DataW H) → Nat
  | [] => 0
  | x :: r => uptoBulkEntry x + uptoBulkEntries r
def uptoBulkEntry {H : Type} : Lit × DataW H → Nat
  | (.string bytes, d) => bytes.length + uptoBulk d + 1
  | (_, d) => uptoBulk d + 1
 end
def uptoSmall : (H : Type) → List (DataW H) → Bool := fun _ ds => decide (uptoBulkAll ds ≤ 1048576)
def OpenSpec.upto (s : _root_.Go.ChangeSpec) : _root_.Go.OpenSpec := { _root_.Go.OpenSpec.ofChange s with cond := some uptoSmall }

/-- 'taciturnlaw12.RoomFields', WHERE WHAT IT READS IS OF BULK AT MOST 1048576: true; the input reads as it did. -/
def roomFieldsUptoRow : OpenClaim := { program := "ytgjmpnngheohbaadoor", sum := "aa1b0f52b0e097fcfd2d27465ad3d395a48b878a52c2c89c5bebd07fb5291a45", func := "taciturn/taciturnlaw12.RoomFields", spec := "roomFields", recurses := true, named := ["taciturn/taciturnhand.bins"], apart := false, laid := [("taciturn/taciturnhand.bins", laid_taciturn_taciturnhand_bins)], narrowed := true }
def RoomFieldsUptoSaid : Prop := roomFieldsUptoRow.holds Tryd.pinned (OpenSpec.upto roomFieldsSpec)

/-- 'taciturnlaw12.RoomServes', WHERE WHAT IT READS IS OF BULK AT MOST 1048576: true; the input reads as it did. -/
def roomServesUptoRow : OpenClaim := { program := "ytgjmpnngheohbaadoor", sum := "aa1b0f52b0e097fcfd2d27465ad3d395a48b878a52c2c89c5bebd07fb5291a45", func := "taciturn/taciturnlaw12.RoomServes", spec := "roomServes", recurses := true, named := ["taciturn/taciturnhand.bins"], apart := false, laid := [("taciturn/taciturnhand.bins", laid_taciturn_taciturnhand_bins)], narrowed := true }
def RoomServesUptoSaid : Prop := roomServesUptoRow.holds Tryd.pinned (OpenSpec.upto roomServesSpec)

end Rows
end Go.Proofs.YtgjmpnngheohbaaDoor
