/-
  No cell of these rows narrows 'for every input' (looked for: loops, veiled, ifaces, maps, wideKeys, modest, calm, conditions, laid).
  DERIVED. THE GIVEN ROWS OF THIS SEAT. 3 by the template 'for every input the law returns true; each argument reads behind the call as it read before'; 0 by the template 'total and deterministic' (their statements: YtgjmpnngheohbaaTotals.lean).
  GIVEN WITH THE SEED: the statements are not yours to turn. If you find one false, say at which input.
  Laid BY PROGRAM, IN A SANDBOX (cutbox-rows.mjs): the forced cells as the released guide's own fill.sh prints them over the translation e9a70419f167a438… (all of the seat's roots in one cut). By AI agents, Wed Nov 11 2026. No macro, syntax, notation, axiom, sorry.
-/
import Derived.Test.YtgjmpnngheohbaaChecked
import GoSem.Claim
import GoSem.ClaimJoined
import GoSem.ClaimMapViews
import Derived.JoinedTies
import Derived.KernelRfl
namespace Go.Proofs.Ytgjmpnngheohbaa
/- THE CELL 'sum', in the pinned program and in every row, IS THE sha256 OF THE DUMP (.gsa) THAT YtgjmpnngheohbaaProg.lean LOADS. Nothing in Lean hashes anything: it is a label: what it is worth is what the hold of that sum in a sandbox is worth. -/
noncomputable def Try.pinned : Pinned := { name := "ytgjmpnngheohbaa", sum := "e9a70419f167a4389016b0dad2f32351c23052e0bd7b6ee72200e5440c244a02", checked := Try.checked }
namespace Rows
def none {H : Type} : Left H := { results := [], args := [] }

/-- 'taciturnlaw12.RoomCopies': WHATEVER THE INPUT: true; the input reads as it did. -/
def roomCopiesSpec : ChangeSpec := { name := "roomCopies", fn := fun _ => fun
  | [d1, d2, d3, d4] => { results := [.lit (.bool true)], args := [d1, d2, d3, d4] }
  | _ => none }
def roomCopiesRow : OpenClaim := { program := "ytgjmpnngheohbaa", sum := "e9a70419f167a4389016b0dad2f32351c23052e0bd7b6ee72200e5440c244a02", func := "taciturn/taciturnlaw12.RoomCopies", spec := "roomCopies", apart := false }
def RoomCopiesSaid : Prop := roomCopiesRow.holds Try.pinned (OpenSpec.ofChange roomCopiesSpec)

/-- ITS FALSE NEIGHBOUR: 'it returns false'. Refute it at one input. -/
def roomCopiesWrong : ChangeSpec := { name := "roomCopies", fn := fun _ => fun
  | [d1, d2, d3, d4] => { results := [.lit (.bool false)], args := [d1, d2, d3, d4] }
  | _ => none }
def RoomCopiesWrongFalsely : Prop := roomCopiesRow.holds Try.pinned (OpenSpec.ofChange roomCopiesWrong)

/-- 'taciturnlaw12.RoomSends': WHATEVER THE INPUT: true; the input reads as it did. -/
def roomSendsSpec : ChangeSpec := { name := "roomSends", fn := fun _ => fun
  | [d1, d2, d3] => { results := [.lit (.bool true)], args := [d1, d2, d3] }
  | _ => none }
def roomSendsRow : OpenClaim := { program := "ytgjmpnngheohbaa", sum := "e9a70419f167a4389016b0dad2f32351c23052e0bd7b6ee72200e5440c244a02", func := "taciturn/taciturnlaw12.RoomSends", spec := "roomSends", apart := false }
def RoomSendsSaid : Prop := roomSendsRow.holds Try.pinned (OpenSpec.ofChange roomSendsSpec)

/-- ITS FALSE NEIGHBOUR: 'it returns false'. Refute it at one input. -/
def roomSendsWrong : ChangeSpec := { name := "roomSends", fn := fun _ => fun
  | [d1, d2, d3] => { results := [.lit (.bool false)], args := [d1, d2, d3] }
  | _ => none }
def RoomSendsWrongFalsely : Prop := roomSendsRow.holds Try.pinned (OpenSpec.ofChange roomSendsWrong)

/-- 'taciturnlaw12.RoomWalls': WHATEVER THE INPUT: true; the input reads as it did. -/
def roomWallsSpec : ChangeSpec := { name := "roomWalls", fn := fun _ => fun
  | [d] => { results := [.lit (.bool true)], args := [d] }
  | _ => none }
def roomWallsRow : OpenClaim := { program := "ytgjmpnngheohbaa", sum := "e9a70419f167a4389016b0dad2f32351c23052e0bd7b6ee72200e5440c244a02", func := "taciturn/taciturnlaw12.RoomWalls", spec := "roomWalls", apart := false }
def RoomWallsSaid : Prop := roomWallsRow.holds Try.pinned (OpenSpec.ofChange roomWallsSpec)

/-- ITS FALSE NEIGHBOUR: 'it returns false'. Refute it at one input. -/
def roomWallsWrong : ChangeSpec := { name := "roomWalls", fn := fun _ => fun
  | [d] => { results := [.lit (.bool false)], args := [d] }
  | _ => none }
def RoomWallsWrongFalsely : Prop := roomWallsRow.holds Try.pinned (OpenSpec.ofChange roomWallsWrong)

/- THE SECOND FORM. 'bulk': how many values and letters a reading holds, each counted each time it is reached (what is shared counts as often as it is met; a slice's spare places count too). A statement '..UptoSaid' is the law's where the arguments, and the package variables that the reading takes, are together of bulk at most 1048576: NARROWER than '..Said'. Prove '..Said' where nothing that the law and all that it calls make is longer than what came in: it says more and counts as full. Else prove '..UptoSaid'. A law counts once. -/
mutual
def uptoBulk {H : Type} : DataW H → Nat
  | .lit (.string bytes) => bytes.length + 1
  | .lit _ => 1
  | .nil => 1
  | .ptr d => uptoBulk d + 1
  | .slice elems spare => uptoBulkAll elems + uptoBulkAll spare + 1
  | .agg parts => uptoBulkAll parts + 1
  | .iface _ d => uptoBulk d + 1
  | .map entries => uptoBulkEntries entries + 1
  | .held _ => 1
def uptoBulkAll {H : Type} : List (DataW H) → Nat
  | [] => 0
  | d :: r => uptoBulk d + uptoBulkAll r
def uptoBulkEntries {H : Type} : List (Lit × DataW H) → Nat
  | [] => 0
  | x :: r => uptoBulkEntry x + uptoBulkEntries r
def uptoBulkEntry {H : Type} : Lit × DataW H → Nat
  | (.string bytes, d) => bytes.length + uptoBulk d + 1
  | (_, d) => uptoBulk d + 1
 end
def uptoSmall : (H : Type) → List (DataW H) → Bool := fun _ ds => decide (uptoBulkAll ds ≤ 1048576)
def OpenSpec.upto (s : _root_.Go.ChangeSpec) : _root_.Go.OpenSpec := { _root_.Go.OpenSpec.ofChange s with cond := some uptoSmall }

/-- 'taciturnlaw12.RoomCopies', WHERE WHAT IT READS IS OF BULK AT MOST 1048576: true; the input reads as it did. -/
def roomCopiesUptoRow : OpenClaim := { program := "ytgjmpnngheohbaa", sum := "e9a70419f167a4389016b0dad2f32351c23052e0bd7b6ee72200e5440c244a02", func := "taciturn/taciturnlaw12.RoomCopies", spec := "roomCopies", apart := false, narrowed := true }
def RoomCopiesUptoSaid : Prop := roomCopiesUptoRow.holds Try.pinned (OpenSpec.upto roomCopiesSpec)

/-- 'taciturnlaw12.RoomSends', WHERE WHAT IT READS IS OF BULK AT MOST 1048576: true; the input reads as it did. -/
def roomSendsUptoRow : OpenClaim := { program := "ytgjmpnngheohbaa", sum := "e9a70419f167a4389016b0dad2f32351c23052e0bd7b6ee72200e5440c244a02", func := "taciturn/taciturnlaw12.RoomSends", spec := "roomSends", apart := false, narrowed := true }
def RoomSendsUptoSaid : Prop := roomSendsUptoRow.holds Try.pinned (OpenSpec.upto roomSendsSpec)

/-- 'taciturnlaw12.RoomWalls', WHERE WHAT IT READS IS OF BULK AT MOST 1048576: true; the input reads as it did. -/
def roomWallsUptoRow : OpenClaim := { program := "ytgjmpnngheohbaa", sum := "e9a70419f167a4389016b0dad2f32351c23052e0bd7b6ee72200e5440c244a02", func := "taciturn/taciturnlaw12.RoomWalls", spec := "roomWalls", apart := false, narrowed := true }
def RoomWallsUptoSaid : Prop := roomWallsUptoRow.holds Try.pinned (OpenSpec.upto roomWallsSpec)

end Rows
end Go.Proofs.Ytgjmpnngheohbaa
