/- The nodes of package ir as plain data; how values read as them. -/
import Derived.Test.YtendijaeihljeaaDoorInsts
import Derived.Test.YtendijaeihljeaaDoorLaws2
namespace Go.Proofs.YtendijaeihljeaaDoor
open Go.Vc

/-- A node. -/
inductive GNode where
  | const (dst n : Int)
  | move (dst src : Int)
  | bin (op dst a b : Int)
  | un (op dst a : Int)
  | choose (dst c a b : Int)
  | tick
  | goto (to : Int)
  | branch (cond to : Int)
  | getField (dst f : Int)
  | putField (f src : Int)
  | serve (op a b dst : Int) (args : List Int)
  | call (m dst : Int) (args : List Int)
  | callX (i dst : Int) (args : List Int)
  | ret (src : Int)

/-- The value of a node; 'sv' is the slice of its arguments, where it has one. -/
def GNode.val (sv : Value) : GNode → Value
  | .const d n => .iface 61 (.agg #[i64 d, i32 n])
  | .move d s => .iface 91 (.agg #[i64 d, i64 s])
  | .bin op d a b => .iface 68 (.agg #[i64 op, i64 d, i64 a, i64 b])
  | .un op d a => .iface 93 (.agg #[i64 op, i64 d, i64 a])
  | .choose d c a b => .iface 95 (.agg #[i64 d, i64 c, i64 a, i64 b])
  | .tick => .iface 50 (.agg #[])
  | .goto t => .iface 97 (.agg #[i64 t])
  | .branch c t => .iface 99 (.agg #[i64 c, i64 t])
  | .getField d f => .iface 108 (.agg #[i64 d, i64 f])
  | .putField f s => .iface 110 (.agg #[i64 f, i64 s])
  | .serve op a b d _ => .iface 112 (.agg #[i64 op, i64 a, i64 b, i64 d, sv])
  | .call m d _ => .iface 114 (.agg #[i64 m, i64 d, sv])
  | .callX i d _ => .iface 116 (.agg #[i64 i, i64 d, sv])
  | .ret s => .iface 54 (.agg #[i64 s])
def GNode.args : GNode → List Int
  | .serve _ _ _ _ l | .call _ _ l | .callX _ _ l => l
  | _ => []
def GNode.df : GNode → Int
  | .const d _ | .move d _ | .bin _ d _ _ | .un _ d _ | .choose d _ _ _ | .getField d _ | .serve _ _ _ d _ | .call _ d _ | .callX _ d _ => d
  | _ => -1
def GNode.us : GNode → List Int
  | .move _ s => [s]
  | .bin _ _ a b => [a, b]
  | .un _ _ a => [a]
  | .choose _ c a b => [c, a, b]
  | .branch c _ => [c]
  | .putField _ s => [s]
  | .serve _ _ _ _ l | .call _ _ l | .callX _ _ l => l
  | .ret s => if s = -1 then [] else [s]
  | _ => []
def GNode.nx (n : GNode) (k : Int) : List Int :=
  match n with
  | .goto t => [t]
  | .branch _ t => if t = k + 1 then [k + 1] else [k + 1, t]
  | .ret _ => []
  | _ => [k + 1]
def IntsAre (w : World) (v : Value) (l : List Int) : Prop := SliceIs w v 1 l.length (l.map i64)
def BoolsAre (w : World) (v : Value) (l : List Bool) : Prop := SliceIs w v 1 l.length (l.map .bool)
/-- A value is a node. -/
def NodeIs (w : World) (v : Value) (n : GNode) : Prop := ∃ sv, v = n.val sv ∧ IntsAre w sv n.args
theorem NodeIs.ext {w w' : World} {v : Value} {n : GNode} (h : NodeIs w v n) (hx : Ext w w') : NodeIs w' v n := by
  obtain ⟨sv, h1, h2⟩ := h
  exact ⟨sv, h1, h2.ext hx⟩

/-- A program of nodes. -/
structure GProg where
  params : Int
  regs : Int
  nodes : List GNode
/-- A list of nodes, as the cells of a slice. -/
def NodesAre (w : World) (v : Value) (l : List GNode) : Prop := ∃ vs, SliceIs w v 1 l.length vs ∧ ∀ (i : Nat) n, l[i]? = some n → ∃ u, vs[i]? = some u ∧ NodeIs w u n
theorem NodesAre.ext {w w' : World} {v : Value} {l : List GNode} (h : NodesAre w v l) (hx : Ext w w') : NodesAre w' v l := by
  obtain ⟨vs, h1, h2⟩ := h
  refine ⟨vs, h1.ext hx, fun i n hi => ?_⟩
  obtain ⟨u, h3, h4⟩ := h2 i n hi
  exact ⟨u, h3, h4.ext hx⟩
def ProgIs (w : World) (v : Value) (p : GProg) : Prop := ∃ ns, v = .agg #[i64 p.params, i64 p.regs, ns] ∧ NodesAre w ns p.nodes ∧ ∀ n ∈ p.nodes, n.args.length ≤ 4294967296
theorem ProgIs.ext {w w' : World} {v : Value} {p : GProg} (h : ProgIs w v p) (hx : Ext w w') : ProgIs w' v p := by
  obtain ⟨ns, h1, h2, h3⟩ := h
  exact ⟨ns, h1, h2.ext hx, h3⟩
theorem us_len (n : GNode) : n.us.length ≤ n.args.length + 3 := by
  cases n <;> simp [GNode.us, GNode.args]
  split <;> simp
theorem nx_len (n : GNode) (k : Int) : (n.nx k).length ≤ 2 := by
  cases n <;> simp [GNode.nx]
  split <;> simp
theorem IntsAre.ext {w w' : World} {v : Value} {l : List Int} (h : IntsAre w v l) (hx : Ext w w') : IntsAre w' v l := SliceIs.ext h hx
theorem BoolsAre.ext {w w' : World} {v : Value} {l : List Bool} (h : BoolsAre w v l) (hx : Ext w w') : BoolsAre w' v l := SliceIs.ext h hx
theorem getI {l : List Int} {j : Nat} {u : Int} (h : l[j]? = some u) : (l.map i64)[(j : Int).toNat]? = some (i64 u) := by simp [h]
theorem getB {l : List Bool} {j : Nat} {u : Bool} (h : l[j]? = some u) : (l.map Value.bool)[(j : Int).toNat]? = some (.bool u) := by simp [h]
theorem ex_get {α : Type} {l : List α} {j : Nat} (h : j < l.length) : ∃ u, l[j]? = some u := ⟨_, List.getElem?_eq_getElem h⟩
theorem i64_succ (j : Nat) : Value.int .i64 ((j : Int) + 1) = i64 ((j + 1 : Nat) : Int) := by simp
theorem intOf_i64 (n : Int) : RowKit.intOf (i64 n) = n := rfl

end Go.Proofs.YtendijaeihljeaaDoor
