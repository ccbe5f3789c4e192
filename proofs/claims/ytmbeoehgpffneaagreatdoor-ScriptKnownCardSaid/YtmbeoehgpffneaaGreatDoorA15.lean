/- A region whose order is drawn; code; calls. -/
import Derived.Test.YtmbeoehgpffneaaGreatDoorA14
import Derived.LoopN
namespace Go.Ab
noncomputable section
open Go.Vc (ev mapA callD putE vcOps okOps okOp okOperand mkAct Off)

/-! ### A region whose order is drawn: what is told of it ahead -/
def isE : Op → Bool
  | .store _ _ _ | .next _ _ => true
  | .convert s d _ => Nat.beq s d
  | .call ⟨.builtin .len, _, _⟩ | .call ⟨.builtin .min, _, _⟩ | .call ⟨.builtin .max, _, _⟩ => false
  | .call _ => true
  | _ => false
def bindsB (e : Edge) : Bool := match e.ground with | .textOnly _ => false | .gcOnly _ => false | _ => true
def predsOf (o : Oper) : List Nat := (o.after.toList.filter bindsB).map (·.on)
def nth (l : List Nat) (i : Nat) : Nat := match l[i]? with | some x => x | none => 0
def maxN (a b : Nat) : Nat := match Nat.ble a b with | true => b | false => a
/-- Of each operation: its number among those that act (0: it is none), its stage (how many of those must be ahead), the mask of all that must be ahead. -/
structure Inf where
  es : List Nat
  los : List Nat
  cls : List Nat
def lobe (I : Inf) (p : Nat) : Nat := match nth I.es p with | 0 => nth I.los p | e => e
def loOf (I : Inf) : List Nat → Nat
  | [] => 0
  | p :: ps => maxN (lobe I p) (loOf I ps)
def clOf (I : Inf) : List Nat → Nat
  | [] => 0
  | p :: ps => Nat.lor (Nat.lor (2 ^ p) (nth I.cls p)) (clOf I ps)
def allLt (i : Nat) : List Nat → Bool
  | [] => true
  | p :: ps => Nat.blt p i && allLt i ps
def infOf : List Oper → (i count : Nat) → Inf → Option Inf
  | [], _, _, I => some I
  | o :: os, i, count, I =>
    let ps := predsOf o
    let lo := loOf I ps
    let e := isE o.op
    match allLt i ps && (match e with | true => Nat.beq lo count | false => true) with
    | false => none
    | true => infOf os (i + 1) (match e with | true => count + 1 | false => count) ⟨I.es ++ [match e with | true => count + 1 | false => 0], I.los ++ [lo], I.cls ++ [clOf I ps]⟩
/-- What an operation looks at. -/
def looks (all : List Oper) (o : Oper) : List Nat := o.looksAt all.toArray
/-- Whom operation i reads of stands ahead of it, or not yet. -/
def rdOk (I : Inf) (i : Nat) (ts : List Nat) : List Oper → Nat → Bool
  | [], _ => true
  | o :: os, j => (match o.dst with
    | none => true
    | some d => match ts.any (Nat.beq d ·) with
      | false => true
      | true => match Nat.blt j i with
        | true => (nth I.cls i).testBit j
        | false => Nat.beq i j || (nth I.cls j).testBit i) && rdOk I i ts os (j + 1)
def rdAll (I : Inf) (all : List Oper) : List Oper → Nat → Bool
  | [], _ => true
  | o :: os, i => rdOk I i (looks all o) all 0 && rdAll I all os (i + 1)
def distinctB : List Oper → Bool
  | [] => true
  | o :: os => (match o.dst with | none => true | some d => os.all fun q => match q.dst with | none => true | some d' => notB (Nat.beq d d')) && distinctB os
def infOk (all : List Oper) : Option Inf :=
  match infOf all 0 0 ⟨[], [], []⟩ with
  | none => none
  | some I => match rdAll I all all 0 && distinctB all with | true => some I | false => none
/-- The indices of stage k. -/
def ofStage (I : Inf) (k : Nat) : List Nat := (List.range I.es.length).filter fun i => Nat.beq (nth I.es i) 0 && Nat.beq (nth I.los i) k
def ofNum (I : Inf) (q : Nat) : List Nat := (List.range I.es.length).filter fun i => Nat.beq (nth I.es i) q
def stagesFrom (I : Inf) : Nat → Nat → List Nat
  | 0, k => ofStage I k
  | f + 1, k => ofStage I k ++ (ofNum I (k + 1) ++ stagesFrom I f (k + 1))
def countE (I : Inf) : Nat := I.es.foldl maxN 0
def orderOf (I : Inf) : List Nat := stagesFrom I (countE I) 0
/-- The last stage at which operation i may still be open. -/
def hiFrom (I : Inf) (i m : Nat) : List Nat → Nat → Nat
  | [], _ => m
  | e :: es, j => match e with
    | 0 => hiFrom I i m es (j + 1)
    | e + 1 => match (nth I.cls j).testBit i with | true => minN e (hiFrom I i m es (j + 1)) | false => hiFrom I i m es (j + 1)
def hiOf (I : Inf) (i : Nat) : Nat := hiFrom I i (countE I) I.es 0

def veq : Nat → Value → Value → Bool
  | 0, _, _ => false
  | f + 1, a, b => match a with
    | .bool x => match b with | .bool y => (match x with | true => y | false => notB y) | _ => false
    | .int k x => match b with | .int k' y => kindEq k k' && eqI x y | _ => false
    | .string x => match b with | .string y => eqBs (strL x) (strL y) | _ => false
    | .pointer none => match b with | .pointer none => true | _ => false
    | .pointer (some ⟨x, o, none⟩) => match b with | .pointer (some ⟨y, p, none⟩) => Nat.beq x y && Nat.beq o p | _ => false
    | .slice none 0 0 => match b with | .slice none 0 0 => true | _ => false
    | .slice (some ⟨x, o, none⟩) n c => match b with | .slice (some ⟨y, p, none⟩) n' c' => Nat.beq x y && Nat.beq o p && Nat.beq n n' && Nat.beq c c' | _ => false
    | .nilFunc => match b with | .nilFunc => true | _ => false
    | .nilIface => match b with | .nilIface => true | _ => false
    | .iface t x => match b with | .iface u y => Nat.beq t u && veq f x y | _ => false
    | .agg ⟨x⟩ => match b with | .agg ⟨y⟩ => veqL (veq f) x y | _ => false
    | .func (.func x) ⟨[]⟩ ⟨c⟩ => match b with | .func (.func y) ⟨[]⟩ ⟨d⟩ => Nat.beq x y && veqL (veq f) c d | _ => false
    | _ => false
where
  veqL (r : Value → Value → Bool) : List Value → List Value → Bool
    | [], [] => true
    | a :: l, b :: m => r a b && veqL r l m
    | _, _ => false

structure Lg where
  i : Nat
  env : En
  s : St
  v : Value
  seen : Nat
  post : St
def restr : List Nat → En → En
  | [], _ => .e
  | t :: ts, env => match Tr.get (bits t) env with
    | some v => Tr.put (bits t) (some v) (restr ts env)
    | none => restr ts env
/-- Operation i may come next. -/
def okAt (I : Inf) (i mask cnt : Nat) : Bool :=
  Nat.beq (Nat.land (nth I.cls i) mask) (nth I.cls i) && notB (mask.testBit i) && (match nth I.es i with | 0 => Nat.beq (nth I.los i) cnt | e => Nat.beq e (cnt + 1))
def cntAt (I : Inf) (i cnt : Nat) : Nat := match nth I.es i with | 0 => cnt | e => e
section
variable (P : Program) (G : Nat → Bool) (call : FuncId → List Value → St → Option (Value × St))
def evSeq (I : Inf) (all : List Oper) : List Nat → Nat → Nat → En → St → Option (List Lg × En × St)
  | [], mask, _, env, s => match Nat.beq (mask + 1) (2 ^ all.length) with | true => some ([], env, s) | false => none
  | i :: is, mask, cnt, env, s => match all[i]? with
    | none => none
    | some o => match okAt I i mask cnt with
      | false => none
      | true => match evG P G call all (restr (looks all o) env) o s with
        | none => none
        | some (v, s') => match Nat.ble s.n s'.n with
          | false => none
          | true => match evSeq I all is (Nat.lor mask (2 ^ i)) (cntAt I i cnt) (putEn env o.dst v) s' with
            | some (l, r) => some (⟨i, restr (looks all o) env, s, v, mask, s'⟩ :: l, r)
            | none => none
def stgsOf (I : Inf) : List Lg → St → List St
  | [], s => [s]
  | x :: l, s => match nth I.es x.i with | 0 => stgsOf I l s | _ => x.s :: stgsOf I l s
def readsAt (env : En) (op : Op) (v : Value) : List St → Bool
  | [] => true
  | s :: l => (match evR P G env op s with | some u => veq 6 u v | none => false) && readsAt env op v l
def checkL (I : Inf) (all : List Oper) (stgs : List St) : List Lg → Bool
  | [] => true
  | x :: l => (match nth I.es x.i with
    | 0 => match all[x.i]? with
      | none => false
      | some o => match wantV all x.env o.guard with
        | some true => match evP P G x.env o.op with
          | some _ => true
          | none => match evR P G x.env o.op x.s with
            | some v => readsAt P G x.env o.op v ((stgs.drop (nth I.los x.i)).take (hiOf I x.i + 1 - nth I.los x.i))
            | none => true
        | _ => true
    | _ => true) && checkL I all stgs l
def evDraw (all : List Oper) (env : En) (s : St) : Option (En × St) :=
  match infOk all with
  | none => none
  | some I => match evSeq P G call I all (orderOf I) 0 0 env s with
    | none => none
    | some (l, env', s') => match checkL P G I all (stgsOf I l s') l with
      | true => some (env', s')
      | false => none

/-! ### Code -/
inductive Ex where
  | normal
  | exit (id : Nat)
  | ret
def evLoop (body : En → St → Option (Ex × En × St)) : Nat → En → St → Option (Ex × En × St)
  | 0, _, _ => none
  | n + 1, env, s => match body env s with
    | some (.normal, env', s') => evLoop body n env' s'
    | r => r
def evC (fuel : Nat) : Code → En → St → Option (Ex × En × St)
  | .skip, env, s => some (.normal, env, s)
  | .label _, env, s => some (.normal, env, s)
  | .exit id, env, s => some (.exit id, env, s)
  | .ret, env, s => some (.ret, env, s)
  | .region _ ops draw, env, s => match draw with
    | false => match evOps P G call ops.toList ops.toList env s with | some (env', s') => some (.normal, env', s') | none => none
    | true => match evDraw P G call ops.toList env s with | some (env', s') => some (.normal, env', s') | none => none
  | .seq x y, env, s => match evC fuel x env s with
    | some (.normal, env', s') => evC fuel y env' s'
    | r => r
  | .cond c x y, env, s => match evX G env c with
    | some (.bool true) => evC fuel x env s
    | some (.bool false) => evC fuel y env s
    | _ => none
  | .block id x, env, s => match evC fuel x env s with
    | some (.exit j, env', s') => (match Nat.beq j id with | true => some (.normal, env', s') | false => some (.exit j, env', s'))
    | r => r
  | .loop x, env, s => evLoop (evC fuel x) fuel env s
  | _, _, _ => none
def okC (n : Nat) : Code → Bool
  | .region _ ops _ => okOps n ops.toList
  | .seq x y => okC n x && okC n y
  | .cond c x y => okOperand n c && okC n x && okC n y
  | .block _ x => okC n x
  | .loop x => okC n x
  | _ => true
def envOf : Nat → List Value → En → En
  | _, [], env => env
  | i, v :: l, env => envOf (i + 1) l (Tr.put (bits i) (some v) env)
def resV (env : En) (s : St) : List ResultVar → Option (List Value)
  | [] => some []
  | .tmp t :: l => match Tr.get (bits t) env with
    | some v => match resV env s l with | some r => some (v :: r) | none => none
    | none => none
  | .cell a t :: l => match Tr.get (bits a) env with
    | some x => match loadV P t x s with
      | some v => match resV env s l with | some r => some (v :: r) | none => none
      | none => none
    | none => none
def oneV : List Value → Value
  | [v] => v
  | l => .tuple ⟨l⟩
end
/-- A call, over those that it makes. -/
def stepE (P : Program) (G : Nat → Bool) (fuel : Nat) (call : FuncId → List Value → St → Option (Value × St)) (f : FuncId) (args : List Value) (s : St) : Option (Value × St) :=
  match P.funcs[f]? with
  | none => none
  | some fn => match fn.body with
    | none => none
    | some c => match okC fn.ntmps c && Nat.ble args.length fn.ntmps && Go.Vc.okRes fn.ntmps fn.results.toList && notB (fn.name == "runtime.NumGoroutine") with
      | false => none
      | true => match evC P G call fuel c (envOf 0 args .e) s with
        | some (.exit _, _, _) => none
        | some (_, env, s') => match resV P env s' fn.results.toList with
          | some vs => some (oneV vs, s')
          | none => none
        | none => none
def callE (P : Program) (G : Nat → Bool) (fuel : Nat) : Nat → FuncId → List Value → St → Option (Value × St)
  | 0, _, _, _ => none
  | n + 1, f, args, s => stepE P G fuel (callE P G fuel n) f args s
end
end Go.Ab
