/- The laws of single operations in the calculus of verification conditions, over any program; readings of slices; what a call leaves as it was. -/
import Derived.Test.YtgkkecladbmjkaaGreatDoorJa
import Derived.OwnWalk
import Derived.Below
import Derived.ArgAppend
import Derived.Test.YtgkkecladbmjkaaGreatDoorProg
import Derived.KernelRfl
namespace Go.Vc
abbrev i64 (n:Int):Z:=.int .i64 n
abbrev i32 (n:Int):Z:=.int .i32 n
abbrev vb (b:Bool):Z:=.bool b
abbrev bF:Z:=.slice none 0 0
abbrev gB (w w':O) (r:Option Nat):Prop:=w.grownBy w' r
section
variable {P:Program} {w:O} {K:Z->O->Prop}
theorem V.iff {s:Sem Z} {v:Z} {w':O} (h:s.run P w=.ok v w'):V P s w K↔K v w':=
 ⟨λ⟨_,_,h',hk⟩=>by rw [h] at h';cases h';exact hk,λhk=>⟨v,w',h,hk⟩⟩
theorem U.iff {s:Sem Unit} {w':O} (h:s.run P w=.ok () w'):U P s w K↔K undef w':=
 ⟨λ⟨_,h',hk⟩=>by rw [h] at h';cases h';exact hk,λhk=>⟨w',h,hk⟩⟩
theorem V.ok {s:Sem Z} {v:Z} {w':O} (h:s.run P w=.ok v w') (hk:K v w'):V P s w K:=⟨v,w',h,hk⟩
theorem U.ok {s:Sem Unit} {w':O} (h:s.run P w=.ok () w') (hk:K undef w'):U P s w K:=⟨w',h,hk⟩
theorem aD.mono {f:FuncId} {args:Array Z} {R:Z->O->Prop} (h:aD P f args w R) (hk:∀ v w',R v w'->K v w'):aD P f args w K:=
 ⟨⟨h.ex.1,Calls.mono h.ex.2 λ_ _ ⟨v,he,hr⟩=>⟨v,he,hk v _ hr⟩⟩⟩
theorem aD.of_calls {f:FuncId} {fn:Func} {c:Code} {args:Array Z} (hf:P.funcs[f]?=some fn) (hname:(fn.name == "runtime.NumGoroutine")=false) (hb:fn.body=some c)
  (h:Calls P f args w λe w'=>∃ v,e=.returned v/\K v w'):aD P f args w K:=by
 refine ⟨⟨λargs w=>?_,h⟩⟩;have hname':¬ fn.name = "runtime.NumGoroutine" := by simpa using hname
 simp [callFunc,program,Sem.run,hf,hname',hb]
theorem aQi {P:Program} {f:FuncId} {fn:Func} {args:List Z} {w:O} {R:Z->O->Prop} {D:Prop} (hm:P.follows .mixedOrders=true) (ann:bY) (hf:P.funcs[f]?=some fn)
  (hb:(!(fn.name == "runtime.NumGoroutine")&&fn.body.isSome&&(ok fn.ntmps ann (fn.body.getD .skip)&&BA fn.ntmps fn.results.toList&&Nat.ble args.length fn.ntmps))=true)
  (hD:D=vc P ann (fn.body.getD .skip) (aNz P fn.results.toList R) (tD args) w) (h:D):aD P f args.toArray w R:=by
 simp only [Bool.and_eq_true,Bool.not_eq_true'] at hb;obtain ⟨⟨h1,h2⟩,h3,h4⟩:=hb
 have hbody:fn.body=some (fn.body.getD .skip):=by
  cases e:fn.body with
  | none=>rw [e] at h2;cases h2
  | some c=>rfl
 refine aD.of_calls hf h1 hbody (GS ann hm hf hbody (by simp only [Bool.and_eq_true];exact ⟨h3,h4⟩) (hD▸h))
theorem aO.mk {b:Bool} {x y:Prop} (h1:b=true->x) (h2:b=false->y):aO (.bool b) x y:=⟨b,rfl,h1,h2⟩
theorem aE {x y:Prop}:aO (.bool true) x y↔x:=⟨λ⟨b,h,h1,_⟩=>by cases h;exact h1 rfl,λh=>⟨true,rfl,λ_=>h,λh=>by cases h⟩⟩
theorem aA {x y:Prop}:aO (.bool false) x y↔y:=⟨λ⟨b,h,_,h2⟩=>by cases h;exact h2 rfl,λh=>⟨false,rfl,(λh=>by cases h),λ_=>h⟩⟩
theorem aL {p:Prop} [Decidable p] {x y:Prop} (h1:p->x) (h2:¬ p->y):aO (.bool (decide p)) x y:=
 ⟨_,rfl,λh=>h1 (of_decide_eq_true h),λh=>h2 (of_decide_eq_false h)⟩
theorem WJ {b:Bool} {x y:Z} {L:Z->Prop} (h:L (if b then x else y)):aN (.bool b) x y L:=⟨b,rfl,h⟩
theorem aH {b:Bool} {x y:Z} {L:Z->Prop}:aN (.bool b) x y L↔L (if b then x else y):=⟨λ⟨_,h,hk⟩=>by cases h;exact hk,WJ⟩
theorem DG {b want:Bool} {step:(Z->O->Prop)->Prop}:gd (.bool b) want step w K↔if b=want then step K else K undef w:=by
 constructor
 ·rintro ⟨h1,h2⟩;split
  ·rename_i hb;exact h1 (by rw [hb])
  ·rename_i hb;exact h2 (by simpa using hb)
 ·intro h;by_cases hb:b=want
  ·rw [if_pos hb] at h;exact ⟨λ_=>h,λh'=>absurd (by rw [hb]) h'⟩
  ·rw [if_neg hb] at h;exact ⟨λh'=>absurd (by simpa using h') hb,λ_=>h⟩
theorem wJ {b want:Bool} {step:(Z->Prop)->Prop} {L:Z->Prop}:GN (.bool b) want step L↔if b=want then step L else L undef:=by
 constructor
 ·rintro ⟨h1,h2⟩;split
  ·rename_i hb;exact h1 (by rw [hb])
  ·rename_i hb;exact h2 (by simpa using hb)
 ·intro h;by_cases hb:b=want
  ·rw [if_pos hb] at h;exact ⟨λ_=>h,λh'=>absurd (by rw [hb]) h'⟩
  ·rw [if_neg hb] at h;exact ⟨λh'=>absurd (by simpa using h') hb,λ_=>h⟩
theorem XS {want:Bool} {step:(Z->O->Prop)->Prop}:gd undef want step w K↔K undef w:=
 ⟨λ⟨_,h2⟩=>h2 (by simp [undef]),λh=>⟨λh'=>by simp [undef] at h',λ_=>h⟩⟩
theorem TM {want:Bool} {step:(Z->Prop)->Prop} {L:Z->Prop}:GN undef want step L↔L undef:=
 ⟨λ⟨_,h2⟩=>h2 (by simp [undef]),λh=>⟨λh'=>by simp [undef] at h',λ_=>h⟩⟩
theorem DF {step:(Z->O->Prop)->Prop}:gd (.bool true) true step w K↔step K:=by rw [DG];simp
theorem fA {step:(Z->O->Prop)->Prop}:gd (.bool false) false step w K↔step K:=by rw [DG];simp
theorem jQ {step:(Z->O->Prop)->Prop}:gd (.bool true) false step w K↔K undef w:=by rw [DG];simp
theorem aMy {step:(Z->O->Prop)->Prop}:gd (.bool false) true step w K↔K undef w:=by rw [DG];simp
theorem XT {step:(Z->Prop)->Prop} {L:Z->Prop}:GN (.bool true) true step L↔step L:=by rw [wJ];simp
theorem jW {step:(Z->Prop)->Prop} {L:Z->Prop}:GN (.bool false) false step L↔step L:=by rw [wJ];simp
theorem vC {step:(Z->Prop)->Prop} {L:Z->Prop}:GN (.bool true) false step L↔L undef:=by rw [wJ];simp
theorem LX {step:(Z->Prop)->Prop} {L:Z->Prop}:GN (.bool false) true step L↔L undef:=by rw [wJ];simp
theorem aI.mk' {body:(O->Prop)->O->Prop} (S:O->Prop) (hS:S w.drew) (h:body S w.drew):aI w body:=⟨S,hS,h⟩
theorem aB.ok {S:O->Prop} {s:Sem Z} {v:Z} {L:Z->Prop} (h:∀ w,S w->s.run P w=.ok v w) (hk:L v):aB P S s L:=⟨v,h,hk⟩
end
theorem nS {P:Program} {w:O} {k:IntKind} {t:TypeId} {a b:Int}:(binOp .lss t (.int k a) (.int k b)).run P w=.ok (.bool (decide (a < b))) w:=by simp [binOp,Op.intCmp]
theorem aV {P:Program} {w:O} {K:Z->O->Prop} {k:IntKind} {t:TypeId} {a b:Int}:V P (binOp .lss t (.int k a) (.int k b)) w K↔K (.bool (decide (a < b))) w:=V.iff (by exact nS )
theorem aUk {P:Program} {w:O} {k:IntKind} {t:TypeId} {a b:Int}:(binOp .leq t (.int k a) (.int k b)).run P w=.ok (.bool (decide (a<=b))) w:=by simp [binOp,Op.intCmp]
theorem PN {P:Program} {w:O} {K:Z->O->Prop} {k:IntKind} {t:TypeId} {a b:Int}:V P (binOp .leq t (.int k a) (.int k b)) w K↔K (.bool (decide (a<=b))) w:=V.iff (by exact aUk )
theorem nV {P:Program} {w:O} {k:IntKind} {t:TypeId} {a b:Int}:(binOp .gtr t (.int k a) (.int k b)).run P w=.ok (.bool (decide (a > b))) w:=by simp [binOp,Op.intCmp]
theorem dI {P:Program} {w:O} {K:Z->O->Prop} {k:IntKind} {t:TypeId} {a b:Int}:V P (binOp .gtr t (.int k a) (.int k b)) w K↔K (.bool (decide (a > b))) w:=V.iff (by exact nV )
theorem xI {P:Program} {w:O} {k:IntKind} {t:TypeId} {a b:Int}:(binOp .geq t (.int k a) (.int k b)).run P w=.ok (.bool (decide (a>=b))) w:=by simp [binOp,Op.intCmp]
theorem lT {P:Program} {w:O} {K:Z->O->Prop} {k:IntKind} {t:TypeId} {a b:Int}:V P (binOp .geq t (.int k a) (.int k b)) w K↔K (.bool (decide (a>=b))) w:=V.iff (by exact xI )
theorem lQ {P:Program} {w:O} {k:IntKind} {t:TypeId} {a b:Int}:(binOp .add t (.int k a) (.int k b)).run P w=.ok (.int k (k.wrap (a+b))) w:=by simp [binOp,Op.intArith]
theorem bQ {P:Program} {w:O} {K:Z->O->Prop} {k:IntKind} {t:TypeId} {a b:Int}:V P (binOp .add t (.int k a) (.int k b)) w K↔K (.int k (k.wrap (a+b))) w:=V.iff (by exact lQ )
theorem nR {P:Program} {w:O} {k:IntKind} {t:TypeId} {a b:Int}:(binOp .sub t (.int k a) (.int k b)).run P w=.ok (.int k (k.wrap (a - b))) w:=by simp [binOp,Op.intArith]
theorem jE {P:Program} {w:O} {K:Z->O->Prop} {k:IntKind} {t:TypeId} {a b:Int}:V P (binOp .sub t (.int k a) (.int k b)) w K↔K (.int k (k.wrap (a - b))) w:=V.iff (by exact nR )
theorem VX {P:Program} {w:O} {k:IntKind} {t:TypeId} {a b:Int}:(binOp .mul t (.int k a) (.int k b)).run P w=.ok (.int k (k.wrap (a*b))) w:=by simp [binOp,Op.intArith]
theorem PL {P:Program} {w:O} {K:Z->O->Prop} {k:IntKind} {t:TypeId} {a b:Int}:V P (binOp .mul t (.int k a) (.int k b)) w K↔K (.int k (k.wrap (a*b))) w:=V.iff (by exact VX )
theorem FF {P:Program} {w:O} {k:IntKind} {t:TypeId} {a b:Int} (h:b≠0):(binOp .quo t (.int k a) (.int k b)).run P w=.ok (.int k (k.wrap (a.tdiv b))) w:=by simp [binOp,Op.intDiv,h]
theorem CD {P:Program} {w:O} {K:Z->O->Prop} {k:IntKind} {t:TypeId} {a b:Int} (h:b≠0):V P (binOp .quo t (.int k a) (.int k b)) w K↔K (.int k (k.wrap (a.tdiv b))) w:=V.iff (by exact FF h)
theorem aUj {P:Program} {w:O} {k:IntKind} {t:TypeId} {a b:Int} (h:b≠0):(binOp .rem t (.int k a) (.int k b)).run P w=.ok (.int k (a.tmod b)) w:=by simp [binOp,Op.intDiv,h]
theorem aOn {P:Program} {w:O} {k:IntKind} {t:TypeId} {x y:Operand} {a b:Int}:(do eqGuard .eql t x y (.int k a) (.int k b);binOp .eql t (.int k a) (.int k b)).run P w=.ok (.bool (decide (a=b))) w:=by simp [eqGuard,binOp,Op.intCmp];rfl
theorem aF {P:Program} {w:O} {K:Z->O->Prop} {k:IntKind} {t:TypeId} {x y:Operand} {a b:Int}:V P (do eqGuard .eql t x y (.int k a) (.int k b);binOp .eql t (.int k a) (.int k b)) w K↔K (.bool (decide (a=b))) w:=V.iff (by exact aOn )
theorem oS {P:Program} {w:O} {k:IntKind} {t:TypeId} {x y:Operand} {a b:Int}:(do eqGuard .neq t x y (.int k a) (.int k b);binOp .neq t (.int k a) (.int k b)).run P w=.ok (.bool (decide (a≠b))) w:=by simp [eqGuard,binOp,Op.intCmp,bne];rfl
theorem aX {P:Program} {w:O} {K:Z->O->Prop} {k:IntKind} {t:TypeId} {x y:Operand} {a b:Int}:V P (do eqGuard .neq t x y (.int k a) (.int k b);binOp .neq t (.int k a) (.int k b)) w K↔K (.bool (decide (a≠b))) w:=V.iff (by exact oS )
theorem VS {P:Program} {w:O} {b:Bool}:(Op.unary .not (.bool b)).run P w=.ok (.bool (!b)) w:=by simp [Op.unary]
theorem eU {P:Program} {w:O} {K:Z->O->Prop} {b:Bool}:V P (Op.unary .not (.bool b)) w K↔K (.bool (!b)) w:=V.iff (by exact VS )
theorem VW {P:Program} {w:O} {k:IntKind} {a:Int}:(Op.unary .neg (.int k a)).run P w=.ok (.int k (k.wrap (0 - a))) w:=by simp [Op.unary,Op.intArith]
theorem fW {P:Program} {w:O} {a b:Z}:(Instr.extract (.tuple #[a,b]) 0).run P w=.ok a w:=by simp [Instr.extract]
theorem cD {P:Program} {w:O} {K:Z->O->Prop} {a b:Z}:V P (Instr.extract (.tuple #[a,b]) 0) w K↔K a w:=V.iff (by exact fW )
theorem fV {P:Program} {w:O} {a b:Z}:(Instr.extract (.tuple #[a,b]) 1).run P w=.ok b w:=by simp [Instr.extract]
theorem cC {P:Program} {w:O} {K:Z->O->Prop} {a b:Z}:V P (Instr.extract (.tuple #[a,b]) 1) w K↔K b w:=V.iff (by exact fV )
theorem iW {n:Int} (h1:-9223372036854775808<=n) (h2:n<=9223372036854775807):IntKind.i64.wrap n=n:=by
 simp only [IntKind.wrap_i64];omega
theorem aY {n:Int} (h:-9223372036854775808<=n/\n<=9223372036854775807):IntKind.i64.wrap n=n:=iW h.1 h.2
def cT (P:Program) (t:TypeId) (z:Z) (n bytes:Nat):Prop:=(P.info? t).map (λi=>(i.zero,i.size,i.bytes))=some (some z,n,bytes)
section
variable {P:Program} {w:O} {K:Z->O->Prop}
theorem tO {t:TypeId} {z:Z} {n b:Nat} (h:cT P t z n b):(zeroValue t).run P w=.ok z w:=by
 obtain ⟨i,hi,hz,_⟩:=info_parts h;simp [zeroValue,typeInfo,hi,hz]
theorem dM {t:TypeId} {z:Z} {n b:Nat} (h:cT P t z n b):(sizeOf t).run P w=.ok n w:=by
 obtain ⟨i,hi,_,hn,_⟩:=info_parts h;simp [sizeOf,typeInfo,hi,hn]
theorem lD {s e ty:TypeId} (hs:P.underlying s=some (.slice e)) {a:Option Addr} {n c:Nat}:(Builtin.len_ #[s] ty #[.slice a n c]).run P w=.ok (.int .i64 n) w:=by
 simp [Builtin.len_,run_underlying hs,goInt]
def aUt:TypeDesc->Bool
 | .interface _=>false
 | _=>true
theorem NY {t:TypeId} {z:Z} {n b:Nat} (hz:cT P t z n b):(Instr.alloc t true (.tuple #[])).run P w=.ok (.pointer (some ⟨w.heap.size,0,none⟩)) (w.alloc (.cells z.cells t)):=by
 simp [Instr.alloc,tO hz,newVar,newRow,newObj,Sem.run]
theorem aMl {t:TypeId} {v:Z}:(Instr.box t v).run P w=.ok (.pointer (some ⟨w.heap.size,0,none⟩)) (w.alloc (.cells v.cells t)):=by
 simp [Instr.box,newVar,newRow,newObj,Sem.run]
theorem fR (b off n:Nat):(⟨b,off,none⟩:Addr).add n=⟨b,off+n,none⟩:=by
 unfold Addr.add;split
 ·rename_i h;subst h;rfl
 ·rfl
theorem aQ {s:TypeId} {fs:Array Field} {f:Nat} (ft:TypeId) (o:Nat) {z:Z} {n by_:Nat} (hs:P.underlying s=some (.struct fs)) (hf:(fs[f]?).map (λfd=>(fd.type,fd.offset))=some (ft,o)) (hi:cT P ft z n by_) (hn:(n == 0)=false) {b off:Nat} :
  (Instr.fieldAt s (.pointer (some ⟨b,off,none⟩)) f).run P w=.ok (.pointer (some ⟨b,off+o,none⟩)) w:=by
 obtain ⟨fd,hfd,he⟩:=Option.map_eq_some_iff.1 hf;simp only [Prod.mk.injEq] at he;obtain ⟨rfl,rfl⟩:=he;have hn':n≠0:=by simpa using hn
 simp [Instr.fieldAt,run_underlying hs,hfd,Instr.sureAddr,fieldPlace,dM hi,hn',fR]
theorem eW {t e:TypeId} {z:Z} {n by_:Nat} (ht:P.underlying t=some (.slice e)) (hi:cT P e z n by_) {b off len cap:Nat} {k:IntKind} {i:Int} (h0:0<=i) (h1:i < len) :
  (Instr.indexAt t (.slice (some ⟨b,off,none⟩) len cap) (.int k i)).run P w=.ok (.pointer (some ⟨b,off+i.toNat*n,none⟩)) w:=by
 simp [Instr.indexAt,asIntOf,run_underlying ht,h0,h1,dM hi,fR]
def mU:TypeDesc->Bool
 | .struct _|.array _ _=>true
 | _=>false
theorem rS {t:TypeId} {d:TypeDesc} (ht:P.underlying t=some d):(isAgg t).run P w=.ok (mU d) w:=by
 cases d<;>simp [isAgg,run_underlying ht,mU]
theorem iX {t:TypeId} {d:TypeDesc} (ht:P.underlying t=some d) (hd:mU d=false) {a:Addr} {v:Z} (h:w.cell? a=some v) :
  (Instr.loadAt t (.pointer (some a))).run P w=.ok v w:=by
 simp [Instr.loadAt,Instr.sureAddr,loadVar,rS ht,hd,load,Sem.run,h]
theorem tR {b off:Nat} (cs:List Z):∀ (l:List Z) (i:Nat) (acc:Array Z),(∀ j (_:j < l.length),w.cell? ⟨b,off+(i+j),none⟩=l[j]?) ->
  (loadCellsFrom ⟨b,off,none⟩ i l.length acc).run P w=.ok (acc++l.toArray) w
 | [],_,acc,_=>by simp [loadCellsFrom]
 | v::l,i,acc,h=>by
  have h0:=h 0 (by simp);simp only [Nat.add_zero,List.getElem?_cons_zero] at h0;simp only [List.length_cons,loadCellsFrom,load,fR,Sem.run_bind,Sem.run,h0,Result.andThen_ok]
  rw [tR cs l (i+1) (acc.push v) (λj hj=>by
   have:=h (j+1) (by simp;omega);rw [show i+1+j=i+(j+1) from by omega];simpa using this)]
  simp
theorem jG {t:TypeId} {d:TypeDesc} {z:Z} {n by_:Nat} (ht:P.underlying t=some d) (hd:mU d=true) (hi:cT P t z n by_) {b off:Nat} {cs:List Z} (hl:cs.length=n)
  (h:∀ j (_:j < cs.length),w.cell? ⟨b,off+j,none⟩=cs[j]?):(Instr.loadAt t (.pointer (some ⟨b,off,none⟩))).run P w=.ok (.agg cs.toArray) w:=by
 subst hl;have:=tR (P:=P) (w:=w) (b:=b) (off:=off) cs cs 0 #[] (by simpa using h);simp [Instr.loadAt,Instr.sureAddr,loadVar,rS ht,hd,dM hi,loadCells,this]
def cB:Z->Bool
 | .agg _|.tuple _=>false
 | _=>true
theorem sZ {v:Z} (h:cB v=true):v.cells=#[v]:=by cases v<;>first|rfl|cases h
theorem sT {a:Addr} {v u:Z} (hv:cB v=true) (h:w.cell? a=some u) (hf:w.frozen? a=false):(store a v).run P w=.ok () (w.setCell a v):=by
 cases v<;>first|(simp [store,Sem.run,h,hf];done)|cases hv
theorem kO {t:TypeId} {z:Z} {by_:Nat} (hi:cT P t z 1 by_) {b off:Nat} {v u:Z} (hv:cB v=true) (h:w.cell? ⟨b,off,none⟩=some u) (hf:w.frozen? ⟨b,off,none⟩=false) :
  (Instr.storeAt t (.pointer (some ⟨b,off,none⟩)) v).run P w=.ok () (w.setCell ⟨b,off,none⟩ v):=by
 simp [Instr.storeAt,Instr.sureAddr,storeVar,dM hi,sZ hv,storeCells,sT hv h hf,fR]
theorem tP {t:TypeId}:∀ (l done old:List Z),l.length=old.length->(∀ u∈l,cB u=true) ->
  (storeCells ⟨w.heap.size,0,none⟩ l done.length).run P (w.alloc (.cells (done++old).toArray t))=.ok () (w.alloc (.cells (done++l).toArray t))
 | [],done,[],_,_=>by simp [storeCells]
 | v::l,done,u::old,hl,h1=>by
  have hc:(w.alloc (.cells (done++u::old).toArray t)).cell? ⟨w.heap.size,done.length,none⟩=some u:=by simp
  have hf:(w.alloc (.cells (done++u::old).toArray t)).frozen? ⟨w.heap.size,done.length,none⟩=false:=by simp
  have hset:(w.alloc (.cells (done++u::old).toArray t)).setCell ⟨w.heap.size,done.length,none⟩ v=w.alloc (.cells (done++v::old).toArray t):=by
   simp only [World.setCell,World.alloc]
   congr 1
   apply Array.ext
   ·simp
   ·intro i h1 h2;simp only [Array.getElem_modify,Array.getElem_push];by_cases hi:i < w.heap.size
    ·have:¬ w.heap.size=i:=by omega
     simp [hi,this]
    ·have hi':w.heap.size=i:=by simp at h1;omega
     subst hi';simp
  simp only [storeCells,fR,Nat.zero_add,Sem.run_bind];rw [sT (h1 v (by simp)) hc hf,Result.andThen_ok,hset];have:=tP (t:=t) l (done++[v]) old (by simpa using hl) (λu hu=>h1 u (by simp [hu]));simpa using this
theorem LA {t t':TypeId} {z:Z} {n by_:Nat} (hi:cT P t z n by_) {old:Array Z} {v:Z} (hn:v.cells.size=n) (ho:old.size=n) (h1:∀ u∈v.cells.toList,cB u=true) :
  (Instr.storeAt t (.pointer (some ⟨w.heap.size,0,none⟩)) v).run P (w.alloc (.cells old t'))=.ok () (w.alloc (.cells v.cells t')):=by
 have:=tP (P:=P) (w:=w) (t:=t') v.cells.toList [] old.toList (by simp [hn,ho]) h1;simp only [List.nil_append,List.length_nil,Array.toArray_toList] at this;simp [Instr.storeAt,Instr.sureAddr,storeVar,dM hi,hn,this]
def ldO (P:Program) (t:TypeId) (a:Addr) (o:Option Z) (w:O) (K:Z->O->Prop):Prop:=
 match o with
 | some v=>K v w
 | none=>V P (Instr.loadAt t (.pointer (some a))) w K
theorem DO {t:TypeId} {z:Z} {n by_:Nat} (hi:cT P t z n by_) (hz:(z.cells.size == n)=true) {v:Z} {K':Z->O->Prop} (hn:v.cells.size=n) (h1:∀ u∈v.cells.toList,cB u=true) :
  V P (Instr.alloc t true (.tuple #[])) w (λp w1=>U P (Instr.storeAt t p v) w1 λ_ w2=>K' p w2)↔K' (.pointer (some ⟨w.heap.size,0,none⟩)) (w.alloc (.cells v.cells t)):=by
 rw [V.iff (NY hi)];exact U.iff (LA hi hn (by simpa using hz) h1)
theorem GO (e:Nat):∀ (l:List Z) (done old:List Z),l.length=old.length->(∀ u∈l,cB u=true) ->
  Instr.fill (λi=>some (i*1,1)) (done++old).toArray ((List.range' done.length l.length).zip l)=some (done++l).toArray
 | [],done,[],_,_=>by simp [Instr.fill]
 | v::l,done,u::old,hl,h1=>by
  have hv:=sZ (h1 v (by simp));simp only [List.length_cons,List.range'_succ,List.zip_cons_cons,Instr.fill,hv];have:=GO e l (done++[v]) old (by simpa using hl) (λu hu=>h1 u (by simp [hu]));simp at this ⊢;exact this
theorem CQ {s e:TypeId} {z:Z} {by_:Nat} (hs:P.underlying s=some (.slice e)) (hi:cT P e z 1 by_) (hz:(z.cells.size == 1)=true) (l:List Z) (hl:l.length<=16777216) (h1:∀ u∈l,cB u=true) :
  (Instr.buildSlice s l.length ((List.range' 0 l.length).zip l).toArray).run P w=.ok (.slice (some ⟨w.heap.size,0,none⟩) l.length l.length) (w.alloc (.cells l.toArray e)):=by
 obtain ⟨i,hi',hz',hn,hb⟩:=info_parts hi;have hz1:z.cells.size=1:=by simpa using hz
 by_cases h0:l.length=0
 ·obtain rfl:=List.length_eq_zero_iff.1 h0;have e0:Array.range 0=#[]:=by simp [Array.range]
  simp [Instr.buildSlice,run_underlying hs,sizeOf,typeInfo,hi',Instr.fill,newRow,newObj,Sem.run,e0]
 ·have hf:=GO 0 l [] ((Array.range (l.length*1)).map (λj=>z.cells[j % z.cells.size]!)).toList (by simp) h1;simp only [List.nil_append,List.length_nil,Array.toArray_toList] at hf;have hgt:¬ 16777216 < l.length:=by omega
  simp only [Instr.buildSlice,Sem.run_bind,run_underlying hs,Result.andThen_ok,dM hi];simp only [Nat.mul_one,h0,if_false];rw [if_neg (by simpa using hgt)];simp only [Nat.mul_one] at hf;simp [hf,newRow,newObj,Sem.run,tO hi]
theorem mC (s:TypeId) (x y:Z):Op.equal s x y=Op.equalIn (9999+1) s x y:=rfl
theorem LD {s e:TypeId} (hs:P.underlying s=some (.slice e)) (d:Nat) {a:Option Addr} {n c:Nat}:(Op.equalIn (d+1) s (.slice a n c) (.slice none 0 0)).run P w=.ok a.isNone w:=by
 cases a<;>simp [Op.equalIn,run_underlying hs]
theorem aOp {s:TypeId} (hs:P.underlying s=some .bool) (d:Nat) {a b:Bool}:(Op.equalIn (d+1) s (.bool a) (.bool b)).run P w=.ok (a == b) w:=by
 simp [Op.equalIn,run_underlying hs]
theorem lE {s e:TypeId} (hs:P.underlying s=some (.slice e)) {x y:Operand} {a:Option Addr} {n c:Nat} :
  (do eqGuard .eql s x y (.slice a n c) (.slice none 0 0);binOp .eql s (.slice a n c) (.slice none 0 0)).run P w=.ok (.bool a.isNone) w:=by
 simp [eqGuard,binOp,mC,LD hs]
theorem AQ {s:TypeId} (hs:P.underlying s=some .bool) {x y:Operand} {a b:Bool} :
  (do eqGuard .neq s x y (.bool a) (.bool b);binOp .neq s (.bool a) (.bool b)).run P w=.ok (.bool (a != b)) w:=by
 simp [eqGuard,binOp,mC,aOp hs,bne]
theorem bH {s d:TypeId} {ds:TypeDesc} {k k':IntKind} {n:Int} (hs:P.underlying s=some ds) (hd:P.underlying d=some (.int k')) :
  (convert s d (.int k n)).run P w=.ok (.int k' (k'.wrap n)) w:=by
 simp [convert,run_underlying hs,run_underlying hd,Conv.intToInt]
def aG (w w':O):Prop:=w.grownBy w' none
theorem aG.refl (w:O):aG w w:=⟨rfl,rfl,rfl,Nat.le_refl _,λ_ _ _=>rfl⟩
theorem aG.trans {a b c:O} (h:aG a b) (k:aG b c):aG a c:=
 ⟨k.os.trans h.os,k.tape.trans h.tape,k.output.trans h.output,Nat.le_trans h.size k.size,λi hi hn=>(k.block i (Nat.lt_of_lt_of_le hi h.size) hn).trans (h.block i hi hn)⟩
theorem aG.alloc {a w:O} (h:aG a w) (o:Obj):aG a (w.alloc o):=h.trans (World.grownBy_alloc _ _ _)
theorem aG.drew {a w:O} (h:aG a w):aG a w.drew:=⟨h.os,h.tape,h.output,h.size,h.block⟩
theorem aG.setCell {a w:O} (h:aG a w) {b o:Nat} (hb:a.heap.size<=b) (v:Z):aG a (w.setCell ⟨b,o,none⟩ v):=
 ⟨h.os,h.tape,h.output,by simpa using h.size,λi hi hn=>by rw [RowKit.Below.heap_setCell _ _ _ _ (by simp;omega)];exact h.block i hi hn⟩
theorem aG.cell {a w:O} (h:aG a w) {p:Addr} {v:Z} (hc:a.cell? p=some v):w.cell? p=some v:=World.grownBy.cell h hc (by simp)
theorem aG.obj {a w:O} (h:aG a w) {b:Nat} {o:Obj} (hb:a.heap[b]?=some o):w.heap[b]?=some o:=by
 have hlt:b < a.heap.size:=(Array.getElem?_eq_some_iff.1 hb).1;rw [h.block b hlt (by simp)];exact hb
theorem aG.grown {a w w':O} (h:aG a w) {row:Option Nat} (hg:w.grownBy w' row) (hr:∀ k,row=some k->a.heap.size<=k):aG a w':=
 ⟨hg.os.trans h.os,hg.tape.trans h.tape,hg.output.trans h.output,Nat.le_trans h.size hg.size,λi hi hn=>(hg.block i (Nat.lt_of_lt_of_le hi h.size) (λe=>by have:=hr i e.symm;omega)).trans (h.block i hi hn)⟩
theorem aG.own {a w:O} (h:aG a w) {B:Nat} {e:TypeId} {size n:Nat} {v:Z} {xs:List Z} (ho:a.ownsRow B e size v n xs):w.ownsRow B e size v n xs:=ho.kept h (by cases v.ownBlock<;>simp)
theorem aG.below {a w:O} (h:aG a w):RowKit.Below a.heap.size a w:=⟨h.os,h.tape,h.output,h.size,λk hk=>h.block k hk (by simp)⟩
def aC (w:O) (v:Z) (size n:Nat) (cs:List Z):Prop:=
 cs.length=n*size/\((v=.slice none 0 0/\n=0)\/∃ b off cap,v=.slice (some ⟨b,off,none⟩) n cap/\n<=cap/\cap<=maxLen/\∀ j u,cs[j]?=some u->w.cell? ⟨b,off+j,none⟩=some u)
theorem aC.ext {w w':O} {v:Z} {size n:Nat} {cs:List Z} (h:aC w v size n cs) (hx:aG w w'):aC w' v size n cs:=by
 obtain ⟨h1,h2⟩:=h;refine ⟨h1,?_⟩;rcases h2 with h2|⟨b,off,cap,h2,h3,h4,h5⟩
 ·exact .inl h2
 ·exact .inr ⟨b,off,cap,h2,h3,h4,λj u hj=>hx.cell (h5 j u hj)⟩
theorem aC.nil (w:O) (size:Nat):aC w (.slice none 0 0) size 0 []:=⟨by simp,.inl ⟨rfl,rfl⟩⟩
theorem aC.of_own {w:O} {B:Nat} {e:TypeId} {size n:Nat} {v:Z} {xs:List Z} (h:w.ownsRow B e size v n xs):aC w v size n xs:=by
 refine ⟨h.1,?_⟩;rcases h.2 with ⟨h1,h2⟩|⟨g,cap,cur,rfl,_,_,h4,h5,_⟩
 ·exact .inl ⟨h1,h2⟩
 ·exact .inr ⟨g,0,cap,rfl,h4,h5,λj u hj=>by have:=h.cells (g:=g) rfl j u hj;rwa [fR] at this⟩
theorem aC.shape {w:O} {v:Z} {size n:Nat} {cs:List Z} (h:aC w v size n cs):∃ a cap,v=.slice a n cap:=by
 rcases h.2 with ⟨rfl,rfl⟩|⟨b,off,cap,rfl,_⟩
 ·exact ⟨none,0,rfl⟩
 ·exact ⟨_,cap,rfl⟩
theorem aC.there {w:O} {v:Z} {size n:Nat} {cs:List Z} (h:aC w v size n cs) (hn:0 < n):∃ b off cap,v=.slice (some ⟨b,off,none⟩) n cap/\∀ j u,cs[j]?=some u->w.cell? ⟨b,off+j,none⟩=some u:=by
 rcases h.2 with ⟨_,rfl⟩|⟨b,off,cap,rfl,_,_,h5⟩
 ·omega
 ·exact ⟨b,off,cap,rfl,h5⟩
theorem aC.get {t e x:TypeId} {d:TypeDesc} {z:Z} {by_:Nat} (ht:P.underlying t=some (.slice e)) (hi:cT P e z 1 by_) (hx:P.underlying x=some d) (hd:mU d=false) {v:Z} {n:Nat} {cs:List Z} (h:aC w v 1 n cs)
  {k:IntKind} {i:Int} {u:Z} (h0:0<=i) (h1:i < n) (hu:cs[i.toNat]?=some u) (hk:K u w) :
  V P (Instr.indexAt t v (.int k i)) w λp w1=>V P (Instr.loadAt x p) w1 K:=by
 obtain ⟨b,off,cap,rfl,hc⟩:=h.there (by omega);refine V.ok (eW ht hi h0 h1) (V.ok (iX hx hd ?_) hk);simpa using hc _ _ hu
structure TA (P:Program) (u:TypeId):Prop where
 of ::
 ex:∃ z,(∀ (w:O) x t v,(Instr.typeAssert (.iface t v) x u true).run P w=.ok (if t=u then .tuple #[v,.bool true] else .tuple #[z,.bool false]) w) /\
 ∀ (w:O) x,(Instr.typeAssert .nilIface x u true).run P w=.ok (.tuple #[z,.bool false]) w
structure SA (P:Program) (t:TypeId) (n:Nat):Prop where
 of ::
 ex:∃ z by_,cT P t z n by_/\z.cells.size=n
structure FA (P:Program) (s f o:Nat):Prop where
 of ::
 ex:∀ (w:O) b off,(Instr.fieldAt s (.pointer (some ⟨b,off,none⟩)) f).run P w=.ok (.pointer (some ⟨b,off+o,none⟩)) w
structure L1 (P:Program) (t:TypeId):Prop where
 of ::
 ex:∃ d,P.underlying t=some d/\mU d=false
structure XA (P:Program) (t n:Nat):Prop where
 of ::
 ex:∃ e z by_,P.underlying t=some (.slice e)/\cT P e z n by_
theorem as_ {t n:TypeId} {v:Z} {K':Z->O->Prop} (h:SA P t n) (hn:v.cells.size=n) (h1:v.cells.toList.all cB=true) (hk:K' (.pointer (some ⟨w.heap.size,0,none⟩)) (w.alloc (.cells v.cells t))) :
  V P (Instr.alloc t true (.tuple #[])) w (λp w1=>U P (Instr.storeAt t p v) w1 λ_ w2=>K' p w2):=by
 obtain ⟨z,b,hi,hz⟩:=h;exact (DO hi (by simpa using hz) hn (λu hu=>List.all_eq_true.1 h1 u hu)).2 hk
theorem ldf {s f o ft b off:Nat} {u:Z} (h:FA P s f o) (hl:L1 P ft) (hc:w.cell? ⟨b,off+o,none⟩=some u) (hk:K u w) :
  V P (Instr.fieldAt s (.pointer (some ⟨b,off,none⟩)) f) w λq w1=>V P (Instr.loadAt ft q) w1 K:=by
 obtain ⟨d,hd,ha⟩:=hl;exact V.ok (h.ex w b off) (V.ok (iX hd ha hc) hk)
theorem mX {t x:TypeId} {v:Z} {n:Nat} {cs:List Z} {k:IntKind} {i:Int} {u:Z} (h:XA P t 1) (hl:L1 P x) (hs:aC w v 1 n cs) (h0:0<=i) (h1:i < n) (hu:cs[i.toNat]?=some u) (hk:K u w) :
  V P (Instr.indexAt t v (.int k i)) w λp w1=>V P (Instr.loadAt x p) w1 K:=by
 obtain ⟨e,z,b,ht,hi⟩:=h;obtain ⟨d,hd,ha⟩:=hl;exact hs.get ht hi hd ha h0 h1 hu hk
theorem gL {t ty n:Nat} {m:Nat} {v:Z} {size:Nat} {cs:List Z} (h:XA P t n) (hs:aC w v size m cs) (hk:K (i64 m) w):V P (Builtin.len_ #[t] ty #[v]) w K:=by
 obtain ⟨e,z,b,ht,hi⟩:=h;obtain ⟨a,c,rfl⟩:=hs.shape;exact V.ok (lD ht) hk
def fL (w:O) (b:Nat) (cs:List Z):Prop:=∀ j u,cs[j]?=some u->w.cell? ⟨b,0+j,none⟩=some u
theorem fL.ext {w w':O} {b:Nat} {cs:List Z} (h:fL w b cs) (hx:aG w w'):fL w' b cs:=λj u hj=>hx.cell (h j u hj)
theorem BT {cs:Array Z} {t:TypeId}:fL (w.alloc (.cells cs t)) w.heap.size cs.toList:=λj u hj=>by simpa using hj
theorem bx {t:TypeId} {v:Z} (hk:∀ b w1,fL w1 b v.cells.toList->aG w w1->K (.pointer (some ⟨b,0,none⟩)) w1):V P (Instr.box t v) w K:=
 V.ok aMl (hk _ _ BT ((aG.refl w).alloc _))
theorem asB {t n:TypeId} {v:Z} {K':Z->O->Prop} (h:SA P t n) (hn:v.cells.size=n) (h1:v.cells.toList.all cB=true) (hk:∀ b w1,fL w1 b v.cells.toList->aG w w1->K' (.pointer (some ⟨b,0,none⟩)) w1) :
  V P (Instr.alloc t true (.tuple #[])) w (λp w1=>U P (Instr.storeAt t p v) w1 λ_ w2=>K' p w2):=
 as_ h hn h1 (hk _ _ BT ((aG.refl w).alloc _))
theorem bC {s f o ft b:Nat} {cs:List Z} {u:Z} (hb:fL w b cs) (h:FA P s f o) (hl:L1 P ft) (hc:cs[o]?=some u) (hk:K u w) :
  V P (Instr.fieldAt s (.pointer (some ⟨b,0,none⟩)) f) w λq w1=>V P (Instr.loadAt ft q) w1 K:=ldf h hl (hb o u hc) hk
theorem qL {t n b:Nat} {cs:List Z} (hb:fL w b cs) (ht:∃ d z by_,P.underlying t=some d/\mU d=true/\cT P t z n by_) (hl:cs.length=n) (hk:K (.agg cs.toArray) w):V P (Instr.loadAt t (.pointer (some ⟨b,0,none⟩))) w K:=by
 obtain ⟨d,z,by_,h1,h2,h3⟩:=ht
 exact V.ok (jG h1 h2 h3 hl λj hj=>by
  obtain ⟨u,hu⟩:∃ u,cs[j]?=some u:=⟨_,List.getElem?_eq_getElem hj⟩;rw [hu];exact hb j u hu) hk
structure XE (P:Program) (t e by_:Nat):Prop where
 of ::
 ex:∃ z,P.underlying t=some (.slice e)/\cT P e z 1 by_/\(z.cells.size == 1)=true
theorem rT (v:Z):v.oneCell'=cB v:=by cases v<;>rfl
theorem kJ {t e by_:Nat} (h:XE P t e by_) (l:List Z) {n:Nat} {parts:Array (Nat × Z)} (hn:n=l.length) (hp:parts=((List.range' 0 l.length).zip l).toArray) (hl:l.length<=16777216) (h1:l.all cB=true)
  (hk:∀ v w',w'.ownsRow w.heap.size e 1 v n l->aG w w'->K v w'):V P (Instr.buildSlice t n parts) w K:=by
 subst hn;subst hp;obtain ⟨z,ht,hi,hz⟩:=h;refine V.ok (CQ ht hi hz l hl (λu hu=>List.all_eq_true.1 h1 u hu)) (hk _ _ ?_ ((aG.refl w).alloc _));have:=World.ownsRow_lit (base:=w.heap.size) (e:=e) (size:=1) w l.toArray l.length (Nat.le_refl _) (by unfold maxLen;omega) (by simp);simpa using this
theorem TZ {t e by_ ty:Nat} (h:XE P t e by_) {B:Nat} {v:Z} {n:Nat} {xs:List Z} (ho:w.ownsRow B e 1 v n xs) {x:Z} {m:Nat} {news:List Z} (hs:aC w x 1 m news) (h1:news.all cB=true)
  (hb:(n+m)*by_<=140737488355328) (h63:n+m<=maxLen) (hB:B<=w.heap.size) (hk:∀ v' w',w'.ownsRow B e 1 v' (n+m) (xs++news)->w.grownBy w' v.ownBlock->K v' w') :
  V P (Builtin.append_ #[t,t] ty #[v,x]) w K:=by
 obtain ⟨z,ht,hi,hz⟩:=h;obtain ⟨i,hi',hz',hn,hby⟩:=info_parts hi;rcases hs.2 with ⟨rfl,rfl⟩|⟨b,off,cap,rfl,_,_,hc⟩
 ·have hnews:news=[]:=by have:=hs.1;simpa using this
  subst hnews;refine V.ok (run_append_owned_none w B t ty e i 1 ht hi' v n xs ho) (hk _ _ (by simpa using ho) ⟨rfl,rfl,rfl,Nat.le_refl _,λ_ _ _=>rfl⟩)
 ·obtain ⟨v',w',hr,h2,h3,_⟩:=run_append_own (P:=P) w B t ty e i z 1 by_ ht hi' hz' hn hby (by simpa using hz) (by omega) v n xs ho ⟨b,off,none⟩ m cap news hs.1
   (λj u hj=>by rw [fR];exact hc j u hj) (λu hu=>by rw [rT];exact List.all_eq_true.1 h1 u hu) h63 hb hB
  exact V.ok hr (hk _ _ h2 h3)
theorem MC {t e by_:Nat} (h:XE P t e by_) {v:Z} {n:Nat} {cs:List Z} (hs:aC w v 1 n cs) (h1:cs.all cB=true) (hb:n*by_<=140737488355328) {x y:Operand} {R:Z->O->Prop}
  (hk:∀ v' w',w'.ownsRow w.heap.size e 1 v' n cs->aG w w'->R v' w') :
  V P (do eqGuard .eql t x y v (Value.slice none 0 0);binOp .eql t v (Value.slice none 0 0)) w λt4 w1=>
   aO t4 (R (Value.slice none 0 0) w1) (V P (Instr.buildSlice t 0 #[]) w1 λt5 w2=>V P (Builtin.append_ #[t,t] t #[t5,v]) w2 λt7 w3=>R t7 w3):=by
 have h':=h;obtain ⟨z,ht,hi,hz⟩:=h;rcases hs.2 with ⟨rfl,rfl⟩|⟨b,off,cap,rfl,hc1,hc2,hc⟩
 ·refine V.ok (lE ht) (aE.2 (hk _ _ ?_ (aG.refl w)));have:cs=[]:=by have:=hs.1;simpa using this
  subst this;exact World.ownsRow_nil _ _ _ _
 ·refine V.ok (lE ht) (aA.2 (kJ h' [] rfl rfl (by simp) rfl λv1 w1 ho x1=>?_));refine TZ h' ho (hs.ext x1) h1 (by simpa using hb) (by unfold maxLen at *;omega) x1.size λv2 w2 ho2 hg=>?_;have:=ho2;simp only [Nat.zero_add,List.nil_append] at this;exact hk _ _ this (x1.grown hg λk hk'=>(ho.lt k hk').1)
end
section
variable {P:Program} {w:O} {K:Z->O->Prop}
theorem aR {w:O} {B B' e size n:Nat} {v:Z} {xs:List Z} (h:w.ownsRow B e size v n xs) (hB:B'<=B):w.ownsRow B' e size v n xs:=by
 refine ⟨h.1,?_⟩;rcases h.2 with h2|⟨g,cap,cur,h2,h3,h4⟩
 ·exact .inl h2
 ·exact .inr ⟨g,cap,cur,h2,Nat.le_trans hB h3,h4⟩
theorem aOu {w:O} {B e size n:Nat} {v:Z} {xs:List Z} (h:w.ownsRow B e size v n xs) {row:Option Nat} (hr:∀ k,row=some k->k < B):v.ownBlock=none\/v.ownBlock≠row:=by
 cases hv:v.ownBlock with
 | none=>exact .inl rfl
 | some g=>exact .inr λhe=>by have:=hr g he.symm;have:=(h.lt g hv).1;omega
theorem stO {t x:Nat} {z:Z} {by_:Nat} (h:XA P t 1) (hx:cT P x z 1 by_) {B e n:Nat} {v:Z} {xs:List Z} (ho:w.ownsRow B e 1 v n xs) {k:IntKind} {i:Int} (h0:0<=i) (h1:i < n) {u:Z} (hu:cB u=true) {K':O->Prop}
  (hk:∀ w',w'.ownsRow B e 1 v n (xs.set i.toNat u)->w.grownBy w' v.ownBlock->K' w') :
  V P (Instr.indexAt t v (.int k i)) w λp w1=>U P (Instr.storeAt x p u) w1 λ_ w2=>K' w2:=by
 obtain ⟨e',z',b',ht,hi⟩:=h;have ho':=ho;rcases ho.2 with ⟨_,rfl⟩|⟨g,cap,cur,rfl,hB,_⟩
 ·omega
 refine V.ok (eW ht hi h0 h1) ?_;obtain ⟨s1,s2⟩:=ho'.stored i.toNat u;have hc:=ho'.cellAt i.toNat (by omega);have hlt:i.toNat < xs.length:=by have:=ho'.1;omega
 rw [List.getElem?_eq_getElem hlt] at hc;simp only [Nat.zero_add,Nat.mul_one];exact U.ok (kO hx hu hc (ho'.frozenAt _)) (hk _ s1 s2)
theorem aPh {t x:Nat} (h:XA P t 1) (hl:L1 P x) {B e n:Nat} {v:Z} {xs:List Z} (ho:w.ownsRow B e 1 v n xs) {k:IntKind} {i:Int} {u:Z} (h0:0<=i) (h1:i < n) (hu:xs[i.toNat]?=some u) (hk:K u w) :
  V P (Instr.indexAt t v (.int k i)) w λp w1=>V P (Instr.loadAt x p) w1 K:=mX h hl (aC.of_own ho) h0 h1 hu hk
def bA (w:O) (g:Nat) (cs:List Z) (e:TypeId):Prop:=w.heap[g]?=some (.cells cs.toArray e (0,0))
theorem bA.ext {w w':O} {g:Nat} {cs:List Z} {e:TypeId} (h:bA w g cs e) (hx:aG w w'):bA w' g cs e:=hx.obj h
theorem bA.lt {w:O} {g:Nat} {cs:List Z} {e:TypeId} (h:bA w g cs e):g < w.heap.size:=(Array.getElem?_eq_some_iff.1 h).1
theorem bA.cell {w:O} {g:Nat} {cs:List Z} {e:TypeId} (h:bA w g cs e) (j:Nat):w.cell? ⟨g,j,none⟩=cs[j]?:=by
 rw [cell_of_row w g j cs.toArray e (0,0) h];simp
theorem bA.frozen {w:O} {g:Nat} {cs:List Z} {e:TypeId} (h:bA w g cs e) (j:Nat):w.frozen? ⟨g,j,none⟩=false:=frozen_of_row w g j cs.toArray e h
theorem bA.set {w:O} {g:Nat} {cs:List Z} {e:TypeId} (h:bA w g cs e) (j:Nat) (u:Z):bA (w.setCell ⟨g,j,none⟩ u) g (cs.set j u) e:=by
 have:=heap_setCell_same w g j cs.toArray e u h;unfold bA;rw [this];simp
theorem bA.other {w:O} {g g' j:Nat} {cs:List Z} {e:TypeId} {u:Z} (h:bA w g cs e) (hne:g≠g'):bA (w.setCell ⟨g',j,none⟩ u) g cs e:=by
 unfold bA;rw [heap_setCell_other w ⟨g',j,none⟩ g u hne];exact h
theorem bA.slice {w:O} {g n:Nat} {cs:List Z} {e:TypeId} (h:bA w g cs e) (hn:cs.length=n) (hm:n<=maxLen):aC w (.slice (some ⟨g,0,none⟩) n n) 1 n cs:=
 ⟨by omega,.inr ⟨g,0,n,rfl,Nat.le_refl _,hm,λj u hj=>by rw [Nat.zero_add,h.cell];exact hj⟩⟩
theorem mkB {t e by_:Nat} {z:Z} (ht:P.underlying t=some (.slice e)) (hi:cT P e z 1 by_) (hz:z.cells=#[z]) {n:Nat} (hb:by_*n<=281474976710656) (h63:n<=9223372036854775807)
  (hk:∀ w',bA w' w.heap.size (List.replicate n z) e->aG w w'->w'.heap.size=w.heap.size+1->K (.slice (some ⟨w.heap.size,0,none⟩) n n) w'):V P (Instr.makeSlice t (i64 n) (i64 n)) w K:=by
 obtain ⟨i,hi',hz',hn,hby⟩:=info_parts hi;have hr:=run_make (P:=P) w t e i z ht hi' hz' .i64 .i64 n n (by omega) (Int.le_refl _) (by rw [hby,<- Int.natCast_mul];omega) (by omega);simp only [Int.toNat_natCast,hn,hz,Nat.mul_one] at hr;refine V.ok hr (hk _ ?_ ((aG.refl w).alloc _) (by simp));unfold bA;have:=heap_alloc_new w (.cells (madeCells #[z] n) e);rw [this]
 congr 2
 rw [<- toList_madeCells_one z n]
structure BD (P:Program) (t:TypeId) (zs:List Z):Prop where
 of ::
 ex:∃ fs b,P.underlying t=some (.struct fs)/\cT P t (.agg zs.toArray) zs.length b/\∀ w:O,(fs.mapM (λf=>do pure (f.offset,<- sizeOf f.type)):Sem (Array (Nat × Nat))).run P w=.ok ((List.range zs.length).map (λi=>(i,1))).toArray w
theorem XY {n:Nat}:∀ (l:List (Nat × Z)) (cs:List Z),cs.length=n->(l.all λx=>decide (x.1 < n)&&cB x.2)=true ->
  Instr.fill ((((List.range n).map (λi=>(i,1))).toArray)[·]?) cs.toArray l=some (l.foldl (λcs x=>cs.set x.1 x.2) cs).toArray
 | [],cs,_,_=>rfl
 | (i,v)::l,cs,hl,h=>by
  simp only [List.all_cons,Bool.and_eq_true,decide_eq_true_eq] at h;have hi:((((List.range n).map (λi=>(i,1))).toArray)[i]?)=some (i,1):=by simp [h.1.1]
  have hc:=sZ h.1.2;rw [Instr.fill,hi];have hn:¬ (i+1 > cs.length):=by omega
  simp only [hc,List.size_toArray,List.length_cons,List.length_nil,Nat.zero_add,ne_eq,not_true_eq_false,decide_false,Bool.false_or,hn,Bool.false_eq_true,if_false];have:=XY (n:=n) l (cs.set i v) (by simpa using hl) h.2;simpa using this
theorem bld {t:TypeId} {zs:List Z} (h:BD P t zs) {parts:Array (Nat × Z)} (l:List (Nat × Z)) (hp:parts=l.toArray) (h1:(l.all λx=>decide (x.1 < zs.length)&&cB x.2)=true)
  (hk:K (.agg (l.foldl (λcs x=>cs.set x.1 x.2) zs).toArray) w):V P (Instr.build t parts) w K:=by
 subst hp;obtain ⟨fs,b,hu,hi,hm⟩:=h;refine V.ok ?_ hk;simp only [Instr.build,Sem.run_bind,tO hi,Result.andThen_ok,run_underlying hu,hm,Value.cells];rw [XY l zs rfl h1];simp
structure MI (P:Program) (t:TypeId):Prop where
 of ::
 ex:∃ d,P.underlying t=some d/\aUt d=true
end
end Go.Vc
namespace Go.Proofs.YtgkkecladbmjkaaGreatDoor
open Tryz
open Go.Vc
variable {w:O} {n off:Nat} {k:IntKind} {i:Int} {a:Option Addr} {x:Operand} {ty:TypeId} {K:Z->O->Prop}
theorem gW:cT prog 3 (.int .i64 0) 1 8:=by unfold cT;kernel_rfl
theorem oW:cT prog 4 (.bool false) 1 1:=by unfold cT;kernel_rfl
theorem mR:cT prog 5 (.int .u8 0) 1 1:=by unfold cT;kernel_rfl
theorem aFe:cT prog 9 (.string ByteArray.empty) 1 16:=by unfold cT;kernel_rfl
theorem uD:cT prog 21 (.int .i32 0) 1 4:=by unfold cT;kernel_rfl
theorem lA:cT prog 23 (.slice none 0 0) 1 24:=by unfold cT;kernel_rfl
theorem OO:cT prog 24 (.slice none 0 0) 1 24:=by unfold cT;kernel_rfl
theorem aMv:cT prog 26 (.pointer none) 1 8:=by unfold cT;kernel_rfl
theorem yB:cT prog 37 (.slice none 0 0) 1 24:=by unfold cT;kernel_rfl
theorem iV:cT prog 42 (.slice none 0 0) 1 24:=by unfold cT;kernel_rfl
theorem GG:cT prog 43 (.slice none 0 0) 1 24:=by unfold cT;kernel_rfl
theorem GF:cT prog 44 (.slice none 0 0) 1 24:=by unfold cT;kernel_rfl
theorem iN:cT prog 46 (.agg #[(.string ByteArray.empty),(.slice none 0 0),(.slice none 0 0),(.slice none 0 0),(.slice none 0 0)]) 5 112:=by unfold cT;kernel_rfl
theorem aMu:cT prog 48 (.pointer none) 1 8:=by unfold cT;kernel_rfl
theorem BI:cT prog 50 (.slice none 0 0) 1 24:=by unfold cT;kernel_rfl
theorem GE:cT prog 54 (.agg #[(.int .i64 0),(.int .i64 0),(.int .i64 0),(.int .i64 0)]) 4 32:=by unfold cT;kernel_rfl
theorem oA:cT prog 70 (.agg #[(.int .i64 0),(.int .i64 0),(.int .i64 0)]) 3 24:=by unfold cT;kernel_rfl
theorem uC:cT prog 71 (.slice none 0 0) 1 24:=by unfold cT;kernel_rfl
theorem lR:cT prog 74 (.agg #[(.slice none 0 0),(.int .i64 0),(.slice none 0 0),(.slice none 0 0)]) 4 80:=by unfold cT;kernel_rfl
theorem GD:cT prog 76 (.agg #[(.int .i64 0),(.int .i64 0)]) 2 16:=by unfold cT;kernel_rfl
theorem aMt:cT prog 99 (.slice none 0 0) 1 24:=by unfold cT;kernel_rfl
theorem aPu:cT prog 100 (.pointer none) 1 8:=by unfold cT;kernel_rfl
theorem LN:cT prog 107 (.slice none 0 0) 1 24:=by unfold cT;kernel_rfl
theorem aPt:cT prog 109 (.agg #[(.pointer none),(.pointer none),(.slice none 0 0),(.int .i64 0),(.int .i64 0)]) 5 56:=by unfold cT;kernel_rfl
theorem LM:cT prog 111 (.pointer none) 1 8:=by unfold cT;kernel_rfl
theorem aPs:cT prog 125 (.agg #[(.slice none 0 0)]) 1 24:=by unfold cT;kernel_rfl
theorem fI:cT prog 127 (.agg #[(.int .i64 0),(.int .i64 0),(.int .i64 0),(.bool false),(.slice none 0 0)]) 5 56:=by unfold cT;kernel_rfl
theorem DC:cT prog 132 (.slice none 0 0) 1 24:=by unfold cT;kernel_rfl
theorem aPr:cT prog 134 (.agg #[(.pointer none),(.slice none 0 0),(.slice none 0 0),(.slice none 0 0),(.slice none 0 0)]) 5 104:=by unfold cT;kernel_rfl
theorem aPq:cT prog 137 (.pointer none) 1 8:=by unfold cT;kernel_rfl
theorem aPp:cT prog 139 (.agg #[(.pointer none),(.slice none 0 0),(.slice none 0 0),(.slice none 0 0),(.slice none 0 0)]) 5 104:=by unfold cT;kernel_rfl
theorem oX:cT prog 154 (.slice none 0 0) 1 24:=by unfold cT;kernel_rfl
theorem aPo:cT prog 156 (.agg #[(.int .i64 0),(.slice none 0 0)]) 2 32:=by unfold cT;kernel_rfl
theorem mY:cT prog 180 (.agg #[(.string ByteArray.empty),(.int .i64 0),(.slice none 0 0),(.int .i64 0)]) 4 56:=by unfold cT;kernel_rfl
theorem aPn:cT prog 193 (.agg #[(.int .i64 0),(.slice none 0 0)]) 2 32:=by unfold cT;kernel_rfl
theorem aPm:cT prog 252 (.agg #[(.slice none 0 0),(.slice none 0 0),(.int .i64 0),(.slice none 0 0),(.int .i64 0)]) 5 88:=by unfold cT;kernel_rfl
theorem tB:cT prog 254 (.agg #[(.int .i64 0),(.int .i64 0),(.int .i64 0),(.int .i64 0)]) 4 32:=by unfold cT;kernel_rfl
theorem aPl:cT prog 266 (.agg #[(.bool false),(.bool false)]) 2 2:=by unfold cT;kernel_rfl
theorem LL:cT prog 283 (.agg #[(.pointer none),(.pointer none),(.int .i64 0),(.int .i64 0),(.int .i64 0),(.slice none 0 0)]) 6 64:=by unfold cT;kernel_rfl
theorem LK:cT prog 290 (.agg #[(.int .u8 0),(.int .u8 0)]) 2 2:=by unfold cT;kernel_rfl
theorem LC {b:Nat}:(Instr.fieldAt 114 (.pointer (some ⟨b,off,none⟩)) 3).run prog w=.ok (.pointer (some ⟨b,off+3,none⟩)) w:=aQ 74 3 underlying114 rfl lR rfl
theorem LB {b:Nat}:(Instr.fieldAt 125 (.pointer (some ⟨b,off,none⟩)) 0).run prog w=.ok (.pointer (some ⟨b,off+0,none⟩)) w:=aQ 50 0 underlying125 rfl BI rfl
theorem iY {b:Nat}:(Instr.fieldAt 127 (.pointer (some ⟨b,off,none⟩)) 4).run prog w=.ok (.pointer (some ⟨b,off+4,none⟩)) w:=aQ 23 4 underlying127 rfl lA rfl
theorem sX {b:Nat}:(Instr.fieldAt 134 (.pointer (some ⟨b,off,none⟩)) 3).run prog w=.ok (.pointer (some ⟨b,off+3,none⟩)) w:=aQ 23 3 underlying134 rfl lA rfl
theorem xM {b:Nat}:(Instr.fieldAt 134 (.pointer (some ⟨b,off,none⟩)) 4).run prog w=.ok (.pointer (some ⟨b,off+4,none⟩)) w:=aQ 23 4 underlying134 rfl lA rfl
theorem sW {b:Nat}:(Instr.fieldAt 139 (.pointer (some ⟨b,off,none⟩)) 3).run prog w=.ok (.pointer (some ⟨b,off+3,none⟩)) w:=aQ 23 3 underlying139 rfl lA rfl
theorem xL {b:Nat}:(Instr.fieldAt 139 (.pointer (some ⟨b,off,none⟩)) 4).run prog w=.ok (.pointer (some ⟨b,off+4,none⟩)) w:=aQ 23 4 underlying139 rfl lA rfl
theorem pW {b:Nat}:(Instr.fieldAt 156 (.pointer (some ⟨b,off,none⟩)) 1).run prog w=.ok (.pointer (some ⟨b,off+1,none⟩)) w:=aQ 154 1 underlying156 rfl oX rfl
theorem xK {b:Nat}:(Instr.fieldAt 180 (.pointer (some ⟨b,off,none⟩)) 2).run prog w=.ok (.pointer (some ⟨b,off+2,none⟩)) w:=aQ 42 2 underlying180 rfl iV rfl
theorem xJ {b:Nat}:(Instr.fieldAt 193 (.pointer (some ⟨b,off,none⟩)) 1).run prog w=.ok (.pointer (some ⟨b,off+1,none⟩)) w:=aQ 154 1 underlying193 rfl oX rfl
theorem SP {b:Nat}:(Instr.fieldAt 46 (.pointer (some ⟨b,off,none⟩)) 1).run prog w=.ok (.pointer (some ⟨b,off+1,none⟩)) w:=aQ 42 1 underlying46 rfl iV rfl
theorem SO {b:Nat}:(Instr.fieldAt 46 (.pointer (some ⟨b,off,none⟩)) 2).run prog w=.ok (.pointer (some ⟨b,off+2,none⟩)) w:=aQ 43 2 underlying46 rfl GG rfl
theorem SN {b:Nat}:(Instr.fieldAt 46 (.pointer (some ⟨b,off,none⟩)) 3).run prog w=.ok (.pointer (some ⟨b,off+3,none⟩)) w:=aQ 44 3 underlying46 rfl GF rfl
theorem SM {b:Nat}:(Instr.fieldAt 46 (.pointer (some ⟨b,off,none⟩)) 4).run prog w=.ok (.pointer (some ⟨b,off+4,none⟩)) w:=aQ 42 4 underlying46 rfl iV rfl
theorem SL {b:Nat}:(Instr.fieldAt 66 (.pointer (some ⟨b,off,none⟩)) 0).run prog w=.ok (.pointer (some ⟨b,off+0,none⟩)) w:=aQ 50 0 underlying66 rfl BI rfl
theorem AV {b:Nat}:(Instr.fieldAt 74 (.pointer (some ⟨b,off,none⟩)) 0).run prog w=.ok (.pointer (some ⟨b,off+0,none⟩)) w:=aQ 42 0 underlying74 rfl iV rfl
theorem SK {b:Nat}:(Instr.fieldAt 74 (.pointer (some ⟨b,off,none⟩)) 1).run prog w=.ok (.pointer (some ⟨b,off+1,none⟩)) w:=aQ 3 1 underlying74 rfl gW rfl
theorem AU {b:Nat}:(Instr.fieldAt 74 (.pointer (some ⟨b,off,none⟩)) 2).run prog w=.ok (.pointer (some ⟨b,off+2,none⟩)) w:=aQ 42 2 underlying74 rfl iV rfl
theorem AR {b:Nat}:(Instr.fieldAt 74 (.pointer (some ⟨b,off,none⟩)) 3).run prog w=.ok (.pointer (some ⟨b,off+3,none⟩)) w:=aQ 71 3 underlying74 rfl uC rfl
theorem nU {b len cap:Nat} (h0:0<=i) (h1:i < len):(Instr.indexAt 154 (.slice (some ⟨b,off,none⟩) len cap) (.int k i)).run prog w=.ok (.pointer (some ⟨b,off+i.toNat*5,none⟩)) w:=eW underlying154 fI h0 h1
theorem NU {b len cap:Nat} (h0:0<=i) (h1:i < len):(Instr.indexAt 43 (.slice (some ⟨b,off,none⟩) len cap) (.int k i)).run prog w=.ok (.pointer (some ⟨b,off+i.toNat*4,none⟩)) w:=eW underlying43 mY h0 h1
theorem aEe {b len cap:Nat} (h0:0<=i) (h1:i < len):(Instr.indexAt 44 (.slice (some ⟨b,off,none⟩) len cap) (.int k i)).run prog w=.ok (.pointer (some ⟨b,off+i.toNat*4,none⟩)) w:=eW underlying44 lR h0 h1
theorem xH {b:Nat} {cs:List Z} (hl:cs.length=5) (h:∀ j (_:j < cs.length),w.cell? ⟨b,off+j,none⟩=cs[j]?):(Instr.loadAt 127 (.pointer (some ⟨b,off,none⟩))).run prog w=.ok (.agg cs.toArray) w:=jG underlying127 rfl fI hl h
theorem jN {a:Addr} {v:Z} (h:w.cell? a=some v):(Instr.loadAt 23 (.pointer (some a))).run prog w=.ok v w:=iX underlying23 rfl h
theorem VZ {a:Addr} {v:Z} (h:w.cell? a=some v):(Instr.loadAt 3 (.pointer (some a))).run prog w=.ok v w:=iX underlying3 rfl h
theorem CP {a:Addr} {v:Z} (h:w.cell? a=some v):(Instr.loadAt 42 (.pointer (some a))).run prog w=.ok v w:=iX underlying42 rfl h
theorem aOm {a:Addr} {v:Z} (h:w.cell? a=some v):(Instr.loadAt 5 (.pointer (some a))).run prog w=.ok v w:=iX underlying5 rfl h
theorem aEd {a:Addr} {v:Z} (h:w.cell? a=some v):(Instr.loadAt 71 (.pointer (some a))).run prog w=.ok v w:=iX underlying71 rfl h
theorem aOl {a:Addr} {v:Z} (h:w.cell? a=some v):(Instr.loadAt 9 (.pointer (some a))).run prog w=.ok v w:=iX underlying9 rfl h
theorem VT {y:Operand} {a b:Bool}:(do eqGuard .neq 4 x y (.bool a) (.bool b);binOp .neq 4 (.bool a) (.bool b)).run prog w=.ok (.bool (a != b)) w:=AQ underlying4
theorem yU {c:Nat}:V prog (Builtin.len_ #[107] ty #[.slice a n c]) w K↔K (.int .i64 n) w:=V.iff (lD underlying107)
theorem YR {c:Nat}:V prog (Builtin.len_ #[132] ty #[.slice a n c]) w K↔K (.int .i64 n) w:=V.iff (lD underlying132)
theorem lJ {c:Nat}:V prog (Builtin.len_ #[154] ty #[.slice a n c]) w K↔K (.int .i64 n) w:=V.iff (lD underlying154)
theorem aGo {c:Nat}:V prog (Builtin.len_ #[22] ty #[.slice a n c]) w K↔K (.int .i64 n) w:=V.iff (lD underlying22)
theorem mK {c:Nat}:V prog (Builtin.len_ #[23] ty #[.slice a n c]) w K↔K (.int .i64 n) w:=V.iff (lD underlying23)
theorem aGn {c:Nat}:V prog (Builtin.len_ #[24] ty #[.slice a n c]) w K↔K (.int .i64 n) w:=V.iff (lD underlying24)
theorem aGm {c:Nat}:V prog (Builtin.len_ #[42] ty #[.slice a n c]) w K↔K (.int .i64 n) w:=V.iff (lD underlying42)
theorem aGl {c:Nat}:V prog (Builtin.len_ #[71] ty #[.slice a n c]) w K↔K (.int .i64 n) w:=V.iff (lD underlying71)
theorem YQ {y:Operand} {a b:Bool}:V prog (do eqGuard .neq 4 x y (.bool a) (.bool b);binOp .neq 4 (.bool a) (.bool b)) w K↔K (.bool (a != b)) w:=V.iff (AQ underlying4)
theorem aNj:XA prog 107 1:=⟨_,_,_,underlying107,LM⟩
theorem wQ:XA prog 116 1:=⟨_,_,_,underlying116,iV⟩
theorem nN:XA prog 117 1:=⟨_,_,_,underlying117,oW⟩
theorem KH:XA prog 132 1:=⟨_,_,_,underlying132,yB⟩
theorem MY:XA prog 22 1:=⟨_,_,_,underlying22,aMt⟩
theorem gS:XA prog 23 1:=⟨_,_,_,underlying23,mR⟩
theorem lO:XA prog 24 5:=⟨_,_,_,underlying24,iN⟩
theorem UO:XA prog 292 1:=⟨_,_,_,underlying292,aFe⟩
theorem fZ:XA prog 37 1:=⟨_,_,_,underlying37,uD⟩
theorem aK:XA prog 42 1:=⟨_,_,_,underlying42,gW⟩
theorem mN:XA prog 43 4:=⟨_,_,_,underlying43,mY⟩
theorem iT:XA prog 44 4:=⟨_,_,_,underlying44,lR⟩
theorem wP:XA prog 50 4:=⟨_,_,_,underlying50,GE⟩
theorem kK:XA prog 71 3:=⟨_,_,_,underlying71,oA⟩
theorem pC:XA prog 99 4:=⟨_,_,_,underlying99,tB⟩
theorem UN:XE prog 107 111 8:=⟨_,underlying107,LM,rfl⟩
theorem KG:XE prog 132 37 24:=⟨_,underlying132,yB,rfl⟩
theorem aTu:XE prog 22 99 24:=⟨_,underlying22,aMt,rfl⟩
theorem lN:XE prog 23 5 1:=⟨_,underlying23,mR,rfl⟩
theorem aNi:XE prog 292 9 16:=⟨_,underlying292,aFe,rfl⟩
theorem MX:XE prog 37 21 4:=⟨_,underlying37,uD,rfl⟩
theorem bG:XE prog 42 3 8:=⟨_,underlying42,gW,rfl⟩
theorem LI:∃ d z by_,Program.underlying prog 127=some d/\mU d=true/\cT prog 127 z 5 by_:=⟨_,_,_,underlying127,rfl,fI⟩
theorem LH:∃ d z by_,Program.underlying prog 180=some d/\mU d=true/\cT prog 180 z 4 by_:=⟨_,_,_,underlying180,rfl,mY⟩
theorem aPj:∃ d z by_,Program.underlying prog 254=some d/\mU d=true/\cT prog 254 z 4 by_:=⟨_,_,_,underlying254,rfl,tB⟩
theorem gI:∃ d z by_,Program.underlying prog 283=some d/\mU d=true/\cT prog 283 z 6 by_:=⟨_,_,_,underlying283,rfl,LL⟩
theorem aPi:∃ d z by_,Program.underlying prog 290=some d/\mU d=true/\cT prog 290 z 2 by_:=⟨_,_,_,underlying290,rfl,LK⟩
theorem kZ:∃ d z by_,Program.underlying prog 46=some d/\mU d=true/\cT prog 46 z 5 by_:=⟨_,_,_,underlying46,rfl,iN⟩
theorem OL:∃ d z by_,Program.underlying prog 54=some d/\mU d=true/\cT prog 54 z 4 by_:=⟨_,_,_,underlying54,rfl,GE⟩
theorem uA:∃ d z by_,Program.underlying prog 70=some d/\mU d=true/\cT prog 70 z 3 by_:=⟨_,_,_,underlying70,rfl,oA⟩
theorem oK:∃ d z by_,Program.underlying prog 74=some d/\mU d=true/\cT prog 74 z 4 by_:=⟨_,_,_,underlying74,rfl,lR⟩
theorem eG:L1 prog 100:=⟨_,underlying100,rfl⟩
theorem fX:L1 prog 107:=⟨_,underlying107,rfl⟩
theorem jK:L1 prog 111:=⟨_,underlying111,rfl⟩
theorem gU:L1 prog 132:=⟨_,underlying132,rfl⟩
theorem dK:L1 prog 137:=⟨_,underlying137,rfl⟩
theorem cP:L1 prog 154:=⟨_,underlying154,rfl⟩
theorem eZ:L1 prog 21:=⟨_,underlying21,rfl⟩
theorem gC:L1 prog 23:=⟨_,underlying23,rfl⟩
theorem jC:L1 prog 24:=⟨_,underlying24,rfl⟩
theorem fJ:L1 prog 26:=⟨_,underlying26,rfl⟩
theorem aJ:L1 prog 3:=⟨_,underlying3,rfl⟩
theorem mP:L1 prog 37:=⟨_,underlying37,rfl⟩
theorem nZ:L1 prog 4:=⟨_,underlying4,rfl⟩
theorem bB:L1 prog 42:=⟨_,underlying42,rfl⟩
theorem kE:L1 prog 43:=⟨_,underlying43,rfl⟩
theorem gM:L1 prog 44:=⟨_,underlying44,rfl⟩
theorem rC:L1 prog 48:=⟨_,underlying48,rfl⟩
theorem uB:L1 prog 5:=⟨_,underlying5,rfl⟩
theorem qM:L1 prog 50:=⟨_,underlying50,rfl⟩
theorem gX:L1 prog 71:=⟨_,underlying71,rfl⟩
theorem XG:L1 prog 9:=⟨_,underlying9,rfl⟩
theorem XF:L1 prog 99:=⟨_,underlying99,rfl⟩
theorem cN:FA prog 109 0 0:=⟨λ_ _ _=>aQ 26 0 underlying109 rfl aMv rfl⟩
theorem dR:FA prog 109 1 1:=⟨λ_ _ _=>aQ 48 1 underlying109 rfl aMu rfl⟩
theorem cA:FA prog 109 2 2:=⟨λ_ _ _=>aQ 107 2 underlying109 rfl LN rfl⟩
theorem dQ:FA prog 109 3 3:=⟨λ_ _ _=>aQ 3 3 underlying109 rfl gW rfl⟩
theorem eA:FA prog 109 4 4:=⟨λ_ _ _=>aQ 3 4 underlying109 rfl gW rfl⟩
theorem cM:FA prog 114 0 0:=⟨λ_ _ _=>aQ 3 0 underlying114 rfl gW rfl⟩
theorem fH:FA prog 114 1 1:=⟨λ_ _ _=>aQ 3 1 underlying114 rfl gW rfl⟩
theorem cI:FA prog 114 2 2:=⟨λ_ _ _=>aQ 3 2 underlying114 rfl gW rfl⟩
theorem fG:FA prog 114 3 3:=⟨λ_ _ _=>aQ 74 3 underlying114 rfl lR rfl⟩
theorem dZ:FA prog 114 4 7:=⟨λ_ _ _=>aQ 37 7 underlying114 rfl yB rfl⟩
theorem cZ:FA prog 114 5 8:=⟨λ_ _ _=>aQ 37 8 underlying114 rfl yB rfl⟩
theorem dG:FA prog 125 0 0:=⟨λ_ _ _=>aQ 50 0 underlying125 rfl BI rfl⟩
theorem dP:FA prog 127 0 0:=⟨λ_ _ _=>aQ 3 0 underlying127 rfl gW rfl⟩
theorem eP:FA prog 127 3 3:=⟨λ_ _ _=>aQ 4 3 underlying127 rfl oW rfl⟩
theorem bO:FA prog 127 4 4:=⟨λ_ _ _=>aQ 23 4 underlying127 rfl lA rfl⟩
theorem bW:FA prog 134 0 0:=⟨λ_ _ _=>aQ 100 0 underlying134 rfl aPu rfl⟩
theorem cH:FA prog 134 1 1:=⟨λ_ _ _=>aQ 24 1 underlying134 rfl OO rfl⟩
theorem cY:FA prog 134 2 2:=⟨λ_ _ _=>aQ 132 2 underlying134 rfl DC rfl⟩
theorem fD:FA prog 134 3 3:=⟨λ_ _ _=>aQ 23 3 underlying134 rfl lA rfl⟩
theorem fB:FA prog 134 4 4:=⟨λ_ _ _=>aQ 23 4 underlying134 rfl lA rfl⟩
theorem bJ:FA prog 139 0 0:=⟨λ_ _ _=>aQ 137 0 underlying139 rfl aPq rfl⟩
theorem dO:FA prog 139 1 1:=⟨λ_ _ _=>aQ 24 1 underlying139 rfl OO rfl⟩
theorem eO:FA prog 139 2 2:=⟨λ_ _ _=>aQ 132 2 underlying139 rfl DC rfl⟩
theorem eM:FA prog 156 0 0:=⟨λ_ _ _=>aQ 3 0 underlying156 rfl gW rfl⟩
theorem bV:FA prog 156 1 1:=⟨λ_ _ _=>aQ 154 1 underlying156 rfl oX rfl⟩
theorem eJ:FA prog 180 0 0:=⟨λ_ _ _=>aQ 9 0 underlying180 rfl aFe rfl⟩
theorem dF:FA prog 180 1 1:=⟨λ_ _ _=>aQ 3 1 underlying180 rfl gW rfl⟩
theorem cL:FA prog 180 2 2:=⟨λ_ _ _=>aQ 42 2 underlying180 rfl iV rfl⟩
theorem cX:FA prog 180 3 3:=⟨λ_ _ _=>aQ 3 3 underlying180 rfl gW rfl⟩
theorem eI:FA prog 193 0 0:=⟨λ_ _ _=>aQ 3 0 underlying193 rfl gW rfl⟩
theorem cK:FA prog 193 1 1:=⟨λ_ _ _=>aQ 154 1 underlying193 rfl oX rfl⟩
theorem bN:FA prog 252 0 0:=⟨λ_ _ _=>aQ 71 0 underlying252 rfl uC rfl⟩
theorem dY:FA prog 252 1 1:=⟨λ_ _ _=>aQ 42 1 underlying252 rfl iV rfl⟩
theorem fQ:FA prog 252 2 2:=⟨λ_ _ _=>aQ 3 2 underlying252 rfl gW rfl⟩
theorem dX:FA prog 252 3 3:=⟨λ_ _ _=>aQ 42 3 underlying252 rfl iV rfl⟩
theorem fP:FA prog 252 4 4:=⟨λ_ _ _=>aQ 3 4 underlying252 rfl gW rfl⟩
theorem iC:FA prog 254 0 0:=⟨λ_ _ _=>aQ 3 0 underlying254 rfl gW rfl⟩
theorem cW:FA prog 254 1 1:=⟨λ_ _ _=>aQ 3 1 underlying254 rfl gW rfl⟩
theorem fO:FA prog 254 2 2:=⟨λ_ _ _=>aQ 3 2 underlying254 rfl gW rfl⟩
theorem iB:FA prog 254 3 3:=⟨λ_ _ _=>aQ 3 3 underlying254 rfl gW rfl⟩
theorem dE:FA prog 266 0 0:=⟨λ_ _ _=>aQ 4 0 underlying266 rfl oW rfl⟩
theorem dD:FA prog 266 1 1:=⟨λ_ _ _=>aQ 4 1 underlying266 rfl oW rfl⟩
theorem dC:FA prog 283 0 0:=⟨λ_ _ _=>aQ 26 0 underlying283 rfl aMv rfl⟩
theorem jD:FA prog 283 1 1:=⟨λ_ _ _=>aQ 48 1 underlying283 rfl aMu rfl⟩
theorem iA:FA prog 283 2 2:=⟨λ_ _ _=>aQ 3 2 underlying283 rfl gW rfl⟩
theorem gE:FA prog 283 3 3:=⟨λ_ _ _=>aQ 3 3 underlying283 rfl gW rfl⟩
theorem gD:FA prog 283 4 4:=⟨λ_ _ _=>aQ 3 4 underlying283 rfl gW rfl⟩
theorem bI:FA prog 283 5 5:=⟨λ_ _ _=>aQ 42 5 underlying283 rfl iV rfl⟩
theorem jY:FA prog 290 0 0:=⟨λ_ _ _=>aQ 5 0 underlying290 rfl mR rfl⟩
theorem jX:FA prog 290 1 1:=⟨λ_ _ _=>aQ 5 1 underlying290 rfl mR rfl⟩
theorem kP:FA prog 46 0 0:=⟨λ_ _ _=>aQ 9 0 underlying46 rfl aFe rfl⟩
theorem iI:FA prog 46 1 1:=⟨λ_ _ _=>aQ 42 1 underlying46 rfl iV rfl⟩
theorem cS:FA prog 46 2 2:=⟨λ_ _ _=>aQ 43 2 underlying46 rfl GG rfl⟩
theorem bP:FA prog 46 3 3:=⟨λ_ _ _=>aQ 44 3 underlying46 rfl GF rfl⟩
theorem iH:FA prog 46 4 4:=⟨λ_ _ _=>aQ 42 4 underlying46 rfl iV rfl⟩
theorem lH:FA prog 66 0 0:=⟨λ_ _ _=>aQ 50 0 underlying66 rfl BI rfl⟩
theorem bU:FA prog 70 0 0:=⟨λ_ _ _=>aQ 3 0 underlying70 rfl gW rfl⟩
theorem bD:FA prog 70 1 1:=⟨λ_ _ _=>aQ 3 1 underlying70 rfl gW rfl⟩
theorem oM:FA prog 70 2 2:=⟨λ_ _ _=>aQ 3 2 underlying70 rfl gW rfl⟩
theorem fN:FA prog 74 0 0:=⟨λ_ _ _=>aQ 42 0 underlying74 rfl iV rfl⟩
theorem iZ:FA prog 74 1 1:=⟨λ_ _ _=>aQ 3 1 underlying74 rfl gW rfl⟩
theorem oL:FA prog 74 2 2:=⟨λ_ _ _=>aQ 42 2 underlying74 rfl iV rfl⟩
theorem gJ:FA prog 74 3 3:=⟨λ_ _ _=>aQ 71 3 underlying74 rfl uC rfl⟩
theorem aQy:BD prog 109 [(.pointer none),(.pointer none),(.slice none 0 0),(.int .i64 0),(.int .i64 0)]:=⟨_,_,underlying109,aPt,λw=>by kernel_rfl⟩
theorem aQx:BD prog 125 [(.slice none 0 0)]:=⟨_,_,underlying125,aPs,λw=>by kernel_rfl⟩
theorem lI:BD prog 127 [(.int .i64 0),(.int .i64 0),(.int .i64 0),(.bool false),(.slice none 0 0)]:=⟨_,_,underlying127,fI,λw=>by kernel_rfl⟩
theorem aQw:BD prog 134 [(.pointer none),(.slice none 0 0),(.slice none 0 0),(.slice none 0 0),(.slice none 0 0)]:=⟨_,_,underlying134,aPr,λw=>by kernel_rfl⟩
theorem aQv:BD prog 139 [(.pointer none),(.slice none 0 0),(.slice none 0 0),(.slice none 0 0),(.slice none 0 0)]:=⟨_,_,underlying139,aPp,λw=>by kernel_rfl⟩
theorem aQu:BD prog 156 [(.int .i64 0),(.slice none 0 0)]:=⟨_,_,underlying156,aPo,λw=>by kernel_rfl⟩
theorem DJ:BD prog 180 [(.string ByteArray.empty),(.int .i64 0),(.slice none 0 0),(.int .i64 0)]:=⟨_,_,underlying180,mY,λw=>by kernel_rfl⟩
theorem aQt:BD prog 193 [(.int .i64 0),(.slice none 0 0)]:=⟨_,_,underlying193,aPn,λw=>by kernel_rfl⟩
theorem YI:BD prog 252 [(.slice none 0 0),(.slice none 0 0),(.int .i64 0),(.slice none 0 0),(.int .i64 0)]:=⟨_,_,underlying252,aPm,λw=>by kernel_rfl⟩
theorem aQs:BD prog 266 [(.bool false),(.bool false)]:=⟨_,_,underlying266,aPl,λw=>by kernel_rfl⟩
theorem MH:BD prog 283 [(.pointer none),(.pointer none),(.int .i64 0),(.int .i64 0),(.int .i64 0),(.slice none 0 0)]:=⟨_,_,underlying283,LL,λw=>by kernel_rfl⟩
theorem YH:BD prog 46 [(.string ByteArray.empty),(.slice none 0 0),(.slice none 0 0),(.slice none 0 0),(.slice none 0 0)]:=⟨_,_,underlying46,iN,λw=>by kernel_rfl⟩
theorem sK:BD prog 54 [(.int .i64 0),(.int .i64 0),(.int .i64 0),(.int .i64 0)]:=⟨_,_,underlying54,GE,λw=>by kernel_rfl⟩
theorem sJ:BD prog 70 [(.int .i64 0),(.int .i64 0),(.int .i64 0)]:=⟨_,_,underlying70,oA,λw=>by kernel_rfl⟩
theorem yR:BD prog 74 [(.slice none 0 0),(.int .i64 0),(.slice none 0 0),(.slice none 0 0)]:=⟨_,_,underlying74,lR,λw=>by kernel_rfl⟩
theorem YG:BD prog 76 [(.int .i64 0),(.int .i64 0)]:=⟨_,_,underlying76,GD,λw=>by kernel_rfl⟩
theorem oP:SA prog 127 5:=⟨_,_,fI,by decide⟩
theorem VH:SA prog 180 4:=⟨_,_,mY,by decide⟩
theorem KV:SA prog 283 6:=⟨_,_,LL,by decide⟩
theorem aNx:SA prog 290 2:=⟨_,_,LK,by decide⟩
theorem FB:SA prog 46 5:=⟨_,_,iN,by decide⟩
theorem NR:SA prog 74 4:=⟨_,_,lR,by decide⟩
theorem VG:SA prog 76 2:=⟨_,_,GD,by decide⟩
end Go.Proofs.YtgkkecladbmjkaaGreatDoor
