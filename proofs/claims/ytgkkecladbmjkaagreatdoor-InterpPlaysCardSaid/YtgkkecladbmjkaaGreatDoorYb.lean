/- The laws of single operations in the calculus of verification conditions, over any program; readings of slices; what a call leaves as it was. -/
import Derived.Test.YtgkkecladbmjkaaGreatDoorYa
import Derived.OwnWalk
import Derived.Below
import Derived.ArgAppend
import Derived.Test.YtgkkecladbmjkaaGreatDoorProg
import Derived.KernelRfl
set_option linter.unusedSimpArgs false
namespace Go.Vc
abbrev i64 (n:Int):O:=.int .i64 n
abbrev i32 (n:Int):O:=.int .i32 n
abbrev vb (b:Bool):O:=.bool b
abbrev bT:O:=.slice none 0 0
abbrev gB (w w':Ω) (r:Option Nat):Prop:=w.grownBy w' r
section
variable {P:Program} {w:Ω} {K:O->Ω->Prop}
theorem V.iff {s:Sem O} {v:O} {w':Ω} (h:s.run P w=.ok v w'):V P s w K↔K v w':=
 ⟨λ⟨_,_,h',hk⟩=>by rw [h] at h';cases h';exact hk,λhk=>⟨v,w',h,hk⟩⟩
theorem U.iff {s:Sem Unit} {w':Ω} (h:s.run P w=.ok () w'):U P s w K↔K undef w':=
 ⟨λ⟨_,h',hk⟩=>by rw [h] at h';cases h';exact hk,λhk=>⟨w',h,hk⟩⟩
theorem V.ok {s:Sem O} {v:O} {w':Ω} (h:s.run P w=.ok v w') (hk:K v w'):V P s w K:=⟨v,w',h,hk⟩
theorem U.ok {s:Sem Unit} {w':Ω} (h:s.run P w=.ok () w') (hk:K undef w'):U P s w K:=⟨w',h,hk⟩
theorem aC.mono {f:FuncId} {args:Array O} {R:O->Ω->Prop} (h:aC P f args w R) (hk:∀ v w',R v w'->K v w'):aC P f args w K:=
 ⟨⟨h.ex.1,Calls.mono h.ex.2 λ_ _ ⟨v,he,hr⟩=>⟨v,he,hk v _ hr⟩⟩⟩
theorem aC.of_calls {f:FuncId} {fn:Func} {c:Code} {args:Array O} (hf:P.funcs[f]?=some fn) (hname:(fn.name == "runtime.NumGoroutine")=false) (hb:fn.body=some c)
  (h:Calls P f args w λe w'=>∃ v,e=.returned v/\K v w'):aC P f args w K:=by
 refine ⟨⟨λargs w=>?_,h⟩⟩;have hname':¬ fn.name = "runtime.NumGoroutine" := by simpa using hname
 simp [callFunc,program,Sem.run,hf,hname',hb]
theorem aNt {P:Program} {f:FuncId} {fn:Func} {args:List O} {w:Ω} {R:O->Ω->Prop} {D:Prop} (hm:P.follows .mixedOrders=true) (ann:AU) (hf:P.funcs[f]?=some fn)
  (hb:(!(fn.name == "runtime.NumGoroutine")&&fn.body.isSome&&(ok fn.ntmps ann (fn.body.getD .skip)&&CK fn.ntmps fn.results.toList&&Nat.ble args.length fn.ntmps))=true)
  (hD:D=vc P ann (fn.body.getD .skip) (aLl P fn.results.toList R) (uM args) w) (h:D):aC P f args.toArray w R:=by
 simp only [Bool.and_eq_true,Bool.not_eq_true'] at hb;obtain ⟨⟨h1,h2⟩,h3,h4⟩:=hb
 have hbody:fn.body=some (fn.body.getD .skip):=by
  cases e:fn.body with
  | none=>rw [e] at h2;cases h2
  | some c=>rfl
 refine aC.of_calls hf h1 hbody (IF ann hm hf hbody (by simp only [Bool.and_eq_true];exact ⟨h3,h4⟩) (hD▸h))
theorem aO.mk {b:Bool} {x y:Prop} (h1:b=true->x) (h2:b=false->y):aO (.bool b) x y:=⟨b,rfl,h1,h2⟩
theorem aE {x y:Prop}:aO (.bool true) x y↔x:=⟨λ⟨b,h,h1,_⟩=>by cases h;exact h1 rfl,λh=>⟨true,rfl,λ_=>h,λh=>by cases h⟩⟩
theorem aA {x y:Prop}:aO (.bool false) x y↔y:=⟨λ⟨b,h,_,h2⟩=>by cases h;exact h2 rfl,λh=>⟨false,rfl,(λh=>by cases h),λ_=>h⟩⟩
theorem aK {p:Prop} [Decidable p] {x y:Prop} (h1:p->x) (h2:¬ p->y):aO (.bool (decide p)) x y:=
 ⟨_,rfl,λh=>h1 (of_decide_eq_true h),λh=>h2 (of_decide_eq_false h)⟩
theorem ZJ {b:Bool} {x y:O} {L:O->Prop} (h:L (if b then x else y)):aN (.bool b) x y L:=⟨b,rfl,h⟩
theorem aJ {b:Bool} {x y:O} {L:O->Prop}:aN (.bool b) x y L↔L (if b then x else y):=⟨λ⟨_,h,hk⟩=>by cases h;exact hk,ZJ⟩
theorem EM {b want:Bool} {step:(O->Ω->Prop)->Prop}:gd (.bool b) want step w K↔if b=want then step K else K undef w:=by
 constructor
 ·rintro ⟨h1,h2⟩;split
  ·rename_i hb;exact h1 (by rw [hb])
  ·rename_i hb;exact h2 (by simpa using hb)
 ·intro h;by_cases hb:b=want
  ·rw [if_pos hb] at h;exact ⟨λ_=>h,λh'=>absurd (by rw [hb]) h'⟩
  ·rw [if_neg hb] at h;exact ⟨λh'=>absurd (by simpa using h') hb,λ_=>h⟩
theorem xJ {b want:Bool} {step:(O->Prop)->Prop} {L:O->Prop}:pN (.bool b) want step L↔if b=want then step L else L undef:=by
 constructor
 ·rintro ⟨h1,h2⟩;split
  ·rename_i hb;exact h1 (by rw [hb])
  ·rename_i hb;exact h2 (by simpa using hb)
 ·intro h;by_cases hb:b=want
  ·rw [if_pos hb] at h;exact ⟨λ_=>h,λh'=>absurd (by rw [hb]) h'⟩
  ·rw [if_neg hb] at h;exact ⟨λh'=>absurd (by simpa using h') hb,λ_=>h⟩
theorem aAq {want:Bool} {step:(O->Ω->Prop)->Prop}:gd undef want step w K↔K undef w:=
 ⟨λ⟨_,h2⟩=>h2 (by simp [undef]),λh=>⟨λh'=>by simp [undef] at h',λ_=>h⟩⟩
theorem WB {want:Bool} {step:(O->Prop)->Prop} {L:O->Prop}:pN undef want step L↔L undef:=
 ⟨λ⟨_,h2⟩=>h2 (by simp [undef]),λh=>⟨λh'=>by simp [undef] at h',λ_=>h⟩⟩
theorem EL {step:(O->Ω->Prop)->Prop}:gd (.bool true) true step w K↔step K:=by rw [EM];simp
theorem dJ {step:(O->Ω->Prop)->Prop}:gd (.bool false) false step w K↔step K:=by rw [EM];simp
theorem kB {step:(O->Ω->Prop)->Prop}:gd (.bool true) false step w K↔K undef w:=by rw [EM];simp
theorem CV {step:(O->Ω->Prop)->Prop}:gd (.bool false) true step w K↔K undef w:=by rw [EM];simp
theorem aKg {step:(O->Prop)->Prop} {L:O->Prop}:pN (.bool true) true step L↔step L:=by rw [xJ];simp
theorem kC {step:(O->Prop)->Prop} {L:O->Prop}:pN (.bool false) false step L↔step L:=by rw [xJ];simp
theorem zI {step:(O->Prop)->Prop} {L:O->Prop}:pN (.bool true) false step L↔L undef:=by rw [xJ];simp
theorem aAr {step:(O->Prop)->Prop} {L:O->Prop}:pN (.bool false) true step L↔L undef:=by rw [xJ];simp
theorem aH.mk' {body:(Ω->Prop)->Ω->Prop} (S:Ω->Prop) (hS:S w.drew) (h:body S w.drew):aH w body:=⟨S,hS,h⟩
theorem aD.ok {S:Ω->Prop} {s:Sem O} {v:O} {L:O->Prop} (h:∀ w,S w->s.run P w=.ok v w) (hk:L v):aD P S s L:=⟨v,h,hk⟩
end
theorem pE {P:Program} {w:Ω} {k:IntKind} {t:TypeId} {a b:Int}:(binOp .lss t (.int k a) (.int k b)).run P w=.ok (.bool (decide (a < b))) w:=by simp [binOp,Op.intCmp]
theorem aV {P:Program} {w:Ω} {K:O->Ω->Prop} {k:IntKind} {t:TypeId} {a b:Int}:V P (binOp .lss t (.int k a) (.int k b)) w K↔K (.bool (decide (a < b))) w:=V.iff (by exact pE )
theorem aSp {P:Program} {w:Ω} {k:IntKind} {t:TypeId} {a b:Int}:(binOp .leq t (.int k a) (.int k b)).run P w=.ok (.bool (decide (a<=b))) w:=by simp [binOp,Op.intCmp]
theorem SD {P:Program} {w:Ω} {K:O->Ω->Prop} {k:IntKind} {t:TypeId} {a b:Int}:V P (binOp .leq t (.int k a) (.int k b)) w K↔K (.bool (decide (a<=b))) w:=V.iff (by exact aSp )
theorem vD {P:Program} {w:Ω} {k:IntKind} {t:TypeId} {a b:Int}:(binOp .gtr t (.int k a) (.int k b)).run P w=.ok (.bool (decide (a > b))) w:=by simp [binOp,Op.intCmp]
theorem dR {P:Program} {w:Ω} {K:O->Ω->Prop} {k:IntKind} {t:TypeId} {a b:Int}:V P (binOp .gtr t (.int k a) (.int k b)) w K↔K (.bool (decide (a > b))) w:=V.iff (by exact vD )
theorem BV {P:Program} {w:Ω} {k:IntKind} {t:TypeId} {a b:Int}:(binOp .geq t (.int k a) (.int k b)).run P w=.ok (.bool (decide (a>=b))) w:=by simp [binOp,Op.intCmp]
theorem kU {P:Program} {w:Ω} {K:O->Ω->Prop} {k:IntKind} {t:TypeId} {a b:Int}:V P (binOp .geq t (.int k a) (.int k b)) w K↔K (.bool (decide (a>=b))) w:=V.iff (by exact BV )
theorem nW {P:Program} {w:Ω} {k:IntKind} {t:TypeId} {a b:Int}:(binOp .add t (.int k a) (.int k b)).run P w=.ok (.int k (k.wrap (a+b))) w:=by simp [binOp,Op.intArith]
theorem bW {P:Program} {w:Ω} {K:O->Ω->Prop} {k:IntKind} {t:TypeId} {a b:Int}:V P (binOp .add t (.int k a) (.int k b)) w K↔K (.int k (k.wrap (a+b))) w:=V.iff (by exact nW )
theorem mB {P:Program} {w:Ω} {k:IntKind} {t:TypeId} {a b:Int}:(binOp .sub t (.int k a) (.int k b)).run P w=.ok (.int k (k.wrap (a - b))) w:=by simp [binOp,Op.intArith]
theorem jV {P:Program} {w:Ω} {K:O->Ω->Prop} {k:IntKind} {t:TypeId} {a b:Int}:V P (binOp .sub t (.int k a) (.int k b)) w K↔K (.int k (k.wrap (a - b))) w:=V.iff (by exact mB )
theorem GY {P:Program} {w:Ω} {k:IntKind} {t:TypeId} {a b:Int}:(binOp .mul t (.int k a) (.int k b)).run P w=.ok (.int k (k.wrap (a*b))) w:=by simp [binOp,Op.intArith]
theorem aKm {P:Program} {w:Ω} {K:O->Ω->Prop} {k:IntKind} {t:TypeId} {a b:Int}:V P (binOp .mul t (.int k a) (.int k b)) w K↔K (.int k (k.wrap (a*b))) w:=V.iff (by exact GY )
theorem GW {P:Program} {w:Ω} {k:IntKind} {t:TypeId} {a b:Int} (h:b≠0):(binOp .quo t (.int k a) (.int k b)).run P w=.ok (.int k (k.wrap (a.tdiv b))) w:=by simp [binOp,Op.intDiv,h]
theorem aBv {P:Program} {w:Ω} {K:O->Ω->Prop} {k:IntKind} {t:TypeId} {a b:Int} (h:b≠0):V P (binOp .quo t (.int k a) (.int k b)) w K↔K (.int k (k.wrap (a.tdiv b))) w:=V.iff (by exact GW h)
theorem aSo {P:Program} {w:Ω} {k:IntKind} {t:TypeId} {a b:Int} (h:b≠0):(binOp .rem t (.int k a) (.int k b)).run P w=.ok (.int k (a.tmod b)) w:=by simp [binOp,Op.intDiv,h]
theorem aLz {P:Program} {w:Ω} {k:IntKind} {t:TypeId} {x y:Operand} {a b:Int}:(do eqGuard .eql t x y (.int k a) (.int k b);binOp .eql t (.int k a) (.int k b)).run P w=.ok (.bool (decide (a=b))) w:=by simp [eqGuard,binOp,Op.intCmp];rfl
theorem aF {P:Program} {w:Ω} {K:O->Ω->Prop} {k:IntKind} {t:TypeId} {x y:Operand} {a b:Int}:V P (do eqGuard .eql t x y (.int k a) (.int k b);binOp .eql t (.int k a) (.int k b)) w K↔K (.bool (decide (a=b))) w:=V.iff (by exact aLz )
theorem lR {P:Program} {w:Ω} {k:IntKind} {t:TypeId} {x y:Operand} {a b:Int}:(do eqGuard .neq t x y (.int k a) (.int k b);binOp .neq t (.int k a) (.int k b)).run P w=.ok (.bool (decide (a≠b))) w:=by simp [eqGuard,binOp,Op.intCmp,bne];rfl
theorem aS {P:Program} {w:Ω} {K:O->Ω->Prop} {k:IntKind} {t:TypeId} {x y:Operand} {a b:Int}:V P (do eqGuard .neq t x y (.int k a) (.int k b);binOp .neq t (.int k a) (.int k b)) w K↔K (.bool (decide (a≠b))) w:=V.iff (by exact lR )
theorem BS {P:Program} {w:Ω} {b:Bool}:(Op.unary .not (.bool b)).run P w=.ok (.bool (!b)) w:=by simp [Op.unary]
theorem fN {P:Program} {w:Ω} {K:O->Ω->Prop} {b:Bool}:V P (Op.unary .not (.bool b)) w K↔K (.bool (!b)) w:=V.iff (by exact BS )
theorem QJ {P:Program} {w:Ω} {k:IntKind} {a:Int}:(Op.unary .neg (.int k a)).run P w=.ok (.int k (k.wrap (0 - a))) w:=by simp [Op.unary,Op.intArith]
theorem iQ {P:Program} {w:Ω} {a b:O}:(Instr.extract (.tuple #[a,b]) 0).run P w=.ok a w:=by simp [Instr.extract]
theorem cL {P:Program} {w:Ω} {K:O->Ω->Prop} {a b:O}:V P (Instr.extract (.tuple #[a,b]) 0) w K↔K a w:=V.iff (by exact iQ )
theorem iP {P:Program} {w:Ω} {a b:O}:(Instr.extract (.tuple #[a,b]) 1).run P w=.ok b w:=by simp [Instr.extract]
theorem cK {P:Program} {w:Ω} {K:O->Ω->Prop} {a b:O}:V P (Instr.extract (.tuple #[a,b]) 1) w K↔K b w:=V.iff (by exact iP )
theorem jD {n:Int} (h1:-9223372036854775808<=n) (h2:n<=9223372036854775807):IntKind.i64.wrap n=n:=by
 simp only [IntKind.wrap_i64];omega
theorem aX {n:Int} (h:-9223372036854775808<=n/\n<=9223372036854775807):IntKind.i64.wrap n=n:=jD h.1 h.2
def cV (P:Program) (t:TypeId) (z:O) (n bytes:Nat):Prop:=(P.info? t).map (λi=>(i.zero,i.size,i.bytes))=some (some z,n,bytes)
section
variable {P:Program} {w:Ω} {K:O->Ω->Prop}
theorem uX {t:TypeId} {z:O} {n b:Nat} (h:cV P t z n b):(zeroValue t).run P w=.ok z w:=by
 obtain ⟨i,hi,hz,_⟩:=info_parts h;simp [zeroValue,typeInfo,hi,hz]
theorem dU {t:TypeId} {z:O} {n b:Nat} (h:cV P t z n b):(sizeOf t).run P w=.ok n w:=by
 obtain ⟨i,hi,_,hn,_⟩:=info_parts h;simp [sizeOf,typeInfo,hi,hn]
theorem jR {s e ty:TypeId} (hs:P.underlying s=some (.slice e)) {a:Option Addr} {n c:Nat}:(Builtin.len_ #[s] ty #[.slice a n c]).run P w=.ok (.int .i64 n) w:=by
 simp [Builtin.len_,run_underlying hs,goInt]
def aSw:TypeDesc->Bool
 | .interface _=>false
 | _=>true
theorem QO {t:TypeId} {z:O} {n b:Nat} (hz:cV P t z n b):(Instr.alloc t true (.tuple #[])).run P w=.ok (.pointer (some ⟨w.heap.size,0,none⟩)) (w.alloc (.cells z.cells t)):=by
 simp [Instr.alloc,uX hz,newVar,newRow,newObj,Sem.run]
theorem aJv {t:TypeId} {v:O}:(Instr.box t v).run P w=.ok (.pointer (some ⟨w.heap.size,0,none⟩)) (w.alloc (.cells v.cells t)):=by
 simp [Instr.box,newVar,newRow,newObj,Sem.run]
theorem gO (b off n:Nat):(⟨b,off,none⟩:Addr).add n=⟨b,off+n,none⟩:=by
 unfold Addr.add;split
 ·rename_i h;subst h;rfl
 ·rfl
theorem aQ {s:TypeId} {fs:Array Field} {f:Nat} (ft:TypeId) (o:Nat) {z:O} {n by_:Nat} (hs:P.underlying s=some (.struct fs)) (hf:(fs[f]?).map (λfd=>(fd.type,fd.offset))=some (ft,o)) (hi:cV P ft z n by_) (hn:(n == 0)=false) {b off:Nat} :
  (Instr.fieldAt s (.pointer (some ⟨b,off,none⟩)) f).run P w=.ok (.pointer (some ⟨b,off+o,none⟩)) w:=by
 obtain ⟨fd,hfd,he⟩:=Option.map_eq_some_iff.1 hf;simp only [Prod.mk.injEq] at he;obtain ⟨rfl,rfl⟩:=he;have hn':n≠0:=by simpa using hn
 simp [Instr.fieldAt,run_underlying hs,hfd,Instr.sureAddr,fieldPlace,dU hi,hn',gO]
theorem gE {t e:TypeId} {z:O} {n by_:Nat} (ht:P.underlying t=some (.slice e)) (hi:cV P e z n by_) {b off len cap:Nat} {k:IntKind} {i:Int} (h0:0<=i) (h1:i < len) :
  (Instr.indexAt t (.slice (some ⟨b,off,none⟩) len cap) (.int k i)).run P w=.ok (.pointer (some ⟨b,off+i.toNat*n,none⟩)) w:=by
 simp [Instr.indexAt,asIntOf,run_underlying ht,h0,h1,dU hi,gO]
def oC:TypeDesc->Bool
 | .struct _|.array _ _=>true
 | _=>false
theorem sY {t:TypeId} {d:TypeDesc} (ht:P.underlying t=some d):(isAgg t).run P w=.ok (oC d) w:=by
 cases d<;>simp [isAgg,run_underlying ht,oC]
theorem jX {t:TypeId} {d:TypeDesc} (ht:P.underlying t=some d) (hd:oC d=false) {a:Addr} {v:O} (h:w.cell? a=some v) :
  (Instr.loadAt t (.pointer (some a))).run P w=.ok v w:=by
 simp [Instr.loadAt,Instr.sureAddr,loadVar,sY ht,hd,load,Sem.run,h]
theorem vA {b off:Nat} (cs:List O):∀ (l:List O) (i:Nat) (acc:Array O),(∀ j (_:j < l.length),w.cell? ⟨b,off+(i+j),none⟩=l[j]?) ->
  (loadCellsFrom ⟨b,off,none⟩ i l.length acc).run P w=.ok (acc++l.toArray) w
 | [],_,acc,_=>by simp [loadCellsFrom]
 | v::l,i,acc,h=>by
  have h0:=h 0 (by simp);simp only [Nat.add_zero,List.getElem?_cons_zero] at h0;simp only [List.length_cons,loadCellsFrom,load,gO,Sem.run_bind,Sem.run,h0,Result.andThen_ok]
  rw [vA cs l (i+1) (acc.push v) (λj hj=>by
   have:=h (j+1) (by simp;omega);rw [show i+1+j=i+(j+1) from by omega];simpa using this)]
  simp
theorem kF {t:TypeId} {d:TypeDesc} {z:O} {n by_:Nat} (ht:P.underlying t=some d) (hd:oC d=true) (hi:cV P t z n by_) {b off:Nat} {cs:List O} (hl:cs.length=n)
  (h:∀ j (_:j < cs.length),w.cell? ⟨b,off+j,none⟩=cs[j]?):(Instr.loadAt t (.pointer (some ⟨b,off,none⟩))).run P w=.ok (.agg cs.toArray) w:=by
 subst hl;have:=vA (P:=P) (w:=w) (b:=b) (off:=off) cs cs 0 #[] (by simpa using h);simp [Instr.loadAt,Instr.sureAddr,loadVar,sY ht,hd,dU hi,loadCells,this]
def cB:O->Bool
 | .agg _|.tuple _=>false
 | _=>true
theorem uH {v:O} (h:cB v=true):v.cells=#[v]:=by cases v<;>first|rfl|cases h
theorem uA {a:Addr} {v u:O} (hv:cB v=true) (h:w.cell? a=some u) (hf:w.frozen? a=false):(store a v).run P w=.ok () (w.setCell a v):=by
 cases v<;>first|(simp [store,Sem.run,h,hf];done)|cases hv
theorem lV {t:TypeId} {z:O} {by_:Nat} (hi:cV P t z 1 by_) {b off:Nat} {v u:O} (hv:cB v=true) (h:w.cell? ⟨b,off,none⟩=some u) (hf:w.frozen? ⟨b,off,none⟩=false) :
  (Instr.storeAt t (.pointer (some ⟨b,off,none⟩)) v).run P w=.ok () (w.setCell ⟨b,off,none⟩ v):=by
 simp [Instr.storeAt,Instr.sureAddr,storeVar,dU hi,uH hv,storeCells,uA hv h hf,gO]
theorem uY {t:TypeId}:∀ (l done old:List O),l.length=old.length->(∀ u∈l,cB u=true) ->
  (storeCells ⟨w.heap.size,0,none⟩ l done.length).run P (w.alloc (.cells (done++old).toArray t))=.ok () (w.alloc (.cells (done++l).toArray t))
 | [],done,[],_,_=>by simp [storeCells]
 | v::l,done,u::old,hl,h1=>by
  have hc:(w.alloc (.cells (done++u::old).toArray t)).cell? ⟨w.heap.size,done.length,none⟩=some u:=by simp
  have hf:(w.alloc (.cells (done++u::old).toArray t)).frozen? ⟨w.heap.size,done.length,none⟩=false:=by simp
  have hset:(w.alloc (.cells (done++u::old).toArray t)).setCell ⟨w.heap.size,done.length,none⟩ v=w.alloc (.cells (done++v::old).toArray t):=by
   simp only [World.setCell,World.alloc]
   congr 1
   apply Array.ext
   ·simp
   ·intro i h1 h2;simp only [Array.getElem_modify,Array.getElem_push];by_cases hi:i < w.heap.size
    ·have:¬ w.heap.size=i:=by omega
     simp [hi,this]
    ·have hi':w.heap.size=i:=by simp at h1;omega
     subst hi';simp
  simp only [storeCells,gO,Nat.zero_add,Sem.run_bind];rw [uA (h1 v (by simp)) hc hf,Result.andThen_ok,hset];have:=uY (t:=t) l (done++[v]) old (by simpa using hl) (λu hu=>h1 u (by simp [hu]));simpa using this
theorem NA {t t':TypeId} {z:O} {n by_:Nat} (hi:cV P t z n by_) {old:Array O} {v:O} (hn:v.cells.size=n) (ho:old.size=n) (h1:∀ u∈v.cells.toList,cB u=true) :
  (Instr.storeAt t (.pointer (some ⟨w.heap.size,0,none⟩)) v).run P (w.alloc (.cells old t'))=.ok () (w.alloc (.cells v.cells t')):=by
 have:=uY (P:=P) (w:=w) (t:=t') v.cells.toList [] old.toList (by simp [hn,ho]) h1;simp only [List.nil_append,List.length_nil,Array.toArray_toList] at this;simp [Instr.storeAt,Instr.sureAddr,storeVar,dU hi,hn,this]
def ldO (P:Program) (t:TypeId) (a:Addr) (o:Option O) (w:Ω) (K:O->Ω->Prop):Prop:=
 match o with
 | some v=>K v w
 | none=>V P (Instr.loadAt t (.pointer (some a))) w K
theorem ET {t:TypeId} {z:O} {n by_:Nat} (hi:cV P t z n by_) (hz:(z.cells.size == n)=true) {v:O} {K':O->Ω->Prop} (hn:v.cells.size=n) (h1:∀ u∈v.cells.toList,cB u=true) :
  V P (Instr.alloc t true (.tuple #[])) w (λp w1=>U P (Instr.storeAt t p v) w1 λ_ w2=>K' p w2)↔K' (.pointer (some ⟨w.heap.size,0,none⟩)) (w.alloc (.cells v.cells t)):=by
 rw [V.iff (QO hi)];exact U.iff (NA hi hn (by simpa using hz) h1)
theorem IA (e:Nat):∀ (l:List O) (done old:List O),l.length=old.length->(∀ u∈l,cB u=true) ->
  Instr.fill (λi=>some (i*1,1)) (done++old).toArray ((List.range' done.length l.length).zip l)=some (done++l).toArray
 | [],done,[],_,_=>by simp [Instr.fill]
 | v::l,done,u::old,hl,h1=>by
  have hv:=uH (h1 v (by simp));simp only [List.length_cons,List.range'_succ,List.zip_cons_cons,Instr.fill,hv];have:=IA e l (done++[v]) old (by simpa using hl) (λu hu=>h1 u (by simp [hu]));simp at this ⊢;exact this
theorem DW {s e:TypeId} {z:O} {by_:Nat} (hs:P.underlying s=some (.slice e)) (hi:cV P e z 1 by_) (hz:(z.cells.size == 1)=true) (l:List O) (hl:l.length<=16777216) (h1:∀ u∈l,cB u=true) :
  (Instr.buildSlice s l.length ((List.range' 0 l.length).zip l).toArray).run P w=.ok (.slice (some ⟨w.heap.size,0,none⟩) l.length l.length) (w.alloc (.cells l.toArray e)):=by
 obtain ⟨i,hi',hz',hn,hb⟩:=info_parts hi;have hz1:z.cells.size=1:=by simpa using hz
 by_cases h0:l.length=0
 ·obtain rfl:=List.length_eq_zero_iff.1 h0;have e0:Array.range 0=#[]:=by simp [Array.range]
  simp [Instr.buildSlice,run_underlying hs,sizeOf,typeInfo,hi',Instr.fill,newRow,newObj,Sem.run,e0]
 ·have hf:=IA 0 l [] ((Array.range (l.length*1)).map (λj=>z.cells[j % z.cells.size]!)).toList (by simp) h1;simp only [List.nil_append,List.length_nil,Array.toArray_toList] at hf;have hgt:¬ 16777216 < l.length:=by omega
  simp only [Instr.buildSlice,Sem.run_bind,run_underlying hs,Result.andThen_ok,dU hi];simp only [Nat.mul_one,h0,if_false];rw [if_neg (by simpa using hgt)];simp only [Nat.mul_one] at hf;simp [hf,newRow,newObj,Sem.run,uX hi]
theorem lZ (s:TypeId) (x y:O):Op.equal s x y=Op.equalIn (9999+1) s x y:=rfl
theorem NE {s e:TypeId} (hs:P.underlying s=some (.slice e)) (d:Nat) {a:Option Addr} {n c:Nat}:(Op.equalIn (d+1) s (.slice a n c) (.slice none 0 0)).run P w=.ok a.isNone w:=by
 cases a<;>simp [Op.equalIn,run_underlying hs]
theorem ZE {s:TypeId} (hs:P.underlying s=some .bool) (d:Nat) {a b:Bool}:(Op.equalIn (d+1) s (.bool a) (.bool b)).run P w=.ok (a == b) w:=by
 simp [Op.equalIn,run_underlying hs]
theorem lF {s e:TypeId} (hs:P.underlying s=some (.slice e)) {x y:Operand} {a:Option Addr} {n c:Nat} :
  (do eqGuard .eql s x y (.slice a n c) (.slice none 0 0);binOp .eql s (.slice a n c) (.slice none 0 0)).run P w=.ok (.bool a.isNone) w:=by
 simp [eqGuard,binOp,lZ,NE hs]
theorem ZA {s:TypeId} (hs:P.underlying s=some .bool) {x y:Operand} {a b:Bool} :
  (do eqGuard .eql s x y (.bool a) (.bool b);binOp .eql s (.bool a) (.bool b)).run P w=.ok (.bool (a == b)) w:=by
 simp [eqGuard,binOp,lZ,ZE hs]
theorem BU {s:TypeId} (hs:P.underlying s=some .bool) {x y:Operand} {a b:Bool} :
  (do eqGuard .neq s x y (.bool a) (.bool b);binOp .neq s (.bool a) (.bool b)).run P w=.ok (.bool (a != b)) w:=by
 simp [eqGuard,binOp,lZ,ZE hs,bne]
theorem bE {s d:TypeId} {ds:TypeDesc} {k k':IntKind} {n:Int} (hs:P.underlying s=some ds) (hd:P.underlying d=some (.int k')) :
  (convert s d (.int k n)).run P w=.ok (.int k' (k'.wrap n)) w:=by
 simp [convert,run_underlying hs,run_underlying hd,Conv.intToInt]
def aG (w w':Ω):Prop:=w.grownBy w' none
theorem aG.refl (w:Ω):aG w w:=⟨rfl,rfl,rfl,Nat.le_refl _,λ_ _ _=>rfl⟩
theorem aG.trans {a b c:Ω} (h:aG a b) (k:aG b c):aG a c:=
 ⟨k.os.trans h.os,k.tape.trans h.tape,k.output.trans h.output,Nat.le_trans h.size k.size,λi hi hn=>(k.block i (Nat.lt_of_lt_of_le hi h.size) hn).trans (h.block i hi hn)⟩
theorem aG.alloc {a w:Ω} (h:aG a w) (o:Obj):aG a (w.alloc o):=h.trans (World.grownBy_alloc _ _ _)
theorem aG.drew {a w:Ω} (h:aG a w):aG a w.drew:=⟨h.os,h.tape,h.output,h.size,h.block⟩
theorem aG.setCell {a w:Ω} (h:aG a w) {b o:Nat} (hb:a.heap.size<=b) (v:O):aG a (w.setCell ⟨b,o,none⟩ v):=
 ⟨h.os,h.tape,h.output,by simpa using h.size,λi hi hn=>by rw [RowKit.Below.heap_setCell _ _ _ _ (by simp;omega)];exact h.block i hi hn⟩
theorem aG.cell {a w:Ω} (h:aG a w) {p:Addr} {v:O} (hc:a.cell? p=some v):w.cell? p=some v:=World.grownBy.cell h hc (by simp)
theorem aG.obj {a w:Ω} (h:aG a w) {b:Nat} {o:Obj} (hb:a.heap[b]?=some o):w.heap[b]?=some o:=by
 have hlt:b < a.heap.size:=(Array.getElem?_eq_some_iff.1 hb).1;rw [h.block b hlt (by simp)];exact hb
theorem aG.grown {a w w':Ω} (h:aG a w) {row:Option Nat} (hg:w.grownBy w' row) (hr:∀ k,row=some k->a.heap.size<=k):aG a w':=
 ⟨hg.os.trans h.os,hg.tape.trans h.tape,hg.output.trans h.output,Nat.le_trans h.size hg.size,λi hi hn=>(hg.block i (Nat.lt_of_lt_of_le hi h.size) (λe=>by have:=hr i e.symm;omega)).trans (h.block i hi hn)⟩
theorem aG.own {a w:Ω} (h:aG a w) {B:Nat} {e:TypeId} {size n:Nat} {v:O} {xs:List O} (ho:a.ownsRow B e size v n xs):w.ownsRow B e size v n xs:=ho.kept h (by cases v.ownBlock<;>simp)
theorem aG.below {a w:Ω} (h:aG a w):RowKit.Below a.heap.size a w:=⟨h.os,h.tape,h.output,h.size,λk hk=>h.block k hk (by simp)⟩
def aB (w:Ω) (v:O) (size n:Nat) (cs:List O):Prop:=
 cs.length=n*size/\((v=.slice none 0 0/\n=0)\/∃ b off cap,v=.slice (some ⟨b,off,none⟩) n cap/\n<=cap/\cap<=maxLen/\∀ j u,cs[j]?=some u->w.cell? ⟨b,off+j,none⟩=some u)
theorem aB.ext {w w':Ω} {v:O} {size n:Nat} {cs:List O} (h:aB w v size n cs) (hx:aG w w'):aB w' v size n cs:=by
 obtain ⟨h1,h2⟩:=h;refine ⟨h1,?_⟩;rcases h2 with h2|⟨b,off,cap,h2,h3,h4,h5⟩
 ·exact .inl h2
 ·exact .inr ⟨b,off,cap,h2,h3,h4,λj u hj=>hx.cell (h5 j u hj)⟩
theorem aB.nil (w:Ω) (size:Nat):aB w (.slice none 0 0) size 0 []:=⟨by simp,.inl ⟨rfl,rfl⟩⟩
theorem aB.of_own {w:Ω} {B:Nat} {e:TypeId} {size n:Nat} {v:O} {xs:List O} (h:w.ownsRow B e size v n xs):aB w v size n xs:=by
 refine ⟨h.1,?_⟩;rcases h.2 with ⟨h1,h2⟩|⟨g,cap,cur,rfl,_,_,h4,h5,_⟩
 ·exact .inl ⟨h1,h2⟩
 ·exact .inr ⟨g,0,cap,rfl,h4,h5,λj u hj=>by have:=h.cells (g:=g) rfl j u hj;rwa [gO] at this⟩
theorem aB.shape {w:Ω} {v:O} {size n:Nat} {cs:List O} (h:aB w v size n cs):∃ a cap,v=.slice a n cap:=by
 rcases h.2 with ⟨rfl,rfl⟩|⟨b,off,cap,rfl,_⟩
 ·exact ⟨none,0,rfl⟩
 ·exact ⟨_,cap,rfl⟩
theorem aB.there {w:Ω} {v:O} {size n:Nat} {cs:List O} (h:aB w v size n cs) (hn:0 < n):∃ b off cap,v=.slice (some ⟨b,off,none⟩) n cap/\∀ j u,cs[j]?=some u->w.cell? ⟨b,off+j,none⟩=some u:=by
 rcases h.2 with ⟨_,rfl⟩|⟨b,off,cap,rfl,_,_,h5⟩
 ·omega
 ·exact ⟨b,off,cap,rfl,h5⟩
theorem aB.get {t e x:TypeId} {d:TypeDesc} {z:O} {by_:Nat} (ht:P.underlying t=some (.slice e)) (hi:cV P e z 1 by_) (hx:P.underlying x=some d) (hd:oC d=false) {v:O} {n:Nat} {cs:List O} (h:aB w v 1 n cs)
  {k:IntKind} {i:Int} {u:O} (h0:0<=i) (h1:i < n) (hu:cs[i.toNat]?=some u) (hk:K u w) :
  V P (Instr.indexAt t v (.int k i)) w λp w1=>V P (Instr.loadAt x p) w1 K:=by
 obtain ⟨b,off,cap,rfl,hc⟩:=h.there (by omega);refine V.ok (gE ht hi h0 h1) (V.ok (jX hx hd ?_) hk);simpa using hc _ _ hu
structure TA (P:Program) (u:TypeId):Prop where
 of ::
 ex:∃ z,(∀ (w:Ω) x t v,(Instr.typeAssert (.iface t v) x u true).run P w=.ok (if t=u then .tuple #[v,.bool true] else .tuple #[z,.bool false]) w) /\
 ∀ (w:Ω) x,(Instr.typeAssert .nilIface x u true).run P w=.ok (.tuple #[z,.bool false]) w
structure SA (P:Program) (t:TypeId) (n:Nat):Prop where
 of ::
 ex:∃ z by_,cV P t z n by_/\z.cells.size=n
structure FA (P:Program) (s f o:Nat):Prop where
 of ::
 ex:∀ (w:Ω) b off,(Instr.fieldAt s (.pointer (some ⟨b,off,none⟩)) f).run P w=.ok (.pointer (some ⟨b,off+o,none⟩)) w
structure L1 (P:Program) (t:TypeId):Prop where
 of ::
 ex:∃ d,P.underlying t=some d/\oC d=false
structure XA (P:Program) (t n:Nat):Prop where
 of ::
 ex:∃ e z by_,P.underlying t=some (.slice e)/\cV P e z n by_
theorem as_ {t n:TypeId} {v:O} {K':O->Ω->Prop} (h:SA P t n) (hn:v.cells.size=n) (h1:v.cells.toList.all cB=true) (hk:K' (.pointer (some ⟨w.heap.size,0,none⟩)) (w.alloc (.cells v.cells t))) :
  V P (Instr.alloc t true (.tuple #[])) w (λp w1=>U P (Instr.storeAt t p v) w1 λ_ w2=>K' p w2):=by
 obtain ⟨z,b,hi,hz⟩:=h;exact (ET hi (by simpa using hz) hn (λu hu=>List.all_eq_true.1 h1 u hu)).2 hk
theorem ldf {s f o ft b off:Nat} {u:O} (h:FA P s f o) (hl:L1 P ft) (hc:w.cell? ⟨b,off+o,none⟩=some u) (hk:K u w) :
  V P (Instr.fieldAt s (.pointer (some ⟨b,off,none⟩)) f) w λq w1=>V P (Instr.loadAt ft q) w1 K:=by
 obtain ⟨d,hd,ha⟩:=hl;exact V.ok (h.ex w b off) (V.ok (jX hd ha hc) hk)
theorem nO {t x:TypeId} {v:O} {n:Nat} {cs:List O} {k:IntKind} {i:Int} {u:O} (h:XA P t 1) (hl:L1 P x) (hs:aB w v 1 n cs) (h0:0<=i) (h1:i < n) (hu:cs[i.toNat]?=some u) (hk:K u w) :
  V P (Instr.indexAt t v (.int k i)) w λp w1=>V P (Instr.loadAt x p) w1 K:=by
 obtain ⟨e,z,b,ht,hi⟩:=h;obtain ⟨d,hd,ha⟩:=hl;exact hs.get ht hi hd ha h0 h1 hu hk
theorem gG {t ty n:Nat} {m:Nat} {v:O} {size:Nat} {cs:List O} (h:XA P t n) (hs:aB w v size m cs) (hk:K (i64 m) w):V P (Builtin.len_ #[t] ty #[v]) w K:=by
 obtain ⟨e,z,b,ht,hi⟩:=h;obtain ⟨a,c,rfl⟩:=hs.shape;exact V.ok (jR ht) hk
def gD (w:Ω) (b:Nat) (cs:List O):Prop:=∀ j u,cs[j]?=some u->w.cell? ⟨b,0+j,none⟩=some u
theorem gD.ext {w w':Ω} {b:Nat} {cs:List O} (h:gD w b cs) (hx:aG w w'):gD w' b cs:=λj u hj=>hx.cell (h j u hj)
theorem DC {cs:Array O} {t:TypeId}:gD (w.alloc (.cells cs t)) w.heap.size cs.toList:=λj u hj=>by simpa using hj
theorem bx {t:TypeId} {v:O} (hk:∀ b w1,gD w1 b v.cells.toList->aG w w1->K (.pointer (some ⟨b,0,none⟩)) w1):V P (Instr.box t v) w K:=
 V.ok aJv (hk _ _ DC ((aG.refl w).alloc _))
theorem asB {t n:TypeId} {v:O} {K':O->Ω->Prop} (h:SA P t n) (hn:v.cells.size=n) (h1:v.cells.toList.all cB=true) (hk:∀ b w1,gD w1 b v.cells.toList->aG w w1->K' (.pointer (some ⟨b,0,none⟩)) w1) :
  V P (Instr.alloc t true (.tuple #[])) w (λp w1=>U P (Instr.storeAt t p v) w1 λ_ w2=>K' p w2):=
 as_ h hn h1 (hk _ _ DC ((aG.refl w).alloc _))
theorem bA {s f o ft b:Nat} {cs:List O} {u:O} (hb:gD w b cs) (h:FA P s f o) (hl:L1 P ft) (hc:cs[o]?=some u) (hk:K u w) :
  V P (Instr.fieldAt s (.pointer (some ⟨b,0,none⟩)) f) w λq w1=>V P (Instr.loadAt ft q) w1 K:=ldf h hl (hb o u hc) hk
theorem qO {t n b:Nat} {cs:List O} (hb:gD w b cs) (ht:∃ d z by_,P.underlying t=some d/\oC d=true/\cV P t z n by_) (hl:cs.length=n) (hk:K (.agg cs.toArray) w):V P (Instr.loadAt t (.pointer (some ⟨b,0,none⟩))) w K:=by
 obtain ⟨d,z,by_,h1,h2,h3⟩:=ht
 exact V.ok (kF h1 h2 h3 hl λj hj=>by
  obtain ⟨u,hu⟩:∃ u,cs[j]?=some u:=⟨_,List.getElem?_eq_getElem hj⟩;rw [hu];exact hb j u hu) hk
structure XE (P:Program) (t e by_:Nat):Prop where
 of ::
 ex:∃ z,P.underlying t=some (.slice e)/\cV P e z 1 by_/\(z.cells.size == 1)=true
theorem tA (v:O):v.oneCell'=cB v:=by cases v<;>rfl
theorem mF {t e by_:Nat} (h:XE P t e by_) (l:List O) {n:Nat} {parts:Array (Nat × O)} (hn:n=l.length) (hp:parts=((List.range' 0 l.length).zip l).toArray) (hl:l.length<=16777216) (h1:l.all cB=true)
  (hk:∀ v w',w'.ownsRow w.heap.size e 1 v n l->aG w w'->K v w'):V P (Instr.buildSlice t n parts) w K:=by
 subst hn;subst hp;obtain ⟨z,ht,hi,hz⟩:=h;refine V.ok (DW ht hi hz l hl (λu hu=>List.all_eq_true.1 h1 u hu)) (hk _ _ ?_ ((aG.refl w).alloc _));have:=World.ownsRow_lit (base:=w.heap.size) (e:=e) (size:=1) w l.toArray l.length (Nat.le_refl _) (by unfold maxLen;omega) (by simp);simpa using this
theorem WT {t e by_ ty:Nat} (h:XE P t e by_) {B:Nat} {v:O} {n:Nat} {xs:List O} (ho:w.ownsRow B e 1 v n xs) {x:O} {m:Nat} {news:List O} (hs:aB w x 1 m news) (h1:news.all cB=true)
  (hb:(n+m)*by_<=140737488355328) (h63:n+m<=maxLen) (hB:B<=w.heap.size) (hk:∀ v' w',w'.ownsRow B e 1 v' (n+m) (xs++news)->w.grownBy w' v.ownBlock->K v' w') :
  V P (Builtin.append_ #[t,t] ty #[v,x]) w K:=by
 obtain ⟨z,ht,hi,hz⟩:=h;obtain ⟨i,hi',hz',hn,hby⟩:=info_parts hi;rcases hs.2 with ⟨rfl,rfl⟩|⟨b,off,cap,rfl,_,_,hc⟩
 ·have hnews:news=[]:=by have:=hs.1;simpa using this
  subst hnews;refine V.ok (run_append_owned_none w B t ty e i 1 ht hi' v n xs ho) (hk _ _ (by simpa using ho) ⟨rfl,rfl,rfl,Nat.le_refl _,λ_ _ _=>rfl⟩)
 ·obtain ⟨v',w',hr,h2,h3,_⟩:=run_append_own (P:=P) w B t ty e i z 1 by_ ht hi' hz' hn hby (by simpa using hz) (by omega) v n xs ho ⟨b,off,none⟩ m cap news hs.1
   (λj u hj=>by rw [gO];exact hc j u hj) (λu hu=>by rw [tA];exact List.all_eq_true.1 h1 u hu) h63 hb hB
  exact V.ok hr (hk _ _ h2 h3)
theorem EO {t e by_:Nat} (h:XE P t e by_) {v:O} {n:Nat} {cs:List O} (hs:aB w v 1 n cs) (h1:cs.all cB=true) (hb:n*by_<=140737488355328) {x y:Operand} {R:O->Ω->Prop}
  (hk:∀ v' w',w'.ownsRow w.heap.size e 1 v' n cs->aG w w'->R v' w') :
  V P (do eqGuard .eql t x y v (Value.slice none 0 0);binOp .eql t v (Value.slice none 0 0)) w λt4 w1=>
   aO t4 (R (Value.slice none 0 0) w1) (V P (Instr.buildSlice t 0 #[]) w1 λt5 w2=>V P (Builtin.append_ #[t,t] t #[t5,v]) w2 λt7 w3=>R t7 w3):=by
 have h':=h;obtain ⟨z,ht,hi,hz⟩:=h;rcases hs.2 with ⟨rfl,rfl⟩|⟨b,off,cap,rfl,hc1,hc2,hc⟩
 ·refine V.ok (lF ht) (aE.2 (hk _ _ ?_ (aG.refl w)));have:cs=[]:=by have:=hs.1;simpa using this
  subst this;exact World.ownsRow_nil _ _ _ _
 ·refine V.ok (lF ht) (aA.2 (mF h' [] rfl rfl (by simp) rfl λv1 w1 ho x1=>?_));refine WT h' ho (hs.ext x1) h1 (by simpa using hb) (by unfold maxLen at *;omega) x1.size λv2 w2 ho2 hg=>?_;have:=ho2;simp only [Nat.zero_add,List.nil_append] at this;exact hk _ _ this (x1.grown hg λk hk'=>(ho.lt k hk').1)
end
section
variable {P:Program} {w:Ω} {K:O->Ω->Prop}
theorem aR {w:Ω} {B B' e size n:Nat} {v:O} {xs:List O} (h:w.ownsRow B e size v n xs) (hB:B'<=B):w.ownsRow B' e size v n xs:=by
 refine ⟨h.1,?_⟩;rcases h.2 with h2|⟨g,cap,cur,h2,h3,h4⟩
 ·exact .inl h2
 ·exact .inr ⟨g,cap,cur,h2,Nat.le_trans hB h3,h4⟩
theorem aMf {w:Ω} {B e size n:Nat} {v:O} {xs:List O} (h:w.ownsRow B e size v n xs) {row:Option Nat} (hr:∀ k,row=some k->k < B):v.ownBlock=none\/v.ownBlock≠row:=by
 cases hv:v.ownBlock with
 | none=>exact .inl rfl
 | some g=>exact .inr λhe=>by have:=hr g he.symm;have:=(h.lt g hv).1;omega
theorem stO {t x:Nat} {z:O} {by_:Nat} (h:XA P t 1) (hx:cV P x z 1 by_) {B e n:Nat} {v:O} {xs:List O} (ho:w.ownsRow B e 1 v n xs) {k:IntKind} {i:Int} (h0:0<=i) (h1:i < n) {u:O} (hu:cB u=true) {K':Ω->Prop}
  (hk:∀ w',w'.ownsRow B e 1 v n (xs.set i.toNat u)->w.grownBy w' v.ownBlock->K' w') :
  V P (Instr.indexAt t v (.int k i)) w λp w1=>U P (Instr.storeAt x p u) w1 λ_ w2=>K' w2:=by
 obtain ⟨e',z',b',ht,hi⟩:=h;have ho':=ho;rcases ho.2 with ⟨_,rfl⟩|⟨g,cap,cur,rfl,hB,_⟩
 ·omega
 refine V.ok (gE ht hi h0 h1) ?_;obtain ⟨s1,s2⟩:=ho'.stored i.toNat u;have hc:=ho'.cellAt i.toNat (by omega);have hlt:i.toNat < xs.length:=by have:=ho'.1;omega
 rw [List.getElem?_eq_getElem hlt] at hc;simp only [Nat.zero_add,Nat.mul_one];exact U.ok (lV hx hu hc (ho'.frozenAt _)) (hk _ s1 s2)
theorem aMo {t x:Nat} (h:XA P t 1) (hl:L1 P x) {B e n:Nat} {v:O} {xs:List O} (ho:w.ownsRow B e 1 v n xs) {k:IntKind} {i:Int} {u:O} (h0:0<=i) (h1:i < n) (hu:xs[i.toNat]?=some u) (hk:K u w) :
  V P (Instr.indexAt t v (.int k i)) w λp w1=>V P (Instr.loadAt x p) w1 K:=nO h hl (aB.of_own ho) h0 h1 hu hk
def bD (w:Ω) (g:Nat) (cs:List O) (e:TypeId):Prop:=w.heap[g]?=some (.cells cs.toArray e (0,0))
theorem bD.ext {w w':Ω} {g:Nat} {cs:List O} {e:TypeId} (h:bD w g cs e) (hx:aG w w'):bD w' g cs e:=hx.obj h
theorem bD.lt {w:Ω} {g:Nat} {cs:List O} {e:TypeId} (h:bD w g cs e):g < w.heap.size:=(Array.getElem?_eq_some_iff.1 h).1
theorem bD.cell {w:Ω} {g:Nat} {cs:List O} {e:TypeId} (h:bD w g cs e) (j:Nat):w.cell? ⟨g,j,none⟩=cs[j]?:=by
 rw [cell_of_row w g j cs.toArray e (0,0) h];simp
theorem bD.frozen {w:Ω} {g:Nat} {cs:List O} {e:TypeId} (h:bD w g cs e) (j:Nat):w.frozen? ⟨g,j,none⟩=false:=frozen_of_row w g j cs.toArray e h
theorem bD.set {w:Ω} {g:Nat} {cs:List O} {e:TypeId} (h:bD w g cs e) (j:Nat) (u:O):bD (w.setCell ⟨g,j,none⟩ u) g (cs.set j u) e:=by
 have:=heap_setCell_same w g j cs.toArray e u h;unfold bD;rw [this];simp
theorem bD.other {w:Ω} {g g' j:Nat} {cs:List O} {e:TypeId} {u:O} (h:bD w g cs e) (hne:g≠g'):bD (w.setCell ⟨g',j,none⟩ u) g cs e:=by
 unfold bD;rw [heap_setCell_other w ⟨g',j,none⟩ g u hne];exact h
theorem bD.slice {w:Ω} {g n:Nat} {cs:List O} {e:TypeId} (h:bD w g cs e) (hn:cs.length=n) (hm:n<=maxLen):aB w (.slice (some ⟨g,0,none⟩) n n) 1 n cs:=
 ⟨by omega,.inr ⟨g,0,n,rfl,Nat.le_refl _,hm,λj u hj=>by rw [Nat.zero_add,h.cell];exact hj⟩⟩
theorem mkB {t e by_:Nat} {z:O} (ht:P.underlying t=some (.slice e)) (hi:cV P e z 1 by_) (hz:z.cells=#[z]) {n:Nat} (hb:by_*n<=281474976710656) (h63:n<=9223372036854775807)
  (hk:∀ w',bD w' w.heap.size (List.replicate n z) e->aG w w'->w'.heap.size=w.heap.size+1->K (.slice (some ⟨w.heap.size,0,none⟩) n n) w'):V P (Instr.makeSlice t (i64 n) (i64 n)) w K:=by
 obtain ⟨i,hi',hz',hn,hby⟩:=info_parts hi;have hr:=run_make (P:=P) w t e i z ht hi' hz' .i64 .i64 n n (by omega) (Int.le_refl _) (by rw [hby,<- Int.natCast_mul];omega) (by omega);simp only [Int.toNat_natCast,hn,hz,Nat.mul_one] at hr;refine V.ok hr (hk _ ?_ ((aG.refl w).alloc _) (by simp));unfold bD;have:=heap_alloc_new w (.cells (madeCells #[z] n) e);rw [this]
 congr 2
 rw [<- toList_madeCells_one z n]
structure BD (P:Program) (t:TypeId) (zs:List O):Prop where
 of ::
 ex:∃ fs b,P.underlying t=some (.struct fs)/\cV P t (.agg zs.toArray) zs.length b/\∀ w:Ω,(fs.mapM (λf=>do pure (f.offset,<- sizeOf f.type)):Sem (Array (Nat × Nat))).run P w=.ok ((List.range zs.length).map (λi=>(i,1))).toArray w
theorem aAw {n:Nat}:∀ (l:List (Nat × O)) (cs:List O),cs.length=n->(l.all λx=>decide (x.1 < n)&&cB x.2)=true ->
  Instr.fill ((((List.range n).map (λi=>(i,1))).toArray)[·]?) cs.toArray l=some (l.foldl (λcs x=>cs.set x.1 x.2) cs).toArray
 | [],cs,_,_=>rfl
 | (i,v)::l,cs,hl,h=>by
  simp only [List.all_cons,Bool.and_eq_true,decide_eq_true_eq] at h;have hi:((((List.range n).map (λi=>(i,1))).toArray)[i]?)=some (i,1):=by simp [h.1.1]
  have hc:=uH h.1.2;rw [Instr.fill,hi];have hn:¬ (i+1 > cs.length):=by omega
  simp only [hc,List.size_toArray,List.length_cons,List.length_nil,Nat.zero_add,ne_eq,not_true_eq_false,decide_false,Bool.false_or,hn,Bool.false_eq_true,if_false];have:=aAw (n:=n) l (cs.set i v) (by simpa using hl) h.2;simpa using this
theorem bld {t:TypeId} {zs:List O} (h:BD P t zs) {parts:Array (Nat × O)} (l:List (Nat × O)) (hp:parts=l.toArray) (h1:(l.all λx=>decide (x.1 < zs.length)&&cB x.2)=true)
  (hk:K (.agg (l.foldl (λcs x=>cs.set x.1 x.2) zs).toArray) w):V P (Instr.build t parts) w K:=by
 subst hp;obtain ⟨fs,b,hu,hi,hm⟩:=h;refine V.ok ?_ hk;simp only [Instr.build,Sem.run_bind,uX hi,Result.andThen_ok,run_underlying hu,hm,Value.cells];rw [aAw l zs rfl h1];simp
structure MI (P:Program) (t:TypeId):Prop where
 of ::
 ex:∃ d,P.underlying t=some d/\aSw d=true
end
end Go.Vc
namespace Go.Proofs.YtgkkecladbmjkaaGreatDoor
open Tryz
open Go.Vc
variable {w:Ω} {n off:Nat} {k:IntKind} {i:Int} {a:Option Addr} {x:Operand} {ty:TypeId} {K:O->Ω->Prop}
theorem fK:cV prog 3 (.int .i64 0) 1 8:=by unfold cV;kernel_rfl
theorem pX:cV prog 4 (.bool false) 1 1:=by unfold cV;kernel_rfl
theorem pW:cV prog 5 (.int .u8 0) 1 1:=by unfold cV;kernel_rfl
theorem aEj:cV prog 9 (.string ByteArray.empty) 1 16:=by unfold cV;kernel_rfl
theorem mC:cV prog 21 (.int .i32 0) 1 4:=by unfold cV;kernel_rfl
theorem lO:cV prog 23 (.slice none 0 0) 1 24:=by unfold cV;kernel_rfl
theorem RI:cV prog 24 (.slice none 0 0) 1 24:=by unfold cV;kernel_rfl
theorem aKe:cV prog 26 (.pointer none) 1 8:=by unfold cV;kernel_rfl
theorem aTg:cV prog 27 (.pointer none) 1 8:=by unfold cV;kernel_rfl
theorem qG:cV prog 37 (.slice none 0 0) 1 24:=by unfold cV;kernel_rfl
theorem jU:cV prog 42 (.slice none 0 0) 1 24:=by unfold cV;kernel_rfl
theorem RH:cV prog 43 (.slice none 0 0) 1 24:=by unfold cV;kernel_rfl
theorem RG:cV prog 44 (.slice none 0 0) 1 24:=by unfold cV;kernel_rfl
theorem jT:cV prog 46 (.agg #[(.string ByteArray.empty),(.slice none 0 0),(.slice none 0 0),(.slice none 0 0),(.slice none 0 0)]) 5 112:=by unfold cV;kernel_rfl
theorem aKd:cV prog 48 (.pointer none) 1 8:=by unfold cV;kernel_rfl
theorem CS:cV prog 50 (.slice none 0 0) 1 24:=by unfold cV;kernel_rfl
theorem CR:cV prog 54 (.agg #[(.int .i64 0),(.int .i64 0),(.int .i64 0),(.int .i64 0)]) 4 32:=by unfold cV;kernel_rfl
theorem aAl:cV prog 61 (.slice none 0 0) 1 24:=by unfold cV;kernel_rfl
theorem aTf:cV prog 62 (.pointer none) 1 8:=by unfold cV;kernel_rfl
theorem nZ:cV prog 70 (.agg #[(.int .i64 0),(.int .i64 0),(.int .i64 0)]) 3 24:=by unfold cV;kernel_rfl
theorem wS:cV prog 71 (.slice none 0 0) 1 24:=by unfold cV;kernel_rfl
theorem pJ:cV prog 74 (.agg #[(.slice none 0 0),(.int .i64 0),(.slice none 0 0),(.slice none 0 0)]) 4 80:=by unfold cV;kernel_rfl
theorem HT:cV prog 76 (.agg #[(.int .i64 0),(.int .i64 0)]) 2 16:=by unfold cV;kernel_rfl
theorem aKc:cV prog 99 (.slice none 0 0) 1 24:=by unfold cV;kernel_rfl
theorem aNb:cV prog 100 (.pointer none) 1 8:=by unfold cV;kernel_rfl
theorem NR:cV prog 107 (.slice none 0 0) 1 24:=by unfold cV;kernel_rfl
theorem aNa:cV prog 109 (.agg #[(.pointer none),(.pointer none),(.slice none 0 0),(.int .i64 0),(.int .i64 0)]) 5 56:=by unfold cV;kernel_rfl
theorem NQ:cV prog 111 (.pointer none) 1 8:=by unfold cV;kernel_rfl
theorem aMz:cV prog 125 (.agg #[(.slice none 0 0)]) 1 24:=by unfold cV;kernel_rfl
theorem gK:cV prog 127 (.agg #[(.int .i64 0),(.int .i64 0),(.int .i64 0),(.bool false),(.slice none 0 0)]) 5 56:=by unfold cV;kernel_rfl
theorem EI:cV prog 132 (.slice none 0 0) 1 24:=by unfold cV;kernel_rfl
theorem aMy:cV prog 134 (.agg #[(.pointer none),(.slice none 0 0),(.slice none 0 0),(.slice none 0 0),(.slice none 0 0)]) 5 104:=by unfold cV;kernel_rfl
theorem NO:cV prog 135 (.pointer none) 1 8:=by unfold cV;kernel_rfl
theorem aMx:cV prog 137 (.pointer none) 1 8:=by unfold cV;kernel_rfl
theorem aMw:cV prog 139 (.agg #[(.pointer none),(.slice none 0 0),(.slice none 0 0),(.slice none 0 0),(.slice none 0 0)]) 5 104:=by unfold cV;kernel_rfl
theorem sI:cV prog 154 (.slice none 0 0) 1 24:=by unfold cV;kernel_rfl
theorem aMv:cV prog 156 (.agg #[(.int .i64 0),(.slice none 0 0)]) 2 32:=by unfold cV;kernel_rfl
theorem pK:cV prog 180 (.agg #[(.string ByteArray.empty),(.int .i64 0),(.slice none 0 0),(.int .i64 0)]) 4 56:=by unfold cV;kernel_rfl
theorem aMu:cV prog 193 (.agg #[(.int .i64 0),(.slice none 0 0)]) 2 32:=by unfold cV;kernel_rfl
theorem aMt:cV prog 252 (.agg #[(.slice none 0 0),(.slice none 0 0),(.int .i64 0),(.slice none 0 0),(.int .i64 0)]) 5 88:=by unfold cV;kernel_rfl
theorem zC:cV prog 254 (.agg #[(.int .i64 0),(.int .i64 0),(.int .i64 0),(.int .i64 0)]) 4 32:=by unfold cV;kernel_rfl
theorem aMs:cV prog 266 (.agg #[(.bool false),(.bool false)]) 2 2:=by unfold cV;kernel_rfl
theorem NN:cV prog 283 (.agg #[(.pointer none),(.pointer none),(.int .i64 0),(.int .i64 0),(.int .i64 0),(.slice none 0 0)]) 6 64:=by unfold cV;kernel_rfl
theorem NM:cV prog 290 (.agg #[(.int .u8 0),(.int .u8 0)]) 2 2:=by unfold cV;kernel_rfl
theorem ND {b:Nat}:(Instr.fieldAt 114 (.pointer (some ⟨b,off,none⟩)) 3).run prog w=.ok (.pointer (some ⟨b,off+3,none⟩)) w:=aQ 74 3 underlying114 rfl pJ rfl
theorem NC {b:Nat}:(Instr.fieldAt 125 (.pointer (some ⟨b,off,none⟩)) 0).run prog w=.ok (.pointer (some ⟨b,off+0,none⟩)) w:=aQ 50 0 underlying125 rfl CS rfl
theorem jY {b:Nat}:(Instr.fieldAt 127 (.pointer (some ⟨b,off,none⟩)) 4).run prog w=.ok (.pointer (some ⟨b,off+4,none⟩)) w:=aQ 23 4 underlying127 rfl lO rfl
theorem uF {b:Nat}:(Instr.fieldAt 134 (.pointer (some ⟨b,off,none⟩)) 3).run prog w=.ok (.pointer (some ⟨b,off+3,none⟩)) w:=aQ 23 3 underlying134 rfl lO rfl
theorem yO {b:Nat}:(Instr.fieldAt 134 (.pointer (some ⟨b,off,none⟩)) 4).run prog w=.ok (.pointer (some ⟨b,off+4,none⟩)) w:=aQ 23 4 underlying134 rfl lO rfl
theorem uE {b:Nat}:(Instr.fieldAt 139 (.pointer (some ⟨b,off,none⟩)) 3).run prog w=.ok (.pointer (some ⟨b,off+3,none⟩)) w:=aQ 23 3 underlying139 rfl lO rfl
theorem yN {b:Nat}:(Instr.fieldAt 139 (.pointer (some ⟨b,off,none⟩)) 4).run prog w=.ok (.pointer (some ⟨b,off+4,none⟩)) w:=aQ 23 4 underlying139 rfl lO rfl
theorem uD {b:Nat}:(Instr.fieldAt 156 (.pointer (some ⟨b,off,none⟩)) 1).run prog w=.ok (.pointer (some ⟨b,off+1,none⟩)) w:=aQ 154 1 underlying156 rfl sI rfl
theorem yM {b:Nat}:(Instr.fieldAt 180 (.pointer (some ⟨b,off,none⟩)) 2).run prog w=.ok (.pointer (some ⟨b,off+2,none⟩)) w:=aQ 42 2 underlying180 rfl jU rfl
theorem NB {b:Nat}:(Instr.fieldAt 193 (.pointer (some ⟨b,off,none⟩)) 1).run prog w=.ok (.pointer (some ⟨b,off+1,none⟩)) w:=aQ 154 1 underlying193 rfl sI rfl
theorem VD {b:Nat}:(Instr.fieldAt 46 (.pointer (some ⟨b,off,none⟩)) 1).run prog w=.ok (.pointer (some ⟨b,off+1,none⟩)) w:=aQ 42 1 underlying46 rfl jU rfl
theorem VC {b:Nat}:(Instr.fieldAt 46 (.pointer (some ⟨b,off,none⟩)) 2).run prog w=.ok (.pointer (some ⟨b,off+2,none⟩)) w:=aQ 43 2 underlying46 rfl RH rfl
theorem VB {b:Nat}:(Instr.fieldAt 46 (.pointer (some ⟨b,off,none⟩)) 3).run prog w=.ok (.pointer (some ⟨b,off+3,none⟩)) w:=aQ 44 3 underlying46 rfl RG rfl
theorem VA {b:Nat}:(Instr.fieldAt 46 (.pointer (some ⟨b,off,none⟩)) 4).run prog w=.ok (.pointer (some ⟨b,off+4,none⟩)) w:=aQ 42 4 underlying46 rfl jU rfl
theorem UZ {b:Nat}:(Instr.fieldAt 66 (.pointer (some ⟨b,off,none⟩)) 0).run prog w=.ok (.pointer (some ⟨b,off+0,none⟩)) w:=aQ 50 0 underlying66 rfl CS rfl
theorem CA {b:Nat}:(Instr.fieldAt 74 (.pointer (some ⟨b,off,none⟩)) 0).run prog w=.ok (.pointer (some ⟨b,off+0,none⟩)) w:=aQ 42 0 underlying74 rfl jU rfl
theorem UY {b:Nat}:(Instr.fieldAt 74 (.pointer (some ⟨b,off,none⟩)) 1).run prog w=.ok (.pointer (some ⟨b,off+1,none⟩)) w:=aQ 3 1 underlying74 rfl fK rfl
theorem BZ {b:Nat}:(Instr.fieldAt 74 (.pointer (some ⟨b,off,none⟩)) 2).run prog w=.ok (.pointer (some ⟨b,off+2,none⟩)) w:=aQ 42 2 underlying74 rfl jU rfl
theorem BW {b:Nat}:(Instr.fieldAt 74 (.pointer (some ⟨b,off,none⟩)) 3).run prog w=.ok (.pointer (some ⟨b,off+3,none⟩)) w:=aQ 71 3 underlying74 rfl wS rfl
theorem nV {b len cap:Nat} (h0:0<=i) (h1:i < len):(Instr.indexAt 154 (.slice (some ⟨b,off,none⟩) len cap) (.int k i)).run prog w=.ok (.pointer (some ⟨b,off+i.toNat*5,none⟩)) w:=gE underlying154 gK h0 h1
theorem QM {b len cap:Nat} (h0:0<=i) (h1:i < len):(Instr.indexAt 43 (.slice (some ⟨b,off,none⟩) len cap) (.int k i)).run prog w=.ok (.pointer (some ⟨b,off+i.toNat*4,none⟩)) w:=gE underlying43 pK h0 h1
theorem aDm {b len cap:Nat} (h0:0<=i) (h1:i < len):(Instr.indexAt 44 (.slice (some ⟨b,off,none⟩) len cap) (.int k i)).run prog w=.ok (.pointer (some ⟨b,off+i.toNat*4,none⟩)) w:=gE underlying44 pJ h0 h1
theorem vC {b:Nat} {cs:List O} (hl:cs.length=5) (h:∀ j (_:j < cs.length),w.cell? ⟨b,off+j,none⟩=cs[j]?):(Instr.loadAt 127 (.pointer (some ⟨b,off,none⟩))).run prog w=.ok (.agg cs.toArray) w:=kF underlying127 rfl gK hl h
theorem kO {a:Addr} {v:O} (h:w.cell? a=some v):(Instr.loadAt 23 (.pointer (some a))).run prog w=.ok v w:=jX underlying23 rfl h
theorem YX {a:Addr} {v:O} (h:w.cell? a=some v):(Instr.loadAt 3 (.pointer (some a))).run prog w=.ok v w:=jX underlying3 rfl h
theorem DV {a:Addr} {v:O} (h:w.cell? a=some v):(Instr.loadAt 42 (.pointer (some a))).run prog w=.ok v w:=jX underlying42 rfl h
theorem aLy {a:Addr} {v:O} (h:w.cell? a=some v):(Instr.loadAt 5 (.pointer (some a))).run prog w=.ok v w:=jX underlying5 rfl h
theorem aDl {a:Addr} {v:O} (h:w.cell? a=some v):(Instr.loadAt 71 (.pointer (some a))).run prog w=.ok v w:=jX underlying71 rfl h
theorem aLx {a:Addr} {v:O} (h:w.cell? a=some v):(Instr.loadAt 9 (.pointer (some a))).run prog w=.ok v w:=jX underlying9 rfl h
theorem YT {y:Operand} {a b:Bool}:(do eqGuard .neq 4 x y (.bool a) (.bool b);binOp .neq 4 (.bool a) (.bool b)).run prog w=.ok (.bool (a != b)) w:=BU underlying4
theorem vM {c:Nat}:V prog (Builtin.len_ #[107] ty #[.slice a n c]) w K↔K (.int .i64 n) w:=V.iff (jR underlying107)
theorem IJ {c:Nat}:V prog (Builtin.len_ #[132] ty #[.slice a n c]) w K↔K (.int .i64 n) w:=V.iff (jR underlying132)
theorem oD {c:Nat}:V prog (Builtin.len_ #[154] ty #[.slice a n c]) w K↔K (.int .i64 n) w:=V.iff (jR underlying154)
theorem aFu {c:Nat}:V prog (Builtin.len_ #[22] ty #[.slice a n c]) w K↔K (.int .i64 n) w:=V.iff (jR underlying22)
theorem pS {c:Nat}:V prog (Builtin.len_ #[23] ty #[.slice a n c]) w K↔K (.int .i64 n) w:=V.iff (jR underlying23)
theorem aFt {c:Nat}:V prog (Builtin.len_ #[24] ty #[.slice a n c]) w K↔K (.int .i64 n) w:=V.iff (jR underlying24)
theorem aFs {c:Nat}:V prog (Builtin.len_ #[42] ty #[.slice a n c]) w K↔K (.int .i64 n) w:=V.iff (jR underlying42)
theorem ES {c:Nat}:V prog (Builtin.len_ #[61] ty #[.slice a n c]) w K↔K (.int .i64 n) w:=V.iff (jR underlying61)
theorem aFr {c:Nat}:V prog (Builtin.len_ #[71] ty #[.slice a n c]) w K↔K (.int .i64 n) w:=V.iff (jR underlying71)
theorem aBw {y:Operand} {a b:Bool}:V prog (do eqGuard .neq 4 x y (.bool a) (.bool b);binOp .neq 4 (.bool a) (.bool b)) w K↔K (.bool (a != b)) w:=V.iff (BU underlying4)
theorem aKr:XA prog 107 1:=⟨_,_,_,underlying107,NQ⟩
theorem xV:XA prog 116 1:=⟨_,_,_,underlying116,jU⟩
theorem pA:XA prog 117 1:=⟨_,_,_,underlying117,pX⟩
theorem pT:XA prog 132 1:=⟨_,_,_,underlying132,qG⟩
theorem XO:XA prog 154 5:=⟨_,_,_,underlying154,gK⟩
theorem PB:XA prog 22 1:=⟨_,_,_,underlying22,aKc⟩
theorem jQ:XA prog 23 1:=⟨_,_,_,underlying23,pW⟩
theorem iD:XA prog 24 5:=⟨_,_,_,underlying24,jT⟩
theorem XN:XA prog 292 1:=⟨_,_,_,underlying292,aEj⟩
theorem bX:XA prog 37 1:=⟨_,_,_,underlying37,mC⟩
theorem aM:XA prog 42 1:=⟨_,_,_,underlying42,fK⟩
theorem mG:XA prog 43 4:=⟨_,_,_,underlying43,pK⟩
theorem iJ:XA prog 44 4:=⟨_,_,_,underlying44,pJ⟩
theorem uR:XA prog 50 4:=⟨_,_,_,underlying50,CR⟩
theorem XM:XA prog 61 1:=⟨_,_,_,underlying61,NO⟩
theorem lL:XA prog 71 3:=⟨_,_,_,underlying71,nZ⟩
theorem rO:XA prog 99 4:=⟨_,_,_,underlying99,zC⟩
theorem XL:XE prog 107 111 8:=⟨_,underlying107,NQ,rfl⟩
theorem MC:XE prog 132 37 24:=⟨_,underlying132,qG,rfl⟩
theorem aRz:XE prog 22 99 24:=⟨_,underlying22,aKc,rfl⟩
theorem mQ:XE prog 23 5 1:=⟨_,underlying23,pW,rfl⟩
theorem aKq:XE prog 292 9 16:=⟨_,underlying292,aEj,rfl⟩
theorem uQ:XE prog 37 21 4:=⟨_,underlying37,mC,rfl⟩
theorem bU:XE prog 42 3 8:=⟨_,underlying42,fK,rfl⟩
theorem aRy:XE prog 61 135 8:=⟨_,underlying61,NO,rfl⟩
theorem EG:∃ d z by_,Program.underlying prog 127=some d/\oC d=true/\cV prog 127 z 5 by_:=⟨_,_,_,underlying127,rfl,gK⟩
theorem EF:∃ d z by_,Program.underlying prog 180=some d/\oC d=true/\cV prog 180 z 4 by_:=⟨_,_,_,underlying180,rfl,pK⟩
theorem aMq:∃ d z by_,Program.underlying prog 254=some d/\oC d=true/\cV prog 254 z 4 by_:=⟨_,_,_,underlying254,rfl,zC⟩
theorem iE:∃ d z by_,Program.underlying prog 283=some d/\oC d=true/\cV prog 283 z 6 by_:=⟨_,_,_,underlying283,rfl,NN⟩
theorem aMp:∃ d z by_,Program.underlying prog 290=some d/\oC d=true/\cV prog 290 z 2 by_:=⟨_,_,_,underlying290,rfl,NM⟩
theorem kQ:∃ d z by_,Program.underlying prog 46=some d/\oC d=true/\cV prog 46 z 5 by_:=⟨_,_,_,underlying46,rfl,jT⟩
theorem RC:∃ d z by_,Program.underlying prog 54=some d/\oC d=true/\cV prog 54 z 4 by_:=⟨_,_,_,underlying54,rfl,CR⟩
theorem pR:∃ d z by_,Program.underlying prog 70=some d/\oC d=true/\cV prog 70 z 3 by_:=⟨_,_,_,underlying70,rfl,nZ⟩
theorem oK:∃ d z by_,Program.underlying prog 74=some d/\oC d=true/\cV prog 74 z 4 by_:=⟨_,_,_,underlying74,rfl,pJ⟩
theorem fA:L1 prog 100:=⟨_,underlying100,rfl⟩
theorem gJ:L1 prog 107:=⟨_,underlying107,rfl⟩
theorem kI:L1 prog 111:=⟨_,underlying111,rfl⟩
theorem eE:L1 prog 132:=⟨_,underlying132,rfl⟩
theorem jJ:L1 prog 135:=⟨_,underlying135,rfl⟩
theorem dE:L1 prog 137:=⟨_,underlying137,rfl⟩
theorem dA:L1 prog 154:=⟨_,underlying154,rfl⟩
theorem cE:L1 prog 21:=⟨_,underlying21,rfl⟩
theorem fS:L1 prog 23:=⟨_,underlying23,rfl⟩
theorem iK:L1 prog 24:=⟨_,underlying24,rfl⟩
theorem gI:L1 prog 26:=⟨_,underlying26,rfl⟩
theorem kR:L1 prog 27:=⟨_,underlying27,rfl⟩
theorem aL:L1 prog 3:=⟨_,underlying3,rfl⟩
theorem gX:L1 prog 37:=⟨_,underlying37,rfl⟩
theorem oH:L1 prog 4:=⟨_,underlying4,rfl⟩
theorem aZ:L1 prog 42:=⟨_,underlying42,rfl⟩
theorem lA:L1 prog 43:=⟨_,underlying43,rfl⟩
theorem gR:L1 prog 44:=⟨_,underlying44,rfl⟩
theorem sH:L1 prog 48:=⟨_,underlying48,rfl⟩
theorem vZ:L1 prog 5:=⟨_,underlying5,rfl⟩
theorem qF:L1 prog 50:=⟨_,underlying50,rfl⟩
theorem mS:L1 prog 61:=⟨_,underlying61,rfl⟩
theorem tQ:L1 prog 62:=⟨_,underlying62,rfl⟩
theorem iF:L1 prog 71:=⟨_,underlying71,rfl⟩
theorem NK:L1 prog 9:=⟨_,underlying9,rfl⟩
theorem aAd:L1 prog 99:=⟨_,underlying99,rfl⟩
theorem cZ:FA prog 109 0 0:=⟨λ_ _ _=>aQ 26 0 underlying109 rfl aKe rfl⟩
theorem eB:FA prog 109 1 1:=⟨λ_ _ _=>aQ 48 1 underlying109 rfl aKd rfl⟩
theorem cA:FA prog 109 2 2:=⟨λ_ _ _=>aQ 107 2 underlying109 rfl NR rfl⟩
theorem eA:FA prog 109 3 3:=⟨λ_ _ _=>aQ 3 3 underlying109 rfl fK rfl⟩
theorem eQ:FA prog 109 4 4:=⟨λ_ _ _=>aQ 3 4 underlying109 rfl fK rfl⟩
theorem cS:FA prog 114 0 0:=⟨λ_ _ _=>aQ 3 0 underlying114 rfl fK rfl⟩
theorem fH:FA prog 114 1 1:=⟨λ_ _ _=>aQ 3 1 underlying114 rfl fK rfl⟩
theorem cI:FA prog 114 2 2:=⟨λ_ _ _=>aQ 3 2 underlying114 rfl fK rfl⟩
theorem gA:FA prog 114 3 3:=⟨λ_ _ _=>aQ 74 3 underlying114 rfl pJ rfl⟩
theorem eP:FA prog 114 4 7:=⟨λ_ _ _=>aQ 37 7 underlying114 rfl qG rfl⟩
theorem cY:FA prog 114 5 8:=⟨λ_ _ _=>aQ 37 8 underlying114 rfl qG rfl⟩
theorem dZ:FA prog 125 0 0:=⟨λ_ _ _=>aQ 50 0 underlying125 rfl CS rfl⟩
theorem dI:FA prog 127 0 0:=⟨λ_ _ _=>aQ 3 0 underlying127 rfl fK rfl⟩
theorem fG:FA prog 127 1 1:=⟨λ_ _ _=>aQ 3 1 underlying127 rfl fK rfl⟩
theorem fD:FA prog 127 2 2:=⟨λ_ _ _=>aQ 3 2 underlying127 rfl fK rfl⟩
theorem dY:FA prog 127 3 3:=⟨λ_ _ _=>aQ 4 3 underlying127 rfl pX rfl⟩
theorem bL:FA prog 127 4 4:=⟨λ_ _ _=>aQ 23 4 underlying127 rfl lO rfl⟩
theorem bY:FA prog 134 0 0:=⟨λ_ _ _=>aQ 100 0 underlying134 rfl aNb rfl⟩
theorem cH:FA prog 134 1 1:=⟨λ_ _ _=>aQ 24 1 underlying134 rfl RI rfl⟩
theorem cQ:FA prog 134 2 2:=⟨λ_ _ _=>aQ 132 2 underlying134 rfl EI rfl⟩
theorem fZ:FA prog 134 3 3:=⟨λ_ _ _=>aQ 23 3 underlying134 rfl lO rfl⟩
theorem fY:FA prog 134 4 4:=⟨λ_ _ _=>aQ 23 4 underlying134 rfl lO rfl⟩
theorem bJ:FA prog 139 0 0:=⟨λ_ _ _=>aQ 137 0 underlying139 rfl aMx rfl⟩
theorem cP:FA prog 139 1 1:=⟨λ_ _ _=>aQ 24 1 underlying139 rfl RI rfl⟩
theorem cO:FA prog 139 2 2:=⟨λ_ _ _=>aQ 132 2 underlying139 rfl EI rfl⟩
theorem fX:FA prog 139 3 3:=⟨λ_ _ _=>aQ 23 3 underlying139 rfl lO rfl⟩
theorem fW:FA prog 139 4 4:=⟨λ_ _ _=>aQ 23 4 underlying139 rfl lO rfl⟩
theorem cG:FA prog 141 0 0:=⟨λ_ _ _=>aQ 3 0 underlying141 rfl fK rfl⟩
theorem dX:FA prog 141 1 1:=⟨λ_ _ _=>aQ 3 1 underlying141 rfl fK rfl⟩
theorem cF:FA prog 141 2 2:=⟨λ_ _ _=>aQ 3 2 underlying141 rfl fK rfl⟩
theorem eO:FA prog 141 3 3:=⟨λ_ _ _=>aQ 37 3 underlying141 rfl qG rfl⟩
theorem cD:FA prog 141 4 4:=⟨λ_ _ _=>aQ 37 4 underlying141 rfl qG rfl⟩
theorem fV:FA prog 156 0 0:=⟨λ_ _ _=>aQ 3 0 underlying156 rfl fK rfl⟩
theorem bV:FA prog 156 1 1:=⟨λ_ _ _=>aQ 154 1 underlying156 rfl sI rfl⟩
theorem eM:FA prog 180 0 0:=⟨λ_ _ _=>aQ 9 0 underlying180 rfl aEj rfl⟩
theorem cN:FA prog 180 1 1:=⟨λ_ _ _=>aQ 3 1 underlying180 rfl fK rfl⟩
theorem cM:FA prog 180 2 2:=⟨λ_ _ _=>aQ 42 2 underlying180 rfl jU rfl⟩
theorem cX:FA prog 180 3 3:=⟨λ_ _ _=>aQ 3 3 underlying180 rfl fK rfl⟩
theorem fU:FA prog 193 0 0:=⟨λ_ _ _=>aQ 3 0 underlying193 rfl fK rfl⟩
theorem dH:FA prog 193 1 1:=⟨λ_ _ _=>aQ 154 1 underlying193 rfl sI rfl⟩
theorem bS:FA prog 252 0 0:=⟨λ_ _ _=>aQ 71 0 underlying252 rfl wS rfl⟩
theorem eJ:FA prog 252 1 1:=⟨λ_ _ _=>aQ 42 1 underlying252 rfl jU rfl⟩
theorem gN:FA prog 252 2 2:=⟨λ_ _ _=>aQ 3 2 underlying252 rfl fK rfl⟩
theorem eG:FA prog 252 3 3:=⟨λ_ _ _=>aQ 42 3 underlying252 rfl jU rfl⟩
theorem gM:FA prog 252 4 4:=⟨λ_ _ _=>aQ 3 4 underlying252 rfl fK rfl⟩
theorem iX:FA prog 254 0 0:=⟨λ_ _ _=>aQ 3 0 underlying254 rfl fK rfl⟩
theorem dG:FA prog 254 1 1:=⟨λ_ _ _=>aQ 3 1 underlying254 rfl fK rfl⟩
theorem gL:FA prog 254 2 2:=⟨λ_ _ _=>aQ 3 2 underlying254 rfl fK rfl⟩
theorem iW:FA prog 254 3 3:=⟨λ_ _ _=>aQ 3 3 underlying254 rfl fK rfl⟩
theorem dP:FA prog 266 0 0:=⟨λ_ _ _=>aQ 4 0 underlying266 rfl pX rfl⟩
theorem dO:FA prog 266 1 1:=⟨λ_ _ _=>aQ 4 1 underlying266 rfl pX rfl⟩
theorem dW:FA prog 283 0 0:=⟨λ_ _ _=>aQ 26 0 underlying283 rfl aKe rfl⟩
theorem kD:FA prog 283 1 1:=⟨λ_ _ _=>aQ 48 1 underlying283 rfl aKd rfl⟩
theorem jN:FA prog 283 2 2:=⟨λ_ _ _=>aQ 3 2 underlying283 rfl fK rfl⟩
theorem iV:FA prog 283 3 3:=⟨λ_ _ _=>aQ 3 3 underlying283 rfl fK rfl⟩
theorem jM:FA prog 283 4 4:=⟨λ_ _ _=>aQ 3 4 underlying283 rfl fK rfl⟩
theorem bR:FA prog 283 5 5:=⟨λ_ _ _=>aQ 42 5 underlying283 rfl jU rfl⟩
theorem lC:FA prog 290 0 0:=⟨λ_ _ _=>aQ 5 0 underlying290 rfl pW rfl⟩
theorem lB:FA prog 290 1 1:=⟨λ_ _ _=>aQ 5 1 underlying290 rfl pW rfl⟩
theorem lK:FA prog 46 0 0:=⟨λ_ _ _=>aQ 9 0 underlying46 rfl aEj rfl⟩
theorem jH:FA prog 46 1 1:=⟨λ_ _ _=>aQ 42 1 underlying46 rfl jU rfl⟩
theorem dC:FA prog 46 2 2:=⟨λ_ _ _=>aQ 43 2 underlying46 rfl RH rfl⟩
theorem bN:FA prog 46 3 3:=⟨λ_ _ _=>aQ 44 3 underlying46 rfl RG rfl⟩
theorem iI:FA prog 46 4 4:=⟨λ_ _ _=>aQ 42 4 underlying46 rfl jU rfl⟩
theorem jG:FA prog 64 0 0:=⟨λ_ _ _=>aQ 27 0 underlying64 rfl aTg rfl⟩
theorem eU:FA prog 64 1 1:=⟨λ_ _ _=>aQ 61 1 underlying64 rfl aAl rfl⟩
theorem jF:FA prog 64 2 2:=⟨λ_ _ _=>aQ 3 2 underlying64 rfl fK rfl⟩
theorem lJ:FA prog 64 3 3:=⟨λ_ _ _=>aQ 3 3 underlying64 rfl fK rfl⟩
theorem kT:FA prog 64 4 4:=⟨λ_ _ _=>aQ 62 4 underlying64 rfl aTf rfl⟩
theorem lI:FA prog 66 0 0:=⟨λ_ _ _=>aQ 50 0 underlying66 rfl CS rfl⟩
theorem bK:FA prog 70 0 0:=⟨λ_ _ _=>aQ 3 0 underlying70 rfl fK rfl⟩
theorem aW:FA prog 70 1 1:=⟨λ_ _ _=>aQ 3 1 underlying70 rfl fK rfl⟩
theorem oR:FA prog 70 2 2:=⟨λ_ _ _=>aQ 3 2 underlying70 rfl fK rfl⟩
theorem fB:FA prog 74 0 0:=⟨λ_ _ _=>aQ 42 0 underlying74 rfl jU rfl⟩
theorem jE:FA prog 74 1 1:=⟨λ_ _ _=>aQ 3 1 underlying74 rfl fK rfl⟩
theorem oQ:FA prog 74 2 2:=⟨λ_ _ _=>aQ 42 2 underlying74 rfl jU rfl⟩
theorem iH:FA prog 74 3 3:=⟨λ_ _ _=>aQ 71 3 underlying74 rfl wS rfl⟩
theorem aOn:BD prog 109 [(.pointer none),(.pointer none),(.slice none 0 0),(.int .i64 0),(.int .i64 0)]:=⟨_,_,underlying109,aNa,λw=>by kernel_rfl⟩
theorem aOm:BD prog 125 [(.slice none 0 0)]:=⟨_,_,underlying125,aMz,λw=>by kernel_rfl⟩
theorem pY:BD prog 127 [(.int .i64 0),(.int .i64 0),(.int .i64 0),(.bool false),(.slice none 0 0)]:=⟨_,_,underlying127,gK,λw=>by kernel_rfl⟩
theorem aOl:BD prog 134 [(.pointer none),(.slice none 0 0),(.slice none 0 0),(.slice none 0 0),(.slice none 0 0)]:=⟨_,_,underlying134,aMy,λw=>by kernel_rfl⟩
theorem aOj:BD prog 139 [(.pointer none),(.slice none 0 0),(.slice none 0 0),(.slice none 0 0),(.slice none 0 0)]:=⟨_,_,underlying139,aMw,λw=>by kernel_rfl⟩
theorem aOi:BD prog 156 [(.int .i64 0),(.slice none 0 0)]:=⟨_,_,underlying156,aMv,λw=>by kernel_rfl⟩
theorem aBo:BD prog 180 [(.string ByteArray.empty),(.int .i64 0),(.slice none 0 0),(.int .i64 0)]:=⟨_,_,underlying180,pK,λw=>by kernel_rfl⟩
theorem aOh:BD prog 193 [(.int .i64 0),(.slice none 0 0)]:=⟨_,_,underlying193,aMu,λw=>by kernel_rfl⟩
theorem aBn:BD prog 252 [(.slice none 0 0),(.slice none 0 0),(.int .i64 0),(.slice none 0 0),(.int .i64 0)]:=⟨_,_,underlying252,aMt,λw=>by kernel_rfl⟩
theorem aOg:BD prog 266 [(.bool false),(.bool false)]:=⟨_,_,underlying266,aMs,λw=>by kernel_rfl⟩
theorem ON:BD prog 283 [(.pointer none),(.pointer none),(.int .i64 0),(.int .i64 0),(.int .i64 0),(.slice none 0 0)]:=⟨_,_,underlying283,NN,λw=>by kernel_rfl⟩
theorem aKk:BD prog 46 [(.string ByteArray.empty),(.slice none 0 0),(.slice none 0 0),(.slice none 0 0),(.slice none 0 0)]:=⟨_,_,underlying46,jT,λw=>by kernel_rfl⟩
theorem tS:BD prog 54 [(.int .i64 0),(.int .i64 0),(.int .i64 0),(.int .i64 0)]:=⟨_,_,underlying54,CR,λw=>by kernel_rfl⟩
theorem tR:BD prog 70 [(.int .i64 0),(.int .i64 0),(.int .i64 0)]:=⟨_,_,underlying70,nZ,λw=>by kernel_rfl⟩
theorem RY:BD prog 74 [(.slice none 0 0),(.int .i64 0),(.slice none 0 0),(.slice none 0 0)]:=⟨_,_,underlying74,pJ,λw=>by kernel_rfl⟩
theorem aBm:BD prog 76 [(.int .i64 0),(.int .i64 0)]:=⟨_,_,underlying76,HT,λw=>by kernel_rfl⟩
theorem pD:SA prog 127 5:=⟨_,_,gK,by decide⟩
theorem MV:SA prog 180 4:=⟨_,_,pK,by decide⟩
theorem MU:SA prog 283 6:=⟨_,_,NN,by decide⟩
theorem aLj:SA prog 290 2:=⟨_,_,NM,by decide⟩
theorem PW:SA prog 46 5:=⟨_,_,jT,by decide⟩
theorem BK:SA prog 74 4:=⟨_,_,pJ,by decide⟩
theorem YJ:SA prog 76 2:=⟨_,_,HT,by decide⟩
end Go.Proofs.YtgkkecladbmjkaaGreatDoor
