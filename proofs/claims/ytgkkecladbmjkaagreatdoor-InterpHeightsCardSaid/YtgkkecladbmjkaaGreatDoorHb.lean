/- The laws of single operations in the calculus of verification conditions, over any program; readings of slices; what a call leaves as it was. -/
import Derived.Test.YtgkkecladbmjkaaGreatDoorHa
import Derived.OwnWalk
import Derived.Below
import Derived.ArgAppend
import Derived.Test.YtgkkecladbmjkaaGreatDoorProg
import Derived.KernelRfl
namespace Go.Vc
abbrev i64 (n:Int):O:=.int .i64 n
abbrev i32 (n:Int):O:=.int .i32 n
abbrev vb (b:Bool):O:=.bool b
abbrev bD:O:=.slice none 0 0
abbrev gB (w w':Ω) (r:Option Nat):Prop:=w.grownBy w' r
section
variable {P:Program} {w:Ω} {K:O->Ω->Prop}
theorem V.iff {s:Sem O} {v:O} {w':Ω} (h:s.run P w=.ok v w'):V P s w K↔K v w':=
 ⟨λ⟨_,_,h',hk⟩=>by rw [h] at h';cases h';exact hk,λhk=>⟨v,w',h,hk⟩⟩
theorem U.iff {s:Sem Unit} {w':Ω} (h:s.run P w=.ok () w'):U P s w K↔K undef w':=
 ⟨λ⟨_,h',hk⟩=>by rw [h] at h';cases h';exact hk,λhk=>⟨w',h,hk⟩⟩
theorem V.ok {s:Sem O} {v:O} {w':Ω} (h:s.run P w=.ok v w') (hk:K v w'):V P s w K:=⟨v,w',h,hk⟩
theorem U.ok {s:Sem Unit} {w':Ω} (h:s.run P w=.ok () w') (hk:K undef w'):U P s w K:=⟨w',h,hk⟩
theorem aD.mono {f:FuncId} {args:Array O} {R:O->Ω->Prop} (h:aD P f args w R) (hk:∀ v w',R v w'->K v w'):aD P f args w K:=
 ⟨⟨h.ex.1,Calls.mono h.ex.2 λ_ _ ⟨v,he,hr⟩=>⟨v,he,hk v _ hr⟩⟩⟩
theorem aD.of_calls {f:FuncId} {fn:Func} {c:Code} {args:Array O} (hf:P.funcs[f]?=some fn) (hname:(fn.name == "runtime.NumGoroutine")=false) (hb:fn.body=some c)
  (h:Calls P f args w λe w'=>∃ v,e=.returned v/\K v w'):aD P f args w K:=by
 refine ⟨⟨λargs w=>?_,h⟩⟩;have hname':¬ fn.name = "runtime.NumGoroutine" := by simpa using hname
 simp [callFunc,program,Sem.run,hf,hname',hb]
theorem aOw {P:Program} {f:FuncId} {fn:Func} {args:List O} {w:Ω} {R:O->Ω->Prop} {D:Prop} (hm:P.follows .mixedOrders=true) (ann:bY) (hf:P.funcs[f]?=some fn)
  (hb:(!(fn.name == "runtime.NumGoroutine")&&fn.body.isSome&&(ok fn.ntmps ann (fn.body.getD .skip)&&zV fn.ntmps fn.results.toList&&Nat.ble args.length fn.ntmps))=true)
  (hD:D=vc P ann (fn.body.getD .skip) (aMp P fn.results.toList R) (sH args) w) (h:D):aD P f args.toArray w R:=by
 simp only [Bool.and_eq_true,Bool.not_eq_true'] at hb;obtain ⟨⟨h1,h2⟩,h3,h4⟩:=hb
 have hbody:fn.body=some (fn.body.getD .skip):=by
  cases e:fn.body with
  | none=>rw [e] at h2;cases h2
  | some c=>rfl
 refine aD.of_calls hf h1 hbody (FS ann hm hf hbody (by simp only [Bool.and_eq_true];exact ⟨h3,h4⟩) (hD▸h))
theorem aO.mk {b:Bool} {x y:Prop} (h1:b=true->x) (h2:b=false->y):aO (.bool b) x y:=⟨b,rfl,h1,h2⟩
theorem aE {x y:Prop}:aO (.bool true) x y↔x:=⟨λ⟨b,h,h1,_⟩=>by cases h;exact h1 rfl,λh=>⟨true,rfl,λ_=>h,λh=>by cases h⟩⟩
theorem aA {x y:Prop}:aO (.bool false) x y↔y:=⟨λ⟨b,h,_,h2⟩=>by cases h;exact h2 rfl,λh=>⟨false,rfl,(λh=>by cases h),λ_=>h⟩⟩
theorem aL {p:Prop} [Decidable p] {x y:Prop} (h1:p->x) (h2:¬ p->y):aO (.bool (decide p)) x y:=
 ⟨_,rfl,λh=>h1 (of_decide_eq_true h),λh=>h2 (of_decide_eq_false h)⟩
theorem UV {b:Bool} {x y:O} {L:O->Prop} (h:L (if b then x else y)):aN (.bool b) x y L:=⟨b,rfl,h⟩
theorem aH {b:Bool} {x y:O} {L:O->Prop}:aN (.bool b) x y L↔L (if b then x else y):=⟨λ⟨_,h,hk⟩=>by cases h;exact hk,UV⟩
theorem CB {b want:Bool} {step:(O->Ω->Prop)->Prop}:gd (.bool b) want step w K↔if b=want then step K else K undef w:=by
 constructor
 ·rintro ⟨h1,h2⟩;split
  ·rename_i hb;exact h1 (by rw [hb])
  ·rename_i hb;exact h2 (by simpa using hb)
 ·intro h;by_cases hb:b=want
  ·rw [if_pos hb] at h;exact ⟨λ_=>h,λh'=>absurd (by rw [hb]) h'⟩
  ·rw [if_neg hb] at h;exact ⟨λh'=>absurd (by simpa using h') hb,λ_=>h⟩
theorem vK {b want:Bool} {step:(O->Prop)->Prop} {L:O->Prop}:FK (.bool b) want step L↔if b=want then step L else L undef:=by
 constructor
 ·rintro ⟨h1,h2⟩;split
  ·rename_i hb;exact h1 (by rw [hb])
  ·rename_i hb;exact h2 (by simpa using hb)
 ·intro h;by_cases hb:b=want
  ·rw [if_pos hb] at h;exact ⟨λ_=>h,λh'=>absurd (by rw [hb]) h'⟩
  ·rw [if_neg hb] at h;exact ⟨λh'=>absurd (by simpa using h') hb,λ_=>h⟩
theorem FH {want:Bool} {step:(O->Ω->Prop)->Prop}:gd undef want step w K↔K undef w:=
 ⟨λ⟨_,h2⟩=>h2 (by simp [undef]),λh=>⟨λh'=>by simp [undef] at h',λ_=>h⟩⟩
theorem SC {want:Bool} {step:(O->Prop)->Prop} {L:O->Prop}:FK undef want step L↔L undef:=
 ⟨λ⟨_,h2⟩=>h2 (by simp [undef]),λh=>⟨λh'=>by simp [undef] at h',λ_=>h⟩⟩
theorem FI {step:(O->Ω->Prop)->Prop}:gd (.bool true) true step w K↔step K:=by rw [CB];simp
theorem dZ {step:(O->Ω->Prop)->Prop}:gd (.bool false) false step w K↔step K:=by rw [CB];simp
theorem jJ {step:(O->Ω->Prop)->Prop}:gd (.bool true) false step w K↔K undef w:=by rw [CB];simp
theorem FJ {step:(O->Ω->Prop)->Prop}:gd (.bool false) true step w K↔K undef w:=by rw [CB];simp
theorem WE {step:(O->Prop)->Prop} {L:O->Prop}:FK (.bool true) true step L↔step L:=by rw [vK];simp
theorem jR {step:(O->Prop)->Prop} {L:O->Prop}:FK (.bool false) false step L↔step L:=by rw [vK];simp
theorem uM {step:(O->Prop)->Prop} {L:O->Prop}:FK (.bool true) false step L↔L undef:=by rw [vK];simp
theorem KX {step:(O->Prop)->Prop} {L:O->Prop}:FK (.bool false) true step L↔L undef:=by rw [vK];simp
theorem aI.mk' {body:(Ω->Prop)->Ω->Prop} (S:Ω->Prop) (hS:S w.drew) (h:body S w.drew):aI w body:=⟨S,hS,h⟩
theorem aB.ok {S:Ω->Prop} {s:Sem O} {v:O} {L:O->Prop} (h:∀ w,S w->s.run P w=.ok v w) (hk:L v):aB P S s L:=⟨v,h,hk⟩
end
theorem nE {P:Program} {w:Ω} {k:IntKind} {t:TypeId} {a b:Int}:(binOp .lss t (.int k a) (.int k b)).run P w=.ok (.bool (decide (a < b))) w:=by simp [binOp,Op.intCmp]
theorem aV {P:Program} {w:Ω} {K:O->Ω->Prop} {k:IntKind} {t:TypeId} {a b:Int}:V P (binOp .lss t (.int k a) (.int k b)) w K↔K (.bool (decide (a < b))) w:=V.iff (by exact nE )
theorem aSu {P:Program} {w:Ω} {k:IntKind} {t:TypeId} {a b:Int}:(binOp .leq t (.int k a) (.int k b)).run P w=.ok (.bool (decide (a<=b))) w:=by simp [binOp,Op.intCmp]
theorem FW {P:Program} {w:Ω} {K:O->Ω->Prop} {k:IntKind} {t:TypeId} {a b:Int}:V P (binOp .leq t (.int k a) (.int k b)) w K↔K (.bool (decide (a<=b))) w:=V.iff (by exact aSu )
theorem nI {P:Program} {w:Ω} {k:IntKind} {t:TypeId} {a b:Int}:(binOp .gtr t (.int k a) (.int k b)).run P w=.ok (.bool (decide (a > b))) w:=by simp [binOp,Op.intCmp]
theorem cX {P:Program} {w:Ω} {K:O->Ω->Prop} {k:IntKind} {t:TypeId} {a b:Int}:V P (binOp .gtr t (.int k a) (.int k b)) w K↔K (.bool (decide (a > b))) w:=V.iff (by exact nI )
theorem wK {P:Program} {w:Ω} {k:IntKind} {t:TypeId} {a b:Int}:(binOp .geq t (.int k a) (.int k b)).run P w=.ok (.bool (decide (a>=b))) w:=by simp [binOp,Op.intCmp]
theorem kF {P:Program} {w:Ω} {K:O->Ω->Prop} {k:IntKind} {t:TypeId} {a b:Int}:V P (binOp .geq t (.int k a) (.int k b)) w K↔K (.bool (decide (a>=b))) w:=V.iff (by exact wK )
theorem lG {P:Program} {w:Ω} {k:IntKind} {t:TypeId} {a b:Int}:(binOp .add t (.int k a) (.int k b)).run P w=.ok (.int k (k.wrap (a+b))) w:=by simp [binOp,Op.intArith]
theorem bT {P:Program} {w:Ω} {K:O->Ω->Prop} {k:IntKind} {t:TypeId} {a b:Int}:V P (binOp .add t (.int k a) (.int k b)) w K↔K (.int k (k.wrap (a+b))) w:=V.iff (by exact lG )
theorem nC {P:Program} {w:Ω} {k:IntKind} {t:TypeId} {a b:Int}:(binOp .sub t (.int k a) (.int k b)).run P w=.ok (.int k (k.wrap (a - b))) w:=by simp [binOp,Op.intArith]
theorem iJ {P:Program} {w:Ω} {K:O->Ω->Prop} {k:IntKind} {t:TypeId} {a b:Int}:V P (binOp .sub t (.int k a) (.int k b)) w K↔K (.int k (k.wrap (a - b))) w:=V.iff (by exact nC )
theorem UK {P:Program} {w:Ω} {k:IntKind} {t:TypeId} {a b:Int}:(binOp .mul t (.int k a) (.int k b)).run P w=.ok (.int k (k.wrap (a*b))) w:=by simp [binOp,Op.intArith]
theorem OL {P:Program} {w:Ω} {K:O->Ω->Prop} {k:IntKind} {t:TypeId} {a b:Int}:V P (binOp .mul t (.int k a) (.int k b)) w K↔K (.int k (k.wrap (a*b))) w:=V.iff (by exact UK )
theorem EC {P:Program} {w:Ω} {k:IntKind} {t:TypeId} {a b:Int} (h:b≠0):(binOp .quo t (.int k a) (.int k b)).run P w=.ok (.int k (k.wrap (a.tdiv b))) w:=by simp [binOp,Op.intDiv,h]
theorem AX {P:Program} {w:Ω} {K:O->Ω->Prop} {k:IntKind} {t:TypeId} {a b:Int} (h:b≠0):V P (binOp .quo t (.int k a) (.int k b)) w K↔K (.int k (k.wrap (a.tdiv b))) w:=V.iff (by exact EC h)
theorem aSt {P:Program} {w:Ω} {k:IntKind} {t:TypeId} {a b:Int} (h:b≠0):(binOp .rem t (.int k a) (.int k b)).run P w=.ok (.int k (a.tmod b)) w:=by simp [binOp,Op.intDiv,h]
theorem aNc {P:Program} {w:Ω} {k:IntKind} {t:TypeId} {x y:Operand} {a b:Int}:(do eqGuard .eql t x y (.int k a) (.int k b);binOp .eql t (.int k a) (.int k b)).run P w=.ok (.bool (decide (a=b))) w:=by simp [eqGuard,binOp,Op.intCmp];rfl
theorem aF {P:Program} {w:Ω} {K:O->Ω->Prop} {k:IntKind} {t:TypeId} {x y:Operand} {a b:Int}:V P (do eqGuard .eql t x y (.int k a) (.int k b);binOp .eql t (.int k a) (.int k b)) w K↔K (.bool (decide (a=b))) w:=V.iff (by exact aNc )
theorem oD {P:Program} {w:Ω} {k:IntKind} {t:TypeId} {x y:Operand} {a b:Int}:(do eqGuard .neq t x y (.int k a) (.int k b);binOp .neq t (.int k a) (.int k b)).run P w=.ok (.bool (decide (a≠b))) w:=by simp [eqGuard,binOp,Op.intCmp,bne];rfl
theorem aT {P:Program} {w:Ω} {K:O->Ω->Prop} {k:IntKind} {t:TypeId} {x y:Operand} {a b:Int}:V P (do eqGuard .neq t x y (.int k a) (.int k b);binOp .neq t (.int k a) (.int k b)) w K↔K (.bool (decide (a≠b))) w:=V.iff (by exact oD )
theorem UG {P:Program} {w:Ω} {b:Bool}:(Op.unary .not (.bool b)).run P w=.ok (.bool (!b)) w:=by simp [Op.unary]
theorem eJ {P:Program} {w:Ω} {K:O->Ω->Prop} {b:Bool}:V P (Op.unary .not (.bool b)) w K↔K (.bool (!b)) w:=V.iff (by exact UG )
theorem UJ {P:Program} {w:Ω} {k:IntKind} {a:Int}:(Op.unary .neg (.int k a)).run P w=.ok (.int k (k.wrap (0 - a))) w:=by simp [Op.unary,Op.intArith]
theorem fQ {P:Program} {w:Ω} {a b:O}:(Instr.extract (.tuple #[a,b]) 0).run P w=.ok a w:=by simp [Instr.extract]
theorem cH {P:Program} {w:Ω} {K:O->Ω->Prop} {a b:O}:V P (Instr.extract (.tuple #[a,b]) 0) w K↔K a w:=V.iff (by exact fQ )
theorem fP {P:Program} {w:Ω} {a b:O}:(Instr.extract (.tuple #[a,b]) 1).run P w=.ok b w:=by simp [Instr.extract]
theorem cG {P:Program} {w:Ω} {K:O->Ω->Prop} {a b:O}:V P (Instr.extract (.tuple #[a,b]) 1) w K↔K b w:=V.iff (by exact fP )
theorem iL {n:Int} (h1:-9223372036854775808<=n) (h2:n<=9223372036854775807):IntKind.i64.wrap n=n:=by
 simp only [IntKind.wrap_i64];omega
theorem aX {n:Int} (h:-9223372036854775808<=n/\n<=9223372036854775807):IntKind.i64.wrap n=n:=iL h.1 h.2
def cP (P:Program) (t:TypeId) (z:O) (n bytes:Nat):Prop:=(P.info? t).map (λi=>(i.zero,i.size,i.bytes))=some (some z,n,bytes)
section
variable {P:Program} {w:Ω} {K:O->Ω->Prop}
theorem sV {t:TypeId} {z:O} {n b:Nat} (h:cP P t z n b):(zeroValue t).run P w=.ok z w:=by
 obtain ⟨i,hi,hz,_⟩:=info_parts h;simp [zeroValue,typeInfo,hi,hz]
theorem dN {t:TypeId} {z:O} {n b:Nat} (h:cP P t z n b):(sizeOf t).run P w=.ok n w:=by
 obtain ⟨i,hi,_,hn,_⟩:=info_parts h;simp [sizeOf,typeInfo,hi,hn]
theorem kS {s e ty:TypeId} (hs:P.underlying s=some (.slice e)) {a:Option Addr} {n c:Nat}:(Builtin.len_ #[s] ty #[.slice a n c]).run P w=.ok (.int .i64 n) w:=by
 simp [Builtin.len_,run_underlying hs,goInt]
def aTc:TypeDesc->Bool
 | .interface _=>false
 | _=>true
theorem MZ {t:TypeId} {z:O} {n b:Nat} (hz:cP P t z n b):(Instr.alloc t true (.tuple #[])).run P w=.ok (.pointer (some ⟨w.heap.size,0,none⟩)) (w.alloc (.cells z.cells t)):=by
 simp [Instr.alloc,sV hz,newVar,newRow,newObj,Sem.run]
theorem aLb {t:TypeId} {v:O}:(Instr.box t v).run P w=.ok (.pointer (some ⟨w.heap.size,0,none⟩)) (w.alloc (.cells v.cells t)):=by
 simp [Instr.box,newVar,newRow,newObj,Sem.run]
theorem fL (b off n:Nat):(⟨b,off,none⟩:Addr).add n=⟨b,off+n,none⟩:=by
 unfold Addr.add;split
 ·rename_i h;subst h;rfl
 ·rfl
theorem aQ {s:TypeId} {fs:Array Field} {f:Nat} (ft:TypeId) (o:Nat) {z:O} {n by_:Nat} (hs:P.underlying s=some (.struct fs)) (hf:(fs[f]?).map (λfd=>(fd.type,fd.offset))=some (ft,o)) (hi:cP P ft z n by_) (hn:(n == 0)=false) {b off:Nat} :
  (Instr.fieldAt s (.pointer (some ⟨b,off,none⟩)) f).run P w=.ok (.pointer (some ⟨b,off+o,none⟩)) w:=by
 obtain ⟨fd,hfd,he⟩:=Option.map_eq_some_iff.1 hf;simp only [Prod.mk.injEq] at he;obtain ⟨rfl,rfl⟩:=he;have hn':n≠0:=by simpa using hn
 simp [Instr.fieldAt,run_underlying hs,hfd,Instr.sureAddr,fieldPlace,dN hi,hn',fL]
theorem eQ {t e:TypeId} {z:O} {n by_:Nat} (ht:P.underlying t=some (.slice e)) (hi:cP P e z n by_) {b off len cap:Nat} {k:IntKind} {i:Int} (h0:0<=i) (h1:i < len) :
  (Instr.indexAt t (.slice (some ⟨b,off,none⟩) len cap) (.int k i)).run P w=.ok (.pointer (some ⟨b,off+i.toNat*n,none⟩)) w:=by
 simp [Instr.indexAt,asIntOf,run_underlying ht,h0,h1,dN hi,fL]
def mP:TypeDesc->Bool
 | .struct _|.array _ _=>true
 | _=>false
theorem uB {t:TypeId} {d:TypeDesc} (ht:P.underlying t=some d):(isAgg t).run P w=.ok (mP d) w:=by
 cases d<;>simp [isAgg,run_underlying ht,mP]
theorem iM {t:TypeId} {d:TypeDesc} (ht:P.underlying t=some d) (hd:mP d=false) {a:Addr} {v:O} (h:w.cell? a=some v) :
  (Instr.loadAt t (.pointer (some a))).run P w=.ok v w:=by
 simp [Instr.loadAt,Instr.sureAddr,loadVar,uB ht,hd,load,Sem.run,h]
theorem sY {b off:Nat} (cs:List O):∀ (l:List O) (i:Nat) (acc:Array O),(∀ j (_:j < l.length),w.cell? ⟨b,off+(i+j),none⟩=l[j]?) ->
  (loadCellsFrom ⟨b,off,none⟩ i l.length acc).run P w=.ok (acc++l.toArray) w
 | [],_,acc,_=>by simp [loadCellsFrom]
 | v::l,i,acc,h=>by
  have h0:=h 0 (by simp);simp only [Nat.add_zero,List.getElem?_cons_zero] at h0;simp only [List.length_cons,loadCellsFrom,load,fL,Sem.run_bind,Sem.run,h0,Result.andThen_ok]
  rw [sY cs l (i+1) (acc.push v) (λj hj=>by
   have:=h (j+1) (by simp;omega);rw [show i+1+j=i+(j+1) from by omega];simpa using this)]
  simp
theorem iY {t:TypeId} {d:TypeDesc} {z:O} {n by_:Nat} (ht:P.underlying t=some d) (hd:mP d=true) (hi:cP P t z n by_) {b off:Nat} {cs:List O} (hl:cs.length=n)
  (h:∀ j (_:j < cs.length),w.cell? ⟨b,off+j,none⟩=cs[j]?):(Instr.loadAt t (.pointer (some ⟨b,off,none⟩))).run P w=.ok (.agg cs.toArray) w:=by
 subst hl;have:=sY (P:=P) (w:=w) (b:=b) (off:=off) cs cs 0 #[] (by simpa using h);simp [Instr.loadAt,Instr.sureAddr,loadVar,uB ht,hd,dN hi,loadCells,this]
def cB:O->Bool
 | .agg _|.tuple _=>false
 | _=>true
theorem sA {v:O} (h:cB v=true):v.cells=#[v]:=by cases v<;>first|rfl|cases h
theorem rV {a:Addr} {v u:O} (hv:cB v=true) (h:w.cell? a=some u) (hf:w.frozen? a=false):(store a v).run P w=.ok () (w.setCell a v):=by
 cases v<;>first|(simp [store,Sem.run,h,hf];done)|cases hv
theorem kG {t:TypeId} {z:O} {by_:Nat} (hi:cP P t z 1 by_) {b off:Nat} {v u:O} (hv:cB v=true) (h:w.cell? ⟨b,off,none⟩=some u) (hf:w.frozen? ⟨b,off,none⟩=false) :
  (Instr.storeAt t (.pointer (some ⟨b,off,none⟩)) v).run P w=.ok () (w.setCell ⟨b,off,none⟩ v):=by
 simp [Instr.storeAt,Instr.sureAddr,storeVar,dN hi,sA hv,storeCells,rV hv h hf,fL]
theorem sW {t:TypeId}:∀ (l done old:List O),l.length=old.length->(∀ u∈l,cB u=true) ->
  (storeCells ⟨w.heap.size,0,none⟩ l done.length).run P (w.alloc (.cells (done++old).toArray t))=.ok () (w.alloc (.cells (done++l).toArray t))
 | [],done,[],_,_=>by simp [storeCells]
 | v::l,done,u::old,hl,h1=>by
  have hc:(w.alloc (.cells (done++u::old).toArray t)).cell? ⟨w.heap.size,done.length,none⟩=some u:=by simp
  have hf:(w.alloc (.cells (done++u::old).toArray t)).frozen? ⟨w.heap.size,done.length,none⟩=false:=by simp
  have hset:(w.alloc (.cells (done++u::old).toArray t)).setCell ⟨w.heap.size,done.length,none⟩ v=w.alloc (.cells (done++v::old).toArray t):=by
   simp only [World.setCell,World.alloc]
   congr 1
   apply Array.ext
   ·simp
   ·intro i h1 h2;simp only [Array.getElem_modify,Array.getElem_push];by_cases hi:i < w.heap.size
    ·have:¬ w.heap.size=i:=by omega
     simp [hi,this]
    ·have hi':w.heap.size=i:=by simp at h1;omega
     subst hi';simp
  simp only [storeCells,fL,Nat.zero_add,Sem.run_bind];rw [rV (h1 v (by simp)) hc hf,Result.andThen_ok,hset];have:=sW (t:=t) l (done++[v]) old (by simpa using hl) (λu hu=>h1 u (by simp [hu]));simpa using this
theorem KD {t t':TypeId} {z:O} {n by_:Nat} (hi:cP P t z n by_) {old:Array O} {v:O} (hn:v.cells.size=n) (ho:old.size=n) (h1:∀ u∈v.cells.toList,cB u=true) :
  (Instr.storeAt t (.pointer (some ⟨w.heap.size,0,none⟩)) v).run P (w.alloc (.cells old t'))=.ok () (w.alloc (.cells v.cells t')):=by
 have:=sW (P:=P) (w:=w) (t:=t') v.cells.toList [] old.toList (by simp [hn,ho]) h1;simp only [List.nil_append,List.length_nil,Array.toArray_toList] at this;simp [Instr.storeAt,Instr.sureAddr,storeVar,dN hi,hn,this]
def ldO (P:Program) (t:TypeId) (a:Addr) (o:Option O) (w:Ω) (K:O->Ω->Prop):Prop:=
 match o with
 | some v=>K v w
 | none=>V P (Instr.loadAt t (.pointer (some a))) w K
theorem CI {t:TypeId} {z:O} {n by_:Nat} (hi:cP P t z n by_) (hz:(z.cells.size == n)=true) {v:O} {K':O->Ω->Prop} (hn:v.cells.size=n) (h1:∀ u∈v.cells.toList,cB u=true) :
  V P (Instr.alloc t true (.tuple #[])) w (λp w1=>U P (Instr.storeAt t p v) w1 λ_ w2=>K' p w2)↔K' (.pointer (some ⟨w.heap.size,0,none⟩)) (w.alloc (.cells v.cells t)):=by
 rw [V.iff (MZ hi)];exact U.iff (KD hi hn (by simpa using hz) h1)
theorem FL (e:Nat):∀ (l:List O) (done old:List O),l.length=old.length->(∀ u∈l,cB u=true) ->
  Instr.fill (λi=>some (i*1,1)) (done++old).toArray ((List.range' done.length l.length).zip l)=some (done++l).toArray
 | [],done,[],_,_=>by simp [Instr.fill]
 | v::l,done,u::old,hl,h1=>by
  have hv:=sA (h1 v (by simp));simp only [List.length_cons,List.range'_succ,List.zip_cons_cons,Instr.fill,hv];have:=FL e l (done++[v]) old (by simpa using hl) (λu hu=>h1 u (by simp [hu]));simp at this ⊢;exact this
theorem BK {s e:TypeId} {z:O} {by_:Nat} (hs:P.underlying s=some (.slice e)) (hi:cP P e z 1 by_) (hz:(z.cells.size == 1)=true) (l:List O) (hl:l.length<=16777216) (h1:∀ u∈l,cB u=true) :
  (Instr.buildSlice s l.length ((List.range' 0 l.length).zip l).toArray).run P w=.ok (.slice (some ⟨w.heap.size,0,none⟩) l.length l.length) (w.alloc (.cells l.toArray e)):=by
 obtain ⟨i,hi',hz',hn,hb⟩:=info_parts hi;have hz1:z.cells.size=1:=by simpa using hz
 by_cases h0:l.length=0
 ·obtain rfl:=List.length_eq_zero_iff.1 h0;have e0:Array.range 0=#[]:=by simp [Array.range]
  simp [Instr.buildSlice,run_underlying hs,sizeOf,typeInfo,hi',Instr.fill,newRow,newObj,Sem.run,e0]
 ·have hf:=FL 0 l [] ((Array.range (l.length*1)).map (λj=>z.cells[j % z.cells.size]!)).toList (by simp) h1;simp only [List.nil_append,List.length_nil,Array.toArray_toList] at hf;have hgt:¬ 16777216 < l.length:=by omega
  simp only [Instr.buildSlice,Sem.run_bind,run_underlying hs,Result.andThen_ok,dN hi];simp only [Nat.mul_one,h0,if_false];rw [if_neg (by simpa using hgt)];simp only [Nat.mul_one] at hf;simp [hf,newRow,newObj,Sem.run,sV hi]
theorem lU (s:TypeId) (x y:O):Op.equal s x y=Op.equalIn (9999+1) s x y:=rfl
theorem KG {s e:TypeId} (hs:P.underlying s=some (.slice e)) (d:Nat) {a:Option Addr} {n c:Nat}:(Op.equalIn (d+1) s (.slice a n c) (.slice none 0 0)).run P w=.ok a.isNone w:=by
 cases a<;>simp [Op.equalIn,run_underlying hs]
theorem aNe {s:TypeId} (hs:P.underlying s=some .bool) (d:Nat) {a b:Bool}:(Op.equalIn (d+1) s (.bool a) (.bool b)).run P w=.ok (a == b) w:=by
 simp [Op.equalIn,run_underlying hs]
theorem kT {s e:TypeId} (hs:P.underlying s=some (.slice e)) {x y:Operand} {a:Option Addr} {n c:Nat} :
  (do eqGuard .eql s x y (.slice a n c) (.slice none 0 0);binOp .eql s (.slice a n c) (.slice none 0 0)).run P w=.ok (.bool a.isNone) w:=by
 simp [eqGuard,binOp,lU,KG hs]
theorem zM {s:TypeId} (hs:P.underlying s=some .bool) {x y:Operand} {a b:Bool} :
  (do eqGuard .neq s x y (.bool a) (.bool b);binOp .neq s (.bool a) (.bool b)).run P w=.ok (.bool (a != b)) w:=by
 simp [eqGuard,binOp,lU,aNe hs,bne]
theorem bG {s d:TypeId} {ds:TypeDesc} {k k':IntKind} {n:Int} (hs:P.underlying s=some ds) (hd:P.underlying d=some (.int k')) :
  (convert s d (.int k n)).run P w=.ok (.int k' (k'.wrap n)) w:=by
 simp [convert,run_underlying hs,run_underlying hd,Conv.intToInt]
def aG (w w':Ω):Prop:=w.grownBy w' none
theorem aG.refl (w:Ω):aG w w:=⟨rfl,rfl,rfl,Nat.le_refl _,λ_ _ _=>rfl⟩
theorem aG.trans {a b c:Ω} (h:aG a b) (k:aG b c):aG a c:=
 ⟨k.os.trans h.os,k.tape.trans h.tape,k.output.trans h.output,Nat.le_trans h.size k.size,λi hi hn=>(k.block i (Nat.lt_of_lt_of_le hi h.size) hn).trans (h.block i hi hn)⟩
theorem aG.alloc {a w:Ω} (h:aG a w) (o:Obj):aG a (w.alloc o):=h.trans (World.grownBy_alloc _ _ _)
theorem aG.drew {a w:Ω} (h:aG a w):aG a w.drew:=⟨h.os,h.tape,h.output,h.size,h.block⟩
theorem aG.setCell {a w:Ω} (h:aG a w) {b o:Nat} (hb:a.heap.size<=b) (v:O):aG a (w.setCell ⟨b,o,none⟩ v):=
 ⟨h.os,h.tape,h.output,by simpa using h.size,λi hi hn=>by rw [RowKit.Below.heap_setCell _ _ _ _ (by simp;omega)];exact h.block i hi hn⟩
theorem aG.cell {a w:Ω} (h:aG a w) {p:Addr} {v:O} (hc:a.cell? p=some v):w.cell? p=some v:=World.grownBy.cell h hc (by simp)
theorem aG.obj {a w:Ω} (h:aG a w) {b:Nat} {o:Obj} (hb:a.heap[b]?=some o):w.heap[b]?=some o:=by
 have hlt:b < a.heap.size:=(Array.getElem?_eq_some_iff.1 hb).1;rw [h.block b hlt (by simp)];exact hb
theorem aG.grown {a w w':Ω} (h:aG a w) {row:Option Nat} (hg:w.grownBy w' row) (hr:∀ k,row=some k->a.heap.size<=k):aG a w':=
 ⟨hg.os.trans h.os,hg.tape.trans h.tape,hg.output.trans h.output,Nat.le_trans h.size hg.size,λi hi hn=>(hg.block i (Nat.lt_of_lt_of_le hi h.size) (λe=>by have:=hr i e.symm;omega)).trans (h.block i hi hn)⟩
theorem aG.own {a w:Ω} (h:aG a w) {B:Nat} {e:TypeId} {size n:Nat} {v:O} {xs:List O} (ho:a.ownsRow B e size v n xs):w.ownsRow B e size v n xs:=ho.kept h (by cases v.ownBlock<;>simp)
theorem aG.below {a w:Ω} (h:aG a w):RowKit.Below a.heap.size a w:=⟨h.os,h.tape,h.output,h.size,λk hk=>h.block k hk (by simp)⟩
def aC (w:Ω) (v:O) (size n:Nat) (cs:List O):Prop:=
 cs.length=n*size/\((v=.slice none 0 0/\n=0)\/∃ b off cap,v=.slice (some ⟨b,off,none⟩) n cap/\n<=cap/\cap<=maxLen/\∀ j u,cs[j]?=some u->w.cell? ⟨b,off+j,none⟩=some u)
theorem aC.ext {w w':Ω} {v:O} {size n:Nat} {cs:List O} (h:aC w v size n cs) (hx:aG w w'):aC w' v size n cs:=by
 obtain ⟨h1,h2⟩:=h;refine ⟨h1,?_⟩;rcases h2 with h2|⟨b,off,cap,h2,h3,h4,h5⟩
 ·exact .inl h2
 ·exact .inr ⟨b,off,cap,h2,h3,h4,λj u hj=>hx.cell (h5 j u hj)⟩
theorem aC.nil (w:Ω) (size:Nat):aC w (.slice none 0 0) size 0 []:=⟨by simp,.inl ⟨rfl,rfl⟩⟩
theorem aC.of_own {w:Ω} {B:Nat} {e:TypeId} {size n:Nat} {v:O} {xs:List O} (h:w.ownsRow B e size v n xs):aC w v size n xs:=by
 refine ⟨h.1,?_⟩;rcases h.2 with ⟨h1,h2⟩|⟨g,cap,cur,rfl,_,_,h4,h5,_⟩
 ·exact .inl ⟨h1,h2⟩
 ·exact .inr ⟨g,0,cap,rfl,h4,h5,λj u hj=>by have:=h.cells (g:=g) rfl j u hj;rwa [fL] at this⟩
theorem aC.shape {w:Ω} {v:O} {size n:Nat} {cs:List O} (h:aC w v size n cs):∃ a cap,v=.slice a n cap:=by
 rcases h.2 with ⟨rfl,rfl⟩|⟨b,off,cap,rfl,_⟩
 ·exact ⟨none,0,rfl⟩
 ·exact ⟨_,cap,rfl⟩
theorem aC.there {w:Ω} {v:O} {size n:Nat} {cs:List O} (h:aC w v size n cs) (hn:0 < n):∃ b off cap,v=.slice (some ⟨b,off,none⟩) n cap/\∀ j u,cs[j]?=some u->w.cell? ⟨b,off+j,none⟩=some u:=by
 rcases h.2 with ⟨_,rfl⟩|⟨b,off,cap,rfl,_,_,h5⟩
 ·omega
 ·exact ⟨b,off,cap,rfl,h5⟩
theorem aC.get {t e x:TypeId} {d:TypeDesc} {z:O} {by_:Nat} (ht:P.underlying t=some (.slice e)) (hi:cP P e z 1 by_) (hx:P.underlying x=some d) (hd:mP d=false) {v:O} {n:Nat} {cs:List O} (h:aC w v 1 n cs)
  {k:IntKind} {i:Int} {u:O} (h0:0<=i) (h1:i < n) (hu:cs[i.toNat]?=some u) (hk:K u w) :
  V P (Instr.indexAt t v (.int k i)) w λp w1=>V P (Instr.loadAt x p) w1 K:=by
 obtain ⟨b,off,cap,rfl,hc⟩:=h.there (by omega);refine V.ok (eQ ht hi h0 h1) (V.ok (iM hx hd ?_) hk);simpa using hc _ _ hu
structure TA (P:Program) (u:TypeId):Prop where
 of ::
 ex:∃ z,(∀ (w:Ω) x t v,(Instr.typeAssert (.iface t v) x u true).run P w=.ok (if t=u then .tuple #[v,.bool true] else .tuple #[z,.bool false]) w) /\
 ∀ (w:Ω) x,(Instr.typeAssert .nilIface x u true).run P w=.ok (.tuple #[z,.bool false]) w
structure SA (P:Program) (t:TypeId) (n:Nat):Prop where
 of ::
 ex:∃ z by_,cP P t z n by_/\z.cells.size=n
structure FA (P:Program) (s f o:Nat):Prop where
 of ::
 ex:∀ (w:Ω) b off,(Instr.fieldAt s (.pointer (some ⟨b,off,none⟩)) f).run P w=.ok (.pointer (some ⟨b,off+o,none⟩)) w
structure L1 (P:Program) (t:TypeId):Prop where
 of ::
 ex:∃ d,P.underlying t=some d/\mP d=false
structure XA (P:Program) (t n:Nat):Prop where
 of ::
 ex:∃ e z by_,P.underlying t=some (.slice e)/\cP P e z n by_
theorem as_ {t n:TypeId} {v:O} {K':O->Ω->Prop} (h:SA P t n) (hn:v.cells.size=n) (h1:v.cells.toList.all cB=true) (hk:K' (.pointer (some ⟨w.heap.size,0,none⟩)) (w.alloc (.cells v.cells t))) :
  V P (Instr.alloc t true (.tuple #[])) w (λp w1=>U P (Instr.storeAt t p v) w1 λ_ w2=>K' p w2):=by
 obtain ⟨z,b,hi,hz⟩:=h;exact (CI hi (by simpa using hz) hn (λu hu=>List.all_eq_true.1 h1 u hu)).2 hk
theorem ldf {s f o ft b off:Nat} {u:O} (h:FA P s f o) (hl:L1 P ft) (hc:w.cell? ⟨b,off+o,none⟩=some u) (hk:K u w) :
  V P (Instr.fieldAt s (.pointer (some ⟨b,off,none⟩)) f) w λq w1=>V P (Instr.loadAt ft q) w1 K:=by
 obtain ⟨d,hd,ha⟩:=hl;exact V.ok (h.ex w b off) (V.ok (iM hd ha hc) hk)
theorem mH {t x:TypeId} {v:O} {n:Nat} {cs:List O} {k:IntKind} {i:Int} {u:O} (h:XA P t 1) (hl:L1 P x) (hs:aC w v 1 n cs) (h0:0<=i) (h1:i < n) (hu:cs[i.toNat]?=some u) (hk:K u w) :
  V P (Instr.indexAt t v (.int k i)) w λp w1=>V P (Instr.loadAt x p) w1 K:=by
 obtain ⟨e,z,b,ht,hi⟩:=h;obtain ⟨d,hd,ha⟩:=hl;exact hs.get ht hi hd ha h0 h1 hu hk
theorem gD {t ty n:Nat} {m:Nat} {v:O} {size:Nat} {cs:List O} (h:XA P t n) (hs:aC w v size m cs) (hk:K (i64 m) w):V P (Builtin.len_ #[t] ty #[v]) w K:=by
 obtain ⟨e,z,b,ht,hi⟩:=h;obtain ⟨a,c,rfl⟩:=hs.shape;exact V.ok (kS ht) hk
def fA (w:Ω) (b:Nat) (cs:List O):Prop:=∀ j u,cs[j]?=some u->w.cell? ⟨b,0+j,none⟩=some u
theorem fA.ext {w w':Ω} {b:Nat} {cs:List O} (h:fA w b cs) (hx:aG w w'):fA w' b cs:=λj u hj=>hx.cell (h j u hj)
theorem AM {cs:Array O} {t:TypeId}:fA (w.alloc (.cells cs t)) w.heap.size cs.toList:=λj u hj=>by simpa using hj
theorem bx {t:TypeId} {v:O} (hk:∀ b w1,fA w1 b v.cells.toList->aG w w1->K (.pointer (some ⟨b,0,none⟩)) w1):V P (Instr.box t v) w K:=
 V.ok aLb (hk _ _ AM ((aG.refl w).alloc _))
theorem asB {t n:TypeId} {v:O} {K':O->Ω->Prop} (h:SA P t n) (hn:v.cells.size=n) (h1:v.cells.toList.all cB=true) (hk:∀ b w1,fA w1 b v.cells.toList->aG w w1->K' (.pointer (some ⟨b,0,none⟩)) w1) :
  V P (Instr.alloc t true (.tuple #[])) w (λp w1=>U P (Instr.storeAt t p v) w1 λ_ w2=>K' p w2):=
 as_ h hn h1 (hk _ _ AM ((aG.refl w).alloc _))
theorem bB {s f o ft b:Nat} {cs:List O} {u:O} (hb:fA w b cs) (h:FA P s f o) (hl:L1 P ft) (hc:cs[o]?=some u) (hk:K u w) :
  V P (Instr.fieldAt s (.pointer (some ⟨b,0,none⟩)) f) w λq w1=>V P (Instr.loadAt ft q) w1 K:=ldf h hl (hb o u hc) hk
theorem oY {t n b:Nat} {cs:List O} (hb:fA w b cs) (ht:∃ d z by_,P.underlying t=some d/\mP d=true/\cP P t z n by_) (hl:cs.length=n) (hk:K (.agg cs.toArray) w):V P (Instr.loadAt t (.pointer (some ⟨b,0,none⟩))) w K:=by
 obtain ⟨d,z,by_,h1,h2,h3⟩:=ht
 exact V.ok (iY h1 h2 h3 hl λj hj=>by
  obtain ⟨u,hu⟩:∃ u,cs[j]?=some u:=⟨_,List.getElem?_eq_getElem hj⟩;rw [hu];exact hb j u hu) hk
structure XE (P:Program) (t e by_:Nat):Prop where
 of ::
 ex:∃ z,P.underlying t=some (.slice e)/\cP P e z 1 by_/\(z.cells.size == 1)=true
theorem qZ (v:O):v.oneCell'=cB v:=by cases v<;>rfl
theorem kC {t e by_:Nat} (h:XE P t e by_) (l:List O) {n:Nat} {parts:Array (Nat × O)} (hn:n=l.length) (hp:parts=((List.range' 0 l.length).zip l).toArray) (hl:l.length<=16777216) (h1:l.all cB=true)
  (hk:∀ v w',w'.ownsRow w.heap.size e 1 v n l->aG w w'->K v w'):V P (Instr.buildSlice t n parts) w K:=by
 subst hn;subst hp;obtain ⟨z,ht,hi,hz⟩:=h;refine V.ok (BK ht hi hz l hl (λu hu=>List.all_eq_true.1 h1 u hu)) (hk _ _ ?_ ((aG.refl w).alloc _));have:=World.ownsRow_lit (base:=w.heap.size) (e:=e) (size:=1) w l.toArray l.length (Nat.le_refl _) (by unfold maxLen;omega) (by simp);simpa using this
theorem SQ {t e by_ ty:Nat} (h:XE P t e by_) {B:Nat} {v:O} {n:Nat} {xs:List O} (ho:w.ownsRow B e 1 v n xs) {x:O} {m:Nat} {news:List O} (hs:aC w x 1 m news) (h1:news.all cB=true)
  (hb:(n+m)*by_<=140737488355328) (h63:n+m<=maxLen) (hB:B<=w.heap.size) (hk:∀ v' w',w'.ownsRow B e 1 v' (n+m) (xs++news)->w.grownBy w' v.ownBlock->K v' w') :
  V P (Builtin.append_ #[t,t] ty #[v,x]) w K:=by
 obtain ⟨z,ht,hi,hz⟩:=h;obtain ⟨i,hi',hz',hn,hby⟩:=info_parts hi;rcases hs.2 with ⟨rfl,rfl⟩|⟨b,off,cap,rfl,_,_,hc⟩
 ·have hnews:news=[]:=by have:=hs.1;simpa using this
  subst hnews;refine V.ok (run_append_owned_none w B t ty e i 1 ht hi' v n xs ho) (hk _ _ (by simpa using ho) ⟨rfl,rfl,rfl,Nat.le_refl _,λ_ _ _=>rfl⟩)
 ·obtain ⟨v',w',hr,h2,h3,_⟩:=run_append_own (P:=P) w B t ty e i z 1 by_ ht hi' hz' hn hby (by simpa using hz) (by omega) v n xs ho ⟨b,off,none⟩ m cap news hs.1
   (λj u hj=>by rw [fL];exact hc j u hj) (λu hu=>by rw [qZ];exact List.all_eq_true.1 h1 u hu) h63 hb hB
  exact V.ok hr (hk _ _ h2 h3)
theorem CD {t e by_:Nat} (h:XE P t e by_) {v:O} {n:Nat} {cs:List O} (hs:aC w v 1 n cs) (h1:cs.all cB=true) (hb:n*by_<=140737488355328) {x y:Operand} {R:O->Ω->Prop}
  (hk:∀ v' w',w'.ownsRow w.heap.size e 1 v' n cs->aG w w'->R v' w') :
  V P (do eqGuard .eql t x y v (Value.slice none 0 0);binOp .eql t v (Value.slice none 0 0)) w λt4 w1=>
   aO t4 (R (Value.slice none 0 0) w1) (V P (Instr.buildSlice t 0 #[]) w1 λt5 w2=>V P (Builtin.append_ #[t,t] t #[t5,v]) w2 λt7 w3=>R t7 w3):=by
 have h':=h;obtain ⟨z,ht,hi,hz⟩:=h;rcases hs.2 with ⟨rfl,rfl⟩|⟨b,off,cap,rfl,hc1,hc2,hc⟩
 ·refine V.ok (kT ht) (aE.2 (hk _ _ ?_ (aG.refl w)));have:cs=[]:=by have:=hs.1;simpa using this
  subst this;exact World.ownsRow_nil _ _ _ _
 ·refine V.ok (kT ht) (aA.2 (kC h' [] rfl rfl (by simp) rfl λv1 w1 ho x1=>?_));refine SQ h' ho (hs.ext x1) h1 (by simpa using hb) (by unfold maxLen at *;omega) x1.size λv2 w2 ho2 hg=>?_;have:=ho2;simp only [Nat.zero_add,List.nil_append] at this;exact hk _ _ this (x1.grown hg λk hk'=>(ho.lt k hk').1)
end
section
variable {P:Program} {w:Ω} {K:O->Ω->Prop}
theorem aP {w:Ω} {B B' e size n:Nat} {v:O} {xs:List O} (h:w.ownsRow B e size v n xs) (hB:B'<=B):w.ownsRow B' e size v n xs:=by
 refine ⟨h.1,?_⟩;rcases h.2 with h2|⟨g,cap,cur,h2,h3,h4⟩
 ·exact .inl h2
 ·exact .inr ⟨g,cap,cur,h2,Nat.le_trans hB h3,h4⟩
theorem aNj {w:Ω} {B e size n:Nat} {v:O} {xs:List O} (h:w.ownsRow B e size v n xs) {row:Option Nat} (hr:∀ k,row=some k->k < B):v.ownBlock=none\/v.ownBlock≠row:=by
 cases hv:v.ownBlock with
 | none=>exact .inl rfl
 | some g=>exact .inr λhe=>by have:=hr g he.symm;have:=(h.lt g hv).1;omega
theorem stO {t x:Nat} {z:O} {by_:Nat} (h:XA P t 1) (hx:cP P x z 1 by_) {B e n:Nat} {v:O} {xs:List O} (ho:w.ownsRow B e 1 v n xs) {k:IntKind} {i:Int} (h0:0<=i) (h1:i < n) {u:O} (hu:cB u=true) {K':Ω->Prop}
  (hk:∀ w',w'.ownsRow B e 1 v n (xs.set i.toNat u)->w.grownBy w' v.ownBlock->K' w') :
  V P (Instr.indexAt t v (.int k i)) w λp w1=>U P (Instr.storeAt x p u) w1 λ_ w2=>K' w2:=by
 obtain ⟨e',z',b',ht,hi⟩:=h;have ho':=ho;rcases ho.2 with ⟨_,rfl⟩|⟨g,cap,cur,rfl,hB,_⟩
 ·omega
 refine V.ok (eQ ht hi h0 h1) ?_;obtain ⟨s1,s2⟩:=ho'.stored i.toNat u;have hc:=ho'.cellAt i.toNat (by omega);have hlt:i.toNat < xs.length:=by have:=ho'.1;omega
 rw [List.getElem?_eq_getElem hlt] at hc;simp only [Nat.zero_add,Nat.mul_one];exact U.ok (kG hx hu hc (ho'.frozenAt _)) (hk _ s1 s2)
theorem aNt {t x:Nat} (h:XA P t 1) (hl:L1 P x) {B e n:Nat} {v:O} {xs:List O} (ho:w.ownsRow B e 1 v n xs) {k:IntKind} {i:Int} {u:O} (h0:0<=i) (h1:i < n) (hu:xs[i.toNat]?=some u) (hk:K u w) :
  V P (Instr.indexAt t v (.int k i)) w λp w1=>V P (Instr.loadAt x p) w1 K:=mH h hl (aC.of_own ho) h0 h1 hu hk
def aY (w:Ω) (g:Nat) (cs:List O) (e:TypeId):Prop:=w.heap[g]?=some (.cells cs.toArray e (0,0))
theorem aY.ext {w w':Ω} {g:Nat} {cs:List O} {e:TypeId} (h:aY w g cs e) (hx:aG w w'):aY w' g cs e:=hx.obj h
theorem aY.lt {w:Ω} {g:Nat} {cs:List O} {e:TypeId} (h:aY w g cs e):g < w.heap.size:=(Array.getElem?_eq_some_iff.1 h).1
theorem aY.cell {w:Ω} {g:Nat} {cs:List O} {e:TypeId} (h:aY w g cs e) (j:Nat):w.cell? ⟨g,j,none⟩=cs[j]?:=by
 rw [cell_of_row w g j cs.toArray e (0,0) h];simp
theorem aY.frozen {w:Ω} {g:Nat} {cs:List O} {e:TypeId} (h:aY w g cs e) (j:Nat):w.frozen? ⟨g,j,none⟩=false:=frozen_of_row w g j cs.toArray e h
theorem aY.set {w:Ω} {g:Nat} {cs:List O} {e:TypeId} (h:aY w g cs e) (j:Nat) (u:O):aY (w.setCell ⟨g,j,none⟩ u) g (cs.set j u) e:=by
 have:=heap_setCell_same w g j cs.toArray e u h;unfold aY;rw [this];simp
theorem aY.other {w:Ω} {g g' j:Nat} {cs:List O} {e:TypeId} {u:O} (h:aY w g cs e) (hne:g≠g'):aY (w.setCell ⟨g',j,none⟩ u) g cs e:=by
 unfold aY;rw [heap_setCell_other w ⟨g',j,none⟩ g u hne];exact h
theorem aY.slice {w:Ω} {g n:Nat} {cs:List O} {e:TypeId} (h:aY w g cs e) (hn:cs.length=n) (hm:n<=maxLen):aC w (.slice (some ⟨g,0,none⟩) n n) 1 n cs:=
 ⟨by omega,.inr ⟨g,0,n,rfl,Nat.le_refl _,hm,λj u hj=>by rw [Nat.zero_add,h.cell];exact hj⟩⟩
theorem mkB {t e by_:Nat} {z:O} (ht:P.underlying t=some (.slice e)) (hi:cP P e z 1 by_) (hz:z.cells=#[z]) {n:Nat} (hb:by_*n<=281474976710656) (h63:n<=9223372036854775807)
  (hk:∀ w',aY w' w.heap.size (List.replicate n z) e->aG w w'->w'.heap.size=w.heap.size+1->K (.slice (some ⟨w.heap.size,0,none⟩) n n) w'):V P (Instr.makeSlice t (i64 n) (i64 n)) w K:=by
 obtain ⟨i,hi',hz',hn,hby⟩:=info_parts hi;have hr:=run_make (P:=P) w t e i z ht hi' hz' .i64 .i64 n n (by omega) (Int.le_refl _) (by rw [hby,<- Int.natCast_mul];omega) (by omega);simp only [Int.toNat_natCast,hn,hz,Nat.mul_one] at hr;refine V.ok hr (hk _ ?_ ((aG.refl w).alloc _) (by simp));unfold aY;have:=heap_alloc_new w (.cells (madeCells #[z] n) e);rw [this]
 congr 2
 rw [<- toList_madeCells_one z n]
structure BD (P:Program) (t:TypeId) (zs:List O):Prop where
 of ::
 ex:∃ fs b,P.underlying t=some (.struct fs)/\cP P t (.agg zs.toArray) zs.length b/\∀ w:Ω,(fs.mapM (λf=>do pure (f.offset,<- sizeOf f.type)):Sem (Array (Nat × Nat))).run P w=.ok ((List.range zs.length).map (λi=>(i,1))).toArray w
theorem WI {n:Nat}:∀ (l:List (Nat × O)) (cs:List O),cs.length=n->(l.all λx=>decide (x.1 < n)&&cB x.2)=true ->
  Instr.fill ((((List.range n).map (λi=>(i,1))).toArray)[·]?) cs.toArray l=some (l.foldl (λcs x=>cs.set x.1 x.2) cs).toArray
 | [],cs,_,_=>rfl
 | (i,v)::l,cs,hl,h=>by
  simp only [List.all_cons,Bool.and_eq_true,decide_eq_true_eq] at h;have hi:((((List.range n).map (λi=>(i,1))).toArray)[i]?)=some (i,1):=by simp [h.1.1]
  have hc:=sA h.1.2;rw [Instr.fill,hi];have hn:¬ (i+1 > cs.length):=by omega
  simp only [hc,List.size_toArray,List.length_cons,List.length_nil,Nat.zero_add,ne_eq,not_true_eq_false,decide_false,Bool.false_or,hn,Bool.false_eq_true,if_false];have:=WI (n:=n) l (cs.set i v) (by simpa using hl) h.2;simpa using this
theorem bld {t:TypeId} {zs:List O} (h:BD P t zs) {parts:Array (Nat × O)} (l:List (Nat × O)) (hp:parts=l.toArray) (h1:(l.all λx=>decide (x.1 < zs.length)&&cB x.2)=true)
  (hk:K (.agg (l.foldl (λcs x=>cs.set x.1 x.2) zs).toArray) w):V P (Instr.build t parts) w K:=by
 subst hp;obtain ⟨fs,b,hu,hi,hm⟩:=h;refine V.ok ?_ hk;simp only [Instr.build,Sem.run_bind,sV hi,Result.andThen_ok,run_underlying hu,hm,Value.cells];rw [WI l zs rfl h1];simp
structure MI (P:Program) (t:TypeId):Prop where
 of ::
 ex:∃ d,P.underlying t=some d/\aTc d=true
end
end Go.Vc
namespace Go.Proofs.YtgkkecladbmjkaaGreatDoor
open Tryz
open Go.Vc
variable {w:Ω} {n off:Nat} {k:IntKind} {i:Int} {a:Option Addr} {x:Operand} {ty:TypeId} {K:O->Ω->Prop}
theorem gP:cP prog 3 (.int .i64 0) 1 8:=by unfold cP;kernel_rfl
theorem oH:cP prog 4 (.bool false) 1 1:=by unfold cP;kernel_rfl
theorem mM:cP prog 5 (.int .u8 0) 1 1:=by unfold cP;kernel_rfl
theorem aDt:cP prog 9 (.string ByteArray.empty) 1 16:=by unfold cP;kernel_rfl
theorem tJ:cP prog 21 (.int .i32 0) 1 4:=by unfold cP;kernel_rfl
theorem lJ:cP prog 23 (.slice none 0 0) 1 24:=by unfold cP;kernel_rfl
theorem NO:cP prog 24 (.slice none 0 0) 1 24:=by unfold cP;kernel_rfl
theorem aLl:cP prog 26 (.pointer none) 1 8:=by unfold cP;kernel_rfl
theorem xF:cP prog 37 (.slice none 0 0) 1 24:=by unfold cP;kernel_rfl
theorem iI:cP prog 42 (.slice none 0 0) 1 24:=by unfold cP;kernel_rfl
theorem EZ:cP prog 43 (.slice none 0 0) 1 24:=by unfold cP;kernel_rfl
theorem EY:cP prog 44 (.slice none 0 0) 1 24:=by unfold cP;kernel_rfl
theorem iE:cP prog 46 (.agg #[(.string ByteArray.empty),(.slice none 0 0),(.slice none 0 0),(.slice none 0 0),(.slice none 0 0)]) 5 112:=by unfold cP;kernel_rfl
theorem aLk:cP prog 48 (.pointer none) 1 8:=by unfold cP;kernel_rfl
theorem AD:cP prog 50 (.slice none 0 0) 1 24:=by unfold cP;kernel_rfl
theorem EX:cP prog 54 (.agg #[(.int .i64 0),(.int .i64 0),(.int .i64 0),(.int .i64 0)]) 4 32:=by unfold cP;kernel_rfl
theorem nL:cP prog 70 (.agg #[(.int .i64 0),(.int .i64 0),(.int .i64 0)]) 3 24:=by unfold cP;kernel_rfl
theorem tI:cP prog 71 (.slice none 0 0) 1 24:=by unfold cP;kernel_rfl
theorem lI:cP prog 74 (.agg #[(.slice none 0 0),(.int .i64 0),(.slice none 0 0),(.slice none 0 0)]) 4 80:=by unfold cP;kernel_rfl
theorem EW:cP prog 76 (.agg #[(.int .i64 0),(.int .i64 0)]) 2 16:=by unfold cP;kernel_rfl
theorem aLj:cP prog 99 (.slice none 0 0) 1 24:=by unfold cP;kernel_rfl
theorem aOg:cP prog 100 (.pointer none) 1 8:=by unfold cP;kernel_rfl
theorem KO:cP prog 107 (.slice none 0 0) 1 24:=by unfold cP;kernel_rfl
theorem aOf:cP prog 109 (.agg #[(.pointer none),(.pointer none),(.slice none 0 0),(.int .i64 0),(.int .i64 0)]) 5 56:=by unfold cP;kernel_rfl
theorem KN:cP prog 111 (.pointer none) 1 8:=by unfold cP;kernel_rfl
theorem aOe:cP prog 125 (.agg #[(.slice none 0 0)]) 1 24:=by unfold cP;kernel_rfl
theorem eX:cP prog 127 (.agg #[(.int .i64 0),(.int .i64 0),(.int .i64 0),(.bool false),(.slice none 0 0)]) 5 56:=by unfold cP;kernel_rfl
theorem BZ:cP prog 132 (.slice none 0 0) 1 24:=by unfold cP;kernel_rfl
theorem aOd:cP prog 134 (.agg #[(.pointer none),(.slice none 0 0),(.slice none 0 0),(.slice none 0 0),(.slice none 0 0)]) 5 104:=by unfold cP;kernel_rfl
theorem aOc:cP prog 137 (.pointer none) 1 8:=by unfold cP;kernel_rfl
theorem aOb:cP prog 139 (.agg #[(.pointer none),(.slice none 0 0),(.slice none 0 0),(.slice none 0 0),(.slice none 0 0)]) 5 104:=by unfold cP;kernel_rfl
theorem oI:cP prog 154 (.slice none 0 0) 1 24:=by unfold cP;kernel_rfl
theorem aOa:cP prog 156 (.agg #[(.int .i64 0),(.slice none 0 0)]) 2 32:=by unfold cP;kernel_rfl
theorem mN:cP prog 180 (.agg #[(.string ByteArray.empty),(.int .i64 0),(.slice none 0 0),(.int .i64 0)]) 4 56:=by unfold cP;kernel_rfl
theorem aNz:cP prog 193 (.agg #[(.int .i64 0),(.slice none 0 0)]) 2 32:=by unfold cP;kernel_rfl
theorem aNy:cP prog 252 (.agg #[(.slice none 0 0),(.slice none 0 0),(.int .i64 0),(.slice none 0 0),(.int .i64 0)]) 5 88:=by unfold cP;kernel_rfl
theorem sC:cP prog 254 (.agg #[(.int .i64 0),(.int .i64 0),(.int .i64 0),(.int .i64 0)]) 4 32:=by unfold cP;kernel_rfl
theorem aNx:cP prog 266 (.agg #[(.bool false),(.bool false)]) 2 2:=by unfold cP;kernel_rfl
theorem KM:cP prog 283 (.agg #[(.pointer none),(.pointer none),(.int .i64 0),(.int .i64 0),(.int .i64 0),(.slice none 0 0)]) 6 64:=by unfold cP;kernel_rfl
theorem KL:cP prog 290 (.agg #[(.int .u8 0),(.int .u8 0)]) 2 2:=by unfold cP;kernel_rfl
theorem KF {b:Nat}:(Instr.fieldAt 114 (.pointer (some ⟨b,off,none⟩)) 3).run prog w=.ok (.pointer (some ⟨b,off+3,none⟩)) w:=aQ 74 3 underlying114 rfl lI rfl
theorem KE {b:Nat}:(Instr.fieldAt 125 (.pointer (some ⟨b,off,none⟩)) 0).run prog w=.ok (.pointer (some ⟨b,off+0,none⟩)) w:=aQ 50 0 underlying125 rfl AD rfl
theorem iN {b:Nat}:(Instr.fieldAt 127 (.pointer (some ⟨b,off,none⟩)) 4).run prog w=.ok (.pointer (some ⟨b,off+4,none⟩)) w:=aQ 23 4 underlying127 rfl lJ rfl
theorem rY {b:Nat}:(Instr.fieldAt 134 (.pointer (some ⟨b,off,none⟩)) 3).run prog w=.ok (.pointer (some ⟨b,off+3,none⟩)) w:=aQ 23 3 underlying134 rfl lJ rfl
theorem wO {b:Nat}:(Instr.fieldAt 134 (.pointer (some ⟨b,off,none⟩)) 4).run prog w=.ok (.pointer (some ⟨b,off+4,none⟩)) w:=aQ 23 4 underlying134 rfl lJ rfl
theorem rX {b:Nat}:(Instr.fieldAt 139 (.pointer (some ⟨b,off,none⟩)) 3).run prog w=.ok (.pointer (some ⟨b,off+3,none⟩)) w:=aQ 23 3 underlying139 rfl lJ rfl
theorem wN {b:Nat}:(Instr.fieldAt 139 (.pointer (some ⟨b,off,none⟩)) 4).run prog w=.ok (.pointer (some ⟨b,off+4,none⟩)) w:=aQ 23 4 underlying139 rfl lJ rfl
theorem pC {b:Nat}:(Instr.fieldAt 156 (.pointer (some ⟨b,off,none⟩)) 1).run prog w=.ok (.pointer (some ⟨b,off+1,none⟩)) w:=aQ 154 1 underlying156 rfl oI rfl
theorem wM {b:Nat}:(Instr.fieldAt 180 (.pointer (some ⟨b,off,none⟩)) 2).run prog w=.ok (.pointer (some ⟨b,off+2,none⟩)) w:=aQ 42 2 underlying180 rfl iI rfl
theorem wL {b:Nat}:(Instr.fieldAt 193 (.pointer (some ⟨b,off,none⟩)) 1).run prog w=.ok (.pointer (some ⟨b,off+1,none⟩)) w:=aQ 154 1 underlying193 rfl oI rfl
theorem RE {b:Nat}:(Instr.fieldAt 46 (.pointer (some ⟨b,off,none⟩)) 1).run prog w=.ok (.pointer (some ⟨b,off+1,none⟩)) w:=aQ 42 1 underlying46 rfl iI rfl
theorem RD {b:Nat}:(Instr.fieldAt 46 (.pointer (some ⟨b,off,none⟩)) 2).run prog w=.ok (.pointer (some ⟨b,off+2,none⟩)) w:=aQ 43 2 underlying46 rfl EZ rfl
theorem RC {b:Nat}:(Instr.fieldAt 46 (.pointer (some ⟨b,off,none⟩)) 3).run prog w=.ok (.pointer (some ⟨b,off+3,none⟩)) w:=aQ 44 3 underlying46 rfl EY rfl
theorem RB {b:Nat}:(Instr.fieldAt 46 (.pointer (some ⟨b,off,none⟩)) 4).run prog w=.ok (.pointer (some ⟨b,off+4,none⟩)) w:=aQ 42 4 underlying46 rfl iI rfl
theorem RA {b:Nat}:(Instr.fieldAt 66 (.pointer (some ⟨b,off,none⟩)) 0).run prog w=.ok (.pointer (some ⟨b,off+0,none⟩)) w:=aQ 50 0 underlying66 rfl AD rfl
theorem zP {b:Nat}:(Instr.fieldAt 74 (.pointer (some ⟨b,off,none⟩)) 0).run prog w=.ok (.pointer (some ⟨b,off+0,none⟩)) w:=aQ 42 0 underlying74 rfl iI rfl
theorem QZ {b:Nat}:(Instr.fieldAt 74 (.pointer (some ⟨b,off,none⟩)) 1).run prog w=.ok (.pointer (some ⟨b,off+1,none⟩)) w:=aQ 3 1 underlying74 rfl gP rfl
theorem zO {b:Nat}:(Instr.fieldAt 74 (.pointer (some ⟨b,off,none⟩)) 2).run prog w=.ok (.pointer (some ⟨b,off+2,none⟩)) w:=aQ 42 2 underlying74 rfl iI rfl
theorem zN {b:Nat}:(Instr.fieldAt 74 (.pointer (some ⟨b,off,none⟩)) 3).run prog w=.ok (.pointer (some ⟨b,off+3,none⟩)) w:=aQ 71 3 underlying74 rfl tI rfl
theorem nG {b len cap:Nat} (h0:0<=i) (h1:i < len):(Instr.indexAt 154 (.slice (some ⟨b,off,none⟩) len cap) (.int k i)).run prog w=.ok (.pointer (some ⟨b,off+i.toNat*5,none⟩)) w:=eQ underlying154 eX h0 h1
theorem MV {b len cap:Nat} (h0:0<=i) (h1:i < len):(Instr.indexAt 43 (.slice (some ⟨b,off,none⟩) len cap) (.int k i)).run prog w=.ok (.pointer (some ⟨b,off+i.toNat*4,none⟩)) w:=eQ underlying43 mN h0 h1
theorem aCx {b len cap:Nat} (h0:0<=i) (h1:i < len):(Instr.indexAt 44 (.slice (some ⟨b,off,none⟩) len cap) (.int k i)).run prog w=.ok (.pointer (some ⟨b,off+i.toNat*4,none⟩)) w:=eQ underlying44 lI h0 h1
theorem wJ {b:Nat} {cs:List O} (hl:cs.length=5) (h:∀ j (_:j < cs.length),w.cell? ⟨b,off+j,none⟩=cs[j]?):(Instr.loadAt 127 (.pointer (some ⟨b,off,none⟩))).run prog w=.ok (.agg cs.toArray) w:=iY underlying127 rfl eX hl h
theorem jG {a:Addr} {v:O} (h:w.cell? a=some v):(Instr.loadAt 23 (.pointer (some a))).run prog w=.ok v w:=iM underlying23 rfl h
theorem UM {a:Addr} {v:O} (h:w.cell? a=some v):(Instr.loadAt 3 (.pointer (some a))).run prog w=.ok v w:=iM underlying3 rfl h
theorem BI {a:Addr} {v:O} (h:w.cell? a=some v):(Instr.loadAt 42 (.pointer (some a))).run prog w=.ok v w:=iM underlying42 rfl h
theorem aNb {a:Addr} {v:O} (h:w.cell? a=some v):(Instr.loadAt 5 (.pointer (some a))).run prog w=.ok v w:=iM underlying5 rfl h
theorem aCw {a:Addr} {v:O} (h:w.cell? a=some v):(Instr.loadAt 71 (.pointer (some a))).run prog w=.ok v w:=iM underlying71 rfl h
theorem aNa {a:Addr} {v:O} (h:w.cell? a=some v):(Instr.loadAt 9 (.pointer (some a))).run prog w=.ok v w:=iM underlying9 rfl h
theorem UH {y:Operand} {a b:Bool}:(do eqGuard .neq 4 x y (.bool a) (.bool b);binOp .neq 4 (.bool a) (.bool b)).run prog w=.ok (.bool (a != b)) w:=zM underlying4
theorem tN {c:Nat}:V prog (Builtin.len_ #[107] ty #[.slice a n c]) w K↔K (.int .i64 n) w:=V.iff (kS underlying107)
theorem XD {c:Nat}:V prog (Builtin.len_ #[132] ty #[.slice a n c]) w K↔K (.int .i64 n) w:=V.iff (kS underlying132)
theorem lA {c:Nat}:V prog (Builtin.len_ #[154] ty #[.slice a n c]) w K↔K (.int .i64 n) w:=V.iff (kS underlying154)
theorem aFc {c:Nat}:V prog (Builtin.len_ #[22] ty #[.slice a n c]) w K↔K (.int .i64 n) w:=V.iff (kS underlying22)
theorem oA {c:Nat}:V prog (Builtin.len_ #[23] ty #[.slice a n c]) w K↔K (.int .i64 n) w:=V.iff (kS underlying23)
theorem aFb {c:Nat}:V prog (Builtin.len_ #[24] ty #[.slice a n c]) w K↔K (.int .i64 n) w:=V.iff (kS underlying24)
theorem aFa {c:Nat}:V prog (Builtin.len_ #[42] ty #[.slice a n c]) w K↔K (.int .i64 n) w:=V.iff (kS underlying42)
theorem aEz {c:Nat}:V prog (Builtin.len_ #[71] ty #[.slice a n c]) w K↔K (.int .i64 n) w:=V.iff (kS underlying71)
theorem XC {y:Operand} {a b:Bool}:V prog (do eqGuard .neq 4 x y (.bool a) (.bool b);binOp .neq 4 (.bool a) (.bool b)) w K↔K (.bool (a != b)) w:=V.iff (zM underlying4)
theorem aLy:XA prog 107 1:=⟨_,_,_,underlying107,KN⟩
theorem tW:XA prog 116 1:=⟨_,_,_,underlying116,iI⟩
theorem lN:XA prog 117 1:=⟨_,_,_,underlying117,oH⟩
theorem JJ:XA prog 132 1:=⟨_,_,_,underlying132,xF⟩
theorem MA:XA prog 22 1:=⟨_,_,_,underlying22,aLj⟩
theorem iH:XA prog 23 1:=⟨_,_,_,underlying23,mM⟩
theorem kM:XA prog 24 5:=⟨_,_,_,underlying24,iE⟩
theorem TD:XA prog 292 1:=⟨_,_,_,underlying292,aDt⟩
theorem fM:XA prog 37 1:=⟨_,_,_,underlying37,tJ⟩
theorem aK:XA prog 42 1:=⟨_,_,_,underlying42,gP⟩
theorem mF:XA prog 43 4:=⟨_,_,_,underlying43,mN⟩
theorem iB:XA prog 44 4:=⟨_,_,_,underlying44,lI⟩
theorem LZ:XA prog 50 4:=⟨_,_,_,underlying50,EX⟩
theorem kD:XA prog 71 3:=⟨_,_,_,underlying71,nL⟩
theorem oN:XA prog 99 4:=⟨_,_,_,underlying99,sC⟩
theorem TC:XE prog 107 111 8:=⟨_,underlying107,KN,rfl⟩
theorem JI:XE prog 132 37 24:=⟨_,underlying132,xF,rfl⟩
theorem aSh:XE prog 22 99 24:=⟨_,underlying22,aLj,rfl⟩
theorem lD:XE prog 23 5 1:=⟨_,underlying23,mM,rfl⟩
theorem aLx:XE prog 292 9 16:=⟨_,underlying292,aDt,rfl⟩
theorem DJ:XE prog 37 21 4:=⟨_,underlying37,tJ,rfl⟩
theorem bE:XE prog 42 3 8:=⟨_,underlying42,gP,rfl⟩
theorem KJ:∃ d z by_,Program.underlying prog 127=some d/\mP d=true/\cP prog 127 z 5 by_:=⟨_,_,_,underlying127,rfl,eX⟩
theorem KI:∃ d z by_,Program.underlying prog 180=some d/\mP d=true/\cP prog 180 z 4 by_:=⟨_,_,_,underlying180,rfl,mN⟩
theorem aNv:∃ d z by_,Program.underlying prog 254=some d/\mP d=true/\cP prog 254 z 4 by_:=⟨_,_,_,underlying254,rfl,sC⟩
theorem fY:∃ d z by_,Program.underlying prog 283=some d/\mP d=true/\cP prog 283 z 6 by_:=⟨_,_,_,underlying283,rfl,KM⟩
theorem aNu:∃ d z by_,Program.underlying prog 290=some d/\mP d=true/\cP prog 290 z 2 by_:=⟨_,_,_,underlying290,rfl,KL⟩
theorem jQ:∃ d z by_,Program.underlying prog 46=some d/\mP d=true/\cP prog 46 z 5 by_:=⟨_,_,_,underlying46,rfl,iE⟩
theorem aLh:∃ d z by_,Program.underlying prog 54=some d/\mP d=true/\cP prog 54 z 4 by_:=⟨_,_,_,underlying54,rfl,EX⟩
theorem tF:∃ d z by_,Program.underlying prog 70=some d/\mP d=true/\cP prog 70 z 3 by_:=⟨_,_,_,underlying70,rfl,nL⟩
theorem nW:∃ d z by_,Program.underlying prog 74=some d/\mP d=true/\cP prog 74 z 4 by_:=⟨_,_,_,underlying74,rfl,lI⟩
theorem dY:L1 prog 100:=⟨_,underlying100,rfl⟩
theorem fH:L1 prog 107:=⟨_,underlying107,rfl⟩
theorem jC:L1 prog 111:=⟨_,underlying111,rfl⟩
theorem gK:L1 prog 132:=⟨_,underlying132,rfl⟩
theorem dF:L1 prog 137:=⟨_,underlying137,rfl⟩
theorem cM:L1 prog 154:=⟨_,underlying154,rfl⟩
theorem eU:L1 prog 21:=⟨_,underlying21,rfl⟩
theorem gJ:L1 prog 23:=⟨_,underlying23,rfl⟩
theorem iU:L1 prog 24:=⟨_,underlying24,rfl⟩
theorem eY:L1 prog 26:=⟨_,underlying26,rfl⟩
theorem aJ:L1 prog 3:=⟨_,underlying3,rfl⟩
theorem lH:L1 prog 37:=⟨_,underlying37,rfl⟩
theorem mU:L1 prog 4:=⟨_,underlying4,rfl⟩
theorem aZ:L1 prog 42:=⟨_,underlying42,rfl⟩
theorem jY:L1 prog 43:=⟨_,underlying43,rfl⟩
theorem fS:L1 prog 44:=⟨_,underlying44,rfl⟩
theorem rL:L1 prog 48:=⟨_,underlying48,rfl⟩
theorem uK:L1 prog 5:=⟨_,underlying5,rfl⟩
theorem tG:L1 prog 50:=⟨_,underlying50,rfl⟩
theorem gM:L1 prog 71:=⟨_,underlying71,rfl⟩
theorem VR:L1 prog 9:=⟨_,underlying9,rfl⟩
theorem VQ:L1 prog 99:=⟨_,underlying99,rfl⟩
theorem cL:FA prog 109 0 0:=⟨λ_ _ _=>aQ 26 0 underlying109 rfl aLl rfl⟩
theorem dT:FA prog 109 1 1:=⟨λ_ _ _=>aQ 48 1 underlying109 rfl aLk rfl⟩
theorem bZ:FA prog 109 2 2:=⟨λ_ _ _=>aQ 107 2 underlying109 rfl KO rfl⟩
theorem dK:FA prog 109 3 3:=⟨λ_ _ _=>aQ 3 3 underlying109 rfl gP rfl⟩
theorem dS:FA prog 109 4 4:=⟨λ_ _ _=>aQ 3 4 underlying109 rfl gP rfl⟩
theorem cE:FA prog 114 0 0:=⟨λ_ _ _=>aQ 3 0 underlying114 rfl gP rfl⟩
theorem eI:FA prog 114 1 1:=⟨λ_ _ _=>aQ 3 1 underlying114 rfl gP rfl⟩
theorem cC:FA prog 114 2 2:=⟨λ_ _ _=>aQ 3 2 underlying114 rfl gP rfl⟩
theorem eW:FA prog 114 3 3:=⟨λ_ _ _=>aQ 74 3 underlying114 rfl lI rfl⟩
theorem dR:FA prog 114 4 7:=⟨λ_ _ _=>aQ 37 7 underlying114 rfl xF rfl⟩
theorem cK:FA prog 114 5 8:=⟨λ_ _ _=>aQ 37 8 underlying114 rfl xF rfl⟩
theorem eG:FA prog 125 0 0:=⟨λ_ _ _=>aQ 50 0 underlying125 rfl AD rfl⟩
theorem dJ:FA prog 127 0 0:=⟨λ_ _ _=>aQ 3 0 underlying127 rfl gP rfl⟩
theorem eF:FA prog 127 3 3:=⟨λ_ _ _=>aQ 4 3 underlying127 rfl oH rfl⟩
theorem bO:FA prog 127 4 4:=⟨λ_ _ _=>aQ 23 4 underlying127 rfl lJ rfl⟩
theorem bX:FA prog 134 0 0:=⟨λ_ _ _=>aQ 100 0 underlying134 rfl aOg rfl⟩
theorem cD:FA prog 134 1 1:=⟨λ_ _ _=>aQ 24 1 underlying134 rfl NO rfl⟩
theorem cV:FA prog 134 2 2:=⟨λ_ _ _=>aQ 132 2 underlying134 rfl BZ rfl⟩
theorem bJ:FA prog 139 0 0:=⟨λ_ _ _=>aQ 137 0 underlying139 rfl aOc rfl⟩
theorem dI:FA prog 139 1 1:=⟨λ_ _ _=>aQ 24 1 underlying139 rfl NO rfl⟩
theorem eE:FA prog 139 2 2:=⟨λ_ _ _=>aQ 132 2 underlying139 rfl BZ rfl⟩
theorem eC:FA prog 156 0 0:=⟨λ_ _ _=>aQ 3 0 underlying156 rfl gP rfl⟩
theorem bW:FA prog 156 1 1:=⟨λ_ _ _=>aQ 154 1 underlying156 rfl oI rfl⟩
theorem eB:FA prog 180 0 0:=⟨λ_ _ _=>aQ 9 0 underlying180 rfl aDt rfl⟩
theorem dD:FA prog 180 1 1:=⟨λ_ _ _=>aQ 3 1 underlying180 rfl gP rfl⟩
theorem cJ:FA prog 180 2 2:=⟨λ_ _ _=>aQ 42 2 underlying180 rfl iI rfl⟩
theorem cU:FA prog 180 3 3:=⟨λ_ _ _=>aQ 3 3 underlying180 rfl gP rfl⟩
theorem eA:FA prog 193 0 0:=⟨λ_ _ _=>aQ 3 0 underlying193 rfl gP rfl⟩
theorem cI:FA prog 193 1 1:=⟨λ_ _ _=>aQ 154 1 underlying193 rfl oI rfl⟩
theorem bN:FA prog 252 0 0:=⟨λ_ _ _=>aQ 71 0 underlying252 rfl tI rfl⟩
theorem dQ:FA prog 252 1 1:=⟨λ_ _ _=>aQ 42 1 underlying252 rfl iI rfl⟩
theorem fK:FA prog 252 2 2:=⟨λ_ _ _=>aQ 3 2 underlying252 rfl gP rfl⟩
theorem dP:FA prog 252 3 3:=⟨λ_ _ _=>aQ 42 3 underlying252 rfl iI rfl⟩
theorem fJ:FA prog 252 4 4:=⟨λ_ _ _=>aQ 3 4 underlying252 rfl gP rfl⟩
theorem gW:FA prog 254 0 0:=⟨λ_ _ _=>aQ 3 0 underlying254 rfl gP rfl⟩
theorem cT:FA prog 254 1 1:=⟨λ_ _ _=>aQ 3 1 underlying254 rfl gP rfl⟩
theorem fI:FA prog 254 2 2:=⟨λ_ _ _=>aQ 3 2 underlying254 rfl gP rfl⟩
theorem gV:FA prog 254 3 3:=⟨λ_ _ _=>aQ 3 3 underlying254 rfl gP rfl⟩
theorem dC:FA prog 266 0 0:=⟨λ_ _ _=>aQ 4 0 underlying266 rfl oH rfl⟩
theorem dB:FA prog 266 1 1:=⟨λ_ _ _=>aQ 4 1 underlying266 rfl oH rfl⟩
theorem dA:FA prog 283 0 0:=⟨λ_ _ _=>aQ 26 0 underlying283 rfl aLl rfl⟩
theorem iW:FA prog 283 1 1:=⟨λ_ _ _=>aQ 48 1 underlying283 rfl aLk rfl⟩
theorem gU:FA prog 283 2 2:=⟨λ_ _ _=>aQ 3 2 underlying283 rfl gP rfl⟩
theorem fU:FA prog 283 3 3:=⟨λ_ _ _=>aQ 3 3 underlying283 rfl gP rfl⟩
theorem fT:FA prog 283 4 4:=⟨λ_ _ _=>aQ 3 4 underlying283 rfl gP rfl⟩
theorem bI:FA prog 283 5 5:=⟨λ_ _ _=>aQ 42 5 underlying283 rfl iI rfl⟩
theorem jT:FA prog 290 0 0:=⟨λ_ _ _=>aQ 5 0 underlying290 rfl mM rfl⟩
theorem jS:FA prog 290 1 1:=⟨λ_ _ _=>aQ 5 1 underlying290 rfl mM rfl⟩
theorem kH:FA prog 46 0 0:=⟨λ_ _ _=>aQ 9 0 underlying46 rfl aDt rfl⟩
theorem iA:FA prog 46 1 1:=⟨λ_ _ _=>aQ 42 1 underlying46 rfl iI rfl⟩
theorem cO:FA prog 46 2 2:=⟨λ_ _ _=>aQ 43 2 underlying46 rfl EZ rfl⟩
theorem bK:FA prog 46 3 3:=⟨λ_ _ _=>aQ 44 3 underlying46 rfl EY rfl⟩
theorem hY:FA prog 46 4 4:=⟨λ_ _ _=>aQ 42 4 underlying46 rfl iI rfl⟩
theorem kX:FA prog 66 0 0:=⟨λ_ _ _=>aQ 50 0 underlying66 rfl AD rfl⟩
theorem bV:FA prog 70 0 0:=⟨λ_ _ _=>aQ 3 0 underlying70 rfl gP rfl⟩
theorem bC:FA prog 70 1 1:=⟨λ_ _ _=>aQ 3 1 underlying70 rfl gP rfl⟩
theorem nZ:FA prog 70 2 2:=⟨λ_ _ _=>aQ 3 2 underlying70 rfl gP rfl⟩
theorem fD:FA prog 74 0 0:=⟨λ_ _ _=>aQ 42 0 underlying74 rfl iI rfl⟩
theorem iQ:FA prog 74 1 1:=⟨λ_ _ _=>aQ 3 1 underlying74 rfl gP rfl⟩
theorem nY:FA prog 74 2 2:=⟨λ_ _ _=>aQ 42 2 underlying74 rfl iI rfl⟩
theorem fZ:FA prog 74 3 3:=⟨λ_ _ _=>aQ 71 3 underlying74 rfl tI rfl⟩
theorem aPm:BD prog 109 [(.pointer none),(.pointer none),(.slice none 0 0),(.int .i64 0),(.int .i64 0)]:=⟨_,_,underlying109,aOf,λw=>by kernel_rfl⟩
theorem aPl:BD prog 125 [(.slice none 0 0)]:=⟨_,_,underlying125,aOe,λw=>by kernel_rfl⟩
theorem kZ:BD prog 127 [(.int .i64 0),(.int .i64 0),(.int .i64 0),(.bool false),(.slice none 0 0)]:=⟨_,_,underlying127,eX,λw=>by kernel_rfl⟩
theorem aPk:BD prog 134 [(.pointer none),(.slice none 0 0),(.slice none 0 0),(.slice none 0 0),(.slice none 0 0)]:=⟨_,_,underlying134,aOd,λw=>by kernel_rfl⟩
theorem aPj:BD prog 139 [(.pointer none),(.slice none 0 0),(.slice none 0 0),(.slice none 0 0),(.slice none 0 0)]:=⟨_,_,underlying139,aOb,λw=>by kernel_rfl⟩
theorem aPi:BD prog 156 [(.int .i64 0),(.slice none 0 0)]:=⟨_,_,underlying156,aOa,λw=>by kernel_rfl⟩
theorem CE:BD prog 180 [(.string ByteArray.empty),(.int .i64 0),(.slice none 0 0),(.int .i64 0)]:=⟨_,_,underlying180,mN,λw=>by kernel_rfl⟩
theorem aPh:BD prog 193 [(.int .i64 0),(.slice none 0 0)]:=⟨_,_,underlying193,aNz,λw=>by kernel_rfl⟩
theorem WU:BD prog 252 [(.slice none 0 0),(.slice none 0 0),(.int .i64 0),(.slice none 0 0),(.int .i64 0)]:=⟨_,_,underlying252,aNy,λw=>by kernel_rfl⟩
theorem aPg:BD prog 266 [(.bool false),(.bool false)]:=⟨_,_,underlying266,aNx,λw=>by kernel_rfl⟩
theorem LG:BD prog 283 [(.pointer none),(.pointer none),(.int .i64 0),(.int .i64 0),(.int .i64 0),(.slice none 0 0)]:=⟨_,_,underlying283,KM,λw=>by kernel_rfl⟩
theorem WT:BD prog 46 [(.string ByteArray.empty),(.slice none 0 0),(.slice none 0 0),(.slice none 0 0),(.slice none 0 0)]:=⟨_,_,underlying46,iE,λw=>by kernel_rfl⟩
theorem rN:BD prog 54 [(.int .i64 0),(.int .i64 0),(.int .i64 0),(.int .i64 0)]:=⟨_,_,underlying54,EX,λw=>by kernel_rfl⟩
theorem rM:BD prog 70 [(.int .i64 0),(.int .i64 0),(.int .i64 0)]:=⟨_,_,underlying70,nL,λw=>by kernel_rfl⟩
theorem xU:BD prog 74 [(.slice none 0 0),(.int .i64 0),(.slice none 0 0),(.slice none 0 0)]:=⟨_,_,underlying74,lI,λw=>by kernel_rfl⟩
theorem WS:BD prog 76 [(.int .i64 0),(.int .i64 0)]:=⟨_,_,underlying76,EW,λw=>by kernel_rfl⟩
theorem oC:SA prog 127 5:=⟨_,_,eX,by decide⟩
theorem TU:SA prog 180 4:=⟨_,_,mN,by decide⟩
theorem JY:SA prog 283 6:=⟨_,_,KM,by decide⟩
theorem aMn:SA prog 290 2:=⟨_,_,KL,by decide⟩
theorem DY:SA prog 46 5:=⟨_,_,iE,by decide⟩
theorem MT:SA prog 74 4:=⟨_,_,lI,by decide⟩
theorem TT:SA prog 76 2:=⟨_,_,EW,by decide⟩
end Go.Proofs.YtgkkecladbmjkaaGreatDoor
