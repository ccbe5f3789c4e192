/- The laws of single operations in the calculus of verification conditions, over any program; readings of slices; what a call leaves as it was. -/
import Derived.Test.YtjcmcfidblhnnaaGreatDoorFa
import Derived.OwnWalk
import Derived.Below
import Derived.ArgAppend
import Derived.Test.YtjcmcfidblhnnaaGreatDoorProg
import Derived.KernelRfl
namespace Go.Vc
abbrev i64 (n:Int):Y:=.int .i64 n
abbrev i32 (n:Int):Y:=.int .i32 n
abbrev vb (b:Bool):Y:=.bool b
abbrev aX:Y:=.slice none 0 0
abbrev gB (w w':O) (r:Option Nat):Prop:=w.grownBy w' r
section
variable {P:Program} {w:O} {K:Y->O->Prop}
theorem V.iff {s:Sem Y} {v:Y} {w':O} (h:s.run P w=.ok v w'):V P s w K↔K v w':=
 ⟨λ⟨_,_,h',hk⟩=>by rw [h] at h';cases h';exact hk,λhk=>⟨v,w',h,hk⟩⟩
theorem U.iff {s:Sem Unit} {w':O} (h:s.run P w=.ok () w'):U P s w K↔K undef w':=
 ⟨λ⟨_,h',hk⟩=>by rw [h] at h';cases h';exact hk,λhk=>⟨w',h,hk⟩⟩
theorem V.ok {s:Sem Y} {v:Y} {w':O} (h:s.run P w=.ok v w') (hk:K v w'):V P s w K:=⟨v,w',h,hk⟩
theorem U.ok {s:Sem Unit} {w':O} (h:s.run P w=.ok () w') (hk:K undef w'):U P s w K:=⟨w',h,hk⟩
theorem aC.mono {f:FuncId} {args:Array Y} {R:Y->O->Prop} (h:aC P f args w R) (hk:∀ v w',R v w'->K v w'):aC P f args w K:=
 ⟨⟨h.ex.1,Calls.mono h.ex.2 λ_ _ ⟨v,he,hr⟩=>⟨v,he,hk v _ hr⟩⟩⟩
theorem aC.of_calls {f:FuncId} {fn:Func} {c:Code} {args:Array Y} (hf:P.funcs[f]?=some fn) (hname:(fn.name == "runtime.NumGoroutine")=false) (hb:fn.body=some c)
  (h:Calls P f args w λe w'=>∃ v,e=.returned v/\K v w'):aC P f args w K:=by
 refine ⟨⟨λargs w=>?_,h⟩⟩;have hname':¬ fn.name = "runtime.NumGoroutine" := by simpa using hname
 simp [callFunc,program,Sem.run,hf,hname',hb]
theorem bDp {P:Program} {f:FuncId} {fn:Func} {args:List Y} {w:O} {R:Y->O->Prop} {D:Prop} (hm:P.follows .mixedOrders=true) (ann:bT) (hf:P.funcs[f]?=some fn)
  (hb:(!(fn.name == "runtime.NumGoroutine")&&fn.body.isSome&&(ok fn.ntmps ann (fn.body.getD .skip)&&GU fn.ntmps fn.results.toList&&Nat.ble args.length fn.ntmps))=true)
  (hD:D=vc P ann (fn.body.getD .skip) (bBk P fn.results.toList R) (wQ args) w) (h:D):aC P f args.toArray w R:=by
 simp only [Bool.and_eq_true,Bool.not_eq_true'] at hb;obtain ⟨⟨h1,h2⟩,h3,h4⟩:=hb
 have hbody:fn.body=some (fn.body.getD .skip):=by
  cases e:fn.body with
  | none=>rw [e] at h2;cases h2
  | some c=>rfl
 refine aC.of_calls hf h1 hbody (MZ ann hm hf hbody (by simp only [Bool.and_eq_true];exact ⟨h3,h4⟩) (hD▸h))
theorem aI.mk {b:Bool} {x y:Prop} (h1:b=true->x) (h2:b=false->y):aI (.bool b) x y:=⟨b,rfl,h1,h2⟩
theorem bJ {x y:Prop}:aI (.bool true) x y↔x:=⟨λ⟨b,h,h1,_⟩=>by cases h;exact h1 rfl,λh=>⟨true,rfl,λ_=>h,λh=>by cases h⟩⟩
theorem aP {x y:Prop}:aI (.bool false) x y↔y:=⟨λ⟨b,h,_,h2⟩=>by cases h;exact h2 rfl,λh=>⟨false,rfl,(λh=>by cases h),λ_=>h⟩⟩
theorem aB {p:Prop} [Decidable p] {x y:Prop} (h1:p->x) (h2:¬ p->y):aI (.bool (decide p)) x y:=
 ⟨_,rfl,λh=>h1 (of_decide_eq_true h),λh=>h2 (of_decide_eq_false h)⟩
theorem jC {b:Bool} {x y:Y} {L:Y->Prop} (h:L (if b then x else y)):aF (.bool b) x y L:=⟨b,rfl,h⟩
theorem aV {b:Bool} {x y:Y} {L:Y->Prop}:aF (.bool b) x y L↔L (if b then x else y):=⟨λ⟨_,h,hk⟩=>by cases h;exact hk,jC⟩
theorem pJ {b want:Bool} {step:(Y->O->Prop)->Prop}:gd (.bool b) want step w K↔if b=want then step K else K undef w:=by
 constructor
 ·rintro ⟨h1,h2⟩;split
  ·rename_i hb;exact h1 (by rw [hb])
  ·rename_i hb;exact h2 (by simpa using hb)
 ·intro h;by_cases hb:b=want
  ·rw [if_pos hb] at h;exact ⟨λ_=>h,λh'=>absurd (by rw [hb]) h'⟩
  ·rw [if_neg hb] at h;exact ⟨λh'=>absurd (by simpa using h') hb,λ_=>h⟩
theorem BS {b want:Bool} {step:(Y->Prop)->Prop} {L:Y->Prop}:FV (.bool b) want step L↔if b=want then step L else L undef:=by
 constructor
 ·rintro ⟨h1,h2⟩;split
  ·rename_i hb;exact h1 (by rw [hb])
  ·rename_i hb;exact h2 (by simpa using hb)
 ·intro h;by_cases hb:b=want
  ·rw [if_pos hb] at h;exact ⟨λ_=>h,λh'=>absurd (by rw [hb]) h'⟩
  ·rw [if_neg hb] at h;exact ⟨λh'=>absurd (by simpa using h') hb,λ_=>h⟩
theorem rA {want:Bool} {step:(Y->O->Prop)->Prop}:gd undef want step w K↔K undef w:=
 ⟨λ⟨_,h2⟩=>h2 (by simp [undef]),λh=>⟨λh'=>by simp [undef] at h',λ_=>h⟩⟩
theorem HP {want:Bool} {step:(Y->Prop)->Prop} {L:Y->Prop}:FV undef want step L↔L undef:=
 ⟨λ⟨_,h2⟩=>h2 (by simp [undef]),λh=>⟨λh'=>by simp [undef] at h',λ_=>h⟩⟩
theorem lO {step:(Y->O->Prop)->Prop}:gd (.bool true) true step w K↔step K:=by rw [pJ];simp
theorem pK {step:(Y->O->Prop)->Prop}:gd (.bool false) false step w K↔step K:=by rw [pJ];simp
theorem tP {step:(Y->O->Prop)->Prop}:gd (.bool true) false step w K↔K undef w:=by rw [pJ];simp
theorem lG {step:(Y->O->Prop)->Prop}:gd (.bool false) true step w K↔K undef w:=by rw [pJ];simp
theorem WV {step:(Y->Prop)->Prop} {L:Y->Prop}:FV (.bool true) true step L↔step L:=by rw [BS];simp
theorem WW {step:(Y->Prop)->Prop} {L:Y->Prop}:FV (.bool false) false step L↔step L:=by rw [BS];simp
theorem TY {step:(Y->Prop)->Prop} {L:Y->Prop}:FV (.bool true) false step L↔L undef:=by rw [BS];simp
theorem JY {step:(Y->Prop)->Prop} {L:Y->Prop}:FV (.bool false) true step L↔L undef:=by rw [BS];simp
theorem aK.mk' {body:(O->Prop)->O->Prop} (S:O->Prop) (hS:S w.drew) (h:body S w.drew):aK w body:=⟨S,hS,h⟩
theorem aD.ok {S:O->Prop} {s:Sem Y} {v:Y} {L:Y->Prop} (h:∀ w,S w->s.run P w=.ok v w) (hk:L v):aD P S s L:=⟨v,h,hk⟩
end
theorem AG {P:Program} {w:O} {k:IntKind} {t:TypeId} {a b:Int}:(binOp .lss t (.int k a) (.int k b)).run P w=.ok (.bool (decide (a < b))) w:=by simp [binOp,Op.intCmp]
theorem aW {P:Program} {w:O} {K:Y->O->Prop} {k:IntKind} {t:TypeId} {a b:Int}:V P (binOp .lss t (.int k a) (.int k b)) w K↔K (.bool (decide (a < b))) w:=V.iff (by exact AG )
theorem LJ {P:Program} {w:O} {k:IntKind} {t:TypeId} {a b:Int}:(binOp .leq t (.int k a) (.int k b)).run P w=.ok (.bool (decide (a<=b))) w:=by simp [binOp,Op.intCmp]
theorem rH {P:Program} {w:O} {K:Y->O->Prop} {k:IntKind} {t:TypeId} {a b:Int}:V P (binOp .leq t (.int k a) (.int k b)) w K↔K (.bool (decide (a<=b))) w:=V.iff (by exact LJ )
theorem bIv {P:Program} {w:O} {k:IntKind} {t:TypeId} {a b:Int}:(binOp .gtr t (.int k a) (.int k b)).run P w=.ok (.bool (decide (a > b))) w:=by simp [binOp,Op.intCmp]
theorem iH {P:Program} {w:O} {K:Y->O->Prop} {k:IntKind} {t:TypeId} {a b:Int}:V P (binOp .gtr t (.int k a) (.int k b)) w K↔K (.bool (decide (a > b))) w:=V.iff (by exact bIv )
theorem xM {P:Program} {w:O} {k:IntKind} {t:TypeId} {a b:Int}:(binOp .geq t (.int k a) (.int k b)).run P w=.ok (.bool (decide (a>=b))) w:=by simp [binOp,Op.intCmp]
theorem kO {P:Program} {w:O} {K:Y->O->Prop} {k:IntKind} {t:TypeId} {a b:Int}:V P (binOp .geq t (.int k a) (.int k b)) w K↔K (.bool (decide (a>=b))) w:=V.iff (by exact xM )
theorem DD {P:Program} {w:O} {k:IntKind} {t:TypeId} {a b:Int}:(binOp .add t (.int k a) (.int k b)).run P w=.ok (.int k (k.wrap (a+b))) w:=by simp [binOp,Op.intArith]
theorem bA {P:Program} {w:O} {K:Y->O->Prop} {k:IntKind} {t:TypeId} {a b:Int}:V P (binOp .add t (.int k a) (.int k b)) w K↔K (.int k (k.wrap (a+b))) w:=V.iff (by exact DD )
theorem eM {P:Program} {w:O} {k:IntKind} {t:TypeId} {a b:Int}:(binOp .sub t (.int k a) (.int k b)).run P w=.ok (.int k (k.wrap (a - b))) w:=by simp [binOp,Op.intArith]
theorem eY {P:Program} {w:O} {K:Y->O->Prop} {k:IntKind} {t:TypeId} {a b:Int}:V P (binOp .sub t (.int k a) (.int k b)) w K↔K (.int k (k.wrap (a - b))) w:=V.iff (by exact eM )
theorem aFl {P:Program} {w:O} {k:IntKind} {t:TypeId} {a b:Int}:(binOp .mul t (.int k a) (.int k b)).run P w=.ok (.int k (k.wrap (a*b))) w:=by simp [binOp,Op.intArith]
theorem oS {P:Program} {w:O} {K:Y->O->Prop} {k:IntKind} {t:TypeId} {a b:Int}:V P (binOp .mul t (.int k a) (.int k b)) w K↔K (.int k (k.wrap (a*b))) w:=V.iff (by exact aFl )
theorem aFi {P:Program} {w:O} {k:IntKind} {t:TypeId} {a b:Int} (h:b≠0):(binOp .quo t (.int k a) (.int k b)).run P w=.ok (.int k (k.wrap (a.tdiv b))) w:=by simp [binOp,Op.intDiv,h]
theorem NJ {P:Program} {w:O} {K:Y->O->Prop} {k:IntKind} {t:TypeId} {a b:Int} (h:b≠0):V P (binOp .quo t (.int k a) (.int k b)) w K↔K (.int k (k.wrap (a.tdiv b))) w:=V.iff (by exact aFi h)
theorem aFh {P:Program} {w:O} {k:IntKind} {t:TypeId} {a b:Int} (h:b≠0):(binOp .rem t (.int k a) (.int k b)).run P w=.ok (.int k (a.tmod b)) w:=by simp [binOp,Op.intDiv,h]
theorem NI {P:Program} {w:O} {K:Y->O->Prop} {k:IntKind} {t:TypeId} {a b:Int} (h:b≠0):V P (binOp .rem t (.int k a) (.int k b)) w K↔K (.int k (a.tmod b)) w:=V.iff (by exact aFh h)
theorem zK {P:Program} {w:O} {k:IntKind} {t:TypeId} {x y:Operand} {a b:Int}:(do eqGuard .eql t x y (.int k a) (.int k b);binOp .eql t (.int k a) (.int k b)).run P w=.ok (.bool (decide (a=b))) w:=by simp [eqGuard,binOp,Op.intCmp];rfl
theorem aH {P:Program} {w:O} {K:Y->O->Prop} {k:IntKind} {t:TypeId} {x y:Operand} {a b:Int}:V P (do eqGuard .eql t x y (.int k a) (.int k b);binOp .eql t (.int k a) (.int k b)) w K↔K (.bool (decide (a=b))) w:=V.iff (by exact zK )
theorem zJ {P:Program} {w:O} {k:IntKind} {t:TypeId} {x y:Operand} {a b:Int}:(do eqGuard .neq t x y (.int k a) (.int k b);binOp .neq t (.int k a) (.int k b)).run P w=.ok (.bool (decide (a≠b))) w:=by simp [eqGuard,binOp,Op.intCmp,bne];rfl
theorem cH {P:Program} {w:O} {K:Y->O->Prop} {k:IntKind} {t:TypeId} {x y:Operand} {a b:Int}:V P (do eqGuard .neq t x y (.int k a) (.int k b);binOp .neq t (.int k a) (.int k b)) w K↔K (.bool (decide (a≠b))) w:=V.iff (by exact zJ )
theorem xK {P:Program} {w:O} {b:Bool}:(Op.unary .not (.bool b)).run P w=.ok (.bool (!b)) w:=by simp [Op.unary]
theorem dC {P:Program} {w:O} {K:Y->O->Prop} {b:Bool}:V P (Op.unary .not (.bool b)) w K↔K (.bool (!b)) w:=V.iff (by exact xK )
theorem nE {P:Program} {w:O} {a b:Y}:(Instr.extract (.tuple #[a,b]) 0).run P w=.ok a w:=by simp [Instr.extract]
theorem hU {P:Program} {w:O} {K:Y->O->Prop} {a b:Y}:V P (Instr.extract (.tuple #[a,b]) 0) w K↔K a w:=V.iff (by exact nE )
theorem nD {P:Program} {w:O} {a b:Y}:(Instr.extract (.tuple #[a,b]) 1).run P w=.ok b w:=by simp [Instr.extract]
theorem hO {P:Program} {w:O} {K:Y->O->Prop} {a b:Y}:V P (Instr.extract (.tuple #[a,b]) 1) w K↔K b w:=V.iff (by exact nD )
theorem BN {P:Program} {w:O} {a b c:Y}:(Instr.extract (.tuple #[a,b,c]) 0).run P w=.ok a w:=by simp [Instr.extract]
theorem CC {P:Program} {w:O} {K:Y->O->Prop} {a b c:Y}:V P (Instr.extract (.tuple #[a,b,c]) 0) w K↔K a w:=V.iff (by exact BN )
theorem BM {P:Program} {w:O} {a b c:Y}:(Instr.extract (.tuple #[a,b,c]) 1).run P w=.ok b w:=by simp [Instr.extract]
theorem CB {P:Program} {w:O} {K:Y->O->Prop} {a b c:Y}:V P (Instr.extract (.tuple #[a,b,c]) 1) w K↔K b w:=V.iff (by exact BM )
theorem BL {P:Program} {w:O} {a b c:Y}:(Instr.extract (.tuple #[a,b,c]) 2).run P w=.ok c w:=by simp [Instr.extract]
theorem CA {P:Program} {w:O} {K:Y->O->Prop} {a b c:Y}:V P (Instr.extract (.tuple #[a,b,c]) 2) w K↔K c w:=V.iff (by exact BL )
theorem lI {n:Int} (h1:-9223372036854775808<=n) (h2:n<=9223372036854775807):IntKind.i64.wrap n=n:=by
 simp only [IntKind.wrap_i64];omega
theorem aM {n:Int} (h:-9223372036854775808<=n/\n<=9223372036854775807):IntKind.i64.wrap n=n:=lI h.1 h.2
def dD (P:Program) (t:TypeId) (z:Y) (n bytes:Nat):Prop:=(P.info? t).map (λi=>(i.zero,i.size,i.bytes))=some (some z,n,bytes)
section
variable {P:Program} {w:O} {K:Y->O->Prop}
theorem qU {t:TypeId} {z:Y} {n b:Nat} (h:dD P t z n b):(zeroValue t).run P w=.ok z w:=by
 obtain ⟨i,hi,hz,_⟩:=info_parts h;simp [zeroValue,typeInfo,hi,hz]
theorem fX {t:TypeId} {z:Y} {n b:Nat} (h:dD P t z n b):(sizeOf t).run P w=.ok n w:=by
 obtain ⟨i,hi,_,hn,_⟩:=info_parts h;simp [sizeOf,typeInfo,hi,hn]
theorem xL {s e ty:TypeId} (hs:P.underlying s=some (.slice e)) {a:Option Addr} {n c:Nat}:(Builtin.len_ #[s] ty #[.slice a n c]).run P w=.ok (.int .i64 n) w:=by
 simp [Builtin.len_,run_underlying hs,goInt]
def WB:TypeDesc->Bool
 | .interface _=>false
 | _=>true
theorem SN {x u:TypeId} {d:TypeDesc} {z:Y} {n b:Nat} (hu:P.underlying u=some d) (hd:WB d=true) (hz:dD P u z n b) {t:TypeId} {v:Y} :
  (Instr.typeAssert (.iface t v) x u true).run P w=.ok (if t=u then .tuple #[v,.bool true] else .tuple #[z,.bool false]) w:=by
 cases d with
 | interface _=>cases hd
 | _=>simp only [Instr.typeAssert,Sem.run_bind,run_underlying hu,Result.andThen_ok]<;>(split<;>simp [*,qU hz])
theorem aPk {x u:TypeId} {d:TypeDesc} {z:Y} {n b:Nat} (hu:P.underlying u=some d) (hd:WB d=true) (hz:dD P u z n b) :
  (Instr.typeAssert .nilIface x u true).run P w=.ok (.tuple #[z,.bool false]) w:=by
 cases d with
 | interface _=>cases hd
 | _=>simp [Instr.typeAssert,run_underlying hu,qU hz]
theorem VT {t:TypeId} {z:Y} {n b:Nat} (hz:dD P t z n b):(Instr.alloc t true (.tuple #[])).run P w=.ok (.pointer (some ⟨w.heap.size,0,none⟩)) (w.alloc (.cells z.cells t)):=by
 simp [Instr.alloc,qU hz,newVar,newRow,newObj,Sem.run]
theorem aZw {t:TypeId} {v:Y}:(Instr.box t v).run P w=.ok (.pointer (some ⟨w.heap.size,0,none⟩)) (w.alloc (.cells v.cells t)):=by
 simp [Instr.box,newVar,newRow,newObj,Sem.run]
theorem lE (b off n:Nat):(⟨b,off,none⟩:Addr).add n=⟨b,off+n,none⟩:=by
 unfold Addr.add;split
 ·rename_i h;subst h;rfl
 ·rfl
theorem aO {s:TypeId} {fs:Array Field} {f:Nat} (ft:TypeId) (o:Nat) {z:Y} {n by_:Nat} (hs:P.underlying s=some (.struct fs)) (hf:(fs[f]?).map (λfd=>(fd.type,fd.offset))=some (ft,o)) (hi:dD P ft z n by_) (hn:(n == 0)=false) {b off:Nat} :
  (Instr.fieldAt s (.pointer (some ⟨b,off,none⟩)) f).run P w=.ok (.pointer (some ⟨b,off+o,none⟩)) w:=by
 obtain ⟨fd,hfd,he⟩:=Option.map_eq_some_iff.1 hf;simp only [Prod.mk.injEq] at he;obtain ⟨rfl,rfl⟩:=he;have hn':n≠0:=by simpa using hn
 simp [Instr.fieldAt,run_underlying hs,hfd,Instr.sureAddr,fieldPlace,fX hi,hn',lE]
theorem iL {t e:TypeId} {z:Y} {n by_:Nat} (ht:P.underlying t=some (.slice e)) (hi:dD P e z n by_) {b off len cap:Nat} {k:IntKind} {i:Int} (h0:0<=i) (h1:i < len) :
  (Instr.indexAt t (.slice (some ⟨b,off,none⟩) len cap) (.int k i)).run P w=.ok (.pointer (some ⟨b,off+i.toNat*n,none⟩)) w:=by
 simp [Instr.indexAt,asIntOf,run_underlying ht,h0,h1,fX hi,lE]
def mA:TypeDesc->Bool
 | .struct _|.array _ _=>true
 | _=>false
theorem uX {t:TypeId} {d:TypeDesc} (ht:P.underlying t=some d):(isAgg t).run P w=.ok (mA d) w:=by
 cases d<;>simp [isAgg,run_underlying ht,mA]
theorem jD {t:TypeId} {d:TypeDesc} (ht:P.underlying t=some d) (hd:mA d=false) {a:Addr} {v:Y} (h:w.cell? a=some v) :
  (Instr.loadAt t (.pointer (some a))).run P w=.ok v w:=by
 simp [Instr.loadAt,Instr.sureAddr,loadVar,uX ht,hd,load,Sem.run,h]
theorem xJ {b off:Nat} (cs:List Y):∀ (l:List Y) (i:Nat) (acc:Array Y),(∀ j (_:j < l.length),w.cell? ⟨b,off+(i+j),none⟩=l[j]?) ->
  (loadCellsFrom ⟨b,off,none⟩ i l.length acc).run P w=.ok (acc++l.toArray) w
 | [],_,acc,_=>by simp [loadCellsFrom]
 | v::l,i,acc,h=>by
  have h0:=h 0 (by simp);simp only [Nat.add_zero,List.getElem?_cons_zero] at h0;simp only [List.length_cons,loadCellsFrom,load,lE,Sem.run_bind,Sem.run,h0,Result.andThen_ok]
  rw [xJ cs l (i+1) (acc.push v) (λj hj=>by
   have:=h (j+1) (by simp;omega);rw [show i+1+j=i+(j+1) from by omega];simpa using this)]
  simp
theorem nT {t:TypeId} {d:TypeDesc} {z:Y} {n by_:Nat} (ht:P.underlying t=some d) (hd:mA d=true) (hi:dD P t z n by_) {b off:Nat} {cs:List Y} (hl:cs.length=n)
  (h:∀ j (_:j < cs.length),w.cell? ⟨b,off+j,none⟩=cs[j]?):(Instr.loadAt t (.pointer (some ⟨b,off,none⟩))).run P w=.ok (.agg cs.toArray) w:=by
 subst hl;have:=xJ (P:=P) (w:=w) (b:=b) (off:=off) cs cs 0 #[] (by simpa using h);simp [Instr.loadAt,Instr.sureAddr,loadVar,uX ht,hd,fX hi,loadCells,this]
def bY:Y->Bool
 | .agg _|.tuple _=>false
 | _=>true
theorem wH {v:Y} (h:bY v=true):v.cells=#[v]:=by cases v<;>first|rfl|cases h
theorem pE {a:Addr} {v u:Y} (hv:bY v=true) (h:w.cell? a=some u) (hf:w.frozen? a=false):(store a v).run P w=.ok () (w.setCell a v):=by
 cases v<;>first|(simp [store,Sem.run,h,hf];done)|cases hv
theorem mW {t:TypeId} {z:Y} {by_:Nat} (hi:dD P t z 1 by_) {b off:Nat} {v u:Y} (hv:bY v=true) (h:w.cell? ⟨b,off,none⟩=some u) (hf:w.frozen? ⟨b,off,none⟩=false) :
  (Instr.storeAt t (.pointer (some ⟨b,off,none⟩)) v).run P w=.ok () (w.setCell ⟨b,off,none⟩ v):=by
 simp [Instr.storeAt,Instr.sureAddr,storeVar,fX hi,wH hv,storeCells,pE hv h hf,lE]
theorem xH {t:TypeId}:∀ (l done old:List Y),l.length=old.length->(∀ u∈l,bY u=true) ->
  (storeCells ⟨w.heap.size,0,none⟩ l done.length).run P (w.alloc (.cells (done++old).toArray t))=.ok () (w.alloc (.cells (done++l).toArray t))
 | [],done,[],_,_=>by simp [storeCells]
 | v::l,done,u::old,hl,h1=>by
  have hc:(w.alloc (.cells (done++u::old).toArray t)).cell? ⟨w.heap.size,done.length,none⟩=some u:=by simp
  have hf:(w.alloc (.cells (done++u::old).toArray t)).frozen? ⟨w.heap.size,done.length,none⟩=false:=by simp
  have hset:(w.alloc (.cells (done++u::old).toArray t)).setCell ⟨w.heap.size,done.length,none⟩ v=w.alloc (.cells (done++v::old).toArray t):=by
   simp only [World.setCell,World.alloc]
   congr 1
   apply Array.ext
   ·simp
   ·intro i h1 h2;simp only [Array.getElem_modify,Array.getElem_push];by_cases hi:i < w.heap.size
    ·have:¬ w.heap.size=i:=by omega
     simp [hi,this]
    ·have hi':w.heap.size=i:=by simp at h1;omega
     subst hi';simp
  simp only [storeCells,lE,Nat.zero_add,Sem.run_bind];rw [pE (h1 v (by simp)) hc hf,Result.andThen_ok,hset];have:=xH (t:=t) l (done++[v]) old (by simpa using hl) (λu hu=>h1 u (by simp [hu]));simpa using this
theorem SO {t t':TypeId} {z:Y} {n by_:Nat} (hi:dD P t z n by_) {old:Array Y} {v:Y} (hn:v.cells.size=n) (ho:old.size=n) (h1:∀ u∈v.cells.toList,bY u=true) :
  (Instr.storeAt t (.pointer (some ⟨w.heap.size,0,none⟩)) v).run P (w.alloc (.cells old t'))=.ok () (w.alloc (.cells v.cells t')):=by
 have:=xH (P:=P) (w:=w) (t:=t') v.cells.toList [] old.toList (by simp [hn,ho]) h1;simp only [List.nil_append,List.length_nil,Array.toArray_toList] at this;simp [Instr.storeAt,Instr.sureAddr,storeVar,fX hi,hn,this]
def ldO (P:Program) (t:TypeId) (a:Addr) (o:Option Y) (w:O) (K:Y->O->Prop):Prop:=
 match o with
 | some v=>K v w
 | none=>V P (Instr.loadAt t (.pointer (some a))) w K
theorem KJ {t:TypeId} {z:Y} {n by_:Nat} (hi:dD P t z n by_) (hz:(z.cells.size == n)=true) {v:Y} {K':Y->O->Prop} (hn:v.cells.size=n) (h1:∀ u∈v.cells.toList,bY u=true) :
  V P (Instr.alloc t true (.tuple #[])) w (λp w1=>U P (Instr.storeAt t p v) w1 λ_ w2=>K' p w2)↔K' (.pointer (some ⟨w.heap.size,0,none⟩)) (w.alloc (.cells v.cells t)):=by
 rw [V.iff (VT hi)];exact U.iff (SO hi hn (by simpa using hz) h1)
theorem MW (e:Nat):∀ (l:List Y) (done old:List Y),l.length=old.length->(∀ u∈l,bY u=true) ->
  Instr.fill (λi=>some (i*1,1)) (done++old).toArray ((List.range' done.length l.length).zip l)=some (done++l).toArray
 | [],done,[],_,_=>by simp [Instr.fill]
 | v::l,done,u::old,hl,h1=>by
  have hv:=wH (h1 v (by simp));simp only [List.length_cons,List.range'_succ,List.zip_cons_cons,Instr.fill,hv];have:=MW e l (done++[v]) old (by simpa using hl) (λu hu=>h1 u (by simp [hu]));simp at this ⊢;exact this
theorem JD {s e:TypeId} {z:Y} {by_:Nat} (hs:P.underlying s=some (.slice e)) (hi:dD P e z 1 by_) (hz:(z.cells.size == 1)=true) (l:List Y) (hl:l.length<=16777216) (h1:∀ u∈l,bY u=true) :
  (Instr.buildSlice s l.length ((List.range' 0 l.length).zip l).toArray).run P w=.ok (.slice (some ⟨w.heap.size,0,none⟩) l.length l.length) (w.alloc (.cells l.toArray e)):=by
 obtain ⟨i,hi',hz',hn,hb⟩:=info_parts hi;have hz1:z.cells.size=1:=by simpa using hz
 by_cases h0:l.length=0
 ·obtain rfl:=List.length_eq_zero_iff.1 h0;have e0:Array.range 0=#[]:=by simp [Array.range]
  simp [Instr.buildSlice,run_underlying hs,sizeOf,typeInfo,hi',Instr.fill,newRow,newObj,Sem.run,e0]
 ·have hf:=MW 0 l [] ((Array.range (l.length*1)).map (λj=>z.cells[j % z.cells.size]!)).toList (by simp) h1;simp only [List.nil_append,List.length_nil,Array.toArray_toList] at hf;have hgt:¬ 16777216 < l.length:=by omega
  simp only [Instr.buildSlice,Sem.run_bind,run_underlying hs,Result.andThen_ok,fX hi];simp only [Nat.mul_one,h0,if_false];rw [if_neg (by simpa using hgt)];simp only [Nat.mul_one] at hf;simp [hf,newRow,newObj,Sem.run,qU hi]
theorem mP (s:TypeId) (x y:Y):Op.equal s x y=Op.equalIn (9999+1) s x y:=rfl
theorem DF {s:TypeId} {ms:Array (String × TypeId)} (hs:P.underlying s=some (.interface ms)) (d:Nat) {t:TypeId} {v:Y}:(Op.equalIn (d+1) s (.iface t v) .nilIface).run P w=.ok false w:=by
 simp [Op.equalIn,run_underlying hs]
theorem aFs {s:TypeId} {ms:Array (String × TypeId)} (hs:P.underlying s=some (.interface ms)) (d:Nat):(Op.equalIn (d+1) s .nilIface .nilIface).run P w=.ok true w:=by
 simp [Op.equalIn,run_underlying hs]
theorem SQ {s e:TypeId} (hs:P.underlying s=some (.slice e)) (d:Nat) {a:Option Addr} {n c:Nat}:(Op.equalIn (d+1) s (.slice a n c) (.slice none 0 0)).run P w=.ok a.isNone w:=by
 cases a<;>simp [Op.equalIn,run_underlying hs]
theorem aFt {s:TypeId} (hs:P.underlying s=some .bool) (d:Nat) {a b:Bool}:(Op.equalIn (d+1) s (.bool a) (.bool b)).run P w=.ok (a == b) w:=by
 simp [Op.equalIn,run_underlying hs]
theorem JC {s:TypeId} {ms:Array (String × TypeId)} (hs:P.underlying s=some (.interface ms)) {x y:Operand} {t:TypeId} {v:Y} :
  (do eqGuard .eql s x y (.iface t v) .nilIface;binOp .eql s (.iface t v) .nilIface).run P w=.ok (.bool false) w:=by
 simp [eqGuard,binOp,mP,DF hs]
theorem gS {s:TypeId} {ms:Array (String × TypeId)} (hs:P.underlying s=some (.interface ms)) {x y:Operand} {t:TypeId} {v:Y} :
  (do eqGuard .neq s x y (.iface t v) .nilIface;binOp .neq s (.iface t v) .nilIface).run P w=.ok (.bool true) w:=by
 simp [eqGuard,binOp,mP,DF hs]
theorem iA {s:TypeId} {ms:Array (String × TypeId)} (hs:P.underlying s=some (.interface ms)) {x:Operand} {c:Y} :
  (do eqGuard .neq s x (.const c) .nilIface .nilIface;binOp .neq s .nilIface .nilIface).run P w=.ok (.bool false) w:=by
 simp [eqGuard,binOp,mP,aFs hs]
theorem xN {s e:TypeId} (hs:P.underlying s=some (.slice e)) {x y:Operand} {a:Option Addr} {n c:Nat} :
  (do eqGuard .eql s x y (.slice a n c) (.slice none 0 0);binOp .eql s (.slice a n c) (.slice none 0 0)).run P w=.ok (.bool a.isNone) w:=by
 simp [eqGuard,binOp,mP,SQ hs]
theorem aFp {s:TypeId} (hs:P.underlying s=some .bool) {x y:Operand} {a b:Bool} :
  (do eqGuard .eql s x y (.bool a) (.bool b);binOp .eql s (.bool a) (.bool b)).run P w=.ok (.bool (a == b)) w:=by
 simp [eqGuard,binOp,mP,aFt hs]
theorem uY {s:TypeId} (hs:P.underlying s=some .bool) {x y:Operand} {a b:Bool} :
  (do eqGuard .neq s x y (.bool a) (.bool b);binOp .neq s (.bool a) (.bool b)).run P w=.ok (.bool (a != b)) w:=by
 simp [eqGuard,binOp,mP,aFt hs,bne]
theorem kM {s d:TypeId} {ds:TypeDesc} {k k':IntKind} {n:Int} (hs:P.underlying s=some ds) (hd:P.underlying d=some (.int k')) :
  (convert s d (.int k n)).run P w=.ok (.int k' (k'.wrap n)) w:=by
 simp [convert,run_underlying hs,run_underlying hd,Conv.intToInt]
def aE (w w':O):Prop:=w.grownBy w' none
theorem aE.refl (w:O):aE w w:=⟨rfl,rfl,rfl,Nat.le_refl _,λ_ _ _=>rfl⟩
theorem aE.trans {a b c:O} (h:aE a b) (k:aE b c):aE a c:=
 ⟨k.os.trans h.os,k.tape.trans h.tape,k.output.trans h.output,Nat.le_trans h.size k.size,λi hi hn=>(k.block i (Nat.lt_of_lt_of_le hi h.size) hn).trans (h.block i hi hn)⟩
theorem aE.alloc {a w:O} (h:aE a w) (o:Obj):aE a (w.alloc o):=h.trans (World.grownBy_alloc _ _ _)
theorem aE.drew {a w:O} (h:aE a w):aE a w.drew:=⟨h.os,h.tape,h.output,h.size,h.block⟩
theorem aE.setCell {a w:O} (h:aE a w) {b o:Nat} (hb:a.heap.size<=b) (v:Y):aE a (w.setCell ⟨b,o,none⟩ v):=
 ⟨h.os,h.tape,h.output,by simpa using h.size,λi hi hn=>by rw [RowKit.Below.heap_setCell _ _ _ _ (by simp;omega)];exact h.block i hi hn⟩
theorem aE.cell {a w:O} (h:aE a w) {p:Addr} {v:Y} (hc:a.cell? p=some v):w.cell? p=some v:=World.grownBy.cell h hc (by simp)
theorem aE.obj {a w:O} (h:aE a w) {b:Nat} {o:Obj} (hb:a.heap[b]?=some o):w.heap[b]?=some o:=by
 have hlt:b < a.heap.size:=(Array.getElem?_eq_some_iff.1 hb).1;rw [h.block b hlt (by simp)];exact hb
theorem aE.grown {a w w':O} (h:aE a w) {row:Option Nat} (hg:w.grownBy w' row) (hr:∀ k,row=some k->a.heap.size<=k):aE a w':=
 ⟨hg.os.trans h.os,hg.tape.trans h.tape,hg.output.trans h.output,Nat.le_trans h.size hg.size,λi hi hn=>(hg.block i (Nat.lt_of_lt_of_le hi h.size) (λe=>by have:=hr i e.symm;omega)).trans (h.block i hi hn)⟩
theorem aE.own {a w:O} (h:aE a w) {B:Nat} {e:TypeId} {size n:Nat} {v:Y} {xs:List Y} (ho:a.ownsRow B e size v n xs):w.ownsRow B e size v n xs:=ho.kept h (by cases v.ownBlock<;>simp)
theorem aE.below {a w:O} (h:aE a w):RowKit.Below a.heap.size a w:=⟨h.os,h.tape,h.output,h.size,λk hk=>h.block k hk (by simp)⟩
def aA (w:O) (v:Y) (size n:Nat) (cs:List Y):Prop:=
 cs.length=n*size/\((v=.slice none 0 0/\n=0)\/∃ b off cap,v=.slice (some ⟨b,off,none⟩) n cap/\n<=cap/\cap<=maxLen/\∀ j u,cs[j]?=some u->w.cell? ⟨b,off+j,none⟩=some u)
theorem aA.ext {w w':O} {v:Y} {size n:Nat} {cs:List Y} (h:aA w v size n cs) (hx:aE w w'):aA w' v size n cs:=by
 obtain ⟨h1,h2⟩:=h;refine ⟨h1,?_⟩;rcases h2 with h2|⟨b,off,cap,h2,h3,h4,h5⟩
 ·exact .inl h2
 ·exact .inr ⟨b,off,cap,h2,h3,h4,λj u hj=>hx.cell (h5 j u hj)⟩
theorem aA.nil (w:O) (size:Nat):aA w (.slice none 0 0) size 0 []:=⟨by simp,.inl ⟨rfl,rfl⟩⟩
theorem aA.of_own {w:O} {B:Nat} {e:TypeId} {size n:Nat} {v:Y} {xs:List Y} (h:w.ownsRow B e size v n xs):aA w v size n xs:=by
 refine ⟨h.1,?_⟩;rcases h.2 with ⟨h1,h2⟩|⟨g,cap,cur,rfl,_,_,h4,h5,_⟩
 ·exact .inl ⟨h1,h2⟩
 ·exact .inr ⟨g,0,cap,rfl,h4,h5,λj u hj=>by have:=h.cells (g:=g) rfl j u hj;rwa [lE] at this⟩
theorem aA.shape {w:O} {v:Y} {size n:Nat} {cs:List Y} (h:aA w v size n cs):∃ a cap,v=.slice a n cap:=by
 rcases h.2 with ⟨rfl,rfl⟩|⟨b,off,cap,rfl,_⟩
 ·exact ⟨none,0,rfl⟩
 ·exact ⟨_,cap,rfl⟩
theorem aA.there {w:O} {v:Y} {size n:Nat} {cs:List Y} (h:aA w v size n cs) (hn:0 < n):∃ b off cap,v=.slice (some ⟨b,off,none⟩) n cap/\∀ j u,cs[j]?=some u->w.cell? ⟨b,off+j,none⟩=some u:=by
 rcases h.2 with ⟨_,rfl⟩|⟨b,off,cap,rfl,_,_,h5⟩
 ·omega
 ·exact ⟨b,off,cap,rfl,h5⟩
theorem aA.get {t e x:TypeId} {d:TypeDesc} {z:Y} {by_:Nat} (ht:P.underlying t=some (.slice e)) (hi:dD P e z 1 by_) (hx:P.underlying x=some d) (hd:mA d=false) {v:Y} {n:Nat} {cs:List Y} (h:aA w v 1 n cs)
  {k:IntKind} {i:Int} {u:Y} (h0:0<=i) (h1:i < n) (hu:cs[i.toNat]?=some u) (hk:K u w) :
  V P (Instr.indexAt t v (.int k i)) w λp w1=>V P (Instr.loadAt x p) w1 K:=by
 obtain ⟨b,off,cap,rfl,hc⟩:=h.there (by omega);refine V.ok (iL ht hi h0 h1) (V.ok (jD hx hd ?_) hk);simpa using hc _ _ hu
structure TA (P:Program) (u:TypeId):Prop where
 of ::
 ex:∃ z,(∀ (w:O) x t v,(Instr.typeAssert (.iface t v) x u true).run P w=.ok (if t=u then .tuple #[v,.bool true] else .tuple #[z,.bool false]) w) /\
 ∀ (w:O) x,(Instr.typeAssert .nilIface x u true).run P w=.ok (.tuple #[z,.bool false]) w
theorem TA.mk' {u:TypeId} {d:TypeDesc} {z:Y} {n b:Nat} (hu:P.underlying u=some d) (hd:WB d=true) (hz:dD P u z n b):TA P u:=⟨⟨z,λ_ _ _ _=>SN hu hd hz,λ_ _=>aPk hu hd hz⟩⟩
structure SA (P:Program) (t:TypeId) (n:Nat):Prop where
 of ::
 ex:∃ z by_,dD P t z n by_/\z.cells.size=n
structure FA (P:Program) (s f o:Nat):Prop where
 of ::
 ex:∀ (w:O) b off,(Instr.fieldAt s (.pointer (some ⟨b,off,none⟩)) f).run P w=.ok (.pointer (some ⟨b,off+o,none⟩)) w
structure L1 (P:Program) (t:TypeId):Prop where
 of ::
 ex:∃ d,P.underlying t=some d/\mA d=false
structure XA (P:Program) (t n:Nat):Prop where
 of ::
 ex:∃ e z by_,P.underlying t=some (.slice e)/\dD P e z n by_
theorem th {u x:TypeId} {v:Y} {A:Y->O->Prop} {B:Y->Y->Y->O->Prop} (h:TA P u) (hA:A v w) :
  V P (Instr.typeAssert (.iface u v) x u true) w λt1 w1=>V P (Instr.extract t1 1) w1 λt2 w2=>V P (Instr.extract t1 0) w2 λt3 w3=>aI t2 (A t3 w3) (B t1 t2 t3 w3):=by
 obtain ⟨z,hz,_⟩:=h;refine V.ok (hz w x u v) ?_;rw [if_pos rfl];exact V.ok nD (V.ok nE (bJ.2 hA))
theorem tm {u t x:TypeId} {v:Y} {A B:Y->Y->Y->O->Prop} (h:TA P u) (hne:t≠u) (hB:∀ t1 t2 t3,B t1 t2 t3 w) :
  V P (Instr.typeAssert (.iface t v) x u true) w λt1 w1=>V P (Instr.extract t1 1) w1 λt2 w2=>V P (Instr.extract t1 0) w2 λt3 w3=>aI t2 (A t1 t2 t3 w3) (B t1 t2 t3 w3):=by
 obtain ⟨z,hz,_⟩:=h;refine V.ok (hz w x t v) ?_;rw [if_neg hne];exact V.ok nD (V.ok nE (aP.2 (hB _ _ _)))
theorem tn {u x:TypeId} {A B:Y->Y->Y->O->Prop} (h:TA P u) (hB:∀ t1 t2 t3,B t1 t2 t3 w) :
  V P (Instr.typeAssert .nilIface x u true) w λt1 w1=>V P (Instr.extract t1 1) w1 λt2 w2=>V P (Instr.extract t1 0) w2 λt3 w3=>aI t2 (A t1 t2 t3 w3) (B t1 t2 t3 w3):=by
 obtain ⟨z,_,hz⟩:=h;refine V.ok (hz w x) ?_;exact V.ok nD (V.ok nE (aP.2 (hB _ _ _)))
theorem as_ {t n:TypeId} {v:Y} {K':Y->O->Prop} (h:SA P t n) (hn:v.cells.size=n) (h1:v.cells.toList.all bY=true) (hk:K' (.pointer (some ⟨w.heap.size,0,none⟩)) (w.alloc (.cells v.cells t))) :
  V P (Instr.alloc t true (.tuple #[])) w (λp w1=>U P (Instr.storeAt t p v) w1 λ_ w2=>K' p w2):=by
 obtain ⟨z,b,hi,hz⟩:=h;exact (KJ hi (by simpa using hz) hn (λu hu=>List.all_eq_true.1 h1 u hu)).2 hk
theorem ldf {s f o ft b off:Nat} {u:Y} (h:FA P s f o) (hl:L1 P ft) (hc:w.cell? ⟨b,off+o,none⟩=some u) (hk:K u w) :
  V P (Instr.fieldAt s (.pointer (some ⟨b,off,none⟩)) f) w λq w1=>V P (Instr.loadAt ft q) w1 K:=by
 obtain ⟨d,hd,ha⟩:=hl;exact V.ok (h.ex w b off) (V.ok (jD hd ha hc) hk)
theorem lV {t x:TypeId} {v:Y} {n:Nat} {cs:List Y} {k:IntKind} {i:Int} {u:Y} (h:XA P t 1) (hl:L1 P x) (hs:aA w v 1 n cs) (h0:0<=i) (h1:i < n) (hu:cs[i.toNat]?=some u) (hk:K u w) :
  V P (Instr.indexAt t v (.int k i)) w λp w1=>V P (Instr.loadAt x p) w1 K:=by
 obtain ⟨e,z,b,ht,hi⟩:=h;obtain ⟨d,hd,ha⟩:=hl;exact hs.get ht hi hd ha h0 h1 hu hk
theorem fQ {t ty n:Nat} {m:Nat} {v:Y} {size:Nat} {cs:List Y} (h:XA P t n) (hs:aA w v size m cs) (hk:K (i64 m) w):V P (Builtin.len_ #[t] ty #[v]) w K:=by
 obtain ⟨e,z,b,ht,hi⟩:=h;obtain ⟨a,c,rfl⟩:=hs.shape;exact V.ok (xL ht) hk
def aY (w:O) (b:Nat) (cs:List Y):Prop:=∀ j u,cs[j]?=some u->w.cell? ⟨b,0+j,none⟩=some u
theorem aY.ext {w w':O} {b:Nat} {cs:List Y} (h:aY w b cs) (hx:aE w w'):aY w' b cs:=λj u hj=>hx.cell (h j u hj)
theorem HT {cs:Array Y} {t:TypeId}:aY (w.alloc (.cells cs t)) w.heap.size cs.toList:=λj u hj=>by simpa using hj
theorem bx {t:TypeId} {v:Y} (hk:∀ b w1,aY w1 b v.cells.toList->aE w w1->K (.pointer (some ⟨b,0,none⟩)) w1):V P (Instr.box t v) w K:=
 V.ok aZw (hk _ _ HT ((aE.refl w).alloc _))
theorem wV {t n:TypeId} {v:Y} {K':Y->O->Prop} (h:SA P t n) (hn:v.cells.size=n) (h1:v.cells.toList.all bY=true) (hk:∀ b w1,aY w1 b v.cells.toList->aE w w1->K' (.pointer (some ⟨b,0,none⟩)) w1) :
  V P (Instr.alloc t true (.tuple #[])) w (λp w1=>U P (Instr.storeAt t p v) w1 λ_ w2=>K' p w2):=
 as_ h hn h1 (hk _ _ HT ((aE.refl w).alloc _))
theorem bC {s f o ft b:Nat} {cs:List Y} {u:Y} (hb:aY w b cs) (h:FA P s f o) (hl:L1 P ft) (hc:cs[o]?=some u) (hk:K u w) :
  V P (Instr.fieldAt s (.pointer (some ⟨b,0,none⟩)) f) w λq w1=>V P (Instr.loadAt ft q) w1 K:=ldf h hl (hb o u hc) hk
theorem iF {t n b:Nat} {cs:List Y} (hb:aY w b cs) (ht:∃ d z by_,P.underlying t=some d/\mA d=true/\dD P t z n by_) (hl:cs.length=n) (hk:K (.agg cs.toArray) w):V P (Instr.loadAt t (.pointer (some ⟨b,0,none⟩))) w K:=by
 obtain ⟨d,z,by_,h1,h2,h3⟩:=ht
 exact V.ok (nT h1 h2 h3 hl λj hj=>by
  obtain ⟨u,hu⟩:∃ u,cs[j]?=some u:=⟨_,List.getElem?_eq_getElem hj⟩;rw [hu];exact hb j u hu) hk
structure XE (P:Program) (t e by_:Nat):Prop where
 of ::
 ex:∃ z,P.underlying t=some (.slice e)/\dD P e z 1 by_/\(z.cells.size == 1)=true
theorem BP (v:Y):v.oneCell'=bY v:=by cases v<;>rfl
theorem jX {t e by_:Nat} (h:XE P t e by_) (l:List Y) {n:Nat} {parts:Array (Nat × Y)} (hn:n=l.length) (hp:parts=((List.range' 0 l.length).zip l).toArray) (hl:l.length<=16777216) (h1:l.all bY=true)
  (hk:∀ v w',w'.ownsRow w.heap.size e 1 v n l->aE w w'->K v w'):V P (Instr.buildSlice t n parts) w K:=by
 subst hn;subst hp;obtain ⟨z,ht,hi,hz⟩:=h;refine V.ok (JD ht hi hz l hl (λu hu=>List.all_eq_true.1 h1 u hu)) (hk _ _ ?_ ((aE.refl w).alloc _));have:=World.ownsRow_lit (base:=w.heap.size) (e:=e) (size:=1) w l.toArray l.length (Nat.le_refl _) (by unfold maxLen;omega) (by simp);simpa using this
theorem UQ {t e by_ ty:Nat} (h:XE P t e by_) {B:Nat} {v:Y} {n:Nat} {xs:List Y} (ho:w.ownsRow B e 1 v n xs) {x:Y} {m:Nat} {news:List Y} (hs:aA w x 1 m news) (h1:news.all bY=true)
  (hb:(n+m)*by_<=140737488355328) (h63:n+m<=maxLen) (hB:B<=w.heap.size) (hk:∀ v' w',w'.ownsRow B e 1 v' (n+m) (xs++news)->w.grownBy w' v.ownBlock->K v' w') :
  V P (Builtin.append_ #[t,t] ty #[v,x]) w K:=by
 obtain ⟨z,ht,hi,hz⟩:=h;obtain ⟨i,hi',hz',hn,hby⟩:=info_parts hi;rcases hs.2 with ⟨rfl,rfl⟩|⟨b,off,cap,rfl,_,_,hc⟩
 ·have hnews:news=[]:=by have:=hs.1;simpa using this
  subst hnews;refine V.ok (run_append_owned_none w B t ty e i 1 ht hi' v n xs ho) (hk _ _ (by simpa using ho) ⟨rfl,rfl,rfl,Nat.le_refl _,λ_ _ _=>rfl⟩)
 ·obtain ⟨v',w',hr,h2,h3,_⟩:=run_append_own (P:=P) w B t ty e i z 1 by_ ht hi' hz' hn hby (by simpa using hz) (by omega) v n xs ho ⟨b,off,none⟩ m cap news hs.1
   (λj u hj=>by rw [lE];exact hc j u hj) (λu hu=>by rw [BP];exact List.all_eq_true.1 h1 u hu) h63 hb hB
  exact V.ok hr (hk _ _ h2 h3)
theorem UK {t e by_:Nat} (h:XE P t e by_) {v:Y} {n:Nat} {cs:List Y} (hs:aA w v 1 n cs) (h1:cs.all bY=true) (hb:n*by_<=140737488355328) {x y:Operand} {R:Y->O->Prop}
  (hk:∀ v' w',w'.ownsRow w.heap.size e 1 v' n cs->aE w w'->R v' w') :
  V P (do eqGuard .eql t x y v (Value.slice none 0 0);binOp .eql t v (Value.slice none 0 0)) w λt4 w1=>
   aI t4 (R (Value.slice none 0 0) w1) (V P (Instr.buildSlice t 0 #[]) w1 λt5 w2=>V P (Builtin.append_ #[t,t] t #[t5,v]) w2 λt7 w3=>R t7 w3):=by
 have h':=h;obtain ⟨z,ht,hi,hz⟩:=h;rcases hs.2 with ⟨rfl,rfl⟩|⟨b,off,cap,rfl,hc1,hc2,hc⟩
 ·refine V.ok (xN ht) (bJ.2 (hk _ _ ?_ (aE.refl w)));have:cs=[]:=by have:=hs.1;simpa using this
  subst this;exact World.ownsRow_nil _ _ _ _
 ·refine V.ok (xN ht) (aP.2 (jX h' [] rfl rfl (by simp) rfl λv1 w1 ho x1=>?_));refine UQ h' ho (hs.ext x1) h1 (by simpa using hb) (by unfold maxLen at *;omega) x1.size λv2 w2 ho2 hg=>?_;have:=ho2;simp only [Nat.zero_add,List.nil_append] at this;exact hk _ _ this (x1.grown hg λk hk'=>(ho.lt k hk').1)
end
section
variable {P:Program} {w:O} {K:Y->O->Prop}
theorem aU {w:O} {B B' e size n:Nat} {v:Y} {xs:List Y} (h:w.ownsRow B e size v n xs) (hB:B'<=B):w.ownsRow B' e size v n xs:=by
 refine ⟨h.1,?_⟩;rcases h.2 with h2|⟨g,cap,cur,h2,h3,h4⟩
 ·exact .inl h2
 ·exact .inr ⟨g,cap,cur,h2,Nat.le_trans hB h3,h4⟩
theorem SU {w:O} {B e size n:Nat} {v:Y} {xs:List Y} (h:w.ownsRow B e size v n xs) {row:Option Nat} (hr:∀ k,row=some k->k < B):v.ownBlock=none\/v.ownBlock≠row:=by
 cases hv:v.ownBlock with
 | none=>exact .inl rfl
 | some g=>exact .inr λhe=>by have:=hr g he.symm;have:=(h.lt g hv).1;omega
theorem stO {t x:Nat} {z:Y} {by_:Nat} (h:XA P t 1) (hx:dD P x z 1 by_) {B e n:Nat} {v:Y} {xs:List Y} (ho:w.ownsRow B e 1 v n xs) {k:IntKind} {i:Int} (h0:0<=i) (h1:i < n) {u:Y} (hu:bY u=true) {K':O->Prop}
  (hk:∀ w',w'.ownsRow B e 1 v n (xs.set i.toNat u)->w.grownBy w' v.ownBlock->K' w') :
  V P (Instr.indexAt t v (.int k i)) w λp w1=>U P (Instr.storeAt x p u) w1 λ_ w2=>K' w2:=by
 obtain ⟨e',z',b',ht,hi⟩:=h;have ho':=ho;rcases ho.2 with ⟨_,rfl⟩|⟨g,cap,cur,rfl,hB,_⟩
 ·omega
 refine V.ok (iL ht hi h0 h1) ?_;obtain ⟨s1,s2⟩:=ho'.stored i.toNat u;have hc:=ho'.cellAt i.toNat (by omega);have hlt:i.toNat < xs.length:=by have:=ho'.1;omega
 rw [List.getElem?_eq_getElem hlt] at hc;simp only [Nat.zero_add,Nat.mul_one];exact U.ok (mW hx hu hc (ho'.frozenAt _)) (hk _ s1 s2)
theorem JN {t x:Nat} (h:XA P t 1) (hl:L1 P x) {B e n:Nat} {v:Y} {xs:List Y} (ho:w.ownsRow B e 1 v n xs) {k:IntKind} {i:Int} {u:Y} (h0:0<=i) (h1:i < n) (hu:xs[i.toNat]?=some u) (hk:K u w) :
  V P (Instr.indexAt t v (.int k i)) w λp w1=>V P (Instr.loadAt x p) w1 K:=lV h hl (aA.of_own ho) h0 h1 hu hk
def bO (w:O) (g:Nat) (cs:List Y) (e:TypeId):Prop:=w.heap[g]?=some (.cells cs.toArray e (0,0))
theorem bO.ext {w w':O} {g:Nat} {cs:List Y} {e:TypeId} (h:bO w g cs e) (hx:aE w w'):bO w' g cs e:=hx.obj h
theorem bO.lt {w:O} {g:Nat} {cs:List Y} {e:TypeId} (h:bO w g cs e):g < w.heap.size:=(Array.getElem?_eq_some_iff.1 h).1
theorem bO.cell {w:O} {g:Nat} {cs:List Y} {e:TypeId} (h:bO w g cs e) (j:Nat):w.cell? ⟨g,j,none⟩=cs[j]?:=by
 rw [cell_of_row w g j cs.toArray e (0,0) h];simp
theorem bO.frozen {w:O} {g:Nat} {cs:List Y} {e:TypeId} (h:bO w g cs e) (j:Nat):w.frozen? ⟨g,j,none⟩=false:=frozen_of_row w g j cs.toArray e h
theorem bO.set {w:O} {g:Nat} {cs:List Y} {e:TypeId} (h:bO w g cs e) (j:Nat) (u:Y):bO (w.setCell ⟨g,j,none⟩ u) g (cs.set j u) e:=by
 have:=heap_setCell_same w g j cs.toArray e u h;unfold bO;rw [this];simp
theorem bO.other {w:O} {g g' j:Nat} {cs:List Y} {e:TypeId} {u:Y} (h:bO w g cs e) (hne:g≠g'):bO (w.setCell ⟨g',j,none⟩ u) g cs e:=by
 unfold bO;rw [heap_setCell_other w ⟨g',j,none⟩ g u hne];exact h
theorem bO.drew {w:O} {g:Nat} {cs:List Y} {e:TypeId} (h:bO w g cs e):bO w.drew g cs e:=h
theorem bO.slice {w:O} {g n:Nat} {cs:List Y} {e:TypeId} (h:bO w g cs e) (hn:cs.length=n) (hm:n<=maxLen):aA w (.slice (some ⟨g,0,none⟩) n n) 1 n cs:=
 ⟨by omega,.inr ⟨g,0,n,rfl,Nat.le_refl _,hm,λj u hj=>by rw [Nat.zero_add,h.cell];exact hj⟩⟩
theorem mkB {t e by_:Nat} {z:Y} (ht:P.underlying t=some (.slice e)) (hi:dD P e z 1 by_) (hz:z.cells=#[z]) {n:Nat} (hb:by_*n<=281474976710656) (h63:n<=9223372036854775807)
  (hk:∀ w',bO w' w.heap.size (List.replicate n z) e->aE w w'->w'.heap.size=w.heap.size+1->K (.slice (some ⟨w.heap.size,0,none⟩) n n) w'):V P (Instr.makeSlice t (i64 n) (i64 n)) w K:=by
 obtain ⟨i,hi',hz',hn,hby⟩:=info_parts hi;have hr:=run_make (P:=P) w t e i z ht hi' hz' .i64 .i64 n n (by omega) (Int.le_refl _) (by rw [hby,<- Int.natCast_mul];omega) (by omega);simp only [Int.toNat_natCast,hn,hz,Nat.mul_one] at hr;refine V.ok hr (hk _ ?_ ((aE.refl w).alloc _) (by simp));unfold bO;have:=heap_alloc_new w (.cells (madeCells #[z] n) e);rw [this]
 congr 2
 rw [<- toList_madeCells_one z n]
structure BD (P:Program) (t:TypeId) (zs:List Y):Prop where
 of ::
 ex:∃ fs b,P.underlying t=some (.struct fs)/\dD P t (.agg zs.toArray) zs.length b/\∀ w:O,(fs.mapM (λf=>do pure (f.offset,<- sizeOf f.type)):Sem (Array (Nat × Nat))).run P w=.ok ((List.range zs.length).map (λi=>(i,1))).toArray w
theorem aIe {n:Nat}:∀ (l:List (Nat × Y)) (cs:List Y),cs.length=n->(l.all λx=>decide (x.1 < n)&&bY x.2)=true ->
  Instr.fill ((((List.range n).map (λi=>(i,1))).toArray)[·]?) cs.toArray l=some (l.foldl (λcs x=>cs.set x.1 x.2) cs).toArray
 | [],cs,_,_=>rfl
 | (i,v)::l,cs,hl,h=>by
  simp only [List.all_cons,Bool.and_eq_true,decide_eq_true_eq] at h;have hi:((((List.range n).map (λi=>(i,1))).toArray)[i]?)=some (i,1):=by simp [h.1.1]
  have hc:=wH h.1.2;rw [Instr.fill,hi];have hn:¬ (i+1 > cs.length):=by omega
  simp only [hc,List.size_toArray,List.length_cons,List.length_nil,Nat.zero_add,ne_eq,not_true_eq_false,decide_false,Bool.false_or,hn,Bool.false_eq_true,if_false];have:=aIe (n:=n) l (cs.set i v) (by simpa using hl) h.2;simpa using this
theorem oD {t:TypeId} {zs:List Y} (h:BD P t zs) {parts:Array (Nat × Y)} (l:List (Nat × Y)) (hp:parts=l.toArray) (h1:(l.all λx=>decide (x.1 < zs.length)&&bY x.2)=true)
  (hk:K (.agg (l.foldl (λcs x=>cs.set x.1 x.2) zs).toArray) w):V P (Instr.build t parts) w K:=by
 subst hp;obtain ⟨fs,b,hu,hi,hm⟩:=h;refine V.ok ?_ hk;simp only [Instr.build,Sem.run_bind,qU hi,Result.andThen_ok,run_underlying hu,hm,Value.cells];rw [aIe l zs rfl h1];simp
structure MI (P:Program) (t:TypeId):Prop where
 of ::
 ex:∃ d,P.underlying t=some d/\WB d=true
theorem TB {t:TypeId} (h:MI P t) {v:Y} (hk:K (.iface t v) w):V P (Instr.makeInterface t v) w K:=by
 obtain ⟨d,hu,hd⟩:=h;refine V.ok ?_ hk;cases d<;>first|(simp [Instr.makeInterface,run_underlying hu];done)|cases hd
end
end Go.Vc
namespace Go.Proofs.YtjcmcfidblhnnaaGreatDoor
open Tryz
open Go.Vc
variable {w:O} {cap n off:Nat} {k:IntKind} {i:Int} {a:Addr} {ty x:TypeId} {K:Y->O->Prop}
theorem bW:dD prog 3 (.int .i64 0) 1 8:=by unfold dD;kernel_rfl
theorem kS:dD prog 4 (.bool false) 1 1:=by unfold dD;kernel_rfl
theorem bCu:dD prog 5 (.int .u8 0) 1 1:=by unfold dD;kernel_rfl
theorem aQr:dD prog 9 (.string ByteArray.empty) 1 16:=by unfold dD;kernel_rfl
theorem bAe:dD prog 21 (.int .i32 0) 1 4:=by unfold dD;kernel_rfl
theorem mO:dD prog 23 (.slice none 0 0) 1 24:=by unfold dD;kernel_rfl
theorem bAd:dD prog 24 (.slice none 0 0) 1 24:=by unfold dD;kernel_rfl
theorem aHp:dD prog 25 (.slice none 0 0) 1 24:=by unfold dD;kernel_rfl
theorem qZ:dD prog 27 (.agg #[(.string ByteArray.empty),(.slice none 0 0),(.slice none 0 0),(.slice none 0 0),(.slice none 0 0)]) 5 112:=by unfold dD;kernel_rfl
theorem WO:dD prog 31 (.slice none 0 0) 1 24:=by unfold dD;kernel_rfl
theorem yC:dD prog 33 (.agg #[(.int .i64 0),(.int .i64 0),(.slice none 0 0)]) 3 40:=by unfold dD;kernel_rfl
theorem HL:dD prog 36 (.slice none 0 0) 1 24:=by unfold dD;kernel_rfl
theorem tO:dD prog 38 (.agg #[(.slice none 0 0),(.int .i64 0),(.slice none 0 0),(.slice none 0 0)]) 4 80:=by unfold dD;kernel_rfl
theorem aHo:dD prog 40 (.agg #[]) 0 0:=by unfold dD;kernel_rfl
theorem MN:dD prog 43 .nilIface 1 16:=by unfold dD;kernel_rfl
theorem bJp:dD prog 59 (.slice none 0 0) 1 24:=by unfold dD;kernel_rfl
theorem yB:dD prog 61 (.agg #[(.int .i64 0),(.int .i64 0),(.slice none 0 0),(.slice none 0 0)]) 4 64:=by unfold dD;kernel_rfl
theorem bAc:dD prog 66 (.slice none 0 0) 1 24:=by unfold dD;kernel_rfl
theorem uK:dD prog 68 (.agg #[(.slice none 0 0),(.slice none 0 0),(.int .i64 0)]) 3 56:=by unfold dD;kernel_rfl
theorem DX:dD prog 72 (.agg #[(.slice none 0 0),(.int .i64 0)]) 2 32:=by unfold dD;kernel_rfl
theorem AR:dD prog 78 (.agg #[(.int .i64 0),(.int .i64 0)]) 2 16:=by unfold dD;kernel_rfl
theorem rM:dD prog 83 (.agg #[(.int .i64 0),(.int .i64 0),(.int .i64 0),(.int .i64 0),(.int .i64 0),(.int .i64 0)]) 6 48:=by unfold dD;kernel_rfl
theorem nJ:dD prog 88 (.agg #[(.int .i64 0),(.int .i64 0),(.int .i64 0)]) 3 24:=by unfold dD;kernel_rfl
theorem WN:dD prog 90 (.agg #[(.int .i64 0),(.int .i32 0)]) 2 16:=by unfold dD;kernel_rfl
theorem bJo:dD prog 92 (.slice none 0 0) 1 24:=by unfold dD;kernel_rfl
theorem rL:dD prog 95 (.slice none 0 0) 1 24:=by unfold dD;kernel_rfl
theorem ED:dD prog 107 (.agg #[(.int .i64 0),(.int .i64 0)]) 2 16:=by unfold dD;kernel_rfl
theorem EC:dD prog 109 (.agg #[(.int .i64 0),(.int .i64 0),(.int .i64 0),(.int .i64 0)]) 4 32:=by unfold dD;kernel_rfl
theorem EB:dD prog 111 (.agg #[(.int .i64 0),(.int .i64 0),(.int .i64 0)]) 3 24:=by unfold dD;kernel_rfl
theorem EA:dD prog 113 (.agg #[(.int .i64 0),(.int .i64 0),(.int .i64 0),(.int .i64 0)]) 4 32:=by unfold dD;kernel_rfl
theorem JV:dD prog 115 (.agg #[(.int .i64 0)]) 1 8:=by unfold dD;kernel_rfl
theorem JU:dD prog 117 (.agg #[(.int .i64 0),(.int .i64 0)]) 2 16:=by unfold dD;kernel_rfl
theorem JT:dD prog 119 (.agg #[(.int .i64 0),(.int .i64 0)]) 2 16:=by unfold dD;kernel_rfl
theorem JS:dD prog 121 (.agg #[(.int .i64 0),(.int .i64 0)]) 2 16:=by unfold dD;kernel_rfl
theorem TR:dD prog 123 (.agg #[(.int .i64 0),(.int .i64 0),(.int .i64 0),(.int .i64 0),(.slice none 0 0)]) 5 56:=by unfold dD;kernel_rfl
theorem TQ:dD prog 125 (.agg #[(.int .i64 0),(.int .i64 0),(.slice none 0 0)]) 3 40:=by unfold dD;kernel_rfl
theorem TP:dD prog 127 (.agg #[(.int .i64 0),(.int .i64 0),(.slice none 0 0)]) 3 40:=by unfold dD;kernel_rfl
theorem TO:dD prog 129 (.agg #[(.int .i64 0)]) 1 8:=by unfold dD;kernel_rfl
theorem bDa:dD prog 135 (.agg #[(.int .i64 0),(.int .i64 0),(.slice none 0 0),(.slice none 0 0),(.int .i64 0),(.int .i64 0),(.slice none 0 0),(.slice none 0 0),(.int .i64 0)]) 9 136:=by unfold dD;kernel_rfl
theorem bCz:dD prog 139 (.slice none 0 0) 1 24:=by unfold dD;kernel_rfl
theorem qD:dD prog 141 (.agg #[(.slice none 0 0),(.slice none 0 0),(.slice none 0 0)]) 3 72:=by unfold dD;kernel_rfl
theorem DZ:dD prog 146 (.agg #[(.string ByteArray.empty),(.int .i64 0),(.slice none 0 0),(.int .i64 0)]) 4 56:=by unfold dD;kernel_rfl
theorem DY:dD prog 151 (.int .u16 0) 1 2:=by unfold dD;kernel_rfl
theorem bCy:dD prog 155 (.slice none 0 0) 1 24:=by unfold dD;kernel_rfl
theorem nP:dD prog 157 (.agg #[(.int .i64 0),(.int .u16 0),(.slice none 0 0)]) 3 40:=by unfold dD;kernel_rfl
theorem wL:dD prog 180 (.agg #[(.int .i64 0),(.int .i64 0),(.int .i64 0),(.int .i64 0),(.int .i64 0),(.int .i64 0),(.int .i64 0),(.int .i64 0),(.int .i64 0),(.int .i64 0),(.int .i32 0)]) 11 88:=by unfold dD;kernel_rfl
theorem bCx:dD prog 195 (.agg #[(.slice none 0 0),(.slice none 0 0),(.int .i64 0),(.slice none 0 0),(.int .i64 0)]) 5 88:=by unfold dD;kernel_rfl
theorem JR:dD prog 197 (.agg #[(.int .i64 0),(.int .i64 0),(.int .i64 0),(.int .i64 0)]) 4 32:=by unfold dD;kernel_rfl
theorem nF:dD prog 210 (.agg #[(.int .i64 0),(.int .i64 0),(.int .i64 0),(.int .i64 0),(.int .i64 0),(.int .i64 0)]) 6 48:=by unfold dD;kernel_rfl
theorem TN:dD prog 230 (.slice none 0 0) 1 24:=by unfold dD;kernel_rfl
theorem wK:dD prog 232 (.agg #[(.int .i64 0),(.int .i64 0),(.int .i64 0),(.int .i64 0),(.int .i64 0),(.int .i64 0),(.int .i64 0),(.int .i64 0),(.int .i64 0),(.int .i64 0),(.int .i32 0),(.slice none 0 0),(.int .i64 0)]) 13 120:=by unfold dD;kernel_rfl
theorem bCw:dD prog 248 (.agg #[(.bool false),(.bool false)]) 2 2:=by unfold dD;kernel_rfl
theorem bCv:dD prog 263 (.agg (Array.replicate 2001 (.int .i64 0))) 2001 16008:=by unfold dD;kernel_rfl
theorem TM:dD prog 278 (.agg #[(.int .u8 0),(.int .u8 0)]) 2 2:=by unfold dD;kernel_rfl
theorem aFo {b len:Nat} (h0:0<=i) (h1:i < len):(Instr.indexAt 139 (.slice (some ⟨b,off,none⟩) len cap) (.int k i)).run prog w=.ok (.pointer (some ⟨b,off+i.toNat*1,none⟩)) w:=iL underlying139 rL h0 h1
theorem VQ {b len:Nat} (h0:0<=i) (h1:i < len):(Instr.indexAt 95 (.slice (some ⟨b,off,none⟩) len cap) (.int k i)).run prog w=.ok (.pointer (some ⟨b,off+i.toNat*1,none⟩)) w:=iL underlying95 kS h0 h1
theorem VP {v:Y} (h:w.cell? a=some v):(Instr.loadAt 23 (.pointer (some a))).run prog w=.ok v w:=jD underlying23 rfl h
theorem aFn {v:Y} (h:w.cell? a=some v):(Instr.loadAt 3 (.pointer (some a))).run prog w=.ok v w:=jD underlying3 rfl h
theorem bBn {v:Y} (h:w.cell? a=some v):(Instr.loadAt 5 (.pointer (some a))).run prog w=.ok v w:=jD underlying5 rfl h
theorem aFk {x y:Operand} {a b:Bool}:(do eqGuard .neq 4 x y (.bool a) (.bool b);binOp .neq 4 (.bool a) (.bool b)).run prog w=.ok (.bool (a != b)) w:=uY underlying4
theorem vJ {x y:Operand} {t:TypeId} {v:Y}:V prog (do eqGuard .eql 43 x y (.iface t v) .nilIface;binOp .eql 43 (.iface t v) .nilIface) w K↔K (.bool false) w:=V.iff (JC underlying43)
theorem aJk {a:Option Addr} {c:Nat}:V prog (Builtin.len_ #[139] ty #[.slice a n c]) w K↔K (.int .i64 n) w:=V.iff (xL underlying139)
theorem XY {a:Option Addr} {c:Nat}:V prog (Builtin.len_ #[23] ty #[.slice a n c]) w K↔K (.int .i64 n) w:=V.iff (xL underlying23)
theorem aJj {x y:Operand} {a b:Bool}:V prog (do eqGuard .neq 4 x y (.bool a) (.bool b);binOp .neq 4 (.bool a) (.bool b)) w K↔K (.bool (a != b)) w:=V.iff (uY underlying4)
theorem UT {x y:Operand} {t:TypeId} {v:Y}:V prog (do eqGuard .neq 43 x y (.iface t v) .nilIface;binOp .neq 43 (.iface t v) .nilIface) w K↔K (.bool true) w:=V.iff (gS underlying43)
theorem aJi {t:TypeId} {v:Y}:V prog (Instr.typeAssert (.iface t v) x 107 true) w K↔K (if t=107 then .tuple #[v,.bool true] else .tuple #[(.agg #[(.int .i64 0),(.int .i64 0)]),.bool false]) w:=V.iff (SN underlying107 rfl ED)
theorem aJh {t:TypeId} {v:Y}:V prog (Instr.typeAssert (.iface t v) x 109 true) w K↔K (if t=109 then .tuple #[v,.bool true] else .tuple #[(.agg #[(.int .i64 0),(.int .i64 0),(.int .i64 0),(.int .i64 0)]),.bool false]) w:=V.iff (SN underlying109 rfl EC)
theorem aJg {t:TypeId} {v:Y}:V prog (Instr.typeAssert (.iface t v) x 111 true) w K↔K (if t=111 then .tuple #[v,.bool true] else .tuple #[(.agg #[(.int .i64 0),(.int .i64 0),(.int .i64 0)]),.bool false]) w:=V.iff (SN underlying111 rfl EB)
theorem aJf {t:TypeId} {v:Y}:V prog (Instr.typeAssert (.iface t v) x 113 true) w K↔K (if t=113 then .tuple #[v,.bool true] else .tuple #[(.agg #[(.int .i64 0),(.int .i64 0),(.int .i64 0),(.int .i64 0)]),.bool false]) w:=V.iff (SN underlying113 rfl EA)
theorem aJe {t:TypeId} {v:Y}:V prog (Instr.typeAssert (.iface t v) x 119 true) w K↔K (if t=119 then .tuple #[v,.bool true] else .tuple #[(.agg #[(.int .i64 0),(.int .i64 0)]),.bool false]) w:=V.iff (SN underlying119 rfl JT)
theorem aRs {t:TypeId} {v:Y}:V prog (Instr.typeAssert (.iface t v) x 90 true) w K↔K (if t=90 then .tuple #[v,.bool true] else .tuple #[(.agg #[(.int .i64 0),(.int .i32 0)]),.bool false]) w:=V.iff (SN underlying90 rfl WN)
theorem zG:SA prog 107 2:=⟨_,_,ED,by decide⟩
theorem uC:SA prog 109 4:=⟨_,_,EC,by decide⟩
theorem vZ:SA prog 111 3:=⟨_,_,EB,by decide⟩
theorem vY:SA prog 113 4:=⟨_,_,EA,by decide⟩
theorem uB:SA prog 115 1:=⟨_,_,JV,by decide⟩
theorem uA:SA prog 117 2:=⟨_,_,JU,by decide⟩
theorem CR:SA prog 119 2:=⟨_,_,JT,by decide⟩
theorem zF:SA prog 121 2:=⟨_,_,JS,by decide⟩
theorem JA:SA prog 123 5:=⟨_,_,TR,by decide⟩
theorem SK:SA prog 125 3:=⟨_,_,TQ,by decide⟩
theorem SJ:SA prog 127 3:=⟨_,_,TP,by decide⟩
theorem aEu:SA prog 129 1:=⟨_,_,TO,by decide⟩
theorem aEt:SA prog 141 3:=⟨_,_,qD,by decide⟩
theorem aEs:SA prog 146 4:=⟨_,_,DZ,by decide⟩
theorem SI:SA prog 157 3:=⟨_,_,nP,by decide⟩
theorem SH:SA prog 180 11:=⟨_,_,wL,by decide⟩
theorem CQ:SA prog 210 6:=⟨_,_,nF,by decide⟩
theorem CP:SA prog 232 13:=⟨_,_,wK,by decide⟩
theorem aZt:SA prog 27 5:=⟨_,_,qZ,by decide⟩
theorem bBi:SA prog 278 2:=⟨_,_,TM,by decide⟩
theorem aZs:SA prog 33 3:=⟨_,_,yC,by decide⟩
theorem GK:SA prog 38 4:=⟨_,_,tO,by decide⟩
theorem bIr:SA prog 40 0:=⟨_,_,aHo,by decide⟩
theorem bIq:SA prog 61 4:=⟨_,_,yB,by decide⟩
theorem bIp:SA prog 72 2:=⟨_,_,DX,by decide⟩
theorem aEr:SA prog 78 2:=⟨_,_,AR,by decide⟩
theorem GJ:SA prog 83 6:=⟨_,_,rM,by decide⟩
theorem VM:SA prog 88 3:=⟨_,_,nJ,by decide⟩
theorem aZr:SA prog 90 2:=⟨_,_,WN,by decide⟩
theorem bIo:SA prog 95 1:=⟨_,_,rL,by decide⟩
theorem dB:FA prog 107 0 0:=⟨λ_ _ _=>aO 3 0 underlying107 rfl bW rfl⟩
theorem dA:FA prog 107 1 1:=⟨λ_ _ _=>aO 3 1 underlying107 rfl bW rfl⟩
theorem cF:FA prog 109 0 0:=⟨λ_ _ _=>aO 3 0 underlying109 rfl bW rfl⟩
theorem cZ:FA prog 109 1 1:=⟨λ_ _ _=>aO 3 1 underlying109 rfl bW rfl⟩
theorem cQ:FA prog 109 2 2:=⟨λ_ _ _=>aO 3 2 underlying109 rfl bW rfl⟩
theorem cP:FA prog 109 3 3:=⟨λ_ _ _=>aO 3 3 underlying109 rfl bW rfl⟩
theorem cE:FA prog 111 0 0:=⟨λ_ _ _=>aO 3 0 underlying111 rfl bW rfl⟩
theorem cY:FA prog 111 1 1:=⟨λ_ _ _=>aO 3 1 underlying111 rfl bW rfl⟩
theorem cX:FA prog 111 2 2:=⟨λ_ _ _=>aO 3 2 underlying111 rfl bW rfl⟩
theorem cW:FA prog 113 0 0:=⟨λ_ _ _=>aO 3 0 underlying113 rfl bW rfl⟩
theorem cO:FA prog 113 1 1:=⟨λ_ _ _=>aO 3 1 underlying113 rfl bW rfl⟩
theorem cN:FA prog 113 2 2:=⟨λ_ _ _=>aO 3 2 underlying113 rfl bW rfl⟩
theorem cM:FA prog 113 3 3:=⟨λ_ _ _=>aO 3 3 underlying113 rfl bW rfl⟩
theorem bV:FA prog 115 0 0:=⟨λ_ _ _=>aO 3 0 underlying115 rfl bW rfl⟩
theorem cV:FA prog 117 0 0:=⟨λ_ _ _=>aO 3 0 underlying117 rfl bW rfl⟩
theorem bU:FA prog 117 1 1:=⟨λ_ _ _=>aO 3 1 underlying117 rfl bW rfl⟩
theorem dI:FA prog 119 0 0:=⟨λ_ _ _=>aO 3 0 underlying119 rfl bW rfl⟩
theorem cU:FA prog 119 1 1:=⟨λ_ _ _=>aO 3 1 underlying119 rfl bW rfl⟩
theorem cT:FA prog 121 0 0:=⟨λ_ _ _=>aO 3 0 underlying121 rfl bW rfl⟩
theorem dH:FA prog 121 1 1:=⟨λ_ _ _=>aO 3 1 underlying121 rfl bW rfl⟩
theorem dG:FA prog 123 0 0:=⟨λ_ _ _=>aO 3 0 underlying123 rfl bW rfl⟩
theorem dL:FA prog 123 3 3:=⟨λ_ _ _=>aO 3 3 underlying123 rfl bW rfl⟩
theorem dF:FA prog 123 4 4:=⟨λ_ _ _=>aO 23 4 underlying123 rfl mO rfl⟩
theorem dK:FA prog 125 0 0:=⟨λ_ _ _=>aO 3 0 underlying125 rfl bW rfl⟩
theorem dV:FA prog 125 1 1:=⟨λ_ _ _=>aO 3 1 underlying125 rfl bW rfl⟩
theorem dU:FA prog 125 2 2:=⟨λ_ _ _=>aO 23 2 underlying125 rfl mO rfl⟩
theorem eG:FA prog 127 0 0:=⟨λ_ _ _=>aO 3 0 underlying127 rfl bW rfl⟩
theorem eW:FA prog 127 1 1:=⟨λ_ _ _=>aO 3 1 underlying127 rfl bW rfl⟩
theorem eF:FA prog 127 2 2:=⟨λ_ _ _=>aO 23 2 underlying127 rfl mO rfl⟩
theorem eE:FA prog 129 0 0:=⟨λ_ _ _=>aO 3 0 underlying129 rfl bW rfl⟩
theorem eV:FA prog 135 0 0:=⟨λ_ _ _=>aO 33 0 underlying135 rfl yC rfl⟩
theorem eD:FA prog 135 1 3:=⟨λ_ _ _=>aO 72 3 underlying135 rfl DX rfl⟩
theorem eU:FA prog 135 2 5:=⟨λ_ _ _=>aO 3 5 underlying135 rfl bW rfl⟩
theorem bR:FA prog 135 3 6:=⟨λ_ _ _=>aO 68 6 underlying135 rfl uK rfl⟩
theorem dT:FA prog 141 0 0:=⟨λ_ _ _=>aO 139 0 underlying141 rfl bCz rfl⟩
theorem dS:FA prog 141 1 1:=⟨λ_ _ _=>aO 95 1 underlying141 rfl rL rfl⟩
theorem dR:FA prog 141 2 2:=⟨λ_ _ _=>aO 23 2 underlying141 rfl mO rfl⟩
theorem eC:FA prog 146 0 0:=⟨λ_ _ _=>aO 9 0 underlying146 rfl aQr rfl⟩
theorem dJ:FA prog 146 1 1:=⟨λ_ _ _=>aO 3 1 underlying146 rfl bW rfl⟩
theorem bX:FA prog 146 2 2:=⟨λ_ _ _=>aO 23 2 underlying146 rfl mO rfl⟩
theorem cD:FA prog 146 3 3:=⟨λ_ _ _=>aO 3 3 underlying146 rfl bW rfl⟩
theorem eR:FA prog 157 0 0:=⟨λ_ _ _=>aO 3 0 underlying157 rfl bW rfl⟩
theorem eB:FA prog 157 1 1:=⟨λ_ _ _=>aO 151 1 underlying157 rfl DY rfl⟩
theorem dQ:FA prog 157 2 2:=⟨λ_ _ _=>aO 155 2 underlying157 rfl bCy rfl⟩
theorem cC:FA prog 166 0 0:=⟨λ_ _ _=>aO 27 0 underlying166 rfl qZ rfl⟩
theorem dP:FA prog 166 1 5:=⟨λ_ _ _=>aO 38 5 underlying166 rfl tO rfl⟩
theorem eZ:FA prog 166 2 9:=⟨λ_ _ _=>aO 23 9 underlying166 rfl mO rfl⟩
theorem dO:FA prog 166 3 10:=⟨λ_ _ _=>aO 92 10 underlying166 rfl bJo rfl⟩
theorem fL:FA prog 166 4 11:=⟨λ_ _ _=>aO 95 11 underlying166 rfl rL rfl⟩
theorem eQ:FA prog 166 5 12:=⟨λ_ _ _=>aO 95 12 underlying166 rfl rL rfl⟩
theorem aZ:FA prog 180 0 0:=⟨λ_ _ _=>aO 3 0 underlying180 rfl bW rfl⟩
theorem eO:FA prog 180 1 1:=⟨λ_ _ _=>aO 83 1 underlying180 rfl rM rfl⟩
theorem cB:FA prog 180 2 7:=⟨λ_ _ _=>aO 3 7 underlying180 rfl bW rfl⟩
theorem eA:FA prog 180 3 8:=⟨λ_ _ _=>aO 3 8 underlying180 rfl bW rfl⟩
theorem eN:FA prog 180 4 9:=⟨λ_ _ _=>aO 3 9 underlying180 rfl bW rfl⟩
theorem fK:FA prog 180 5 10:=⟨λ_ _ _=>aO 21 10 underlying180 rfl bAe rfl⟩
theorem cS:FA prog 195 0 0:=⟨λ_ _ _=>aO 36 0 underlying195 rfl HL rfl⟩
theorem fI:FA prog 195 1 1:=⟨λ_ _ _=>aO 23 1 underlying195 rfl mO rfl⟩
theorem gD:FA prog 195 2 2:=⟨λ_ _ _=>aO 3 2 underlying195 rfl bW rfl⟩
theorem fU:FA prog 195 3 3:=⟨λ_ _ _=>aO 23 3 underlying195 rfl mO rfl⟩
theorem iD:FA prog 195 4 4:=⟨λ_ _ _=>aO 3 4 underlying195 rfl bW rfl⟩
theorem iU:FA prog 197 0 0:=⟨λ_ _ _=>aO 3 0 underlying197 rfl bW rfl⟩
theorem dN:FA prog 197 1 1:=⟨λ_ _ _=>aO 3 1 underlying197 rfl bW rfl⟩
theorem gC:FA prog 197 2 2:=⟨λ_ _ _=>aO 3 2 underlying197 rfl bW rfl⟩
theorem iT:FA prog 197 3 3:=⟨λ_ _ _=>aO 3 3 underlying197 rfl bW rfl⟩
theorem gW:FA prog 210 0 0:=⟨λ_ _ _=>aO 3 0 underlying210 rfl bW rfl⟩
theorem gV:FA prog 210 1 1:=⟨λ_ _ _=>aO 3 1 underlying210 rfl bW rfl⟩
theorem gU:FA prog 210 2 2:=⟨λ_ _ _=>aO 3 2 underlying210 rfl bW rfl⟩
theorem iC:FA prog 210 3 3:=⟨λ_ _ _=>aO 3 3 underlying210 rfl bW rfl⟩
theorem iB:FA prog 210 4 4:=⟨λ_ _ _=>aO 3 4 underlying210 rfl bW rfl⟩
theorem gA:FA prog 210 5 5:=⟨λ_ _ _=>aO 3 5 underlying210 rfl bW rfl⟩
theorem bQ:FA prog 232 0 0:=⟨λ_ _ _=>aO 180 0 underlying232 rfl wL rfl⟩
theorem fT:FA prog 232 1 11:=⟨λ_ _ _=>aO 230 11 underlying232 rfl TN rfl⟩
theorem fZ:FA prog 232 2 12:=⟨λ_ _ _=>aO 3 12 underlying232 rfl bW rfl⟩
theorem dZ:FA prog 248 0 0:=⟨λ_ _ _=>aO 4 0 underlying248 rfl kS rfl⟩
theorem dY:FA prog 248 1 1:=⟨λ_ _ _=>aO 4 1 underlying248 rfl kS rfl⟩
theorem kC:FA prog 278 0 0:=⟨λ_ _ _=>aO 5 0 underlying278 rfl bCu rfl⟩
theorem kB:FA prog 278 1 1:=⟨λ_ _ _=>aO 5 1 underlying278 rfl bCu rfl⟩
theorem kZ:FA prog 27 0 0:=⟨λ_ _ _=>aO 9 0 underlying27 rfl aQr rfl⟩
theorem jI:FA prog 27 1 1:=⟨λ_ _ _=>aO 23 1 underlying27 rfl mO rfl⟩
theorem fH:FA prog 27 2 2:=⟨λ_ _ _=>aO 24 2 underlying27 rfl bAd rfl⟩
theorem bP:FA prog 27 3 3:=⟨λ_ _ _=>aO 25 3 underlying27 rfl aHp rfl⟩
theorem kF:FA prog 27 4 4:=⟨λ_ _ _=>aO 23 4 underlying27 rfl mO rfl⟩
theorem kY:FA prog 33 0 0:=⟨λ_ _ _=>aO 3 0 underlying33 rfl bW rfl⟩
theorem gK:FA prog 33 1 1:=⟨λ_ _ _=>aO 3 1 underlying33 rfl bW rfl⟩
theorem eI:FA prog 33 2 2:=⟨λ_ _ _=>aO 31 2 underlying33 rfl WO rfl⟩
theorem dM:FA prog 38 0 0:=⟨λ_ _ _=>aO 23 0 underlying38 rfl mO rfl⟩
theorem fW:FA prog 38 1 1:=⟨λ_ _ _=>aO 3 1 underlying38 rfl bW rfl⟩
theorem kX:FA prog 38 2 2:=⟨λ_ _ _=>aO 23 2 underlying38 rfl mO rfl⟩
theorem cG:FA prog 38 3 3:=⟨λ_ _ _=>aO 36 3 underlying38 rfl HL rfl⟩
theorem nN:FA prog 61 0 0:=⟨λ_ _ _=>aO 3 0 underlying61 rfl bW rfl⟩
theorem oP:FA prog 61 1 1:=⟨λ_ _ _=>aO 3 1 underlying61 rfl bW rfl⟩
theorem lS:FA prog 61 2 2:=⟨λ_ _ _=>aO 59 2 underlying61 rfl bJp rfl⟩
theorem lR:FA prog 68 0 0:=⟨λ_ _ _=>aO 66 0 underlying68 rfl bAc rfl⟩
theorem nM:FA prog 68 1 1:=⟨λ_ _ _=>aO 31 1 underlying68 rfl WO rfl⟩
theorem pU:FA prog 68 2 2:=⟨λ_ _ _=>aO 3 2 underlying68 rfl bW rfl⟩
theorem lQ:FA prog 72 0 0:=⟨λ_ _ _=>aO 23 0 underlying72 rfl mO rfl⟩
theorem mH:FA prog 72 1 1:=⟨λ_ _ _=>aO 3 1 underlying72 rfl bW rfl⟩
theorem mG:FA prog 83 0 0:=⟨λ_ _ _=>aO 3 0 underlying83 rfl bW rfl⟩
theorem lP:FA prog 83 1 1:=⟨λ_ _ _=>aO 3 1 underlying83 rfl bW rfl⟩
theorem qN:FA prog 83 2 2:=⟨λ_ _ _=>aO 3 2 underlying83 rfl bW rfl⟩
theorem nA:FA prog 83 3 3:=⟨λ_ _ _=>aO 3 3 underlying83 rfl bW rfl⟩
theorem mF:FA prog 83 4 4:=⟨λ_ _ _=>aO 3 4 underlying83 rfl bW rfl⟩
theorem qM:FA prog 83 5 5:=⟨λ_ _ _=>aO 3 5 underlying83 rfl bW rfl⟩
theorem bH:FA prog 88 0 0:=⟨λ_ _ _=>aO 3 0 underlying88 rfl bW rfl⟩
theorem bD:FA prog 88 1 1:=⟨λ_ _ _=>aO 3 1 underlying88 rfl bW rfl⟩
theorem tG:FA prog 88 2 2:=⟨λ_ _ _=>aO 3 2 underlying88 rfl bW rfl⟩
theorem aQz:FA prog 90 0 0:=⟨λ_ _ _=>aO 3 0 underlying90 rfl bW rfl⟩
theorem aQy:FA prog 90 1 1:=⟨λ_ _ _=>aO 21 1 underlying90 rfl bAe rfl⟩
theorem gZ:L1 prog 139:=⟨_,underlying139,rfl⟩
theorem gJ:L1 prog 151:=⟨_,underlying151,rfl⟩
theorem gY:L1 prog 155:=⟨_,underlying155,rfl⟩
theorem iR:L1 prog 201:=⟨_,underlying201,rfl⟩
theorem kK:L1 prog 21:=⟨_,underlying21,rfl⟩
theorem iQ:L1 prog 219:=⟨_,underlying219,rfl⟩
theorem iP:L1 prog 221:=⟨_,underlying221,rfl⟩
theorem iO:L1 prog 223:=⟨_,underlying223,rfl⟩
theorem bF:L1 prog 23:=⟨_,underlying23,rfl⟩
theorem jF:L1 prog 230:=⟨_,underlying230,rfl⟩
theorem iN:L1 prog 24:=⟨_,underlying24,rfl⟩
theorem dE:L1 prog 25:=⟨_,underlying25,rfl⟩
theorem aG:L1 prog 3:=⟨_,underlying3,rfl⟩
theorem lF:L1 prog 31:=⟨_,underlying31,rfl⟩
theorem iM:L1 prog 36:=⟨_,underlying36,rfl⟩
theorem oM:L1 prog 4:=⟨_,underlying4,rfl⟩
theorem DQ:L1 prog 43:=⟨_,underlying43,rfl⟩
theorem bJl:L1 prog 5:=⟨_,underlying5,rfl⟩
theorem DP:L1 prog 59:=⟨_,underlying59,rfl⟩
theorem MG:L1 prog 66:=⟨_,underlying66,rfl⟩
theorem aHd:L1 prog 9:=⟨_,underlying9,rfl⟩
theorem HD:L1 prog 92:=⟨_,underlying92,rfl⟩
theorem oL:L1 prog 95:=⟨_,underlying95,rfl⟩
theorem rS:XA prog 139 1:=⟨_,_,_,underlying139,rL⟩
theorem zB:XA prog 155 6:=⟨_,_,_,underlying155,nF⟩
theorem AC:XA prog 22 4:=⟨_,_,_,underlying22,JR⟩
theorem rR:XA prog 229 13:=⟨_,_,_,underlying229,wK⟩
theorem aQ:XA prog 23 1:=⟨_,_,_,underlying23,bW⟩
theorem vT:XA prog 230 6:=⟨_,_,_,underlying230,rM⟩
theorem nQ:XA prog 24 4:=⟨_,_,_,underlying24,DZ⟩
theorem gO:XA prog 25 4:=⟨_,_,_,underlying25,tO⟩
theorem aEa:XA prog 280 1:=⟨_,_,_,underlying280,aQr⟩
theorem oX:XA prog 31 1:=⟨_,_,_,underlying31,MN⟩
theorem jY:XA prog 36 3:=⟨_,_,_,underlying36,nJ⟩
theorem oW:XA prog 48 4:=⟨_,_,_,underlying48,yB⟩
theorem tX:XA prog 59 1:=⟨_,_,_,underlying59,DY⟩
theorem wW:XA prog 66 11:=⟨_,_,_,underlying66,wL⟩
theorem pV:XA prog 92 1:=⟨_,_,_,underlying92,mO⟩
theorem hY:XA prog 95 1:=⟨_,_,_,underlying95,kS⟩
theorem bCp:∃ d z by_,Program.underlying prog 107=some d/\mA d=true/\dD prog 107 z 2 by_:=⟨_,_,_,underlying107,rfl,ED⟩
theorem bCo:∃ d z by_,Program.underlying prog 109=some d/\mA d=true/\dD prog 109 z 4 by_:=⟨_,_,_,underlying109,rfl,EC⟩
theorem bCn:∃ d z by_,Program.underlying prog 111=some d/\mA d=true/\dD prog 111 z 3 by_:=⟨_,_,_,underlying111,rfl,EB⟩
theorem bCm:∃ d z by_,Program.underlying prog 113=some d/\mA d=true/\dD prog 113 z 4 by_:=⟨_,_,_,underlying113,rfl,EA⟩
theorem bCl:∃ d z by_,Program.underlying prog 115=some d/\mA d=true/\dD prog 115 z 1 by_:=⟨_,_,_,underlying115,rfl,JV⟩
theorem aHc:∃ d z by_,Program.underlying prog 117=some d/\mA d=true/\dD prog 117 z 2 by_:=⟨_,_,_,underlying117,rfl,JU⟩
theorem bCk:∃ d z by_,Program.underlying prog 121=some d/\mA d=true/\dD prog 121 z 2 by_:=⟨_,_,_,underlying121,rfl,JS⟩
theorem TH:∃ d z by_,Program.underlying prog 141=some d/\mA d=true/\dD prog 141 z 3 by_:=⟨_,_,_,underlying141,rfl,qD⟩
theorem JP:∃ d z by_,Program.underlying prog 146=some d/\mA d=true/\dD prog 146 z 4 by_:=⟨_,_,_,underlying146,rfl,DZ⟩
theorem aHb:∃ d z by_,Program.underlying prog 157=some d/\mA d=true/\dD prog 157 z 3 by_:=⟨_,_,_,underlying157,rfl,nP⟩
theorem rV:∃ d z by_,Program.underlying prog 180=some d/\mA d=true/\dD prog 180 z 11 by_:=⟨_,_,_,underlying180,rfl,wL⟩
theorem bCj:∃ d z by_,Program.underlying prog 197=some d/\mA d=true/\dD prog 197 z 4 by_:=⟨_,_,_,underlying197,rfl,JR⟩
theorem eX:∃ d z by_,Program.underlying prog 210=some d/\mA d=true/\dD prog 210 z 6 by_:=⟨_,_,_,underlying210,rfl,nF⟩
theorem zR:∃ d z by_,Program.underlying prog 232=some d/\mA d=true/\dD prog 232 z 13 by_:=⟨_,_,_,underlying232,rfl,wK⟩
theorem lM:∃ d z by_,Program.underlying prog 27=some d/\mA d=true/\dD prog 27 z 5 by_:=⟨_,_,_,underlying27,rfl,qZ⟩
theorem bCi:∃ d z by_,Program.underlying prog 278=some d/\mA d=true/\dD prog 278 z 2 by_:=⟨_,_,_,underlying278,rfl,TM⟩
theorem qG:∃ d z by_,Program.underlying prog 33=some d/\mA d=true/\dD prog 33 z 3 by_:=⟨_,_,_,underlying33,rfl,yC⟩
theorem oK:∃ d z by_,Program.underlying prog 38=some d/\mA d=true/\dD prog 38 z 4 by_:=⟨_,_,_,underlying38,rfl,tO⟩
theorem bJk:∃ d z by_,Program.underlying prog 61=some d/\mA d=true/\dD prog 61 z 4 by_:=⟨_,_,_,underlying61,rfl,yB⟩
theorem bJj:∃ d z by_,Program.underlying prog 68=some d/\mA d=true/\dD prog 68 z 3 by_:=⟨_,_,_,underlying68,rfl,uK⟩
theorem aHa:∃ d z by_,Program.underlying prog 72=some d/\mA d=true/\dD prog 72 z 2 by_:=⟨_,_,_,underlying72,rfl,DX⟩
theorem nI:∃ d z by_,Program.underlying prog 83=some d/\mA d=true/\dD prog 83 z 6 by_:=⟨_,_,_,underlying83,rfl,rM⟩
theorem iG:∃ d z by_,Program.underlying prog 88=some d/\mA d=true/\dD prog 88 z 3 by_:=⟨_,_,_,underlying88,rfl,nJ⟩
theorem bB:XE prog 23 3 8:=⟨_,underlying23,bW,rfl⟩
theorem bAt:XE prog 280 9 16:=⟨_,underlying280,aQr,rfl⟩
theorem aDz:XE prog 31 43 16:=⟨_,underlying31,MN,rfl⟩
theorem aDy:XE prog 59 151 2:=⟨_,underlying59,DY,rfl⟩
theorem bIi:XE prog 92 23 24:=⟨_,underlying92,mO,rfl⟩
theorem aDx:XE prog 95 4 1:=⟨_,underlying95,kS,rfl⟩
theorem bN:TA prog 107:=TA.mk' underlying107 rfl ED
theorem fM:TA prog 109:=TA.mk' underlying109 rfl EC
theorem gG:TA prog 111:=TA.mk' underlying111 rfl EB
theorem iE:TA prog 113:=TA.mk' underlying113 rfl EA
theorem gP:TA prog 115:=TA.mk' underlying115 rfl JV
theorem gX:TA prog 117:=TA.mk' underlying117 rfl JU
theorem jL:TA prog 119:=TA.mk' underlying119 rfl JT
theorem jK:TA prog 121:=TA.mk' underlying121 rfl JS
theorem lC:TA prog 123:=TA.mk' underlying123 rfl TR
theorem lK:TA prog 125:=TA.mk' underlying125 rfl TQ
theorem mD:TA prog 127:=TA.mk' underlying127 rfl TP
theorem nO:TA prog 129:=TA.mk' underlying129 rfl TO
theorem tM:TA prog 40:=TA.mk' underlying40 rfl aHo
theorem oY:TA prog 90:=TA.mk' underlying90 rfl WN
theorem UN:BD prog 107 [(.int .i64 0),(.int .i64 0)]:=⟨_,_,underlying107,ED,λw=>by kernel_rfl⟩
theorem qE:BD prog 109 [(.int .i64 0),(.int .i64 0),(.int .i64 0),(.int .i64 0)]:=⟨_,_,underlying109,EC,λw=>by kernel_rfl⟩
theorem UM:BD prog 111 [(.int .i64 0),(.int .i64 0),(.int .i64 0)]:=⟨_,_,underlying111,EB,λw=>by kernel_rfl⟩
theorem bEg:BD prog 113 [(.int .i64 0),(.int .i64 0),(.int .i64 0),(.int .i64 0)]:=⟨_,_,underlying113,EA,λw=>by kernel_rfl⟩
theorem bEf:BD prog 115 [(.int .i64 0)]:=⟨_,_,underlying115,JV,λw=>by kernel_rfl⟩
theorem bEe:BD prog 117 [(.int .i64 0),(.int .i64 0)]:=⟨_,_,underlying117,JU,λw=>by kernel_rfl⟩
theorem bEd:BD prog 119 [(.int .i64 0),(.int .i64 0)]:=⟨_,_,underlying119,JT,λw=>by kernel_rfl⟩
theorem bEc:BD prog 121 [(.int .i64 0),(.int .i64 0)]:=⟨_,_,underlying121,JS,λw=>by kernel_rfl⟩
theorem bEb:BD prog 123 [(.int .i64 0),(.int .i64 0),(.int .i64 0),(.int .i64 0),(.slice none 0 0)]:=⟨_,_,underlying123,TR,λw=>by kernel_rfl⟩
theorem bEa:BD prog 125 [(.int .i64 0),(.int .i64 0),(.slice none 0 0)]:=⟨_,_,underlying125,TQ,λw=>by kernel_rfl⟩
theorem bDz:BD prog 127 [(.int .i64 0),(.int .i64 0),(.slice none 0 0)]:=⟨_,_,underlying127,TP,λw=>by kernel_rfl⟩
theorem bDy:BD prog 129 [(.int .i64 0)]:=⟨_,_,underlying129,TO,λw=>by kernel_rfl⟩
theorem zY:BD prog 141 [(.slice none 0 0),(.slice none 0 0),(.slice none 0 0)]:=⟨_,_,underlying141,qD,λw=>by kernel_rfl⟩
theorem aIu:BD prog 146 [(.string ByteArray.empty),(.int .i64 0),(.slice none 0 0),(.int .i64 0)]:=⟨_,_,underlying146,DZ,λw=>by kernel_rfl⟩
theorem KH:BD prog 157 [(.int .i64 0),(.int .u16 0),(.slice none 0 0)]:=⟨_,_,underlying157,nP,λw=>by kernel_rfl⟩
theorem bDx:BD prog 195 [(.slice none 0 0),(.slice none 0 0),(.int .i64 0),(.slice none 0 0),(.int .i64 0)]:=⟨_,_,underlying195,bCx,λw=>by kernel_rfl⟩
theorem aIt:BD prog 210 [(.int .i64 0),(.int .i64 0),(.int .i64 0),(.int .i64 0),(.int .i64 0),(.int .i64 0)]:=⟨_,_,underlying210,nF,λw=>by kernel_rfl⟩
theorem bDw:BD prog 248 [(.bool false),(.bool false)]:=⟨_,_,underlying248,bCw,λw=>by kernel_rfl⟩
theorem bAl:BD prog 27 [(.string ByteArray.empty),(.slice none 0 0),(.slice none 0 0),(.slice none 0 0),(.slice none 0 0)]:=⟨_,_,underlying27,qZ,λw=>by kernel_rfl⟩
theorem bAk:BD prog 33 [(.int .i64 0),(.int .i64 0),(.slice none 0 0)]:=⟨_,_,underlying33,yC,λw=>by kernel_rfl⟩
theorem XR:BD prog 38 [(.slice none 0 0),(.int .i64 0),(.slice none 0 0),(.slice none 0 0)]:=⟨_,_,underlying38,tO,λw=>by kernel_rfl⟩
theorem bJy:BD prog 40 []:=⟨_,_,underlying40,aHo,λw=>by kernel_rfl⟩
theorem bJx:BD prog 61 [(.int .i64 0),(.int .i64 0),(.slice none 0 0),(.slice none 0 0)]:=⟨_,_,underlying61,yB,λw=>by kernel_rfl⟩
theorem bJw:BD prog 72 [(.slice none 0 0),(.int .i64 0)]:=⟨_,_,underlying72,DX,λw=>by kernel_rfl⟩
theorem HV:BD prog 78 [(.int .i64 0),(.int .i64 0)]:=⟨_,_,underlying78,AR,λw=>by kernel_rfl⟩
theorem nZ:BD prog 83 [(.int .i64 0),(.int .i64 0),(.int .i64 0),(.int .i64 0),(.int .i64 0),(.int .i64 0)]:=⟨_,_,underlying83,rM,λw=>by kernel_rfl⟩
theorem yN:BD prog 88 [(.int .i64 0),(.int .i64 0),(.int .i64 0)]:=⟨_,_,underlying88,nJ,λw=>by kernel_rfl⟩
theorem XQ:BD prog 90 [(.int .i64 0),(.int .i32 0)]:=⟨_,_,underlying90,WN,λw=>by kernel_rfl⟩
theorem JI:MI prog 107:=⟨_,underlying107,rfl⟩
theorem pG:MI prog 109:=⟨_,underlying109,rfl⟩
theorem JH:MI prog 111:=⟨_,underlying111,rfl⟩
theorem aGn:MI prog 113:=⟨_,underlying113,rfl⟩
theorem aGm:MI prog 115:=⟨_,underlying115,rfl⟩
theorem TC:MI prog 117:=⟨_,underlying117,rfl⟩
theorem bCg:MI prog 119:=⟨_,underlying119,rfl⟩
theorem aGl:MI prog 121:=⟨_,underlying121,rfl⟩
theorem bCf:MI prog 123:=⟨_,underlying123,rfl⟩
theorem bCe:MI prog 125:=⟨_,underlying125,rfl⟩
theorem bCd:MI prog 127:=⟨_,underlying127,rfl⟩
theorem bCc:MI prog 129:=⟨_,underlying129,rfl⟩
theorem bJf:MI prog 40:=⟨_,underlying40,rfl⟩
theorem WH:MI prog 90:=⟨_,underlying90,rfl⟩
end Go.Proofs.YtjcmcfidblhnnaaGreatDoor
