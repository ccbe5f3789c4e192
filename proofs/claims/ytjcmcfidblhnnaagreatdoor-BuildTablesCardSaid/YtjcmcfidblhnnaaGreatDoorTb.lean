/- The laws of single operations in the calculus of verification conditions, over any program; readings of slices; what a call leaves as it was. -/
import Derived.Test.YtjcmcfidblhnnaaGreatDoorTa
import Derived.OwnWalk
import Derived.Below
import Derived.ArgAppend
import Derived.Test.YtjcmcfidblhnnaaGreatDoorProg
import Derived.KernelRfl
namespace Go.Vc
abbrev i64 (n:Int):Y:=.int .i64 n
abbrev i32 (n:Int):Y:=.int .i32 n
abbrev vb (b:Bool):Y:=.bool b
abbrev bC:Y:=.slice none 0 0
abbrev gB (w w':O) (r:Option Nat):Prop:=w.grownBy w' r
section
variable {P:Program} {w:O} {K:Y->O->Prop}
theorem V.iff {s:Sem Y} {v:Y} {w':O} (h:s.run P w=.ok v w'):V P s w K↔K v w':=
 ⟨λ⟨_,_,h',hk⟩=>by rw [h] at h';cases h';exact hk,λhk=>⟨v,w',h,hk⟩⟩
theorem U.iff {s:Sem Unit} {w':O} (h:s.run P w=.ok () w'):U P s w K↔K undef w':=
 ⟨λ⟨_,h',hk⟩=>by rw [h] at h';cases h';exact hk,λhk=>⟨w',h,hk⟩⟩
theorem V.ok {s:Sem Y} {v:Y} {w':O} (h:s.run P w=.ok v w') (hk:K v w'):V P s w K:=⟨v,w',h,hk⟩
theorem U.ok {s:Sem Unit} {w':O} (h:s.run P w=.ok () w') (hk:K undef w'):U P s w K:=⟨w',h,hk⟩
theorem aB.mono {f:FuncId} {args:Array Y} {R:Y->O->Prop} (h:aB P f args w R) (hk:∀ v w',R v w'->K v w'):aB P f args w K:=
 ⟨⟨h.ex.1,Calls.mono h.ex.2 λ_ _ ⟨v,he,hr⟩=>⟨v,he,hk v _ hr⟩⟩⟩
theorem aB.of_calls {f:FuncId} {fn:Func} {c:Code} {args:Array Y} (hf:P.funcs[f]?=some fn) (hname:(fn.name == "runtime.NumGoroutine")=false) (hb:fn.body=some c)
  (h:Calls P f args w λe w'=>∃ v,e=.returned v/\K v w'):aB P f args w K:=by
 refine ⟨⟨λargs w=>?_,h⟩⟩;have hname':¬ fn.name = "runtime.NumGoroutine" := by simpa using hname
 simp [callFunc,program,Sem.run,hf,hname',hb]
theorem bFk {P:Program} {f:FuncId} {fn:Func} {args:List Y} {w:O} {R:Y->O->Prop} {D:Prop} (hm:P.follows .mixedOrders=true) (ann:bS) (hf:P.funcs[f]?=some fn)
  (hb:(!(fn.name == "runtime.NumGoroutine")&&fn.body.isSome&&(ok fn.ntmps ann (fn.body.getD .skip)&&HC fn.ntmps fn.results.toList&&Nat.ble args.length fn.ntmps))=true)
  (hD:D=vc P ann (fn.body.getD .skip) (bCz P fn.results.toList R) (xN args) w) (h:D):aB P f args.toArray w R:=by
 simp only [Bool.and_eq_true,Bool.not_eq_true'] at hb;obtain ⟨⟨h1,h2⟩,h3,h4⟩:=hb
 have hbody:fn.body=some (fn.body.getD .skip):=by
  cases e:fn.body with
  | none=>rw [e] at h2;cases h2
  | some c=>rfl
 refine aB.of_calls hf h1 hbody (OB ann hm hf hbody (by simp only [Bool.and_eq_true];exact ⟨h3,h4⟩) (hD▸h))
theorem aI.mk {b:Bool} {x y:Prop} (h1:b=true->x) (h2:b=false->y):aI (.bool b) x y:=⟨b,rfl,h1,h2⟩
theorem bH {x y:Prop}:aI (.bool true) x y↔x:=⟨λ⟨b,h,h1,_⟩=>by cases h;exact h1 rfl,λh=>⟨true,rfl,λ_=>h,λh=>by cases h⟩⟩
theorem aM {x y:Prop}:aI (.bool false) x y↔y:=⟨λ⟨b,h,_,h2⟩=>by cases h;exact h2 rfl,λh=>⟨false,rfl,(λh=>by cases h),λ_=>h⟩⟩
theorem aC {p:Prop} [Decidable p] {x y:Prop} (h1:p->x) (h2:¬ p->y):aI (.bool (decide p)) x y:=
 ⟨_,rfl,λh=>h1 (of_decide_eq_true h),λh=>h2 (of_decide_eq_false h)⟩
theorem jL {b:Bool} {x y:Y} {L:Y->Prop} (h:L (if b then x else y)):aH (.bool b) x y L:=⟨b,rfl,h⟩
theorem bA {b:Bool} {x y:Y} {L:Y->Prop}:aH (.bool b) x y L↔L (if b then x else y):=⟨λ⟨_,h,hk⟩=>by cases h;exact hk,jL⟩
theorem pP {b want:Bool} {step:(Y->O->Prop)->Prop}:gd (.bool b) want step w K↔if b=want then step K else K undef w:=by
 constructor
 ·rintro ⟨h1,h2⟩;split
  ·rename_i hb;exact h1 (by rw [hb])
  ·rename_i hb;exact h2 (by simpa using hb)
 ·intro h;by_cases hb:b=want
  ·rw [if_pos hb] at h;exact ⟨λ_=>h,λh'=>absurd (by rw [hb]) h'⟩
  ·rw [if_neg hb] at h;exact ⟨λh'=>absurd (by simpa using h') hb,λ_=>h⟩
theorem CE {b want:Bool} {step:(Y->Prop)->Prop} {L:Y->Prop}:GD (.bool b) want step L↔if b=want then step L else L undef:=by
 constructor
 ·rintro ⟨h1,h2⟩;split
  ·rename_i hb;exact h1 (by rw [hb])
  ·rename_i hb;exact h2 (by simpa using hb)
 ·intro h;by_cases hb:b=want
  ·rw [if_pos hb] at h;exact ⟨λ_=>h,λh'=>absurd (by rw [hb]) h'⟩
  ·rw [if_neg hb] at h;exact ⟨λh'=>absurd (by simpa using h') hb,λ_=>h⟩
theorem rV {want:Bool} {step:(Y->O->Prop)->Prop}:gd undef want step w K↔K undef w:=
 ⟨λ⟨_,h2⟩=>h2 (by simp [undef]),λh=>⟨λh'=>by simp [undef] at h',λ_=>h⟩⟩
theorem HU {want:Bool} {step:(Y->Prop)->Prop} {L:Y->Prop}:GD undef want step L↔L undef:=
 ⟨λ⟨_,h2⟩=>h2 (by simp [undef]),λh=>⟨λh'=>by simp [undef] at h',λ_=>h⟩⟩
theorem mD {step:(Y->O->Prop)->Prop}:gd (.bool true) true step w K↔step K:=by rw [pP];simp
theorem pD {step:(Y->O->Prop)->Prop}:gd (.bool false) false step w K↔step K:=by rw [pP];simp
theorem uH {step:(Y->O->Prop)->Prop}:gd (.bool true) false step w K↔K undef w:=by rw [pP];simp
theorem lY {step:(Y->O->Prop)->Prop}:gd (.bool false) true step w K↔K undef w:=by rw [pP];simp
theorem wI {step:(Y->Prop)->Prop} {L:Y->Prop}:GD (.bool true) true step L↔step L:=by rw [CE];simp
theorem NR {step:(Y->Prop)->Prop} {L:Y->Prop}:GD (.bool false) false step L↔step L:=by rw [CE];simp
theorem US {step:(Y->Prop)->Prop} {L:Y->Prop}:GD (.bool true) false step L↔L undef:=by rw [CE];simp
theorem UT {step:(Y->Prop)->Prop} {L:Y->Prop}:GD (.bool false) true step L↔L undef:=by rw [CE];simp
theorem aL.mk' {body:(O->Prop)->O->Prop} (S:O->Prop) (hS:S w.drew) (h:body S w.drew):aL w body:=⟨S,hS,h⟩
theorem aF.ok {S:O->Prop} {s:Sem Y} {v:Y} {L:Y->Prop} (h:∀ w,S w->s.run P w=.ok v w) (hk:L v):aF P S s L:=⟨v,h,hk⟩
end
theorem BA {P:Program} {w:O} {k:IntKind} {t:TypeId} {a b:Int}:(binOp .lss t (.int k a) (.int k b)).run P w=.ok (.bool (decide (a < b))) w:=by simp [binOp,Op.intCmp]
theorem aZ {P:Program} {w:O} {K:Y->O->Prop} {k:IntKind} {t:TypeId} {a b:Int}:V P (binOp .lss t (.int k a) (.int k b)) w K↔K (.bool (decide (a < b))) w:=V.iff (by exact BA )
theorem MA {P:Program} {w:O} {k:IntKind} {t:TypeId} {a b:Int}:(binOp .leq t (.int k a) (.int k b)).run P w=.ok (.bool (decide (a<=b))) w:=by simp [binOp,Op.intCmp]
theorem uJ {P:Program} {w:O} {K:Y->O->Prop} {k:IntKind} {t:TypeId} {a b:Int}:V P (binOp .leq t (.int k a) (.int k b)) w K↔K (.bool (decide (a<=b))) w:=V.iff (by exact MA )
theorem bLe {P:Program} {w:O} {k:IntKind} {t:TypeId} {a b:Int}:(binOp .gtr t (.int k a) (.int k b)).run P w=.ok (.bool (decide (a > b))) w:=by simp [binOp,Op.intCmp]
theorem jF {P:Program} {w:O} {K:Y->O->Prop} {k:IntKind} {t:TypeId} {a b:Int}:V P (binOp .gtr t (.int k a) (.int k b)) w K↔K (.bool (decide (a > b))) w:=V.iff (by exact bLe )
theorem yH {P:Program} {w:O} {k:IntKind} {t:TypeId} {a b:Int}:(binOp .geq t (.int k a) (.int k b)).run P w=.ok (.bool (decide (a>=b))) w:=by simp [binOp,Op.intCmp]
theorem fK {P:Program} {w:O} {K:Y->O->Prop} {k:IntKind} {t:TypeId} {a b:Int}:V P (binOp .geq t (.int k a) (.int k b)) w K↔K (.bool (decide (a>=b))) w:=V.iff (by exact yH )
theorem ME {P:Program} {w:O} {k:IntKind} {t:TypeId} {a b:Int}:(binOp .add t (.int k a) (.int k b)).run P w=.ok (.int k (k.wrap (a+b))) w:=by simp [binOp,Op.intArith]
theorem bJ {P:Program} {w:O} {K:Y->O->Prop} {k:IntKind} {t:TypeId} {a b:Int}:V P (binOp .add t (.int k a) (.int k b)) w K↔K (.int k (k.wrap (a+b))) w:=V.iff (by exact ME )
theorem fG {P:Program} {w:O} {k:IntKind} {t:TypeId} {a b:Int}:(binOp .sub t (.int k a) (.int k b)).run P w=.ok (.int k (k.wrap (a - b))) w:=by simp [binOp,Op.intArith]
theorem fT {P:Program} {w:O} {K:Y->O->Prop} {k:IntKind} {t:TypeId} {a b:Int}:V P (binOp .sub t (.int k a) (.int k b)) w K↔K (.int k (k.wrap (a - b))) w:=V.iff (by exact fG )
theorem bLc {P:Program} {w:O} {k:IntKind} {t:TypeId} {a b:Int}:(binOp .mul t (.int k a) (.int k b)).run P w=.ok (.int k (k.wrap (a*b))) w:=by simp [binOp,Op.intArith]
theorem qP {P:Program} {w:O} {K:Y->O->Prop} {k:IntKind} {t:TypeId} {a b:Int}:V P (binOp .mul t (.int k a) (.int k b)) w K↔K (.int k (k.wrap (a*b))) w:=V.iff (by exact bLc )
theorem WM {P:Program} {w:O} {k:IntKind} {t:TypeId} {a b:Int} (h:b≠0):(binOp .quo t (.int k a) (.int k b)).run P w=.ok (.int k (k.wrap (a.tdiv b))) w:=by simp [binOp,Op.intDiv,h]
theorem YY {P:Program} {w:O} {K:Y->O->Prop} {k:IntKind} {t:TypeId} {a b:Int} (h:b≠0):V P (binOp .quo t (.int k a) (.int k b)) w K↔K (.int k (k.wrap (a.tdiv b))) w:=V.iff (by exact WM h)
theorem aGq {P:Program} {w:O} {k:IntKind} {t:TypeId} {a b:Int} (h:b≠0):(binOp .rem t (.int k a) (.int k b)).run P w=.ok (.int k (a.tmod b)) w:=by simp [binOp,Op.intDiv,h]
theorem bCf {P:Program} {w:O} {K:Y->O->Prop} {k:IntKind} {t:TypeId} {a b:Int} (h:b≠0):V P (binOp .rem t (.int k a) (.int k b)) w K↔K (.int k (a.tmod b)) w:=V.iff (by exact aGq h)
theorem AB {P:Program} {w:O} {k:IntKind} {t:TypeId} {x y:Operand} {a b:Int}:(do eqGuard .eql t x y (.int k a) (.int k b);binOp .eql t (.int k a) (.int k b)).run P w=.ok (.bool (decide (a=b))) w:=by simp [eqGuard,binOp,Op.intCmp];rfl
theorem aJ {P:Program} {w:O} {K:Y->O->Prop} {k:IntKind} {t:TypeId} {x y:Operand} {a b:Int}:V P (do eqGuard .eql t x y (.int k a) (.int k b);binOp .eql t (.int k a) (.int k b)) w K↔K (.bool (decide (a=b))) w:=V.iff (by exact AB )
theorem wX {P:Program} {w:O} {k:IntKind} {t:TypeId} {x y:Operand} {a b:Int}:(do eqGuard .neq t x y (.int k a) (.int k b);binOp .neq t (.int k a) (.int k b)).run P w=.ok (.bool (decide (a≠b))) w:=by simp [eqGuard,binOp,Op.intCmp,bne];rfl
theorem cL {P:Program} {w:O} {K:Y->O->Prop} {k:IntKind} {t:TypeId} {x y:Operand} {a b:Int}:V P (do eqGuard .neq t x y (.int k a) (.int k b);binOp .neq t (.int k a) (.int k b)) w K↔K (.bool (decide (a≠b))) w:=V.iff (by exact wX )
theorem vZ {P:Program} {w:O} {b:Bool}:(Op.unary .not (.bool b)).run P w=.ok (.bool (!b)) w:=by simp [Op.unary]
theorem dO {P:Program} {w:O} {K:Y->O->Prop} {b:Bool}:V P (Op.unary .not (.bool b)) w K↔K (.bool (!b)) w:=V.iff (by exact vZ )
theorem nQ {P:Program} {w:O} {a b:Y}:(Instr.extract (.tuple #[a,b]) 0).run P w=.ok a w:=by simp [Instr.extract]
theorem gR {P:Program} {w:O} {K:Y->O->Prop} {a b:Y}:V P (Instr.extract (.tuple #[a,b]) 0) w K↔K a w:=V.iff (by exact nQ )
theorem nP {P:Program} {w:O} {a b:Y}:(Instr.extract (.tuple #[a,b]) 1).run P w=.ok b w:=by simp [Instr.extract]
theorem gQ {P:Program} {w:O} {K:Y->O->Prop} {a b:Y}:V P (Instr.extract (.tuple #[a,b]) 1) w K↔K b w:=V.iff (by exact nP )
theorem aQr {P:Program} {w:O} {a b c:Y}:(Instr.extract (.tuple #[a,b,c]) 0).run P w=.ok a w:=by simp [Instr.extract]
theorem CM {P:Program} {w:O} {K:Y->O->Prop} {a b c:Y}:V P (Instr.extract (.tuple #[a,b,c]) 0) w K↔K a w:=V.iff (by exact aQr )
theorem aQq {P:Program} {w:O} {a b c:Y}:(Instr.extract (.tuple #[a,b,c]) 1).run P w=.ok b w:=by simp [Instr.extract]
theorem CL {P:Program} {w:O} {K:Y->O->Prop} {a b c:Y}:V P (Instr.extract (.tuple #[a,b,c]) 1) w K↔K b w:=V.iff (by exact aQq )
theorem aQp {P:Program} {w:O} {a b c:Y}:(Instr.extract (.tuple #[a,b,c]) 2).run P w=.ok c w:=by simp [Instr.extract]
theorem CK {P:Program} {w:O} {K:Y->O->Prop} {a b c:Y}:V P (Instr.extract (.tuple #[a,b,c]) 2) w K↔K c w:=V.iff (by exact aQp )
theorem lI {n:Int} (h1:-9223372036854775808<=n) (h2:n<=9223372036854775807):IntKind.i64.wrap n=n:=by
 simp only [IntKind.wrap_i64];omega
theorem aQ {n:Int} (h:-9223372036854775808<=n/\n<=9223372036854775807):IntKind.i64.wrap n=n:=lI h.1 h.2
def cZ (P:Program) (t:TypeId) (z:Y) (n bytes:Nat):Prop:=(P.info? t).map (λi=>(i.zero,i.size,i.bytes))=some (some z,n,bytes)
section
variable {P:Program} {w:O} {K:Y->O->Prop}
theorem rM {t:TypeId} {z:Y} {n b:Nat} (h:cZ P t z n b):(zeroValue t).run P w=.ok z w:=by
 obtain ⟨i,hi,hz,_⟩:=info_parts h;simp [zeroValue,typeInfo,hi,hz]
theorem gW {t:TypeId} {z:Y} {n b:Nat} (h:cZ P t z n b):(sizeOf t).run P w=.ok n w:=by
 obtain ⟨i,hi,_,hn,_⟩:=info_parts h;simp [sizeOf,typeInfo,hi,hn]
theorem wA {s e ty:TypeId} (hs:P.underlying s=some (.slice e)) {a:Option Addr} {n c:Nat}:(Builtin.len_ #[s] ty #[.slice a n c]).run P w=.ok (.int .i64 n) w:=by
 simp [Builtin.len_,run_underlying hs,goInt]
def XD:TypeDesc->Bool
 | .interface _=>false
 | _=>true
theorem TK {x u:TypeId} {d:TypeDesc} {z:Y} {n b:Nat} (hu:P.underlying u=some d) (hd:XD d=true) (hz:cZ P u z n b) {t:TypeId} {v:Y} :
  (Instr.typeAssert (.iface t v) x u true).run P w=.ok (if t=u then .tuple #[v,.bool true] else .tuple #[z,.bool false]) w:=by
 cases d with
 | interface _=>cases hd
 | _=>simp only [Instr.typeAssert,Sem.run_bind,run_underlying hu,Result.andThen_ok]<;>(split<;>simp [*,rM hz])
theorem aQo {x u:TypeId} {d:TypeDesc} {z:Y} {n b:Nat} (hu:P.underlying u=some d) (hd:XD d=true) (hz:cZ P u z n b) :
  (Instr.typeAssert .nilIface x u true).run P w=.ok (.tuple #[z,.bool false]) w:=by
 cases d with
 | interface _=>cases hd
 | _=>simp [Instr.typeAssert,run_underlying hu,rM hz]
theorem WT {t:TypeId} {z:Y} {n b:Nat} (hz:cZ P t z n b):(Instr.alloc t true (.tuple #[])).run P w=.ok (.pointer (some ⟨w.heap.size,0,none⟩)) (w.alloc (.cells z.cells t)):=by
 simp [Instr.alloc,rM hz,newVar,newRow,newObj,Sem.run]
theorem bBk {t:TypeId} {v:Y}:(Instr.box t v).run P w=.ok (.pointer (some ⟨w.heap.size,0,none⟩)) (w.alloc (.cells v.cells t)):=by
 simp [Instr.box,newVar,newRow,newObj,Sem.run]
theorem mA (b off n:Nat):(⟨b,off,none⟩:Addr).add n=⟨b,off+n,none⟩:=by
 unfold Addr.add;split
 ·rename_i h;subst h;rfl
 ·rfl
theorem aN {s:TypeId} {fs:Array Field} {f:Nat} (ft:TypeId) (o:Nat) {z:Y} {n by_:Nat} (hs:P.underlying s=some (.struct fs)) (hf:(fs[f]?).map (λfd=>(fd.type,fd.offset))=some (ft,o)) (hi:cZ P ft z n by_) (hn:(n == 0)=false) {b off:Nat} :
  (Instr.fieldAt s (.pointer (some ⟨b,off,none⟩)) f).run P w=.ok (.pointer (some ⟨b,off+o,none⟩)) w:=by
 obtain ⟨fd,hfd,he⟩:=Option.map_eq_some_iff.1 hf;simp only [Prod.mk.injEq] at he;obtain ⟨rfl,rfl⟩:=he;have hn':n≠0:=by simpa using hn
 simp [Instr.fieldAt,run_underlying hs,hfd,Instr.sureAddr,fieldPlace,gW hi,hn',mA]
theorem jZ {t e:TypeId} {z:Y} {n by_:Nat} (ht:P.underlying t=some (.slice e)) (hi:cZ P e z n by_) {b off len cap:Nat} {k:IntKind} {i:Int} (h0:0<=i) (h1:i < len) :
  (Instr.indexAt t (.slice (some ⟨b,off,none⟩) len cap) (.int k i)).run P w=.ok (.pointer (some ⟨b,off+i.toNat*n,none⟩)) w:=by
 simp [Instr.indexAt,asIntOf,run_underlying ht,h0,h1,gW hi,mA]
def lZ:TypeDesc->Bool
 | .struct _|.array _ _=>true
 | _=>false
theorem vJ {t:TypeId} {d:TypeDesc} (ht:P.underlying t=some d):(isAgg t).run P w=.ok (lZ d) w:=by
 cases d<;>simp [isAgg,run_underlying ht,lZ]
theorem jN {t:TypeId} {d:TypeDesc} (ht:P.underlying t=some d) (hd:lZ d=false) {a:Addr} {v:Y} (h:w.cell? a=some v) :
  (Instr.loadAt t (.pointer (some a))).run P w=.ok v w:=by
 simp [Instr.loadAt,Instr.sureAddr,loadVar,vJ ht,hd,load,Sem.run,h]
theorem yG {b off:Nat} (cs:List Y):∀ (l:List Y) (i:Nat) (acc:Array Y),(∀ j (_:j < l.length),w.cell? ⟨b,off+(i+j),none⟩=l[j]?) ->
  (loadCellsFrom ⟨b,off,none⟩ i l.length acc).run P w=.ok (acc++l.toArray) w
 | [],_,acc,_=>by simp [loadCellsFrom]
 | v::l,i,acc,h=>by
  have h0:=h 0 (by simp);simp only [Nat.add_zero,List.getElem?_cons_zero] at h0;simp only [List.length_cons,loadCellsFrom,load,mA,Sem.run_bind,Sem.run,h0,Result.andThen_ok]
  rw [yG cs l (i+1) (acc.push v) (λj hj=>by
   have:=h (j+1) (by simp;omega);rw [show i+1+j=i+(j+1) from by omega];simpa using this)]
  simp
theorem nG {t:TypeId} {d:TypeDesc} {z:Y} {n by_:Nat} (ht:P.underlying t=some d) (hd:lZ d=true) (hi:cZ P t z n by_) {b off:Nat} {cs:List Y} (hl:cs.length=n)
  (h:∀ j (_:j < cs.length),w.cell? ⟨b,off+j,none⟩=cs[j]?):(Instr.loadAt t (.pointer (some ⟨b,off,none⟩))).run P w=.ok (.agg cs.toArray) w:=by
 subst hl;have:=yG (P:=P) (w:=w) (b:=b) (off:=off) cs cs 0 #[] (by simpa using h);simp [Instr.loadAt,Instr.sureAddr,loadVar,vJ ht,hd,gW hi,loadCells,this]
def bX:Y->Bool
 | .agg _|.tuple _=>false
 | _=>true
theorem xA {v:Y} (h:bX v=true):v.cells=#[v]:=by cases v<;>first|rfl|cases h
theorem wW {a:Addr} {v u:Y} (hv:bX v=true) (h:w.cell? a=some u) (hf:w.frozen? a=false):(store a v).run P w=.ok () (w.setCell a v):=by
 cases v<;>first|(simp [store,Sem.run,h,hf];done)|cases hv
theorem nF {t:TypeId} {z:Y} {by_:Nat} (hi:cZ P t z 1 by_) {b off:Nat} {v u:Y} (hv:bX v=true) (h:w.cell? ⟨b,off,none⟩=some u) (hf:w.frozen? ⟨b,off,none⟩=false) :
  (Instr.storeAt t (.pointer (some ⟨b,off,none⟩)) v).run P w=.ok () (w.setCell ⟨b,off,none⟩ v):=by
 simp [Instr.storeAt,Instr.sureAddr,storeVar,gW hi,xA hv,storeCells,wW hv h hf,mA]
theorem yE {t:TypeId}:∀ (l done old:List Y),l.length=old.length->(∀ u∈l,bX u=true) ->
  (storeCells ⟨w.heap.size,0,none⟩ l done.length).run P (w.alloc (.cells (done++old).toArray t))=.ok () (w.alloc (.cells (done++l).toArray t))
 | [],done,[],_,_=>by simp [storeCells]
 | v::l,done,u::old,hl,h1=>by
  have hc:(w.alloc (.cells (done++u::old).toArray t)).cell? ⟨w.heap.size,done.length,none⟩=some u:=by simp
  have hf:(w.alloc (.cells (done++u::old).toArray t)).frozen? ⟨w.heap.size,done.length,none⟩=false:=by simp
  have hset:(w.alloc (.cells (done++u::old).toArray t)).setCell ⟨w.heap.size,done.length,none⟩ v=w.alloc (.cells (done++v::old).toArray t):=by
   simp only [World.setCell,World.alloc]
   congr 1
   apply Array.ext
   ·simp
   ·intro i h1 h2;simp only [Array.getElem_modify,Array.getElem_push];by_cases hi:i < w.heap.size
    ·have:¬ w.heap.size=i:=by omega
     simp [hi,this]
    ·have hi':w.heap.size=i:=by simp at h1;omega
     subst hi';simp
  simp only [storeCells,mA,Nat.zero_add,Sem.run_bind];rw [wW (h1 v (by simp)) hc hf,Result.andThen_ok,hset];have:=yE (t:=t) l (done++[v]) old (by simpa using hl) (λu hu=>h1 u (by simp [hu]));simpa using this
theorem TL {t t':TypeId} {z:Y} {n by_:Nat} (hi:cZ P t z n by_) {old:Array Y} {v:Y} (hn:v.cells.size=n) (ho:old.size=n) (h1:∀ u∈v.cells.toList,bX u=true) :
  (Instr.storeAt t (.pointer (some ⟨w.heap.size,0,none⟩)) v).run P (w.alloc (.cells old t'))=.ok () (w.alloc (.cells v.cells t')):=by
 have:=yE (P:=P) (w:=w) (t:=t') v.cells.toList [] old.toList (by simp [hn,ho]) h1;simp only [List.nil_append,List.length_nil,Array.toArray_toList] at this;simp [Instr.storeAt,Instr.sureAddr,storeVar,gW hi,hn,this]
def ldO (P:Program) (t:TypeId) (a:Addr) (o:Option Y) (w:O) (K:Y->O->Prop):Prop:=
 match o with
 | some v=>K v w
 | none=>V P (Instr.loadAt t (.pointer (some a))) w K
theorem KS {t:TypeId} {z:Y} {n by_:Nat} (hi:cZ P t z n by_) (hz:(z.cells.size == n)=true) {v:Y} {K':Y->O->Prop} (hn:v.cells.size=n) (h1:∀ u∈v.cells.toList,bX u=true) :
  V P (Instr.alloc t true (.tuple #[])) w (λp w1=>U P (Instr.storeAt t p v) w1 λ_ w2=>K' p w2)↔K' (.pointer (some ⟨w.heap.size,0,none⟩)) (w.alloc (.cells v.cells t)):=by
 rw [V.iff (WT hi)];exact U.iff (TL hi hn (by simpa using hz) h1)
theorem NX (e:Nat):∀ (l:List Y) (done old:List Y),l.length=old.length->(∀ u∈l,bX u=true) ->
  Instr.fill (λi=>some (i*1,1)) (done++old).toArray ((List.range' done.length l.length).zip l)=some (done++l).toArray
 | [],done,[],_,_=>by simp [Instr.fill]
 | v::l,done,u::old,hl,h1=>by
  have hv:=xA (h1 v (by simp));simp only [List.length_cons,List.range'_succ,List.zip_cons_cons,Instr.fill,hv];have:=NX e l (done++[v]) old (by simpa using hl) (λu hu=>h1 u (by simp [hu]));simp at this ⊢;exact this
theorem JJ {s e:TypeId} {z:Y} {by_:Nat} (hs:P.underlying s=some (.slice e)) (hi:cZ P e z 1 by_) (hz:(z.cells.size == 1)=true) (l:List Y) (hl:l.length<=16777216) (h1:∀ u∈l,bX u=true) :
  (Instr.buildSlice s l.length ((List.range' 0 l.length).zip l).toArray).run P w=.ok (.slice (some ⟨w.heap.size,0,none⟩) l.length l.length) (w.alloc (.cells l.toArray e)):=by
 obtain ⟨i,hi',hz',hn,hb⟩:=info_parts hi;have hz1:z.cells.size=1:=by simpa using hz
 by_cases h0:l.length=0
 ·obtain rfl:=List.length_eq_zero_iff.1 h0;have e0:Array.range 0=#[]:=by simp [Array.range]
  simp [Instr.buildSlice,run_underlying hs,sizeOf,typeInfo,hi',Instr.fill,newRow,newObj,Sem.run,e0]
 ·have hf:=NX 0 l [] ((Array.range (l.length*1)).map (λj=>z.cells[j % z.cells.size]!)).toList (by simp) h1;simp only [List.nil_append,List.length_nil,Array.toArray_toList] at hf;have hgt:¬ 16777216 < l.length:=by omega
  simp only [Instr.buildSlice,Sem.run_bind,run_underlying hs,Result.andThen_ok,gW hi];simp only [Nat.mul_one,h0,if_false];rw [if_neg (by simpa using hgt)];simp only [Nat.mul_one] at hf;simp [hf,newRow,newObj,Sem.run,rM hi]
theorem nA (s:TypeId) (x y:Y):Op.equal s x y=Op.equalIn (9999+1) s x y:=rfl
theorem DP {s:TypeId} {ms:Array (String × TypeId)} (hs:P.underlying s=some (.interface ms)) (d:Nat) {t:TypeId} {v:Y}:(Op.equalIn (d+1) s (.iface t v) .nilIface).run P w=.ok false w:=by
 simp [Op.equalIn,run_underlying hs]
theorem aGy {s:TypeId} {ms:Array (String × TypeId)} (hs:P.underlying s=some (.interface ms)) (d:Nat):(Op.equalIn (d+1) s .nilIface .nilIface).run P w=.ok true w:=by
 simp [Op.equalIn,run_underlying hs]
theorem TN {s e:TypeId} (hs:P.underlying s=some (.slice e)) (d:Nat) {a:Option Addr} {n c:Nat}:(Op.equalIn (d+1) s (.slice a n c) (.slice none 0 0)).run P w=.ok a.isNone w:=by
 cases a<;>simp [Op.equalIn,run_underlying hs]
theorem aGz {s:TypeId} (hs:P.underlying s=some .bool) (d:Nat) {a b:Bool}:(Op.equalIn (d+1) s (.bool a) (.bool b)).run P w=.ok (a == b) w:=by
 simp [Op.equalIn,run_underlying hs]
theorem JI {s:TypeId} {ms:Array (String × TypeId)} (hs:P.underlying s=some (.interface ms)) {x y:Operand} {t:TypeId} {v:Y} :
  (do eqGuard .eql s x y (.iface t v) .nilIface;binOp .eql s (.iface t v) .nilIface).run P w=.ok (.bool false) w:=by
 simp [eqGuard,binOp,nA,DP hs]
theorem gY {s:TypeId} {ms:Array (String × TypeId)} (hs:P.underlying s=some (.interface ms)) {x y:Operand} {t:TypeId} {v:Y} :
  (do eqGuard .neq s x y (.iface t v) .nilIface;binOp .neq s (.iface t v) .nilIface).run P w=.ok (.bool true) w:=by
 simp [eqGuard,binOp,nA,DP hs]
theorem iG {s:TypeId} {ms:Array (String × TypeId)} (hs:P.underlying s=some (.interface ms)) {x:Operand} {c:Y} :
  (do eqGuard .neq s x (.const c) .nilIface .nilIface;binOp .neq s .nilIface .nilIface).run P w=.ok (.bool false) w:=by
 simp [eqGuard,binOp,nA,aGy hs]
theorem yJ {s e:TypeId} (hs:P.underlying s=some (.slice e)) {x y:Operand} {a:Option Addr} {n c:Nat} :
  (do eqGuard .eql s x y (.slice a n c) (.slice none 0 0);binOp .eql s (.slice a n c) (.slice none 0 0)).run P w=.ok (.bool a.isNone) w:=by
 simp [eqGuard,binOp,nA,TN hs]
theorem aGv {s:TypeId} (hs:P.underlying s=some .bool) {x y:Operand} {a b:Bool} :
  (do eqGuard .eql s x y (.bool a) (.bool b);binOp .eql s (.bool a) (.bool b)).run P w=.ok (.bool (a == b)) w:=by
 simp [eqGuard,binOp,nA,aGz hs]
theorem GV {s:TypeId} (hs:P.underlying s=some .bool) {x y:Operand} {a b:Bool} :
  (do eqGuard .neq s x y (.bool a) (.bool b);binOp .neq s (.bool a) (.bool b)).run P w=.ok (.bool (a != b)) w:=by
 simp [eqGuard,binOp,nA,aGz hs,bne]
theorem lU {s d:TypeId} {ds:TypeDesc} {k k':IntKind} {n:Int} (hs:P.underlying s=some ds) (hd:P.underlying d=some (.int k')) :
  (convert s d (.int k n)).run P w=.ok (.int k' (k'.wrap n)) w:=by
 simp [convert,run_underlying hs,run_underlying hd,Conv.intToInt]
def aG (w w':O):Prop:=w.grownBy w' none
theorem aG.refl (w:O):aG w w:=⟨rfl,rfl,rfl,Nat.le_refl _,λ_ _ _=>rfl⟩
theorem aG.trans {a b c:O} (h:aG a b) (k:aG b c):aG a c:=
 ⟨k.os.trans h.os,k.tape.trans h.tape,k.output.trans h.output,Nat.le_trans h.size k.size,λi hi hn=>(k.block i (Nat.lt_of_lt_of_le hi h.size) hn).trans (h.block i hi hn)⟩
theorem aG.alloc {a w:O} (h:aG a w) (o:Obj):aG a (w.alloc o):=h.trans (World.grownBy_alloc _ _ _)
theorem aG.drew {a w:O} (h:aG a w):aG a w.drew:=⟨h.os,h.tape,h.output,h.size,h.block⟩
theorem aG.setCell {a w:O} (h:aG a w) {b o:Nat} (hb:a.heap.size<=b) (v:Y):aG a (w.setCell ⟨b,o,none⟩ v):=
 ⟨h.os,h.tape,h.output,by simpa using h.size,λi hi hn=>by rw [RowKit.Below.heap_setCell _ _ _ _ (by simp;omega)];exact h.block i hi hn⟩
theorem aG.cell {a w:O} (h:aG a w) {p:Addr} {v:Y} (hc:a.cell? p=some v):w.cell? p=some v:=World.grownBy.cell h hc (by simp)
theorem aG.obj {a w:O} (h:aG a w) {b:Nat} {o:Obj} (hb:a.heap[b]?=some o):w.heap[b]?=some o:=by
 have hlt:b < a.heap.size:=(Array.getElem?_eq_some_iff.1 hb).1;rw [h.block b hlt (by simp)];exact hb
theorem aG.grown {a w w':O} (h:aG a w) {row:Option Nat} (hg:w.grownBy w' row) (hr:∀ k,row=some k->a.heap.size<=k):aG a w':=
 ⟨hg.os.trans h.os,hg.tape.trans h.tape,hg.output.trans h.output,Nat.le_trans h.size hg.size,λi hi hn=>(hg.block i (Nat.lt_of_lt_of_le hi h.size) (λe=>by have:=hr i e.symm;omega)).trans (h.block i hi hn)⟩
theorem aG.own {a w:O} (h:aG a w) {B:Nat} {e:TypeId} {size n:Nat} {v:Y} {xs:List Y} (ho:a.ownsRow B e size v n xs):w.ownsRow B e size v n xs:=ho.kept h (by cases v.ownBlock<;>simp)
theorem aG.below {a w:O} (h:aG a w):RowKit.Below a.heap.size a w:=⟨h.os,h.tape,h.output,h.size,λk hk=>h.block k hk (by simp)⟩
def aA (w:O) (v:Y) (size n:Nat) (cs:List Y):Prop:=
 cs.length=n*size/\((v=.slice none 0 0/\n=0)\/∃ b off cap,v=.slice (some ⟨b,off,none⟩) n cap/\n<=cap/\cap<=maxLen/\∀ j u,cs[j]?=some u->w.cell? ⟨b,off+j,none⟩=some u)
theorem aA.ext {w w':O} {v:Y} {size n:Nat} {cs:List Y} (h:aA w v size n cs) (hx:aG w w'):aA w' v size n cs:=by
 obtain ⟨h1,h2⟩:=h;refine ⟨h1,?_⟩;rcases h2 with h2|⟨b,off,cap,h2,h3,h4,h5⟩
 ·exact .inl h2
 ·exact .inr ⟨b,off,cap,h2,h3,h4,λj u hj=>hx.cell (h5 j u hj)⟩
theorem aA.nil (w:O) (size:Nat):aA w (.slice none 0 0) size 0 []:=⟨by simp,.inl ⟨rfl,rfl⟩⟩
theorem aA.of_own {w:O} {B:Nat} {e:TypeId} {size n:Nat} {v:Y} {xs:List Y} (h:w.ownsRow B e size v n xs):aA w v size n xs:=by
 refine ⟨h.1,?_⟩;rcases h.2 with ⟨h1,h2⟩|⟨g,cap,cur,rfl,_,_,h4,h5,_⟩
 ·exact .inl ⟨h1,h2⟩
 ·exact .inr ⟨g,0,cap,rfl,h4,h5,λj u hj=>by have:=h.cells (g:=g) rfl j u hj;rwa [mA] at this⟩
theorem aA.shape {w:O} {v:Y} {size n:Nat} {cs:List Y} (h:aA w v size n cs):∃ a cap,v=.slice a n cap:=by
 rcases h.2 with ⟨rfl,rfl⟩|⟨b,off,cap,rfl,_⟩
 ·exact ⟨none,0,rfl⟩
 ·exact ⟨_,cap,rfl⟩
theorem aA.there {w:O} {v:Y} {size n:Nat} {cs:List Y} (h:aA w v size n cs) (hn:0 < n):∃ b off cap,v=.slice (some ⟨b,off,none⟩) n cap/\∀ j u,cs[j]?=some u->w.cell? ⟨b,off+j,none⟩=some u:=by
 rcases h.2 with ⟨_,rfl⟩|⟨b,off,cap,rfl,_,_,h5⟩
 ·omega
 ·exact ⟨b,off,cap,rfl,h5⟩
theorem aA.get {t e x:TypeId} {d:TypeDesc} {z:Y} {by_:Nat} (ht:P.underlying t=some (.slice e)) (hi:cZ P e z 1 by_) (hx:P.underlying x=some d) (hd:lZ d=false) {v:Y} {n:Nat} {cs:List Y} (h:aA w v 1 n cs)
  {k:IntKind} {i:Int} {u:Y} (h0:0<=i) (h1:i < n) (hu:cs[i.toNat]?=some u) (hk:K u w) :
  V P (Instr.indexAt t v (.int k i)) w λp w1=>V P (Instr.loadAt x p) w1 K:=by
 obtain ⟨b,off,cap,rfl,hc⟩:=h.there (by omega);refine V.ok (jZ ht hi h0 h1) (V.ok (jN hx hd ?_) hk);simpa using hc _ _ hu
structure TA (P:Program) (u:TypeId):Prop where
 of ::
 ex:∃ z,(∀ (w:O) x t v,(Instr.typeAssert (.iface t v) x u true).run P w=.ok (if t=u then .tuple #[v,.bool true] else .tuple #[z,.bool false]) w) /\
 ∀ (w:O) x,(Instr.typeAssert .nilIface x u true).run P w=.ok (.tuple #[z,.bool false]) w
theorem TA.mk' {u:TypeId} {d:TypeDesc} {z:Y} {n b:Nat} (hu:P.underlying u=some d) (hd:XD d=true) (hz:cZ P u z n b):TA P u:=⟨⟨z,λ_ _ _ _=>TK hu hd hz,λ_ _=>aQo hu hd hz⟩⟩
structure SA (P:Program) (t:TypeId) (n:Nat):Prop where
 of ::
 ex:∃ z by_,cZ P t z n by_/\z.cells.size=n
structure FA (P:Program) (s f o:Nat):Prop where
 of ::
 ex:∀ (w:O) b off,(Instr.fieldAt s (.pointer (some ⟨b,off,none⟩)) f).run P w=.ok (.pointer (some ⟨b,off+o,none⟩)) w
structure L1 (P:Program) (t:TypeId):Prop where
 of ::
 ex:∃ d,P.underlying t=some d/\lZ d=false
structure XA (P:Program) (t n:Nat):Prop where
 of ::
 ex:∃ e z by_,P.underlying t=some (.slice e)/\cZ P e z n by_
theorem th {u x:TypeId} {v:Y} {A:Y->O->Prop} {B:Y->Y->Y->O->Prop} (h:TA P u) (hA:A v w) :
  V P (Instr.typeAssert (.iface u v) x u true) w λt1 w1=>V P (Instr.extract t1 1) w1 λt2 w2=>V P (Instr.extract t1 0) w2 λt3 w3=>aI t2 (A t3 w3) (B t1 t2 t3 w3):=by
 obtain ⟨z,hz,_⟩:=h;refine V.ok (hz w x u v) ?_;rw [if_pos rfl];exact V.ok nP (V.ok nQ (bH.2 hA))
theorem tm {u t x:TypeId} {v:Y} {A B:Y->Y->Y->O->Prop} (h:TA P u) (hne:t≠u) (hB:∀ t1 t2 t3,B t1 t2 t3 w) :
  V P (Instr.typeAssert (.iface t v) x u true) w λt1 w1=>V P (Instr.extract t1 1) w1 λt2 w2=>V P (Instr.extract t1 0) w2 λt3 w3=>aI t2 (A t1 t2 t3 w3) (B t1 t2 t3 w3):=by
 obtain ⟨z,hz,_⟩:=h;refine V.ok (hz w x t v) ?_;rw [if_neg hne];exact V.ok nP (V.ok nQ (aM.2 (hB _ _ _)))
theorem tn {u x:TypeId} {A B:Y->Y->Y->O->Prop} (h:TA P u) (hB:∀ t1 t2 t3,B t1 t2 t3 w) :
  V P (Instr.typeAssert .nilIface x u true) w λt1 w1=>V P (Instr.extract t1 1) w1 λt2 w2=>V P (Instr.extract t1 0) w2 λt3 w3=>aI t2 (A t1 t2 t3 w3) (B t1 t2 t3 w3):=by
 obtain ⟨z,_,hz⟩:=h;refine V.ok (hz w x) ?_;exact V.ok nP (V.ok nQ (aM.2 (hB _ _ _)))
theorem as_ {t n:TypeId} {v:Y} {K':Y->O->Prop} (h:SA P t n) (hn:v.cells.size=n) (h1:v.cells.toList.all bX=true) (hk:K' (.pointer (some ⟨w.heap.size,0,none⟩)) (w.alloc (.cells v.cells t))) :
  V P (Instr.alloc t true (.tuple #[])) w (λp w1=>U P (Instr.storeAt t p v) w1 λ_ w2=>K' p w2):=by
 obtain ⟨z,b,hi,hz⟩:=h;exact (KS hi (by simpa using hz) hn (λu hu=>List.all_eq_true.1 h1 u hu)).2 hk
theorem ldf {s f o ft b off:Nat} {u:Y} (h:FA P s f o) (hl:L1 P ft) (hc:w.cell? ⟨b,off+o,none⟩=some u) (hk:K u w) :
  V P (Instr.fieldAt s (.pointer (some ⟨b,off,none⟩)) f) w λq w1=>V P (Instr.loadAt ft q) w1 K:=by
 obtain ⟨d,hd,ha⟩:=hl;exact V.ok (h.ex w b off) (V.ok (jN hd ha hc) hk)
theorem mH {t x:TypeId} {v:Y} {n:Nat} {cs:List Y} {k:IntKind} {i:Int} {u:Y} (h:XA P t 1) (hl:L1 P x) (hs:aA w v 1 n cs) (h0:0<=i) (h1:i < n) (hu:cs[i.toNat]?=some u) (hk:K u w) :
  V P (Instr.indexAt t v (.int k i)) w λp w1=>V P (Instr.loadAt x p) w1 K:=by
 obtain ⟨e,z,b,ht,hi⟩:=h;obtain ⟨d,hd,ha⟩:=hl;exact hs.get ht hi hd ha h0 h1 hu hk
theorem gE {t ty n:Nat} {m:Nat} {v:Y} {size:Nat} {cs:List Y} (h:XA P t n) (hs:aA w v size m cs) (hk:K (i64 m) w):V P (Builtin.len_ #[t] ty #[v]) w K:=by
 obtain ⟨e,z,b,ht,hi⟩:=h;obtain ⟨a,c,rfl⟩:=hs.shape;exact V.ok (wA ht) hk
def bF (w:O) (b:Nat) (cs:List Y):Prop:=∀ j u,cs[j]?=some u->w.cell? ⟨b,0+j,none⟩=some u
theorem bF.ext {w w':O} {b:Nat} {cs:List Y} (h:bF w b cs) (hx:aG w w'):bF w' b cs:=λj u hj=>hx.cell (h j u hj)
theorem HZ {cs:Array Y} {t:TypeId}:bF (w.alloc (.cells cs t)) w.heap.size cs.toList:=λj u hj=>by simpa using hj
theorem bx {t:TypeId} {v:Y} (hk:∀ b w1,bF w1 b v.cells.toList->aG w w1->K (.pointer (some ⟨b,0,none⟩)) w1):V P (Instr.box t v) w K:=
 V.ok bBk (hk _ _ HZ ((aG.refl w).alloc _))
theorem sG {t n:TypeId} {v:Y} {K':Y->O->Prop} (h:SA P t n) (hn:v.cells.size=n) (h1:v.cells.toList.all bX=true) (hk:∀ b w1,bF w1 b v.cells.toList->aG w w1->K' (.pointer (some ⟨b,0,none⟩)) w1) :
  V P (Instr.alloc t true (.tuple #[])) w (λp w1=>U P (Instr.storeAt t p v) w1 λ_ w2=>K' p w2):=
 as_ h hn h1 (hk _ _ HZ ((aG.refl w).alloc _))
theorem aV {s f o ft b:Nat} {cs:List Y} {u:Y} (hb:bF w b cs) (h:FA P s f o) (hl:L1 P ft) (hc:cs[o]?=some u) (hk:K u w) :
  V P (Instr.fieldAt s (.pointer (some ⟨b,0,none⟩)) f) w λq w1=>V P (Instr.loadAt ft q) w1 K:=ldf h hl (hb o u hc) hk
theorem iC {t n b:Nat} {cs:List Y} (hb:bF w b cs) (ht:∃ d z by_,P.underlying t=some d/\lZ d=true/\cZ P t z n by_) (hl:cs.length=n) (hk:K (.agg cs.toArray) w):V P (Instr.loadAt t (.pointer (some ⟨b,0,none⟩))) w K:=by
 obtain ⟨d,z,by_,h1,h2,h3⟩:=ht
 exact V.ok (nG h1 h2 h3 hl λj hj=>by
  obtain ⟨u,hu⟩:∃ u,cs[j]?=some u:=⟨_,List.getElem?_eq_getElem hj⟩;rw [hu];exact hb j u hu) hk
structure XE (P:Program) (t e by_:Nat):Prop where
 of ::
 ex:∃ z,P.underlying t=some (.slice e)/\cZ P e z 1 by_/\(z.cells.size == 1)=true
theorem CB (v:Y):v.oneCell'=bX v:=by cases v<;>rfl
theorem jG {t e by_:Nat} (h:XE P t e by_) (l:List Y) {n:Nat} {parts:Array (Nat × Y)} (hn:n=l.length) (hp:parts=((List.range' 0 l.length).zip l).toArray) (hl:l.length<=16777216) (h1:l.all bX=true)
  (hk:∀ v w',w'.ownsRow w.heap.size e 1 v n l->aG w w'->K v w'):V P (Instr.buildSlice t n parts) w K:=by
 subst hn;subst hp;obtain ⟨z,ht,hi,hz⟩:=h;refine V.ok (JJ ht hi hz l hl (λu hu=>List.all_eq_true.1 h1 u hu)) (hk _ _ ?_ ((aG.refl w).alloc _));have:=World.ownsRow_lit (base:=w.heap.size) (e:=e) (size:=1) w l.toArray l.length (Nat.le_refl _) (by unfold maxLen;omega) (by simp);simpa using this
theorem LD {t e by_ ty:Nat} (h:XE P t e by_) {B:Nat} {v:Y} {n:Nat} {xs:List Y} (ho:w.ownsRow B e 1 v n xs) {x:Y} {m:Nat} {news:List Y} (hs:aA w x 1 m news) (h1:news.all bX=true)
  (hb:(n+m)*by_<=140737488355328) (h63:n+m<=maxLen) (hB:B<=w.heap.size) (hk:∀ v' w',w'.ownsRow B e 1 v' (n+m) (xs++news)->w.grownBy w' v.ownBlock->K v' w') :
  V P (Builtin.append_ #[t,t] ty #[v,x]) w K:=by
 obtain ⟨z,ht,hi,hz⟩:=h;obtain ⟨i,hi',hz',hn,hby⟩:=info_parts hi;rcases hs.2 with ⟨rfl,rfl⟩|⟨b,off,cap,rfl,_,_,hc⟩
 ·have hnews:news=[]:=by have:=hs.1;simpa using this
  subst hnews;refine V.ok (run_append_owned_none w B t ty e i 1 ht hi' v n xs ho) (hk _ _ (by simpa using ho) ⟨rfl,rfl,rfl,Nat.le_refl _,λ_ _ _=>rfl⟩)
 ·obtain ⟨v',w',hr,h2,h3,_⟩:=run_append_own (P:=P) w B t ty e i z 1 by_ ht hi' hz' hn hby (by simpa using hz) (by omega) v n xs ho ⟨b,off,none⟩ m cap news hs.1
   (λj u hj=>by rw [mA];exact hc j u hj) (λu hu=>by rw [CB];exact List.all_eq_true.1 h1 u hu) h63 hb hB
  exact V.ok hr (hk _ _ h2 h3)
theorem VF {t e by_:Nat} (h:XE P t e by_) {v:Y} {n:Nat} {cs:List Y} (hs:aA w v 1 n cs) (h1:cs.all bX=true) (hb:n*by_<=140737488355328) {x y:Operand} {R:Y->O->Prop}
  (hk:∀ v' w',w'.ownsRow w.heap.size e 1 v' n cs->aG w w'->R v' w') :
  V P (do eqGuard .eql t x y v (Value.slice none 0 0);binOp .eql t v (Value.slice none 0 0)) w λt4 w1=>
   aI t4 (R (Value.slice none 0 0) w1) (V P (Instr.buildSlice t 0 #[]) w1 λt5 w2=>V P (Builtin.append_ #[t,t] t #[t5,v]) w2 λt7 w3=>R t7 w3):=by
 have h':=h;obtain ⟨z,ht,hi,hz⟩:=h;rcases hs.2 with ⟨rfl,rfl⟩|⟨b,off,cap,rfl,hc1,hc2,hc⟩
 ·refine V.ok (yJ ht) (bH.2 (hk _ _ ?_ (aG.refl w)));have:cs=[]:=by have:=hs.1;simpa using this
  subst this;exact World.ownsRow_nil _ _ _ _
 ·refine V.ok (yJ ht) (aM.2 (jG h' [] rfl rfl (by simp) rfl λv1 w1 ho x1=>?_));refine LD h' ho (hs.ext x1) h1 (by simpa using hb) (by unfold maxLen at *;omega) x1.size λv2 w2 ho2 hg=>?_;have:=ho2;simp only [Nat.zero_add,List.nil_append] at this;exact hk _ _ this (x1.grown hg λk hk'=>(ho.lt k hk').1)
end
section
variable {P:Program} {w:O} {K:Y->O->Prop}
theorem aU {w:O} {B B' e size n:Nat} {v:Y} {xs:List Y} (h:w.ownsRow B e size v n xs) (hB:B'<=B):w.ownsRow B' e size v n xs:=by
 refine ⟨h.1,?_⟩;rcases h.2 with h2|⟨g,cap,cur,h2,h3,h4⟩
 ·exact .inl h2
 ·exact .inr ⟨g,cap,cur,h2,Nat.le_trans hB h3,h4⟩
theorem TP {w:O} {B e size n:Nat} {v:Y} {xs:List Y} (h:w.ownsRow B e size v n xs) {row:Option Nat} (hr:∀ k,row=some k->k < B):v.ownBlock=none\/v.ownBlock≠row:=by
 cases hv:v.ownBlock with
 | none=>exact .inl rfl
 | some g=>exact .inr λhe=>by have:=hr g he.symm;have:=(h.lt g hv).1;omega
theorem stO {t x:Nat} {z:Y} {by_:Nat} (h:XA P t 1) (hx:cZ P x z 1 by_) {B e n:Nat} {v:Y} {xs:List Y} (ho:w.ownsRow B e 1 v n xs) {k:IntKind} {i:Int} (h0:0<=i) (h1:i < n) {u:Y} (hu:bX u=true) {K':O->Prop}
  (hk:∀ w',w'.ownsRow B e 1 v n (xs.set i.toNat u)->w.grownBy w' v.ownBlock->K' w') :
  V P (Instr.indexAt t v (.int k i)) w λp w1=>U P (Instr.storeAt x p u) w1 λ_ w2=>K' w2:=by
 obtain ⟨e',z',b',ht,hi⟩:=h;have ho':=ho;rcases ho.2 with ⟨_,rfl⟩|⟨g,cap,cur,rfl,hB,_⟩
 ·omega
 refine V.ok (jZ ht hi h0 h1) ?_;obtain ⟨s1,s2⟩:=ho'.stored i.toNat u;have hc:=ho'.cellAt i.toNat (by omega);have hlt:i.toNat < xs.length:=by have:=ho'.1;omega
 rw [List.getElem?_eq_getElem hlt] at hc;simp only [Nat.zero_add,Nat.mul_one];exact U.ok (nF hx hu hc (ho'.frozenAt _)) (hk _ s1 s2)
theorem JT {t x:Nat} (h:XA P t 1) (hl:L1 P x) {B e n:Nat} {v:Y} {xs:List Y} (ho:w.ownsRow B e 1 v n xs) {k:IntKind} {i:Int} {u:Y} (h0:0<=i) (h1:i < n) (hu:xs[i.toNat]?=some u) (hk:K u w) :
  V P (Instr.indexAt t v (.int k i)) w λp w1=>V P (Instr.loadAt x p) w1 K:=mH h hl (aA.of_own ho) h0 h1 hu hk
def bO (w:O) (g:Nat) (cs:List Y) (e:TypeId):Prop:=w.heap[g]?=some (.cells cs.toArray e (0,0))
theorem bO.ext {w w':O} {g:Nat} {cs:List Y} {e:TypeId} (h:bO w g cs e) (hx:aG w w'):bO w' g cs e:=hx.obj h
theorem bO.lt {w:O} {g:Nat} {cs:List Y} {e:TypeId} (h:bO w g cs e):g < w.heap.size:=(Array.getElem?_eq_some_iff.1 h).1
theorem bO.cell {w:O} {g:Nat} {cs:List Y} {e:TypeId} (h:bO w g cs e) (j:Nat):w.cell? ⟨g,j,none⟩=cs[j]?:=by
 rw [cell_of_row w g j cs.toArray e (0,0) h];simp
theorem bO.frozen {w:O} {g:Nat} {cs:List Y} {e:TypeId} (h:bO w g cs e) (j:Nat):w.frozen? ⟨g,j,none⟩=false:=frozen_of_row w g j cs.toArray e h
theorem bO.set {w:O} {g:Nat} {cs:List Y} {e:TypeId} (h:bO w g cs e) (j:Nat) (u:Y):bO (w.setCell ⟨g,j,none⟩ u) g (cs.set j u) e:=by
 have:=heap_setCell_same w g j cs.toArray e u h;unfold bO;rw [this];simp
theorem bO.other {w:O} {g g' j:Nat} {cs:List Y} {e:TypeId} {u:Y} (h:bO w g cs e) (hne:g≠g'):bO (w.setCell ⟨g',j,none⟩ u) g cs e:=by
 unfold bO;rw [heap_setCell_other w ⟨g',j,none⟩ g u hne];exact h
theorem bO.drew {w:O} {g:Nat} {cs:List Y} {e:TypeId} (h:bO w g cs e):bO w.drew g cs e:=h
theorem bO.slice {w:O} {g n:Nat} {cs:List Y} {e:TypeId} (h:bO w g cs e) (hn:cs.length=n) (hm:n<=maxLen):aA w (.slice (some ⟨g,0,none⟩) n n) 1 n cs:=
 ⟨by omega,.inr ⟨g,0,n,rfl,Nat.le_refl _,hm,λj u hj=>by rw [Nat.zero_add,h.cell];exact hj⟩⟩
theorem mkB {t e by_:Nat} {z:Y} (ht:P.underlying t=some (.slice e)) (hi:cZ P e z 1 by_) (hz:z.cells=#[z]) {n:Nat} (hb:by_*n<=281474976710656) (h63:n<=9223372036854775807)
  (hk:∀ w',bO w' w.heap.size (List.replicate n z) e->aG w w'->w'.heap.size=w.heap.size+1->K (.slice (some ⟨w.heap.size,0,none⟩) n n) w'):V P (Instr.makeSlice t (i64 n) (i64 n)) w K:=by
 obtain ⟨i,hi',hz',hn,hby⟩:=info_parts hi;have hr:=run_make (P:=P) w t e i z ht hi' hz' .i64 .i64 n n (by omega) (Int.le_refl _) (by rw [hby,<- Int.natCast_mul];omega) (by omega);simp only [Int.toNat_natCast,hn,hz,Nat.mul_one] at hr;refine V.ok hr (hk _ ?_ ((aG.refl w).alloc _) (by simp));unfold bO;have:=heap_alloc_new w (.cells (madeCells #[z] n) e);rw [this]
 congr 2
 rw [<- toList_madeCells_one z n]
structure BD (P:Program) (t:TypeId) (zs:List Y):Prop where
 of ::
 ex:∃ fs b,P.underlying t=some (.struct fs)/\cZ P t (.agg zs.toArray) zs.length b/\∀ w:O,(fs.mapM (λf=>do pure (f.offset,<- sizeOf f.type)):Sem (Array (Nat × Nat))).run P w=.ok ((List.range zs.length).map (λi=>(i,1))).toArray w
theorem aJj {n:Nat}:∀ (l:List (Nat × Y)) (cs:List Y),cs.length=n->(l.all λx=>decide (x.1 < n)&&bX x.2)=true ->
  Instr.fill ((((List.range n).map (λi=>(i,1))).toArray)[·]?) cs.toArray l=some (l.foldl (λcs x=>cs.set x.1 x.2) cs).toArray
 | [],cs,_,_=>rfl
 | (i,v)::l,cs,hl,h=>by
  simp only [List.all_cons,Bool.and_eq_true,decide_eq_true_eq] at h;have hi:((((List.range n).map (λi=>(i,1))).toArray)[i]?)=some (i,1):=by simp [h.1.1]
  have hc:=xA h.1.2;rw [Instr.fill,hi];have hn:¬ (i+1 > cs.length):=by omega
  simp only [hc,List.size_toArray,List.length_cons,List.length_nil,Nat.zero_add,ne_eq,not_true_eq_false,decide_false,Bool.false_or,hn,Bool.false_eq_true,if_false];have:=aJj (n:=n) l (cs.set i v) (by simpa using hl) h.2;simpa using this
theorem lF {t:TypeId} {zs:List Y} (h:BD P t zs) {parts:Array (Nat × Y)} (l:List (Nat × Y)) (hp:parts=l.toArray) (h1:(l.all λx=>decide (x.1 < zs.length)&&bX x.2)=true)
  (hk:K (.agg (l.foldl (λcs x=>cs.set x.1 x.2) zs).toArray) w):V P (Instr.build t parts) w K:=by
 subst hp;obtain ⟨fs,b,hu,hi,hm⟩:=h;refine V.ok ?_ hk;simp only [Instr.build,Sem.run_bind,rM hi,Result.andThen_ok,run_underlying hu,hm,Value.cells];rw [aJj l zs rfl h1];simp
structure MI (P:Program) (t:TypeId):Prop where
 of ::
 ex:∃ d,P.underlying t=some d/\XD d=true
theorem TW {t:TypeId} (h:MI P t) {v:Y} (hk:K (.iface t v) w):V P (Instr.makeInterface t v) w K:=by
 obtain ⟨d,hu,hd⟩:=h;refine V.ok ?_ hk;cases d<;>first|(simp [Instr.makeInterface,run_underlying hu];done)|cases hd
end
end Go.Vc
namespace Go.Proofs.YtjcmcfidblhnnaaGreatDoor
open Tryz
open Go.Vc
variable {w:O} {cap n off:Nat} {k:IntKind} {i:Int} {a:Addr} {ty x:TypeId} {K:Y->O->Prop}
theorem bT:cZ prog 3 (.int .i64 0) 1 8:=by unfold cZ;kernel_rfl
theorem lE:cZ prog 4 (.bool false) 1 1:=by unfold cZ;kernel_rfl
theorem bEn:cZ prog 5 (.int .u8 0) 1 1:=by unfold cZ;kernel_rfl
theorem aRx:cZ prog 9 (.string ByteArray.empty) 1 16:=by unfold cZ;kernel_rfl
theorem bBv:cZ prog 21 (.int .i32 0) 1 4:=by unfold cZ;kernel_rfl
theorem bBu:cZ prog 22 (.slice none 0 0) 1 24:=by unfold cZ;kernel_rfl
theorem mR:cZ prog 23 (.slice none 0 0) 1 24:=by unfold cZ;kernel_rfl
theorem bBt:cZ prog 24 (.slice none 0 0) 1 24:=by unfold cZ;kernel_rfl
theorem bBs:cZ prog 25 (.slice none 0 0) 1 24:=by unfold cZ;kernel_rfl
theorem rU:cZ prog 27 (.agg #[(.string ByteArray.empty),(.slice none 0 0),(.slice none 0 0),(.slice none 0 0),(.slice none 0 0)]) 5 112:=by unfold cZ;kernel_rfl
theorem NI:cZ prog 31 (.slice none 0 0) 1 24:=by unfold cZ;kernel_rfl
theorem yZ:cZ prog 33 (.agg #[(.int .i64 0),(.int .i64 0),(.slice none 0 0)]) 3 40:=by unfold cZ;kernel_rfl
theorem NH:cZ prog 36 (.slice none 0 0) 1 24:=by unfold cZ;kernel_rfl
theorem yY:cZ prog 38 (.agg #[(.slice none 0 0),(.int .i64 0),(.slice none 0 0),(.slice none 0 0)]) 4 80:=by unfold cZ;kernel_rfl
theorem aIu:cZ prog 40 (.agg #[]) 0 0:=by unfold cZ;kernel_rfl
theorem NG:cZ prog 43 .nilIface 1 16:=by unfold cZ;kernel_rfl
theorem aIt:cZ prog 52 (.slice none 0 0) 1 24:=by unfold cZ;kernel_rfl
theorem HR:cZ prog 54 (.agg #[(.int .i64 0),(.int .i64 0),(.slice none 0 0)]) 3 40:=by unfold cZ;kernel_rfl
theorem rT:cZ prog 58 (.agg #[(.int .i64 0),(.int .i64 0),(.int .i64 0),(.int .i64 0),(.int .i64 0),(.int .i64 0),(.int .i64 0),(.slice none 0 0)]) 8 80:=by unfold cZ;kernel_rfl
theorem bLz:cZ prog 59 (.slice none 0 0) 1 24:=by unfold cZ;kernel_rfl
theorem yW:cZ prog 61 (.agg #[(.int .i64 0),(.int .i64 0),(.slice none 0 0),(.slice none 0 0)]) 4 64:=by unfold cZ;kernel_rfl
theorem bBr:cZ prog 66 (.slice none 0 0) 1 24:=by unfold cZ;kernel_rfl
theorem uZ:cZ prog 68 (.agg #[(.slice none 0 0),(.slice none 0 0),(.int .i64 0)]) 3 56:=by unfold cZ;kernel_rfl
theorem EH:cZ prog 72 (.agg #[(.slice none 0 0),(.int .i64 0)]) 2 32:=by unfold cZ;kernel_rfl
theorem BM:cZ prog 78 (.agg #[(.int .i64 0),(.int .i64 0)]) 2 16:=by unfold cZ;kernel_rfl
theorem BL:cZ prog 83 (.agg #[(.int .i64 0),(.int .i64 0),(.int .i64 0),(.int .i64 0),(.int .i64 0),(.int .i64 0)]) 6 48:=by unfold cZ;kernel_rfl
theorem uY:cZ prog 88 (.agg #[(.int .i64 0),(.int .i64 0),(.int .i64 0)]) 3 24:=by unfold cZ;kernel_rfl
theorem XQ:cZ prog 90 (.agg #[(.int .i64 0),(.int .i32 0)]) 2 16:=by unfold cZ;kernel_rfl
theorem bLy:cZ prog 92 (.slice none 0 0) 1 24:=by unfold cZ;kernel_rfl
theorem sJ:cZ prog 95 (.slice none 0 0) 1 24:=by unfold cZ;kernel_rfl
theorem EN:cZ prog 107 (.agg #[(.int .i64 0),(.int .i64 0)]) 2 16:=by unfold cZ;kernel_rfl
theorem EM:cZ prog 109 (.agg #[(.int .i64 0),(.int .i64 0),(.int .i64 0),(.int .i64 0)]) 4 32:=by unfold cZ;kernel_rfl
theorem EL:cZ prog 111 (.agg #[(.int .i64 0),(.int .i64 0),(.int .i64 0)]) 3 24:=by unfold cZ;kernel_rfl
theorem EK:cZ prog 113 (.agg #[(.int .i64 0),(.int .i64 0),(.int .i64 0),(.int .i64 0)]) 4 32:=by unfold cZ;kernel_rfl
theorem KC:cZ prog 115 (.agg #[(.int .i64 0)]) 1 8:=by unfold cZ;kernel_rfl
theorem KB:cZ prog 117 (.agg #[(.int .i64 0),(.int .i64 0)]) 2 16:=by unfold cZ;kernel_rfl
theorem KA:cZ prog 119 (.agg #[(.int .i64 0),(.int .i64 0)]) 2 16:=by unfold cZ;kernel_rfl
theorem JZ:cZ prog 121 (.agg #[(.int .i64 0),(.int .i64 0)]) 2 16:=by unfold cZ;kernel_rfl
theorem UL:cZ prog 123 (.agg #[(.int .i64 0),(.int .i64 0),(.int .i64 0),(.int .i64 0),(.slice none 0 0)]) 5 56:=by unfold cZ;kernel_rfl
theorem UK:cZ prog 125 (.agg #[(.int .i64 0),(.int .i64 0),(.slice none 0 0)]) 3 40:=by unfold cZ;kernel_rfl
theorem UJ:cZ prog 127 (.agg #[(.int .i64 0),(.int .i64 0),(.slice none 0 0)]) 3 40:=by unfold cZ;kernel_rfl
theorem UI:cZ prog 129 (.agg #[(.int .i64 0)]) 1 8:=by unfold cZ;kernel_rfl
theorem bEt:cZ prog 135 (.agg #[(.int .i64 0),(.int .i64 0),(.slice none 0 0),(.slice none 0 0),(.int .i64 0),(.int .i64 0),(.slice none 0 0),(.slice none 0 0),(.int .i64 0)]) 9 136:=by unfold cZ;kernel_rfl
theorem bEs:cZ prog 139 (.slice none 0 0) 1 24:=by unfold cZ;kernel_rfl
theorem qT:cZ prog 141 (.agg #[(.slice none 0 0),(.slice none 0 0),(.slice none 0 0)]) 3 72:=by unfold cZ;kernel_rfl
theorem EJ:cZ prog 146 (.agg #[(.string ByteArray.empty),(.int .i64 0),(.slice none 0 0),(.int .i64 0)]) 4 56:=by unfold cZ;kernel_rfl
theorem JY:cZ prog 151 (.int .u16 0) 1 2:=by unfold cZ;kernel_rfl
theorem bEr:cZ prog 155 (.slice none 0 0) 1 24:=by unfold cZ;kernel_rfl
theorem oB:cZ prog 157 (.agg #[(.int .i64 0),(.int .u16 0),(.slice none 0 0)]) 3 40:=by unfold cZ;kernel_rfl
theorem xH:cZ prog 180 (.agg #[(.int .i64 0),(.int .i64 0),(.int .i64 0),(.int .i64 0),(.int .i64 0),(.int .i64 0),(.int .i64 0),(.int .i64 0),(.int .i64 0),(.int .i64 0),(.int .i32 0)]) 11 88:=by unfold cZ;kernel_rfl
theorem bEq:cZ prog 195 (.agg #[(.slice none 0 0),(.slice none 0 0),(.int .i64 0),(.slice none 0 0),(.int .i64 0)]) 5 88:=by unfold cZ;kernel_rfl
theorem EI:cZ prog 197 (.agg #[(.int .i64 0),(.int .i64 0),(.int .i64 0),(.int .i64 0)]) 4 32:=by unfold cZ;kernel_rfl
theorem nR:cZ prog 210 (.agg #[(.int .i64 0),(.int .i64 0),(.int .i64 0),(.int .i64 0),(.int .i64 0),(.int .i64 0)]) 6 48:=by unfold cZ;kernel_rfl
theorem UH:cZ prog 230 (.slice none 0 0) 1 24:=by unfold cZ;kernel_rfl
theorem xG:cZ prog 232 (.agg #[(.int .i64 0),(.int .i64 0),(.int .i64 0),(.int .i64 0),(.int .i64 0),(.int .i64 0),(.int .i64 0),(.int .i64 0),(.int .i64 0),(.int .i64 0),(.int .i32 0),(.slice none 0 0),(.int .i64 0)]) 13 120:=by unfold cZ;kernel_rfl
theorem bEp:cZ prog 248 (.agg #[(.bool false),(.bool false)]) 2 2:=by unfold cZ;kernel_rfl
theorem bEo:cZ prog 263 (.agg (Array.replicate 2001 (.int .i64 0))) 2001 16008:=by unfold cZ;kernel_rfl
theorem UG:cZ prog 278 (.agg #[(.int .u8 0),(.int .u8 0)]) 2 2:=by unfold cZ;kernel_rfl
theorem aGu {b len:Nat} (h0:0<=i) (h1:i < len):(Instr.indexAt 139 (.slice (some ⟨b,off,none⟩) len cap) (.int k i)).run prog w=.ok (.pointer (some ⟨b,off+i.toNat*1,none⟩)) w:=jZ underlying139 sJ h0 h1
theorem WP {b len:Nat} (h0:0<=i) (h1:i < len):(Instr.indexAt 95 (.slice (some ⟨b,off,none⟩) len cap) (.int k i)).run prog w=.ok (.pointer (some ⟨b,off+i.toNat*1,none⟩)) w:=jZ underlying95 lE h0 h1
theorem WO {v:Y} (h:w.cell? a=some v):(Instr.loadAt 23 (.pointer (some a))).run prog w=.ok v w:=jN underlying23 rfl h
theorem aGt {v:Y} (h:w.cell? a=some v):(Instr.loadAt 3 (.pointer (some a))).run prog w=.ok v w:=jN underlying3 rfl h
theorem bDc {v:Y} (h:w.cell? a=some v):(Instr.loadAt 5 (.pointer (some a))).run prog w=.ok v w:=jN underlying5 rfl h
theorem aGr {x y:Operand} {a b:Bool}:(do eqGuard .neq 4 x y (.bool a) (.bool b);binOp .neq 4 (.bool a) (.bool b)).run prog w=.ok (.bool (a != b)) w:=GV underlying4
theorem aEx {n:Int}:V prog (convert 21 3 (.int k n)) w K↔K (.int .i64 (IntKind.wrap .i64 n)) w:=V.iff (lU underlying21 underlying3)
theorem vS {x y:Operand} {t:TypeId} {v:Y}:V prog (do eqGuard .eql 43 x y (.iface t v) .nilIface;binOp .eql 43 (.iface t v) .nilIface) w K↔K (.bool false) w:=V.iff (JI underlying43)
theorem aKq {a:Option Addr} {c:Nat}:V prog (Builtin.len_ #[139] ty #[.slice a n c]) w K↔K (.int .i64 n) w:=V.iff (wA underlying139)
theorem YZ {a:Option Addr} {c:Nat}:V prog (Builtin.len_ #[23] ty #[.slice a n c]) w K↔K (.int .i64 n) w:=V.iff (wA underlying23)
theorem aKp {x y:Operand} {a b:Bool}:V prog (do eqGuard .neq 4 x y (.bool a) (.bool b);binOp .neq 4 (.bool a) (.bool b)) w K↔K (.bool (a != b)) w:=V.iff (GV underlying4)
theorem VN {x y:Operand} {t:TypeId} {v:Y}:V prog (do eqGuard .neq 43 x y (.iface t v) .nilIface;binOp .neq 43 (.iface t v) .nilIface) w K↔K (.bool true) w:=V.iff (gY underlying43)
theorem aKo {t:TypeId} {v:Y}:V prog (Instr.typeAssert (.iface t v) x 107 true) w K↔K (if t=107 then .tuple #[v,.bool true] else .tuple #[(.agg #[(.int .i64 0),(.int .i64 0)]),.bool false]) w:=V.iff (TK underlying107 rfl EN)
theorem aKn {t:TypeId} {v:Y}:V prog (Instr.typeAssert (.iface t v) x 109 true) w K↔K (if t=109 then .tuple #[v,.bool true] else .tuple #[(.agg #[(.int .i64 0),(.int .i64 0),(.int .i64 0),(.int .i64 0)]),.bool false]) w:=V.iff (TK underlying109 rfl EM)
theorem aKm {t:TypeId} {v:Y}:V prog (Instr.typeAssert (.iface t v) x 111 true) w K↔K (if t=111 then .tuple #[v,.bool true] else .tuple #[(.agg #[(.int .i64 0),(.int .i64 0),(.int .i64 0)]),.bool false]) w:=V.iff (TK underlying111 rfl EL)
theorem aKl {t:TypeId} {v:Y}:V prog (Instr.typeAssert (.iface t v) x 113 true) w K↔K (if t=113 then .tuple #[v,.bool true] else .tuple #[(.agg #[(.int .i64 0),(.int .i64 0),(.int .i64 0),(.int .i64 0)]),.bool false]) w:=V.iff (TK underlying113 rfl EK)
theorem aKk {t:TypeId} {v:Y}:V prog (Instr.typeAssert (.iface t v) x 119 true) w K↔K (if t=119 then .tuple #[v,.bool true] else .tuple #[(.agg #[(.int .i64 0),(.int .i64 0)]),.bool false]) w:=V.iff (TK underlying119 rfl KA)
theorem aSv {t:TypeId} {v:Y}:V prog (Instr.typeAssert (.iface t v) x 90 true) w K↔K (if t=90 then .tuple #[v,.bool true] else .tuple #[(.agg #[(.int .i64 0),(.int .i32 0)]),.bool false]) w:=V.iff (TK underlying90 rfl XQ)
theorem wV:SA prog 107 2:=⟨_,_,EN,by decide⟩
theorem tO:SA prog 109 4:=⟨_,_,EM,by decide⟩
theorem uR:SA prog 111 3:=⟨_,_,EL,by decide⟩
theorem uQ:SA prog 113 4:=⟨_,_,EK,by decide⟩
theorem tN:SA prog 115 1:=⟨_,_,KC,by decide⟩
theorem tM:SA prog 117 2:=⟨_,_,KB,by decide⟩
theorem zY:SA prog 119 2:=⟨_,_,KA,by decide⟩
theorem wU:SA prog 121 2:=⟨_,_,JZ,by decide⟩
theorem DD:SA prog 123 5:=⟨_,_,UL,by decide⟩
theorem JG:SA prog 125 3:=⟨_,_,UK,by decide⟩
theorem JF:SA prog 127 3:=⟨_,_,UJ,by decide⟩
theorem TI:SA prog 129 1:=⟨_,_,UI,by decide⟩
theorem aGd:SA prog 141 3:=⟨_,_,qT,by decide⟩
theorem aGc:SA prog 146 4:=⟨_,_,EJ,by decide⟩
theorem aGb:SA prog 157 3:=⟨_,_,oB,by decide⟩
theorem TH:SA prog 180 11:=⟨_,_,xH,by decide⟩
theorem JE:SA prog 210 6:=⟨_,_,nR,by decide⟩
theorem DC:SA prog 232 13:=⟨_,_,xG,by decide⟩
theorem bBg:SA prog 27 5:=⟨_,_,rU,by decide⟩
theorem bCx:SA prog 278 2:=⟨_,_,UG,by decide⟩
theorem bBf:SA prog 33 3:=⟨_,_,yZ,by decide⟩
theorem DB:SA prog 38 4:=⟨_,_,yY,by decide⟩
theorem bBe:SA prog 40 0:=⟨_,_,aIu,by decide⟩
theorem bBd:SA prog 54 3:=⟨_,_,HR,by decide⟩
theorem bKx:SA prog 61 4:=⟨_,_,yW,by decide⟩
theorem bKw:SA prog 72 2:=⟨_,_,EH,by decide⟩
theorem LT:SA prog 78 2:=⟨_,_,BM,by decide⟩
theorem bBc:SA prog 83 6:=⟨_,_,BL,by decide⟩
theorem WL:SA prog 88 3:=⟨_,_,uY,by decide⟩
theorem aGa:SA prog 90 2:=⟨_,_,XQ,by decide⟩
theorem bKv:SA prog 95 1:=⟨_,_,sJ,by decide⟩
theorem cX:FA prog 107 0 0:=⟨λ_ _ _=>aN 3 0 underlying107 rfl bT rfl⟩
theorem cW:FA prog 107 1 1:=⟨λ_ _ _=>aN 3 1 underlying107 rfl bT rfl⟩
theorem cA:FA prog 109 0 0:=⟨λ_ _ _=>aN 3 0 underlying109 rfl bT rfl⟩
theorem cV:FA prog 109 1 1:=⟨λ_ _ _=>aN 3 1 underlying109 rfl bT rfl⟩
theorem cK:FA prog 109 2 2:=⟨λ_ _ _=>aN 3 2 underlying109 rfl bT rfl⟩
theorem cJ:FA prog 109 3 3:=⟨λ_ _ _=>aN 3 3 underlying109 rfl bT rfl⟩
theorem bZ:FA prog 111 0 0:=⟨λ_ _ _=>aN 3 0 underlying111 rfl bT rfl⟩
theorem cU:FA prog 111 1 1:=⟨λ_ _ _=>aN 3 1 underlying111 rfl bT rfl⟩
theorem cT:FA prog 111 2 2:=⟨λ_ _ _=>aN 3 2 underlying111 rfl bT rfl⟩
theorem cS:FA prog 113 0 0:=⟨λ_ _ _=>aN 3 0 underlying113 rfl bT rfl⟩
theorem cI:FA prog 113 1 1:=⟨λ_ _ _=>aN 3 1 underlying113 rfl bT rfl⟩
theorem cH:FA prog 113 2 2:=⟨λ_ _ _=>aN 3 2 underlying113 rfl bT rfl⟩
theorem cG:FA prog 113 3 3:=⟨λ_ _ _=>aN 3 3 underlying113 rfl bT rfl⟩
theorem bW:FA prog 115 0 0:=⟨λ_ _ _=>aN 3 0 underlying115 rfl bT rfl⟩
theorem cR:FA prog 117 0 0:=⟨λ_ _ _=>aN 3 0 underlying117 rfl bT rfl⟩
theorem bV:FA prog 117 1 1:=⟨λ_ _ _=>aN 3 1 underlying117 rfl bT rfl⟩
theorem dG:FA prog 119 0 0:=⟨λ_ _ _=>aN 3 0 underlying119 rfl bT rfl⟩
theorem cQ:FA prog 119 1 1:=⟨λ_ _ _=>aN 3 1 underlying119 rfl bT rfl⟩
theorem cP:FA prog 121 0 0:=⟨λ_ _ _=>aN 3 0 underlying121 rfl bT rfl⟩
theorem dF:FA prog 121 1 1:=⟨λ_ _ _=>aN 3 1 underlying121 rfl bT rfl⟩
theorem dE:FA prog 123 0 0:=⟨λ_ _ _=>aN 3 0 underlying123 rfl bT rfl⟩
theorem dL:FA prog 123 1 1:=⟨λ_ _ _=>aN 3 1 underlying123 rfl bT rfl⟩
theorem dK:FA prog 123 2 2:=⟨λ_ _ _=>aN 3 2 underlying123 rfl bT rfl⟩
theorem dJ:FA prog 123 3 3:=⟨λ_ _ _=>aN 3 3 underlying123 rfl bT rfl⟩
theorem dD:FA prog 123 4 4:=⟨λ_ _ _=>aN 23 4 underlying123 rfl mR rfl⟩
theorem dI:FA prog 125 0 0:=⟨λ_ _ _=>aN 3 0 underlying125 rfl bT rfl⟩
theorem dT:FA prog 125 1 1:=⟨λ_ _ _=>aN 3 1 underlying125 rfl bT rfl⟩
theorem dS:FA prog 125 2 2:=⟨λ_ _ _=>aN 23 2 underlying125 rfl mR rfl⟩
theorem eC:FA prog 127 0 0:=⟨λ_ _ _=>aN 3 0 underlying127 rfl bT rfl⟩
theorem eQ:FA prog 127 1 1:=⟨λ_ _ _=>aN 3 1 underlying127 rfl bT rfl⟩
theorem eB:FA prog 127 2 2:=⟨λ_ _ _=>aN 23 2 underlying127 rfl mR rfl⟩
theorem dR:FA prog 129 0 0:=⟨λ_ _ _=>aN 3 0 underlying129 rfl bT rfl⟩
theorem fB:FA prog 135 0 0:=⟨λ_ _ _=>aN 33 0 underlying135 rfl yZ rfl⟩
theorem eO:FA prog 135 1 3:=⟨λ_ _ _=>aN 72 3 underlying135 rfl EH rfl⟩
theorem fA:FA prog 135 2 5:=⟨λ_ _ _=>aN 3 5 underlying135 rfl bT rfl⟩
theorem bU:FA prog 135 3 6:=⟨λ_ _ _=>aN 68 6 underlying135 rfl uZ rfl⟩
theorem eA:FA prog 141 0 0:=⟨λ_ _ _=>aN 139 0 underlying141 rfl bEs rfl⟩
theorem dZ:FA prog 141 1 1:=⟨λ_ _ _=>aN 95 1 underlying141 rfl sJ rfl⟩
theorem dY:FA prog 141 2 2:=⟨λ_ _ _=>aN 23 2 underlying141 rfl mR rfl⟩
theorem eN:FA prog 146 0 0:=⟨λ_ _ _=>aN 9 0 underlying146 rfl aRx rfl⟩
theorem dQ:FA prog 146 1 1:=⟨λ_ _ _=>aN 3 1 underlying146 rfl bT rfl⟩
theorem bY:FA prog 146 2 2:=⟨λ_ _ _=>aN 23 2 underlying146 rfl mR rfl⟩
theorem cF:FA prog 146 3 3:=⟨λ_ _ _=>aN 3 3 underlying146 rfl bT rfl⟩
theorem eZ:FA prog 157 1 1:=⟨λ_ _ _=>aN 151 1 underlying157 rfl JY rfl⟩
theorem eM:FA prog 157 2 2:=⟨λ_ _ _=>aN 155 2 underlying157 rfl bEr rfl⟩
theorem cE:FA prog 166 0 0:=⟨λ_ _ _=>aN 27 0 underlying166 rfl rU rfl⟩
theorem dX:FA prog 166 1 5:=⟨λ_ _ _=>aN 38 5 underlying166 rfl yY rfl⟩
theorem fH:FA prog 166 2 9:=⟨λ_ _ _=>aN 23 9 underlying166 rfl mR rfl⟩
theorem dW:FA prog 166 3 10:=⟨λ_ _ _=>aN 92 10 underlying166 rfl bLy rfl⟩
theorem fS:FA prog 166 4 11:=⟨λ_ _ _=>aN 95 11 underlying166 rfl sJ rfl⟩
theorem eY:FA prog 166 5 12:=⟨λ_ _ _=>aN 95 12 underlying166 rfl sJ rfl⟩
theorem bG:FA prog 180 0 0:=⟨λ_ _ _=>aN 3 0 underlying180 rfl bT rfl⟩
theorem eX:FA prog 180 1 1:=⟨λ_ _ _=>aN 83 1 underlying180 rfl BL rfl⟩
theorem cD:FA prog 180 2 7:=⟨λ_ _ _=>aN 3 7 underlying180 rfl bT rfl⟩
theorem eJ:FA prog 180 3 8:=⟨λ_ _ _=>aN 3 8 underlying180 rfl bT rfl⟩
theorem eW:FA prog 180 4 9:=⟨λ_ _ _=>aN 3 9 underlying180 rfl bT rfl⟩
theorem fR:FA prog 180 5 10:=⟨λ_ _ _=>aN 21 10 underlying180 rfl bBv rfl⟩
theorem dC:FA prog 195 0 0:=⟨λ_ _ _=>aN 36 0 underlying195 rfl NH rfl⟩
theorem fQ:FA prog 195 1 1:=⟨λ_ _ _=>aN 23 1 underlying195 rfl mR rfl⟩
theorem gM:FA prog 195 2 2:=⟨λ_ _ _=>aN 3 2 underlying195 rfl bT rfl⟩
theorem gD:FA prog 195 3 3:=⟨λ_ _ _=>aN 23 3 underlying195 rfl mR rfl⟩
theorem iK:FA prog 195 4 4:=⟨λ_ _ _=>aN 3 4 underlying195 rfl bT rfl⟩
theorem jE:FA prog 197 0 0:=⟨λ_ _ _=>aN 3 0 underlying197 rfl bT rfl⟩
theorem dV:FA prog 197 1 1:=⟨λ_ _ _=>aN 3 1 underlying197 rfl bT rfl⟩
theorem gK:FA prog 197 2 2:=⟨λ_ _ _=>aN 3 2 underlying197 rfl bT rfl⟩
theorem jD:FA prog 197 3 3:=⟨λ_ _ _=>aN 3 3 underlying197 rfl bT rfl⟩
theorem iJ:FA prog 210 0 0:=⟨λ_ _ _=>aN 3 0 underlying210 rfl bT rfl⟩
theorem jC:FA prog 210 1 1:=⟨λ_ _ _=>aN 3 1 underlying210 rfl bT rfl⟩
theorem jB:FA prog 210 2 2:=⟨λ_ _ _=>aN 3 2 underlying210 rfl bT rfl⟩
theorem jA:FA prog 210 3 3:=⟨λ_ _ _=>aN 3 3 underlying210 rfl bT rfl⟩
theorem iZ:FA prog 210 4 4:=⟨λ_ _ _=>aN 3 4 underlying210 rfl bT rfl⟩
theorem iI:FA prog 210 5 5:=⟨λ_ _ _=>aN 3 5 underlying210 rfl bT rfl⟩
theorem bQ:FA prog 232 0 0:=⟨λ_ _ _=>aN 180 0 underlying232 rfl xH rfl⟩
theorem gC:FA prog 232 1 11:=⟨λ_ _ _=>aN 230 11 underlying232 rfl UH rfl⟩
theorem gJ:FA prog 232 2 12:=⟨λ_ _ _=>aN 3 12 underlying232 rfl bT rfl⟩
theorem eI:FA prog 248 0 0:=⟨λ_ _ _=>aN 4 0 underlying248 rfl lE rfl⟩
theorem eG:FA prog 248 1 1:=⟨λ_ _ _=>aN 4 1 underlying248 rfl lE rfl⟩
theorem kL:FA prog 278 0 0:=⟨λ_ _ _=>aN 5 0 underlying278 rfl bEn rfl⟩
theorem kK:FA prog 278 1 1:=⟨λ_ _ _=>aN 5 1 underlying278 rfl bEn rfl⟩
theorem lN:FA prog 27 0 0:=⟨λ_ _ _=>aN 9 0 underlying27 rfl aRx rfl⟩
theorem jT:FA prog 27 1 1:=⟨λ_ _ _=>aN 23 1 underlying27 rfl mR rfl⟩
theorem fP:FA prog 27 2 2:=⟨λ_ _ _=>aN 24 2 underlying27 rfl bBt rfl⟩
theorem bP:FA prog 27 3 3:=⟨λ_ _ _=>aN 25 3 underlying27 rfl bBs rfl⟩
theorem kP:FA prog 27 4 4:=⟨λ_ _ _=>aN 23 4 underlying27 rfl mR rfl⟩
theorem lM:FA prog 33 0 0:=⟨λ_ _ _=>aN 3 0 underlying33 rfl bT rfl⟩
theorem gT:FA prog 33 1 1:=⟨λ_ _ _=>aN 3 1 underlying33 rfl bT rfl⟩
theorem eR:FA prog 33 2 2:=⟨λ_ _ _=>aN 31 2 underlying33 rfl NI rfl⟩
theorem dM:FA prog 38 0 0:=⟨λ_ _ _=>aN 23 0 underlying38 rfl mR rfl⟩
theorem gG:FA prog 38 1 1:=⟨λ_ _ _=>aN 3 1 underlying38 rfl bT rfl⟩
theorem lB:FA prog 38 2 2:=⟨λ_ _ _=>aN 23 2 underlying38 rfl mR rfl⟩
theorem cC:FA prog 38 3 3:=⟨λ_ _ _=>aN 36 3 underlying38 rfl NH rfl⟩
theorem lL:FA prog 54 2 2:=⟨λ_ _ _=>aN 52 2 underlying54 rfl aIt rfl⟩
theorem oA:FA prog 58 0 0:=⟨λ_ _ _=>aN 3 0 underlying58 rfl bT rfl⟩
theorem rG:FA prog 58 1 1:=⟨λ_ _ _=>aN 3 1 underlying58 rfl bT rfl⟩
theorem qG:FA prog 58 2 2:=⟨λ_ _ _=>aN 3 2 underlying58 rfl bT rfl⟩
theorem qF:FA prog 58 3 3:=⟨λ_ _ _=>aN 3 3 underlying58 rfl bT rfl⟩
theorem qE:FA prog 58 4 4:=⟨λ_ _ _=>aN 3 4 underlying58 rfl bT rfl⟩
theorem qD:FA prog 58 5 5:=⟨λ_ _ _=>aN 3 5 underlying58 rfl bT rfl⟩
theorem qC:FA prog 58 6 6:=⟨λ_ _ _=>aN 3 6 underlying58 rfl bT rfl⟩
theorem qB:FA prog 58 7 7:=⟨λ_ _ _=>aN 23 7 underlying58 rfl mR rfl⟩
theorem rF:FA prog 61 0 0:=⟨λ_ _ _=>aN 3 0 underlying61 rfl bT rfl⟩
theorem oY:FA prog 61 2 2:=⟨λ_ _ _=>aN 59 2 underlying61 rfl bLz rfl⟩
theorem oX:FA prog 61 3 3:=⟨λ_ _ _=>aN 31 3 underlying61 rfl NI rfl⟩
theorem mK:FA prog 68 0 0:=⟨λ_ _ _=>aN 66 0 underlying68 rfl bBr rfl⟩
theorem nZ:FA prog 68 1 1:=⟨λ_ _ _=>aN 31 1 underlying68 rfl NI rfl⟩
theorem qA:FA prog 68 2 2:=⟨λ_ _ _=>aN 3 2 underlying68 rfl bT rfl⟩
theorem mJ:FA prog 72 0 0:=⟨λ_ _ _=>aN 23 0 underlying72 rfl mR rfl⟩
theorem mV:FA prog 72 1 1:=⟨λ_ _ _=>aN 3 1 underlying72 rfl bT rfl⟩
theorem mU:FA prog 83 0 0:=⟨λ_ _ _=>aN 3 0 underlying83 rfl bT rfl⟩
theorem mI:FA prog 83 1 1:=⟨λ_ _ _=>aN 3 1 underlying83 rfl bT rfl⟩
theorem rE:FA prog 83 2 2:=⟨λ_ _ _=>aN 3 2 underlying83 rfl bT rfl⟩
theorem nL:FA prog 83 3 3:=⟨λ_ _ _=>aN 3 3 underlying83 rfl bT rfl⟩
theorem mT:FA prog 83 4 4:=⟨λ_ _ _=>aN 3 4 underlying83 rfl bT rfl⟩
theorem rD:FA prog 83 5 5:=⟨λ_ _ _=>aN 3 5 underlying83 rfl bT rfl⟩
theorem aS:FA prog 88 0 0:=⟨λ_ _ _=>aN 3 0 underlying88 rfl bT rfl⟩
theorem aX:FA prog 88 1 1:=⟨λ_ _ _=>aN 3 1 underlying88 rfl bT rfl⟩
theorem lV:FA prog 88 2 2:=⟨λ_ _ _=>aN 3 2 underlying88 rfl bT rfl⟩
theorem YB:FA prog 90 0 0:=⟨λ_ _ _=>aN 3 0 underlying90 rfl bT rfl⟩
theorem YA:FA prog 90 1 1:=⟨λ_ _ _=>aN 21 1 underlying90 rfl bBv rfl⟩
theorem iD:L1 prog 139:=⟨_,underlying139,rfl⟩
theorem iY:L1 prog 151:=⟨_,underlying151,rfl⟩
theorem iN:L1 prog 155:=⟨_,underlying155,rfl⟩
theorem iX:L1 prog 201:=⟨_,underlying201,rfl⟩
theorem kT:L1 prog 21:=⟨_,underlying21,rfl⟩
theorem iW:L1 prog 219:=⟨_,underlying219,rfl⟩
theorem kZ:L1 prog 22:=⟨_,underlying22,rfl⟩
theorem iV:L1 prog 221:=⟨_,underlying221,rfl⟩
theorem iU:L1 prog 223:=⟨_,underlying223,rfl⟩
theorem bE:L1 prog 23:=⟨_,underlying23,rfl⟩
theorem jP:L1 prog 230:=⟨_,underlying230,rfl⟩
theorem iT:L1 prog 24:=⟨_,underlying24,rfl⟩
theorem dN:L1 prog 25:=⟨_,underlying25,rfl⟩
theorem aE:L1 prog 3:=⟨_,underlying3,rfl⟩
theorem kY:L1 prog 31:=⟨_,underlying31,rfl⟩
theorem hU:L1 prog 36:=⟨_,underlying36,rfl⟩
theorem oM:L1 prog 4:=⟨_,underlying4,rfl⟩
theorem BE:L1 prog 43:=⟨_,underlying43,rfl⟩
theorem bLv:L1 prog 5:=⟨_,underlying5,rfl⟩
theorem EB:L1 prog 52:=⟨_,underlying52,rfl⟩
theorem aIj:L1 prog 59:=⟨_,underlying59,rfl⟩
theorem MZ:L1 prog 66:=⟨_,underlying66,rfl⟩
theorem aIi:L1 prog 9:=⟨_,underlying9,rfl⟩
theorem HL:L1 prog 92:=⟨_,underlying92,rfl⟩
theorem oU:L1 prog 95:=⟨_,underlying95,rfl⟩
theorem sR:XA prog 139 1:=⟨_,_,_,underlying139,sJ⟩
theorem IP:XA prog 155 6:=⟨_,_,_,underlying155,nR⟩
theorem xU:XA prog 22 4:=⟨_,_,_,underlying22,EI⟩
theorem sQ:XA prog 229 13:=⟨_,_,_,underlying229,xG⟩
theorem aP:XA prog 23 1:=⟨_,_,_,underlying23,bT⟩
theorem wO:XA prog 230 6:=⟨_,_,_,underlying230,BL⟩
theorem oD:XA prog 24 4:=⟨_,_,_,underlying24,EJ⟩
theorem iF:XA prog 25 4:=⟨_,_,_,underlying25,yY⟩
theorem aFg:XA prog 280 1:=⟨_,_,_,underlying280,aRx⟩
theorem nU:XA prog 31 1:=⟨_,_,_,underlying31,NG⟩
theorem kQ:XA prog 36 3:=⟨_,_,_,underlying36,uY⟩
theorem VX:XA prog 45 5:=⟨_,_,_,underlying45,rU⟩
theorem VW:XA prog 47 1:=⟨_,_,_,underlying47,bBu⟩
theorem xT:XA prog 48 4:=⟨_,_,_,underlying48,yW⟩
theorem VV:XA prog 52 8:=⟨_,_,_,underlying52,rT⟩
theorem aFf:XA prog 59 1:=⟨_,_,_,underlying59,JY⟩
theorem xS:XA prog 66 11:=⟨_,_,_,underlying66,xH⟩
theorem pG:XA prog 92 1:=⟨_,_,_,underlying92,mR⟩
theorem hO:XA prog 95 1:=⟨_,_,_,underlying95,lE⟩
theorem bEh:∃ d z by_,Program.underlying prog 107=some d/\lZ d=true/\cZ prog 107 z 2 by_:=⟨_,_,_,underlying107,rfl,EN⟩
theorem bEg:∃ d z by_,Program.underlying prog 109=some d/\lZ d=true/\cZ prog 109 z 4 by_:=⟨_,_,_,underlying109,rfl,EM⟩
theorem bEf:∃ d z by_,Program.underlying prog 111=some d/\lZ d=true/\cZ prog 111 z 3 by_:=⟨_,_,_,underlying111,rfl,EL⟩
theorem bEe:∃ d z by_,Program.underlying prog 113=some d/\lZ d=true/\cZ prog 113 z 4 by_:=⟨_,_,_,underlying113,rfl,EK⟩
theorem bEd:∃ d z by_,Program.underlying prog 115=some d/\lZ d=true/\cZ prog 115 z 1 by_:=⟨_,_,_,underlying115,rfl,KC⟩
theorem aIh:∃ d z by_,Program.underlying prog 117=some d/\lZ d=true/\cZ prog 117 z 2 by_:=⟨_,_,_,underlying117,rfl,KB⟩
theorem bEc:∃ d z by_,Program.underlying prog 121=some d/\lZ d=true/\cZ prog 121 z 2 by_:=⟨_,_,_,underlying121,rfl,JZ⟩
theorem UB:∃ d z by_,Program.underlying prog 141=some d/\lZ d=true/\cZ prog 141 z 3 by_:=⟨_,_,_,underlying141,rfl,qT⟩
theorem JV:∃ d z by_,Program.underlying prog 146=some d/\lZ d=true/\cZ prog 146 z 4 by_:=⟨_,_,_,underlying146,rfl,EJ⟩
theorem bEb:∃ d z by_,Program.underlying prog 157=some d/\lZ d=true/\cZ prog 157 z 3 by_:=⟨_,_,_,underlying157,rfl,oB⟩
theorem sU:∃ d z by_,Program.underlying prog 180=some d/\lZ d=true/\cZ prog 180 z 11 by_:=⟨_,_,_,underlying180,rfl,xH⟩
theorem bEa:∃ d z by_,Program.underlying prog 197=some d/\lZ d=true/\cZ prog 197 z 4 by_:=⟨_,_,_,underlying197,rfl,EI⟩
theorem fM:∃ d z by_,Program.underlying prog 210=some d/\lZ d=true/\cZ prog 210 z 6 by_:=⟨_,_,_,underlying210,rfl,nR⟩
theorem AK:∃ d z by_,Program.underlying prog 232=some d/\lZ d=true/\cZ prog 232 z 13 by_:=⟨_,_,_,underlying232,rfl,xG⟩
theorem kJ:∃ d z by_,Program.underlying prog 27=some d/\lZ d=true/\cZ prog 27 z 5 by_:=⟨_,_,_,underlying27,rfl,rU⟩
theorem bDz:∃ d z by_,Program.underlying prog 278=some d/\lZ d=true/\cZ prog 278 z 2 by_:=⟨_,_,_,underlying278,rfl,UG⟩
theorem qY:∃ d z by_,Program.underlying prog 33=some d/\lZ d=true/\cZ prog 33 z 3 by_:=⟨_,_,_,underlying33,rfl,yZ⟩
theorem nW:∃ d z by_,Program.underlying prog 38=some d/\lZ d=true/\cZ prog 38 z 4 by_:=⟨_,_,_,underlying38,rfl,yY⟩
theorem bLu:∃ d z by_,Program.underlying prog 54=some d/\lZ d=true/\cZ prog 54 z 3 by_:=⟨_,_,_,underlying54,rfl,HR⟩
theorem XM:∃ d z by_,Program.underlying prog 58=some d/\lZ d=true/\cZ prog 58 z 8 by_:=⟨_,_,_,underlying58,rfl,rT⟩
theorem bLt:∃ d z by_,Program.underlying prog 61=some d/\lZ d=true/\cZ prog 61 z 4 by_:=⟨_,_,_,underlying61,rfl,yW⟩
theorem bLs:∃ d z by_,Program.underlying prog 68=some d/\lZ d=true/\cZ prog 68 z 3 by_:=⟨_,_,_,underlying68,rfl,uZ⟩
theorem aIg:∃ d z by_,Program.underlying prog 72=some d/\lZ d=true/\cZ prog 72 z 2 by_:=⟨_,_,_,underlying72,rfl,EH⟩
theorem qX:∃ d z by_,Program.underlying prog 83=some d/\lZ d=true/\cZ prog 83 z 6 by_:=⟨_,_,_,underlying83,rfl,BL⟩
theorem gS:∃ d z by_,Program.underlying prog 88=some d/\lZ d=true/\cZ prog 88 z 3 by_:=⟨_,_,_,underlying88,rfl,uY⟩
theorem bB:XE prog 23 3 8:=⟨_,underlying23,bT,rfl⟩
theorem bCk:XE prog 280 9 16:=⟨_,underlying280,aRx,rfl⟩
theorem aFe:XE prog 31 43 16:=⟨_,underlying31,NG,rfl⟩
theorem bKn:XE prog 47 22 24:=⟨_,underlying47,bBu,rfl⟩
theorem aFd:XE prog 59 151 2:=⟨_,underlying59,JY,rfl⟩
theorem bKm:XE prog 92 23 24:=⟨_,underlying92,mR,rfl⟩
theorem aFc:XE prog 95 4 1:=⟨_,underlying95,lE,rfl⟩
theorem bD:TA prog 107:=TA.mk' underlying107 rfl EN
theorem dA:TA prog 109:=TA.mk' underlying109 rfl EM
theorem dP:TA prog 111:=TA.mk' underlying111 rfl EL
theorem eV:TA prog 113:=TA.mk' underlying113 rfl EK
theorem eE:TA prog 115:=TA.mk' underlying115 rfl KC
theorem eU:TA prog 117:=TA.mk' underlying117 rfl KB
theorem fX:TA prog 119:=TA.mk' underlying119 rfl KA
theorem fW:TA prog 121:=TA.mk' underlying121 rfl JZ
theorem iM:TA prog 123:=TA.mk' underlying123 rfl UL
theorem iQ:TA prog 125:=TA.mk' underlying125 rfl UK
theorem jM:TA prog 127:=TA.mk' underlying127 rfl UJ
theorem kM:TA prog 129:=TA.mk' underlying129 rfl UI
theorem nV:TA prog 40:=TA.mk' underlying40 rfl aIu
theorem kR:TA prog 90:=TA.mk' underlying90 rfl XQ
theorem VI:BD prog 107 [(.int .i64 0),(.int .i64 0)]:=⟨_,_,underlying107,EN,λw=>by kernel_rfl⟩
theorem qU:BD prog 109 [(.int .i64 0),(.int .i64 0),(.int .i64 0),(.int .i64 0)]:=⟨_,_,underlying109,EM,λw=>by kernel_rfl⟩
theorem VH:BD prog 111 [(.int .i64 0),(.int .i64 0),(.int .i64 0)]:=⟨_,_,underlying111,EL,λw=>by kernel_rfl⟩
theorem bGb:BD prog 113 [(.int .i64 0),(.int .i64 0),(.int .i64 0),(.int .i64 0)]:=⟨_,_,underlying113,EK,λw=>by kernel_rfl⟩
theorem bGa:BD prog 115 [(.int .i64 0)]:=⟨_,_,underlying115,KC,λw=>by kernel_rfl⟩
theorem bFz:BD prog 117 [(.int .i64 0),(.int .i64 0)]:=⟨_,_,underlying117,KB,λw=>by kernel_rfl⟩
theorem bFy:BD prog 119 [(.int .i64 0),(.int .i64 0)]:=⟨_,_,underlying119,KA,λw=>by kernel_rfl⟩
theorem bFx:BD prog 121 [(.int .i64 0),(.int .i64 0)]:=⟨_,_,underlying121,JZ,λw=>by kernel_rfl⟩
theorem bFw:BD prog 123 [(.int .i64 0),(.int .i64 0),(.int .i64 0),(.int .i64 0),(.slice none 0 0)]:=⟨_,_,underlying123,UL,λw=>by kernel_rfl⟩
theorem bFv:BD prog 125 [(.int .i64 0),(.int .i64 0),(.slice none 0 0)]:=⟨_,_,underlying125,UK,λw=>by kernel_rfl⟩
theorem bFu:BD prog 127 [(.int .i64 0),(.int .i64 0),(.slice none 0 0)]:=⟨_,_,underlying127,UJ,λw=>by kernel_rfl⟩
theorem bFt:BD prog 129 [(.int .i64 0)]:=⟨_,_,underlying129,UI,λw=>by kernel_rfl⟩
theorem AQ:BD prog 141 [(.slice none 0 0),(.slice none 0 0),(.slice none 0 0)]:=⟨_,_,underlying141,qT,λw=>by kernel_rfl⟩
theorem aKa:BD prog 146 [(.string ByteArray.empty),(.int .i64 0),(.slice none 0 0),(.int .i64 0)]:=⟨_,_,underlying146,EJ,λw=>by kernel_rfl⟩
theorem KM:BD prog 157 [(.int .i64 0),(.int .u16 0),(.slice none 0 0)]:=⟨_,_,underlying157,oB,λw=>by kernel_rfl⟩
theorem bFs:BD prog 195 [(.slice none 0 0),(.slice none 0 0),(.int .i64 0),(.slice none 0 0),(.int .i64 0)]:=⟨_,_,underlying195,bEq,λw=>by kernel_rfl⟩
theorem aJz:BD prog 210 [(.int .i64 0),(.int .i64 0),(.int .i64 0),(.int .i64 0),(.int .i64 0),(.int .i64 0)]:=⟨_,_,underlying210,nR,λw=>by kernel_rfl⟩
theorem bFr:BD prog 248 [(.bool false),(.bool false)]:=⟨_,_,underlying248,bEp,λw=>by kernel_rfl⟩
theorem bCd:BD prog 27 [(.string ByteArray.empty),(.slice none 0 0),(.slice none 0 0),(.slice none 0 0),(.slice none 0 0)]:=⟨_,_,underlying27,rU,λw=>by kernel_rfl⟩
theorem bCc:BD prog 33 [(.int .i64 0),(.int .i64 0),(.slice none 0 0)]:=⟨_,_,underlying33,yZ,λw=>by kernel_rfl⟩
theorem YS:BD prog 38 [(.slice none 0 0),(.int .i64 0),(.slice none 0 0),(.slice none 0 0)]:=⟨_,_,underlying38,yY,λw=>by kernel_rfl⟩
theorem bMh:BD prog 40 []:=⟨_,_,underlying40,aIu,λw=>by kernel_rfl⟩
theorem bMg:BD prog 54 [(.int .i64 0),(.int .i64 0),(.slice none 0 0)]:=⟨_,_,underlying54,HR,λw=>by kernel_rfl⟩
theorem hY:BD prog 58 [(.int .i64 0),(.int .i64 0),(.int .i64 0),(.int .i64 0),(.int .i64 0),(.int .i64 0),(.int .i64 0),(.slice none 0 0)]:=⟨_,_,underlying58,rT,λw=>by kernel_rfl⟩
theorem bMf:BD prog 61 [(.int .i64 0),(.int .i64 0),(.slice none 0 0),(.slice none 0 0)]:=⟨_,_,underlying61,yW,λw=>by kernel_rfl⟩
theorem bMe:BD prog 72 [(.slice none 0 0),(.int .i64 0)]:=⟨_,_,underlying72,EH,λw=>by kernel_rfl⟩
theorem IA:BD prog 78 [(.int .i64 0),(.int .i64 0)]:=⟨_,_,underlying78,BM,λw=>by kernel_rfl⟩
theorem qN:BD prog 83 [(.int .i64 0),(.int .i64 0),(.int .i64 0),(.int .i64 0),(.int .i64 0),(.int .i64 0)]:=⟨_,_,underlying83,BL,λw=>by kernel_rfl⟩
theorem OC:BD prog 88 [(.int .i64 0),(.int .i64 0),(.int .i64 0)]:=⟨_,_,underlying88,uY,λw=>by kernel_rfl⟩
theorem YR:BD prog 90 [(.int .i64 0),(.int .i32 0)]:=⟨_,_,underlying90,XQ,λw=>by kernel_rfl⟩
theorem JO:MI prog 107:=⟨_,underlying107,rfl⟩
theorem pL:MI prog 109:=⟨_,underlying109,rfl⟩
theorem JN:MI prog 111:=⟨_,underlying111,rfl⟩
theorem aHu:MI prog 113:=⟨_,underlying113,rfl⟩
theorem aHt:MI prog 115:=⟨_,underlying115,rfl⟩
theorem TX:MI prog 117:=⟨_,underlying117,rfl⟩
theorem bDv:MI prog 119:=⟨_,underlying119,rfl⟩
theorem aHs:MI prog 121:=⟨_,underlying121,rfl⟩
theorem bDu:MI prog 123:=⟨_,underlying123,rfl⟩
theorem bDt:MI prog 125:=⟨_,underlying125,rfl⟩
theorem bDs:MI prog 127:=⟨_,underlying127,rfl⟩
theorem bDr:MI prog 129:=⟨_,underlying129,rfl⟩
theorem bLo:MI prog 40:=⟨_,underlying40,rfl⟩
theorem XJ:MI prog 90:=⟨_,underlying90,rfl⟩
end Go.Proofs.YtjcmcfidblhnnaaGreatDoor
