/- The laws of single operations in the calculus of verification conditions, over any program; readings of slices; what a call leaves as it was. -/
import Derived.Test.YtgkkecladbmjkaaGreatDoorZa
import Derived.OwnWalk
import Derived.Below
import Derived.ArgAppend
import Derived.Test.YtgkkecladbmjkaaGreatDoorProg
import Derived.KernelRfl
set_option linter.unusedSimpArgs false
namespace Go.Vc
abbrev i64 (n:Int):Z:=.int .i64 n
abbrev i32 (n:Int):Z:=.int .i32 n
abbrev vb (b:Bool):Z:=.bool b
abbrev cM:Z:=.slice none 0 0
abbrev gB (w w':O) (r:Option Nat):Prop:=w.grownBy w' r
section
variable {P:Program} {w:O} {K:Z->O->Prop}
theorem V.iff {s:Sem Z} {v:Z} {w':O} (h:s.run P w=.ok v w'):V P s w K↔K v w':=
 ⟨λ⟨_,_,h',hk⟩=>by rw [h] at h';cases h';exact hk,λhk=>⟨v,w',h,hk⟩⟩
theorem U.iff {s:Sem Unit} {w':O} (h:s.run P w=.ok () w'):U P s w K↔K undef w':=
 ⟨λ⟨_,h',hk⟩=>by rw [h] at h';cases h';exact hk,λhk=>⟨w',h,hk⟩⟩
theorem V.ok {s:Sem Z} {v:Z} {w':O} (h:s.run P w=.ok v w') (hk:K v w'):V P s w K:=⟨v,w',h,hk⟩
theorem U.ok {s:Sem Unit} {w':O} (h:s.run P w=.ok () w') (hk:K undef w'):U P s w K:=⟨w',h,hk⟩
theorem aB.mono {f:FuncId} {args:Array Z} {R:Z->O->Prop} (h:aB P f args w R) (hk:∀ v w',R v w'->K v w'):aB P f args w K:=
 ⟨⟨h.ex.1,Calls.mono h.ex.2 λ_ _ ⟨v,he,hr⟩=>⟨v,he,hk v _ hr⟩⟩⟩
theorem aB.of_calls {f:FuncId} {fn:Func} {c:Code} {args:Array Z} (hf:P.funcs[f]?=some fn) (hname:(fn.name == "runtime.NumGoroutine")=false) (hb:fn.body=some c)
  (h:Calls P f args w λe w'=>∃ v,e=.returned v/\K v w'):aB P f args w K:=by
 refine ⟨⟨λargs w=>?_,h⟩⟩;have hname':¬ fn.name = "runtime.NumGoroutine" := by simpa using hname
 simp [callFunc,program,Sem.run,hf,hname',hb]
theorem aMt {P:Program} {f:FuncId} {fn:Func} {args:List Z} {w:O} {R:Z->O->Prop} {D:Prop} (hm:P.follows .mixedOrders=true) (ann:zQ) (hf:P.funcs[f]?=some fn)
  (hb:(!(fn.name == "runtime.NumGoroutine")&&fn.body.isSome&&(ok fn.ntmps ann (fn.body.getD .skip)&&AX fn.ntmps fn.results.toList&&Nat.ble args.length fn.ntmps))=true)
  (hD:D=vc P ann (fn.body.getD .skip) (aKm P fn.results.toList R) (sP args) w) (h:D):aB P f args.toArray w R:=by
 simp only [Bool.and_eq_true,Bool.not_eq_true'] at hb;obtain ⟨⟨h1,h2⟩,h3,h4⟩:=hb
 have hbody:fn.body=some (fn.body.getD .skip):=by
  cases e:fn.body with
  | none=>rw [e] at h2;cases h2
  | some c=>rfl
 refine aB.of_calls hf h1 hbody (GW ann hm hf hbody (by simp only [Bool.and_eq_true];exact ⟨h3,h4⟩) (hD▸h))
theorem aH.mk {b:Bool} {x y:Prop} (h1:b=true->x) (h2:b=false->y):aH (.bool b) x y:=⟨b,rfl,h1,h2⟩
theorem aS {x y:Prop}:aH (.bool true) x y↔x:=⟨λ⟨b,h,h1,_⟩=>by cases h;exact h1 rfl,λh=>⟨true,rfl,λ_=>h,λh=>by cases h⟩⟩
theorem aD {x y:Prop}:aH (.bool false) x y↔y:=⟨λ⟨b,h,_,h2⟩=>by cases h;exact h2 rfl,λh=>⟨false,rfl,(λh=>by cases h),λ_=>h⟩⟩
theorem aK {p:Prop} [Decidable p] {x y:Prop} (h1:p->x) (h2:¬ p->y):aH (.bool (decide p)) x y:=
 ⟨_,rfl,λh=>h1 (of_decide_eq_true h),λh=>h2 (of_decide_eq_false h)⟩
theorem tF {b:Bool} {x y:Z} {L:Z->Prop} (h:L (if b then x else y)):aG (.bool b) x y L:=⟨b,rfl,h⟩
theorem bR {b:Bool} {x y:Z} {L:Z->Prop}:aG (.bool b) x y L↔L (if b then x else y):=⟨λ⟨_,h,hk⟩=>by cases h;exact hk,tF⟩
theorem mQ {b want:Bool} {step:(Z->O->Prop)->Prop}:gd (.bool b) want step w K↔if b=want then step K else K undef w:=by
 constructor
 ·rintro ⟨h1,h2⟩;split
  ·rename_i hb;exact h1 (by rw [hb])
  ·rename_i hb;exact h2 (by simpa using hb)
 ·intro h;by_cases hb:b=want
  ·rw [if_pos hb] at h;exact ⟨λ_=>h,λh'=>absurd (by rw [hb]) h'⟩
  ·rw [if_neg hb] at h;exact ⟨λh'=>absurd (by simpa using h') hb,λ_=>h⟩
theorem vW {b want:Bool} {step:(Z->Prop)->Prop} {L:Z->Prop}:GP (.bool b) want step L↔if b=want then step L else L undef:=by
 constructor
 ·rintro ⟨h1,h2⟩;split
  ·rename_i hb;exact h1 (by rw [hb])
  ·rename_i hb;exact h2 (by simpa using hb)
 ·intro h;by_cases hb:b=want
  ·rw [if_pos hb] at h;exact ⟨λ_=>h,λh'=>absurd (by rw [hb]) h'⟩
  ·rw [if_neg hb] at h;exact ⟨λh'=>absurd (by simpa using h') hb,λ_=>h⟩
theorem yD {want:Bool} {step:(Z->O->Prop)->Prop}:gd undef want step w K↔K undef w:=
 ⟨λ⟨_,h2⟩=>h2 (by simp [undef]),λh=>⟨λh'=>by simp [undef] at h',λ_=>h⟩⟩
theorem TX {want:Bool} {step:(Z->Prop)->Prop} {L:Z->Prop}:GP undef want step L↔L undef:=
 ⟨λ⟨_,h2⟩=>h2 (by simp [undef]),λh=>⟨λh'=>by simp [undef] at h',λ_=>h⟩⟩
theorem rJ {step:(Z->O->Prop)->Prop}:gd (.bool true) true step w K↔step K:=by rw [mQ];simp
theorem mK {step:(Z->O->Prop)->Prop}:gd (.bool false) false step w K↔step K:=by rw [mQ];simp
theorem yE {step:(Z->O->Prop)->Prop}:gd (.bool true) false step w K↔K undef w:=by rw [mQ];simp
theorem QC {step:(Z->O->Prop)->Prop}:gd (.bool false) true step w K↔K undef w:=by rw [mQ];simp
theorem aRp {step:(Z->Prop)->Prop} {L:Z->Prop}:GP (.bool true) true step L↔step L:=by rw [vW];simp
theorem aRq {step:(Z->Prop)->Prop} {L:Z->Prop}:GP (.bool false) false step L↔step L:=by rw [vW];simp
theorem aMf {step:(Z->Prop)->Prop} {L:Z->Prop}:GP (.bool true) false step L↔L undef:=by rw [vW];simp
theorem aMg {step:(Z->Prop)->Prop} {L:Z->Prop}:GP (.bool false) true step L↔L undef:=by rw [vW];simp
theorem aJ.mk' {body:(O->Prop)->O->Prop} (S:O->Prop) (hS:S w.drew) (h:body S w.drew):aJ w body:=⟨S,hS,h⟩
theorem aC.ok {S:O->Prop} {s:Sem Z} {v:Z} {L:Z->Prop} (h:∀ w,S w->s.run P w=.ok v w) (hk:L v):aC P S s L:=⟨v,h,hk⟩
end
theorem EZ {P:Program} {w:O} {k:IntKind} {t:TypeId} {a b:Int}:(binOp .lss t (.int k a) (.int k b)).run P w=.ok (.bool (decide (a < b))) w:=by simp [binOp,Op.intCmp]
theorem bP {P:Program} {w:O} {K:Z->O->Prop} {k:IntKind} {t:TypeId} {a b:Int}:V P (binOp .lss t (.int k a) (.int k b)) w K↔K (.bool (decide (a < b))) w:=V.iff (by exact EZ )
theorem aQr {P:Program} {w:O} {k:IntKind} {t:TypeId} {a b:Int}:(binOp .leq t (.int k a) (.int k b)).run P w=.ok (.bool (decide (a<=b))) w:=by simp [binOp,Op.intCmp]
theorem rQ {P:Program} {w:O} {K:Z->O->Prop} {k:IntKind} {t:TypeId} {a b:Int}:V P (binOp .leq t (.int k a) (.int k b)) w K↔K (.bool (decide (a<=b))) w:=V.iff (by exact aQr )
theorem aQt {P:Program} {w:O} {k:IntKind} {t:TypeId} {a b:Int}:(binOp .gtr t (.int k a) (.int k b)).run P w=.ok (.bool (decide (a > b))) w:=by simp [binOp,Op.intCmp]
theorem jJ {P:Program} {w:O} {K:Z->O->Prop} {k:IntKind} {t:TypeId} {a b:Int}:V P (binOp .gtr t (.int k a) (.int k b)) w K↔K (.bool (decide (a > b))) w:=V.iff (by exact aQt )
theorem aIx {P:Program} {w:O} {k:IntKind} {t:TypeId} {a b:Int}:(binOp .geq t (.int k a) (.int k b)).run P w=.ok (.bool (decide (a>=b))) w:=by simp [binOp,Op.intCmp]
theorem jU {P:Program} {w:O} {K:Z->O->Prop} {k:IntKind} {t:TypeId} {a b:Int}:V P (binOp .geq t (.int k a) (.int k b)) w K↔K (.bool (decide (a>=b))) w:=V.iff (by exact aIx )
theorem AO {P:Program} {w:O} {k:IntKind} {t:TypeId} {a b:Int}:(binOp .add t (.int k a) (.int k b)).run P w=.ok (.int k (k.wrap (a+b))) w:=by simp [binOp,Op.intArith]
theorem dS {P:Program} {w:O} {K:Z->O->Prop} {k:IntKind} {t:TypeId} {a b:Int}:V P (binOp .add t (.int k a) (.int k b)) w K↔K (.int k (k.wrap (a+b))) w:=V.iff (by exact AO )
theorem fJ {P:Program} {w:O} {k:IntKind} {t:TypeId} {a b:Int}:(binOp .sub t (.int k a) (.int k b)).run P w=.ok (.int k (k.wrap (a - b))) w:=by simp [binOp,Op.intArith]
theorem iL {P:Program} {w:O} {K:Z->O->Prop} {k:IntKind} {t:TypeId} {a b:Int}:V P (binOp .sub t (.int k a) (.int k b)) w K↔K (.int k (k.wrap (a - b))) w:=V.iff (by exact fJ )
theorem WE {P:Program} {w:O} {k:IntKind} {t:TypeId} {a b:Int}:(binOp .mul t (.int k a) (.int k b)).run P w=.ok (.int k (k.wrap (a*b))) w:=by simp [binOp,Op.intArith]
theorem aJq {P:Program} {w:O} {K:Z->O->Prop} {k:IntKind} {t:TypeId} {a b:Int}:V P (binOp .mul t (.int k a) (.int k b)) w K↔K (.int k (k.wrap (a*b))) w:=V.iff (by exact WE )
theorem WB {P:Program} {w:O} {k:IntKind} {t:TypeId} {a b:Int} (h:b≠0):(binOp .quo t (.int k a) (.int k b)).run P w=.ok (.int k (k.wrap (a.tdiv b))) w:=by simp [binOp,Op.intDiv,h]
theorem ZQ {P:Program} {w:O} {K:Z->O->Prop} {k:IntKind} {t:TypeId} {a b:Int} (h:b≠0):V P (binOp .quo t (.int k a) (.int k b)) w K↔K (.int k (k.wrap (a.tdiv b))) w:=V.iff (by exact WB h)
theorem aQq {P:Program} {w:O} {k:IntKind} {t:TypeId} {a b:Int} (h:b≠0):(binOp .rem t (.int k a) (.int k b)).run P w=.ok (.int k (a.tmod b)) w:=by simp [binOp,Op.intDiv,h]
theorem CU {P:Program} {w:O} {k:IntKind} {t:TypeId} {x y:Operand} {a b:Int}:(do eqGuard .eql t x y (.int k a) (.int k b);binOp .eql t (.int k a) (.int k b)).run P w=.ok (.bool (decide (a=b))) w:=by simp [eqGuard,binOp,Op.intCmp];rfl
theorem aO {P:Program} {w:O} {K:Z->O->Prop} {k:IntKind} {t:TypeId} {x y:Operand} {a b:Int}:V P (do eqGuard .eql t x y (.int k a) (.int k b);binOp .eql t (.int k a) (.int k b)) w K↔K (.bool (decide (a=b))) w:=V.iff (by exact CU )
theorem CT {P:Program} {w:O} {k:IntKind} {t:TypeId} {x y:Operand} {a b:Int}:(do eqGuard .neq t x y (.int k a) (.int k b);binOp .neq t (.int k a) (.int k b)).run P w=.ok (.bool (decide (a≠b))) w:=by simp [eqGuard,binOp,Op.intCmp,bne];rfl
theorem dZ {P:Program} {w:O} {K:Z->O->Prop} {k:IntKind} {t:TypeId} {x y:Operand} {a b:Int}:V P (do eqGuard .neq t x y (.int k a) (.int k b);binOp .neq t (.int k a) (.int k b)) w K↔K (.bool (decide (a≠b))) w:=V.iff (by exact CT )
theorem uU {P:Program} {w:O} {b:Bool}:(Op.unary .not (.bool b)).run P w=.ok (.bool (!b)) w:=by simp [Op.unary]
theorem gG {P:Program} {w:O} {K:Z->O->Prop} {b:Bool}:V P (Op.unary .not (.bool b)) w K↔K (.bool (!b)) w:=V.iff (by exact uU )
theorem WD {P:Program} {w:O} {k:IntKind} {a:Int}:(Op.unary .neg (.int k a)).run P w=.ok (.int k (k.wrap (0 - a))) w:=by simp [Op.unary,Op.intArith]
theorem lS {P:Program} {w:O} {a b:Z}:(Instr.extract (.tuple #[a,b]) 0).run P w=.ok a w:=by simp [Instr.extract]
theorem gM {P:Program} {w:O} {K:Z->O->Prop} {a b:Z}:V P (Instr.extract (.tuple #[a,b]) 0) w K↔K a w:=V.iff (by exact lS )
theorem lR {P:Program} {w:O} {a b:Z}:(Instr.extract (.tuple #[a,b]) 1).run P w=.ok b w:=by simp [Instr.extract]
theorem gL {P:Program} {w:O} {K:Z->O->Prop} {a b:Z}:V P (Instr.extract (.tuple #[a,b]) 1) w K↔K b w:=V.iff (by exact lR )
theorem iF {n:Int} (h1:-9223372036854775808<=n) (h2:n<=9223372036854775807):IntKind.i64.wrap n=n:=by
 simp only [IntKind.wrap_i64];omega
theorem aU {n:Int} (h:-9223372036854775808<=n/\n<=9223372036854775807):IntKind.i64.wrap n=n:=iF h.1 h.2
def fH (P:Program) (t:TypeId) (z:Z) (n bytes:Nat):Prop:=(P.info? t).map (λi=>(i.zero,i.size,i.bytes))=some (some z,n,bytes)
section
variable {P:Program} {w:O} {K:Z->O->Prop}
theorem oS {t:TypeId} {z:Z} {n b:Nat} (h:fH P t z n b):(zeroValue t).run P w=.ok z w:=by
 obtain ⟨i,hi,hz,_⟩:=info_parts h;simp [zeroValue,typeInfo,hi,hz]
theorem gQ {t:TypeId} {z:Z} {n b:Nat} (h:fH P t z n b):(sizeOf t).run P w=.ok n w:=by
 obtain ⟨i,hi,_,hn,_⟩:=info_parts h;simp [sizeOf,typeInfo,hi,hn]
theorem lU {s e ty:TypeId} (hs:P.underlying s=some (.slice e)) {a:Option Addr} {n c:Nat}:(Builtin.len_ #[s] ty #[.slice a n c]).run P w=.ok (.int .i64 n) w:=by
 simp [Builtin.len_,run_underlying hs,goInt]
def PI:TypeDesc->Bool
 | .interface _=>false
 | _=>true
theorem zS {x u:TypeId} {d:TypeDesc} {z:Z} {n b:Nat} (hu:P.underlying u=some d) (hd:PI d=true) (hz:fH P u z n b) {t:TypeId} {v:Z} :
  (Instr.typeAssert (.iface t v) x u true).run P w=.ok (if t=u then .tuple #[v,.bool true] else .tuple #[z,.bool false]) w:=by
 cases d with
 | interface _=>cases hd
 | _=>simp only [Instr.typeAssert,Sem.run_bind,run_underlying hu,Result.andThen_ok]<;>(split<;>simp [*,oS hz])
theorem aBe {x u:TypeId} {d:TypeDesc} {z:Z} {n b:Nat} (hu:P.underlying u=some d) (hd:PI d=true) (hz:fH P u z n b) :
  (Instr.typeAssert .nilIface x u true).run P w=.ok (.tuple #[z,.bool false]) w:=by
 cases d with
 | interface _=>cases hd
 | _=>simp [Instr.typeAssert,run_underlying hu,oS hz]
theorem PC {t:TypeId} {z:Z} {n b:Nat} (hz:fH P t z n b):(Instr.alloc t true (.tuple #[])).run P w=.ok (.pointer (some ⟨w.heap.size,0,none⟩)) (w.alloc (.cells z.cells t)):=by
 simp [Instr.alloc,oS hz,newVar,newRow,newObj,Sem.run]
theorem aIy {t:TypeId} {v:Z}:(Instr.box t v).run P w=.ok (.pointer (some ⟨w.heap.size,0,none⟩)) (w.alloc (.cells v.cells t)):=by
 simp [Instr.box,newVar,newRow,newObj,Sem.run]
theorem jQ (b off n:Nat):(⟨b,off,none⟩:Addr).add n=⟨b,off+n,none⟩:=by
 unfold Addr.add;split
 ·rename_i h;subst h;rfl
 ·rfl
theorem aP {s:TypeId} {fs:Array Field} {f:Nat} (ft:TypeId) (o:Nat) {z:Z} {n by_:Nat} (hs:P.underlying s=some (.struct fs)) (hf:(fs[f]?).map (λfd=>(fd.type,fd.offset))=some (ft,o)) (hi:fH P ft z n by_) (hn:(n == 0)=false) {b off:Nat} :
  (Instr.fieldAt s (.pointer (some ⟨b,off,none⟩)) f).run P w=.ok (.pointer (some ⟨b,off+o,none⟩)) w:=by
 obtain ⟨fd,hfd,he⟩:=Option.map_eq_some_iff.1 hf;simp only [Prod.mk.injEq] at he;obtain ⟨rfl,rfl⟩:=he;have hn':n≠0:=by simpa using hn
 simp [Instr.fieldAt,run_underlying hs,hfd,Instr.sureAddr,fieldPlace,gQ hi,hn',jQ]
theorem iG {t e:TypeId} {z:Z} {n by_:Nat} (ht:P.underlying t=some (.slice e)) (hi:fH P e z n by_) {b off len cap:Nat} {k:IntKind} {i:Int} (h0:0<=i) (h1:i < len) :
  (Instr.indexAt t (.slice (some ⟨b,off,none⟩) len cap) (.int k i)).run P w=.ok (.pointer (some ⟨b,off+i.toNat*n,none⟩)) w:=by
 simp [Instr.indexAt,asIntOf,run_underlying ht,h0,h1,gQ hi,jQ]
def nG:TypeDesc->Bool
 | .struct _|.array _ _=>true
 | _=>false
theorem uB {t:TypeId} {d:TypeDesc} (ht:P.underlying t=some d):(isAgg t).run P w=.ok (nG d) w:=by
 cases d<;>simp [isAgg,run_underlying ht,nG]
theorem kH {t:TypeId} {d:TypeDesc} (ht:P.underlying t=some d) (hd:nG d=false) {a:Addr} {v:Z} (h:w.cell? a=some v) :
  (Instr.loadAt t (.pointer (some a))).run P w=.ok v w:=by
 simp [Instr.loadAt,Instr.sureAddr,loadVar,uB ht,hd,load,Sem.run,h]
theorem tD {b off:Nat} (cs:List Z):∀ (l:List Z) (i:Nat) (acc:Array Z),(∀ j (_:j < l.length),w.cell? ⟨b,off+(i+j),none⟩=l[j]?) ->
  (loadCellsFrom ⟨b,off,none⟩ i l.length acc).run P w=.ok (acc++l.toArray) w
 | [],_,acc,_=>by simp [loadCellsFrom]
 | v::l,i,acc,h=>by
  have h0:=h 0 (by simp);simp only [Nat.add_zero,List.getElem?_cons_zero] at h0;simp only [List.length_cons,loadCellsFrom,load,jQ,Sem.run_bind,Sem.run,h0,Result.andThen_ok]
  rw [tD cs l (i+1) (acc.push v) (λj hj=>by
   have:=h (j+1) (by simp;omega);rw [show i+1+j=i+(j+1) from by omega];simpa using this)]
  simp
theorem kZ {t:TypeId} {d:TypeDesc} {z:Z} {n by_:Nat} (ht:P.underlying t=some d) (hd:nG d=true) (hi:fH P t z n by_) {b off:Nat} {cs:List Z} (hl:cs.length=n)
  (h:∀ j (_:j < cs.length),w.cell? ⟨b,off+j,none⟩=cs[j]?):(Instr.loadAt t (.pointer (some ⟨b,off,none⟩))).run P w=.ok (.agg cs.toArray) w:=by
 subst hl;have:=tD (P:=P) (w:=w) (b:=b) (off:=off) cs cs 0 #[] (by simpa using h);simp [Instr.loadAt,Instr.sureAddr,loadVar,uB ht,hd,gQ hi,loadCells,this]
def gO:Z->Bool
 | .agg _|.tuple _=>false
 | _=>true
theorem sG {v:Z} (h:gO v=true):v.cells=#[v]:=by cases v<;>first|rfl|cases h
theorem rZ {a:Addr} {v u:Z} (hv:gO v=true) (h:w.cell? a=some u) (hf:w.frozen? a=false):(store a v).run P w=.ok () (w.setCell a v):=by
 cases v<;>first|(simp [store,Sem.run,h,hf];done)|cases hv
theorem mW {t:TypeId} {z:Z} {by_:Nat} (hi:fH P t z 1 by_) {b off:Nat} {v u:Z} (hv:gO v=true) (h:w.cell? ⟨b,off,none⟩=some u) (hf:w.frozen? ⟨b,off,none⟩=false) :
  (Instr.storeAt t (.pointer (some ⟨b,off,none⟩)) v).run P w=.ok () (w.setCell ⟨b,off,none⟩ v):=by
 simp [Instr.storeAt,Instr.sureAddr,storeVar,gQ hi,sG hv,storeCells,rZ hv h hf,jQ]
theorem tB {t:TypeId}:∀ (l done old:List Z),l.length=old.length->(∀ u∈l,gO u=true) ->
  (storeCells ⟨w.heap.size,0,none⟩ l done.length).run P (w.alloc (.cells (done++old).toArray t))=.ok () (w.alloc (.cells (done++l).toArray t))
 | [],done,[],_,_=>by simp [storeCells]
 | v::l,done,u::old,hl,h1=>by
  have hc:(w.alloc (.cells (done++u::old).toArray t)).cell? ⟨w.heap.size,done.length,none⟩=some u:=by simp
  have hf:(w.alloc (.cells (done++u::old).toArray t)).frozen? ⟨w.heap.size,done.length,none⟩=false:=by simp
  have hset:(w.alloc (.cells (done++u::old).toArray t)).setCell ⟨w.heap.size,done.length,none⟩ v=w.alloc (.cells (done++v::old).toArray t):=by
   simp only [World.setCell,World.alloc]
   congr 1
   apply Array.ext
   ·simp
   ·intro i h1 h2;simp only [Array.getElem_modify,Array.getElem_push];by_cases hi:i < w.heap.size
    ·have:¬ w.heap.size=i:=by omega
     simp [hi,this]
    ·have hi':w.heap.size=i:=by simp at h1;omega
     subst hi';simp
  simp only [storeCells,jQ,Nat.zero_add,Sem.run_bind];rw [rZ (h1 v (by simp)) hc hf,Result.andThen_ok,hset];have:=tB (t:=t) l (done++[v]) old (by simpa using hl) (λu hu=>h1 u (by simp [hu]));simpa using this
theorem MJ {t t':TypeId} {z:Z} {n by_:Nat} (hi:fH P t z n by_) {old:Array Z} {v:Z} (hn:v.cells.size=n) (ho:old.size=n) (h1:∀ u∈v.cells.toList,gO u=true) :
  (Instr.storeAt t (.pointer (some ⟨w.heap.size,0,none⟩)) v).run P (w.alloc (.cells old t'))=.ok () (w.alloc (.cells v.cells t')):=by
 have:=tB (P:=P) (w:=w) (t:=t') v.cells.toList [] old.toList (by simp [hn,ho]) h1;simp only [List.nil_append,List.length_nil,Array.toArray_toList] at this;simp [Instr.storeAt,Instr.sureAddr,storeVar,gQ hi,hn,this]
def ldO (P:Program) (t:TypeId) (a:Addr) (o:Option Z) (w:O) (K:Z->O->Prop):Prop:=
 match o with
 | some v=>K v w
 | none=>V P (Instr.loadAt t (.pointer (some a))) w K
theorem DU {t:TypeId} {z:Z} {n by_:Nat} (hi:fH P t z n by_) (hz:(z.cells.size == n)=true) {v:Z} {K':Z->O->Prop} (hn:v.cells.size=n) (h1:∀ u∈v.cells.toList,gO u=true) :
  V P (Instr.alloc t true (.tuple #[])) w (λp w1=>U P (Instr.storeAt t p v) w1 λ_ w2=>K' p w2)↔K' (.pointer (some ⟨w.heap.size,0,none⟩)) (w.alloc (.cells v.cells t)):=by
 rw [V.iff (PC hi)];exact U.iff (MJ hi hn (by simpa using hz) h1)
theorem GQ (e:Nat):∀ (l:List Z) (done old:List Z),l.length=old.length->(∀ u∈l,gO u=true) ->
  Instr.fill (λi=>some (i*1,1)) (done++old).toArray ((List.range' done.length l.length).zip l)=some (done++l).toArray
 | [],done,[],_,_=>by simp [Instr.fill]
 | v::l,done,u::old,hl,h1=>by
  have hv:=sG (h1 v (by simp));simp only [List.length_cons,List.range'_succ,List.zip_cons_cons,Instr.fill,hv];have:=GQ e l (done++[v]) old (by simpa using hl) (λu hu=>h1 u (by simp [hu]));simp at this ⊢;exact this
theorem CX {s e:TypeId} {z:Z} {by_:Nat} (hs:P.underlying s=some (.slice e)) (hi:fH P e z 1 by_) (hz:(z.cells.size == 1)=true) (l:List Z) (hl:l.length<=16777216) (h1:∀ u∈l,gO u=true) :
  (Instr.buildSlice s l.length ((List.range' 0 l.length).zip l).toArray).run P w=.ok (.slice (some ⟨w.heap.size,0,none⟩) l.length l.length) (w.alloc (.cells l.toArray e)):=by
 obtain ⟨i,hi',hz',hn,hb⟩:=info_parts hi;have hz1:z.cells.size=1:=by simpa using hz
 by_cases h0:l.length=0
 ·obtain rfl:=List.length_eq_zero_iff.1 h0;have e0:Array.range 0=#[]:=by simp [Array.range]
  simp [Instr.buildSlice,run_underlying hs,sizeOf,typeInfo,hi',Instr.fill,newRow,newObj,Sem.run,e0]
 ·have hf:=GQ 0 l [] ((Array.range (l.length*1)).map (λj=>z.cells[j % z.cells.size]!)).toList (by simp) h1;simp only [List.nil_append,List.length_nil,Array.toArray_toList] at hf;have hgt:¬ 16777216 < l.length:=by omega
  simp only [Instr.buildSlice,Sem.run_bind,run_underlying hs,Result.andThen_ok,gQ hi];simp only [Nat.mul_one,h0,if_false];rw [if_neg (by simpa using hgt)];simp only [Nat.mul_one] at hf;simp [hf,newRow,newObj,Sem.run,oS hi]
theorem kI (s:TypeId) (x y:Z):Op.equal s x y=Op.equalIn (9999+1) s x y:=rfl
theorem xF {s:TypeId} {ms:Array (String × TypeId)} (hs:P.underlying s=some (.interface ms)) (d:Nat) {t:TypeId} {v:Z}:(Op.equalIn (d+1) s (.iface t v) .nilIface).run P w=.ok false w:=by
 simp [Op.equalIn,run_underlying hs]
theorem WK {s:TypeId} {ms:Array (String × TypeId)} (hs:P.underlying s=some (.interface ms)) (d:Nat):(Op.equalIn (d+1) s .nilIface .nilIface).run P w=.ok true w:=by
 simp [Op.equalIn,run_underlying hs]
theorem MP {s e:TypeId} (hs:P.underlying s=some (.slice e)) (d:Nat) {a:Option Addr} {n c:Nat}:(Op.equalIn (d+1) s (.slice a n c) (.slice none 0 0)).run P w=.ok a.isNone w:=by
 cases a<;>simp [Op.equalIn,run_underlying hs]
theorem WL {s:TypeId} (hs:P.underlying s=some .bool) (d:Nat) {a b:Bool}:(Op.equalIn (d+1) s (.bool a) (.bool b)).run P w=.ok (a == b) w:=by
 simp [Op.equalIn,run_underlying hs]
theorem CW {s:TypeId} {ms:Array (String × TypeId)} (hs:P.underlying s=some (.interface ms)) {x y:Operand} {t:TypeId} {v:Z} :
  (do eqGuard .eql s x y (.iface t v) .nilIface;binOp .eql s (.iface t v) .nilIface).run P w=.ok (.bool false) w:=by
 simp [eqGuard,binOp,kI,xF hs]
theorem gR {s:TypeId} {ms:Array (String × TypeId)} (hs:P.underlying s=some (.interface ms)) {x y:Operand} {t:TypeId} {v:Z} :
  (do eqGuard .neq s x y (.iface t v) .nilIface;binOp .neq s (.iface t v) .nilIface).run P w=.ok (.bool true) w:=by
 simp [eqGuard,binOp,kI,xF hs]
theorem gW {s:TypeId} {ms:Array (String × TypeId)} (hs:P.underlying s=some (.interface ms)) {x:Operand} {c:Z} :
  (do eqGuard .neq s x (.const c) .nilIface .nilIface;binOp .neq s .nilIface .nilIface).run P w=.ok (.bool false) w:=by
 simp [eqGuard,binOp,kI,WK hs]
theorem nQ {s e:TypeId} (hs:P.underlying s=some (.slice e)) {x y:Operand} {a:Option Addr} {n c:Nat} :
  (do eqGuard .eql s x y (.slice a n c) (.slice none 0 0);binOp .eql s (.slice a n c) (.slice none 0 0)).run P w=.ok (.bool a.isNone) w:=by
 simp [eqGuard,binOp,kI,MP hs]
theorem WH {s:TypeId} (hs:P.underlying s=some .bool) {x y:Operand} {a b:Bool} :
  (do eqGuard .eql s x y (.bool a) (.bool b);binOp .eql s (.bool a) (.bool b)).run P w=.ok (.bool (a == b)) w:=by
 simp [eqGuard,binOp,kI,WL hs]
theorem AJ {s:TypeId} (hs:P.underlying s=some .bool) {x y:Operand} {a b:Bool} :
  (do eqGuard .neq s x y (.bool a) (.bool b);binOp .neq s (.bool a) (.bool b)).run P w=.ok (.bool (a != b)) w:=by
 simp [eqGuard,binOp,kI,WL hs,bne]
theorem jK {s d:TypeId} {ds:TypeDesc} {k k':IntKind} {n:Int} (hs:P.underlying s=some ds) (hd:P.underlying d=some (.int k')) :
  (convert s d (.int k n)).run P w=.ok (.int k' (k'.wrap n)) w:=by
 simp [convert,run_underlying hs,run_underlying hd,Conv.intToInt]
def aE (w w':O):Prop:=w.grownBy w' none
theorem aE.refl (w:O):aE w w:=⟨rfl,rfl,rfl,Nat.le_refl _,λ_ _ _=>rfl⟩
theorem aE.trans {a b c:O} (h:aE a b) (k:aE b c):aE a c:=
 ⟨k.os.trans h.os,k.tape.trans h.tape,k.output.trans h.output,Nat.le_trans h.size k.size,λi hi hn=>(k.block i (Nat.lt_of_lt_of_le hi h.size) hn).trans (h.block i hi hn)⟩
theorem aE.alloc {a w:O} (h:aE a w) (o:Obj):aE a (w.alloc o):=h.trans (World.grownBy_alloc _ _ _)
theorem aE.drew {a w:O} (h:aE a w):aE a w.drew:=⟨h.os,h.tape,h.output,h.size,h.block⟩
theorem aE.setCell {a w:O} (h:aE a w) {b o:Nat} (hb:a.heap.size<=b) (v:Z):aE a (w.setCell ⟨b,o,none⟩ v):=
 ⟨h.os,h.tape,h.output,by simpa using h.size,λi hi hn=>by rw [RowKit.Below.heap_setCell _ _ _ _ (by simp;omega)];exact h.block i hi hn⟩
theorem aE.cell {a w:O} (h:aE a w) {p:Addr} {v:Z} (hc:a.cell? p=some v):w.cell? p=some v:=World.grownBy.cell h hc (by simp)
theorem aE.obj {a w:O} (h:aE a w) {b:Nat} {o:Obj} (hb:a.heap[b]?=some o):w.heap[b]?=some o:=by
 have hlt:b < a.heap.size:=(Array.getElem?_eq_some_iff.1 hb).1;rw [h.block b hlt (by simp)];exact hb
theorem aE.grown {a w w':O} (h:aE a w) {row:Option Nat} (hg:w.grownBy w' row) (hr:∀ k,row=some k->a.heap.size<=k):aE a w':=
 ⟨hg.os.trans h.os,hg.tape.trans h.tape,hg.output.trans h.output,Nat.le_trans h.size hg.size,λi hi hn=>(hg.block i (Nat.lt_of_lt_of_le hi h.size) (λe=>by have:=hr i e.symm;omega)).trans (h.block i hi hn)⟩
theorem aE.own {a w:O} (h:aE a w) {B:Nat} {e:TypeId} {size n:Nat} {v:Z} {xs:List Z} (ho:a.ownsRow B e size v n xs):w.ownsRow B e size v n xs:=ho.kept h (by cases v.ownBlock<;>simp)
theorem aE.below {a w:O} (h:aE a w):RowKit.Below a.heap.size a w:=⟨h.os,h.tape,h.output,h.size,λk hk=>h.block k hk (by simp)⟩
def aA (w:O) (v:Z) (size n:Nat) (cs:List Z):Prop:=
 cs.length=n*size/\((v=.slice none 0 0/\n=0)\/∃ b off cap,v=.slice (some ⟨b,off,none⟩) n cap/\n<=cap/\cap<=maxLen/\∀ j u,cs[j]?=some u->w.cell? ⟨b,off+j,none⟩=some u)
theorem aA.ext {w w':O} {v:Z} {size n:Nat} {cs:List Z} (h:aA w v size n cs) (hx:aE w w'):aA w' v size n cs:=by
 obtain ⟨h1,h2⟩:=h;refine ⟨h1,?_⟩;rcases h2 with h2|⟨b,off,cap,h2,h3,h4,h5⟩
 ·exact .inl h2
 ·exact .inr ⟨b,off,cap,h2,h3,h4,λj u hj=>hx.cell (h5 j u hj)⟩
theorem aA.nil (w:O) (size:Nat):aA w (.slice none 0 0) size 0 []:=⟨by simp,.inl ⟨rfl,rfl⟩⟩
theorem aA.of_own {w:O} {B:Nat} {e:TypeId} {size n:Nat} {v:Z} {xs:List Z} (h:w.ownsRow B e size v n xs):aA w v size n xs:=by
 refine ⟨h.1,?_⟩;rcases h.2 with ⟨h1,h2⟩|⟨g,cap,cur,rfl,_,_,h4,h5,_⟩
 ·exact .inl ⟨h1,h2⟩
 ·exact .inr ⟨g,0,cap,rfl,h4,h5,λj u hj=>by have:=h.cells (g:=g) rfl j u hj;rwa [jQ] at this⟩
theorem aA.shape {w:O} {v:Z} {size n:Nat} {cs:List Z} (h:aA w v size n cs):∃ a cap,v=.slice a n cap:=by
 rcases h.2 with ⟨rfl,rfl⟩|⟨b,off,cap,rfl,_⟩
 ·exact ⟨none,0,rfl⟩
 ·exact ⟨_,cap,rfl⟩
theorem aA.there {w:O} {v:Z} {size n:Nat} {cs:List Z} (h:aA w v size n cs) (hn:0 < n):∃ b off cap,v=.slice (some ⟨b,off,none⟩) n cap/\∀ j u,cs[j]?=some u->w.cell? ⟨b,off+j,none⟩=some u:=by
 rcases h.2 with ⟨_,rfl⟩|⟨b,off,cap,rfl,_,_,h5⟩
 ·omega
 ·exact ⟨b,off,cap,rfl,h5⟩
theorem aA.get {t e x:TypeId} {d:TypeDesc} {z:Z} {by_:Nat} (ht:P.underlying t=some (.slice e)) (hi:fH P e z 1 by_) (hx:P.underlying x=some d) (hd:nG d=false) {v:Z} {n:Nat} {cs:List Z} (h:aA w v 1 n cs)
  {k:IntKind} {i:Int} {u:Z} (h0:0<=i) (h1:i < n) (hu:cs[i.toNat]?=some u) (hk:K u w) :
  V P (Instr.indexAt t v (.int k i)) w λp w1=>V P (Instr.loadAt x p) w1 K:=by
 obtain ⟨b,off,cap,rfl,hc⟩:=h.there (by omega);refine V.ok (iG ht hi h0 h1) (V.ok (kH hx hd ?_) hk);simpa using hc _ _ hu
structure TA (P:Program) (u:TypeId):Prop where
 of ::
 ex:∃ z,(∀ (w:O) x t v,(Instr.typeAssert (.iface t v) x u true).run P w=.ok (if t=u then .tuple #[v,.bool true] else .tuple #[z,.bool false]) w) /\
 ∀ (w:O) x,(Instr.typeAssert .nilIface x u true).run P w=.ok (.tuple #[z,.bool false]) w
theorem TA.mk' {u:TypeId} {d:TypeDesc} {z:Z} {n b:Nat} (hu:P.underlying u=some d) (hd:PI d=true) (hz:fH P u z n b):TA P u:=⟨⟨z,λ_ _ _ _=>zS hu hd hz,λ_ _=>aBe hu hd hz⟩⟩
structure SA (P:Program) (t:TypeId) (n:Nat):Prop where
 of ::
 ex:∃ z by_,fH P t z n by_/\z.cells.size=n
structure FA (P:Program) (s f o:Nat):Prop where
 of ::
 ex:∀ (w:O) b off,(Instr.fieldAt s (.pointer (some ⟨b,off,none⟩)) f).run P w=.ok (.pointer (some ⟨b,off+o,none⟩)) w
structure L1 (P:Program) (t:TypeId):Prop where
 of ::
 ex:∃ d,P.underlying t=some d/\nG d=false
structure XA (P:Program) (t n:Nat):Prop where
 of ::
 ex:∃ e z by_,P.underlying t=some (.slice e)/\fH P e z n by_
theorem th {u x:TypeId} {v:Z} {A:Z->O->Prop} {B:Z->Z->Z->O->Prop} (h:TA P u) (hA:A v w) :
  V P (Instr.typeAssert (.iface u v) x u true) w λt1 w1=>V P (Instr.extract t1 1) w1 λt2 w2=>V P (Instr.extract t1 0) w2 λt3 w3=>aH t2 (A t3 w3) (B t1 t2 t3 w3):=by
 obtain ⟨z,hz,_⟩:=h;refine V.ok (hz w x u v) ?_;rw [if_pos rfl];exact V.ok lR (V.ok lS (aS.2 hA))
theorem tm {u t x:TypeId} {v:Z} {A B:Z->Z->Z->O->Prop} (h:TA P u) (hne:t≠u) (hB:∀ t1 t2 t3,B t1 t2 t3 w) :
  V P (Instr.typeAssert (.iface t v) x u true) w λt1 w1=>V P (Instr.extract t1 1) w1 λt2 w2=>V P (Instr.extract t1 0) w2 λt3 w3=>aH t2 (A t1 t2 t3 w3) (B t1 t2 t3 w3):=by
 obtain ⟨z,hz,_⟩:=h;refine V.ok (hz w x t v) ?_;rw [if_neg hne];exact V.ok lR (V.ok lS (aD.2 (hB _ _ _)))
theorem tn {u x:TypeId} {A B:Z->Z->Z->O->Prop} (h:TA P u) (hB:∀ t1 t2 t3,B t1 t2 t3 w) :
  V P (Instr.typeAssert .nilIface x u true) w λt1 w1=>V P (Instr.extract t1 1) w1 λt2 w2=>V P (Instr.extract t1 0) w2 λt3 w3=>aH t2 (A t1 t2 t3 w3) (B t1 t2 t3 w3):=by
 obtain ⟨z,_,hz⟩:=h;refine V.ok (hz w x) ?_;exact V.ok lR (V.ok lS (aD.2 (hB _ _ _)))
theorem as_ {t n:TypeId} {v:Z} {K':Z->O->Prop} (h:SA P t n) (hn:v.cells.size=n) (h1:v.cells.toList.all gO=true) (hk:K' (.pointer (some ⟨w.heap.size,0,none⟩)) (w.alloc (.cells v.cells t))) :
  V P (Instr.alloc t true (.tuple #[])) w (λp w1=>U P (Instr.storeAt t p v) w1 λ_ w2=>K' p w2):=by
 obtain ⟨z,b,hi,hz⟩:=h;exact (DU hi (by simpa using hz) hn (λu hu=>List.all_eq_true.1 h1 u hu)).2 hk
theorem ldf {s f o ft b off:Nat} {u:Z} (h:FA P s f o) (hl:L1 P ft) (hc:w.cell? ⟨b,off+o,none⟩=some u) (hk:K u w) :
  V P (Instr.fieldAt s (.pointer (some ⟨b,off,none⟩)) f) w λq w1=>V P (Instr.loadAt ft q) w1 K:=by
 obtain ⟨d,hd,ha⟩:=hl;exact V.ok (h.ex w b off) (V.ok (kH hd ha hc) hk)
theorem kP {t x:TypeId} {v:Z} {n:Nat} {cs:List Z} {k:IntKind} {i:Int} {u:Z} (h:XA P t 1) (hl:L1 P x) (hs:aA w v 1 n cs) (h0:0<=i) (h1:i < n) (hu:cs[i.toNat]?=some u) (hk:K u w) :
  V P (Instr.indexAt t v (.int k i)) w λp w1=>V P (Instr.loadAt x p) w1 K:=by
 obtain ⟨e,z,b,ht,hi⟩:=h;obtain ⟨d,hd,ha⟩:=hl;exact hs.get ht hi hd ha h0 h1 hu hk
theorem hU {t ty n:Nat} {m:Nat} {v:Z} {size:Nat} {cs:List Z} (h:XA P t n) (hs:aA w v size m cs) (hk:K (i64 m) w):V P (Builtin.len_ #[t] ty #[v]) w K:=by
 obtain ⟨e,z,b,ht,hi⟩:=h;obtain ⟨a,c,rfl⟩:=hs.shape;exact V.ok (lU ht) hk
def fB (w:O) (b:Nat) (cs:List Z):Prop:=∀ j u,cs[j]?=some u->w.cell? ⟨b,0+j,none⟩=some u
theorem fB.ext {w w':O} {b:Nat} {cs:List Z} (h:fB w b cs) (hx:aE w w'):fB w' b cs:=λj u hj=>hx.cell (h j u hj)
theorem BS {cs:Array Z} {t:TypeId}:fB (w.alloc (.cells cs t)) w.heap.size cs.toList:=λj u hj=>by simpa using hj
theorem bx {t:TypeId} {v:Z} (hk:∀ b w1,fB w1 b v.cells.toList->aE w w1->K (.pointer (some ⟨b,0,none⟩)) w1):V P (Instr.box t v) w K:=
 V.ok aIy (hk _ _ BS ((aE.refl w).alloc _))
theorem pX {t n:TypeId} {v:Z} {K':Z->O->Prop} (h:SA P t n) (hn:v.cells.size=n) (h1:v.cells.toList.all gO=true) (hk:∀ b w1,fB w1 b v.cells.toList->aE w w1->K' (.pointer (some ⟨b,0,none⟩)) w1) :
  V P (Instr.alloc t true (.tuple #[])) w (λp w1=>U P (Instr.storeAt t p v) w1 λ_ w2=>K' p w2):=
 as_ h hn h1 (hk _ _ BS ((aE.refl w).alloc _))
theorem bQ {s f o ft b:Nat} {cs:List Z} {u:Z} (hb:fB w b cs) (h:FA P s f o) (hl:L1 P ft) (hc:cs[o]?=some u) (hk:K u w) :
  V P (Instr.fieldAt s (.pointer (some ⟨b,0,none⟩)) f) w λq w1=>V P (Instr.loadAt ft q) w1 K:=ldf h hl (hb o u hc) hk
theorem lF {t n b:Nat} {cs:List Z} (hb:fB w b cs) (ht:∃ d z by_,P.underlying t=some d/\nG d=true/\fH P t z n by_) (hl:cs.length=n) (hk:K (.agg cs.toArray) w):V P (Instr.loadAt t (.pointer (some ⟨b,0,none⟩))) w K:=by
 obtain ⟨d,z,by_,h1,h2,h3⟩:=ht
 exact V.ok (kZ h1 h2 h3 hl λj hj=>by
  obtain ⟨u,hu⟩:∃ u,cs[j]?=some u:=⟨_,List.getElem?_eq_getElem hj⟩;rw [hu];exact hb j u hu) hk
structure XE (P:Program) (t e by_:Nat):Prop where
 of ::
 ex:∃ z,P.underlying t=some (.slice e)/\fH P e z 1 by_/\(z.cells.size == 1)=true
theorem rC (v:Z):v.oneCell'=gO v:=by cases v<;>rfl
theorem iT {t e by_:Nat} (h:XE P t e by_) (l:List Z) {n:Nat} {parts:Array (Nat × Z)} (hn:n=l.length) (hp:parts=((List.range' 0 l.length).zip l).toArray) (hl:l.length<=16777216) (h1:l.all gO=true)
  (hk:∀ v w',w'.ownsRow w.heap.size e 1 v n l->aE w w'->K v w'):V P (Instr.buildSlice t n parts) w K:=by
 subst hn;subst hp;obtain ⟨z,ht,hi,hz⟩:=h;refine V.ok (CX ht hi hz l hl (λu hu=>List.all_eq_true.1 h1 u hu)) (hk _ _ ?_ ((aE.refl w).alloc _));have:=World.ownsRow_lit (base:=w.heap.size) (e:=e) (size:=1) w l.toArray l.length (Nat.le_refl _) (by unfold maxLen;omega) (by simp);simpa using this
theorem EK {t e by_ ty:Nat} (h:XE P t e by_) {B:Nat} {v:Z} {n:Nat} {xs:List Z} (ho:w.ownsRow B e 1 v n xs) {x:Z} {m:Nat} {news:List Z} (hs:aA w x 1 m news) (h1:news.all gO=true)
  (hb:(n+m)*by_<=140737488355328) (h63:n+m<=maxLen) (hB:B<=w.heap.size) (hk:∀ v' w',w'.ownsRow B e 1 v' (n+m) (xs++news)->w.grownBy w' v.ownBlock->K v' w') :
  V P (Builtin.append_ #[t,t] ty #[v,x]) w K:=by
 obtain ⟨z,ht,hi,hz⟩:=h;obtain ⟨i,hi',hz',hn,hby⟩:=info_parts hi;rcases hs.2 with ⟨rfl,rfl⟩|⟨b,off,cap,rfl,_,_,hc⟩
 ·have hnews:news=[]:=by have:=hs.1;simpa using this
  subst hnews;refine V.ok (run_append_owned_none w B t ty e i 1 ht hi' v n xs ho) (hk _ _ (by simpa using ho) ⟨rfl,rfl,rfl,Nat.le_refl _,λ_ _ _=>rfl⟩)
 ·obtain ⟨v',w',hr,h2,h3,_⟩:=run_append_own (P:=P) w B t ty e i z 1 by_ ht hi' hz' hn hby (by simpa using hz) (by omega) v n xs ho ⟨b,off,none⟩ m cap news hs.1
   (λj u hj=>by rw [jQ];exact hc j u hj) (λu hu=>by rw [rC];exact List.all_eq_true.1 h1 u hu) h63 hb hB
  exact V.ok hr (hk _ _ h2 h3)
theorem yJ {t e by_:Nat} (h:XE P t e by_) {v:Z} {n:Nat} {cs:List Z} (hs:aA w v 1 n cs) (h1:cs.all gO=true) (hb:n*by_<=140737488355328) {x y:Operand} {R:Z->O->Prop}
  (hk:∀ v' w',w'.ownsRow w.heap.size e 1 v' n cs->aE w w'->R v' w') :
  V P (do eqGuard .eql t x y v (Value.slice none 0 0);binOp .eql t v (Value.slice none 0 0)) w λt4 w1=>
   aH t4 (R (Value.slice none 0 0) w1) (V P (Instr.buildSlice t 0 #[]) w1 λt5 w2=>V P (Builtin.append_ #[t,t] t #[t5,v]) w2 λt7 w3=>R t7 w3):=by
 have h':=h;obtain ⟨z,ht,hi,hz⟩:=h;rcases hs.2 with ⟨rfl,rfl⟩|⟨b,off,cap,rfl,hc1,hc2,hc⟩
 ·refine V.ok (nQ ht) (aS.2 (hk _ _ ?_ (aE.refl w)));have:cs=[]:=by have:=hs.1;simpa using this
  subst this;exact World.ownsRow_nil _ _ _ _
 ·refine V.ok (nQ ht) (aD.2 (iT h' [] rfl rfl (by simp) rfl λv1 w1 ho x1=>?_));refine EK h' ho (hs.ext x1) h1 (by simpa using hb) (by unfold maxLen at *;omega) x1.size λv2 w2 ho2 hg=>?_;have:=ho2;simp only [Nat.zero_add,List.nil_append] at this;exact hk _ _ this (x1.grown hg λk hk'=>(ho.lt k hk').1)
end
section
variable {P:Program} {w:O} {K:Z->O->Prop}
theorem aX {w:O} {B B' e size n:Nat} {v:Z} {xs:List Z} (h:w.ownsRow B e size v n xs) (hB:B'<=B):w.ownsRow B' e size v n xs:=by
 refine ⟨h.1,?_⟩;rcases h.2 with h2|⟨g,cap,cur,h2,h3,h4⟩
 ·exact .inl h2
 ·exact .inr ⟨g,cap,cur,h2,Nat.le_trans hB h3,h4⟩
theorem stO {t x:Nat} {z:Z} {by_:Nat} (h:XA P t 1) (hx:fH P x z 1 by_) {B e n:Nat} {v:Z} {xs:List Z} (ho:w.ownsRow B e 1 v n xs) {k:IntKind} {i:Int} (h0:0<=i) (h1:i < n) {u:Z} (hu:gO u=true) {K':O->Prop}
  (hk:∀ w',w'.ownsRow B e 1 v n (xs.set i.toNat u)->w.grownBy w' v.ownBlock->K' w') :
  V P (Instr.indexAt t v (.int k i)) w λp w1=>U P (Instr.storeAt x p u) w1 λ_ w2=>K' w2:=by
 obtain ⟨e',z',b',ht,hi⟩:=h;have ho':=ho;rcases ho.2 with ⟨_,rfl⟩|⟨g,cap,cur,rfl,hB,_⟩
 ·omega
 refine V.ok (iG ht hi h0 h1) ?_;obtain ⟨s1,s2⟩:=ho'.stored i.toNat u;have hc:=ho'.cellAt i.toNat (by omega);have hlt:i.toNat < xs.length:=by have:=ho'.1;omega
 rw [List.getElem?_eq_getElem hlt] at hc;simp only [Nat.zero_add,Nat.mul_one];exact U.ok (mW hx hu hc (ho'.frozenAt _)) (hk _ s1 s2)
theorem TP {t x:Nat} (h:XA P t 1) (hl:L1 P x) {B e n:Nat} {v:Z} {xs:List Z} (ho:w.ownsRow B e 1 v n xs) {k:IntKind} {i:Int} {u:Z} (h0:0<=i) (h1:i < n) (hu:xs[i.toNat]?=some u) (hk:K u w) :
  V P (Instr.indexAt t v (.int k i)) w λp w1=>V P (Instr.loadAt x p) w1 K:=kP h hl (aA.of_own ho) h0 h1 hu hk
def dW (w:O) (g:Nat) (cs:List Z) (e:TypeId):Prop:=w.heap[g]?=some (.cells cs.toArray e (0,0))
theorem dW.ext {w w':O} {g:Nat} {cs:List Z} {e:TypeId} (h:dW w g cs e) (hx:aE w w'):dW w' g cs e:=hx.obj h
theorem dW.lt {w:O} {g:Nat} {cs:List Z} {e:TypeId} (h:dW w g cs e):g < w.heap.size:=(Array.getElem?_eq_some_iff.1 h).1
theorem dW.cell {w:O} {g:Nat} {cs:List Z} {e:TypeId} (h:dW w g cs e) (j:Nat):w.cell? ⟨g,j,none⟩=cs[j]?:=by
 rw [cell_of_row w g j cs.toArray e (0,0) h];simp
theorem dW.frozen {w:O} {g:Nat} {cs:List Z} {e:TypeId} (h:dW w g cs e) (j:Nat):w.frozen? ⟨g,j,none⟩=false:=frozen_of_row w g j cs.toArray e h
theorem dW.set {w:O} {g:Nat} {cs:List Z} {e:TypeId} (h:dW w g cs e) (j:Nat) (u:Z):dW (w.setCell ⟨g,j,none⟩ u) g (cs.set j u) e:=by
 have:=heap_setCell_same w g j cs.toArray e u h;unfold dW;rw [this];simp
theorem dW.other {w:O} {g g' j:Nat} {cs:List Z} {e:TypeId} {u:Z} (h:dW w g cs e) (hne:g≠g'):dW (w.setCell ⟨g',j,none⟩ u) g cs e:=by
 unfold dW;rw [heap_setCell_other w ⟨g',j,none⟩ g u hne];exact h
theorem dW.slice {w:O} {g n:Nat} {cs:List Z} {e:TypeId} (h:dW w g cs e) (hn:cs.length=n) (hm:n<=maxLen):aA w (.slice (some ⟨g,0,none⟩) n n) 1 n cs:=
 ⟨by omega,.inr ⟨g,0,n,rfl,Nat.le_refl _,hm,λj u hj=>by rw [Nat.zero_add,h.cell];exact hj⟩⟩
theorem mkB {t e by_:Nat} {z:Z} (ht:P.underlying t=some (.slice e)) (hi:fH P e z 1 by_) (hz:z.cells=#[z]) {n:Nat} (hb:by_*n<=281474976710656) (h63:n<=9223372036854775807)
  (hk:∀ w',dW w' w.heap.size (List.replicate n z) e->aE w w'->w'.heap.size=w.heap.size+1->K (.slice (some ⟨w.heap.size,0,none⟩) n n) w'):V P (Instr.makeSlice t (i64 n) (i64 n)) w K:=by
 obtain ⟨i,hi',hz',hn,hby⟩:=info_parts hi;have hr:=run_make (P:=P) w t e i z ht hi' hz' .i64 .i64 n n (by omega) (Int.le_refl _) (by rw [hby,<- Int.natCast_mul];omega) (by omega);simp only [Int.toNat_natCast,hn,hz,Nat.mul_one] at hr;refine V.ok hr (hk _ ?_ ((aE.refl w).alloc _) (by simp));unfold dW;have:=heap_alloc_new w (.cells (madeCells #[z] n) e);rw [this]
 congr 2
 rw [<- toList_madeCells_one z n]
structure BD (P:Program) (t:TypeId) (zs:List Z):Prop where
 of ::
 ex:∃ fs b,P.underlying t=some (.struct fs)/\fH P t (.agg zs.toArray) zs.length b/\∀ w:O,(fs.mapM (λf=>do pure (f.offset,<- sizeOf f.type)):Sem (Array (Nat × Nat))).run P w=.ok ((List.range zs.length).map (λi=>(i,1))).toArray w
theorem YL {n:Nat}:∀ (l:List (Nat × Z)) (cs:List Z),cs.length=n->(l.all λx=>decide (x.1 < n)&&gO x.2)=true ->
  Instr.fill ((((List.range n).map (λi=>(i,1))).toArray)[·]?) cs.toArray l=some (l.foldl (λcs x=>cs.set x.1 x.2) cs).toArray
 | [],cs,_,_=>rfl
 | (i,v)::l,cs,hl,h=>by
  simp only [List.all_cons,Bool.and_eq_true,decide_eq_true_eq] at h;have hi:((((List.range n).map (λi=>(i,1))).toArray)[i]?)=some (i,1):=by simp [h.1.1]
  have hc:=sG h.1.2;rw [Instr.fill,hi];have hn:¬ (i+1 > cs.length):=by omega
  simp only [hc,List.size_toArray,List.length_cons,List.length_nil,Nat.zero_add,ne_eq,not_true_eq_false,decide_false,Bool.false_or,hn,Bool.false_eq_true,if_false];have:=YL (n:=n) l (cs.set i v) (by simpa using hl) h.2;simpa using this
theorem kO {t:TypeId} {zs:List Z} (h:BD P t zs) {parts:Array (Nat × Z)} (l:List (Nat × Z)) (hp:parts=l.toArray) (h1:(l.all λx=>decide (x.1 < zs.length)&&gO x.2)=true)
  (hk:K (.agg (l.foldl (λcs x=>cs.set x.1 x.2) zs).toArray) w):V P (Instr.build t parts) w K:=by
 subst hp;obtain ⟨fs,b,hu,hi,hm⟩:=h;refine V.ok ?_ hk;simp only [Instr.build,Sem.run_bind,oS hi,Result.andThen_ok,run_underlying hu,hm,Value.cells];rw [YL l zs rfl h1];simp
structure MI (P:Program) (t:TypeId):Prop where
 of ::
 ex:∃ d,P.underlying t=some d/\PI d=true
theorem XG {t:TypeId} (h:MI P t) {v:Z} (hk:K (.iface t v) w):V P (Instr.makeInterface t v) w K:=by
 obtain ⟨d,hu,hd⟩:=h;refine V.ok ?_ hk;cases d<;>first|(simp [Instr.makeInterface,run_underlying hu];done)|cases hd
end
end Go.Vc
namespace Go.Proofs.YtgkkecladbmjkaaGreatDoor
open Tryz
open Go.Vc
variable {w:O} {cap n off:Nat} {k:IntKind} {i:Int} {a:Option Addr} {ty x:TypeId} {K:Z->O->Prop}
theorem fX:fH prog 3 (.int .i64 0) 1 8:=by unfold fH;kernel_rfl
theorem mP:fH prog 4 (.bool false) 1 1:=by unfold fH;kernel_rfl
theorem aLs:fH prog 5 (.int .u8 0) 1 1:=by unfold fH;kernel_rfl
theorem aCm:fH prog 9 (.string ByteArray.empty) 1 16:=by unfold fH;kernel_rfl
theorem oY:fH prog 21 (.int .i32 0) 1 4:=by unfold fH;kernel_rfl
theorem aJi:fH prog 24 (.slice none 0 0) 1 24:=by unfold fH;kernel_rfl
theorem aRo:fH prog 26 (.pointer none) 1 8:=by unfold fH;kernel_rfl
theorem BM:fH prog 37 (.slice none 0 0) 1 24:=by unfold fH;kernel_rfl
theorem jM:fH prog 42 (.slice none 0 0) 1 24:=by unfold fH;kernel_rfl
theorem PW:fH prog 43 (.slice none 0 0) 1 24:=by unfold fH;kernel_rfl
theorem PV:fH prog 44 (.slice none 0 0) 1 24:=by unfold fH;kernel_rfl
theorem mF:fH prog 46 (.agg #[(.string ByteArray.empty),(.slice none 0 0),(.slice none 0 0),(.slice none 0 0),(.slice none 0 0)]) 5 112:=by unfold fH;kernel_rfl
theorem aRn:fH prog 48 (.pointer none) 1 8:=by unfold fH;kernel_rfl
theorem YB:fH prog 50 (.slice none 0 0) 1 24:=by unfold fH;kernel_rfl
theorem YA:fH prog 54 (.agg #[(.int .i64 0),(.int .i64 0),(.int .i64 0),(.int .i64 0)]) 4 32:=by unfold fH;kernel_rfl
theorem mE:fH prog 70 (.agg #[(.int .i64 0),(.int .i64 0),(.int .i64 0)]) 3 24:=by unfold fH;kernel_rfl
theorem vD:fH prog 71 (.slice none 0 0) 1 24:=by unfold fH;kernel_rfl
theorem nD:fH prog 74 (.agg #[(.slice none 0 0),(.int .i64 0),(.slice none 0 0),(.slice none 0 0)]) 4 80:=by unfold fH;kernel_rfl
theorem vC:fH prog 76 (.agg #[(.int .i64 0),(.int .i64 0)]) 2 16:=by unfold fH;kernel_rfl
theorem aJh:fH prog 81 (.slice none 0 0) 1 24:=by unfold fH;kernel_rfl
theorem vB:fH prog 83 (.agg #[(.int .i64 0),(.int .i64 0),(.slice none 0 0)]) 3 40:=by unfold fH;kernel_rfl
theorem PU:fH prog 91 (.agg #[(.int .i64 0),(.int .i64 0)]) 2 16:=by unfold fH;kernel_rfl
theorem PT:fH prog 94 .nilIface 1 16:=by unfold fH;kernel_rfl
theorem aJg:fH prog 99 (.slice none 0 0) 1 24:=by unfold fH;kernel_rfl
theorem NH:fH prog 107 (.slice none 0 0) 1 24:=by unfold fH;kernel_rfl
theorem aMa:fH prog 109 (.agg #[(.pointer none),(.pointer none),(.slice none 0 0),(.int .i64 0),(.int .i64 0)]) 5 56:=by unfold fH;kernel_rfl
theorem NG:fH prog 111 (.pointer none) 1 8:=by unfold fH;kernel_rfl
theorem aLz:fH prog 116 (.slice none 0 0) 1 24:=by unfold fH;kernel_rfl
theorem YD:fH prog 117 (.slice none 0 0) 1 24:=by unfold fH;kernel_rfl
theorem aLy:fH prog 125 (.agg #[(.slice none 0 0)]) 1 24:=by unfold fH;kernel_rfl
theorem aLx:fH prog 127 (.agg #[(.int .i64 0),(.int .i64 0),(.int .i64 0),(.bool false),(.slice none 0 0)]) 5 56:=by unfold fH;kernel_rfl
theorem YC:fH prog 132 (.slice none 0 0) 1 24:=by unfold fH;kernel_rfl
theorem aLw:fH prog 134 (.agg #[(.pointer none),(.slice none 0 0),(.slice none 0 0),(.slice none 0 0),(.slice none 0 0)]) 5 104:=by unfold fH;kernel_rfl
theorem uJ:fH prog 161 (.agg #[(.int .i64 0),(.int .i32 0)]) 2 16:=by unfold fH;kernel_rfl
theorem DQ:fH prog 164 (.agg #[]) 0 0:=by unfold fH;kernel_rfl
theorem qS:fH prog 180 (.agg #[(.string ByteArray.empty),(.int .i64 0),(.slice none 0 0),(.int .i64 0)]) 4 56:=by unfold fH;kernel_rfl
theorem aLv:fH prog 193 (.agg #[(.int .i64 0),(.slice none 0 0)]) 2 32:=by unfold fH;kernel_rfl
theorem DP:fH prog 222 (.agg #[(.int .i64 0),(.int .i64 0)]) 2 16:=by unfold fH;kernel_rfl
theorem DO:fH prog 224 (.agg #[(.int .i64 0),(.int .i64 0),(.int .i64 0)]) 3 24:=by unfold fH;kernel_rfl
theorem DN:fH prog 226 (.agg #[(.int .i64 0),(.int .i64 0),(.int .i64 0),(.int .i64 0)]) 4 32:=by unfold fH;kernel_rfl
theorem DM:fH prog 228 (.agg #[(.int .i64 0)]) 1 8:=by unfold fH;kernel_rfl
theorem DL:fH prog 230 (.agg #[(.int .i64 0),(.int .i64 0)]) 2 16:=by unfold fH;kernel_rfl
theorem DK:fH prog 232 (.agg #[(.int .i64 0),(.int .i64 0)]) 2 16:=by unfold fH;kernel_rfl
theorem NE:fH prog 235 (.agg #[(.int .i64 0),(.int .i64 0),(.slice none 0 0)]) 3 40:=by unfold fH;kernel_rfl
theorem ND:fH prog 237 (.agg #[(.int .i64 0),(.int .i64 0),(.slice none 0 0)]) 3 40:=by unfold fH;kernel_rfl
theorem NC:fH prog 239 (.agg #[(.int .i64 0)]) 1 8:=by unfold fH;kernel_rfl
theorem DJ:fH prog 242 (.agg #[(.int .i64 0),(.int .i64 0),(.int .i64 0),(.int .i64 0)]) 4 32:=by unfold fH;kernel_rfl
theorem aLu:fH prog 252 (.agg #[(.slice none 0 0),(.slice none 0 0),(.int .i64 0),(.slice none 0 0),(.int .i64 0)]) 5 88:=by unfold fH;kernel_rfl
theorem xT:fH prog 254 (.agg #[(.int .i64 0),(.int .i64 0),(.int .i64 0),(.int .i64 0)]) 4 32:=by unfold fH;kernel_rfl
theorem aLt:fH prog 266 (.agg #[(.bool false),(.bool false)]) 2 2:=by unfold fH;kernel_rfl
theorem NB:fH prog 276 (.agg #[(.int .i64 0),(.int .i64 0),(.int .i64 0),(.int .i64 0),(.slice none 0 0)]) 5 56:=by unfold fH;kernel_rfl
theorem NA:fH prog 290 (.agg #[(.int .u8 0),(.int .u8 0)]) 2 2:=by unfold fH;kernel_rfl
theorem MN {b:Nat}:(Instr.fieldAt 114 (.pointer (some ⟨b,off,none⟩)) 3).run prog w=.ok (.pointer (some ⟨b,off+3,none⟩)) w:=aP 74 3 underlying114 rfl nD rfl
theorem MM {b:Nat}:(Instr.fieldAt 125 (.pointer (some ⟨b,off,none⟩)) 0).run prog w=.ok (.pointer (some ⟨b,off+0,none⟩)) w:=aP 50 0 underlying125 rfl YB rfl
theorem xD {b:Nat}:(Instr.fieldAt 180 (.pointer (some ⟨b,off,none⟩)) 2).run prog w=.ok (.pointer (some ⟨b,off+2,none⟩)) w:=aP 42 2 underlying180 rfl jM rfl
theorem SW {b:Nat}:(Instr.fieldAt 46 (.pointer (some ⟨b,off,none⟩)) 1).run prog w=.ok (.pointer (some ⟨b,off+1,none⟩)) w:=aP 42 1 underlying46 rfl jM rfl
theorem SV {b:Nat}:(Instr.fieldAt 46 (.pointer (some ⟨b,off,none⟩)) 2).run prog w=.ok (.pointer (some ⟨b,off+2,none⟩)) w:=aP 43 2 underlying46 rfl PW rfl
theorem SU {b:Nat}:(Instr.fieldAt 46 (.pointer (some ⟨b,off,none⟩)) 3).run prog w=.ok (.pointer (some ⟨b,off+3,none⟩)) w:=aP 44 3 underlying46 rfl PV rfl
theorem SS {b:Nat}:(Instr.fieldAt 46 (.pointer (some ⟨b,off,none⟩)) 4).run prog w=.ok (.pointer (some ⟨b,off+4,none⟩)) w:=aP 42 4 underlying46 rfl jM rfl
theorem AM {b:Nat}:(Instr.fieldAt 74 (.pointer (some ⟨b,off,none⟩)) 0).run prog w=.ok (.pointer (some ⟨b,off+0,none⟩)) w:=aP 42 0 underlying74 rfl jM rfl
theorem SR {b:Nat}:(Instr.fieldAt 74 (.pointer (some ⟨b,off,none⟩)) 1).run prog w=.ok (.pointer (some ⟨b,off+1,none⟩)) w:=aP 3 1 underlying74 rfl fX rfl
theorem AL {b:Nat}:(Instr.fieldAt 74 (.pointer (some ⟨b,off,none⟩)) 2).run prog w=.ok (.pointer (some ⟨b,off+2,none⟩)) w:=aP 42 2 underlying74 rfl jM rfl
theorem AK {b:Nat}:(Instr.fieldAt 74 (.pointer (some ⟨b,off,none⟩)) 3).run prog w=.ok (.pointer (some ⟨b,off+3,none⟩)) w:=aP 71 3 underlying74 rfl vD rfl
theorem aBi {b len:Nat} (h0:0<=i) (h1:i < len):(Instr.indexAt 37 (.slice (some ⟨b,off,none⟩) len cap) (.int k i)).run prog w=.ok (.pointer (some ⟨b,off+i.toNat*1,none⟩)) w:=iG underlying37 oY h0 h1
theorem OZ {b len:Nat} (h0:0<=i) (h1:i < len):(Instr.indexAt 43 (.slice (some ⟨b,off,none⟩) len cap) (.int k i)).run prog w=.ok (.pointer (some ⟨b,off+i.toNat*4,none⟩)) w:=iG underlying43 qS h0 h1
theorem aBh {b len:Nat} (h0:0<=i) (h1:i < len):(Instr.indexAt 44 (.slice (some ⟨b,off,none⟩) len cap) (.int k i)).run prog w=.ok (.pointer (some ⟨b,off+i.toNat*4,none⟩)) w:=iG underlying44 nD h0 h1
theorem ML {a:Addr} {v:Z} (h:w.cell? a=some v):(Instr.loadAt 3 (.pointer (some a))).run prog w=.ok v w:=kH underlying3 rfl h
theorem tE {a:Addr} {v:Z} (h:w.cell? a=some v):(Instr.loadAt 42 (.pointer (some a))).run prog w=.ok v w:=kH underlying42 rfl h
theorem aKp {a:Addr} {v:Z} (h:w.cell? a=some v):(Instr.loadAt 5 (.pointer (some a))).run prog w=.ok v w:=kH underlying5 rfl h
theorem aBg {a:Addr} {v:Z} (h:w.cell? a=some v):(Instr.loadAt 71 (.pointer (some a))).run prog w=.ok v w:=kH underlying71 rfl h
theorem WC {x y:Operand} {a b:Bool}:(do eqGuard .neq 4 x y (.bool a) (.bool b);binOp .neq 4 (.bool a) (.bool b)).run prog w=.ok (.bool (a != b)) w:=AJ underlying4
theorem rG {x y:Operand} {t:TypeId} {v:Z}:V prog (do eqGuard .eql 94 x y (.iface t v) .nilIface;binOp .eql 94 (.iface t v) .nilIface) w K↔K (.bool false) w:=V.iff (CW underlying94)
theorem HC {c:Nat}:V prog (Builtin.len_ #[107] ty #[.slice a n c]) w K↔K (.int .i64 n) w:=V.iff (lU underlying107)
theorem HB {c:Nat}:V prog (Builtin.len_ #[132] ty #[.slice a n c]) w K↔K (.int .i64 n) w:=V.iff (lU underlying132)
theorem aDp {c:Nat}:V prog (Builtin.len_ #[22] ty #[.slice a n c]) w K↔K (.int .i64 n) w:=V.iff (lU underlying22)
theorem aDo {c:Nat}:V prog (Builtin.len_ #[24] ty #[.slice a n c]) w K↔K (.int .i64 n) w:=V.iff (lU underlying24)
theorem aDn {c:Nat}:V prog (Builtin.len_ #[37] ty #[.slice a n c]) w K↔K (.int .i64 n) w:=V.iff (lU underlying37)
theorem QR {c:Nat}:V prog (Builtin.len_ #[42] ty #[.slice a n c]) w K↔K (.int .i64 n) w:=V.iff (lU underlying42)
theorem aDm {c:Nat}:V prog (Builtin.len_ #[71] ty #[.slice a n c]) w K↔K (.int .i64 n) w:=V.iff (lU underlying71)
theorem ZR {x y:Operand} {a b:Bool}:V prog (do eqGuard .neq 4 x y (.bool a) (.bool b);binOp .neq 4 (.bool a) (.bool b)) w K↔K (.bool (a != b)) w:=V.iff (AJ underlying4)
theorem OC {x y:Operand} {t:TypeId} {v:Z}:V prog (do eqGuard .neq 94 x y (.iface t v) .nilIface;binOp .neq 94 (.iface t v) .nilIface) w K↔K (.bool true) w:=V.iff (gR underlying94)
theorem ZP {t:TypeId} {v:Z}:V prog (Instr.typeAssert (.iface t v) x 161 true) w K↔K (if t=161 then .tuple #[v,.bool true] else .tuple #[(.agg #[(.int .i64 0),(.int .i32 0)]),.bool false]) w:=V.iff (zS underlying161 rfl uJ)
theorem ZO {t:TypeId} {v:Z}:V prog (Instr.typeAssert (.iface t v) x 164 true) w K↔K (if t=164 then .tuple #[v,.bool true] else .tuple #[(.agg #[]),.bool false]) w:=V.iff (zS underlying164 rfl DQ)
theorem ZN {t:TypeId} {v:Z}:V prog (Instr.typeAssert (.iface t v) x 222 true) w K↔K (if t=222 then .tuple #[v,.bool true] else .tuple #[(.agg #[(.int .i64 0),(.int .i64 0)]),.bool false]) w:=V.iff (zS underlying222 rfl DP)
theorem ZM {t:TypeId} {v:Z}:V prog (Instr.typeAssert (.iface t v) x 224 true) w K↔K (if t=224 then .tuple #[v,.bool true] else .tuple #[(.agg #[(.int .i64 0),(.int .i64 0),(.int .i64 0)]),.bool false]) w:=V.iff (zS underlying224 rfl DO)
theorem ZL {t:TypeId} {v:Z}:V prog (Instr.typeAssert (.iface t v) x 226 true) w K↔K (if t=226 then .tuple #[v,.bool true] else .tuple #[(.agg #[(.int .i64 0),(.int .i64 0),(.int .i64 0),(.int .i64 0)]),.bool false]) w:=V.iff (zS underlying226 rfl DN)
theorem ZK {t:TypeId} {v:Z}:V prog (Instr.typeAssert (.iface t v) x 232 true) w K↔K (if t=232 then .tuple #[v,.bool true] else .tuple #[(.agg #[(.int .i64 0),(.int .i64 0)]),.bool false]) w:=V.iff (zS underlying232 rfl DK)
theorem ZJ {t:TypeId} {v:Z}:V prog (Instr.typeAssert (.iface t v) x 242 true) w K↔K (if t=242 then .tuple #[v,.bool true] else .tuple #[(.agg #[(.int .i64 0),(.int .i64 0),(.int .i64 0),(.int .i64 0)]),.bool false]) w:=V.iff (zS underlying242 rfl DJ)
theorem aJy:XA prog 107 1:=⟨_,_,_,underlying107,NG⟩
theorem kQ:XA prog 116 1:=⟨_,_,_,underlying116,jM⟩
theorem jV:XA prog 117 1:=⟨_,_,_,underlying117,mP⟩
theorem CE:XA prog 132 1:=⟨_,_,_,underlying132,BM⟩
theorem OP:XA prog 22 1:=⟨_,_,_,underlying22,aJg⟩
theorem EL:XA prog 24 5:=⟨_,_,_,underlying24,mF⟩
theorem US:XA prog 292 1:=⟨_,_,_,underlying292,aCm⟩
theorem kE:XA prog 37 1:=⟨_,_,_,underlying37,oY⟩
theorem aM:XA prog 42 1:=⟨_,_,_,underlying42,fX⟩
theorem lH:XA prog 43 4:=⟨_,_,_,underlying43,qS⟩
theorem iA:XA prog 44 4:=⟨_,_,_,underlying44,nD⟩
theorem aPt:XA prog 50 4:=⟨_,_,_,underlying50,YA⟩
theorem iZ:XA prog 71 3:=⟨_,_,_,underlying71,mE⟩
theorem nA:XA prog 81 1:=⟨_,_,_,underlying81,PT⟩
theorem qI:XA prog 99 4:=⟨_,_,_,underlying99,xT⟩
theorem CD:XE prog 107 111 8:=⟨_,underlying107,NG,rfl⟩
theorem LY:XE prog 116 42 24:=⟨_,underlying116,jM,rfl⟩
theorem CC:XE prog 132 37 24:=⟨_,underlying132,BM,rfl⟩
theorem UR:XE prog 22 99 24:=⟨_,underlying22,aJg,rfl⟩
theorem LX:XE prog 292 9 16:=⟨_,underlying292,aCm,rfl⟩
theorem wM:XE prog 37 21 4:=⟨_,underlying37,oY,rfl⟩
theorem aZ:XE prog 42 3 8:=⟨_,underlying42,fX,rfl⟩
theorem aIo:XE prog 81 94 16:=⟨_,underlying81,PT,rfl⟩
theorem aLq:∃ d z by_,Program.underlying prog 161=some d/\nG d=true/\fH prog 161 z 2 by_:=⟨_,_,_,underlying161,rfl,uJ⟩
theorem DI:∃ d z by_,Program.underlying prog 180=some d/\nG d=true/\fH prog 180 z 4 by_:=⟨_,_,_,underlying180,rfl,qS⟩
theorem aLp:∃ d z by_,Program.underlying prog 228=some d/\nG d=true/\fH prog 228 z 1 by_:=⟨_,_,_,underlying228,rfl,DM⟩
theorem aLo:∃ d z by_,Program.underlying prog 230=some d/\nG d=true/\fH prog 230 z 2 by_:=⟨_,_,_,underlying230,rfl,DL⟩
theorem aLn:∃ d z by_,Program.underlying prog 254=some d/\nG d=true/\fH prog 254 z 4 by_:=⟨_,_,_,underlying254,rfl,xT⟩
theorem aLm:∃ d z by_,Program.underlying prog 290=some d/\nG d=true/\fH prog 290 z 2 by_:=⟨_,_,_,underlying290,rfl,NA⟩
theorem kF:∃ d z by_,Program.underlying prog 46=some d/\nG d=true/\fH prog 46 z 5 by_:=⟨_,_,_,underlying46,rfl,mF⟩
theorem gU:∃ d z by_,Program.underlying prog 70=some d/\nG d=true/\fH prog 70 z 3 by_:=⟨_,_,_,underlying70,rfl,mE⟩
theorem lV:∃ d z by_,Program.underlying prog 74=some d/\nG d=true/\fH prog 74 z 4 by_:=⟨_,_,_,underlying74,rfl,nD⟩
theorem PN:∃ d z by_,Program.underlying prog 83=some d/\nG d=true/\fH prog 83 z 3 by_:=⟨_,_,_,underlying83,rfl,vB⟩
theorem eG:L1 prog 107:=⟨_,underlying107,rfl⟩
theorem fO:L1 prog 111:=⟨_,underlying111,rfl⟩
theorem eW:L1 prog 116:=⟨_,underlying116,rfl⟩
theorem eV:L1 prog 117:=⟨_,underlying117,rfl⟩
theorem eF:L1 prog 132:=⟨_,underlying132,rfl⟩
theorem eY:L1 prog 21:=⟨_,underlying21,rfl⟩
theorem fN:L1 prog 210:=⟨_,underlying210,rfl⟩
theorem gF:L1 prog 24:=⟨_,underlying24,rfl⟩
theorem gV:L1 prog 26:=⟨_,underlying26,rfl⟩
theorem fM:L1 prog 267:=⟨_,underlying267,rfl⟩
theorem aF:L1 prog 3:=⟨_,underlying3,rfl⟩
theorem iX:L1 prog 314:=⟨_,underlying314,rfl⟩
theorem iW:L1 prog 316:=⟨_,underlying316,rfl⟩
theorem iM:L1 prog 37:=⟨_,underlying37,rfl⟩
theorem jZ:L1 prog 4:=⟨_,underlying4,rfl⟩
theorem bJ:L1 prog 42:=⟨_,underlying42,rfl⟩
theorem iB:L1 prog 43:=⟨_,underlying43,rfl⟩
theorem fS:L1 prog 44:=⟨_,underlying44,rfl⟩
theorem mD:L1 prog 48:=⟨_,underlying48,rfl⟩
theorem oV:L1 prog 5:=⟨_,underlying5,rfl⟩
theorem lX:L1 prog 50:=⟨_,underlying50,rfl⟩
theorem fT:L1 prog 71:=⟨_,underlying71,rfl⟩
theorem jH:L1 prog 81:=⟨_,underlying81,rfl⟩
theorem qQ:L1 prog 9:=⟨_,underlying9,rfl⟩
theorem lW:L1 prog 94:=⟨_,underlying94,rfl⟩
theorem oB:L1 prog 99:=⟨_,underlying99,rfl⟩
theorem bO:FA prog 109 0 0:=⟨λ_ _ _=>aP 26 0 underlying109 rfl aRo rfl⟩
theorem cD:FA prog 109 1 1:=⟨λ_ _ _=>aP 48 1 underlying109 rfl aRn rfl⟩
theorem bB:FA prog 109 2 2:=⟨λ_ _ _=>aP 107 2 underlying109 rfl NH rfl⟩
theorem cC:FA prog 109 3 3:=⟨λ_ _ _=>aP 3 3 underlying109 rfl fX rfl⟩
theorem bV:FA prog 109 4 4:=⟨λ_ _ _=>aP 3 4 underlying109 rfl fX rfl⟩
theorem bU:FA prog 114 0 0:=⟨λ_ _ _=>aP 3 0 underlying114 rfl fX rfl⟩
theorem cG:FA prog 114 1 1:=⟨λ_ _ _=>aP 3 1 underlying114 rfl fX rfl⟩
theorem cB:FA prog 114 2 2:=⟨λ_ _ _=>aP 3 2 underlying114 rfl fX rfl⟩
theorem cF:FA prog 114 3 3:=⟨λ_ _ _=>aP 74 3 underlying114 rfl nD rfl⟩
theorem bN:FA prog 114 4 7:=⟨λ_ _ _=>aP 37 7 underlying114 rfl BM rfl⟩
theorem bI:FA prog 114 5 8:=⟨λ_ _ _=>aP 37 8 underlying114 rfl BM rfl⟩
theorem bT:FA prog 125 0 0:=⟨λ_ _ _=>aP 50 0 underlying125 rfl YB rfl⟩
theorem bG:FA prog 134 1 1:=⟨λ_ _ _=>aP 24 1 underlying134 rfl aJi rfl⟩
theorem bE:FA prog 134 2 2:=⟨λ_ _ _=>aP 132 2 underlying134 rfl YC rfl⟩
theorem cA:FA prog 161 0 0:=⟨λ_ _ _=>aP 3 0 underlying161 rfl fX rfl⟩
theorem bZ:FA prog 161 1 1:=⟨λ_ _ _=>aP 21 1 underlying161 rfl oY rfl⟩
theorem bS:FA prog 180 0 0:=⟨λ_ _ _=>aP 9 0 underlying180 rfl aCm rfl⟩
theorem bK:FA prog 180 1 1:=⟨λ_ _ _=>aP 3 1 underlying180 rfl fX rfl⟩
theorem bA:FA prog 180 2 2:=⟨λ_ _ _=>aP 42 2 underlying180 rfl jM rfl⟩
theorem bD:FA prog 180 3 3:=⟨λ_ _ _=>aP 3 3 underlying180 rfl fX rfl⟩
theorem bC:FA prog 220 0 0:=⟨λ_ _ _=>aP 46 0 underlying220 rfl mF rfl⟩
theorem bM:FA prog 220 1 5:=⟨λ_ _ _=>aP 74 5 underlying220 rfl nD rfl⟩
theorem cE:FA prog 220 2 9:=⟨λ_ _ _=>aP 42 9 underlying220 rfl jM rfl⟩
theorem bL:FA prog 220 3 10:=⟨λ_ _ _=>aP 116 10 underlying220 rfl aLz rfl⟩
theorem cL:FA prog 220 4 11:=⟨λ_ _ _=>aP 117 11 underlying220 rfl YD rfl⟩
theorem bY:FA prog 220 5 12:=⟨λ_ _ _=>aP 117 12 underlying220 rfl YD rfl⟩
theorem cS:FA prog 222 0 0:=⟨λ_ _ _=>aP 3 0 underlying222 rfl fX rfl⟩
theorem cR:FA prog 222 1 1:=⟨λ_ _ _=>aP 3 1 underlying222 rfl fX rfl⟩
theorem cK:FA prog 224 0 0:=⟨λ_ _ _=>aP 3 0 underlying224 rfl fX rfl⟩
theorem cQ:FA prog 224 1 1:=⟨λ_ _ _=>aP 3 1 underlying224 rfl fX rfl⟩
theorem cP:FA prog 224 2 2:=⟨λ_ _ _=>aP 3 2 underlying224 rfl fX rfl⟩
theorem cO:FA prog 226 0 0:=⟨λ_ _ _=>aP 3 0 underlying226 rfl fX rfl⟩
theorem cJ:FA prog 226 1 1:=⟨λ_ _ _=>aP 3 1 underlying226 rfl fX rfl⟩
theorem cI:FA prog 226 2 2:=⟨λ_ _ _=>aP 3 2 underlying226 rfl fX rfl⟩
theorem cH:FA prog 226 3 3:=⟨λ_ _ _=>aP 3 3 underlying226 rfl fX rfl⟩
theorem bX:FA prog 228 0 0:=⟨λ_ _ _=>aP 3 0 underlying228 rfl fX rfl⟩
theorem cN:FA prog 230 0 0:=⟨λ_ _ _=>aP 3 0 underlying230 rfl fX rfl⟩
theorem bW:FA prog 230 1 1:=⟨λ_ _ _=>aP 3 1 underlying230 rfl fX rfl⟩
theorem cY:FA prog 232 0 0:=⟨λ_ _ _=>aP 3 0 underlying232 rfl fX rfl⟩
theorem cX:FA prog 232 1 1:=⟨λ_ _ _=>aP 3 1 underlying232 rfl fX rfl⟩
theorem cZ:FA prog 235 0 0:=⟨λ_ _ _=>aP 3 0 underlying235 rfl fX rfl⟩
theorem dH:FA prog 235 1 1:=⟨λ_ _ _=>aP 3 1 underlying235 rfl fX rfl⟩
theorem dG:FA prog 235 2 2:=⟨λ_ _ _=>aP 42 2 underlying235 rfl jM rfl⟩
theorem dF:FA prog 237 0 0:=⟨λ_ _ _=>aP 3 0 underlying237 rfl fX rfl⟩
theorem dM:FA prog 237 1 1:=⟨λ_ _ _=>aP 3 1 underlying237 rfl fX rfl⟩
theorem dE:FA prog 237 2 2:=⟨λ_ _ _=>aP 42 2 underlying237 rfl jM rfl⟩
theorem dD:FA prog 239 0 0:=⟨λ_ _ _=>aP 3 0 underlying239 rfl fX rfl⟩
theorem dC:FA prog 242 0 0:=⟨λ_ _ _=>aP 3 0 underlying242 rfl fX rfl⟩
theorem dL:FA prog 242 1 1:=⟨λ_ _ _=>aP 3 1 underlying242 rfl fX rfl⟩
theorem dK:FA prog 242 2 2:=⟨λ_ _ _=>aP 3 2 underlying242 rfl fX rfl⟩
theorem dJ:FA prog 242 3 3:=⟨λ_ _ _=>aP 3 3 underlying242 rfl fX rfl⟩
theorem bH:FA prog 252 0 0:=⟨λ_ _ _=>aP 71 0 underlying252 rfl vD rfl⟩
theorem dB:FA prog 252 1 1:=⟨λ_ _ _=>aP 42 1 underlying252 rfl jM rfl⟩
theorem dQ:FA prog 252 2 2:=⟨λ_ _ _=>aP 3 2 underlying252 rfl fX rfl⟩
theorem dA:FA prog 252 3 3:=⟨λ_ _ _=>aP 42 3 underlying252 rfl jM rfl⟩
theorem dP:FA prog 252 4 4:=⟨λ_ _ _=>aP 3 4 underlying252 rfl fX rfl⟩
theorem dY:FA prog 254 0 0:=⟨λ_ _ _=>aP 3 0 underlying254 rfl fX rfl⟩
theorem cU:FA prog 254 1 1:=⟨λ_ _ _=>aP 3 1 underlying254 rfl fX rfl⟩
theorem dO:FA prog 254 2 2:=⟨λ_ _ _=>aP 3 2 underlying254 rfl fX rfl⟩
theorem dX:FA prog 254 3 3:=⟨λ_ _ _=>aP 3 3 underlying254 rfl fX rfl⟩
theorem cW:FA prog 266 0 0:=⟨λ_ _ _=>aP 4 0 underlying266 rfl mP rfl⟩
theorem cV:FA prog 266 1 1:=⟨λ_ _ _=>aP 4 1 underlying266 rfl mP rfl⟩
theorem eQ:FA prog 276 0 0:=⟨λ_ _ _=>aP 3 0 underlying276 rfl fX rfl⟩
theorem eO:FA prog 276 3 3:=⟨λ_ _ _=>aP 3 3 underlying276 rfl fX rfl⟩
theorem eB:FA prog 276 4 4:=⟨λ_ _ _=>aP 42 4 underlying276 rfl jM rfl⟩
theorem eM:FA prog 290 0 0:=⟨λ_ _ _=>aP 5 0 underlying290 rfl aLs rfl⟩
theorem eJ:FA prog 290 1 1:=⟨λ_ _ _=>aP 5 1 underlying290 rfl aLs rfl⟩
theorem fR:FA prog 46 0 0:=⟨λ_ _ _=>aP 9 0 underlying46 rfl aCm rfl⟩
theorem eE:FA prog 46 1 1:=⟨λ_ _ _=>aP 42 1 underlying46 rfl jM rfl⟩
theorem dI:FA prog 46 2 2:=⟨λ_ _ _=>aP 43 2 underlying46 rfl PW rfl⟩
theorem bF:FA prog 46 3 3:=⟨λ_ _ _=>aP 44 3 underlying46 rfl PV rfl⟩
theorem fA:FA prog 46 4 4:=⟨λ_ _ _=>aP 42 4 underlying46 rfl jM rfl⟩
theorem aT:FA prog 70 0 0:=⟨λ_ _ _=>aP 3 0 underlying70 rfl fX rfl⟩
theorem aR:FA prog 70 1 1:=⟨λ_ _ _=>aP 3 1 underlying70 rfl fX rfl⟩
theorem gJ:FA prog 70 2 2:=⟨λ_ _ _=>aP 3 2 underlying70 rfl fX rfl⟩
theorem dR:FA prog 74 0 0:=⟨λ_ _ _=>aP 42 0 underlying74 rfl jM rfl⟩
theorem eX:FA prog 74 1 1:=⟨λ_ _ _=>aP 3 1 underlying74 rfl fX rfl⟩
theorem gI:FA prog 74 2 2:=⟨λ_ _ _=>aP 42 2 underlying74 rfl jM rfl⟩
theorem dU:FA prog 74 3 3:=⟨λ_ _ _=>aP 71 3 underlying74 rfl vD rfl⟩
theorem jT:FA prog 83 0 0:=⟨λ_ _ _=>aP 3 0 underlying83 rfl fX rfl⟩
theorem hY:FA prog 83 1 1:=⟨λ_ _ _=>aP 3 1 underlying83 rfl fX rfl⟩
theorem eZ:FA prog 83 2 2:=⟨λ_ _ _=>aP 81 2 underlying83 rfl aJh rfl⟩
theorem jS:FA prog 91 0 0:=⟨λ_ _ _=>aP 3 0 underlying91 rfl fX rfl⟩
theorem iY:FA prog 91 1 1:=⟨λ_ _ _=>aP 3 1 underlying91 rfl fX rfl⟩
theorem aNm:BD prog 109 [(.pointer none),(.pointer none),(.slice none 0 0),(.int .i64 0),(.int .i64 0)]:=⟨_,_,underlying109,aMa,λw=>by kernel_rfl⟩
theorem aNl:BD prog 125 [(.slice none 0 0)]:=⟨_,_,underlying125,aLy,λw=>by kernel_rfl⟩
theorem ZC:BD prog 127 [(.int .i64 0),(.int .i64 0),(.int .i64 0),(.bool false),(.slice none 0 0)]:=⟨_,_,underlying127,aLx,λw=>by kernel_rfl⟩
theorem aNk:BD prog 134 [(.pointer none),(.slice none 0 0),(.slice none 0 0),(.slice none 0 0),(.slice none 0 0)]:=⟨_,_,underlying134,aLw,λw=>by kernel_rfl⟩
theorem yL:BD prog 161 [(.int .i64 0),(.int .i32 0)]:=⟨_,_,underlying161,uJ,λw=>by kernel_rfl⟩
theorem NY:BD prog 164 []:=⟨_,_,underlying164,DQ,λw=>by kernel_rfl⟩
theorem ZB:BD prog 180 [(.string ByteArray.empty),(.int .i64 0),(.slice none 0 0),(.int .i64 0)]:=⟨_,_,underlying180,qS,λw=>by kernel_rfl⟩
theorem aNj:BD prog 193 [(.int .i64 0),(.slice none 0 0)]:=⟨_,_,underlying193,aLv,λw=>by kernel_rfl⟩
theorem NX:BD prog 222 [(.int .i64 0),(.int .i64 0)]:=⟨_,_,underlying222,DP,λw=>by kernel_rfl⟩
theorem NW:BD prog 224 [(.int .i64 0),(.int .i64 0),(.int .i64 0)]:=⟨_,_,underlying224,DO,λw=>by kernel_rfl⟩
theorem aNi:BD prog 226 [(.int .i64 0),(.int .i64 0),(.int .i64 0),(.int .i64 0)]:=⟨_,_,underlying226,DN,λw=>by kernel_rfl⟩
theorem aNh:BD prog 228 [(.int .i64 0)]:=⟨_,_,underlying228,DM,λw=>by kernel_rfl⟩
theorem aNg:BD prog 230 [(.int .i64 0),(.int .i64 0)]:=⟨_,_,underlying230,DL,λw=>by kernel_rfl⟩
theorem aNf:BD prog 232 [(.int .i64 0),(.int .i64 0)]:=⟨_,_,underlying232,DK,λw=>by kernel_rfl⟩
theorem aNe:BD prog 235 [(.int .i64 0),(.int .i64 0),(.slice none 0 0)]:=⟨_,_,underlying235,NE,λw=>by kernel_rfl⟩
theorem aNd:BD prog 237 [(.int .i64 0),(.int .i64 0),(.slice none 0 0)]:=⟨_,_,underlying237,ND,λw=>by kernel_rfl⟩
theorem aNc:BD prog 239 [(.int .i64 0)]:=⟨_,_,underlying239,NC,λw=>by kernel_rfl⟩
theorem nM:BD prog 242 [(.int .i64 0),(.int .i64 0),(.int .i64 0),(.int .i64 0)]:=⟨_,_,underlying242,DJ,λw=>by kernel_rfl⟩
theorem ZA:BD prog 252 [(.slice none 0 0),(.slice none 0 0),(.int .i64 0),(.slice none 0 0),(.int .i64 0)]:=⟨_,_,underlying252,aLu,λw=>by kernel_rfl⟩
theorem aNb:BD prog 266 [(.bool false),(.bool false)]:=⟨_,_,underlying266,aLt,λw=>by kernel_rfl⟩
theorem aNa:BD prog 276 [(.int .i64 0),(.int .i64 0),(.int .i64 0),(.int .i64 0),(.slice none 0 0)]:=⟨_,_,underlying276,NB,λw=>by kernel_rfl⟩
theorem YZ:BD prog 46 [(.string ByteArray.empty),(.slice none 0 0),(.slice none 0 0),(.slice none 0 0),(.slice none 0 0)]:=⟨_,_,underlying46,mF,λw=>by kernel_rfl⟩
theorem aSa:BD prog 54 [(.int .i64 0),(.int .i64 0),(.int .i64 0),(.int .i64 0)]:=⟨_,_,underlying54,YA,λw=>by kernel_rfl⟩
theorem iK:BD prog 70 [(.int .i64 0),(.int .i64 0),(.int .i64 0)]:=⟨_,_,underlying70,mE,λw=>by kernel_rfl⟩
theorem GX:BD prog 74 [(.slice none 0 0),(.int .i64 0),(.slice none 0 0),(.slice none 0 0)]:=⟨_,_,underlying74,nD,λw=>by kernel_rfl⟩
theorem BT:BD prog 76 [(.int .i64 0),(.int .i64 0)]:=⟨_,_,underlying76,vC,λw=>by kernel_rfl⟩
theorem aJo:BD prog 83 [(.int .i64 0),(.int .i64 0),(.slice none 0 0)]:=⟨_,_,underlying83,vB,λw=>by kernel_rfl⟩
theorem aRz:BD prog 91 [(.int .i64 0),(.int .i64 0)]:=⟨_,_,underlying91,PU,λw=>by kernel_rfl⟩
theorem pN:SA prog 161 2:=⟨_,_,uJ,by decide⟩
theorem rY:SA prog 164 0:=⟨_,_,DQ,by decide⟩
theorem qM:SA prog 180 4:=⟨_,_,qS,by decide⟩
theorem rX:SA prog 222 2:=⟨_,_,DP,by decide⟩
theorem qL:SA prog 224 3:=⟨_,_,DO,by decide⟩
theorem qK:SA prog 226 4:=⟨_,_,DN,by decide⟩
theorem pM:SA prog 228 1:=⟨_,_,DM,by decide⟩
theorem pL:SA prog 230 2:=⟨_,_,DL,by decide⟩
theorem wU:SA prog 232 2:=⟨_,_,DK,by decide⟩
theorem CQ:SA prog 235 3:=⟨_,_,NE,by decide⟩
theorem CP:SA prog 237 3:=⟨_,_,ND,by decide⟩
theorem CO:SA prog 239 1:=⟨_,_,NC,by decide⟩
theorem wT:SA prog 242 4:=⟨_,_,DJ,by decide⟩
theorem CN:SA prog 276 5:=⟨_,_,NB,by decide⟩
theorem VM:SA prog 290 2:=⟨_,_,NA,by decide⟩
theorem OW:SA prog 46 5:=⟨_,_,mF,by decide⟩
theorem OV:SA prog 70 3:=⟨_,_,mE,by decide⟩
theorem AE:SA prog 74 4:=⟨_,_,nD,by decide⟩
theorem ER:SA prog 76 2:=⟨_,_,vC,by decide⟩
theorem VL:SA prog 83 3:=⟨_,_,vB,by decide⟩
theorem VK:SA prog 91 2:=⟨_,_,PU,by decide⟩
theorem dV:TA prog 161:=TA.mk' underlying161 rfl uJ
theorem iU:TA prog 164:=TA.mk' underlying164 rfl DQ
theorem iC:TA prog 222:=TA.mk' underlying222 rfl DP
theorem iQ:TA prog 224:=TA.mk' underlying224 rfl DO
theorem jG:TA prog 226:=TA.mk' underlying226 rfl DN
theorem iH:TA prog 228:=TA.mk' underlying228 rfl DM
theorem jF:TA prog 230:=TA.mk' underlying230 rfl DL
theorem lE:TA prog 232:=TA.mk' underlying232 rfl DK
theorem lP:TA prog 235:=TA.mk' underlying235 rfl NE
theorem lO:TA prog 237:=TA.mk' underlying237 rfl ND
theorem lN:TA prog 239:=TA.mk' underlying239 rfl NC
theorem jP:TA prog 242:=TA.mk' underlying242 rfl DJ
theorem pH:TA prog 276:=TA.mk' underlying276 rfl NB
theorem uS:TA prog 91:=TA.mk' underlying91 rfl PU
theorem DD:MI prog 161:=⟨_,underlying161,rfl⟩
theorem MW:MI prog 164:=⟨_,underlying164,rfl⟩
theorem MV:MI prog 222:=⟨_,underlying222,rfl⟩
theorem MU:MI prog 224:=⟨_,underlying224,rfl⟩
theorem aLg:MI prog 226:=⟨_,underlying226,rfl⟩
theorem XI:MI prog 228:=⟨_,underlying228,rfl⟩
theorem XH:MI prog 230:=⟨_,underlying230,rfl⟩
theorem aLf:MI prog 232:=⟨_,underlying232,rfl⟩
theorem aLe:MI prog 235:=⟨_,underlying235,rfl⟩
theorem aLd:MI prog 237:=⟨_,underlying237,rfl⟩
theorem aLc:MI prog 239:=⟨_,underlying239,rfl⟩
theorem nK:MI prog 242:=⟨_,underlying242,rfl⟩
theorem aLb:MI prog 276:=⟨_,underlying276,rfl⟩
theorem aRh:MI prog 91:=⟨_,underlying91,rfl⟩
end Go.Proofs.YtgkkecladbmjkaaGreatDoor
