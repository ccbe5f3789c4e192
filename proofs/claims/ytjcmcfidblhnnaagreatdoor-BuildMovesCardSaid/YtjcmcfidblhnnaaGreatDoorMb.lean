/- The laws of single operations in the calculus of verification conditions, over any program; readings of slices; what a call leaves as it was. -/
import Derived.Test.YtjcmcfidblhnnaaGreatDoorMa
import Derived.OwnWalk
import Derived.Below
import Derived.ArgAppend
import Derived.Test.YtjcmcfidblhnnaaGreatDoorProg
import Derived.KernelRfl
namespace Go.Vc
abbrev i64 (n:Int):Value:=.int .i64 n
abbrev i32 (n:Int):Value:=.int .i32 n
abbrev vb (b:Bool):Value:=.bool b
abbrev aZ:Value:=.slice none 0 0
abbrev gB (w w':World) (r:Option Nat):Prop:=w.grownBy w' r
section
variable {P:Program} {w:World} {K:Value->World->Prop}
theorem V.iff {s:Sem Value} {v:Value} {w':World} (h:s.run P w=.ok v w'):V P s w K↔K v w':=
 ⟨λ⟨_,_,h',hk⟩=>by rw [h] at h';cases h';exact hk,λhk=>⟨v,w',h,hk⟩⟩
theorem U.iff {s:Sem Unit} {w':World} (h:s.run P w=.ok () w'):U P s w K↔K undef w':=
 ⟨λ⟨_,h',hk⟩=>by rw [h] at h';cases h';exact hk,λhk=>⟨w',h,hk⟩⟩
theorem V.ok {s:Sem Value} {v:Value} {w':World} (h:s.run P w=.ok v w') (hk:K v w'):V P s w K:=⟨v,w',h,hk⟩
theorem U.ok {s:Sem Unit} {w':World} (h:s.run P w=.ok () w') (hk:K undef w'):U P s w K:=⟨w',h,hk⟩
theorem aB.mono {f:FuncId} {args:Array Value} {R:Value->World->Prop} (h:aB P f args w R) (hk:∀ v w',R v w'->K v w'):aB P f args w K:=
 ⟨⟨h.ex.1,Calls.mono h.ex.2 λ_ _ ⟨v,he,hr⟩=>⟨v,he,hk v _ hr⟩⟩⟩
theorem aB.of_calls {f:FuncId} {fn:Func} {c:Code} {args:Array Value} (hf:P.funcs[f]?=some fn) (hname:(fn.name == "runtime.NumGoroutine")=false) (hb:fn.body=some c)
  (h:Calls P f args w λe w'=>∃ v,e=.returned v/\K v w'):aB P f args w K:=by
 refine ⟨⟨λargs w=>?_,h⟩⟩;have hname':¬ fn.name = "runtime.NumGoroutine" := by simpa using hname
 simp [callFunc,program,Sem.run,hf,hname',hb]
theorem bCg {P:Program} {f:FuncId} {fn:Func} {args:List Value} {w:World} {R:Value->World->Prop} {D:Prop} (hm:P.follows .mixedOrders=true) (ann:bV) (hf:P.funcs[f]?=some fn)
  (hb:(!(fn.name == "runtime.NumGoroutine")&&fn.body.isSome&&(ok fn.ntmps ann (fn.body.getD .skip)&&FY fn.ntmps fn.results.toList&&Nat.ble args.length fn.ntmps))=true)
  (hD:D=vc P ann (fn.body.getD .skip) (aZz P fn.results.toList R) (wA args) w) (h:D):aB P f args.toArray w R:=by
 simp only [Bool.and_eq_true,Bool.not_eq_true'] at hb;obtain ⟨⟨h1,h2⟩,h3,h4⟩:=hb
 have hbody:fn.body=some (fn.body.getD .skip):=by
  cases e:fn.body with
  | none=>rw [e] at h2;cases h2
  | some c=>rfl
 refine aB.of_calls hf h1 hbody (MG ann hm hf hbody (by simp only [Bool.and_eq_true];exact ⟨h3,h4⟩) (hD▸h))
theorem aI.mk {b:Bool} {x y:Prop} (h1:b=true->x) (h2:b=false->y):aI (.bool b) x y:=⟨b,rfl,h1,h2⟩
theorem bK {x y:Prop}:aI (.bool true) x y↔x:=⟨λ⟨b,h,h1,_⟩=>by cases h;exact h1 rfl,λh=>⟨true,rfl,λ_=>h,λh=>by cases h⟩⟩
theorem aP {x y:Prop}:aI (.bool false) x y↔y:=⟨λ⟨b,h,_,h2⟩=>by cases h;exact h2 rfl,λh=>⟨false,rfl,(λh=>by cases h),λ_=>h⟩⟩
theorem aD {p:Prop} [Decidable p] {x y:Prop} (h1:p->x) (h2:¬ p->y):aI (.bool (decide p)) x y:=
 ⟨_,rfl,λh=>h1 (of_decide_eq_true h),λh=>h2 (of_decide_eq_false h)⟩
theorem jW {b:Bool} {x y:Value} {L:Value->Prop} (h:L (if b then x else y)):aG (.bool b) x y L:=⟨b,rfl,h⟩
theorem aW {b:Bool} {x y:Value} {L:Value->Prop}:aG (.bool b) x y L↔L (if b then x else y):=⟨λ⟨_,h,hk⟩=>by cases h;exact hk,jW⟩
theorem oU {b want:Bool} {step:(Value->World->Prop)->Prop}:gd (.bool b) want step w K↔if b=want then step K else K undef w:=by
 constructor
 ·rintro ⟨h1,h2⟩;split
  ·rename_i hb;exact h1 (by rw [hb])
  ·rename_i hb;exact h2 (by simpa using hb)
 ·intro h;by_cases hb:b=want
  ·rw [if_pos hb] at h;exact ⟨λ_=>h,λh'=>absurd (by rw [hb]) h'⟩
  ·rw [if_neg hb] at h;exact ⟨λh'=>absurd (by simpa using h') hb,λ_=>h⟩
theorem BB {b want:Bool} {step:(Value->Prop)->Prop} {L:Value->Prop}:EY (.bool b) want step L↔if b=want then step L else L undef:=by
 constructor
 ·rintro ⟨h1,h2⟩;split
  ·rename_i hb;exact h1 (by rw [hb])
  ·rename_i hb;exact h2 (by simpa using hb)
 ·intro h;by_cases hb:b=want
  ·rw [if_pos hb] at h;exact ⟨λ_=>h,λh'=>absurd (by rw [hb]) h'⟩
  ·rw [if_neg hb] at h;exact ⟨λh'=>absurd (by simpa using h') hb,λ_=>h⟩
theorem qV {want:Bool} {step:(Value->World->Prop)->Prop}:gd undef want step w K↔K undef w:=
 ⟨λ⟨_,h2⟩=>h2 (by simp [undef]),λh=>⟨λh'=>by simp [undef] at h',λ_=>h⟩⟩
theorem GR {want:Bool} {step:(Value->Prop)->Prop} {L:Value->Prop}:EY undef want step L↔L undef:=
 ⟨λ⟨_,h2⟩=>h2 (by simp [undef]),λh=>⟨λh'=>by simp [undef] at h',λ_=>h⟩⟩
theorem lU {step:(Value->World->Prop)->Prop}:gd (.bool true) true step w K↔step K:=by rw [oU];simp
theorem oV {step:(Value->World->Prop)->Prop}:gd (.bool false) false step w K↔step K:=by rw [oU];simp
theorem tI {step:(Value->World->Prop)->Prop}:gd (.bool true) false step w K↔K undef w:=by rw [oU];simp
theorem lI {step:(Value->World->Prop)->Prop}:gd (.bool false) true step w K↔K undef w:=by rw [oU];simp
theorem aHa {step:(Value->Prop)->Prop} {L:Value->Prop}:EY (.bool true) true step L↔step L:=by rw [BB];simp
theorem WD {step:(Value->Prop)->Prop} {L:Value->Prop}:EY (.bool false) false step L↔step L:=by rw [BB];simp
theorem SY {step:(Value->Prop)->Prop} {L:Value->Prop}:EY (.bool true) false step L↔L undef:=by rw [BB];simp
theorem SZ {step:(Value->Prop)->Prop} {L:Value->Prop}:EY (.bool false) true step L↔L undef:=by rw [BB];simp
theorem aM.mk' {body:(World->Prop)->World->Prop} (S:World->Prop) (hS:S w.drew) (h:body S w.drew):aM w body:=⟨S,hS,h⟩
theorem aE.ok {S:World->Prop} {s:Sem Value} {v:Value} {L:Value->Prop} (h:∀ w,S w->s.run P w=.ok v w) (hk:L v):aE P S s L:=⟨v,h,hk⟩
end
theorem zU {P:Program} {w:World} {k:IntKind} {t:TypeId} {a b:Int}:(binOp .lss t (.int k a) (.int k b)).run P w=.ok (.bool (decide (a < b))) w:=by simp [binOp,Op.intCmp]
theorem aY {P:Program} {w:World} {K:Value->World->Prop} {k:IntKind} {t:TypeId} {a b:Int}:V P (binOp .lss t (.int k a) (.int k b)) w K↔K (.bool (decide (a < b))) w:=V.iff (by exact zU )
theorem KK {P:Program} {w:World} {k:IntKind} {t:TypeId} {a b:Int}:(binOp .leq t (.int k a) (.int k b)).run P w=.ok (.bool (decide (a<=b))) w:=by simp [binOp,Op.intCmp]
theorem tK {P:Program} {w:World} {K:Value->World->Prop} {k:IntKind} {t:TypeId} {a b:Int}:V P (binOp .leq t (.int k a) (.int k b)) w K↔K (.bool (decide (a<=b))) w:=V.iff (by exact KK )
theorem bHn {P:Program} {w:World} {k:IntKind} {t:TypeId} {a b:Int}:(binOp .gtr t (.int k a) (.int k b)).run P w=.ok (.bool (decide (a > b))) w:=by simp [binOp,Op.intCmp]
theorem iR {P:Program} {w:World} {K:Value->World->Prop} {k:IntKind} {t:TypeId} {a b:Int}:V P (binOp .gtr t (.int k a) (.int k b)) w K↔K (.bool (decide (a > b))) w:=V.iff (by exact bHn )
theorem wX {P:Program} {w:World} {k:IntKind} {t:TypeId} {a b:Int}:(binOp .geq t (.int k a) (.int k b)).run P w=.ok (.bool (decide (a>=b))) w:=by simp [binOp,Op.intCmp]
theorem kN {P:Program} {w:World} {K:Value->World->Prop} {k:IntKind} {t:TypeId} {a b:Int}:V P (binOp .geq t (.int k a) (.int k b)) w K↔K (.bool (decide (a>=b))) w:=V.iff (by exact wX )
theorem KO {P:Program} {w:World} {k:IntKind} {t:TypeId} {a b:Int}:(binOp .add t (.int k a) (.int k b)).run P w=.ok (.int k (k.wrap (a+b))) w:=by simp [binOp,Op.intArith]
theorem aU {P:Program} {w:World} {K:Value->World->Prop} {k:IntKind} {t:TypeId} {a b:Int}:V P (binOp .add t (.int k a) (.int k b)) w K↔K (.int k (k.wrap (a+b))) w:=V.iff (by exact KO )
theorem eU {P:Program} {w:World} {k:IntKind} {t:TypeId} {a b:Int}:(binOp .sub t (.int k a) (.int k b)).run P w=.ok (.int k (k.wrap (a - b))) w:=by simp [binOp,Op.intArith]
theorem fQ {P:Program} {w:World} {K:Value->World->Prop} {k:IntKind} {t:TypeId} {a b:Int}:V P (binOp .sub t (.int k a) (.int k b)) w K↔K (.int k (k.wrap (a - b))) w:=V.iff (by exact eU )
theorem bHl {P:Program} {w:World} {k:IntKind} {t:TypeId} {a b:Int}:(binOp .mul t (.int k a) (.int k b)).run P w=.ok (.int k (k.wrap (a*b))) w:=by simp [binOp,Op.intArith]
theorem oO {P:Program} {w:World} {K:Value->World->Prop} {k:IntKind} {t:TypeId} {a b:Int}:V P (binOp .mul t (.int k a) (.int k b)) w K↔K (.int k (k.wrap (a*b))) w:=V.iff (by exact bHl )
theorem UT {P:Program} {w:World} {k:IntKind} {t:TypeId} {a b:Int} (h:b≠0):(binOp .quo t (.int k a) (.int k b)).run P w=.ok (.int k (k.wrap (a.tdiv b))) w:=by simp [binOp,Op.intDiv,h]
theorem XH {P:Program} {w:World} {K:Value->World->Prop} {k:IntKind} {t:TypeId} {a b:Int} (h:b≠0):V P (binOp .quo t (.int k a) (.int k b)) w K↔K (.int k (k.wrap (a.tdiv b))) w:=V.iff (by exact UT h)
theorem aEq {P:Program} {w:World} {k:IntKind} {t:TypeId} {a b:Int} (h:b≠0):(binOp .rem t (.int k a) (.int k b)).run P w=.ok (.int k (a.tmod b)) w:=by simp [binOp,Op.intDiv,h]
theorem aZf {P:Program} {w:World} {K:Value->World->Prop} {k:IntKind} {t:TypeId} {a b:Int} (h:b≠0):V P (binOp .rem t (.int k a) (.int k b)) w K↔K (.int k (a.tmod b)) w:=V.iff (by exact aEq h)
theorem CM {P:Program} {w:World} {k:IntKind} {t:TypeId} {x y:Operand} {a b:Int}:(do eqGuard .eql t x y (.int k a) (.int k b);binOp .eql t (.int k a) (.int k b)).run P w=.ok (.bool (decide (a=b))) w:=by simp [eqGuard,binOp,Op.intCmp];rfl
theorem aK {P:Program} {w:World} {K:Value->World->Prop} {k:IntKind} {t:TypeId} {x y:Operand} {a b:Int}:V P (do eqGuard .eql t x y (.int k a) (.int k b);binOp .eql t (.int k a) (.int k b)) w K↔K (.bool (decide (a=b))) w:=V.iff (by exact CM )
theorem rM {P:Program} {w:World} {k:IntKind} {t:TypeId} {x y:Operand} {a b:Int}:(do eqGuard .neq t x y (.int k a) (.int k b);binOp .neq t (.int k a) (.int k b)).run P w=.ok (.bool (decide (a≠b))) w:=by simp [eqGuard,binOp,Op.intCmp,bne];rfl
theorem dB {P:Program} {w:World} {K:Value->World->Prop} {k:IntKind} {t:TypeId} {x y:Operand} {a b:Int}:V P (do eqGuard .neq t x y (.int k a) (.int k b);binOp .neq t (.int k a) (.int k b)) w K↔K (.bool (decide (a≠b))) w:=V.iff (by exact rM )
theorem uY {P:Program} {w:World} {b:Bool}:(Op.unary .not (.bool b)).run P w=.ok (.bool (!b)) w:=by simp [Op.unary]
theorem dK {P:Program} {w:World} {K:Value->World->Prop} {b:Bool}:V P (Op.unary .not (.bool b)) w K↔K (.bool (!b)) w:=V.iff (by exact uY )
theorem nB {P:Program} {w:World} {a b:Value}:(Instr.extract (.tuple #[a,b]) 0).run P w=.ok a w:=by simp [Instr.extract]
theorem gS {P:Program} {w:World} {K:Value->World->Prop} {a b:Value}:V P (Instr.extract (.tuple #[a,b]) 0) w K↔K a w:=V.iff (by exact nB )
theorem nA {P:Program} {w:World} {a b:Value}:(Instr.extract (.tuple #[a,b]) 1).run P w=.ok b w:=by simp [Instr.extract]
theorem gR {P:Program} {w:World} {K:Value->World->Prop} {a b:Value}:V P (Instr.extract (.tuple #[a,b]) 1) w K↔K b w:=V.iff (by exact nA )
theorem UZ {P:Program} {w:World} {a b c:Value}:(Instr.extract (.tuple #[a,b,c]) 0).run P w=.ok a w:=by simp [Instr.extract]
theorem yG {P:Program} {w:World} {K:Value->World->Prop} {a b c:Value}:V P (Instr.extract (.tuple #[a,b,c]) 0) w K↔K a w:=V.iff (by exact UZ )
theorem UY {P:Program} {w:World} {a b c:Value}:(Instr.extract (.tuple #[a,b,c]) 1).run P w=.ok b w:=by simp [Instr.extract]
theorem yF {P:Program} {w:World} {K:Value->World->Prop} {a b c:Value}:V P (Instr.extract (.tuple #[a,b,c]) 1) w K↔K b w:=V.iff (by exact UY )
theorem UX {P:Program} {w:World} {a b c:Value}:(Instr.extract (.tuple #[a,b,c]) 2).run P w=.ok c w:=by simp [Instr.extract]
theorem yE {P:Program} {w:World} {K:Value->World->Prop} {a b c:Value}:V P (Instr.extract (.tuple #[a,b,c]) 2) w K↔K c w:=V.iff (by exact UX )
theorem aC {n:Int} (h1:-9223372036854775808<=n) (h2:n<=9223372036854775807):IntKind.i64.wrap n=n:=by
 simp only [IntKind.wrap_i64];omega
def dA (P:Program) (t:TypeId) (z:Value) (n bytes:Nat):Prop:=(P.info? t).map (λi=>(i.zero,i.size,i.bytes))=some (some z,n,bytes)
section
variable {P:Program} {w:World} {K:Value->World->Prop}
theorem qQ {t:TypeId} {z:Value} {n b:Nat} (h:dA P t z n b):(zeroValue t).run P w=.ok z w:=by
 obtain ⟨i,hi,hz,_⟩:=info_parts h;simp [zeroValue,typeInfo,hi,hz]
theorem gG {t:TypeId} {z:Value} {n b:Nat} (h:dA P t z n b):(sizeOf t).run P w=.ok n w:=by
 obtain ⟨i,hi,_,hn,_⟩:=info_parts h;simp [sizeOf,typeInfo,hi,hn]
theorem uZ {s e ty:TypeId} (hs:P.underlying s=some (.slice e)) {a:Option Addr} {n c:Nat}:(Builtin.len_ #[s] ty #[.slice a n c]).run P w=.ok (.int .i64 n) w:=by
 simp [Builtin.len_,run_underlying hs,goInt]
def VL:TypeDesc->Bool
 | .interface _=>false
 | _=>true
theorem RO {x u:TypeId} {d:TypeDesc} {z:Value} {n b:Nat} (hu:P.underlying u=some d) (hd:VL d=true) (hz:dA P u z n b) {t:TypeId} {v:Value} :
  (Instr.typeAssert (.iface t v) x u true).run P w=.ok (if t=u then .tuple #[v,.bool true] else .tuple #[z,.bool false]) w:=by
 cases d with
 | interface _=>cases hd
 | _=>simp only [Instr.typeAssert,Sem.run_bind,run_underlying hu,Result.andThen_ok]<;>(split<;>simp [*,qQ hz])
theorem aOg {x u:TypeId} {d:TypeDesc} {z:Value} {n b:Nat} (hu:P.underlying u=some d) (hd:VL d=true) (hz:dA P u z n b) :
  (Instr.typeAssert .nilIface x u true).run P w=.ok (.tuple #[z,.bool false]) w:=by
 cases d with
 | interface _=>cases hd
 | _=>simp [Instr.typeAssert,run_underlying hu,qQ hz]
theorem VC {t:TypeId} {z:Value} {n b:Nat} (hz:dA P t z n b):(Instr.alloc t true (.tuple #[])).run P w=.ok (.pointer (some ⟨w.heap.size,0,none⟩)) (w.alloc (.cells z.cells t)):=by
 simp [Instr.alloc,qQ hz,newVar,newRow,newObj,Sem.run]
theorem aYk {t:TypeId} {v:Value}:(Instr.box t v).run P w=.ok (.pointer (some ⟨w.heap.size,0,none⟩)) (w.alloc (.cells v.cells t)):=by
 simp [Instr.box,newVar,newRow,newObj,Sem.run]
theorem lJ (b off n:Nat):(⟨b,off,none⟩:Addr).add n=⟨b,off+n,none⟩:=by
 unfold Addr.add;split
 ·rename_i h;subst h;rfl
 ·rfl
theorem aO {s:TypeId} {fs:Array Field} {f:Nat} (ft:TypeId) (o:Nat) {z:Value} {n by_:Nat} (hs:P.underlying s=some (.struct fs)) (hf:(fs[f]?).map (λfd=>(fd.type,fd.offset))=some (ft,o)) (hi:dA P ft z n by_) (hn:(n == 0)=false) {b off:Nat} :
  (Instr.fieldAt s (.pointer (some ⟨b,off,none⟩)) f).run P w=.ok (.pointer (some ⟨b,off+o,none⟩)) w:=by
 obtain ⟨fd,hfd,he⟩:=Option.map_eq_some_iff.1 hf;simp only [Prod.mk.injEq] at he;obtain ⟨rfl,rfl⟩:=he;have hn':n≠0:=by simpa using hn
 simp [Instr.fieldAt,run_underlying hs,hfd,Instr.sureAddr,fieldPlace,gG hi,hn',lJ]
theorem jO {t e:TypeId} {z:Value} {n by_:Nat} (ht:P.underlying t=some (.slice e)) (hi:dA P e z n by_) {b off len cap:Nat} {k:IntKind} {i:Int} (h0:0<=i) (h1:i < len) :
  (Instr.indexAt t (.slice (some ⟨b,off,none⟩) len cap) (.int k i)).run P w=.ok (.pointer (some ⟨b,off+i.toNat*n,none⟩)) w:=by
 simp [Instr.indexAt,asIntOf,run_underlying ht,h0,h1,gG hi,lJ]
def lQ:TypeDesc->Bool
 | .struct _|.array _ _=>true
 | _=>false
theorem uK {t:TypeId} {d:TypeDesc} (ht:P.underlying t=some d):(isAgg t).run P w=.ok (lQ d) w:=by
 cases d<;>simp [isAgg,run_underlying ht,lQ]
theorem iZ {t:TypeId} {d:TypeDesc} (ht:P.underlying t=some d) (hd:lQ d=false) {a:Addr} {v:Value} (h:w.cell? a=some v) :
  (Instr.loadAt t (.pointer (some a))).run P w=.ok v w:=by
 simp [Instr.loadAt,Instr.sureAddr,loadVar,uK ht,hd,load,Sem.run,h]
theorem wW {b off:Nat} (cs:List Value):∀ (l:List Value) (i:Nat) (acc:Array Value),(∀ j (_:j < l.length),w.cell? ⟨b,off+(i+j),none⟩=l[j]?) ->
  (loadCellsFrom ⟨b,off,none⟩ i l.length acc).run P w=.ok (acc++l.toArray) w
 | [],_,acc,_=>by simp [loadCellsFrom]
 | v::l,i,acc,h=>by
  have h0:=h 0 (by simp);simp only [Nat.add_zero,List.getElem?_cons_zero] at h0;simp only [List.length_cons,loadCellsFrom,load,lJ,Sem.run_bind,Sem.run,h0,Result.andThen_ok]
  rw [wW cs l (i+1) (acc.push v) (λj hj=>by
   have:=h (j+1) (by simp;omega);rw [show i+1+j=i+(j+1) from by omega];simpa using this)]
  simp
theorem mP {t:TypeId} {d:TypeDesc} {z:Value} {n by_:Nat} (ht:P.underlying t=some d) (hd:lQ d=true) (hi:dA P t z n by_) {b off:Nat} {cs:List Value} (hl:cs.length=n)
  (h:∀ j (_:j < cs.length),w.cell? ⟨b,off+j,none⟩=cs[j]?):(Instr.loadAt t (.pointer (some ⟨b,off,none⟩))).run P w=.ok (.agg cs.toArray) w:=by
 subst hl;have:=wW (P:=P) (w:=w) (b:=b) (off:=off) cs cs 0 #[] (by simpa using h);simp [Instr.loadAt,Instr.sureAddr,loadVar,uK ht,hd,gG hi,loadCells,this]
def cO:Value->Bool
 | .agg _|.tuple _=>false
 | _=>true
theorem vR {v:Value} (h:cO v=true):v.cells=#[v]:=by cases v<;>first|rfl|cases h
theorem vO {a:Addr} {v u:Value} (hv:cO v=true) (h:w.cell? a=some u) (hf:w.frozen? a=false):(store a v).run P w=.ok () (w.setCell a v):=by
 cases v<;>first|(simp [store,Sem.run,h,hf];done)|cases hv
theorem mO {t:TypeId} {z:Value} {by_:Nat} (hi:dA P t z 1 by_) {b off:Nat} {v u:Value} (hv:cO v=true) (h:w.cell? ⟨b,off,none⟩=some u) (hf:w.frozen? ⟨b,off,none⟩=false) :
  (Instr.storeAt t (.pointer (some ⟨b,off,none⟩)) v).run P w=.ok () (w.setCell ⟨b,off,none⟩ v):=by
 simp [Instr.storeAt,Instr.sureAddr,storeVar,gG hi,vR hv,storeCells,vO hv h hf,lJ]
theorem wU {t:TypeId}:∀ (l done old:List Value),l.length=old.length->(∀ u∈l,cO u=true) ->
  (storeCells ⟨w.heap.size,0,none⟩ l done.length).run P (w.alloc (.cells (done++old).toArray t))=.ok () (w.alloc (.cells (done++l).toArray t))
 | [],done,[],_,_=>by simp [storeCells]
 | v::l,done,u::old,hl,h1=>by
  have hc:(w.alloc (.cells (done++u::old).toArray t)).cell? ⟨w.heap.size,done.length,none⟩=some u:=by simp
  have hf:(w.alloc (.cells (done++u::old).toArray t)).frozen? ⟨w.heap.size,done.length,none⟩=false:=by simp
  have hset:(w.alloc (.cells (done++u::old).toArray t)).setCell ⟨w.heap.size,done.length,none⟩ v=w.alloc (.cells (done++v::old).toArray t):=by
   simp only [World.setCell,World.alloc]
   congr 1
   apply Array.ext
   ·simp
   ·intro i h1 h2;simp only [Array.getElem_modify,Array.getElem_push];by_cases hi:i < w.heap.size
    ·have:¬ w.heap.size=i:=by omega
     simp [hi,this]
    ·have hi':w.heap.size=i:=by simp at h1;omega
     subst hi';simp
  simp only [storeCells,lJ,Nat.zero_add,Sem.run_bind];rw [vO (h1 v (by simp)) hc hf,Result.andThen_ok,hset];have:=wU (t:=t) l (done++[v]) old (by simpa using hl) (λu hu=>h1 u (by simp [hu]));simpa using this
theorem RP {t t':TypeId} {z:Value} {n by_:Nat} (hi:dA P t z n by_) {old:Array Value} {v:Value} (hn:v.cells.size=n) (ho:old.size=n) (h1:∀ u∈v.cells.toList,cO u=true) :
  (Instr.storeAt t (.pointer (some ⟨w.heap.size,0,none⟩)) v).run P (w.alloc (.cells old t'))=.ok () (w.alloc (.cells v.cells t')):=by
 have:=wU (P:=P) (w:=w) (t:=t') v.cells.toList [] old.toList (by simp [hn,ho]) h1;simp only [List.nil_append,List.length_nil,Array.toArray_toList] at this;simp [Instr.storeAt,Instr.sureAddr,storeVar,gG hi,hn,this]
def ldO (P:Program) (t:TypeId) (a:Addr) (o:Option Value) (w:World) (K:Value->World->Prop):Prop:=
 match o with
 | some v=>K v w
 | none=>V P (Instr.loadAt t (.pointer (some a))) w K
theorem JI {t:TypeId} {z:Value} {n by_:Nat} (hi:dA P t z n by_) (hz:(z.cells.size == n)=true) {v:Value} {K':Value->World->Prop} (hn:v.cells.size=n) (h1:∀ u∈v.cells.toList,cO u=true) :
  V P (Instr.alloc t true (.tuple #[])) w (λp w1=>U P (Instr.storeAt t p v) w1 λ_ w2=>K' p w2)↔K' (.pointer (some ⟨w.heap.size,0,none⟩)) (w.alloc (.cells v.cells t)):=by
 rw [V.iff (VC hi)];exact U.iff (RP hi hn (by simpa using hz) h1)
theorem MD (e:Nat):∀ (l:List Value) (done old:List Value),l.length=old.length->(∀ u∈l,cO u=true) ->
  Instr.fill (λi=>some (i*1,1)) (done++old).toArray ((List.range' done.length l.length).zip l)=some (done++l).toArray
 | [],done,[],_,_=>by simp [Instr.fill]
 | v::l,done,u::old,hl,h1=>by
  have hv:=vR (h1 v (by simp));simp only [List.length_cons,List.range'_succ,List.zip_cons_cons,Instr.fill,hv];have:=MD e l (done++[v]) old (by simpa using hl) (λu hu=>h1 u (by simp [hu]));simp at this ⊢;exact this
theorem HZ {s e:TypeId} {z:Value} {by_:Nat} (hs:P.underlying s=some (.slice e)) (hi:dA P e z 1 by_) (hz:(z.cells.size == 1)=true) (l:List Value) (hl:l.length<=16777216) (h1:∀ u∈l,cO u=true) :
  (Instr.buildSlice s l.length ((List.range' 0 l.length).zip l).toArray).run P w=.ok (.slice (some ⟨w.heap.size,0,none⟩) l.length l.length) (w.alloc (.cells l.toArray e)):=by
 obtain ⟨i,hi',hz',hn,hb⟩:=info_parts hi;have hz1:z.cells.size=1:=by simpa using hz
 by_cases h0:l.length=0
 ·obtain rfl:=List.length_eq_zero_iff.1 h0;have e0:Array.range 0=#[]:=by simp [Array.range]
  simp [Instr.buildSlice,run_underlying hs,sizeOf,typeInfo,hi',Instr.fill,newRow,newObj,Sem.run,e0]
 ·have hf:=MD 0 l [] ((Array.range (l.length*1)).map (λj=>z.cells[j % z.cells.size]!)).toList (by simp) h1;simp only [List.nil_append,List.length_nil,Array.toArray_toList] at hf;have hgt:¬ 16777216 < l.length:=by omega
  simp only [Instr.buildSlice,Sem.run_bind,run_underlying hs,Result.andThen_ok,gG hi];simp only [Nat.mul_one,h0,if_false];rw [if_neg (by simpa using hgt)];simp only [Nat.mul_one] at hf;simp [hf,newRow,newObj,Sem.run,qQ hi]
theorem mJ (s:TypeId) (x y:Value):Op.equal s x y=Op.equalIn (9999+1) s x y:=rfl
theorem CP {s:TypeId} {ms:Array (String × TypeId)} (hs:P.underlying s=some (.interface ms)) (d:Nat) {t:TypeId} {v:Value}:(Op.equalIn (d+1) s (.iface t v) .nilIface).run P w=.ok false w:=by
 simp [Op.equalIn,run_underlying hs]
theorem aEy {s:TypeId} {ms:Array (String × TypeId)} (hs:P.underlying s=some (.interface ms)) (d:Nat):(Op.equalIn (d+1) s .nilIface .nilIface).run P w=.ok true w:=by
 simp [Op.equalIn,run_underlying hs]
theorem RR {s e:TypeId} (hs:P.underlying s=some (.slice e)) (d:Nat) {a:Option Addr} {n c:Nat}:(Op.equalIn (d+1) s (.slice a n c) (.slice none 0 0)).run P w=.ok a.isNone w:=by
 cases a<;>simp [Op.equalIn,run_underlying hs]
theorem aEz {s:TypeId} (hs:P.underlying s=some .bool) (d:Nat) {a b:Bool}:(Op.equalIn (d+1) s (.bool a) (.bool b)).run P w=.ok (a == b) w:=by
 simp [Op.equalIn,run_underlying hs]
theorem HY {s:TypeId} {ms:Array (String × TypeId)} (hs:P.underlying s=some (.interface ms)) {x y:Operand} {t:TypeId} {v:Value} :
  (do eqGuard .eql s x y (.iface t v) .nilIface;binOp .eql s (.iface t v) .nilIface).run P w=.ok (.bool false) w:=by
 simp [eqGuard,binOp,mJ,CP hs]
theorem gJ {s:TypeId} {ms:Array (String × TypeId)} (hs:P.underlying s=some (.interface ms)) {x y:Operand} {t:TypeId} {v:Value} :
  (do eqGuard .neq s x y (.iface t v) .nilIface;binOp .neq s (.iface t v) .nilIface).run P w=.ok (.bool true) w:=by
 simp [eqGuard,binOp,mJ,CP hs]
theorem gU {s:TypeId} {ms:Array (String × TypeId)} (hs:P.underlying s=some (.interface ms)) {x:Operand} {c:Value} :
  (do eqGuard .neq s x (.const c) .nilIface .nilIface;binOp .neq s .nilIface .nilIface).run P w=.ok (.bool false) w:=by
 simp [eqGuard,binOp,mJ,aEy hs]
theorem wY {s e:TypeId} (hs:P.underlying s=some (.slice e)) {x y:Operand} {a:Option Addr} {n c:Nat} :
  (do eqGuard .eql s x y (.slice a n c) (.slice none 0 0);binOp .eql s (.slice a n c) (.slice none 0 0)).run P w=.ok (.bool a.isNone) w:=by
 simp [eqGuard,binOp,mJ,RR hs]
theorem aEv {s:TypeId} (hs:P.underlying s=some .bool) {x y:Operand} {a b:Bool} :
  (do eqGuard .eql s x y (.bool a) (.bool b);binOp .eql s (.bool a) (.bool b)).run P w=.ok (.bool (a == b)) w:=by
 simp [eqGuard,binOp,mJ,aEz hs]
theorem FR {s:TypeId} (hs:P.underlying s=some .bool) {x y:Operand} {a b:Bool} :
  (do eqGuard .neq s x y (.bool a) (.bool b);binOp .neq s (.bool a) (.bool b)).run P w=.ok (.bool (a != b)) w:=by
 simp [eqGuard,binOp,mJ,aEz hs,bne]
theorem lL {s d:TypeId} {ds:TypeDesc} {k k':IntKind} {n:Int} (hs:P.underlying s=some ds) (hd:P.underlying d=some (.int k')) :
  (convert s d (.int k n)).run P w=.ok (.int k' (k'.wrap n)) w:=by
 simp [convert,run_underlying hs,run_underlying hd,Conv.intToInt]
def aF (w w':World):Prop:=w.grownBy w' none
theorem aF.refl (w:World):aF w w:=⟨rfl,rfl,rfl,Nat.le_refl _,λ_ _ _=>rfl⟩
theorem aF.trans {a b c:World} (h:aF a b) (k:aF b c):aF a c:=
 ⟨k.os.trans h.os,k.tape.trans h.tape,k.output.trans h.output,Nat.le_trans h.size k.size,λi hi hn=>(k.block i (Nat.lt_of_lt_of_le hi h.size) hn).trans (h.block i hi hn)⟩
theorem aF.alloc {a w:World} (h:aF a w) (o:Obj):aF a (w.alloc o):=h.trans (World.grownBy_alloc _ _ _)
theorem aF.drew {a w:World} (h:aF a w):aF a w.drew:=⟨h.os,h.tape,h.output,h.size,h.block⟩
theorem aF.setCell {a w:World} (h:aF a w) {b o:Nat} (hb:a.heap.size<=b) (v:Value):aF a (w.setCell ⟨b,o,none⟩ v):=
 ⟨h.os,h.tape,h.output,by simpa using h.size,λi hi hn=>by rw [RowKit.Below.heap_setCell _ _ _ _ (by simp;omega)];exact h.block i hi hn⟩
theorem aF.cell {a w:World} (h:aF a w) {p:Addr} {v:Value} (hc:a.cell? p=some v):w.cell? p=some v:=World.grownBy.cell h hc (by simp)
theorem aF.obj {a w:World} (h:aF a w) {b:Nat} {o:Obj} (hb:a.heap[b]?=some o):w.heap[b]?=some o:=by
 have hlt:b < a.heap.size:=(Array.getElem?_eq_some_iff.1 hb).1;rw [h.block b hlt (by simp)];exact hb
theorem aF.grown {a w w':World} (h:aF a w) {row:Option Nat} (hg:w.grownBy w' row) (hr:∀ k,row=some k->a.heap.size<=k):aF a w':=
 ⟨hg.os.trans h.os,hg.tape.trans h.tape,hg.output.trans h.output,Nat.le_trans h.size hg.size,λi hi hn=>(hg.block i (Nat.lt_of_lt_of_le hi h.size) (λe=>by have:=hr i e.symm;omega)).trans (h.block i hi hn)⟩
theorem aF.own {a w:World} (h:aF a w) {B:Nat} {e:TypeId} {size n:Nat} {v:Value} {xs:List Value} (ho:a.ownsRow B e size v n xs):w.ownsRow B e size v n xs:=ho.kept h (by cases v.ownBlock<;>simp)
theorem aF.below {a w:World} (h:aF a w):RowKit.Below a.heap.size a w:=⟨h.os,h.tape,h.output,h.size,λk hk=>h.block k hk (by simp)⟩
def aA (w:World) (v:Value) (size n:Nat) (cs:List Value):Prop:=
 cs.length=n*size/\((v=.slice none 0 0/\n=0)\/∃ b off cap,v=.slice (some ⟨b,off,none⟩) n cap/\n<=cap/\cap<=maxLen/\∀ j u,cs[j]?=some u->w.cell? ⟨b,off+j,none⟩=some u)
theorem aA.ext {w w':World} {v:Value} {size n:Nat} {cs:List Value} (h:aA w v size n cs) (hx:aF w w'):aA w' v size n cs:=by
 obtain ⟨h1,h2⟩:=h;refine ⟨h1,?_⟩;rcases h2 with h2|⟨b,off,cap,h2,h3,h4,h5⟩
 ·exact .inl h2
 ·exact .inr ⟨b,off,cap,h2,h3,h4,λj u hj=>hx.cell (h5 j u hj)⟩
theorem aA.nil (w:World) (size:Nat):aA w (.slice none 0 0) size 0 []:=⟨by simp,.inl ⟨rfl,rfl⟩⟩
theorem aA.of_own {w:World} {B:Nat} {e:TypeId} {size n:Nat} {v:Value} {xs:List Value} (h:w.ownsRow B e size v n xs):aA w v size n xs:=by
 refine ⟨h.1,?_⟩;rcases h.2 with ⟨h1,h2⟩|⟨g,cap,cur,rfl,_,_,h4,h5,_⟩
 ·exact .inl ⟨h1,h2⟩
 ·exact .inr ⟨g,0,cap,rfl,h4,h5,λj u hj=>by have:=h.cells (g:=g) rfl j u hj;rwa [lJ] at this⟩
theorem aA.shape {w:World} {v:Value} {size n:Nat} {cs:List Value} (h:aA w v size n cs):∃ a cap,v=.slice a n cap:=by
 rcases h.2 with ⟨rfl,rfl⟩|⟨b,off,cap,rfl,_⟩
 ·exact ⟨none,0,rfl⟩
 ·exact ⟨_,cap,rfl⟩
theorem aA.there {w:World} {v:Value} {size n:Nat} {cs:List Value} (h:aA w v size n cs) (hn:0 < n):∃ b off cap,v=.slice (some ⟨b,off,none⟩) n cap/\∀ j u,cs[j]?=some u->w.cell? ⟨b,off+j,none⟩=some u:=by
 rcases h.2 with ⟨_,rfl⟩|⟨b,off,cap,rfl,_,_,h5⟩
 ·omega
 ·exact ⟨b,off,cap,rfl,h5⟩
theorem aA.get {t e x:TypeId} {d:TypeDesc} {z:Value} {by_:Nat} (ht:P.underlying t=some (.slice e)) (hi:dA P e z 1 by_) (hx:P.underlying x=some d) (hd:lQ d=false) {v:Value} {n:Nat} {cs:List Value} (h:aA w v 1 n cs)
  {k:IntKind} {i:Int} {u:Value} (h0:0<=i) (h1:i < n) (hu:cs[i.toNat]?=some u) (hk:K u w) :
  V P (Instr.indexAt t v (.int k i)) w λp w1=>V P (Instr.loadAt x p) w1 K:=by
 obtain ⟨b,off,cap,rfl,hc⟩:=h.there (by omega);refine V.ok (jO ht hi h0 h1) (V.ok (iZ hx hd ?_) hk);simpa using hc _ _ hu
structure TA (P:Program) (u:TypeId):Prop where
 of ::
 ex:∃ z,(∀ (w:World) x t v,(Instr.typeAssert (.iface t v) x u true).run P w=.ok (if t=u then .tuple #[v,.bool true] else .tuple #[z,.bool false]) w) /\
 ∀ (w:World) x,(Instr.typeAssert .nilIface x u true).run P w=.ok (.tuple #[z,.bool false]) w
theorem TA.mk' {u:TypeId} {d:TypeDesc} {z:Value} {n b:Nat} (hu:P.underlying u=some d) (hd:VL d=true) (hz:dA P u z n b):TA P u:=⟨⟨z,λ_ _ _ _=>RO hu hd hz,λ_ _=>aOg hu hd hz⟩⟩
structure SA (P:Program) (t:TypeId) (n:Nat):Prop where
 of ::
 ex:∃ z by_,dA P t z n by_/\z.cells.size=n
structure FA (P:Program) (s f o:Nat):Prop where
 of ::
 ex:∀ (w:World) b off,(Instr.fieldAt s (.pointer (some ⟨b,off,none⟩)) f).run P w=.ok (.pointer (some ⟨b,off+o,none⟩)) w
structure L1 (P:Program) (t:TypeId):Prop where
 of ::
 ex:∃ d,P.underlying t=some d/\lQ d=false
structure XA (P:Program) (t n:Nat):Prop where
 of ::
 ex:∃ e z by_,P.underlying t=some (.slice e)/\dA P e z n by_
theorem th {u x:TypeId} {v:Value} {A:Value->World->Prop} {B:Value->Value->Value->World->Prop} (h:TA P u) (hA:A v w) :
  V P (Instr.typeAssert (.iface u v) x u true) w λt1 w1=>V P (Instr.extract t1 1) w1 λt2 w2=>V P (Instr.extract t1 0) w2 λt3 w3=>aI t2 (A t3 w3) (B t1 t2 t3 w3):=by
 obtain ⟨z,hz,_⟩:=h;refine V.ok (hz w x u v) ?_;rw [if_pos rfl];exact V.ok nA (V.ok nB (bK.2 hA))
theorem tm {u t x:TypeId} {v:Value} {A B:Value->Value->Value->World->Prop} (h:TA P u) (hne:t≠u) (hB:∀ t1 t2 t3,B t1 t2 t3 w) :
  V P (Instr.typeAssert (.iface t v) x u true) w λt1 w1=>V P (Instr.extract t1 1) w1 λt2 w2=>V P (Instr.extract t1 0) w2 λt3 w3=>aI t2 (A t1 t2 t3 w3) (B t1 t2 t3 w3):=by
 obtain ⟨z,hz,_⟩:=h;refine V.ok (hz w x t v) ?_;rw [if_neg hne];exact V.ok nA (V.ok nB (aP.2 (hB _ _ _)))
theorem tn {u x:TypeId} {A B:Value->Value->Value->World->Prop} (h:TA P u) (hB:∀ t1 t2 t3,B t1 t2 t3 w) :
  V P (Instr.typeAssert .nilIface x u true) w λt1 w1=>V P (Instr.extract t1 1) w1 λt2 w2=>V P (Instr.extract t1 0) w2 λt3 w3=>aI t2 (A t1 t2 t3 w3) (B t1 t2 t3 w3):=by
 obtain ⟨z,_,hz⟩:=h;refine V.ok (hz w x) ?_;exact V.ok nA (V.ok nB (aP.2 (hB _ _ _)))
theorem as_ {t n:TypeId} {v:Value} {K':Value->World->Prop} (h:SA P t n) (hn:v.cells.size=n) (h1:v.cells.toList.all cO=true) (hk:K' (.pointer (some ⟨w.heap.size,0,none⟩)) (w.alloc (.cells v.cells t))) :
  V P (Instr.alloc t true (.tuple #[])) w (λp w1=>U P (Instr.storeAt t p v) w1 λ_ w2=>K' p w2):=by
 obtain ⟨z,b,hi,hz⟩:=h;exact (JI hi (by simpa using hz) hn (λu hu=>List.all_eq_true.1 h1 u hu)).2 hk
theorem ldf {s f o ft b off:Nat} {u:Value} (h:FA P s f o) (hl:L1 P ft) (hc:w.cell? ⟨b,off+o,none⟩=some u) (hk:K u w) :
  V P (Instr.fieldAt s (.pointer (some ⟨b,off,none⟩)) f) w λq w1=>V P (Instr.loadAt ft q) w1 K:=by
 obtain ⟨d,hd,ha⟩:=hl;exact V.ok (h.ex w b off) (V.ok (iZ hd ha hc) hk)
theorem lV {t x:TypeId} {v:Value} {n:Nat} {cs:List Value} {k:IntKind} {i:Int} {u:Value} (h:XA P t 1) (hl:L1 P x) (hs:aA w v 1 n cs) (h0:0<=i) (h1:i < n) (hu:cs[i.toNat]?=some u) (hk:K u w) :
  V P (Instr.indexAt t v (.int k i)) w λp w1=>V P (Instr.loadAt x p) w1 K:=by
 obtain ⟨e,z,b,ht,hi⟩:=h;obtain ⟨d,hd,ha⟩:=hl;exact hs.get ht hi hd ha h0 h1 hu hk
theorem gD {t ty n:Nat} {m:Nat} {v:Value} {size:Nat} {cs:List Value} (h:XA P t n) (hs:aA w v size m cs) (hk:K (i64 m) w):V P (Builtin.len_ #[t] ty #[v]) w K:=by
 obtain ⟨e,z,b,ht,hi⟩:=h;obtain ⟨a,c,rfl⟩:=hs.shape;exact V.ok (uZ ht) hk
def bG (w:World) (b:Nat) (cs:List Value):Prop:=∀ j u,cs[j]?=some u->w.cell? ⟨b,0+j,none⟩=some u
theorem bG.ext {w w':World} {b:Nat} {cs:List Value} (h:bG w b cs) (hx:aF w w'):bG w' b cs:=λj u hj=>hx.cell (h j u hj)
theorem GV {cs:Array Value} {t:TypeId}:bG (w.alloc (.cells cs t)) w.heap.size cs.toList:=λj u hj=>by simpa using hj
theorem bx {t:TypeId} {v:Value} (hk:∀ b w1,bG w1 b v.cells.toList->aF w w1->K (.pointer (some ⟨b,0,none⟩)) w1):V P (Instr.box t v) w K:=
 V.ok aYk (hk _ _ GV ((aF.refl w).alloc _))
theorem wJ {t n:TypeId} {v:Value} {K':Value->World->Prop} (h:SA P t n) (hn:v.cells.size=n) (h1:v.cells.toList.all cO=true) (hk:∀ b w1,bG w1 b v.cells.toList->aF w w1->K' (.pointer (some ⟨b,0,none⟩)) w1) :
  V P (Instr.alloc t true (.tuple #[])) w (λp w1=>U P (Instr.storeAt t p v) w1 λ_ w2=>K' p w2):=
 as_ h hn h1 (hk _ _ GV ((aF.refl w).alloc _))
theorem bF {s f o ft b:Nat} {cs:List Value} {u:Value} (hb:bG w b cs) (h:FA P s f o) (hl:L1 P ft) (hc:cs[o]?=some u) (hk:K u w) :
  V P (Instr.fieldAt s (.pointer (some ⟨b,0,none⟩)) f) w λq w1=>V P (Instr.loadAt ft q) w1 K:=ldf h hl (hb o u hc) hk
theorem iO {t n b:Nat} {cs:List Value} (hb:bG w b cs) (ht:∃ d z by_,P.underlying t=some d/\lQ d=true/\dA P t z n by_) (hl:cs.length=n) (hk:K (.agg cs.toArray) w):V P (Instr.loadAt t (.pointer (some ⟨b,0,none⟩))) w K:=by
 obtain ⟨d,z,by_,h1,h2,h3⟩:=ht
 exact V.ok (mP h1 h2 h3 hl λj hj=>by
  obtain ⟨u,hu⟩:∃ u,cs[j]?=some u:=⟨_,List.getElem?_eq_getElem hj⟩;rw [hu];exact hb j u hu) hk
structure XE (P:Program) (t e by_:Nat):Prop where
 of ::
 ex:∃ z,P.underlying t=some (.slice e)/\dA P e z 1 by_/\(z.cells.size == 1)=true
theorem AY (v:Value):v.oneCell'=cO v:=by cases v<;>rfl
theorem jS {t e by_:Nat} (h:XE P t e by_) (l:List Value) {n:Nat} {parts:Array (Nat × Value)} (hn:n=l.length) (hp:parts=((List.range' 0 l.length).zip l).toArray) (hl:l.length<=16777216) (h1:l.all cO=true)
  (hk:∀ v w',w'.ownsRow w.heap.size e 1 v n l->aF w w'->K v w'):V P (Instr.buildSlice t n parts) w K:=by
 subst hn;subst hp;obtain ⟨z,ht,hi,hz⟩:=h;refine V.ok (HZ ht hi hz l hl (λu hu=>List.all_eq_true.1 h1 u hu)) (hk _ _ ?_ ((aF.refl w).alloc _));have:=World.ownsRow_lit (base:=w.heap.size) (e:=e) (size:=1) w l.toArray l.length (Nat.le_refl _) (by unfold maxLen;omega) (by simp);simpa using this
theorem TS {t e by_ ty:Nat} (h:XE P t e by_) {B:Nat} {v:Value} {n:Nat} {xs:List Value} (ho:w.ownsRow B e 1 v n xs) {x:Value} {m:Nat} {news:List Value} (hs:aA w x 1 m news) (h1:news.all cO=true)
  (hb:(n+m)*by_<=140737488355328) (h63:n+m<=maxLen) (hB:B<=w.heap.size) (hk:∀ v' w',w'.ownsRow B e 1 v' (n+m) (xs++news)->w.grownBy w' v.ownBlock->K v' w') :
  V P (Builtin.append_ #[t,t] ty #[v,x]) w K:=by
 obtain ⟨z,ht,hi,hz⟩:=h;obtain ⟨i,hi',hz',hn,hby⟩:=info_parts hi;rcases hs.2 with ⟨rfl,rfl⟩|⟨b,off,cap,rfl,_,_,hc⟩
 ·have hnews:news=[]:=by have:=hs.1;simpa using this
  subst hnews;refine V.ok (run_append_owned_none w B t ty e i 1 ht hi' v n xs ho) (hk _ _ (by simpa using ho) ⟨rfl,rfl,rfl,Nat.le_refl _,λ_ _ _=>rfl⟩)
 ·obtain ⟨v',w',hr,h2,h3,_⟩:=run_append_own (P:=P) w B t ty e i z 1 by_ ht hi' hz' hn hby (by simpa using hz) (by omega) v n xs ho ⟨b,off,none⟩ m cap news hs.1
   (λj u hj=>by rw [lJ];exact hc j u hj) (λu hu=>by rw [AY];exact List.all_eq_true.1 h1 u hu) h63 hb hB
  exact V.ok hr (hk _ _ h2 h3)
theorem TL {t e by_:Nat} (h:XE P t e by_) {v:Value} {n:Nat} {cs:List Value} (hs:aA w v 1 n cs) (h1:cs.all cO=true) (hb:n*by_<=140737488355328) {x y:Operand} {R:Value->World->Prop}
  (hk:∀ v' w',w'.ownsRow w.heap.size e 1 v' n cs->aF w w'->R v' w') :
  V P (do eqGuard .eql t x y v (Value.slice none 0 0);binOp .eql t v (Value.slice none 0 0)) w λt4 w1=>
   aI t4 (R (Value.slice none 0 0) w1) (V P (Instr.buildSlice t 0 #[]) w1 λt5 w2=>V P (Builtin.append_ #[t,t] t #[t5,v]) w2 λt7 w3=>R t7 w3):=by
 have h':=h;obtain ⟨z,ht,hi,hz⟩:=h;rcases hs.2 with ⟨rfl,rfl⟩|⟨b,off,cap,rfl,hc1,hc2,hc⟩
 ·refine V.ok (wY ht) (bK.2 (hk _ _ ?_ (aF.refl w)));have:cs=[]:=by have:=hs.1;simpa using this
  subst this;exact World.ownsRow_nil _ _ _ _
 ·refine V.ok (wY ht) (aP.2 (jS h' [] rfl rfl (by simp) rfl λv1 w1 ho x1=>?_));refine TS h' ho (hs.ext x1) h1 (by simpa using hb) (by unfold maxLen at *;omega) x1.size λv2 w2 ho2 hg=>?_;have:=ho2;simp only [Nat.zero_add,List.nil_append] at this;exact hk _ _ this (x1.grown hg λk hk'=>(ho.lt k hk').1)
end
section
variable {P:Program} {w:World} {K:Value->World->Prop}
theorem aX {w:World} {B B' e size n:Nat} {v:Value} {xs:List Value} (h:w.ownsRow B e size v n xs) (hB:B'<=B):w.ownsRow B' e size v n xs:=by
 refine ⟨h.1,?_⟩;rcases h.2 with h2|⟨g,cap,cur,h2,h3,h4⟩
 ·exact .inl h2
 ·exact .inr ⟨g,cap,cur,h2,Nat.le_trans hB h3,h4⟩
theorem RT {w:World} {B e size n:Nat} {v:Value} {xs:List Value} (h:w.ownsRow B e size v n xs) {row:Option Nat} (hr:∀ k,row=some k->k < B):v.ownBlock=none\/v.ownBlock≠row:=by
 cases hv:v.ownBlock with
 | none=>exact .inl rfl
 | some g=>exact .inr λhe=>by have:=hr g he.symm;have:=(h.lt g hv).1;omega
theorem stO {t x:Nat} {z:Value} {by_:Nat} (h:XA P t 1) (hx:dA P x z 1 by_) {B e n:Nat} {v:Value} {xs:List Value} (ho:w.ownsRow B e 1 v n xs) {k:IntKind} {i:Int} (h0:0<=i) (h1:i < n) {u:Value} (hu:cO u=true) {K':World->Prop}
  (hk:∀ w',w'.ownsRow B e 1 v n (xs.set i.toNat u)->w.grownBy w' v.ownBlock->K' w') :
  V P (Instr.indexAt t v (.int k i)) w λp w1=>U P (Instr.storeAt x p u) w1 λ_ w2=>K' w2:=by
 obtain ⟨e',z',b',ht,hi⟩:=h;have ho':=ho;rcases ho.2 with ⟨_,rfl⟩|⟨g,cap,cur,rfl,hB,_⟩
 ·omega
 refine V.ok (jO ht hi h0 h1) ?_;obtain ⟨s1,s2⟩:=ho'.stored i.toNat u;have hc:=ho'.cellAt i.toNat (by omega);have hlt:i.toNat < xs.length:=by have:=ho'.1;omega
 rw [List.getElem?_eq_getElem hlt] at hc;simp only [Nat.zero_add,Nat.mul_one];exact U.ok (mO hx hu hc (ho'.frozenAt _)) (hk _ s1 s2)
theorem IJ {t x:Nat} (h:XA P t 1) (hl:L1 P x) {B e n:Nat} {v:Value} {xs:List Value} (ho:w.ownsRow B e 1 v n xs) {k:IntKind} {i:Int} {u:Value} (h0:0<=i) (h1:i < n) (hu:xs[i.toNat]?=some u) (hk:K u w) :
  V P (Instr.indexAt t v (.int k i)) w λp w1=>V P (Instr.loadAt x p) w1 K:=lV h hl (aA.of_own ho) h0 h1 hu hk
def bO (w:World) (g:Nat) (cs:List Value) (e:TypeId):Prop:=w.heap[g]?=some (.cells cs.toArray e (0,0))
theorem bO.ext {w w':World} {g:Nat} {cs:List Value} {e:TypeId} (h:bO w g cs e) (hx:aF w w'):bO w' g cs e:=hx.obj h
theorem bO.lt {w:World} {g:Nat} {cs:List Value} {e:TypeId} (h:bO w g cs e):g < w.heap.size:=(Array.getElem?_eq_some_iff.1 h).1
theorem bO.cell {w:World} {g:Nat} {cs:List Value} {e:TypeId} (h:bO w g cs e) (j:Nat):w.cell? ⟨g,j,none⟩=cs[j]?:=by
 rw [cell_of_row w g j cs.toArray e (0,0) h];simp
theorem bO.frozen {w:World} {g:Nat} {cs:List Value} {e:TypeId} (h:bO w g cs e) (j:Nat):w.frozen? ⟨g,j,none⟩=false:=frozen_of_row w g j cs.toArray e h
theorem bO.set {w:World} {g:Nat} {cs:List Value} {e:TypeId} (h:bO w g cs e) (j:Nat) (u:Value):bO (w.setCell ⟨g,j,none⟩ u) g (cs.set j u) e:=by
 have:=heap_setCell_same w g j cs.toArray e u h;unfold bO;rw [this];simp
theorem bO.other {w:World} {g g' j:Nat} {cs:List Value} {e:TypeId} {u:Value} (h:bO w g cs e) (hne:g≠g'):bO (w.setCell ⟨g',j,none⟩ u) g cs e:=by
 unfold bO;rw [heap_setCell_other w ⟨g',j,none⟩ g u hne];exact h
theorem bO.drew {w:World} {g:Nat} {cs:List Value} {e:TypeId} (h:bO w g cs e):bO w.drew g cs e:=h
theorem bO.slice {w:World} {g n:Nat} {cs:List Value} {e:TypeId} (h:bO w g cs e) (hn:cs.length=n) (hm:n<=maxLen):aA w (.slice (some ⟨g,0,none⟩) n n) 1 n cs:=
 ⟨by omega,.inr ⟨g,0,n,rfl,Nat.le_refl _,hm,λj u hj=>by rw [Nat.zero_add,h.cell];exact hj⟩⟩
theorem mkB {t e by_:Nat} {z:Value} (ht:P.underlying t=some (.slice e)) (hi:dA P e z 1 by_) (hz:z.cells=#[z]) {n:Nat} (hb:by_*n<=281474976710656) (h63:n<=9223372036854775807)
  (hk:∀ w',bO w' w.heap.size (List.replicate n z) e->aF w w'->w'.heap.size=w.heap.size+1->K (.slice (some ⟨w.heap.size,0,none⟩) n n) w'):V P (Instr.makeSlice t (i64 n) (i64 n)) w K:=by
 obtain ⟨i,hi',hz',hn,hby⟩:=info_parts hi;have hr:=run_make (P:=P) w t e i z ht hi' hz' .i64 .i64 n n (by omega) (Int.le_refl _) (by rw [hby,<- Int.natCast_mul];omega) (by omega);simp only [Int.toNat_natCast,hn,hz,Nat.mul_one] at hr;refine V.ok hr (hk _ ?_ ((aF.refl w).alloc _) (by simp));unfold bO;have:=heap_alloc_new w (.cells (madeCells #[z] n) e);rw [this]
 congr 2
 rw [<- toList_madeCells_one z n]
structure BD (P:Program) (t:TypeId) (zs:List Value):Prop where
 of ::
 ex:∃ fs b,P.underlying t=some (.struct fs)/\dA P t (.agg zs.toArray) zs.length b/\∀ w:World,(fs.mapM (λf=>do pure (f.offset,<- sizeOf f.type)):Sem (Array (Nat × Nat))).run P w=.ok ((List.range zs.length).map (λi=>(i,1))).toArray w
theorem aHi {n:Nat}:∀ (l:List (Nat × Value)) (cs:List Value),cs.length=n->(l.all λx=>decide (x.1 < n)&&cO x.2)=true ->
  Instr.fill ((((List.range n).map (λi=>(i,1))).toArray)[·]?) cs.toArray l=some (l.foldl (λcs x=>cs.set x.1 x.2) cs).toArray
 | [],cs,_,_=>rfl
 | (i,v)::l,cs,hl,h=>by
  simp only [List.all_cons,Bool.and_eq_true,decide_eq_true_eq] at h;have hi:((((List.range n).map (λi=>(i,1))).toArray)[i]?)=some (i,1):=by simp [h.1.1]
  have hc:=vR h.1.2;rw [Instr.fill,hi];have hn:¬ (i+1 > cs.length):=by omega
  simp only [hc,List.size_toArray,List.length_cons,List.length_nil,Nat.zero_add,ne_eq,not_true_eq_false,decide_false,Bool.false_or,hn,Bool.false_eq_true,if_false];have:=aHi (n:=n) l (cs.set i v) (by simpa using hl) h.2;simpa using this
theorem pP {t:TypeId} {zs:List Value} (h:BD P t zs) {parts:Array (Nat × Value)} (l:List (Nat × Value)) (hp:parts=l.toArray) (h1:(l.all λx=>decide (x.1 < zs.length)&&cO x.2)=true)
  (hk:K (.agg (l.foldl (λcs x=>cs.set x.1 x.2) zs).toArray) w):V P (Instr.build t parts) w K:=by
 subst hp;obtain ⟨fs,b,hu,hi,hm⟩:=h;refine V.ok ?_ hk;simp only [Instr.build,Sem.run_bind,qQ hi,Result.andThen_ok,run_underlying hu,hm,Value.cells];rw [aHi l zs rfl h1];simp
structure MI (P:Program) (t:TypeId):Prop where
 of ::
 ex:∃ d,P.underlying t=some d/\VL d=true
theorem RZ {t:TypeId} (h:MI P t) {v:Value} (hk:K (.iface t v) w):V P (Instr.makeInterface t v) w K:=by
 obtain ⟨d,hu,hd⟩:=h;refine V.ok ?_ hk;cases d<;>first|(simp [Instr.makeInterface,run_underlying hu];done)|cases hd
end
end Go.Vc
namespace Go.Proofs.YtjcmcfidblhnnaaGreatDoor
open Tryz
open Go.Vc
variable {w:World} {cap n off:Nat} {k:IntKind} {i:Int} {a:Addr} {ty x:TypeId} {K:Value->World->Prop}
theorem bY:dA prog 3 (.int .i64 0) 1 8:=by unfold dA;kernel_rfl
theorem kP:dA prog 4 (.bool false) 1 1:=by unfold dA;kernel_rfl
theorem bBl:dA prog 5 (.int .u8 0) 1 1:=by unfold dA;kernel_rfl
theorem aPm:dA prog 9 (.string ByteArray.empty) 1 16:=by unfold dA;kernel_rfl
theorem aYv:dA prog 21 (.int .i32 0) 1 4:=by unfold dA;kernel_rfl
theorem aYu:dA prog 22 (.slice none 0 0) 1 24:=by unfold dA;kernel_rfl
theorem mI:dA prog 23 (.slice none 0 0) 1 24:=by unfold dA;kernel_rfl
theorem aYt:dA prog 24 (.slice none 0 0) 1 24:=by unfold dA;kernel_rfl
theorem aYs:dA prog 25 (.slice none 0 0) 1 24:=by unfold dA;kernel_rfl
theorem qU:dA prog 27 (.agg #[(.string ByteArray.empty),(.slice none 0 0),(.slice none 0 0),(.slice none 0 0),(.slice none 0 0)]) 5 112:=by unfold dA;kernel_rfl
theorem LQ:dA prog 31 (.slice none 0 0) 1 24:=by unfold dA;kernel_rfl
theorem xO:dA prog 33 (.agg #[(.int .i64 0),(.int .i64 0),(.slice none 0 0)]) 3 40:=by unfold dA;kernel_rfl
theorem LP:dA prog 36 (.slice none 0 0) 1 24:=by unfold dA;kernel_rfl
theorem xN:dA prog 38 (.agg #[(.slice none 0 0),(.int .i64 0),(.slice none 0 0),(.slice none 0 0)]) 4 80:=by unfold dA;kernel_rfl
theorem aGs:dA prog 40 (.agg #[]) 0 0:=by unfold dA;kernel_rfl
theorem LO:dA prog 43 .nilIface 1 16:=by unfold dA;kernel_rfl
theorem bIh:dA prog 59 (.slice none 0 0) 1 24:=by unfold dA;kernel_rfl
theorem xM:dA prog 61 (.agg #[(.int .i64 0),(.int .i64 0),(.slice none 0 0),(.slice none 0 0)]) 4 64:=by unfold dA;kernel_rfl
theorem aYr:dA prog 66 (.slice none 0 0) 1 24:=by unfold dA;kernel_rfl
theorem uA:dA prog 68 (.agg #[(.slice none 0 0),(.slice none 0 0),(.int .i64 0)]) 3 56:=by unfold dA;kernel_rfl
theorem DF:dA prog 72 (.agg #[(.slice none 0 0),(.int .i64 0)]) 2 32:=by unfold dA;kernel_rfl
theorem AE:dA prog 78 (.agg #[(.int .i64 0),(.int .i64 0)]) 2 16:=by unfold dA;kernel_rfl
theorem AD:dA prog 83 (.agg #[(.int .i64 0),(.int .i64 0),(.int .i64 0),(.int .i64 0),(.int .i64 0),(.int .i64 0)]) 6 48:=by unfold dA;kernel_rfl
theorem tZ:dA prog 88 (.agg #[(.int .i64 0),(.int .i64 0),(.int .i64 0)]) 3 24:=by unfold dA;kernel_rfl
theorem VW:dA prog 90 (.agg #[(.int .i64 0),(.int .i32 0)]) 2 16:=by unfold dA;kernel_rfl
theorem bIg:dA prog 92 (.slice none 0 0) 1 24:=by unfold dA;kernel_rfl
theorem rE:dA prog 95 (.slice none 0 0) 1 24:=by unfold dA;kernel_rfl
theorem DL:dA prog 107 (.agg #[(.int .i64 0),(.int .i64 0)]) 2 16:=by unfold dA;kernel_rfl
theorem DK:dA prog 109 (.agg #[(.int .i64 0),(.int .i64 0),(.int .i64 0),(.int .i64 0)]) 4 32:=by unfold dA;kernel_rfl
theorem DJ:dA prog 111 (.agg #[(.int .i64 0),(.int .i64 0),(.int .i64 0)]) 3 24:=by unfold dA;kernel_rfl
theorem DI:dA prog 113 (.agg #[(.int .i64 0),(.int .i64 0),(.int .i64 0),(.int .i64 0)]) 4 32:=by unfold dA;kernel_rfl
theorem IV:dA prog 115 (.agg #[(.int .i64 0)]) 1 8:=by unfold dA;kernel_rfl
theorem IU:dA prog 117 (.agg #[(.int .i64 0),(.int .i64 0)]) 2 16:=by unfold dA;kernel_rfl
theorem IR:dA prog 119 (.agg #[(.int .i64 0),(.int .i64 0)]) 2 16:=by unfold dA;kernel_rfl
theorem IQ:dA prog 121 (.agg #[(.int .i64 0),(.int .i64 0)]) 2 16:=by unfold dA;kernel_rfl
theorem SQ:dA prog 123 (.agg #[(.int .i64 0),(.int .i64 0),(.int .i64 0),(.int .i64 0),(.slice none 0 0)]) 5 56:=by unfold dA;kernel_rfl
theorem SP:dA prog 125 (.agg #[(.int .i64 0),(.int .i64 0),(.slice none 0 0)]) 3 40:=by unfold dA;kernel_rfl
theorem SO:dA prog 127 (.agg #[(.int .i64 0),(.int .i64 0),(.slice none 0 0)]) 3 40:=by unfold dA;kernel_rfl
theorem SN:dA prog 129 (.agg #[(.int .i64 0)]) 1 8:=by unfold dA;kernel_rfl
theorem bBr:dA prog 135 (.agg #[(.int .i64 0),(.int .i64 0),(.slice none 0 0),(.slice none 0 0),(.int .i64 0),(.int .i64 0),(.slice none 0 0),(.slice none 0 0),(.int .i64 0)]) 9 136:=by unfold dA;kernel_rfl
theorem bBq:dA prog 139 (.slice none 0 0) 1 24:=by unfold dA;kernel_rfl
theorem pW:dA prog 141 (.agg #[(.slice none 0 0),(.slice none 0 0),(.slice none 0 0)]) 3 72:=by unfold dA;kernel_rfl
theorem DH:dA prog 146 (.agg #[(.string ByteArray.empty),(.int .i64 0),(.slice none 0 0),(.int .i64 0)]) 4 56:=by unfold dA;kernel_rfl
theorem IP:dA prog 151 (.int .u16 0) 1 2:=by unfold dA;kernel_rfl
theorem bBp:dA prog 155 (.slice none 0 0) 1 24:=by unfold dA;kernel_rfl
theorem nJ:dA prog 157 (.agg #[(.int .i64 0),(.int .u16 0),(.slice none 0 0)]) 3 40:=by unfold dA;kernel_rfl
theorem vV:dA prog 180 (.agg #[(.int .i64 0),(.int .i64 0),(.int .i64 0),(.int .i64 0),(.int .i64 0),(.int .i64 0),(.int .i64 0),(.int .i64 0),(.int .i64 0),(.int .i64 0),(.int .i32 0)]) 11 88:=by unfold dA;kernel_rfl
theorem bBo:dA prog 195 (.agg #[(.slice none 0 0),(.slice none 0 0),(.int .i64 0),(.slice none 0 0),(.int .i64 0)]) 5 88:=by unfold dA;kernel_rfl
theorem DG:dA prog 197 (.agg #[(.int .i64 0),(.int .i64 0),(.int .i64 0),(.int .i64 0)]) 4 32:=by unfold dA;kernel_rfl
theorem nC:dA prog 210 (.agg #[(.int .i64 0),(.int .i64 0),(.int .i64 0),(.int .i64 0),(.int .i64 0),(.int .i64 0)]) 6 48:=by unfold dA;kernel_rfl
theorem SM:dA prog 230 (.slice none 0 0) 1 24:=by unfold dA;kernel_rfl
theorem vU:dA prog 232 (.agg #[(.int .i64 0),(.int .i64 0),(.int .i64 0),(.int .i64 0),(.int .i64 0),(.int .i64 0),(.int .i64 0),(.int .i64 0),(.int .i64 0),(.int .i64 0),(.int .i32 0),(.slice none 0 0),(.int .i64 0)]) 13 120:=by unfold dA;kernel_rfl
theorem bBn:dA prog 248 (.agg #[(.bool false),(.bool false)]) 2 2:=by unfold dA;kernel_rfl
theorem bBm:dA prog 263 (.agg (Array.replicate 2001 (.int .i64 0))) 2001 16008:=by unfold dA;kernel_rfl
theorem SL:dA prog 278 (.agg #[(.int .u8 0),(.int .u8 0)]) 2 2:=by unfold dA;kernel_rfl
theorem aEu {b len:Nat} (h0:0<=i) (h1:i < len):(Instr.indexAt 139 (.slice (some ⟨b,off,none⟩) len cap) (.int k i)).run prog w=.ok (.pointer (some ⟨b,off+i.toNat*1,none⟩)) w:=jO underlying139 rE h0 h1
theorem UW {b len:Nat} (h0:0<=i) (h1:i < len):(Instr.indexAt 95 (.slice (some ⟨b,off,none⟩) len cap) (.int k i)).run prog w=.ok (.pointer (some ⟨b,off+i.toNat*1,none⟩)) w:=jO underlying95 kP h0 h1
theorem UV {v:Value} (h:w.cell? a=some v):(Instr.loadAt 23 (.pointer (some a))).run prog w=.ok v w:=iZ underlying23 rfl h
theorem aEt {v:Value} (h:w.cell? a=some v):(Instr.loadAt 3 (.pointer (some a))).run prog w=.ok v w:=iZ underlying3 rfl h
theorem bAb {v:Value} (h:w.cell? a=some v):(Instr.loadAt 5 (.pointer (some a))).run prog w=.ok v w:=iZ underlying5 rfl h
theorem aEr {x y:Operand} {a b:Bool}:(do eqGuard .neq 4 x y (.bool a) (.bool b);binOp .neq 4 (.bool a) (.bool b)).run prog w=.ok (.bool (a != b)) w:=FR underlying4
theorem uT {x y:Operand} {t:TypeId} {v:Value}:V prog (do eqGuard .eql 43 x y (.iface t v) .nilIface;binOp .eql 43 (.iface t v) .nilIface) w K↔K (.bool false) w:=V.iff (HY underlying43)
theorem aIl {a:Option Addr} {c:Nat}:V prog (Builtin.len_ #[139] ty #[.slice a n c]) w K↔K (.int .i64 n) w:=V.iff (uZ underlying139)
theorem XI {a:Option Addr} {c:Nat}:V prog (Builtin.len_ #[23] ty #[.slice a n c]) w K↔K (.int .i64 n) w:=V.iff (uZ underlying23)
theorem aIk {x y:Operand} {a b:Bool}:V prog (do eqGuard .neq 4 x y (.bool a) (.bool b);binOp .neq 4 (.bool a) (.bool b)) w K↔K (.bool (a != b)) w:=V.iff (FR underlying4)
theorem TV {x y:Operand} {t:TypeId} {v:Value}:V prog (do eqGuard .neq 43 x y (.iface t v) .nilIface;binOp .neq 43 (.iface t v) .nilIface) w K↔K (.bool true) w:=V.iff (gJ underlying43)
theorem aIj {t:TypeId} {v:Value}:V prog (Instr.typeAssert (.iface t v) x 107 true) w K↔K (if t=107 then .tuple #[v,.bool true] else .tuple #[(.agg #[(.int .i64 0),(.int .i64 0)]),.bool false]) w:=V.iff (RO underlying107 rfl DL)
theorem aIi {t:TypeId} {v:Value}:V prog (Instr.typeAssert (.iface t v) x 109 true) w K↔K (if t=109 then .tuple #[v,.bool true] else .tuple #[(.agg #[(.int .i64 0),(.int .i64 0),(.int .i64 0),(.int .i64 0)]),.bool false]) w:=V.iff (RO underlying109 rfl DK)
theorem aIh {t:TypeId} {v:Value}:V prog (Instr.typeAssert (.iface t v) x 111 true) w K↔K (if t=111 then .tuple #[v,.bool true] else .tuple #[(.agg #[(.int .i64 0),(.int .i64 0),(.int .i64 0)]),.bool false]) w:=V.iff (RO underlying111 rfl DJ)
theorem aIg {t:TypeId} {v:Value}:V prog (Instr.typeAssert (.iface t v) x 113 true) w K↔K (if t=113 then .tuple #[v,.bool true] else .tuple #[(.agg #[(.int .i64 0),(.int .i64 0),(.int .i64 0),(.int .i64 0)]),.bool false]) w:=V.iff (RO underlying113 rfl DI)
theorem aIf {t:TypeId} {v:Value}:V prog (Instr.typeAssert (.iface t v) x 119 true) w K↔K (if t=119 then .tuple #[v,.bool true] else .tuple #[(.agg #[(.int .i64 0),(.int .i64 0)]),.bool false]) w:=V.iff (RO underlying119 rfl IR)
theorem aQm {t:TypeId} {v:Value}:V prog (Instr.typeAssert (.iface t v) x 90 true) w K↔K (if t=90 then .tuple #[v,.bool true] else .tuple #[(.agg #[(.int .i64 0),(.int .i32 0)]),.bool false]) w:=V.iff (RO underlying90 rfl VW)
theorem yU:SA prog 107 2:=⟨_,_,DL,by decide⟩
theorem tU:SA prog 109 4:=⟨_,_,DK,by decide⟩
theorem vN:SA prog 111 3:=⟨_,_,DJ,by decide⟩
theorem vM:SA prog 113 4:=⟨_,_,DI,by decide⟩
theorem tT:SA prog 115 1:=⟨_,_,IV,by decide⟩
theorem tS:SA prog 117 2:=⟨_,_,IU,by decide⟩
theorem CA:SA prog 119 2:=⟨_,_,IR,by decide⟩
theorem yT:SA prog 121 2:=⟨_,_,IQ,by decide⟩
theorem HW:SA prog 123 5:=⟨_,_,SQ,by decide⟩
theorem RM:SA prog 125 3:=⟨_,_,SP,by decide⟩
theorem RL:SA prog 127 3:=⟨_,_,SO,by decide⟩
theorem aEc:SA prog 129 1:=⟨_,_,SN,by decide⟩
theorem aEb:SA prog 141 3:=⟨_,_,pW,by decide⟩
theorem aEa:SA prog 146 4:=⟨_,_,DH,by decide⟩
theorem aDz:SA prog 157 3:=⟨_,_,nJ,by decide⟩
theorem RK:SA prog 180 11:=⟨_,_,vV,by decide⟩
theorem HV:SA prog 210 6:=⟨_,_,nC,by decide⟩
theorem BZ:SA prog 232 13:=⟨_,_,vU,by decide⟩
theorem aYf:SA prog 27 5:=⟨_,_,qU,by decide⟩
theorem aZx:SA prog 278 2:=⟨_,_,SL,by decide⟩
theorem aDy:SA prog 33 3:=⟨_,_,xO,by decide⟩
theorem FN:SA prog 38 4:=⟨_,_,xN,by decide⟩
theorem bHh:SA prog 40 0:=⟨_,_,aGs,by decide⟩
theorem bHg:SA prog 61 4:=⟨_,_,xM,by decide⟩
theorem bHf:SA prog 72 2:=⟨_,_,DF,by decide⟩
theorem KE:SA prog 78 2:=⟨_,_,AE,by decide⟩
theorem aYe:SA prog 83 6:=⟨_,_,AD,by decide⟩
theorem UR:SA prog 88 3:=⟨_,_,tZ,by decide⟩
theorem aYd:SA prog 90 2:=⟨_,_,VW,by decide⟩
theorem bHe:SA prog 95 1:=⟨_,_,rE,by decide⟩
theorem cY:FA prog 107 0 0:=⟨λ_ _ _=>aO 3 0 underlying107 rfl bY rfl⟩
theorem cX:FA prog 107 1 1:=⟨λ_ _ _=>aO 3 1 underlying107 rfl bY rfl⟩
theorem cD:FA prog 109 0 0:=⟨λ_ _ _=>aO 3 0 underlying109 rfl bY rfl⟩
theorem cW:FA prog 109 1 1:=⟨λ_ _ _=>aO 3 1 underlying109 rfl bY rfl⟩
theorem cL:FA prog 109 2 2:=⟨λ_ _ _=>aO 3 2 underlying109 rfl bY rfl⟩
theorem cK:FA prog 109 3 3:=⟨λ_ _ _=>aO 3 3 underlying109 rfl bY rfl⟩
theorem cC:FA prog 111 0 0:=⟨λ_ _ _=>aO 3 0 underlying111 rfl bY rfl⟩
theorem cV:FA prog 111 1 1:=⟨λ_ _ _=>aO 3 1 underlying111 rfl bY rfl⟩
theorem cU:FA prog 111 2 2:=⟨λ_ _ _=>aO 3 2 underlying111 rfl bY rfl⟩
theorem cT:FA prog 113 0 0:=⟨λ_ _ _=>aO 3 0 underlying113 rfl bY rfl⟩
theorem cJ:FA prog 113 1 1:=⟨λ_ _ _=>aO 3 1 underlying113 rfl bY rfl⟩
theorem cI:FA prog 113 2 2:=⟨λ_ _ _=>aO 3 2 underlying113 rfl bY rfl⟩
theorem cH:FA prog 113 3 3:=⟨λ_ _ _=>aO 3 3 underlying113 rfl bY rfl⟩
theorem bT:FA prog 115 0 0:=⟨λ_ _ _=>aO 3 0 underlying115 rfl bY rfl⟩
theorem cS:FA prog 117 0 0:=⟨λ_ _ _=>aO 3 0 underlying117 rfl bY rfl⟩
theorem bS:FA prog 117 1 1:=⟨λ_ _ _=>aO 3 1 underlying117 rfl bY rfl⟩
theorem dF:FA prog 119 0 0:=⟨λ_ _ _=>aO 3 0 underlying119 rfl bY rfl⟩
theorem cR:FA prog 119 1 1:=⟨λ_ _ _=>aO 3 1 underlying119 rfl bY rfl⟩
theorem cQ:FA prog 121 0 0:=⟨λ_ _ _=>aO 3 0 underlying121 rfl bY rfl⟩
theorem dE:FA prog 121 1 1:=⟨λ_ _ _=>aO 3 1 underlying121 rfl bY rfl⟩
theorem dD:FA prog 123 0 0:=⟨λ_ _ _=>aO 3 0 underlying123 rfl bY rfl⟩
theorem dJ:FA prog 123 3 3:=⟨λ_ _ _=>aO 3 3 underlying123 rfl bY rfl⟩
theorem dC:FA prog 123 4 4:=⟨λ_ _ _=>aO 23 4 underlying123 rfl mI rfl⟩
theorem dI:FA prog 125 0 0:=⟨λ_ _ _=>aO 3 0 underlying125 rfl bY rfl⟩
theorem dU:FA prog 125 1 1:=⟨λ_ _ _=>aO 3 1 underlying125 rfl bY rfl⟩
theorem dT:FA prog 125 2 2:=⟨λ_ _ _=>aO 23 2 underlying125 rfl mI rfl⟩
theorem eF:FA prog 127 0 0:=⟨λ_ _ _=>aO 3 0 underlying127 rfl bY rfl⟩
theorem eR:FA prog 127 1 1:=⟨λ_ _ _=>aO 3 1 underlying127 rfl bY rfl⟩
theorem eE:FA prog 127 2 2:=⟨λ_ _ _=>aO 23 2 underlying127 rfl mI rfl⟩
theorem eD:FA prog 129 0 0:=⟨λ_ _ _=>aO 3 0 underlying129 rfl bY rfl⟩
theorem eQ:FA prog 135 0 0:=⟨λ_ _ _=>aO 33 0 underlying135 rfl xO rfl⟩
theorem eC:FA prog 135 1 3:=⟨λ_ _ _=>aO 72 3 underlying135 rfl DF rfl⟩
theorem eO:FA prog 135 2 5:=⟨λ_ _ _=>aO 3 5 underlying135 rfl bY rfl⟩
theorem bR:FA prog 135 3 6:=⟨λ_ _ _=>aO 68 6 underlying135 rfl uA rfl⟩
theorem dS:FA prog 141 0 0:=⟨λ_ _ _=>aO 139 0 underlying141 rfl bBq rfl⟩
theorem dR:FA prog 141 1 1:=⟨λ_ _ _=>aO 95 1 underlying141 rfl rE rfl⟩
theorem dQ:FA prog 141 2 2:=⟨λ_ _ _=>aO 23 2 underlying141 rfl mI rfl⟩
theorem eB:FA prog 146 0 0:=⟨λ_ _ _=>aO 9 0 underlying146 rfl aPm rfl⟩
theorem dH:FA prog 146 1 1:=⟨λ_ _ _=>aO 3 1 underlying146 rfl bY rfl⟩
theorem bW:FA prog 146 2 2:=⟨λ_ _ _=>aO 23 2 underlying146 rfl mI rfl⟩
theorem cB:FA prog 146 3 3:=⟨λ_ _ _=>aO 3 3 underlying146 rfl bY rfl⟩
theorem eN:FA prog 157 1 1:=⟨λ_ _ _=>aO 151 1 underlying157 rfl IP rfl⟩
theorem eA:FA prog 157 2 2:=⟨λ_ _ _=>aO 155 2 underlying157 rfl bBp rfl⟩
theorem cA:FA prog 166 0 0:=⟨λ_ _ _=>aO 27 0 underlying166 rfl qU rfl⟩
theorem dP:FA prog 166 1 5:=⟨λ_ _ _=>aO 38 5 underlying166 rfl xN rfl⟩
theorem eV:FA prog 166 2 9:=⟨λ_ _ _=>aO 23 9 underlying166 rfl mI rfl⟩
theorem dO:FA prog 166 3 10:=⟨λ_ _ _=>aO 92 10 underlying166 rfl bIg rfl⟩
theorem fJ:FA prog 166 4 11:=⟨λ_ _ _=>aO 95 11 underlying166 rfl rE rfl⟩
theorem eM:FA prog 166 5 12:=⟨λ_ _ _=>aO 95 12 underlying166 rfl rE rfl⟩
theorem bA:FA prog 180 0 0:=⟨λ_ _ _=>aO 3 0 underlying180 rfl bY rfl⟩
theorem eJ:FA prog 180 1 1:=⟨λ_ _ _=>aO 83 1 underlying180 rfl AD rfl⟩
theorem bZ:FA prog 180 2 7:=⟨λ_ _ _=>aO 3 7 underlying180 rfl bY rfl⟩
theorem dZ:FA prog 180 3 8:=⟨λ_ _ _=>aO 3 8 underlying180 rfl bY rfl⟩
theorem eI:FA prog 180 4 9:=⟨λ_ _ _=>aO 3 9 underlying180 rfl bY rfl⟩
theorem fI:FA prog 180 5 10:=⟨λ_ _ _=>aO 21 10 underlying180 rfl aYv rfl⟩
theorem cP:FA prog 195 0 0:=⟨λ_ _ _=>aO 36 0 underlying195 rfl LP rfl⟩
theorem fH:FA prog 195 1 1:=⟨λ_ _ _=>aO 23 1 underlying195 rfl mI rfl⟩
theorem fV:FA prog 195 2 2:=⟨λ_ _ _=>aO 3 2 underlying195 rfl bY rfl⟩
theorem fP:FA prog 195 3 3:=⟨λ_ _ _=>aO 23 3 underlying195 rfl mI rfl⟩
theorem gY:FA prog 195 4 4:=⟨λ_ _ _=>aO 3 4 underlying195 rfl bY rfl⟩
theorem iN:FA prog 197 0 0:=⟨λ_ _ _=>aO 3 0 underlying197 rfl bY rfl⟩
theorem dN:FA prog 197 1 1:=⟨λ_ _ _=>aO 3 1 underlying197 rfl bY rfl⟩
theorem fU:FA prog 197 2 2:=⟨λ_ _ _=>aO 3 2 underlying197 rfl bY rfl⟩
theorem iM:FA prog 197 3 3:=⟨λ_ _ _=>aO 3 3 underlying197 rfl bY rfl⟩
theorem gX:FA prog 210 0 0:=⟨λ_ _ _=>aO 3 0 underlying210 rfl bY rfl⟩
theorem iL:FA prog 210 1 1:=⟨λ_ _ _=>aO 3 1 underlying210 rfl bY rfl⟩
theorem iK:FA prog 210 2 2:=⟨λ_ _ _=>aO 3 2 underlying210 rfl bY rfl⟩
theorem iJ:FA prog 210 3 3:=⟨λ_ _ _=>aO 3 3 underlying210 rfl bY rfl⟩
theorem iI:FA prog 210 4 4:=⟨λ_ _ _=>aO 3 4 underlying210 rfl bY rfl⟩
theorem gW:FA prog 210 5 5:=⟨λ_ _ _=>aO 3 5 underlying210 rfl bY rfl⟩
theorem bQ:FA prog 232 0 0:=⟨λ_ _ _=>aO 180 0 underlying232 rfl vV rfl⟩
theorem fO:FA prog 232 1 11:=⟨λ_ _ _=>aO 230 11 underlying232 rfl SM rfl⟩
theorem fT:FA prog 232 2 12:=⟨λ_ _ _=>aO 3 12 underlying232 rfl bY rfl⟩
theorem dY:FA prog 248 0 0:=⟨λ_ _ _=>aO 4 0 underlying248 rfl kP rfl⟩
theorem dX:FA prog 248 1 1:=⟨λ_ _ _=>aO 4 1 underlying248 rfl kP rfl⟩
theorem jY:FA prog 278 0 0:=⟨λ_ _ _=>aO 5 0 underlying278 rfl bBl rfl⟩
theorem jX:FA prog 278 1 1:=⟨λ_ _ _=>aO 5 1 underlying278 rfl bBl rfl⟩
theorem kX:FA prog 27 0 0:=⟨λ_ _ _=>aO 9 0 underlying27 rfl aPm rfl⟩
theorem jF:FA prog 27 1 1:=⟨λ_ _ _=>aO 23 1 underlying27 rfl mI rfl⟩
theorem fG:FA prog 27 2 2:=⟨λ_ _ _=>aO 24 2 underlying27 rfl aYt rfl⟩
theorem bP:FA prog 27 3 3:=⟨λ_ _ _=>aO 25 3 underlying27 rfl aYs rfl⟩
theorem kB:FA prog 27 4 4:=⟨λ_ _ _=>aO 23 4 underlying27 rfl mI rfl⟩
theorem kW:FA prog 33 0 0:=⟨λ_ _ _=>aO 3 0 underlying33 rfl bY rfl⟩
theorem gA:FA prog 33 1 1:=⟨λ_ _ _=>aO 3 1 underlying33 rfl bY rfl⟩
theorem eG:FA prog 33 2 2:=⟨λ_ _ _=>aO 31 2 underlying33 rfl LQ rfl⟩
theorem dL:FA prog 38 0 0:=⟨λ_ _ _=>aO 23 0 underlying38 rfl mI rfl⟩
theorem fS:FA prog 38 1 1:=⟨λ_ _ _=>aO 3 1 underlying38 rfl bY rfl⟩
theorem kV:FA prog 38 2 2:=⟨λ_ _ _=>aO 23 2 underlying38 rfl mI rfl⟩
theorem dG:FA prog 38 3 3:=⟨λ_ _ _=>aO 36 3 underlying38 rfl LP rfl⟩
theorem qJ:FA prog 61 0 0:=⟨λ_ _ _=>aO 3 0 underlying61 rfl bY rfl⟩
theorem pI:FA prog 61 1 1:=⟨λ_ _ _=>aO 3 1 underlying61 rfl bY rfl⟩
theorem oH:FA prog 61 2 2:=⟨λ_ _ _=>aO 59 2 underlying61 rfl bIh rfl⟩
theorem oG:FA prog 61 3 3:=⟨λ_ _ _=>aO 31 3 underlying61 rfl LQ rfl⟩
theorem lP:FA prog 68 0 0:=⟨λ_ _ _=>aO 66 0 underlying68 rfl aYr rfl⟩
theorem mV:FA prog 68 1 1:=⟨λ_ _ _=>aO 31 1 underlying68 rfl LQ rfl⟩
theorem pH:FA prog 68 2 2:=⟨λ_ _ _=>aO 3 2 underlying68 rfl bY rfl⟩
theorem lO:FA prog 72 0 0:=⟨λ_ _ _=>aO 23 0 underlying72 rfl mI rfl⟩
theorem mC:FA prog 72 1 1:=⟨λ_ _ _=>aO 3 1 underlying72 rfl bY rfl⟩
theorem mA:FA prog 83 0 0:=⟨λ_ _ _=>aO 3 0 underlying83 rfl bY rfl⟩
theorem lN:FA prog 83 1 1:=⟨λ_ _ _=>aO 3 1 underlying83 rfl bY rfl⟩
theorem qI:FA prog 83 2 2:=⟨λ_ _ _=>aO 3 2 underlying83 rfl bY rfl⟩
theorem mU:FA prog 83 3 3:=⟨λ_ _ _=>aO 3 3 underlying83 rfl bY rfl⟩
theorem lZ:FA prog 83 4 4:=⟨λ_ _ _=>aO 3 4 underlying83 rfl bY rfl⟩
theorem qH:FA prog 83 5 5:=⟨λ_ _ _=>aO 3 5 underlying83 rfl bY rfl⟩
theorem bJ:FA prog 88 0 0:=⟨λ_ _ _=>aO 3 0 underlying88 rfl bY rfl⟩
theorem bE:FA prog 88 1 1:=⟨λ_ _ _=>aO 3 1 underlying88 rfl bY rfl⟩
theorem sZ:FA prog 88 2 2:=⟨λ_ _ _=>aO 3 2 underlying88 rfl bY rfl⟩
theorem aPv:FA prog 90 0 0:=⟨λ_ _ _=>aO 3 0 underlying90 rfl bY rfl⟩
theorem aPu:FA prog 90 1 1:=⟨λ_ _ _=>aO 21 1 underlying90 rfl aYv rfl⟩
theorem gQ:L1 prog 139:=⟨_,underlying139,rfl⟩
theorem iH:L1 prog 151:=⟨_,underlying151,rfl⟩
theorem hY:L1 prog 155:=⟨_,underlying155,rfl⟩
theorem iG:L1 prog 201:=⟨_,underlying201,rfl⟩
theorem kI:L1 prog 21:=⟨_,underlying21,rfl⟩
theorem iF:L1 prog 219:=⟨_,underlying219,rfl⟩
theorem kH:L1 prog 22:=⟨_,underlying22,rfl⟩
theorem iE:L1 prog 221:=⟨_,underlying221,rfl⟩
theorem iD:L1 prog 223:=⟨_,underlying223,rfl⟩
theorem bD:L1 prog 23:=⟨_,underlying23,rfl⟩
theorem jB:L1 prog 230:=⟨_,underlying230,rfl⟩
theorem iC:L1 prog 24:=⟨_,underlying24,rfl⟩
theorem dM:L1 prog 25:=⟨_,underlying25,rfl⟩
theorem aH:L1 prog 3:=⟨_,underlying3,rfl⟩
theorem kD:L1 prog 31:=⟨_,underlying31,rfl⟩
theorem iY:L1 prog 36:=⟨_,underlying36,rfl⟩
theorem oD:L1 prog 4:=⟨_,underlying4,rfl⟩
theorem CZ:L1 prog 43:=⟨_,underlying43,rfl⟩
theorem bId:L1 prog 5:=⟨_,underlying5,rfl⟩
theorem aGj:L1 prog 59:=⟨_,underlying59,rfl⟩
theorem LH:L1 prog 66:=⟨_,underlying66,rfl⟩
theorem aGi:L1 prog 9:=⟨_,underlying9,rfl⟩
theorem GI:L1 prog 92:=⟨_,underlying92,rfl⟩
theorem oC:L1 prog 95:=⟨_,underlying95,rfl⟩
theorem rL:XA prog 139 1:=⟨_,_,_,underlying139,rE⟩
theorem HI:XA prog 155 6:=⟨_,_,_,underlying155,nC⟩
theorem wL:XA prog 22 4:=⟨_,_,_,underlying22,DG⟩
theorem rK:XA prog 229 13:=⟨_,_,_,underlying229,vU⟩
theorem aQ:XA prog 23 1:=⟨_,_,_,underlying23,bY⟩
theorem vH:XA prog 230 6:=⟨_,_,_,underlying230,AD⟩
theorem nK:XA prog 24 4:=⟨_,_,_,underlying24,DH⟩
theorem iQ:XA prog 25 4:=⟨_,_,_,underlying25,xN⟩
theorem aDh:XA prog 280 1:=⟨_,_,_,underlying280,aPm⟩
theorem mW:XA prog 31 1:=⟨_,_,_,underlying31,LO⟩
theorem kS:XA prog 36 3:=⟨_,_,_,underlying36,tZ⟩
theorem UF:XA prog 45 5:=⟨_,_,_,underlying45,qU⟩
theorem UE:XA prog 47 1:=⟨_,_,_,underlying47,aYu⟩
theorem tF:XA prog 48 4:=⟨_,_,_,underlying48,xM⟩
theorem aDg:XA prog 59 1:=⟨_,_,_,underlying59,IP⟩
theorem wK:XA prog 66 11:=⟨_,_,_,underlying66,vV⟩
theorem pJ:XA prog 92 1:=⟨_,_,_,underlying92,mI⟩
theorem gT:XA prog 95 1:=⟨_,_,_,underlying95,kP⟩
theorem bBg:∃ d z by_,Program.underlying prog 107=some d/\lQ d=true/\dA prog 107 z 2 by_:=⟨_,_,_,underlying107,rfl,DL⟩
theorem bBf:∃ d z by_,Program.underlying prog 109=some d/\lQ d=true/\dA prog 109 z 4 by_:=⟨_,_,_,underlying109,rfl,DK⟩
theorem bBe:∃ d z by_,Program.underlying prog 111=some d/\lQ d=true/\dA prog 111 z 3 by_:=⟨_,_,_,underlying111,rfl,DJ⟩
theorem bBd:∃ d z by_,Program.underlying prog 113=some d/\lQ d=true/\dA prog 113 z 4 by_:=⟨_,_,_,underlying113,rfl,DI⟩
theorem bBc:∃ d z by_,Program.underlying prog 115=some d/\lQ d=true/\dA prog 115 z 1 by_:=⟨_,_,_,underlying115,rfl,IV⟩
theorem aGh:∃ d z by_,Program.underlying prog 117=some d/\lQ d=true/\dA prog 117 z 2 by_:=⟨_,_,_,underlying117,rfl,IU⟩
theorem bBb:∃ d z by_,Program.underlying prog 121=some d/\lQ d=true/\dA prog 121 z 2 by_:=⟨_,_,_,underlying121,rfl,IQ⟩
theorem SG:∃ d z by_,Program.underlying prog 141=some d/\lQ d=true/\dA prog 141 z 3 by_:=⟨_,_,_,underlying141,rfl,pW⟩
theorem IL:∃ d z by_,Program.underlying prog 146=some d/\lQ d=true/\dA prog 146 z 4 by_:=⟨_,_,_,underlying146,rfl,DH⟩
theorem bBa:∃ d z by_,Program.underlying prog 157=some d/\lQ d=true/\dA prog 157 z 3 by_:=⟨_,_,_,underlying157,rfl,nJ⟩
theorem rP:∃ d z by_,Program.underlying prog 180=some d/\lQ d=true/\dA prog 180 z 11 by_:=⟨_,_,_,underlying180,rfl,vV⟩
theorem bAz:∃ d z by_,Program.underlying prog 197=some d/\lQ d=true/\dA prog 197 z 4 by_:=⟨_,_,_,underlying197,rfl,DG⟩
theorem fA:∃ d z by_,Program.underlying prog 210=some d/\lQ d=true/\dA prog 210 z 6 by_:=⟨_,_,_,underlying210,rfl,nC⟩
theorem zE:∃ d z by_,Program.underlying prog 232=some d/\lQ d=true/\dA prog 232 z 13 by_:=⟨_,_,_,underlying232,rfl,vU⟩
theorem lF:∃ d z by_,Program.underlying prog 27=some d/\lQ d=true/\dA prog 27 z 5 by_:=⟨_,_,_,underlying27,rfl,qU⟩
theorem bAy:∃ d z by_,Program.underlying prog 278=some d/\lQ d=true/\dA prog 278 z 2 by_:=⟨_,_,_,underlying278,rfl,SL⟩
theorem qC:∃ d z by_,Program.underlying prog 33=some d/\lQ d=true/\dA prog 33 z 3 by_:=⟨_,_,_,underlying33,rfl,xO⟩
theorem oB:∃ d z by_,Program.underlying prog 38=some d/\lQ d=true/\dA prog 38 z 4 by_:=⟨_,_,_,underlying38,rfl,xN⟩
theorem bIc:∃ d z by_,Program.underlying prog 61=some d/\lQ d=true/\dA prog 61 z 4 by_:=⟨_,_,_,underlying61,rfl,xM⟩
theorem bIb:∃ d z by_,Program.underlying prog 68=some d/\lQ d=true/\dA prog 68 z 3 by_:=⟨_,_,_,underlying68,rfl,uA⟩
theorem aGg:∃ d z by_,Program.underlying prog 72=some d/\lQ d=true/\dA prog 72 z 2 by_:=⟨_,_,_,underlying72,rfl,DF⟩
theorem qB:∃ d z by_,Program.underlying prog 83=some d/\lQ d=true/\dA prog 83 z 6 by_:=⟨_,_,_,underlying83,rfl,AD⟩
theorem iA:∃ d z by_,Program.underlying prog 88=some d/\lQ d=true/\dA prog 88 z 3 by_:=⟨_,_,_,underlying88,rfl,tZ⟩
theorem bB:XE prog 23 3 8:=⟨_,underlying23,bY,rfl⟩
theorem aZk:XE prog 280 9 16:=⟨_,underlying280,aPm,rfl⟩
theorem aDf:XE prog 31 43 16:=⟨_,underlying31,LO,rfl⟩
theorem bGw:XE prog 47 22 24:=⟨_,underlying47,aYu,rfl⟩
theorem aDe:XE prog 59 151 2:=⟨_,underlying59,IP,rfl⟩
theorem bGv:XE prog 92 23 24:=⟨_,underlying92,mI,rfl⟩
theorem aDd:XE prog 95 4 1:=⟨_,underlying95,kP,rfl⟩
theorem bM:TA prog 107:=TA.mk' underlying107 rfl DL
theorem fK:TA prog 109:=TA.mk' underlying109 rfl DK
theorem fY:TA prog 111:=TA.mk' underlying111 rfl DJ
theorem hU:TA prog 113:=TA.mk' underlying113 rfl DI
theorem gE:TA prog 115:=TA.mk' underlying115 rfl IV
theorem gO:TA prog 117:=TA.mk' underlying117 rfl IU
theorem jJ:TA prog 119:=TA.mk' underlying119 rfl IR
theorem jI:TA prog 121:=TA.mk' underlying121 rfl IQ
theorem lA:TA prog 123:=TA.mk' underlying123 rfl SQ
theorem lE:TA prog 125:=TA.mk' underlying125 rfl SP
theorem lX:TA prog 127:=TA.mk' underlying127 rfl SO
theorem nI:TA prog 129:=TA.mk' underlying129 rfl SN
theorem tG:TA prog 40:=TA.mk' underlying40 rfl aGs
theorem oL:TA prog 90:=TA.mk' underlying90 rfl VW
theorem TO:BD prog 107 [(.int .i64 0),(.int .i64 0)]:=⟨_,_,underlying107,DL,λw=>by kernel_rfl⟩
theorem pX:BD prog 109 [(.int .i64 0),(.int .i64 0),(.int .i64 0),(.int .i64 0)]:=⟨_,_,underlying109,DK,λw=>by kernel_rfl⟩
theorem TN:BD prog 111 [(.int .i64 0),(.int .i64 0),(.int .i64 0)]:=⟨_,_,underlying111,DJ,λw=>by kernel_rfl⟩
theorem bCx:BD prog 113 [(.int .i64 0),(.int .i64 0),(.int .i64 0),(.int .i64 0)]:=⟨_,_,underlying113,DI,λw=>by kernel_rfl⟩
theorem bCw:BD prog 115 [(.int .i64 0)]:=⟨_,_,underlying115,IV,λw=>by kernel_rfl⟩
theorem bCv:BD prog 117 [(.int .i64 0),(.int .i64 0)]:=⟨_,_,underlying117,IU,λw=>by kernel_rfl⟩
theorem bCu:BD prog 119 [(.int .i64 0),(.int .i64 0)]:=⟨_,_,underlying119,IR,λw=>by kernel_rfl⟩
theorem bCt:BD prog 121 [(.int .i64 0),(.int .i64 0)]:=⟨_,_,underlying121,IQ,λw=>by kernel_rfl⟩
theorem bCs:BD prog 123 [(.int .i64 0),(.int .i64 0),(.int .i64 0),(.int .i64 0),(.slice none 0 0)]:=⟨_,_,underlying123,SQ,λw=>by kernel_rfl⟩
theorem bCr:BD prog 125 [(.int .i64 0),(.int .i64 0),(.slice none 0 0)]:=⟨_,_,underlying125,SP,λw=>by kernel_rfl⟩
theorem bCq:BD prog 127 [(.int .i64 0),(.int .i64 0),(.slice none 0 0)]:=⟨_,_,underlying127,SO,λw=>by kernel_rfl⟩
theorem bCp:BD prog 129 [(.int .i64 0)]:=⟨_,_,underlying129,SN,λw=>by kernel_rfl⟩
theorem zK:BD prog 141 [(.slice none 0 0),(.slice none 0 0),(.slice none 0 0)]:=⟨_,_,underlying141,pW,λw=>by kernel_rfl⟩
theorem aHx:BD prog 146 [(.string ByteArray.empty),(.int .i64 0),(.slice none 0 0),(.int .i64 0)]:=⟨_,_,underlying146,DH,λw=>by kernel_rfl⟩
theorem JG:BD prog 157 [(.int .i64 0),(.int .u16 0),(.slice none 0 0)]:=⟨_,_,underlying157,nJ,λw=>by kernel_rfl⟩
theorem bCo:BD prog 195 [(.slice none 0 0),(.slice none 0 0),(.int .i64 0),(.slice none 0 0),(.int .i64 0)]:=⟨_,_,underlying195,bBo,λw=>by kernel_rfl⟩
theorem aHw:BD prog 210 [(.int .i64 0),(.int .i64 0),(.int .i64 0),(.int .i64 0),(.int .i64 0),(.int .i64 0)]:=⟨_,_,underlying210,nC,λw=>by kernel_rfl⟩
theorem bCn:BD prog 248 [(.bool false),(.bool false)]:=⟨_,_,underlying248,bBn,λw=>by kernel_rfl⟩
theorem aZd:BD prog 27 [(.string ByteArray.empty),(.slice none 0 0),(.slice none 0 0),(.slice none 0 0),(.slice none 0 0)]:=⟨_,_,underlying27,qU,λw=>by kernel_rfl⟩
theorem aZc:BD prog 33 [(.int .i64 0),(.int .i64 0),(.slice none 0 0)]:=⟨_,_,underlying33,xO,λw=>by kernel_rfl⟩
theorem WY:BD prog 38 [(.slice none 0 0),(.int .i64 0),(.slice none 0 0),(.slice none 0 0)]:=⟨_,_,underlying38,xN,λw=>by kernel_rfl⟩
theorem bIo:BD prog 40 []:=⟨_,_,underlying40,aGs,λw=>by kernel_rfl⟩
theorem bIn:BD prog 61 [(.int .i64 0),(.int .i64 0),(.slice none 0 0),(.slice none 0 0)]:=⟨_,_,underlying61,xM,λw=>by kernel_rfl⟩
theorem bIm:BD prog 72 [(.slice none 0 0),(.int .i64 0)]:=⟨_,_,underlying72,DF,λw=>by kernel_rfl⟩
theorem GW:BD prog 78 [(.int .i64 0),(.int .i64 0)]:=⟨_,_,underlying78,AE,λw=>by kernel_rfl⟩
theorem pQ:BD prog 83 [(.int .i64 0),(.int .i64 0),(.int .i64 0),(.int .i64 0),(.int .i64 0),(.int .i64 0)]:=⟨_,_,underlying83,AD,λw=>by kernel_rfl⟩
theorem MH:BD prog 88 [(.int .i64 0),(.int .i64 0),(.int .i64 0)]:=⟨_,_,underlying88,tZ,λw=>by kernel_rfl⟩
theorem WX:BD prog 90 [(.int .i64 0),(.int .i32 0)]:=⟨_,_,underlying90,VW,λw=>by kernel_rfl⟩
theorem IE:MI prog 107:=⟨_,underlying107,rfl⟩
theorem oR:MI prog 109:=⟨_,underlying109,rfl⟩
theorem ID:MI prog 111:=⟨_,underlying111,rfl⟩
theorem aFu:MI prog 113:=⟨_,underlying113,rfl⟩
theorem aFt:MI prog 115:=⟨_,underlying115,rfl⟩
theorem SB:MI prog 117:=⟨_,underlying117,rfl⟩
theorem bAu:MI prog 119:=⟨_,underlying119,rfl⟩
theorem aFs:MI prog 121:=⟨_,underlying121,rfl⟩
theorem bAt:MI prog 123:=⟨_,underlying123,rfl⟩
theorem bAs:MI prog 125:=⟨_,underlying125,rfl⟩
theorem bAr:MI prog 127:=⟨_,underlying127,rfl⟩
theorem bAq:MI prog 129:=⟨_,underlying129,rfl⟩
theorem bHx:MI prog 40:=⟨_,underlying40,rfl⟩
theorem VQ:MI prog 90:=⟨_,underlying90,rfl⟩
end Go.Proofs.YtjcmcfidblhnnaaGreatDoor
