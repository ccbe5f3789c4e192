/- LiftMeans: the method's code, made. -/
import Derived.Test.YtgkkecladbmjkaaGreatDoorZg
import Derived.Test.YtgkkecladbmjkaaGreatDoorZf
import Derived.Test.YtgkkecladbmjkaaGreatDoorZb
import Derived.WalkKit
import Derived.ProofKit
import Derived.OpenShut
import Derived.WideKeyArgs
import Derived.ChangeArms
import Derived.FnData
set_option maxHeartbeats 4000000
set_option linter.unusedSimpArgs false
namespace Go.Proofs.YtgkkecladbmjkaaGreatDoor
open Tryz
open Go.Vc Go.Tc
def VZ (t11:Z) (w83:O) (R:Z->O->Prop):Prop:=
 V prog (Instr.loadAt 46 t11) w83 λt134 w84=>
 aB prog 31 #[t134] w84 λt135 w85=>
 V prog (Instr.extract t135 0) w85 λt136 w86=>
 V prog (Instr.extract t135 1) w86 λt137 w87=>
 V prog (Instr.alloc 76 true (.tuple #[])) w87 λt12 w88=>
 U prog (Instr.storeAt 76 t12 t136) w88 λ_ w89=>
 V prog (do eqGuard .neq 34 (.tmp 138) (.const (i64 0)) t137 (i64 0);binOp .neq 34 t137 (i64 0)) w89 λt139 w90=>
 aH t139 (
 aB prog 32 #[] w90 λt140 w91=>
 R t140 w91) (
 aB prog 33 #[(i64 100)] w90 λt142 w92=>
 V prog (Instr.extract t142 0) w92 λt143 w93=>
 V prog (Instr.extract t142 1) w93 λt144 w94=>
 V prog (Instr.loadAt 46 t11) w94 λt146 w95=>
 aB prog 34 #[t146,(i64 0)] w95 λt147 w96=>
 V prog (Instr.extract t147 0) w96 λt148 w97=>
 V prog (Instr.extract t147 1) w97 λ_ w98=>
 V prog (Instr.extract t147 2) w98 λt150 w99=>
 V prog (Instr.alloc 83 true (.tuple #[])) w99 λt16 w100=>
 U prog (Instr.storeAt 83 t16 t148) w100 λ_ w101=>
 aB prog 32 #[] w101 λt151 w102=>
 V prog (Op.unary UnOp.not t151) w102 λt152 w103=>
 gd t152 false (λK=>K t144 w103) w103 λt154 w104=>
 gd t152 false (λK=>V prog (do eqGuard .neq 34 (.tmp 154) (.const (i64 0)) t154 (i64 0);binOp .neq 34 t154 (i64 0)) w104 K) w104 λt155 w105=>
 aG t152 (.bool true) t155 λt156=>
 gd t156 false (λK=>K t143 w105) w105 λt158 w107=>
 gd t156 false (λK=>V prog (do eqGuard .eql 26 (.tmp 158) (.const (Value.pointer none)) t158 (Value.pointer none);binOp .eql 26 t158 (Value.pointer none)) w107 K) w107 λt159 w108=>
 aG t156 (.bool true) t159 λt160=>
 gd t160 false (λK=>K t150 w108) w108 λt162 w110=>
 gd t160 false (λK=>V prog (Op.unary UnOp.not t162) w110 K) w110 λt163 w111=>
 aG t160 (.bool true) t163 λt164=>
 aH t164 (
 R (.bool false) w111) (
 V prog (Instr.loadAt 46 t11) w111 λt166 w113=>
 aB prog 35 #[t143,t166] w113 λ_ w114=>
 aB prog 13 #[t143,(i64 0),(i64 1000)] w114 λt170 w115=>
 V prog (Instr.extract t170 0) w115 λt171 w116=>
 V prog (Instr.extract t170 1) w116 λt172 w117=>
 V prog (do eqGuard .neq 34 (.tmp 173) (.const (i64 0)) t172 (i64 0);binOp .neq 34 t172 (i64 0)) w117 λt174 w118=>
 gd t174 false (λK=>K t171 w118) w118 λt176 w119=>
 gd t174 false (λK=>V prog (do eqGuard .eql 33 (.tmp 176) (.const (Value.pointer none)) t176 (Value.pointer none);binOp .eql 33 t176 (Value.pointer none)) w119 K) w119 λt177 w120=>
 aG t174 (.bool true) t177 λt178=>
 gd t178 false (λK=>K t171 w120) w120 λt180 w122=>
 gd t178 false (λK=>aB prog 20 #[t180] w122 K) w122 λt181 w123=>
 gd t178 false (λK=>V prog (do eqGuard .neq 3 (.tmp 181) (.const (i64 36864)) t181 (i64 36864);binOp .neq 3 t181 (i64 36864)) w123 K) w123 λt182 w124=>
 aG t178 (.bool true) t182 λt183=>
 aH t183 (
 R (.bool false) w124) (
 aJ w124 λS32 w126=>
 aC prog S32 (Instr.loadAt 83 t16) λt185=>
 aC prog S32 (Instr.fieldAt 83 t16 1) λt186=>
 aC prog S32 (Instr.loadAt 3 t186) λt187=>
 V prog (Instr.makeSlice 37 t187 t187) w126 λt188 w127=>
 S32 w127 /\
 aB prog 36 #[t185,t188,(i64 0),(i64 5000)] w127 λt189 w128=>
 S32 w128 /\
 aC prog S32 (Instr.extract t189 0) λt190=>
 aC prog S32 (Instr.extract t189 1) λt191=>
 aC prog S32 (Instr.extract t189 2) λt192=>
 V prog (binOp .lss 3 t191 (i64 0)) w128 λt194 w129=>
 gd t194 false (λK=>K t191 w129) w129 λt196 w130=>
 gd t194 false (λK=>V prog (Instr.fieldAt 83 t16 2) w130 K) w130 λt197 w131=>
 gd t194 false (λK=>V prog (Instr.loadAt 81 t197) w131 K) w131 λt198 w132=>
 gd t194 false (λK=>V prog (Builtin.len_ #[81] 3 #[t198]) w132 K) w132 λt199 w133=>
 gd t194 false (λK=>V prog (binOp .geq 3 t196 t199) w133 K) w133 λt200 w134=>
 aG t194 (.bool true) t200 λt201=>
 aH t201 (
 R (.bool false) w134) (
 V prog (Instr.fieldAt 83 t16 2) w134 λt203 w136=>
 V prog (Instr.loadAt 81 t203) w136 λt204 w137=>
 V prog (Instr.indexAt 81 t204 t191) w137 λt206 w138=>
 V prog (Instr.loadAt 94 t206) w138 λt207 w139=>
 V prog (Instr.typeAssert t207 94 91 true) w139 λt208 w140=>
 V prog (Instr.extract t208 0) w140 λt209 w141=>
 V prog (Instr.extract t208 1) w141 λt210 w142=>
 V prog (Instr.alloc 91 true (.tuple #[])) w142 λt24 w143=>
 U prog (Instr.storeAt 91 t24 t209) w143 λ_ w144=>
 aB prog 37 #[t143,(i64 0),(i64 0)] w144 λt213 w145=>
 V prog (Instr.extract t213 0) w145 λt214 w146=>
 V prog (Instr.extract t213 1) w146 λ_ w147=>
 gd t210 true (λK=>V prog (Instr.fieldAt 91 t24 0) w147 K) w147 λt218 w148=>
 gd t210 true (λK=>V prog (Instr.loadAt 3 t218) w148 K) w148 λt219 w149=>
 gd t210 true (λK=>V prog (do eqGuard .eql 3 (.tmp 219) (.const (i64 0)) t219 (i64 0);binOp .eql 3 t219 (i64 0)) w149 K) w149 λt220 w150=>
 aG t210 t220 (.bool false) λt221=>
 gd t221 true (λK=>V prog (Instr.fieldAt 91 t24 1) w150 K) w150 λt223 w152=>
 gd t221 true (λK=>V prog (Instr.loadAt 3 t223) w152 K) w152 λt224 w153=>
 gd t221 true (λK=>V prog (binOp .geq 3 t224 (i64 0)) w153 K) w153 λt225 w154=>
 aG t221 t225 (.bool false) λt226=>
 gd t226 true (λK=>V prog (Instr.fieldAt 91 t24 1) w154 K) w154 λt228 w156=>
 gd t226 true (λK=>V prog (Instr.loadAt 3 t228) w156 K) w156 λt229 w157=>
 gd t226 true (λK=>K t190 w157) w157 λt230 w158=>
 gd t226 true (λK=>V prog (Builtin.len_ #[37] 3 #[t230]) w158 K) w158 λt231 w159=>
 gd t226 true (λK=>V prog (binOp .lss 3 t229 t231) w159 K) w159 λt232 w160=>
 aG t226 t232 (.bool false) λt233=>
 gd t233 true (λK=>K t190 w160) w160 λt235 w162=>
 gd t233 true (λK=>V prog (Instr.fieldAt 91 t24 1) w162 K) w162 λt236 w163=>
 gd t233 true (λK=>V prog (Instr.loadAt 3 t236) w163 K) w163 λt237 w164=>
 gd t233 true (λK=>V prog (Instr.indexAt 37 t235 t237) w164 K) w164 λt238 w165=>
 gd t233 true (λK=>V prog (Instr.loadAt 21 t238) w165 K) w165 λt239 w166=>
 gd t233 true (λK=>K t214 w166) w166 λt240 w167=>
 gd t233 true (λK=>V prog (do eqGuard .eql 21 (.tmp 239) (.tmp 240) t239 t240;binOp .eql 21 t239 t240) w167 K) w167 λt241 w168=>
 aG t233 t241 (.bool false) λt242=>
 gd t242 true (λK=>K t192 w168) w168 λt244 w170=>
 gd t242 true (λK=>K t171 w170) w170 λt245 w171=>
 gd t242 true (λK=>aB prog 18 #[t245] w171 K) w171 λt246 w172=>
 gd t242 true (λK=>V prog (binOp .sub 3 (i64 1000) t246) w172 K) w172 λt247 w173=>
 gd t242 true (λK=>V prog (binOp .sub 3 t247 (i64 1)) w173 K) w173 λt248 w174=>
 gd t242 true (λK=>V prog (do eqGuard .eql 3 (.tmp 244) (.tmp 248) t244 t248;binOp .eql 3 t244 t248) w174 K) w174 λt249 w175=>
 aG t242 t249 (.bool false) λt250=>
 R t250 w175))))
def oO (code:List gN):dN:=⟨⟨#[97]⟩,[1],[],[⟨[],0,[1],code⟩],[]⟩
def LW (w:O) (v:Z) (f:Int->Z) (l:List Int):Prop:=∃ a c,v=.slice a l.length c/\(0 < l.length->aA w v 1 l.length (l.map f))
structure vH (code:List gN) (j:Nat):Prop where
 lo:2<=code.length
 hi:code.length<=2+6*j
 ok:∀ (pc:Nat) x,code[pc]?=some x->OH x.op/\x.b=0/\(x.op=24->(pc:Int) < x.a/\x.a<=code.length)
theorem vH.app {code xs:List gN} {j:Nat} (h:vH code j) (h1:xs.length<=6) (hx:∀ (k:Nat) x,xs[k]?=some x->OH x.op/\x.b=0/\(x.op=24->((code.length+k:Nat):Int) < x.a/\x.a<=((code.length+xs.length:Nat):Int))):vH (code++xs) (j+1):=by
 have hh:=h.hi;have hl:=h.lo;refine ⟨by rw [List.length_append];omega,by rw [List.length_append];omega,λpc x hp=>?_⟩;rw [List.getElem?_append] at hp;rw [List.length_append];split at hp
 ·obtain ⟨a,b,c⟩:=h.ok pc x hp;exact ⟨a,b,λe=>by have:=c e;omega⟩
 ·obtain ⟨a,b,c⟩:=hx _ x hp;exact ⟨a,b,λe=>by have:=c e;omega⟩
theorem vH.fwd {code:List gN} {j:Nat} (h:vH code j):ZY ⟨[],0,[1],code++[⟨2,0,0⟩,⟨34,0,0⟩,⟨39,0,0⟩]⟩:=by
 have hl:=h.lo;have e:(code++[(⟨2,0,0⟩:gN),⟨34,0,0⟩,⟨39,0,0⟩]).length=code.length+3:=by simp
 have hg:∀ k,(⟨[],0,[1],code++[⟨2,0,0⟩,⟨34,0,0⟩,⟨39,0,0⟩]⟩:gA).ins (code.length+k)=([(⟨2,0,0⟩:gN),⟨34,0,0⟩,⟨39,0,0⟩]).getD k gN.none:=λk=>by
  unfold gA.ins;dsimp only;rw [List.getD_eq_getElem?_getD,List.getElem?_append_right (by omega),List.getD_eq_getElem?_getD];rw [show code.length+k - code.length=k by omega]
 refine ⟨by rw [e];omega,?_,?_,λpc hp=>?_⟩
 ·rw [e,show code.length+3 - 2=code.length+1 by omega,hg];rfl
 ·rw [e,show code.length+3 - 1=code.length+2 by omega,hg];rfl
 ·rw [e] at hp ⊢;by_cases hlt:pc < code.length
  ·obtain ⟨x,hx⟩:=fQ (l:=code) (j:=pc) hlt
   have e2:(⟨[],0,[1],code++[⟨2,0,0⟩,⟨34,0,0⟩,⟨39,0,0⟩]⟩:gA).ins pc=x:=by
    unfold gA.ins;dsimp only;rw [List.getD_eq_getElem?_getD,List.getElem?_append_left hlt,hx];rfl
   obtain ⟨a,_,c⟩:=h.ok pc x hx;rw [e2];exact ⟨a,λe=>by have:=c e;omega⟩
  ·have:pc=code.length+0:=by omega
   rw [this,hg];exact ⟨.inr (.inl rfl),λe=>by cases e⟩
section
variable {w w0:O} {K:Z->O->Prop}
def aCk (x:gN):Z:=.agg #[i64 x.op,i64 x.a,i64 x.b]
theorem xS (xs:List gN):((xs.map aCk).flatMap λv=>v.cells.toList)=iJ xs:=by
 unfold iJ;rw [List.flatMap_map];rfl
theorem BZ {tv:Z} {code:List gN} (xs:List gN) {n:Nat} {parts:Array (Nat × Z)} (x0:aE w0 w) (ho:w.ownsRow w0.heap.size 70 3 tv code.length (iJ code)) (hn:n=xs.length) (hp:parts.toList=((xs.map aCk).zipIdx 0).map λx=>(x.2,x.1)) (h0:0 < n) (hx:n<=10) (hl:code.length<=1000)
  (hk:∀ v w',w'.ownsRow w0.heap.size 70 3 v (code++xs).length (iJ (code++xs))->aE w0 w'->K v w') :
  V prog (Instr.buildSlice 71 n parts) w λu w1=>V prog (Builtin.append_ #[71,71] 71 #[tv,u]) w1 K:=by
 refine vM underlying71 mE rfl (by decide) (xs.map aCk) (by simpa using hn) hp (by intro v hv;obtain ⟨x,_,rfl⟩:=List.mem_map.1 hv;rfl) h0 (by omega) λuv w5 ho5 x5=>?_;have s5:=x5.size;have s0:=x0.size;rw [xS] at ho5;refine apG underlying71 mE rfl (by decide) (x5.own ho) (aA.of_own ho5) (by rw [List.all_eq_true];intro v hv;unfold iJ at hv;obtain ⟨x,_,hx⟩:=List.mem_flatMap.1 hv;simp only [List.mem_cons,List.not_mem_nil,or_false] at hx;rcases hx with rfl|rfl|rfl<;>rfl) (by omega) (by unfold maxLen;omega) (by omega) λv6 w6 ho6 hg6 _=>?_;have e6:iJ code++iJ xs=iJ (code++xs):=by unfold iJ;rw [List.flatMap_append]
 rw [e6] at ho6;refine hk v6 w6 (by rw [List.length_append,<- hn];exact ho6) ((x0.trans x5).grown hg6 λk hk=>((x5.own ho).lt k hk).1)
theorem aTm {k:Nat} (h4:4<=k) (h9:k < 9) (hk:∀ op,OH op->op≠24->K (i64 op) w) :
  V prog (Instr.build 72 #[(0,(i64 11)),(1,(i64 7)),(2,(i64 21)),(3,(i64 14)),(4,(i64 19))]) w λt53 w59=>V prog (binOp .sub 3 (i64 (k:Int)) (i64 4)) w59 λt55 w60=>V prog (Instr.index 72 t53 t55) w60 K:=by
 have hb:(Instr.build 72 #[(0,(i64 11)),(1,(i64 7)),(2,(i64 21)),(3,(i64 14)),(4,(i64 19))]).run prog w=.ok (.agg #[i64 11,i64 7,i64 21,i64 14,i64 19]) w:=by kernel_rfl
 refine V.ok hb (iL.2 ?_);rw [aU (by omega)];have:k=4\/k=5\/k=6\/k=7\/k=8:=by omega
 have ob:∀ op:Int,((6<=op/\op<=14)\/(19<=op/\op<=21))->OH op:=λop h=>.inr (.inr (.inr (.inr (.inl h))));rcases this with rfl|rfl|rfl|rfl|rfl
 ·exact V.ok (v:=i64 11) (w':=w) (by kernel_rfl) (hk _ (ob _ (by omega)) (by decide))
 ·exact V.ok (v:=i64 7) (w':=w) (by kernel_rfl) (hk _ (ob _ (by omega)) (by decide))
 ·exact V.ok (v:=i64 21) (w':=w) (by kernel_rfl) (hk _ (ob _ (by omega)) (by decide))
 ·exact V.ok (v:=i64 14) (w':=w) (by kernel_rfl) (hk _ (ob _ (by omega)) (by decide))
 ·exact V.ok (v:=i64 19) (w':=w) (by kernel_rfl) (hk _ (ob _ (by omega)) (by decide))
theorem XQ {t0:Z} {l:List Int} {j:Nat} {n:Nat} (hl:aA w t0 1 n (l.map i32)) (hn:n=l.length) (h32:kD l) (hj:j < l.length) (hk:∀ z,kY z->K (i64 z) w) :
  V prog (Instr.indexAt 37 t0 (i64 (j:Int))) w λp w1=>V prog (Instr.loadAt 21 p) w1 λv w2=>V prog (convert 21 3 v) w2 K:=by
 subst hn;obtain ⟨z,hz⟩:=fQ hj;refine kP kE eY hl (by omega) (by omega) (u:=i32 z) (by rw [Int.toNat_natCast,List.getElem?_map,hz];rfl) ?_;refine V.ok (jK underlying21 underlying3) ?_;have h:=h32 z (List.mem_of_getElem? hz);have h':kY z:=h;unfold kY at h';rw [aU (by omega)];exact hk z h
theorem opB {op:Int} (h:(6<=op/\op<=14)\/(19<=op/\op<=21)):OH op:=.inr (.inr (.inr (.inr (.inl h))))
theorem aMz {t0 t1:Z} {l signs:List Int} {way:Int} (hl:LW w t0 i32 l) (l32:kD l) (hs:LW w t1 i64 signs) (hway:kY way) {R:Z->O->Prop}
  (hk:∀ g p code w',dW w' g [.string ⟨#[97]⟩,p.fv,p.iv,p.mv,p.xv] 46->gZ w' p (oO code)->ZY ((oO code).meth 0)->(∀ x∈code,x.b=0)->aE w w'->VZ (.pointer (some ⟨g,0,none⟩)) w' R) :
  OL t0 t1 (i32 way) w R:=by
 obtain ⟨a0,c0,rfl,hl⟩:=hl;obtain ⟨a1,c1,rfl,hs⟩:=hs;unfold OL;refine V.ok (jK underlying21 underlying3) ?_;have hway':=hway;unfold kY at hway';rw [aU (by omega)];refine kO iK [(0,i64 1),(1,i64 way)] rfl rfl (kO iK [(0,i64 3)] rfl rfl ?_);refine vM underlying71 mE rfl (by decide) ([⟨1,way,0⟩,⟨3,0,0⟩].map aCk) rfl rfl (by intro v hv;obtain ⟨x,_,rfl⟩:=List.mem_map.1 hv;rfl) (by decide) (by decide) λcv w1 ho1 x1=>?_;rw [xS] at ho1;refine ⟨λtv v w'=>∃ (code:List gN) (j:Nat),v=i64 (j:Int)/\j<=12/\w'.ownsRow w.heap.size 70 3 tv code.length (iJ code)/\vH code j/\aE w w',λ_ v _=>12 - (RowKit.intOf v).toNat,⟨[⟨1,way,0⟩,⟨3,0,0⟩],0,rfl,by decide,ho1,⟨by simp,by simp,λpc x hx=>?_⟩,x1⟩,?_⟩
 ·match pc,hx with
  | 0,hx=>cases hx;exact ⟨.inl rfl,rfl,λe=>by cases e⟩
  | 1,hx=>cases hx;exact ⟨.inr (.inr (.inl rfl)),rfl,λe=>by cases e⟩
  | k+2,hx=>simp at hx
 rintro tv _ w2 ⟨code,j,rfl,hj,ho,hC,x2⟩ _;have hlo:=hC.lo;have hhi:=hC.hi;refine aDn.2 (bP.2 ?_);by_cases hc:(j:Int) < (l.length:Int)/\(j:Int) < 12
 ·obtain ⟨h1,h2⟩:=hc;simp only [h1,h2,aN]
  have fin:∀ {v:Z} {w':O} {code':List gN},w'.ownsRow w.heap.size 70 3 v code'.length (iJ code')->vH code' (j+1)->aE w w'->V prog (binOp .add 3 (i64 (j:Int)) (i64 1)) w' λt42 w31=>(∃ (code:List gN) (j:Nat),t42=i64 (j:Int)/\j<=12/\w31.ownsRow w.heap.size 70 3 v code.length (iJ code)/\vH code j/\aE w w31)/\12 - (RowKit.intOf t42).toNat < 12 - (RowKit.intOf (i64 (j:Int))).toNat:=λ{v w' code'} ho hC x=>by
   refine mJ (by omega) ?_;exact ⟨⟨code',j+1,rfl,by omega,ho,hC,x⟩,by simp only [aW];omega⟩
  refine ⟨λv w'=>∃ k:Nat,v=i64 (k:Int)/\k < 9/\w'=w2,?_,?_⟩
  ·refine QR.2 (bP.2 (aK (λhlt=>?_) λ_=>⟨0,rfl,by decide,rfl⟩));refine kP aM aF ((hs (by omega)).ext x2) (by omega) (by omega) (fD (jW (l:=signs) (j:=j) (by omega))) ?_;exact WT (by decide) (by decide) λk hk=>⟨k,rfl,by omega,rfl⟩
  rintro _ w3 ⟨k,rfl,hk9,hw⟩ _;have hw:=hw.symm;subst hw;have hjl:j < l.length:=by omega
  have hl2:=(hl (by omega)).ext x2;refine aO.2 (aK (λe0=>?_) λe0=>?_)
  ·refine kO iK [(0,i64 2)] rfl rfl ?_;refine hU iZ (aA.of_own ho) (dS.2 ?_);rw [aU (by omega)];refine kO iK [(0,i64 24),(1,i64 ((code.length:Int)+6))] rfl rfl (kO iK [(0,i64 2)] rfl rfl ?_);refine XQ hl2 rfl l32 hjl λz hz=>?_;refine kO iK [(0,i64 1),(1,i64 z)] rfl rfl (kO iK [(0,i64 6)] rfl rfl (kO iK [(0,i64 3)] rfl rfl ?_));refine BZ [⟨2,0,0⟩,⟨24,(code.length:Int)+6,0⟩,⟨2,0,0⟩,⟨1,z,0⟩,⟨6,0,0⟩,⟨3,0,0⟩] x2 ho rfl rfl (by decide) (by decide) (by omega) λv w4 ho4 x4=>fin ho4 (hC.app (by simp) λk x hx=>?_) x4
   match k,hx with
   | 0,hx=>cases hx;exact ⟨.inr (.inl rfl),rfl,λe=>by cases e⟩
   | 1,hx=>cases hx;exact ⟨by unfold OH;simp,rfl,λ_=>⟨by dsimp only;omega,by dsimp only [List.length];omega⟩⟩
   | 2,hx=>cases hx;exact ⟨.inr (.inl rfl),rfl,λe=>by cases e⟩
   | 3,hx=>cases hx;exact ⟨.inl rfl,rfl,λe=>by cases e⟩
   | 4,hx=>cases hx;exact ⟨opB (by decide),rfl,λe=>by cases e⟩
   | 5,hx=>cases hx;exact ⟨.inr (.inr (.inl rfl)),rfl,λe=>by cases e⟩
   | k+6,hx=>simp at hx
  refine aO.2 (aK (λe1=>?_) λe1=>?_)
  ·refine kO iK [(0,i64 2)] rfl rfl (kO iK [(0,i64 15)] rfl rfl (kO iK [(0,i64 3)] rfl rfl ?_));refine BZ [⟨2,0,0⟩,⟨15,0,0⟩,⟨3,0,0⟩] x2 ho rfl rfl (by decide) (by decide) (by omega) λv w4 ho4 x4=>fin ho4 (hC.app (by simp) λk x hx=>?_) x4
   match k,hx with
   | 0,hx=>cases hx;exact ⟨.inr (.inl rfl),rfl,λe=>by cases e⟩
   | 1,hx=>cases hx;exact ⟨by unfold OH;simp,rfl,λe=>by cases e⟩
   | 2,hx=>cases hx;exact ⟨.inr (.inr (.inl rfl)),rfl,λe=>by cases e⟩
   | k+3,hx=>simp at hx
  refine aO.2 (aK (λe2=>?_) λe2=>?_)
  ·refine kO iK [(0,i64 2)] rfl rfl ?_;refine XQ hl2 rfl l32 hjl λz hz=>?_;refine kO iK [(0,i64 1),(1,i64 z)] rfl rfl (kO iK [(0,i64 2)] rfl rfl (kO iK [(0,i64 22)] rfl rfl (kO iK [(0,i64 3)] rfl rfl ?_)));refine BZ [⟨2,0,0⟩,⟨1,z,0⟩,⟨2,0,0⟩,⟨22,0,0⟩,⟨3,0,0⟩] x2 ho rfl rfl (by decide) (by decide) (by omega) λv w4 ho4 x4=>fin ho4 (hC.app (by simp) λk x hx=>?_) x4
   match k,hx with
   | 0,hx=>cases hx;exact ⟨.inr (.inl rfl),rfl,λe=>by cases e⟩
   | 1,hx=>cases hx;exact ⟨.inl rfl,rfl,λe=>by cases e⟩
   | 2,hx=>cases hx;exact ⟨.inr (.inl rfl),rfl,λe=>by cases e⟩
   | 3,hx=>cases hx;exact ⟨by unfold OH;simp,rfl,λe=>by cases e⟩
   | 4,hx=>cases hx;exact ⟨.inr (.inr (.inl rfl)),rfl,λe=>by cases e⟩
   | k+5,hx=>simp at hx
  refine aO.2 (aK (λe3=>?_) λe3=>?_)
  ·refine kO iK [(0,i64 2)] rfl rfl (kO iK [(0,i64 5)] rfl rfl (kO iK [(0,i64 8)] rfl rfl (kO iK [(0,i64 3)] rfl rfl ?_)));refine BZ [⟨2,0,0⟩,⟨5,0,0⟩,⟨8,0,0⟩,⟨3,0,0⟩] x2 ho rfl rfl (by decide) (by decide) (by omega) λv w4 ho4 x4=>fin ho4 (hC.app (by simp) λk x hx=>?_) x4
   match k,hx with
   | 0,hx=>cases hx;exact ⟨.inr (.inl rfl),rfl,λe=>by cases e⟩
   | 1,hx=>cases hx;exact ⟨by unfold OH;simp,rfl,λe=>by cases e⟩
   | 2,hx=>cases hx;exact ⟨opB (by decide),rfl,λe=>by cases e⟩
   | 3,hx=>cases hx;exact ⟨.inr (.inr (.inl rfl)),rfl,λe=>by cases e⟩
   | k+4,hx=>simp at hx
  refine aTm (k:=k) (by omega) hk9 λop hop h24=>?_;refine kO iK [(0,i64 2)] rfl rfl ?_;refine XQ hl2 rfl l32 hjl λz hz=>?_;refine kO iK [(0,i64 1),(1,i64 z)] rfl rfl (kO iK [(0,i64 op)] rfl rfl (kO iK [(0,i64 3)] rfl rfl ?_));refine BZ [⟨2,0,0⟩,⟨1,z,0⟩,⟨op,0,0⟩,⟨3,0,0⟩] x2 ho rfl rfl (by decide) (by decide) (by omega) λv w4 ho4 x4=>fin ho4 (hC.app (by simp) λk x hx=>?_) x4
  match k,hx with
  | 0,hx=>cases hx;exact ⟨.inr (.inl rfl),rfl,λe=>by cases e⟩
  | 1,hx=>cases hx;exact ⟨.inl rfl,rfl,λe=>by cases e⟩
  | 2,hx=>cases hx;exact ⟨hop,rfl,λe=>absurd e h24⟩
  | 3,hx=>cases hx;exact ⟨.inr (.inr (.inl rfl)),rfl,λe=>by cases e⟩
  | k+4,hx=>simp at hx
 ·have hz:decide ((j:Int) < (l.length:Int))=false\/(decide ((j:Int) < (l.length:Int))=true/\decide ((j:Int) < 12)=false):=by
   by_cases h1:(j:Int) < (l.length:Int)
   ·exact .inr ⟨by simp [h1],by simp;omega⟩
   ·exact .inl (by simp;omega)
  rcases hz with hz|⟨hz,hz2⟩
  all_goals
   first
    | simp only [hz,hz2,aN]
    | simp only [hz,aN]
   refine kO iK [(0,i64 2)] rfl rfl (kO iK [(0,i64 34)] rfl rfl (kO iK [(0,i64 39)] rfl rfl ?_));refine BZ [⟨2,0,0⟩,⟨34,0,0⟩,⟨39,0,0⟩] x2 ho rfl rfl (by decide) (by decide) (by omega) λcv2 w4 ho4 x4=>?_;refine iT aZ [i64 1] rfl rfl (by simp) rfl λfv w5 ho5 x5=>?_;refine iT aZ [i64 1] rfl rfl (by simp) rfl λlv w6 ho6 x6=>?_;have hc4:lG w4 cv2 (code++[⟨2,0,0⟩,⟨34,0,0⟩,⟨39,0,0⟩]):=aA.of_own ho4;have hf5:aQ w5 fv [1]:=aA.of_own ho5;have hl6:aQ w6 lv [1]:=aA.of_own ho6;obtain ⟨ca,cc,rfl⟩:=aA.shape hc4;obtain ⟨la,lc,rfl⟩:=aA.shape hl6;obtain ⟨fa,fc,rfl⟩:=aA.shape hf5;refine kO GX [(2,_),(3,_)] rfl rfl ?_;refine vM underlying44 nD rfl (by decide) [.agg #[cM,i64 0,.slice la _ lc,.slice ca _ cc]] rfl rfl (by intro v hv;rw [List.mem_singleton] at hv;subst hv;rfl) (by decide) (by decide) λmv w7 hm7 x7=>?_
   have hm:mI w7 mv [⟨[],0,[1],code++[⟨2,0,0⟩,⟨34,0,0⟩,⟨39,0,0⟩]⟩]:=by
    refine ⟨[cM,i64 0,.slice la _ lc,.slice ca _ cc],aA.of_own hm7,λk x hk=>?_⟩
    match k,hk with
    | 0,hk=>cases hk;exact ⟨_,rfl,cM,_,_,rfl,aA.nil _ _,hl6.ext x7,hc4.ext ((x5.trans x6).trans x7)⟩
    | k+1,hk=>simp at hk
   obtain ⟨ma,mc,rfl⟩:∃ a c,mv=.slice a 1 c:=by obtain ⟨cs,h1,_⟩:=hm;exact aA.shape h1
   refine kO YZ [(0,.string ⟨#[97]⟩),(1,_),(3,_)] rfl rfl ?_;refine UP (by first|exact pN|exact rY|exact qM|exact rX|exact qL|exact qK|exact pM|exact pL|exact wU|exact CQ|exact CP|exact CO|exact wT|exact CN|exact VM|exact OW) rfl rfl λw8 hB8 x8=>?_;have x48:=((x5.trans x6).trans x7).trans x8;refine hk w7.heap.size ⟨.slice fa _ fc,cM,.slice ma 1 mc,cM⟩ (code++[(⟨2,0,0⟩:gN),⟨34,0,0⟩,⟨39,0,0⟩]) w8 hB8 ⟨hf5.ext ((x6.trans x7).trans x8),⟨[],aA.nil _ _,λk x hk=>by simp [oO] at hk⟩,hm.ext x8,aA.nil _ _⟩ hC.fwd (λx hx=>?_) (x4.trans x48);rcases List.mem_append.1 hx with hx|hx
   ·obtain ⟨k,hk⟩:=List.getElem?_of_mem hx;exact (hC.ok k x hk).2.1
   ·simp only [List.mem_cons,List.not_mem_nil,or_false] at hx;rcases hx with rfl|rfl|rfl<;>rfl
end
section
variable {l:List dN} {X0:Nat->Prop} {p p1:jX} {fg fcap:Nat} {qs:List FP} {q q1:FP} {m:PM} {w w1 w':O}
theorem aTw (hop:oG (m.f.ins l).op\/(m.f.ins l).op=39) (hT:rL l) (hll:l.length<=1000) (h:iP l X0 p fg fcap qs q m w) (hok:m.ok l) (htr:m.r.ps.tr.length<=99000) :
  aB prog 53 #[pm p,pf q,.agg #[i64 (m.f.ins l).op,i64 (m.f.ins l).a,i64 (m.f.ins l).b]] w λrv w'=>
   DoR l X0 p q (BX X0 fg qs) (.slice (some ⟨fg,0,none⟩) (qs.length+1) fcap) (m.fs.length+1) m.fuel (vY l m.fs m.f m.fuel m.r (m.f.ins l) (jE (fW l m.f) m.f.st) (kX (fW l m.f) m.f.st)) rv w w':=by
 have hA:=hok.top.at_ hT;have hrt:=hok.top.rt hT;have hdep:=hok.dep;have h8:=hA.hi;have hnt:=hA.nt;have hpc:m.f.pc<=1000:=by have:=hA.pc;have:=hrt.2.1.2.2.2.1.2;omega
 have h32:=hok.top.s32;have hl:=h.len;generalize hx:m.f.ins l=x at *;have hokx:rT (m.f.img l) (m.f.me l) x:=hx▸hA.okx;have hN:fW l m.f=(aI (m.f.img l) (m.f.me l) x).length:=by unfold fW;rw [hx]
 apply aOp;suffices key:∀ R:Z->O->Prop,(∀ rv w',DoR l X0 p q (BX X0 fg qs) (.slice (some ⟨fg,0,none⟩) (qs.length+1) fcap) (m.fs.length+1) m.fuel (vY l m.fs m.f m.fuel m.r x (jE (fW l m.f) m.f.st) (kX (fW l m.f) m.f.st)) rv w w'->R rv w')->EC (pm p) (pf q) (.agg #[i64 x.op,i64 x.a,i64 x.b]) w R from key _ λrv w' h=>h;intro R hR;unfold EC;refine QG λw1 hb x1=>?_;have hb:dW w1 w.heap.size [i64 x.op,i64 x.a,i64 x.b] 70:=hb;have h1:=h.ext x1;refine bQ hb.boxed (by first|exact bO|exact cD|exact bB|exact cC|exact bV|exact bU|exact cG|exact cB|exact cF|exact bN|exact bI|exact bT|exact bG|exact bE|exact cA|exact bZ|exact bS|exact bK|exact bA|exact bD|exact bC|exact bM|exact cE|exact bL|exact cL|exact bY|exact cS|exact cR|exact cK|exact cQ|exact cP|exact cO|exact cJ|exact cI|exact cH|exact bX|exact cN|exact bW|exact cY|exact cX|exact cZ|exact dH|exact dG|exact dF|exact dM|exact dE|exact dD|exact dC|exact dL|exact dK|exact dJ|exact bH|exact dB|exact dQ|exact dA|exact dP|exact dY|exact cU|exact dO|exact dX|exact cW|exact cV|exact eQ|exact eO|exact eB|exact eM|exact eJ|exact fR|exact eE|exact dI|exact bF|exact fA|exact aT|exact aR|exact gJ|exact dR|exact eX|exact gI|exact dU|exact jT|exact hY|exact eZ|exact jS|exact iY) (by first|exact eG|exact fO|exact eW|exact eV|exact eF|exact eY|exact fN|exact gF|exact gV|exact fM|exact aF|exact iX|exact iW|exact iM|exact jZ|exact bJ|exact iB|exact fS|exact mD|exact oV|exact lX|exact fT|exact jH|exact qQ|exact lW|exact oB) rfl (aO.2 ?_)
 have n37:x.op≠37:=by
  rcases hop with h|h
  ·exact h.1
  ·omega
 have n38:x.op≠38:=by
  rcases hop with h|h
  ·exact h.2.1
  ·omega
 refine aK (λh37=>absurd h37 n37) λ_=>?_;refine aO.2 (aK (λh38=>absurd h38 n38) λ_=>?_);refine aO.2 (aK (λh39=>?_) λn39=>?_)
 ·-- Ret
  have hnr:fW l m.f=(jD (m.f.me l).result).length:=by
   rw [hN];unfold aI;simp only [h39,fP,Int.reduceEq,or_self,Int.reduceLE,and_false,false_and,if_false,if_true]
  have hg8:∀ g∈m.fs,g.st.length<=8:=by
   have:∀ (c:kC) (fs:List kC),aAg l c fs->∀ g∈fs,g.st.length<=8:=by
    intro c fs;induction fs generalizing c with
    | nil=>intro _ g hg;simp at hg
    | cons a fs ih=>
     intro hch g hg;obtain ⟨c1,c2⟩:=hch;rcases List.mem_cons.1 hg with rfl|hg
     ·obtain ⟨K,hK,hl⟩:=c1.rch;have hr:=c1.rt hT;obtain ⟨_,_,_,g4,_⟩:=hK.go hr.1 hr.2.1;omega
     ·exact ih a c2 g hg
   exact this _ _ hok.ch
  refine (aTi h1 hdep h8 hg8 hrt.2.1.2.1.1 (by rw [<- hnr];exact hnt) (by omega)).mono λrv w2 hr=>?_;rcases hr with ⟨e,g⟩|⟨g0,gs,e,g⟩
  ·have eD:vY l m.fs m.f m.fuel m.r x (jE (fW l m.f) m.f.st) (kX (fW l m.f) m.f.st)=.fin 36864 0 m.fuel (m.r.ends 36864):=by
    unfold vY;rw [if_pos h39,e]
   exact hR _ _ (.fin _ _ _ _ eD rfl (EGo.after rfl rfl (Fr.of_ext x1) g))
  ·have eD:vY l m.fs m.f m.fuel m.r x (jE (fW l m.f) m.f.st) (kX (fW l m.f) m.f.st)=.run ⟨gs,{ g0 with st:=g0.st++jE (fW l m.f) m.f.st },m.fuel,m.r⟩:=by
    unfold vY;rw [if_pos h39,e]
   refine hR _ _ (.run _ eD rfl (UL.after rfl rfl (Fr.of_ext x1) ?_));rw [hnr];exact g
 refine bQ hb.boxed (by first|exact bO|exact cD|exact bB|exact cC|exact bV|exact bU|exact cG|exact cB|exact cF|exact bN|exact bI|exact bT|exact bG|exact bE|exact cA|exact bZ|exact bS|exact bK|exact bA|exact bD|exact bC|exact bM|exact cE|exact bL|exact cL|exact bY|exact cS|exact cR|exact cK|exact cQ|exact cP|exact cO|exact cJ|exact cI|exact cH|exact bX|exact cN|exact bW|exact cY|exact cX|exact cZ|exact dH|exact dG|exact dF|exact dM|exact dE|exact dD|exact dC|exact dL|exact dK|exact dJ|exact bH|exact dB|exact dQ|exact dA|exact dP|exact dY|exact cU|exact dO|exact dX|exact cW|exact cV|exact eQ|exact eO|exact eB|exact eM|exact eJ|exact fR|exact eE|exact dI|exact bF|exact fA|exact aT|exact aR|exact gJ|exact dR|exact eX|exact gI|exact dU|exact jT|exact hY|exact eZ|exact jS|exact iY) (by first|exact eG|exact fO|exact eW|exact eV|exact eF|exact eY|exact fN|exact gF|exact gV|exact fM|exact aF|exact iX|exact iW|exact iM|exact jZ|exact bJ|exact iB|exact fS|exact mD|exact oV|exact lX|exact fT|exact jH|exact qQ|exact lW|exact oB) rfl ?_;have hne:¬ (x.op=37\/x.op=38):=by omega
 have hs:¬ kA x.op:=by
  rcases hop with h|h
  ·exact h.2.2.2
  ·exact absurd h n39
 refine (VJ hs).mono λrv w2 ⟨hrv,hw⟩=>?_;subst hrv;have hw:=hw.symm;subst hw;refine jU.2 ?_;simp only [show ¬ ((-1:Int)>=0) by omega,decide_false,aD];refine lF hb.boxed gU rfl ?_;refine (aKr h1.wh hokx ⟨by omega,by omega,n39,hs⟩ (by rw [<- hN];exact hnt) h8 h32 hok.top.loc hok.top.who hok.fd hpc).mono λrv w2 ⟨hrv,g⟩=>?_;subst hrv;rw [<- hN] at g ⊢;obtain ⟨p2,q2,h2,s2⟩:=g;have e:pf q=.pointer (some ⟨q2.fb,0,none⟩):=by unfold pf;rw [s2.fb]
 rw [e];refine ⟨.inl ⟨_,rfl⟩,?_⟩;refine fdA (by first|exact bO|exact cD|exact bB|exact cC|exact bV|exact bU|exact cG|exact cB|exact cF|exact bN|exact bI|exact bT|exact bG|exact bE|exact cA|exact bZ|exact bS|exact bK|exact bA|exact bD|exact bC|exact bM|exact cE|exact bL|exact cL|exact bY|exact cS|exact cR|exact cK|exact cQ|exact cP|exact cO|exact cJ|exact cI|exact cH|exact bX|exact cN|exact bW|exact cY|exact cX|exact cZ|exact dH|exact dG|exact dF|exact dM|exact dE|exact dD|exact dC|exact dL|exact dK|exact dJ|exact bH|exact dB|exact dQ|exact dA|exact dP|exact dY|exact cU|exact dO|exact dX|exact cW|exact cV|exact eQ|exact eO|exact eB|exact eM|exact eJ|exact fR|exact eE|exact dI|exact bF|exact fA|exact aT|exact aR|exact gJ|exact dR|exact eX|exact gI|exact dU|exact jT|exact hY|exact eZ|exact jS|exact iY) ?_;refine sZ fX h2.frm.box (show 2 < 9 by decide) rfl ?_
 have g3:=kG.after s2 (h2.setPc (uW x m.f.pc (jE (fW l m.f) m.f.st)));obtain ⟨p3,q3,hm3,s3⟩:=h1.topGo (fu':=m.fuel) g3
 have eD:vY l m.fs m.f m.fuel m.r x (jE (fW l m.f) m.f.st) (kX (fW l m.f) m.f.st)=.run ⟨m.fs,{ m.f with st:=kX (fW l m.f) m.f.st++kT x m.f m.r.fd (jE (fW l m.f) m.f.st),pc:=uW x m.f.pc (jE (fW l m.f) m.f.st),loc:=oN x m.f.loc (jE (fW l m.f) m.f.st) },m.fuel,{ m.r with fd:=QE x m.f.who m.r.fd (jE (fW l m.f) m.f.st) }⟩:=by
  unfold vY;rw [if_neg n39,if_neg hne,if_neg hs]
 refine hR _ _ (.run _ eD rfl (UL.after rfl rfl (Fr.of_ext x1) ⟨p3,fg,fcap,qs,q3,hm3,s3.mb,s3.rb,h1.fx s3⟩))
end
section
variable {l:List dN} {X0:Nat->Prop} {p p1:jX} {fg fcap:Nat} {qs:List FP} {q q1:FP} {m:PM} {w w1 w':O}
theorem aKj (hop:oG (m.f.ins l).op\/(m.f.ins l).op=39) (hT:rL l) (hll:l.length<=1000) (h:iP l X0 p fg fcap qs q m w) (hok:m.ok l) (htr:m.r.ps.tr.length<=90000) (hfu:m.fuel<=1000000) :
  aB prog 19 #[pm p] w λrv w'=>(∃ m',jY l m=.run m'/\rv=i64 0/\UL l X0 p m' w w')\/(∃ s d fu r,jY l m=.fin s d fu r/\s≠0/\rv=i64 s/\EGo l X0 p ⟨s,d,fu,r⟩ w w'):=by
 have hA:=hok.top.at_ hT;have hrt:=hok.top.rt hT;have hpc:=hA.pc;have hc120:=hrt.2.1.2.2.2.1.2;have hm8:m.f.mth<=1000:=by have:=hok.top.mth;have:=hrt.1.2.2.1.1.2;omega
 apply aPe;suffices key:∀ R:Z->O->Prop,(∀ rv w',((∃ m',jY l m=.run m'/\rv=i64 0/\UL l X0 p m' w w')\/(∃ s d fu r,jY l m=.fin s d fu r/\s≠0/\rv=i64 s/\EGo l X0 p ⟨s,d,fu,r⟩ w w'))->R rv w')->EG (pm p) w R from key _ λrv w' h=>h;intro R hR;unfold EG;refine ⟨.inl ⟨_,rfl⟩,?_⟩;refine nC (by first|exact bO|exact cD|exact bB|exact cC|exact bV|exact bU|exact cG|exact cB|exact cF|exact bN|exact bI|exact bT|exact bG|exact bE|exact cA|exact bZ|exact bS|exact bK|exact bA|exact bD|exact bC|exact bM|exact cE|exact bL|exact cL|exact bY|exact cS|exact cR|exact cK|exact cQ|exact cP|exact cO|exact cJ|exact cI|exact cH|exact bX|exact cN|exact bW|exact cY|exact cX|exact cZ|exact dH|exact dG|exact dF|exact dM|exact dE|exact dD|exact dC|exact dL|exact dK|exact dJ|exact bH|exact dB|exact dQ|exact dA|exact dP|exact dY|exact cU|exact dO|exact dX|exact cW|exact cV|exact eQ|exact eO|exact eB|exact eM|exact eJ|exact fR|exact eE|exact dI|exact bF|exact fA|exact aT|exact aR|exact gJ|exact dR|exact eX|exact gI|exact dU|exact jT|exact hY|exact eZ|exact jS|exact iY) (by first|exact eG|exact fO|exact eW|exact eV|exact eF|exact eY|exact fN|exact gF|exact gV|exact fM|exact aF|exact iX|exact iW|exact iM|exact jZ|exact bJ|exact iB|exact fS|exact mD|exact oV|exact lX|exact fT|exact jH|exact qQ|exact lW|exact oB) h.wh.box rfl (dZ.2 ?_)
 simp only [ne_eq,not_true_eq_false,decide_false,aD];refine ⟨.inl ⟨_,rfl⟩,?_⟩;refine nC (by first|exact bO|exact cD|exact bB|exact cC|exact bV|exact bU|exact cG|exact cB|exact cF|exact bN|exact bI|exact bT|exact bG|exact bE|exact cA|exact bZ|exact bS|exact bK|exact bA|exact bD|exact bC|exact bM|exact cE|exact bL|exact cL|exact bY|exact cS|exact cR|exact cK|exact cQ|exact cP|exact cO|exact cJ|exact cI|exact cH|exact bX|exact cN|exact bW|exact cY|exact cX|exact cZ|exact dH|exact dG|exact dF|exact dM|exact dE|exact dD|exact dC|exact dL|exact dK|exact dJ|exact bH|exact dB|exact dQ|exact dA|exact dP|exact dY|exact cU|exact dO|exact dX|exact cW|exact cV|exact eQ|exact eO|exact eB|exact eM|exact eJ|exact fR|exact eE|exact dI|exact bF|exact fA|exact aT|exact aR|exact gJ|exact dR|exact eX|exact gI|exact dU|exact jT|exact hY|exact eZ|exact jS|exact iY) (by first|exact eG|exact fO|exact eW|exact eV|exact eF|exact eY|exact fN|exact gF|exact gV|exact fM|exact aF|exact iX|exact iW|exact iM|exact jZ|exact bJ|exact iB|exact fS|exact mD|exact oV|exact lX|exact fT|exact jH|exact qQ|exact lW|exact oB) h.wh.box rfl (aO.2 (aK (λh0=>?_) λh0=>?_))
 ·have h0:m.fuel=0:=by omega
  have eS:jY l m=.fin 28423 (m.fs.length+1) 0 (m.r.ends 28423):=by unfold jY;rw [if_pos h0]
  refine (aMo h.wh (by omega) (s:=28423)).mono λ_ w2 ⟨p2,q2,h2,s2⟩=>?_;refine stW h2 s2.mb (hR _ _ (.inr ⟨_,_,_,_,eS,by decide,rfl,p2,⟨q2,m.f,BX X0 fg qs,some ⟨fg,0,none⟩,fcap,?_,λi hi=>.inl hi⟩,s2.mb,s2.rb,h.fx s2⟩));rw [h0,h.len] at h2;exact h2
 have h0:¬ m.fuel=0:=by omega
 refine ⟨.inl ⟨_,rfl⟩,?_⟩;refine nC (by first|exact bO|exact cD|exact bB|exact cC|exact bV|exact bU|exact cG|exact cB|exact cF|exact bN|exact bI|exact bT|exact bG|exact bE|exact cA|exact bZ|exact bS|exact bK|exact bA|exact bD|exact bC|exact bM|exact cE|exact bL|exact cL|exact bY|exact cS|exact cR|exact cK|exact cQ|exact cP|exact cO|exact cJ|exact cI|exact cH|exact bX|exact cN|exact bW|exact cY|exact cX|exact cZ|exact dH|exact dG|exact dF|exact dM|exact dE|exact dD|exact dC|exact dL|exact dK|exact dJ|exact bH|exact dB|exact dQ|exact dA|exact dP|exact dY|exact cU|exact dO|exact dX|exact cW|exact cV|exact eQ|exact eO|exact eB|exact eM|exact eJ|exact fR|exact eE|exact dI|exact bF|exact fA|exact aT|exact aR|exact gJ|exact dR|exact eX|exact gI|exact dU|exact jT|exact hY|exact eZ|exact jS|exact iY) (by first|exact eG|exact fO|exact eW|exact eV|exact eF|exact eY|exact fN|exact gF|exact gV|exact fM|exact aF|exact iX|exact iW|exact iM|exact jZ|exact bJ|exact iB|exact fS|exact mD|exact oV|exact lX|exact fT|exact jH|exact qQ|exact lW|exact oB) h.wh.box rfl (iL.2 ?_)
 rw [show IntKind.i64.wrap (((m.fuel:Nat):Int) - 1)=((m.fuel - 1:Nat):Int) from by rw [aU (by omega)];omega];refine ⟨.inl ⟨_,rfl⟩,?_⟩;refine fdA (by first|exact bO|exact cD|exact bB|exact cC|exact bV|exact bU|exact cG|exact cB|exact cF|exact bN|exact bI|exact bT|exact bG|exact bE|exact cA|exact bZ|exact bS|exact bK|exact bA|exact bD|exact bC|exact bM|exact cE|exact bL|exact cL|exact bY|exact cS|exact cR|exact cK|exact cQ|exact cP|exact cO|exact cJ|exact cI|exact cH|exact bX|exact cN|exact bW|exact cY|exact cX|exact cZ|exact dH|exact dG|exact dF|exact dM|exact dE|exact dD|exact dC|exact dL|exact dK|exact dJ|exact bH|exact dB|exact dQ|exact dA|exact dP|exact dY|exact cU|exact dO|exact dX|exact cW|exact cV|exact eQ|exact eO|exact eB|exact eM|exact eJ|exact fR|exact eE|exact dI|exact bF|exact fA|exact aT|exact aR|exact gJ|exact dR|exact eX|exact gI|exact dU|exact jT|exact hY|exact eZ|exact jS|exact iY) ?_
 refine sZ fX h.wh.box (show 3 < 5 by decide) rfl ?_;obtain ⟨p1,q1,h1,s1⟩:=h.topGo (h.wh.cell (j:=3) (u:=i64 ((m.fuel - 1:Nat):Int)) (sl':=.slice (some ⟨fg,0,none⟩) (qs.length+1) fcap) (fu':=((m.fuel - 1:Nat):Int)) (st':=0) (by decide) rfl);have e1:pm p=pm p1:=s1.pm.symm;rw [e1];have F1:=h.fx s1;generalize w.setCell ⟨p.mb,0+3,none⟩ (i64 ((m.fuel - 1:Nat):Int))=w1 at *;refine (aQg h1 hok.dep).mono λrv w2 ⟨hrv,x2⟩=>?_;subst hrv;have h2:=h1.ext x2;have D2:aE w2 w2.drew:=(aE.refl _).drew;refine aJ.mk' (λw'=>aE w2 w') D2 ⟨.inl ⟨_,rfl⟩,?_⟩;refine yFF (by first|exact bO|exact cD|exact bB|exact cC|exact bV|exact bU|exact cG|exact cB|exact cF|exact bN|exact bI|exact bT|exact bG|exact bE|exact cA|exact bZ|exact bS|exact bK|exact bA|exact bD|exact bC|exact bM|exact cE|exact bL|exact cL|exact bY|exact cS|exact cR|exact cK|exact cQ|exact cP|exact cO|exact cJ|exact cI|exact cH|exact bX|exact cN|exact bW|exact cY|exact cX|exact cZ|exact dH|exact dG|exact dF|exact dM|exact dE|exact dD|exact dC|exact dL|exact dK|exact dJ|exact bH|exact dB|exact dQ|exact dA|exact dP|exact dY|exact cU|exact dO|exact dX|exact cW|exact cV|exact eQ|exact eO|exact eB|exact eM|exact eJ|exact fR|exact eE|exact dI|exact bF|exact fA|exact aT|exact aR|exact gJ|exact dR|exact eX|exact gI|exact dU|exact jT|exact hY|exact eZ|exact jS|exact iY) (by first|exact bO|exact cD|exact bB|exact cC|exact bV|exact bU|exact cG|exact cB|exact cF|exact bN|exact bI|exact bT|exact bG|exact bE|exact cA|exact bZ|exact bS|exact bK|exact bA|exact bD|exact bC|exact bM|exact cE|exact bL|exact cL|exact bY|exact cS|exact cR|exact cK|exact cQ|exact cP|exact cO|exact cJ|exact cI|exact cH|exact bX|exact cN|exact bW|exact cY|exact cX|exact cZ|exact dH|exact dG|exact dF|exact dM|exact dE|exact dD|exact dC|exact dL|exact dK|exact dJ|exact bH|exact dB|exact dQ|exact dA|exact dP|exact dY|exact cU|exact dO|exact dX|exact cW|exact cV|exact eQ|exact eO|exact eB|exact eM|exact eJ|exact fR|exact eE|exact dI|exact bF|exact fA|exact aT|exact aR|exact gJ|exact dR|exact eX|exact gI|exact dU|exact jT|exact hY|exact eZ|exact jS|exact iY) (by first|exact eG|exact fO|exact eW|exact eV|exact eF|exact eY|exact fN|exact gF|exact gV|exact fM|exact aF|exact iX|exact iW|exact iM|exact jZ|exact bJ|exact iB|exact fS|exact mD|exact oV|exact lX|exact fT|exact jH|exact qQ|exact lW|exact oB) (λw' hw=>h2.wh.frm.box.ext hw) (u:=q1.cv) rfl ⟨.inl ⟨_,rfl⟩,?_⟩
 refine yFS (by first|exact bO|exact cD|exact bB|exact cC|exact bV|exact bU|exact cG|exact cB|exact cF|exact bN|exact bI|exact bT|exact bG|exact bE|exact cA|exact bZ|exact bS|exact bK|exact bA|exact bD|exact bC|exact bM|exact cE|exact bL|exact cL|exact bY|exact cS|exact cR|exact cK|exact cQ|exact cP|exact cO|exact cJ|exact cI|exact cH|exact bX|exact cN|exact bW|exact cY|exact cX|exact cZ|exact dH|exact dG|exact dF|exact dM|exact dE|exact dD|exact dC|exact dL|exact dK|exact dJ|exact bH|exact dB|exact dQ|exact dA|exact dP|exact dY|exact cU|exact dO|exact dX|exact cW|exact cV|exact eQ|exact eO|exact eB|exact eM|exact eJ|exact fR|exact eE|exact dI|exact bF|exact fA|exact aT|exact aR|exact gJ|exact dR|exact eX|exact gI|exact dU|exact jT|exact hY|exact eZ|exact jS|exact iY) (by first|exact eG|exact fO|exact eW|exact eV|exact eF|exact eY|exact fN|exact gF|exact gV|exact fM|exact aF|exact iX|exact iW|exact iM|exact jZ|exact bJ|exact iB|exact fS|exact mD|exact oV|exact lX|exact fT|exact jH|exact qQ|exact lW|exact oB) (λw' hw=>h2.wh.frm.box.ext hw) rfl ?_;have hcode:=aA.of_own h2.wh.frm.code
 refine yxA iZ gU hcode (λw' hw=>hcode.ext hw) (by omega) (show ((m.f.pc:Nat):Int) < (((m.f.me l).code.length:Nat):Int) by omega) (l:=[i64 (m.f.ins l).op,i64 (m.f.ins l).a,i64 (m.f.ins l).b]) (by rw [Int.toNat_natCast];exact oD (aCj hpc)) rfl ?_;refine alK mE λw4 hz x4=>?_;refine ⟨D2.trans x4,?_⟩;refine stA mE hz (l:=[i64 (m.f.ins l).op,i64 (m.f.ins l).a,i64 (m.f.ins l).b]) rfl rfl rfl rfl λw5 h5b hch=>?_;have x25:aE w2 w5:=D2.trans (hch.ext _ x4 (Nat.le_refl _));have h5:=h2.ext x25;have hbn:¬ WM p1 q1 w2.drew.heap.size:=λhm=>by have:=h2.wh.wm_lt _ hm;have:=D2.size;omega
 have D5:aE w5 w5.drew:=(aE.refl _).drew;refine aJ.mk' (SG l p1 q1 m.f (BX X0 fg qs) (.slice (some ⟨fg,0,none⟩) (qs.length+1) fcap) ((m.fuel - 1:Nat):Int) 0 w5) (h5.wh.sg D5) ⟨.inl ⟨_,rfl⟩,?_⟩;refine yMa (λ_ h=>h) (by first|exact bO|exact cD|exact bB|exact cC|exact bV|exact bU|exact cG|exact cB|exact cF|exact bN|exact bI|exact bT|exact bG|exact bE|exact cA|exact bZ|exact bS|exact bK|exact bA|exact bD|exact bC|exact bM|exact cE|exact bL|exact cL|exact bY|exact cS|exact cR|exact cK|exact cQ|exact cP|exact cO|exact cJ|exact cI|exact cH|exact bX|exact cN|exact bW|exact cY|exact cX|exact cZ|exact dH|exact dG|exact dF|exact dM|exact dE|exact dD|exact dC|exact dL|exact dK|exact dJ|exact bH|exact dB|exact dQ|exact dA|exact dP|exact dY|exact cU|exact dO|exact dX|exact cW|exact cV|exact eQ|exact eO|exact eB|exact eM|exact eJ|exact fR|exact eE|exact dI|exact bF|exact fA|exact aT|exact aR|exact gJ|exact dR|exact eX|exact gI|exact dU|exact jT|exact hY|exact eZ|exact jS|exact iY) (by first|exact eG|exact fO|exact eW|exact eV|exact eF|exact eY|exact fN|exact gF|exact gV|exact fM|exact aF|exact iX|exact iW|exact iM|exact jZ|exact bJ|exact iB|exact fS|exact mD|exact oV|exact lX|exact fT|exact jH|exact qQ|exact lW|exact oB) (u:=OS p1.rp) rfl ⟨.inl ⟨_,rfl⟩,?_⟩
 refine yFr (λ_ h=>h) (by first|exact bO|exact cD|exact bB|exact cC|exact bV|exact bU|exact cG|exact cB|exact cF|exact bN|exact bI|exact bT|exact bG|exact bE|exact cA|exact bZ|exact bS|exact bK|exact bA|exact bD|exact bC|exact bM|exact cE|exact bL|exact cL|exact bY|exact cS|exact cR|exact cK|exact cQ|exact cP|exact cO|exact cJ|exact cI|exact cH|exact bX|exact cN|exact bW|exact cY|exact cX|exact cZ|exact dH|exact dG|exact dF|exact dM|exact dE|exact dD|exact dC|exact dL|exact dK|exact dJ|exact bH|exact dB|exact dQ|exact dA|exact dP|exact dY|exact cU|exact dO|exact dX|exact cW|exact cV|exact eQ|exact eO|exact eB|exact eM|exact eJ|exact fR|exact eE|exact dI|exact bF|exact fA|exact aT|exact aR|exact gJ|exact dR|exact eX|exact gI|exact dU|exact jT|exact hY|exact eZ|exact jS|exact iY) (by first|exact eG|exact fO|exact eW|exact eV|exact eF|exact eY|exact fN|exact gF|exact gV|exact fM|exact aF|exact iX|exact iW|exact iM|exact jZ|exact bJ|exact iB|exact fS|exact mD|exact oV|exact lX|exact fT|exact jH|exact qQ|exact lW|exact oB) (by decide) (u:=i64 (m.f.who:Int)) rfl ⟨.inl ⟨_,rfl⟩,?_⟩;refine yFr (λ_ h=>h) (by first|exact bO|exact cD|exact bB|exact cC|exact bV|exact bU|exact cG|exact cB|exact cF|exact bN|exact bI|exact bT|exact bG|exact bE|exact cA|exact bZ|exact bS|exact bK|exact bA|exact bD|exact bC|exact bM|exact cE|exact bL|exact cL|exact bY|exact cS|exact cR|exact cK|exact cQ|exact cP|exact cO|exact cJ|exact cI|exact cH|exact bX|exact cN|exact bW|exact cY|exact cX|exact cZ|exact dH|exact dG|exact dF|exact dM|exact dE|exact dD|exact dC|exact dL|exact dK|exact dJ|exact bH|exact dB|exact dQ|exact dA|exact dP|exact dY|exact cU|exact dO|exact dX|exact cW|exact cV|exact eQ|exact eO|exact eB|exact eM|exact eJ|exact fR|exact eE|exact dI|exact bF|exact fA|exact aT|exact aR|exact gJ|exact dR|exact eX|exact gI|exact dU|exact jT|exact hY|exact eZ|exact jS|exact iY) (by first|exact eG|exact fO|exact eW|exact eV|exact eF|exact eY|exact fN|exact gF|exact gV|exact fM|exact aF|exact iX|exact iW|exact iM|exact jZ|exact bJ|exact iB|exact fS|exact mD|exact oV|exact lX|exact fT|exact jH|exact qQ|exact lW|exact oB) (by decide) (u:=i64 (m.f.mth:Int)) rfl ?_
 refine aC.ok (λw' _=>WE) ⟨.inl ⟨_,rfl⟩,?_⟩;refine yFr (λ_ h=>h) (by first|exact bO|exact cD|exact bB|exact cC|exact bV|exact bU|exact cG|exact cB|exact cF|exact bN|exact bI|exact bT|exact bG|exact bE|exact cA|exact bZ|exact bS|exact bK|exact bA|exact bD|exact bC|exact bM|exact cE|exact bL|exact cL|exact bY|exact cS|exact cR|exact cK|exact cQ|exact cP|exact cO|exact cJ|exact cI|exact cH|exact bX|exact cN|exact bW|exact cY|exact cX|exact cZ|exact dH|exact dG|exact dF|exact dM|exact dE|exact dD|exact dC|exact dL|exact dK|exact dJ|exact bH|exact dB|exact dQ|exact dA|exact dP|exact dY|exact cU|exact dO|exact dX|exact cW|exact cV|exact eQ|exact eO|exact eB|exact eM|exact eJ|exact fR|exact eE|exact dI|exact bF|exact fA|exact aT|exact aR|exact gJ|exact dR|exact eX|exact gI|exact dU|exact jT|exact hY|exact eZ|exact jS|exact iY) (by first|exact eG|exact fO|exact eW|exact eV|exact eF|exact eY|exact fN|exact gF|exact gV|exact fM|exact aF|exact iX|exact iW|exact iM|exact jZ|exact bJ|exact iB|exact fS|exact mD|exact oV|exact lX|exact fT|exact jH|exact qQ|exact lW|exact oB) (by decide) (u:=i64 (m.f.pc:Int)) rfl ?_
 refine aC.ok (λw' _=>AO) ?_;rw [iF (n:=1000*((m.f.mth:Nat):Int)) (by omega) (by omega),iF (n:=1000*((m.f.mth:Nat):Int)+((m.f.pc:Nat):Int)) (by omega) (by omega)];refine gY (λw' hw=>(SG.blk h5.wh h5b hbn hw).boxed) (by first|exact bO|exact cD|exact bB|exact cC|exact bV|exact bU|exact cG|exact cB|exact cF|exact bN|exact bI|exact bT|exact bG|exact bE|exact cA|exact bZ|exact bS|exact bK|exact bA|exact bD|exact bC|exact bM|exact cE|exact bL|exact cL|exact bY|exact cS|exact cR|exact cK|exact cQ|exact cP|exact cO|exact cJ|exact cI|exact cH|exact bX|exact cN|exact bW|exact cY|exact cX|exact cZ|exact dH|exact dG|exact dF|exact dM|exact dE|exact dD|exact dC|exact dL|exact dK|exact dJ|exact bH|exact dB|exact dQ|exact dA|exact dP|exact dY|exact cU|exact dO|exact dX|exact cW|exact cV|exact eQ|exact eO|exact eB|exact eM|exact eJ|exact fR|exact eE|exact dI|exact bF|exact fA|exact aT|exact aR|exact gJ|exact dR|exact eX|exact gI|exact dU|exact jT|exact hY|exact eZ|exact jS|exact iY) (by first|exact eG|exact fO|exact eW|exact eV|exact eF|exact eY|exact fN|exact gF|exact gV|exact fM|exact aF|exact iX|exact iW|exact iM|exact jZ|exact bJ|exact iB|exact fS|exact mD|exact oV|exact lX|exact fT|exact jH|exact qQ|exact lW|exact oB) rfl ?_
 refine (aSe (h5.ext D5).wh (by show m.r.ps.tr.length<=_;omega) (e:=lQ l m.f)).mono λ_ w6 g=>?_;have g:=kG.of_ext D5 g;refine ⟨g.sg,?_⟩;have hb6:=SG.blk h5.wh h5b hbn g.sg;obtain ⟨p6,q6,h6,s6⟩:=h5.topGo (fu':=m.fuel - 1) g;have hok6:PM.ok l ⟨m.fs,m.f,m.fuel - 1,m.r.ev (lQ l m.f)⟩:=⟨hok.top,hok.ch,hok.dep,hok.fd⟩;refine lF hb6.boxed gU rfl ?_;rw [<- s6.pm,<- s6.pf];refine (aTw (m:=⟨m.fs,m.f,m.fuel - 1,m.r.ev (lQ l m.f)⟩) hop hT hll h6 hok6 (by show (m.r.ps.tr++[_]).length<=_;rw [List.length_append];simp;omega)).mono λrv w7 hd=>?_;have F06:Fr (λi=>¬ X0 i) w w6:=(F1.trans (Fr.of_ext (S:=λi=>¬ X0 i) (x2.trans x25)) λ_ _ h=>h).trans (h5.fx s6) λ_ _ h=>h;have emb:p6.mb=p.mb:=s6.mb.trans s1.mb;have erb:p6.rp.rb=p.rp.rb:=s6.rb.trans s1.rb;have eS:jY l m=vY l m.fs m.f (m.fuel - 1) (m.r.ev (lQ l m.f)) (m.f.ins l) (jE (fW l m.f) m.f.st) (kX (fW l m.f) m.f.st):=by unfold jY;rw [if_neg h0]
 cases hd with
 | run m' he hrv g=>
  subst hrv;refine dZ.2 ?_;simp only [show ¬ ((36864:Int)≠36864) by decide,decide_false,aD];obtain ⟨p7,a7,b7,c7,q7,h7,m7,r7,F7⟩:=g;refine stW h7.wh m7 (hR _ _ (.inl ⟨m',eS.trans he,rfl,p7,a7,b7,c7,q7,h7,m7.trans emb,r7.trans erb,F06.trans F7 λ_ _ h=>h⟩))
 | fin s d fu r he hrv g=>
  subst hrv;refine dZ.2 ?_;simp only [show ¬ ((36864:Int)≠36864) by decide,decide_false,aD];obtain ⟨p7,⟨q7,f7,X7,a7,c7,h7,hX7⟩,m7,r7,F7⟩:=g
  have hs0:s≠0:=by
   intro hs;have:=(GT.2 s d fu r he)
   have hne:∀ (o:Out),vY l m.fs m.f (m.fuel - 1) (m.r.ev (lQ l m.f)) (m.f.ins l) (jE (fW l m.f) m.f.st) (kX (fW l m.f) m.f.st)=o->∀ s d fu r,o=.fin s d fu r->s≠0:=by
    intro o ho s d fu r hos;subst hos;unfold vY at ho;split at ho
    ·cases hfs:m.fs with
     | nil=>rw [hfs] at ho;cases ho;decide
     | cons _ _=>rw [hfs] at ho;cases ho
    split at ho
    ·split at ho
     ·cases ho;decide
     ·split at ho
      ·cases ho;decide
      ·cases ho
    split at ho
    ·split at ho
     ·cases ho
     ·cases ho;exact MF
    ·cases ho
   exact hne _ he _ _ _ _ rfl hs
  refine stW h7 m7 (hR _ _ (.inr ⟨s,d,fu,r,eS.trans he,hs0,rfl,p7,⟨q7,f7,X7,a7,c7,h7,hX7⟩,m7.trans emb,r7.trans erb,F06.trans F7 λ_ _ h=>h⟩))
 | bad s r f' he hs hs0 hrv g=>
  subst hrv;refine dZ.2 ?_;simp only [show s≠36864 from hs,ne_eq,not_false_eq_true,decide_true,aS]
  have F7:Fr (λi=>¬ X0 i) w6 w7:=by
   obtain ⟨p7,q7,h7,s7⟩:=g;exact h6.fx s7
  have htr7:r.ps.tr.length<=100000:=by
   have hp:=YT l m.fs m.f (m.fuel - 1) (m.r.ev (lQ l m.f)) (m.f.ins l) (jE (fW l m.f) m.f.st) (kX (fW l m.f) m.f.st);rw [he] at hp;have h1:(r.ends s).ps.tr.length=r.ps.tr.length+1:=by simp [Rm.ends,Rm.ev,PS.ev]
   have h2:(m.r.ev (lQ l m.f)).ps.tr.length=m.r.ps.tr.length+1:=by simp [Rm.ev,PS.ev]
   have:(r.ends s).ps.tr.length<=(m.r.ev (lQ l m.f)).ps.tr.length+3:=hp;omega
  obtain ⟨p7,q7,h7,s7⟩:=g;rw [<- s7.pm];refine (aMo h7 htr7 (s:=s)).mono λ_ w8 ⟨p8,q8,h8,s8⟩=>?_;have F8:Fr (λi=>¬ X0 i) w7 w8:=(kW.fx h7 s8).mono λi hn hx=>hn (.inl hx);refine stW h8 s8.mb (hR _ _ (.inr ⟨s,_,_,_,eS.trans he,hs0,rfl,p8,⟨q8,f',BX X0 fg qs,some ⟨fg,0,none⟩,fcap,?_,λi hi=>.inl hi⟩,s8.mb.trans (s7.mb.trans emb),s8.rb.trans (s7.rb.trans erb),(F06.trans F7 λ_ _ h=>h).trans F8 λ_ _ h=>h⟩));have:m.fs.length+1=qs.length+1:=by rw [h.len]
  show Wh l p8 q8 f' (r.ends s) (BX X0 fg qs) (.slice (some ⟨fg,0,none⟩) (m.fs.length+1) fcap) ((m.fuel - 1:Nat):Int) s w8;rw [this];exact h8
end
section
variable {l:List dN} {X0:Nat->Prop} {p p1:jX} {fg fcap:Nat} {qs:List FP} {q q1:FP} {m:PM} {w w1 w':O}
theorem aQk {G:PM->Prop} (hG:∀ m m',G m->m.ok l->jY l m=.run m'->G m') (hGo:∀ m,G m->m.ok l->oG (m.f.ins l).op\/(m.f.ins l).op=39) (hGm:G m) (hT:rL l) (hll:l.length<=1000) (h:iP l X0 p fg fcap qs q m w) (hok:m.ok l) (hb:Bnd m) :
  aB prog 20 #[pm p] w λrv w'=>∃ e,vN l m e/\e.s≠0/\rv=i64 e.s/\EGo l X0 p e w w':=by
 apply aPd;unfold RX;refine ⟨λw'=>(∃ m',(∀ e,vN l m' e->vN l m e)/\m'.ok l/\Bnd m'/\G m'/\UL l X0 p m' w w')\/(∃ e,vN l m e/\e.s≠0/\EGo l X0 p e w w'),λw'=>pZ p.mb w',.inl ⟨m,λ_ h=>h,hok,hb,hGm,h.go⟩,?_⟩;rintro w1 (⟨m1,he1,hok1,hb1,g1,p1,a1,b1,c1,q1,h1,mb1,rb1,F1⟩|⟨e,he,hs,p1,⟨q1,f1,X1,a1,c1,h1,hX1⟩,mb1,rb1,F1⟩) _
 ·refine stW h1.wh mb1 (aO.2 ?_);simp only [decide_true,aS];have e1:pm p=pm p1:=by unfold pm;rw [mb1]
  rw [e1];have mu1:pZ p.mb w1=m1.fuel+1:=by rw [<- mb1];exact AG h1.wh
  refine (aKj (hGo _ g1 hok1) hT hll h1 hok1 (by unfold Bnd at hb1;omega) (by unfold Bnd at hb1;omega)).mono λrv w2 hstep=>?_;rcases hstep with ⟨m2,hs,_,p2,a2,b2,c2,q2,h2,mb2,rb2,F2⟩|⟨s,d,fu,r,hs,hs0,_,p2,⟨q2,f2,X2,a2,c2,h2,hX2⟩,mb2,rb2,F2⟩
  ·refine ⟨.inl ⟨m2,λe he=>he1 e (.go hs he),pI hT hok1 hs,VB hs hb1,hG _ _ g1 hok1 hs,p2,a2,b2,c2,q2,h2,mb2.trans mb1,rb2.trans rb1,F1.trans F2 λ_ _ h=>h⟩,?_⟩;have mu2:pZ p.mb w2=m2.fuel+1:=by rw [<- mb1,<- mb2];exact AG h2.wh
   have:=(wS hs).1;show pZ p.mb w2 < pZ p.mb w1;rw [mu1,mu2];omega
  ·refine ⟨.inr ⟨⟨s,d,fu,r⟩,he1 _ (.fin hs),hs0,p2,⟨q2,f2,X2,a2,c2,h2,hX2⟩,mb2.trans mb1,rb2.trans rb1,F1.trans F2 λ_ _ h=>h⟩,?_⟩;have mu2:pZ p.mb w2=0:=by rw [<- mb1,<- mb2];exact SO h2 hs0
   show pZ p.mb w2 < pZ p.mb w1;rw [mu1,mu2];omega
 ·refine stW h1 mb1 (aO.2 ?_);simp only [show ¬ e.s=0 from hs,decide_false,aD];refine stW h1 mb1 ⟨e,he,hs,rfl,p1,⟨q1,f1,X1,a1,c1,h1,hX1⟩,mb1,rb1,F1⟩
end
end Go.Proofs.YtgkkecladbmjkaaGreatDoor
namespace Go.Vc
section
variable {P:Program} {w:O} {S:O->Prop} {L:Z->Prop}
theorem aSy {t n b:Nat} {cs:List Z} (hb:∀ w',S w'->fB w' b cs) (ht:∃ d z by_,P.underlying t=some d/\nG d=true/\fH P t z n by_) (hl:cs.length=n) (hk:L (.agg cs.toArray)):aC P S (Instr.loadAt t (.pointer (some ⟨b,0,none⟩))) L:=by
 obtain ⟨d,z,by_,h1,h2,h3⟩:=ht
 exact aC.ok (λw' hw=>kZ h1 h2 h3 hl λj hj=>by
  obtain ⟨u,hu⟩:∃ u,cs[j]?=some u:=⟨_,List.getElem?_eq_getElem hj⟩;rw [hu];exact hb w' hw j u hu) hk
end
end Go.Vc
namespace Go.Proofs.YtgkkecladbmjkaaGreatDoor
open Tryz
open Go.Vc Go.Tc
theorem UO.rms {l:List dN} {p:jX} {fd:List (List Int)} {B:Nat} {w:O} (h:UO l p fd B w) (h0:0 < fd.length):∃ p',p'.rp=p.rp/\ZT l (λ_=>False) p' ⟨p.rp.ps,fd⟩ w/\∀ a i,ZI p' (λ_=>False) a i->∃ b,BR p b i:=by
 obtain ⟨fo,fcap,hfo⟩:=nX h.fv h0;obtain ⟨cs,hiv,hrows⟩:=h.iv;have hlv:p.vs.length=fd.length:=by have:=h.fv.1;omega
 have cls:∀ {a:Lb} {i:Nat},ZI { p with fo:=fo,IB:=λi=>p.IB i\/p.rp.iv.ownBlock=some i } (λ_=>False) a i->∃ c,BR p c i/\((a≠.im/\a=c)\/(a=.im/\(c=.im\/c=.mb))):=by
  intro a i hi;cases a with
  | rm=>exact ⟨.rm,hi,.inl ⟨(by intro e;cases e),rfl⟩⟩
  | im=>
   rcases hi with h|h
   ·exact ⟨.im,h,.inr ⟨rfl,.inl rfl⟩⟩
   ·exact ⟨.mb,h,.inr ⟨rfl,.inr rfl⟩⟩
  | fo=>
   have hi:i=fo:=hi;exact ⟨.fo,(by show p.rp.fv.ownBlock=some i;rw [hfo,hi];rfl),.inl ⟨(by intro e;cases e),rfl⟩⟩
  | fd=>exact ⟨.fd,hi,.inl ⟨(by intro e;cases e),rfl⟩⟩
  | mb=>exact hi.elim
  | fr=>exact hi.elim
  | ex=>exact hi.elim
 refine ⟨{ p with fo:=fo,IB:=λi=>p.IB i\/p.rp.iv.ownBlock=some i },rfl,⟨h.room,⟨rfl,rfl,rfl,rfl⟩,⟨⟨fcap,hfo⟩,?_,hlv,h.row,h.dj,λv hv he=>?_⟩,λw' f=>⟨cs,aA.of_own (f.own hiv λi hi hn=>hn (.inr hi)),λk i hk=>?_⟩,⟨λa b i ha hb=>?_,λa i ha=>?_⟩⟩,λa i ha=>(cls ha).imp λc hc=>hc.1⟩
 ·have:=h.fv;rw [hfo] at this;exact PE this
 ·have:=h.sep.dj .fd .fo fo ⟨v,hv,he⟩ (by show p.rp.fv.ownBlock=some fo;rw [hfo];rfl);cases this
 ·obtain ⟨pk,h1,h2⟩:=hrows k i hk;exact ⟨_,rfl,pk,h1,h2 w' (f.mono λj hj hn=>hj (.inl hn))⟩
 ·obtain ⟨c,hc,k1⟩:=cls ha;obtain ⟨d,hd,k4⟩:=cls hb;have hcd:=h.sep.dj c d i hc hd;subst hcd;rcases k1 with ⟨k1,rfl⟩|⟨rfl,k1⟩<;>rcases k4 with ⟨k4,rfl⟩|⟨rfl,k4⟩
  ·rfl
  ·rcases k4 with rfl|rfl
   ·rfl
   ·exact ha.elim
  ·rcases k1 with rfl|rfl
   ·rfl
   ·exact hb.elim
  ·rfl
 ·obtain ⟨c,hc,_⟩:=cls ha;exact h.sep.lt c i hc
theorem yN.fr {B:Nat} {w w':O} {v:Z} {l:List aL} {S:Nat->Prop} (h:yN B w v l) (f:Fr S w w') (hS:∀ k,B<=k->k < w.heap.size->¬ S k):yN B w' v l:=by
 obtain ⟨xs,h1,h2⟩:=h;exact ⟨xs,f.own h1 λk hk=>hS k (h1.lt k hk).1 (h1.lt k hk).2,λk n hk=>by obtain ⟨u,h3,h4⟩:=h2 k n hk;exact ⟨u,h3,h4.fr f hS⟩⟩
def aL.constB:aL->Bool
 | .const _ _=>true
 | _=>false
theorem FY {i:dN} {m:gA} {x:gN} {h:Nat} {n:aL} (h1:x.op≠1) (h25:x.op≠25) (h35:x.op≠35) (hn:eU i m x h=some n):n.constB=false:=by
 unfold eU at hn;rw [if_neg h1] at hn
 iterate 16 (rcases tN hn with ⟨e,hn⟩|⟨_,hn⟩;· (first|(cases hn;done)|(cases hn;rfl)|exact absurd e h25|exact absurd e h35))
 cases hn;rfl
theorem TN {i:dN} {m:gA} {x:gN} {h:Nat} {n:aL} (hn:eU i m x h=some n):n.c32:=by
 by_cases h1:x.op=1
 ·have:n=.const (10+(h:Int)) (IntKind.i32.wrap x.a):=by simp [eU,h1] at hn;exact hn.symm
  subst this;exact rU _
 by_cases h25:x.op=25
 ·have:n=.const (10+(h:Int)) 0:=by simp [eU,h25] at hn;exact hn.symm
  subst this;show kY 0;unfold kY;omega
 by_cases h35:x.op=35
 ·have:n=.const (10+(h:Int)) (IntKind.i32.wrap x.a):=by simp [eU,h35] at hn;exact hn.symm
  subst this;exact rU _
 have:=FY h1 h25 h35 hn;cases n with
 | const d z=>cases this
 | _=>trivial
theorem yN.ext {B:Nat} {w w':O} {v:Z} {l:List aL} (h:yN B w v l) (x:aE w w'):yN B w' v l:=h.fr (S:=λ_=>False) (Fr.of_ext x) λ_ _ _ h=>h
theorem uG {i:dN} {m:gA} {st:St} {r:List Bool}:∀ k,∀ n∈(aV i m st r k).1,n.c32
 | 0,n,h=>by
  simp only [aV,List.mem_map,List.mem_range] at h;obtain ⟨j,_,rfl⟩:=h;show kY 0;unfold kY;omega
 | k+1,n,h=>by
  cases hk:r.getD k false with
  | false=>rw [BC hk] at h;exact uG k n h
  | true=>
   rw [tL hk] at h;rcases List.mem_append.1 h with h|h
   ·exact uG k n h
   ·rcases List.mem_cons.1 h with h|h
    ·subst h;trivial
    ·have hn:eU i m (m.ins k) (st.s k).length=some n:=by simpa using h
     exact TN hn
theorem TM {i:dN} {m:gA} {st:St} {r:List Bool}:∀ n∈jA i m st r,n.c32:=λn h=>by
 unfold jA at h;obtain ⟨n',h1,rfl⟩:=List.mem_map.1 h;have:=uG _ n' h1;cases n'<;>first|exact this|trivial
theorem WW {n:aL} (h:n.okF):n.args.length<=4294967296:=by
 cases n with
 | serve op a b d l=>
  have h:pJ op=l.length:=h;unfold pJ at h;show l.length<=_
  (repeat' split at h)<;>omega
 | call m d l=>have h:_/\l.length<=4:=h;show l.length<=_;omega
 | callX m d l=>have h:_/\l.length<=4:=h;show l.length<=_;omega
 | _=>exact Nat.zero_le _
def G7 (m:PM):Prop:=m.fs=[]/\m.f.who=0/\m.f.mth=0
theorem G7.op {i:dN} (hT:rL [i]) (C:ZY (i.meth 0)) {m:PM} (h:G7 m) (hok:m.ok [i]):oG (m.f.ins [i]).op\/(m.f.ins [i]).op=39:=by
 obtain ⟨fs,⟨who,mth,pc,loc,st⟩,fuel,r⟩:=m;obtain ⟨h1,h2,h3⟩:=h;dsimp only at h1 h2 h3;subst h1 h2 h3;have hpc:pc < (i.meth 0).code.length:=(hok.top.at_ hT).pc;show oG ((i.meth 0).ins pc).op\/((i.meth 0).ins pc).op=39;have hl:=C.len;by_cases h1:pc+2 < (i.meth 0).code.length
 ·exact .inl (C.op pc h1).1.plain.1
 by_cases h2:pc+2=(i.meth 0).code.length
 ·left;rw [show pc=(i.meth 0).code.length - 2 by omega,C.put];exact ⟨by decide,by decide,by decide,by decide⟩
 ·right;rw [show pc=(i.meth 0).code.length - 1 by omega,C.ret]
theorem G7.step {l:List dN} {m m':PM} (h:G7 m) (hop:oG (m.f.ins l).op\/(m.f.ins l).op=39) (hs:jY l m=.run m'):G7 m':=by
 unfold jY at hs;split at hs
 ·cases hs
 rcases hop with hp|h39
 ·rw [uM hp] at hs;cases hs;exact h
 ·unfold vY at hs;rw [if_pos h39,h.1] at hs;cases hs
theorem aMc (code:List gN):UN [oO code] [[0]]:=by
 refine ⟨rfl,λk hk=>?_⟩;have:k=0:=by simpa using hk
 subst this;exact ⟨rfl,xW 1⟩
section
variable {w:O}
theorem aQm {g:Nat} {p:fZ} {code:List gN} {R:Z->O->Prop} (hT:mS w) (hB:dW w g [.string ⟨#[97]⟩,p.fv,p.iv,p.mv,p.xv] 46) (hA:gZ w p (oO code)) (C:ZY ((oO code).meth 0)) (hb:∀ x∈code,x.b=0) (hR:∀ w',aE w w'->R (.bool true) w'):VZ (.pointer (some ⟨g,0,none⟩)) w R:=by
 have hN0:jL w (oO code):=⟨aJd hT,λx hx=>by simp [oO] at hx⟩
 have hrg:(oO code).rg:=λm hm x hx=>by
  have:m=⟨[],0,[1],code⟩:=by simpa [oO] using hm
  subst this;have:=hb x hx;unfold gN.rg;omega
 unfold VZ;refine lF (dW.boxed hB) kF rfl ?_;refine sW (p:=p) (i:=oO code) hA hN0 λa b e w1 he x1=>?_;refine gM.2 (gL.2 ?_);refine UP ER rfl rfl λw2 hB2 x2=>?_;have x02:=x1.trans x2;refine dZ.2 (aK (λhne=>?_) λheq=>?_)
 ·exact (PO (hT.ext x02)).mono λv w3 ⟨hv,x3⟩=>hv▸hR w3 (x02.trans x3)
 have ht:lL (oO code):=he.1 (by omega);refine (EX (size:=100) (by decide) (by decide)).mono λrv w3 ⟨⟨rb,hb',hrv,hlo,hlt,hrb,hh⟩,x3⟩=>?_;subst hrv;refine gM.2 (gL.2 ?_);obtain ⟨Bd0,bp⟩:=aTy hlo hlt hrb hh x3.size (by decide) (by decide);generalize hp0:(⟨⟨rb,hb',w2.heap.size,w2.heap.size,2,0,100,zV,nl,nl,nl,nl,nl,[],[],[]⟩,0,[],λ_=>False,0⟩:jX)=p0 at Bd0 bp;have hrb0:pt rb=sS p0.rp:=by rw [<- hp0];rfl
 have x03:=x02.trans x3;refine lF (dW.boxed (hB.ext x03)) kF rfl ?_;refine PL (p:=p) (i:=oO code) (k:=0) (hA.ext x03) (hN0.ext x03) hrg (λst r nv sv w4 _ _ _ hw Rc hN _ x4=>?_) λw' hno _=>absurd ⟨ht,by decide,(by show (0:Int) < 1;decide)⟩ hno;obtain ⟨xs,hxo,hxs⟩:=hN;obtain ⟨na,nc,rfl⟩:=(aA.of_own hxo).shape;refine qC (v:=.agg #[i64 0,i64 18,.slice na _ nc]) rfl (qC (v:=sv) rfl (qC (v:=.bool true) rfl ?_));refine UP VL rfl rfl λw5 hB5 x5=>?_;have hB5:dW w5 w4.heap.size [i64 0,i64 18,.slice na _ nc] 83:=hB5;have x05:=(x03.trans x4).trans x5;refine (PO (hT.ext x05)).mono λv w6 ⟨hv,x6⟩=>?_;subst hv;have x06:=x05.trans x6;refine gG.2 ?_;simp only [Bool.not_true,mK];refine dZ.2 ?_;simp only [ne_eq,not_true_eq_false,mK,bR,reduceIte,Bool.false_eq_true,decide_false];refine V.ok (CV underlying26) ?_;simp only [gG,mK,bR,aD,reduceIte,Bool.false_eq_true,Bool.not_true];refine lF (dW.boxed (hB.ext x06)) kF rfl ?_;have Bd6:=Bd0.ext ((x4.trans x5).trans x6);rw [hrb0];refine (OB Bd6 (by decide) rfl (hA.ext x06) ht.1).mono λ_ w7 ⟨p4,_,g4,e41,e42,F7,m4⟩=>?_;have hfd4:([]++[List.replicate (oO code).fields.length 0]:List (List Int))=[[0]]:=rfl;have hl4:([]++[oO code]:List dN)=[oO code]:=rfl;rw [hfd4,hl4] at g4;obtain ⟨p5,e5,rm5,c5⟩:=g4.rms (by decide);have hTT:rL [oO code]:=λi hi=>by rw [List.mem_singleton] at hi;subst hi;exact ht
 have er5:sS p0.rp=sS p5.rp:=by unfold sS;rw [e5,e41]
 rw [er5];refine (aTo hTT rm5 (who:=0) (fuel:=1000) Nat.zero_lt_one (by decide)).mono λrv w8 ⟨p6,fg,fcap,q6,hrv,M6,rb6,x8,hfg,c6⟩=>?_;subst hrv;refine gM.2 (gL.2 (dZ.2 ?_));simp only [ne_eq,not_true_eq_false,mK,bR,reduceIte,Bool.false_eq_true,decide_false];refine V.ok (CV underlying33) ?_;simp only [mK,bR,reduceIte,Bool.false_eq_true];have hfd:=aMc code;have ok6:=SK (fuel:=1000) (r:=⟨p4.rp.ps,[[0]]⟩) hTT (who:=0) Nat.zero_lt_one hfd;refine (aQk (G:=G7) (λ_ _ g ok hs=>g.step (g.op hTT C ok) hs) (λ_ g ok=>g.op hTT C ok) ⟨rfl,rfl,rfl⟩ hTT (by show 1<=1000;decide) M6.all ok6 (by unfold Bnd CJ;simp)).mono λrv w9 ⟨e,hE,hs,hr,p7,T7,mb7,rb7,F9⟩=>?_;subst hr
 obtain ⟨e2,g',at',src,i1,i2,i3,i4,i5,i6,i7,i8,i9⟩:=aJe hTT hw Rc C ((oO code).meth 0).code.length 0 [0] [] 1000 { (⟨p4.rp.ps,[[0]]⟩:Rm) with ps:={ p4.rp.ps with tr:=[] } } (List.replicate 18 0) 0 (by omega) (by have:=C.len;omega) ok6 (by rcases Rc.z with h|h;exact h;cases h) ⟨by simp,λj hj=>by
  have:j=0:=by simpa using hj
  subst this;rfl,λj hj=>by simp at hj,by decide,by decide⟩ (by
   have:=ht.1.2.2.1.2.1 ((oO code).meth 0) (by simp [oO,dN.meth]);have:=this.2.2.2.1.2;omega)
 have hee:e=e2:=vN.det hE i1;subst hee;rw [i2];refine dZ.2 ?_;simp only [ne_eq,not_true_eq_false,aD,decide_false];have hn250:=(FV (k:=0) ht (by show 0 < 1;decide) hw Rc);have hok:uN ⟨0,18,jA (oO code) ((oO code).meth 0) st r⟩:=hn250;have B1:=Bd0.sep.lt;have s4:=x4.size;have s5:=x5.size;have s6:=x6.size;have s8:=x8.size;have s7:=F7.size;have g45:w4.heap.size < w5.heap.size:=hB5.lt
 have keep:Fr (λk=>¬ (w3.heap.size<=k/\k < w5.heap.size)) w5 w9:=by
  refine ((Fr.of_ext (S:=λk=>¬ (w3.heap.size<=k/\k < w5.heap.size)) x6).trans (F7.mono λk ⟨a,hk⟩=>?_) λ_ _ h=>h).trans ((Fr.of_ext (S:=λk=>¬ (w3.heap.size<=k/\k < w5.heap.size)) x8).trans ((aRs F9).mono λk ⟨hk,hlt⟩=>?_) λ_ _ h=>h) λ_ _ h=>h
  ·have:=B1 a k hk;omega
  ·have hm:MB p6 q6 fg [] k:=Classical.byContradiction λhn=>hk ⟨hlt,hn⟩;rcases hm with ⟨a,ha,hm⟩|hm|⟨_,hm,_⟩
   ·rcases c6 a k ha hm with ⟨b,_,hb⟩|hb
    ·obtain ⟨c,hc⟩:=c5 b k hb;rcases m4 c k hc with h|h
     ·have:=B1 c k h;omega
     ·omega
    ·omega
   ·omega
   ·cases hm
 have gS:=x02.size;have X7:aE w w7:=F7.ext x06 λi ⟨a,hi⟩=>by have:=Bd6.ge a i hi;omega
 have X9:aE w w9:=(aRs F9).ext (X7.trans x8) λk ⟨hk,hlt⟩=>by
  have hm:MB p6 q6 fg [] k:=Classical.byContradiction λhn=>hk ⟨hlt,hn⟩;have s3:=x3.size;rcases hm with ⟨a,ha,hm⟩|hm|⟨_,hm,_⟩
  ·rcases c6 a k ha hm with ⟨b,_,hb⟩|hb
   ·obtain ⟨c,hc⟩:=c5 b k hb;have:=g4.ge c k hc;omega
   ·omega
  ·omega
  ·cases hm
 have hN9:yN w3.heap.size w9 (.slice na _ nc) (jA (oO code) ((oO code).meth 0) st r):=(yN.ext (B:=w3.heap.size) ⟨xs,hxo,hxs⟩ x5).fr keep λk h1 h2 hn=>hn ⟨h1,h2⟩;have hB9:=keep.blk hB5 λhn=>hn ⟨by omega,g45⟩;have hnl:=hok.l2;have hnl:(jA (oO code) ((oO code).meth 0) st r).length<=250:=hnl;refine aJ.mk' (λw'=>aE w9 w') (aE.refl w9).drew ?_;refine aSy (λw' hw=>(dW.boxed hB9).ext hw) PN rfl ?_;refine gY (λw' hw=>(dW.boxed hB9).ext hw) hY aF rfl ?_;have D9:aE w9 w9.drew:=(aE.refl w9).drew;refine mkB (n:=18) underlying37 oY rfl (by decide) (by decide) λw10 hB10 x10 z10=>?_;have X10:=D9.trans x10;refine ⟨X10,?_⟩;have hz:aA w10 (.slice (some ⟨w9.drew.heap.size,0,none⟩) 18 18) 1 18 ((List.replicate 18 (0:Int)).map i32):=hB10.slice (by decide) (by unfold maxLen;decide);have hP:sR w10 (.agg #[i64 0,i64 18,.slice na _ nc]) ⟨0,18,jA (oO code) ((oO code).meth 0) st r⟩:=⟨_,rfl,(hN9.ext X10).nodes,λn hn=>?_⟩
 rotate_left
 ·obtain ⟨k,hk⟩:=List.getElem?_of_mem hn;exact WW (hok.nodes k n hk).f
 have hcl:=(ht.1.2.2.1.2.1 ((oO code).meth 0) (by simp [oO,dN.meth])).2.2.2.1.2;have hev:=i9 4999 (by omega)
 have hN0':(jA (oO code) ((oO code).meth 0) st r)[0]?=some (.const 0 0):=by
  obtain ⟨y,z,h1,_⟩:=sL (i:=oO code) (m:=(oO code).meth 0) (st:=st) (r:=r) 0 ((oO code).meth 0).code.length;rw [Nat.zero_add] at h1;have e1:(aV (oO code) ((oO code).meth 0) st r 0).1=[.const 0 0]:=rfl;unfold jA;dsimp only;rw [List.getElem?_map,h1,e1];rfl
 have hev0:zP ⟨0,18,jA (oO code) ((oO code).meth 0) st r⟩ 5000 (List.replicate 18 0) 0 0=(g',at',1000 - e.fuel - 1):=by
  rw [show 5000=4999+1 from rfl,YP (nd:=.const 0 0) (by unfold mM.at';rw [List.getD_eq_getElem?_getD,hN0'];rfl) rfl rfl];rw [Nat.zero_add] at hev;exact hev
 refine (YN (p:=⟨0,18,jA (oO code) ((oO code).meth 0) st r⟩) (R:=18) (most:=5000) hP hok rfl hz (by simp) (by decide) (xW 18) TM).mono λrv w11 ⟨⟨v,hrv,hv⟩,x11⟩=>?_;subst hrv;rw [hev0] at hv ⊢;dsimp only at hv ⊢;have X11:=X10.trans x11;have ext:∀ {a:Array Z} {n:Nat} {v:Z} (w:O),a[n]?=some v->(Instr.extract (.tuple a) n).run prog w=.ok v w:=λw h=>by simp [Instr.extract,h]
 refine ⟨X11,aC.ok (λw' _=>ext w' (v:=v) rfl) (aC.ok (λw' _=>ext w' (v:=i64 (at':Int)) rfl) (aC.ok (λw' _=>ext w' (v:=i64 ((1000 - e.fuel - 1:Nat):Int)) rfl) ?_))⟩;have hat:=(List.getElem?_eq_some_iff.1 i7).1;have hB11:=dW.boxed (hB9.ext X11);obtain ⟨vs,hvs,hvn⟩:=(hN9.ext X11).nodes;obtain ⟨u,hu,sv2,rfl,_⟩:=hvn at' _ i7;refine bP.2 ?_;rw [show decide ((at':Int) < 0)=false by simp];simp only [mK,bR,reduceIte,Bool.false_eq_true];refine bQ hB11 eZ jH rfl (hU nA hvs (jU.2 ?_));rw [show decide ((at':Int)>=((jA (oO code) ((oO code).meth 0) st r).length:Int))=false by simp;omega];simp only [aD];refine bQ hB11 eZ jH rfl (kP nA lW hvs (by omega) (by omega) (by rw [Int.toNat_natCast];exact hu) ?_);refine V.ok (zS underlying91 rfl PU) ?_;rw [if_pos rfl];refine gM.2 (gL.2 ?_);refine pX VK rfl rfl λb12 w12 hb12 x12=>?_;have hb12:fB w12 b12 [i64 0,i64 src]:=hb12;have X12:=X11.trans x12;have hv12:=hv.ext x12;obtain ⟨q9,f9,Y9,a9,cap9,H9,_⟩:=T7.fr (Fr.of_ext (S:=λ_=>False) X12) λ_ h _=>h.elim;have er7:sS p5.rp=sS p7.rp:=by unfold sS;rw [rb7,rb6]
 have em7:pm p6=pm p7:=by unfold pm;rw [mb7]
 rw [er7];have hfe:e.r.fd=[[pA g' src]]:=i3;refine (aMj H9 (k:=0) (j:=0)).mono λrv w13 ⟨hrv,hw⟩=>?_;subst hrv;have hw:=hw.symm;subst hw;rw [hfe];have hfv:NQ [[pA g' src]] 0 0=.tuple #[i32 (pA g' src),.bool true]:=rfl;rw [hfv];refine gM.2 (gL.2 ?_);simp only [rJ];refine bQ hb12 jS aF rfl (aO.2 ?_);have te:∀ {a:Int},decide (a=a)=true:=λ{a}=>decide_eq_true rfl;rw [te];simp only [bR,rJ,reduceIte];refine bQ hb12 iY aF rfl (jU.2 ?_);rw [show decide (src>=0)=true by simp;omega];simp only [bR,rJ,reduceIte];refine bQ hb12 iY aF rfl (hU kE hv12 (bP.2 ?_));rw [show decide (src < ((18:Nat):Int))=true by simp;omega];simp only [bR,rJ,reduceIte];refine bQ hb12 iY aF rfl (kP kE eY hv12 (by omega) (by omega) (pW i6 i4 i5) (aO.2 ?_));rw [te];simp only [bR,rJ,reduceIte];rw [em7];refine (aRr H9).mono λrv w14 ⟨hrv,hw⟩=>?_;subst hrv;have hw:=hw.symm;subst hw;refine iL.2 ?_;rw [aU (by omega)];refine iL.2 ?_;rw [aU (by omega)];refine aO.2 ?_;rw [show decide (((1000 - e.fuel - 1:Nat):Int)=1000 - (e.fuel:Int) - 1)=true by simp;omega];exact hR _ (X9.trans X12)
theorem aLh {t0 t1:Z} {l signs:List Int} {way:Int} (hl:LW w t0 i32 l) (l32:kD l) (hs:LW w t1 i64 signs) (hway:kY way) (hT:mS w) :
  aB prog 7 #[t0,t1,i32 way] w λr w'=>r=.bool true/\aE w w':=by
 apply aSq;exact aMz hl l32 hs hway λg p code w1 hB hA C hb x=>aQm (hT.ext x) hB hA C hb λw' x'=>⟨rfl,x.trans x'⟩
end
end Go.Proofs.YtgkkecladbmjkaaGreatDoor
namespace Go.Vc
open Go.ChangeShapes Go.WideShapes Go.ChangeAt Go.RowKit
variable {H:Type} {enc:TypeId × Z->H} {P:Program}
theorem FH {f:Func} {s:ChangeSpec} {apart fresh handsOn again:Bool} {W W':O} {args:Array Z} {v:Z} {ds gs:List (DataW H)} {pa pv:List MemPlace}
  (hW:DataW.Whole enc P f.params.toList s.vars apart W args.toList ds gs (pa++pv)) (hx:aE W W')
  (hr:∀ b sp hd,DataW.TrodAll enc P W' b sp hd f.resultTypes.toList (v.resultList f.resultTypes.size) (s.fn H (ds++gs)).results [])
  (ha:∀ sp:Nat->Bool,(∀ p∈pa++pv,sp p.block=true)->DataW.TrodAll enc P W' 0 sp true f.params.toList args.toList (s.fn H (ds++gs)).args pa)
  (hv:∀ sp:Nat->Bool,(∀ p∈pa++pv,sp p.block=true)->DataW.TrodVars enc P W' sp s.vars (s.fn H (ds++gs)).vars pv)
  (hok:∀ (j:Nat) (t:TypeId) (r:Z),f.resultTypes[j]?=some t->(v.resultList f.resultTypes.size)[j]?=some r->Value.okWide P W' .any 0 t r) :
  s.post enc P f apart fresh handsOn again W args v W':=by
 have hlt:=hW.lt;have hall:∀ p∈pa++pv,(λb=>decide (b < W.heap.size)) p.block=true:=λp hp=>decide_eq_true (hlt p hp);have hk:=hx.below.frame (·∈pa++pv)
 refine ⟨ds,gs,pa++pv,[],pa,pv,hW,hr _ _ _,ha _ hall,hv _ hall,World.keptBut_mono (λp hp=>⟨hp,.inr (by simpa using hp)⟩) hk,λ_=>?_⟩;obtain ⟨_,_,_,_,_,hz,hn⟩:=hW;have h2:=trodAll_append (ha (λ_=>true) λ_ _=>rfl) (hr 0 (λ_=>true) true);refine ⟨hok,_,_,pa++pv,⟨pa,pv,(by simpa using h2),hv _ λ_ _=>rfl,rfl,λb off hp=>?_,hn⟩,λp hp _=>hp⟩;rw [hx.below.frozen (hlt _ hp)];exact hz b off hp
theorem BW (hl:laidOutB P=true) {W W':O} (hx:aE W W') {sp:Nat->Bool}:∀ {ts:List TypeId} {vs:List Z} {ds:List (DataW H)} {p:List MemPlace},(ts.all λt=>P.readableRec t&&decide (t < P.types.size))=true ->
  DataW.TrodAll enc P W 0 (λ_=>true) true ts vs ds p->(∀ x∈p,x.block < W.heap.size)->(∀ x∈p,sp x.block=true)->DataW.TrodAll enc P W' 0 sp true ts vs ds p
 | [],vs,ds,p,_,h,_,_=>by
  obtain ⟨rfl,rfl,rfl⟩:=trodAll_nil h;exact trodAll_mk0
 | t::ts,vs,ds,p,hr,h,hlt,hs=>by
  simp only [List.all_cons,Bool.and_eq_true,decide_eq_true_eq] at hr;obtain ⟨v,vs',d,ds',p1,p2,rfl,rfl,rfl,h1,h2⟩:=trodAll_cons h
  exact trodAll_cons_mk (WideElems.Trod_stays hl hr.1.1 hr.1.2 h1 (λx hx'=>hx.below.same (hlt x (by simp [hx']))) λx hx'=>hs x (by simp [hx']))
   (BW hl hx (by simpa using hr.2) h2 (λx hx'=>hlt x (by simp [hx'])) λx hx'=>hs x (by simp [hx']))
end Go.Vc
namespace Go.Vc
open Go.ChangeShapes
variable {P:Program} {W:O} {x:String} {ds:List (DataW Unit)} {i m:Nat} {k:IntKind} {laid:List (String × DataW Unit)}
theorem uH {P:Program} {W:O} {x:String} {ds:List (DataW Unit)} {g t e m:Nat} (hg:P.globalNamed x=some g) (ht:(P.globals[g]?).map (·.type)=some t) (hu:P.underlying t=some (.array m e)) {i:Nat} (hi:i < m) :
  ∀ {laid:List (String × DataW Unit)} {ps:List MemPlace},DataW.LaidVars P W laid ps->(x,.agg ds)∈laid->∃ (fuel:Nat) (q:List MemPlace) (cs:List Z) (d:DataW Unit),ds[i]?=some d/\DataW.trod (λ_=>()) P W 0 (λ_=>true) false fuel e ((cs.drop (i*P.cellsOf e)).take (P.cellsOf e))=some (d,q)/\∀ j:Nat,W.cell? ⟨g,j,none⟩=cs[j]?
 | [],_,_,hm=>by cases hm
 | (n',d')::r,ps,h,hm=>by
  obtain ⟨g',t',cs,fuel,p,q,h1,h2,h3,h4,h5,_⟩:=h;rcases List.mem_cons.1 hm with e1|e1
  ·cases e1;obtain rfl:=Option.some.inj (hg.symm.trans h1);obtain rfl:=Option.some.inj (ht.symm.trans h2);obtain ⟨xs,m',_,ex,_,hxl,hel⟩:=DataW.trod_array hu h4;have hE:=hel i hi;rw [List.getElem?_eq_getElem (by omega)] at hE;refine ⟨m',(xs[i]'(by omega)).2,cs.toList,(xs[i]'(by omega)).1,?_,hE,λj=>by rw [World.var?_cell hg h3 j,<- Array.getElem?_toList]⟩;have:ds=xs.map (·.1):=by have:=congrArg Prod.fst ex;simpa using this
   rw [this,List.getElem?_map,List.getElem?_eq_getElem (by omega)];rfl
  ·exact uH hg ht hu hi h5 e1
theorem XS {g t e:Nat} {ps:List MemPlace} (hg:P.globalNamed x=some g) (ht:(P.globals[g]?).map (·.type)=some t) (hu:P.underlying t=some (.array m e)) (he:P.underlying e=some (.int k)) (c1:P.cellsOf e=1)
  (h:DataW.LaidVars P W laid ps) (hm:(x,.agg ds)∈laid) (hi:i < m):∃ z,ds[i]?=some (.lit (.int k z))/\W.cell? ⟨g,i,none⟩=some (.int k z):=by
 obtain ⟨fuel,q,cs,d,h1,h2,h3⟩:=uH hg ht hu hi h hm;rw [c1,Nat.mul_one] at h2;obtain ⟨z,e1,e2,_⟩:=DataW.trod_int he h2;cases e2;refine ⟨z,h1,?_⟩;rw [h3 i];have h0:((cs.drop i).take 1)[0]?=some (.int k z):=by rw [e1];rfl
 simpa using h0
theorem FZ {g t e c f o u:Nat} {fs:Array Field} {ps:List MemPlace} (hg:P.globalNamed x=some g) (ht:(P.globals[g]?).map (·.type)=some t) (hu:P.underlying t=some (.array m e)) (he:P.underlying e=some (.struct fs)) (hc:P.cellsOf e=c)
  (hf:(fs[f]?).map (λy=>(y.type,y.offset))=some (u,o)) (hk:P.underlying u=some (.int k)) (c1:P.cellsOf u=1) (ho:o < c)
  (h:DataW.LaidVars P W laid ps) (hm:(x,.agg ds)∈laid) (hi:i < m):∃ l z,ds[i]?=some (.agg l)/\l[f]?=some (.lit (.int k z))/\W.cell? ⟨g,i*c+o,none⟩=some (.int k z):=by
 obtain ⟨fuel,q,cs,d,h1,h2,h3⟩:=uH hg ht hu hi h hm;rw [hc] at h2;obtain ⟨xs,n,_,ex,_,hxl,hel⟩:=DataW.trod_struct he h2;obtain ⟨fd,hfd,hfe⟩:=Option.map_eq_some_iff.1 hf;have h4:=hel f fd hfd;have hlt:f < fs.size:=(Array.getElem?_eq_some_iff.1 hfd).1;simp only [Prod.mk.injEq] at hfe;obtain ⟨rfl,rfl⟩:=hfe;rw [c1,List.getElem?_eq_getElem (by omega)] at h4;obtain ⟨z,e1,e2,_⟩:=DataW.trod_int hk h4;have e3:d=.agg (xs.map (·.1)):=congrArg Prod.fst ex
 refine ⟨_,z,by rw [h1,e3],by rw [List.getElem?_map,List.getElem?_eq_getElem (by omega)];simp [e2],?_⟩;rw [h3];have h0:((((cs.drop (i*c)).take c).drop fd.offset).take 1)[0]?=some (.int k z):=by rw [e1];rfl
 simpa [List.getElem?_take,List.getElem?_drop,ho] using h0
end Go.Vc
