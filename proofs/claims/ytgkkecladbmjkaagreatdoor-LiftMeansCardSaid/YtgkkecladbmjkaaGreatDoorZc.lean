/- Each function's body, opened into a plain condition by program (vcgen. -/
import Derived.Test.YtgkkecladbmjkaaGreatDoorZb
import Derived.Test.YtgkkecladbmjkaaGreatDoorProg
import Derived.KernelRfl
set_option linter.unusedSimpArgs false
namespace Go.Proofs.YtgkkecladbmjkaaGreatDoor
open Go.Vc Tryz Instr
namespace Dn
abbrev v:=Go.Vc.V prog
abbrev u:=Go.Vc.U prog
abbrev c:=Go.Vc.aB prog
abbrev y:=Go.Vc.aC prog
abbrev e (o:BinOp) (t:TypeId) (x y:Operand) (a b:Z):Sem Z:=do eqGuard o t x y a b;binOp o t a b
abbrev ec (o:BinOp) (t:TypeId) (x:Operand) (a b:Z):Sem Z:=e o t x (.const b) a b
abbrev g (c:Z) (b:Bool) (s:Sem Z) (w:O) (K:Z->O->Prop):Prop:=gd c b (λK=>v s w K) w K
abbrev gk (c:Z) (b:Bool) (t:Z) (w:O) (K:Z->O->Prop):Prop:=gd c b (λK=>K t w) w K
abbrev gy (c:Z) (b:Bool) (S:O->Prop) (s:Sem Z) (L:Z->Prop):Prop:=GP c b (λK=>y S s K) L
abbrev gx (c:Z) (b:Bool) (t:Z) (L:Z->Prop):Prop:=GP c b (λK=>K t) L
abbrev fl (S:TypeId) (p:Z) (f:Nat) (t:TypeId) (w:O) (K:Z->O->Prop):Prop:=v (fieldAt S p f) w λq w=>v (loadAt t q) w K
abbrev il (S:TypeId) (p i:Z) (t:TypeId) (w:O) (K:Z->O->Prop):Prop:=v (indexAt S p i) w λq w=>v (loadAt t q) w K
abbrev jl (S:TypeId) (p i:Z) (s:TypeId) (f:Nat) (t:TypeId) (w:O) (K:Z->O->Prop):Prop:=v (indexAt S p i) w λq w=>fl s q f t w K
abbrev yf (D:O->Prop) (S:TypeId) (p:Z) (f:Nat) (t:TypeId) (L:Z->Prop):Prop:=y D (fieldAt S p f) λq=>y D (loadAt t q) L
abbrev yi (D:O->Prop) (S:TypeId) (p i:Z) (t:TypeId) (L:Z->Prop):Prop:=y D (indexAt S p i) λq=>y D (loadAt t q) L
abbrev al (t:TypeId):Sem Z:=alloc t true (.tuple #[])
abbrev st (t:TypeId) (x:Z) (w:O) (K:Z->O->Prop):Prop:=v (al t) w λp w=>u (storeAt t p x) w λ_ w=>K p w
abbrev lv (t:TypeId) (p:Z) (w:O) (K:Z->Prop):Prop:=∃ r,(loadVar t (match p with|.pointer (some p)=>p|_=>⟨0,0,none⟩)).run prog w=.ok r w/\(∃ q,p=Value.pointer (some q))/\K r
abbrev b (o:BinOp) (a b:Z):Sem Z:=binOp o 3 a b
abbrev et (o:BinOp) (t:TypeId) (k:Nat) (a b:Z):Sem Z:=ec o t (.tmp k) a b
abbrev ln (t ty:TypeId) (x:Z):Sem Z:=Builtin.len_ #[t] ty #[x]
abbrev x2 (t:Z) (w:O) (K:Z->Z->O->Prop):Prop:=v (extract t 0) w λa w=>v (extract t 1) w λb w=>K a b w
abbrev x3 (t:Z) (w:O) (K:Z->Z->Z->O->Prop):Prop:=v (extract t 0) w λa w=>v (extract t 1) w λb w=>v (extract t 2) w λc w=>K a b c w
abbrev h (n:Int):Z:=.int .u16 n
abbrev l:zQ:=.leaf
abbrev jn (L:List Nat):zQ:=.join [] L .leaf .leaf
abbrev lo (L:List Nat):zQ:=.loop [] L .leaf
abbrev dr (pm L pre:Nat) (c:nN):zQ:=.draw [] [] pm L pre c
def nb (ops:Array Oper) (o:Oper) (i:Nat):List Oper->Nat->Nat->Nat
  | [],_,m=>m
  | oj::os,j,m=>nb ops o i os (j+1) (bif Nat.beq j i||oj.after.toList.any (λe=>Region.binds .any e&&Nat.beq e.on i)||o.apart ops oj then m else m ||| (1 <<< j))
def na (ops:Array Oper) (all:List Oper):List Oper->Nat->List Nat
  | [],_=>[]
  | o::os,i=>nb ops o i all 0 0::na ops all os (i+1)
def mk:Code->List zQ->(zQ->List zQ->zQ)->zQ
  | .region _ ops true,.draw _ _ pm L pre c::s,k=>k (.draw (ops.toList.map GZ) (na ops ops.toList ops.toList 0) pm L pre c) s
  | .seq x y,s,k=>mk x s λa s=>match a,s with
    | .leaf,s=>mk y s λb s=>k (.seq a b) s
    | _,.join _ L _ _::s=>mk y s λb s=>k (.join (jN x) L a b) s
    | _,_::s=>mk y s λb s=>k (.seq a b) s
    | _,[]=>mk y [] λb s=>k (.seq a b) s
  | .cond _ x y,s,k=>mk x s λa s=>mk y s λb s=>k (.cond a b) s
  | .block _ x,s,k=>mk x s λa s=>k (.block a) s
  | .loop x,.loop _ L _::s,k=>mk x s λa s=>k (.loop (jN x) L a) s
  | _,s,k=>k .leaf s
end Dn
open Dn
open Tryz Instr
def q:Go.Vc.zQ->Go.Vc.zQ:=.seq .leaf
def tk (l:List Nat) (c:Go.Vc.nN):Go.Vc.nN:=l.foldr .take c
def rg (a b:Nat):List Nat:=List.range' a (b+1 - a)
variable {t0 t1 t2 t3 t4 t5 t6 t7 t8 t9:Z} {w:O} {R:Z->O->Prop}
open Go.Vc
theorem aRg:prog.follows .mixedOrders=true:=by kernel_rfl
theorem dw {f:FuncId} {fn:Func} {args:List Z} {D:Prop} (its:List zQ) (hf:prog.funcs[f]?=some fn) (h:D)
    (hb:(!(fn.name == "runtime.NumGoroutine")&&fn.body.isSome&&(ok fn.ntmps (mk (fn.body.getD .skip) its λa _=>a) (fn.body.getD .skip)&&AX fn.ntmps fn.results.toList&&Nat.ble args.length fn.ntmps))=true:=by kernel_rfl)
    (hD:D=vc prog (mk (fn.body.getD .skip) its λa _=>a) (fn.body.getD .skip) (aKm prog fn.results.toList R) (sP args) w:=by kernel_rfl):aB prog f args.toArray w R:=aMt aRg (mk (fn.body.getD .skip) its λa _=>a) hf hb hD h
def OL (t0 t1 t2:Z) (w:O) (R:Z->O->Prop):Prop:=
 v (convert 21 3 t2) w λt29 w=>v (build 70 #[(0,(i64 1)),(1,t29)]) w λt30 w=>v (build 70 #[(0,(i64 3))]) w λt31 w=>v (buildSlice 71 2 #[(0,t30),(1,t31)]) w λt32 w=>∃ (I1:NP 2) (μ1:NF 2),I1 t32 (i64 0) w /\
 ∀ t7 t8 w5,I1 t7 t8 w5->∀ _f:dT,v (ln 37 3 t0) w5 λt35 w=>v (b .lss t8 t35) w λt36 w=>gk t36 true t8 w λt38 w=>g t36 true (b .lss t38 (i64 12)) w λt39 w9=>aG t36 t39 (.bool false) λt40=>aH t40 (∃ J2:NP 1,(v (ln 42 3 t1) w9 λt45 w=>v (b .lss t8 t45) w λt46 w12=>aH t46 (il 42 t1 t8 3 w12 λt50 w=>c 11 #[t50,(i64 9)] w λt51 w=>J2 t51 w) (J2 (i64 0) w12)) /\
 ∀ t9 w,J2 t9 w->∀ _f:dT,v (et .eql 3 52 t9 (i64 0)) w λt71 w17=>aH t71 (v (build 70 #[(0,(i64 2))]) w17 λt73 w=>v (ln 71 3 t7) w λt75 w=>v (b .add t75 (i64 6)) w λt76 w=>v (build 70 #[(0,(i64 24)),(1,t76)]) w λt77 w=>v (build 70 #[(0,(i64 2))]) w λt78 w=>il 37 t0 t8 21 w λt82 w=>v (convert 21 3 t82) w λt83 w=>v (build 70 #[(0,(i64 1)),(1,t83)]) w λt84 w=>v (build 70 #[(0,(i64 6))]) w λt85 w=>v (build 70 #[(0,(i64 3))]) w λt86 w=>v (buildSlice 71 6 #[(0,t73),(1,t77),(2,t78),(3,t84),(4,t85),(5,t86)]) w λt87 w=>v (Builtin.append_ #[71,71] 71 #[t7,t87]) w λt88 w=>v (b .add t8 (i64 1)) w λt42 w=>I1 t88 t42 w/\μ1 t88 t42 w < μ1 t7 t8 w5) (v (et .eql 3 52 t9 (i64 1)) w17 λt90 w32=>aH t90 (v (build 70 #[(0,(i64 2))]) w32 λt92 w=>v (build 70 #[(0,(i64 15))]) w λt93 w=>v (build 70 #[(0,(i64 3))]) w λt94 w=>v (buildSlice 71 3 #[(0,t92),(1,t93),(2,t94)]) w λt95 w=>v (Builtin.append_ #[71,71] 71 #[t7,t95]) w λt96 w=>v (b .add t8 (i64 1)) w λt42_1 w=>I1 t96 t42_1 w/\μ1 t96 t42_1 w < μ1 t7 t8 w5) (v (et .eql 3 52 t9 (i64 2)) w32 λt98 w39=>aH t98 (v (build 70 #[(0,(i64 2))]) w39 λt100 w=>il 37 t0 t8 21 w λt104 w=>v (convert 21 3 t104) w λt105 w=>v (build 70 #[(0,(i64 1)),(1,t105)]) w λt106 w=>v (build 70 #[(0,(i64 2))]) w λt107 w=>v (build 70 #[(0,(i64 22))]) w λt108 w=>v (build 70 #[(0,(i64 3))]) w λt109 w=>v (buildSlice 71 5 #[(0,t100),(1,t106),(2,t107),(3,t108),(4,t109)]) w λt110 w=>v (Builtin.append_ #[71,71] 71 #[t7,t110]) w λt111 w=>v (b .add t8 (i64 1)) w λt42_2 w=>I1 t111 t42_2 w/\μ1 t111 t42_2 w < μ1 t7 t8 w5) (v (et .eql 3 52 t9 (i64 3)) w39 λt113 w51=>aH t113 (v (build 70 #[(0,(i64 2))]) w51 λt115 w=>v (build 70 #[(0,(i64 5))]) w λt116 w=>v (build 70 #[(0,(i64 8))]) w λt117 w=>v (build 70 #[(0,(i64 3))]) w λt118 w=>v (buildSlice 71 4 #[(0,t115),(1,t116),(2,t117),(3,t118)]) w λt119 w=>v (Builtin.append_ #[71,71] 71 #[t7,t119]) w λt120 w=>v (b .add t8 (i64 1)) w λt42_3 w=>I1 t120 t42_3 w/\μ1 t120 t42_3 w < μ1 t7 t8 w5) (v (build 72 #[(0,(i64 11)),(1,(i64 7)),(2,(i64 21)),(3,(i64 14)),(4,(i64 19))]) w51 λt53 w=>v (b .sub t9 (i64 4)) w λt55 w=>v (index 72 t53 t55) w λt56 w=>v (build 70 #[(0,(i64 2))]) w λt58 w=>il 37 t0 t8 21 w λt62 w=>v (convert 21 3 t62) w λt63 w=>v (build 70 #[(0,(i64 1)),(1,t63)]) w λt64 w=>v (build 70 #[(0,t56)]) w λt66 w=>v (build 70 #[(0,(i64 3))]) w λt67 w=>v (buildSlice 71 4 #[(0,t58),(1,t64),(2,t66),(3,t67)]) w λt68 w=>v (Builtin.append_ #[71,71] 71 #[t7,t68]) w λt69 w=>v (b .add t8 (i64 1)) w λt42_4 w=>I1 t69 t42_4 w/\μ1 t69 t42_4 w < μ1 t7 t8 w5))))) (v (build 70 #[(0,(i64 2))]) w9 λt122 w=>v (build 70 #[(0,(i64 34))]) w λt123 w=>v (build 70 #[(0,(i64 39))]) w λt124 w=>v (buildSlice 71 3 #[(0,t122),(1,t123),(2,t124)]) w λt125 w=>v (Builtin.append_ #[71,71] 71 #[t7,t125]) w λt126 w=>v (buildSlice 42 1 #[(0,(i64 1))]) w λt127 w=>v (buildSlice 42 1 #[(0,(i64 1))]) w λt128 w=>v (build 74 #[(2,t128),(3,t126)]) w λt130 w=>v (buildSlice 44 1 #[(0,t130)]) w λt131 w=>v (build 46 #[(0,(Value.string { data:=#[97] })),(1,t127),(3,t131)]) w λt132 w=>st 46 t132 w λt11 w=>v (loadAt 46 t11) w λt134 w=>c 31 #[t134] w λt135 w=>x2 t135 w λt136 t137 w=>st 76 t136 w λ_ w=>v (et .neq 34 138 t137 (i64 0)) w λt139 w90=>aH t139 (c 32 #[] w90 λt140 w=>R t140 w) (c 33 #[(i64 100)] w90 λt142 w=>x2 t142 w λt143 t144 w=>v (loadAt 46 t11) w λt146 w=>c 34 #[t146,(i64 0)] w λt147 w=>x3 t147 w λt148 _ t150 w=>st 83 t148 w λt16 w=>c 32 #[] w λt151 w=>v (Op.unary UnOp.not t151) w λt152 w=>gk t152 false t144 w λt154 w=>g t152 false (et .neq 34 154 t154 (i64 0)) w λt155 w=>aG t152 (.bool true) t155 λt156=>gk t156 false t143 w λt158 w=>g t156 false (et .eql 26 158 t158 (Value.pointer none)) w λt159 w=>aG t156 (.bool true) t159 λt160=>gk t160 false t150 w λt162 w=>g t160 false (Op.unary UnOp.not t162) w λt163 w=>aG t160 (.bool true) t163 λt164=>aH t164 (R (.bool false) w) (v (loadAt 46 t11) w λt166 w=>c 35 #[t143,t166] w λ_ w=>c 13 #[t143,(i64 0),(i64 1000)] w λt170 w=>x2 t170 w λt171 t172 w=>v (et .neq 34 173 t172 (i64 0)) w λt174 w=>gk t174 false t171 w λt176 w=>g t174 false (et .eql 33 176 t176 (Value.pointer none)) w λt177 w=>aG t174 (.bool true) t177 λt178=>gk t178 false t171 w λt180 w=>gd t178 false (λK=> c 20 #[t180] w K) w λt181 w=>g t178 false (et .neq 3 181 t181 (i64 36864)) w λt182 w=>aG t178 (.bool true) t182 λt183=>aH t183 (R (.bool false) w) (aJ w λS32 w=>y S32 (loadAt 83 t16) λt185=>yf S32 83 t16 1 3 λt187=>v (makeSlice 37 t187 t187) w λt188 w=>S32 w /\
 c 36 #[t185,t188,(i64 0),(i64 5000)] w λt189 w=>S32 w /\
 y S32 (extract t189 0) λt190=>y S32 (extract t189 1) λt191=>y S32 (extract t189 2) λt192=>v (b .lss t191 (i64 0)) w λt194 w=>gk t194 false t191 w λt196 w=>g t194 false (fieldAt 83 t16 2) w λt197 w=>g t194 false (loadAt 81 t197) w λt198 w=>g t194 false (ln 81 3 t198) w λt199 w=>g t194 false (b .geq t196 t199) w λt200 w=>aG t194 (.bool true) t200 λt201=>aH t201 (R (.bool false) w) (fl 83 t16 2 81 w λt204 w=>il 81 t204 t191 94 w λt207 w=>v (typeAssert t207 94 91 true) w λt208 w=>x2 t208 w λt209 t210 w=>st 91 t209 w λt24 w=>c 37 #[t143,(i64 0),(i64 0)] w λt213 w=>x2 t213 w λt214 _ w=>g t210 true (fieldAt 91 t24 0) w λt218 w=>g t210 true (loadAt 3 t218) w λt219 w=>g t210 true (et .eql 3 219 t219 (i64 0)) w λt220 w=>aG t210 t220 (.bool false) λt221=>g t221 true (fieldAt 91 t24 1) w λt223 w=>g t221 true (loadAt 3 t223) w λt224 w=>g t221 true (b .geq t224 (i64 0)) w λt225 w=>aG t221 t225 (.bool false) λt226=>g t226 true (fieldAt 91 t24 1) w λt228 w=>g t226 true (loadAt 3 t228) w λt229 w=>gk t226 true t190 w λt230 w=>g t226 true (ln 37 3 t230) w λt231 w=>g t226 true (b .lss t229 t231) w λt232 w=>aG t226 t232 (.bool false) λt233=>gk t233 true t190 w λt235 w=>g t233 true (fieldAt 91 t24 1) w λt236 w=>g t233 true (loadAt 3 t236) w λt237 w=>g t233 true (indexAt 37 t235 t237) w λt238 w=>g t233 true (loadAt 21 t238) w λt239 w=>gk t233 true t214 w λt240 w=>g t233 true (e .eql 21 (.tmp 239) (.tmp 240) t239 t240) w λt241 w=>aG t233 t241 (.bool false) λt242=>gk t242 true t192 w λt244 w=>gk t242 true t171 w λt245 w=>gd t242 true (λK=> c 18 #[t245] w K) w λt246 w=>g t242 true (b .sub (i64 1000) t246) w λt247 w=>g t242 true (b .sub t247 (i64 1)) w λt248 w=>g t242 true (e .eql 3 (.tmp 244) (.tmp 248) t244 t248) w λt249 w=>aG t242 t249 (.bool false) λt250=>R t250 w)))))
theorem aSq (h:OL t0 t1 t2 w R):aB prog 7 #[t0,t1,t2] w R:=dw [lo [7,8],l,jn [9],l,l,l,l,l,dr 0 12 4095 (tk [0,1,2] (.only 3 (.only 4 (tk (rg 5 11) .done))))] func7 h
def OK (t0:Z) (w:O) (R:Z->O->Prop):Prop:=
 ∃ (I1:NP 2) (μ1:NF 2),I1 cM (i64 0) w /\
 ∀ t3 t4 w1,I1 t3 t4 w1->∀ _f:dT,v (ln 22 3 t0) w1 λt14 w=>v (b .lss t4 t14) w λt15 w=>gk t15 true t4 w λt17 w=>g t15 true (b .lss t17 (i64 3)) w λt18 w5=>aG t15 t18 (.bool false) λt19=>aH t19 (il 22 t0 t4 99 w5 λt26 w=>c 38 #[t4,t26] w λt27 w=>st 46 t27 w λt5 w=>∃ J2:NP 0,(v (loadAt 46 t5) w λt29 w=>c 31 #[t29] w λt30 w=>x2 t30 w λt31 t32 w=>st 76 t31 w λ_ w=>v (et .neq 34 33 t32 (i64 0)) w λt34 w18=>aH t34 (aJ w18 λS8 w=>yi S8 22 t0 t4 99 λt39=>yi S8 22 t0 t4 99 λt43=>y S8 (ln 99 3 t43) λt44=>y S8 (b .quo t44 (i64 2)) λt45=>y S8 (sliceAt 99 t39 none (some t45) none) λt46=>c 38 #[t4,t46] w λt47 w=>S8 w /\
 u (storeAt 46 t5 t47) w λ_ w=>v (loadAt 46 t5) w λt49 w=>c 31 #[t49] w λt50 w=>x2 t50 w λt51 t52 w=>st 76 t51 w λ_ w=>v (et .neq 34 53 t52 (i64 0)) w λt54 w28=>aH t54 (c 38 #[t4,cM] w28 λt56 w=>u (storeAt 46 t5 t56) w λ_ w=>J2 w) (J2 w28)) (J2 w18)) /\
 ∀ w:O,J2 w->∀ _f:dT,v (loadAt 46 t5) w λt58 w=>c 31 #[t58] w λt59 w=>x2 t59 w λt60 t61 w=>st 76 t60 w λ_ w=>v (et .eql 34 62 t61 (i64 0)) w λt63 w38=>aH t63 (v (loadAt 46 t5) w38 λt65 w=>v (buildSlice 24 1 #[(0,t65)]) w λt66 w=>v (Builtin.append_ #[24,24] 24 #[t3,t66]) w λt67 w=>v (b .add t4 (i64 1)) w λt21 w=>I1 t67 t21 w/\μ1 t67 t21 w < μ1 t3 t4 w1) (v (b .add t4 (i64 1)) w38 λt21_1 w=>I1 t3 t21_1 w/\μ1 t3 t21_1 w < μ1 t3 t4 w1)) (R t3 w5)
theorem aJt (h:OK t0 w R):aB prog 8 #[t0] w R:=dw [lo [3,4],l,dr 0 13 8191 (tk (rg 0 11) (.only 12 (.last 13))),l,jn []] func8 h
def EI (t0 t1:Z) (w:O) (R:Z->O->Prop):Prop:=
 v (b .rem t0 t1) w λt7 w=>v (b .lss t7 (i64 0)) w λt9 w2=>aH t9 (v (b .add t7 t1) w2 λt12 w=>R t12 w) (R t7 w2)
theorem aAd (h:EI t0 t1 w R):aB prog 11 #[t0,t1] w R:=dw [] func11 h
def SC (t0 t1 t2:Z) (w:O) (R:Z->O->Prop):Prop:=
 v (et .eql 26 9 t0 (Value.pointer none)) w λt10 w=>gk t10 false t2 w λt12 w=>g t10 false (b .lss t12 (i64 0)) w λt13 w=>aG t10 (.bool true) t13 λt14=>gk t14 false t2 w λt16 w=>g t14 false (b .gtr t16 (i64 100000)) w λt17 w=>aG t14 (.bool true) t17 λt18=>gk t18 false t1 w λt20 w=>g t18 false (b .lss t20 (i64 0)) w λt21 w=>aG t18 (.bool true) t21 λt22=>gk t22 false t1 w λt24 w=>gk t22 false t0 w λt25 w=>gd t22 false (λK=> c 45 #[t25] w K) w λt26 w=>g t22 false (b .geq t24 t26) w λt27 w=>aG t22 (.bool true) t27 λt28=>aH t28 (R (.tuple #[(Value.pointer none),(i64 1)]) w) (c 46 #[] w λt30 w=>v (build 109 #[(0,t0),(1,t30),(3,t2)]) w λt32 w=>v (box 109 t32) w λt33 w=>c 47 #[t33,t1,(i64 0),cM] w λ_ w=>R (.tuple #[t33,(i64 0)]) w)
theorem aPg (h:SC t0 t1 t2 w R):aB prog 13 #[t0,t1,t2] w R:=dw [] func13 h
def RY (t0:Z) (w:O) (R:Z->O->Prop):Prop:=
 Go.Vc.aY (t0) /\
 fl 109 t0 3 3 w λt6 w=>R t6 w
theorem aPf (h:RY t0 w R):aB prog 18 #[t0] w R:=dw [] func18 h
def EG (t0:Z) (w:O) (R:Z->O->Prop):Prop:=
 Go.Vc.aY (t0) /\
 fl 109 t0 4 3 w λt9 w=>v (et .neq 3 9 t9 (i64 0)) w λt10 w4=>aH t10 (Go.Vc.aY (t0) /\
 fl 109 t0 4 3 w4 λt14 w=>R t14 w) (Go.Vc.aY (t0) /\
 fl 109 t0 3 3 w4 λt18 w=>v (et .eql 3 18 t18 (i64 0)) w λt19 w11=>aH t19 (c 51 #[t0,(i64 28423)] w11 λ_ w=>Go.Vc.aY (t0) /\
 fl 109 t0 4 3 w λt25 w=>R t25 w) (Go.Vc.aY (t0) /\
 fl 109 t0 3 3 w11 λt29 w=>v (b .sub t29 (i64 1)) w λt30 w=>Go.Vc.aY (t0) /\
 v (fieldAt 109 t0 3) w λt32 w=>u (storeAt 3 t32 t30) w λ_ w=>c 48 #[t0] w λt34 w=>aJ w λS8 w=>Go.Vc.aY (t34) /\
 y S8 (fieldAt 114 t34 3) λt37=>yf S8 74 t37 3 71 λt39=>Go.Vc.aY (t34) /\
 yf S8 114 t34 2 3 λt43=>yi S8 71 t39 t43 70 λt45=>v (al 70) w λt4 w=>S8 w /\
 u (storeAt 70 t4 t45) w λ_ w=>aJ w λS9 w=>Go.Vc.aY (t0) /\
 yf S9 109 t0 1 48 λt49=>Go.Vc.aY (t34) /\
 yf S9 114 t34 0 3 λt53=>Go.Vc.aY (t34) /\
 yf S9 114 t34 1 3 λt57=>y S9 (b .mul (i64 1000) t57) λt58=>Go.Vc.aY (t34) /\
 yf S9 114 t34 2 3 λt62=>y S9 (b .add t58 t62) λt63=>yf S9 70 t4 0 3 λt65=>c 52 #[t49,(i64 1),t53,t63,t65] w λ_ w=>S9 w /\
 v (loadAt 70 t4) w λt69 w=>c 53 #[t0,t34,t69] w λt70 w=>v (et .neq 3 71 t70 (i64 36864)) w λt72 w31=>aH t72 (c 51 #[t0,t70] w31 λ_ w=>Go.Vc.aY (t0) /\
 fl 109 t0 4 3 w λt79 w=>R t79 w) (Go.Vc.aY (t0) /\
 fl 109 t0 4 3 w31 λt79_1 w=>R t79_1 w)))
theorem aPe (h:EG t0 w R):aB prog 19 #[t0] w R:=dw [l,l,dr 0 12 4095 (tk (rg 0 10) (.only 11 (.last 12))),l,dr 0 21 2097151 (tk (rg 0 19) (.only 20 .done))] func19 h
def RX (t0:Z) (w:O) (R:Z->O->Prop):Prop:=
 ∃ (I1:NP 0) (μ1:NF 0),I1 w /\
 ∀ w1:O,I1 w1->∀ _f:dT,Go.Vc.aY (t0) /\
 fl 109 t0 4 3 w1 λt6 w=>v (et .eql 3 6 t6 (i64 0)) w λt7 w5=>aH t7 (c 19 #[t0] w5 λ_ w=>I1 w/\μ1 w < μ1 w1) (Go.Vc.aY (t0) /\
 fl 109 t0 4 3 w5 λt13 w=>R t13 w)
theorem aPd (h:RX t0 w R):aB prog 20 #[t0] w R:=dw [lo []] func20 h
def RU (t0:Z) (w:O) (R:Z->O->Prop):Prop:=
 v (box 46 t0) w λt1 w=>v (al 76) w λt2 w=>v (loadAt 46 t1) w λt9 w=>c 71 #[t9] w λt10 w=>v (Op.unary UnOp.not t10) w λt11 w5=>aH t11 (v (build 76 #[]) w5 λt12 w=>u (storeAt 76 t2 t12) w λ_ w=>lv 76 t2 w λr1=> R (.tuple #[r1,(i64 1)]) w) (∃ (I1:NP 1) (μ1:NF 1),I1 (i64 0) w5 /\
 ∀ t4 w8,I1 t4 w8->∀ _f:dT,fl 46 t1 3 44 w8 λt15 w=>v (ln 44 3 t15) w λt16 w=>v (b .lss t4 t16) w λt17 w12=>aH t17 (v (loadAt 46 t1) w12 λt21 w=>c 72 #[t21,t4] w λt23 w=>x3 t23 w λ_ _ t26 w=>v (extract t23 3) w λt27 w=>v (et .neq 34 28 t27 (i64 0)) w λt29 w19=>aH t29 (v (build 76 #[(0,t4),(1,t26)]) w19 λt32 w=>u (storeAt 76 t2 t32) w λ_ w=>lv 76 t2 w λr1=> R (.tuple #[r1,t27]) w) (v (b .add t4 (i64 1)) w19 λt19 w=>I1 t19 w/\μ1 t19 w < μ1 t4 w8)) (v (build 76 #[]) w12 λt34 w=>u (storeAt 76 t2 t34) w λ_ w=>lv 76 t2 w λr1=> R (.tuple #[r1,(i64 0)]) w))
theorem aPc (h:RU t0 w R):aB prog 31 #[t0] w R:=dw [l,lo [4]] func31 h
def EF (w:O) (R:Z->O->Prop):Prop:=
 v (build 70 #[(0,(i64 1)),(1,(i64 7))]) w λt7 w=>v (build 70 #[(0,(i64 4))]) w λt8 w=>v (build 70 #[(0,(i64 39))]) w λt9 w=>v (buildSlice 71 3 #[(0,t7),(1,t8),(2,t9)]) w λt10 w=>v (build 74 #[(3,t10)]) w λt11 w=>v (buildSlice 44 1 #[(0,t11)]) w λt12 w=>v (build 46 #[(0,(Value.string { data:=#[97] })),(3,t12)]) w λt13 w=>c 34 #[t13,(i64 0)] w λt14 w=>x3 t14 w λt15 t16 t17 w=>st 83 t15 w λt1 w=>v (Op.unary UnOp.not t17) w λt19 w=>g t19 false (fieldAt 83 t1 2) w λt21 w=>g t19 false (loadAt 81 t21) w λt22 w=>g t19 false (ln 81 3 t22) w λt23 w=>g t19 false (et .neq 3 23 t23 (i64 5)) w λt24 w=>aG t19 (.bool true) t24 λt25=>gk t25 false t16 w λt27 w=>g t25 false (ln 42 3 t27) w λt28 w=>g t25 false (et .neq 3 28 t28 (i64 3)) w λt29 w=>aG t25 (.bool true) t29 λt30=>g t30 false (fieldAt 83 t1 1) w λt32 w=>g t30 false (loadAt 3 t32) w λt33 w=>g t30 false (et .neq 3 33 t33 (i64 18)) w λt34 w=>aG t30 (.bool true) t34 λt35=>aH t35 (R (.bool false) w) (fl 83 t1 2 81 w λt38 w=>il 81 t38 (i64 1) 94 w λt40 w=>v (typeAssert t40 94 161 true) w λt41 w=>x2 t41 w λt42 t43 w=>st 161 t42 w λt4 w=>g t43 true (loadAt 161 t4) w λt46 w=>g t43 true (build 161 #[(0,(i64 10)),(1,(Value.int IntKind.i32 7))]) w λt47 w=>g t43 true (e .eql 161 (.tmp 46) (.tmp 47) t46 t47) w λt48 w=>aG t43 t48 (.bool false) λt49=>g t49 true (fieldAt 83 t1 2) w λt51 w=>g t49 true (loadAt 81 t51) w λt52 w=>g t49 true (indexAt 81 t52 (i64 0)) w λt53 w=>g t49 true (loadAt 94 t53) w λt54 w=>g t49 true (build 164 #[]) w λt55 w=>g t49 true (makeInterface 164 t55) w λt56 w=>g t49 true (e .eql 94 (.tmp 54) (.tmp 56) t54 t56) w λt57 w=>aG t49 t57 (.bool false) λt58=>g t58 true (fieldAt 83 t1 2) w λt60 w=>g t58 true (loadAt 81 t60) w λt61 w=>g t58 true (indexAt 81 t61 (i64 3)) w λt62 w=>g t58 true (loadAt 94 t62) w λt63 w=>g t58 true (build 164 #[]) w λt64 w=>g t58 true (makeInterface 164 t64) w λt65 w=>g t58 true (e .eql 94 (.tmp 63) (.tmp 65) t63 t65) w λt66 w=>aG t58 t66 (.bool false) λt67=>gk t67 true t16 w λt69 w=>g t67 true (indexAt 42 t69 (i64 0)) w λt70 w=>g t67 true (loadAt 3 t70) w λt71 w=>g t67 true (et .eql 3 71 t71 (i64 0)) w λt72 w=>aG t67 t72 (.bool false) λt73=>gk t73 true t16 w λt75 w=>g t73 true (indexAt 42 t75 (i64 1)) w λt76 w=>g t73 true (loadAt 3 t76) w λt77 w=>g t73 true (et .eql 3 77 t77 (i64 2)) w λt78 w=>aG t73 t78 (.bool false) λt79=>gk t79 true t16 w λt81 w=>g t79 true (indexAt 42 t81 (i64 2)) w λt82 w=>g t79 true (loadAt 3 t82) w λt83 w=>g t79 true (et .eql 3 83 t83 (i64 3)) w λt84 w=>aG t79 t84 (.bool false) λt85=>R t85 w)
theorem aPb (h:EF w R):aB prog 32 #[] w R:=dw [] func32 h
def RT (t0:Z) (w:O) (R:Z->O->Prop):Prop:=
 c 73 #[t0] w λt8 w=>x2 t8 w λt9 t10 w=>v (et .neq 34 11 t10 (i64 0)) w λt12 w=>aH t12 (R (.tuple #[(Value.pointer none),t10]) w) (v (build 134 #[(0,t9)]) w λt15 w=>v (box 134 t15) w λt16 w=>R (.tuple #[t16,(i64 0)]) w)
theorem aPa (h:RT t0 w R):aB prog 33 #[t0] w R:=dw [] func33 h
def RS (t0 t1:Z) (w:O) (R:Z->O->Prop):Prop:=
 v (box 46 t0) w λt2 w=>v (al 83) w λt4 w=>v (loadAt 46 t2) w λt20 w=>c 74 #[t20,t1] w λt22 w=>x2 t22 w λt23 t24 w=>v (Op.unary UnOp.not t24) w λt26 w7=>aH t26 (v (build 83 #[]) w7 λt27 w=>u (storeAt 83 t4 t27) w λ_ w=>lv 83 t4 w λr1=> R (.tuple #[r1,cM,(.bool false)]) w) (fl 46 t2 3 44 w7 λt29 w=>il 44 t29 t1 74 w λt32 w=>st 74 t32 w λt9 w=>fl 74 t9 0 42 w λt34 w=>v (ln 42 3 t34) w λt35 w=>v (build 83 #[(0,t35),(1,(i64 18))]) w λt36 w=>st 83 t36 w λt10 w=>fl 74 t9 2 42 w λt38 w=>v (ln 42 3 t38) w λt39 w=>∃ (I1:NP 1) (μ1:NF 1),I1 (i64 0) w /\
 ∀ t40 w25,I1 t40 w25->∀ _f:dT,v (b .lss t40 t39) w25 λt41 w26=>aH t41 (fl 83 t10 2 81 w26 λt44 w=>fl 74 t9 0 42 w λt46 w=>v (ln 42 3 t46) w λt47 w=>v (b .add t47 t40) w λt49 w=>v (build 161 #[(0,t49)]) w λt50 w=>v (makeInterface 161 t50) w λt51 w=>v (buildSlice 81 1 #[(0,t51)]) w λt52 w=>v (Builtin.append_ #[81,81] 81 #[t44,t52]) w λt53 w=>v (fieldAt 83 t10 2) w λt54 w=>u (storeAt 81 t54 t53) w λ_ w=>v (b .add t40 (i64 1)) w λt55 w=>I1 t55 w/\μ1 t55 w < μ1 t40 w25) (v (loadAt 74 t9) w26 λt56 w=>c 75 #[t56] w λt57 w=>fl 74 t9 3 71 w λt59 w=>v (ln 71 3 t59) w λt60 w=>∃ (I2:NP 2) (μ2:NF 2),I2 cM (i64 0) w /\
 ∀ t12 t61 w45,I2 t12 t61 w45->∀ _f:dT,v (b .lss t61 t60) w45 λt62 w46=>aH t62 (il 71 t59 t61 70 w46 λt65 w=>st 70 t65 w λt15 w=>il 117 t57 t61 4 w λt69 w=>v (Op.unary UnOp.not t69) w λt70 w53=>aH t70 (v (buildSlice 42 1 #[(0,(i64 (-1)))]) w53 λt72 w=>v (Builtin.append_ #[42,42] 42 #[t12,t72]) w λt73 w=>v (b .add t61 (i64 1)) w λt104 w=>I2 t73 t104 w/\μ2 t73 t104 w < μ2 t12 t61 w45) (fl 83 t10 2 81 w53 λt76 w=>v (ln 81 3 t76) w λt77 w=>v (buildSlice 42 1 #[(0,t77)]) w λt78 w=>v (Builtin.append_ #[42,42] 42 #[t12,t78]) w λt79 w=>fl 83 t10 2 81 w λt81 w=>v (build 164 #[]) w λt82 w=>v (makeInterface 164 t82) w λt83 w=>v (buildSlice 81 1 #[(0,t83)]) w λt84 w=>v (Builtin.append_ #[81,81] 81 #[t81,t84]) w λt85 w=>v (fieldAt 83 t10 2) w λt86 w=>u (storeAt 81 t86 t85) w λ_ w=>aJ w λS20 w=>y S20 (loadAt 46 t2) λt87=>y S20 (loadAt 74 t9) λt88=>y S20 (loadAt 70 t15) λt89=>yi S20 116 t23 t61 42 λt93=>y S20 (ln 42 3 t93) λt94=>c 76 #[t87,t88,t89,t94] w λt95 w=>S20 w /\
 v (et .neq 94 96 t95 Value.nilIface) w λt97 w72=>aH t97 (fl 83 t10 2 81 w72 λt99 w=>v (buildSlice 81 1 #[(0,t95)]) w λt101 w=>v (Builtin.append_ #[81,81] 81 #[t99,t101]) w λt102 w=>v (fieldAt 83 t10 2) w λt103 w=>u (storeAt 81 t103 t102) w λ_ w=>v (b .add t61 (i64 1)) w λt104_1 w=>I2 t79 t104_1 w/\μ2 t79 t104_1 w < μ2 t12 t61 w45) (v (b .add t61 (i64 1)) w72 λt104_2 w=>I2 t79 t104_2 w/\μ2 t79 t104_2 w < μ2 t12 t61 w45))) (fl 83 t10 2 81 w46 λt106 w=>v (ln 81 3 t106) w λt107 w=>∃ (I3:NP 1) (μ3:NF 1),I3 (i64 0) w /\
 ∀ t108 w84,I3 t108 w84->∀ _f:dT,v (b .lss t108 t107) w84 λt109 w85=>aH t109 (il 81 t106 t108 94 w85 λt112 w=>aJ w λS27 w=>yf S27 83 t10 2 81 λt114=>c 77 #[t112,t12] w λt118 w=>S27 w /\
 y S27 (indexAt 81 t114 t108) λt119=>u (storeAt 94 t119 t118) w λ_ w=>v (b .add t108 (i64 1)) w λt120 w=>I3 t120 w/\μ3 t120 w < μ3 t108 w84) (v (loadAt 83 t10) w85 λt121 w=>u (storeAt 83 t4 t121) w λ_ w=>lv 83 t4 w λr1=> R (.tuple #[r1,t12,(.bool true)]) w))))
theorem aOz (h:RS t0 t1 w R):aB prog 34 #[t0,t1] w R:=dw [l,lo [40],l,l,l,lo [12,61],l,l,dr 0 10 1023 (tk (rg 0 7) (.only 8 (.take 9 .done))),l,l,l,lo [108],l,dr 0 7 127 (tk (rg 0 4) (.only 5 (.take 6 (.last 7))))] func34 h
def EE (t0 t1:Z) (w:O) (R:Z->O->Prop):Prop:=
 v (box 46 t1) w λt3 w=>Go.Vc.aY (t0) /\
 fl 134 t0 1 24 w λt9 w=>v (ln 24 3 t9) w λt10 w=>v (b .geq t10 (i64 4)) w λt11 w=>aH t11 (R (.tuple #[(i64 0),(.bool false)]) w) (aJ w λS3 w=>Go.Vc.aY (t0) /\
 yf S3 134 t0 1 24 λt16=>y S3 (loadAt 46 t3) λt17=>c 78 #[t17] w λt18 w=>S3 w /\
 v (buildSlice 24 1 #[(0,t18)]) w λt19 w=>S3 w /\
 v (Builtin.append_ #[24,24] 24 #[t16,t19]) w λt20 w=>S3 w /\
 Go.Vc.aY (t0) /\
 y S3 (fieldAt 134 t0 1) λt22=>u (storeAt 24 t22 t20) w λ_ w=>aJ w λS4 w=>Go.Vc.aY (t0) /\
 yf S4 134 t0 2 132 λt27=>yf S4 46 t3 1 42 λt29=>y S4 (ln 42 3 t29) λt30=>v (makeSlice 37 t30 t30) w λt31 w=>S4 w /\
 v (buildSlice 132 1 #[(0,t31)]) w λt32 w=>S4 w /\
 v (Builtin.append_ #[132,132] 132 #[t27,t32]) w λt33 w=>S4 w /\
 Go.Vc.aY (t0) /\
 y S4 (fieldAt 134 t0 2) λt35=>u (storeAt 132 t35 t33) w λ_ w=>Go.Vc.aY (t0) /\
 fl 134 t0 1 24 w λt39 w=>v (ln 24 3 t39) w λt40 w=>v (b .sub t40 (i64 1)) w λt41 w=>R (.tuple #[t41,(.bool true)]) w)
theorem aOy (h:EE t0 t1 w R):aB prog 35 #[t0,t1] w R:=dw [l,dr 3 11 2047 (tk (rg 0 5) (.only 6 (.only 7 (.only 8 (.take 9 (.take 10 (.last 11))))))),l,dr 3 13 8191 (tk (rg 0 7) (.only 8 (.only 9 (.only 10 (.take 11 (.take 12 (.last 13)))))))] func35 h
def RR (t0 t1 t2 t3:Z) (w:O) (R:Z->O->Prop):Prop:=
 v (box 83 t0) w λt4 w=>v (loadAt 83 t4) w λt17 w=>c 79 #[t17] w λt18 w=>v (Op.unary UnOp.not t18) w λt19 w=>gk t19 false t1 w λt21 w=>g t19 false (ln 37 3 t21) w λt22 w=>g t19 false (fieldAt 83 t4 1) w λt23 w=>g t19 false (loadAt 3 t23) w λt24 w=>g t19 false (e .neq 3 (.tmp 22) (.tmp 24) t22 t24) w λt25 w=>aG t19 (.bool true) t25 λt26=>aH t26 (R (.tuple #[cM,(i64 0),(i64 0)]) w) (c 49 #[t1] w λt28 w=>∃ (I1:NP 3) (μ1:NF 3),I1 t2 (i64 0) (i64 0) w /\
 ∀ t2_1 t12 t13 w12,I1 t2_1 t12 t13 w12->∀ _f:dT,v (b .lss t13 t3) w12 λt31 w=>gk t31 true t2_1 w λt33 w=>g t31 true (fieldAt 83 t4 2) w λt34 w=>g t31 true (loadAt 81 t34) w λt35 w=>g t31 true (ln 81 3 t35) w λt36 w=>gd t31 true (λK=> c 80 #[t33,t36] w K) w λt37 w=>aG t31 t37 (.bool false) λt38=>g t38 true (fieldAt 83 t4 2) w λt40 w=>g t38 true (loadAt 81 t40) w λt41 w=>gk t38 true t2_1 w λt42 w=>g t38 true (indexAt 81 t41 t42) w λt43 w=>g t38 true (loadAt 94 t43) w λt44 w=>gd t38 true (λK=> c 81 #[t44] w K) w λt45 w25=>aG t38 t45 (.bool false) λt46=>aH t46 (fl 83 t4 2 81 w25 λt50 w=>il 81 t50 t2_1 94 w λt53 w=>v (typeAssert t53 94 164 true) w λt56 w=>x2 t56 w λt57 t58 w=>st 164 t57 w λ_ w35=>aH t58 (v (b .add t12 (i64 1)) w35 λt61 w=>c 82 #[t53,t28,t2_1] w λt65 w=>v (b .add t13 (i64 1)) w λt48 w=>I1 t65 t61 t48 w/\μ1 t65 t61 t48 w < μ1 t2_1 t12 t13 w12) (c 82 #[t53,t28,t2_1] w35 λt65_1 w=>v (b .add t13 (i64 1)) w λt48_1 w=>I1 t65_1 t12 t48_1 w/\μ1 t65_1 t12 t48_1 w < μ1 t2_1 t12 t13 w12)) (R (.tuple #[t28,t2_1,t12]) w25))
theorem aOx (h:RR t0 t1 t2 t3 w R):aB prog 36 #[t0,t1,t2,t3] w R:=dw [l,lo [2,12,13]] func36 h
def wI (t0 t1 t2:Z) (w:O) (R:Z->O->Prop):Prop:=
 v (b .lss t1 (i64 0)) w λt9 w=>gk t9 false t1 w λt11 w=>gk t9 false t0 w λt12 w=>gd t9 false (λK=> (Go.Vc.aY (t12)/\K (t12) w)) w λt13 w=>g t9 false (fieldAt 134 t13 2) w λt14 w=>g t9 false (loadAt 132 t14) w λt15 w=>g t9 false (ln 132 3 t15) w λt16 w=>g t9 false (b .geq t11 t16) w λt17 w=>aG t9 (.bool true) t17 λt18=>gk t18 false t2 w λt20 w=>g t18 false (b .lss t20 (i64 0)) w λt21 w=>aG t18 (.bool true) t21 λt22=>gk t22 false t2 w λt24 w=>gk t22 false t0 w λt25 w=>gd t22 false (λK=> (Go.Vc.aY (t25)/\K (t25) w)) w λt26 w=>g t22 false (fieldAt 134 t26 2) w λt27 w=>g t22 false (loadAt 132 t27) w λt28 w=>gk t22 false t1 w λt29 w=>g t22 false (indexAt 132 t28 t29) w λt30 w=>g t22 false (loadAt 37 t30) w λt31 w=>g t22 false (ln 37 3 t31) w λt32 w=>g t22 false (b .geq t24 t32) w λt33 w=>aG t22 (.bool true) t33 λt34=>aH t34 (R (.tuple #[(Value.int IntKind.i32 0),(.bool false)]) w) (Go.Vc.aY (t0) /\
 fl 134 t0 2 132 w λt38 w=>il 132 t38 t1 37 w λt41 w=>il 37 t41 t2 21 w λt44 w=>R (.tuple #[t44,(.bool true)]) w)
theorem aAc (h:wI t0 t1 t2 w R):aB prog 37 #[t0,t1,t2] w R:=dw [] func37 h
def RQ (t0 t1:Z) (w:O) (R:Z->O->Prop):Prop:=
 v (al 46) w λt4 w=>v (buildSlice 42 4 #[(0,(i64 1)),(1,(i64 2)),(2,(i64 3)),(3,(i64 4))]) w λt10 w=>c 83 #[t0] w λt12 w=>v (buildSlice 42 4 #[(0,(i64 1)),(1,(i64 2)),(2,(i64 3)),(3,(i64 4))]) w λt13 w=>v (buildSlice 42 2 #[(0,(i64 1)),(1,(i64 2))]) w λt14 w=>v (build 46 #[(0,t12),(1,t13),(4,t14)]) w λt15 w=>st 46 t15 w λt6 w=>v (b .add t0 (i64 1)) w λt17 w=>c 83 #[t17] w λt18 w=>v (buildSlice 42 2 #[(0,(i64 1)),(1,(i64 2))]) w λt19 w=>v (build 180 #[(0,t18),(1,(i64 0)),(2,t19),(3,(i64 2))]) w λt20 w=>v (b .add t0 (i64 1)) w λt22 w=>v (ln 99 3 t1) w λt24 w=>c 11 #[t24,(i64 3)] w λt25 w=>v (b .add t22 t25) w λt26 w=>c 83 #[t26] w λt27 w=>v (buildSlice 42 2 #[(0,(i64 4)),(1,(i64 3))]) w λt28 w=>v (build 180 #[(0,t27),(1,(i64 1)),(2,t28),(3,(i64 3))]) w λt29 w=>v (buildSlice 43 2 #[(0,t20),(1,t29)]) w λt30 w=>v (fieldAt 46 t6 2) w λt31 w=>u (storeAt 43 t31 t30) w λ_ w=>v (build 74 #[(2,t10)]) w λt33 w=>v (buildSlice 42 2 #[(0,(i64 1)),(1,(i64 2))]) w λt34 w=>v (build 74 #[(0,t34),(1,(i64 2)),(2,t10)]) w λt36 w=>v (buildSlice 42 2 #[(0,(i64 4)),(1,(i64 3))]) w λt37 w=>v (sliceAt 42 t10 none (some (i64 2)) none) w λt39 w=>v (build 74 #[(0,t37),(1,(i64 3)),(2,t39)]) w λt40 w=>v (buildSlice 44 3 #[(0,t33),(1,t36),(2,t40)]) w λt41 w=>v (fieldAt 46 t6 3) w λt42 w=>u (storeAt 44 t42 t41) w λ_ w=>v (ln 99 3 t1) w λt44 w=>∃ (I1:NP 1) (μ1:NF 1),I1 (i64 0) w /\
 ∀ t8 w33,I1 t8 w33->∀ _f:dT,v (b .lss t8 (i64 3)) w33 λt46 w34=>aH t46 (v (b .mul t8 t44) w34 λt53 w=>v (b .quo t53 (i64 3)) w λt54 w=>v (Builtin.min_ #[3,3] 3 #[t44,t54]) w λt55 w=>v (b .add t8 (i64 1)) w λt58 w=>v (b .mul t58 t44) w λt60 w=>v (b .quo t60 (i64 3)) w λt61 w=>v (Builtin.min_ #[3,3] 3 #[t44,t61]) w λt62 w=>v (sliceAt 99 t1 (some t55) (some t62) none) w λt63 w=>∃ J2:NP 1,(v (et .eql 3 64 t8 (i64 0)) w λt65 w43=>aH t65 (v (b .quo t44 (i64 2)) w43 λt69 w=>v (Builtin.min_ #[3,3] 3 #[t44,t69]) w λt70 w=>v (sliceAt 99 t1 none (some t70) none) w λt71 w=>J2 t71 w) (J2 t63 w43)) /\
 ∀ t9 w,J2 t9 w->∀ _f:dT,aJ w λS12 w=>yf S12 46 t6 3 44 λt73=>yf S12 46 t6 3 44 λt77=>yi S12 44 t77 t8 74 λt80=>yf S12 46 t6 3 44 λt82=>yf S12 46 t6 2 43 λt84=>c 84 #[t9,t80,t82,t84] w λt85 w=>S12 w /\
 y S12 (indexAt 44 t73 t8) λt86=>y S12 (fieldAt 74 t86 3) λt87=>u (storeAt 71 t87 t85) w λ_ w=>v (b .add t8 (i64 1)) w λt48 w=>I1 t48 w/\μ1 t48 w < μ1 t8 w33) (v (loadAt 46 t6) w34 λt88 w=>u (storeAt 46 t4 t88) w λ_ w=>lv 46 t4 w λr1=> R r1 w)
theorem aOw (h:RQ t0 t1 w R):aB prog 38 #[t0,t1] w R:=dw [lo [8],l,jn [9],dr 0 16 65535 (tk (rg 0 12) (.only 13 (.take 14 (.take 15 (.last 16)))))] func38 h
def RO (t0:Z) (w:O) (R:Z->O->Prop):Prop:=
 Go.Vc.aY (t0) /\
 fl 134 t0 1 24 w λt6 w=>v (ln 24 3 t6) w λt7 w=>R t7 w
theorem aOv (h:RO t0 w R):aB prog 45 #[t0] w R:=dw [] func45 h
def RN (w:O) (R:Z->O->Prop):Prop:=
 v (build 125 #[]) w λt1 w=>v (box 125 t1) w λt2 w=>R t2 w
theorem aOu (h:RN w R):aB prog 46 #[] w R:=dw [] func46 h
def RM (t0 t1 t2 t3:Z) (w:O) (R:Z->O->Prop):Prop:=
 Go.Vc.aY (t0) /\
 fl 109 t0 0 26 w λt16 w=>c 88 #[t16,t1] w λt18 w=>x2 t18 w λt19 _ w=>st 46 t19 w λt8 w=>fl 46 t8 3 44 w λt22 w=>il 44 t22 t2 74 w λt25 w=>st 74 t25 w λt10 w=>aJ w λS2 w=>y S2 (loadAt 74 t10) λt28=>yf S2 74 t10 0 42 λt30=>y S2 (ln 42 3 t30) λt31=>yf S2 74 t10 2 42 λt33=>y S2 (ln 42 3 t33) λt34=>y S2 (b .add t31 t34) λt35=>v (makeSlice 37 t35 t35) w λt36 w=>S2 w /\
 y S2 (build 114 #[(0,t1),(1,t2),(3,t28),(4,t36)]) λt37=>v (box 114 t37) w λt38 w=>S2 w /\
 Go.Vc.aY (t38) /\
 fl 114 t38 4 37 w λt42 w=>v (Builtin.copy_ #[37,37] 3 #[t42,t3]) w λ_ w=>Go.Vc.aY (t0) /\
 fl 109 t0 2 107 w λt49 w=>v (buildSlice 107 1 #[(0,t38)]) w λt51 w=>v (Builtin.append_ #[107,107] 107 #[t49,t51]) w λt52 w=>Go.Vc.aY (t0) /\
 v (fieldAt 109 t0 2) w λt54 w=>u (storeAt 107 t54 t52) w λ_ w=>R (.tuple #[]) w
theorem aOt (h:RM t0 t1 t2 t3 w R):aB prog 47 #[t0,t1,t2,t3] w R:=dw [dr 0 14 16383 (tk (rg 0 9) (.only 10 (.take 11 (.only 12 (.take 13 .done)))))] func47 h
def RL (t0:Z) (w:O) (R:Z->O->Prop):Prop:=
 aJ w λS1 w=>Go.Vc.aY (t0) /\
 yf S1 109 t0 2 107 λt6=>Go.Vc.aY (t0) /\
 yf S1 109 t0 2 107 λt10=>y S1 (ln 107 3 t10) λt11=>y S1 (b .sub t11 (i64 1)) λt12=>yi S1 107 t6 t12 111 λt14=>R t14 w
theorem aOs (h:RL t0 w R):aB prog 48 #[t0] w R:=dw [dr 0 13 8191 (tk (rg 0 12) .done)] func48 h
def ED (t0:Z) (w:O) (R:Z->O->Prop):Prop:=
 v (et .eql 37 3 t0 cM) w λt4 w=>aH t4 (R cM w) (v (buildSlice 37 0 #[]) w λt5 w=>v (Builtin.append_ #[37,37] 37 #[t5,t0]) w λt7 w=>R t7 w)
theorem aAb (h:ED t0 w R):aB prog 49 #[t0] w R:=dw [] func49 h
def RK (t0 t1:Z) (w:O) (R:Z->O->Prop):Prop:=
 Go.Vc.aY (t0) /\
 v (fieldAt 109 t0 4) w λt7 w=>u (storeAt 3 t7 t1) w λ_ w=>Go.Vc.aY (t0) /\
 fl 109 t0 1 48 w λt11 w=>c 52 #[t11,(i64 5),t1,(i64 0),(i64 0)] w λ_ w=>R (.tuple #[]) w
theorem aOr (h:RK t0 t1 w R):aB prog 51 #[t0,t1] w R:=dw [] func51 h
def RJ (t0 t1 t2 t3 t4:Z) (w:O) (R:Z->O->Prop):Prop:=
 Go.Vc.aY (t0) /\
 fl 125 t0 0 50 w λt14 w=>v (ln 50 3 t14) w λt15 w=>v (b .geq t15 (i64 200000)) w λt16 w=>aH t16 (R (.bool false) w) (Go.Vc.aY (t0) /\
 fl 125 t0 0 50 w λt21 w=>v (build 54 #[(0,t1),(1,t2),(2,t3),(3,t4)]) w λt26 w=>v (buildSlice 50 1 #[(0,t26)]) w λt27 w=>v (Builtin.append_ #[50,50] 50 #[t21,t27]) w λt28 w=>Go.Vc.aY (t0) /\
 v (fieldAt 125 t0 0) w λt30 w=>u (storeAt 50 t30 t28) w λ_ w=>R (.bool true) w)
theorem aOq (h:RJ t0 t1 t2 t3 t4 w R):aB prog 52 #[t0,t1,t2,t3,t4] w R:=dw [] func52 h
def EC (t0 t1 t2:Z) (w:O) (R:Z->O->Prop):Prop:=
 v (box 70 t2) w λt5 w=>fl 70 t5 0 3 w λt12 w=>v (et .eql 3 12 t12 (i64 37)) w λt14 w4=>aH t14 (aJ w4 λS3 w=>Go.Vc.aY (t1) /\
 yf S3 114 t1 0 3 λt20=>yf S3 70 t5 1 3 λt22=>c 89 #[t0,t1,t20,t22] w λt23 w=>S3 w /\
 R t23 w) (v (et .eql 3 12 t12 (i64 38)) w4 λt25 w7=>aH t25 (aJ w7 λS5 w=>Go.Vc.aY (t0) /\
 yf S5 109 t0 0 26 λt30=>Go.Vc.aY (t1) /\
 yf S5 114 t1 0 3 λt34=>yf S5 70 t5 1 3 λt36=>c 90 #[t30,t34,t36] w λt37 w=>S5 w /\
 y S5 (extract t37 0) λt38=>y S5 (extract t37 1) λt39=>y S5 (extract t37 2) λt40=>v (Op.unary UnOp.not t40) w λt42 w10=>aH t42 (fl 70 t5 1 3 w10 λt47 w=>c 92 #[t0,t1,t47] w λt48 w=>v (field 180 t48 2) w λt49 w=>v (ln 42 3 t49) w λt50 w=>c 91 #[t1,t50] w λ_ w=>R (i64 28424) w) (c 89 #[t0,t1,t38,t39] w10 λt56 w=>R t56 w)) (v (et .eql 3 12 t12 (i64 39)) w7 λt58 w18=>aH t58 (c 93 #[t0,t1] w18 λ_ w=>R (i64 36864) w) (fl 70 t5 0 3 w18 λt63 w=>c 94 #[t63] w λt64 w=>v (b .geq t64 (i64 0)) w λt66 w23=>aH t66 (v (loadAt 70 t5) w23 λt69 w=>c 95 #[t0,t1,t69,t64] w λt71 w=>R t71 w) (v (loadAt 70 t5) w23 λt75 w=>c 96 #[t0,t1,t75] w λt76 w=>Go.Vc.aY (t1) /\
 v (fieldAt 114 t1 2) w λt78 w=>u (storeAt 3 t78 t76) w λ_ w=>R (i64 36864) w))))
theorem aOp (h:EC t0 t1 t2 w R):aB prog 53 #[t0,t1,t2] w R:=dw [dr 0 10 1023 (tk (rg 0 7) (.only 8 (.take 9 .done))),l,dr 0 18 262143 (tk (rg 0 9) (.only 10 (tk (rg 11 17) .done)))] func53 h
def EB (t0:Z) (w:O) (R:Z->O->Prop):Prop:=
 v (box 46 t0) w λt1 w=>fl 46 t1 0 9 w λt10 w=>c 109 #[t10] w λt11 w=>v (Op.unary UnOp.not t11) w λt12 w=>g t12 false (fieldAt 46 t1 1) w λt14 w=>g t12 false (loadAt 42 t14) w λt15 w=>gd t12 false (λK=> c 110 #[t15,(i64 8)] w K) w λt16 w=>g t12 false (Op.unary UnOp.not t16) w λt17 w=>aG t12 (.bool true) t17 λt18=>g t18 false (fieldAt 46 t1 2) w λt20 w=>g t18 false (loadAt 43 t20) w λt21 w=>g t18 false (ln 43 3 t21) w λt22 w=>g t18 false (b .gtr t22 (i64 4)) w λt23 w=>aG t18 (.bool true) t23 λt24=>g t24 false (fieldAt 46 t1 3) w λt26 w=>g t24 false (loadAt 44 t26) w λt27 w=>g t24 false (ln 44 3 t27) w λt28 w=>g t24 false (b .lss t28 (i64 1)) w λt29 w=>aG t24 (.bool true) t29 λt30=>g t30 false (fieldAt 46 t1 3) w λt32 w=>g t30 false (loadAt 44 t32) w λt33 w=>g t30 false (ln 44 3 t33) w λt34 w=>g t30 false (b .gtr t34 (i64 8)) w λt35 w=>aG t30 (.bool true) t35 λt36=>g t36 false (fieldAt 46 t1 4) w λt38 w=>g t36 false (loadAt 42 t38) w λt39 w=>g t36 false (ln 42 3 t39) w λt40 w=>g t36 false (b .gtr t40 (i64 4)) w λt41 w=>aG t36 (.bool true) t41 λt42=>aH t42 (R (.bool false) w) (∃ (I1:NP 1) (μ1:NF 1),I1 (i64 0) w /\
 ∀ t3 w31,I1 t3 w31->∀ _f:dT,fl 46 t1 2 43 w31 λt45 w=>v (ln 43 3 t45) w λt46 w=>v (b .lss t3 t46) w λt47 w35=>aH t47 (fl 46 t1 2 43 w35 λt51 w=>il 43 t51 t3 180 w λt54 w=>st 180 t54 w λt4 w=>fl 180 t4 0 9 w λt56 w=>c 109 #[t56] w λt57 w=>v (Op.unary UnOp.not t57) w λt58 w=>g t58 false (fieldAt 180 t4 1) w λt60 w=>g t58 false (loadAt 3 t60) w λt61 w=>g t58 false (b .lss t61 (i64 0)) w λt62 w=>aG t58 (.bool true) t62 λt63=>g t63 false (fieldAt 180 t4 1) w λt65 w=>g t63 false (loadAt 3 t65) w λt66 w=>g t63 false (b .geq t66 (i64 4)) w λt67 w=>aG t63 (.bool true) t67 λt68=>g t68 false (fieldAt 180 t4 2) w λt70 w=>g t68 false (loadAt 42 t70) w λt71 w=>gd t68 false (λK=> c 110 #[t71,(i64 4)] w K) w λt72 w=>g t68 false (Op.unary UnOp.not t72) w λt73 w=>aG t68 (.bool true) t73 λt74=>g t74 false (fieldAt 180 t4 3) w λt76 w=>g t74 false (loadAt 3 t76) w λt77 w=>g t74 false (b .lss t77 (i64 0)) w λt78 w=>aG t74 (.bool true) t78 λt79=>g t79 false (fieldAt 180 t4 3) w λt81 w=>g t79 false (loadAt 3 t81) w λt82 w=>g t79 false (b .gtr t82 (i64 4)) w λt83 w=>aG t79 (.bool true) t83 λt84=>aH t84 (R (.bool false) w) (v (b .add t3 (i64 1)) w λt49 w=>I1 t49 w/\μ1 t49 w < μ1 t3 w31)) (∃ (I2:NP 1) (μ2:NF 1),I2 (i64 0) w35 /\
 ∀ t5 w68,I2 t5 w68->∀ _f:dT,fl 46 t1 3 44 w68 λt87 w=>v (ln 44 3 t87) w λt88 w=>v (b .lss t5 t88) w λt89 w72=>aH t89 (fl 46 t1 3 44 w72 λt93 w=>il 44 t93 t5 74 w λt96 w=>st 74 t96 w λt6 w=>fl 74 t6 0 42 w λt98 w=>c 110 #[t98,(i64 4)] w λt99 w=>v (Op.unary UnOp.not t99) w λt100 w=>g t100 false (fieldAt 74 t6 1) w λt102 w=>g t100 false (loadAt 3 t102) w λt103 w=>g t100 false (b .lss t103 (i64 0)) w λt104 w=>aG t100 (.bool true) t104 λt105=>g t105 false (fieldAt 74 t6 1) w λt107 w=>g t105 false (loadAt 3 t107) w λt108 w=>g t105 false (b .gtr t108 (i64 4)) w λt109 w=>aG t105 (.bool true) t109 λt110=>g t110 false (fieldAt 74 t6 2) w λt112 w=>g t110 false (loadAt 42 t112) w λt113 w=>g t110 false (fieldAt 74 t6 0) w λt114 w=>g t110 false (loadAt 42 t114) w λt115 w=>g t110 false (ln 42 3 t115) w λt116 w=>g t110 false (b .sub (i64 10) t116) w λt117 w=>gd t110 false (λK=> c 110 #[t113,t117] w K) w λt118 w=>g t110 false (Op.unary UnOp.not t118) w λt119 w=>aG t110 (.bool true) t119 λt120=>g t120 false (fieldAt 74 t6 3) w λt122 w=>g t120 false (loadAt 71 t122) w λt123 w=>g t120 false (ln 71 3 t123) w λt124 w=>g t120 false (b .lss t124 (i64 1)) w λt125 w=>aG t120 (.bool true) t125 λt126=>g t126 false (fieldAt 74 t6 3) w λt128 w=>g t126 false (loadAt 71 t128) w λt129 w=>g t126 false (ln 71 3 t129) w λt130 w=>g t126 false (b .gtr t130 (i64 120)) w λt131 w=>aG t126 (.bool true) t131 λt132=>aH t132 (R (.bool false) w) (∃ (I3:NP 1) (μ3:NF 1),I3 (i64 0) w /\
 ∀ t7 w110,I3 t7 w110->∀ _f:dT,fl 74 t6 3 71 w110 λt135 w=>v (ln 71 3 t135) w λt136 w=>v (b .lss t7 t136) w λt137 w114=>aH t137 (fl 74 t6 3 71 w114 λt141 w=>il 71 t141 t7 70 w λt144 w=>c 111 #[t144] w λt145 w=>v (Op.unary UnOp.not t145) w λt146 w=>aH t146 (R (.bool false) w) (v (b .add t7 (i64 1)) w λt139 w=>I3 t139 w/\μ3 t139 w < μ3 t7 w110)) (v (b .add t5 (i64 1)) w114 λt91 w=>I2 t91 w/\μ2 t91 w < μ2 t5 w68))) (∃ (I4:NP 1) (μ4:NF 1),I4 (i64 0) w72 /\
 ∀ t8 w123,I4 t8 w123->∀ _f:dT,fl 46 t1 4 42 w123 λt149 w=>v (ln 42 3 t149) w λt150 w=>v (b .lss t8 t150) w λt151 w127=>aH t151 (aJ w127 λS23 w=>yf S23 46 t1 4 42 λt155=>yi S23 42 t155 t8 3 λt158=>y S23 (b .lss t158 (i64 0)) λt159=>gy t159 false S23 (fieldAt 46 t1 4) λt161=>gy t159 false S23 (loadAt 42 t161) λt162=>gx t159 false t8 λt163=>gy t159 false S23 (indexAt 42 t162 t163) λt164=>gy t159 false S23 (loadAt 3 t164) λt165=>gy t159 false S23 (fieldAt 46 t1 3) λt166=>gy t159 false S23 (loadAt 44 t166) λt167=>gy t159 false S23 (ln 44 3 t167) λt168=>gy t159 false S23 (b .geq t165 t168) λt169=>aG t159 (.bool true) t169 λt170=>aH t170 (R (.bool false) w) (v (b .add t8 (i64 1)) w λt153 w=>I4 t153 w/\μ4 t153 w < μ4 t8 w123)) (fl 46 t1 3 44 w127 λt172 w=>jl 44 t172 (i64 0) 74 0 42 w λt175 w=>v (ln 42 3 t175) w λt176 w=>v (et .eql 3 176 t176 (i64 0)) w λt177 w=>g t177 true (fieldAt 46 t1 3) w λt179 w=>g t177 true (loadAt 44 t179) w λt180 w=>g t177 true (indexAt 44 t180 (i64 0)) w λt181 w=>g t177 true (fieldAt 74 t181 1) w λt182 w=>g t177 true (loadAt 3 t182) w λt183 w=>g t177 true (et .eql 3 183 t183 (i64 0)) w λt184 w=>aG t177 t184 (.bool false) λt185=>R t185 w))))
theorem aOo (h:EB t0 w R):aB prog 71 #[t0] w R:=dw [l,lo [3],l,l,l,lo [5],l,l,lo [7],l,l,l,l,lo [8],l,dr 0 17 131071 (tk (rg 0 16) .done)] func71 h
def RI (t0 t1:Z) (w:O) (R:Z->O->Prop):Prop:=
 v (box 46 t0) w λt2 w=>fl 46 t2 3 44 w λt22 w=>il 44 t22 t1 74 w λt25 w=>st 74 t25 w λt8 w=>∃ (I1:NP 1) (μ1:NF 1),I1 (i64 0) w /\
 ∀ t9 w8,I1 t9 w8->∀ _f:dT,fl 74 t8 3 71 w8 λt28 w=>v (ln 71 3 t28) w λt29 w=>v (b .lss t9 t29) w λt30 w12=>aH t30 (aJ w12 λS5 w=>y S5 (loadAt 46 t2) λt33=>y S5 (loadAt 74 t8) λt34=>yf S5 74 t8 3 71 λt36=>yi S5 71 t36 t9 70 λt39=>c 112 #[t33,t34,t39] w λt40 w=>S5 w /\
 y S5 (Op.unary UnOp.not t40) λt41=>aH t41 (R (.tuple #[cM,cM,t9,(i64 9)]) w) (v (b .add t9 (i64 1)) w λt32 w=>I1 t32 w/\μ1 t32 w < μ1 t9 w8)) (fl 74 t8 3 71 w12 λt44 w=>v (ln 71 3 t44) w λt45 w=>v (makeSlice 116 t45 t45) w λt46 w=>fl 74 t8 3 71 w λt48 w=>v (ln 71 3 t48) w λt49 w=>v (makeSlice 117 t49 t49) w λt50 w=>fl 74 t8 3 71 w λt52 w=>v (ln 71 3 t52) w λt53 w=>v (makeSlice 117 t53 t53) w λt54 w=>v (indexAt 117 t50 (i64 0)) w λt56 w=>u (storeAt 4 t56 (.bool true)) w λ_ w=>v (indexAt 117 t54 (i64 0)) w λt58 w=>u (storeAt 4 t58 (.bool true)) w λ_ w=>∃ (I2:NP 0) (μ2:NF 0),I2 w /\
 ∀ w32:O,I2 w32->∀ _f:dT,∃ (I3:NP 1) (μ3:NF 1),I3 (i64 0) w32 /\
 ∀ t13 w33,I3 t13 w33->∀ _f:dT,v (ln 117 3 t54) w33 λt61 w=>v (b .lss t13 t61) w λt62 w=>gk t62 true t54 w λt64 w=>gk t62 true t13 w λt65 w=>g t62 true (indexAt 117 t64 t65) w λt66 w=>g t62 true (loadAt 4 t66) w λt67 w=>g t62 true (Op.unary UnOp.not t67) w λt68 w40=>aG t62 t68 (.bool false) λt69=>aH t69 (v (b .add t13 (i64 1)) w40 λt71 w=>I3 t71 w/\μ3 t71 w < μ3 t13 w33) (v (ln 117 3 t54) w40 λt74 w=>v (e .eql 3 (.tmp 72) (.tmp 74) t13 t74) w λt75 w=>aH t75 (R (.tuple #[t46,t50,(i64 0),(i64 0)]) w) (v (indexAt 117 t54 t13) w λt80 w=>u (storeAt 4 t80 (.bool false)) w λ_ w=>aJ w λS18 w=>y S18 (loadAt 46 t2) λt82=>y S18 (loadAt 74 t8) λt83=>yf S18 74 t8 3 71 λt85=>yi S18 71 t85 t13 70 λt88=>yi S18 116 t46 t13 42 λt92=>c 113 #[t82,t83,t88,t92] w λt93 w=>S18 w /\
 y S18 (extract t93 0) λt94=>y S18 (extract t93 1) λt95=>v (et .neq 34 96 t95 (i64 0)) w λt97 w=>aH t97 (R (.tuple #[cM,cM,t13,t95]) w) (fl 74 t8 3 71 w λt101 w=>il 71 t101 t13 70 w λt104 w=>c 114 #[t104,t13] w λt106 w=>∃ (I4:NP 1) (μ4:NF 1),I4 (i64 0) w /\
 ∀ t17 w55,I4 t17 w55->∀ _f:dT,v (ln 42 3 t106) w55 λt109 w=>v (b .lss t17 t109) w λt110 w57=>aH t110 (il 42 t106 t17 3 w57 λt116 w=>fl 74 t8 3 71 w λt119 w=>v (ln 71 3 t119) w λt120 w=>v (b .geq t116 t120) w λt121 w=>aH t121 (R (.tuple #[cM,cM,t13,(i64 13)]) w) (il 117 t50 t116 4 w λt126 w=>v (Op.unary UnOp.not t126) w λt127 w66=>aH t127 (v (indexAt 116 t46 t116) w66 λt131 w=>u (storeAt 42 t131 t94) w λ_ w=>v (indexAt 117 t50 t116) w λt134 w=>u (storeAt 4 t134 (.bool true)) w λ_ w=>v (indexAt 117 t54 t116) w λt137 w=>u (storeAt 4 t137 (.bool true)) w λ_ w=>v (b .add t17 (i64 1)) w λt112 w=>I4 t112 w/\μ4 t112 w < μ4 t17 w55) (il 116 t46 t116 42 w66 λt142 w=>c 115 #[t142,t94] w λt144 w=>x2 t144 w λt145 t146 w=>v (Op.unary UnOp.not t146) w λt148 w=>aH t148 (R (.tuple #[cM,cM,t13,(i64 14)]) w) (il 116 t46 t116 42 w λt154 w=>c 116 #[t145,t154] w λt155 w=>v (Op.unary UnOp.not t155) w λt156 w83=>aH t156 (v (indexAt 116 t46 t116) w83 λt160 w=>u (storeAt 42 t160 t145) w λ_ w=>v (indexAt 117 t54 t116) w λt163 w=>u (storeAt 4 t163 (.bool true)) w λ_ w=>v (b .add t17 (i64 1)) w λt112_1 w=>I4 t112_1 w/\μ4 t112_1 w < μ4 t17 w55) (v (b .add t17 (i64 1)) w83 λt112_2 w=>I4 t112_2 w/\μ4 t112_2 w < μ4 t17 w55))))) (I2 w57/\μ2 w57 < μ2 w32)))))
theorem aOn (h:RI t0 t1 w R):aB prog 72 #[t0,t1] w R:=dw [lo [9],l,dr 0 9 511 (tk (rg 0 6) (.only 7 (.take 8 .done))),l,l,l,lo [],lo [13],l,l,l,dr 0 17 131071 (tk (rg 0 10) (.only 11 (tk (rg 12 16) .done))),l,l,lo [17]] func72 h
def RH (t0:Z) (w:O) (R:Z->O->Prop):Prop:=
 v (b .lss t0 (i64 64)) w λt5 w=>gk t5 false t0 w λt7 w=>g t5 false (b .gtr t7 (i64 4096)) w λt8 w=>aG t5 (.bool true) t8 λt9=>aH t9 (R (.tuple #[(Value.pointer none),(i64 1)]) w) (v (build 127 #[(0,(i64 (-1))),(1,(i64 3))]) w λt11 w=>v (build 127 #[(0,(i64 (-1))),(1,(i64 4))]) w λt12 w=>v (buildSlice 154 2 #[(0,t11),(1,t12)]) w λt13 w=>v (build 193 #[(0,t0),(1,t13)]) w λt14 w=>v (box 193 t14) w λt15 w=>R (.tuple #[t15,(i64 0)]) w)
theorem aOm (h:RH t0 w R):aB prog 73 #[t0] w R:=dw [] func73 h
def RG (t0 t1:Z) (w:O) (R:Z->O->Prop):Prop:=
 v (box 46 t0) w λt2 w=>v (loadAt 46 t2) w λt7 w=>c 117 #[t7,t1] w λt9 w=>v (et .eql 217 10 t9 (Value.pointer none)) w λt11 w=>aH t11 (R (.tuple #[cM,(.bool false)]) w) (Go.Vc.aY (t9) /\
 fl 220 t9 3 116 w λt15 w=>R (.tuple #[t15,(.bool true)]) w)
theorem aOl (h:RG t0 t1 w R):aB prog 74 #[t0,t1] w R:=dw [] func74 h
def RF (t0:Z) (w:O) (R:Z->O->Prop):Prop:=
 v (box 74 t0) w λt1 w=>fl 74 t1 3 71 w λt8 w=>v (ln 71 3 t8) w λt9 w=>v (makeSlice 117 t9 t9) w λt10 w=>v (buildSlice 42 1 #[(0,(i64 0))]) w λt11 w=>∃ (I1:NP 1) (μ1:NF 1),I1 t11 w /\
 ∀ t4 w7,I1 t4 w7->∀ _f:dT,v (ln 42 3 t4) w7 λt13 w=>v (b .gtr t13 (i64 0)) w λt14 w9=>aH t14 (v (ln 42 3 t4) w9 λt17 w=>v (b .sub t17 (i64 1)) w λt18 w=>il 42 t4 t18 3 w λt20 w=>v (ln 42 3 t4) w λt23 w=>v (b .sub t23 (i64 1)) w λt24 w=>v (sliceAt 42 t4 none (some t24) none) w λt25 w=>il 117 t10 t20 4 w λt29 w=>aH t29 (I1 t25 w/\μ1 t25 w < μ1 t4 w7) (v (indexAt 117 t10 t20) w λt32 w=>u (storeAt 4 t32 (.bool true)) w λ_ w=>fl 74 t1 3 71 w λt34 w=>il 71 t34 t20 70 w λt37 w=>st 70 t37 w λt6 w=>∃ J2:NP 1,(fl 70 t6 0 3 w λt39 w=>v (et .eql 3 39 t39 (i64 23)) w λt40 w=>g t40 false (fieldAt 70 t6 0) w λt42 w=>g t40 false (loadAt 3 t42) w λt43 w=>g t40 false (et .eql 3 43 t43 (i64 24)) w λt44 w32=>aG t40 (.bool true) t44 λt45=>aH t45 (fl 70 t6 1 3 w32 λt48 w=>v (buildSlice 42 1 #[(0,t48)]) w λt49 w=>v (Builtin.append_ #[42,42] 42 #[t25,t49]) w λt50 w=>J2 t50 w) (J2 t25 w32)) /\
 ∀ t4_1 w,J2 t4_1 w->∀ _f:dT,fl 70 t6 0 3 w λt52 w=>v (et .neq 3 52 t52 (i64 23)) w λt53 w=>g t53 true (fieldAt 70 t6 0) w λt55 w=>g t53 true (loadAt 3 t55) w λt56 w=>g t53 true (et .neq 3 56 t56 (i64 39)) w λt57 w44=>aG t53 t57 (.bool false) λt58=>aH t58 (v (b .add t20 (i64 1)) w44 λt61 w=>v (buildSlice 42 1 #[(0,t61)]) w λt62 w=>v (Builtin.append_ #[42,42] 42 #[t4_1,t62]) w λt63 w=>I1 t63 w/\μ1 t63 w < μ1 t4 w7) (I1 t4_1 w44/\μ1 t4_1 w44 < μ1 t4 w7))) (R t10 w9)
theorem aOj (h:RF t0 w R):aB prog 75 #[t0] w R:=dw [lo [4],l,l,jn [4]] func75 h
def RE (t0 t1 t2 t3:Z) (w:O) (R:Z->O->Prop):Prop:=
 v (box 46 t0) w λt4 w=>v (box 74 t1) w λt5 w=>v (box 70 t2) w λt6 w=>fl 70 t6 0 3 w λt13 w=>v (et .eql 3 13 t13 (i64 1)) w λt15 w6=>aH t15 (aJ w6 λS3 w=>yf S3 70 t6 1 3 λt19=>y S3 (convert 3 21 t19) λt20=>c 118 #[t3] w λt17 w=>S3 w /\
 y S3 (build 161 #[(0,t17),(1,t20)]) λt21=>y S3 (makeInterface 161 t21) λt22=>R t22 w) (v (et .eql 3 13 t13 (i64 2)) w6 λt24 w9=>aH t24 (aJ w9 λS5 w=>yf S5 70 t6 1 3 λt28=>c 118 #[t3] w λt26 w=>S5 w /\
 y S5 (build 222 #[(0,t26),(1,t28)]) λt29=>y S5 (makeInterface 222 t29) λt30=>R t30 w) (v (et .eql 3 13 t13 (i64 3)) w9 λt32 w12=>aH t32 (aJ w12 λS7 w=>yf S7 70 t6 1 3 λt34=>y S7 (b .sub t3 (i64 1)) λt36=>c 118 #[t36] w λt37 w=>S7 w /\
 y S7 (build 222 #[(0,t34),(1,t37)]) λt38=>y S7 (makeInterface 222 t38) λt39=>R t39 w) (v (et .eql 3 13 t13 (i64 4)) w12 λt41 w=>aH t41 (R Value.nilIface w) (v (et .eql 3 13 t13 (i64 5)) w λt43 w16=>aH t43 (c 118 #[t3] w16 λt45 w=>v (b .sub t3 (i64 1)) w λt47 w=>c 118 #[t47] w λt48 w=>v (build 222 #[(0,t45),(1,t48)]) w λt49 w=>v (makeInterface 222 t49) w λt50 w=>R t50 w) (∃ J1:NP 1,(v (et .eql 3 13 t13 (i64 15)) w16 λt52 w=>aH t52 (J1 t52 w) (v (et .eql 3 13 t13 (i64 16)) w λt53 w=>aH t53 (J1 t53 w) (v (et .eql 3 13 t13 (i64 26)) w λt54 w=>J1 t54 w))) /\
 ∀ t51 w25,J1 t51 w25->∀ _f:dT,aH t51 (aJ w25 λS15 w=>yf S15 70 t6 0 3 λt56=>y S15 (b .sub t3 (i64 1)) λt58=>y S15 (b .sub t3 (i64 1)) λt61=>c 118 #[t58] w λt59 w=>S15 w /\
 c 118 #[t61] w λt62 w=>S15 w /\
 y S15 (build 224 #[(0,t56),(1,t59),(2,t62)]) λt63=>y S15 (makeInterface 224 t63) λt64=>R t64 w) (v (et .eql 3 13 t13 (i64 22)) w25 λt66 w29=>aH t66 (v (b .sub t3 (i64 3)) w29 λt68 w=>c 118 #[t68] w λt69 w=>v (b .sub t3 (i64 3)) w λt71 w=>c 118 #[t71] w λt72 w=>v (b .sub t3 (i64 2)) w λt74 w=>c 118 #[t74] w λt75 w=>v (b .sub t3 (i64 1)) w λt77 w=>c 118 #[t77] w λt78 w=>v (build 226 #[(0,t69),(1,t72),(2,t75),(3,t78)]) w λt79 w=>v (makeInterface 226 t79) w λt80 w=>R t80 w) (v (et .eql 3 13 t13 (i64 23)) w29 λt82 w40=>aH t82 (fl 70 t6 1 3 w40 λt84 w=>v (build 228 #[(0,t84)]) w λt85 w=>v (makeInterface 228 t85) w λt86 w=>R t86 w) (v (et .eql 3 13 t13 (i64 24)) w40 λt88 w45=>aH t88 (aJ w45 λS21 w=>y S21 (b .sub t3 (i64 1)) λt90=>yf S21 70 t6 1 3 λt93=>c 118 #[t90] w λt91 w=>S21 w /\
 y S21 (build 230 #[(0,t91),(1,t93)]) λt94=>y S21 (makeInterface 230 t94) λt95=>R t95 w) (v (et .eql 3 13 t13 (i64 25)) w45 λt97 w48=>aH t97 (c 118 #[t3] w48 λt99 w=>v (build 161 #[(0,t99)]) w λt100 w=>v (makeInterface 161 t100) w λt101 w=>R t101 w) (v (et .eql 3 13 t13 (i64 35)) w48 λt103 w52=>aH t103 (aJ w52 λS25 w=>yf S25 70 t6 1 3 λt107=>y S25 (convert 3 21 t107) λt108=>c 118 #[t3] w λt105 w=>S25 w /\
 y S25 (build 161 #[(0,t105),(1,t108)]) λt109=>y S25 (makeInterface 161 t109) λt110=>R t110 w) (v (et .eql 3 13 t13 (i64 33)) w52 λt112 w55=>aH t112 (aJ w55 λS27 w=>yf S27 70 t6 1 3 λt116=>c 118 #[t3] w λt114 w=>S27 w /\
 y S27 (build 232 #[(0,t114),(1,t116)]) λt117=>y S27 (makeInterface 232 t117) λt118=>R t118 w) (v (et .eql 3 13 t13 (i64 34)) w55 λt120 w58=>aH t120 (aJ w58 λS29 w=>yf S29 70 t6 1 3 λt122=>y S29 (b .sub t3 (i64 1)) λt124=>c 118 #[t124] w λt125 w=>S29 w /\
 y S29 (build 91 #[(0,t122),(1,t125)]) λt126=>y S29 (makeInterface 91 t126) λt127=>R t127 w) (v (et .eql 3 13 t13 (i64 37)) w58 λt129 w61=>aH t129 (fl 46 t4 3 44 w61 λt131 w=>fl 70 t6 1 3 w λt133 w=>il 44 t131 t133 74 w λt135 w=>st 74 t135 w λt9 w=>aJ w λS32 w=>yf S32 70 t6 1 3 λt137=>yf S32 74 t9 1 3 λt139=>yf S32 74 t9 0 42 λt142=>y S32 (ln 42 3 t142) λt143=>y S32 (b .sub t3 t143) λt144=>yf S32 74 t9 0 42 λt148=>y S32 (ln 42 3 t148) λt149=>c 119 #[t139,t144] w λt145 w=>S32 w /\
 c 120 #[t3,t149] w λt150 w=>S32 w /\
 y S32 (build 235 #[(0,t137),(1,t145),(2,t150)]) λt151=>y S32 (makeInterface 235 t151) λt152=>R t152 w) (v (et .eql 3 13 t13 (i64 38)) w61 λt154 w73=>aH t154 (fl 46 t4 2 43 w73 λt156 w=>fl 70 t6 1 3 w λt158 w=>il 43 t156 t158 180 w λt160 w=>st 180 t160 w λt10 w=>aJ w λS35 w=>yf S35 70 t6 1 3 λt162=>yf S35 180 t10 3 3 λt164=>yf S35 180 t10 2 42 λt167=>y S35 (ln 42 3 t167) λt168=>y S35 (b .sub t3 t168) λt169=>yf S35 180 t10 2 42 λt173=>y S35 (ln 42 3 t173) λt174=>c 119 #[t164,t169] w λt170 w=>S35 w /\
 c 120 #[t3,t174] w λt175 w=>S35 w /\
 y S35 (build 237 #[(0,t162),(1,t170),(2,t175)]) λt176=>y S35 (makeInterface 237 t176) λt177=>R t177 w) (v (et .eql 3 13 t13 (i64 39)) w73 λt179 w85=>aH t179 (fl 74 t5 1 3 w85 λt181 w=>v (b .sub t3 (i64 1)) w λt183 w=>c 119 #[t181,t183] w λt184 w=>v (build 239 #[(0,t184)]) w λt185 w=>v (makeInterface 239 t185) w λt186 w=>R t186 w) (v (loadAt 70 t6) w85 λt187 w=>c 121 #[t187,t3] w λt189 w=>v (et .neq 94 190 t189 Value.nilIface) w λt191 w=>aH t191 (R t189 w) (aJ w λS41 w=>yf S41 70 t6 0 3 λt194=>y S41 (b .sub t3 (i64 2)) λt196=>y S41 (b .sub t3 (i64 2)) λt199=>y S41 (b .sub t3 (i64 1)) λt202=>c 118 #[t196] w λt197 w=>S41 w /\
 c 118 #[t199] w λt200 w=>S41 w /\
 c 118 #[t202] w λt203 w=>S41 w /\
 y S41 (build 242 #[(0,t194),(1,t197),(2,t200),(3,t203)]) λt204=>y S41 (makeInterface 242 t204) λt205=>R t205 w)))))))))))))))))
theorem aOi (h:RE t0 t1 t2 t3 w R):aB prog 76 #[t0,t1,t2,t3] w R:=dw [dr 0 8 255 (tk [0,2,3,4] (.only 1 (tk [5,6,7] .done))),l,dr 0 7 127 (tk [0,2,3] (.only 1 (tk [4,5,6] .done))),l,dr 0 8 255 (tk (rg 0 3) (.only 4 (tk [5,6,7] .done))),l,jn [51],dr 0 11 2047 (tk (rg 0 3++[5,6]) (.only 4 (.only 7 (tk [8,9,10] .done)))),l,dr 0 8 255 (tk [0,1,3,4] (.only 2 (tk [5,6,7] .done))),l,dr 0 8 255 (tk [0,2,3,4] (.only 1 (tk [5,6,7] .done))),l,dr 0 7 127 (tk [0,2,3] (.only 1 (tk [4,5,6] .done))),l,dr 0 8 255 (tk (rg 0 3) (.only 4 (tk [5,6,7] .done))),l,dr 0 18 262143 (tk (rg 0 8++rg 10 13) (.only 9 (.only 14 (tk [15,16,17] .done)))),l,dr 0 18 262143 (tk (rg 0 8++rg 10 13) (.only 9 (.only 14 (tk [15,16,17] .done)))),l,l,l,dr 0 14 16383 (tk (rg 0 3++[5,6,8,9]) (.only 4 (.only 7 (.only 10 (tk [11,12,13] .done)))))] func76 h
def tX (t0 t1:Z) (w:O) (R:Z->O->Prop):Prop:=
 v (typeAssert t0 94 228 true) w λt8 w=>v (extract t8 1) w λt9 w=>v (extract t8 0) w λt10 w3=>aH t9 (st 228 t10 w3 λt5 w=>fl 228 t5 0 3 w λt13 w=>il 42 t1 t13 3 w λt15 w=>v (fieldAt 228 t5 0) w λt16 w=>u (storeAt 3 t16 t15) w λ_ w=>v (loadAt 228 t5) w λt17 w=>v (makeInterface 228 t17) w λt18 w=>R t18 w) (v (typeAssert t0 94 230 true) w3 λt19 w=>v (extract t19 1) w λt20 w=>v (extract t19 0) w λt21 w16=>aH t20 (st 230 t21 w16 λt6 w=>fl 230 t6 1 3 w λt24 w=>il 42 t1 t24 3 w λt26 w=>v (fieldAt 230 t6 1) w λt27 w=>u (storeAt 3 t27 t26) w λ_ w=>v (loadAt 230 t6) w λt28 w=>v (makeInterface 230 t28) w λt29 w=>R t29 w) (R t0 w16))
theorem aOh (h:tX t0 t1 w R):aB prog 77 #[t0,t1] w R:=dw [] func77 h
def EA (t0:Z) (w:O) (R:Z->O->Prop):Prop:=
 v (box 46 t0) w λt1 w=>v (al 46) w λt2 w=>aJ w λS1 w=>yf S1 46 t1 1 42 λt7=>yf S1 46 t1 4 42 λt10=>c 122 #[t7] w λt8 w=>S1 w /\
 y S1 (fieldAt 46 t1 1) λt12=>c 122 #[t10] w λt11 w=>S1 w /\
 u (storeAt 42 t12 t8) w λ_ w=>XB w λS1_7=>y S1_7 (fieldAt 46 t1 4) λt13=>u (storeAt 42 t13 t11) w λ_ w=>aJ w λS2 w=>yf S2 46 t1 2 43 λt15=>yf S2 46 t1 3 44 λt18=>c 123 #[t15] w λt16 w=>S2 w /\
 y S2 (fieldAt 46 t1 2) λt20=>c 124 #[t18] w λt19 w=>S2 w /\
 u (storeAt 43 t20 t16) w λ_ w=>XB w λS2_13=>y S2_13 (fieldAt 46 t1 3) λt21=>u (storeAt 44 t21 t19) w λ_ w=>fl 46 t1 2 43 w λt23 w=>v (ln 43 3 t23) w λt24 w=>∃ (I1:NP 1) (μ1:NF 1),I1 (i64 0) w /\
 ∀ t25 w18,I1 t25 w18->∀ _f:dT,v (b .lss t25 t24) w18 λt26 w19=>aH t26 (aJ w19 λS6 w=>yf S6 46 t1 2 43 λt29=>yf S6 46 t1 2 43 λt32=>y S6 (indexAt 43 t32 t25) λt34=>yf S6 180 t34 2 42 λt36=>c 122 #[t36] w λt37 w=>S6 w /\
 y S6 (indexAt 43 t29 t25) λt38=>y S6 (fieldAt 180 t38 2) λt39=>u (storeAt 42 t39 t37) w λ_ w=>v (b .add t25 (i64 1)) w λt40 w=>I1 t40 w/\μ1 t40 w < μ1 t25 w18) (fl 46 t1 3 44 w19 λt42 w=>v (ln 44 3 t42) w λt43 w=>∃ (I2:NP 1) (μ2:NF 1),I2 (i64 0) w /\
 ∀ t44 w27,I2 t44 w27->∀ _f:dT,v (b .lss t44 t43) w27 λt45 w28=>aH t45 (fl 46 t1 3 44 w28 λt48 w=>v (indexAt 44 t48 t44) w λt50 w=>aJ w λS12 w=>Go.Vc.aY (t50) /\
 yf S12 74 t50 0 42 λt57=>Go.Vc.aY (t50) /\
 yf S12 74 t50 2 42 λt62=>Go.Vc.aY (t50) /\
 yf S12 74 t50 3 71 λt67=>c 122 #[t57] w λt58 w=>S12 w /\
 c 122 #[t62] w λt63 w=>S12 w /\
 c 125 #[t67] w λt68 w=>S12 w /\
 Go.Vc.aY (t50) /\
 y S12 (fieldAt 74 t50 0) λt70=>u (storeAt 42 t70 t58) w λ_ w=>XB w λS12_37=>Go.Vc.aY (t50) /\
 y S12_37 (fieldAt 74 t50 2) λt72=>u (storeAt 42 t72 t63) w λ_ w=>XB w λS12_39=>Go.Vc.aY (t50) /\
 y S12_39 (fieldAt 74 t50 3) λt74=>u (storeAt 71 t74 t68) w λ_ w=>v (b .add t44 (i64 1)) w λt75 w=>I2 t75 w/\μ2 t75 w < μ2 t44 w27) (v (loadAt 46 t1) w28 λt76 w=>u (storeAt 46 t2 t76) w λ_ w=>lv 46 t2 w λr1=> R r1 w))
theorem aOg (h:EA t0 w R):aB prog 78 #[t0] w R:=dw [dr 0 7 127 (tk [0,1,3,4] (.only 2 (.take 6 (.only 5 (.cut 7 9 511 (.take 8 (.last 9))))))),l,dr 0 7 127 (tk [0,1,3,4] (.only 2 (.take 6 (.only 5 (.cut 7 9 511 (.take 8 (.last 9))))))),l,lo [25],l,dr 36 12 4095 (tk (rg 0 8) (.only 9 (.take 10 (.take 11 (.last 12))))),l,l,lo [44],l,dr 8463 20 1048575 (tk (rg 0 6++rg 8 11++rg 13 16) (.only 7 (.only 12 (.only 17 (.take 18 (.take 19 (.cut 20 23 8388607 (.take 21 (.take 22 (.cut 23 26 67108863 (.take 24 (.take 25 (.last 26)))))))))))))] func78 h
def RD (t0:Z) (w:O) (R:Z->O->Prop):Prop:=
 v (box 83 t0) w λt1 w=>fl 83 t1 2 81 w λt6 w=>v (ln 81 3 t6) w λt7 w=>v (b .lss t7 (i64 1)) w λt8 w=>g t8 false (fieldAt 83 t1 2) w λt10 w=>g t8 false (loadAt 81 t10) w λt11 w=>g t8 false (ln 81 3 t11) w λt12 w=>g t8 false (b .gtr t12 (i64 250)) w λt13 w=>aG t8 (.bool true) t13 λt14=>g t14 false (fieldAt 83 t1 1) w λt16 w=>g t14 false (loadAt 3 t16) w λt17 w=>gd t14 false (λK=> c 80 #[t17,(i64 41)] w K) w λt18 w=>g t14 false (Op.unary UnOp.not t18) w λt19 w=>aG t14 (.bool true) t19 λt20=>g t20 false (fieldAt 83 t1 0) w λt22 w=>g t20 false (loadAt 3 t22) w λt23 w=>gd t20 false (λK=> c 80 #[t23,(i64 5)] w K) w λt24 w=>g t20 false (Op.unary UnOp.not t24) w λt25 w=>aG t20 (.bool true) t25 λt26=>g t26 false (fieldAt 83 t1 0) w λt28 w=>g t26 false (loadAt 3 t28) w λt29 w=>g t26 false (fieldAt 83 t1 1) w λt30 w=>g t26 false (loadAt 3 t30) w λt31 w=>g t26 false (b .gtr t29 t31) w λt32 w=>aG t26 (.bool true) t32 λt33=>aH t33 (R (.bool false) w) (fl 83 t1 2 81 w λt35 w=>v (ln 81 3 t35) w λt36 w=>∃ (I1:NP 1) (μ1:NF 1),I1 (i64 0) w /\
 ∀ t37 w30,I1 t37 w30->∀ _f:dT,v (b .lss t37 t36) w30 λt38 w31=>aH t38 (il 81 t35 t37 94 w31 λt41 w=>v (loadAt 83 t1) w λt42 w=>c 126 #[t42,t41,t37] w λt45 w=>v (Op.unary UnOp.not t45) w λt46 w=>aH t46 (R (.bool false) w) (v (b .add t37 (i64 1)) w λt47 w=>I1 t47 w/\μ1 t47 w < μ1 t37 w30)) (R (.bool true) w31))
theorem aOf (h:RD t0 w R):aB prog 79 #[t0] w R:=dw [l,lo [37]] func79 h
def RC (t0 t1:Z) (w:O) (R:Z->O->Prop):Prop:=
 v (b .geq t0 (i64 0)) w λt6 w=>gk t6 true t0 w λt8 w=>gk t6 true t1 w λt9 w=>g t6 true (b .lss t8 t9) w λt10 w=>aG t6 t10 (.bool false) λt11=>R t11 w
theorem aOe (h:RC t0 t1 w R):aB prog 80 #[t0,t1] w R:=dw [] func80 h
def RB (t0:Z) (w:O) (R:Z->O->Prop):Prop:=
 v (typeAssert t0 94 161 true) w λt4 w=>v (extract t4 1) w λt5 w=>v (extract t4 0) w λ_ w=>v (typeAssert t0 94 222 true) w λt7 w=>v (extract t7 1) w λt8 w=>v (extract t7 0) w λ_ w=>v (typeAssert t0 94 242 true) w λt10 w=>v (extract t10 1) w λt11 w=>v (extract t10 0) w λ_ w=>v (typeAssert t0 94 224 true) w λt13 w=>v (extract t13 1) w λt14 w=>v (extract t13 0) w λ_ w=>v (typeAssert t0 94 226 true) w λt16 w=>v (extract t16 1) w λt17 w=>v (extract t16 0) w λ_ w=>v (typeAssert t0 94 164 true) w λt19 w=>v (extract t19 1) w λt20 w=>v (extract t19 0) w λ_ w=>v (typeAssert t0 94 228 true) w λt22 w=>v (extract t22 1) w λt23 w=>v (extract t22 0) w λ_ w=>v (typeAssert t0 94 230 true) w λt25 w=>v (extract t25 1) w λt26 w=>v (extract t25 0) w λ_ w=>aG t23 (.bool true) t26 λt28=>aG t20 (.bool true) t28 λt29=>aG t17 (.bool true) t29 λt30=>aG t14 (.bool true) t30 λt31=>aG t11 (.bool true) t31 λt32=>aG t8 (.bool true) t32 λt33=>aG t5 (.bool true) t33 λt34=>aH t34 (R (.bool true) w) (R (.bool false) w)
theorem aOd (h:RB t0 w R):aB prog 81 #[t0] w R:=dw [] func81 h
def RA (t0 t1 t2:Z) (w:O) (R:Z->O->Prop):Prop:=
 v (typeAssert t0 94 161 true) w λt15 w=>v (extract t15 1) w λt16 w=>v (extract t15 0) w λt17 w3=>aH t16 (st 161 t17 w3 λt7 w=>fl 161 t7 0 3 w λt20 w=>fl 161 t7 1 21 w λt22 w=>v (indexAt 37 t1 t20) w λt23 w=>u (storeAt 21 t23 t22) w λ_ w=>v (b .add t2 (i64 1)) w λt111 w=>R t111 w) (v (typeAssert t0 94 222 true) w3 λt24 w=>v (extract t24 1) w λt25 w=>v (extract t24 0) w λt26 w15=>aH t25 (st 222 t26 w15 λt8 w=>aJ w λS7 w=>yf S7 222 t8 0 3 λt29=>yf S7 222 t8 1 3 λt32=>yi S7 37 t1 t32 21 λt34=>y S7 (indexAt 37 t1 t29) λt35=>u (storeAt 21 t35 t34) w λ_ w=>v (b .add t2 (i64 1)) w λt111_1 w=>R t111_1 w) (v (typeAssert t0 94 242 true) w15 λt36 w=>v (extract t36 1) w λt37 w=>v (extract t36 0) w λt38 w23=>aH t37 (st 242 t38 w23 λt9 w=>aJ w λS10 w=>yf S10 242 t9 1 3 λt41=>yf S10 242 t9 0 3 λt43=>yf S10 242 t9 2 3 λt46=>yi S10 37 t1 t46 21 λt48=>yf S10 242 t9 3 3 λt51=>yi S10 37 t1 t51 21 λt53=>c 127 #[t43,t48,t53] w λt54 w=>S10 w /\
 y S10 (indexAt 37 t1 t41) λt55=>u (storeAt 21 t55 t54) w λ_ w=>v (b .add t2 (i64 1)) w λt111_2 w=>R t111_2 w) (v (typeAssert t0 94 224 true) w23 λt56 w=>v (extract t56 1) w λt57 w=>v (extract t56 0) w λt58 w32=>aH t57 (st 224 t58 w32 λt10 w=>aJ w λS13 w=>yf S13 224 t10 1 3 λt61=>yf S13 224 t10 0 3 λt63=>yf S13 224 t10 2 3 λt66=>yi S13 37 t1 t66 21 λt68=>c 128 #[t63,t68] w λt69 w=>S13 w /\
 y S13 (indexAt 37 t1 t61) λt70=>u (storeAt 21 t70 t69) w λ_ w=>v (b .add t2 (i64 1)) w λt111_3 w=>R t111_3 w) (v (typeAssert t0 94 226 true) w32 λt71 w=>v (extract t71 1) w λt72 w=>v (extract t71 0) w λt73 w41=>aH t72 (st 226 t73 w41 λt11 w=>aJ w λS16 w=>yf S16 226 t11 0 3 λt76=>yf S16 226 t11 1 3 λt79=>yi S16 37 t1 t79 21 λt81=>yf S16 226 t11 2 3 λt84=>yi S16 37 t1 t84 21 λt86=>yf S16 226 t11 3 3 λt89=>yi S16 37 t1 t89 21 λt91=>c 129 #[t81,t86,t91] w λt92 w=>S16 w /\
 y S16 (indexAt 37 t1 t76) λt93=>u (storeAt 21 t93 t92) w λ_ w=>v (b .add t2 (i64 1)) w λt111_4 w=>R t111_4 w) (v (typeAssert t0 94 228 true) w41 λt94 w=>v (extract t94 1) w λt95 w=>v (extract t94 0) w λt96 w50=>aH t95 (st 228 t96 w50 λt12 w=>fl 228 t12 0 3 w λt98 w=>R t98 w) (v (typeAssert t0 94 230 true) w50 λt99 w=>v (extract t99 1) w λt100 w=>v (extract t99 0) w λt101 w57=>aH t100 (st 230 t101 w57 λt13 w=>fl 230 t13 0 3 w λt104 w=>il 37 t1 t104 21 w λt106 w=>v (et .neq 21 106 t106 (Value.int IntKind.i32 0)) w λt107 w64=>aH t107 (fl 230 t13 1 3 w64 λt109 w=>R t109 w) (v (b .add t2 (i64 1)) w64 λt111_5 w=>R t111_5 w)) (v (b .add t2 (i64 1)) w57 λt111_6 w=>R t111_6 w)))))))
theorem aOc (h:RA t0 t1 t2 w R):aB prog 82 #[t0,t1,t2] w R:=dw [dr 0 9 511 (tk (rg 0 8) (.last 9)),dr 0 17 131071 (tk (rg 0 14) (.only 15 (.take 16 (.last 17)))),dr 0 12 4095 (tk (rg 0 9) (.only 10 (.take 11 (.last 12)))),dr 0 20 1048575 (tk (rg 0 17) (.only 18 (.take 19 (.last 20))))] func82 h
def QZ (t0:Z) (w:O) (R:Z->O->Prop):Prop:=
 v (build 249 #[(0,(Value.string { data:=#[97,108,112,104,97] })),(1,(Value.string { data:=#[98,195,169,116,97] })),(2,(Value.string { data:=#[103,45,49] })),(3,(Value.string { data:=#[100,46,195,191] }))]) w λt3 w=>c 11 #[t0,(i64 4)] w λt5 w=>v (index 249 t3 t5) w λt6 w=>R t6 w
theorem aOb (h:QZ t0 w R):aB prog 83 #[t0] w R:=dw [] func83 h
def DZ (t0 t1 t2 t3:Z) (w:O) (R:Z->O->Prop):Prop:=
 v (box 74 t1) w λt5 w=>aJ w λS1 w=>yf S1 74 t5 0 42 λt17=>yf S1 74 t5 2 42 λt20=>v (buildSlice 42 0 #[]) w λt15 w=>S1 w /\
 v (Builtin.append_ #[42,42] 42 #[t15,t17]) w λt18 w=>S1 w /\
 v (Builtin.append_ #[42,42] 42 #[t18,t20]) w λt21 w=>S1 w /\
 y S1 (build 252 #[(3,t21)]) λt22=>v (box 252 t22) w λt23 w=>S1 w /\
 ∃ (I1:NP 1) (μ1:NF 1),I1 (i64 0) w /\
 ∀ t10 w7,I1 t10 w7->∀ _f:dT,v (ln 99 3 t0) w7 λt26 w=>v (b .lss t10 t26) w λt27 w9=>aH t27 (aJ w9 λS5 w=>Go.Vc.aY (t23) /\
 yf S5 252 t23 1 42 λt34=>y S5 (indexAt 99 t0 t10) λt37=>yf S5 254 t37 1 3 λt39=>y S5 (indexAt 99 t0 t10) λt42=>yf S5 254 t42 2 3 λt44=>y S5 (indexAt 99 t0 t10) λt47=>yf S5 254 t47 3 3 λt49=>v (buildSlice 42 3 #[(0,t39),(1,t44),(2,t49)]) w λt50 w=>S5 w /\
 v (Builtin.append_ #[42,42] 42 #[t34,t50]) w λt51 w=>S5 w /\
 Go.Vc.aY (t23) /\
 y S5 (fieldAt 252 t23 1) λt53=>u (storeAt 42 t53 t51) w λ_ w=>v (b .add t10 (i64 1)) w λt29 w=>I1 t29 w/\μ1 t29 w < μ1 t10 w7) (∃ (I2:NP 2) (μ2:NF 2),I2 cM (i64 0) w9 /\
 ∀ t11 t12 w15,I2 t11 t12 w15->∀ _f:dT,v (ln 99 3 t0) w15 λt56 w=>v (b .lss t12 t56) w λt57 w=>gk t57 true t12 w λt59 w=>g t57 true (b .lss t59 (i64 12)) w λt60 w=>aG t57 t60 (.bool false) λt61=>gk t61 true t23 w λt63 w=>gd t61 true (λK=> (Go.Vc.aY (t63)/\K (t63) w)) w λt64 w=>g t61 true (fieldAt 252 t64 0) w λt65 w=>g t61 true (loadAt 71 t65) w λt66 w=>g t61 true (ln 71 3 t66) w λt67 w=>g t61 true (b .lss t67 (i64 70)) w λt68 w26=>aG t61 t68 (.bool false) λt69=>aH t69 (Go.Vc.aY (t23) /\
 fl 252 t23 0 71 w26 λt76 w=>v (ln 71 3 t76) w λt77 w=>v (buildSlice 42 1 #[(0,t77)]) w λt78 w=>v (Builtin.append_ #[42,42] 42 #[t11,t78]) w λt79 w=>aJ w λS11 w=>yi S11 99 t0 t12 254 λt84=>y S11 (sliceAt 42 t79 none (some t12) none) λt87=>c 130 #[t23,t84,t87,t2,t3] w λ_ w=>v (b .add t12 (i64 1)) w λt71 w=>I2 t79 t71 w/\μ2 t79 t71 w < μ2 t11 t12 w15) (Go.Vc.aY (t23) /\
 fl 252 t23 0 71 w26 λt95 w=>v (ln 71 3 t95) w λt96 w=>v (buildSlice 42 1 #[(0,t96)]) w λt97 w=>v (Builtin.append_ #[42,42] 42 #[t11,t97]) w λt98 w=>∃ (I3:NP 1) (μ3:NF 1),I3 (i64 0) w /\
 ∀ t13 w43,I3 t13 w43->∀ _f:dT,Go.Vc.aY (t23) /\
 fl 252 t23 0 71 w43 λt103 w=>v (ln 71 3 t103) w λt104 w=>v (b .lss t13 t104) w λt105 w48=>aH t105 (Go.Vc.aY (t23) /\
 fl 252 t23 0 71 w48 λt111 w=>jl 71 t111 t13 70 0 3 w λt115 w=>v (et .eql 3 115 t115 (i64 24)) w λt116 w=>gk t116 true t23 w λt118 w=>gd t116 true (λK=> (Go.Vc.aY (t118)/\K (t118) w)) w λt119 w=>g t116 true (fieldAt 252 t119 0) w λt120 w=>g t116 true (loadAt 71 t120) w λt121 w=>gk t116 true t13 w λt122 w=>g t116 true (indexAt 71 t121 t122) w λt123 w=>g t116 true (fieldAt 70 t123 1) w λt124 w=>g t116 true (loadAt 3 t124) w λt125 w=>g t116 true (b .lss t125 (i64 0)) w λt126 w64=>aG t116 t126 (.bool false) λt127=>aH t127 (∃ (I4:NP 1) (μ4:NF 1),I4 (i64 0) w64 /\
 ∀ t14 w66,I4 t14 w66->∀ _f:dT,v (ln 42 3 t98) w66 λt130 w=>v (b .sub t130 (i64 1)) w λt131 w=>v (b .lss t14 t131) w λt132 w=>gk t132 true t98 w λt134 w=>gk t132 true t14 w λt135 w=>g t132 true (indexAt 42 t134 t135) w λt136 w=>g t132 true (loadAt 3 t136) w λt137 w=>gk t132 true t13 w λt138 w=>g t132 true (b .leq t137 t138) w λt139 w75=>aG t132 t139 (.bool false) λt140=>aH t140 (v (b .add t14 (i64 1)) w75 λt142 w=>I4 t142 w/\μ4 t142 w < μ4 t14 w66) (aJ w75 λS20 w=>Go.Vc.aY (t23) /\
 yf S20 252 t23 0 71 λt146=>y S20 (ln 42 3 t98) λt150=>y S20 (b .sub t150 (i64 1)) λt151=>y S20 (b .add t14 (i64 1)) λt153=>y S20 (Builtin.min_ #[3,3] 3 #[t151,t153]) λt154=>yi S20 42 t98 t154 3 λt156=>y S20 (indexAt 71 t146 t13) λt157=>y S20 (fieldAt 70 t157 1) λt158=>u (storeAt 3 t158 t156) w λ_ w=>v (b .add t13 (i64 1)) w λt107 w=>I3 t107 w/\μ3 t107 w < μ3 t13 w43)) (v (b .add t13 (i64 1)) w64 λt107_1 w=>I3 t107_1 w/\μ3 t107_1 w < μ3 t13 w43)) (∃ J5:NP 0,(fl 74 t5 1 3 w48 λt160 w=>v (et .neq 3 160 t160 (i64 0)) w λt161 w84=>aH t161 (fl 74 t5 1 3 w84 λt164 w=>c 131 #[t23,t164] w λ_ w=>J5 w) (J5 w84)) /\
 ∀ w:O,J5 w->∀ _f:dT,c 132 #[t23,(i64 39),(i64 0),(i64 0)] w λ_ w=>Go.Vc.aY (t23) /\
 fl 252 t23 0 71 w λt171 w=>v (ln 71 3 t171) w λt172 w=>v (b .gtr t172 (i64 120)) w λt173 w94=>aH t173 (v (build 70 #[(0,(i64 39))]) w94 λt175 w=>v (buildSlice 71 1 #[(0,t175)]) w λt176 w=>Go.Vc.aY (t23) /\
 v (fieldAt 252 t23 0) w λt178 w=>u (storeAt 71 t178 t176) w λ_ w=>fl 74 t5 1 3 w λt180 w=>v (et .neq 3 180 t180 (i64 0)) w λt181 w102=>aH t181 (v (build 70 #[(0,(i64 1))]) w102 λt183 w=>v (build 70 #[(0,(i64 39))]) w λt184 w=>v (buildSlice 71 2 #[(0,t183),(1,t184)]) w λt185 w=>Go.Vc.aY (t23) /\
 v (fieldAt 252 t23 0) w λt187 w=>u (storeAt 71 t187 t185) w λ_ w=>Go.Vc.aY (t23) /\
 fl 252 t23 0 71 w λt191 w=>R t191 w) (Go.Vc.aY (t23) /\
 fl 252 t23 0 71 w102 λt191_1 w=>R t191_1 w)) (Go.Vc.aY (t23) /\
 fl 252 t23 0 71 w94 λt191_2 w=>R t191_2 w))))
theorem aAa (h:DZ t0 t1 t2 t3 w R):aB prog 84 #[t0,t1,t2,t3] w R:=dw [dr 0 10 1023 (tk [1,2,4,5] (.only 0 (.only 3 (.only 6 (.take 7 (.only 8 (.take 9 .done))))))),l,lo [10],l,dr 0 24 16777215 (tk (rg 0 19) (.only 20 (.only 21 (.take 22 (.take 23 (.last 24)))))),l,l,lo [11,12],l,dr 0 10 1023 (tk (rg 0 9) (.last 10)),l,l,lo [13],l,lo [14],l,l,dr 0 16 65535 (tk (rg 0 15) (.last 16)),l,l,jn []] func84 h
def QY (t0 t1:Z) (w:O) (R:Z->O->Prop):Prop:=
 v (al 46) w λt4 w=>v (b .lss t1 (i64 0)) w λt7 w=>gk t7 false t1 w λt9 w=>gk t7 false t0 w λt10 w=>gd t7 false (λK=> (Go.Vc.aY (t10)/\K (t10) w)) w λt11 w=>g t7 false (fieldAt 134 t11 1) w λt12 w=>g t7 false (loadAt 24 t12) w λt13 w=>g t7 false (ln 24 3 t13) w λt14 w=>g t7 false (b .geq t9 t14) w λt15 w9=>aG t7 (.bool true) t15 λt16=>aH t16 (v (build 46 #[]) w9 λt17 w=>u (storeAt 46 t4 t17) w λ_ w=>lv 46 t4 w λr1=> R (.tuple #[r1,(.bool false)]) w) (Go.Vc.aY (t0) /\
 fl 134 t0 1 24 w9 λt21 w=>il 24 t21 t1 46 w λt24 w=>c 78 #[t24] w λt25 w=>u (storeAt 46 t4 t25) w λ_ w=>lv 46 t4 w λr1=> R (.tuple #[r1,(.bool true)]) w)
theorem aOa (h:QY t0 t1 w R):aB prog 88 #[t0,t1] w R:=dw [] func88 h
def QX (t0 t1:Z) (w:O) (R:Z->O->Prop):Prop:=
 Go.Vc.aY (t0) /\
 fl 114 t0 5 37 w λt10 w=>v (ln 37 3 t10) w λt11 w=>v (b .sub t11 t1) w λt13 w=>Go.Vc.aY (t0) /\
 fl 114 t0 5 37 w λt17 w=>v (sliceAt 37 t17 (some t13) none none) w λt19 w=>c 49 #[t19] w λt20 w=>Go.Vc.aY (t0) /\
 fl 114 t0 5 37 w λt25 w=>v (sliceAt 37 t25 none (some t13) none) w λt27 w=>Go.Vc.aY (t0) /\
 v (fieldAt 114 t0 5) w λt29 w=>u (storeAt 37 t29 t27) w λ_ w=>R t20 w
theorem aNz (h:QX t0 t1 w R):aB prog 91 #[t0,t1] w R:=dw [] func91 h
def DY (t0 t1:Z) (w:O) (R:Z->O->Prop):Prop:=
 aJ w λS0 w=>Go.Vc.aY (t0) /\
 yf S0 109 t0 2 107 λt8=>Go.Vc.aY (t0) /\
 yf S0 109 t0 2 107 λt12=>y S0 (ln 107 3 t12) λt13=>y S0 (b .sub t13 (i64 1)) λt14=>y S0 (sliceAt 107 t8 none (some t14) none) λt15=>Go.Vc.aY (t0) /\
 y S0 (fieldAt 109 t0 2) λt17=>u (storeAt 107 t17 t15) w λ_ w=>Go.Vc.aY (t0) /\
 fl 109 t0 2 107 w λt21 w=>v (ln 107 3 t21) w λt22 w=>v (et .eql 3 22 t22 (i64 0)) w λt23 w7=>aH t23 (c 51 #[t0,(i64 36864)] w7 λ_ w=>R (.tuple #[]) w) (Go.Vc.aY (t1) /\
 v (fieldAt 114 t1 3) w7 λt28 w=>fl 74 t28 1 3 w λt30 w=>v (et .neq 3 30 t30 (i64 0)) w λt31 w13=>aH t31 (c 48 #[t0] w13 λt33 w=>c 135 #[t1] w λt35 w=>c 134 #[t33,t35] w λ_ w=>R (.tuple #[]) w) (R (.tuple #[]) w13))
theorem aNy (h:DY t0 t1 w R):aB prog 93 #[t0,t1] w R:=dw [dr 0 14 16383 (tk (rg 0 13) (.last 14))] func93 h
def DX (t0:Z) (w:O) (R:Z->O->Prop):Prop:=
 ∃ J1:NP 1,(v (et .eql 3 3 t0 (i64 27)) w λt5 w=>aH t5 (J1 t5 w) (v (et .eql 3 3 t0 (i64 28)) w λt6 w=>J1 t6 w)) /\
 ∀ t4 w,J1 t4 w->∀ _f:dT,aH t4 (R (i64 1) w) (∃ J2:NP 1,(v (et .eql 3 3 t0 (i64 17)) w λt8 w=>aH t8 (J2 t8 w) (v (et .eql 3 3 t0 (i64 18)) w λt9 w=>aH t9 (J2 t9 w) (v (et .eql 3 3 t0 (i64 29)) w λt10 w=>J2 t10 w))) /\
 ∀ t7 w,J2 t7 w->∀ _f:dT,aH t7 (R (i64 2) w) (∃ J3:NP 1,(v (et .eql 3 3 t0 (i64 30)) w λt12 w=>aH t12 (J3 t12 w) (v (et .eql 3 3 t0 (i64 36)) w λt13 w=>J3 t13 w)) /\
 ∀ t11 w,J3 t11 w->∀ _f:dT,aH t11 (R (i64 3) w) (v (et .eql 3 3 t0 (i64 31)) w λt15 w=>aH t15 (aH t15 (R (i64 5) w) (R (i64 (-1)) w)) (v (et .eql 3 3 t0 (i64 32)) w λt16 w=>aH t16 (R (i64 5) w) (R (i64 (-1)) w)))))
theorem aNx (h:DX t0 w R):aB prog 94 #[t0] w R:=dw [jn [4],jn [7],jn [11]] func94 h
def DW (t0 t1 t2:Z) (w:O) (R:Z->O->Prop):Prop:=
 v (box 70 t2) w λt5 w=>fl 70 t5 0 3 w λt11 w=>v (et .eql 3 11 t11 (i64 23)) w λt19 w4=>aH t19 (fl 70 t5 1 3 w4 λt21 w=>R t21 w) (v (et .eql 3 11 t11 (i64 24)) w4 λt23 w7=>aH t23 (c 135 #[t1] w7 λt25 w=>v (et .neq 21 25 t25 (Value.int IntKind.i32 0)) w λt26 w9=>aH t26 (fl 70 t5 1 3 w9 λt28 w=>R t28 w) (Go.Vc.aY (t1) /\
 fl 114 t1 2 3 w9 λt121 w=>v (b .add t121 (i64 1)) w λt122 w=>R t122 w)) (v (et .eql 3 11 t11 (i64 1)) w7 λt30 w16=>aH t30 (fl 70 t5 1 3 w16 λt33 w=>v (convert 3 21 t33) w λt34 w=>c 134 #[t1,t34] w λ_ w=>Go.Vc.aY (t1) /\
 fl 114 t1 2 3 w λt121_1 w=>v (b .add t121_1 (i64 1)) w λt122_1 w=>R t122_1 w) (v (et .eql 3 11 t11 (i64 2)) w16 λt37 w25=>aH t37 (aJ w25 λS11 w=>Go.Vc.aY (t1) /\
 yf S11 114 t1 4 37 λt42=>yf S11 70 t5 1 3 λt44=>yi S11 37 t42 t44 21 λt46=>c 134 #[t1,t46] w λ_ w=>S11 w /\
 Go.Vc.aY (t1) /\
 fl 114 t1 2 3 w λt121_2 w=>v (b .add t121_2 (i64 1)) w λt122_2 w=>R t122_2 w) (v (et .eql 3 11 t11 (i64 3)) w25 λt49 w32=>aH t49 (aJ w32 λS13 w=>Go.Vc.aY (t1) /\
 yf S13 114 t1 4 37 λt53=>yf S13 70 t5 1 3 λt55=>c 135 #[t1] w λt57 w=>S13 w /\
 y S13 (indexAt 37 t53 t55) λt58=>u (storeAt 21 t58 t57) w λ_ w=>Go.Vc.aY (t1) /\
 fl 114 t1 2 3 w λt121_3 w=>v (b .add t121_3 (i64 1)) w λt122_3 w=>R t122_3 w) (v (et .eql 3 11 t11 (i64 4)) w32 λt60 w40=>aH t60 (c 135 #[t1] w40 λ_ w=>Go.Vc.aY (t1) /\
 fl 114 t1 2 3 w λt121_4 w=>v (b .add t121_4 (i64 1)) w λt122_4 w=>R t122_4 w) (v (et .eql 3 11 t11 (i64 5)) w40 λt64 w46=>aH t64 (c 135 #[t1] w46 λt66 w=>c 134 #[t1,t66] w λ_ w=>c 134 #[t1,t66] w λ_ w=>Go.Vc.aY (t1) /\
 fl 114 t1 2 3 w λt121_5 w=>v (b .add t121_5 (i64 1)) w λt122_5 w=>R t122_5 w) (v (et .eql 3 11 t11 (i64 25)) w46 λt74 w54=>aH t74 (c 134 #[t1,(Value.int IntKind.i32 0)] w54 λ_ w=>Go.Vc.aY (t1) /\
 fl 114 t1 2 3 w λt121_6 w=>v (b .add t121_6 (i64 1)) w λt122_6 w=>R t122_6 w) (v (et .eql 3 11 t11 (i64 35)) w54 λt78 w60=>aH t78 (fl 70 t5 1 3 w60 λt81 w=>v (convert 3 21 t81) w λt82 w=>c 134 #[t1,t82] w λ_ w=>Go.Vc.aY (t1) /\
 fl 114 t1 2 3 w λt121_7 w=>v (b .add t121_7 (i64 1)) w λt122_7 w=>R t122_7 w) (v (et .eql 3 11 t11 (i64 33)) w60 λt85 w69=>aH t85 (aJ w69 λS25 w=>Go.Vc.aY (t0) /\
 yf S25 109 t0 0 26 λt90=>Go.Vc.aY (t1) /\
 yf S25 114 t1 0 3 λt94=>yf S25 70 t5 1 3 λt96=>c 37 #[t90,t94,t96] w λt97 w=>S25 w /\
 y S25 (extract t97 0) λt98=>y S25 (extract t97 1) λ_=>c 134 #[t1,t98] w λ_ w=>Go.Vc.aY (t1) /\
 fl 114 t1 2 3 w λt121_8 w=>v (b .add t121_8 (i64 1)) w λt122_8 w=>R t122_8 w) (v (et .eql 3 11 t11 (i64 34)) w69 λt104 w77=>aH t104 (aJ w77 λS28 w=>Go.Vc.aY (t0) /\
 yf S28 109 t0 0 26 λt108=>Go.Vc.aY (t1) /\
 yf S28 114 t1 0 3 λt112=>yf S28 70 t5 1 3 λt114=>c 135 #[t1] w λt116 w=>S28 w /\
 c 137 #[t108,t112,t114,t116] w λ_ w=>S28 w /\
 Go.Vc.aY (t1) /\
 fl 114 t1 2 3 w λt121_9 w=>v (b .add t121_9 (i64 1)) w λt122_9 w=>R t122_9 w) (fl 70 t5 0 3 w77 λt15 w=>c 138 #[t1,t15] w λt16 w=>c 134 #[t1,t16] w λ_ w=>Go.Vc.aY (t1) /\
 fl 114 t1 2 3 w λt121_10 w=>v (b .add t121_10 (i64 1)) w λt122_10 w=>R t122_10 w)))))))))))
theorem aNw (h:DW t0 t1 t2 w R):aB prog 96 #[t0,t1,t2] w R:=dw [dr 0 10 1023 (tk (rg 0 8) (.only 9 .done)),dr 0 9 511 (tk (rg 0 6) (.only 7 (.take 8 (.last 9)))),dr 0 16 65535 (tk (rg 0 9) (.only 10 (tk (rg 11 15) .done))),l,dr 0 13 8191 (tk (rg 0 10) (.only 11 (.only 12 .done)))] func96 h
def QW (t0 t1 t2:Z) (w:O) (R:Z->O->Prop):Prop:=
 v (box 46 t0) w λt3 w=>v (box 74 t1) w λt4 w=>v (box 70 t2) w λt5 w=>fl 70 t5 0 3 w λt8 w=>∃ J1:NP 1,(v (et .eql 3 8 t8 (i64 3)) w λt10 w=>aH t10 (J1 t10 w) (v (et .eql 3 8 t8 (i64 4)) w λt11 w=>aH t11 (J1 t11 w) (v (et .eql 3 8 t8 (i64 5)) w λt12 w=>aH t12 (J1 t12 w) (v (et .eql 3 8 t8 (i64 34)) w λt13 w=>J1 t13 w)))) /\
 ∀ t9 w,J1 t9 w->∀ _f:dT,aH t9 (R (i64 1) w) (v (et .eql 3 8 t8 (i64 22)) w λt15 w=>aH t15 (R (i64 3) w) (v (et .eql 3 8 t8 (i64 37)) w λt17 w12=>aH t17 (fl 46 t3 3 44 w12 λt19 w=>fl 70 t5 1 3 w λt21 w=>jl 44 t19 t21 74 0 42 w λt24 w=>v (ln 42 3 t24) w λt25 w=>R t25 w) (v (et .eql 3 8 t8 (i64 38)) w12 λt27 w21=>aH t27 (fl 46 t3 2 43 w21 λt29 w=>fl 70 t5 1 3 w λt31 w=>jl 43 t29 t31 180 2 42 w λt34 w=>v (ln 42 3 t34) w λt35 w=>R t35 w) (v (et .eql 3 8 t8 (i64 39)) w21 λt37 w30=>aH t37 (fl 74 t4 1 3 w30 λt39 w=>v (et .neq 3 39 t39 (i64 0)) w λt40 w=>aH t40 (R (i64 1) w) (R (i64 0) w)) (fl 70 t5 0 3 w30 λt42 w=>c 139 #[t42] w λt43 w=>v (ln 9 3 t43) w λt44 w=>R t44 w)))))
theorem aNv (h:QW t0 t1 t2 w R):aB prog 98 #[t0,t1,t2] w R:=dw [jn [9]] func98 h
def LV (t0 t1:Z) (w:O) (R:Z->O->Prop):Prop:=
 v (box 46 t0) w λt2 w=>v (box 70 t1) w λt3 w=>fl 70 t3 0 3 w λt6 w=>v (et .eql 3 6 t6 (i64 5)) w λt8 w=>aH t8 (R (i64 2) w) (∃ J1:NP 1,(v (et .eql 3 6 t6 (i64 3)) w λt10 w=>aH t10 (J1 t10 w) (v (et .eql 3 6 t6 (i64 4)) w λt11 w=>aH t11 (J1 t11 w) (v (et .eql 3 6 t6 (i64 23)) w λt12 w=>aH t12 (J1 t12 w) (v (et .eql 3 6 t6 (i64 24)) w λt13 w=>aH t13 (J1 t13 w) (v (et .eql 3 6 t6 (i64 30)) w λt14 w=>aH t14 (J1 t14 w) (v (et .eql 3 6 t6 (i64 31)) w λt15 w=>aH t15 (J1 t15 w) (v (et .eql 3 6 t6 (i64 34)) w λt16 w=>aH t16 (J1 t16 w) (v (et .eql 3 6 t6 (i64 36)) w λt17 w=>aH t17 (J1 t17 w) (v (et .eql 3 6 t6 (i64 39)) w λt18 w=>J1 t18 w))))))))) /\
 ∀ t9 w,J1 t9 w->∀ _f:dT,aH t9 (R (i64 0) w) (v (et .eql 3 6 t6 (i64 37)) w λt20 w16=>aH t20 (fl 46 t2 3 44 w16 λt22 w=>fl 70 t3 1 3 w λt24 w=>jl 44 t22 t24 74 1 3 w λt27 w=>v (Builtin.min_ #[3,3] 3 #[(i64 1),t27]) w λt28 w=>R t28 w) (v (et .eql 3 6 t6 (i64 38)) w16 λt30 w25=>aH t30 (fl 46 t2 2 43 w25 λt32 w=>fl 70 t3 1 3 w λt34 w=>jl 43 t32 t34 180 3 3 w λt37 w=>v (Builtin.min_ #[3,3] 3 #[(i64 1),t37]) w λt38 w=>R t38 w) (R (i64 1) w25))))
theorem aIm (h:LV t0 t1 w R):aB prog 108 #[t0,t1] w R:=dw [jn [9]] func108 h
def zN (t0:Z) (w:O) (R:Z->O->Prop):Prop:=
 v (ln 9 3 t0) w λt6 w=>v (b .lss t6 (i64 1)) w λt7 w=>gk t7 false t0 w λt9 w=>g t7 false (ln 9 3 t9) w λt10 w=>g t7 false (b .gtr t10 (i64 16)) w λt11 w=>aG t7 (.bool true) t11 λt12=>gk t12 false t0 w λt14 w=>gd t12 false (λK=> c 142 #[t14] w K) w λt15 w=>g t12 false (Op.unary UnOp.not t15) w λt16 w=>aG t12 (.bool true) t16 λt17=>aH t17 (R (.bool false) w) (v (range 9 t0) w λt19 w=>∃ (I1:NP 0) (μ1:NF 0),I1 w /\
 ∀ w12:O,I1 w12->∀ _f:dT,v (next t19 true 0) w12 λt20 w=>v (extract t20 0) w λt21 w14=>aH t21 (v (extract t20 2) w14 λt22 w=>v (binOp .geq 21 t22 (Value.int IntKind.i32 97)) w λt24 w=>gk t24 true t22 w λt26 w=>g t24 true (binOp .leq 21 t26 (Value.int IntKind.i32 122)) w λt27 w=>aG t24 t27 (.bool false) λt28=>gk t28 false t22 w λt30 w=>g t28 false (binOp .geq 21 t30 (Value.int IntKind.i32 48)) w λt31 w=>gk t28 false t31 w λt32 w=>gk t32 true t22 w λt33 w=>g t32 true (binOp .leq 21 t33 (Value.int IntKind.i32 57)) w λt34 w=>gd t28 false (λK=> aG t32 t34 (.bool false) λv=> K v w) w λt35 w=>aG t28 (.bool true) t35 λt36=>gk t36 false t22 w λt38 w=>g t36 false (et .eql 21 38 t38 (Value.int IntKind.i32 45)) w λt39 w=>aG t36 (.bool true) t39 λt40=>gk t40 false t22 w λt42 w=>g t40 false (et .eql 21 42 t42 (Value.int IntKind.i32 46)) w λt43 w=>aG t40 (.bool true) t43 λt44=>gk t44 false t22 w λt46 w=>g t44 false (binOp .geq 21 t46 (Value.int IntKind.i32 224)) w λt47 w=>gk t44 false t47 w λt48 w=>gk t48 true t22 w λt49 w=>g t48 true (binOp .leq 21 t49 (Value.int IntKind.i32 255)) w λt50 w=>gd t44 false (λK=> aG t48 t50 (.bool false) λv=> K v w) w λt51 w=>aG t44 (.bool true) t51 λt52=>v (Op.unary UnOp.not t52) w λt53 w=>aH t53 (R (.bool false) w) (I1 w/\μ1 w < μ1 w12)) (R (.bool true) w14))
theorem aIl (h:zN t0 w R):aB prog 109 #[t0] w R:=dw [l,lo []] func109 h
def LU (t0 t1:Z) (w:O) (R:Z->O->Prop):Prop:=
 ∃ (I1:NP 1) (μ1:NF 1),I1 (i64 0) w /\
 ∀ t5 w1,I1 t5 w1->∀ _f:dT,v (ln 42 3 t0) w1 λt8 w=>v (b .lss t5 t8) w λt9 w3=>aH t9 (il 42 t0 t5 3 w3 λt15 w=>v (b .lss t15 (i64 1)) w λt16 w=>gk t16 false t0 w λt18 w=>gk t16 false t5 w λt19 w=>g t16 false (indexAt 42 t18 t19) w λt20 w=>g t16 false (loadAt 3 t20) w λt21 w=>g t16 false (b .gtr t21 (i64 4)) w λt22 w=>aG t16 (.bool true) t22 λt23=>aH t23 (R (.bool false) w) (v (b .add t5 (i64 1)) w λt11 w=>I1 t11 w/\μ1 t11 w < μ1 t5 w1)) (v (ln 42 3 t0) w3 λt25 w=>v (b .leq t25 t1) w λt27 w=>R t27 w)
theorem aIk (h:LU t0 t1 w R):aB prog 110 #[t0,t1] w R:=dw [lo [5]] func110 h
def LS (t0:Z) (w:O) (R:Z->O->Prop):Prop:=
 v (box 70 t0) w λt1 w=>fl 70 t1 0 3 w λt4 w=>c 143 #[t4] w λt5 w=>v (et .eql 9 5 t5 (Value.string { data:=#[] })) w λt6 w=>g t6 false (fieldAt 70 t1 0) w λt8 w=>g t6 false (loadAt 3 t8) w λt9 w=>g t6 false (et .neq 3 9 t9 (i64 27)) w λt10 w=>gk t6 false t10 w λt11 w=>g t11 true (fieldAt 70 t1 2) w λt12 w=>g t11 true (loadAt 3 t12) w λt13 w=>g t11 true (et .neq 3 13 t13 (i64 0)) w λt14 w=>gd t6 false (λK=> aG t11 t14 (.bool false) λv=> K v w) w λt15 w=>aG t6 (.bool true) t15 λt16=>g t16 false (fieldAt 70 t1 0) w λt18 w=>g t16 false (loadAt 3 t18) w λt19 w=>gd t16 false (λK=> c 144 #[t19] w K) w λt20 w=>g t16 false (et .eql 3 20 t20 (i64 0)) w λt21 w=>gk t16 false t21 w λt22 w=>g t22 true (fieldAt 70 t1 1) w λt23 w=>g t22 true (loadAt 3 t23) w λt24 w=>g t22 true (et .neq 3 24 t24 (i64 0)) w λt25 w=>gd t16 false (λK=> aG t22 t25 (.bool false) λv=> K v w) w λt26 w=>aG t16 (.bool true) t26 λt27=>aH t27 (R (.bool false) w) (fl 70 t1 0 3 w λt29 w=>v (et .eql 3 29 t29 (i64 1)) w λt31 w27=>aH t31 (fl 70 t1 1 3 w27 λt33 w=>c 145 #[t33,(i64 (-2147483648)),(i64 2147483647)] w λt34 w=>R t34 w) (∃ J1:NP 1,(v (et .eql 3 29 t29 (i64 2)) w27 λt36 w=>aH t36 (J1 t36 w) (v (et .eql 3 29 t29 (i64 3)) w λt37 w=>J1 t37 w)) /\
 ∀ t35 w33,J1 t35 w33->∀ _f:dT,aH t35 (fl 70 t1 1 3 w33 λt39 w=>c 145 #[t39,(i64 0),(i64 9)] w λt40 w=>R t40 w) (∃ J2:NP 1,(v (et .eql 3 29 t29 (i64 23)) w33 λt42 w=>aH t42 (J2 t42 w) (v (et .eql 3 29 t29 (i64 24)) w λt43 w=>J2 t43 w)) /\
 ∀ t41 w39,J2 t41 w39->∀ _f:dT,aH t41 (fl 70 t1 1 3 w39 λt45 w=>c 145 #[t45,(i64 0),(i64 119)] w λt46 w=>R t46 w) (v (et .eql 3 29 t29 (i64 25)) w39 λt48 w43=>aH t48 (fl 70 t1 1 3 w43 λt50 w=>c 145 #[t50,(i64 3),(i64 4)] w λt51 w=>R t51 w) (v (et .eql 3 29 t29 (i64 27)) w43 λt53 w47=>aH t53 (fl 70 t1 1 3 w47 λt55 w=>c 145 #[t55,(i64 3),(i64 4)] w λt56 w=>g t56 true (fieldAt 70 t1 2) w λt58 w=>g t56 true (loadAt 3 t58) w λt59 w=>gd t56 true (λK=> c 145 #[t59,(i64 0),(i64 2)] w K) w λt60 w=>gk t56 true t60 w λt61 w=>g t61 false (fieldAt 70 t1 2) w λt62 w=>g t61 false (loadAt 3 t62) w λt63 w=>gd t61 false (λK=> c 145 #[t63,(i64 4),(i64 6)] w K) w λt64 w=>gd t56 true (λK=> aG t61 (.bool true) t64 λv=> K v w) w λt65 w=>aG t56 t65 (.bool false) λt66=>R t66 w) (∃ J3:NP 1,(v (et .eql 3 29 t29 (i64 33)) w47 λt68 w=>aH t68 (J3 t68 w) (v (et .eql 3 29 t29 (i64 34)) w λt69 w=>J3 t69 w)) /\
 ∀ t67 w62,J3 t67 w62->∀ _f:dT,aH t67 (fl 70 t1 1 3 w62 λt71 w=>c 145 #[t71,(i64 0),(i64 7)] w λt72 w=>R t72 w) (∃ J4:NP 1,(v (et .eql 3 29 t29 (i64 35)) w62 λt74 w=>aH t74 (J4 t74 w) (v (et .eql 3 29 t29 (i64 36)) w λt75 w=>J4 t75 w)) /\
 ∀ t73 w68,J4 t73 w68->∀ _f:dT,aH t73 (fl 70 t1 1 3 w68 λt77 w=>c 145 #[t77,(i64 1),(i64 2)] w λt78 w=>R t78 w) (v (et .eql 3 29 t29 (i64 37)) w68 λt80 w72=>aH t80 (fl 70 t1 1 3 w72 λt82 w=>c 145 #[t82,(i64 0),(i64 7)] w λt83 w=>R t83 w) (v (et .eql 3 29 t29 (i64 38)) w72 λt85 w76=>aH t85 (fl 70 t1 1 3 w76 λt87 w=>c 145 #[t87,(i64 0),(i64 3)] w λt88 w=>R t88 w) (R (.bool true) w76))))))))))
theorem aIj (h:LS t0 w R):aB prog 111 #[t0] w R:=dw [l,jn [35],jn [41],jn [67],jn [73]] func111 h
def zM (t0 t1 t2:Z) (w:O) (R:Z->O->Prop):Prop:=
 v (box 46 t0) w λt3 w=>v (box 74 t1) w λt4 w=>v (box 70 t2) w λt5 w=>fl 70 t5 0 3 w λt10 w=>∃ J1:NP 1,(v (et .eql 3 10 t10 (i64 2)) w λt12 w=>aH t12 (J1 t12 w) (v (et .eql 3 10 t10 (i64 3)) w λt13 w=>J1 t13 w)) /\
 ∀ t11 w8,J1 t11 w8->∀ _f:dT,aH t11 (v (loadAt 74 t4) w8 λt15 w=>fl 70 t5 1 3 w λt17 w=>c 146 #[t15,t17] w λt18 w=>x2 t18 w λ_ t20 w=>R t20 w) (∃ J2:NP 1,(v (et .eql 3 10 t10 (i64 33)) w8 λt23 w=>aH t23 (J2 t23 w) (v (et .eql 3 10 t10 (i64 34)) w λt24 w=>J2 t24 w)) /\
 ∀ t22 w17,J2 t22 w17->∀ _f:dT,aH t22 (fl 70 t5 1 3 w17 λt26 w=>fl 46 t3 1 42 w λt28 w=>v (ln 42 3 t28) w λt29 w=>v (b .lss t26 t29) w λt30 w=>R t30 w) (v (et .eql 3 10 t10 (i64 37)) w17 λt32 w24=>aH t32 (fl 70 t5 1 3 w24 λt34 w=>fl 46 t3 3 44 w λt36 w=>v (ln 44 3 t36) w λt37 w=>v (b .lss t34 t37) w λt38 w=>R t38 w) (v (et .eql 3 10 t10 (i64 38)) w24 λt40 w31=>aH t40 (fl 70 t5 1 3 w31 λt42 w=>fl 46 t3 2 43 w λt44 w=>v (ln 43 3 t44) w λt45 w=>v (b .lss t42 t45) w λt46 w=>R t46 w) (∃ J3:NP 1,(v (et .eql 3 10 t10 (i64 23)) w31 λt48 w=>aH t48 (J3 t48 w) (v (et .eql 3 10 t10 (i64 24)) w λt49 w=>J3 t49 w)) /\
 ∀ t47 w40,J3 t47 w40->∀ _f:dT,aH t47 (fl 70 t5 1 3 w40 λt51 w=>fl 74 t4 3 71 w λt53 w=>v (ln 71 3 t53) w λt54 w=>v (b .lss t51 t54) w λt55 w=>R t55 w) (R (.bool true) w40)))))
theorem aIi (h:zM t0 t1 t2 w R):aB prog 112 #[t0,t1,t2] w R:=dw [jn [11],jn [22],jn [47]] func112 h
def LR (t0 t1 t2 t3:Z) (w:O) (R:Z->O->Prop):Prop:=
 v (box 46 t0) w λt4 w=>v (box 74 t1) w λt5 w=>v (box 70 t2) w λt6 w=>v (loadAt 46 t4) w λt20 w=>v (loadAt 74 t5) w λt21 w=>v (loadAt 70 t6) w λt22 w=>c 98 #[t20,t21,t22] w λt23 w=>v (ln 42 3 t3) w λt25 w=>v (b .lss t25 t23) w λt27 w=>aH t27 (R (.tuple #[cM,(i64 10)]) w) (v (ln 42 3 t3) w λt30 w=>v (b .sub t30 t23) w λt32 w=>v (sliceAt 42 t3 (some t32) none none) w λt33 w=>v (ln 42 3 t3) w λt36 w=>v (b .sub t36 t23) w λt38 w=>v (sliceAt 42 t3 none (some t38) none) w λt39 w=>v (ln 42 3 t39) w λt41 w=>v (loadAt 46 t4) w λt42 w=>v (loadAt 70 t6) w λt43 w=>c 108 #[t42,t43] w λt44 w=>v (b .add t41 t44) w λt45 w=>v (b .gtr t45 (i64 8)) w λt46 w=>aH t46 (R (.tuple #[cM,(i64 10)]) w) (v (build 266 #[]) w λt47 w=>v (box 266 t47) w λt48 w=>fl 70 t6 0 3 w λt50 w=>c 139 #[t50] w λt51 w=>∃ (I1:NP 1) (μ1:NF 1),I1 (i64 0) w /\
 ∀ t15 w27,I1 t15 w27->∀ _f:dT,v (ln 9 3 t51) w27 λt54 w=>v (b .lss t15 t54) w λt55 w29=>aH t55 (v (index 9 t51 t15) w29 λt60 w=>v (et .eql 5 60 t60 (Value.int IntKind.u8 97)) w λt61 w31=>aH t61 (Go.Vc.aY (t48) /\
 fl 266 t48 0 4 w31 λt66 w=>gk t66 false t33 w λt68 w=>gk t66 false t15 w λt69 w=>g t66 false (indexAt 42 t68 t69) w λt70 w=>g t66 false (loadAt 3 t70) w λt71 w=>gd t66 false (λK=> c 147 #[t71] w K) w λt72 w=>g t66 false (Op.unary UnOp.not t72) w λt73 w=>aG t66 (.bool true) t73 λt74=>Go.Vc.aY (t48) /\
 v (fieldAt 266 t48 0) w λt76 w=>u (storeAt 4 t76 t74) w λ_ w=>v (b .add t15 (i64 1)) w λt57 w=>I1 t57 w/\μ1 t57 w < μ1 t15 w27) (Go.Vc.aY (t48) /\
 fl 266 t48 0 4 w31 λt81 w=>gk t81 false t33 w λt83 w=>gk t81 false t15 w λt84 w=>g t81 false (indexAt 42 t83 t84) w λt85 w=>g t81 false (loadAt 3 t85) w λt86 w=>gd t81 false (λK=> c 148 #[t86] w K) w λt87 w=>g t81 false (Op.unary UnOp.not t87) w λt88 w=>aG t81 (.bool true) t88 λt89=>Go.Vc.aY (t48) /\
 v (fieldAt 266 t48 0) w λt91 w=>u (storeAt 4 t91 t89) w λ_ w=>Go.Vc.aY (t48) /\
 fl 266 t48 1 4 w λt96 w=>gk t96 false t51 w λt98 w=>gk t96 false t15 w λt99 w=>g t96 false (index 9 t98 t99) w λt100 w=>g t96 false (et .eql 5 100 t100 (Value.int IntKind.u8 112)) w λt101 w=>gk t96 false t101 w λt102 w=>gk t102 true t33 w λt103 w=>gk t102 true t15 w λt104 w=>g t102 true (indexAt 42 t103 t104) w λt105 w=>g t102 true (loadAt 3 t105) w λt106 w=>gd t102 true (λK=> c 149 #[t106] w K) w λt107 w=>gd t96 false (λK=> aG t102 t107 (.bool false) λv=> K v w) w λt108 w=>aG t96 (.bool true) t108 λt109=>Go.Vc.aY (t48) /\
 v (fieldAt 266 t48 1) w λt111 w=>u (storeAt 4 t111 t109) w λ_ w=>v (b .add t15 (i64 1)) w λt57_1 w=>I1 t57_1 w/\μ1 t57_1 w < μ1 t15 w27)) (∃ J2:NP 0,(fl 70 t6 0 3 w29 λt113 w=>v (et .eql 3 113 t113 (i64 3)) w λt115 w80=>aH t115 (v (loadAt 74 t5) w80 λt117 w=>fl 70 t6 1 3 w λt119 w=>c 146 #[t117,t119] w λt120 w=>x2 t120 w λt121 _ w=>il 42 t33 (i64 0) 3 w λt126 w=>c 151 #[t126,t121] w λt128 w=>c 150 #[t48,t128] w λ_ w=>J2 w) (v (et .eql 3 113 t113 (i64 34)) w80 λt131 w91=>aH t131 (aJ w91 λS22 w=>yi S22 42 t33 (i64 0) 3 λt135=>yf S22 46 t4 1 42 λt137=>yf S22 70 t6 1 3 λt139=>yi S22 42 t137 t139 3 λt141=>c 151 #[t135,t141] w λt142 w=>S22 w /\
 c 150 #[t48,t142] w λ_ w=>J2 w) (v (et .eql 3 113 t113 (i64 22)) w91 λt145 w95=>aH t145 (aJ w95 λS24 w=>Go.Vc.aY (t48) /\
 yf S24 266 t48 0 4 λt150=>gx t150 false t33 λt152=>gy t150 false S24 (indexAt 42 t152 (i64 0)) λt153=>gy t150 false S24 (loadAt 3 t153) λt154=>gd t150 false (λK=> c 148 #[t154] w K) w λt155 w=>S24 w /\
 gy t150 false S24 (Op.unary UnOp.not t155) λt156=>aG t150 (.bool true) t156 λt157=>gx t157 false t33 λt159=>gy t157 false S24 (indexAt 42 t159 (i64 1)) λt160=>gy t157 false S24 (loadAt 3 t160) λt161=>gx t157 false t33 λt163=>gy t157 false S24 (indexAt 42 t163 (i64 2)) λt164=>gy t157 false S24 (loadAt 3 t164) λt165=>gd t157 false (λK=> c 148 #[t161] w K) w λt162 w=>S24 w /\
 gd t157 false (λK=> c 148 #[t165] w K) w λt166 w=>S24 w /\
 gy t157 false S24 (e .neq 4 (.tmp 162) (.tmp 166) t162 t166) λt167=>aG t157 (.bool true) t167 λt168=>gx t168 false t33 λt170=>gy t168 false S24 (indexAt 42 t170 (i64 1)) λt171=>gy t168 false S24 (loadAt 3 t171) λt172=>gd t168 false (λK=> c 147 #[t172] w K) w λt173 w=>S24 w /\
 gx t168 false t173 λt174=>gx t174 true t33 λt175=>gy t174 true S24 (indexAt 42 t175 (i64 1)) λt176=>gy t174 true S24 (loadAt 3 t176) λt177=>gx t174 true t33 λt178=>gy t174 true S24 (indexAt 42 t178 (i64 2)) λt179=>gy t174 true S24 (loadAt 3 t179) λt180=>gy t174 true S24 (e .neq 3 (.tmp 177) (.tmp 180) t177 t180) λt181=>GP t168 false (λK=> aG t174 t181 (.bool false) K) λt182=>aG t168 (.bool true) t182 λt183=>Go.Vc.aY (t48) /\
 y S24 (fieldAt 266 t48 0) λt185=>u (storeAt 4 t185 t183) w λ_ w=>Go.Vc.aY (t48) /\
 fl 266 t48 1 4 w λt190 w=>gk t190 false t33 w λt192 w=>g t190 false (indexAt 42 t192 (i64 1)) w λt193 w=>g t190 false (loadAt 3 t193) w λt194 w=>gd t190 false (λK=> c 147 #[t194] w K) w λt195 w=>gk t190 false t195 w λt196 w=>gk t196 true t33 w λt197 w=>g t196 true (indexAt 42 t197 (i64 0)) w λt198 w=>g t196 true (loadAt 3 t198) w λt199 w=>gd t196 true (λK=> c 149 #[t199] w K) w λt200 w=>gd t190 false (λK=> aG t196 t200 (.bool false) λv=> K v w) w λt201 w=>aG t190 (.bool true) t201 λt202=>Go.Vc.aY (t48) /\
 v (fieldAt 266 t48 1) w λt204 w=>u (storeAt 4 t204 t202) w λ_ w=>J2 w) (v (et .eql 3 113 t113 (i64 30)) w95 λt206 w119=>aH t206 (Go.Vc.aY (t48) /\
 fl 266 t48 1 4 w119 λt211 w=>gk t211 false t33 w λt213 w=>g t211 false (indexAt 42 t213 (i64 0)) w λt214 w=>g t211 false (loadAt 3 t214) w λt215 w=>g t211 false (et .eql 3 215 t215 (i64 3)) w λt216 w=>gk t211 false t216 w λt217 w=>gk t217 true t33 w λt218 w=>g t217 true (indexAt 42 t218 (i64 2)) w λt219 w=>g t217 true (loadAt 3 t219) w λt220 w=>gd t217 true (λK=> c 149 #[t220] w K) w λt221 w=>gd t211 false (λK=> aG t217 t221 (.bool false) λv=> K v w) w λt222 w=>aG t211 (.bool true) t222 λt223=>Go.Vc.aY (t48) /\
 v (fieldAt 266 t48 1) w λt225 w=>u (storeAt 4 t225 t223) w λ_ w=>J2 w) (v (et .eql 3 113 t113 (i64 31)) w119 λt227 w137=>aH t227 (Go.Vc.aY (t48) /\
 fl 266 t48 1 4 w137 λt232 w=>gk t232 false t33 w λt234 w=>g t232 false (indexAt 42 t234 (i64 0)) w λt235 w=>g t232 false (loadAt 3 t235) w λt236 w=>g t232 false (et .eql 3 236 t236 (i64 3)) w λt237 w=>gk t232 false t237 w λt238 w=>gk t238 true t33 w λt239 w=>g t238 true (indexAt 42 t239 (i64 2)) w λt240 w=>g t238 true (loadAt 3 t240) w λt241 w=>g t238 true (et .eql 3 241 t241 (i64 4)) w λt242 w=>gd t232 false (λK=> aG t238 t242 (.bool false) λv=> K v w) w λt243 w=>aG t232 (.bool true) t243 λt244=>Go.Vc.aY (t48) /\
 v (fieldAt 266 t48 1) w λt246 w=>u (storeAt 4 t246 t244) w λ_ w=>J2 w) (v (et .eql 3 113 t113 (i64 36)) w137 λt248 w155=>aH t248 (Go.Vc.aY (t48) /\
 fl 266 t48 1 4 w155 λt253 w=>g t253 false (fieldAt 70 t6 1) w λt255 w=>g t253 false (loadAt 3 t255) w λt256 w=>g t253 false (et .eql 3 256 t256 (i64 1)) w λt257 w=>gk t253 false t257 w λt258 w=>gk t258 true t33 w λt259 w=>g t258 true (indexAt 42 t259 (i64 0)) w λt260 w=>g t258 true (loadAt 3 t260) w λt261 w=>g t258 true (et .eql 3 261 t261 (i64 4)) w λt262 w=>gd t253 false (λK=> aG t258 t262 (.bool false) λv=> K v w) w λt263 w=>aG t253 (.bool true) t263 λt264=>Go.Vc.aY (t48) /\
 v (fieldAt 266 t48 1) w λt266 w=>u (storeAt 4 t266 t264) w λ_ w=>J2 w) (v (et .eql 3 113 t113 (i64 37)) w155 λt268 w172=>aH t268 (∃ (I3:NP 1) (μ3:NF 1),I3 (i64 0) w172 /\
 ∀ t18 w173,I3 t18 w173->∀ _f:dT,v (b .lss t18 t23) w173 λt271 w174=>aH t271 (aJ w174 λS36 w=>yi S36 42 t33 t18 3 λt278=>yf S36 46 t4 3 44 λt280=>yf S36 70 t6 1 3 λt282=>y S36 (indexAt 44 t280 t282) λt283=>yf S36 74 t283 0 42 λt285=>yi S36 42 t285 t18 3 λt288=>c 151 #[t278,t288] w λt289 w=>S36 w /\
 c 150 #[t48,t289] w λ_ w=>S36 w /\
 v (b .add t18 (i64 1)) w λt273 w=>I3 t273 w/\μ3 t273 w < μ3 t18 w173) (J2 w174)) (v (et .eql 3 113 t113 (i64 38)) w172 λt292 w179=>aH t292 (∃ (I4:NP 1) (μ4:NF 1),I4 (i64 0) w179 /\
 ∀ t19 w180,I4 t19 w180->∀ _f:dT,v (b .lss t19 t23) w180 λt295 w181=>aH t295 (aJ w181 λS41 w=>yi S41 42 t33 t19 3 λt302=>yf S41 46 t4 2 43 λt304=>yf S41 70 t6 1 3 λt306=>y S41 (indexAt 43 t304 t306) λt307=>yf S41 180 t307 2 42 λt309=>yi S41 42 t309 t19 3 λt312=>c 151 #[t302,t312] w λt313 w=>S41 w /\
 c 150 #[t48,t313] w λ_ w=>S41 w /\
 v (b .add t19 (i64 1)) w λt297 w=>I4 t297 w/\μ4 t297 w < μ4 t19 w180) (J2 w181)) (v (et .eql 3 113 t113 (i64 39)) w179 λt316 w186=>aH t316 (v (b .gtr t23 (i64 0)) w186 λt318 w187=>aH t318 (aJ w187 λS44 w=>yi S44 42 t33 (i64 0) 3 λt322=>yf S44 74 t5 1 3 λt324=>c 151 #[t322,t324] w λt325 w=>S44 w /\
 c 150 #[t48,t325] w λ_ w=>J2 w) (J2 w187)) (J2 w186)))))))))) /\
 ∀ w:O,J2 w->∀ _f:dT,Go.Vc.aY (t48) /\
 fl 266 t48 0 4 w λt330 w=>aH t330 (R (.tuple #[cM,(i64 11)]) w) (Go.Vc.aY (t48) /\
 fl 266 t48 1 4 w λt334 w=>aH t334 (R (.tuple #[cM,(i64 12)]) w) (aJ w λS49 w=>y S49 (loadAt 46 t4) λt338=>y S49 (loadAt 74 t5) λt339=>y S49 (loadAt 70 t6) λt340=>v (buildSlice 42 0 #[]) w λt335 w=>S49 w /\
 v (Builtin.append_ #[42,42] 42 #[t335,t39]) w λt337 w=>S49 w /\
 c 152 #[t338,t339,t340,t33] w λt342 w=>S49 w /\
 v (Builtin.append_ #[42,42] 42 #[t337,t342]) w λt343 w=>S49 w /\
 R (.tuple #[t343,(i64 0)]) w)))))
theorem aIh (h:LR t0 t1 t2 t3 w R):aB prog 113 #[t0,t1,t2,t3] w R:=dw [l,l,lo [15],l,l,l,dr 0 11 2047 (tk (rg 0 9) (.only 10 (.last 11))),dr 0 40 1099511627775 (tk (rg 0 8) (.only 9 (tk (rg 10 15++[17,18,19]) (.only 16 (.only 20 (tk (rg 21 26) (.only 27 (tk (rg 28 39) (.last 40))))))))),l,lo [18],l,dr 0 17 131071 (tk (rg 0 14) (.only 15 (.only 16 .done))),l,lo [19],l,dr 0 17 131071 (tk (rg 0 14) (.only 15 (.only 16 .done))),l,dr 0 7 127 (tk (rg 0 5) (.only 6 (.last 7))),jn [],l,l,dr 0 11 2047 (tk ([1]++rg 3 6) (.only 0 (.only 2 (.only 7 (.only 8 (.take 9 (.take 10 .done)))))))] func113 h
def LQ (t0 t1:Z) (w:O) (R:Z->O->Prop):Prop:=
 v (box 70 t0) w λt2 w=>fl 70 t2 0 3 w λt6 w=>v (et .eql 3 6 t6 (i64 23)) w λt8 w4=>aH t8 (fl 70 t2 1 3 w4 λt10 w=>v (buildSlice 42 1 #[(0,t10)]) w λt11 w=>R t11 w) (v (et .eql 3 6 t6 (i64 24)) w4 λt13 w8=>aH t13 (v (b .add t1 (i64 1)) w8 λt15 w=>fl 70 t2 1 3 w λt17 w=>v (buildSlice 42 2 #[(0,t15),(1,t17)]) w λt18 w=>R t18 w) (v (et .eql 3 6 t6 (i64 39)) w8 λt20 w=>aH t20 (R cM w) (v (b .add t1 (i64 1)) w λt22 w=>v (buildSlice 42 1 #[(0,t22)]) w λt23 w=>R t23 w)))
theorem aIg (h:LQ t0 t1 w R):aB prog 114 #[t0,t1] w R:=dw [] func114 h
def LP (t0 t1:Z) (w:O) (R:Z->O->Prop):Prop:=
 v (ln 42 3 t0) w λt11 w=>v (ln 42 3 t1) w λt13 w=>v (e .neq 3 (.tmp 11) (.tmp 13) t11 t13) w λt14 w=>aH t14 (R (.tuple #[cM,(.bool false)]) w) (∃ (I1:NP 2) (μ1:NF 2),I1 cM (i64 0) w /\
 ∀ t6 t7 w4,I1 t6 t7 w4->∀ _f:dT,v (ln 42 3 t0) w4 λt17 w=>v (b .lss t7 t17) w λt18 w6=>aH t18 (aJ w6 λS7 w=>yi S7 42 t0 t7 3 λt25=>yi S7 42 t1 t7 3 λt29=>c 153 #[t25,t29] w λt30 w=>S7 w /\
 y S7 (extract t30 0) λt31=>y S7 (extract t30 1) λt32=>v (Op.unary UnOp.not t32) w λt34 w=>aH t34 (R (.tuple #[cM,(.bool false)]) w) (v (buildSlice 42 1 #[(0,t31)]) w λt37 w=>v (Builtin.append_ #[42,42] 42 #[t6,t37]) w λt38 w=>v (b .add t7 (i64 1)) w λt20 w=>I1 t38 t20 w/\μ1 t38 t20 w < μ1 t6 t7 w4)) (R (.tuple #[t6,(.bool true)]) w6))
theorem aIf (h:LP t0 t1 w R):aB prog 115 #[t0,t1] w R:=dw [l,lo [6,7],l,dr 0 14 16383 (tk (rg 0 7) (.only 8 (tk (rg 9 13) .done)))] func115 h
def LM (t0 t1:Z) (w:O) (R:Z->O->Prop):Prop:=
 v (ln 42 3 t0) w λt7 w=>v (ln 42 3 t1) w λt9 w=>v (e .neq 3 (.tmp 7) (.tmp 9) t7 t9) w λt10 w=>aH t10 (R (.bool false) w) (∃ (I1:NP 1) (μ1:NF 1),I1 (i64 0) w /\
 ∀ t5 w4,I1 t5 w4->∀ _f:dT,v (ln 42 3 t0) w4 λt13 w=>v (b .lss t5 t13) w λt14 w6=>aH t14 (aJ w6 λS6 w=>yi S6 42 t0 t5 3 λt20=>yi S6 42 t1 t5 3 λt24=>y S6 (e .neq 3 (.tmp 20) (.tmp 24) t20 t24) λt25=>aH t25 (R (.bool false) w) (v (b .add t5 (i64 1)) w λt16 w=>I1 t16 w/\μ1 t16 w < μ1 t5 w4)) (R (.bool true) w6))
theorem aIe (h:LM t0 t1 w R):aB prog 116 #[t0,t1] w R:=dw [l,lo [5],l,dr 0 9 511 (tk (rg 0 8) .done)] func116 h
def LL (t0 t1:Z) (w:O) (R:Z->O->Prop):Prop:=
 v (box 46 t0) w λt2 w=>v (loadAt 46 t2) w λt9 w=>c 154 #[t9] w λt10 w=>x2 t10 w λt11 t12 w=>st 76 t11 w λ_ w=>v (et .neq 34 13 t12 (i64 0)) w λt14 w=>gk t14 false t1 w λt16 w=>g t14 false (b .lss t16 (i64 0)) w λt17 w=>aG t14 (.bool true) t17 λt18=>gk t18 false t1 w λt20 w=>g t18 false (fieldAt 46 t2 3) w λt21 w=>g t18 false (loadAt 44 t21) w λt22 w=>g t18 false (ln 44 3 t22) w λt23 w=>g t18 false (b .geq t20 t23) w λt24 w=>aG t18 (.bool true) t24 λt25=>aH t25 (R (Value.pointer none) w) (v (loadAt 46 t2) w λt26 w=>c 155 #[t26,t1] w λt28 w=>c 156 #[t28] w λ_ w=>R t28 w)
theorem aId (h:LL t0 t1 w R):aB prog 117 #[t0,t1] w R:=dw [] func117 h
def LK (t0:Z) (w:O) (R:Z->O->Prop):Prop:=
 v (b .add (i64 10) t0) w λt4 w=>R t4 w
theorem aIc (h:LK t0 w R):aB prog 118 #[t0] w R:=dw [] func118 h
def LJ (t0 t1:Z) (w:O) (R:Z->O->Prop):Prop:=
 v (et .eql 3 5 t0 (i64 0)) w λt6 w=>aH t6 (R (i64 (-1)) w) (c 118 #[t1] w λt8 w=>R t8 w)
theorem aIb (h:LJ t0 t1 w R):aB prog 119 #[t0,t1] w R:=dw [] func119 h
def LI (t0 t1:Z) (w:O) (R:Z->O->Prop):Prop:=
 v (b .sub t0 t1) w λt9 w=>∃ (I1:NP 2) (μ1:NF 2),I1 cM t9 w /\
 ∀ t5 t6 w2,I1 t5 t6 w2->∀ _f:dT,v (b .lss t6 t0) w2 λt12 w3=>aH t12 (c 118 #[t6] w3 λt17 w=>v (buildSlice 42 1 #[(0,t17)]) w λt18 w=>v (Builtin.append_ #[42,42] 42 #[t5,t18]) w λt19 w=>v (b .add t6 (i64 1)) w λt14 w=>I1 t19 t14 w/\μ1 t19 t14 w < μ1 t5 t6 w2) (R t5 w3)
theorem aIa (h:LI t0 t1 w R):aB prog 120 #[t0,t1] w R:=dw [lo [5,6]] func120 h
def LH (t0 t1:Z) (w:O) (R:Z->O->Prop):Prop:=
 v (box 70 t0) w λt2 w=>fl 70 t2 0 3 w λt10 w=>c 157 #[t10] w λt11 w=>x2 t11 w λt12 t13 w=>v (et .eql 3 14 t12 (i64 0)) w λt15 w7=>aH t15 (R Value.nilIface w7) (∃ J1:NP 1,(aH t13 (v (b .sub t1 t12) w7 λt19 w=>c 118 #[t19] w λt20 w=>J1 t20 w) (J1 (i64 (-1)) w7)) /\
 ∀ t7 w,J1 t7 w->∀ _f:dT,aJ w λS7 w=>yf S7 70 t2 0 3 λt22=>yf S7 70 t2 1 3 λt24=>yf S7 70 t2 2 3 λt26=>c 120 #[t1,t12] w λt30 w=>S7 w /\
 y S7 (build 276 #[(0,t22),(1,t24),(2,t26),(3,t7),(4,t30)]) λt31=>y S7 (makeInterface 276 t31) λt32=>R t32 w)
theorem aHz (h:LH t0 t1 w R):aB prog 121 #[t0,t1] w R:=dw [l,jn [7],dr 0 13 8191 (tk (rg 0 8) (.only 9 (tk [10,11,12] .done)))] func121 h
def tY (t0:Z) (w:O) (R:Z->O->Prop):Prop:=
 v (et .eql 42 3 t0 cM) w λt4 w=>aH t4 (R cM w) (v (buildSlice 42 0 #[]) w λt5 w=>v (Builtin.append_ #[42,42] 42 #[t5,t0]) w λt7 w=>R t7 w)
theorem EH (h:tY t0 w R):aB prog 122 #[t0] w R:=dw [] func122 h
def LG (t0:Z) (w:O) (R:Z->O->Prop):Prop:=
 v (et .eql 43 3 t0 cM) w λt4 w=>aH t4 (R cM w) (v (buildSlice 43 0 #[]) w λt5 w=>v (Builtin.append_ #[43,43] 43 #[t5,t0]) w λt7 w=>R t7 w)
theorem aHy (h:LG t0 w R):aB prog 123 #[t0] w R:=dw [] func123 h
def LF (t0:Z) (w:O) (R:Z->O->Prop):Prop:=
 v (et .eql 44 3 t0 cM) w λt4 w=>aH t4 (R cM w) (v (buildSlice 44 0 #[]) w λt5 w=>v (Builtin.append_ #[44,44] 44 #[t5,t0]) w λt7 w=>R t7 w)
theorem aHx (h:LF t0 w R):aB prog 124 #[t0] w R:=dw [] func124 h
def LD (t0:Z) (w:O) (R:Z->O->Prop):Prop:=
 v (et .eql 71 3 t0 cM) w λt4 w=>aH t4 (R cM w) (v (buildSlice 71 0 #[]) w λt5 w=>v (Builtin.append_ #[71,71] 71 #[t5,t0]) w λt7 w=>R t7 w)
theorem aHw (h:LD t0 w R):aB prog 125 #[t0] w R:=dw [] func125 h
def LC (t0 t1 t2:Z) (w:O) (R:Z->O->Prop):Prop:=
 v (box 83 t0) w λt3 w=>c 158 #[t1] w λt13 w=>v (Op.unary UnOp.not t13) w λt14 w=>aH t14 (R (.bool false) w) (c 159 #[t1] w λt16 w=>v (ln 42 3 t16) w λt17 w=>∃ (I1:NP 1) (μ1:NF 1),I1 (i64 0) w /\
 ∀ t18 w6,I1 t18 w6->∀ _f:dT,v (b .lss t18 t17) w6 λt19 w7=>aH t19 (il 42 t16 t18 3 w7 λt21 w=>fl 83 t3 1 3 w λt24 w=>c 80 #[t21,t24] w λt25 w=>v (Op.unary UnOp.not t25) w λt26 w=>aH t26 (R (.bool false) w) (v (b .add t18 (i64 1)) w λt27 w=>I1 t27 w/\μ1 t27 w < μ1 t18 w6)) (c 160 #[t1,t2] w7 λt30 w=>v (ln 42 3 t30) w λt31 w=>∃ (I2:NP 1) (μ2:NF 1),I2 (i64 0) w /\
 ∀ t32 w17,I2 t32 w17->∀ _f:dT,v (b .lss t32 t31) w17 λt33 w18=>aH t33 (il 42 t30 t32 3 w18 λt35 w=>fl 83 t3 2 81 w λt38 w=>v (ln 81 3 t38) w λt39 w=>c 80 #[t35,t39] w λt40 w=>v (Op.unary UnOp.not t40) w λt41 w=>aH t41 (R (.bool false) w) (v (b .add t32 (i64 1)) w λt42 w=>I2 t42 w/\μ2 t42 w < μ2 t32 w17)) (c 161 #[t1] w18 λt44 w=>fl 83 t3 1 3 w λt47 w=>c 80 #[t44,t47] w λt48 w=>gk t48 false t44 w λt50 w=>g t48 false (et .eql 3 50 t50 (i64 (-1))) w λt51 w=>gk t48 false t51 w λt52 w=>gk t52 true t1 w λt53 w=>gd t52 true (λK=> c 162 #[t53] w K) w λt54 w=>gd t48 false (λK=> aG t52 t54 (.bool false) λv=> K v w) w λt55 w=>aG t48 (.bool true) t55 λt56=>R t56 w)))
theorem aHv (h:LC t0 t1 t2 w R):aB prog 126 #[t0,t1,t2] w R:=dw [l,lo [18],l,l,l,lo [32]] func126 h
def zL (t0 t1 t2:Z) (w:O) (R:Z->O->Prop):Prop:=
 v (et .eql 3 7 t0 (i64 6)) w λt9 w1=>aH t9 (c 163 #[t1,t2] w1 λt12 w=>R t12 w) (v (et .eql 3 7 t0 (i64 7)) w1 λt14 w3=>aH t14 (c 164 #[t1,t2] w3 λt17 w=>R t17 w) (v (et .eql 3 7 t0 (i64 8)) w3 λt19 w5=>aH t19 (c 165 #[t1,t2] w5 λt22 w=>R t22 w) (v (et .eql 3 7 t0 (i64 9)) w5 λt24 w7=>aH t24 (c 166 #[t1,t2] w7 λt27 w=>R t27 w) (v (et .eql 3 7 t0 (i64 10)) w7 λt29 w9=>aH t29 (c 167 #[t1,t2] w9 λt32 w=>R t32 w) (v (et .eql 3 7 t0 (i64 11)) w9 λt34 w11=>aH t34 (c 168 #[t1,t2] w11 λt37 w=>R t37 w) (v (et .eql 3 7 t0 (i64 12)) w11 λt39 w13=>aH t39 (c 169 #[t1,t2] w13 λt42 w=>R t42 w) (v (et .eql 3 7 t0 (i64 13)) w13 λt44 w15=>aH t44 (c 170 #[t1,t2] w15 λt47 w=>R t47 w) (v (et .eql 3 7 t0 (i64 14)) w15 λt49 w17=>aH t49 (c 171 #[t1,t2] w17 λt52 w=>R t52 w) (v (et .eql 3 7 t0 (i64 19)) w17 λt54 w19=>aH t54 (c 172 #[t1,t2] w19 λt57 w=>R t57 w) (v (et .eql 3 7 t0 (i64 20)) w19 λt59 w21=>aH t59 (c 173 #[t1,t2] w21 λt62 w=>R t62 w) (c 174 #[t1,t2] w21 λt65 w=>R t65 w)))))))))))
theorem aHu (h:zL t0 t1 t2 w R):aB prog 127 #[t0,t1,t2] w R:=dw [] func127 h
def zK (t0 t1:Z) (w:O) (R:Z->O->Prop):Prop:=
 v (et .eql 3 5 t0 (i64 15)) w λt7 w1=>aH t7 (c 175 #[t1] w1 λt9 w=>R t9 w) (v (et .eql 3 5 t0 (i64 16)) w1 λt11 w3=>aH t11 (c 176 #[t1] w3 λt13 w=>R t13 w) (c 172 #[t1,(Value.int IntKind.i32 0)] w3 λt15 w=>R t15 w))
theorem aHt (h:zK t0 t1 w R):aB prog 128 #[t0,t1] w R:=dw [] func128 h
def LB (t0 t1 t2:Z) (w:O) (R:Z->O->Prop):Prop:=
 c 177 #[t0] w λt9 w=>v (Op.unary UnOp.neg t9) w λt10 w=>v (binOp .and 21 t1 t10) w λt13 w=>v (binOp .andNot 21 t2 t10) w λt16 w=>v (binOp .or 21 t13 t16) w λt17 w=>R t17 w
theorem aHs (h:LB t0 t1 t2 w R):aB prog 129 #[t0,t1,t2] w R:=dw [] func129 h
def LA (t0 t1 t2 t3 t4:Z) (w:O) (R:Z->O->Prop):Prop:=
 v (box 254 t1) w λt6 w=>fl 254 t6 0 3 w λt21 w=>c 11 #[t21,(i64 16)] w λt22 w=>∃ J1:NP 1,(v (et .eql 3 22 t22 (i64 0)) w λt31 w=>aH t31 (J1 t31 w) (v (et .eql 3 22 t22 (i64 1)) w λt32 w=>aH t32 (J1 t32 w) (v (et .eql 3 22 t22 (i64 2)) w λt33 w=>J1 t33 w))) /\
 ∀ t30 w8,J1 t30 w8->∀ _f:dT,aH t30 (Go.Vc.aY (t0) /\
 fl 252 t0 3 42 w8 λt37 w=>v (ln 42 3 t37) w λt38 w=>v (et .eql 3 38 t38 (i64 0)) w λt39 w=>aH t39 (R (.tuple #[]) w) (aJ w λS8 w=>yf S8 254 t6 1 3 λt41=>Go.Vc.aY (t0) /\
 yf S8 252 t0 3 42 λt45=>y S8 (ln 42 3 t45) λt46=>c 11 #[t41,t46] w λt47 w=>S8 w /\
 Go.Vc.aY (t0) /\
 fl 252 t0 3 42 w λt52 w=>il 42 t52 t47 3 w λt55 w=>c 131 #[t0,t55] w λ_ w=>c 132 #[t0,(i64 3),t47,(i64 0)] w λ_ w=>R (.tuple #[]) w)) (∃ J2:NP 1,(v (et .eql 3 22 t22 (i64 3)) w8 λt61 w=>aH t61 (J2 t61 w) (v (et .eql 3 22 t22 (i64 4)) w λt62 w=>J2 t62 w)) /\
 ∀ t60 w25,J2 t60 w25->∀ _f:dT,aH t60 (fl 254 t6 1 3 w25 λt64 w=>c 11 #[t64,(i64 2)] w λt65 w=>v (b .add (i64 3) t65) w λt66 w=>c 178 #[t0,t66] w λ_ w=>c 179 #[t0] w λ_ w=>v (b .sub t66 (i64 2)) w λt74 w=>c 131 #[t0,t74] w λ_ w=>c 132 #[t0,(i64 30),(i64 0),(i64 0)] w λ_ w=>R (.tuple #[]) w) (v (et .eql 3 22 t22 (i64 5)) w25 λt79 w35=>aH t79 (fl 254 t6 1 3 w35 λt81 w=>c 11 #[t81,(i64 4)] w λt82 w=>v (b .add (i64 1) t82) w λt85 w=>c 131 #[t0,t85] w λ_ w=>c 132 #[t0,(i64 34),t82,(i64 0)] w λ_ w=>R (.tuple #[]) w) (v (et .eql 3 22 t22 (i64 6)) w35 λt91 w42=>aH t91 (fl 254 t6 1 3 w42 λt93 w=>c 11 #[t93,(i64 2)] w λt94 w=>v (b .add (i64 3) t94) w λt95 w=>fl 254 t6 2 3 w λt97 w=>c 11 #[t97,(i64 2)] w λt98 w=>v (b .add (i64 3) t98) w λt99 w=>∃ J3:NP 1,(v (et .eql 3 100 t95 (i64 3)) w λt101 w=>aH t101 (J3 t95 w) (J3 t99 w)) /\
 ∀ t14 w,J3 t14 w->∀ _f:dT,c 178 #[t0,t95] w λ_ w=>c 179 #[t0] w λ_ w=>c 178 #[t0,t14] w λ_ w=>c 179 #[t0] w λ_ w=>c 179 #[t0] w λ_ w=>c 132 #[t0,(i64 31),(i64 0),(i64 0)] w λ_ w=>R (.tuple #[]) w) (∃ J4:NP 1,(v (et .eql 3 22 t22 (i64 7)) w42 λt118 w=>aH t118 (J4 t118 w) (v (et .eql 3 22 t22 (i64 8)) w λt119 w=>J4 t119 w)) /\
 ∀ t117 w61,J4 t117 w61->∀ _f:dT,aH t117 (fl 254 t6 1 3 w61 λt121 w=>c 11 #[t121,(i64 2)] w λt122 w=>v (b .add (i64 1) t122) w λt123 w=>v (b .add (i64 3) t123) w λt126 w=>v (b .sub t126 (i64 1)) w λt127 w=>c 178 #[t0,t127] w λ_ w=>c 179 #[t0] w λ_ w=>c 179 #[t0] w λ_ w=>c 132 #[t0,(i64 36),t123,(i64 0)] w λ_ w=>R (.tuple #[]) w) (∃ J5:NP 1,(v (et .eql 3 22 t22 (i64 9)) w61 λt137 w=>aH t137 (J5 t137 w) (v (et .eql 3 22 t22 (i64 10)) w λt138 w=>J5 t138 w)) /\
 ∀ t136 w74,J5 t136 w74->∀ _f:dT,aH t136 (c 180 #[t0] w74 λ_ w=>c 132 #[t0,(i64 24),(i64 (-1)),(i64 0)] w λ_ w=>fl 254 t6 1 3 w λt144 w=>c 11 #[t144,(i64 4)] w λt145 w=>v (et .eql 3 145 t145 (i64 0)) w λt146 w=>gk t146 true t2 w λt148 w=>g t146 true (ln 42 3 t148) w λt149 w=>g t146 true (b .gtr t149 (i64 0)) w λt150 w83=>aG t146 t150 (.bool false) λt151=>aH t151 (aJ w83 λS45 w=>Go.Vc.aY (t0) /\
 yf S45 252 t0 0 71 λt155=>Go.Vc.aY (t0) /\
 yf S45 252 t0 0 71 λt159=>y S45 (ln 71 3 t159) λt160=>y S45 (b .sub t160 (i64 1)) λt161=>yf S45 254 t6 2 3 λt164=>y S45 (ln 42 3 t2) λt166=>c 11 #[t164,t166] w λt167 w=>S45 w /\
 yi S45 42 t2 t167 3 λt169=>y S45 (indexAt 71 t155 t161) λt170=>y S45 (fieldAt 70 t170 1) λt171=>u (storeAt 3 t171 t169) w λ_ w=>R (.tuple #[]) w) (R (.tuple #[]) w83)) (∃ J6:NP 1,(v (et .eql 3 22 t22 (i64 11)) w74 λt173 w=>aH t173 (J6 t173 w) (v (et .eql 3 22 t22 (i64 12)) w λt174 w=>J6 t174 w)) /\
 ∀ t172 w90,J6 t172 w90->∀ _f:dT,aH t172 (fl 254 t6 1 3 w90 λt176 w=>v (ln 44 3 t3) w λt178 w=>c 11 #[t176,t178] w λt179 w=>∃ J7:NP 1,(v (et .eql 3 180 t179 (i64 0)) w λt181 w=>g t181 true (fieldAt 254 t6 2) w λt183 w=>g t181 true (loadAt 3 t183) w λt184 w=>g t181 true (b .rem t184 (i64 5)) w λt185 w=>g t181 true (b .gtr t185 (i64 0)) w λt186 w99=>aG t181 t186 (.bool false) λt187=>aH t187 (v (ln 44 3 t3) w99 λt189 w=>v (b .sub t189 (i64 1)) w λt190 w=>J7 t190 w) (J7 t179 w99)) /\
 ∀ t16 w,J7 t16 w->∀ _f:dT,∃ (I8:NP 1) (μ8:NF 1),I8 (i64 0) w /\
 ∀ t17 w104,I8 t17 w104->∀ _f:dT,jl 44 t3 t16 74 0 42 w104 λt196 w=>v (ln 42 3 t196) w λt197 w=>v (b .lss t17 t197) w λt198 w109=>aH t198 (jl 44 t3 t16 74 0 42 w109 λt206 w=>il 42 t206 t17 3 w λt209 w=>c 131 #[t0,t209] w λ_ w=>v (b .add t17 (i64 1)) w λt200 w=>I8 t200 w/\μ8 t200 w < μ8 t17 w104) (c 132 #[t0,(i64 37),t16,(i64 0)] w109 λ_ w=>jl 44 t3 t16 74 1 3 w λt218 w=>v (et .neq 3 218 t218 (i64 0)) w λt219 w121=>aH t219 (c 132 #[t0,(i64 4),(i64 0),(i64 0)] w121 λ_ w=>R (.tuple #[]) w) (R (.tuple #[]) w121))) (v (et .eql 3 22 t22 (i64 13)) w90 λt223 w123=>aH t223 (v (ln 43 3 t4) w123 λt225 w=>v (et .eql 3 225 t225 (i64 0)) w λt226 w=>aH t226 (R (.tuple #[]) w) (fl 254 t6 1 3 w λt228 w=>v (ln 43 3 t4) w λt230 w=>c 11 #[t228,t230] w λt231 w=>∃ (I9:NP 1) (μ9:NF 1),I9 (i64 0) w /\
 ∀ t19 w130,I9 t19 w130->∀ _f:dT,jl 43 t4 t231 180 2 42 w130 λt237 w=>v (ln 42 3 t237) w λt238 w=>v (b .lss t19 t238) w λt239 w135=>aH t239 (jl 43 t4 t231 180 2 42 w135 λt247 w=>il 42 t247 t19 3 w λt250 w=>c 131 #[t0,t250] w λ_ w=>v (b .add t19 (i64 1)) w λt241 w=>I9 t241 w/\μ9 t241 w < μ9 t19 w130) (c 132 #[t0,(i64 38),t231,(i64 0)] w135 λ_ w=>jl 43 t4 t231 180 3 3 w λt259 w=>v (et .neq 3 259 t259 (i64 0)) w λt260 w147=>aH t260 (c 132 #[t0,(i64 4),(i64 0),(i64 0)] w147 λ_ w=>R (.tuple #[]) w) (R (.tuple #[]) w147)))) (v (et .eql 3 22 t22 (i64 14)) w123 λt264 w149=>aH t264 (c 180 #[t0] w149 λ_ w=>c 132 #[t0,(i64 5),(i64 0),(i64 0)] w λ_ w=>c 132 #[t0,(i64 4),(i64 0),(i64 0)] w λ_ w=>c 132 #[t0,(i64 4),(i64 0),(i64 0)] w λ_ w=>R (.tuple #[]) w) (fl 254 t6 1 3 w149 λt25 w=>v (b .rem t25 (i64 50)) w λt26 w=>c 132 #[t0,(i64 1),t26,(i64 0)] w λ_ w=>c 132 #[t0,(i64 4),(i64 0),(i64 0)] w λ_ w=>R (.tuple #[]) w)))))))))
theorem aHr (h:LA t0 t1 t2 t3 t4 w R):aB prog 130 #[t0,t1,t2,t3,t4] w R:=dw [jn [30],l,dr 0 9 511 (tk (rg 0 6) (.only 7 (.take 8 .done))),l,jn [60],jn [14],jn [117],jn [136],dr 0 20 1048575 (tk (rg 0 14) (.only 15 (tk (rg 16 19) (.last 20)))),jn [172],jn [16],lo [17],l,l,l,l,lo [19]] func130 h
def zJ (t0 t1:Z) (w:O) (R:Z->O->Prop):Prop:=
 v (et .eql 3 4 t1 (i64 1)) w λt9 w1=>aH t9 (c 180 #[t0] w1 λ_ w=>R (.tuple #[]) w) (v (et .eql 3 4 t1 (i64 2)) w1 λt13 w3=>aH t13 (c 181 #[t0] w3 λ_ w=>R (.tuple #[]) w) (c 178 #[t0,t1] w3 λ_ w=>R (.tuple #[]) w))
theorem SE (h:zJ t0 t1 w R):aB prog 131 #[t0,t1] w R:=dw [] func131 h
def zI (t0 t1 t2 t3:Z) (w:O) (R:Z->O->Prop):Prop:=
 Go.Vc.aY (t0) /\
 fl 252 t0 0 71 w λt12 w=>v (build 70 #[(0,t1),(1,t2),(2,t3)]) w λt16 w=>v (buildSlice 71 1 #[(0,t16)]) w λt17 w=>v (Builtin.append_ #[71,71] 71 #[t12,t17]) w λt18 w=>Go.Vc.aY (t0) /\
 v (fieldAt 252 t0 0) w λt20 w=>u (storeAt 71 t20 t18) w λ_ w=>R (.tuple #[]) w
theorem SD (h:zI t0 t1 t2 t3 w R):aB prog 132 #[t0,t1,t2,t3] w R:=dw [] func132 h
def KZ (t0 t1:Z) (w:O) (R:Z->O->Prop):Prop:=
 Go.Vc.aY (t0) /\
 fl 114 t0 5 37 w λt8 w=>v (buildSlice 37 1 #[(0,t1)]) w λt10 w=>v (Builtin.append_ #[37,37] 37 #[t8,t10]) w λt11 w=>Go.Vc.aY (t0) /\
 v (fieldAt 114 t0 5) w λt13 w=>u (storeAt 37 t13 t11) w λ_ w=>R (.tuple #[]) w
theorem aHq (h:KZ t0 t1 w R):aB prog 134 #[t0,t1] w R:=dw [] func134 h
def KY (t0:Z) (w:O) (R:Z->O->Prop):Prop:=
 c 91 #[t0,(i64 1)] w λt4 w=>il 37 t4 (i64 0) 21 w λt6 w=>R t6 w
theorem aHp (h:KY t0 w R):aB prog 135 #[t0] w R:=dw [] func135 h
def KX (t0 t1 t2 t3:Z) (w:O) (R:Z->O->Prop):Prop:=
 c 37 #[t0,t1,t2] w λt15 w=>x2 t15 w λ_ t17 w=>v (Op.unary UnOp.not t17) w λt19 w=>aH t19 (R (.bool false) w) (Go.Vc.aY (t0) /\
 fl 134 t0 2 132 w λt23 w=>il 132 t23 t1 37 w λt26 w=>v (indexAt 37 t26 t2) w λt29 w=>u (storeAt 21 t29 t3) w λ_ w=>R (.bool true) w)
theorem aHo (h:KX t0 t1 t2 t3 w R):aB prog 137 #[t0,t1,t2,t3] w R:=dw [] func137 h
def zH (t0 t1:Z) (w:O) (R:Z->O->Prop):Prop:=
 v (et .eql 3 7 t1 (i64 15)) w λt9 w1=>aH t9 (c 135 #[t0] w1 λt11 w=>c 175 #[t11] w λt12 w=>R t12 w) (v (et .eql 3 7 t1 (i64 16)) w1 λt14 w4=>aH t14 (c 135 #[t0] w4 λt16 w=>c 176 #[t16] w λt17 w=>R t17 w) (v (et .eql 3 7 t1 (i64 26)) w4 λt19 w7=>aH t19 (c 135 #[t0] w7 λt21 w=>c 172 #[t21,(Value.int IntKind.i32 0)] w λt22 w=>R t22 w) (v (et .eql 3 7 t1 (i64 22)) w7 λt24 w10=>aH t24 (c 91 #[t0,(i64 3)] w10 λt26 w=>aJ w λS10 w=>yi S10 37 t26 (i64 0) 21 λt29=>yi S10 37 t26 (i64 1) 21 λt32=>yi S10 37 t26 (i64 2) 21 λt35=>c 129 #[t29,t32,t35] w λt36 w=>S10 w /\
 R t36 w) (c 91 #[t0,(i64 2)] w10 λt38 w=>aJ w λS12 w=>yi S12 37 t38 (i64 0) 21 λt42=>yi S12 37 t38 (i64 1) 21 λt45=>c 194 #[t1,t42,t45] w λt46 w=>S12 w /\
 R t46 w))))
theorem aHn (h:zH t0 t1 w R):aB prog 138 #[t0,t1] w R:=dw [dr 0 11 2047 (tk (rg 0 8) (.only 9 (.take 10 .done))),l,l,dr 0 9 511 (tk (rg 0 6) (.only 7 (.take 8 .done)))] func138 h
def KW (t0:Z) (w:O) (R:Z->O->Prop):Prop:=
 ∃ J1:NP 1,(v (et .eql 3 3 t0 (i64 6)) w λt5 w=>aH t5 (J1 t5 w) (v (et .eql 3 3 t0 (i64 7)) w λt6 w=>aH t6 (J1 t6 w) (v (et .eql 3 3 t0 (i64 8)) w λt7 w=>aH t7 (J1 t7 w) (v (et .eql 3 3 t0 (i64 9)) w λt8 w=>aH t8 (J1 t8 w) (v (et .eql 3 3 t0 (i64 10)) w λt9 w=>aH t9 (J1 t9 w) (v (et .eql 3 3 t0 (i64 11)) w λt10 w=>aH t10 (J1 t10 w) (v (et .eql 3 3 t0 (i64 12)) w λt11 w=>aH t11 (J1 t11 w) (v (et .eql 3 3 t0 (i64 13)) w λt12 w=>aH t12 (J1 t12 w) (v (et .eql 3 3 t0 (i64 14)) w λt13 w=>aH t13 (J1 t13 w) (v (et .eql 3 3 t0 (i64 19)) w λt14 w=>aH t14 (J1 t14 w) (v (et .eql 3 3 t0 (i64 20)) w λt15 w=>aH t15 (J1 t15 w) (v (et .eql 3 3 t0 (i64 21)) w λt16 w=>J1 t16 w)))))))))))) /\
 ∀ t4 w,J1 t4 w->∀ _f:dT,aH t4 (R (Value.string { data:=#[105,105] }) w) (∃ J2:NP 1,(v (et .eql 3 3 t0 (i64 15)) w λt18 w=>aH t18 (J2 t18 w) (v (et .eql 3 3 t0 (i64 16)) w λt19 w=>J2 t19 w)) /\
 ∀ t17 w,J2 t17 w->∀ _f:dT,aH t17 (R (Value.string { data:=#[105] }) w) (∃ J3:NP 1,(v (et .eql 3 3 t0 (i64 17)) w λt21 w=>aH t21 (J3 t21 w) (v (et .eql 3 3 t0 (i64 18)) w λt22 w=>J3 t22 w)) /\
 ∀ t20 w,J3 t20 w->∀ _f:dT,aH t20 (R (Value.string { data:=#[112,112] }) w) (∃ J4:NP 1,(v (et .eql 3 3 t0 (i64 24)) w λt24 w=>aH t24 (J4 t24 w) (v (et .eql 3 3 t0 (i64 27)) w λt25 w=>J4 t25 w)) /\
 ∀ t23 w,J4 t23 w->∀ _f:dT,aH t23 (R (Value.string { data:=#[112] }) w) (∃ J5:NP 1,(v (et .eql 3 3 t0 (i64 26)) w λt27 w=>aH t27 (J5 t27 w) (v (et .eql 3 3 t0 (i64 28)) w λt28 w=>J5 t28 w)) /\
 ∀ t26 w,J5 t26 w->∀ _f:dT,aH t26 (R (Value.string { data:=#[97] }) w) (v (et .eql 3 3 t0 (i64 29)) w λt30 w=>aH t30 (R (Value.string { data:=#[97,112] }) w) (v (et .eql 3 3 t0 (i64 30)) w λt32 w=>aH t32 (R (Value.string { data:=#[97,112,105] }) w) (v (et .eql 3 3 t0 (i64 31)) w λt34 w28=>aH t34 (aH t34 (R (Value.string { data:=#[97,112,97,112,112] }) w28) (v (et .eql 3 3 t0 (i64 36)) w28 λt37 w=>aH t37 (R (Value.string { data:=#[97,112,112] }) w) (R (Value.string { data:=#[] }) w))) (v (et .eql 3 3 t0 (i64 32)) w28 λt35 w=>aH t35 (R (Value.string { data:=#[97,112,97,112,112] }) w) (v (et .eql 3 3 t0 (i64 36)) w λt37_1 w=>aH t37_1 (R (Value.string { data:=#[97,112,112] }) w) (R (Value.string { data:=#[] }) w))))))))))
theorem aHm (h:KW t0 w R):aB prog 139 #[t0] w R:=dw [jn [4],jn [17],jn [20],jn [23],jn [26]] func139 h
def KV (t0:Z) (w:O) (R:Z->O->Prop):Prop:=
 ∃ (I1:NP 1) (μ1:NF 1),I1 t0 w /\
 ∀ t0_1 w1,I1 t0_1 w1->∀ _f:dT,v (ln 9 3 t0_1) w1 λt8 w=>v (b .gtr t8 (i64 0)) w λt9 w3=>aH t9 (v (index 9 t0_1 (i64 0)) w3 λt11 w=>v (binOp .lss 5 t11 (Value.int IntKind.u8 128)) w λt13 w5=>aH t13 (v (sliceAt 9 t0_1 (some (i64 1)) none none) w5 λt15 w=>∃ J2:NP 1,(v (ln 9 3 t15) w λt17 w=>v (b .gtr t17 (i64 8)) w λt18 w=>gk t18 true t15 w λt20 w=>gd t18 true (λK=> c 195 #[t20] w K) w λt21 w=>g t18 true (binOp .and 12 t21 (Value.int IntKind.u64 9259542123273814144)) w λt22 w=>g t18 true (et .eql 12 22 t22 (Value.int IntKind.u64 0)) w λt23 w12=>aG t18 t23 (.bool false) λt24=>aH t24 (v (sliceAt 9 t15 (some (i64 8)) none none) w12 λt26 w=>aJ w λS7 w=>y S7 (ln 9 3 t26) λt28=>y S7 (b .gtr t28 (i64 16)) λt29=>gx t29 true t26 λt31=>gx t29 true t26 λt33=>gy t29 true S7 (sliceAt 9 t33 (some (i64 8)) none none) λt34=>gd t29 true (λK=> c 195 #[t31] w K) w λt32 w=>S7 w /\
 gd t29 true (λK=> c 195 #[t34] w K) w λt35 w17=>S7 w17 /\
 gy t29 true S7 (binOp .or 12 t32 t35) λt36=>gy t29 true S7 (binOp .and 12 t36 (Value.int IntKind.u64 9259542123273814144)) λt37=>gy t29 true S7 (et .eql 12 37 t37 (Value.int IntKind.u64 0)) λt38=>aG t29 t38 (.bool false) λt39=>aH t39 (v (sliceAt 9 t26 (some (i64 16)) none none) w17 λt41 w=>∃ (I3:NP 1) (μ3:NF 1),I3 t41 w /\
 ∀ t0_2 w19,I3 t0_2 w19->∀ _f:dT,aJ w19 λS9 w=>y S9 (ln 9 3 t0_2) λt43=>y S9 (b .gtr t43 (i64 32)) λt44=>gx t44 true t0_2 λt46=>gx t44 true t0_2 λt48=>gy t44 true S9 (sliceAt 9 t48 (some (i64 8)) none none) λt49=>gx t44 true t0_2 λt52=>gy t44 true S9 (sliceAt 9 t52 (some (i64 16)) none none) λt53=>gx t44 true t0_2 λt55=>gy t44 true S9 (sliceAt 9 t55 (some (i64 24)) none none) λt56=>gd t44 true (λK=> c 195 #[t46] w K) w λt47 w=>S9 w /\
 gd t44 true (λK=> c 195 #[t49] w K) w λt50 w=>S9 w /\
 gy t44 true S9 (binOp .or 12 t47 t50) λt51=>gd t44 true (λK=> c 195 #[t53] w K) w λt54 w=>S9 w /\
 gd t44 true (λK=> c 195 #[t56] w K) w λt57 w24=>S9 w24 /\
 gy t44 true S9 (binOp .or 12 t54 t57) λt58=>gy t44 true S9 (binOp .or 12 t51 t58) λt59=>gy t44 true S9 (binOp .and 12 t59 (Value.int IntKind.u64 9259542123273814144)) λt60=>gy t44 true S9 (et .eql 12 60 t60 (Value.int IntKind.u64 0)) λt61=>aG t44 t61 (.bool false) λt62=>aH t62 (v (sliceAt 9 t0_2 (some (i64 32)) none none) w24 λt64 w=>I3 t64 w/\μ3 t64 w < μ3 t0_2 w19) (J2 t0_2 w24)) (J2 t26 w17)) (J2 t15 w12)) /\
 ∀ t0_3 w,J2 t0_3 w->∀ _f:dT,I1 t0_3 w/\μ1 t0_3 w < μ1 t0_1 w1) (v (indexAt 288 (Value.pointer (some ⟨0,0,none⟩)) t11) w5 λt66 w=>v (loadAt 5 t66) w λt67 w=>v (binOp .and 5 t67 (Value.int IntKind.u8 7)) w λt69 w=>v (convert 5 3 t69) w λt70 w=>v (binOp .shr 5 t67 (Value.int IntKind.u64 4)) w λt72 w=>v (indexAt 291 (Value.pointer (some ⟨1,0,none⟩)) t72) w λt73 w=>v (loadAt 290 t73) w λt74 w=>st 290 t74 w λt6 w=>v (et .eql 3 75 t70 (i64 2)) w λt77 w36=>aH t77 (aJ w36 λS17 w=>y S17 (ln 9 3 t0_1) λt79=>y S17 (b .lss t79 (i64 2)) λt80=>gx t80 false t0_1 λt82=>gy t80 false S17 (index 9 t82 (i64 1)) λt83=>gy t80 false S17 (fieldAt 290 t6 0) λt84=>gy t80 false S17 (loadAt 5 t84) λt85=>gy t80 false S17 (binOp .lss 5 t83 t85) λt86=>aG t80 (.bool true) t86 λt87=>gy t87 false S17 (fieldAt 290 t6 1) λt89=>gy t87 false S17 (loadAt 5 t89) λt90=>gx t87 false t0_1 λt91=>gy t87 false S17 (index 9 t91 (i64 1)) λt92=>gy t87 false S17 (binOp .lss 5 t90 t92) λt93=>aG t87 (.bool true) t93 λt94=>aH t94 (R (.bool false) w) (v (sliceAt 9 t0_1 (some (i64 2)) none none) w λt96 w=>I1 t96 w/\μ1 t96 w < μ1 t0_1 w1)) (v (et .eql 3 75 t70 (i64 3)) w36 λt98 w39=>aH t98 (aJ w39 λS21 w=>y S21 (ln 9 3 t0_1) λt100=>y S21 (b .lss t100 (i64 3)) λt101=>gx t101 false t0_1 λt103=>gy t101 false S21 (index 9 t103 (i64 1)) λt104=>gy t101 false S21 (fieldAt 290 t6 0) λt105=>gy t101 false S21 (loadAt 5 t105) λt106=>gy t101 false S21 (binOp .lss 5 t104 t106) λt107=>aG t101 (.bool true) t107 λt108=>gy t108 false S21 (fieldAt 290 t6 1) λt110=>gy t108 false S21 (loadAt 5 t110) λt111=>gx t108 false t0_1 λt112=>gy t108 false S21 (index 9 t112 (i64 1)) λt113=>gy t108 false S21 (binOp .lss 5 t111 t113) λt114=>aG t108 (.bool true) t114 λt115=>gx t115 false t0_1 λt117=>gy t115 false S21 (index 9 t117 (i64 2)) λt118=>gy t115 false S21 (binOp .lss 5 t118 (Value.int IntKind.u8 128)) λt119=>aG t115 (.bool true) t119 λt120=>gx t120 false t0_1 λt122=>gy t120 false S21 (index 9 t122 (i64 2)) λt123=>gy t120 false S21 (binOp .lss 5 (Value.int IntKind.u8 191) t123) λt124=>aG t120 (.bool true) t124 λt125=>aH t125 (R (.bool false) w) (v (sliceAt 9 t0_1 (some (i64 3)) none none) w λt127 w=>I1 t127 w/\μ1 t127 w < μ1 t0_1 w1)) (v (et .eql 3 75 t70 (i64 4)) w39 λt129 w42=>aH t129 (aJ w42 λS25 w=>y S25 (ln 9 3 t0_1) λt131=>y S25 (b .lss t131 (i64 4)) λt132=>gx t132 false t0_1 λt134=>gy t132 false S25 (index 9 t134 (i64 1)) λt135=>gy t132 false S25 (fieldAt 290 t6 0) λt136=>gy t132 false S25 (loadAt 5 t136) λt137=>gy t132 false S25 (binOp .lss 5 t135 t137) λt138=>aG t132 (.bool true) t138 λt139=>gy t139 false S25 (fieldAt 290 t6 1) λt141=>gy t139 false S25 (loadAt 5 t141) λt142=>gx t139 false t0_1 λt143=>gy t139 false S25 (index 9 t143 (i64 1)) λt144=>gy t139 false S25 (binOp .lss 5 t142 t144) λt145=>aG t139 (.bool true) t145 λt146=>gx t146 false t0_1 λt148=>gy t146 false S25 (index 9 t148 (i64 2)) λt149=>gy t146 false S25 (binOp .lss 5 t149 (Value.int IntKind.u8 128)) λt150=>aG t146 (.bool true) t150 λt151=>gx t151 false t0_1 λt153=>gy t151 false S25 (index 9 t153 (i64 2)) λt154=>gy t151 false S25 (binOp .lss 5 (Value.int IntKind.u8 191) t154) λt155=>aG t151 (.bool true) t155 λt156=>gx t156 false t0_1 λt158=>gy t156 false S25 (index 9 t158 (i64 3)) λt159=>gy t156 false S25 (binOp .lss 5 t159 (Value.int IntKind.u8 128)) λt160=>aG t156 (.bool true) t160 λt161=>gx t161 false t0_1 λt163=>gy t161 false S25 (index 9 t163 (i64 3)) λt164=>gy t161 false S25 (binOp .lss 5 (Value.int IntKind.u8 191) t164) λt165=>aG t161 (.bool true) t165 λt166=>aH t166 (R (.bool false) w) (v (sliceAt 9 t0_1 (some (i64 4)) none none) w λt168 w=>I1 t168 w/\μ1 t168 w < μ1 t0_1 w1)) (R (.bool false) w42))))) (R (.bool true) w3)
theorem aHl (h:KV t0 w R):aB prog 142 #[t0] w R:=dw [lo [0],l,dr 0 13 8191 (tk (rg 0 4++[6,7]) (.only 5 (.only 8 (tk (rg 9 12) .done)))),l,lo [0],dr 0 21 2097151 (tk (rg 0 4++[6,7,10,11,13,14]) (.only 5 (.only 8 (.take 9 (.only 12 (.only 15 (tk (rg 16 20) .done))))))),l,l,jn [0],l,dr 0 17 131071 (tk (rg 0 16) .done),l,l,dr 0 27 134217727 (tk (rg 0 26) .done),l,l,dr 0 37 137438953471 (tk (rg 0 36) .done)] func142 h
def KU (t0:Z) (w:O) (R:Z->O->Prop):Prop:=
 c 196 #[] w λt4 w=>v (b .lss t0 (i64 1)) w λt6 w=>gk t6 false t0 w λt8 w=>gk t6 false t4 w λt9 w=>g t6 false (ln 292 3 t9) w λt10 w=>g t6 false (b .geq t8 t10) w λt11 w=>aG t6 (.bool true) t11 λt12=>aH t12 (R (Value.string { data:=#[] }) w) (il 292 t4 t0 9 w λt16 w=>R t16 w)
theorem aHk (h:KU t0 w R):aB prog 143 #[t0] w R:=dw [] func143 h
def KT (t0:Z) (w:O) (R:Z->O->Prop):Prop:=
 v (et .eql 3 3 t0 (i64 27)) w λt5 w=>aH t5 (R (i64 2) w) (v (et .eql 3 3 t0 (i64 1)) w λt7 w=>aH t7 (aH t7 (R (i64 1) w) (R (i64 0) w)) (v (et .eql 3 3 t0 (i64 2)) w λt8 w=>aH t8 (aH t8 (R (i64 1) w) (R (i64 0) w)) (v (et .eql 3 3 t0 (i64 3)) w λt9 w=>aH t9 (aH t9 (R (i64 1) w) (R (i64 0) w)) (v (et .eql 3 3 t0 (i64 23)) w λt10 w=>aH t10 (aH t10 (R (i64 1) w) (R (i64 0) w)) (v (et .eql 3 3 t0 (i64 24)) w λt11 w=>aH t11 (aH t11 (R (i64 1) w) (R (i64 0) w)) (v (et .eql 3 3 t0 (i64 25)) w λt12 w=>aH t12 (aH t12 (R (i64 1) w) (R (i64 0) w)) (v (et .eql 3 3 t0 (i64 33)) w λt13 w=>aH t13 (aH t13 (R (i64 1) w) (R (i64 0) w)) (v (et .eql 3 3 t0 (i64 34)) w λt14 w=>aH t14 (aH t14 (R (i64 1) w) (R (i64 0) w)) (v (et .eql 3 3 t0 (i64 35)) w λt15 w=>aH t15 (aH t15 (R (i64 1) w) (R (i64 0) w)) (v (et .eql 3 3 t0 (i64 36)) w λt16 w=>aH t16 (aH t16 (R (i64 1) w) (R (i64 0) w)) (v (et .eql 3 3 t0 (i64 37)) w λt17 w=>aH t17 (aH t17 (R (i64 1) w) (R (i64 0) w)) (v (et .eql 3 3 t0 (i64 38)) w λt18 w=>aH t18 (R (i64 1) w) (R (i64 0) w)))))))))))))
theorem aHj (h:KT t0 w R):aB prog 144 #[t0] w R:=dw [] func144 h
def KS (t0 t1 t2:Z) (w:O) (R:Z->O->Prop):Prop:=
 v (b .geq t0 t1) w λt9 w=>gk t9 true t0 w λt11 w=>gk t9 true t2 w λt12 w=>g t9 true (b .leq t11 t12) w λt13 w=>aG t9 t13 (.bool false) λt14=>R t14 w
theorem aHi (h:KS t0 t1 t2 w R):aB prog 145 #[t0,t1,t2] w R:=dw [] func145 h
def KR (t0 t1:Z) (w:O) (R:Z->O->Prop):Prop:=
 v (box 74 t0) w λt2 w=>fl 74 t2 0 42 w λt8 w=>v (ln 42 3 t8) w λt9 w=>v (b .lss t1 t9) w λt10 w5=>aH t10 (fl 74 t2 0 42 w5 λt12 w=>il 42 t12 t1 3 w λt15 w=>R (.tuple #[t15,(.bool true)]) w) (fl 74 t2 0 42 w5 λt18 w=>v (ln 42 3 t18) w λt19 w=>fl 74 t2 2 42 w λt21 w=>v (ln 42 3 t21) w λt22 w=>v (b .add t19 t22) w λt23 w=>v (b .lss t1 t23) w λt24 w17=>aH t24 (fl 74 t2 2 42 w17 λt26 w=>fl 74 t2 0 42 w λt29 w=>v (ln 42 3 t29) w λt30 w=>v (b .sub t1 t30) w λt31 w=>il 42 t26 t31 3 w λt33 w=>R (.tuple #[t33,(.bool true)]) w) (R (.tuple #[(i64 0),(.bool false)]) w17))
theorem aHh (h:KR t0 t1 w R):aB prog 146 #[t0,t1] w R:=dw [] func146 h
def KQ (t0:Z) (w:O) (R:Z->O->Prop):Prop:=
 v (et .eql 3 3 t0 (i64 3)) w λt4 w=>gk t4 false t0 w λt6 w=>g t4 false (et .eql 3 6 t6 (i64 4)) w λt7 w=>aG t4 (.bool true) t7 λt8=>R t8 w
theorem aHg (h:KQ t0 w R):aB prog 147 #[t0] w R:=dw [] func147 h
def KP (t0:Z) (w:O) (R:Z->O->Prop):Prop:=
 v (et .eql 3 3 t0 (i64 1)) w λt4 w=>gk t4 false t0 w λt6 w=>g t4 false (et .eql 3 6 t6 (i64 2)) w λt7 w=>aG t4 (.bool true) t7 λt8=>R t8 w
theorem aHf (h:KP t0 w R):aB prog 148 #[t0] w R:=dw [] func148 h
def KO (t0:Z) (w:O) (R:Z->O->Prop):Prop:=
 v (et .eql 3 3 t0 (i64 2)) w λt4 w=>gk t4 false t0 w λt6 w=>g t4 false (et .eql 3 6 t6 (i64 4)) w λt7 w=>aG t4 (.bool true) t7 λt8=>R t8 w
theorem aHe (h:KO t0 w R):aB prog 149 #[t0] w R:=dw [] func149 h
def KN (t0 t1:Z) (w:O) (R:Z->O->Prop):Prop:=
 Go.Vc.aY (t0) /\
 fl 266 t0 0 4 w λt8 w=>gk t8 false t1 w λt10 w=>g t8 false (et .eql 34 10 t10 (i64 11)) w λt11 w=>aG t8 (.bool true) t11 λt12=>Go.Vc.aY (t0) /\
 v (fieldAt 266 t0 0) w λt14 w=>u (storeAt 4 t14 t12) w λ_ w=>Go.Vc.aY (t0) /\
 fl 266 t0 1 4 w λt19 w=>gk t19 false t1 w λt21 w=>g t19 false (et .eql 34 21 t21 (i64 12)) w λt22 w=>aG t19 (.bool true) t22 λt23=>Go.Vc.aY (t0) /\
 v (fieldAt 266 t0 1) w λt25 w=>u (storeAt 4 t25 t23) w λ_ w=>R (.tuple #[]) w
theorem aHd (h:KN t0 t1 w R):aB prog 150 #[t0,t1] w R:=dw [] func150 h
def KM (t0 t1:Z) (w:O) (R:Z->O->Prop):Prop:=
 c 148 #[t0] w λt7 w=>c 148 #[t1] w λt9 w=>v (e .neq 4 (.tmp 7) (.tmp 9) t7 t9) w λt10 w=>gk t10 false t0 w λt12 w=>gd t10 false (λK=> c 147 #[t12] w K) w λt13 w=>gk t10 false t13 w λt14 w=>gk t14 true t0 w λt15 w=>gk t14 true t1 w λt16 w=>g t14 true (e .neq 3 (.tmp 15) (.tmp 16) t15 t16) w λt17 w=>gd t10 false (λK=> aG t14 t17 (.bool false) λv=> K v w) w λt18 w=>aG t10 (.bool true) t18 λt19=>aH t19 (R (i64 11) w) (c 197 #[t0,t1] w λt23 w=>v (Op.unary UnOp.not t23) w λt24 w=>aH t24 (R (i64 12) w) (R (i64 0) w))
theorem aHc (h:KM t0 t1 w R):aB prog 151 #[t0,t1] w R:=dw [] func151 h
def KL (t0 t1 t2 t3:Z) (w:O) (R:Z->O->Prop):Prop:=
 v (box 46 t0) w λt4 w=>v (box 74 t1) w λt5 w=>v (box 70 t2) w λt6 w=>fl 70 t6 0 3 w λt14 w=>∃ J1:NP 1,(v (et .eql 3 14 t14 (i64 1)) w λt16 w=>aH t16 (J1 t16 w) (v (et .eql 3 14 t14 (i64 17)) w λt17 w=>aH t17 (J1 t17 w) (v (et .eql 3 14 t14 (i64 18)) w λt18 w=>aH t18 (J1 t18 w) (v (et .eql 3 14 t14 (i64 26)) w λt19 w=>aH t19 (J1 t19 w) (v (et .eql 3 14 t14 (i64 28)) w λt20 w=>J1 t20 w))))) /\
 ∀ t15 w11,J1 t15 w11->∀ _f:dT,aH t15 (v (buildSlice 42 1 #[(0,(i64 1))]) w11 λt21 w=>R t21 w) (v (et .eql 3 14 t14 (i64 2)) w11 λt23 w13=>aH t23 (v (loadAt 74 t5) w13 λt25 w=>fl 70 t6 1 3 w λt27 w=>c 146 #[t25,t27] w λt28 w=>x2 t28 w λt29 _ w=>v (buildSlice 42 1 #[(0,t29)]) w λt32 w=>R t32 w) (v (et .eql 3 14 t14 (i64 5)) w13 λt34 w21=>aH t34 (aJ w21 λS12 w=>yi S12 42 t3 (i64 0) 3 λt37=>yi S12 42 t3 (i64 0) 3 λt40=>v (buildSlice 42 2 #[(0,t37),(1,t40)]) w λt41 w=>S12 w /\
 R t41 w) (∃ J2:NP 1,(v (et .eql 3 14 t14 (i64 6)) w21 λt43 w=>aH t43 (J2 t43 w) (v (et .eql 3 14 t14 (i64 7)) w λt44 w=>aH t44 (J2 t44 w) (v (et .eql 3 14 t14 (i64 8)) w λt45 w=>aH t45 (J2 t45 w) (v (et .eql 3 14 t14 (i64 9)) w λt46 w=>aH t46 (J2 t46 w) (v (et .eql 3 14 t14 (i64 10)) w λt47 w=>aH t47 (J2 t47 w) (v (et .eql 3 14 t14 (i64 11)) w λt48 w=>aH t48 (J2 t48 w) (v (et .eql 3 14 t14 (i64 12)) w λt49 w=>aH t49 (J2 t49 w) (v (et .eql 3 14 t14 (i64 13)) w λt50 w=>aH t50 (J2 t50 w) (v (et .eql 3 14 t14 (i64 14)) w λt51 w=>aH t51 (J2 t51 w) (v (et .eql 3 14 t14 (i64 19)) w λt52 w=>aH t52 (J2 t52 w) (v (et .eql 3 14 t14 (i64 20)) w λt53 w=>aH t53 (J2 t53 w) (v (et .eql 3 14 t14 (i64 21)) w λt54 w=>J2 t54 w)))))))))))) /\
 ∀ t42 w36,J2 t42 w36->∀ _f:dT,aH t42 (aJ w36 λS25 w=>yi S25 42 t3 (i64 0) 3 λt57=>yi S25 42 t3 (i64 1) 3 λt60=>c 198 #[t57,t60] w λt61 w=>S25 w /\
 v (buildSlice 42 1 #[(0,t61)]) w λt62 w=>S25 w /\
 R t62 w) (∃ J3:NP 1,(v (et .eql 3 14 t14 (i64 15)) w36 λt64 w=>aH t64 (J3 t64 w) (v (et .eql 3 14 t14 (i64 16)) w λt65 w=>J3 t65 w)) /\
 ∀ t63 w42,J3 t63 w42->∀ _f:dT,aH t63 (il 42 t3 (i64 0) 3 w42 λt68 w=>v (buildSlice 42 1 #[(0,t68)]) w λt69 w=>R t69 w) (v (et .eql 3 14 t14 (i64 22)) w42 λt71 w46=>aH t71 (il 42 t3 (i64 1) 3 w46 λt74 w=>c 147 #[t74] w λt75 w49=>aH t75 (il 42 t3 (i64 1) 3 w49 λt78 w=>v (buildSlice 42 1 #[(0,t78)]) w λt79 w=>R t79 w) (aJ w49 λS32 w=>yi S32 42 t3 (i64 0) 3 λt82=>yi S32 42 t3 (i64 1) 3 λt85=>yi S32 42 t3 (i64 2) 3 λt88=>c 198 #[t85,t88] w λt89 w=>S32 w /\
 c 198 #[t82,t89] w λt90 w=>S32 w /\
 v (buildSlice 42 1 #[(0,t90)]) w λt91 w=>S32 w /\
 R t91 w)) (∃ J4:NP 1,(v (et .eql 3 14 t14 (i64 25)) w46 λt93 w=>aH t93 (J4 t93 w) (v (et .eql 3 14 t14 (i64 27)) w λt94 w=>J4 t94 w)) /\
 ∀ t92 w59,J4 t92 w59->∀ _f:dT,aH t92 (fl 70 t6 1 3 w59 λt96 w=>v (buildSlice 42 1 #[(0,t96)]) w λt97 w=>R t97 w) (v (et .eql 3 14 t14 (i64 29)) w59 λt99 w63=>aH t99 (il 42 t3 (i64 0) 3 w63 λt102 w=>c 199 #[t102] w λt103 w=>v (buildSlice 42 1 #[(0,t103)]) w λt104 w=>R t104 w) (v (et .eql 3 14 t14 (i64 32)) w63 λt106 w68=>aH t106 (il 42 t3 (i64 0) 3 w68 λt109 w=>v (et .eql 3 109 t109 (i64 4)) w λt110 w=>gk t110 false t3 w λt112 w=>g t110 false (indexAt 42 t112 (i64 2)) w λt113 w=>g t110 false (loadAt 3 t113) w λt114 w=>g t110 false (et .eql 3 114 t114 (i64 4)) w λt115 w75=>aG t110 (.bool true) t115 λt116=>aH t116 (v (buildSlice 42 1 #[(0,(i64 2))]) w75 λt117 w=>R t117 w) (v (buildSlice 42 1 #[(0,(i64 1))]) w75 λt118 w=>R t118 w)) (v (et .eql 3 14 t14 (i64 33)) w68 λt120 w79=>aH t120 (fl 46 t4 1 42 w79 λt122 w=>fl 70 t6 1 3 w λt124 w=>il 42 t122 t124 3 w λt126 w=>v (buildSlice 42 1 #[(0,t126)]) w λt127 w=>R t127 w) (v (et .eql 3 14 t14 (i64 35)) w79 λt129 w87=>aH t129 (fl 70 t6 1 3 w87 λt131 w=>v (b .add (i64 3) t131) w λt132 w=>v (b .sub t132 (i64 1)) w λt133 w=>v (buildSlice 42 1 #[(0,t133)]) w λt134 w=>R t134 w) (v (et .eql 3 14 t14 (i64 37)) w87 λt136 w93=>aH t136 (fl 46 t4 3 44 w93 λt138 w=>fl 70 t6 1 3 w λt140 w=>jl 44 t138 t140 74 1 3 w λt143 w=>v (et .neq 3 144 t143 (i64 0)) w λt145 w101=>aH t145 (v (buildSlice 42 1 #[(0,t143)]) w101 λt147 w=>R t147 w) (R cM w101)) (v (et .eql 3 14 t14 (i64 38)) w93 λt149 w103=>aH t149 (fl 46 t4 2 43 w103 λt151 w=>fl 70 t6 1 3 w λt153 w=>jl 43 t151 t153 180 3 3 w λt156 w=>v (et .neq 3 157 t156 (i64 0)) w λt158 w111=>aH t158 (v (buildSlice 42 1 #[(0,t156)]) w111 λt160 w=>R t160 w) (R cM w111)) (R cM w103)))))))))))))
theorem aHb (h:KL t0 t1 t2 t3 w R):aB prog 152 #[t0,t1,t2,t3] w R:=dw [jn [15],dr 0 8 255 (tk (rg 0 5) (.only 6 (.take 7 .done))),l,jn [42],dr 0 9 511 (tk (rg 0 5) (.only 6 (.only 7 (.take 8 .done)))),l,jn [63],l,dr 0 13 8191 (tk (rg 0 8) (.only 9 (.only 10 (.only 11 (.take 12 .done))))),l,jn [92]] func152 h
def KK (t0 t1:Z) (w:O) (R:Z->O->Prop):Prop:=
 v (e .eql 3 (.tmp 7) (.tmp 8) t0 t1) w λt9 w=>gk t9 true t0 w λt11 w=>gd t9 true (λK=> c 148 #[t11] w K) w λt12 w=>gk t9 true t12 w λt13 w=>gk t13 false t0 w λt14 w=>gd t13 false (λK=> c 147 #[t14] w K) w λt15 w=>gd t9 true (λK=> aG t13 (.bool true) t15 λv=> K v w) w λt16 w=>aG t9 t16 (.bool false) λt17=>aH t17 (R (.tuple #[t0,(.bool true)]) w) (c 148 #[t0] w λt21 w=>gk t21 true t1 w λt23 w=>gd t21 true (λK=> c 148 #[t23] w K) w λt24 w=>aG t21 t24 (.bool false) λt25=>aH t25 (R (.tuple #[(i64 2),(.bool true)]) w) (R (.tuple #[(i64 0),(.bool false)]) w))
theorem aHa (h:KK t0 t1 w R):aB prog 153 #[t0,t1] w R:=dw [] func153 h
def KJ (t0:Z) (w:O) (R:Z->O->Prop):Prop:=
 v (box 46 t0) w λt1 w=>v (al 76) w λt2 w=>v (loadAt 46 t1) w λt7 w=>c 200 #[t7] w λt8 w=>v (Op.unary UnOp.not t8) w λt9 w5=>aH t9 (v (build 76 #[]) w5 λt10 w=>u (storeAt 76 t2 t10) w λ_ w=>lv 76 t2 w λr1=> R (.tuple #[r1,(i64 1)]) w) (fl 46 t1 3 44 w5 λt12 w=>v (ln 44 3 t12) w λt13 w=>∃ (I1:NP 1) (μ1:NF 1),I1 (i64 0) w /\
 ∀ t14 w11,I1 t14 w11->∀ _f:dT,v (b .lss t14 t13) w11 λt15 w12=>aH t15 (v (loadAt 46 t1) w12 λt18 w=>c 155 #[t18,t14] w λt20 w=>c 156 #[t20] w λt21 w=>x2 t21 w λt22 t23 w=>v (et .neq 34 24 t23 (i64 0)) w λt25 w18=>aH t25 (v (build 76 #[(0,t14),(1,t22)]) w18 λt28 w=>u (storeAt 76 t2 t28) w λ_ w=>lv 76 t2 w λr1=> R (.tuple #[r1,t23]) w) (v (b .add t14 (i64 1)) w18 λt30 w=>I1 t30 w/\μ1 t30 w < μ1 t14 w11)) (v (build 76 #[]) w12 λt31 w=>u (storeAt 76 t2 t31) w λ_ w=>lv 76 t2 w λr1=> R (.tuple #[r1,(i64 0)]) w))
theorem aGz (h:KJ t0 w R):aB prog 154 #[t0] w R:=dw [l,lo [14]] func154 h
def KI (t0 t1:Z) (w:O) (R:Z->O->Prop):Prop:=
 v (box 46 t0) w λt2 w=>fl 46 t2 3 44 w λt8 w=>il 44 t8 t1 74 w λt11 w=>st 74 t11 w λt5 w=>fl 74 t5 3 71 w λt13 w=>v (ln 71 3 t13) w λt14 w=>aJ w λS3 w11=>y S3 (loadAt 46 t2) λt15=>y S3 (loadAt 74 t5) λt16=>yf S3 74 t5 0 42 λt18=>yf S3 74 t5 2 42 λt20=>∃ (Q1:Nat->Z->O->Prop) (l1:Nat->Z->Option Nat),aKs Q1 S3 w11 /\
 (∀ w12:O,gB w11 w12 none->vK l1 []->∀ _f:dT,v (buildSlice 116 2 #[(0,t18),(1,t20)]) w12 λt21 w=>gB w12 w none/\Q1 6 t21 w/\FJ l1 6 t21 w12 w) /\
 (∀ (t21_1:Z),∀ w14:O,gB w11 w14 none->Q1 6 t21_1 w14->vK l1 [(6,t21_1)]->∀ _f:dT,c 201 #[t21_1] w14 λt22 w=>gB w14 w none/\Q1 7 t22 w/\FJ l1 7 t22 w14 w) /\
 (∀ w16:O,gB w11 w16 none->vK l1 []->∀ _f:dT,v (makeSlice 116 t14 t14) w16 λt24 w=>gB w16 w none/\Q1 9 t24 w/\FJ l1 9 t24 w16 w) /\
 (∀ w18:O,gB w11 w18 none->vK l1 []->∀ _f:dT,v (makeSlice 117 t14 t14) w18 λt26 w=>gB w18 w none/\Q1 11 t26 w/\FJ l1 11 t26 w18 w) /\
 (∀ w20:O,gB w11 w20 none->vK l1 []->∀ _f:dT,v (makeSlice 117 t14 t14) w20 λt28 w=>gB w20 w none/\Q1 13 t28 w/\FJ l1 13 t28 w20 w) /\
 (∀ (t22_1:Z) (t24_1:Z) (t26_1:Z) (t28_1:Z),∀ w22:O,gB w11 w22 none->Q1 7 t22_1 w22->Q1 9 t24_1 w22->Q1 11 t26_1 w22->Q1 13 t28_1 w22->vK l1 [(7,t22_1),(9,t24_1),(11,t26_1),(13,t28_1)]->∀ _f:dT,v (build 220 #[(0,t15),(1,t16),(2,t22_1),(3,t24_1),(4,t26_1),(5,t28_1)]) w22 λt29 w=>gB w22 w none/\Q1 14 t29 w/\FJ l1 14 t29 w22 w) /\
 (∀ (t29_1:Z),∀ w24:O,gB w11 w24 none->Q1 14 t29_1 w24->vK l1 [(14,t29_1)]->∀ _f:dT,v (box 220 t29_1) w24 λt30 w=>gB w24 w none/\Q1 15 t30 w/\FJ l1 15 t30 w24 w) /\
 (∀ (t21_2:Z) (t22_2:Z) (t24_2:Z) (t26_2:Z) (t28_2:Z) (t29_2:Z) (t30_1:Z),∀ w:O,gB w11 w none->Q1 6 t21_2 w->Q1 7 t22_2 w->Q1 9 t24_2 w->Q1 11 t26_2 w->Q1 13 t28_2 w->Q1 14 t29_2 w->Q1 15 t30_1 w->vK l1 [(6,t21_2),(7,t22_2),(9,t24_2),(11,t26_2),(13,t28_2),(14,t29_2),(15,t30_1)]->∀ _f:dT,R t30_1 w)
theorem aGy (h:KI t0 t1 w R):aB prog 155 #[t0,t1] w R:=dw [dr 0 17 131071 (tk (rg 0 5++[8,10,12]) (.par [(6,[]),(7,[6]),(9,[]),(11,[]),(13,[]),(14,[7,9,11,13]),(15,[14])] (.take 16 .done)))] func155 h
def KH (t0:Z) (w:O) (R:Z->O->Prop):Prop:=
 Go.Vc.aY (t0) /\
 v (fieldAt 220 t0 1) w λt14 w=>fl 74 t14 3 71 w λt16 w=>v (ln 71 3 t16) w λt17 w=>∃ (I1:NP 1) (μ1:NF 1),I1 (i64 0) w /\
 ∀ t18 w6,I1 t18 w6->∀ _f:dT,v (b .lss t18 t17) w6 λt19 w7=>aH t19 (il 71 t16 t18 70 w7 λt22 w=>st 70 t22 w λt5 w=>v (loadAt 70 t5) w λt24 w=>c 202 #[t0,t24] w λt25 w=>v (Op.unary UnOp.not t25) w λt26 w=>aH t26 (R (.tuple #[t18,(i64 9)]) w) (v (b .add t18 (i64 1)) w λt28 w=>I1 t28 w/\μ1 t28 w < μ1 t18 w6)) (c 203 #[t0,(i64 0),cM] w7 λ_ w=>∃ (I2:NP 0) (μ2:NF 0),I2 w /\
 ∀ w17:O,I2 w17->∀ _f:dT,Go.Vc.aY (t0) /\
 fl 220 t0 5 117 w17 λt34 w=>c 204 #[t34,(.bool true)] w λt35 w=>v (b .lss t35 (i64 0)) w λt37 w=>aH t37 (R (.tuple #[(i64 0),(i64 0)]) w) (Go.Vc.aY (t0) /\
 fl 220 t0 5 117 w λt41 w=>v (indexAt 117 t41 t35) w λt43 w=>u (storeAt 4 t43 (.bool false)) w λ_ w=>Go.Vc.aY (t0) /\
 v (fieldAt 220 t0 1) w λt46 w=>fl 74 t46 3 71 w λt48 w=>il 71 t48 t35 70 w λt51 w=>st 70 t51 w λt7 w=>aJ w λS13 w=>y S13 (loadAt 70 t7) λt54=>Go.Vc.aY (t0) /\
 yf S13 220 t0 3 116 λt58=>yi S13 116 t58 t35 42 λt61=>c 205 #[t0,t54,t61] w λt62 w=>S13 w /\
 y S13 (extract t62 0) λt63=>y S13 (extract t62 1) λt64=>v (loadAt 70 t7) w λt65 w=>c 206 #[t65,t35] w λt67 w=>v (ln 42 3 t67) w λt68 w=>∃ (I3:NP 2) (μ3:NF 2),I3 t64 (i64 0) w /\
 ∀ t9 t69 w41,I3 t9 t69 w41->∀ _f:dT,v (b .lss t69 t68) w41 λt70 w42=>aH t70 (il 42 t67 t69 3 w42 λt72 w=>v (et .eql 34 73 t9 (i64 0)) w λt74 w45=>aH t74 (c 203 #[t0,t72,t63] w45 λt78 w=>v (b .add t69 (i64 1)) w λt79 w=>I3 t78 t79 w/\μ3 t78 t79 w < μ3 t9 t69 w41) (v (b .add t69 (i64 1)) w45 λt79_1 w=>I3 t9 t79_1 w/\μ3 t9 t79_1 w < μ3 t9 t69 w41)) (v (et .neq 34 80 t9 (i64 0)) w42 λt81 w=>aH t81 (R (.tuple #[t35,t9]) w) (I2 w/\μ2 w < μ2 w17))))
theorem aGx (h:KH t0 w R):aB prog 156 #[t0] w R:=dw [lo [18],l,l,l,lo [],l,dr 0 15 32767 (tk (rg 0 8) (.only 9 (tk (rg 10 14) .done))),l,lo [9,69]] func156 h
def KG (t0:Z) (w:O) (R:Z->O->Prop):Prop:=
 ∃ J1:NP 1,(v (et .eql 3 4 t0 (i64 27)) w λt6 w=>aH t6 (J1 t6 w) (v (et .eql 3 4 t0 (i64 28)) w λt7 w=>J1 t7 w)) /\
 ∀ t5 w,J1 t5 w->∀ _f:dT,aH t5 (R (.tuple #[(i64 1),(.bool true)]) w) (∃ J2:NP 1,(v (et .eql 3 4 t0 (i64 17)) w λt9 w=>aH t9 (J2 t9 w) (v (et .eql 3 4 t0 (i64 18)) w λt10 w=>aH t10 (J2 t10 w) (v (et .eql 3 4 t0 (i64 29)) w λt11 w=>J2 t11 w))) /\
 ∀ t8 w,J2 t8 w->∀ _f:dT,aH t8 (R (.tuple #[(i64 2),(.bool true)]) w) (∃ J3:NP 1,(v (et .eql 3 4 t0 (i64 30)) w λt13 w=>aH t13 (J3 t13 w) (v (et .eql 3 4 t0 (i64 36)) w λt14 w=>J3 t14 w)) /\
 ∀ t12 w,J3 t12 w->∀ _f:dT,aH t12 (R (.tuple #[(i64 3),(.bool false)]) w) (v (et .eql 3 4 t0 (i64 31)) w λt16 w=>aH t16 (R (.tuple #[(i64 5),(.bool false)]) w) (v (et .eql 3 4 t0 (i64 32)) w λt18 w=>aH t18 (R (.tuple #[(i64 5),(.bool true)]) w) (R (.tuple #[(i64 0),(.bool false)]) w)))))
theorem aGw (h:KG t0 w R):aB prog 157 #[t0] w R:=dw [jn [5],jn [8],jn [12]] func157 h
def KF (t0:Z) (w:O) (R:Z->O->Prop):Prop:=
 v (typeAssert t0 94 242 true) w λt11 w=>v (extract t11 1) w λt12 w=>v (extract t11 0) w λt13 w3=>aH t12 (st 242 t13 w3 λt3 w=>fl 242 t3 0 3 w λt15 w=>c 207 #[t15] w λt16 w=>R t16 w) (v (typeAssert t0 94 224 true) w3 λt17 w=>v (extract t17 1) w λt18 w=>v (extract t17 0) w λt19 w11=>aH t18 (st 224 t19 w11 λt4 w=>fl 224 t4 0 3 w λt21 w=>c 208 #[t21] w λt22 w=>R t22 w) (v (typeAssert t0 94 232 true) w11 λt23 w=>v (extract t23 1) w λt24 w=>v (extract t23 0) w λt25 w19=>aH t24 (st 232 t25 w19 λt5 w=>fl 232 t5 1 3 w λt27 w=>c 80 #[t27,(i64 8)] w λt28 w=>R t28 w) (v (typeAssert t0 94 91 true) w19 λt29 w=>v (extract t29 1) w λt30 w=>v (extract t29 0) w λt31 w27=>aH t30 (st 91 t31 w27 λt6 w=>fl 91 t6 0 3 w λt33 w=>c 80 #[t33,(i64 8)] w λt34 w=>R t34 w) (v (typeAssert t0 94 276 true) w27 λt35 w=>v (extract t35 1) w λt36 w=>v (extract t35 0) w λt37 w35=>aH t36 (st 276 t37 w35 λt7 w=>aJ w λS16 w=>yf S16 276 t7 0 3 λt39=>yf S16 276 t7 4 42 λt42=>y S16 (ln 42 3 t42) λt43=>c 209 #[t39] w λt40 w=>S16 w /\
 y S16 (e .eql 3 (.tmp 40) (.tmp 43) t40 t43) λt44=>R t44 w) (v (typeAssert t0 94 235 true) w35 λt45 w=>v (extract t45 1) w λt46 w=>v (extract t45 0) w λt47 w42=>aH t46 (st 235 t47 w42 λt8 w=>fl 235 t8 0 3 w λt49 w=>c 80 #[t49,(i64 8)] w λt50 w=>g t50 true (fieldAt 235 t8 2) w λt52 w=>g t50 true (loadAt 42 t52) w λt53 w=>g t50 true (ln 42 3 t53) w λt54 w=>g t50 true (b .leq t54 (i64 4)) w λt55 w=>aG t50 t55 (.bool false) λt56=>R t56 w) (v (typeAssert t0 94 237 true) w42 λt57 w=>v (extract t57 1) w λt58 w=>v (extract t57 0) w λt59 w55=>aH t58 (st 237 t59 w55 λt9 w=>fl 237 t9 0 3 w λt61 w=>c 80 #[t61,(i64 4)] w λt62 w=>g t62 true (fieldAt 237 t9 2) w λt64 w=>g t62 true (loadAt 42 t64) w λt65 w=>g t62 true (ln 42 3 t65) w λt66 w=>g t62 true (b .leq t66 (i64 4)) w λt67 w=>aG t62 t67 (.bool false) λt68=>R t68 w) (v (et .neq 94 69 t0 Value.nilIface) w55 λt70 w=>R t70 w)))))))
theorem aGv (h:KF t0 w R):aB prog 158 #[t0] w R:=dw [dr 0 8 255 (tk [0,1,3,4,5] (.only 2 (.take 6 (.take 7 .done))))] func158 h
def KE (t0:Z) (w:O) (R:Z->O->Prop):Prop:=
 v (typeAssert t0 94 222 true) w λt14 w=>v (extract t14 1) w λt15 w=>v (extract t14 0) w λt16 w3=>aH t15 (st 222 t16 w3 λt3 w=>fl 222 t3 1 3 w λt18 w=>v (buildSlice 42 1 #[(0,t18)]) w λt19 w=>R t19 w) (v (typeAssert t0 94 242 true) w3 λt20 w=>v (extract t20 1) w λt21 w=>v (extract t20 0) w λt22 w11=>aH t21 (st 242 t22 w11 λt4 w=>fl 242 t4 2 3 w λt24 w=>fl 242 t4 3 3 w λt26 w=>v (buildSlice 42 2 #[(0,t24),(1,t26)]) w λt27 w=>R t27 w) (v (typeAssert t0 94 224 true) w11 λt28 w=>v (extract t28 1) w λt29 w=>v (extract t28 0) w λt30 w21=>aH t29 (st 224 t30 w21 λt5 w=>fl 224 t5 2 3 w λt32 w=>v (buildSlice 42 1 #[(0,t32)]) w λt33 w=>R t33 w) (v (typeAssert t0 94 226 true) w21 λt34 w=>v (extract t34 1) w λt35 w=>v (extract t34 0) w λt36 w29=>aH t35 (st 226 t36 w29 λt6 w=>fl 226 t6 1 3 w λt38 w=>fl 226 t6 2 3 w λt40 w=>fl 226 t6 3 3 w λt42 w=>v (buildSlice 42 3 #[(0,t38),(1,t40),(2,t42)]) w λt43 w=>R t43 w) (v (typeAssert t0 94 230 true) w29 λt44 w=>v (extract t44 1) w λt45 w=>v (extract t44 0) w λt46 w41=>aH t45 (st 230 t46 w41 λt7 w=>fl 230 t7 0 3 w λt48 w=>v (buildSlice 42 1 #[(0,t48)]) w λt49 w=>R t49 w) (v (typeAssert t0 94 91 true) w41 λt50 w=>v (extract t50 1) w λt51 w=>v (extract t50 0) w λt52 w49=>aH t51 (st 91 t52 w49 λt8 w=>fl 91 t8 1 3 w λt54 w=>v (buildSlice 42 1 #[(0,t54)]) w λt55 w=>R t55 w) (v (typeAssert t0 94 276 true) w49 λt56 w=>v (extract t56 1) w λt57 w=>v (extract t56 0) w λt58 w57=>aH t57 (st 276 t58 w57 λt9 w=>fl 276 t9 4 42 w λt60 w=>c 122 #[t60] w λt61 w=>R t61 w) (v (typeAssert t0 94 235 true) w57 λt62 w=>v (extract t62 1) w λt63 w=>v (extract t62 0) w λt64 w65=>aH t63 (st 235 t64 w65 λt10 w=>fl 235 t10 2 42 w λt66 w=>c 122 #[t66] w λt67 w=>R t67 w) (v (typeAssert t0 94 237 true) w65 λt68 w=>v (extract t68 1) w λt69 w=>v (extract t68 0) w λt70 w73=>aH t69 (st 237 t70 w73 λt11 w=>fl 237 t11 2 42 w λt72 w=>c 122 #[t72] w λt73 w=>R t73 w) (v (typeAssert t0 94 239 true) w73 λt74 w=>v (extract t74 1) w λt75 w=>v (extract t74 0) w λt76 w81=>aH t75 (st 239 t76 w81 λt12 w=>fl 239 t12 0 3 w λt78 w=>v (et .neq 3 78 t78 (i64 (-1))) w λt79 w86=>aH t79 (fl 239 t12 0 3 w86 λt81 w=>v (buildSlice 42 1 #[(0,t81)]) w λt82 w=>R t82 w) (R cM w86)) (R cM w81))))))))))
theorem aGu (h:KE t0 w R):aB prog 159 #[t0] w R:=dw [] func159 h
def KD (t0 t1:Z) (w:O) (R:Z->O->Prop):Prop:=
 v (et .eql 94 9 t0 Value.nilIface) w λt10 w=>aH t10 (R cM w) (v (typeAssert t0 94 228 true) w λt11 w=>v (extract t11 1) w λt12 w=>v (extract t11 0) w λt13 w4=>aH t12 (st 228 t13 w4 λt6 w=>fl 228 t6 0 3 w λt15 w=>v (buildSlice 42 1 #[(0,t15)]) w λt16 w=>R t16 w) (v (typeAssert t0 94 230 true) w4 λt17 w=>v (extract t17 1) w λt18 w=>v (extract t17 0) w λt19 w12=>aH t18 (st 230 t19 w12 λt7 w=>fl 230 t7 1 3 w λt21 w=>v (b .add t1 (i64 1)) w λt23 w=>v (e .neq 3 (.tmp 21) (.tmp 23) t21 t23) w λt24 w18=>aH t24 (v (b .add t1 (i64 1)) w18 λt26 w=>fl 230 t7 1 3 w λt28 w=>v (buildSlice 42 2 #[(0,t26),(1,t28)]) w λt29 w=>R t29 w) (v (b .add t1 (i64 1)) w18 λt34 w=>v (buildSlice 42 1 #[(0,t34)]) w λt35 w=>R t35 w)) (v (typeAssert t0 94 239 true) w12 λt30 w=>v (extract t30 1) w λt31 w=>v (extract t30 0) w λt32 w27=>aH t31 (st 239 t32 w27 λ_ w=>R cM w) (v (b .add t1 (i64 1)) w27 λt34_1 w=>v (buildSlice 42 1 #[(0,t34_1)]) w λt35_1 w=>R t35_1 w))))
theorem aGt (h:KD t0 t1 w R):aB prog 160 #[t0,t1] w R:=dw [] func160 h
def KC (t0:Z) (w:O) (R:Z->O->Prop):Prop:=
 v (typeAssert t0 94 161 true) w λt13 w=>v (extract t13 1) w λt14 w=>v (extract t13 0) w λt15 w3=>aH t14 (st 161 t15 w3 λt3 w=>fl 161 t3 0 3 w λt17 w=>R t17 w) (v (typeAssert t0 94 222 true) w3 λt18 w=>v (extract t18 1) w λt19 w=>v (extract t18 0) w λt20 w10=>aH t19 (st 222 t20 w10 λt4 w=>fl 222 t4 0 3 w λt22 w=>R t22 w) (v (typeAssert t0 94 242 true) w10 λt23 w=>v (extract t23 1) w λt24 w=>v (extract t23 0) w λt25 w17=>aH t24 (st 242 t25 w17 λt5 w=>fl 242 t5 1 3 w λt27 w=>R t27 w) (v (typeAssert t0 94 224 true) w17 λt28 w=>v (extract t28 1) w λt29 w=>v (extract t28 0) w λt30 w24=>aH t29 (st 224 t30 w24 λt6 w=>fl 224 t6 1 3 w λt32 w=>R t32 w) (v (typeAssert t0 94 226 true) w24 λt33 w=>v (extract t33 1) w λt34 w=>v (extract t33 0) w λt35 w31=>aH t34 (st 226 t35 w31 λt7 w=>fl 226 t7 0 3 w λt37 w=>R t37 w) (v (typeAssert t0 94 232 true) w31 λt38 w=>v (extract t38 1) w λt39 w=>v (extract t38 0) w λt40 w38=>aH t39 (st 232 t40 w38 λt8 w=>fl 232 t8 0 3 w λt42 w=>R t42 w) (v (typeAssert t0 94 276 true) w38 λt43 w=>v (extract t43 1) w λt44 w=>v (extract t43 0) w λt45 w45=>aH t44 (st 276 t45 w45 λt9 w=>fl 276 t9 3 3 w λt47 w=>R t47 w) (v (typeAssert t0 94 235 true) w45 λt48 w=>v (extract t48 1) w λt49 w=>v (extract t48 0) w λt50 w52=>aH t49 (st 235 t50 w52 λt10 w=>fl 235 t10 1 3 w λt52 w=>R t52 w) (v (typeAssert t0 94 237 true) w52 λt53 w=>v (extract t53 1) w λt54 w=>v (extract t53 0) w λt55 w59=>aH t54 (st 237 t55 w59 λt11 w=>fl 237 t11 1 3 w λt57 w=>R t57 w) (R (i64 (-1)) w59)))))))))
theorem aGs (h:KC t0 w R):aB prog 161 #[t0] w R:=dw [] func161 h
def zG (t0:Z) (w:O) (R:Z->O->Prop):Prop:=
 v (typeAssert t0 94 161 true) w λt4 w=>v (extract t4 1) w λt5 w=>v (extract t4 0) w λ_ w=>v (typeAssert t0 94 222 true) w λt7 w=>v (extract t7 1) w λt8 w=>v (extract t7 0) w λ_ w=>v (typeAssert t0 94 242 true) w λt10 w=>v (extract t10 1) w λt11 w=>v (extract t10 0) w λ_ w=>v (typeAssert t0 94 224 true) w λt13 w=>v (extract t13 1) w λt14 w=>v (extract t13 0) w λ_ w=>v (typeAssert t0 94 226 true) w λt16 w=>v (extract t16 1) w λt17 w=>v (extract t16 0) w λ_ w=>v (typeAssert t0 94 232 true) w λt19 w=>v (extract t19 1) w λt20 w=>v (extract t19 0) w λ_ w=>aG t17 (.bool true) t20 λt22=>aG t14 (.bool true) t22 λt23=>aG t11 (.bool true) t23 λt24=>aG t8 (.bool true) t24 λt25=>aG t5 (.bool true) t25 λt26=>aH t26 (R (.bool false) w) (R (.bool true) w)
theorem aGr (h:zG t0 w R):aB prog 162 #[t0] w R:=dw [] func162 h
def KB (t0 t1:Z) (w:O) (R:Z->O->Prop):Prop:=
 v (binOp .add 21 t0 t1) w λt7 w=>R t7 w
theorem aGq (h:KB t0 t1 w R):aB prog 163 #[t0,t1] w R:=dw [] func163 h
def KA (t0 t1:Z) (w:O) (R:Z->O->Prop):Prop:=
 v (binOp .sub 21 t0 t1) w λt7 w=>R t7 w
theorem aGp (h:KA t0 t1 w R):aB prog 164 #[t0,t1] w R:=dw [] func164 h
def JZ (t0 t1:Z) (w:O) (R:Z->O->Prop):Prop:=
 v (binOp .mul 21 t0 t1) w λt7 w=>R t7 w
theorem aGo (h:JZ t0 t1 w R):aB prog 165 #[t0,t1] w R:=dw [] func165 h
def JY (t0 t1:Z) (w:O) (R:Z->O->Prop):Prop:=
 v (binOp .and 21 t0 t1) w λt7 w=>R t7 w
theorem aGn (h:JY t0 t1 w R):aB prog 166 #[t0,t1] w R:=dw [] func166 h
def JX (t0 t1:Z) (w:O) (R:Z->O->Prop):Prop:=
 v (binOp .or 21 t0 t1) w λt7 w=>R t7 w
theorem aGm (h:JX t0 t1 w R):aB prog 167 #[t0,t1] w R:=dw [] func167 h
def JW (t0 t1:Z) (w:O) (R:Z->O->Prop):Prop:=
 v (binOp .xor 21 t0 t1) w λt7 w=>R t7 w
theorem aGl (h:JW t0 t1 w R):aB prog 168 #[t0,t1] w R:=dw [] func168 h
def JV (t0 t1:Z) (w:O) (R:Z->O->Prop):Prop:=
 v (binOp .and 21 t1 (Value.int IntKind.i32 31)) w λt7 w=>v (binOp .shl 21 t0 t7) w λt8 w=>R t8 w
theorem aGk (h:JV t0 t1 w R):aB prog 169 #[t0,t1] w R:=dw [] func169 h
def JU (t0 t1:Z) (w:O) (R:Z->O->Prop):Prop:=
 v (convert 21 201 t0) w λt6 w=>v (binOp .and 21 t1 (Value.int IntKind.i32 31)) w λt8 w=>v (binOp .shr 201 t6 t8) w λt9 w=>v (convert 201 21 t9) w λt10 w=>R t10 w
theorem aGj (h:JU t0 t1 w R):aB prog 170 #[t0,t1] w R:=dw [] func170 h
def JT (t0 t1:Z) (w:O) (R:Z->O->Prop):Prop:=
 v (binOp .and 21 t1 (Value.int IntKind.i32 31)) w λt7 w=>v (binOp .shr 21 t0 t7) w λt8 w=>R t8 w
theorem aGi (h:JT t0 t1 w R):aB prog 171 #[t0,t1] w R:=dw [] func171 h
def JS (t0 t1:Z) (w:O) (R:Z->O->Prop):Prop:=
 v (binOp .xor 21 t0 t1) w λt7 w=>c 177 #[t7] w λt8 w=>v (binOp .sub 21 (Value.int IntKind.i32 1) t8) w λt9 w=>R t9 w
theorem aGh (h:JS t0 t1 w R):aB prog 172 #[t0,t1] w R:=dw [] func172 h
def JR (t0 t1:Z) (w:O) (R:Z->O->Prop):Prop:=
 v (convert 21 2 t0) w λt7 w=>v (convert 21 2 t1) w λt9 w=>v (binOp .sub 2 t7 t9) w λt10 w=>v (convert 2 298 t10) w λt12 w=>v (binOp .shr 298 t12 (Value.int IntKind.u64 63)) w λt13 w=>v (convert 298 21 t13) w λt14 w=>R t14 w
theorem aGg (h:JR t0 t1 w R):aB prog 173 #[t0,t1] w R:=dw [] func173 h
def JQ (t0 t1:Z) (w:O) (R:Z->O->Prop):Prop:=
 v (convert 21 201 t0) w λt7 w=>v (convert 201 2 t7) w λt8 w=>v (convert 21 201 t1) w λt10 w=>v (convert 201 2 t10) w λt11 w=>v (binOp .sub 2 t8 t11) w λt12 w=>v (convert 2 298 t12) w λt14 w=>v (binOp .shr 298 t14 (Value.int IntKind.u64 63)) w λt15 w=>v (convert 298 21 t15) w λt16 w=>R t16 w
theorem aGf (h:JQ t0 t1 w R):aB prog 174 #[t0,t1] w R:=dw [] func174 h
def JP (t0:Z) (w:O) (R:Z->O->Prop):Prop:=
 v (Op.unary UnOp.neg t0) w λt4 w=>R t4 w
theorem aGe (h:JP t0 w R):aB prog 175 #[t0] w R:=dw [] func175 h
def JO (t0:Z) (w:O) (R:Z->O->Prop):Prop:=
 v (Op.unary UnOp.xor t0) w λt4 w=>R t4 w
theorem aGd (h:JO t0 w R):aB prog 176 #[t0] w R:=dw [] func176 h
def JN (t0:Z) (w:O) (R:Z->O->Prop):Prop:=
 v (Op.unary UnOp.neg t0) w λt5 w=>v (binOp .or 21 t0 t5) w λt6 w=>c 170 #[t6,(Value.int IntKind.i32 31)] w λt7 w=>R t7 w
theorem aGc (h:JN t0 w R):aB prog 177 #[t0] w R:=dw [] func177 h
def zF (t0 t1:Z) (w:O) (R:Z->O->Prop):Prop:=
 c 210 #[t0] w λt7 w=>c 11 #[t7,(i64 6)] w λt8 w=>∃ J1:NP 1,(v (et .eql 3 8 t8 (i64 0)) w λt23 w=>aH t23 (J1 t23 w) (v (et .eql 3 8 t8 (i64 1)) w λt24 w=>J1 t24 w)) /\
 ∀ t22 w5,J1 t22 w5->∀ _f:dT,aH t22 (c 211 #[t0,t1] w5 λt28 w=>x2 t28 w λt29 t30 w8=>aH t30 (c 132 #[t0,(i64 2),t29,(i64 0)] w8 λ_ w=>R (.tuple #[]) w) (c 132 #[t0,(i64 25),t1,(i64 0)] w8 λ_ w=>R (.tuple #[]) w)) (∃ J2:NP 1,(v (et .eql 3 8 t8 (i64 2)) w5 λt39 w=>aH t39 (J2 t39 w) (v (et .eql 3 8 t8 (i64 3)) w λt40 w=>J2 t40 w)) /\
 ∀ t38 w13,J2 t38 w13->∀ _f:dT,aH t38 (v (b .sub t1 (i64 3)) w13 λt43 w=>v (b .add t43 (i64 1)) w λt44 w=>c 132 #[t0,(i64 35),t44,(i64 0)] w λ_ w=>R (.tuple #[]) w) (v (et .eql 3 8 t8 (i64 4)) w13 λt47 w17=>aH t47 (v (b .sub t1 (i64 1)) w17 λt50 w=>c 132 #[t0,(i64 33),t50,(i64 0)] w λ_ w=>R (.tuple #[]) w) (c 210 #[t0] w17 λt11 w=>c 11 #[t11,(i64 9)] w λt12 w=>c 132 #[t0,(i64 1),t12,(i64 0)] w λ_ w=>v (build 299 #[(0,(i64 0)),(1,(i64 1)),(2,(i64 2)),(3,(i64 4)),(4,(i64 5)),(5,(i64 6))]) w λt16 w=>c 210 #[t0] w λt18 w=>c 11 #[t18,(i64 6)] w λt19 w=>v (index 299 t16 t19) w λt20 w=>c 132 #[t0,(i64 27),t1,t20] w λ_ w=>R (.tuple #[]) w)))
theorem SB (h:zF t0 t1 w R):aB prog 178 #[t0,t1] w R:=dw [jn [22],l,jn [38]] func178 h
def JM (t0:Z) (w:O) (R:Z->O->Prop):Prop:=
 c 210 #[t0] w λt3 w=>c 11 #[t3,(i64 5)] w λt4 w=>v (et .eql 3 4 t4 (i64 4)) w λt5 w3=>aH t5 (c 180 #[t0] w3 λ_ w=>R (.tuple #[]) w) (c 210 #[t0] w3 λt10 w=>c 11 #[t10,(i64 5)] w λt11 w=>c 132 #[t0,(i64 1),t11,(i64 0)] w λ_ w=>R (.tuple #[]) w)
theorem aGb (h:JM t0 w R):aB prog 179 #[t0] w R:=dw [] func179 h
def JL (t0:Z) (w:O) (R:Z->O->Prop):Prop:=
 Go.Vc.aY (t0) /\
 fl 252 t0 4 3 w λt8 w=>v (b .add t8 (i64 1)) w λt9 w=>Go.Vc.aY (t0) /\
 v (fieldAt 252 t0 4) w λt11 w=>u (storeAt 3 t11 t9) w λ_ w=>c 210 #[t0] w λt13 w=>c 11 #[t13,(i64 12)] w λt14 w=>∃ J1:NP 1,(Go.Vc.aY (t0) /\
 fl 252 t0 4 3 w λt18 w=>v (b .gtr t18 (i64 3)) w λt19 w13=>aH t19 (v (b .rem t14 (i64 3)) w13 λt21 w=>J1 t21 w) (J1 t14 w13)) /\
 ∀ t2 w,J1 t2 w->∀ _f:dT,∃ J2:NP 0,(∃ J3:NP 1,(v (et .eql 3 22 t2 (i64 0)) w λt32 w=>aH t32 (J3 t32 w) (v (et .eql 3 22 t2 (i64 1)) w λt33 w=>J3 t33 w)) /\
 ∀ t31 w18,J3 t31 w18->∀ _f:dT,aH t31 (v (build 300 #[(0,(i64 0)),(1,(i64 1)),(2,(i64 2)),(3,(i64 3)),(4,(i64 7)),(5,(i64 (-1))),(6,(i64 64)),(7,(i64 1073741824))]) w18 λt35 w=>c 210 #[t0] w λt37 w=>c 11 #[t37,(i64 8)] w λt38 w=>v (index 300 t35 t38) w λt39 w=>c 132 #[t0,(i64 1),t39,(i64 0)] w λ_ w=>J2 w) (∃ J4:NP 1,(v (et .eql 3 22 t2 (i64 2)) w18 λt42 w=>aH t42 (J4 t42 w) (v (et .eql 3 22 t2 (i64 3)) w λt43 w=>J4 t43 w)) /\
 ∀ t41 w26,J4 t41 w26->∀ _f:dT,aH t41 (c 211 #[t0,(i64 1)] w26 λt46 w=>x2 t46 w λt47 t48 w29=>aH t48 (c 132 #[t0,(i64 2),t47,(i64 0)] w29 λ_ w=>J2 w) (c 210 #[t0] w29 λt55 w=>v (b .rem t55 (i64 100)) w λt56 w=>c 132 #[t0,(i64 1),t56,(i64 0)] w λ_ w=>J2 w)) (∃ J5:NP 1,(v (et .eql 3 22 t2 (i64 4)) w26 λt59 w=>aH t59 (J5 t59 w) (v (et .eql 3 22 t2 (i64 5)) w λt60 w=>aH t60 (J5 t60 w) (v (et .eql 3 22 t2 (i64 6)) w λt61 w=>J5 t61 w))) /\
 ∀ t58 w37,J5 t58 w37->∀ _f:dT,aH t58 (c 180 #[t0] w37 λ_ w=>c 180 #[t0] w λ_ w=>c 210 #[t0] w λt68 w=>c 11 #[t68,(i64 12)] w λt69 w=>v (indexAt 301 (Value.pointer (some ⟨2,0,none⟩)) t69) w λt70 w=>v (loadAt 3 t70) w λt71 w=>c 132 #[t0,t71,(i64 0),(i64 0)] w λ_ w=>J2 w) (v (et .eql 3 22 t2 (i64 7)) w37 λt74 w45=>aH t74 (c 210 #[t0] w45 λt77 w=>c 11 #[t77,(i64 2)] w λt78 w=>v (b .add (i64 1) t78) w λt79 w=>c 132 #[t0,(i64 35),t79,(i64 0)] w λ_ w=>c 132 #[t0,(i64 28),(i64 0),(i64 0)] w λ_ w=>J2 w) (v (et .eql 3 22 t2 (i64 8)) w45 λt84 w51=>aH t84 (c 180 #[t0] w51 λ_ w=>c 180 #[t0] w λ_ w=>v (build 302 #[(0,(i64 17)),(1,(i64 18))]) w λt90 w=>c 210 #[t0] w λt92 w=>c 11 #[t92,(i64 2)] w λt93 w=>v (index 302 t90 t93) w λt94 w=>c 132 #[t0,t94,(i64 0),(i64 0)] w λ_ w=>J2 w) (v (et .eql 3 22 t2 (i64 9)) w51 λt97 w59=>aH t97 (c 178 #[t0,(i64 3)] w59 λ_ w=>c 179 #[t0] w λ_ w=>c 132 #[t0,(i64 29),(i64 0),(i64 0)] w λ_ w=>J2 w) (v (et .eql 3 22 t2 (i64 10)) w59 λt105 w63=>aH t105 (c 180 #[t0] w63 λ_ w=>v (build 303 #[(0,(i64 15)),(1,(i64 16)),(2,(i64 15))]) w λt109 w=>c 210 #[t0] w λt111 w=>c 11 #[t111,(i64 3)] w λt112 w=>v (index 303 t109 t112) w λt113 w=>c 132 #[t0,t113,(i64 0),(i64 0)] w λ_ w=>J2 w) (c 210 #[t0] w63 λt25 w=>c 11 #[t25,(i64 2)] w λt26 w=>v (b .add (i64 3) t26) w λt27 w=>c 178 #[t0,t27] w λ_ w=>c 132 #[t0,(i64 26),(i64 0),(i64 0)] w λ_ w=>J2 w)))))))) /\
 ∀ w:O,J2 w->∀ _f:dT,Go.Vc.aY (t0) /\
 fl 252 t0 4 3 w λt118 w=>v (b .sub t118 (i64 1)) w λt119 w=>Go.Vc.aY (t0) /\
 v (fieldAt 252 t0 4) w λt121 w=>u (storeAt 3 t121 t119) w λ_ w=>R (.tuple #[]) w
theorem aGa (h:JL t0 w R):aB prog 180 #[t0] w R:=dw [jn [2],jn [31],jn [41],jn [58],jn []] func180 h
def zE (t0:Z) (w:O) (R:Z->O->Prop):Prop:=
 Go.Vc.aY (t0) /\
 fl 252 t0 4 3 w λt8 w=>v (b .add t8 (i64 1)) w λt9 w=>Go.Vc.aY (t0) /\
 v (fieldAt 252 t0 4) w λt11 w=>u (storeAt 3 t11 t9) w λ_ w=>c 210 #[t0] w λt13 w=>c 11 #[t13,(i64 9)] w λt14 w=>∃ J1:NP 1,(Go.Vc.aY (t0) /\
 fl 252 t0 4 3 w λt18 w=>v (b .gtr t18 (i64 3)) w λt19 w13=>aH t19 (v (b .rem t14 (i64 2)) w13 λt21 w=>J1 t21 w) (J1 t14 w13)) /\
 ∀ t2 w,J1 t2 w->∀ _f:dT,∃ J2:NP 0,(v (et .eql 3 22 t2 (i64 0)) w λt26 w16=>aH t26 (c 211 #[t0,(i64 2)] w16 λt29 w=>x2 t29 w λt30 t31 w19=>aH t31 (c 132 #[t0,(i64 2),t30,(i64 0)] w19 λ_ w=>J2 w) (c 132 #[t0,(i64 1),(i64 5),(i64 0)] w19 λ_ w=>J2 w)) (v (et .eql 3 22 t2 (i64 1)) w16 λt39 w22=>aH t39 (c 210 #[t0] w22 λt42 w=>v (b .rem t42 (i64 1000)) w λt43 w=>c 132 #[t0,(i64 1),t43,(i64 0)] w λ_ w=>J2 w) (∃ J3:NP 1,(v (et .eql 3 22 t2 (i64 2)) w22 λt46 w=>aH t46 (J3 t46 w) (v (et .eql 3 22 t2 (i64 3)) w λt47 w=>J3 t47 w)) /\
 ∀ t45 w28,J3 t45 w28->∀ _f:dT,aH t45 (c 181 #[t0] w28 λ_ w=>c 181 #[t0] w λ_ w=>c 210 #[t0] w λt54 w=>c 11 #[t54,(i64 12)] w λt55 w=>v (indexAt 301 (Value.pointer (some ⟨2,0,none⟩)) t55) w λt56 w=>v (loadAt 3 t56) w λt57 w=>c 132 #[t0,t57,(i64 0),(i64 0)] w λ_ w=>J2 w) (∃ J4:NP 1,(v (et .eql 3 22 t2 (i64 4)) w28 λt60 w=>aH t60 (J4 t60 w) (v (et .eql 3 22 t2 (i64 5)) w λt61 w=>J4 t61 w)) /\
 ∀ t59 w38,J4 t59 w38->∀ _f:dT,aH t59 (c 178 #[t0,(i64 4)] w38 λ_ w=>c 179 #[t0] w λ_ w=>c 132 #[t0,(i64 29),(i64 0),(i64 0)] w λ_ w=>J2 w) (v (et .eql 3 22 t2 (i64 6)) w38 λt69 w42=>aH t69 (c 181 #[t0] w42 λ_ w=>c 181 #[t0] w λ_ w=>c 181 #[t0] w λ_ w=>c 132 #[t0,(i64 22),(i64 0),(i64 0)] w λ_ w=>J2 w) (v (et .eql 3 22 t2 (i64 7)) w42 λt79 w47=>aH t79 (c 178 #[t0,(i64 4)] w47 λ_ w=>c 179 #[t0] w λ_ w=>c 210 #[t0] w λt86 w=>c 11 #[t86,(i64 2)] w λt87 w=>v (b .add (i64 3) t87) w λt88 w=>c 178 #[t0,t88] w λ_ w=>c 179 #[t0] w λ_ w=>c 179 #[t0] w λ_ w=>c 132 #[t0,(i64 32),(i64 0),(i64 0)] w λ_ w=>J2 w) (c 132 #[t0,(i64 33),(i64 1),(i64 0)] w47 λ_ w=>J2 w))))))) /\
 ∀ w:O,J2 w->∀ _f:dT,Go.Vc.aY (t0) /\
 fl 252 t0 4 3 w λt99 w=>v (b .sub t99 (i64 1)) w λt100 w=>Go.Vc.aY (t0) /\
 v (fieldAt 252 t0 4) w λt102 w=>u (storeAt 3 t102 t100) w λ_ w=>R (.tuple #[]) w
theorem RZ (h:zE t0 w R):aB prog 181 #[t0] w R:=dw [jn [2],jn [45],jn [59],jn []] func181 h
def JK (t0 t1:Z) (w:O) (R:Z->O->Prop):Prop:=
 v (ln 42 3 t0) w λt7 w=>v (ln 42 3 t1) w λt9 w=>v (e .neq 3 (.tmp 7) (.tmp 9) t7 t9) w λt10 w=>aH t10 (R (.bool false) w) (v (ln 42 3 t0) w λt12 w=>∃ (I1:NP 1) (μ1:NF 1),I1 (i64 0) w /\
 ∀ t13 w5,I1 t13 w5->∀ _f:dT,v (b .lss t13 t12) w5 λt14 w6=>aH t14 (aJ w6 λS6 w=>yi S6 42 t0 t13 3 λt19=>yi S6 42 t1 t13 3 λt23=>y S6 (e .neq 3 (.tmp 19) (.tmp 23) t19 t23) λt24=>aH t24 (R (.bool false) w) (v (b .add t13 (i64 1)) w λt25 w=>I1 t25 w/\μ1 t25 w < μ1 t13 w5)) (R (.bool true) w6))
theorem aFz (h:JK t0 t1 w R):aB prog 183 #[t0,t1] w R:=dw [l,lo [13],l,dr 0 9 511 (tk (rg 0 8) .done)] func183 h
def zD (t0 t1 t2:Z) (w:O) (R:Z->O->Prop):Prop:=
 v (et .eql 3 7 t0 (i64 6)) w λt9 w1=>aH t9 (c 163 #[t1,t2] w1 λt12 w=>R t12 w) (v (et .eql 3 7 t0 (i64 7)) w1 λt14 w3=>aH t14 (c 164 #[t1,t2] w3 λt17 w=>R t17 w) (v (et .eql 3 7 t0 (i64 8)) w3 λt19 w5=>aH t19 (c 165 #[t1,t2] w5 λt22 w=>R t22 w) (v (et .eql 3 7 t0 (i64 9)) w5 λt24 w7=>aH t24 (c 166 #[t1,t2] w7 λt27 w=>R t27 w) (v (et .eql 3 7 t0 (i64 10)) w7 λt29 w9=>aH t29 (c 167 #[t1,t2] w9 λt32 w=>R t32 w) (v (et .eql 3 7 t0 (i64 11)) w9 λt34 w11=>aH t34 (c 168 #[t1,t2] w11 λt37 w=>R t37 w) (v (et .eql 3 7 t0 (i64 12)) w11 λt39 w13=>aH t39 (c 169 #[t1,t2] w13 λt42 w=>R t42 w) (v (et .eql 3 7 t0 (i64 13)) w13 λt44 w15=>aH t44 (c 170 #[t1,t2] w15 λt47 w=>R t47 w) (v (et .eql 3 7 t0 (i64 14)) w15 λt49 w17=>aH t49 (c 171 #[t1,t2] w17 λt52 w=>R t52 w) (v (et .eql 3 7 t0 (i64 19)) w17 λt54 w19=>aH t54 (c 172 #[t1,t2] w19 λt57 w=>R t57 w) (v (et .eql 3 7 t0 (i64 20)) w19 λt59 w21=>aH t59 (c 173 #[t1,t2] w21 λt62 w=>R t62 w) (c 174 #[t1,t2] w21 λt65 w=>R t65 w)))))))))))
theorem aFy (h:zD t0 t1 t2 w R):aB prog 194 #[t0,t1,t2] w R:=dw [] func194 h
def JJ (w:O) (R:Z->O->Prop):Prop:=
 v (buildSlice 292 40 #[(0,(Value.string { data:=#[] })),(1,(Value.string { data:=#[112,117,115,104] })),(2,(Value.string { data:=#[108,111,97,100] })),(3,(Value.string { data:=#[115,116,111,114,101] })),(4,(Value.string { data:=#[112,111,112] })),(5,(Value.string { data:=#[100,117,112] })),(6,(Value.string { data:=#[97,100,100] })),(7,(Value.string { data:=#[115,117,98] })),(8,(Value.string { data:=#[109,117,108] })),(9,(Value.string { data:=#[97,110,100] })),(10,(Value.string { data:=#[111,114] })),(11,(Value.string { data:=#[120,111,114] })),(12,(Value.string { data:=#[115,104,108] })),(13,(Value.string { data:=#[115,104,114] })),(14,(Value.string { data:=#[115,97,114] })),(15,(Value.string { data:=#[110,101,103] })),(16,(Value.string { data:=#[110,111,116] })),(17,(Value.string { data:=#[100,105,118] })),(18,(Value.string { data:=#[114,101,109] })),(19,(Value.string { data:=#[101,113] })),(20,(Value.string { data:=#[108,116] })),(21,(Value.string { data:=#[98,101,108,111,119] })),(22,(Value.string { data:=#[112,105,99,107] })),(23,(Value.string { data:=#[106,117,109,112] })),(24,(Value.string { data:=#[106,117,109,112,105,102] })),(25,(Value.string { data:=#[110,117,108,108] })),(26,(Value.string { data:=#[105,115,110,117,108,108] })),(27,(Value.string { data:=#[110,101,119] })),(28,(Value.string { data:=#[108,101,110] })),(29,(Value.string { data:=#[103,101,116] })),(30,(Value.string { data:=#[112,117,116] })),(31,(Value.string { data:=#[99,111,112,121] })),(32,(Value.string { data:=#[115,97,109,101] })),(33,(Value.string { data:=#[103,101,116,102] })),(34,(Value.string { data:=#[112,117,116,102] })),(35,(Value.string { data:=#[98,117,102] })),(36,(Value.string { data:=#[115,101,110,100] })),(37,(Value.string { data:=#[99,97,108,108] })),(38,(Value.string { data:=#[99,97,108,108,120] })),(39,(Value.string { data:=#[114,101,116] }))]) w λt1 w=>R t1 w
theorem aFx (h:JJ w R):aB prog 196 #[] w R:=dw [] func196 h
def JI (t0 t1:Z) (w:O) (R:Z->O->Prop):Prop:=
 v (e .eql 3 (.tmp 5) (.tmp 6) t0 t1) w λt7 w=>gk t7 true t0 w λt9 w=>gd t7 true (λK=> c 148 #[t9] w K) w λt10 w=>gk t7 true t10 w λt11 w=>gk t11 false t0 w λt12 w=>gd t11 false (λK=> c 147 #[t12] w K) w λt13 w=>gd t7 true (λK=> aG t11 (.bool true) t13 λv=> K v w) w λt14 w=>aG t7 t14 (.bool false) λt15=>gk t15 false t0 w λt17 w=>g t15 false (et .eql 3 17 t17 (i64 1)) w λt18 w=>gk t15 false t18 w λt19 w=>gk t19 true t1 w λt20 w=>g t19 true (et .eql 3 20 t20 (i64 2)) w λt21 w=>gd t15 false (λK=> aG t19 t21 (.bool false) λv=> K v w) w λt22 w=>aG t15 (.bool true) t22 λt23=>R t23 w
theorem aFw (h:JI t0 t1 w R):aB prog 197 #[t0,t1] w R:=dw [] func197 h
def JH (t0 t1:Z) (w:O) (R:Z->O->Prop):Prop:=
 v (et .eql 3 5 t0 (i64 2)) w λt6 w=>gk t6 false t1 w λt8 w=>g t6 false (et .eql 3 8 t8 (i64 2)) w λt9 w=>aG t6 (.bool true) t9 λt10=>aH t10 (R (i64 2) w) (R (i64 1) w)
theorem aFv (h:JH t0 t1 w R):aB prog 198 #[t0,t1] w R:=dw [] func198 h
def JG (t0:Z) (w:O) (R:Z->O->Prop):Prop:=
 v (et .eql 3 3 t0 (i64 3)) w λt5 w=>aH t5 (R (i64 1) w) (v (et .eql 3 3 t0 (i64 4)) w λt7 w=>aH t7 (R (i64 2) w) (R (i64 0) w))
theorem aFu (h:JG t0 w R):aB prog 199 #[t0] w R:=dw [] func199 h
def zC (t0:Z) (w:O) (R:Z->O->Prop):Prop:=
 v (box 46 t0) w λt1 w=>fl 46 t1 0 9 w λt4 w=>c 224 #[t4] w λt5 w=>v (Op.unary UnOp.not t5) w λt6 w=>g t6 false (fieldAt 46 t1 1) w λt8 w=>g t6 false (loadAt 42 t8) w λt9 w=>gd t6 false (λK=> c 225 #[t9,(i64 8)] w K) w λt10 w=>g t6 false (Op.unary UnOp.not t10) w λt11 w=>aG t6 (.bool true) t11 λt12=>g t12 false (fieldAt 46 t1 2) w λt14 w=>g t12 false (loadAt 43 t14) w λt15 w=>g t12 false (ln 43 3 t15) w λt16 w=>g t12 false (b .gtr t16 (i64 4)) w λt17 w=>aG t12 (.bool true) t17 λt18=>g t18 false (fieldAt 46 t1 2) w λt20 w=>g t18 false (loadAt 43 t20) w λt21 w=>gd t18 false (λK=> c 226 #[t21,(Value.func (.func 227) #[] #[])] w K) w λt22 w=>g t18 false (Op.unary UnOp.not t22) w λt23 w=>aG t18 (.bool true) t23 λt24=>aH t24 (R (.bool false) w) (fl 46 t1 3 44 w λt26 w=>v (ln 44 3 t26) w λt27 w=>v (b .lss t27 (i64 1)) w λt28 w=>g t28 false (fieldAt 46 t1 3) w λt30 w=>g t28 false (loadAt 44 t30) w λt31 w=>g t28 false (ln 44 3 t31) w λt32 w=>g t28 false (b .gtr t32 (i64 8)) w λt33 w=>aG t28 (.bool true) t33 λt34=>g t34 false (fieldAt 46 t1 3) w λt36 w=>g t34 false (loadAt 44 t36) w λt37 w=>gd t34 false (λK=> c 228 #[t37,(Value.func (.func 229) #[] #[])] w K) w λt38 w=>g t34 false (Op.unary UnOp.not t38) w λt39 w=>aG t34 (.bool true) t39 λt40=>g t40 false (fieldAt 46 t1 3) w λt42 w=>g t40 false (loadAt 44 t42) w λt43 w=>g t40 false (indexAt 44 t43 (i64 0)) w λt44 w=>g t40 false (fieldAt 74 t44 0) w λt45 w=>g t40 false (loadAt 42 t45) w λt46 w=>g t40 false (ln 42 3 t46) w λt47 w=>g t40 false (b .gtr t47 (i64 0)) w λt48 w=>aG t40 (.bool true) t48 λt49=>g t49 false (fieldAt 46 t1 3) w λt51 w=>g t49 false (loadAt 44 t51) w λt52 w=>g t49 false (indexAt 44 t52 (i64 0)) w λt53 w=>g t49 false (fieldAt 74 t53 1) w λt54 w=>g t49 false (loadAt 3 t54) w λt55 w=>g t49 false (et .neq 3 55 t55 (i64 0)) w λt56 w=>aG t49 (.bool true) t56 λt57=>aH t57 (R (.bool false) w) (fl 46 t1 4 42 w λt59 w=>v (ln 42 3 t59) w λt60 w=>v (b .leq t60 (i64 4)) w λt61 w=>g t61 true (fieldAt 46 t1 4) w λt63 w=>g t61 true (loadAt 42 t63) w λt64 w=>g t61 true (makeFunc (Fn.func 231) #[] #[t1]) w λt65 w=>gd t61 true (λK=> c 230 #[t64,t65] w K) w λt66 w=>aG t61 t66 (.bool false) λt67=>R t67 w))
theorem aFt (h:zC t0 w R):aB prog 200 #[t0] w R:=dw [] func200 h
def JF (t0:Z) (w:O) (R:Z->O->Prop):Prop:=
 v (ln 116 3 t0) w λt10 w=>∃ (I1:NP 2) (μ1:NF 2),I1 (i64 0) (i64 0) w /\
 ∀ t3 t11 w2,I1 t3 t11 w2->∀ _f:dT,v (b .lss t11 t10) w2 λt12 w3=>aH t12 (il 116 t0 t11 42 w3 λt14 w=>v (ln 42 3 t14) w λt17 w=>v (b .add t3 t17) w λt18 w=>v (b .lss t18 (i64 0)) w λt20 w8=>aH t20 (v (makeInterface 9 (Value.string { data:=#[108,101,110,32,111,117,116,32,111,102,32,114,97,110,103,101] })) w8 λ_ _=>False) (v (b .add t11 (i64 1)) w8 λt22 w=>I1 t18 t22 w/\μ1 t18 t22 w < μ1 t3 t11 w2)) (c 232 #[cM,t3] w3 λt24 w=>v (ln 116 3 t0) w λt26 w=>∃ (I2:NP 2) (μ2:NF 2),I2 t24 (i64 0) w /\
 ∀ t6 t27 w13,I2 t6 t27 w13->∀ _f:dT,v (b .lss t27 t26) w13 λt28 w14=>aH t28 (il 116 t0 t27 42 w14 λt30 w=>v (Builtin.append_ #[42,42] 42 #[t6,t30]) w λt33 w=>v (b .add t27 (i64 1)) w λt34 w=>I2 t33 t34 w/\μ2 t33 t34 w < μ2 t6 t27 w13) (R t6 w14))
theorem aFs (h:JF t0 w R):aB prog 201 #[t0] w R:=dw [lo [3,11],l,l,l,lo [6,27]] func201 h
def zB (t0 t1:Z) (w:O) (R:Z->O->Prop):Prop:=
 v (box 70 t1) w λt3 w=>fl 70 t3 0 3 w λt6 w=>∃ J1:NP 1,(v (et .eql 3 6 t6 (i64 2)) w λt8 w=>aH t8 (J1 t8 w) (v (et .eql 3 6 t6 (i64 3)) w λt9 w=>J1 t9 w)) /\
 ∀ t7 w6,J1 t7 w6->∀ _f:dT,aH t7 (aJ w6 λS4 w=>yf S4 70 t3 1 3 λt11=>Go.Vc.aY (t0) /\
 yf S4 220 t0 2 42 λt15=>y S4 (ln 42 3 t15) λt16=>y S4 (b .lss t11 t16) λt17=>R t17 w) (∃ J2:NP 1,(v (et .eql 3 6 t6 (i64 33)) w6 λt19 w=>aH t19 (J2 t19 w) (v (et .eql 3 6 t6 (i64 34)) w λt20 w=>J2 t20 w)) /\
 ∀ t18 w10,J2 t18 w10->∀ _f:dT,aH t18 (aJ w10 λS7 w=>yf S7 70 t3 1 3 λt22=>Go.Vc.aY (t0) /\
 y S7 (fieldAt 220 t0 0) λt25=>yf S7 46 t25 1 42 λt27=>y S7 (ln 42 3 t27) λt28=>y S7 (b .lss t22 t28) λt29=>R t29 w) (v (et .eql 3 6 t6 (i64 37)) w10 λt31 w12=>aH t31 (aJ w12 λS9 w=>yf S9 70 t3 1 3 λt33=>Go.Vc.aY (t0) /\
 y S9 (fieldAt 220 t0 0) λt36=>yf S9 46 t36 3 44 λt38=>y S9 (ln 44 3 t38) λt39=>y S9 (b .lss t33 t39) λt40=>R t40 w) (v (et .eql 3 6 t6 (i64 38)) w12 λt42 w14=>aH t42 (aJ w14 λS11 w=>yf S11 70 t3 1 3 λt44=>Go.Vc.aY (t0) /\
 y S11 (fieldAt 220 t0 0) λt47=>yf S11 46 t47 2 43 λt49=>y S11 (ln 43 3 t49) λt50=>y S11 (b .lss t44 t50) λt51=>R t51 w) (∃ J3:NP 1,(v (et .eql 3 6 t6 (i64 23)) w14 λt53 w=>aH t53 (J3 t53 w) (v (et .eql 3 6 t6 (i64 24)) w λt54 w=>J3 t54 w)) /\
 ∀ t52 w18,J3 t52 w18->∀ _f:dT,aH t52 (aJ w18 λS14 w=>yf S14 70 t3 1 3 λt56=>Go.Vc.aY (t0) /\
 y S14 (fieldAt 220 t0 1) λt59=>yf S14 74 t59 3 71 λt61=>y S14 (ln 71 3 t61) λt62=>y S14 (b .lss t56 t62) λt63=>R t63 w) (R (.bool true) w18)))))
theorem aFr (h:zB t0 t1 w R):aB prog 202 #[t0,t1] w R:=dw [jn [7],dr 0 9 511 (tk (rg 0 8) .done),l,jn [18],dr 0 10 1023 (tk (rg 0 9) .done),l,dr 0 10 1023 (tk (rg 0 9) .done),l,dr 0 10 1023 (tk (rg 0 9) .done),l,jn [52],dr 0 10 1023 (tk (rg 0 9) .done)] func202 h
def JE (t0 t1 t2:Z) (w:O) (R:Z->O->Prop):Prop:=
 Go.Vc.aY (t0) /\
 v (fieldAt 220 t0 1) w λt13 w=>fl 74 t13 3 71 w λt15 w=>v (ln 71 3 t15) w λt16 w=>v (b .geq t1 t16) w λt17 w=>aH t17 (R (i64 13) w) (Go.Vc.aY (t0) /\
 fl 220 t0 4 117 w λt22 w=>il 117 t22 t1 4 w λt25 w=>v (Op.unary UnOp.not t25) w λt26 w12=>aH t26 (aJ w12 λS4 w=>Go.Vc.aY (t0) /\
 yf S4 220 t0 3 116 λt30=>Go.Vc.aY (t0) /\
 yf S4 220 t0 4 117 λt35=>Go.Vc.aY (t0) /\
 yf S4 220 t0 5 117 λt40=>c 122 #[t2] w λt43 w=>S4 w /\
 y S4 (indexAt 116 t30 t1) λt44=>u (storeAt 42 t44 t43) w λ_ w=>S4 w /\
 y S4 (indexAt 117 t35 t1) λt45=>u (storeAt 4 t45 (.bool true)) w λ_ w=>S4 w /\
 y S4 (indexAt 117 t40 t1) λt46=>u (storeAt 4 t46 (.bool true)) w λ_ w=>R (i64 0) w) (Go.Vc.aY (t0) /\
 fl 220 t0 3 116 w12 λt51 w=>il 116 t51 t1 42 w λt54 w=>c 233 #[t54,t2] w λt56 w=>x2 t56 w λt57 t58 w=>v (Op.unary UnOp.not t58) w λt60 w=>aH t60 (R (i64 14) w) (Go.Vc.aY (t0) /\
 fl 220 t0 3 116 w λt65 w=>il 116 t65 t1 42 w λt68 w=>c 183 #[t57,t68] w λt69 w=>v (Op.unary UnOp.not t69) w λt70 w33=>aH t70 (aJ w33 λS10 w=>Go.Vc.aY (t0) /\
 yf S10 220 t0 3 116 λt74=>Go.Vc.aY (t0) /\
 yf S10 220 t0 5 117 λt79=>y S10 (indexAt 116 t74 t1) λt82=>u (storeAt 42 t82 t57) w λ_ w=>S10 w /\
 y S10 (indexAt 117 t79 t1) λt83=>u (storeAt 4 t83 (.bool true)) w λ_ w=>R (i64 0) w) (R (i64 0) w33))))
theorem aFq (h:JE t0 t1 t2 w R):aB prog 203 #[t0,t1,t2] w R:=dw [dr 0 22 4194303 (tk (rg 0 15) (.only 16 (.take 17 (.only 18 (.take 19 (.only 20 (.take 21 (.last 22)))))))),l,l,l,dr 0 14 16383 (tk (rg 0 11) (.only 12 (.take 13 (.last 14))))] func203 h
def JD (t0 t1:Z) (w:O) (R:Z->O->Prop):Prop:=
 v (ln 117 3 t0) w λt7 w=>∃ (I1:NP 1) (μ1:NF 1),I1 (i64 0) w /\
 ∀ t8 w2,I1 t8 w2->∀ _f:dT,v (b .lss t8 t7) w2 λt9 w3=>aH t9 (il 117 t0 t8 4 w3 λt15 w=>v (e .eql 4 (.tmp 11) (.tmp 15) t1 t15) w λt16 w=>aH t16 (R t8 w) (v (b .add t8 (i64 1)) w λt18 w=>I1 t18 w/\μ1 t18 w < μ1 t8 w2)) (R (i64 (-1)) w3)
theorem aFp (h:JD t0 t1 w R):aB prog 204 #[t0,t1] w R:=dw [lo [8]] func204 h
def JC (t0 t1 t2:Z) (w:O) (R:Z->O->Prop):Prop:=
 v (box 70 t1) w λt4 w=>v (ln 42 3 t2) w λt13 w=>v (loadAt 70 t4) w λt15 w=>c 234 #[t0,t15] w λt16 w=>v (ln 42 3 t16) w λt17 w=>v (b .sub t13 t17) w λt18 w=>v (b .lss t18 (i64 0)) w λt20 w=>gk t20 false t18 w λt22 w=>gk t20 false t0 w λt23 w=>g t20 false (loadAt 70 t4) w λt24 w=>gd t20 false (λK=> c 235 #[t23,t24] w K) w λt25 w=>g t20 false (b .add t22 t25) w λt26 w=>g t20 false (b .gtr t26 (i64 8)) w λt27 w=>aG t20 (.bool true) t27 λt28=>aH t28 (R (.tuple #[cM,(i64 10)]) w) (v (sliceAt 42 t2 (some t18) none none) w λt31 w=>v (loadAt 70 t4) w λt33 w=>c 236 #[t0,t33,t31] w λt35 w=>v (et .neq 34 36 t35 (i64 0)) w λt37 w=>aH t37 (R (.tuple #[cM,t35]) w) (v (loadAt 70 t4) w λt40 w=>c 237 #[t0,t40,t31] w λt42 w=>v (et .neq 34 43 t42 (i64 0)) w λt44 w=>aH t44 (R (.tuple #[cM,t42]) w) (aJ w λS11 w=>y S11 (sliceAt 42 t2 none (some t18) none) λt48=>y S11 (loadAt 70 t4) λt51=>c 122 #[t48] w λt49 w=>S11 w /\
 c 238 #[t0,t51,t31] w λt53 w=>S11 w /\
 v (Builtin.append_ #[42,42] 42 #[t49,t53]) w λt54 w=>S11 w /\
 R (.tuple #[t54,(i64 0)]) w)))
theorem aFo (h:JC t0 t1 t2 w R):aB prog 205 #[t0,t1,t2] w R:=dw [l,l,l,dr 0 11 2047 (tk [0,1,2,4,5,6] (.only 3 (.only 7 (.only 8 (.take 9 (.take 10 .done))))))] func205 h
def JA (t0 t1:Z) (w:O) (R:Z->O->Prop):Prop:=
 v (box 70 t0) w λt2 w=>fl 70 t2 0 3 w λt6 w=>v (et .eql 3 6 t6 (i64 23)) w λt8 w4=>aH t8 (fl 70 t2 1 3 w4 λt10 w=>v (buildSlice 42 1 #[(0,t10)]) w λt11 w=>R t11 w) (v (et .eql 3 6 t6 (i64 24)) w4 λt13 w8=>aH t13 (v (b .add t1 (i64 1)) w8 λt15 w=>fl 70 t2 1 3 w λt17 w=>v (buildSlice 42 2 #[(0,t15),(1,t17)]) w λt18 w=>R t18 w) (v (et .eql 3 6 t6 (i64 39)) w8 λt20 w=>aH t20 (R cM w) (v (b .add t1 (i64 1)) w λt22 w=>v (buildSlice 42 1 #[(0,t22)]) w λt23 w=>R t23 w)))
theorem aFn (h:JA t0 t1 w R):aB prog 206 #[t0,t1] w R:=dw [] func206 h
def zA (t0:Z) (w:O) (R:Z->O->Prop):Prop:=
 v (b .geq t0 (i64 6)) w λt4 w=>gk t4 true t0 w λt6 w=>g t4 true (b .leq t6 (i64 14)) w λt7 w=>aG t4 t7 (.bool false) λt8=>gk t8 false t0 w λt10 w=>g t8 false (b .geq t10 (i64 19)) w λt11 w=>gk t8 false t11 w λt12 w=>gk t12 true t0 w λt13 w=>g t12 true (b .leq t13 (i64 21)) w λt14 w=>gd t8 false (λK=> aG t12 t14 (.bool false) λv=> K v w) w λt15 w=>aG t8 (.bool true) t15 λt16=>R t16 w
theorem aFm (h:zA t0 w R):aB prog 207 #[t0] w R:=dw [] func207 h
def yZ (t0:Z) (w:O) (R:Z->O->Prop):Prop:=
 v (et .eql 3 3 t0 (i64 15)) w λt4 w=>gk t4 false t0 w λt6 w=>g t4 false (et .eql 3 6 t6 (i64 16)) w λt7 w=>aG t4 (.bool true) t7 λt8=>gk t8 false t0 w λt10 w=>g t8 false (et .eql 3 10 t10 (i64 26)) w λt11 w=>aG t8 (.bool true) t11 λt12=>R t12 w
theorem aFl (h:yZ t0 w R):aB prog 208 #[t0] w R:=dw [] func208 h
def IZ (t0:Z) (w:O) (R:Z->O->Prop):Prop:=
 ∃ J1:NP 1,(v (et .eql 3 3 t0 (i64 27)) w λt5 w=>aH t5 (J1 t5 w) (v (et .eql 3 3 t0 (i64 28)) w λt6 w=>J1 t6 w)) /\
 ∀ t4 w,J1 t4 w->∀ _f:dT,aH t4 (R (i64 1) w) (∃ J2:NP 1,(v (et .eql 3 3 t0 (i64 17)) w λt8 w=>aH t8 (J2 t8 w) (v (et .eql 3 3 t0 (i64 18)) w λt9 w=>aH t9 (J2 t9 w) (v (et .eql 3 3 t0 (i64 29)) w λt10 w=>J2 t10 w))) /\
 ∀ t7 w,J2 t7 w->∀ _f:dT,aH t7 (R (i64 2) w) (∃ J3:NP 1,(v (et .eql 3 3 t0 (i64 30)) w λt12 w=>aH t12 (J3 t12 w) (v (et .eql 3 3 t0 (i64 36)) w λt13 w=>J3 t13 w)) /\
 ∀ t11 w,J3 t11 w->∀ _f:dT,aH t11 (R (i64 3) w) (v (et .eql 3 3 t0 (i64 31)) w λt15 w=>aH t15 (aH t15 (R (i64 5) w) (R (i64 (-1)) w)) (v (et .eql 3 3 t0 (i64 32)) w λt16 w=>aH t16 (R (i64 5) w) (R (i64 (-1)) w)))))
theorem aFk (h:IZ t0 w R):aB prog 209 #[t0] w R:=dw [jn [4],jn [7],jn [11]] func209 h
def yY (t0:Z) (w:O) (R:Z->O->Prop):Prop:=
 Go.Vc.aY (t0) /\
 fl 252 t0 1 42 w λt6 w=>v (ln 42 3 t6) w λt7 w=>v (et .eql 3 7 t7 (i64 0)) w λt8 w=>aH t8 (R (i64 0) w) (Go.Vc.aY (t0) /\
 fl 252 t0 2 3 w λt12 w=>v (b .add t12 (i64 1)) w λt13 w=>Go.Vc.aY (t0) /\
 v (fieldAt 252 t0 2) w λt15 w=>u (storeAt 3 t15 t13) w λ_ w=>aJ w λS4 w=>Go.Vc.aY (t0) /\
 yf S4 252 t0 1 42 λt19=>Go.Vc.aY (t0) /\
 yf S4 252 t0 2 3 λt23=>Go.Vc.aY (t0) /\
 yf S4 252 t0 1 42 λt27=>y S4 (ln 42 3 t27) λt28=>y S4 (b .rem t23 t28) λt29=>yi S4 42 t19 t29 3 λt31=>Go.Vc.aY (t0) /\
 yf S4 252 t0 2 3 λt35=>Go.Vc.aY (t0) /\
 yf S4 252 t0 1 42 λt39=>y S4 (ln 42 3 t39) λt40=>y S4 (b .quo t35 t40) λt41=>y S4 (b .add t31 t41) λt42=>R t42 w)
theorem RW (h:yY t0 w R):aB prog 210 #[t0] w R:=dw [l,dr 0 28 268435455 (tk (rg 0 27) .done)] func210 h
def yW (t0 t1:Z) (w:O) (R:Z->O->Prop):Prop:=
 ∃ (I1:NP 2) (μ1:NF 2),I1 cM (i64 0) w /\
 ∀ t6 t7 w1,I1 t6 t7 w1->∀ _f:dT,Go.Vc.aY (t0) /\
 fl 252 t0 3 42 w1 λt12 w=>v (ln 42 3 t12) w λt13 w=>v (b .lss t7 t13) w λt14 w6=>aH t14 (Go.Vc.aY (t0) /\
 fl 252 t0 3 42 w6 λt20 w=>il 42 t20 t7 3 w λt23 w=>v (e .eql 3 (.tmp 23) (.tmp 24) t23 t1) w λt25 w12=>aH t25 (v (buildSlice 42 1 #[(0,t7)]) w12 λt28 w=>v (Builtin.append_ #[42,42] 42 #[t6,t28]) w λt29 w=>v (b .add t7 (i64 1)) w λt16 w=>I1 t29 t16 w/\μ1 t29 t16 w < μ1 t6 t7 w1) (v (b .add t7 (i64 1)) w12 λt16_1 w=>I1 t6 t16_1 w/\μ1 t6 t16_1 w < μ1 t6 t7 w1)) (v (ln 42 3 t6) w6 λt31 w=>v (et .eql 3 31 t31 (i64 0)) w λt32 w=>aH t32 (R (.tuple #[(i64 0),(.bool false)]) w) (c 210 #[t0] w λt35 w=>v (ln 42 3 t6) w λt37 w=>c 11 #[t35,t37] w λt38 w=>il 42 t6 t38 3 w λt40 w=>R (.tuple #[t40,(.bool true)]) w))
theorem RV (h:yW t0 t1 w R):aB prog 211 #[t0,t1] w R:=dw [lo [6,7]] func211 h
def yV (t0:Z) (w:O) (R:Z->O->Prop):Prop:=
 v (et .eql 9 5 t0 (Value.string { data:=#[] })) w λt6 w=>gk t6 false t0 w λt8 w=>g t6 false (ln 9 3 t8) w λt9 w=>g t6 false (b .gtr t9 (i64 16)) w λt10 w=>aG t6 (.bool true) t10 λt11=>gk t11 false t0 w λt13 w=>gd t11 false (λK=> c 142 #[t13] w K) w λt14 w=>g t11 false (Op.unary UnOp.not t14) w λt15 w=>aG t11 (.bool true) t15 λt16=>aH t16 (R (.bool false) w) (v (range 9 t0) w λt18 w=>∃ (I1:NP 0) (μ1:NF 0),I1 w /\
 ∀ w11:O,I1 w11->∀ _f:dT,v (next t18 true 0) w11 λt19 w=>v (extract t19 0) w λt20 w13=>aH t20 (v (extract t19 2) w13 λt21 w=>c 242 #[t21] w λt23 w=>v (Op.unary UnOp.not t23) w λt24 w=>aH t24 (R (.bool false) w) (I1 w/\μ1 w < μ1 w11)) (R (.bool true) w13))
theorem aFj (h:yV t0 w R):aB prog 224 #[t0] w R:=dw [l,lo []] func224 h
def IY (t0 t1:Z) (w:O) (R:Z->O->Prop):Prop:=
 v (ln 42 3 t0) w λt6 w=>v (b .leq t6 t1) w λt8 w=>gk t8 true t0 w λt10 w=>gd t8 true (λK=> c 243 #[t10,(Value.func (.func 244) #[] #[])] w K) w λt11 w=>g t8 true (Op.unary UnOp.not t11) w λt12 w=>aG t8 t12 (.bool false) λt13=>R t13 w
theorem aFi (h:IY t0 t1 w R):aB prog 225 #[t0,t1] w R:=dw [] func225 h
def IX (t0 t1:Z) (w:O) (R:Z->O->Prop):Prop:=
 v (box 314 t1) w λt3 w=>v (makeFunc (Fn.func 247) #[] #[t3]) w λt6 w=>c 246 #[t0,t6] w λt7 w=>v (Op.unary UnOp.not t7) w λt8 w=>R t8 w
theorem aFh (h:IX t0 t1 w R):aB prog 226 #[t0,t1] w R:=dw [] func226 h
def yU (t0:Z) (w:O) (R:Z->O->Prop):Prop:=
 v (box 180 t0) w λt1 w=>fl 180 t1 0 9 w λt4 w=>c 224 #[t4] w λt5 w=>g t5 true (fieldAt 180 t1 1) w λt7 w=>g t5 true (loadAt 3 t7) w λt8 w=>g t5 true (b .geq t8 (i64 0)) w λt9 w=>aG t5 t9 (.bool false) λt10=>g t10 true (fieldAt 180 t1 1) w λt12 w=>g t10 true (loadAt 3 t12) w λt13 w=>g t10 true (b .lss t13 (i64 4)) w λt14 w=>aG t10 t14 (.bool false) λt15=>g t15 true (fieldAt 180 t1 2) w λt17 w=>g t15 true (loadAt 42 t17) w λt18 w=>gd t15 true (λK=> c 225 #[t18,(i64 4)] w K) w λt19 w=>aG t15 t19 (.bool false) λt20=>g t20 true (fieldAt 180 t1 3) w λt22 w=>g t20 true (loadAt 3 t22) w λt23 w=>gd t20 true (λK=> c 248 #[t23] w K) w λt24 w=>aG t20 t24 (.bool false) λt25=>R t25 w
theorem aFg (h:yU t0 w R):aB prog 227 #[t0] w R:=dw [] func227 h
def IW (t0 t1:Z) (w:O) (R:Z->O->Prop):Prop:=
 v (box 316 t1) w λt3 w=>v (makeFunc (Fn.func 250) #[] #[t3]) w λt6 w=>c 249 #[t0,t6] w λt7 w=>v (Op.unary UnOp.not t7) w λt8 w=>R t8 w
theorem aFf (h:IW t0 t1 w R):aB prog 228 #[t0,t1] w R:=dw [] func228 h
def yT (t0:Z) (w:O) (R:Z->O->Prop):Prop:=
 v (box 74 t0) w λt1 w=>fl 74 t1 0 42 w λt4 w=>c 225 #[t4,(i64 4)] w λt5 w=>g t5 true (fieldAt 74 t1 1) w λt7 w=>g t5 true (loadAt 3 t7) w λt8 w=>gd t5 true (λK=> c 248 #[t8] w K) w λt9 w=>aG t5 t9 (.bool false) λt10=>g t10 true (fieldAt 74 t1 2) w λt12 w=>g t10 true (loadAt 42 t12) w λt13 w=>g t10 true (fieldAt 74 t1 0) w λt14 w=>g t10 true (loadAt 42 t14) w λt15 w=>g t10 true (ln 42 3 t15) w λt16 w=>g t10 true (b .sub (i64 10) t16) w λt17 w=>gd t10 true (λK=> c 225 #[t13,t17] w K) w λt18 w=>aG t10 t18 (.bool false) λt19=>g t19 true (fieldAt 74 t1 3) w λt21 w=>g t19 true (loadAt 71 t21) w λt22 w=>g t19 true (ln 71 3 t22) w λt23 w=>g t19 true (b .geq t23 (i64 1)) w λt24 w=>aG t19 t24 (.bool false) λt25=>g t25 true (fieldAt 74 t1 3) w λt27 w=>g t25 true (loadAt 71 t27) w λt28 w=>g t25 true (ln 71 3 t28) w λt29 w=>g t25 true (b .leq t29 (i64 120)) w λt30 w=>aG t25 t30 (.bool false) λt31=>g t31 true (fieldAt 74 t1 3) w λt33 w=>g t31 true (loadAt 71 t33) w λt34 w=>gd t31 true (λK=> c 251 #[t34,(Value.func (.func 252) #[] #[])] w K) w λt35 w=>aG t31 t35 (.bool false) λt36=>R t36 w
theorem aFe (h:yT t0 w R):aB prog 229 #[t0] w R:=dw [] func229 h
def IV (t0 t1:Z) (w:O) (R:Z->O->Prop):Prop:=
 v (box 267 t1) w λt3 w=>v (makeFunc (Fn.func 253) #[] #[t3]) w λt6 w=>c 243 #[t0,t6] w λt7 w=>v (Op.unary UnOp.not t7) w λt8 w=>R t8 w
theorem aFd (h:IV t0 t1 w R):aB prog 230 #[t0,t1] w R:=dw [] func230 h
def yS (t0 t1:Z) (w:O) (R:Z->O->Prop):Prop:=
 v (b .geq t0 (i64 0)) w λt5 w=>gk t5 true t0 w λt7 w=>g t5 true (fieldAt 46 t1 3) w λt8 w=>g t5 true (loadAt 44 t8) w λt9 w=>g t5 true (ln 44 3 t9) w λt10 w=>g t5 true (b .lss t7 t10) w λt11 w=>aG t5 t11 (.bool false) λt12=>R t12 w
theorem aFc (h:yS t0 t1 w R):aB prog 231 #[t0,t1] w R:=dw [] func231 h
def IU (t0 t1:Z) (w:O) (R:Z->O->Prop):Prop:=
 ∃ J1:NP 0,(v (b .lss t1 (i64 0)) w λt6 w1=>aH t6 (v (makeInterface 9 (Value.string { data:=#[99,97,110,110,111,116,32,98,101,32,110,101,103,97,116,105,118,101] })) w1 λ_ _=>False) (J1 w1)) /\
 ∀ w:O,J1 w->∀ _f:dT,v (Builtin.cap_ #[42] 3 #[t0]) w λt10 w=>v (ln 42 3 t0) w λt12 w=>v (b .sub t10 t12) w λt13 w=>v (b .sub t1 t13) w λt14 w=>v (b .gtr t14 (i64 0)) w λt16 w8=>aH t16 (v (Builtin.cap_ #[42] 3 #[t0]) w8 λt19 w=>v (sliceAt 42 t0 none (some t19) none) w λt20 w=>v (Builtin.append_ #[42,3] 42 #[t20,t14]) w λt22 w=>v (ln 42 3 t0) w λt24 w=>v (sliceAt 42 t22 none (some t24) none) w λt25 w=>R t25 w) (R t0 w8)
theorem aFb (h:IU t0 t1 w R):aB prog 232 #[t0,t1] w R:=dw [jn []] func232 h
def IR (t0 t1:Z) (w:O) (R:Z->O->Prop):Prop:=
 v (ln 42 3 t0) w λt11 w=>v (ln 42 3 t1) w λt13 w=>v (e .neq 3 (.tmp 11) (.tmp 13) t11 t13) w λt14 w=>aH t14 (R (.tuple #[cM,(.bool false)]) w) (v (ln 42 3 t0) w λt16 w=>∃ (I1:NP 2) (μ1:NF 2),I1 cM (i64 0) w /\
 ∀ t6 t17 w5,I1 t6 t17 w5->∀ _f:dT,v (b .lss t17 t16) w5 λt18 w6=>aH t18 (aJ w6 λS7 w=>yi S7 42 t0 t17 3 λt24=>yi S7 42 t1 t17 3 λt28=>c 254 #[t24,t28] w λt29 w=>S7 w /\
 y S7 (extract t29 0) λt30=>y S7 (extract t29 1) λt31=>v (Op.unary UnOp.not t31) w λt33 w=>aH t33 (R (.tuple #[cM,(.bool false)]) w) (v (buildSlice 42 1 #[(0,t30)]) w λt36 w=>v (Builtin.append_ #[42,42] 42 #[t6,t36]) w λt37 w=>v (b .add t17 (i64 1)) w λt38 w=>I1 t37 t38 w/\μ1 t37 t38 w < μ1 t6 t17 w5)) (R (.tuple #[t6,(.bool true)]) w6))
theorem aFa (h:IR t0 t1 w R):aB prog 233 #[t0,t1] w R:=dw [l,lo [6,17],l,dr 0 14 16383 (tk (rg 0 7) (.only 8 (tk (rg 9 13) .done)))] func233 h
def IQ (t0 t1:Z) (w:O) (R:Z->O->Prop):Prop:=
 v (box 70 t1) w λt3 w=>fl 70 t3 0 3 w λt6 w=>v (et .eql 3 6 t6 (i64 3)) w λt8 w4=>aH t8 (aJ w4 λS3 w=>Go.Vc.aY (t0) /\
 yf S3 220 t0 2 42 λt12=>yf S3 70 t3 1 3 λt14=>yi S3 42 t12 t14 3 λt16=>v (buildSlice 42 1 #[(0,t16)]) w λt17 w=>S3 w /\
 c 255 #[t17] w λt18 w=>S3 w /\
 R t18 w) (v (et .eql 3 6 t6 (i64 34)) w4 λt20 w8=>aH t20 (aJ w8 λS5 w=>Go.Vc.aY (t0) /\
 y S5 (fieldAt 220 t0 0) λt23=>yf S5 46 t23 1 42 λt25=>yf S5 70 t3 1 3 λt27=>yi S5 42 t25 t27 3 λt29=>v (buildSlice 42 1 #[(0,t29)]) w λt30 w=>S5 w /\
 c 255 #[t30] w λt31 w=>S5 w /\
 R t31 w) (∃ J1:NP 1,(v (et .eql 3 6 t6 (i64 4)) w8 λt33 w=>aH t33 (J1 t33 w) (v (et .eql 3 6 t6 (i64 5)) w λt34 w=>J1 t34 w)) /\
 ∀ t32 w14,J1 t32 w14->∀ _f:dT,aH t32 (v (buildSlice 42 1 #[(0,(i64 (-1)))]) w14 λt35 w=>c 255 #[t35] w λt36 w=>R t36 w) (∃ J2:NP 1,(v (et .eql 3 6 t6 (i64 15)) w14 λt38 w=>aH t38 (J2 t38 w) (v (et .eql 3 6 t6 (i64 16)) w λt39 w=>J2 t39 w)) /\
 ∀ t37 w19,J2 t37 w19->∀ _f:dT,aH t37 (v (buildSlice 42 1 #[(0,(i64 (-2)))]) w19 λt40 w=>c 255 #[t40] w λt41 w=>R t41 w) (∃ J3:NP 1,(v (et .eql 3 6 t6 (i64 6)) w19 λt43 w=>aH t43 (J3 t43 w) (v (et .eql 3 6 t6 (i64 7)) w λt44 w=>aH t44 (J3 t44 w) (v (et .eql 3 6 t6 (i64 8)) w λt45 w=>aH t45 (J3 t45 w) (v (et .eql 3 6 t6 (i64 9)) w λt46 w=>aH t46 (J3 t46 w) (v (et .eql 3 6 t6 (i64 10)) w λt47 w=>aH t47 (J3 t47 w) (v (et .eql 3 6 t6 (i64 11)) w λt48 w=>aH t48 (J3 t48 w) (v (et .eql 3 6 t6 (i64 12)) w λt49 w=>aH t49 (J3 t49 w) (v (et .eql 3 6 t6 (i64 13)) w λt50 w=>aH t50 (J3 t50 w) (v (et .eql 3 6 t6 (i64 14)) w λt51 w=>aH t51 (J3 t51 w) (v (et .eql 3 6 t6 (i64 19)) w λt52 w=>aH t52 (J3 t52 w) (v (et .eql 3 6 t6 (i64 20)) w λt53 w=>aH t53 (J3 t53 w) (v (et .eql 3 6 t6 (i64 21)) w λt54 w=>J3 t54 w)))))))))))) /\
 ∀ t42 w34,J3 t42 w34->∀ _f:dT,aH t42 (v (buildSlice 42 2 #[(0,(i64 (-2))),(1,(i64 (-2)))]) w34 λt55 w=>c 255 #[t55] w λt56 w=>R t56 w) (∃ J4:NP 1,(v (et .eql 3 6 t6 (i64 17)) w34 λt58 w=>aH t58 (J4 t58 w) (v (et .eql 3 6 t6 (i64 18)) w λt59 w=>J4 t59 w)) /\
 ∀ t57 w39,J4 t57 w39->∀ _f:dT,aH t57 (v (buildSlice 42 2 #[(0,(i64 (-3))),(1,(i64 (-3)))]) w39 λt60 w=>c 255 #[t60] w λt61 w=>R t61 w) (v (et .eql 3 6 t6 (i64 22)) w39 λt63 w42=>aH t63 (v (buildSlice 42 3 #[(0,(i64 (-2))),(1,(i64 (-1))),(2,(i64 (-1)))]) w42 λt64 w=>c 255 #[t64] w λt65 w=>R t65 w) (∃ J5:NP 1,(v (et .eql 3 6 t6 (i64 24)) w42 λt67 w=>aH t67 (J5 t67 w) (v (et .eql 3 6 t6 (i64 27)) w λt68 w=>J5 t68 w)) /\
 ∀ t66 w47,J5 t66 w47->∀ _f:dT,aH t66 (v (buildSlice 42 1 #[(0,(i64 (-3)))]) w47 λt69 w=>c 255 #[t69] w λt70 w=>R t70 w) (∃ J6:NP 1,(v (et .eql 3 6 t6 (i64 26)) w47 λt72 w=>aH t72 (J6 t72 w) (v (et .eql 3 6 t6 (i64 28)) w λt73 w=>J6 t73 w)) /\
 ∀ t71 w52,J6 t71 w52->∀ _f:dT,aH t71 (v (buildSlice 42 1 #[(0,(i64 (-4)))]) w52 λt74 w=>c 255 #[t74] w λt75 w=>R t75 w) (v (et .eql 3 6 t6 (i64 29)) w52 λt77 w55=>aH t77 (v (buildSlice 42 2 #[(0,(i64 (-4))),(1,(i64 (-3)))]) w55 λt78 w=>c 255 #[t78] w λt79 w=>R t79 w) (v (et .eql 3 6 t6 (i64 30)) w55 λt81 w58=>aH t81 (v (buildSlice 42 3 #[(0,(i64 (-4))),(1,(i64 (-3))),(2,(i64 (-2)))]) w58 λt82 w=>c 255 #[t82] w λt83 w=>R t83 w) (∃ J7:NP 1,(v (et .eql 3 6 t6 (i64 31)) w58 λt85 w=>aH t85 (J7 t85 w) (v (et .eql 3 6 t6 (i64 32)) w λt86 w=>J7 t86 w)) /\
 ∀ t84 w63,J7 t84 w63->∀ _f:dT,aH t84 (v (buildSlice 42 5 #[(0,(i64 (-4))),(1,(i64 (-3))),(2,(i64 (-4))),(3,(i64 (-3))),(4,(i64 (-3)))]) w63 λt87 w=>c 255 #[t87] w λt88 w=>R t88 w) (v (et .eql 3 6 t6 (i64 36)) w63 λt90 w66=>aH t90 (v (buildSlice 42 3 #[(0,(i64 (-4))),(1,(i64 (-3))),(2,(i64 (-3)))]) w66 λt91 w=>c 255 #[t91] w λt92 w=>R t92 w) (v (et .eql 3 6 t6 (i64 37)) w66 λt94 w69=>aH t94 (aJ w69 λS46 w=>Go.Vc.aY (t0) /\
 y S46 (fieldAt 220 t0 0) λt97=>yf S46 46 t97 3 44 λt99=>yf S46 70 t3 1 3 λt101=>y S46 (indexAt 44 t99 t101) λt102=>yf S46 74 t102 0 42 λt104=>R t104 w) (v (et .eql 3 6 t6 (i64 38)) w69 λt106 w71=>aH t106 (aJ w71 λS48 w=>Go.Vc.aY (t0) /\
 y S48 (fieldAt 220 t0 0) λt109=>yf S48 46 t109 2 43 λt111=>yf S48 70 t3 1 3 λt113=>y S48 (indexAt 43 t111 t113) λt114=>yf S48 180 t114 2 42 λt116=>R t116 w) (v (et .eql 3 6 t6 (i64 39)) w71 λt118 w73=>aH t118 (Go.Vc.aY (t0) /\
 v (fieldAt 220 t0 1) w73 λt121 w=>fl 74 t121 1 3 w λt123 w=>c 256 #[t123] w λt124 w=>R t124 w) (R cM w73))))))))))))))))
theorem aEz (h:IQ t0 t1 w R):aB prog 234 #[t0,t1] w R:=dw [dr 0 11 2047 (tk (rg 0 7) (.only 8 (.only 9 (.take 10 .done)))),l,dr 0 12 4095 (tk (rg 0 8) (.only 9 (.only 10 (.take 11 .done)))),l,jn [32],jn [37],jn [42],jn [57],jn [66],jn [71],jn [84],dr 0 11 2047 (tk (rg 0 10) .done),l,dr 0 11 2047 (tk (rg 0 10) .done)] func234 h
def IP (t0 t1:Z) (w:O) (R:Z->O->Prop):Prop:=
 v (box 70 t1) w λt3 w=>v (makeSlice 42 (i64 8) (i64 8)) w λt6 w=>v (loadAt 70 t3) w λt8 w=>c 238 #[t0,t8,t6] w λt10 w=>v (ln 42 3 t10) w λt11 w=>R t11 w
theorem aEy (h:IP t0 t1 w R):aB prog 235 #[t0,t1] w R:=dw [] func235 h
def IM (t0 t1 t2:Z) (w:O) (R:Z->O->Prop):Prop:=
 v (box 70 t1) w λt4 w=>v (loadAt 70 t4) w λt10 w=>c 234 #[t0,t10] w λt11 w=>v (ln 42 3 t11) w λt12 w=>∃ (I1:NP 1) (μ1:NF 1),I1 (i64 0) w /\
 ∀ t13 w5,I1 t13 w5->∀ _f:dT,v (b .lss t13 t12) w5 λt14 w6=>aH t14 (il 42 t11 t13 3 w6 λt17 w=>il 42 t2 t13 3 w λt21 w=>c 257 #[t21,t17] w λt23 w=>v (Op.unary UnOp.not t23) w λt24 w=>aH t24 (R (i64 11) w) (v (b .add t13 (i64 1)) w λt25 w=>I1 t25 w/\μ1 t25 w < μ1 t13 w5)) (aJ w6 λS7 w=>yf S7 70 t4 0 3 λt27=>y S7 (et .eql 3 27 t27 (i64 22)) λt28=>gx t28 true t2 λt30=>gy t28 true S7 (indexAt 42 t30 (i64 1)) λt31=>gy t28 true S7 (loadAt 3 t31) λt32=>gd t28 true (λK=> c 258 #[t32] w K) w λt33 w=>S7 w /\
 gx t28 true t33 λt34=>gx t34 true t2 λt35=>gy t34 true S7 (indexAt 42 t35 (i64 2)) λt36=>gy t34 true S7 (loadAt 3 t36) λt37=>gd t34 true (λK=> c 258 #[t37] w K) w λt38 w=>S7 w /\
 GP t28 true (λK=> aG t34 t38 (.bool false) K) λt39=>gy t28 true S7 (Op.unary UnOp.not t39) λt40=>aG t28 t40 (.bool false) λt41=>gx t41 true t2 λt43=>gy t41 true S7 (indexAt 42 t43 (i64 1)) λt44=>gy t41 true S7 (loadAt 3 t44) λt45=>gd t41 true (λK=> c 259 #[t45] w K) w λt46 w=>S7 w /\
 gx t41 true t46 λt47=>gx t47 true t2 λt48=>gy t47 true S7 (indexAt 42 t48 (i64 1)) λt49=>gy t47 true S7 (loadAt 3 t49) λt50=>gx t47 true t2 λt51=>gy t47 true S7 (indexAt 42 t51 (i64 2)) λt52=>gy t47 true S7 (loadAt 3 t52) λt53=>gy t47 true S7 (e .eql 3 (.tmp 50) (.tmp 53) t50 t53) λt54=>GP t41 true (λK=> aG t47 t54 (.bool false) K) λt55=>gy t41 true S7 (Op.unary UnOp.not t55) λt56=>aG t41 t56 (.bool false) λt57=>aH t57 (R (i64 11) w) (R (i64 0) w))
theorem aEx (h:IM t0 t1 t2 w R):aB prog 236 #[t0,t1,t2] w R:=dw [lo [13],l,l,l,dr 0 32 4294967295 (tk (rg 0 6) (.only 7 (tk (rg 8 11) (.only 12 (tk (rg 13 19) (.only 20 (tk (rg 21 31) .done)))))))] func236 h
def IL (t0 t1 t2:Z) (w:O) (R:Z->O->Prop):Prop:=
 v (box 70 t1) w λt4 w=>v (loadAt 70 t4) w λt11 w=>c 234 #[t0,t11] w λt12 w=>v (ln 42 3 t12) w λt13 w=>∃ (I1:NP 2) (μ1:NF 2),I1 (.bool false) (i64 0) w /\
 ∀ t7 t14 w5,I1 t7 t14 w5->∀ _f:dT,v (b .lss t14 t13) w5 λt15 w6=>aH t15 (il 42 t12 t14 3 w6 λt18 w=>gk t7 false t2 w λt21 w=>gk t7 false t14 w λt22 w=>g t7 false (indexAt 42 t21 t22) w λt23 w=>g t7 false (loadAt 3 t23) w λt24 w=>gk t7 false t18 w λt25 w=>gd t7 false (λK=> c 260 #[t24,t25] w K) w λt26 w=>aG t7 (.bool true) t26 λt27=>v (b .add t14 (i64 1)) w λt28 w=>I1 t27 t28 w/\μ1 t27 t28 w < μ1 t7 t14 w5) (fl 70 t4 0 3 w6 λt30 w=>v (et .eql 3 30 t30 (i64 22)) w λt32 w19=>aH t32 (il 42 t2 (i64 1) 3 w19 λt35 w=>c 259 #[t35] w λt36 w=>gk t36 true t2 w λt38 w=>g t36 true (indexAt 42 t38 (i64 0)) w λt39 w=>g t36 true (loadAt 3 t39) w λt40 w=>g t36 true (et .eql 3 40 t40 (i64 2)) w λt41 w=>aG t36 t41 (.bool false) λt42=>aH t42 (R (i64 12) w) (R (i64 0) w)) (v (et .eql 3 30 t30 (i64 30)) w19 λt44 w28=>aH t44 (gk t7 false t2 w28 λt47 w=>g t7 false (indexAt 42 t47 (i64 0)) w λt48 w=>g t7 false (loadAt 3 t48) w λt49 w=>g t7 false (et .eql 3 49 t49 (i64 3)) w λt50 w=>gk t7 false t50 w λt51 w=>gk t51 true t2 w λt52 w=>g t51 true (indexAt 42 t52 (i64 2)) w λt53 w=>g t51 true (loadAt 3 t53) w λt54 w=>g t51 true (et .eql 3 54 t54 (i64 2)) w λt55 w=>gd t7 false (λK=> aG t51 t55 (.bool false) λv=> K v w) w λt56 w=>aG t7 (.bool true) t56 λt57=>aH t57 (R (i64 12) w) (R (i64 0) w)) (v (et .eql 3 30 t30 (i64 31)) w28 λt59 w40=>aH t59 (gk t7 false t2 w40 λt62 w=>g t7 false (indexAt 42 t62 (i64 0)) w λt63 w=>g t7 false (loadAt 3 t63) w λt64 w=>g t7 false (et .eql 3 64 t64 (i64 3)) w λt65 w=>gk t7 false t65 w λt66 w=>gk t66 true t2 w λt67 w=>g t66 true (indexAt 42 t67 (i64 2)) w λt68 w=>g t66 true (loadAt 3 t68) w λt69 w=>g t66 true (et .eql 3 69 t69 (i64 4)) w λt70 w=>gd t7 false (λK=> aG t66 t70 (.bool false) λv=> K v w) w λt71 w=>aG t7 (.bool true) t71 λt72=>aH t72 (R (i64 12) w) (R (i64 0) w)) (v (et .eql 3 30 t30 (i64 36)) w40 λt74 w52=>aH t74 (g t7 false (fieldAt 70 t4 1) w52 λt77 w=>g t7 false (loadAt 3 t77) w λt78 w=>g t7 false (et .eql 3 78 t78 (i64 1)) w λt79 w=>gk t7 false t79 w λt80 w=>gk t80 true t2 w λt81 w=>g t80 true (indexAt 42 t81 (i64 0)) w λt82 w=>g t80 true (loadAt 3 t82) w λt83 w=>g t80 true (et .eql 3 83 t83 (i64 4)) w λt84 w=>gd t7 false (λK=> aG t80 t84 (.bool false) λv=> K v w) w λt85 w=>aG t7 (.bool true) t85 λt86=>aH t86 (R (i64 12) w) (R (i64 0) w)) (aH t7 (R (i64 12) w52) (R (i64 0) w52))))))
theorem aEw (h:IL t0 t1 t2 w R):aB prog 237 #[t0,t1,t2] w R:=dw [lo [7,14]] func237 h
def IK (t0 t1 t2:Z) (w:O) (R:Z->O->Prop):Prop:=
 v (box 70 t1) w λt4 w=>fl 70 t4 0 3 w λt8 w=>∃ J1:NP 1,(v (et .eql 3 8 t8 (i64 1)) w λt10 w=>aH t10 (J1 t10 w) (v (et .eql 3 8 t8 (i64 17)) w λt11 w=>aH t11 (J1 t11 w) (v (et .eql 3 8 t8 (i64 18)) w λt12 w=>aH t12 (J1 t12 w) (v (et .eql 3 8 t8 (i64 26)) w λt13 w=>aH t13 (J1 t13 w) (v (et .eql 3 8 t8 (i64 28)) w λt14 w=>J1 t14 w))))) /\
 ∀ t9 w9,J1 t9 w9->∀ _f:dT,aH t9 (v (buildSlice 42 1 #[(0,(i64 1))]) w9 λt15 w=>c 255 #[t15] w λt16 w=>R t16 w) (v (et .eql 3 8 t8 (i64 2)) w9 λt18 w12=>aH t18 (aJ w12 λS9 w=>Go.Vc.aY (t0) /\
 yf S9 220 t0 2 42 λt22=>yf S9 70 t4 1 3 λt24=>yi S9 42 t22 t24 3 λt26=>v (buildSlice 42 1 #[(0,t26)]) w λt27 w=>S9 w /\
 c 255 #[t27] w λt28 w=>S9 w /\
 R t28 w) (v (et .eql 3 8 t8 (i64 33)) w12 λt30 w16=>aH t30 (aJ w16 λS11 w=>Go.Vc.aY (t0) /\
 y S11 (fieldAt 220 t0 0) λt33=>yf S11 46 t33 1 42 λt35=>yf S11 70 t4 1 3 λt37=>yi S11 42 t35 t37 3 λt39=>v (buildSlice 42 1 #[(0,t39)]) w λt40 w=>S11 w /\
 c 255 #[t40] w λt41 w=>S11 w /\
 R t41 w) (v (et .eql 3 8 t8 (i64 5)) w16 λt43 w20=>aH t43 (aJ w20 λS13 w=>yi S13 42 t2 (i64 0) 3 λt46=>yi S13 42 t2 (i64 0) 3 λt49=>v (buildSlice 42 2 #[(0,t46),(1,t49)]) w λt50 w=>S13 w /\
 c 255 #[t50] w λt51 w=>S13 w /\
 R t51 w) (∃ J2:NP 1,(v (et .eql 3 8 t8 (i64 6)) w20 λt53 w=>aH t53 (J2 t53 w) (v (et .eql 3 8 t8 (i64 7)) w λt54 w=>aH t54 (J2 t54 w) (v (et .eql 3 8 t8 (i64 8)) w λt55 w=>aH t55 (J2 t55 w) (v (et .eql 3 8 t8 (i64 9)) w λt56 w=>aH t56 (J2 t56 w) (v (et .eql 3 8 t8 (i64 10)) w λt57 w=>aH t57 (J2 t57 w) (v (et .eql 3 8 t8 (i64 11)) w λt58 w=>aH t58 (J2 t58 w) (v (et .eql 3 8 t8 (i64 12)) w λt59 w=>aH t59 (J2 t59 w) (v (et .eql 3 8 t8 (i64 13)) w λt60 w=>aH t60 (J2 t60 w) (v (et .eql 3 8 t8 (i64 14)) w λt61 w=>aH t61 (J2 t61 w) (v (et .eql 3 8 t8 (i64 19)) w λt62 w=>aH t62 (J2 t62 w) (v (et .eql 3 8 t8 (i64 20)) w λt63 w=>aH t63 (J2 t63 w) (v (et .eql 3 8 t8 (i64 21)) w λt64 w=>J2 t64 w)))))))))))) /\
 ∀ t52 w36,J2 t52 w36->∀ _f:dT,aH t52 (aJ w36 λS26 w=>yi S26 42 t2 (i64 0) 3 λt67=>yi S26 42 t2 (i64 1) 3 λt70=>c 261 #[t67,t70] w λt71 w=>S26 w /\
 v (buildSlice 42 1 #[(0,t71)]) w λt72 w=>S26 w /\
 c 255 #[t72] w λt73 w=>S26 w /\
 R t73 w) (∃ J3:NP 1,(v (et .eql 3 8 t8 (i64 15)) w36 λt75 w=>aH t75 (J3 t75 w) (v (et .eql 3 8 t8 (i64 16)) w λt76 w=>J3 t76 w)) /\
 ∀ t74 w43,J3 t74 w43->∀ _f:dT,aH t74 (il 42 t2 (i64 0) 3 w43 λt79 w=>v (buildSlice 42 1 #[(0,t79)]) w λt80 w=>c 255 #[t80] w λt81 w=>R t81 w) (v (et .eql 3 8 t8 (i64 22)) w43 λt83 w48=>aH t83 (c 262 #[t2] w48 λt85 w=>v (buildSlice 42 1 #[(0,t85)]) w λt86 w=>c 255 #[t86] w λt87 w=>R t87 w) (∃ J4:NP 1,(v (et .eql 3 8 t8 (i64 25)) w48 λt89 w=>aH t89 (J4 t89 w) (v (et .eql 3 8 t8 (i64 27)) w λt90 w=>J4 t90 w)) /\
 ∀ t88 w54,J4 t88 w54->∀ _f:dT,aH t88 (fl 70 t4 1 3 w54 λt92 w=>v (buildSlice 42 1 #[(0,t92)]) w λt93 w=>c 255 #[t93] w λt94 w=>R t94 w) (v (et .eql 3 8 t8 (i64 29)) w54 λt96 w59=>aH t96 (il 42 t2 (i64 0) 3 w59 λt99 w=>c 263 #[t99] w λt100 w=>v (buildSlice 42 1 #[(0,t100)]) w λt101 w=>c 255 #[t101] w λt102 w=>R t102 w) (v (et .eql 3 8 t8 (i64 32)) w59 λt104 w65=>aH t104 (il 42 t2 (i64 0) 3 w65 λt107 w=>v (et .eql 3 107 t107 (i64 4)) w λt108 w=>gk t108 false t2 w λt110 w=>g t108 false (indexAt 42 t110 (i64 2)) w λt111 w=>g t108 false (loadAt 3 t111) w λt112 w=>g t108 false (et .eql 3 112 t112 (i64 4)) w λt113 w72=>aG t108 (.bool true) t113 λt114=>aH t114 (v (buildSlice 42 1 #[(0,(i64 2))]) w72 λt115 w=>c 255 #[t115] w λt116 w=>R t116 w) (v (buildSlice 42 1 #[(0,(i64 1))]) w72 λt117 w=>c 255 #[t117] w λt118 w=>R t118 w)) (v (et .eql 3 8 t8 (i64 35)) w65 λt120 w78=>aH t120 (fl 70 t4 1 3 w78 λt122 w=>v (b .add (i64 3) t122) w λt123 w=>v (b .sub t123 (i64 1)) w λt124 w=>v (buildSlice 42 1 #[(0,t124)]) w λt125 w=>c 255 #[t125] w λt126 w=>R t126 w) (v (et .eql 3 8 t8 (i64 37)) w78 λt128 w85=>aH t128 (aJ w85 λS44 w=>Go.Vc.aY (t0) /\
 y S44 (fieldAt 220 t0 0) λt131=>yf S44 46 t131 3 44 λt133=>yf S44 70 t4 1 3 λt135=>y S44 (indexAt 44 t133 t135) λt136=>yf S44 74 t136 1 3 λt138=>c 256 #[t138] w λt139 w=>S44 w /\
 R t139 w) (v (et .eql 3 8 t8 (i64 38)) w85 λt141 w88=>aH t141 (aJ w88 λS46 w=>Go.Vc.aY (t0) /\
 y S46 (fieldAt 220 t0 0) λt144=>yf S46 46 t144 2 43 λt146=>yf S46 70 t4 1 3 λt148=>y S46 (indexAt 43 t146 t148) λt149=>yf S46 180 t149 3 3 λt151=>c 256 #[t151] w λt152 w=>S46 w /\
 R t152 w) (R cM w88)))))))))))))
theorem aEv (h:IK t0 t1 t2 w R):aB prog 238 #[t0,t1,t2] w R:=dw [jn [9],dr 0 11 2047 (tk (rg 0 7) (.only 8 (.only 9 (.take 10 .done)))),l,dr 0 12 4095 (tk (rg 0 8) (.only 9 (.only 10 (.take 11 .done)))),l,dr 0 9 511 (tk (rg 0 5) (.only 6 (.only 7 (.take 8 .done)))),l,jn [52],dr 0 10 1023 (tk (rg 0 5) (.only 6 (.only 7 (.only 8 (.take 9 .done))))),l,jn [74],jn [88],l,dr 0 12 4095 (tk (rg 0 9) (.only 10 (.take 11 .done))),l,dr 0 12 4095 (tk (rg 0 9) (.only 10 (.take 11 .done)))] func238 h
def IJ (t0:Z) (w:O) (R:Z->O->Prop):Prop:=
 v (binOp .geq 21 t0 (Value.int IntKind.i32 97)) w λt4 w=>gk t4 true t0 w λt6 w=>g t4 true (binOp .leq 21 t6 (Value.int IntKind.i32 122)) w λt7 w=>aG t4 t7 (.bool false) λt8=>gk t8 false t0 w λt10 w=>g t8 false (binOp .geq 21 t10 (Value.int IntKind.i32 48)) w λt11 w=>gk t8 false t11 w λt12 w=>gk t12 true t0 w λt13 w=>g t12 true (binOp .leq 21 t13 (Value.int IntKind.i32 57)) w λt14 w=>gd t8 false (λK=> aG t12 t14 (.bool false) λv=> K v w) w λt15 w=>aG t8 (.bool true) t15 λt16=>gk t16 false t0 w λt18 w=>g t16 false (et .eql 21 18 t18 (Value.int IntKind.i32 45)) w λt19 w=>aG t16 (.bool true) t19 λt20=>gk t20 false t0 w λt22 w=>g t20 false (et .eql 21 22 t22 (Value.int IntKind.i32 46)) w λt23 w=>aG t20 (.bool true) t23 λt24=>gk t24 false t0 w λt26 w=>g t24 false (binOp .geq 21 t26 (Value.int IntKind.i32 224)) w λt27 w=>gk t24 false t27 w λt28 w=>gk t28 true t0 w λt29 w=>g t28 true (binOp .leq 21 t29 (Value.int IntKind.i32 255)) w λt30 w=>gd t24 false (λK=> aG t28 t30 (.bool false) λv=> K v w) w λt31 w=>aG t24 (.bool true) t31 λt32=>R t32 w
theorem aEu (h:IJ t0 w R):aB prog 242 #[t0] w R:=dw [] func242 h
def II (t0 t1:Z) (w:O) (R:Z->O->Prop):Prop:=
 c 264 #[t0,t1] w λt7 w=>v (b .geq t7 (i64 0)) w λt8 w=>R t8 w
theorem aEt (h:II t0 t1 w R):aB prog 243 #[t0,t1] w R:=dw [] func243 h
def IH (t0:Z) (w:O) (R:Z->O->Prop):Prop:=
 c 245 #[t0] w λt4 w=>v (Op.unary UnOp.not t4) w λt5 w=>R t5 w
theorem aEs (h:IH t0 w R):aB prog 244 #[t0] w R:=dw [] func244 h
def IG (t0:Z) (w:O) (R:Z->O->Prop):Prop:=
 v (b .geq t0 (i64 1)) w λt4 w=>gk t4 true t0 w λt6 w=>g t4 true (b .leq t6 (i64 4)) w λt7 w=>aG t4 t7 (.bool false) λt8=>R t8 w
theorem aEr (h:IG t0 w R):aB prog 245 #[t0] w R:=dw [] func245 h
def IF (t0 t1:Z) (w:O) (R:Z->O->Prop):Prop:=
 c 265 #[t0,t1] w λt7 w=>v (b .geq t7 (i64 0)) w λt8 w=>R t8 w
theorem aEq (h:IF t0 t1 w R):aB prog 246 #[t0,t1] w R:=dw [] func246 h
def IE (t0 t1:Z) (w:O) (R:Z->O->Prop):Prop:=
 v (box 180 t0) w λt2 w=>v (loadAt 314 t1) w λt4 w=>v (loadAt 180 t2) w λt5 w=>qV prog t4 #[t5] w λt6 w=>v (Op.unary UnOp.not t6) w λt7 w=>R t7 w
theorem aEp (h:IE t0 t1 w R):aB prog 247 #[t0,t1] w R:=dw [] func247 h
def ID (t0:Z) (w:O) (R:Z->O->Prop):Prop:=
 v (et .eql 3 3 t0 (i64 0)) w λt4 w=>gk t4 false t0 w λt6 w=>gd t4 false (λK=> c 245 #[t6] w K) w λt7 w=>aG t4 (.bool true) t7 λt8=>R t8 w
theorem aEo (h:ID t0 w R):aB prog 248 #[t0] w R:=dw [] func248 h
def IC (t0 t1:Z) (w:O) (R:Z->O->Prop):Prop:=
 c 266 #[t0,t1] w λt7 w=>v (b .geq t7 (i64 0)) w λt8 w=>R t8 w
theorem aEn (h:IC t0 t1 w R):aB prog 249 #[t0,t1] w R:=dw [] func249 h
def IA (t0 t1:Z) (w:O) (R:Z->O->Prop):Prop:=
 v (box 74 t0) w λt2 w=>v (loadAt 316 t1) w λt4 w=>v (loadAt 74 t2) w λt5 w=>qV prog t4 #[t5] w λt6 w=>v (Op.unary UnOp.not t6) w λt7 w=>R t7 w
theorem aEm (h:IA t0 t1 w R):aB prog 250 #[t0,t1] w R:=dw [] func250 h
def HZ (t0 t1:Z) (w:O) (R:Z->O->Prop):Prop:=
 v (box 210 t1) w λt3 w=>v (makeFunc (Fn.func 268) #[] #[t3]) w λt6 w=>c 267 #[t0,t6] w λt7 w=>v (Op.unary UnOp.not t7) w λt8 w=>R t8 w
theorem aEl (h:HZ t0 t1 w R):aB prog 251 #[t0,t1] w R:=dw [] func251 h
def yR (t0:Z) (w:O) (R:Z->O->Prop):Prop:=
 v (box 70 t0) w λt1 w=>fl 70 t1 0 3 w λt7 w=>c 269 #[t7] w λt8 w=>x2 t8 w λt9 t10 w=>fl 70 t1 0 3 w λt12 w=>v (b .lss t12 (i64 1)) w λt13 w=>g t13 false (fieldAt 70 t1 0) w λt15 w=>g t13 false (loadAt 3 t15) w λt16 w=>g t13 false (b .gtr t16 (i64 39)) w λt17 w=>aG t13 (.bool true) t17 λt18=>g t18 false (fieldAt 70 t1 1) w λt20 w=>g t18 false (loadAt 3 t20) w λt21 w=>gk t18 false t9 w λt22 w=>g t18 false (b .lss t21 t22) w λt23 w=>aG t18 (.bool true) t23 λt24=>g t24 false (fieldAt 70 t1 1) w λt26 w=>g t24 false (loadAt 3 t26) w λt27 w=>gk t24 false t10 w λt28 w=>g t24 false (b .gtr t27 t28) w λt29 w=>aG t24 (.bool true) t29 λt30=>aH t30 (R (.bool false) w) (fl 70 t1 0 3 w λt32 w=>v (et .eql 3 32 t32 (i64 27)) w λt33 w26=>aH t33 (fl 70 t1 2 3 w26 λt35 w=>v (b .geq t35 (i64 0)) w λt36 w=>g t36 true (fieldAt 70 t1 2) w λt38 w=>g t36 true (loadAt 3 t38) w λt39 w=>g t36 true (b .andNot t39 (i64 4)) w λt40 w=>g t36 true (b .leq t40 (i64 2)) w λt41 w=>aG t36 t41 (.bool false) λt42=>R t42 w) (fl 70 t1 2 3 w26 λt44 w=>v (et .eql 3 44 t44 (i64 0)) w λt45 w=>R t45 w))
theorem aEk (h:yR t0 w R):aB prog 252 #[t0] w R:=dw [] func252 h
def HY (t0 t1:Z) (w:O) (R:Z->O->Prop):Prop:=
 v (loadAt 267 t1) w λt4 w=>qV prog t4 #[t0] w λt6 w=>v (Op.unary UnOp.not t6) w λt7 w=>R t7 w
theorem aEj (h:HY t0 t1 w R):aB prog 253 #[t0,t1] w R:=dw [] func253 h
def HX (t0 t1:Z) (w:O) (R:Z->O->Prop):Prop:=
 c 258 #[t0] w λt8 w=>gk t8 true t1 w λt10 w=>gd t8 true (λK=> c 258 #[t10] w K) w λt11 w3=>aG t8 t11 (.bool false) λt12=>aH t12 (c 261 #[t0,t1] w3 λt15 w=>R (.tuple #[t15,(.bool true)]) w) (c 259 #[t0] w3 λt18 w=>gk t18 true t0 w λt20 w=>gk t18 true t1 w λt21 w=>g t18 true (e .eql 3 (.tmp 20) (.tmp 21) t20 t21) w λt22 w=>aG t18 t22 (.bool false) λt23=>aH t23 (R (.tuple #[t0,(.bool true)]) w) (R (.tuple #[(i64 0),(.bool false)]) w))
theorem aEi (h:HX t0 t1 w R):aB prog 254 #[t0,t1] w R:=dw [] func254 h
def HW (t0:Z) (w:O) (R:Z->O->Prop):Prop:=
 R t0 w
theorem aEh (h:HW t0 w R):aB prog 255 #[t0] w R:=dw [] func255 h
def HV (t0:Z) (w:O) (R:Z->O->Prop):Prop:=
 v (et .eql 3 3 t0 (i64 0)) w λt4 w=>aH t4 (R cM w) (v (buildSlice 42 1 #[(0,t0)]) w λt6 w=>c 255 #[t6] w λt7 w=>R t7 w)
theorem aEg (h:HV t0 w R):aB prog 256 #[t0] w R:=dw [] func256 h
def HU (t0 t1:Z) (w:O) (R:Z->O->Prop):Prop:=
 v (et .eql 3 5 t1 (i64 (-1))) w λt7 w=>aH t7 (R (.bool true) w) (∃ J1:NP 1,(v (et .eql 3 5 t1 (i64 (-2))) w λt9 w=>aH t9 (J1 t9 w) (v (et .eql 3 5 t1 (i64 (-3))) w λt10 w=>J1 t10 w)) /\
 ∀ t8 w4,J1 t8 w4->∀ _f:dT,aH t8 (c 258 #[t0] w4 λt12 w=>R t12 w) (v (et .eql 3 5 t1 (i64 (-4))) w4 λt14 w6=>aH t14 (c 259 #[t0] w6 λt16 w=>R t16 w) (c 258 #[t0] w6 λt18 w=>gk t18 true t1 w λt20 w=>gd t18 true (λK=> c 258 #[t20] w K) w λt21 w=>aG t18 t21 (.bool false) λt22=>gk t22 false t0 w λt24 w=>gk t22 false t1 w λt25 w=>g t22 false (e .eql 3 (.tmp 24) (.tmp 25) t24 t25) w λt26 w=>aG t22 (.bool true) t26 λt27=>R t27 w)))
theorem aEf (h:HU t0 t1 w R):aB prog 257 #[t0,t1] w R:=dw [jn [8]] func257 h
def HT (t0:Z) (w:O) (R:Z->O->Prop):Prop:=
 v (et .eql 3 3 t0 (i64 1)) w λt4 w=>gk t4 false t0 w λt6 w=>g t4 false (et .eql 3 6 t6 (i64 2)) w λt7 w=>aG t4 (.bool true) t7 λt8=>R t8 w
theorem aEe (h:HT t0 w R):aB prog 258 #[t0] w R:=dw [] func258 h
def HS (t0:Z) (w:O) (R:Z->O->Prop):Prop:=
 v (et .eql 3 3 t0 (i64 3)) w λt4 w=>gk t4 false t0 w λt6 w=>g t4 false (et .eql 3 6 t6 (i64 4)) w λt7 w=>aG t4 (.bool true) t7 λt8=>R t8 w
theorem aEd (h:HS t0 w R):aB prog 259 #[t0] w R:=dw [] func259 h
def HR (t0 t1:Z) (w:O) (R:Z->O->Prop):Prop:=
 v (et .eql 3 5 t1 (i64 (-3))) w λt6 w=>gk t6 false t1 w λt8 w=>g t6 false (et .eql 3 8 t8 (i64 1)) w λt9 w=>aG t6 (.bool true) t9 λt10=>gk t10 true t0 w λt12 w=>g t10 true (et .eql 3 12 t12 (i64 2)) w λt13 w=>aG t10 t13 (.bool false) λt14=>R t14 w
theorem aEc (h:HR t0 t1 w R):aB prog 260 #[t0,t1] w R:=dw [] func260 h
def HQ (t0 t1:Z) (w:O) (R:Z->O->Prop):Prop:=
 v (et .eql 3 5 t0 (i64 2)) w λt6 w=>gk t6 false t1 w λt8 w=>g t6 false (et .eql 3 8 t8 (i64 2)) w λt9 w=>aG t6 (.bool true) t9 λt10=>aH t10 (R (i64 2) w) (R (i64 1) w)
theorem aEb (h:HQ t0 t1 w R):aB prog 261 #[t0,t1] w R:=dw [] func261 h
def HP (t0:Z) (w:O) (R:Z->O->Prop):Prop:=
 il 42 t0 (i64 1) 3 w λt5 w=>c 259 #[t5] w λt6 w3=>aH t6 (il 42 t0 (i64 1) 3 w3 λt9 w=>R t9 w) (aJ w3 λS3 w=>yi S3 42 t0 (i64 0) 3 λt12=>yi S3 42 t0 (i64 1) 3 λt15=>yi S3 42 t0 (i64 2) 3 λt18=>c 261 #[t15,t18] w λt19 w=>S3 w /\
 c 261 #[t12,t19] w λt20 w=>S3 w /\
 R t20 w)
theorem aEa (h:HP t0 w R):aB prog 262 #[t0] w R:=dw [l,dr 0 12 4095 (tk (rg 0 8) (.only 9 (.only 10 (.take 11 .done))))] func262 h
def HO (t0:Z) (w:O) (R:Z->O->Prop):Prop:=
 v (et .eql 3 3 t0 (i64 3)) w λt5 w=>aH t5 (R (i64 1) w) (v (et .eql 3 3 t0 (i64 4)) w λt7 w=>aH t7 (R (i64 2) w) (R (i64 0) w))
theorem aDz (h:HO t0 w R):aB prog 263 #[t0] w R:=dw [] func263 h
def HN (t0 t1:Z) (w:O) (R:Z->O->Prop):Prop:=
 v (ln 42 3 t0) w λt7 w=>∃ (I1:NP 1) (μ1:NF 1),I1 (i64 0) w /\
 ∀ t8 w2,I1 t8 w2->∀ _f:dT,v (b .lss t8 t7) w2 λt9 w3=>aH t9 (il 42 t0 t8 3 w3 λt15 w=>qV prog t1 #[t15] w λt16 w=>aH t16 (R t8 w) (v (b .add t8 (i64 1)) w λt18 w=>I1 t18 w/\μ1 t18 w < μ1 t8 w2)) (R (i64 (-1)) w3)
theorem aDy (h:HN t0 t1 w R):aB prog 264 #[t0,t1] w R:=dw [lo [8]] func264 h
def HM (t0 t1:Z) (w:O) (R:Z->O->Prop):Prop:=
 v (ln 43 3 t0) w λt7 w=>∃ (I1:NP 1) (μ1:NF 1),I1 (i64 0) w /\
 ∀ t8 w2,I1 t8 w2->∀ _f:dT,v (b .lss t8 t7) w2 λt9 w3=>aH t9 (il 43 t0 t8 180 w3 λt15 w=>qV prog t1 #[t15] w λt16 w=>aH t16 (R t8 w) (v (b .add t8 (i64 1)) w λt18 w=>I1 t18 w/\μ1 t18 w < μ1 t8 w2)) (R (i64 (-1)) w3)
theorem aDx (h:HM t0 t1 w R):aB prog 265 #[t0,t1] w R:=dw [lo [8]] func265 h
def HL (t0 t1:Z) (w:O) (R:Z->O->Prop):Prop:=
 v (ln 44 3 t0) w λt7 w=>∃ (I1:NP 1) (μ1:NF 1),I1 (i64 0) w /\
 ∀ t8 w2,I1 t8 w2->∀ _f:dT,v (b .lss t8 t7) w2 λt9 w3=>aH t9 (il 44 t0 t8 74 w3 λt15 w=>qV prog t1 #[t15] w λt16 w=>aH t16 (R t8 w) (v (b .add t8 (i64 1)) w λt18 w=>I1 t18 w/\μ1 t18 w < μ1 t8 w2)) (R (i64 (-1)) w3)
theorem aDw (h:HL t0 t1 w R):aB prog 266 #[t0,t1] w R:=dw [lo [8]] func266 h
def HK (t0 t1:Z) (w:O) (R:Z->O->Prop):Prop:=
 c 270 #[t0,t1] w λt7 w=>v (b .geq t7 (i64 0)) w λt8 w=>R t8 w
theorem aDv (h:HK t0 t1 w R):aB prog 267 #[t0,t1] w R:=dw [] func267 h
def HJ (t0 t1:Z) (w:O) (R:Z->O->Prop):Prop:=
 v (box 70 t0) w λt2 w=>v (loadAt 210 t1) w λt4 w=>v (loadAt 70 t2) w λt5 w=>qV prog t4 #[t5] w λt6 w=>v (Op.unary UnOp.not t6) w λt7 w=>R t7 w
theorem aDu (h:HJ t0 t1 w R):aB prog 268 #[t0,t1] w R:=dw [] func268 h
def HI (t0:Z) (w:O) (R:Z->O->Prop):Prop:=
 v (et .eql 3 4 t0 (i64 1)) w λt6 w=>aH t6 (R (.tuple #[(i64 (-2147483648)),(i64 2147483647)]) w) (∃ J1:NP 1,(v (et .eql 3 4 t0 (i64 2)) w λt8 w=>aH t8 (J1 t8 w) (v (et .eql 3 4 t0 (i64 3)) w λt9 w=>J1 t9 w)) /\
 ∀ t7 w,J1 t7 w->∀ _f:dT,aH t7 (R (.tuple #[(i64 0),(i64 9)]) w) (∃ J2:NP 1,(v (et .eql 3 4 t0 (i64 23)) w λt11 w=>aH t11 (J2 t11 w) (v (et .eql 3 4 t0 (i64 24)) w λt12 w=>J2 t12 w)) /\
 ∀ t10 w,J2 t10 w->∀ _f:dT,aH t10 (R (.tuple #[(i64 0),(i64 119)]) w) (∃ J3:NP 1,(v (et .eql 3 4 t0 (i64 25)) w λt14 w=>aH t14 (J3 t14 w) (v (et .eql 3 4 t0 (i64 27)) w λt15 w=>J3 t15 w)) /\
 ∀ t13 w,J3 t13 w->∀ _f:dT,aH t13 (R (.tuple #[(i64 3),(i64 4)]) w) (∃ J4:NP 1,(v (et .eql 3 4 t0 (i64 33)) w λt17 w=>aH t17 (J4 t17 w) (v (et .eql 3 4 t0 (i64 34)) w λt18 w=>J4 t18 w)) /\
 ∀ t16 w,J4 t16 w->∀ _f:dT,aH t16 (R (.tuple #[(i64 0),(i64 7)]) w) (∃ J5:NP 1,(v (et .eql 3 4 t0 (i64 35)) w λt20 w=>aH t20 (J5 t20 w) (v (et .eql 3 4 t0 (i64 36)) w λt21 w=>J5 t21 w)) /\
 ∀ t19 w,J5 t19 w->∀ _f:dT,aH t19 (R (.tuple #[(i64 1),(i64 2)]) w) (v (et .eql 3 4 t0 (i64 37)) w λt23 w=>aH t23 (R (.tuple #[(i64 0),(i64 7)]) w) (v (et .eql 3 4 t0 (i64 38)) w λt25 w=>aH t25 (R (.tuple #[(i64 0),(i64 3)]) w) (R (.tuple #[(i64 0),(i64 0)]) w))))))))
theorem aDt (h:HI t0 w R):aB prog 269 #[t0] w R:=dw [jn [7],jn [10],jn [13],jn [16],jn [19]] func269 h
def HH (t0 t1:Z) (w:O) (R:Z->O->Prop):Prop:=
 v (ln 71 3 t0) w λt7 w=>∃ (I1:NP 1) (μ1:NF 1),I1 (i64 0) w /\
 ∀ t8 w2,I1 t8 w2->∀ _f:dT,v (b .lss t8 t7) w2 λt9 w3=>aH t9 (il 71 t0 t8 70 w3 λt15 w=>qV prog t1 #[t15] w λt16 w=>aH t16 (R t8 w) (v (b .add t8 (i64 1)) w λt18 w=>I1 t18 w/\μ1 t18 w < μ1 t8 w2)) (R (i64 (-1)) w3)
theorem aDs (h:HH t0 t1 w R):aB prog 270 #[t0,t1] w R:=dw [lo [8]] func270 h
end Go.Proofs.YtgkkecladbmjkaaGreatDoor
