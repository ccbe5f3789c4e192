/- Each function's body, opened into a plain condition by program (vcgen. -/
import Derived.Test.YtgkkecladbmjkaaGreatDoorYb
import Derived.Test.YtgkkecladbmjkaaGreatDoorProg
import Derived.KernelRfl
set_option linter.unusedSimpArgs false
namespace Go.Proofs.YtgkkecladbmjkaaGreatDoor
open Go.Vc Tryz Instr
namespace Dn
abbrev v:=Go.Vc.V prog
abbrev u:=Go.Vc.U prog
abbrev c:=Go.Vc.aC prog
abbrev y:=Go.Vc.aD prog
abbrev e (o:BinOp) (t:TypeId) (x y:Operand) (a b:O):Sem O:=do eqGuard o t x y a b;binOp o t a b
abbrev ec (o:BinOp) (t:TypeId) (x:Operand) (a b:O):Sem O:=e o t x (.const b) a b
abbrev g (c:O) (b:Bool) (s:Sem O) (w:Ω) (K:O->Ω->Prop):Prop:=gd c b (λK=>v s w K) w K
abbrev gk (c:O) (b:Bool) (t:O) (w:Ω) (K:O->Ω->Prop):Prop:=gd c b (λK=>K t w) w K
abbrev gy (c:O) (b:Bool) (S:Ω->Prop) (s:Sem O) (L:O->Prop):Prop:=pN c b (λK=>y S s K) L
abbrev gx (c:O) (b:Bool) (t:O) (L:O->Prop):Prop:=pN c b (λK=>K t) L
abbrev fl (S:TypeId) (p:O) (f:Nat) (t:TypeId) (w:Ω) (K:O->Ω->Prop):Prop:=v (fieldAt S p f) w λq w=>v (loadAt t q) w K
abbrev il (S:TypeId) (p i:O) (t:TypeId) (w:Ω) (K:O->Ω->Prop):Prop:=v (indexAt S p i) w λq w=>v (loadAt t q) w K
abbrev jl (S:TypeId) (p i:O) (s:TypeId) (f:Nat) (t:TypeId) (w:Ω) (K:O->Ω->Prop):Prop:=v (indexAt S p i) w λq w=>fl s q f t w K
abbrev yf (D:Ω->Prop) (S:TypeId) (p:O) (f:Nat) (t:TypeId) (L:O->Prop):Prop:=y D (fieldAt S p f) λq=>y D (loadAt t q) L
abbrev yi (D:Ω->Prop) (S:TypeId) (p i:O) (t:TypeId) (L:O->Prop):Prop:=y D (indexAt S p i) λq=>y D (loadAt t q) L
abbrev al (t:TypeId):Sem O:=alloc t true (.tuple #[])
abbrev st (t:TypeId) (x:O) (w:Ω) (K:O->Ω->Prop):Prop:=v (al t) w λp w=>u (storeAt t p x) w λ_ w=>K p w
abbrev lv (t:TypeId) (p:O) (w:Ω) (K:O->Prop):Prop:=∃ r,(loadVar t (match p with|.pointer (some p)=>p|_=>⟨0,0,none⟩)).run prog w=.ok r w/\(∃ q,p=Value.pointer (some q))/\K r
abbrev b (o:BinOp) (a b:O):Sem O:=binOp o 3 a b
abbrev et (o:BinOp) (t:TypeId) (k:Nat) (a b:O):Sem O:=ec o t (.tmp k) a b
abbrev ln (t ty:TypeId) (x:O):Sem O:=Builtin.len_ #[t] ty #[x]
abbrev x2 (t:O) (w:Ω) (K:O->O->Ω->Prop):Prop:=v (extract t 0) w λa w=>v (extract t 1) w λb w=>K a b w
abbrev x3 (t:O) (w:Ω) (K:O->O->O->Ω->Prop):Prop:=v (extract t 0) w λa w=>v (extract t 1) w λb w=>v (extract t 2) w λc w=>K a b c w
abbrev h (n:Int):O:=.int .u16 n
abbrev l:AU:=.leaf
abbrev jn (L:List Nat):AU:=.join [] L .leaf .leaf
abbrev lo (L:List Nat):AU:=.loop [] L .leaf
abbrev dr (pm L pre:Nat) (c:oJ):AU:=.draw [] [] pm L pre c
def nb (ops:Array Oper) (o:Oper) (i:Nat):List Oper->Nat->Nat->Nat
  | [],_,m=>m
  | oj::os,j,m=>nb ops o i os (j+1) (bif Nat.beq j i||oj.after.toList.any (λe=>Region.binds .any e&&Nat.beq e.on i)||o.apart ops oj then m else m ||| (1 <<< j))
def na (ops:Array Oper) (all:List Oper):List Oper->Nat->List Nat
  | [],_=>[]
  | o::os,i=>nb ops o i all 0 0::na ops all os (i+1)
def mk:Code->List AU->(AU->List AU->AU)->AU
  | .region _ ops true,.draw _ _ pm L pre c::s,k=>k (.draw (ops.toList.map II) (na ops ops.toList ops.toList 0) pm L pre c) s
  | .seq x y,s,k=>mk x s λa s=>match a,s with
    | .leaf,s=>mk y s λb s=>k (.seq a b) s
    | _,.join _ L _ _::s=>mk y s λb s=>k (.join (iM x) L a b) s
    | _,_::s=>mk y s λb s=>k (.seq a b) s
    | _,[]=>mk y [] λb s=>k (.seq a b) s
  | .cond _ x y,s,k=>mk x s λa s=>mk y s λb s=>k (.cond a b) s
  | .block _ x,s,k=>mk x s λa s=>k (.block a) s
  | .loop x,.loop _ L _::s,k=>mk x s λa s=>k (.loop (iM x) L a) s
  | _,s,k=>k .leaf s
end Dn
open Dn
open Tryz Instr
def q:Go.Vc.AU->Go.Vc.AU:=.seq .leaf
def tk (l:List Nat) (c:Go.Vc.oJ):Go.Vc.oJ:=l.foldr .take c
def rg (a b:Nat):List Nat:=List.range' a (b+1 - a)
variable {t0 t1 t2 t3 t4 t5 t6 t7 t8 t9:O} {w:Ω} {R:O->Ω->Prop}
open Go.Vc
theorem aSz:prog.follows .mixedOrders=true:=by kernel_rfl
theorem dw {f:FuncId} {fn:Func} {args:List O} {D:Prop} (its:List AU) (hf:prog.funcs[f]?=some fn) (h:D)
    (hb:(!(fn.name == "runtime.NumGoroutine")&&fn.body.isSome&&(ok fn.ntmps (mk (fn.body.getD .skip) its λa _=>a) (fn.body.getD .skip)&&CK fn.ntmps fn.results.toList&&Nat.ble args.length fn.ntmps))=true:=by kernel_rfl)
    (hD:D=vc prog (mk (fn.body.getD .skip) its λa _=>a) (fn.body.getD .skip) (aLl prog fn.results.toList R) (uM args) w:=by kernel_rfl):aC prog f args.toArray w R:=aNt aSz (mk (fn.body.getD .skip) its λa _=>a) hf hb hD h
def OW (t0 t1 t2 t3 t4 t5:O) (w:Ω) (R:O->Ω->Prop):Prop:=
 c 8 #[t0] w λt33 w=>∃ J1:NP 1,(v (ln 24 3 t33) w λt35 w=>v (et .eql 3 35 t35 (i64 0)) w λt36 w3=>aO t36 (v (buildSlice 22 1 #[(0,bT)]) w3 λt37 w=>c 8 #[t37] w λt38 w=>J1 t38 w) (J1 t33 w3)) /\
 ∀ t13 w,J1 t13 w->∀ _f:bQ,c 11 #[t1,(i64 300)] w λt41 w=>v (b .add (i64 64) t41) w λt42 w=>c 10 #[t2,(i64 64)] w λt45 w=>c 10 #[t3,(i64 64)] w λt47 w=>c 9 #[t42,t13,t45,t47] w λt48 w=>x2 t48 w λt49 t50 w=>v (ln 24 3 t13) w λt53 w=>c 11 #[t4,t53] w λt54 w=>c 11 #[t5,(i64 400)] w λt56 w=>c 12 #[] w λt57 w=>v (Op.unary UnOp.not t57) w λt58 w=>gk t58 false t49 w λt60 w=>g t58 false (et .eql 26 60 t60 (Value.pointer none)) w λt61 w=>aN t58 (.bool true) t61 λt62=>gk t62 false t50 w λt64 w=>g t62 false (et .eql 27 64 t64 (Value.pointer none)) w λt65 w=>aN t62 (.bool true) t65 λt66=>aO t66 (R (.bool false) w) (c 13 #[t49,t54,t56] w λt71 w=>x2 t71 w λt72 t73 w=>v (et .neq 34 74 t73 (i64 0)) w λt75 w=>gk t75 false t72 w λt77 w=>g t75 false (et .eql 33 77 t77 (Value.pointer none)) w λt78 w=>aN t75 (.bool true) t78 λt79=>aO t79 (R (.bool false) w) (c 26 #[t50,t54,t56] w λt83 w=>∃ J2:NP 0,(∃ (I3:NP 1) (μ3:NF 1),I3 (i64 0) w /\
 ∀ t19 w33,I3 t19 w33->∀ _f:bQ,v (b .lss t19 (i64 450)) w33 λt85 w34=>aO t85 (aH w34 λS16 w=>c 19 #[t72] w λt89 w=>S16 w /\
 c 27 #[t83] w λt91 w=>S16 w /\
 reS S16 w λS16_38=>y S16_38 (e .neq 3 (.tmp 89) (.tmp 91) t89 t91) λt92=>gx t92 false t72 λt94=>gx t92 false t83 λt96=>pN t92 false (λK=> (Go.Vc.aI (t96)/\K (t96))) λt97=>pN t92 false (λK=> y S16_38 (fieldAt 64 t97 3) K) λt98=>pN t92 false (λK=> y S16_38 (loadAt 3 t98) K) λt99=>gd t92 false (λK=> c 18 #[t94] w K) w λt95 w=>S16_38 w /\
 reS S16_38 w λS16_38_40=>pN t92 false (λK=> y S16_38_40 (e .neq 3 (.tmp 95) (.tmp 99) t95 t99) K) λt100=>aN t92 (.bool true) t100 λt101=>gx t101 false t72 λt103=>gx t101 false t83 λt105=>pN t101 false (λK=> (Go.Vc.aI (t105)/\K (t105))) λt106=>pN t101 false (λK=> y S16_38_40 (fieldAt 64 t106 1) K) λt107=>pN t101 false (λK=> y S16_38_40 (loadAt 61 t107) K) λt108=>pN t101 false (λK=> y S16_38_40 (ln 61 3 t108) K) λt109=>gd t101 false (λK=> c 17 #[t103] w K) w λt104 w=>S16_38_40 w /\
 reS S16_38_40 w λS16_38_40_42=>pN t101 false (λK=> y S16_38_40_42 (e .neq 3 (.tmp 104) (.tmp 109) t104 t109) K) λt110=>aN t101 (.bool true) t110 λt111=>aO t111 (R (.bool false) w) (c 14 #[t72] w λt114 w=>x3 t114 w λt115 t116 t117 w=>v (extract t114 3) w λt118 w=>c 28 #[t83] w λt121 w=>x3 t121 w λt122 t123 t124 w=>v (extract t121 3) w λt125 w=>v (e .neq 3 (.tmp 126) (.tmp 127) t115 t122) w λt128 w=>gk t128 false t116 w λt130 w=>gk t128 false t123 w λt131 w=>g t128 false (e .neq 3 (.tmp 130) (.tmp 131) t130 t131) w λt132 w=>aN t128 (.bool true) t132 λt133=>gk t133 false t117 w λt135 w=>gk t133 false t124 w λt136 w=>g t133 false (e .neq 3 (.tmp 135) (.tmp 136) t135 t136) w λt137 w=>aN t133 (.bool true) t137 λt138=>gk t138 false t118 w λt140 w=>g t138 false (ln 37 3 t140) w λt141 w=>gk t138 false t125 w λt142 w=>g t138 false (ln 37 3 t142) w λt143 w=>g t138 false (e .neq 3 (.tmp 141) (.tmp 143) t141 t143) w λt144 w=>aN t138 (.bool true) t144 λt145=>aO t145 (R (.bool false) w) (∃ (I4:NP 1) (μ4:NF 1),I4 (i64 0) w /\
 ∀ t28 w68,I4 t28 w68->∀ _f:bQ,v (ln 37 3 t118) w68 λt148 w=>v (b .lss t28 t148) w λt149 w70=>aO t149 (aH w70 λS25 w=>yi S25 37 t118 t28 21 λt155=>yi S25 37 t125 t28 21 λt159=>y S25 (e .neq 21 (.tmp 155) (.tmp 159) t155 t159) λt160=>aO t160 (R (.bool false) w) (v (b .add t28 (i64 1)) w λt151 w=>I4 t151 w/\μ4 t151 w < μ4 t28 w68)) (Go.Vc.aI (t83) /\
 fl 64 t83 2 3 w70 λt164 w=>v (et .neq 3 164 t164 (i64 0)) w λt165 w=>aO t165 (J2 w) (v (b .add t19 (i64 1)) w λt87 w=>I3 t87 w/\μ3 t87 w < μ3 t19 w33))))) (J2 w34)) /\
 ∀ w:Ω,J2 w->∀ _f:bQ,c 21 #[t72] w λt167 w=>aH w λS29 w=>y S29 (et .eql 48 168 t167 (Value.pointer none)) λt169=>gx t169 false t72 λt171=>gx t169 false t83 λt173=>pN t169 false (λK=> (Go.Vc.aI (t173)/\K (t173))) λt174=>gy t169 false S29 (fieldAt 64 t174 2) λt175=>gy t169 false S29 (loadAt 3 t175) λt176=>gd t169 false (λK=> c 15 #[t171] w K) w λt172 w=>S29 w /\
 reS S29 w λS29_82=>pN t169 false (λK=> y S29_82 (e .neq 3 (.tmp 172) (.tmp 176) t172 t176) K) λt177=>aN t169 (.bool true) t177 λt178=>gx t178 false t167 λt180=>gx t178 false t83 λt182=>pN t178 false (λK=> (Go.Vc.aI (t182)/\K (t182))) λt183=>pN t178 false (λK=> y S29_82 (fieldAt 64 t183 4) K) λt184=>pN t178 false (λK=> y S29_82 (loadAt 62 t184) K) λt185=>pN t178 false (λK=> (Go.Vc.aI (t185)/\K (t185))) λt186=>pN t178 false (λK=> y S29_82 (fieldAt 66 t186 0) K) λt187=>pN t178 false (λK=> y S29_82 (loadAt 50 t187) K) λt188=>pN t178 false (λK=> y S29_82 (ln 50 3 t188) K) λt189=>gd t178 false (λK=> c 29 #[t180] w K) w λt181 w=>S29_82 w /\
 reS S29_82 w λS29_82_84=>pN t178 false (λK=> y S29_82_84 (e .neq 3 (.tmp 181) (.tmp 189) t181 t189) K) λt190=>aN t178 (.bool true) t190 λt191=>gx t191 false t49 λt193=>gx t191 false t50 λt194=>gd t191 false (λK=> c 30 #[t193,t194] w K) w λt195 w=>S29_82_84 w /\
 reS S29_82_84 w λS29_82_84_86=>pN t191 false (λK=> y S29_82_84_86 (Op.unary UnOp.not t195) K) λt196=>aN t191 (.bool true) t196 λt197=>aO t197 (R (.bool false) w) (c 22 #[t167] w λt199 w=>∃ (I5:NP 1) (μ5:NF 1),I5 (i64 0) w /\
 ∀ t31 w88,I5 t31 w88->∀ _f:bQ,v (ln 50 3 t199) w88 λt202 w=>v (b .lss t31 t202) w λt203 w90=>aO t203 (aH w90 λS35 w=>yi S35 50 t199 t31 54 λt209=>Go.Vc.aI (t83) /\
 yf S35 64 t83 4 62 λt213=>Go.Vc.aI (t213) /\
 yf S35 66 t213 0 50 λt216=>yi S35 50 t216 t31 54 λt219=>y S35 (e .neq 54 (.tmp 209) (.tmp 219) t209 t219) λt220=>aO t220 (R (.bool false) w) (v (b .add t31 (i64 1)) w λt205 w=>I5 t205 w/\μ5 t205 w < μ5 t31 w88)) (R (.bool true) w90))))
theorem aUd (h:OW t0 t1 t2 t3 t4 t5 w R):aC prog 6 #[t0,t1,t2,t3,t4,t5] w R:=dw [jn [13],l,l,lo [19],l,dr 0 24 16777215 (.take 0 (.take 2 (.only 1 (.only 3 (.re (tk ([4,5,6]++rg 8 11) (.only 7 (.re (tk (rg 12 15++rg 17 21) (.only 16 (.re (.take 22 (.take 23 .done))))))))))))),l,l,l,lo [28],l,dr 0 9 511 (tk (rg 0 8) .done),l,l,l,l,jn [],dr 0 30 1073741823 (tk (rg 0 3++rg 5 8) (.only 4 (.re (tk (rg 9 12++rg 14 21) (.only 13 (.re (tk (rg 22 26) (.only 27 (.re (.take 28 (.take 29 .done))))))))))),l,l,lo [31],l,dr 0 15 32767 (tk (rg 0 14) .done)] func6 h
def OV (t0:O) (w:Ω) (R:O->Ω->Prop):Prop:=
 ∃ (I1:NP 2) (μ1:NF 2),I1 bT (i64 0) w /\
 ∀ t3 t4 w1,I1 t3 t4 w1->∀ _f:bQ,v (ln 22 3 t0) w1 λt14 w=>v (b .lss t4 t14) w λt15 w=>gk t15 true t4 w λt17 w=>g t15 true (b .lss t17 (i64 3)) w λt18 w5=>aN t15 t18 (.bool false) λt19=>aO t19 (il 22 t0 t4 99 w5 λt26 w=>c 38 #[t4,t26] w λt27 w=>st 46 t27 w λt5 w=>∃ J2:NP 0,(v (loadAt 46 t5) w λt29 w=>c 31 #[t29] w λt30 w=>x2 t30 w λt31 t32 w=>st 76 t31 w λ_ w=>v (et .neq 34 33 t32 (i64 0)) w λt34 w18=>aO t34 (aH w18 λS8 w=>yi S8 22 t0 t4 99 λt39=>yi S8 22 t0 t4 99 λt43=>y S8 (ln 99 3 t43) λt44=>y S8 (b .quo t44 (i64 2)) λt45=>y S8 (sliceAt 99 t39 none (some t45) none) λt46=>c 38 #[t4,t46] w λt47 w=>S8 w /\
 u (storeAt 46 t5 t47) w λ_ w=>v (loadAt 46 t5) w λt49 w=>c 31 #[t49] w λt50 w=>x2 t50 w λt51 t52 w=>st 76 t51 w λ_ w=>v (et .neq 34 53 t52 (i64 0)) w λt54 w28=>aO t54 (c 38 #[t4,bT] w28 λt56 w=>u (storeAt 46 t5 t56) w λ_ w=>J2 w) (J2 w28)) (J2 w18)) /\
 ∀ w:Ω,J2 w->∀ _f:bQ,v (loadAt 46 t5) w λt58 w=>c 31 #[t58] w λt59 w=>x2 t59 w λt60 t61 w=>st 76 t60 w λ_ w=>v (et .eql 34 62 t61 (i64 0)) w λt63 w38=>aO t63 (v (loadAt 46 t5) w38 λt65 w=>v (buildSlice 24 1 #[(0,t65)]) w λt66 w=>v (Builtin.append_ #[24,24] 24 #[t3,t66]) w λt67 w=>v (b .add t4 (i64 1)) w λt21 w=>I1 t67 t21 w/\μ1 t67 t21 w < μ1 t3 t4 w1) (v (b .add t4 (i64 1)) w38 λt21_1 w=>I1 t3 t21_1 w/\μ1 t3 t21_1 w < μ1 t3 t4 w1)) (R t3 w5)
theorem aKp (h:OV t0 w R):aC prog 8 #[t0] w R:=dw [lo [3,4],l,dr 0 13 8191 (tk (rg 0 11) (.only 12 (.last 13))),l,jn []] func8 h
def OU (t0 t1 t2 t3:O) (w:Ω) (R:O->Ω->Prop):Prop:=
 c 33 #[t0] w λt18 w=>x2 t18 w λt19 t20 w=>v (et .neq 34 21 t20 (i64 0)) w λt22 w=>gk t22 false t19 w λt24 w=>g t22 false (et .eql 26 24 t24 (Value.pointer none)) w λt25 w=>aN t22 (.bool true) t25 λt26=>gk t26 false t19 w λt28 w=>gd t26 false (λK=> c 39 #[t28] w K) w λt29 w=>g t26 false (et .eql 100 29 t29 (Value.pointer none)) w λt30 w=>aN t26 (.bool true) t30 λt31=>aO t31 (R (.tuple #[(Value.pointer none),(Value.pointer none)]) w) (c 40 #[t0] w λt33 w=>∃ (I1:NP 1) (μ1:NF 1),I1 (i64 0) w /\
 ∀ t13 w13,I1 t13 w13->∀ _f:bQ,v (ln 24 3 t1) w13 λt36 w=>v (b .lss t13 t36) w λt37 w15=>aO t37 (il 24 t1 t13 46 w15 λt45 w=>c 35 #[t19,t45] w λt46 w=>x2 t46 w λ_ t48 w=>v (Op.unary UnOp.not t48) w λt50 w=>aO t50 (R (.tuple #[(Value.pointer none),(Value.pointer none)]) w) (il 24 t1 t13 46 w λt55 w=>c 41 #[t33,t55] w λ_ w=>v (b .add t13 (i64 1)) w λt39 w=>I1 t39 w/\μ1 t39 w < μ1 t13 w13)) (c 42 #[t19,t2,t3] w15 λt60 w=>v (Op.unary UnOp.not t60) w λt61 w=>gk t61 false t33 w λt63 w=>gk t61 false t2 w λt64 w=>gk t61 false t3 w λt65 w=>gd t61 false (λK=> c 43 #[t63,t64,t65] w K) w λt66 w=>g t61 false (Op.unary UnOp.not t66) w λt67 w=>aN t61 (.bool true) t67 λt68=>aO t68 (R (.tuple #[(Value.pointer none),(Value.pointer none)]) w) (R (.tuple #[t19,t33]) w)))
theorem aUc (h:OU t0 t1 t2 t3 w R):aC prog 9 #[t0,t1,t2,t3] w R:=dw [l,lo [13]] func9 h
def UH (t0 t1:O) (w:Ω) (R:O->Ω->Prop):Prop:=
 v (buildSlice 23 0 #[]) w λt5 w=>v (ln 23 3 t0) w λt8 w=>v (Builtin.min_ #[3,3] 3 #[t8,t1]) w λt10 w=>v (sliceAt 23 t0 none (some t10) none) w λt11 w=>v (Builtin.append_ #[23,23] 23 #[t5,t11]) w λt12 w=>R t12 w
theorem aRh (h:UH t0 t1 w R):aC prog 10 #[t0,t1] w R:=dw [] func10 h
def GD (t0 t1:O) (w:Ω) (R:O->Ω->Prop):Prop:=
 v (b .rem t0 t1) w λt7 w=>v (b .lss t7 (i64 0)) w λt9 w2=>aO t9 (v (b .add t7 t1) w2 λt12 w=>R t12 w) (R t7 w2)
theorem aCn (h:GD t0 t1 w R):aC prog 11 #[t0,t1] w R:=dw [] func11 h
def GC (w:Ω) (R:O->Ω->Prop):Prop:=
 v (build 70 #[(0,(i64 1)),(1,(i64 1))]) w λt4 w=>v (build 70 #[(0,(i64 1))]) w λt5 w=>v (build 70 #[(0,(i64 17))]) w λt6 w=>v (build 70 #[(0,(i64 4))]) w λt7 w=>v (build 70 #[(0,(i64 39))]) w λt8 w=>v (buildSlice 71 5 #[(0,t4),(1,t5),(2,t6),(3,t7),(4,t8)]) w λt9 w=>c 44 #[(i64 99),t9] w λt10 w=>x2 t10 w λt11 _ w=>v (et .neq 33 13 t11 (Value.pointer none)) w λt14 w=>gk t14 true t11 w λt16 w=>gd t14 true (λK=> c 15 #[t16] w K) w λt17 w=>g t14 true (et .eql 3 17 t17 (i64 28419)) w λt18 w=>aN t14 t18 (.bool false) λt19=>gk t19 true t11 w λt21 w=>gd t19 true (λK=> c 18 #[t21] w K) w λt22 w=>g t19 true (et .eql 3 22 t22 (i64 96)) w λt23 w=>aN t19 t23 (.bool false) λt24=>R t24 w
theorem aRg (h:GC w R):aC prog 12 #[] w R:=dw [] func12 h
def UE (t0 t1 t2:O) (w:Ω) (R:O->Ω->Prop):Prop:=
 v (et .eql 26 9 t0 (Value.pointer none)) w λt10 w=>gk t10 false t2 w λt12 w=>g t10 false (b .lss t12 (i64 0)) w λt13 w=>aN t10 (.bool true) t13 λt14=>gk t14 false t2 w λt16 w=>g t14 false (b .gtr t16 (i64 100000)) w λt17 w=>aN t14 (.bool true) t17 λt18=>gk t18 false t1 w λt20 w=>g t18 false (b .lss t20 (i64 0)) w λt21 w=>aN t18 (.bool true) t21 λt22=>gk t22 false t1 w λt24 w=>gk t22 false t0 w λt25 w=>gd t22 false (λK=> c 45 #[t25] w K) w λt26 w=>g t22 false (b .geq t24 t26) w λt27 w=>aN t22 (.bool true) t27 λt28=>aO t28 (R (.tuple #[(Value.pointer none),(i64 1)]) w) (c 46 #[] w λt30 w=>v (build 109 #[(0,t0),(1,t30),(3,t2)]) w λt32 w=>v (box 109 t32) w λt33 w=>c 47 #[t33,t1,(i64 0),bT] w λ_ w=>R (.tuple #[t33,(i64 0)]) w)
theorem aRf (h:UE t0 t1 t2 w R):aC prog 13 #[t0,t1,t2] w R:=dw [] func13 h
def GA (t0:O) (w:Ω) (R:O->Ω->Prop):Prop:=
 Go.Vc.aI (t0) /\
 fl 109 t0 4 3 w λt10 w=>v (et .neq 3 10 t10 (i64 0)) w λt11 w=>aO t11 (R (.tuple #[(i64 (-1)),(i64 (-1)),(i64 (-1)),bT]) w) (c 48 #[t0] w λt13 w=>aH w λS4 w=>Go.Vc.aI (t13) /\
 yf S4 114 t13 0 3 λt17=>Go.Vc.aI (t13) /\
 yf S4 114 t13 1 3 λt21=>Go.Vc.aI (t13) /\
 yf S4 114 t13 2 3 λt25=>Go.Vc.aI (t13) /\
 yf S4 114 t13 5 37 λt29=>c 49 #[t29] w λt30 w=>S4 w /\
 R (.tuple #[t17,t21,t25,t30]) w)
theorem aCm (h:GA t0 w R):aC prog 14 #[t0] w R:=dw [l,dr 0 21 2097151 (tk (rg 0 15) (.only 16 (tk (rg 17 20) .done)))] func14 h
def UD (t0:O) (w:Ω) (R:O->Ω->Prop):Prop:=
 Go.Vc.aI (t0) /\
 fl 109 t0 4 3 w λt6 w=>R t6 w
theorem aRe (h:UD t0 w R):aC prog 15 #[t0] w R:=dw [] func15 h
def UB (t0:O) (w:Ω) (R:O->Ω->Prop):Prop:=
 Go.Vc.aI (t0) /\
 fl 109 t0 2 107 w λt6 w=>v (ln 107 3 t6) w λt7 w=>R t7 w
theorem aRd (h:UB t0 w R):aC prog 17 #[t0] w R:=dw [] func17 h
def TZ (t0:O) (w:Ω) (R:O->Ω->Prop):Prop:=
 Go.Vc.aI (t0) /\
 fl 109 t0 3 3 w λt6 w=>R t6 w
theorem aRc (h:TZ t0 w R):aC prog 18 #[t0] w R:=dw [] func18 h
def FZ (t0:O) (w:Ω) (R:O->Ω->Prop):Prop:=
 Go.Vc.aI (t0) /\
 fl 109 t0 4 3 w λt9 w=>v (et .neq 3 9 t9 (i64 0)) w λt10 w4=>aO t10 (Go.Vc.aI (t0) /\
 fl 109 t0 4 3 w4 λt14 w=>R t14 w) (Go.Vc.aI (t0) /\
 fl 109 t0 3 3 w4 λt18 w=>v (et .eql 3 18 t18 (i64 0)) w λt19 w11=>aO t19 (c 51 #[t0,(i64 28423)] w11 λ_ w=>Go.Vc.aI (t0) /\
 fl 109 t0 4 3 w λt25 w=>R t25 w) (Go.Vc.aI (t0) /\
 fl 109 t0 3 3 w11 λt29 w=>v (b .sub t29 (i64 1)) w λt30 w=>Go.Vc.aI (t0) /\
 v (fieldAt 109 t0 3) w λt32 w=>u (storeAt 3 t32 t30) w λ_ w=>c 48 #[t0] w λt34 w=>aH w λS8 w=>Go.Vc.aI (t34) /\
 y S8 (fieldAt 114 t34 3) λt37=>yf S8 74 t37 3 71 λt39=>Go.Vc.aI (t34) /\
 yf S8 114 t34 2 3 λt43=>yi S8 71 t39 t43 70 λt45=>v (al 70) w λt4 w=>S8 w /\
 u (storeAt 70 t4 t45) w λ_ w=>aH w λS9 w=>Go.Vc.aI (t0) /\
 yf S9 109 t0 1 48 λt49=>Go.Vc.aI (t34) /\
 yf S9 114 t34 0 3 λt53=>Go.Vc.aI (t34) /\
 yf S9 114 t34 1 3 λt57=>y S9 (b .mul (i64 1000) t57) λt58=>Go.Vc.aI (t34) /\
 yf S9 114 t34 2 3 λt62=>y S9 (b .add t58 t62) λt63=>yf S9 70 t4 0 3 λt65=>c 52 #[t49,(i64 1),t53,t63,t65] w λ_ w=>S9 w /\
 v (loadAt 70 t4) w λt69 w=>c 53 #[t0,t34,t69] w λt70 w=>v (et .neq 3 71 t70 (i64 36864)) w λt72 w31=>aO t72 (c 51 #[t0,t70] w31 λ_ w=>Go.Vc.aI (t0) /\
 fl 109 t0 4 3 w λt79 w=>R t79 w) (Go.Vc.aI (t0) /\
 fl 109 t0 4 3 w31 λt79_1 w=>R t79_1 w)))
theorem aRb (h:FZ t0 w R):aC prog 19 #[t0] w R:=dw [l,l,dr 0 12 4095 (tk (rg 0 10) (.only 11 (.last 12))),l,dr 0 21 2097151 (tk (rg 0 19) (.only 20 .done))] func19 h
def TX (t0:O) (w:Ω) (R:O->Ω->Prop):Prop:=
 ∃ (I1:NP 0) (μ1:NF 0),I1 w /\
 ∀ w1:Ω,I1 w1->∀ _f:bQ,Go.Vc.aI (t0) /\
 fl 109 t0 4 3 w1 λt6 w=>v (et .eql 3 6 t6 (i64 0)) w λt7 w5=>aO t7 (c 19 #[t0] w5 λ_ w=>I1 w/\μ1 w < μ1 w1) (Go.Vc.aI (t0) /\
 fl 109 t0 4 3 w5 λt13 w=>R t13 w)
theorem aRa (h:TX t0 w R):aC prog 20 #[t0] w R:=dw [lo []] func20 h
def TU (t0:O) (w:Ω) (R:O->Ω->Prop):Prop:=
 Go.Vc.aI (t0) /\
 fl 109 t0 1 48 w λt6 w=>R t6 w
theorem aQz (h:TU t0 w R):aC prog 21 #[t0] w R:=dw [] func21 h
def TT (t0:O) (w:Ω) (R:O->Ω->Prop):Prop:=
 v (et .eql 48 3 t0 (Value.pointer none)) w λt4 w=>aO t4 (R bT w) (Go.Vc.aI (t0) /\
 fl 125 t0 0 50 w λt8 w=>c 54 #[t8] w λt9 w=>R t9 w)
theorem aQy (h:TT t0 w R):aC prog 22 #[t0] w R:=dw [] func22 h
def TS (t0:O) (w:Ω) (R:O->Ω->Prop):Prop:=
 aH w λS1 w=>Go.Vc.aI (t0) /\
 yf S1 134 t0 3 23 λt7=>Go.Vc.aI (t0) /\
 yf S1 134 t0 4 23 λt12=>c 58 #[t7] w λt8 w=>S1 w /\
 c 58 #[t12] w λt13 w=>S1 w /\
 R (.tuple #[t8,t13]) w
theorem aQx (h:TS t0 w R):aC prog 24 #[t0] w R:=dw [dr 0 12 4095 (tk (rg 0 3++rg 5 8) (.only 4 (.only 9 (.take 10 (.take 11 .done)))))] func24 h
def TR (t0 t1 t2:O) (w:Ω) (R:O->Ω->Prop):Prop:=
 c 59 #[t0,t1,(i64 0),bT] w λt10 w=>v (buildSlice 61 1 #[(0,t10)]) w λt11 w=>v (build 66 #[]) w λt13 w=>v (box 66 t13) w λt14 w=>v (build 64 #[(0,t0),(1,t11),(3,t2),(4,t14)]) w λt15 w=>v (box 64 t15) w λt16 w=>R t16 w
theorem aQw (h:TR t0 t1 t2 w R):aC prog 26 #[t0,t1,t2] w R:=dw [] func26 h
def tJ (t0 t4 t5 t54 t111 t125 t146:O) (w50:Ω) (R:O->Ω->Prop):Prop:=
 fl 70 t5 0 3 w50 λt155 w=>v (et .eql 3 155 t155 (i64 1)) w λt211 w53=>aO t211 (fl 70 t5 1 3 w53 λt214 w=>v (convert 3 21 t214) w λt215 w=>c 63 #[t54,t215] w λ_ w=>Go.Vc.aI (t0) /\
 fl 64 t0 2 3 w λt502 w=>R t502 w) (v (et .eql 3 155 t155 (i64 2)) w53 λt218 w61=>aO t218 (aH w61 λS28 w=>Go.Vc.aI (t54) /\
 yf S28 141 t54 3 37 λt223=>yf S28 70 t5 1 3 λt225=>yi S28 37 t223 t225 21 λt227=>c 63 #[t54,t227] w λ_ w=>Go.Vc.aI (t0) /\
 fl 64 t0 2 3 w λt502_1 w=>R t502_1 w) (v (et .eql 3 155 t155 (i64 3)) w61 λt230 w67=>aO t230 (aH w67 λS30 w=>Go.Vc.aI (t54) /\
 yf S30 141 t54 3 37 λt234=>yf S30 70 t5 1 3 λt236=>yi S30 37 t125 (i64 0) 21 λt239=>y S30 (indexAt 37 t234 t236) λt240=>u (storeAt 21 t240 t239) w λ_ w=>Go.Vc.aI (t0) /\
 fl 64 t0 2 3 w λt502_2 w=>R t502_2 w) (v (et .eql 3 155 t155 (i64 4)) w67 λt242 w73=>aO t242 (Go.Vc.aI (t0) /\
 fl 64 t0 2 3 w73 λt502_3 w=>R t502_3 w) (v (et .eql 3 155 t155 (i64 5)) w73 λt244 w77=>aO t244 (il 37 t125 (i64 0) 21 w77 λt248 w=>c 63 #[t54,t248] w λ_ w=>il 37 t125 (i64 0) 21 w λt253 w=>c 63 #[t54,t253] w λ_ w=>Go.Vc.aI (t0) /\
 fl 64 t0 2 3 w λt502_4 w=>R t502_4 w) (∃ J1:NP 1,(v (et .eql 3 155 t155 (i64 15)) w77 λt256 w=>aO t256 (J1 t256 w) (v (et .eql 3 155 t155 (i64 16)) w λt257 w=>aO t257 (J1 t257 w) (v (et .eql 3 155 t155 (i64 26)) w λt258 w=>J1 t258 w))) /\
 ∀ t255 w90,J1 t255 w90->∀ _f:bQ,aO t255 (aH w90 λS38 w=>yf S38 70 t5 0 3 λt261=>yi S38 37 t125 (i64 0) 21 λt264=>c 64 #[t261,t264] w λt265 w=>S38 w /\
 c 63 #[t54,t265] w λ_ w=>Go.Vc.aI (t0) /\
 fl 64 t0 2 3 w λt502_5 w=>R t502_5 w) (v (et .eql 3 155 t155 (i64 22)) w90 λt268 w97=>aO t268 (aH w97 λS40 w=>yi S40 37 t125 (i64 0) 21 λt272=>yi S40 37 t125 (i64 1) 21 λt275=>yi S40 37 t125 (i64 2) 21 λt278=>c 65 #[t272,t275,t278] w λt279 w=>S40 w /\
 c 63 #[t54,t279] w λ_ w=>Go.Vc.aI (t0) /\
 fl 64 t0 2 3 w λt502_6 w=>R t502_6 w) (v (et .eql 3 155 t155 (i64 23)) w97 λt282 w104=>aO t282 (fl 70 t5 1 3 w104 λt285 w=>Go.Vc.aI (t54) /\
 v (fieldAt 141 t54 2) w λt287 w=>u (storeAt 3 t287 t285) w λ_ w=>Go.Vc.aI (t0) /\
 fl 64 t0 2 3 w λt502_7 w=>R t502_7 w) (v (et .eql 3 155 t155 (i64 24)) w104 λt289 w113=>aO t289 (il 37 t125 (i64 0) 21 w113 λt292 w=>v (et .neq 21 292 t292 (Value.int IntKind.i32 0)) w λt293 w116=>aO t293 (fl 70 t5 1 3 w116 λt296 w=>Go.Vc.aI (t54) /\
 v (fieldAt 141 t54 2) w λt298 w=>u (storeAt 3 t298 t296) w λ_ w=>Go.Vc.aI (t0) /\
 fl 64 t0 2 3 w λt502_8 w=>R t502_8 w) (Go.Vc.aI (t0) /\
 fl 64 t0 2 3 w116 λt502_9 w=>R t502_9 w)) (v (et .eql 3 155 t155 (i64 25)) w113 λt300 w128=>aO t300 (c 63 #[t54,(Value.int IntKind.i32 0)] w128 λ_ w=>Go.Vc.aI (t0) /\
 fl 64 t0 2 3 w λt502_10 w=>R t502_10 w) (v (et .eql 3 155 t155 (i64 35)) w128 λt304 w133=>aO t304 (fl 70 t5 1 3 w133 λt307 w=>v (convert 3 21 t307) w λt308 w=>c 63 #[t54,t308] w λ_ w=>Go.Vc.aI (t0) /\
 fl 64 t0 2 3 w λt502_11 w=>R t502_11 w) (v (et .eql 3 155 t155 (i64 33)) w133 λt311 w141=>aO t311 (aH w141 λS51 w=>Go.Vc.aI (t0) /\
 yf S51 64 t0 0 27 λt316=>Go.Vc.aI (t316) /\
 yf S51 139 t316 2 132 λt319=>Go.Vc.aI (t54) /\
 yf S51 141 t54 0 3 λt323=>yi S51 132 t319 t323 37 λt325=>yf S51 70 t5 1 3 λt327=>yi S51 37 t325 t327 21 λt329=>c 63 #[t54,t329] w λ_ w=>S51 w /\
 Go.Vc.aI (t0) /\
 fl 64 t0 2 3 w λt502_12 w=>R t502_12 w) (v (et .eql 3 155 t155 (i64 34)) w141 λt332 w147=>aO t332 (aH w147 λS53 w=>Go.Vc.aI (t0) /\
 yf S53 64 t0 0 27 λt337=>Go.Vc.aI (t337) /\
 yf S53 139 t337 2 132 λt340=>Go.Vc.aI (t54) /\
 yf S53 141 t54 0 3 λt344=>yi S53 132 t340 t344 37 λt346=>v (buildSlice 37 0 #[]) w λt333 w=>S53 w /\
 v (Builtin.append_ #[37,37] 37 #[t333,t346]) w λt347 w=>S53 w /\
 aH w λS54 w=>yf S54 70 t5 1 3 λt350=>yi S54 37 t125 (i64 0) 21 λt353=>y S54 (indexAt 37 t347 t350) λt354=>u (storeAt 21 t354 t353) w λ_ w=>aH w λS55 w=>Go.Vc.aI (t0) /\
 yf S55 64 t0 0 27 λt358=>Go.Vc.aI (t358) /\
 yf S55 139 t358 2 132 λt361=>Go.Vc.aI (t54) /\
 yf S55 141 t54 0 3 λt365=>y S55 (indexAt 132 t361 t365) λt367=>u (storeAt 37 t367 t347) w λ_ w=>Go.Vc.aI (t0) /\
 fl 64 t0 2 3 w λt502_13 w=>R t502_13 w) (∃ J2:NP 1,(v (et .eql 3 155 t155 (i64 37)) w147 λt369 w=>aO t369 (J2 t369 w) (v (et .eql 3 155 t155 (i64 38)) w λt370 w=>J2 t370 w)) /\
 ∀ t368 w160,J2 t368 w160->∀ _f:bQ,aO t368 (Go.Vc.aI (t54) /\
 fl 141 t54 0 3 w160 λt374 w=>fl 70 t5 1 3 w λt376 w=>∃ J3:NP 2,(fl 70 t5 0 3 w λt378 w=>v (et .eql 3 378 t378 (i64 38)) w λt379 w168=>aO t379 (aH w168 λS62 w=>Go.Vc.aI (t0) /\
 yf S62 64 t0 0 27 λt384=>Go.Vc.aI (t384) /\
 yf S62 139 t384 1 24 λt387=>Go.Vc.aI (t54) /\
 yf S62 141 t54 0 3 λt391=>yf S62 70 t5 1 3 λt393=>c 66 #[t387,t391,t393] w λt394 w=>S62 w /\
 y S62 (extract t394 0) λt395=>y S62 (extract t394 1) λt396=>y S62 (extract t394 2) λt397=>v (Op.unary UnOp.not t397) w λt399 w171=>aO t399 (Go.Vc.aI (t54) /\
 v (fieldAt 141 t54 2) w171 λt403 w=>u (storeAt 3 t403 t146) w λ_ w=>c 60 #[t0,(i64 28424)] w λ_ w=>Go.Vc.aI (t0) /\
 fl 64 t0 2 3 w λt409 w=>R t409 w) (J3 t395 t396 w171)) (J3 t374 t376 w168)) /\
 ∀ t10 t11 w,J3 t10 t11 w->∀ _f:bQ,Go.Vc.aI (t0) /\
 fl 64 t0 1 61 w λt413 w=>v (ln 61 3 t413) w λt414 w=>v (b .geq t414 (i64 8)) w λt415 w184=>aO t415 (Go.Vc.aI (t54) /\
 v (fieldAt 141 t54 2) w184 λt419 w=>u (storeAt 3 t419 t146) w λ_ w=>c 60 #[t0,(i64 28422)] w λ_ w=>Go.Vc.aI (t0) /\
 fl 64 t0 2 3 w λt425 w=>R t425 w) (aH w184 λS71 w=>Go.Vc.aI (t0) /\
 yf S71 64 t0 1 61 λt430=>Go.Vc.aI (t0) /\
 yf S71 64 t0 0 27 λt434=>c 59 #[t434,t10,t11,t125] w λt438 w=>S71 w /\
 v (buildSlice 61 1 #[(0,t438)]) w λt439 w=>S71 w /\
 v (Builtin.append_ #[61,61] 61 #[t430,t439]) w λt440 w=>S71 w /\
 Go.Vc.aI (t0) /\
 y S71 (fieldAt 64 t0 1) λt442=>u (storeAt 61 t442 t440) w λ_ w=>Go.Vc.aI (t0) /\
 fl 64 t0 2 3 w λt502_14 w=>R t502_14 w)) (v (et .eql 3 155 t155 (i64 39)) w160 λt444 w200=>aO t444 (aH w200 λS73 w=>Go.Vc.aI (t0) /\
 yf S73 64 t0 1 61 λt449=>Go.Vc.aI (t0) /\
 yf S73 64 t0 1 61 λt453=>y S73 (ln 61 3 t453) λt454=>y S73 (b .sub t454 (i64 1)) λt455=>y S73 (sliceAt 61 t449 none (some t455) none) λt456=>Go.Vc.aI (t0) /\
 y S73 (fieldAt 64 t0 1) λt458=>u (storeAt 61 t458 t456) w λ_ w=>Go.Vc.aI (t0) /\
 fl 64 t0 1 61 w λt462 w=>v (ln 61 3 t462) w λt463 w=>v (et .eql 3 463 t463 (i64 0)) w λt464 w207=>aO t464 (c 60 #[t0,(i64 36864)] w207 λ_ w=>Go.Vc.aI (t0) /\
 fl 64 t0 2 3 w λt470 w=>R t470 w) (v (b .gtr t111 (i64 0)) w207 λt472 w212=>aO t472 (aH w212 λS78 w=>Go.Vc.aI (t0) /\
 yf S78 64 t0 1 61 λt476=>Go.Vc.aI (t0) /\
 yf S78 64 t0 1 61 λt480=>y S78 (ln 61 3 t480) λt481=>y S78 (b .sub t481 (i64 1)) λt482=>yi S78 61 t476 t482 135 λt484=>aH w λS79 w214=>Go.Vc.aI (t484) /\
 yf S79 141 t484 4 37 λt490=>yi S79 37 t125 (i64 0) 21 λt494=>(v (buildSlice 37 0 #[]) w214 λt486 w215=>S79 w215 /\
 (v (Builtin.append_ #[37,37] 37 #[t486,t490]) w215 λt491 w=>S79 w /\
 v (buildSlice 37 1 #[(0,t494)]) w λt495 w=>S79 w /\
 v (Builtin.append_ #[37,37] 37 #[t491,t495]) w λt496 w=>S79 w /\
 Go.Vc.aI (t484) /\
 y S79 (fieldAt 141 t484 4) λt498=>u (storeAt 37 t498 t496) w λ_ w=>Go.Vc.aI (t0) /\
 fl 64 t0 2 3 w λt502_15 w=>R t502_15 w) /\
 (v (buildSlice 37 1 #[(0,t494)]) w215 λt495_1 w=>S79 w /\
 v (Builtin.append_ #[37,37] 37 #[t486,t490]) w λt491_1 w=>S79 w /\
 v (Builtin.append_ #[37,37] 37 #[t491_1,t495_1]) w λt496_1 w=>S79 w /\
 Go.Vc.aI (t484) /\
 y S79 (fieldAt 141 t484 4) λt498_1=>u (storeAt 37 t498_1 t496_1) w λ_ w=>Go.Vc.aI (t0) /\
 fl 64 t0 2 3 w λt502_16 w=>R t502_16 w)) /\
 (v (buildSlice 37 1 #[(0,t494)]) w214 λt495_2 w=>S79 w /\
 v (buildSlice 37 0 #[]) w λt486_1 w=>S79 w /\
 v (Builtin.append_ #[37,37] 37 #[t486_1,t490]) w λt491_2 w=>S79 w /\
 v (Builtin.append_ #[37,37] 37 #[t491_2,t495_2]) w λt496_2 w=>S79 w /\
 Go.Vc.aI (t484) /\
 y S79 (fieldAt 141 t484 4) λt498_2=>u (storeAt 37 t498_2 t496_2) w λ_ w=>Go.Vc.aI (t0) /\
 fl 64 t0 2 3 w λt502_17 w=>R t502_17 w)) (Go.Vc.aI (t0) /\
 fl 64 t0 2 3 w212 λt502_18 w=>R t502_18 w))) (fl 70 t5 0 3 w200 λt157 w=>c 67 #[t157] w λt158 w=>v (b .lss t158 (i64 0)) w λt159 w244=>aO t159 (aH w244 λS18 w=>yf S18 70 t5 0 3 λt162=>yi S18 37 t125 (i64 0) 21 λt165=>yi S18 37 t125 (i64 1) 21 λt168=>c 68 #[t162,t165,t168] w λt169 w=>S18 w /\
 c 63 #[t54,t169] w λ_ w=>Go.Vc.aI (t0) /\
 fl 64 t0 2 3 w λt502_19 w=>R t502_19 w) (aH w244 λS19 w=>Go.Vc.aI (t0) /\
 yf S19 64 t0 0 27 λt175=>Go.Vc.aI (t0) /\
 yf S19 64 t0 4 62 λt179=>Go.Vc.aI (t54) /\
 yf S19 141 t54 0 3 λt183=>yf S19 70 t5 0 3 λt185=>yf S19 70 t5 1 3 λt187=>yf S19 70 t5 2 3 λt189=>c 69 #[t175,t179,t183,t185,t187,t189,t125] w λt191 w=>S19 w /\
 y S19 (extract t191 0) λt192=>y S19 (extract t191 1) λt193=>v (et .neq 3 194 t193 (i64 36864)) w λt195 w253=>aO t195 (c 60 #[t0,t193] w253 λ_ w=>Go.Vc.aI (t0) /\
 fl 64 t0 2 3 w λt202 w=>R t202 w) (v (loadAt 46 t4) w253 λt203 w=>v (loadAt 70 t5) w λt204 w=>c 70 #[t203,t204] w λt205 w=>v (b .gtr t205 (i64 0)) w λt206 w261=>aO t206 (c 63 #[t54,t192] w261 λ_ w=>Go.Vc.aI (t0) /\
 fl 64 t0 2 3 w λt502_20 w=>R t502_20 w) (Go.Vc.aI (t0) /\
 fl 64 t0 2 3 w261 λt502_21 w=>R t502_21 w))))))))))))))))))
def FY (t0:O) (w:Ω) (R:O->Ω->Prop):Prop:=
 Go.Vc.aI (t0) /\
 fl 64 t0 2 3 w λt19 w=>v (et .neq 3 19 t19 (i64 0)) w λt20 w4=>aO t20 (Go.Vc.aI (t0) /\
 fl 64 t0 2 3 w4 λt24 w=>R t24 w) (Go.Vc.aI (t0) /\
 fl 64 t0 3 3 w4 λt28 w=>v (et .eql 3 28 t28 (i64 0)) w λt29 w11=>aO t29 (c 60 #[t0,(i64 28423)] w11 λ_ w=>Go.Vc.aI (t0) /\
 fl 64 t0 2 3 w λt35 w=>R t35 w) (Go.Vc.aI (t0) /\
 fl 64 t0 3 3 w11 λt39 w=>v (b .sub t39 (i64 1)) w λt40 w=>Go.Vc.aI (t0) /\
 v (fieldAt 64 t0 3) w λt42 w=>u (storeAt 3 t42 t40) w λ_ w=>aH w λS7 w=>Go.Vc.aI (t0) /\
 yf S7 64 t0 1 61 λt46=>Go.Vc.aI (t0) /\
 yf S7 64 t0 1 61 λt50=>y S7 (ln 61 3 t50) λt51=>y S7 (b .sub t51 (i64 1)) λt52=>yi S7 61 t46 t52 135 λt54=>aH w λS8 w=>Go.Vc.aI (t0) /\
 yf S8 64 t0 0 27 λt58=>Go.Vc.aI (t58) /\
 yf S8 139 t58 1 24 λt61=>Go.Vc.aI (t54) /\
 yf S8 141 t54 0 3 λt65=>yi S8 24 t61 t65 46 λt67=>v (al 46) w λt4 w=>S8 w /\
 u (storeAt 46 t4 t67) w λ_ w=>aH w λS9 w=>yf S9 46 t4 3 44 λt69=>Go.Vc.aI (t54) /\
 yf S9 141 t54 1 3 λt73=>y S9 (indexAt 44 t69 t73) λt74=>yf S9 74 t74 3 71 λt76=>Go.Vc.aI (t54) /\
 yf S9 141 t54 2 3 λt80=>yi S9 71 t76 t80 70 λt82=>v (al 70) w λt5 w=>S9 w /\
 u (storeAt 70 t5 t82) w λ_ w=>aH w λS10 w=>Go.Vc.aI (t0) /\
 yf S10 64 t0 4 62 λt86=>Go.Vc.aI (t54) /\
 yf S10 141 t54 0 3 λt90=>Go.Vc.aI (t54) /\
 yf S10 141 t54 1 3 λt94=>y S10 (b .mul (i64 1000) t94) λt95=>Go.Vc.aI (t54) /\
 yf S10 141 t54 2 3 λt99=>y S10 (b .add t95 t99) λt100=>yf S10 70 t5 0 3 λt102=>y S10 (build 54 #[(0,(i64 1)),(1,t90),(2,t100),(3,t102)]) λt103=>c 61 #[t86,t103] w λ_ w=>S10 w /\
 aH w λS11 w=>y S11 (loadAt 46 t4) λt105=>Go.Vc.aI (t54) /\
 yf S11 141 t54 1 3 λt109=>y S11 (loadAt 70 t5) λt110=>c 62 #[t105,t109,t110] w λt111 w=>S11 w /\
 aH w λS12 w=>Go.Vc.aI (t54) /\
 yf S12 141 t54 4 37 λt116=>Go.Vc.aI (t54) /\
 yf S12 141 t54 4 37 λt120=>y S12 (ln 37 3 t120) λt121=>y S12 (b .sub t121 t111) λt123=>y S12 (sliceAt 37 t116 (some t123) none none) λt124=>v (buildSlice 37 0 #[]) w λt112 w=>S12 w /\
 v (Builtin.append_ #[37,37] 37 #[t112,t124]) w λt125 w=>S12 w /\
 aH w λS13 w=>Go.Vc.aI (t54) /\
 yf S13 141 t54 4 37 λt131=>Go.Vc.aI (t54) /\
 yf S13 141 t54 4 37 λt135=>y S13 (ln 37 3 t135) λt136=>y S13 (b .sub t136 t111) λt138=>y S13 (sliceAt 37 t131 none (some t138) none) λt139=>v (buildSlice 37 0 #[]) w λt127 w=>S13 w /\
 v (Builtin.append_ #[37,37] 37 #[t127,t139]) w λt140 w=>S13 w /\
 Go.Vc.aI (t54) /\
 y S13 (fieldAt 141 t54 4) λt142=>u (storeAt 37 t142 t140) w λ_ w=>Go.Vc.aI (t54) /\
 fl 141 t54 2 3 w λt146 w=>Go.Vc.aI (t54) /\
 fl 141 t54 2 3 w λt150 w=>v (b .add t150 (i64 1)) w λt151 w=>Go.Vc.aI (t54) /\
 v (fieldAt 141 t54 2) w λt153 w=>u (storeAt 3 t153 t151) w λ_ w=>tJ t0 t4 t5 t54 t111 t125 t146 w R))
theorem aQv (h:FY t0 w R):aC prog 27 #[t0] w R:=dw [l,l,dr 0 13 8191 (tk (rg 0 12) .done),l,dr 0 14 16383 (tk (rg 0 12) (.only 13 (.last 14))),l,dr 0 16 65535 (tk (rg 0 14) (.only 15 (.last 16))),l,dr 0 22 4194303 (tk (rg 0 20) (.only 21 .done)),l,dr 0 8 255 (tk (rg 0 5) (.only 6 (.take 7 .done))),l,dr 0 15 32767 (tk (rg 1 12) (.only 0 (.only 13 (.take 14 .done)))),l,dr 0 17 131071 (tk ([0]++rg 2 13) (.only 1 (.only 14 (.take 15 (.take 16 (.last 17)))))),l,dr 0 9 511 (tk (rg 0 8) (.last 9)),dr 0 10 1023 (tk (rg 0 9) (.last 10)),jn [255],dr 0 7 127 (tk (rg 0 5) (.only 6 (.last 7))),dr 0 11 2047 (tk (rg 0 9) (.only 10 (.last 11))),dr 0 19 524287 (tk (rg 0 17) (.only 18 .done)),dr 0 16 65535 (tk (rg 1 13) (.only 0 (.only 14 (.take 15 .done)))),l,dr 0 7 127 (tk (rg 0 6) (.last 7)),l,dr 0 13 8191 (tk (rg 0 12) (.last 13)),jn [368],dr 0 21 2097151 (tk (rg 0 12) (.only 13 (tk (rg 14 20) .done))),l,jn [10,11],l,dr 0 17 131071 (tk (rg 0 11) (.only 12 (.only 13 (.only 14 (.take 15 (.take 16 (.last 17))))))),dr 0 14 16383 (tk (rg 0 13) (.last 14)),l,l,dr 0 13 8191 (tk (rg 0 12) .done),l,dr 0 14 16383 (tk ([0]++rg 2 5++[7,8,9]) (.two 1 10 (.two 6 10 (.only 10 (.only 11 (.take 12 (.take 13 (.last 14))))) (.only 6 (.only 11 (.take 12 (.take 13 (.last 14)))))) (.only 1 (.only 6 (.only 11 (.take 12 (.take 13 (.last 14)))))))),dr 0 10 1023 (tk (rg 0 8) (.only 9 (.last 10))),l,l,dr 0 25 33554431 (tk (rg 0 18) (.only 19 (tk (rg 20 24) .done)))] func27 h
def FW (t0:O) (w:Ω) (R:O->Ω->Prop):Prop:=
 Go.Vc.aI (t0) /\
 fl 64 t0 2 3 w λt10 w=>v (et .neq 3 10 t10 (i64 0)) w λt11 w=>gk t11 false t0 w λt13 w=>gd t11 false (λK=> (Go.Vc.aI (t13)/\K (t13) w)) w λt14 w=>g t11 false (fieldAt 64 t14 1) w λt15 w=>g t11 false (loadAt 61 t15) w λt16 w=>g t11 false (ln 61 3 t16) w λt17 w=>g t11 false (et .eql 3 17 t17 (i64 0)) w λt18 w=>aN t11 (.bool true) t18 λt19=>aO t19 (R (.tuple #[(i64 (-1)),(i64 (-1)),(i64 (-1)),bT]) w) (aH w λS3 w=>Go.Vc.aI (t0) /\
 yf S3 64 t0 1 61 λt23=>Go.Vc.aI (t0) /\
 yf S3 64 t0 1 61 λt27=>y S3 (ln 61 3 t27) λt28=>y S3 (b .sub t28 (i64 1)) λt29=>yi S3 61 t23 t29 135 λt31=>aH w λS4 w=>Go.Vc.aI (t31) /\
 yf S4 141 t31 0 3 λt35=>Go.Vc.aI (t31) /\
 yf S4 141 t31 1 3 λt39=>Go.Vc.aI (t31) /\
 yf S4 141 t31 2 3 λt43=>Go.Vc.aI (t31) /\
 yf S4 141 t31 4 37 λt47=>R (.tuple #[t35,t39,t43,t47]) w)
theorem aCl (h:FW t0 w R):aC prog 28 #[t0] w R:=dw [l,dr 0 13 8191 (tk (rg 0 12) .done),l,dr 0 20 1048575 (tk (rg 0 19) .done)] func28 h
def TQ (t0:O) (w:Ω) (R:O->Ω->Prop):Prop:=
 v (et .eql 48 3 t0 (Value.pointer none)) w λt4 w=>aO t4 (R (i64 0) w) (Go.Vc.aI (t0) /\
 fl 125 t0 0 50 w λt8 w=>v (ln 50 3 t8) w λt9 w=>R t9 w)
theorem aQu (h:TQ t0 w R):aC prog 29 #[t0] w R:=dw [] func29 h
def FV (t0 t1:O) (w:Ω) (R:O->Ω->Prop):Prop:=
 c 24 #[t0] w λt16 w=>x2 t16 w λt17 t18 w=>aH w λS2 w=>c 39 #[t0] w λt20 w=>S2 w /\
 y S2 (et .eql 100 20 t20 (Value.pointer none)) λt21=>gx t21 false t17 λt23=>gy t21 false S2 (convert 23 9 t23) λt24=>gx t21 false t1 λt25=>pN t21 false (λK=> (Go.Vc.aI (t25)/\K (t25))) λt26=>gy t21 false S2 (fieldAt 139 t26 3) λt27=>gy t21 false S2 (loadAt 23 t27) λt28=>gy t21 false S2 (convert 23 9 t28) λt29=>gy t21 false S2 (e .neq 9 (.tmp 24) (.tmp 29) t24 t29) λt30=>aN t21 (.bool true) t30 λt31=>gx t31 false t18 λt33=>gy t31 false S2 (convert 23 9 t33) λt34=>gx t31 false t1 λt35=>pN t31 false (λK=> (Go.Vc.aI (t35)/\K (t35))) λt36=>gy t31 false S2 (fieldAt 139 t36 4) λt37=>gy t31 false S2 (loadAt 23 t37) λt38=>gy t31 false S2 (convert 23 9 t38) λt39=>gy t31 false S2 (e .neq 9 (.tmp 34) (.tmp 39) t34 t39) λt40=>aN t31 (.bool true) t40 λt41=>gx t41 false t0 λt43=>gx t41 false t1 λt46=>pN t41 false (λK=> (Go.Vc.aI (t46)/\K (t46))) λt47=>gy t41 false S2 (fieldAt 139 t47 0) λt48=>gy t41 false S2 (loadAt 137 t48) λt49=>pN t41 false (λK=> (Go.Vc.aI (t49)/\K (t49))) λt50=>gy t41 false S2 (fieldAt 156 t50 1) λt51=>gy t41 false S2 (loadAt 154 t51) λt52=>gy t41 false S2 (ln 154 3 t52) λt53=>gd t41 false (λK=> c 39 #[t43] w K) w λt44 w=>S2 w /\
 gd t41 false (λK=> c 55 #[t44] w K) w λt45 w=>S2 w /\
 gy t41 false S2 (e .neq 3 (.tmp 45) (.tmp 53) t45 t53) λt54=>aN t41 (.bool true) t54 λt55=>gx t55 false t0 λt57=>gx t55 false t1 λt59=>pN t55 false (λK=> (Go.Vc.aI (t59)/\K (t59))) λt60=>gy t55 false S2 (fieldAt 139 t60 1) λt61=>gy t55 false S2 (loadAt 24 t61) λt62=>gy t55 false S2 (ln 24 3 t62) λt63=>gd t55 false (λK=> c 45 #[t57] w K) w λt58 w=>S2 w /\
 gy t55 false S2 (e .neq 3 (.tmp 58) (.tmp 63) t58 t63) λt64=>aN t55 (.bool true) t64 λt65=>aO t65 (R (.bool false) w) (∃ (I1:NP 1) (μ1:NF 1),I1 (i64 0) w /\
 ∀ t7 w9,I1 t7 w9->∀ _f:bQ,Go.Vc.aI (t1) /\
 fl 139 t1 0 137 w9 λt70 w=>Go.Vc.aI (t70) /\
 fl 156 t70 1 154 w λt73 w=>v (ln 154 3 t73) w λt74 w=>v (b .lss t7 t74) w λt75 w17=>aO t75 (c 39 #[t0] w17 λt80 w=>v (b .add t7 (i64 1)) w λt82 w=>c 56 #[t80,t82] w λt83 w=>x2 t83 w λt84 t85 w=>st 127 t84 w λt8 w=>aH w λS8 w=>y S8 (Op.unary UnOp.not t85) λt87=>gy t87 false S8 (loadAt 127 t8) λt89=>gx t87 false t1 λt90=>pN t87 false (λK=> (Go.Vc.aI (t90)/\K (t90))) λt91=>gy t87 false S8 (fieldAt 139 t91 0) λt92=>gy t87 false S8 (loadAt 137 t92) λt93=>pN t87 false (λK=> (Go.Vc.aI (t93)/\K (t93))) λt94=>gy t87 false S8 (fieldAt 156 t94 1) λt95=>gy t87 false S8 (loadAt 154 t95) λt96=>gx t87 false t7 λt97=>gy t87 false S8 (indexAt 154 t96 t97) λt98=>gy t87 false S8 (loadAt 127 t98) λt99=>gd t87 false (λK=> c 57 #[t89,t99] w K) w λt100 w=>S8 w /\
 gy t87 false S8 (Op.unary UnOp.not t100) λt101=>aN t87 (.bool true) t101 λt102=>aO t102 (R (.bool false) w) (v (b .add t7 (i64 1)) w λt77 w=>I1 t77 w/\μ1 t77 w < μ1 t7 w9)) (∃ (I2:NP 1) (μ2:NF 1),I2 (i64 0) w17 /\
 ∀ t10 w28,I2 t10 w28->∀ _f:bQ,Go.Vc.aI (t1) /\
 fl 139 t1 2 132 w28 λt107 w=>v (ln 132 3 t107) w λt108 w=>v (b .lss t10 t108) w λt109 w33=>aO t109 (∃ (I3:NP 1) (μ3:NF 1),I3 (i64 0) w33 /\
 ∀ t11 w34,I3 t11 w34->∀ _f:bQ,Go.Vc.aI (t1) /\
 fl 139 t1 2 132 w34 λt116 w=>il 132 t116 t10 37 w λt119 w=>v (ln 37 3 t119) w λt120 w=>v (b .lss t11 t120) w λt121 w41=>aO t121 (c 37 #[t0,t10,t11] w41 λt128 w=>x2 t128 w λt129 t130 w=>v (Op.unary UnOp.not t130) w λt132 w=>gk t132 false t129 w λt134 w=>gk t132 false t1 w λt135 w=>gd t132 false (λK=> (Go.Vc.aI (t135)/\K (t135) w)) w λt136 w=>g t132 false (fieldAt 139 t136 2) w λt137 w=>g t132 false (loadAt 132 t137) w λt138 w=>gk t132 false t10 w λt139 w=>g t132 false (indexAt 132 t138 t139) w λt140 w=>g t132 false (loadAt 37 t140) w λt141 w=>gk t132 false t11 w λt142 w=>g t132 false (indexAt 37 t141 t142) w λt143 w=>g t132 false (loadAt 21 t143) w λt144 w=>g t132 false (e .neq 21 (.tmp 134) (.tmp 144) t134 t144) w λt145 w=>aN t132 (.bool true) t145 λt146=>aO t146 (R (.bool false) w) (v (b .add t11 (i64 1)) w λt123 w=>I3 t123 w/\μ3 t123 w < μ3 t11 w34)) (v (b .add t10 (i64 1)) w41 λt111 w=>I2 t111 w/\μ2 t111 w < μ2 t10 w28)) (R (.bool true) w33)))
theorem aQt (h:FV t0 t1 w R):aC prog 30 #[t0,t1] w R:=dw [dr 0 47 140737488355327 (.take 0 (.only 1 (tk (rg 2 24++rg 27 34) (.only 25 (.only 26 (tk (rg 35 38++rg 40 44) (.only 39 (.take 45 (.take 46 .done))))))))),l,l,lo [7],l,dr 0 17 131071 (tk (rg 0 13) (.only 14 (.take 15 (.take 16 .done)))),l,l,l,lo [10],l,lo [11]] func30 h
def TP (t0:O) (w:Ω) (R:O->Ω->Prop):Prop:=
 v (box 46 t0) w λt1 w=>v (al 76) w λt2 w=>v (loadAt 46 t1) w λt9 w=>c 71 #[t9] w λt10 w=>v (Op.unary UnOp.not t10) w λt11 w5=>aO t11 (v (build 76 #[]) w5 λt12 w=>u (storeAt 76 t2 t12) w λ_ w=>lv 76 t2 w λr1=> R (.tuple #[r1,(i64 1)]) w) (∃ (I1:NP 1) (μ1:NF 1),I1 (i64 0) w5 /\
 ∀ t4 w8,I1 t4 w8->∀ _f:bQ,fl 46 t1 3 44 w8 λt15 w=>v (ln 44 3 t15) w λt16 w=>v (b .lss t4 t16) w λt17 w12=>aO t17 (v (loadAt 46 t1) w12 λt21 w=>c 72 #[t21,t4] w λt23 w=>x3 t23 w λ_ _ t26 w=>v (extract t23 3) w λt27 w=>v (et .neq 34 28 t27 (i64 0)) w λt29 w19=>aO t29 (v (build 76 #[(0,t4),(1,t26)]) w19 λt32 w=>u (storeAt 76 t2 t32) w λ_ w=>lv 76 t2 w λr1=> R (.tuple #[r1,t27]) w) (v (b .add t4 (i64 1)) w19 λt19 w=>I1 t19 w/\μ1 t19 w < μ1 t4 w8)) (v (build 76 #[]) w12 λt34 w=>u (storeAt 76 t2 t34) w λ_ w=>lv 76 t2 w λr1=> R (.tuple #[r1,(i64 0)]) w))
theorem aQs (h:TP t0 w R):aC prog 31 #[t0] w R:=dw [l,lo [4]] func31 h
def TO (t0:O) (w:Ω) (R:O->Ω->Prop):Prop:=
 c 73 #[t0] w λt8 w=>x2 t8 w λt9 t10 w=>v (et .neq 34 11 t10 (i64 0)) w λt12 w=>aO t12 (R (.tuple #[(Value.pointer none),t10]) w) (v (build 134 #[(0,t9)]) w λt15 w=>v (box 134 t15) w λt16 w=>R (.tuple #[t16,(i64 0)]) w)
theorem aQr (h:TO t0 w R):aC prog 33 #[t0] w R:=dw [] func33 h
def FU (t0 t1:O) (w:Ω) (R:O->Ω->Prop):Prop:=
 v (box 46 t1) w λt3 w=>Go.Vc.aI (t0) /\
 fl 134 t0 1 24 w λt9 w=>v (ln 24 3 t9) w λt10 w=>v (b .geq t10 (i64 4)) w λt11 w=>aO t11 (R (.tuple #[(i64 0),(.bool false)]) w) (aH w λS3 w=>Go.Vc.aI (t0) /\
 yf S3 134 t0 1 24 λt16=>y S3 (loadAt 46 t3) λt17=>c 78 #[t17] w λt18 w=>S3 w /\
 v (buildSlice 24 1 #[(0,t18)]) w λt19 w=>S3 w /\
 v (Builtin.append_ #[24,24] 24 #[t16,t19]) w λt20 w=>S3 w /\
 Go.Vc.aI (t0) /\
 y S3 (fieldAt 134 t0 1) λt22=>u (storeAt 24 t22 t20) w λ_ w=>aH w λS4 w=>Go.Vc.aI (t0) /\
 yf S4 134 t0 2 132 λt27=>yf S4 46 t3 1 42 λt29=>y S4 (ln 42 3 t29) λt30=>v (makeSlice 37 t30 t30) w λt31 w=>S4 w /\
 v (buildSlice 132 1 #[(0,t31)]) w λt32 w=>S4 w /\
 v (Builtin.append_ #[132,132] 132 #[t27,t32]) w λt33 w=>S4 w /\
 Go.Vc.aI (t0) /\
 y S4 (fieldAt 134 t0 2) λt35=>u (storeAt 132 t35 t33) w λ_ w=>Go.Vc.aI (t0) /\
 fl 134 t0 1 24 w λt39 w=>v (ln 24 3 t39) w λt40 w=>v (b .sub t40 (i64 1)) w λt41 w=>R (.tuple #[t41,(.bool true)]) w)
theorem aQq (h:FU t0 t1 w R):aC prog 35 #[t0,t1] w R:=dw [l,dr 3 11 2047 (tk (rg 0 5) (.only 6 (.only 7 (.only 8 (.take 9 (.take 10 (.last 11))))))),l,dr 3 13 8191 (tk (rg 0 7) (.only 8 (.only 9 (.only 10 (.take 11 (.take 12 (.last 13)))))))] func35 h
def xR (t0 t1 t2:O) (w:Ω) (R:O->Ω->Prop):Prop:=
 v (b .lss t1 (i64 0)) w λt9 w=>gk t9 false t1 w λt11 w=>gk t9 false t0 w λt12 w=>gd t9 false (λK=> (Go.Vc.aI (t12)/\K (t12) w)) w λt13 w=>g t9 false (fieldAt 134 t13 2) w λt14 w=>g t9 false (loadAt 132 t14) w λt15 w=>g t9 false (ln 132 3 t15) w λt16 w=>g t9 false (b .geq t11 t16) w λt17 w=>aN t9 (.bool true) t17 λt18=>gk t18 false t2 w λt20 w=>g t18 false (b .lss t20 (i64 0)) w λt21 w=>aN t18 (.bool true) t21 λt22=>gk t22 false t2 w λt24 w=>gk t22 false t0 w λt25 w=>gd t22 false (λK=> (Go.Vc.aI (t25)/\K (t25) w)) w λt26 w=>g t22 false (fieldAt 134 t26 2) w λt27 w=>g t22 false (loadAt 132 t27) w λt28 w=>gk t22 false t1 w λt29 w=>g t22 false (indexAt 132 t28 t29) w λt30 w=>g t22 false (loadAt 37 t30) w λt31 w=>g t22 false (ln 37 3 t31) w λt32 w=>g t22 false (b .geq t24 t32) w λt33 w=>aN t22 (.bool true) t33 λt34=>aO t34 (R (.tuple #[(Value.int IntKind.i32 0),(.bool false)]) w) (Go.Vc.aI (t0) /\
 fl 134 t0 2 132 w λt38 w=>il 132 t38 t1 37 w λt41 w=>il 37 t41 t2 21 w λt44 w=>R (.tuple #[t44,(.bool true)]) w)
theorem aCk (h:xR t0 t1 t2 w R):aC prog 37 #[t0,t1,t2] w R:=dw [] func37 h
def TN (t0 t1:O) (w:Ω) (R:O->Ω->Prop):Prop:=
 v (al 46) w λt4 w=>v (buildSlice 42 4 #[(0,(i64 1)),(1,(i64 2)),(2,(i64 3)),(3,(i64 4))]) w λt10 w=>c 83 #[t0] w λt12 w=>v (buildSlice 42 4 #[(0,(i64 1)),(1,(i64 2)),(2,(i64 3)),(3,(i64 4))]) w λt13 w=>v (buildSlice 42 2 #[(0,(i64 1)),(1,(i64 2))]) w λt14 w=>v (build 46 #[(0,t12),(1,t13),(4,t14)]) w λt15 w=>st 46 t15 w λt6 w=>v (b .add t0 (i64 1)) w λt17 w=>c 83 #[t17] w λt18 w=>v (buildSlice 42 2 #[(0,(i64 1)),(1,(i64 2))]) w λt19 w=>v (build 180 #[(0,t18),(1,(i64 0)),(2,t19),(3,(i64 2))]) w λt20 w=>v (b .add t0 (i64 1)) w λt22 w=>v (ln 99 3 t1) w λt24 w=>c 11 #[t24,(i64 3)] w λt25 w=>v (b .add t22 t25) w λt26 w=>c 83 #[t26] w λt27 w=>v (buildSlice 42 2 #[(0,(i64 4)),(1,(i64 3))]) w λt28 w=>v (build 180 #[(0,t27),(1,(i64 1)),(2,t28),(3,(i64 3))]) w λt29 w=>v (buildSlice 43 2 #[(0,t20),(1,t29)]) w λt30 w=>v (fieldAt 46 t6 2) w λt31 w=>u (storeAt 43 t31 t30) w λ_ w=>v (build 74 #[(2,t10)]) w λt33 w=>v (buildSlice 42 2 #[(0,(i64 1)),(1,(i64 2))]) w λt34 w=>v (build 74 #[(0,t34),(1,(i64 2)),(2,t10)]) w λt36 w=>v (buildSlice 42 2 #[(0,(i64 4)),(1,(i64 3))]) w λt37 w=>v (sliceAt 42 t10 none (some (i64 2)) none) w λt39 w=>v (build 74 #[(0,t37),(1,(i64 3)),(2,t39)]) w λt40 w=>v (buildSlice 44 3 #[(0,t33),(1,t36),(2,t40)]) w λt41 w=>v (fieldAt 46 t6 3) w λt42 w=>u (storeAt 44 t42 t41) w λ_ w=>v (ln 99 3 t1) w λt44 w=>∃ (I1:NP 1) (μ1:NF 1),I1 (i64 0) w /\
 ∀ t8 w33,I1 t8 w33->∀ _f:bQ,v (b .lss t8 (i64 3)) w33 λt46 w34=>aO t46 (v (b .mul t8 t44) w34 λt53 w=>v (b .quo t53 (i64 3)) w λt54 w=>v (Builtin.min_ #[3,3] 3 #[t44,t54]) w λt55 w=>v (b .add t8 (i64 1)) w λt58 w=>v (b .mul t58 t44) w λt60 w=>v (b .quo t60 (i64 3)) w λt61 w=>v (Builtin.min_ #[3,3] 3 #[t44,t61]) w λt62 w=>v (sliceAt 99 t1 (some t55) (some t62) none) w λt63 w=>∃ J2:NP 1,(v (et .eql 3 64 t8 (i64 0)) w λt65 w43=>aO t65 (v (b .quo t44 (i64 2)) w43 λt69 w=>v (Builtin.min_ #[3,3] 3 #[t44,t69]) w λt70 w=>v (sliceAt 99 t1 none (some t70) none) w λt71 w=>J2 t71 w) (J2 t63 w43)) /\
 ∀ t9 w,J2 t9 w->∀ _f:bQ,aH w λS12 w=>yf S12 46 t6 3 44 λt73=>yf S12 46 t6 3 44 λt77=>yi S12 44 t77 t8 74 λt80=>yf S12 46 t6 3 44 λt82=>yf S12 46 t6 2 43 λt84=>c 84 #[t9,t80,t82,t84] w λt85 w=>S12 w /\
 y S12 (indexAt 44 t73 t8) λt86=>y S12 (fieldAt 74 t86 3) λt87=>u (storeAt 71 t87 t85) w λ_ w=>v (b .add t8 (i64 1)) w λt48 w=>I1 t48 w/\μ1 t48 w < μ1 t8 w33) (v (loadAt 46 t6) w34 λt88 w=>u (storeAt 46 t4 t88) w λ_ w=>lv 46 t4 w λr1=> R r1 w)
theorem aQp (h:TN t0 t1 w R):aC prog 38 #[t0,t1] w R:=dw [lo [8],l,jn [9],dr 0 16 65535 (tk (rg 0 12) (.only 13 (.take 14 (.take 15 (.last 16)))))] func38 h
def FT (t0:O) (w:Ω) (R:O->Ω->Prop):Prop:=
 Go.Vc.aI (t0) /\
 fl 134 t0 0 100 w λt6 w=>R t6 w
theorem aCj (h:FT t0 w R):aC prog 39 #[t0] w R:=dw [] func39 h
def TM (t0:O) (w:Ω) (R:O->Ω->Prop):Prop:=
 c 85 #[t0] w λt4 w=>v (build 139 #[(0,t4)]) w λt5 w=>v (box 139 t5) w λt6 w=>R t6 w
theorem aQo (h:TM t0 w R):aC prog 40 #[t0] w R:=dw [] func40 h
def FS (t0 t1:O) (w:Ω) (R:O->Ω->Prop):Prop:=
 v (box 46 t1) w λt3 w=>∃ J1:NP 0,(aH w λS1 w2=>Go.Vc.aI (t0) /\
 yf S1 139 t0 1 24 λt9=>y S1 (loadAt 46 t3) λt11=>(v (buildSlice 24 0 #[]) w2 λt5 w3=>S1 w3 /\
 (v (Builtin.append_ #[24,24] 24 #[t5,t9]) w3 λt10 w=>S1 w /\
 v (buildSlice 24 1 #[(0,t11)]) w λt12 w=>S1 w /\
 v (Builtin.append_ #[24,24] 24 #[t10,t12]) w λt13 w=>S1 w /\
 Go.Vc.aI (t0) /\
 y S1 (fieldAt 139 t0 1) λt15=>u (storeAt 24 t15 t13) w λ_ w=>J1 w) /\
 (v (buildSlice 24 1 #[(0,t11)]) w3 λt12_1 w=>S1 w /\
 v (Builtin.append_ #[24,24] 24 #[t5,t9]) w λt10_1 w=>S1 w /\
 v (Builtin.append_ #[24,24] 24 #[t10_1,t12_1]) w λt13_1 w=>S1 w /\
 Go.Vc.aI (t0) /\
 y S1 (fieldAt 139 t0 1) λt15_1=>u (storeAt 24 t15_1 t13_1) w λ_ w=>J1 w)) /\
 (v (buildSlice 24 1 #[(0,t11)]) w2 λt12_2 w=>S1 w /\
 v (buildSlice 24 0 #[]) w λt5_1 w=>S1 w /\
 v (Builtin.append_ #[24,24] 24 #[t5_1,t9]) w λt10_2 w=>S1 w /\
 v (Builtin.append_ #[24,24] 24 #[t10_2,t12_2]) w λt13_2 w=>S1 w /\
 Go.Vc.aI (t0) /\
 y S1 (fieldAt 139 t0 1) λt15_2=>u (storeAt 24 t15_2 t13_2) w λ_ w=>J1 w)) /\
 ∀ w:Ω,J1 w->∀ _f:bQ,aH w λS2 w18=>Go.Vc.aI (t0) /\
 yf S2 139 t0 2 132 λt21=>yf S2 46 t3 1 42 λt24=>y S2 (ln 42 3 t24) λt25=>(v (buildSlice 132 0 #[]) w18 λt17 w19=>S2 w19 /\
 (v (Builtin.append_ #[132,132] 132 #[t17,t21]) w19 λt22 w=>S2 w /\
 v (makeSlice 37 t25 t25) w λt26 w=>S2 w /\
 v (buildSlice 132 1 #[(0,t26)]) w λt27 w=>S2 w /\
 v (Builtin.append_ #[132,132] 132 #[t22,t27]) w λt28 w=>S2 w /\
 Go.Vc.aI (t0) /\
 y S2 (fieldAt 139 t0 2) λt30=>u (storeAt 132 t30 t28) w λ_ w=>R (.tuple #[]) w) /\
 (v (makeSlice 37 t25 t25) w19 λt26_1 w25=>S2 w25 /\
 (v (Builtin.append_ #[132,132] 132 #[t17,t21]) w25 λt22_1 w=>S2 w /\
 v (buildSlice 132 1 #[(0,t26_1)]) w λt27_1 w=>S2 w /\
 v (Builtin.append_ #[132,132] 132 #[t22_1,t27_1]) w λt28_1 w=>S2 w /\
 Go.Vc.aI (t0) /\
 y S2 (fieldAt 139 t0 2) λt30_1=>u (storeAt 132 t30_1 t28_1) w λ_ w=>R (.tuple #[]) w) /\
 (v (buildSlice 132 1 #[(0,t26_1)]) w25 λt27_2 w=>S2 w /\
 v (Builtin.append_ #[132,132] 132 #[t17,t21]) w λt22_2 w=>S2 w /\
 v (Builtin.append_ #[132,132] 132 #[t22_2,t27_2]) w λt28_2 w=>S2 w /\
 Go.Vc.aI (t0) /\
 y S2 (fieldAt 139 t0 2) λt30_2=>u (storeAt 132 t30_2 t28_2) w λ_ w=>R (.tuple #[]) w))) /\
 (v (makeSlice 37 t25 t25) w18 λt26_2 w34=>S2 w34 /\
 (v (buildSlice 132 0 #[]) w34 λt17_1 w35=>S2 w35 /\
 (v (Builtin.append_ #[132,132] 132 #[t17_1,t21]) w35 λt22_3 w=>S2 w /\
 v (buildSlice 132 1 #[(0,t26_2)]) w λt27_3 w=>S2 w /\
 v (Builtin.append_ #[132,132] 132 #[t22_3,t27_3]) w λt28_3 w=>S2 w /\
 Go.Vc.aI (t0) /\
 y S2 (fieldAt 139 t0 2) λt30_3=>u (storeAt 132 t30_3 t28_3) w λ_ w=>R (.tuple #[]) w) /\
 (v (buildSlice 132 1 #[(0,t26_2)]) w35 λt27_4 w=>S2 w /\
 v (Builtin.append_ #[132,132] 132 #[t17_1,t21]) w λt22_4 w=>S2 w /\
 v (Builtin.append_ #[132,132] 132 #[t22_4,t27_4]) w λt28_4 w=>S2 w /\
 Go.Vc.aI (t0) /\
 y S2 (fieldAt 139 t0 2) λt30_4=>u (storeAt 132 t30_4 t28_4) w λ_ w=>R (.tuple #[]) w)) /\
 (v (buildSlice 132 1 #[(0,t26_2)]) w34 λt27_5 w=>S2 w /\
 v (buildSlice 132 0 #[]) w λt17_2 w=>S2 w /\
 v (Builtin.append_ #[132,132] 132 #[t17_2,t21]) w λt22_5 w=>S2 w /\
 v (Builtin.append_ #[132,132] 132 #[t22_5,t27_5]) w λt28_5 w=>S2 w /\
 Go.Vc.aI (t0) /\
 y S2 (fieldAt 139 t0 2) λt30_5=>u (storeAt 132 t30_5 t28_5) w λ_ w=>R (.tuple #[]) w))
theorem aQn (h:FS t0 t1 w R):aC prog 41 #[t0,t1] w R:=dw [dr 5 12 4095 (tk ([0]++rg 2 5++[7]) (.two 1 8 (.two 6 8 (.only 8 (.only 9 (.take 10 (.take 11 (.last 12))))) (.only 6 (.only 9 (.take 10 (.take 11 (.last 12)))))) (.only 1 (.only 6 (.only 9 (.take 10 (.take 11 (.last 12)))))))),jn [],dr 5 15 32767 (tk ([0]++rg 2 5++[7,8,9]) (.two 1 10 (.two 6 10 (.only 10 (.only 11 (.only 12 (.take 13 (.take 14 (.last 15)))))) (.two 6 11 (.only 11 (.only 12 (.take 13 (.take 14 (.last 15))))) (.only 6 (.only 12 (.take 13 (.take 14 (.last 15))))))) (.two 1 11 (.two 6 11 (.only 11 (.only 12 (.take 13 (.take 14 (.last 15))))) (.only 6 (.only 12 (.take 13 (.take 14 (.last 15)))))) (.only 1 (.only 6 (.only 12 (.take 13 (.take 14 (.last 15)))))))))] func41 h
def TL (t0 t1 t2:O) (w:Ω) (R:O->Ω->Prop):Prop:=
 v (ln 23 3 t1) w λt8 w=>v (b .gtr t8 (i64 64)) w λt9 w=>gk t9 false t2 w λt11 w=>g t9 false (ln 23 3 t11) w λt12 w=>g t9 false (b .gtr t12 (i64 64)) w λt13 w=>aN t9 (.bool true) t13 λt14=>aO t14 (R (.bool false) w) (Go.Vc.aI (t0) /\
 fl 134 t0 0 100 w λt18 w=>c 86 #[t18,(i64 1),t1] w λ_ w=>Go.Vc.aI (t0) /\
 fl 134 t0 0 100 w λt24 w=>c 86 #[t24,(i64 2),t2] w λ_ w=>Go.Vc.aI (t0) /\
 v (fieldAt 134 t0 3) w λt30 w=>u (storeAt 23 t30 bT) w λ_ w=>Go.Vc.aI (t0) /\
 v (fieldAt 134 t0 4) w λt32 w=>u (storeAt 23 t32 bT) w λ_ w=>R (.bool true) w)
theorem aQm (h:TL t0 t1 t2 w R):aC prog 42 #[t0,t1,t2] w R:=dw [] func42 h
def TK (t0 t1 t2:O) (w:Ω) (R:O->Ω->Prop):Prop:=
 v (ln 23 3 t1) w λt8 w=>v (b .gtr t8 (i64 64)) w λt9 w=>gk t9 false t2 w λt11 w=>g t9 false (ln 23 3 t11) w λt12 w=>g t9 false (b .gtr t12 (i64 64)) w λt13 w=>aN t9 (.bool true) t13 λt14=>aO t14 (R (.bool false) w) (Go.Vc.aI (t0) /\
 fl 139 t0 0 137 w λt18 w=>c 87 #[t18,(i64 1),t1] w λ_ w=>Go.Vc.aI (t0) /\
 fl 139 t0 0 137 w λt24 w=>c 87 #[t24,(i64 2),t2] w λ_ w=>Go.Vc.aI (t0) /\
 v (fieldAt 139 t0 3) w λt29 w=>u (storeAt 23 t29 bT) w λ_ w=>Go.Vc.aI (t0) /\
 v (fieldAt 139 t0 4) w λt32 w=>u (storeAt 23 t32 bT) w λ_ w=>R (.bool true) w)
theorem aQl (h:TK t0 t1 t2 w R):aC prog 43 #[t0,t1,t2] w R:=dw [] func43 h
def FR (t0 t1:O) (w:Ω) (R:O->Ω->Prop):Prop:=
 c 33 #[(i64 200)] w λt11 w=>x2 t11 w λt12 t13 w=>v (et .neq 34 14 t13 (i64 0)) w λt15 w=>gk t15 false t12 w λt17 w=>g t15 false (et .eql 26 17 t17 (Value.pointer none)) w λt18 w=>aN t15 (.bool true) t18 λt19=>aO t19 (R (.tuple #[(Value.pointer none),(Value.pointer none)]) w) (v (buildSlice 42 1 #[(0,(i64 1))]) w λt21 w=>v (buildSlice 42 1 #[(0,(i64 1))]) w λt22 w=>v (build 74 #[(2,t22),(3,t1)]) w λt24 w=>v (buildSlice 44 1 #[(0,t24)]) w λt25 w=>v (build 46 #[(0,(Value.string { data:=#[97] })),(1,t21),(3,t25)]) w λt26 w=>c 35 #[t12,t26] w λ_ w=>c 13 #[t12,(i64 0),t0] w λt31 w=>x2 t31 w λt32 t33 w=>v (et .neq 34 34 t33 (i64 0)) w λt35 w=>gk t35 false t32 w λt37 w=>g t35 false (et .eql 33 37 t37 (Value.pointer none)) w λt38 w=>aN t35 (.bool true) t38 λt39=>aO t39 (R (.tuple #[(Value.pointer none),(Value.pointer none)]) w) (c 20 #[t32] w λ_ w=>R (.tuple #[t32,t12]) w))
theorem aQk (h:FR t0 t1 w R):aC prog 44 #[t0,t1] w R:=dw [] func44 h
def FO (t0:O) (w:Ω) (R:O->Ω->Prop):Prop:=
 Go.Vc.aI (t0) /\
 fl 134 t0 1 24 w λt6 w=>v (ln 24 3 t6) w λt7 w=>R t7 w
theorem aCi (h:FO t0 w R):aC prog 45 #[t0] w R:=dw [] func45 h
def TJ (w:Ω) (R:O->Ω->Prop):Prop:=
 v (build 125 #[]) w λt1 w=>v (box 125 t1) w λt2 w=>R t2 w
theorem aQj (h:TJ w R):aC prog 46 #[] w R:=dw [] func46 h
def TI (t0 t1 t2 t3:O) (w:Ω) (R:O->Ω->Prop):Prop:=
 Go.Vc.aI (t0) /\
 fl 109 t0 0 26 w λt16 w=>c 88 #[t16,t1] w λt18 w=>x2 t18 w λt19 _ w=>st 46 t19 w λt8 w=>fl 46 t8 3 44 w λt22 w=>il 44 t22 t2 74 w λt25 w=>st 74 t25 w λt10 w=>aH w λS2 w=>y S2 (loadAt 74 t10) λt28=>yf S2 74 t10 0 42 λt30=>y S2 (ln 42 3 t30) λt31=>yf S2 74 t10 2 42 λt33=>y S2 (ln 42 3 t33) λt34=>y S2 (b .add t31 t34) λt35=>v (makeSlice 37 t35 t35) w λt36 w=>S2 w /\
 y S2 (build 114 #[(0,t1),(1,t2),(3,t28),(4,t36)]) λt37=>v (box 114 t37) w λt38 w=>S2 w /\
 Go.Vc.aI (t38) /\
 fl 114 t38 4 37 w λt42 w=>v (Builtin.copy_ #[37,37] 3 #[t42,t3]) w λ_ w=>Go.Vc.aI (t0) /\
 fl 109 t0 2 107 w λt49 w=>v (buildSlice 107 1 #[(0,t38)]) w λt51 w=>v (Builtin.append_ #[107,107] 107 #[t49,t51]) w λt52 w=>Go.Vc.aI (t0) /\
 v (fieldAt 109 t0 2) w λt54 w=>u (storeAt 107 t54 t52) w λ_ w=>R (.tuple #[]) w
theorem aQi (h:TI t0 t1 t2 t3 w R):aC prog 47 #[t0,t1,t2,t3] w R:=dw [dr 0 14 16383 (tk (rg 0 9) (.only 10 (.take 11 (.only 12 (.take 13 .done)))))] func47 h
def TH (t0:O) (w:Ω) (R:O->Ω->Prop):Prop:=
 aH w λS1 w=>Go.Vc.aI (t0) /\
 yf S1 109 t0 2 107 λt6=>Go.Vc.aI (t0) /\
 yf S1 109 t0 2 107 λt10=>y S1 (ln 107 3 t10) λt11=>y S1 (b .sub t11 (i64 1)) λt12=>yi S1 107 t6 t12 111 λt14=>R t14 w
theorem aQh (h:TH t0 w R):aC prog 48 #[t0] w R:=dw [dr 0 13 8191 (tk (rg 0 12) .done)] func48 h
def FN (t0:O) (w:Ω) (R:O->Ω->Prop):Prop:=
 v (et .eql 37 3 t0 bT) w λt4 w=>aO t4 (R bT w) (v (buildSlice 37 0 #[]) w λt5 w=>v (Builtin.append_ #[37,37] 37 #[t5,t0]) w λt7 w=>R t7 w)
theorem aCh (h:FN t0 w R):aC prog 49 #[t0] w R:=dw [] func49 h
def TG (t0 t1:O) (w:Ω) (R:O->Ω->Prop):Prop:=
 Go.Vc.aI (t0) /\
 v (fieldAt 109 t0 4) w λt7 w=>u (storeAt 3 t7 t1) w λ_ w=>Go.Vc.aI (t0) /\
 fl 109 t0 1 48 w λt11 w=>c 52 #[t11,(i64 5),t1,(i64 0),(i64 0)] w λ_ w=>R (.tuple #[]) w
theorem aQg (h:TG t0 t1 w R):aC prog 51 #[t0,t1] w R:=dw [] func51 h
def TF (t0 t1 t2 t3 t4:O) (w:Ω) (R:O->Ω->Prop):Prop:=
 Go.Vc.aI (t0) /\
 fl 125 t0 0 50 w λt14 w=>v (ln 50 3 t14) w λt15 w=>v (b .geq t15 (i64 200000)) w λt16 w=>aO t16 (R (.bool false) w) (Go.Vc.aI (t0) /\
 fl 125 t0 0 50 w λt21 w=>v (build 54 #[(0,t1),(1,t2),(2,t3),(3,t4)]) w λt26 w=>v (buildSlice 50 1 #[(0,t26)]) w λt27 w=>v (Builtin.append_ #[50,50] 50 #[t21,t27]) w λt28 w=>Go.Vc.aI (t0) /\
 v (fieldAt 125 t0 0) w λt30 w=>u (storeAt 50 t30 t28) w λ_ w=>R (.bool true) w)
theorem aQf (h:TF t0 t1 t2 t3 t4 w R):aC prog 52 #[t0,t1,t2,t3,t4] w R:=dw [] func52 h
def FL (t0 t1 t2:O) (w:Ω) (R:O->Ω->Prop):Prop:=
 v (box 70 t2) w λt5 w=>fl 70 t5 0 3 w λt12 w=>v (et .eql 3 12 t12 (i64 37)) w λt14 w4=>aO t14 (aH w4 λS3 w=>Go.Vc.aI (t1) /\
 yf S3 114 t1 0 3 λt20=>yf S3 70 t5 1 3 λt22=>c 89 #[t0,t1,t20,t22] w λt23 w=>S3 w /\
 R t23 w) (v (et .eql 3 12 t12 (i64 38)) w4 λt25 w7=>aO t25 (aH w7 λS5 w=>Go.Vc.aI (t0) /\
 yf S5 109 t0 0 26 λt30=>Go.Vc.aI (t1) /\
 yf S5 114 t1 0 3 λt34=>yf S5 70 t5 1 3 λt36=>c 90 #[t30,t34,t36] w λt37 w=>S5 w /\
 y S5 (extract t37 0) λt38=>y S5 (extract t37 1) λt39=>y S5 (extract t37 2) λt40=>v (Op.unary UnOp.not t40) w λt42 w10=>aO t42 (fl 70 t5 1 3 w10 λt47 w=>c 92 #[t0,t1,t47] w λt48 w=>v (field 180 t48 2) w λt49 w=>v (ln 42 3 t49) w λt50 w=>c 91 #[t1,t50] w λ_ w=>R (i64 28424) w) (c 89 #[t0,t1,t38,t39] w10 λt56 w=>R t56 w)) (v (et .eql 3 12 t12 (i64 39)) w7 λt58 w18=>aO t58 (c 93 #[t0,t1] w18 λ_ w=>R (i64 36864) w) (fl 70 t5 0 3 w18 λt63 w=>c 94 #[t63] w λt64 w=>v (b .geq t64 (i64 0)) w λt66 w23=>aO t66 (v (loadAt 70 t5) w23 λt69 w=>c 95 #[t0,t1,t69,t64] w λt71 w=>R t71 w) (v (loadAt 70 t5) w23 λt75 w=>c 96 #[t0,t1,t75] w λt76 w=>Go.Vc.aI (t1) /\
 v (fieldAt 114 t1 2) w λt78 w=>u (storeAt 3 t78 t76) w λ_ w=>R (i64 36864) w))))
theorem aQe (h:FL t0 t1 t2 w R):aC prog 53 #[t0,t1,t2] w R:=dw [dr 0 10 1023 (tk (rg 0 7) (.only 8 (.take 9 .done))),l,dr 0 18 262143 (tk (rg 0 9) (.only 10 (tk (rg 11 17) .done)))] func53 h
def TE (t0:O) (w:Ω) (R:O->Ω->Prop):Prop:=
 v (et .eql 50 3 t0 bT) w λt4 w=>aO t4 (R bT w) (v (buildSlice 50 0 #[]) w λt5 w=>v (Builtin.append_ #[50,50] 50 #[t5,t0]) w λt7 w=>R t7 w)
theorem aQd (h:TE t0 w R):aC prog 54 #[t0] w R:=dw [] func54 h
def TD (t0:O) (w:Ω) (R:O->Ω->Prop):Prop:=
 Go.Vc.aI (t0) /\
 fl 193 t0 1 154 w λt6 w=>v (ln 154 3 t6) w λt7 w=>R t7 w
theorem aQc (h:TD t0 w R):aC prog 55 #[t0] w R:=dw [] func55 h
def FK (t0 t1:O) (w:Ω) (R:O->Ω->Prop):Prop:=
 v (al 127) w λt4 w=>c 97 #[t0,t1] w λt10 w=>v (et .eql 194 11 t10 (Value.pointer none)) w λt12 w3=>aO t12 (v (build 127 #[]) w3 λt13 w=>u (storeAt 127 t4 t13) w λ_ w=>lv 127 t4 w λr1=> R (.tuple #[r1,(.bool false)]) w) (Go.Vc.aI (t10) /\
 v (loadAt 127 t10) w3 λt16 w=>st 127 t16 w λt7 w=>Go.Vc.aI (t10) /\
 fl 127 t10 4 23 w λt20 w=>c 58 #[t20] w λt21 w=>v (fieldAt 127 t7 4) w λt22 w=>u (storeAt 23 t22 t21) w λ_ w=>v (loadAt 127 t7) w λt23 w=>u (storeAt 127 t4 t23) w λ_ w=>lv 127 t4 w λr1=> R (.tuple #[r1,(.bool true)]) w)
theorem aCg (h:FK t0 t1 w R):aC prog 56 #[t0,t1] w R:=dw [] func56 h
def TC (t0 t1:O) (w:Ω) (R:O->Ω->Prop):Prop:=
 v (box 127 t0) w λt2 w=>v (box 127 t1) w λt3 w=>fl 127 t2 0 3 w λt6 w=>fl 127 t3 0 3 w λt8 w=>v (e .eql 3 (.tmp 6) (.tmp 8) t6 t8) w λt9 w=>g t9 true (fieldAt 127 t2 1) w λt11 w=>g t9 true (loadAt 3 t11) w λt12 w=>g t9 true (fieldAt 127 t3 1) w λt13 w=>g t9 true (loadAt 3 t13) w λt14 w=>g t9 true (e .eql 3 (.tmp 12) (.tmp 14) t12 t14) w λt15 w=>aN t9 t15 (.bool false) λt16=>g t16 true (fieldAt 127 t2 2) w λt18 w=>g t16 true (loadAt 3 t18) w λt19 w=>g t16 true (fieldAt 127 t3 2) w λt20 w=>g t16 true (loadAt 3 t20) w λt21 w=>g t16 true (e .eql 3 (.tmp 19) (.tmp 21) t19 t21) w λt22 w=>aN t16 t22 (.bool false) λt23=>g t23 true (fieldAt 127 t2 3) w λt25 w=>g t23 true (loadAt 4 t25) w λt26 w=>g t23 true (fieldAt 127 t3 3) w λt27 w=>g t23 true (loadAt 4 t27) w λt28 w=>g t23 true (e .eql 4 (.tmp 26) (.tmp 28) t26 t28) w λt29 w=>aN t23 t29 (.bool false) λt30=>g t30 true (fieldAt 127 t2 4) w λt32 w=>g t30 true (loadAt 23 t32) w λt33 w=>g t30 true (convert 23 9 t33) w λt34 w=>g t30 true (fieldAt 127 t3 4) w λt35 w=>g t30 true (loadAt 23 t35) w λt36 w=>g t30 true (convert 23 9 t36) w λt37 w=>g t30 true (e .eql 9 (.tmp 34) (.tmp 37) t34 t37) w λt38 w=>aN t30 t38 (.bool false) λt39=>R t39 w
theorem aQb (h:TC t0 t1 w R):aC prog 57 #[t0,t1] w R:=dw [] func57 h
def FJ (t0:O) (w:Ω) (R:O->Ω->Prop):Prop:=
 v (et .eql 23 3 t0 bT) w λt4 w=>aO t4 (R bT w) (v (buildSlice 23 0 #[]) w λt5 w=>v (Builtin.append_ #[23,23] 23 #[t5,t0]) w λt7 w=>R t7 w)
theorem aCf (h:FJ t0 w R):aC prog 58 #[t0] w R:=dw [] func58 h
def TB (t0 t1 t2 t3:O) (w:Ω) (R:O->Ω->Prop):Prop:=
 Go.Vc.aI (t0) /\
 fl 139 t0 1 24 w λt14 w=>jl 24 t14 t1 46 3 44 w λt18 w=>il 44 t18 t2 74 w λt21 w=>st 74 t21 w λt9 w=>fl 74 t9 0 42 w λt25 w=>v (ln 42 3 t25) w λt26 w=>fl 74 t9 2 42 w λt28 w=>v (ln 42 3 t28) w λt29 w=>v (b .add t26 t29) w λt30 w=>v (makeSlice 37 t30 t30) w λt31 w=>v (build 141 #[(0,t1),(1,t2),(3,t31)]) w λt32 w=>v (box 141 t32) w λt33 w=>Go.Vc.aI (t33) /\
 fl 141 t33 3 37 w λt37 w=>v (Builtin.copy_ #[37,37] 3 #[t37,t3]) w λ_ w=>R t33 w
theorem aQa (h:TB t0 t1 t2 t3 w R):aC prog 59 #[t0,t1,t2,t3] w R:=dw [] func59 h
def SZ (t0 t1:O) (w:Ω) (R:O->Ω->Prop):Prop:=
 Go.Vc.aI (t0) /\
 v (fieldAt 64 t0 2) w λt7 w=>u (storeAt 3 t7 t1) w λ_ w=>Go.Vc.aI (t0) /\
 fl 64 t0 4 62 w λt11 w=>v (build 54 #[(0,(i64 5)),(1,t1)]) w λt13 w=>c 61 #[t11,t13] w λ_ w=>R (.tuple #[]) w
theorem aPz (h:SZ t0 t1 w R):aC prog 60 #[t0,t1] w R:=dw [] func60 h
def SY (t0 t1:O) (w:Ω) (R:O->Ω->Prop):Prop:=
 v (box 54 t1) w λt3 w=>v (et .neq 62 4 t0 (Value.pointer none)) w λt5 w=>gk t5 true t0 w λt7 w=>gd t5 true (λK=> (Go.Vc.aI (t7)/\K (t7) w)) w λt8 w=>g t5 true (fieldAt 66 t8 0) w λt9 w=>g t5 true (loadAt 50 t9) w λt10 w=>g t5 true (ln 50 3 t10) w λt11 w=>g t5 true (b .lss t11 (i64 200000)) w λt12 w8=>aN t5 t12 (.bool false) λt13=>aO t13 (aH w8 λS2 w=>Go.Vc.aI (t0) /\
 yf S2 66 t0 0 50 λt18=>y S2 (loadAt 54 t3) λt19=>v (buildSlice 50 1 #[(0,t19)]) w λt20 w=>S2 w /\
 v (Builtin.append_ #[50,50] 50 #[t18,t20]) w λt21 w=>S2 w /\
 Go.Vc.aI (t0) /\
 y S2 (fieldAt 66 t0 0) λt23=>u (storeAt 50 t23 t21) w λ_ w=>R (.tuple #[]) w) (R (.tuple #[]) w8)
theorem aPy (h:SY t0 t1 w R):aC prog 61 #[t0,t1] w R:=dw [dr 0 10 1023 (tk (rg 0 5) (.only 6 (.only 7 (.take 8 (.take 9 (.last 10))))))] func61 h
def FI (t0 t1 t2:O) (w:Ω) (R:O->Ω->Prop):Prop:=
 v (box 46 t0) w λt3 w=>v (box 70 t2) w λt5 w=>aH w λS1 w=>y S1 (loadAt 46 t3) λt7=>yf S1 46 t3 3 44 λt9=>yi S1 44 t9 t1 74 λt12=>y S1 (loadAt 70 t5) λt13=>c 98 #[t7,t12,t13] w λt14 w=>S1 w /\
 R t14 w
theorem aPx (h:FI t0 t1 t2 w R):aC prog 62 #[t0,t1,t2] w R:=dw [dr 0 9 511 (tk (rg 0 6) (.only 7 (.take 8 .done)))] func62 h
def SX (t0 t1:O) (w:Ω) (R:O->Ω->Prop):Prop:=
 Go.Vc.aI (t0) /\
 fl 141 t0 4 37 w λt8 w=>v (buildSlice 37 1 #[(0,t1)]) w λt10 w=>v (Builtin.append_ #[37,37] 37 #[t8,t10]) w λt11 w=>Go.Vc.aI (t0) /\
 v (fieldAt 141 t0 4) w λt13 w=>u (storeAt 37 t13 t11) w λ_ w=>R (.tuple #[]) w
theorem aPw (h:SX t0 t1 w R):aC prog 63 #[t0,t1] w R:=dw [] func63 h
def FH (t0 t1:O) (w:Ω) (R:O->Ω->Prop):Prop:=
 v (et .eql 3 5 t0 (i64 15)) w λt7 w1=>aO t7 (v (Op.unary UnOp.neg t1) w1 λt9 w=>R t9 w) (v (et .eql 3 5 t0 (i64 16)) w1 λt11 w3=>aO t11 (v (Op.unary UnOp.xor t1) w3 λt13 w=>R t13 w) (v (et .eql 21 14 t1 (Value.int IntKind.i32 0)) w3 λt15 w=>c 99 #[t15] w λt16 w=>R t16 w))
theorem aPv (h:FH t0 t1 w R):aC prog 64 #[t0,t1] w R:=dw [] func64 h
def SW (t0 t1 t2:O) (w:Ω) (R:O->Ω->Prop):Prop:=
 v (et .neq 21 7 t0 (Value.int IntKind.i32 0)) w λt8 w=>aO t8 (R t1 w) (R t2 w)
theorem aPu (h:SW t0 t1 t2 w R):aC prog 65 #[t0,t1,t2] w R:=dw [] func65 h
def FG (t0 t1 t2:O) (w:Ω) (R:O->Ω->Prop):Prop:=
 v (b .lss t1 (i64 0)) w λt14 w=>gk t14 false t1 w λt16 w=>gk t14 false t0 w λt17 w=>g t14 false (ln 24 3 t17) w λt18 w=>g t14 false (b .geq t16 t18) w λt19 w=>aN t14 (.bool true) t19 λt20=>gk t20 false t2 w λt22 w=>g t20 false (b .lss t22 (i64 0)) w λt23 w=>aN t20 (.bool true) t23 λt24=>gk t24 false t2 w λt26 w=>gk t24 false t0 w λt27 w=>gk t24 false t1 w λt28 w=>g t24 false (indexAt 24 t27 t28) w λt29 w=>g t24 false (fieldAt 46 t29 2) w λt30 w=>g t24 false (loadAt 43 t30) w λt31 w=>g t24 false (ln 43 3 t31) w λt32 w=>g t24 false (b .geq t26 t32) w λt33 w=>aN t24 (.bool true) t33 λt34=>aO t34 (R (.tuple #[(i64 0),(i64 0),(.bool false)]) w) (jl 24 t0 t1 46 2 43 w λt39 w=>il 43 t39 t2 180 w λt42 w=>st 180 t42 w λt9 w=>fl 180 t9 0 9 w λt45 w=>c 100 #[t0,t45] w λt46 w=>aH w λS5 w=>y S5 (b .lss t46 (i64 0)) λt48=>gy t48 false S5 (fieldAt 180 t9 1) λt50=>gy t48 false S5 (loadAt 3 t50) λt51=>gy t48 false S5 (b .lss t51 (i64 0)) λt52=>aN t48 (.bool true) t52 λt53=>gy t53 false S5 (fieldAt 180 t9 1) λt55=>gy t53 false S5 (loadAt 3 t55) λt56=>gx t53 false t0 λt57=>gx t53 false t46 λt58=>gy t53 false S5 (indexAt 24 t57 t58) λt59=>gy t53 false S5 (fieldAt 46 t59 4) λt60=>gy t53 false S5 (loadAt 42 t60) λt61=>gy t53 false S5 (ln 42 3 t61) λt62=>gy t53 false S5 (b .geq t56 t62) λt63=>aN t53 (.bool true) t63 λt64=>aO t64 (R (.tuple #[(i64 0),(i64 0),(.bool false)]) w) (aH w λS7 w=>y S7 (indexAt 24 t0 t46) λt67=>yf S7 46 t67 4 42 λt69=>yf S7 180 t9 1 3 λt71=>yi S7 42 t69 t71 3 λt73=>v (b .lss t73 (i64 0)) w λt75 w=>gk t75 false t73 w λt77 w=>gk t75 false t0 w λt78 w=>gk t75 false t46 w λt79 w=>g t75 false (indexAt 24 t78 t79) w λt80 w=>g t75 false (fieldAt 46 t80 3) w λt81 w=>g t75 false (loadAt 44 t81) w λt82 w=>g t75 false (ln 44 3 t82) w λt83 w=>g t75 false (b .geq t77 t83) w λt84 w=>aN t75 (.bool true) t84 λt85=>aO t85 (R (.tuple #[(i64 0),(i64 0),(.bool false)]) w) (jl 24 t0 t46 46 3 44 w λt90 w=>il 44 t90 t73 74 w λt93 w=>st 74 t93 w λt12 w=>fl 74 t12 1 3 w λt95 w=>fl 180 t9 3 3 w λt97 w=>v (e .neq 3 (.tmp 95) (.tmp 97) t95 t97) w λt98 w=>g t98 false (fieldAt 74 t12 0) w λt100 w=>g t98 false (loadAt 42 t100) w λt101 w=>g t98 false (fieldAt 180 t9 2) w λt102 w=>g t98 false (loadAt 42 t102) w λt103 w=>gd t98 false (λK=> c 101 #[t101,t103] w K) w λt104 w=>g t98 false (Op.unary UnOp.not t104) w λt105 w=>aN t98 (.bool true) t105 λt106=>aO t106 (R (.tuple #[(i64 0),(i64 0),(.bool false)]) w) (R (.tuple #[t46,t73,(.bool true)]) w))))
theorem aPt (h:FG t0 t1 t2 w R):aC prog 66 #[t0,t1,t2] w R:=dw [l,dr 0 18 262143 (tk (rg 0 17) .done),l,l,dr 0 10 1023 (tk (rg 0 9) .done)] func66 h
def lX (t0:O) (w:Ω) (R:O->Ω->Prop):Prop:=
 ∃ J1:NP 1,(v (et .eql 3 3 t0 (i64 27)) w λt5 w=>aO t5 (J1 t5 w) (v (et .eql 3 3 t0 (i64 28)) w λt6 w=>J1 t6 w)) /\
 ∀ t4 w,J1 t4 w->∀ _f:bQ,aO t4 (R (i64 1) w) (∃ J2:NP 1,(v (et .eql 3 3 t0 (i64 17)) w λt8 w=>aO t8 (J2 t8 w) (v (et .eql 3 3 t0 (i64 18)) w λt9 w=>aO t9 (J2 t9 w) (v (et .eql 3 3 t0 (i64 29)) w λt10 w=>J2 t10 w))) /\
 ∀ t7 w,J2 t7 w->∀ _f:bQ,aO t7 (R (i64 2) w) (∃ J3:NP 1,(v (et .eql 3 3 t0 (i64 30)) w λt12 w=>aO t12 (J3 t12 w) (v (et .eql 3 3 t0 (i64 36)) w λt13 w=>J3 t13 w)) /\
 ∀ t11 w,J3 t11 w->∀ _f:bQ,aO t11 (R (i64 3) w) (v (et .eql 3 3 t0 (i64 31)) w λt15 w=>aO t15 (aO t15 (R (i64 5) w) (R (i64 (-1)) w)) (v (et .eql 3 3 t0 (i64 32)) w λt16 w=>aO t16 (R (i64 5) w) (R (i64 (-1)) w)))))
theorem qC (h:lX t0 w R):aC prog 67 #[t0] w R:=dw [jn [4],jn [7],jn [11]] func67 h
def rD (t0 t1 t2:O) (w:Ω) (R:O->Ω->Prop):Prop:=
 v (et .eql 3 7 t0 (i64 6)) w λt9 w1=>aO t9 (v (binOp .add 21 t1 t2) w1 λt12 w=>R t12 w) (v (et .eql 3 7 t0 (i64 7)) w1 λt14 w3=>aO t14 (v (binOp .sub 21 t1 t2) w3 λt17 w=>R t17 w) (v (et .eql 3 7 t0 (i64 8)) w3 λt19 w5=>aO t19 (v (binOp .mul 21 t1 t2) w5 λt22 w=>R t22 w) (v (et .eql 3 7 t0 (i64 9)) w5 λt24 w7=>aO t24 (v (binOp .and 21 t1 t2) w7 λt27 w=>R t27 w) (v (et .eql 3 7 t0 (i64 10)) w7 λt29 w9=>aO t29 (v (binOp .or 21 t1 t2) w9 λt32 w=>R t32 w) (v (et .eql 3 7 t0 (i64 11)) w9 λt34 w11=>aO t34 (v (binOp .xor 21 t1 t2) w11 λt37 w=>R t37 w) (v (et .eql 3 7 t0 (i64 12)) w11 λt39 w13=>aO t39 (v (binOp .and 21 t2 (Value.int IntKind.i32 31)) w13 λt42 w=>v (convert 21 200 t42) w λt43 w=>v (binOp .shl 21 t1 t43) w λt44 w=>R t44 w) (v (et .eql 3 7 t0 (i64 13)) w13 λt46 w17=>aO t46 (v (convert 21 201 t1) w17 λt48 w=>v (binOp .and 21 t2 (Value.int IntKind.i32 31)) w λt50 w=>v (convert 21 200 t50) w λt51 w=>v (binOp .shr 201 t48 t51) w λt52 w=>v (convert 201 21 t52) w λt53 w=>R t53 w) (v (et .eql 3 7 t0 (i64 14)) w17 λt55 w23=>aO t55 (v (binOp .and 21 t2 (Value.int IntKind.i32 31)) w23 λt58 w=>v (convert 21 200 t58) w λt59 w=>v (binOp .shr 21 t1 t59) w λt60 w=>R t60 w) (v (et .eql 3 7 t0 (i64 19)) w23 λt62 w27=>aO t62 (v (e .eql 21 (.tmp 63) (.tmp 64) t1 t2) w27 λt65 w=>c 99 #[t65] w λt66 w=>R t66 w) (v (et .eql 3 7 t0 (i64 20)) w27 λt68 w30=>aO t68 (v (binOp .lss 21 t1 t2) w30 λt71 w=>c 99 #[t71] w λt72 w=>R t72 w) (v (et .eql 3 7 t0 (i64 21)) w30 λt74 w33=>aO t74 (v (convert 21 201 t1) w33 λt76 w=>v (convert 21 201 t2) w λt78 w=>v (binOp .lss 201 t76 t78) w λt79 w=>c 99 #[t79] w λt80 w=>R t80 w) (v (et .eql 3 7 t0 (i64 17)) w33 λt82 w38=>aO t82 (v (et .eql 21 83 t2 (Value.int IntKind.i32 0)) w38 λt84 w=>aO t84 (R (Value.int IntKind.i32 0) w) (v (convert 21 2 t1) w λt86 w=>v (convert 21 2 t2) w λt88 w=>v (binOp .quo 2 t86 t88) w λt89 w=>v (convert 2 21 t89) w λt90 w=>R t90 w)) (v (et .eql 3 7 t0 (i64 18)) w38 λt92 w44=>aO t92 (v (et .eql 21 93 t2 (Value.int IntKind.i32 0)) w44 λt94 w=>aO t94 (R (Value.int IntKind.i32 0) w) (v (convert 21 2 t1) w λt96 w=>v (convert 21 2 t2) w λt98 w=>v (binOp .rem 2 t96 t98) w λt99 w=>v (convert 2 21 t99) w λt100 w=>R t100 w)) (R (Value.int IntKind.i32 0) w44))))))))))))))
theorem OX (h:rD t0 t1 t2 w R):aC prog 68 #[t0,t1,t2] w R:=dw [] func68 h
def cJ (t0 t2 t3 t4 t5 t6 t16:O) (w16:Ω) (R:O->Ω->Prop):Prop:=
 ∃ J3:NP 1,(v (et .eql 3 75 t3 (i64 17)) w16 λt77 w=>aO t77 (J3 t77 w) (v (et .eql 3 75 t3 (i64 18)) w λt78 w=>J3 t78 w)) /\
 ∀ t76 w23,J3 t76 w23->∀ _f:bQ,aO t76 (il 42 t16 (i64 1) 3 w23 λt81 w=>v (et .eql 3 81 t81 (i64 0)) w λt82 w=>aO t82 (R (.tuple #[(Value.int IntKind.i32 0),(i64 28419)]) w) (aH w λS18 w=>yi S18 37 t6 (i64 0) 21 λt86=>yi S18 37 t6 (i64 1) 21 λt89=>c 68 #[t3,t86,t89] w λt90 w=>S18 w /\
 R (.tuple #[t90,(i64 36864)]) w)) (v (et .eql 3 75 t3 (i64 27)) w23 λt92 w29=>aO t92 (il 42 t16 (i64 0) 3 w29 λt95 w=>v (b .lss t95 (i64 0)) w λt96 w=>gk t96 false t16 w λt98 w=>g t96 false (indexAt 42 t98 (i64 0)) w λt99 w=>g t96 false (loadAt 3 t99) w λt100 w=>g t96 false (b .gtr t100 (i64 64)) w λt101 w=>aN t96 (.bool true) t101 λt102=>aO t102 (R (.tuple #[(Value.int IntKind.i32 0),(i64 28425)]) w) (aH w λS22 w=>Go.Vc.aI (t0) /\
 yf S22 139 t0 0 137 λt107=>y S22 (b .rem t5 (i64 4)) λt111=>y S22 (b .add t111 (i64 4)) λt112=>y S22 (b .rem t112 (i64 4)) λt113=>y S22 (b .geq t5 (i64 4)) λt115=>yi S22 42 t16 (i64 0) 3 λt118=>c 103 #[t107,t2,t4,t113,t115,t118] w λt119 w=>S22 w /\
 y S22 (extract t119 0) λt120=>y S22 (extract t119 1) λt121=>v (Op.unary UnOp.not t121) w λt123 w=>aO t123 (R (.tuple #[(Value.int IntKind.i32 0),(i64 28421)]) w) (v (convert 3 21 t120) w λt125 w=>R (.tuple #[t125,(i64 36864)]) w))) (v (et .eql 3 75 t3 (i64 28)) w29 λt127 w42=>aO t127 (aH w42 λS27 w=>Go.Vc.aI (t0) /\
 yf S27 139 t0 0 137 λt131=>yi S27 42 t16 (i64 0) 3 λt134=>c 104 #[t131,t134,t2] w λt136 w=>S27 w /\
 v (et .neq 3 137 t136 (i64 36864)) w λt138 w=>aO t138 (R (.tuple #[(Value.int IntKind.i32 0),t136]) w) (∃ J4:NP 1,(aH w λS30 w46=>Go.Vc.aI (t0) /\
 yf S30 139 t0 0 137 λt144=>yi S30 42 t16 (i64 0) 3 λt147=>(c 105 #[t144,t147] w46 λt148 w=>S30 w /\
 y S30 (extract t148 0) λt149=>y S30 (extract t148 1) λ_=>v (al 127) w λt23 w=>S30 w /\
 u (storeAt 127 t23 t149) w λ_ w=>S30 w /\
 J4 t23 w) /\
 (v (al 127) w46 λt23_1 w=>S30 w /\
 c 105 #[t144,t147] w λt148_1 w=>S30 w /\
 y S30 (extract t148_1 0) λt149_1=>y S30 (extract t148_1 1) λ_=>u (storeAt 127 t23_1 t149_1) w λ_ w=>S30 w /\
 J4 t23_1 w)) /\
 ∀ t23_2 w,J4 t23_2 w->∀ _f:bQ,fl 127 t23_2 4 23 w λt152 w=>v (ln 23 3 t152) w λt153 w=>v (convert 3 21 t153) w λt154 w=>R (.tuple #[t154,(i64 36864)]) w)) (∃ J5:NP 1,(v (et .eql 3 75 t3 (i64 29)) w42 λt156 w=>aO t156 (J5 t156 w) (v (et .eql 3 75 t3 (i64 30)) w λt157 w=>J5 t157 w)) /\
 ∀ t155 w60,J5 t155 w60->∀ _f:bQ,aO t155 (aH w60 λS34 w=>Go.Vc.aI (t0) /\
 yf S34 139 t0 0 137 λt161=>yi S34 42 t16 (i64 0) 3 λt164=>yi S34 42 t16 (i64 1) 3 λt167=>c 106 #[t161,t164,t167,(i64 1),t2] w λt169 w=>S34 w /\
 v (et .neq 3 170 t169 (i64 36864)) w λt171 w=>aO t171 (R (.tuple #[(Value.int IntKind.i32 0),t169]) w) (v (et .eql 3 173 t3 (i64 30)) w λt174 w64=>aO t174 (aH w64 λS38 w=>Go.Vc.aI (t0) /\
 yf S38 139 t0 0 137 λt178=>yi S38 42 t16 (i64 0) 3 λt181=>yi S38 42 t16 (i64 1) 3 λt184=>yi S38 42 t16 (i64 2) 3 λt187=>y S38 (convert 3 5 t187) λt188=>v (buildSlice 23 1 #[(0,t188)]) w λt189 w=>S38 w /\
 c 107 #[t178,t181,t184,t189] w λ_ w=>S38 w /\
 R (.tuple #[(Value.int IntKind.i32 0),(i64 36864)]) w) (∃ J6:NP 1,(aH w64 λS40 w68=>Go.Vc.aI (t0) /\
 yf S40 139 t0 0 137 λt195=>yi S40 42 t16 (i64 0) 3 λt198=>(c 105 #[t195,t198] w68 λt199 w=>S40 w /\
 y S40 (extract t199 0) λt200=>y S40 (extract t199 1) λ_=>v (al 127) w λt26 w=>S40 w /\
 u (storeAt 127 t26 t200) w λ_ w=>S40 w /\
 J6 t26 w) /\
 (v (al 127) w68 λt26_1 w=>S40 w /\
 c 105 #[t195,t198] w λt199_1 w=>S40 w /\
 y S40 (extract t199_1 0) λt200_1=>y S40 (extract t199_1 1) λ_=>u (storeAt 127 t26_1 t200_1) w λ_ w=>S40 w /\
 J6 t26_1 w)) /\
 ∀ t26_2 w,J6 t26_2 w->∀ _f:bQ,aH w λS41 w=>yf S41 127 t26_2 4 23 λt203=>yi S41 42 t16 (i64 1) 3 λt206=>yi S41 23 t203 t206 5 λt208=>y S41 (convert 5 21 t208) λt209=>R (.tuple #[t209,(i64 36864)]) w))) (∃ J7:NP 1,(v (et .eql 3 75 t3 (i64 31)) w60 λt211 w=>aO t211 (J7 t211 w) (v (et .eql 3 75 t3 (i64 32)) w λt212 w=>J7 t212 w)) /\
 ∀ t210 w79,J7 t210 w79->∀ _f:bQ,aO t210 (aH w79 λS44 w=>Go.Vc.aI (t0) /\
 yf S44 139 t0 0 137 λt216=>yi S44 42 t16 (i64 0) 3 λt219=>yi S44 42 t16 (i64 1) 3 λt222=>yi S44 42 t16 (i64 4) 3 λt225=>c 106 #[t216,t219,t222,t225,t2] w λt227 w=>S44 w /\
 v (et .neq 3 228 t227 (i64 36864)) w λt229 w=>aO t229 (R (.tuple #[(Value.int IntKind.i32 0),t227]) w) (aH w λS47 w=>Go.Vc.aI (t0) /\
 yf S47 139 t0 0 137 λt234=>yi S47 42 t16 (i64 2) 3 λt237=>yi S47 42 t16 (i64 3) 3 λt240=>yi S47 42 t16 (i64 4) 3 λt243=>c 106 #[t234,t237,t240,t243,t2] w λt245 w=>S47 w /\
 v (et .neq 3 246 t245 (i64 36864)) w λt247 w=>aO t247 (R (.tuple #[(Value.int IntKind.i32 0),t245]) w) (∃ J8:NP 1,(aH w λS50 w86=>Go.Vc.aI (t0) /\
 yf S50 139 t0 0 137 λt253=>yi S50 42 t16 (i64 0) 3 λt256=>(c 105 #[t253,t256] w86 λt257 w=>S50 w /\
 y S50 (extract t257 0) λt258=>y S50 (extract t257 1) λ_=>v (al 127) w λt30 w=>S50 w /\
 u (storeAt 127 t30 t258) w λ_ w=>S50 w /\
 J8 t30 w) /\
 (v (al 127) w86 λt30_1 w=>S50 w /\
 c 105 #[t253,t256] w λt257_1 w=>S50 w /\
 y S50 (extract t257_1 0) λt258_1=>y S50 (extract t257_1 1) λ_=>u (storeAt 127 t30_1 t258_1) w λ_ w=>S50 w /\
 J8 t30_1 w)) /\
 ∀ t30_2 w,J8 t30_2 w->∀ _f:bQ,∃ J9:NP 1,(aH w λS51 w94=>Go.Vc.aI (t0) /\
 yf S51 139 t0 0 137 λt264=>yi S51 42 t16 (i64 2) 3 λt267=>(c 105 #[t264,t267] w94 λt268 w=>S51 w /\
 y S51 (extract t268 0) λt269=>y S51 (extract t268 1) λ_=>v (al 127) w λt32 w=>S51 w /\
 u (storeAt 127 t32 t269) w λ_ w=>S51 w /\
 J9 t32 w) /\
 (v (al 127) w94 λt32_1 w=>S51 w /\
 c 105 #[t264,t267] w λt268_1 w=>S51 w /\
 y S51 (extract t268_1 0) λt269_1=>y S51 (extract t268_1 1) λ_=>u (storeAt 127 t32_1 t269_1) w λ_ w=>S51 w /\
 J9 t32_1 w)) /\
 ∀ t32_2 w,J9 t32_2 w->∀ _f:bQ,aH w λS52 w=>yf S52 127 t32_2 4 23 λt272=>yi S52 42 t16 (i64 3) 3 λt275=>yi S52 42 t16 (i64 3) 3 λt278=>yi S52 42 t16 (i64 4) 3 λt281=>y S52 (b .add t278 t281) λt282=>y S52 (sliceAt 23 t272 (some t275) (some t282) none) λt283=>v (et .eql 3 284 t3 (i64 31)) w λt285 w103=>aO t285 (aH w103 λS54 w=>Go.Vc.aI (t0) /\
 yf S54 139 t0 0 137 λt289=>yi S54 42 t16 (i64 0) 3 λt292=>yi S54 42 t16 (i64 1) 3 λt295=>c 107 #[t289,t292,t295,t283] w λ_ w=>S54 w /\
 R (.tuple #[(Value.int IntKind.i32 0),(i64 36864)]) w) (aH w103 λS56 w=>yf S56 127 t30_2 4 23 λt299=>yi S56 42 t16 (i64 1) 3 λt302=>yi S56 42 t16 (i64 1) 3 λt305=>yi S56 42 t16 (i64 4) 3 λt308=>y S56 (b .add t305 t308) λt309=>y S56 (sliceAt 23 t299 (some t302) (some t309) none) λt310=>y S56 (convert 23 9 t310) λt311=>y S56 (convert 23 9 t283) λt313=>y S56 (e .eql 9 (.tmp 311) (.tmp 313) t311 t313) λt314=>aO t314 (R (.tuple #[(Value.int IntKind.i32 1),(i64 36864)]) w) (R (.tuple #[(Value.int IntKind.i32 0),(i64 36864)]) w))))) (aH w79 λS59 w=>Go.Vc.aI (t0) /\
 yf S59 139 t0 0 137 λt318=>yi S59 42 t16 (i64 0) 3 λt321=>yi S59 42 t16 (i64 1) 3 λt324=>yi S59 42 t16 (i64 2) 3 λt327=>c 106 #[t318,t321,t324,t327,t2] w λt329 w=>S59 w /\
 v (et .neq 3 330 t329 (i64 36864)) w λt331 w=>aO t331 (R (.tuple #[(Value.int IntKind.i32 0),t329]) w) (∃ J10:NP 1,(aH w λS62 w110=>Go.Vc.aI (t0) /\
 yf S62 139 t0 0 137 λt337=>yi S62 42 t16 (i64 0) 3 λt340=>(c 105 #[t337,t340] w110 λt341 w=>S62 w /\
 y S62 (extract t341 0) λt342=>y S62 (extract t341 1) λ_=>v (al 127) w λt36 w=>S62 w /\
 u (storeAt 127 t36 t342) w λ_ w=>S62 w /\
 J10 t36 w) /\
 (v (al 127) w110 λt36_1 w=>S62 w /\
 c 105 #[t337,t340] w λt341_1 w=>S62 w /\
 y S62 (extract t341_1 0) λt342_1=>y S62 (extract t341_1 1) λ_=>u (storeAt 127 t36_1 t342_1) w λ_ w=>S62 w /\
 J10 t36_1 w)) /\
 ∀ t36_2 w,J10 t36_2 w->∀ _f:bQ,Go.Vc.aI (t0) /\
 v (fieldAt 139 t0 3) w λt346 w=>∃ J11:NP 1,(v (et .neq 3 347 t4 (i64 1)) w λt348 w120=>aO t348 (Go.Vc.aI (t0) /\
 v (fieldAt 139 t0 4) w120 λt351 w=>J11 t351 w) (J11 t346 w120)) /\
 ∀ t38 w,J11 t38 w->∀ _f:bQ,aH w λS66 w=>yi S66 42 t16 (i64 2) 3 λt354=>Go.Vc.aI (t38) /\
 y S66 (loadAt 23 t38) λt357=>y S66 (ln 23 3 t357) λt358=>y S66 (b .sub (i64 128) t358) λt359=>y S66 (b .gtr t354 t359) λt360=>aO t360 (R (.tuple #[(Value.int IntKind.i32 0),(i64 28425)]) w) (aH w λS68 w=>Go.Vc.aI (t38) /\
 y S68 (loadAt 23 t38) λt365=>yf S68 127 t36_2 4 23 λt368=>yi S68 42 t16 (i64 1) 3 λt371=>yi S68 42 t16 (i64 1) 3 λt374=>yi S68 42 t16 (i64 2) 3 λt377=>y S68 (b .add t374 t377) λt378=>y S68 (sliceAt 23 t368 (some t371) (some t378) none) λt379=>v (buildSlice 23 0 #[]) w λt362 w=>S68 w /\
 v (Builtin.append_ #[23,23] 23 #[t362,t365]) w λt366 w=>S68 w /\
 v (Builtin.append_ #[23,23] 23 #[t366,t379]) w λt380 w=>S68 w /\
 Go.Vc.aI (t38) /\
 u (storeAt 23 t38 t380) w λ_ w=>R (.tuple #[(Value.int IntKind.i32 0),(i64 36864)]) w)))))))
def FE (t0 t1 t2 t3 t4 t5 t6:O) (w:Ω) (R:O->Ω->Prop):Prop:=
 c 67 #[t3] w λt40 w=>v (ln 37 3 t6) w λt42 w=>v (e .neq 3 (.tmp 40) (.tmp 42) t40 t42) w λt43 w=>aO t43 (R (.tuple #[(Value.int IntKind.i32 0),(i64 27013)]) w) (∃ (I1:NP 2) (μ1:NF 2),I1 bT (i64 0) w /\
 ∀ t16 t17 w4,I1 t16 t17 w4->∀ _f:bQ,v (ln 37 3 t6) w4 λt46 w=>v (b .lss t17 t46) w λt47 w6=>aO t47 (il 37 t6 t17 21 w6 λt54 w=>v (convert 21 3 t54) w λt55 w=>v (buildSlice 42 1 #[(0,t55)]) w λt56 w=>v (Builtin.append_ #[42,42] 42 #[t16,t56]) w λt57 w=>v (b .add t17 (i64 1)) w λt49 w=>I1 t57 t49 w/\μ1 t57 t49 w < μ1 t16 t17 w4) (c 102 #[t3,t4,t5,t16] w6 λt62 w=>∃ (I2:NP 1) (μ2:NF 1),I2 (i64 0) w /\
 ∀ t19 w14,I2 t19 w14->∀ _f:bQ,v (ln 50 3 t62) w14 λt65 w=>v (b .lss t19 t65) w λt66 w16=>aO t66 (il 50 t62 t19 54 w16 λt73 w=>c 61 #[t1,t73] w λ_ w=>v (b .add t19 (i64 1)) w λt68 w=>I2 t68 w/\μ2 t68 w < μ2 t19 w14) (cJ t0 t2 t3 t4 t5 t6 t16 w16 R)))
theorem rC (h:FE t0 t1 t2 t3 t4 t5 t6 w R):aC prog 69 #[t0,t1,t2,t3,t4,t5,t6] w R:=dw [l,lo [16,17],l,l,l,lo [19],l,l,l,jn [76],l,dr 0 10 1023 (tk (rg 0 6) (.only 7 (.take 8 (.take 9 .done)))),l,l,dr 0 21 2097151 (tk (rg 0 14) (.only 15 (tk (rg 16 20) .done))),l,l,dr 0 10 1023 (tk (rg 0 7) (.only 8 (.take 9 .done))),l,l,dr 0 14 16383 (tk (rg 0 6) (.two 7 11 (tk [8,9,10] (.only 11 (.only 12 (.take 13 .done)))) (.only 7 (tk [8,9,10] (.only 12 (.take 13 .done)))))),jn [23],jn [155],dr 0 13 8191 (tk (rg 0 10) (.only 11 (.take 12 .done))),l,l,dr 0 16 65535 (tk (rg 0 13) (.only 14 (.only 15 .done))),l,l,dr 0 14 16383 (tk (rg 0 6) (.two 7 11 (tk [8,9,10] (.only 11 (.only 12 (.take 13 .done)))) (.only 7 (tk [8,9,10] (.only 12 (.take 13 .done)))))),jn [26],dr 0 10 1023 (tk (rg 0 9) .done),l,jn [210],dr 0 16 65535 (tk (rg 0 13) (.only 14 (.take 15 .done))),l,l,dr 0 16 65535 (tk (rg 0 13) (.only 14 (.take 15 .done))),l,l,dr 0 14 16383 (tk (rg 0 6) (.two 7 11 (tk [8,9,10] (.only 11 (.only 12 (.take 13 .done)))) (.only 7 (tk [8,9,10] (.only 12 (.take 13 .done)))))),jn [30],dr 0 14 16383 (tk (rg 0 6) (.two 7 11 (tk [8,9,10] (.only 11 (.only 12 (.take 13 .done)))) (.only 7 (tk [8,9,10] (.only 12 (.take 13 .done)))))),jn [32],dr 0 14 16383 (tk (rg 0 13) .done),l,dr 0 12 4095 (tk (rg 0 10) (.only 11 .done)),l,l,dr 0 17 131071 (tk (rg 0 16) .done),l,l,l,dr 0 16 65535 (tk (rg 0 13) (.only 14 (.take 15 .done))),l,l,dr 0 14 16383 (tk (rg 0 6) (.two 7 11 (tk [8,9,10] (.only 11 (.only 12 (.take 13 .done)))) (.only 7 (tk [8,9,10] (.only 12 (.take 13 .done)))))),jn [36],jn [38],dr 0 9 511 (tk (rg 0 8) .done),l,l,dr 0 21 2097151 (tk ([0,2,3,4]++rg 6 18) (.only 1 (.only 5 (.only 19 (.take 20 (.last 21))))))] func69 h
def FD (t0 t1:O) (w:Ω) (R:O->Ω->Prop):Prop:=
 v (box 46 t0) w λt2 w=>v (box 70 t1) w λt3 w=>v (loadAt 46 t2) w λt5 w=>v (loadAt 70 t3) w λt6 w=>c 108 #[t5,t6] w λt7 w=>R t7 w
theorem aPs (h:FD t0 t1 w R):aC prog 70 #[t0,t1] w R:=dw [] func70 h
def FC (t0:O) (w:Ω) (R:O->Ω->Prop):Prop:=
 v (box 46 t0) w λt1 w=>fl 46 t1 0 9 w λt10 w=>c 109 #[t10] w λt11 w=>v (Op.unary UnOp.not t11) w λt12 w=>g t12 false (fieldAt 46 t1 1) w λt14 w=>g t12 false (loadAt 42 t14) w λt15 w=>gd t12 false (λK=> c 110 #[t15,(i64 8)] w K) w λt16 w=>g t12 false (Op.unary UnOp.not t16) w λt17 w=>aN t12 (.bool true) t17 λt18=>g t18 false (fieldAt 46 t1 2) w λt20 w=>g t18 false (loadAt 43 t20) w λt21 w=>g t18 false (ln 43 3 t21) w λt22 w=>g t18 false (b .gtr t22 (i64 4)) w λt23 w=>aN t18 (.bool true) t23 λt24=>g t24 false (fieldAt 46 t1 3) w λt26 w=>g t24 false (loadAt 44 t26) w λt27 w=>g t24 false (ln 44 3 t27) w λt28 w=>g t24 false (b .lss t28 (i64 1)) w λt29 w=>aN t24 (.bool true) t29 λt30=>g t30 false (fieldAt 46 t1 3) w λt32 w=>g t30 false (loadAt 44 t32) w λt33 w=>g t30 false (ln 44 3 t33) w λt34 w=>g t30 false (b .gtr t34 (i64 8)) w λt35 w=>aN t30 (.bool true) t35 λt36=>g t36 false (fieldAt 46 t1 4) w λt38 w=>g t36 false (loadAt 42 t38) w λt39 w=>g t36 false (ln 42 3 t39) w λt40 w=>g t36 false (b .gtr t40 (i64 4)) w λt41 w=>aN t36 (.bool true) t41 λt42=>aO t42 (R (.bool false) w) (∃ (I1:NP 1) (μ1:NF 1),I1 (i64 0) w /\
 ∀ t3 w31,I1 t3 w31->∀ _f:bQ,fl 46 t1 2 43 w31 λt45 w=>v (ln 43 3 t45) w λt46 w=>v (b .lss t3 t46) w λt47 w35=>aO t47 (fl 46 t1 2 43 w35 λt51 w=>il 43 t51 t3 180 w λt54 w=>st 180 t54 w λt4 w=>fl 180 t4 0 9 w λt56 w=>c 109 #[t56] w λt57 w=>v (Op.unary UnOp.not t57) w λt58 w=>g t58 false (fieldAt 180 t4 1) w λt60 w=>g t58 false (loadAt 3 t60) w λt61 w=>g t58 false (b .lss t61 (i64 0)) w λt62 w=>aN t58 (.bool true) t62 λt63=>g t63 false (fieldAt 180 t4 1) w λt65 w=>g t63 false (loadAt 3 t65) w λt66 w=>g t63 false (b .geq t66 (i64 4)) w λt67 w=>aN t63 (.bool true) t67 λt68=>g t68 false (fieldAt 180 t4 2) w λt70 w=>g t68 false (loadAt 42 t70) w λt71 w=>gd t68 false (λK=> c 110 #[t71,(i64 4)] w K) w λt72 w=>g t68 false (Op.unary UnOp.not t72) w λt73 w=>aN t68 (.bool true) t73 λt74=>g t74 false (fieldAt 180 t4 3) w λt76 w=>g t74 false (loadAt 3 t76) w λt77 w=>g t74 false (b .lss t77 (i64 0)) w λt78 w=>aN t74 (.bool true) t78 λt79=>g t79 false (fieldAt 180 t4 3) w λt81 w=>g t79 false (loadAt 3 t81) w λt82 w=>g t79 false (b .gtr t82 (i64 4)) w λt83 w=>aN t79 (.bool true) t83 λt84=>aO t84 (R (.bool false) w) (v (b .add t3 (i64 1)) w λt49 w=>I1 t49 w/\μ1 t49 w < μ1 t3 w31)) (∃ (I2:NP 1) (μ2:NF 1),I2 (i64 0) w35 /\
 ∀ t5 w68,I2 t5 w68->∀ _f:bQ,fl 46 t1 3 44 w68 λt87 w=>v (ln 44 3 t87) w λt88 w=>v (b .lss t5 t88) w λt89 w72=>aO t89 (fl 46 t1 3 44 w72 λt93 w=>il 44 t93 t5 74 w λt96 w=>st 74 t96 w λt6 w=>fl 74 t6 0 42 w λt98 w=>c 110 #[t98,(i64 4)] w λt99 w=>v (Op.unary UnOp.not t99) w λt100 w=>g t100 false (fieldAt 74 t6 1) w λt102 w=>g t100 false (loadAt 3 t102) w λt103 w=>g t100 false (b .lss t103 (i64 0)) w λt104 w=>aN t100 (.bool true) t104 λt105=>g t105 false (fieldAt 74 t6 1) w λt107 w=>g t105 false (loadAt 3 t107) w λt108 w=>g t105 false (b .gtr t108 (i64 4)) w λt109 w=>aN t105 (.bool true) t109 λt110=>g t110 false (fieldAt 74 t6 2) w λt112 w=>g t110 false (loadAt 42 t112) w λt113 w=>g t110 false (fieldAt 74 t6 0) w λt114 w=>g t110 false (loadAt 42 t114) w λt115 w=>g t110 false (ln 42 3 t115) w λt116 w=>g t110 false (b .sub (i64 10) t116) w λt117 w=>gd t110 false (λK=> c 110 #[t113,t117] w K) w λt118 w=>g t110 false (Op.unary UnOp.not t118) w λt119 w=>aN t110 (.bool true) t119 λt120=>g t120 false (fieldAt 74 t6 3) w λt122 w=>g t120 false (loadAt 71 t122) w λt123 w=>g t120 false (ln 71 3 t123) w λt124 w=>g t120 false (b .lss t124 (i64 1)) w λt125 w=>aN t120 (.bool true) t125 λt126=>g t126 false (fieldAt 74 t6 3) w λt128 w=>g t126 false (loadAt 71 t128) w λt129 w=>g t126 false (ln 71 3 t129) w λt130 w=>g t126 false (b .gtr t130 (i64 120)) w λt131 w=>aN t126 (.bool true) t131 λt132=>aO t132 (R (.bool false) w) (∃ (I3:NP 1) (μ3:NF 1),I3 (i64 0) w /\
 ∀ t7 w110,I3 t7 w110->∀ _f:bQ,fl 74 t6 3 71 w110 λt135 w=>v (ln 71 3 t135) w λt136 w=>v (b .lss t7 t136) w λt137 w114=>aO t137 (fl 74 t6 3 71 w114 λt141 w=>il 71 t141 t7 70 w λt144 w=>c 111 #[t144] w λt145 w=>v (Op.unary UnOp.not t145) w λt146 w=>aO t146 (R (.bool false) w) (v (b .add t7 (i64 1)) w λt139 w=>I3 t139 w/\μ3 t139 w < μ3 t7 w110)) (v (b .add t5 (i64 1)) w114 λt91 w=>I2 t91 w/\μ2 t91 w < μ2 t5 w68))) (∃ (I4:NP 1) (μ4:NF 1),I4 (i64 0) w72 /\
 ∀ t8 w123,I4 t8 w123->∀ _f:bQ,fl 46 t1 4 42 w123 λt149 w=>v (ln 42 3 t149) w λt150 w=>v (b .lss t8 t150) w λt151 w127=>aO t151 (aH w127 λS23 w=>yf S23 46 t1 4 42 λt155=>yi S23 42 t155 t8 3 λt158=>y S23 (b .lss t158 (i64 0)) λt159=>gy t159 false S23 (fieldAt 46 t1 4) λt161=>gy t159 false S23 (loadAt 42 t161) λt162=>gx t159 false t8 λt163=>gy t159 false S23 (indexAt 42 t162 t163) λt164=>gy t159 false S23 (loadAt 3 t164) λt165=>gy t159 false S23 (fieldAt 46 t1 3) λt166=>gy t159 false S23 (loadAt 44 t166) λt167=>gy t159 false S23 (ln 44 3 t167) λt168=>gy t159 false S23 (b .geq t165 t168) λt169=>aN t159 (.bool true) t169 λt170=>aO t170 (R (.bool false) w) (v (b .add t8 (i64 1)) w λt153 w=>I4 t153 w/\μ4 t153 w < μ4 t8 w123)) (fl 46 t1 3 44 w127 λt172 w=>jl 44 t172 (i64 0) 74 0 42 w λt175 w=>v (ln 42 3 t175) w λt176 w=>v (et .eql 3 176 t176 (i64 0)) w λt177 w=>g t177 true (fieldAt 46 t1 3) w λt179 w=>g t177 true (loadAt 44 t179) w λt180 w=>g t177 true (indexAt 44 t180 (i64 0)) w λt181 w=>g t177 true (fieldAt 74 t181 1) w λt182 w=>g t177 true (loadAt 3 t182) w λt183 w=>g t177 true (et .eql 3 183 t183 (i64 0)) w λt184 w=>aN t177 t184 (.bool false) λt185=>R t185 w))))
theorem aPr (h:FC t0 w R):aC prog 71 #[t0] w R:=dw [l,lo [3],l,l,l,lo [5],l,l,lo [7],l,l,l,l,lo [8],l,dr 0 17 131071 (tk (rg 0 16) .done)] func71 h
def SV (t0 t1:O) (w:Ω) (R:O->Ω->Prop):Prop:=
 v (box 46 t0) w λt2 w=>fl 46 t2 3 44 w λt22 w=>il 44 t22 t1 74 w λt25 w=>st 74 t25 w λt8 w=>∃ (I1:NP 1) (μ1:NF 1),I1 (i64 0) w /\
 ∀ t9 w8,I1 t9 w8->∀ _f:bQ,fl 74 t8 3 71 w8 λt28 w=>v (ln 71 3 t28) w λt29 w=>v (b .lss t9 t29) w λt30 w12=>aO t30 (aH w12 λS5 w=>y S5 (loadAt 46 t2) λt33=>y S5 (loadAt 74 t8) λt34=>yf S5 74 t8 3 71 λt36=>yi S5 71 t36 t9 70 λt39=>c 112 #[t33,t34,t39] w λt40 w=>S5 w /\
 y S5 (Op.unary UnOp.not t40) λt41=>aO t41 (R (.tuple #[bT,bT,t9,(i64 9)]) w) (v (b .add t9 (i64 1)) w λt32 w=>I1 t32 w/\μ1 t32 w < μ1 t9 w8)) (fl 74 t8 3 71 w12 λt44 w=>v (ln 71 3 t44) w λt45 w=>v (makeSlice 116 t45 t45) w λt46 w=>fl 74 t8 3 71 w λt48 w=>v (ln 71 3 t48) w λt49 w=>v (makeSlice 117 t49 t49) w λt50 w=>fl 74 t8 3 71 w λt52 w=>v (ln 71 3 t52) w λt53 w=>v (makeSlice 117 t53 t53) w λt54 w=>v (indexAt 117 t50 (i64 0)) w λt56 w=>u (storeAt 4 t56 (.bool true)) w λ_ w=>v (indexAt 117 t54 (i64 0)) w λt58 w=>u (storeAt 4 t58 (.bool true)) w λ_ w=>∃ (I2:NP 0) (μ2:NF 0),I2 w /\
 ∀ w32:Ω,I2 w32->∀ _f:bQ,∃ (I3:NP 1) (μ3:NF 1),I3 (i64 0) w32 /\
 ∀ t13 w33,I3 t13 w33->∀ _f:bQ,v (ln 117 3 t54) w33 λt61 w=>v (b .lss t13 t61) w λt62 w=>gk t62 true t54 w λt64 w=>gk t62 true t13 w λt65 w=>g t62 true (indexAt 117 t64 t65) w λt66 w=>g t62 true (loadAt 4 t66) w λt67 w=>g t62 true (Op.unary UnOp.not t67) w λt68 w40=>aN t62 t68 (.bool false) λt69=>aO t69 (v (b .add t13 (i64 1)) w40 λt71 w=>I3 t71 w/\μ3 t71 w < μ3 t13 w33) (v (ln 117 3 t54) w40 λt74 w=>v (e .eql 3 (.tmp 72) (.tmp 74) t13 t74) w λt75 w=>aO t75 (R (.tuple #[t46,t50,(i64 0),(i64 0)]) w) (v (indexAt 117 t54 t13) w λt80 w=>u (storeAt 4 t80 (.bool false)) w λ_ w=>aH w λS18 w=>y S18 (loadAt 46 t2) λt82=>y S18 (loadAt 74 t8) λt83=>yf S18 74 t8 3 71 λt85=>yi S18 71 t85 t13 70 λt88=>yi S18 116 t46 t13 42 λt92=>c 113 #[t82,t83,t88,t92] w λt93 w=>S18 w /\
 y S18 (extract t93 0) λt94=>y S18 (extract t93 1) λt95=>v (et .neq 34 96 t95 (i64 0)) w λt97 w=>aO t97 (R (.tuple #[bT,bT,t13,t95]) w) (fl 74 t8 3 71 w λt101 w=>il 71 t101 t13 70 w λt104 w=>c 114 #[t104,t13] w λt106 w=>∃ (I4:NP 1) (μ4:NF 1),I4 (i64 0) w /\
 ∀ t17 w55,I4 t17 w55->∀ _f:bQ,v (ln 42 3 t106) w55 λt109 w=>v (b .lss t17 t109) w λt110 w57=>aO t110 (il 42 t106 t17 3 w57 λt116 w=>fl 74 t8 3 71 w λt119 w=>v (ln 71 3 t119) w λt120 w=>v (b .geq t116 t120) w λt121 w=>aO t121 (R (.tuple #[bT,bT,t13,(i64 13)]) w) (il 117 t50 t116 4 w λt126 w=>v (Op.unary UnOp.not t126) w λt127 w66=>aO t127 (v (indexAt 116 t46 t116) w66 λt131 w=>u (storeAt 42 t131 t94) w λ_ w=>v (indexAt 117 t50 t116) w λt134 w=>u (storeAt 4 t134 (.bool true)) w λ_ w=>v (indexAt 117 t54 t116) w λt137 w=>u (storeAt 4 t137 (.bool true)) w λ_ w=>v (b .add t17 (i64 1)) w λt112 w=>I4 t112 w/\μ4 t112 w < μ4 t17 w55) (il 116 t46 t116 42 w66 λt142 w=>c 115 #[t142,t94] w λt144 w=>x2 t144 w λt145 t146 w=>v (Op.unary UnOp.not t146) w λt148 w=>aO t148 (R (.tuple #[bT,bT,t13,(i64 14)]) w) (il 116 t46 t116 42 w λt154 w=>c 116 #[t145,t154] w λt155 w=>v (Op.unary UnOp.not t155) w λt156 w83=>aO t156 (v (indexAt 116 t46 t116) w83 λt160 w=>u (storeAt 42 t160 t145) w λ_ w=>v (indexAt 117 t54 t116) w λt163 w=>u (storeAt 4 t163 (.bool true)) w λ_ w=>v (b .add t17 (i64 1)) w λt112_1 w=>I4 t112_1 w/\μ4 t112_1 w < μ4 t17 w55) (v (b .add t17 (i64 1)) w83 λt112_2 w=>I4 t112_2 w/\μ4 t112_2 w < μ4 t17 w55))))) (I2 w57/\μ2 w57 < μ2 w32)))))
theorem aPq (h:SV t0 t1 w R):aC prog 72 #[t0,t1] w R:=dw [lo [9],l,dr 0 9 511 (tk (rg 0 6) (.only 7 (.take 8 .done))),l,l,l,lo [],lo [13],l,l,l,dr 0 17 131071 (tk (rg 0 10) (.only 11 (tk (rg 12 16) .done))),l,l,lo [17]] func72 h
def SU (t0:O) (w:Ω) (R:O->Ω->Prop):Prop:=
 v (b .lss t0 (i64 64)) w λt5 w=>gk t5 false t0 w λt7 w=>g t5 false (b .gtr t7 (i64 4096)) w λt8 w=>aN t5 (.bool true) t8 λt9=>aO t9 (R (.tuple #[(Value.pointer none),(i64 1)]) w) (v (build 127 #[(0,(i64 (-1))),(1,(i64 3))]) w λt11 w=>v (build 127 #[(0,(i64 (-1))),(1,(i64 4))]) w λt12 w=>v (buildSlice 154 2 #[(0,t11),(1,t12)]) w λt13 w=>v (build 193 #[(0,t0),(1,t13)]) w λt14 w=>v (box 193 t14) w λt15 w=>R (.tuple #[t15,(i64 0)]) w)
theorem aPp (h:SU t0 w R):aC prog 73 #[t0] w R:=dw [] func73 h
def FB (t0:O) (w:Ω) (R:O->Ω->Prop):Prop:=
 v (box 46 t0) w λt1 w=>v (al 46) w λt2 w=>aH w λS1 w=>yf S1 46 t1 1 42 λt7=>yf S1 46 t1 4 42 λt10=>c 122 #[t7] w λt8 w=>S1 w /\
 y S1 (fieldAt 46 t1 1) λt12=>c 122 #[t10] w λt11 w=>S1 w /\
 u (storeAt 42 t12 t8) w λ_ w=>ZS w λS1_7=>y S1_7 (fieldAt 46 t1 4) λt13=>u (storeAt 42 t13 t11) w λ_ w=>aH w λS2 w=>yf S2 46 t1 2 43 λt15=>yf S2 46 t1 3 44 λt18=>c 123 #[t15] w λt16 w=>S2 w /\
 y S2 (fieldAt 46 t1 2) λt20=>c 124 #[t18] w λt19 w=>S2 w /\
 u (storeAt 43 t20 t16) w λ_ w=>ZS w λS2_13=>y S2_13 (fieldAt 46 t1 3) λt21=>u (storeAt 44 t21 t19) w λ_ w=>fl 46 t1 2 43 w λt23 w=>v (ln 43 3 t23) w λt24 w=>∃ (I1:NP 1) (μ1:NF 1),I1 (i64 0) w /\
 ∀ t25 w18,I1 t25 w18->∀ _f:bQ,v (b .lss t25 t24) w18 λt26 w19=>aO t26 (aH w19 λS6 w=>yf S6 46 t1 2 43 λt29=>yf S6 46 t1 2 43 λt32=>y S6 (indexAt 43 t32 t25) λt34=>yf S6 180 t34 2 42 λt36=>c 122 #[t36] w λt37 w=>S6 w /\
 y S6 (indexAt 43 t29 t25) λt38=>y S6 (fieldAt 180 t38 2) λt39=>u (storeAt 42 t39 t37) w λ_ w=>v (b .add t25 (i64 1)) w λt40 w=>I1 t40 w/\μ1 t40 w < μ1 t25 w18) (fl 46 t1 3 44 w19 λt42 w=>v (ln 44 3 t42) w λt43 w=>∃ (I2:NP 1) (μ2:NF 1),I2 (i64 0) w /\
 ∀ t44 w27,I2 t44 w27->∀ _f:bQ,v (b .lss t44 t43) w27 λt45 w28=>aO t45 (fl 46 t1 3 44 w28 λt48 w=>v (indexAt 44 t48 t44) w λt50 w=>aH w λS12 w=>Go.Vc.aI (t50) /\
 yf S12 74 t50 0 42 λt57=>Go.Vc.aI (t50) /\
 yf S12 74 t50 2 42 λt62=>Go.Vc.aI (t50) /\
 yf S12 74 t50 3 71 λt67=>c 122 #[t57] w λt58 w=>S12 w /\
 c 122 #[t62] w λt63 w=>S12 w /\
 c 125 #[t67] w λt68 w=>S12 w /\
 Go.Vc.aI (t50) /\
 y S12 (fieldAt 74 t50 0) λt70=>u (storeAt 42 t70 t58) w λ_ w=>ZS w λS12_37=>Go.Vc.aI (t50) /\
 y S12_37 (fieldAt 74 t50 2) λt72=>u (storeAt 42 t72 t63) w λ_ w=>ZS w λS12_39=>Go.Vc.aI (t50) /\
 y S12_39 (fieldAt 74 t50 3) λt74=>u (storeAt 71 t74 t68) w λ_ w=>v (b .add t44 (i64 1)) w λt75 w=>I2 t75 w/\μ2 t75 w < μ2 t44 w27) (v (loadAt 46 t1) w28 λt76 w=>u (storeAt 46 t2 t76) w λ_ w=>lv 46 t2 w λr1=> R r1 w))
theorem aPo (h:FB t0 w R):aC prog 78 #[t0] w R:=dw [dr 0 7 127 (tk [0,1,3,4] (.only 2 (.take 6 (.only 5 (.cut 7 9 511 (.take 8 (.last 9))))))),l,dr 0 7 127 (tk [0,1,3,4] (.only 2 (.take 6 (.only 5 (.cut 7 9 511 (.take 8 (.last 9))))))),l,lo [25],l,dr 36 12 4095 (tk (rg 0 8) (.only 9 (.take 10 (.take 11 (.last 12))))),l,l,lo [44],l,dr 8463 20 1048575 (tk (rg 0 6++rg 8 11++rg 13 16) (.only 7 (.only 12 (.only 17 (.take 18 (.take 19 (.cut 20 23 8388607 (.take 21 (.take 22 (.cut 23 26 67108863 (.take 24 (.take 25 (.last 26)))))))))))))] func78 h
def SS (t0:O) (w:Ω) (R:O->Ω->Prop):Prop:=
 v (build 249 #[(0,(Value.string { data:=#[97,108,112,104,97] })),(1,(Value.string { data:=#[98,195,169,116,97] })),(2,(Value.string { data:=#[103,45,49] })),(3,(Value.string { data:=#[100,46,195,191] }))]) w λt3 w=>c 11 #[t0,(i64 4)] w λt5 w=>v (index 249 t3 t5) w λt6 w=>R t6 w
theorem aPn (h:SS t0 w R):aC prog 83 #[t0] w R:=dw [] func83 h
def EZ (t0 t1 t2 t3:O) (w:Ω) (R:O->Ω->Prop):Prop:=
 v (box 74 t1) w λt5 w=>aH w λS1 w=>yf S1 74 t5 0 42 λt17=>yf S1 74 t5 2 42 λt20=>v (buildSlice 42 0 #[]) w λt15 w=>S1 w /\
 v (Builtin.append_ #[42,42] 42 #[t15,t17]) w λt18 w=>S1 w /\
 v (Builtin.append_ #[42,42] 42 #[t18,t20]) w λt21 w=>S1 w /\
 y S1 (build 252 #[(3,t21)]) λt22=>v (box 252 t22) w λt23 w=>S1 w /\
 ∃ (I1:NP 1) (μ1:NF 1),I1 (i64 0) w /\
 ∀ t10 w7,I1 t10 w7->∀ _f:bQ,v (ln 99 3 t0) w7 λt26 w=>v (b .lss t10 t26) w λt27 w9=>aO t27 (aH w9 λS5 w=>Go.Vc.aI (t23) /\
 yf S5 252 t23 1 42 λt34=>y S5 (indexAt 99 t0 t10) λt37=>yf S5 254 t37 1 3 λt39=>y S5 (indexAt 99 t0 t10) λt42=>yf S5 254 t42 2 3 λt44=>y S5 (indexAt 99 t0 t10) λt47=>yf S5 254 t47 3 3 λt49=>v (buildSlice 42 3 #[(0,t39),(1,t44),(2,t49)]) w λt50 w=>S5 w /\
 v (Builtin.append_ #[42,42] 42 #[t34,t50]) w λt51 w=>S5 w /\
 Go.Vc.aI (t23) /\
 y S5 (fieldAt 252 t23 1) λt53=>u (storeAt 42 t53 t51) w λ_ w=>v (b .add t10 (i64 1)) w λt29 w=>I1 t29 w/\μ1 t29 w < μ1 t10 w7) (∃ (I2:NP 2) (μ2:NF 2),I2 bT (i64 0) w9 /\
 ∀ t11 t12 w15,I2 t11 t12 w15->∀ _f:bQ,v (ln 99 3 t0) w15 λt56 w=>v (b .lss t12 t56) w λt57 w=>gk t57 true t12 w λt59 w=>g t57 true (b .lss t59 (i64 12)) w λt60 w=>aN t57 t60 (.bool false) λt61=>gk t61 true t23 w λt63 w=>gd t61 true (λK=> (Go.Vc.aI (t63)/\K (t63) w)) w λt64 w=>g t61 true (fieldAt 252 t64 0) w λt65 w=>g t61 true (loadAt 71 t65) w λt66 w=>g t61 true (ln 71 3 t66) w λt67 w=>g t61 true (b .lss t67 (i64 70)) w λt68 w26=>aN t61 t68 (.bool false) λt69=>aO t69 (Go.Vc.aI (t23) /\
 fl 252 t23 0 71 w26 λt76 w=>v (ln 71 3 t76) w λt77 w=>v (buildSlice 42 1 #[(0,t77)]) w λt78 w=>v (Builtin.append_ #[42,42] 42 #[t11,t78]) w λt79 w=>aH w λS11 w=>yi S11 99 t0 t12 254 λt84=>y S11 (sliceAt 42 t79 none (some t12) none) λt87=>c 130 #[t23,t84,t87,t2,t3] w λ_ w=>v (b .add t12 (i64 1)) w λt71 w=>I2 t79 t71 w/\μ2 t79 t71 w < μ2 t11 t12 w15) (Go.Vc.aI (t23) /\
 fl 252 t23 0 71 w26 λt95 w=>v (ln 71 3 t95) w λt96 w=>v (buildSlice 42 1 #[(0,t96)]) w λt97 w=>v (Builtin.append_ #[42,42] 42 #[t11,t97]) w λt98 w=>∃ (I3:NP 1) (μ3:NF 1),I3 (i64 0) w /\
 ∀ t13 w43,I3 t13 w43->∀ _f:bQ,Go.Vc.aI (t23) /\
 fl 252 t23 0 71 w43 λt103 w=>v (ln 71 3 t103) w λt104 w=>v (b .lss t13 t104) w λt105 w48=>aO t105 (Go.Vc.aI (t23) /\
 fl 252 t23 0 71 w48 λt111 w=>jl 71 t111 t13 70 0 3 w λt115 w=>v (et .eql 3 115 t115 (i64 24)) w λt116 w=>gk t116 true t23 w λt118 w=>gd t116 true (λK=> (Go.Vc.aI (t118)/\K (t118) w)) w λt119 w=>g t116 true (fieldAt 252 t119 0) w λt120 w=>g t116 true (loadAt 71 t120) w λt121 w=>gk t116 true t13 w λt122 w=>g t116 true (indexAt 71 t121 t122) w λt123 w=>g t116 true (fieldAt 70 t123 1) w λt124 w=>g t116 true (loadAt 3 t124) w λt125 w=>g t116 true (b .lss t125 (i64 0)) w λt126 w64=>aN t116 t126 (.bool false) λt127=>aO t127 (∃ (I4:NP 1) (μ4:NF 1),I4 (i64 0) w64 /\
 ∀ t14 w66,I4 t14 w66->∀ _f:bQ,v (ln 42 3 t98) w66 λt130 w=>v (b .sub t130 (i64 1)) w λt131 w=>v (b .lss t14 t131) w λt132 w=>gk t132 true t98 w λt134 w=>gk t132 true t14 w λt135 w=>g t132 true (indexAt 42 t134 t135) w λt136 w=>g t132 true (loadAt 3 t136) w λt137 w=>gk t132 true t13 w λt138 w=>g t132 true (b .leq t137 t138) w λt139 w75=>aN t132 t139 (.bool false) λt140=>aO t140 (v (b .add t14 (i64 1)) w75 λt142 w=>I4 t142 w/\μ4 t142 w < μ4 t14 w66) (aH w75 λS20 w=>Go.Vc.aI (t23) /\
 yf S20 252 t23 0 71 λt146=>y S20 (ln 42 3 t98) λt150=>y S20 (b .sub t150 (i64 1)) λt151=>y S20 (b .add t14 (i64 1)) λt153=>y S20 (Builtin.min_ #[3,3] 3 #[t151,t153]) λt154=>yi S20 42 t98 t154 3 λt156=>y S20 (indexAt 71 t146 t13) λt157=>y S20 (fieldAt 70 t157 1) λt158=>u (storeAt 3 t158 t156) w λ_ w=>v (b .add t13 (i64 1)) w λt107 w=>I3 t107 w/\μ3 t107 w < μ3 t13 w43)) (v (b .add t13 (i64 1)) w64 λt107_1 w=>I3 t107_1 w/\μ3 t107_1 w < μ3 t13 w43)) (∃ J5:NP 0,(fl 74 t5 1 3 w48 λt160 w=>v (et .neq 3 160 t160 (i64 0)) w λt161 w84=>aO t161 (fl 74 t5 1 3 w84 λt164 w=>c 131 #[t23,t164] w λ_ w=>J5 w) (J5 w84)) /\
 ∀ w:Ω,J5 w->∀ _f:bQ,c 132 #[t23,(i64 39),(i64 0),(i64 0)] w λ_ w=>Go.Vc.aI (t23) /\
 fl 252 t23 0 71 w λt171 w=>v (ln 71 3 t171) w λt172 w=>v (b .gtr t172 (i64 120)) w λt173 w94=>aO t173 (v (build 70 #[(0,(i64 39))]) w94 λt175 w=>v (buildSlice 71 1 #[(0,t175)]) w λt176 w=>Go.Vc.aI (t23) /\
 v (fieldAt 252 t23 0) w λt178 w=>u (storeAt 71 t178 t176) w λ_ w=>fl 74 t5 1 3 w λt180 w=>v (et .neq 3 180 t180 (i64 0)) w λt181 w102=>aO t181 (v (build 70 #[(0,(i64 1))]) w102 λt183 w=>v (build 70 #[(0,(i64 39))]) w λt184 w=>v (buildSlice 71 2 #[(0,t183),(1,t184)]) w λt185 w=>Go.Vc.aI (t23) /\
 v (fieldAt 252 t23 0) w λt187 w=>u (storeAt 71 t187 t185) w λ_ w=>Go.Vc.aI (t23) /\
 fl 252 t23 0 71 w λt191 w=>R t191 w) (Go.Vc.aI (t23) /\
 fl 252 t23 0 71 w102 λt191_1 w=>R t191_1 w)) (Go.Vc.aI (t23) /\
 fl 252 t23 0 71 w94 λt191_2 w=>R t191_2 w))))
theorem aCe (h:EZ t0 t1 t2 t3 w R):aC prog 84 #[t0,t1,t2,t3] w R:=dw [dr 0 10 1023 (tk [1,2,4,5] (.only 0 (.only 3 (.only 6 (.take 7 (.only 8 (.take 9 .done))))))),l,lo [10],l,dr 0 24 16777215 (tk (rg 0 19) (.only 20 (.only 21 (.take 22 (.take 23 (.last 24)))))),l,l,lo [11,12],l,dr 0 10 1023 (tk (rg 0 9) (.last 10)),l,l,lo [13],l,lo [14],l,l,dr 0 16 65535 (tk (rg 0 15) (.last 16)),l,l,jn []] func84 h
def SR (t0:O) (w:Ω) (R:O->Ω->Prop):Prop:=
 v (build 127 #[(0,(i64 (-1))),(1,(i64 3))]) w λt4 w=>v (build 127 #[(0,(i64 (-1))),(1,(i64 4))]) w λt5 w=>v (buildSlice 154 2 #[(0,t4),(1,t5)]) w λt6 w=>v (build 156 #[(0,t0),(1,t6)]) w λt7 w=>v (box 156 t7) w λt8 w=>R t8 w
theorem aPm (h:SR t0 w R):aC prog 85 #[t0] w R:=dw [] func85 h
def EY (t0 t1 t2:O) (w:Ω) (R:O->Ω->Prop):Prop:=
 v (et .neq 3 7 t1 (i64 1)) w λt8 w=>gk t8 true t1 w λt10 w=>g t8 true (et .neq 3 10 t10 (i64 2)) w λt11 w=>aN t8 t11 (.bool false) λt12=>gk t12 false t2 w λt14 w=>g t12 false (ln 23 3 t14) w λt15 w=>g t12 false (b .gtr t15 (i64 64)) w λt16 w=>aN t12 (.bool true) t16 λt17=>aO t17 (R (.bool false) w) (c 97 #[t0,t1] w λt20 w=>c 58 #[t2] w λt22 w=>Go.Vc.aI (t20) /\
 v (fieldAt 127 t20 4) w λt24 w=>u (storeAt 23 t24 t22) w λ_ w=>R (.bool true) w)
theorem aPl (h:EY t0 t1 t2 w R):aC prog 86 #[t0,t1,t2] w R:=dw [] func86 h
def SQ (t0 t1 t2:O) (w:Ω) (R:O->Ω->Prop):Prop:=
 v (b .lss t1 (i64 1)) w λt9 w=>gk t9 false t1 w λt11 w=>g t9 false (b .gtr t11 (i64 2)) w λt12 w=>aN t9 (.bool true) t12 λt13=>gk t13 false t2 w λt15 w=>g t13 false (ln 23 3 t15) w λt16 w=>g t13 false (b .gtr t16 (i64 64)) w λt17 w=>aN t13 (.bool true) t17 λt18=>aO t18 (R (.bool false) w) (v (buildSlice 154 0 #[]) w λt19 w=>Go.Vc.aI (t0) /\
 fl 156 t0 1 154 w λt23 w=>v (Builtin.append_ #[154,154] 154 #[t19,t23]) w λt24 w=>v (b .sub t1 (i64 1)) w λt27 w=>v (buildSlice 23 0 #[]) w λt28 w=>v (Builtin.append_ #[23,23] 23 #[t28,t2]) w λt30 w=>v (indexAt 154 t24 t27) w λt31 w=>v (fieldAt 127 t31 4) w λt32 w=>u (storeAt 23 t32 t30) w λ_ w=>Go.Vc.aI (t0) /\
 v (fieldAt 156 t0 1) w λt36 w=>u (storeAt 154 t36 t24) w λ_ w=>R (.bool true) w)
theorem aPk (h:SQ t0 t1 t2 w R):aC prog 87 #[t0,t1,t2] w R:=dw [] func87 h
def SP (t0 t1:O) (w:Ω) (R:O->Ω->Prop):Prop:=
 v (al 46) w λt4 w=>v (b .lss t1 (i64 0)) w λt7 w=>gk t7 false t1 w λt9 w=>gk t7 false t0 w λt10 w=>gd t7 false (λK=> (Go.Vc.aI (t10)/\K (t10) w)) w λt11 w=>g t7 false (fieldAt 134 t11 1) w λt12 w=>g t7 false (loadAt 24 t12) w λt13 w=>g t7 false (ln 24 3 t13) w λt14 w=>g t7 false (b .geq t9 t14) w λt15 w9=>aN t7 (.bool true) t15 λt16=>aO t16 (v (build 46 #[]) w9 λt17 w=>u (storeAt 46 t4 t17) w λ_ w=>lv 46 t4 w λr1=> R (.tuple #[r1,(.bool false)]) w) (Go.Vc.aI (t0) /\
 fl 134 t0 1 24 w9 λt21 w=>il 24 t21 t1 46 w λt24 w=>c 78 #[t24] w λt25 w=>u (storeAt 46 t4 t25) w λ_ w=>lv 46 t4 w λr1=> R (.tuple #[r1,(.bool true)]) w)
theorem aPj (h:SP t0 t1 w R):aC prog 88 #[t0,t1] w R:=dw [] func88 h
def SO (t0 t1 t2 t3:O) (w:Ω) (R:O->Ω->Prop):Prop:=
 Go.Vc.aI (t0) /\
 fl 109 t0 0 26 w λt16 w=>c 88 #[t16,t2] w λt18 w=>x2 t18 w λt19 _ w=>st 46 t19 w λt9 w=>fl 46 t9 3 44 w λt23 w=>jl 44 t23 t3 74 0 42 w λt27 w=>v (ln 42 3 t27) w λt28 w=>c 91 #[t1,t28] w λt29 w=>Go.Vc.aI (t0) /\
 fl 109 t0 2 107 w λt33 w=>v (ln 107 3 t33) w λt34 w=>v (b .geq t34 (i64 8)) w λt35 w=>aO t35 (R (i64 28422) w) (Go.Vc.aI (t1) /\
 fl 114 t1 2 3 w λt39 w=>v (b .add t39 (i64 1)) w λt40 w=>Go.Vc.aI (t1) /\
 v (fieldAt 114 t1 2) w λt42 w=>u (storeAt 3 t42 t40) w λ_ w=>c 47 #[t0,t2,t3,t29] w λ_ w=>R (i64 36864) w)
theorem aPi (h:SO t0 t1 t2 t3 w R):aC prog 89 #[t0,t1,t2,t3] w R:=dw [] func89 h
def SN (t0 t1 t2:O) (w:Ω) (R:O->Ω->Prop):Prop:=
 Go.Vc.aI (t0) /\
 fl 134 t0 1 24 w λt12 w=>c 133 #[t12,t1,t2] w λt15 w=>x3 t15 w λt16 t17 t18 w=>R (.tuple #[t16,t17,t18]) w
theorem aPh (h:SN t0 t1 t2 w R):aC prog 90 #[t0,t1,t2] w R:=dw [] func90 h
def SM (t0 t1:O) (w:Ω) (R:O->Ω->Prop):Prop:=
 Go.Vc.aI (t0) /\
 fl 114 t0 5 37 w λt10 w=>v (ln 37 3 t10) w λt11 w=>v (b .sub t11 t1) w λt13 w=>Go.Vc.aI (t0) /\
 fl 114 t0 5 37 w λt17 w=>v (sliceAt 37 t17 (some t13) none none) w λt19 w=>c 49 #[t19] w λt20 w=>Go.Vc.aI (t0) /\
 fl 114 t0 5 37 w λt25 w=>v (sliceAt 37 t25 none (some t13) none) w λt27 w=>Go.Vc.aI (t0) /\
 v (fieldAt 114 t0 5) w λt29 w=>u (storeAt 37 t29 t27) w λ_ w=>R t20 w
theorem aPg (h:SM t0 t1 w R):aC prog 91 #[t0,t1] w R:=dw [] func91 h
def SL (t0 t1 t2:O) (w:Ω) (R:O->Ω->Prop):Prop:=
 v (al 180) w λt6 w=>aH w λS1 w2=>Go.Vc.aI (t0) /\
 yf S1 109 t0 0 26 λt13=>Go.Vc.aI (t1) /\
 yf S1 114 t1 0 3 λt17=>(c 88 #[t13,t17] w2 λt18 w=>S1 w /\
 y S1 (extract t18 0) λt19=>y S1 (extract t18 1) λ_=>v (al 46) w λt7 w=>S1 w /\
 u (storeAt 46 t7 t19) w λ_ w=>S1 w /\
 fl 46 t7 2 43 w λt22 w=>il 43 t22 t2 180 w λt25 w=>u (storeAt 180 t6 t25) w λ_ w=>lv 180 t6 w λr1=> R r1 w) /\
 (v (al 46) w2 λt7_1 w=>S1 w /\
 c 88 #[t13,t17] w λt18_1 w=>S1 w /\
 y S1 (extract t18_1 0) λt19_1=>y S1 (extract t18_1 1) λ_=>u (storeAt 46 t7_1 t19_1) w λ_ w=>S1 w /\
 fl 46 t7_1 2 43 w λt22_1 w=>il 43 t22_1 t2 180 w λt25_1 w=>u (storeAt 180 t6 t25_1) w λ_ w=>lv 180 t6 w λr1=> R r1 w)
theorem aPf (h:SL t0 t1 t2 w R):aC prog 92 #[t0,t1,t2] w R:=dw [dr 0 15 32767 (tk (rg 0 7) (.two 8 12 (tk [9,10,11] (.only 12 (.only 13 (.take 14 .done)))) (.only 8 (tk [9,10,11] (.only 13 (.take 14 .done))))))] func92 h
def EX (t0 t1:O) (w:Ω) (R:O->Ω->Prop):Prop:=
 aH w λS0 w=>Go.Vc.aI (t0) /\
 yf S0 109 t0 2 107 λt8=>Go.Vc.aI (t0) /\
 yf S0 109 t0 2 107 λt12=>y S0 (ln 107 3 t12) λt13=>y S0 (b .sub t13 (i64 1)) λt14=>y S0 (sliceAt 107 t8 none (some t14) none) λt15=>Go.Vc.aI (t0) /\
 y S0 (fieldAt 109 t0 2) λt17=>u (storeAt 107 t17 t15) w λ_ w=>Go.Vc.aI (t0) /\
 fl 109 t0 2 107 w λt21 w=>v (ln 107 3 t21) w λt22 w=>v (et .eql 3 22 t22 (i64 0)) w λt23 w7=>aO t23 (c 51 #[t0,(i64 36864)] w7 λ_ w=>R (.tuple #[]) w) (Go.Vc.aI (t1) /\
 v (fieldAt 114 t1 3) w7 λt28 w=>fl 74 t28 1 3 w λt30 w=>v (et .neq 3 30 t30 (i64 0)) w λt31 w13=>aO t31 (c 48 #[t0] w13 λt33 w=>c 135 #[t1] w λt35 w=>c 134 #[t33,t35] w λ_ w=>R (.tuple #[]) w) (R (.tuple #[]) w13))
theorem aPe (h:EX t0 t1 w R):aC prog 93 #[t0,t1] w R:=dw [dr 0 14 16383 (tk (rg 0 13) (.last 14))] func93 h
def lW (t0:O) (w:Ω) (R:O->Ω->Prop):Prop:=
 ∃ J1:NP 1,(v (et .eql 3 3 t0 (i64 27)) w λt5 w=>aO t5 (J1 t5 w) (v (et .eql 3 3 t0 (i64 28)) w λt6 w=>J1 t6 w)) /\
 ∀ t4 w,J1 t4 w->∀ _f:bQ,aO t4 (R (i64 1) w) (∃ J2:NP 1,(v (et .eql 3 3 t0 (i64 17)) w λt8 w=>aO t8 (J2 t8 w) (v (et .eql 3 3 t0 (i64 18)) w λt9 w=>aO t9 (J2 t9 w) (v (et .eql 3 3 t0 (i64 29)) w λt10 w=>J2 t10 w))) /\
 ∀ t7 w,J2 t7 w->∀ _f:bQ,aO t7 (R (i64 2) w) (∃ J3:NP 1,(v (et .eql 3 3 t0 (i64 30)) w λt12 w=>aO t12 (J3 t12 w) (v (et .eql 3 3 t0 (i64 36)) w λt13 w=>J3 t13 w)) /\
 ∀ t11 w,J3 t11 w->∀ _f:bQ,aO t11 (R (i64 3) w) (v (et .eql 3 3 t0 (i64 31)) w λt15 w=>aO t15 (aO t15 (R (i64 5) w) (R (i64 (-1)) w)) (v (et .eql 3 3 t0 (i64 32)) w λt16 w=>aO t16 (R (i64 5) w) (R (i64 (-1)) w)))))
theorem qB (h:lW t0 w R):aC prog 94 #[t0] w R:=dw [jn [4],jn [7],jn [11]] func94 h
def EW (t0 t1 t2 t3:O) (w:Ω) (R:O->Ω->Prop):Prop:=
 v (box 70 t2) w λt6 w=>aH w λS1 w=>Go.Vc.aI (t0) /\
 yf S1 109 t0 0 26 λt15=>Go.Vc.aI (t0) /\
 yf S1 109 t0 1 48 λt19=>Go.Vc.aI (t1) /\
 yf S1 114 t1 0 3 λt23=>yf S1 70 t6 0 3 λt25=>yf S1 70 t6 1 3 λt27=>yf S1 70 t6 2 3 λt29=>c 91 #[t1,t3] w λt32 w=>S1 w /\
 c 136 #[t15,t19,t23,t25,t27,t29,t32] w λt33 w=>S1 w /\
 y S1 (extract t33 0) λt34=>y S1 (extract t33 1) λt35=>v (et .neq 3 36 t35 (i64 36864)) w λt37 w=>aO t37 (R t35 w) (∃ J1:NP 0,(fl 70 t6 0 3 w λt40 w=>∃ J2:NP 1,(v (et .eql 3 40 t40 (i64 30)) w λt45 w=>aO t45 (J2 t45 w) (v (et .eql 3 40 t40 (i64 31)) w λt46 w=>aO t46 (J2 t46 w) (v (et .eql 3 40 t40 (i64 36)) w λt47 w=>J2 t47 w))) /\
 ∀ t44 w,J2 t44 w->∀ _f:bQ,aO t44 (J1 w) (c 134 #[t1,t34] w λ_ w=>J1 w)) /\
 ∀ w:Ω,J1 w->∀ _f:bQ,Go.Vc.aI (t1) /\
 fl 114 t1 2 3 w λt51 w=>v (b .add t51 (i64 1)) w λt52 w=>Go.Vc.aI (t1) /\
 v (fieldAt 114 t1 2) w λt54 w=>u (storeAt 3 t54 t52) w λ_ w=>R (i64 36864) w)
theorem aPd (h:EW t0 t1 t2 t3 w R):aC prog 95 #[t0,t1,t2,t3] w R:=dw [dr 0 27 134217727 (tk (rg 0 19) (.only 20 (.only 21 (tk (rg 22 26) .done)))),l,l,jn [44],jn []] func95 h
def EV (t0 t1 t2:O) (w:Ω) (R:O->Ω->Prop):Prop:=
 v (box 70 t2) w λt5 w=>fl 70 t5 0 3 w λt11 w=>v (et .eql 3 11 t11 (i64 23)) w λt19 w4=>aO t19 (fl 70 t5 1 3 w4 λt21 w=>R t21 w) (v (et .eql 3 11 t11 (i64 24)) w4 λt23 w7=>aO t23 (c 135 #[t1] w7 λt25 w=>v (et .neq 21 25 t25 (Value.int IntKind.i32 0)) w λt26 w9=>aO t26 (fl 70 t5 1 3 w9 λt28 w=>R t28 w) (Go.Vc.aI (t1) /\
 fl 114 t1 2 3 w9 λt121 w=>v (b .add t121 (i64 1)) w λt122 w=>R t122 w)) (v (et .eql 3 11 t11 (i64 1)) w7 λt30 w16=>aO t30 (fl 70 t5 1 3 w16 λt33 w=>v (convert 3 21 t33) w λt34 w=>c 134 #[t1,t34] w λ_ w=>Go.Vc.aI (t1) /\
 fl 114 t1 2 3 w λt121_1 w=>v (b .add t121_1 (i64 1)) w λt122_1 w=>R t122_1 w) (v (et .eql 3 11 t11 (i64 2)) w16 λt37 w25=>aO t37 (aH w25 λS11 w=>Go.Vc.aI (t1) /\
 yf S11 114 t1 4 37 λt42=>yf S11 70 t5 1 3 λt44=>yi S11 37 t42 t44 21 λt46=>c 134 #[t1,t46] w λ_ w=>S11 w /\
 Go.Vc.aI (t1) /\
 fl 114 t1 2 3 w λt121_2 w=>v (b .add t121_2 (i64 1)) w λt122_2 w=>R t122_2 w) (v (et .eql 3 11 t11 (i64 3)) w25 λt49 w32=>aO t49 (aH w32 λS13 w=>Go.Vc.aI (t1) /\
 yf S13 114 t1 4 37 λt53=>yf S13 70 t5 1 3 λt55=>c 135 #[t1] w λt57 w=>S13 w /\
 y S13 (indexAt 37 t53 t55) λt58=>u (storeAt 21 t58 t57) w λ_ w=>Go.Vc.aI (t1) /\
 fl 114 t1 2 3 w λt121_3 w=>v (b .add t121_3 (i64 1)) w λt122_3 w=>R t122_3 w) (v (et .eql 3 11 t11 (i64 4)) w32 λt60 w40=>aO t60 (c 135 #[t1] w40 λ_ w=>Go.Vc.aI (t1) /\
 fl 114 t1 2 3 w λt121_4 w=>v (b .add t121_4 (i64 1)) w λt122_4 w=>R t122_4 w) (v (et .eql 3 11 t11 (i64 5)) w40 λt64 w46=>aO t64 (c 135 #[t1] w46 λt66 w=>c 134 #[t1,t66] w λ_ w=>c 134 #[t1,t66] w λ_ w=>Go.Vc.aI (t1) /\
 fl 114 t1 2 3 w λt121_5 w=>v (b .add t121_5 (i64 1)) w λt122_5 w=>R t122_5 w) (v (et .eql 3 11 t11 (i64 25)) w46 λt74 w54=>aO t74 (c 134 #[t1,(Value.int IntKind.i32 0)] w54 λ_ w=>Go.Vc.aI (t1) /\
 fl 114 t1 2 3 w λt121_6 w=>v (b .add t121_6 (i64 1)) w λt122_6 w=>R t122_6 w) (v (et .eql 3 11 t11 (i64 35)) w54 λt78 w60=>aO t78 (fl 70 t5 1 3 w60 λt81 w=>v (convert 3 21 t81) w λt82 w=>c 134 #[t1,t82] w λ_ w=>Go.Vc.aI (t1) /\
 fl 114 t1 2 3 w λt121_7 w=>v (b .add t121_7 (i64 1)) w λt122_7 w=>R t122_7 w) (v (et .eql 3 11 t11 (i64 33)) w60 λt85 w69=>aO t85 (aH w69 λS25 w=>Go.Vc.aI (t0) /\
 yf S25 109 t0 0 26 λt90=>Go.Vc.aI (t1) /\
 yf S25 114 t1 0 3 λt94=>yf S25 70 t5 1 3 λt96=>c 37 #[t90,t94,t96] w λt97 w=>S25 w /\
 y S25 (extract t97 0) λt98=>y S25 (extract t97 1) λ_=>c 134 #[t1,t98] w λ_ w=>Go.Vc.aI (t1) /\
 fl 114 t1 2 3 w λt121_8 w=>v (b .add t121_8 (i64 1)) w λt122_8 w=>R t122_8 w) (v (et .eql 3 11 t11 (i64 34)) w69 λt104 w77=>aO t104 (aH w77 λS28 w=>Go.Vc.aI (t0) /\
 yf S28 109 t0 0 26 λt108=>Go.Vc.aI (t1) /\
 yf S28 114 t1 0 3 λt112=>yf S28 70 t5 1 3 λt114=>c 135 #[t1] w λt116 w=>S28 w /\
 c 137 #[t108,t112,t114,t116] w λ_ w=>S28 w /\
 Go.Vc.aI (t1) /\
 fl 114 t1 2 3 w λt121_9 w=>v (b .add t121_9 (i64 1)) w λt122_9 w=>R t122_9 w) (fl 70 t5 0 3 w77 λt15 w=>c 138 #[t1,t15] w λt16 w=>c 134 #[t1,t16] w λ_ w=>Go.Vc.aI (t1) /\
 fl 114 t1 2 3 w λt121_10 w=>v (b .add t121_10 (i64 1)) w λt122_10 w=>R t122_10 w)))))))))))
theorem aPc (h:EV t0 t1 t2 w R):aC prog 96 #[t0,t1,t2] w R:=dw [dr 0 10 1023 (tk (rg 0 8) (.only 9 .done)),dr 0 9 511 (tk (rg 0 6) (.only 7 (.take 8 (.last 9)))),dr 0 16 65535 (tk (rg 0 9) (.only 10 (tk (rg 11 15) .done))),l,dr 0 13 8191 (tk (rg 0 10) (.only 11 (.only 12 .done)))] func96 h
def SK (t0 t1:O) (w:Ω) (R:O->Ω->Prop):Prop:=
 v (b .lss t1 (i64 1)) w λt6 w=>gk t6 false t1 w λt8 w=>gk t6 false t0 w λt9 w=>gd t6 false (λK=> (Go.Vc.aI (t9)/\K (t9) w)) w λt10 w=>g t6 false (fieldAt 193 t10 1) w λt11 w=>g t6 false (loadAt 154 t11) w λt12 w=>g t6 false (ln 154 3 t12) w λt13 w=>g t6 false (b .gtr t8 t13) w λt14 w=>aN t6 (.bool true) t14 λt15=>aO t15 (R (Value.pointer none) w) (Go.Vc.aI (t0) /\
 fl 193 t0 1 154 w λt19 w=>v (b .sub t1 (i64 1)) w λt21 w=>v (indexAt 154 t19 t21) w λt22 w=>R t22 w)
theorem aPb (h:SK t0 t1 w R):aC prog 97 #[t0,t1] w R:=dw [] func97 h
def SJ (t0 t1 t2:O) (w:Ω) (R:O->Ω->Prop):Prop:=
 v (box 46 t0) w λt3 w=>v (box 74 t1) w λt4 w=>v (box 70 t2) w λt5 w=>fl 70 t5 0 3 w λt8 w=>∃ J1:NP 1,(v (et .eql 3 8 t8 (i64 3)) w λt10 w=>aO t10 (J1 t10 w) (v (et .eql 3 8 t8 (i64 4)) w λt11 w=>aO t11 (J1 t11 w) (v (et .eql 3 8 t8 (i64 5)) w λt12 w=>aO t12 (J1 t12 w) (v (et .eql 3 8 t8 (i64 34)) w λt13 w=>J1 t13 w)))) /\
 ∀ t9 w,J1 t9 w->∀ _f:bQ,aO t9 (R (i64 1) w) (v (et .eql 3 8 t8 (i64 22)) w λt15 w=>aO t15 (R (i64 3) w) (v (et .eql 3 8 t8 (i64 37)) w λt17 w12=>aO t17 (fl 46 t3 3 44 w12 λt19 w=>fl 70 t5 1 3 w λt21 w=>jl 44 t19 t21 74 0 42 w λt24 w=>v (ln 42 3 t24) w λt25 w=>R t25 w) (v (et .eql 3 8 t8 (i64 38)) w12 λt27 w21=>aO t27 (fl 46 t3 2 43 w21 λt29 w=>fl 70 t5 1 3 w λt31 w=>jl 43 t29 t31 180 2 42 w λt34 w=>v (ln 42 3 t34) w λt35 w=>R t35 w) (v (et .eql 3 8 t8 (i64 39)) w21 λt37 w30=>aO t37 (fl 74 t4 1 3 w30 λt39 w=>v (et .neq 3 39 t39 (i64 0)) w λt40 w=>aO t40 (R (i64 1) w) (R (i64 0) w)) (fl 70 t5 0 3 w30 λt42 w=>c 139 #[t42] w λt43 w=>v (ln 9 3 t43) w λt44 w=>R t44 w)))))
theorem aPa (h:SJ t0 t1 t2 w R):aC prog 98 #[t0,t1,t2] w R:=dw [jn [9]] func98 h
def SI (t0:O) (w:Ω) (R:O->Ω->Prop):Prop:=
 aO t0 (R (Value.int IntKind.i32 1) w) (R (Value.int IntKind.i32 0) w)
theorem aOz (h:SI t0 w R):aC prog 99 #[t0] w R:=dw [] func99 h
def AO (t0 t1:O) (w:Ω) (R:O->Ω->Prop):Prop:=
 ∃ (I1:NP 1) (μ1:NF 1),I1 (i64 0) w /\
 ∀ t5 w1,I1 t5 w1->∀ _f:bQ,v (ln 24 3 t0) w1 λt8 w=>v (b .lss t5 t8) w λt9 w3=>aO t9 (jl 24 t0 t5 46 0 9 w3 λt16 w=>v (e .eql 9 (.tmp 16) (.tmp 17) t16 t1) w λt18 w=>aO t18 (R t5 w) (v (b .add t5 (i64 1)) w λt11 w=>I1 t11 w/\μ1 t11 w < μ1 t5 w1)) (R (i64 (-1)) w3)
theorem aJj (h:AO t0 t1 w R):aC prog 100 #[t0,t1] w R:=dw [lo [5]] func100 h
def LZ (t0 t1:O) (w:Ω) (R:O->Ω->Prop):Prop:=
 v (ln 42 3 t0) w λt7 w=>v (ln 42 3 t1) w λt9 w=>v (e .neq 3 (.tmp 7) (.tmp 9) t7 t9) w λt10 w=>aO t10 (R (.bool false) w) (∃ (I1:NP 1) (μ1:NF 1),I1 (i64 0) w /\
 ∀ t5 w4,I1 t5 w4->∀ _f:bQ,v (ln 42 3 t0) w4 λt13 w=>v (b .lss t5 t13) w λt14 w6=>aO t14 (aH w6 λS6 w=>yi S6 42 t0 t5 3 λt20=>yi S6 42 t1 t5 3 λt24=>y S6 (e .neq 3 (.tmp 20) (.tmp 24) t20 t24) λt25=>aO t25 (R (.bool false) w) (v (b .add t5 (i64 1)) w λt16 w=>I1 t16 w/\μ1 t16 w < μ1 t5 w4)) (R (.bool true) w6))
theorem aJi (h:LZ t0 t1 w R):aC prog 101 #[t0,t1] w R:=dw [l,lo [5],l,dr 0 9 511 (tk (rg 0 8) .done)] func101 h
def fI (t0 t1 t2 t3:O) (w:Ω) (R:O->Ω->Prop):Prop:=
 v (et .eql 3 9 t0 (i64 27)) w λt11 w1=>aO t11 (il 42 t3 (i64 0) 3 w1 λt16 w=>v (build 54 #[(0,(i64 3)),(1,t1),(2,t2),(3,t16)]) w λt17 w=>v (buildSlice 50 1 #[(0,t17)]) w λt18 w=>R t18 w) (v (et .eql 3 9 t0 (i64 28)) w1 λt20 w6=>aO t20 (il 42 t3 (i64 0) 3 w6 λt23 w=>v (build 54 #[(0,(i64 2)),(1,t23)]) w λt24 w=>v (buildSlice 50 1 #[(0,t24)]) w λt25 w=>R t25 w) (∃ J1:NP 1,(v (et .eql 3 9 t0 (i64 29)) w6 λt27 w=>aO t27 (J1 t27 w) (v (et .eql 3 9 t0 (i64 30)) w λt28 w=>J1 t28 w)) /\
 ∀ t26 w13,J1 t26 w13->∀ _f:bQ,aO t26 (aH w13 λS8 w=>yi S8 42 t3 (i64 0) 3 λt31=>yi S8 42 t3 (i64 1) 3 λt34=>y S8 (build 54 #[(0,(i64 2)),(1,t31),(2,t34),(3,(i64 1))]) λt35=>v (buildSlice 50 1 #[(0,t35)]) w λt36 w=>S8 w /\
 R t36 w) (∃ J2:NP 1,(v (et .eql 3 9 t0 (i64 31)) w13 λt38 w=>aO t38 (J2 t38 w) (v (et .eql 3 9 t0 (i64 32)) w λt39 w=>J2 t39 w)) /\
 ∀ t37 w18,J2 t37 w18->∀ _f:bQ,aO t37 (aH w18 λS11 w=>yi S11 42 t3 (i64 0) 3 λt42=>yi S11 42 t3 (i64 1) 3 λt45=>yi S11 42 t3 (i64 4) 3 λt48=>y S11 (build 54 #[(0,(i64 2)),(1,t42),(2,t45),(3,t48)]) λt49=>yi S11 42 t3 (i64 2) 3 λt52=>yi S11 42 t3 (i64 3) 3 λt55=>yi S11 42 t3 (i64 4) 3 λt58=>y S11 (build 54 #[(0,(i64 2)),(1,t52),(2,t55),(3,t58)]) λt59=>v (buildSlice 50 2 #[(0,t49),(1,t59)]) w λt60 w=>S11 w /\
 R t60 w) (v (et .eql 3 9 t0 (i64 36)) w18 λt62 w21=>aO t62 (aH w21 λS13 w=>yi S13 42 t3 (i64 0) 3 λt65=>yi S13 42 t3 (i64 1) 3 λt68=>yi S13 42 t3 (i64 2) 3 λt71=>y S13 (build 54 #[(0,(i64 2)),(1,t65),(2,t68),(3,t71)]) λt72=>v (buildSlice 50 1 #[(0,t72)]) w λt73 w=>S13 w /\
 R t73 w) (R bT w21)))))
theorem oX (h:fI t0 t1 t2 t3 w R):aC prog 102 #[t0,t1,t2,t3] w R:=dw [jn [26],dr 0 9 511 (tk (rg 0 6) (.only 7 (.take 8 .done))),l,jn [37],dr 0 22 4194303 (tk (rg 0 19) (.only 20 (.take 21 .done))),l,dr 0 12 4095 (tk (rg 0 9) (.only 10 (.take 11 .done)))] func102 h
def LY (t0 t1 t2 t3 t4 t5:O) (w:Ω) (R:O->Ω->Prop):Prop:=
 aH w λS1 w=>y S1 (et .neq 3 14 t2 (i64 3)) λt15=>gx t15 true t2 λt17=>gy t15 true S1 (et .neq 3 17 t17 (i64 4)) λt18=>aN t15 t18 (.bool false) λt19=>gx t19 false t3 λt21=>gy t19 false S1 (b .lss t21 (i64 0)) λt22=>aN t19 (.bool true) t22 λt23=>gx t23 false t3 λt25=>gy t23 false S1 (b .gtr t25 (i64 2)) λt26=>aN t23 (.bool true) t26 λt27=>gx t27 false t5 λt29=>gy t27 false S1 (b .lss t29 (i64 0)) λt30=>aN t27 (.bool true) t30 λt31=>gx t31 false t5 λt33=>gy t31 false S1 (b .gtr t33 (i64 64)) λt34=>aN t31 (.bool true) t34 λt35=>gx t35 false t5 λt37=>gy t35 false S1 (b .add (i64 8) t37) λt38=>gx t35 false t0 λt39=>pN t35 false (λK=> (Go.Vc.aI (t39)/\K (t39))) λt40=>gy t35 false S1 (fieldAt 156 t40 0) λt41=>gy t35 false S1 (loadAt 3 t41) λt42=>gx t35 false t0 λt43=>gd t35 false (λK=> c 140 #[t43] w K) w λt44 w=>S1 w /\
 gy t35 false S1 (b .sub t42 t44) λt45=>gy t35 false S1 (b .gtr t38 t45) λt46=>aN t35 (.bool true) t46 λt47=>aO t47 (R (.tuple #[(i64 0),(.bool false)]) w) (∃ J1:NP 0,(aH w λS3 w3=>Go.Vc.aI (t0) /\
 yf S3 156 t0 1 154 λt53=>(v (buildSlice 154 0 #[]) w3 λt49 w4=>S3 w4 /\
 (v (Builtin.append_ #[154,154] 154 #[t49,t53]) w4 λt54 w=>S3 w /\
 v (makeSlice 23 t5 t5) w λt60 w=>S3 w /\
 y S3 (build 127 #[(0,t1),(1,t2),(2,t3),(3,t4),(4,t60)]) λt61=>v (buildSlice 154 1 #[(0,t61)]) w λt62 w=>S3 w /\
 v (Builtin.append_ #[154,154] 154 #[t54,t62]) w λt63 w=>S3 w /\
 Go.Vc.aI (t0) /\
 y S3 (fieldAt 156 t0 1) λt65=>u (storeAt 154 t65 t63) w λ_ w=>J1 w) /\
 (v (makeSlice 23 t5 t5) w4 λt60_1 w10=>S3 w10 /\
 y S3 (build 127 #[(0,t1),(1,t2),(2,t3),(3,t4),(4,t60_1)]) λt61_1=>(v (Builtin.append_ #[154,154] 154 #[t49,t53]) w10 λt54_1 w=>S3 w /\
 v (buildSlice 154 1 #[(0,t61_1)]) w λt62_1 w=>S3 w /\
 v (Builtin.append_ #[154,154] 154 #[t54_1,t62_1]) w λt63_1 w=>S3 w /\
 Go.Vc.aI (t0) /\
 y S3 (fieldAt 156 t0 1) λt65_1=>u (storeAt 154 t65_1 t63_1) w λ_ w=>J1 w) /\
 (v (buildSlice 154 1 #[(0,t61_1)]) w10 λt62_2 w=>S3 w /\
 v (Builtin.append_ #[154,154] 154 #[t49,t53]) w λt54_2 w=>S3 w /\
 v (Builtin.append_ #[154,154] 154 #[t54_2,t62_2]) w λt63_2 w=>S3 w /\
 Go.Vc.aI (t0) /\
 y S3 (fieldAt 156 t0 1) λt65_2=>u (storeAt 154 t65_2 t63_2) w λ_ w=>J1 w))) /\
 (v (makeSlice 23 t5 t5) w3 λt60_2 w19=>S3 w19 /\
 y S3 (build 127 #[(0,t1),(1,t2),(2,t3),(3,t4),(4,t60_2)]) λt61_2=>(v (buildSlice 154 0 #[]) w19 λt49_1 w20=>S3 w20 /\
 (v (Builtin.append_ #[154,154] 154 #[t49_1,t53]) w20 λt54_3 w=>S3 w /\
 v (buildSlice 154 1 #[(0,t61_2)]) w λt62_3 w=>S3 w /\
 v (Builtin.append_ #[154,154] 154 #[t54_3,t62_3]) w λt63_3 w=>S3 w /\
 Go.Vc.aI (t0) /\
 y S3 (fieldAt 156 t0 1) λt65_3=>u (storeAt 154 t65_3 t63_3) w λ_ w=>J1 w) /\
 (v (buildSlice 154 1 #[(0,t61_2)]) w20 λt62_4 w=>S3 w /\
 v (Builtin.append_ #[154,154] 154 #[t49_1,t53]) w λt54_4 w=>S3 w /\
 v (Builtin.append_ #[154,154] 154 #[t54_4,t62_4]) w λt63_4 w=>S3 w /\
 Go.Vc.aI (t0) /\
 y S3 (fieldAt 156 t0 1) λt65_4=>u (storeAt 154 t65_4 t63_4) w λ_ w=>J1 w)) /\
 (v (buildSlice 154 1 #[(0,t61_2)]) w19 λt62_5 w=>S3 w /\
 v (buildSlice 154 0 #[]) w λt49_2 w=>S3 w /\
 v (Builtin.append_ #[154,154] 154 #[t49_2,t53]) w λt54_5 w=>S3 w /\
 v (Builtin.append_ #[154,154] 154 #[t54_5,t62_5]) w λt63_5 w=>S3 w /\
 Go.Vc.aI (t0) /\
 y S3 (fieldAt 156 t0 1) λt65_5=>u (storeAt 154 t65_5 t63_5) w λ_ w=>J1 w))) /\
 ∀ w:Ω,J1 w->∀ _f:bQ,Go.Vc.aI (t0) /\
 fl 156 t0 1 154 w λt69 w=>v (ln 154 3 t69) w λt70 w=>R (.tuple #[t70,(.bool true)]) w)
theorem aJh (h:LY t0 t1 t2 t3 t4 t5 w R):aC prog 103 #[t0,t1,t2,t3,t4,t5] w R:=dw [dr 0 34 17179869183 (tk (rg 0 29) (.only 30 (tk [31,32,33] .done))),l,l,dr 0 18 262143 (tk ([0]++rg 2 5++rg 7 11) (.two 1 12 (.two 6 12 (.only 12 (.take 13 (.only 14 (.only 15 (.take 16 (.take 17 (.last 18))))))) (.take 13 (.two 6 14 (.only 14 (.only 15 (.take 16 (.take 17 (.last 18))))) (.only 6 (.only 15 (.take 16 (.take 17 (.last 18)))))))) (.take 13 (.two 1 14 (.two 6 14 (.only 14 (.only 15 (.take 16 (.take 17 (.last 18))))) (.only 6 (.only 15 (.take 16 (.take 17 (.last 18)))))) (.only 1 (.only 6 (.only 15 (.take 16 (.take 17 (.last 18)))))))))),jn []] func103 h
def LX (t0 t1 t2:O) (w:Ω) (R:O->Ω->Prop):Prop:=
 c 105 #[t0,t1] w λt12 w=>x2 t12 w λt13 t14 w=>st 127 t13 w λt7 w=>v (Op.unary UnOp.not t14) w λt17 w=>aO t17 (R (i64 28417) w) (v (loadAt 127 t7) w λt19 w=>c 141 #[t19,t2] w λt21 w=>v (Op.unary UnOp.not t21) w λt22 w=>aO t22 (R (i64 28420) w) (R (i64 36864) w))
theorem aJg (h:LX t0 t1 t2 w R):aC prog 104 #[t0,t1,t2] w R:=dw [] func104 h
def vQ (t0 t1:O) (w:Ω) (R:O->Ω->Prop):Prop:=
 v (al 127) w λt4 w=>v (b .lss t1 (i64 1)) w λt7 w=>gk t7 false t1 w λt9 w=>gk t7 false t0 w λt10 w=>gd t7 false (λK=> (Go.Vc.aI (t10)/\K (t10) w)) w λt11 w=>g t7 false (fieldAt 156 t11 1) w λt12 w=>g t7 false (loadAt 154 t12) w λt13 w=>g t7 false (ln 154 3 t13) w λt14 w=>g t7 false (b .gtr t9 t14) w λt15 w9=>aN t7 (.bool true) t15 λt16=>aO t16 (v (build 127 #[]) w9 λt17 w=>u (storeAt 127 t4 t17) w λ_ w=>lv 127 t4 w λr1=> R (.tuple #[r1,(.bool false)]) w) (Go.Vc.aI (t0) /\
 fl 156 t0 1 154 w9 λt21 w=>v (b .sub t1 (i64 1)) w λt23 w=>il 154 t21 t23 127 w λt25 w=>u (storeAt 127 t4 t25) w λ_ w=>lv 127 t4 w λr1=> R (.tuple #[r1,(.bool true)]) w)
theorem UI (h:vQ t0 t1 w R):aC prog 105 #[t0,t1] w R:=dw [] func105 h
def LW (t0 t1 t2 t3 t4:O) (w:Ω) (R:O->Ω->Prop):Prop:=
 c 104 #[t0,t1,t4] w λt17 w=>v (et .neq 3 18 t17 (i64 36864)) w λt19 w=>aO t19 (R t17 w) (c 105 #[t0,t1] w λt24 w=>x2 t24 w λt25 _ w=>st 127 t25 w λt12 w=>v (b .lss t2 (i64 0)) w λt28 w=>gk t28 false t3 w λt30 w=>g t28 false (b .lss t30 (i64 0)) w λt31 w=>aN t28 (.bool true) t31 λt32=>gk t32 false t2 w λt34 w=>g t32 false (fieldAt 127 t12 4) w λt35 w=>g t32 false (loadAt 23 t35) w λt36 w=>g t32 false (ln 23 3 t36) w λt37 w=>g t32 false (b .gtr t34 t37) w λt38 w=>aN t32 (.bool true) t38 λt39=>gk t39 false t3 w λt41 w=>g t39 false (fieldAt 127 t12 4) w λt42 w=>g t39 false (loadAt 23 t42) w λt43 w=>g t39 false (ln 23 3 t43) w λt44 w=>gk t39 false t2 w λt45 w=>g t39 false (b .sub t44 t45) w λt46 w=>g t39 false (b .gtr t41 t46) w λt47 w=>aN t39 (.bool true) t47 λt48=>aO t48 (R (i64 28418) w) (R (i64 36864) w))
theorem aJf (h:LW t0 t1 t2 t3 t4 w R):aC prog 106 #[t0,t1,t2,t3,t4] w R:=dw [] func106 h
def LV (t0 t1 t2 t3:O) (w:Ω) (R:O->Ω->Prop):Prop:=
 v (buildSlice 23 0 #[]) w λt11 w=>Go.Vc.aI (t0) /\
 fl 156 t0 1 154 w λt15 w=>v (b .sub t1 (i64 1)) w λt17 w=>jl 154 t15 t17 127 4 23 w λt20 w=>v (Builtin.append_ #[23,23] 23 #[t11,t20]) w λt21 w=>∃ (I1:NP 1) (μ1:NF 1),I1 (i64 0) w /\
 ∀ t9 w10,I1 t9 w10->∀ _f:bQ,v (ln 23 3 t3) w10 λt24 w=>v (b .lss t9 t24) w λt25 w12=>aO t25 (v (b .add t2 t9) w12 λt31 w=>il 23 t3 t9 5 w λt35 w=>v (indexAt 23 t21 t31) w λt36 w=>u (storeAt 5 t36 t35) w λ_ w=>v (b .add t9 (i64 1)) w λt27 w=>I1 t27 w/\μ1 t27 w < μ1 t9 w10) (v (buildSlice 154 0 #[]) w12 λt37 w=>Go.Vc.aI (t0) /\
 fl 156 t0 1 154 w λt41 w=>v (Builtin.append_ #[154,154] 154 #[t37,t41]) w λt42 w=>v (b .sub t1 (i64 1)) w λt45 w=>v (indexAt 154 t42 t45) w λt47 w=>v (fieldAt 127 t47 4) w λt48 w=>u (storeAt 23 t48 t21) w λ_ w=>Go.Vc.aI (t0) /\
 v (fieldAt 156 t0 1) w λt52 w=>u (storeAt 154 t52 t42) w λ_ w=>R (.tuple #[]) w)
theorem aJe (h:LV t0 t1 t2 t3 w R):aC prog 107 #[t0,t1,t2,t3] w R:=dw [lo [9]] func107 h
def LU (t0 t1:O) (w:Ω) (R:O->Ω->Prop):Prop:=
 v (box 46 t0) w λt2 w=>v (box 70 t1) w λt3 w=>fl 70 t3 0 3 w λt6 w=>v (et .eql 3 6 t6 (i64 5)) w λt8 w=>aO t8 (R (i64 2) w) (∃ J1:NP 1,(v (et .eql 3 6 t6 (i64 3)) w λt10 w=>aO t10 (J1 t10 w) (v (et .eql 3 6 t6 (i64 4)) w λt11 w=>aO t11 (J1 t11 w) (v (et .eql 3 6 t6 (i64 23)) w λt12 w=>aO t12 (J1 t12 w) (v (et .eql 3 6 t6 (i64 24)) w λt13 w=>aO t13 (J1 t13 w) (v (et .eql 3 6 t6 (i64 30)) w λt14 w=>aO t14 (J1 t14 w) (v (et .eql 3 6 t6 (i64 31)) w λt15 w=>aO t15 (J1 t15 w) (v (et .eql 3 6 t6 (i64 34)) w λt16 w=>aO t16 (J1 t16 w) (v (et .eql 3 6 t6 (i64 36)) w λt17 w=>aO t17 (J1 t17 w) (v (et .eql 3 6 t6 (i64 39)) w λt18 w=>J1 t18 w))))))))) /\
 ∀ t9 w,J1 t9 w->∀ _f:bQ,aO t9 (R (i64 0) w) (v (et .eql 3 6 t6 (i64 37)) w λt20 w16=>aO t20 (fl 46 t2 3 44 w16 λt22 w=>fl 70 t3 1 3 w λt24 w=>jl 44 t22 t24 74 1 3 w λt27 w=>v (Builtin.min_ #[3,3] 3 #[(i64 1),t27]) w λt28 w=>R t28 w) (v (et .eql 3 6 t6 (i64 38)) w16 λt30 w25=>aO t30 (fl 46 t2 2 43 w25 λt32 w=>fl 70 t3 1 3 w λt34 w=>jl 43 t32 t34 180 3 3 w λt37 w=>v (Builtin.min_ #[3,3] 3 #[(i64 1),t37]) w λt38 w=>R t38 w) (R (i64 1) w25))))
theorem aJd (h:LU t0 t1 w R):aC prog 108 #[t0,t1] w R:=dw [jn [9]] func108 h
def AM (t0:O) (w:Ω) (R:O->Ω->Prop):Prop:=
 v (ln 9 3 t0) w λt6 w=>v (b .lss t6 (i64 1)) w λt7 w=>gk t7 false t0 w λt9 w=>g t7 false (ln 9 3 t9) w λt10 w=>g t7 false (b .gtr t10 (i64 16)) w λt11 w=>aN t7 (.bool true) t11 λt12=>gk t12 false t0 w λt14 w=>gd t12 false (λK=> c 142 #[t14] w K) w λt15 w=>g t12 false (Op.unary UnOp.not t15) w λt16 w=>aN t12 (.bool true) t16 λt17=>aO t17 (R (.bool false) w) (v (range 9 t0) w λt19 w=>∃ (I1:NP 0) (μ1:NF 0),I1 w /\
 ∀ w12:Ω,I1 w12->∀ _f:bQ,v (next t19 true 0) w12 λt20 w=>v (extract t20 0) w λt21 w14=>aO t21 (v (extract t20 2) w14 λt22 w=>v (binOp .geq 21 t22 (Value.int IntKind.i32 97)) w λt24 w=>gk t24 true t22 w λt26 w=>g t24 true (binOp .leq 21 t26 (Value.int IntKind.i32 122)) w λt27 w=>aN t24 t27 (.bool false) λt28=>gk t28 false t22 w λt30 w=>g t28 false (binOp .geq 21 t30 (Value.int IntKind.i32 48)) w λt31 w=>gk t28 false t31 w λt32 w=>gk t32 true t22 w λt33 w=>g t32 true (binOp .leq 21 t33 (Value.int IntKind.i32 57)) w λt34 w=>gd t28 false (λK=> aN t32 t34 (.bool false) λv=> K v w) w λt35 w=>aN t28 (.bool true) t35 λt36=>gk t36 false t22 w λt38 w=>g t36 false (et .eql 21 38 t38 (Value.int IntKind.i32 45)) w λt39 w=>aN t36 (.bool true) t39 λt40=>gk t40 false t22 w λt42 w=>g t40 false (et .eql 21 42 t42 (Value.int IntKind.i32 46)) w λt43 w=>aN t40 (.bool true) t43 λt44=>gk t44 false t22 w λt46 w=>g t44 false (binOp .geq 21 t46 (Value.int IntKind.i32 224)) w λt47 w=>gk t44 false t47 w λt48 w=>gk t48 true t22 w λt49 w=>g t48 true (binOp .leq 21 t49 (Value.int IntKind.i32 255)) w λt50 w=>gd t44 false (λK=> aN t48 t50 (.bool false) λv=> K v w) w λt51 w=>aN t44 (.bool true) t51 λt52=>v (Op.unary UnOp.not t52) w λt53 w=>aO t53 (R (.bool false) w) (I1 w/\μ1 w < μ1 w12)) (R (.bool true) w14))
theorem aJc (h:AM t0 w R):aC prog 109 #[t0] w R:=dw [l,lo []] func109 h
def LS (t0 t1:O) (w:Ω) (R:O->Ω->Prop):Prop:=
 ∃ (I1:NP 1) (μ1:NF 1),I1 (i64 0) w /\
 ∀ t5 w1,I1 t5 w1->∀ _f:bQ,v (ln 42 3 t0) w1 λt8 w=>v (b .lss t5 t8) w λt9 w3=>aO t9 (il 42 t0 t5 3 w3 λt15 w=>v (b .lss t15 (i64 1)) w λt16 w=>gk t16 false t0 w λt18 w=>gk t16 false t5 w λt19 w=>g t16 false (indexAt 42 t18 t19) w λt20 w=>g t16 false (loadAt 3 t20) w λt21 w=>g t16 false (b .gtr t21 (i64 4)) w λt22 w=>aN t16 (.bool true) t22 λt23=>aO t23 (R (.bool false) w) (v (b .add t5 (i64 1)) w λt11 w=>I1 t11 w/\μ1 t11 w < μ1 t5 w1)) (v (ln 42 3 t0) w3 λt25 w=>v (b .leq t25 t1) w λt27 w=>R t27 w)
theorem aJb (h:LS t0 t1 w R):aC prog 110 #[t0,t1] w R:=dw [lo [5]] func110 h
def LR (t0:O) (w:Ω) (R:O->Ω->Prop):Prop:=
 v (box 70 t0) w λt1 w=>fl 70 t1 0 3 w λt4 w=>c 143 #[t4] w λt5 w=>v (et .eql 9 5 t5 (Value.string { data:=#[] })) w λt6 w=>g t6 false (fieldAt 70 t1 0) w λt8 w=>g t6 false (loadAt 3 t8) w λt9 w=>g t6 false (et .neq 3 9 t9 (i64 27)) w λt10 w=>gk t6 false t10 w λt11 w=>g t11 true (fieldAt 70 t1 2) w λt12 w=>g t11 true (loadAt 3 t12) w λt13 w=>g t11 true (et .neq 3 13 t13 (i64 0)) w λt14 w=>gd t6 false (λK=> aN t11 t14 (.bool false) λv=> K v w) w λt15 w=>aN t6 (.bool true) t15 λt16=>g t16 false (fieldAt 70 t1 0) w λt18 w=>g t16 false (loadAt 3 t18) w λt19 w=>gd t16 false (λK=> c 144 #[t19] w K) w λt20 w=>g t16 false (et .eql 3 20 t20 (i64 0)) w λt21 w=>gk t16 false t21 w λt22 w=>g t22 true (fieldAt 70 t1 1) w λt23 w=>g t22 true (loadAt 3 t23) w λt24 w=>g t22 true (et .neq 3 24 t24 (i64 0)) w λt25 w=>gd t16 false (λK=> aN t22 t25 (.bool false) λv=> K v w) w λt26 w=>aN t16 (.bool true) t26 λt27=>aO t27 (R (.bool false) w) (fl 70 t1 0 3 w λt29 w=>v (et .eql 3 29 t29 (i64 1)) w λt31 w27=>aO t31 (fl 70 t1 1 3 w27 λt33 w=>c 145 #[t33,(i64 (-2147483648)),(i64 2147483647)] w λt34 w=>R t34 w) (∃ J1:NP 1,(v (et .eql 3 29 t29 (i64 2)) w27 λt36 w=>aO t36 (J1 t36 w) (v (et .eql 3 29 t29 (i64 3)) w λt37 w=>J1 t37 w)) /\
 ∀ t35 w33,J1 t35 w33->∀ _f:bQ,aO t35 (fl 70 t1 1 3 w33 λt39 w=>c 145 #[t39,(i64 0),(i64 9)] w λt40 w=>R t40 w) (∃ J2:NP 1,(v (et .eql 3 29 t29 (i64 23)) w33 λt42 w=>aO t42 (J2 t42 w) (v (et .eql 3 29 t29 (i64 24)) w λt43 w=>J2 t43 w)) /\
 ∀ t41 w39,J2 t41 w39->∀ _f:bQ,aO t41 (fl 70 t1 1 3 w39 λt45 w=>c 145 #[t45,(i64 0),(i64 119)] w λt46 w=>R t46 w) (v (et .eql 3 29 t29 (i64 25)) w39 λt48 w43=>aO t48 (fl 70 t1 1 3 w43 λt50 w=>c 145 #[t50,(i64 3),(i64 4)] w λt51 w=>R t51 w) (v (et .eql 3 29 t29 (i64 27)) w43 λt53 w47=>aO t53 (fl 70 t1 1 3 w47 λt55 w=>c 145 #[t55,(i64 3),(i64 4)] w λt56 w=>g t56 true (fieldAt 70 t1 2) w λt58 w=>g t56 true (loadAt 3 t58) w λt59 w=>gd t56 true (λK=> c 145 #[t59,(i64 0),(i64 2)] w K) w λt60 w=>gk t56 true t60 w λt61 w=>g t61 false (fieldAt 70 t1 2) w λt62 w=>g t61 false (loadAt 3 t62) w λt63 w=>gd t61 false (λK=> c 145 #[t63,(i64 4),(i64 6)] w K) w λt64 w=>gd t56 true (λK=> aN t61 (.bool true) t64 λv=> K v w) w λt65 w=>aN t56 t65 (.bool false) λt66=>R t66 w) (∃ J3:NP 1,(v (et .eql 3 29 t29 (i64 33)) w47 λt68 w=>aO t68 (J3 t68 w) (v (et .eql 3 29 t29 (i64 34)) w λt69 w=>J3 t69 w)) /\
 ∀ t67 w62,J3 t67 w62->∀ _f:bQ,aO t67 (fl 70 t1 1 3 w62 λt71 w=>c 145 #[t71,(i64 0),(i64 7)] w λt72 w=>R t72 w) (∃ J4:NP 1,(v (et .eql 3 29 t29 (i64 35)) w62 λt74 w=>aO t74 (J4 t74 w) (v (et .eql 3 29 t29 (i64 36)) w λt75 w=>J4 t75 w)) /\
 ∀ t73 w68,J4 t73 w68->∀ _f:bQ,aO t73 (fl 70 t1 1 3 w68 λt77 w=>c 145 #[t77,(i64 1),(i64 2)] w λt78 w=>R t78 w) (v (et .eql 3 29 t29 (i64 37)) w68 λt80 w72=>aO t80 (fl 70 t1 1 3 w72 λt82 w=>c 145 #[t82,(i64 0),(i64 7)] w λt83 w=>R t83 w) (v (et .eql 3 29 t29 (i64 38)) w72 λt85 w76=>aO t85 (fl 70 t1 1 3 w76 λt87 w=>c 145 #[t87,(i64 0),(i64 3)] w λt88 w=>R t88 w) (R (.bool true) w76))))))))))
theorem aJa (h:LR t0 w R):aC prog 111 #[t0] w R:=dw [l,jn [35],jn [41],jn [67],jn [73]] func111 h
def AL (t0 t1 t2:O) (w:Ω) (R:O->Ω->Prop):Prop:=
 v (box 46 t0) w λt3 w=>v (box 74 t1) w λt4 w=>v (box 70 t2) w λt5 w=>fl 70 t5 0 3 w λt10 w=>∃ J1:NP 1,(v (et .eql 3 10 t10 (i64 2)) w λt12 w=>aO t12 (J1 t12 w) (v (et .eql 3 10 t10 (i64 3)) w λt13 w=>J1 t13 w)) /\
 ∀ t11 w8,J1 t11 w8->∀ _f:bQ,aO t11 (v (loadAt 74 t4) w8 λt15 w=>fl 70 t5 1 3 w λt17 w=>c 146 #[t15,t17] w λt18 w=>x2 t18 w λ_ t20 w=>R t20 w) (∃ J2:NP 1,(v (et .eql 3 10 t10 (i64 33)) w8 λt23 w=>aO t23 (J2 t23 w) (v (et .eql 3 10 t10 (i64 34)) w λt24 w=>J2 t24 w)) /\
 ∀ t22 w17,J2 t22 w17->∀ _f:bQ,aO t22 (fl 70 t5 1 3 w17 λt26 w=>fl 46 t3 1 42 w λt28 w=>v (ln 42 3 t28) w λt29 w=>v (b .lss t26 t29) w λt30 w=>R t30 w) (v (et .eql 3 10 t10 (i64 37)) w17 λt32 w24=>aO t32 (fl 70 t5 1 3 w24 λt34 w=>fl 46 t3 3 44 w λt36 w=>v (ln 44 3 t36) w λt37 w=>v (b .lss t34 t37) w λt38 w=>R t38 w) (v (et .eql 3 10 t10 (i64 38)) w24 λt40 w31=>aO t40 (fl 70 t5 1 3 w31 λt42 w=>fl 46 t3 2 43 w λt44 w=>v (ln 43 3 t44) w λt45 w=>v (b .lss t42 t45) w λt46 w=>R t46 w) (∃ J3:NP 1,(v (et .eql 3 10 t10 (i64 23)) w31 λt48 w=>aO t48 (J3 t48 w) (v (et .eql 3 10 t10 (i64 24)) w λt49 w=>J3 t49 w)) /\
 ∀ t47 w40,J3 t47 w40->∀ _f:bQ,aO t47 (fl 70 t5 1 3 w40 λt51 w=>fl 74 t4 3 71 w λt53 w=>v (ln 71 3 t53) w λt54 w=>v (b .lss t51 t54) w λt55 w=>R t55 w) (R (.bool true) w40)))))
theorem aIz (h:AL t0 t1 t2 w R):aC prog 112 #[t0,t1,t2] w R:=dw [jn [11],jn [22],jn [47]] func112 h
def LQ (t0 t1 t2 t3:O) (w:Ω) (R:O->Ω->Prop):Prop:=
 v (box 46 t0) w λt4 w=>v (box 74 t1) w λt5 w=>v (box 70 t2) w λt6 w=>v (loadAt 46 t4) w λt20 w=>v (loadAt 74 t5) w λt21 w=>v (loadAt 70 t6) w λt22 w=>c 98 #[t20,t21,t22] w λt23 w=>v (ln 42 3 t3) w λt25 w=>v (b .lss t25 t23) w λt27 w=>aO t27 (R (.tuple #[bT,(i64 10)]) w) (v (ln 42 3 t3) w λt30 w=>v (b .sub t30 t23) w λt32 w=>v (sliceAt 42 t3 (some t32) none none) w λt33 w=>v (ln 42 3 t3) w λt36 w=>v (b .sub t36 t23) w λt38 w=>v (sliceAt 42 t3 none (some t38) none) w λt39 w=>v (ln 42 3 t39) w λt41 w=>v (loadAt 46 t4) w λt42 w=>v (loadAt 70 t6) w λt43 w=>c 108 #[t42,t43] w λt44 w=>v (b .add t41 t44) w λt45 w=>v (b .gtr t45 (i64 8)) w λt46 w=>aO t46 (R (.tuple #[bT,(i64 10)]) w) (v (build 266 #[]) w λt47 w=>v (box 266 t47) w λt48 w=>fl 70 t6 0 3 w λt50 w=>c 139 #[t50] w λt51 w=>∃ (I1:NP 1) (μ1:NF 1),I1 (i64 0) w /\
 ∀ t15 w27,I1 t15 w27->∀ _f:bQ,v (ln 9 3 t51) w27 λt54 w=>v (b .lss t15 t54) w λt55 w29=>aO t55 (v (index 9 t51 t15) w29 λt60 w=>v (et .eql 5 60 t60 (Value.int IntKind.u8 97)) w λt61 w31=>aO t61 (Go.Vc.aI (t48) /\
 fl 266 t48 0 4 w31 λt66 w=>gk t66 false t33 w λt68 w=>gk t66 false t15 w λt69 w=>g t66 false (indexAt 42 t68 t69) w λt70 w=>g t66 false (loadAt 3 t70) w λt71 w=>gd t66 false (λK=> c 147 #[t71] w K) w λt72 w=>g t66 false (Op.unary UnOp.not t72) w λt73 w=>aN t66 (.bool true) t73 λt74=>Go.Vc.aI (t48) /\
 v (fieldAt 266 t48 0) w λt76 w=>u (storeAt 4 t76 t74) w λ_ w=>v (b .add t15 (i64 1)) w λt57 w=>I1 t57 w/\μ1 t57 w < μ1 t15 w27) (Go.Vc.aI (t48) /\
 fl 266 t48 0 4 w31 λt81 w=>gk t81 false t33 w λt83 w=>gk t81 false t15 w λt84 w=>g t81 false (indexAt 42 t83 t84) w λt85 w=>g t81 false (loadAt 3 t85) w λt86 w=>gd t81 false (λK=> c 148 #[t86] w K) w λt87 w=>g t81 false (Op.unary UnOp.not t87) w λt88 w=>aN t81 (.bool true) t88 λt89=>Go.Vc.aI (t48) /\
 v (fieldAt 266 t48 0) w λt91 w=>u (storeAt 4 t91 t89) w λ_ w=>Go.Vc.aI (t48) /\
 fl 266 t48 1 4 w λt96 w=>gk t96 false t51 w λt98 w=>gk t96 false t15 w λt99 w=>g t96 false (index 9 t98 t99) w λt100 w=>g t96 false (et .eql 5 100 t100 (Value.int IntKind.u8 112)) w λt101 w=>gk t96 false t101 w λt102 w=>gk t102 true t33 w λt103 w=>gk t102 true t15 w λt104 w=>g t102 true (indexAt 42 t103 t104) w λt105 w=>g t102 true (loadAt 3 t105) w λt106 w=>gd t102 true (λK=> c 149 #[t106] w K) w λt107 w=>gd t96 false (λK=> aN t102 t107 (.bool false) λv=> K v w) w λt108 w=>aN t96 (.bool true) t108 λt109=>Go.Vc.aI (t48) /\
 v (fieldAt 266 t48 1) w λt111 w=>u (storeAt 4 t111 t109) w λ_ w=>v (b .add t15 (i64 1)) w λt57_1 w=>I1 t57_1 w/\μ1 t57_1 w < μ1 t15 w27)) (∃ J2:NP 0,(fl 70 t6 0 3 w29 λt113 w=>v (et .eql 3 113 t113 (i64 3)) w λt115 w80=>aO t115 (v (loadAt 74 t5) w80 λt117 w=>fl 70 t6 1 3 w λt119 w=>c 146 #[t117,t119] w λt120 w=>x2 t120 w λt121 _ w=>il 42 t33 (i64 0) 3 w λt126 w=>c 151 #[t126,t121] w λt128 w=>c 150 #[t48,t128] w λ_ w=>J2 w) (v (et .eql 3 113 t113 (i64 34)) w80 λt131 w91=>aO t131 (aH w91 λS22 w=>yi S22 42 t33 (i64 0) 3 λt135=>yf S22 46 t4 1 42 λt137=>yf S22 70 t6 1 3 λt139=>yi S22 42 t137 t139 3 λt141=>c 151 #[t135,t141] w λt142 w=>S22 w /\
 c 150 #[t48,t142] w λ_ w=>J2 w) (v (et .eql 3 113 t113 (i64 22)) w91 λt145 w95=>aO t145 (aH w95 λS24 w=>Go.Vc.aI (t48) /\
 yf S24 266 t48 0 4 λt150=>gx t150 false t33 λt152=>gy t150 false S24 (indexAt 42 t152 (i64 0)) λt153=>gy t150 false S24 (loadAt 3 t153) λt154=>gd t150 false (λK=> c 148 #[t154] w K) w λt155 w=>S24 w /\
 gy t150 false S24 (Op.unary UnOp.not t155) λt156=>aN t150 (.bool true) t156 λt157=>gx t157 false t33 λt159=>gy t157 false S24 (indexAt 42 t159 (i64 1)) λt160=>gy t157 false S24 (loadAt 3 t160) λt161=>gx t157 false t33 λt163=>gy t157 false S24 (indexAt 42 t163 (i64 2)) λt164=>gy t157 false S24 (loadAt 3 t164) λt165=>gd t157 false (λK=> c 148 #[t161] w K) w λt162 w=>S24 w /\
 gd t157 false (λK=> c 148 #[t165] w K) w λt166 w=>S24 w /\
 gy t157 false S24 (e .neq 4 (.tmp 162) (.tmp 166) t162 t166) λt167=>aN t157 (.bool true) t167 λt168=>gx t168 false t33 λt170=>gy t168 false S24 (indexAt 42 t170 (i64 1)) λt171=>gy t168 false S24 (loadAt 3 t171) λt172=>gd t168 false (λK=> c 147 #[t172] w K) w λt173 w=>S24 w /\
 gx t168 false t173 λt174=>gx t174 true t33 λt175=>gy t174 true S24 (indexAt 42 t175 (i64 1)) λt176=>gy t174 true S24 (loadAt 3 t176) λt177=>gx t174 true t33 λt178=>gy t174 true S24 (indexAt 42 t178 (i64 2)) λt179=>gy t174 true S24 (loadAt 3 t179) λt180=>gy t174 true S24 (e .neq 3 (.tmp 177) (.tmp 180) t177 t180) λt181=>pN t168 false (λK=> aN t174 t181 (.bool false) K) λt182=>aN t168 (.bool true) t182 λt183=>Go.Vc.aI (t48) /\
 y S24 (fieldAt 266 t48 0) λt185=>u (storeAt 4 t185 t183) w λ_ w=>Go.Vc.aI (t48) /\
 fl 266 t48 1 4 w λt190 w=>gk t190 false t33 w λt192 w=>g t190 false (indexAt 42 t192 (i64 1)) w λt193 w=>g t190 false (loadAt 3 t193) w λt194 w=>gd t190 false (λK=> c 147 #[t194] w K) w λt195 w=>gk t190 false t195 w λt196 w=>gk t196 true t33 w λt197 w=>g t196 true (indexAt 42 t197 (i64 0)) w λt198 w=>g t196 true (loadAt 3 t198) w λt199 w=>gd t196 true (λK=> c 149 #[t199] w K) w λt200 w=>gd t190 false (λK=> aN t196 t200 (.bool false) λv=> K v w) w λt201 w=>aN t190 (.bool true) t201 λt202=>Go.Vc.aI (t48) /\
 v (fieldAt 266 t48 1) w λt204 w=>u (storeAt 4 t204 t202) w λ_ w=>J2 w) (v (et .eql 3 113 t113 (i64 30)) w95 λt206 w119=>aO t206 (Go.Vc.aI (t48) /\
 fl 266 t48 1 4 w119 λt211 w=>gk t211 false t33 w λt213 w=>g t211 false (indexAt 42 t213 (i64 0)) w λt214 w=>g t211 false (loadAt 3 t214) w λt215 w=>g t211 false (et .eql 3 215 t215 (i64 3)) w λt216 w=>gk t211 false t216 w λt217 w=>gk t217 true t33 w λt218 w=>g t217 true (indexAt 42 t218 (i64 2)) w λt219 w=>g t217 true (loadAt 3 t219) w λt220 w=>gd t217 true (λK=> c 149 #[t220] w K) w λt221 w=>gd t211 false (λK=> aN t217 t221 (.bool false) λv=> K v w) w λt222 w=>aN t211 (.bool true) t222 λt223=>Go.Vc.aI (t48) /\
 v (fieldAt 266 t48 1) w λt225 w=>u (storeAt 4 t225 t223) w λ_ w=>J2 w) (v (et .eql 3 113 t113 (i64 31)) w119 λt227 w137=>aO t227 (Go.Vc.aI (t48) /\
 fl 266 t48 1 4 w137 λt232 w=>gk t232 false t33 w λt234 w=>g t232 false (indexAt 42 t234 (i64 0)) w λt235 w=>g t232 false (loadAt 3 t235) w λt236 w=>g t232 false (et .eql 3 236 t236 (i64 3)) w λt237 w=>gk t232 false t237 w λt238 w=>gk t238 true t33 w λt239 w=>g t238 true (indexAt 42 t239 (i64 2)) w λt240 w=>g t238 true (loadAt 3 t240) w λt241 w=>g t238 true (et .eql 3 241 t241 (i64 4)) w λt242 w=>gd t232 false (λK=> aN t238 t242 (.bool false) λv=> K v w) w λt243 w=>aN t232 (.bool true) t243 λt244=>Go.Vc.aI (t48) /\
 v (fieldAt 266 t48 1) w λt246 w=>u (storeAt 4 t246 t244) w λ_ w=>J2 w) (v (et .eql 3 113 t113 (i64 36)) w137 λt248 w155=>aO t248 (Go.Vc.aI (t48) /\
 fl 266 t48 1 4 w155 λt253 w=>g t253 false (fieldAt 70 t6 1) w λt255 w=>g t253 false (loadAt 3 t255) w λt256 w=>g t253 false (et .eql 3 256 t256 (i64 1)) w λt257 w=>gk t253 false t257 w λt258 w=>gk t258 true t33 w λt259 w=>g t258 true (indexAt 42 t259 (i64 0)) w λt260 w=>g t258 true (loadAt 3 t260) w λt261 w=>g t258 true (et .eql 3 261 t261 (i64 4)) w λt262 w=>gd t253 false (λK=> aN t258 t262 (.bool false) λv=> K v w) w λt263 w=>aN t253 (.bool true) t263 λt264=>Go.Vc.aI (t48) /\
 v (fieldAt 266 t48 1) w λt266 w=>u (storeAt 4 t266 t264) w λ_ w=>J2 w) (v (et .eql 3 113 t113 (i64 37)) w155 λt268 w172=>aO t268 (∃ (I3:NP 1) (μ3:NF 1),I3 (i64 0) w172 /\
 ∀ t18 w173,I3 t18 w173->∀ _f:bQ,v (b .lss t18 t23) w173 λt271 w174=>aO t271 (aH w174 λS36 w=>yi S36 42 t33 t18 3 λt278=>yf S36 46 t4 3 44 λt280=>yf S36 70 t6 1 3 λt282=>y S36 (indexAt 44 t280 t282) λt283=>yf S36 74 t283 0 42 λt285=>yi S36 42 t285 t18 3 λt288=>c 151 #[t278,t288] w λt289 w=>S36 w /\
 c 150 #[t48,t289] w λ_ w=>S36 w /\
 v (b .add t18 (i64 1)) w λt273 w=>I3 t273 w/\μ3 t273 w < μ3 t18 w173) (J2 w174)) (v (et .eql 3 113 t113 (i64 38)) w172 λt292 w179=>aO t292 (∃ (I4:NP 1) (μ4:NF 1),I4 (i64 0) w179 /\
 ∀ t19 w180,I4 t19 w180->∀ _f:bQ,v (b .lss t19 t23) w180 λt295 w181=>aO t295 (aH w181 λS41 w=>yi S41 42 t33 t19 3 λt302=>yf S41 46 t4 2 43 λt304=>yf S41 70 t6 1 3 λt306=>y S41 (indexAt 43 t304 t306) λt307=>yf S41 180 t307 2 42 λt309=>yi S41 42 t309 t19 3 λt312=>c 151 #[t302,t312] w λt313 w=>S41 w /\
 c 150 #[t48,t313] w λ_ w=>S41 w /\
 v (b .add t19 (i64 1)) w λt297 w=>I4 t297 w/\μ4 t297 w < μ4 t19 w180) (J2 w181)) (v (et .eql 3 113 t113 (i64 39)) w179 λt316 w186=>aO t316 (v (b .gtr t23 (i64 0)) w186 λt318 w187=>aO t318 (aH w187 λS44 w=>yi S44 42 t33 (i64 0) 3 λt322=>yf S44 74 t5 1 3 λt324=>c 151 #[t322,t324] w λt325 w=>S44 w /\
 c 150 #[t48,t325] w λ_ w=>J2 w) (J2 w187)) (J2 w186)))))))))) /\
 ∀ w:Ω,J2 w->∀ _f:bQ,Go.Vc.aI (t48) /\
 fl 266 t48 0 4 w λt330 w=>aO t330 (R (.tuple #[bT,(i64 11)]) w) (Go.Vc.aI (t48) /\
 fl 266 t48 1 4 w λt334 w=>aO t334 (R (.tuple #[bT,(i64 12)]) w) (aH w λS49 w=>y S49 (loadAt 46 t4) λt338=>y S49 (loadAt 74 t5) λt339=>y S49 (loadAt 70 t6) λt340=>v (buildSlice 42 0 #[]) w λt335 w=>S49 w /\
 v (Builtin.append_ #[42,42] 42 #[t335,t39]) w λt337 w=>S49 w /\
 c 152 #[t338,t339,t340,t33] w λt342 w=>S49 w /\
 v (Builtin.append_ #[42,42] 42 #[t337,t342]) w λt343 w=>S49 w /\
 R (.tuple #[t343,(i64 0)]) w)))))
theorem aIy (h:LQ t0 t1 t2 t3 w R):aC prog 113 #[t0,t1,t2,t3] w R:=dw [l,l,lo [15],l,l,l,dr 0 11 2047 (tk (rg 0 9) (.only 10 (.last 11))),dr 0 40 1099511627775 (tk (rg 0 8) (.only 9 (tk (rg 10 15++[17,18,19]) (.only 16 (.only 20 (tk (rg 21 26) (.only 27 (tk (rg 28 39) (.last 40))))))))),l,lo [18],l,dr 0 17 131071 (tk (rg 0 14) (.only 15 (.only 16 .done))),l,lo [19],l,dr 0 17 131071 (tk (rg 0 14) (.only 15 (.only 16 .done))),l,dr 0 7 127 (tk (rg 0 5) (.only 6 (.last 7))),jn [],l,l,dr 0 11 2047 (tk ([1]++rg 3 6) (.only 0 (.only 2 (.only 7 (.only 8 (.take 9 (.take 10 .done)))))))] func113 h
def LP (t0 t1:O) (w:Ω) (R:O->Ω->Prop):Prop:=
 v (box 70 t0) w λt2 w=>fl 70 t2 0 3 w λt6 w=>v (et .eql 3 6 t6 (i64 23)) w λt8 w4=>aO t8 (fl 70 t2 1 3 w4 λt10 w=>v (buildSlice 42 1 #[(0,t10)]) w λt11 w=>R t11 w) (v (et .eql 3 6 t6 (i64 24)) w4 λt13 w8=>aO t13 (v (b .add t1 (i64 1)) w8 λt15 w=>fl 70 t2 1 3 w λt17 w=>v (buildSlice 42 2 #[(0,t15),(1,t17)]) w λt18 w=>R t18 w) (v (et .eql 3 6 t6 (i64 39)) w8 λt20 w=>aO t20 (R bT w) (v (b .add t1 (i64 1)) w λt22 w=>v (buildSlice 42 1 #[(0,t22)]) w λt23 w=>R t23 w)))
theorem aIx (h:LP t0 t1 w R):aC prog 114 #[t0,t1] w R:=dw [] func114 h
def LN (t0 t1:O) (w:Ω) (R:O->Ω->Prop):Prop:=
 v (ln 42 3 t0) w λt11 w=>v (ln 42 3 t1) w λt13 w=>v (e .neq 3 (.tmp 11) (.tmp 13) t11 t13) w λt14 w=>aO t14 (R (.tuple #[bT,(.bool false)]) w) (∃ (I1:NP 2) (μ1:NF 2),I1 bT (i64 0) w /\
 ∀ t6 t7 w4,I1 t6 t7 w4->∀ _f:bQ,v (ln 42 3 t0) w4 λt17 w=>v (b .lss t7 t17) w λt18 w6=>aO t18 (aH w6 λS7 w=>yi S7 42 t0 t7 3 λt25=>yi S7 42 t1 t7 3 λt29=>c 153 #[t25,t29] w λt30 w=>S7 w /\
 y S7 (extract t30 0) λt31=>y S7 (extract t30 1) λt32=>v (Op.unary UnOp.not t32) w λt34 w=>aO t34 (R (.tuple #[bT,(.bool false)]) w) (v (buildSlice 42 1 #[(0,t31)]) w λt37 w=>v (Builtin.append_ #[42,42] 42 #[t6,t37]) w λt38 w=>v (b .add t7 (i64 1)) w λt20 w=>I1 t38 t20 w/\μ1 t38 t20 w < μ1 t6 t7 w4)) (R (.tuple #[t6,(.bool true)]) w6))
theorem aIw (h:LN t0 t1 w R):aC prog 115 #[t0,t1] w R:=dw [l,lo [6,7],l,dr 0 14 16383 (tk (rg 0 7) (.only 8 (tk (rg 9 13) .done)))] func115 h
def LM (t0 t1:O) (w:Ω) (R:O->Ω->Prop):Prop:=
 v (ln 42 3 t0) w λt7 w=>v (ln 42 3 t1) w λt9 w=>v (e .neq 3 (.tmp 7) (.tmp 9) t7 t9) w λt10 w=>aO t10 (R (.bool false) w) (∃ (I1:NP 1) (μ1:NF 1),I1 (i64 0) w /\
 ∀ t5 w4,I1 t5 w4->∀ _f:bQ,v (ln 42 3 t0) w4 λt13 w=>v (b .lss t5 t13) w λt14 w6=>aO t14 (aH w6 λS6 w=>yi S6 42 t0 t5 3 λt20=>yi S6 42 t1 t5 3 λt24=>y S6 (e .neq 3 (.tmp 20) (.tmp 24) t20 t24) λt25=>aO t25 (R (.bool false) w) (v (b .add t5 (i64 1)) w λt16 w=>I1 t16 w/\μ1 t16 w < μ1 t5 w4)) (R (.bool true) w6))
theorem aIv (h:LM t0 t1 w R):aC prog 116 #[t0,t1] w R:=dw [l,lo [5],l,dr 0 9 511 (tk (rg 0 8) .done)] func116 h
def LL (t0:O) (w:Ω) (R:O->Ω->Prop):Prop:=
 v (et .eql 42 3 t0 bT) w λt4 w=>aO t4 (R bT w) (v (buildSlice 42 0 #[]) w λt5 w=>v (Builtin.append_ #[42,42] 42 #[t5,t0]) w λt7 w=>R t7 w)
theorem aIu (h:LL t0 w R):aC prog 122 #[t0] w R:=dw [] func122 h
def LK (t0:O) (w:Ω) (R:O->Ω->Prop):Prop:=
 v (et .eql 43 3 t0 bT) w λt4 w=>aO t4 (R bT w) (v (buildSlice 43 0 #[]) w λt5 w=>v (Builtin.append_ #[43,43] 43 #[t5,t0]) w λt7 w=>R t7 w)
theorem aIt (h:LK t0 w R):aC prog 123 #[t0] w R:=dw [] func123 h
def LJ (t0:O) (w:Ω) (R:O->Ω->Prop):Prop:=
 v (et .eql 44 3 t0 bT) w λt4 w=>aO t4 (R bT w) (v (buildSlice 44 0 #[]) w λt5 w=>v (Builtin.append_ #[44,44] 44 #[t5,t0]) w λt7 w=>R t7 w)
theorem aIs (h:LJ t0 w R):aC prog 124 #[t0] w R:=dw [] func124 h
def LI (t0:O) (w:Ω) (R:O->Ω->Prop):Prop:=
 v (et .eql 71 3 t0 bT) w λt4 w=>aO t4 (R bT w) (v (buildSlice 71 0 #[]) w λt5 w=>v (Builtin.append_ #[71,71] 71 #[t5,t0]) w λt7 w=>R t7 w)
theorem aIr (h:LI t0 w R):aC prog 125 #[t0] w R:=dw [] func125 h
def LH (t0 t1 t2:O) (w:Ω) (R:O->Ω->Prop):Prop:=
 c 177 #[t0] w λt9 w=>v (Op.unary UnOp.neg t9) w λt10 w=>v (binOp .and 21 t1 t10) w λt13 w=>v (binOp .andNot 21 t2 t10) w λt16 w=>v (binOp .or 21 t13 t16) w λt17 w=>R t17 w
theorem aIq (h:LH t0 t1 t2 w R):aC prog 129 #[t0,t1,t2] w R:=dw [] func129 h
def LG (t0 t1 t2 t3 t4:O) (w:Ω) (R:O->Ω->Prop):Prop:=
 v (box 254 t1) w λt6 w=>fl 254 t6 0 3 w λt21 w=>c 11 #[t21,(i64 16)] w λt22 w=>∃ J1:NP 1,(v (et .eql 3 22 t22 (i64 0)) w λt31 w=>aO t31 (J1 t31 w) (v (et .eql 3 22 t22 (i64 1)) w λt32 w=>aO t32 (J1 t32 w) (v (et .eql 3 22 t22 (i64 2)) w λt33 w=>J1 t33 w))) /\
 ∀ t30 w8,J1 t30 w8->∀ _f:bQ,aO t30 (Go.Vc.aI (t0) /\
 fl 252 t0 3 42 w8 λt37 w=>v (ln 42 3 t37) w λt38 w=>v (et .eql 3 38 t38 (i64 0)) w λt39 w=>aO t39 (R (.tuple #[]) w) (aH w λS8 w=>yf S8 254 t6 1 3 λt41=>Go.Vc.aI (t0) /\
 yf S8 252 t0 3 42 λt45=>y S8 (ln 42 3 t45) λt46=>c 11 #[t41,t46] w λt47 w=>S8 w /\
 Go.Vc.aI (t0) /\
 fl 252 t0 3 42 w λt52 w=>il 42 t52 t47 3 w λt55 w=>c 131 #[t0,t55] w λ_ w=>c 132 #[t0,(i64 3),t47,(i64 0)] w λ_ w=>R (.tuple #[]) w)) (∃ J2:NP 1,(v (et .eql 3 22 t22 (i64 3)) w8 λt61 w=>aO t61 (J2 t61 w) (v (et .eql 3 22 t22 (i64 4)) w λt62 w=>J2 t62 w)) /\
 ∀ t60 w25,J2 t60 w25->∀ _f:bQ,aO t60 (fl 254 t6 1 3 w25 λt64 w=>c 11 #[t64,(i64 2)] w λt65 w=>v (b .add (i64 3) t65) w λt66 w=>c 178 #[t0,t66] w λ_ w=>c 179 #[t0] w λ_ w=>v (b .sub t66 (i64 2)) w λt74 w=>c 131 #[t0,t74] w λ_ w=>c 132 #[t0,(i64 30),(i64 0),(i64 0)] w λ_ w=>R (.tuple #[]) w) (v (et .eql 3 22 t22 (i64 5)) w25 λt79 w35=>aO t79 (fl 254 t6 1 3 w35 λt81 w=>c 11 #[t81,(i64 4)] w λt82 w=>v (b .add (i64 1) t82) w λt85 w=>c 131 #[t0,t85] w λ_ w=>c 132 #[t0,(i64 34),t82,(i64 0)] w λ_ w=>R (.tuple #[]) w) (v (et .eql 3 22 t22 (i64 6)) w35 λt91 w42=>aO t91 (fl 254 t6 1 3 w42 λt93 w=>c 11 #[t93,(i64 2)] w λt94 w=>v (b .add (i64 3) t94) w λt95 w=>fl 254 t6 2 3 w λt97 w=>c 11 #[t97,(i64 2)] w λt98 w=>v (b .add (i64 3) t98) w λt99 w=>∃ J3:NP 1,(v (et .eql 3 100 t95 (i64 3)) w λt101 w=>aO t101 (J3 t95 w) (J3 t99 w)) /\
 ∀ t14 w,J3 t14 w->∀ _f:bQ,c 178 #[t0,t95] w λ_ w=>c 179 #[t0] w λ_ w=>c 178 #[t0,t14] w λ_ w=>c 179 #[t0] w λ_ w=>c 179 #[t0] w λ_ w=>c 132 #[t0,(i64 31),(i64 0),(i64 0)] w λ_ w=>R (.tuple #[]) w) (∃ J4:NP 1,(v (et .eql 3 22 t22 (i64 7)) w42 λt118 w=>aO t118 (J4 t118 w) (v (et .eql 3 22 t22 (i64 8)) w λt119 w=>J4 t119 w)) /\
 ∀ t117 w61,J4 t117 w61->∀ _f:bQ,aO t117 (fl 254 t6 1 3 w61 λt121 w=>c 11 #[t121,(i64 2)] w λt122 w=>v (b .add (i64 1) t122) w λt123 w=>v (b .add (i64 3) t123) w λt126 w=>v (b .sub t126 (i64 1)) w λt127 w=>c 178 #[t0,t127] w λ_ w=>c 179 #[t0] w λ_ w=>c 179 #[t0] w λ_ w=>c 132 #[t0,(i64 36),t123,(i64 0)] w λ_ w=>R (.tuple #[]) w) (∃ J5:NP 1,(v (et .eql 3 22 t22 (i64 9)) w61 λt137 w=>aO t137 (J5 t137 w) (v (et .eql 3 22 t22 (i64 10)) w λt138 w=>J5 t138 w)) /\
 ∀ t136 w74,J5 t136 w74->∀ _f:bQ,aO t136 (c 180 #[t0] w74 λ_ w=>c 132 #[t0,(i64 24),(i64 (-1)),(i64 0)] w λ_ w=>fl 254 t6 1 3 w λt144 w=>c 11 #[t144,(i64 4)] w λt145 w=>v (et .eql 3 145 t145 (i64 0)) w λt146 w=>gk t146 true t2 w λt148 w=>g t146 true (ln 42 3 t148) w λt149 w=>g t146 true (b .gtr t149 (i64 0)) w λt150 w83=>aN t146 t150 (.bool false) λt151=>aO t151 (aH w83 λS45 w=>Go.Vc.aI (t0) /\
 yf S45 252 t0 0 71 λt155=>Go.Vc.aI (t0) /\
 yf S45 252 t0 0 71 λt159=>y S45 (ln 71 3 t159) λt160=>y S45 (b .sub t160 (i64 1)) λt161=>yf S45 254 t6 2 3 λt164=>y S45 (ln 42 3 t2) λt166=>c 11 #[t164,t166] w λt167 w=>S45 w /\
 yi S45 42 t2 t167 3 λt169=>y S45 (indexAt 71 t155 t161) λt170=>y S45 (fieldAt 70 t170 1) λt171=>u (storeAt 3 t171 t169) w λ_ w=>R (.tuple #[]) w) (R (.tuple #[]) w83)) (∃ J6:NP 1,(v (et .eql 3 22 t22 (i64 11)) w74 λt173 w=>aO t173 (J6 t173 w) (v (et .eql 3 22 t22 (i64 12)) w λt174 w=>J6 t174 w)) /\
 ∀ t172 w90,J6 t172 w90->∀ _f:bQ,aO t172 (fl 254 t6 1 3 w90 λt176 w=>v (ln 44 3 t3) w λt178 w=>c 11 #[t176,t178] w λt179 w=>∃ J7:NP 1,(v (et .eql 3 180 t179 (i64 0)) w λt181 w=>g t181 true (fieldAt 254 t6 2) w λt183 w=>g t181 true (loadAt 3 t183) w λt184 w=>g t181 true (b .rem t184 (i64 5)) w λt185 w=>g t181 true (b .gtr t185 (i64 0)) w λt186 w99=>aN t181 t186 (.bool false) λt187=>aO t187 (v (ln 44 3 t3) w99 λt189 w=>v (b .sub t189 (i64 1)) w λt190 w=>J7 t190 w) (J7 t179 w99)) /\
 ∀ t16 w,J7 t16 w->∀ _f:bQ,∃ (I8:NP 1) (μ8:NF 1),I8 (i64 0) w /\
 ∀ t17 w104,I8 t17 w104->∀ _f:bQ,jl 44 t3 t16 74 0 42 w104 λt196 w=>v (ln 42 3 t196) w λt197 w=>v (b .lss t17 t197) w λt198 w109=>aO t198 (jl 44 t3 t16 74 0 42 w109 λt206 w=>il 42 t206 t17 3 w λt209 w=>c 131 #[t0,t209] w λ_ w=>v (b .add t17 (i64 1)) w λt200 w=>I8 t200 w/\μ8 t200 w < μ8 t17 w104) (c 132 #[t0,(i64 37),t16,(i64 0)] w109 λ_ w=>jl 44 t3 t16 74 1 3 w λt218 w=>v (et .neq 3 218 t218 (i64 0)) w λt219 w121=>aO t219 (c 132 #[t0,(i64 4),(i64 0),(i64 0)] w121 λ_ w=>R (.tuple #[]) w) (R (.tuple #[]) w121))) (v (et .eql 3 22 t22 (i64 13)) w90 λt223 w123=>aO t223 (v (ln 43 3 t4) w123 λt225 w=>v (et .eql 3 225 t225 (i64 0)) w λt226 w=>aO t226 (R (.tuple #[]) w) (fl 254 t6 1 3 w λt228 w=>v (ln 43 3 t4) w λt230 w=>c 11 #[t228,t230] w λt231 w=>∃ (I9:NP 1) (μ9:NF 1),I9 (i64 0) w /\
 ∀ t19 w130,I9 t19 w130->∀ _f:bQ,jl 43 t4 t231 180 2 42 w130 λt237 w=>v (ln 42 3 t237) w λt238 w=>v (b .lss t19 t238) w λt239 w135=>aO t239 (jl 43 t4 t231 180 2 42 w135 λt247 w=>il 42 t247 t19 3 w λt250 w=>c 131 #[t0,t250] w λ_ w=>v (b .add t19 (i64 1)) w λt241 w=>I9 t241 w/\μ9 t241 w < μ9 t19 w130) (c 132 #[t0,(i64 38),t231,(i64 0)] w135 λ_ w=>jl 43 t4 t231 180 3 3 w λt259 w=>v (et .neq 3 259 t259 (i64 0)) w λt260 w147=>aO t260 (c 132 #[t0,(i64 4),(i64 0),(i64 0)] w147 λ_ w=>R (.tuple #[]) w) (R (.tuple #[]) w147)))) (v (et .eql 3 22 t22 (i64 14)) w123 λt264 w149=>aO t264 (c 180 #[t0] w149 λ_ w=>c 132 #[t0,(i64 5),(i64 0),(i64 0)] w λ_ w=>c 132 #[t0,(i64 4),(i64 0),(i64 0)] w λ_ w=>c 132 #[t0,(i64 4),(i64 0),(i64 0)] w λ_ w=>R (.tuple #[]) w) (fl 254 t6 1 3 w149 λt25 w=>v (b .rem t25 (i64 50)) w λt26 w=>c 132 #[t0,(i64 1),t26,(i64 0)] w λ_ w=>c 132 #[t0,(i64 4),(i64 0),(i64 0)] w λ_ w=>R (.tuple #[]) w)))))))))
theorem aIp (h:LG t0 t1 t2 t3 t4 w R):aC prog 130 #[t0,t1,t2,t3,t4] w R:=dw [jn [30],l,dr 0 9 511 (tk (rg 0 6) (.only 7 (.take 8 .done))),l,jn [60],jn [14],jn [117],jn [136],dr 0 20 1048575 (tk (rg 0 14) (.only 15 (tk (rg 16 19) (.last 20)))),jn [172],jn [16],lo [17],l,l,l,l,lo [19]] func130 h
def AK (t0 t1:O) (w:Ω) (R:O->Ω->Prop):Prop:=
 v (et .eql 3 4 t1 (i64 1)) w λt9 w1=>aO t9 (c 180 #[t0] w1 λ_ w=>R (.tuple #[]) w) (v (et .eql 3 4 t1 (i64 2)) w1 λt13 w3=>aO t13 (c 181 #[t0] w3 λ_ w=>R (.tuple #[]) w) (c 178 #[t0,t1] w3 λ_ w=>R (.tuple #[]) w))
theorem UG (h:AK t0 t1 w R):aC prog 131 #[t0,t1] w R:=dw [] func131 h
def AJ (t0 t1 t2 t3:O) (w:Ω) (R:O->Ω->Prop):Prop:=
 Go.Vc.aI (t0) /\
 fl 252 t0 0 71 w λt12 w=>v (build 70 #[(0,t1),(1,t2),(2,t3)]) w λt16 w=>v (buildSlice 71 1 #[(0,t16)]) w λt17 w=>v (Builtin.append_ #[71,71] 71 #[t12,t17]) w λt18 w=>Go.Vc.aI (t0) /\
 v (fieldAt 252 t0 0) w λt20 w=>u (storeAt 71 t20 t18) w λ_ w=>R (.tuple #[]) w
theorem UF (h:AJ t0 t1 t2 t3 w R):aC prog 132 #[t0,t1,t2,t3] w R:=dw [] func132 h
def AH (t0 t1 t2:O) (w:Ω) (R:O->Ω->Prop):Prop:=
 v (b .lss t1 (i64 0)) w λt12 w=>gk t12 false t1 w λt14 w=>gk t12 false t0 w λt15 w=>g t12 false (ln 24 3 t15) w λt16 w=>g t12 false (b .geq t14 t16) w λt17 w=>aN t12 (.bool true) t17 λt18=>gk t18 false t2 w λt20 w=>g t18 false (b .lss t20 (i64 0)) w λt21 w=>aN t18 (.bool true) t21 λt22=>gk t22 false t2 w λt24 w=>gk t22 false t0 w λt25 w=>gk t22 false t1 w λt26 w=>g t22 false (indexAt 24 t25 t26) w λt27 w=>g t22 false (fieldAt 46 t27 2) w λt28 w=>g t22 false (loadAt 43 t28) w λt29 w=>g t22 false (ln 43 3 t29) w λt30 w=>g t22 false (b .geq t24 t30) w λt31 w=>aN t22 (.bool true) t31 λt32=>aO t32 (R (.tuple #[(i64 0),(i64 0),(.bool false)]) w) (jl 24 t0 t1 46 2 43 w λt37 w=>il 43 t37 t2 180 w λt40 w=>st 180 t40 w λt9 w=>fl 180 t9 0 9 w λt43 w=>c 182 #[t0,t43] w λt44 w=>aH w λS5 w=>y S5 (b .lss t44 (i64 0)) λt46=>gy t46 false S5 (fieldAt 180 t9 1) λt48=>gy t46 false S5 (loadAt 3 t48) λt49=>gy t46 false S5 (b .lss t49 (i64 0)) λt50=>aN t46 (.bool true) t50 λt51=>gy t51 false S5 (fieldAt 180 t9 1) λt53=>gy t51 false S5 (loadAt 3 t53) λt54=>gx t51 false t0 λt55=>gx t51 false t44 λt56=>gy t51 false S5 (indexAt 24 t55 t56) λt57=>gy t51 false S5 (fieldAt 46 t57 4) λt58=>gy t51 false S5 (loadAt 42 t58) λt59=>gy t51 false S5 (ln 42 3 t59) λt60=>gy t51 false S5 (b .geq t54 t60) λt61=>aN t51 (.bool true) t61 λt62=>aO t62 (R (.tuple #[(i64 0),(i64 0),(.bool false)]) w) (aH w λS7 w=>y S7 (indexAt 24 t0 t44) λt65=>yf S7 46 t65 4 42 λt67=>yf S7 180 t9 1 3 λt69=>yi S7 42 t67 t69 3 λt71=>v (b .lss t71 (i64 0)) w λt73 w=>gk t73 false t71 w λt75 w=>gk t73 false t0 w λt76 w=>gk t73 false t44 w λt77 w=>g t73 false (indexAt 24 t76 t77) w λt78 w=>g t73 false (fieldAt 46 t78 3) w λt79 w=>g t73 false (loadAt 44 t79) w λt80 w=>g t73 false (ln 44 3 t80) w λt81 w=>g t73 false (b .geq t75 t81) w λt82 w=>aN t73 (.bool true) t82 λt83=>aO t83 (R (.tuple #[(i64 0),(i64 0),(.bool false)]) w) (jl 24 t0 t44 46 3 44 w λt88 w=>il 44 t88 t71 74 w λt91 w=>st 74 t91 w λt10 w=>fl 74 t10 0 42 w λt93 w=>fl 180 t9 2 42 w λt95 w=>c 183 #[t93,t95] w λt96 w=>v (Op.unary UnOp.not t96) w λt97 w=>g t97 false (fieldAt 74 t10 1) w λt99 w=>g t97 false (loadAt 3 t99) w λt100 w=>g t97 false (fieldAt 180 t9 3) w λt101 w=>g t97 false (loadAt 3 t101) w λt102 w=>g t97 false (e .neq 3 (.tmp 100) (.tmp 102) t100 t102) w λt103 w=>aN t97 (.bool true) t103 λt104=>aO t104 (R (.tuple #[(i64 0),(i64 0),(.bool false)]) w) (R (.tuple #[t44,t71,(.bool true)]) w))))
theorem aIo (h:AH t0 t1 t2 w R):aC prog 133 #[t0,t1,t2] w R:=dw [l,dr 0 18 262143 (tk (rg 0 17) .done),l,l,dr 0 10 1023 (tk (rg 0 9) .done)] func133 h
def LF (t0 t1:O) (w:Ω) (R:O->Ω->Prop):Prop:=
 Go.Vc.aI (t0) /\
 fl 114 t0 5 37 w λt8 w=>v (buildSlice 37 1 #[(0,t1)]) w λt10 w=>v (Builtin.append_ #[37,37] 37 #[t8,t10]) w λt11 w=>Go.Vc.aI (t0) /\
 v (fieldAt 114 t0 5) w λt13 w=>u (storeAt 37 t13 t11) w λ_ w=>R (.tuple #[]) w
theorem aIn (h:LF t0 t1 w R):aC prog 134 #[t0,t1] w R:=dw [] func134 h
def LD (t0:O) (w:Ω) (R:O->Ω->Prop):Prop:=
 c 91 #[t0,(i64 1)] w λt4 w=>il 37 t4 (i64 0) 21 w λt6 w=>R t6 w
theorem aIm (h:LD t0 w R):aC prog 135 #[t0] w R:=dw [] func135 h
def oE (t0 t1 t2 t3 t4 t5 t6:O) (w:Ω) (R:O->Ω->Prop):Prop:=
 v (et .eql 26 19 t0 (Value.pointer none)) w λt20 w=>gk t20 false t6 w λt22 w=>g t20 false (ln 37 3 t22) w λt23 w=>gk t20 false t3 w λt24 w=>gd t20 false (λK=> c 94 #[t24] w K) w λt25 w=>g t20 false (e .neq 3 (.tmp 23) (.tmp 25) t23 t25) w λt26 w=>aN t20 (.bool true) t26 λt27=>aO t27 (R (.tuple #[(Value.int IntKind.i32 0),(i64 27013)]) w) (v (build 283 #[(0,t0),(1,t1),(2,t2),(3,t4),(4,t5)]) w λt33 w=>st 283 t33 w λt16 w=>v (ln 37 3 t6) w λt35 w=>∃ (I1:NP 1) (μ1:NF 1),I1 (i64 0) w /\
 ∀ t36 w12,I1 t36 w12->∀ _f:bQ,v (b .lss t36 t35) w12 λt37 w13=>aO t37 (il 37 t6 t36 21 w13 λt39 w=>fl 283 t16 5 42 w λt41 w=>v (convert 21 3 t39) w λt43 w=>v (buildSlice 42 1 #[(0,t43)]) w λt44 w=>v (Builtin.append_ #[42,42] 42 #[t41,t44]) w λt45 w=>v (fieldAt 283 t16 5) w λt46 w=>u (storeAt 42 t46 t45) w λ_ w=>v (b .add t36 (i64 1)) w λt47 w=>I1 t47 w/\μ1 t47 w < μ1 t36 w12) (v (et .eql 3 48 t3 (i64 17)) w13 λt50 w24=>aO t50 (aH w24 λS11 w=>yi S11 37 t6 (i64 0) 21 λt53=>yi S11 37 t6 (i64 1) 21 λt56=>c 185 #[t53,t56] w λt57 w=>S11 w /\
 y S11 (extract t57 0) λt58=>y S11 (extract t57 1) λt59=>c 184 #[t58,t59] w λt60 w=>S11 w /\
 y S11 (extract t60 0) λt61=>y S11 (extract t60 1) λt62=>R (.tuple #[t61,t62]) w) (v (et .eql 3 48 t3 (i64 18)) w24 λt64 w28=>aO t64 (aH w28 λS13 w=>yi S13 37 t6 (i64 0) 21 λt67=>yi S13 37 t6 (i64 1) 21 λt70=>c 186 #[t67,t70] w λt71 w=>S13 w /\
 y S13 (extract t71 0) λt72=>y S13 (extract t71 1) λt73=>c 184 #[t72,t73] w λt74 w=>S13 w /\
 y S13 (extract t74 0) λt75=>y S13 (extract t74 1) λt76=>R (.tuple #[t75,t76]) w) (v (et .eql 3 48 t3 (i64 27)) w28 λt78 w32=>aO t78 (v (loadAt 283 t16) w32 λt79 w=>c 187 #[t79] w λt80 w=>x2 t80 w λt81 t82 w=>R (.tuple #[t81,t82]) w) (v (et .eql 3 48 t3 (i64 28)) w32 λt84 w37=>aO t84 (v (loadAt 283 t16) w37 λt85 w=>c 188 #[t85] w λt86 w=>x2 t86 w λt87 t88 w=>R (.tuple #[t87,t88]) w) (v (et .eql 3 48 t3 (i64 29)) w37 λt90 w42=>aO t90 (v (loadAt 283 t16) w42 λt91 w=>c 189 #[t91] w λt92 w=>x2 t92 w λt93 t94 w=>R (.tuple #[t93,t94]) w) (v (et .eql 3 48 t3 (i64 30)) w42 λt96 w47=>aO t96 (v (loadAt 283 t16) w47 λt97 w=>c 190 #[t97] w λt98 w=>x2 t98 w λt99 t100 w=>R (.tuple #[t99,t100]) w) (v (et .eql 3 48 t3 (i64 31)) w47 λt102 w52=>aO t102 (v (loadAt 283 t16) w52 λt103 w=>c 191 #[t103] w λt104 w=>x2 t104 w λt105 t106 w=>R (.tuple #[t105,t106]) w) (v (et .eql 3 48 t3 (i64 32)) w52 λt108 w57=>aO t108 (v (loadAt 283 t16) w57 λt109 w=>c 192 #[t109] w λt110 w=>x2 t110 w λt111 t112 w=>R (.tuple #[t111,t112]) w) (v (loadAt 283 t16) w57 λt113 w=>c 193 #[t113] w λt114 w=>x2 t114 w λt115 t116 w=>R (.tuple #[t115,t116]) w))))))))))
theorem xS (h:oE t0 t1 t2 t3 t4 t5 t6 w R):aC prog 136 #[t0,t1,t2,t3,t4,t5,t6] w R:=dw [l,lo [36],l,l,l,dr 0 14 16383 (tk (rg 0 5) (.only 6 (.take 7 (.take 8 (.only 9 (tk (rg 10 13) .done)))))),l,dr 0 14 16383 (tk (rg 0 5) (.only 6 (.take 7 (.take 8 (.only 9 (tk (rg 10 13) .done))))))] func136 h
def LC (t0 t1 t2 t3:O) (w:Ω) (R:O->Ω->Prop):Prop:=
 c 37 #[t0,t1,t2] w λt15 w=>x2 t15 w λ_ t17 w=>v (Op.unary UnOp.not t17) w λt19 w=>aO t19 (R (.bool false) w) (Go.Vc.aI (t0) /\
 fl 134 t0 2 132 w λt23 w=>il 132 t23 t1 37 w λt26 w=>v (indexAt 37 t26 t2) w λt29 w=>u (storeAt 21 t29 t3) w λ_ w=>R (.bool true) w)
theorem aIl (h:LC t0 t1 t2 t3 w R):aC prog 137 #[t0,t1,t2,t3] w R:=dw [] func137 h
def AG (t0 t1:O) (w:Ω) (R:O->Ω->Prop):Prop:=
 v (et .eql 3 7 t1 (i64 15)) w λt9 w1=>aO t9 (c 135 #[t0] w1 λt11 w=>c 175 #[t11] w λt12 w=>R t12 w) (v (et .eql 3 7 t1 (i64 16)) w1 λt14 w4=>aO t14 (c 135 #[t0] w4 λt16 w=>c 176 #[t16] w λt17 w=>R t17 w) (v (et .eql 3 7 t1 (i64 26)) w4 λt19 w7=>aO t19 (c 135 #[t0] w7 λt21 w=>c 172 #[t21,(Value.int IntKind.i32 0)] w λt22 w=>R t22 w) (v (et .eql 3 7 t1 (i64 22)) w7 λt24 w10=>aO t24 (c 91 #[t0,(i64 3)] w10 λt26 w=>aH w λS10 w=>yi S10 37 t26 (i64 0) 21 λt29=>yi S10 37 t26 (i64 1) 21 λt32=>yi S10 37 t26 (i64 2) 21 λt35=>c 129 #[t29,t32,t35] w λt36 w=>S10 w /\
 R t36 w) (c 91 #[t0,(i64 2)] w10 λt38 w=>aH w λS12 w=>yi S12 37 t38 (i64 0) 21 λt42=>yi S12 37 t38 (i64 1) 21 λt45=>c 194 #[t1,t42,t45] w λt46 w=>S12 w /\
 R t46 w))))
theorem aIk (h:AG t0 t1 w R):aC prog 138 #[t0,t1] w R:=dw [dr 0 11 2047 (tk (rg 0 8) (.only 9 (.take 10 .done))),l,l,dr 0 9 511 (tk (rg 0 6) (.only 7 (.take 8 .done)))] func138 h
def LB (t0:O) (w:Ω) (R:O->Ω->Prop):Prop:=
 ∃ J1:NP 1,(v (et .eql 3 3 t0 (i64 6)) w λt5 w=>aO t5 (J1 t5 w) (v (et .eql 3 3 t0 (i64 7)) w λt6 w=>aO t6 (J1 t6 w) (v (et .eql 3 3 t0 (i64 8)) w λt7 w=>aO t7 (J1 t7 w) (v (et .eql 3 3 t0 (i64 9)) w λt8 w=>aO t8 (J1 t8 w) (v (et .eql 3 3 t0 (i64 10)) w λt9 w=>aO t9 (J1 t9 w) (v (et .eql 3 3 t0 (i64 11)) w λt10 w=>aO t10 (J1 t10 w) (v (et .eql 3 3 t0 (i64 12)) w λt11 w=>aO t11 (J1 t11 w) (v (et .eql 3 3 t0 (i64 13)) w λt12 w=>aO t12 (J1 t12 w) (v (et .eql 3 3 t0 (i64 14)) w λt13 w=>aO t13 (J1 t13 w) (v (et .eql 3 3 t0 (i64 19)) w λt14 w=>aO t14 (J1 t14 w) (v (et .eql 3 3 t0 (i64 20)) w λt15 w=>aO t15 (J1 t15 w) (v (et .eql 3 3 t0 (i64 21)) w λt16 w=>J1 t16 w)))))))))))) /\
 ∀ t4 w,J1 t4 w->∀ _f:bQ,aO t4 (R (Value.string { data:=#[105,105] }) w) (∃ J2:NP 1,(v (et .eql 3 3 t0 (i64 15)) w λt18 w=>aO t18 (J2 t18 w) (v (et .eql 3 3 t0 (i64 16)) w λt19 w=>J2 t19 w)) /\
 ∀ t17 w,J2 t17 w->∀ _f:bQ,aO t17 (R (Value.string { data:=#[105] }) w) (∃ J3:NP 1,(v (et .eql 3 3 t0 (i64 17)) w λt21 w=>aO t21 (J3 t21 w) (v (et .eql 3 3 t0 (i64 18)) w λt22 w=>J3 t22 w)) /\
 ∀ t20 w,J3 t20 w->∀ _f:bQ,aO t20 (R (Value.string { data:=#[112,112] }) w) (∃ J4:NP 1,(v (et .eql 3 3 t0 (i64 24)) w λt24 w=>aO t24 (J4 t24 w) (v (et .eql 3 3 t0 (i64 27)) w λt25 w=>J4 t25 w)) /\
 ∀ t23 w,J4 t23 w->∀ _f:bQ,aO t23 (R (Value.string { data:=#[112] }) w) (∃ J5:NP 1,(v (et .eql 3 3 t0 (i64 26)) w λt27 w=>aO t27 (J5 t27 w) (v (et .eql 3 3 t0 (i64 28)) w λt28 w=>J5 t28 w)) /\
 ∀ t26 w,J5 t26 w->∀ _f:bQ,aO t26 (R (Value.string { data:=#[97] }) w) (v (et .eql 3 3 t0 (i64 29)) w λt30 w=>aO t30 (R (Value.string { data:=#[97,112] }) w) (v (et .eql 3 3 t0 (i64 30)) w λt32 w=>aO t32 (R (Value.string { data:=#[97,112,105] }) w) (v (et .eql 3 3 t0 (i64 31)) w λt34 w28=>aO t34 (aO t34 (R (Value.string { data:=#[97,112,97,112,112] }) w28) (v (et .eql 3 3 t0 (i64 36)) w28 λt37 w=>aO t37 (R (Value.string { data:=#[97,112,112] }) w) (R (Value.string { data:=#[] }) w))) (v (et .eql 3 3 t0 (i64 32)) w28 λt35 w=>aO t35 (R (Value.string { data:=#[97,112,97,112,112] }) w) (v (et .eql 3 3 t0 (i64 36)) w λt37_1 w=>aO t37_1 (R (Value.string { data:=#[97,112,112] }) w) (R (Value.string { data:=#[] }) w))))))))))
theorem aIj (h:LB t0 w R):aC prog 139 #[t0] w R:=dw [jn [4],jn [17],jn [20],jn [23],jn [26]] func139 h
def LA (t0:O) (w:Ω) (R:O->Ω->Prop):Prop:=
 ∃ (I1:NP 2) (μ1:NF 2),I1 (i64 0) (i64 2) w /\
 ∀ t3 t4 w1,I1 t3 t4 w1->∀ _f:bQ,Go.Vc.aI (t0) /\
 fl 156 t0 1 154 w1 λt9 w=>v (ln 154 3 t9) w λt10 w=>v (b .lss t4 t10) w λt11 w6=>aO t11 (v (b .add t3 (i64 8)) w6 λt15 w=>Go.Vc.aI (t0) /\
 fl 156 t0 1 154 w λt19 w=>jl 154 t19 t4 127 4 23 w λt23 w=>v (ln 23 3 t23) w λt24 w=>v (b .add t15 t24) w λt25 w=>v (b .add t4 (i64 1)) w λt13 w=>I1 t25 t13 w/\μ1 t25 t13 w < μ1 t3 t4 w1) (R t3 w6)
theorem aIi (h:LA t0 w R):aC prog 140 #[t0] w R:=dw [lo [3,4]] func140 h
def KZ (t0 t1:O) (w:Ω) (R:O->Ω->Prop):Prop:=
 v (box 127 t0) w λt2 w=>fl 127 t2 0 3 w λt6 w=>v (et .eql 3 6 t6 (i64 (-1))) w λt7 w=>g t7 false (fieldAt 127 t2 0) w λt9 w=>g t7 false (loadAt 3 t9) w λt10 w=>gk t7 false t1 w λt11 w=>g t7 false (e .eql 3 (.tmp 10) (.tmp 11) t10 t11) w λt12 w=>aN t7 (.bool true) t12 λt13=>g t13 false (fieldAt 127 t2 3) w λt15 w=>g t13 false (loadAt 4 t15) w λt16 w=>aN t13 (.bool true) t16 λt17=>R t17 w
theorem aIh (h:KZ t0 t1 w R):aC prog 141 #[t0,t1] w R:=dw [] func141 h
def KY (t0:O) (w:Ω) (R:O->Ω->Prop):Prop:=
 ∃ (I1:NP 1) (μ1:NF 1),I1 t0 w /\
 ∀ t0_1 w1,I1 t0_1 w1->∀ _f:bQ,v (ln 9 3 t0_1) w1 λt8 w=>v (b .gtr t8 (i64 0)) w λt9 w3=>aO t9 (v (index 9 t0_1 (i64 0)) w3 λt11 w=>v (binOp .lss 5 t11 (Value.int IntKind.u8 128)) w λt13 w5=>aO t13 (v (sliceAt 9 t0_1 (some (i64 1)) none none) w5 λt15 w=>∃ J2:NP 1,(v (ln 9 3 t15) w λt17 w=>v (b .gtr t17 (i64 8)) w λt18 w=>gk t18 true t15 w λt20 w=>gd t18 true (λK=> c 195 #[t20] w K) w λt21 w=>g t18 true (binOp .and 12 t21 (Value.int IntKind.u64 9259542123273814144)) w λt22 w=>g t18 true (et .eql 12 22 t22 (Value.int IntKind.u64 0)) w λt23 w12=>aN t18 t23 (.bool false) λt24=>aO t24 (v (sliceAt 9 t15 (some (i64 8)) none none) w12 λt26 w=>aH w λS7 w=>y S7 (ln 9 3 t26) λt28=>y S7 (b .gtr t28 (i64 16)) λt29=>gx t29 true t26 λt31=>gx t29 true t26 λt33=>gy t29 true S7 (sliceAt 9 t33 (some (i64 8)) none none) λt34=>gd t29 true (λK=> c 195 #[t31] w K) w λt32 w=>S7 w /\
 gd t29 true (λK=> c 195 #[t34] w K) w λt35 w17=>S7 w17 /\
 gy t29 true S7 (binOp .or 12 t32 t35) λt36=>gy t29 true S7 (binOp .and 12 t36 (Value.int IntKind.u64 9259542123273814144)) λt37=>gy t29 true S7 (et .eql 12 37 t37 (Value.int IntKind.u64 0)) λt38=>aN t29 t38 (.bool false) λt39=>aO t39 (v (sliceAt 9 t26 (some (i64 16)) none none) w17 λt41 w=>∃ (I3:NP 1) (μ3:NF 1),I3 t41 w /\
 ∀ t0_2 w19,I3 t0_2 w19->∀ _f:bQ,aH w19 λS9 w=>y S9 (ln 9 3 t0_2) λt43=>y S9 (b .gtr t43 (i64 32)) λt44=>gx t44 true t0_2 λt46=>gx t44 true t0_2 λt48=>gy t44 true S9 (sliceAt 9 t48 (some (i64 8)) none none) λt49=>gx t44 true t0_2 λt52=>gy t44 true S9 (sliceAt 9 t52 (some (i64 16)) none none) λt53=>gx t44 true t0_2 λt55=>gy t44 true S9 (sliceAt 9 t55 (some (i64 24)) none none) λt56=>gd t44 true (λK=> c 195 #[t46] w K) w λt47 w=>S9 w /\
 gd t44 true (λK=> c 195 #[t49] w K) w λt50 w=>S9 w /\
 gy t44 true S9 (binOp .or 12 t47 t50) λt51=>gd t44 true (λK=> c 195 #[t53] w K) w λt54 w=>S9 w /\
 gd t44 true (λK=> c 195 #[t56] w K) w λt57 w24=>S9 w24 /\
 gy t44 true S9 (binOp .or 12 t54 t57) λt58=>gy t44 true S9 (binOp .or 12 t51 t58) λt59=>gy t44 true S9 (binOp .and 12 t59 (Value.int IntKind.u64 9259542123273814144)) λt60=>gy t44 true S9 (et .eql 12 60 t60 (Value.int IntKind.u64 0)) λt61=>aN t44 t61 (.bool false) λt62=>aO t62 (v (sliceAt 9 t0_2 (some (i64 32)) none none) w24 λt64 w=>I3 t64 w/\μ3 t64 w < μ3 t0_2 w19) (J2 t0_2 w24)) (J2 t26 w17)) (J2 t15 w12)) /\
 ∀ t0_3 w,J2 t0_3 w->∀ _f:bQ,I1 t0_3 w/\μ1 t0_3 w < μ1 t0_1 w1) (v (indexAt 288 (Value.pointer (some ⟨0,0,none⟩)) t11) w5 λt66 w=>v (loadAt 5 t66) w λt67 w=>v (binOp .and 5 t67 (Value.int IntKind.u8 7)) w λt69 w=>v (convert 5 3 t69) w λt70 w=>v (binOp .shr 5 t67 (Value.int IntKind.u64 4)) w λt72 w=>v (indexAt 291 (Value.pointer (some ⟨1,0,none⟩)) t72) w λt73 w=>v (loadAt 290 t73) w λt74 w=>st 290 t74 w λt6 w=>v (et .eql 3 75 t70 (i64 2)) w λt77 w36=>aO t77 (aH w36 λS17 w=>y S17 (ln 9 3 t0_1) λt79=>y S17 (b .lss t79 (i64 2)) λt80=>gx t80 false t0_1 λt82=>gy t80 false S17 (index 9 t82 (i64 1)) λt83=>gy t80 false S17 (fieldAt 290 t6 0) λt84=>gy t80 false S17 (loadAt 5 t84) λt85=>gy t80 false S17 (binOp .lss 5 t83 t85) λt86=>aN t80 (.bool true) t86 λt87=>gy t87 false S17 (fieldAt 290 t6 1) λt89=>gy t87 false S17 (loadAt 5 t89) λt90=>gx t87 false t0_1 λt91=>gy t87 false S17 (index 9 t91 (i64 1)) λt92=>gy t87 false S17 (binOp .lss 5 t90 t92) λt93=>aN t87 (.bool true) t93 λt94=>aO t94 (R (.bool false) w) (v (sliceAt 9 t0_1 (some (i64 2)) none none) w λt96 w=>I1 t96 w/\μ1 t96 w < μ1 t0_1 w1)) (v (et .eql 3 75 t70 (i64 3)) w36 λt98 w39=>aO t98 (aH w39 λS21 w=>y S21 (ln 9 3 t0_1) λt100=>y S21 (b .lss t100 (i64 3)) λt101=>gx t101 false t0_1 λt103=>gy t101 false S21 (index 9 t103 (i64 1)) λt104=>gy t101 false S21 (fieldAt 290 t6 0) λt105=>gy t101 false S21 (loadAt 5 t105) λt106=>gy t101 false S21 (binOp .lss 5 t104 t106) λt107=>aN t101 (.bool true) t107 λt108=>gy t108 false S21 (fieldAt 290 t6 1) λt110=>gy t108 false S21 (loadAt 5 t110) λt111=>gx t108 false t0_1 λt112=>gy t108 false S21 (index 9 t112 (i64 1)) λt113=>gy t108 false S21 (binOp .lss 5 t111 t113) λt114=>aN t108 (.bool true) t114 λt115=>gx t115 false t0_1 λt117=>gy t115 false S21 (index 9 t117 (i64 2)) λt118=>gy t115 false S21 (binOp .lss 5 t118 (Value.int IntKind.u8 128)) λt119=>aN t115 (.bool true) t119 λt120=>gx t120 false t0_1 λt122=>gy t120 false S21 (index 9 t122 (i64 2)) λt123=>gy t120 false S21 (binOp .lss 5 (Value.int IntKind.u8 191) t123) λt124=>aN t120 (.bool true) t124 λt125=>aO t125 (R (.bool false) w) (v (sliceAt 9 t0_1 (some (i64 3)) none none) w λt127 w=>I1 t127 w/\μ1 t127 w < μ1 t0_1 w1)) (v (et .eql 3 75 t70 (i64 4)) w39 λt129 w42=>aO t129 (aH w42 λS25 w=>y S25 (ln 9 3 t0_1) λt131=>y S25 (b .lss t131 (i64 4)) λt132=>gx t132 false t0_1 λt134=>gy t132 false S25 (index 9 t134 (i64 1)) λt135=>gy t132 false S25 (fieldAt 290 t6 0) λt136=>gy t132 false S25 (loadAt 5 t136) λt137=>gy t132 false S25 (binOp .lss 5 t135 t137) λt138=>aN t132 (.bool true) t138 λt139=>gy t139 false S25 (fieldAt 290 t6 1) λt141=>gy t139 false S25 (loadAt 5 t141) λt142=>gx t139 false t0_1 λt143=>gy t139 false S25 (index 9 t143 (i64 1)) λt144=>gy t139 false S25 (binOp .lss 5 t142 t144) λt145=>aN t139 (.bool true) t145 λt146=>gx t146 false t0_1 λt148=>gy t146 false S25 (index 9 t148 (i64 2)) λt149=>gy t146 false S25 (binOp .lss 5 t149 (Value.int IntKind.u8 128)) λt150=>aN t146 (.bool true) t150 λt151=>gx t151 false t0_1 λt153=>gy t151 false S25 (index 9 t153 (i64 2)) λt154=>gy t151 false S25 (binOp .lss 5 (Value.int IntKind.u8 191) t154) λt155=>aN t151 (.bool true) t155 λt156=>gx t156 false t0_1 λt158=>gy t156 false S25 (index 9 t158 (i64 3)) λt159=>gy t156 false S25 (binOp .lss 5 t159 (Value.int IntKind.u8 128)) λt160=>aN t156 (.bool true) t160 λt161=>gx t161 false t0_1 λt163=>gy t161 false S25 (index 9 t163 (i64 3)) λt164=>gy t161 false S25 (binOp .lss 5 (Value.int IntKind.u8 191) t164) λt165=>aN t161 (.bool true) t165 λt166=>aO t166 (R (.bool false) w) (v (sliceAt 9 t0_1 (some (i64 4)) none none) w λt168 w=>I1 t168 w/\μ1 t168 w < μ1 t0_1 w1)) (R (.bool false) w42))))) (R (.bool true) w3)
theorem aIg (h:KY t0 w R):aC prog 142 #[t0] w R:=dw [lo [0],l,dr 0 13 8191 (tk (rg 0 4++[6,7]) (.only 5 (.only 8 (tk (rg 9 12) .done)))),l,lo [0],dr 0 21 2097151 (tk (rg 0 4++[6,7,10,11,13,14]) (.only 5 (.only 8 (.take 9 (.only 12 (.only 15 (tk (rg 16 20) .done))))))),l,l,jn [0],l,dr 0 17 131071 (tk (rg 0 16) .done),l,l,dr 0 27 134217727 (tk (rg 0 26) .done),l,l,dr 0 37 137438953471 (tk (rg 0 36) .done)] func142 h
def KX (t0:O) (w:Ω) (R:O->Ω->Prop):Prop:=
 c 196 #[] w λt4 w=>v (b .lss t0 (i64 1)) w λt6 w=>gk t6 false t0 w λt8 w=>gk t6 false t4 w λt9 w=>g t6 false (ln 292 3 t9) w λt10 w=>g t6 false (b .geq t8 t10) w λt11 w=>aN t6 (.bool true) t11 λt12=>aO t12 (R (Value.string { data:=#[] }) w) (il 292 t4 t0 9 w λt16 w=>R t16 w)
theorem aIf (h:KX t0 w R):aC prog 143 #[t0] w R:=dw [] func143 h
def KW (t0:O) (w:Ω) (R:O->Ω->Prop):Prop:=
 v (et .eql 3 3 t0 (i64 27)) w λt5 w=>aO t5 (R (i64 2) w) (v (et .eql 3 3 t0 (i64 1)) w λt7 w=>aO t7 (aO t7 (R (i64 1) w) (R (i64 0) w)) (v (et .eql 3 3 t0 (i64 2)) w λt8 w=>aO t8 (aO t8 (R (i64 1) w) (R (i64 0) w)) (v (et .eql 3 3 t0 (i64 3)) w λt9 w=>aO t9 (aO t9 (R (i64 1) w) (R (i64 0) w)) (v (et .eql 3 3 t0 (i64 23)) w λt10 w=>aO t10 (aO t10 (R (i64 1) w) (R (i64 0) w)) (v (et .eql 3 3 t0 (i64 24)) w λt11 w=>aO t11 (aO t11 (R (i64 1) w) (R (i64 0) w)) (v (et .eql 3 3 t0 (i64 25)) w λt12 w=>aO t12 (aO t12 (R (i64 1) w) (R (i64 0) w)) (v (et .eql 3 3 t0 (i64 33)) w λt13 w=>aO t13 (aO t13 (R (i64 1) w) (R (i64 0) w)) (v (et .eql 3 3 t0 (i64 34)) w λt14 w=>aO t14 (aO t14 (R (i64 1) w) (R (i64 0) w)) (v (et .eql 3 3 t0 (i64 35)) w λt15 w=>aO t15 (aO t15 (R (i64 1) w) (R (i64 0) w)) (v (et .eql 3 3 t0 (i64 36)) w λt16 w=>aO t16 (aO t16 (R (i64 1) w) (R (i64 0) w)) (v (et .eql 3 3 t0 (i64 37)) w λt17 w=>aO t17 (aO t17 (R (i64 1) w) (R (i64 0) w)) (v (et .eql 3 3 t0 (i64 38)) w λt18 w=>aO t18 (R (i64 1) w) (R (i64 0) w)))))))))))))
theorem aIe (h:KW t0 w R):aC prog 144 #[t0] w R:=dw [] func144 h
def KV (t0 t1 t2:O) (w:Ω) (R:O->Ω->Prop):Prop:=
 v (b .geq t0 t1) w λt9 w=>gk t9 true t0 w λt11 w=>gk t9 true t2 w λt12 w=>g t9 true (b .leq t11 t12) w λt13 w=>aN t9 t13 (.bool false) λt14=>R t14 w
theorem aId (h:KV t0 t1 t2 w R):aC prog 145 #[t0,t1,t2] w R:=dw [] func145 h
def KU (t0 t1:O) (w:Ω) (R:O->Ω->Prop):Prop:=
 v (box 74 t0) w λt2 w=>fl 74 t2 0 42 w λt8 w=>v (ln 42 3 t8) w λt9 w=>v (b .lss t1 t9) w λt10 w5=>aO t10 (fl 74 t2 0 42 w5 λt12 w=>il 42 t12 t1 3 w λt15 w=>R (.tuple #[t15,(.bool true)]) w) (fl 74 t2 0 42 w5 λt18 w=>v (ln 42 3 t18) w λt19 w=>fl 74 t2 2 42 w λt21 w=>v (ln 42 3 t21) w λt22 w=>v (b .add t19 t22) w λt23 w=>v (b .lss t1 t23) w λt24 w17=>aO t24 (fl 74 t2 2 42 w17 λt26 w=>fl 74 t2 0 42 w λt29 w=>v (ln 42 3 t29) w λt30 w=>v (b .sub t1 t30) w λt31 w=>il 42 t26 t31 3 w λt33 w=>R (.tuple #[t33,(.bool true)]) w) (R (.tuple #[(i64 0),(.bool false)]) w17))
theorem aIc (h:KU t0 t1 w R):aC prog 146 #[t0,t1] w R:=dw [] func146 h
def KT (t0:O) (w:Ω) (R:O->Ω->Prop):Prop:=
 v (et .eql 3 3 t0 (i64 3)) w λt4 w=>gk t4 false t0 w λt6 w=>g t4 false (et .eql 3 6 t6 (i64 4)) w λt7 w=>aN t4 (.bool true) t7 λt8=>R t8 w
theorem aIb (h:KT t0 w R):aC prog 147 #[t0] w R:=dw [] func147 h
def KS (t0:O) (w:Ω) (R:O->Ω->Prop):Prop:=
 v (et .eql 3 3 t0 (i64 1)) w λt4 w=>gk t4 false t0 w λt6 w=>g t4 false (et .eql 3 6 t6 (i64 2)) w λt7 w=>aN t4 (.bool true) t7 λt8=>R t8 w
theorem aIa (h:KS t0 w R):aC prog 148 #[t0] w R:=dw [] func148 h
def KR (t0:O) (w:Ω) (R:O->Ω->Prop):Prop:=
 v (et .eql 3 3 t0 (i64 2)) w λt4 w=>gk t4 false t0 w λt6 w=>g t4 false (et .eql 3 6 t6 (i64 4)) w λt7 w=>aN t4 (.bool true) t7 λt8=>R t8 w
theorem aHz (h:KR t0 w R):aC prog 149 #[t0] w R:=dw [] func149 h
def KQ (t0 t1:O) (w:Ω) (R:O->Ω->Prop):Prop:=
 Go.Vc.aI (t0) /\
 fl 266 t0 0 4 w λt8 w=>gk t8 false t1 w λt10 w=>g t8 false (et .eql 34 10 t10 (i64 11)) w λt11 w=>aN t8 (.bool true) t11 λt12=>Go.Vc.aI (t0) /\
 v (fieldAt 266 t0 0) w λt14 w=>u (storeAt 4 t14 t12) w λ_ w=>Go.Vc.aI (t0) /\
 fl 266 t0 1 4 w λt19 w=>gk t19 false t1 w λt21 w=>g t19 false (et .eql 34 21 t21 (i64 12)) w λt22 w=>aN t19 (.bool true) t22 λt23=>Go.Vc.aI (t0) /\
 v (fieldAt 266 t0 1) w λt25 w=>u (storeAt 4 t25 t23) w λ_ w=>R (.tuple #[]) w
theorem aHy (h:KQ t0 t1 w R):aC prog 150 #[t0,t1] w R:=dw [] func150 h
def KP (t0 t1:O) (w:Ω) (R:O->Ω->Prop):Prop:=
 c 148 #[t0] w λt7 w=>c 148 #[t1] w λt9 w=>v (e .neq 4 (.tmp 7) (.tmp 9) t7 t9) w λt10 w=>gk t10 false t0 w λt12 w=>gd t10 false (λK=> c 147 #[t12] w K) w λt13 w=>gk t10 false t13 w λt14 w=>gk t14 true t0 w λt15 w=>gk t14 true t1 w λt16 w=>g t14 true (e .neq 3 (.tmp 15) (.tmp 16) t15 t16) w λt17 w=>gd t10 false (λK=> aN t14 t17 (.bool false) λv=> K v w) w λt18 w=>aN t10 (.bool true) t18 λt19=>aO t19 (R (i64 11) w) (c 197 #[t0,t1] w λt23 w=>v (Op.unary UnOp.not t23) w λt24 w=>aO t24 (R (i64 12) w) (R (i64 0) w))
theorem aHx (h:KP t0 t1 w R):aC prog 151 #[t0,t1] w R:=dw [] func151 h
def KO (t0 t1 t2 t3:O) (w:Ω) (R:O->Ω->Prop):Prop:=
 v (box 46 t0) w λt4 w=>v (box 74 t1) w λt5 w=>v (box 70 t2) w λt6 w=>fl 70 t6 0 3 w λt14 w=>∃ J1:NP 1,(v (et .eql 3 14 t14 (i64 1)) w λt16 w=>aO t16 (J1 t16 w) (v (et .eql 3 14 t14 (i64 17)) w λt17 w=>aO t17 (J1 t17 w) (v (et .eql 3 14 t14 (i64 18)) w λt18 w=>aO t18 (J1 t18 w) (v (et .eql 3 14 t14 (i64 26)) w λt19 w=>aO t19 (J1 t19 w) (v (et .eql 3 14 t14 (i64 28)) w λt20 w=>J1 t20 w))))) /\
 ∀ t15 w11,J1 t15 w11->∀ _f:bQ,aO t15 (v (buildSlice 42 1 #[(0,(i64 1))]) w11 λt21 w=>R t21 w) (v (et .eql 3 14 t14 (i64 2)) w11 λt23 w13=>aO t23 (v (loadAt 74 t5) w13 λt25 w=>fl 70 t6 1 3 w λt27 w=>c 146 #[t25,t27] w λt28 w=>x2 t28 w λt29 _ w=>v (buildSlice 42 1 #[(0,t29)]) w λt32 w=>R t32 w) (v (et .eql 3 14 t14 (i64 5)) w13 λt34 w21=>aO t34 (aH w21 λS12 w=>yi S12 42 t3 (i64 0) 3 λt37=>yi S12 42 t3 (i64 0) 3 λt40=>v (buildSlice 42 2 #[(0,t37),(1,t40)]) w λt41 w=>S12 w /\
 R t41 w) (∃ J2:NP 1,(v (et .eql 3 14 t14 (i64 6)) w21 λt43 w=>aO t43 (J2 t43 w) (v (et .eql 3 14 t14 (i64 7)) w λt44 w=>aO t44 (J2 t44 w) (v (et .eql 3 14 t14 (i64 8)) w λt45 w=>aO t45 (J2 t45 w) (v (et .eql 3 14 t14 (i64 9)) w λt46 w=>aO t46 (J2 t46 w) (v (et .eql 3 14 t14 (i64 10)) w λt47 w=>aO t47 (J2 t47 w) (v (et .eql 3 14 t14 (i64 11)) w λt48 w=>aO t48 (J2 t48 w) (v (et .eql 3 14 t14 (i64 12)) w λt49 w=>aO t49 (J2 t49 w) (v (et .eql 3 14 t14 (i64 13)) w λt50 w=>aO t50 (J2 t50 w) (v (et .eql 3 14 t14 (i64 14)) w λt51 w=>aO t51 (J2 t51 w) (v (et .eql 3 14 t14 (i64 19)) w λt52 w=>aO t52 (J2 t52 w) (v (et .eql 3 14 t14 (i64 20)) w λt53 w=>aO t53 (J2 t53 w) (v (et .eql 3 14 t14 (i64 21)) w λt54 w=>J2 t54 w)))))))))))) /\
 ∀ t42 w36,J2 t42 w36->∀ _f:bQ,aO t42 (aH w36 λS25 w=>yi S25 42 t3 (i64 0) 3 λt57=>yi S25 42 t3 (i64 1) 3 λt60=>c 198 #[t57,t60] w λt61 w=>S25 w /\
 v (buildSlice 42 1 #[(0,t61)]) w λt62 w=>S25 w /\
 R t62 w) (∃ J3:NP 1,(v (et .eql 3 14 t14 (i64 15)) w36 λt64 w=>aO t64 (J3 t64 w) (v (et .eql 3 14 t14 (i64 16)) w λt65 w=>J3 t65 w)) /\
 ∀ t63 w42,J3 t63 w42->∀ _f:bQ,aO t63 (il 42 t3 (i64 0) 3 w42 λt68 w=>v (buildSlice 42 1 #[(0,t68)]) w λt69 w=>R t69 w) (v (et .eql 3 14 t14 (i64 22)) w42 λt71 w46=>aO t71 (il 42 t3 (i64 1) 3 w46 λt74 w=>c 147 #[t74] w λt75 w49=>aO t75 (il 42 t3 (i64 1) 3 w49 λt78 w=>v (buildSlice 42 1 #[(0,t78)]) w λt79 w=>R t79 w) (aH w49 λS32 w=>yi S32 42 t3 (i64 0) 3 λt82=>yi S32 42 t3 (i64 1) 3 λt85=>yi S32 42 t3 (i64 2) 3 λt88=>c 198 #[t85,t88] w λt89 w=>S32 w /\
 c 198 #[t82,t89] w λt90 w=>S32 w /\
 v (buildSlice 42 1 #[(0,t90)]) w λt91 w=>S32 w /\
 R t91 w)) (∃ J4:NP 1,(v (et .eql 3 14 t14 (i64 25)) w46 λt93 w=>aO t93 (J4 t93 w) (v (et .eql 3 14 t14 (i64 27)) w λt94 w=>J4 t94 w)) /\
 ∀ t92 w59,J4 t92 w59->∀ _f:bQ,aO t92 (fl 70 t6 1 3 w59 λt96 w=>v (buildSlice 42 1 #[(0,t96)]) w λt97 w=>R t97 w) (v (et .eql 3 14 t14 (i64 29)) w59 λt99 w63=>aO t99 (il 42 t3 (i64 0) 3 w63 λt102 w=>c 199 #[t102] w λt103 w=>v (buildSlice 42 1 #[(0,t103)]) w λt104 w=>R t104 w) (v (et .eql 3 14 t14 (i64 32)) w63 λt106 w68=>aO t106 (il 42 t3 (i64 0) 3 w68 λt109 w=>v (et .eql 3 109 t109 (i64 4)) w λt110 w=>gk t110 false t3 w λt112 w=>g t110 false (indexAt 42 t112 (i64 2)) w λt113 w=>g t110 false (loadAt 3 t113) w λt114 w=>g t110 false (et .eql 3 114 t114 (i64 4)) w λt115 w75=>aN t110 (.bool true) t115 λt116=>aO t116 (v (buildSlice 42 1 #[(0,(i64 2))]) w75 λt117 w=>R t117 w) (v (buildSlice 42 1 #[(0,(i64 1))]) w75 λt118 w=>R t118 w)) (v (et .eql 3 14 t14 (i64 33)) w68 λt120 w79=>aO t120 (fl 46 t4 1 42 w79 λt122 w=>fl 70 t6 1 3 w λt124 w=>il 42 t122 t124 3 w λt126 w=>v (buildSlice 42 1 #[(0,t126)]) w λt127 w=>R t127 w) (v (et .eql 3 14 t14 (i64 35)) w79 λt129 w87=>aO t129 (fl 70 t6 1 3 w87 λt131 w=>v (b .add (i64 3) t131) w λt132 w=>v (b .sub t132 (i64 1)) w λt133 w=>v (buildSlice 42 1 #[(0,t133)]) w λt134 w=>R t134 w) (v (et .eql 3 14 t14 (i64 37)) w87 λt136 w93=>aO t136 (fl 46 t4 3 44 w93 λt138 w=>fl 70 t6 1 3 w λt140 w=>jl 44 t138 t140 74 1 3 w λt143 w=>v (et .neq 3 144 t143 (i64 0)) w λt145 w101=>aO t145 (v (buildSlice 42 1 #[(0,t143)]) w101 λt147 w=>R t147 w) (R bT w101)) (v (et .eql 3 14 t14 (i64 38)) w93 λt149 w103=>aO t149 (fl 46 t4 2 43 w103 λt151 w=>fl 70 t6 1 3 w λt153 w=>jl 43 t151 t153 180 3 3 w λt156 w=>v (et .neq 3 157 t156 (i64 0)) w λt158 w111=>aO t158 (v (buildSlice 42 1 #[(0,t156)]) w111 λt160 w=>R t160 w) (R bT w111)) (R bT w103)))))))))))))
theorem aHw (h:KO t0 t1 t2 t3 w R):aC prog 152 #[t0,t1,t2,t3] w R:=dw [jn [15],dr 0 8 255 (tk (rg 0 5) (.only 6 (.take 7 .done))),l,jn [42],dr 0 9 511 (tk (rg 0 5) (.only 6 (.only 7 (.take 8 .done)))),l,jn [63],l,dr 0 13 8191 (tk (rg 0 8) (.only 9 (.only 10 (.only 11 (.take 12 .done))))),l,jn [92]] func152 h
def KN (t0 t1:O) (w:Ω) (R:O->Ω->Prop):Prop:=
 v (e .eql 3 (.tmp 7) (.tmp 8) t0 t1) w λt9 w=>gk t9 true t0 w λt11 w=>gd t9 true (λK=> c 148 #[t11] w K) w λt12 w=>gk t9 true t12 w λt13 w=>gk t13 false t0 w λt14 w=>gd t13 false (λK=> c 147 #[t14] w K) w λt15 w=>gd t9 true (λK=> aN t13 (.bool true) t15 λv=> K v w) w λt16 w=>aN t9 t16 (.bool false) λt17=>aO t17 (R (.tuple #[t0,(.bool true)]) w) (c 148 #[t0] w λt21 w=>gk t21 true t1 w λt23 w=>gd t21 true (λK=> c 148 #[t23] w K) w λt24 w=>aN t21 t24 (.bool false) λt25=>aO t25 (R (.tuple #[(i64 2),(.bool true)]) w) (R (.tuple #[(i64 0),(.bool false)]) w))
theorem aHv (h:KN t0 t1 w R):aC prog 153 #[t0,t1] w R:=dw [] func153 h
def KM (t0 t1:O) (w:Ω) (R:O->Ω->Prop):Prop:=
 v (binOp .add 21 t0 t1) w λt7 w=>R t7 w
theorem aHu (h:KM t0 t1 w R):aC prog 163 #[t0,t1] w R:=dw [] func163 h
def KL (t0 t1:O) (w:Ω) (R:O->Ω->Prop):Prop:=
 v (binOp .sub 21 t0 t1) w λt7 w=>R t7 w
theorem aHt (h:KL t0 t1 w R):aC prog 164 #[t0,t1] w R:=dw [] func164 h
def KK (t0 t1:O) (w:Ω) (R:O->Ω->Prop):Prop:=
 v (binOp .mul 21 t0 t1) w λt7 w=>R t7 w
theorem aHs (h:KK t0 t1 w R):aC prog 165 #[t0,t1] w R:=dw [] func165 h
def KJ (t0 t1:O) (w:Ω) (R:O->Ω->Prop):Prop:=
 v (binOp .and 21 t0 t1) w λt7 w=>R t7 w
theorem aHr (h:KJ t0 t1 w R):aC prog 166 #[t0,t1] w R:=dw [] func166 h
def KI (t0 t1:O) (w:Ω) (R:O->Ω->Prop):Prop:=
 v (binOp .or 21 t0 t1) w λt7 w=>R t7 w
theorem aHq (h:KI t0 t1 w R):aC prog 167 #[t0,t1] w R:=dw [] func167 h
def KH (t0 t1:O) (w:Ω) (R:O->Ω->Prop):Prop:=
 v (binOp .xor 21 t0 t1) w λt7 w=>R t7 w
theorem aHp (h:KH t0 t1 w R):aC prog 168 #[t0,t1] w R:=dw [] func168 h
def KG (t0 t1:O) (w:Ω) (R:O->Ω->Prop):Prop:=
 v (binOp .and 21 t1 (Value.int IntKind.i32 31)) w λt7 w=>v (binOp .shl 21 t0 t7) w λt8 w=>R t8 w
theorem aHo (h:KG t0 t1 w R):aC prog 169 #[t0,t1] w R:=dw [] func169 h
def KF (t0 t1:O) (w:Ω) (R:O->Ω->Prop):Prop:=
 v (convert 21 201 t0) w λt6 w=>v (binOp .and 21 t1 (Value.int IntKind.i32 31)) w λt8 w=>v (binOp .shr 201 t6 t8) w λt9 w=>v (convert 201 21 t9) w λt10 w=>R t10 w
theorem aHn (h:KF t0 t1 w R):aC prog 170 #[t0,t1] w R:=dw [] func170 h
def KE (t0 t1:O) (w:Ω) (R:O->Ω->Prop):Prop:=
 v (binOp .and 21 t1 (Value.int IntKind.i32 31)) w λt7 w=>v (binOp .shr 21 t0 t7) w λt8 w=>R t8 w
theorem aHm (h:KE t0 t1 w R):aC prog 171 #[t0,t1] w R:=dw [] func171 h
def KD (t0 t1:O) (w:Ω) (R:O->Ω->Prop):Prop:=
 v (binOp .xor 21 t0 t1) w λt7 w=>c 177 #[t7] w λt8 w=>v (binOp .sub 21 (Value.int IntKind.i32 1) t8) w λt9 w=>R t9 w
theorem aHl (h:KD t0 t1 w R):aC prog 172 #[t0,t1] w R:=dw [] func172 h
def KC (t0 t1:O) (w:Ω) (R:O->Ω->Prop):Prop:=
 v (convert 21 2 t0) w λt7 w=>v (convert 21 2 t1) w λt9 w=>v (binOp .sub 2 t7 t9) w λt10 w=>v (convert 2 298 t10) w λt12 w=>v (binOp .shr 298 t12 (Value.int IntKind.u64 63)) w λt13 w=>v (convert 298 21 t13) w λt14 w=>R t14 w
theorem aHk (h:KC t0 t1 w R):aC prog 173 #[t0,t1] w R:=dw [] func173 h
def KB (t0 t1:O) (w:Ω) (R:O->Ω->Prop):Prop:=
 v (convert 21 201 t0) w λt7 w=>v (convert 201 2 t7) w λt8 w=>v (convert 21 201 t1) w λt10 w=>v (convert 201 2 t10) w λt11 w=>v (binOp .sub 2 t8 t11) w λt12 w=>v (convert 2 298 t12) w λt14 w=>v (binOp .shr 298 t14 (Value.int IntKind.u64 63)) w λt15 w=>v (convert 298 21 t15) w λt16 w=>R t16 w
theorem aHj (h:KB t0 t1 w R):aC prog 174 #[t0,t1] w R:=dw [] func174 h
def KA (t0:O) (w:Ω) (R:O->Ω->Prop):Prop:=
 v (Op.unary UnOp.neg t0) w λt4 w=>R t4 w
theorem aHi (h:KA t0 w R):aC prog 175 #[t0] w R:=dw [] func175 h
def JZ (t0:O) (w:Ω) (R:O->Ω->Prop):Prop:=
 v (Op.unary UnOp.xor t0) w λt4 w=>R t4 w
theorem aHh (h:JZ t0 w R):aC prog 176 #[t0] w R:=dw [] func176 h
def JY (t0:O) (w:Ω) (R:O->Ω->Prop):Prop:=
 v (Op.unary UnOp.neg t0) w λt5 w=>v (binOp .or 21 t0 t5) w λt6 w=>c 170 #[t6,(Value.int IntKind.i32 31)] w λt7 w=>R t7 w
theorem aHg (h:JY t0 w R):aC prog 177 #[t0] w R:=dw [] func177 h
def AF (t0 t1:O) (w:Ω) (R:O->Ω->Prop):Prop:=
 c 210 #[t0] w λt7 w=>c 11 #[t7,(i64 6)] w λt8 w=>∃ J1:NP 1,(v (et .eql 3 8 t8 (i64 0)) w λt23 w=>aO t23 (J1 t23 w) (v (et .eql 3 8 t8 (i64 1)) w λt24 w=>J1 t24 w)) /\
 ∀ t22 w5,J1 t22 w5->∀ _f:bQ,aO t22 (c 211 #[t0,t1] w5 λt28 w=>x2 t28 w λt29 t30 w8=>aO t30 (c 132 #[t0,(i64 2),t29,(i64 0)] w8 λ_ w=>R (.tuple #[]) w) (c 132 #[t0,(i64 25),t1,(i64 0)] w8 λ_ w=>R (.tuple #[]) w)) (∃ J2:NP 1,(v (et .eql 3 8 t8 (i64 2)) w5 λt39 w=>aO t39 (J2 t39 w) (v (et .eql 3 8 t8 (i64 3)) w λt40 w=>J2 t40 w)) /\
 ∀ t38 w13,J2 t38 w13->∀ _f:bQ,aO t38 (v (b .sub t1 (i64 3)) w13 λt43 w=>v (b .add t43 (i64 1)) w λt44 w=>c 132 #[t0,(i64 35),t44,(i64 0)] w λ_ w=>R (.tuple #[]) w) (v (et .eql 3 8 t8 (i64 4)) w13 λt47 w17=>aO t47 (v (b .sub t1 (i64 1)) w17 λt50 w=>c 132 #[t0,(i64 33),t50,(i64 0)] w λ_ w=>R (.tuple #[]) w) (c 210 #[t0] w17 λt11 w=>c 11 #[t11,(i64 9)] w λt12 w=>c 132 #[t0,(i64 1),t12,(i64 0)] w λ_ w=>v (build 299 #[(0,(i64 0)),(1,(i64 1)),(2,(i64 2)),(3,(i64 4)),(4,(i64 5)),(5,(i64 6))]) w λt16 w=>c 210 #[t0] w λt18 w=>c 11 #[t18,(i64 6)] w λt19 w=>v (index 299 t16 t19) w λt20 w=>c 132 #[t0,(i64 27),t1,t20] w λ_ w=>R (.tuple #[]) w)))
theorem UC (h:AF t0 t1 w R):aC prog 178 #[t0,t1] w R:=dw [jn [22],l,jn [38]] func178 h
def JX (t0:O) (w:Ω) (R:O->Ω->Prop):Prop:=
 c 210 #[t0] w λt3 w=>c 11 #[t3,(i64 5)] w λt4 w=>v (et .eql 3 4 t4 (i64 4)) w λt5 w3=>aO t5 (c 180 #[t0] w3 λ_ w=>R (.tuple #[]) w) (c 210 #[t0] w3 λt10 w=>c 11 #[t10,(i64 5)] w λt11 w=>c 132 #[t0,(i64 1),t11,(i64 0)] w λ_ w=>R (.tuple #[]) w)
theorem aHf (h:JX t0 w R):aC prog 179 #[t0] w R:=dw [] func179 h
def JW (t0:O) (w:Ω) (R:O->Ω->Prop):Prop:=
 Go.Vc.aI (t0) /\
 fl 252 t0 4 3 w λt8 w=>v (b .add t8 (i64 1)) w λt9 w=>Go.Vc.aI (t0) /\
 v (fieldAt 252 t0 4) w λt11 w=>u (storeAt 3 t11 t9) w λ_ w=>c 210 #[t0] w λt13 w=>c 11 #[t13,(i64 12)] w λt14 w=>∃ J1:NP 1,(Go.Vc.aI (t0) /\
 fl 252 t0 4 3 w λt18 w=>v (b .gtr t18 (i64 3)) w λt19 w13=>aO t19 (v (b .rem t14 (i64 3)) w13 λt21 w=>J1 t21 w) (J1 t14 w13)) /\
 ∀ t2 w,J1 t2 w->∀ _f:bQ,∃ J2:NP 0,(∃ J3:NP 1,(v (et .eql 3 22 t2 (i64 0)) w λt32 w=>aO t32 (J3 t32 w) (v (et .eql 3 22 t2 (i64 1)) w λt33 w=>J3 t33 w)) /\
 ∀ t31 w18,J3 t31 w18->∀ _f:bQ,aO t31 (v (build 300 #[(0,(i64 0)),(1,(i64 1)),(2,(i64 2)),(3,(i64 3)),(4,(i64 7)),(5,(i64 (-1))),(6,(i64 64)),(7,(i64 1073741824))]) w18 λt35 w=>c 210 #[t0] w λt37 w=>c 11 #[t37,(i64 8)] w λt38 w=>v (index 300 t35 t38) w λt39 w=>c 132 #[t0,(i64 1),t39,(i64 0)] w λ_ w=>J2 w) (∃ J4:NP 1,(v (et .eql 3 22 t2 (i64 2)) w18 λt42 w=>aO t42 (J4 t42 w) (v (et .eql 3 22 t2 (i64 3)) w λt43 w=>J4 t43 w)) /\
 ∀ t41 w26,J4 t41 w26->∀ _f:bQ,aO t41 (c 211 #[t0,(i64 1)] w26 λt46 w=>x2 t46 w λt47 t48 w29=>aO t48 (c 132 #[t0,(i64 2),t47,(i64 0)] w29 λ_ w=>J2 w) (c 210 #[t0] w29 λt55 w=>v (b .rem t55 (i64 100)) w λt56 w=>c 132 #[t0,(i64 1),t56,(i64 0)] w λ_ w=>J2 w)) (∃ J5:NP 1,(v (et .eql 3 22 t2 (i64 4)) w26 λt59 w=>aO t59 (J5 t59 w) (v (et .eql 3 22 t2 (i64 5)) w λt60 w=>aO t60 (J5 t60 w) (v (et .eql 3 22 t2 (i64 6)) w λt61 w=>J5 t61 w))) /\
 ∀ t58 w37,J5 t58 w37->∀ _f:bQ,aO t58 (c 180 #[t0] w37 λ_ w=>c 180 #[t0] w λ_ w=>c 210 #[t0] w λt68 w=>c 11 #[t68,(i64 12)] w λt69 w=>v (indexAt 301 (Value.pointer (some ⟨2,0,none⟩)) t69) w λt70 w=>v (loadAt 3 t70) w λt71 w=>c 132 #[t0,t71,(i64 0),(i64 0)] w λ_ w=>J2 w) (v (et .eql 3 22 t2 (i64 7)) w37 λt74 w45=>aO t74 (c 210 #[t0] w45 λt77 w=>c 11 #[t77,(i64 2)] w λt78 w=>v (b .add (i64 1) t78) w λt79 w=>c 132 #[t0,(i64 35),t79,(i64 0)] w λ_ w=>c 132 #[t0,(i64 28),(i64 0),(i64 0)] w λ_ w=>J2 w) (v (et .eql 3 22 t2 (i64 8)) w45 λt84 w51=>aO t84 (c 180 #[t0] w51 λ_ w=>c 180 #[t0] w λ_ w=>v (build 302 #[(0,(i64 17)),(1,(i64 18))]) w λt90 w=>c 210 #[t0] w λt92 w=>c 11 #[t92,(i64 2)] w λt93 w=>v (index 302 t90 t93) w λt94 w=>c 132 #[t0,t94,(i64 0),(i64 0)] w λ_ w=>J2 w) (v (et .eql 3 22 t2 (i64 9)) w51 λt97 w59=>aO t97 (c 178 #[t0,(i64 3)] w59 λ_ w=>c 179 #[t0] w λ_ w=>c 132 #[t0,(i64 29),(i64 0),(i64 0)] w λ_ w=>J2 w) (v (et .eql 3 22 t2 (i64 10)) w59 λt105 w63=>aO t105 (c 180 #[t0] w63 λ_ w=>v (build 303 #[(0,(i64 15)),(1,(i64 16)),(2,(i64 15))]) w λt109 w=>c 210 #[t0] w λt111 w=>c 11 #[t111,(i64 3)] w λt112 w=>v (index 303 t109 t112) w λt113 w=>c 132 #[t0,t113,(i64 0),(i64 0)] w λ_ w=>J2 w) (c 210 #[t0] w63 λt25 w=>c 11 #[t25,(i64 2)] w λt26 w=>v (b .add (i64 3) t26) w λt27 w=>c 178 #[t0,t27] w λ_ w=>c 132 #[t0,(i64 26),(i64 0),(i64 0)] w λ_ w=>J2 w)))))))) /\
 ∀ w:Ω,J2 w->∀ _f:bQ,Go.Vc.aI (t0) /\
 fl 252 t0 4 3 w λt118 w=>v (b .sub t118 (i64 1)) w λt119 w=>Go.Vc.aI (t0) /\
 v (fieldAt 252 t0 4) w λt121 w=>u (storeAt 3 t121 t119) w λ_ w=>R (.tuple #[]) w
theorem aHe (h:JW t0 w R):aC prog 180 #[t0] w R:=dw [jn [2],jn [31],jn [41],jn [58],jn []] func180 h
def AE (t0:O) (w:Ω) (R:O->Ω->Prop):Prop:=
 Go.Vc.aI (t0) /\
 fl 252 t0 4 3 w λt8 w=>v (b .add t8 (i64 1)) w λt9 w=>Go.Vc.aI (t0) /\
 v (fieldAt 252 t0 4) w λt11 w=>u (storeAt 3 t11 t9) w λ_ w=>c 210 #[t0] w λt13 w=>c 11 #[t13,(i64 9)] w λt14 w=>∃ J1:NP 1,(Go.Vc.aI (t0) /\
 fl 252 t0 4 3 w λt18 w=>v (b .gtr t18 (i64 3)) w λt19 w13=>aO t19 (v (b .rem t14 (i64 2)) w13 λt21 w=>J1 t21 w) (J1 t14 w13)) /\
 ∀ t2 w,J1 t2 w->∀ _f:bQ,∃ J2:NP 0,(v (et .eql 3 22 t2 (i64 0)) w λt26 w16=>aO t26 (c 211 #[t0,(i64 2)] w16 λt29 w=>x2 t29 w λt30 t31 w19=>aO t31 (c 132 #[t0,(i64 2),t30,(i64 0)] w19 λ_ w=>J2 w) (c 132 #[t0,(i64 1),(i64 5),(i64 0)] w19 λ_ w=>J2 w)) (v (et .eql 3 22 t2 (i64 1)) w16 λt39 w22=>aO t39 (c 210 #[t0] w22 λt42 w=>v (b .rem t42 (i64 1000)) w λt43 w=>c 132 #[t0,(i64 1),t43,(i64 0)] w λ_ w=>J2 w) (∃ J3:NP 1,(v (et .eql 3 22 t2 (i64 2)) w22 λt46 w=>aO t46 (J3 t46 w) (v (et .eql 3 22 t2 (i64 3)) w λt47 w=>J3 t47 w)) /\
 ∀ t45 w28,J3 t45 w28->∀ _f:bQ,aO t45 (c 181 #[t0] w28 λ_ w=>c 181 #[t0] w λ_ w=>c 210 #[t0] w λt54 w=>c 11 #[t54,(i64 12)] w λt55 w=>v (indexAt 301 (Value.pointer (some ⟨2,0,none⟩)) t55) w λt56 w=>v (loadAt 3 t56) w λt57 w=>c 132 #[t0,t57,(i64 0),(i64 0)] w λ_ w=>J2 w) (∃ J4:NP 1,(v (et .eql 3 22 t2 (i64 4)) w28 λt60 w=>aO t60 (J4 t60 w) (v (et .eql 3 22 t2 (i64 5)) w λt61 w=>J4 t61 w)) /\
 ∀ t59 w38,J4 t59 w38->∀ _f:bQ,aO t59 (c 178 #[t0,(i64 4)] w38 λ_ w=>c 179 #[t0] w λ_ w=>c 132 #[t0,(i64 29),(i64 0),(i64 0)] w λ_ w=>J2 w) (v (et .eql 3 22 t2 (i64 6)) w38 λt69 w42=>aO t69 (c 181 #[t0] w42 λ_ w=>c 181 #[t0] w λ_ w=>c 181 #[t0] w λ_ w=>c 132 #[t0,(i64 22),(i64 0),(i64 0)] w λ_ w=>J2 w) (v (et .eql 3 22 t2 (i64 7)) w42 λt79 w47=>aO t79 (c 178 #[t0,(i64 4)] w47 λ_ w=>c 179 #[t0] w λ_ w=>c 210 #[t0] w λt86 w=>c 11 #[t86,(i64 2)] w λt87 w=>v (b .add (i64 3) t87) w λt88 w=>c 178 #[t0,t88] w λ_ w=>c 179 #[t0] w λ_ w=>c 179 #[t0] w λ_ w=>c 132 #[t0,(i64 32),(i64 0),(i64 0)] w λ_ w=>J2 w) (c 132 #[t0,(i64 33),(i64 1),(i64 0)] w47 λ_ w=>J2 w))))))) /\
 ∀ w:Ω,J2 w->∀ _f:bQ,Go.Vc.aI (t0) /\
 fl 252 t0 4 3 w λt99 w=>v (b .sub t99 (i64 1)) w λt100 w=>Go.Vc.aI (t0) /\
 v (fieldAt 252 t0 4) w λt102 w=>u (storeAt 3 t102 t100) w λ_ w=>R (.tuple #[]) w
theorem UA (h:AE t0 w R):aC prog 181 #[t0] w R:=dw [jn [2],jn [45],jn [59],jn []] func181 h
def JV (t0 t1:O) (w:Ω) (R:O->Ω->Prop):Prop:=
 v (box 9 t1) w λt3 w=>v (makeFunc (Fn.func 213) #[] #[t3]) w λt6 w=>c 212 #[t0,t6] w λt7 w=>R t7 w
theorem aHd (h:JV t0 t1 w R):aC prog 182 #[t0,t1] w R:=dw [] func182 h
def JU (t0 t1:O) (w:Ω) (R:O->Ω->Prop):Prop:=
 v (ln 42 3 t0) w λt7 w=>v (ln 42 3 t1) w λt9 w=>v (e .neq 3 (.tmp 7) (.tmp 9) t7 t9) w λt10 w=>aO t10 (R (.bool false) w) (v (ln 42 3 t0) w λt12 w=>∃ (I1:NP 1) (μ1:NF 1),I1 (i64 0) w /\
 ∀ t13 w5,I1 t13 w5->∀ _f:bQ,v (b .lss t13 t12) w5 λt14 w6=>aO t14 (aH w6 λS6 w=>yi S6 42 t0 t13 3 λt19=>yi S6 42 t1 t13 3 λt23=>y S6 (e .neq 3 (.tmp 19) (.tmp 23) t19 t23) λt24=>aO t24 (R (.bool false) w) (v (b .add t13 (i64 1)) w λt25 w=>I1 t25 w/\μ1 t25 w < μ1 t13 w5)) (R (.bool true) w6))
theorem aHc (h:JU t0 t1 w R):aC prog 183 #[t0,t1] w R:=dw [l,lo [13],l,dr 0 9 511 (tk (rg 0 8) .done)] func183 h
def JT (t0 t1:O) (w:Ω) (R:O->Ω->Prop):Prop:=
 v (Op.unary UnOp.not t1) w λt7 w=>aO t7 (R (.tuple #[(Value.int IntKind.i32 0),(i64 28419)]) w) (R (.tuple #[t0,(i64 36864)]) w)
theorem aHb (h:JT t0 t1 w R):aC prog 184 #[t0,t1] w R:=dw [] func184 h
def JS (t0 t1:O) (w:Ω) (R:O->Ω->Prop):Prop:=
 v (et .eql 21 6 t1 (Value.int IntKind.i32 0)) w λt7 w=>aO t7 (R (.tuple #[(Value.int IntKind.i32 0),(.bool false)]) w) (v (convert 21 2 t0) w λt9 w=>v (convert 21 2 t1) w λt11 w=>v (binOp .quo 2 t9 t11) w λt12 w=>v (convert 2 21 t12) w λt13 w=>R (.tuple #[t13,(.bool true)]) w)
theorem aHa (h:JS t0 t1 w R):aC prog 185 #[t0,t1] w R:=dw [] func185 h
def JR (t0 t1:O) (w:Ω) (R:O->Ω->Prop):Prop:=
 v (et .eql 21 6 t1 (Value.int IntKind.i32 0)) w λt7 w=>aO t7 (R (.tuple #[(Value.int IntKind.i32 0),(.bool false)]) w) (v (convert 21 2 t0) w λt9 w=>v (convert 21 2 t1) w λt11 w=>v (binOp .rem 2 t9 t11) w λt12 w=>v (convert 2 21 t12) w λt13 w=>R (.tuple #[t13,(.bool true)]) w)
theorem aGz (h:JR t0 t1 w R):aC prog 186 #[t0,t1] w R:=dw [] func186 h
def JQ (t0:O) (w:Ω) (R:O->Ω->Prop):Prop:=
 v (box 283 t0) w λt1 w=>fl 283 t1 5 42 w λt8 w=>il 42 t8 (i64 0) 3 w λt10 w=>v (loadAt 283 t1) w λt11 w=>fl 283 t1 3 3 w λt13 w=>fl 283 t1 4 3 w λt15 w=>c 214 #[t11,(i64 3),t13,t15,t10] w λ_ w=>v (b .lss t10 (i64 0)) w λt19 w=>gk t19 false t10 w λt21 w=>g t19 false (b .gtr t21 (i64 64)) w λt22 w=>aN t19 (.bool true) t22 λt23=>aO t23 (R (.tuple #[(Value.int IntKind.i32 0),(i64 28425)]) w) (aH w λS5 w=>yf S5 283 t1 0 26 λt26=>Go.Vc.aI (t26) /\
 yf S5 134 t26 0 100 λt29=>yf S5 283 t1 2 3 λt31=>yf S5 283 t1 3 3 λt33=>yf S5 283 t1 4 3 λt35=>y S5 (b .and t35 (i64 3)) λt36=>yf S5 283 t1 4 3 λt38=>y S5 (b .geq t38 (i64 4)) λt39=>c 215 #[t29,t31,t33,t36,t39,t10] w λt41 w=>S5 w /\
 y S5 (extract t41 0) λt42=>y S5 (extract t41 1) λt43=>v (Op.unary UnOp.not t43) w λt45 w=>aO t45 (R (.tuple #[(Value.int IntKind.i32 0),(i64 28421)]) w) (v (convert 3 21 t42) w λt47 w=>R (.tuple #[t47,(i64 36864)]) w))
theorem aGy (h:JQ t0 w R):aC prog 187 #[t0] w R:=dw [l,dr 0 22 4194303 (tk (rg 0 15) (.only 16 (tk (rg 17 21) .done)))] func187 h
def JP (t0:O) (w:Ω) (R:O->Ω->Prop):Prop:=
 v (box 283 t0) w λt1 w=>fl 283 t1 5 42 w λt9 w=>il 42 t9 (i64 0) 3 w λt11 w=>v (loadAt 283 t1) w λt12 w=>c 216 #[t12,t11,(i64 0),(i64 0)] w λ_ w=>aH w λS3 w=>yf S3 283 t1 0 26 λt16=>Go.Vc.aI (t16) /\
 yf S3 134 t16 0 100 λt19=>yf S3 283 t1 2 3 λt22=>c 217 #[t19,t11,t22] w λt23 w=>S3 w /\
 v (et .neq 3 24 t23 (i64 36864)) w λt25 w=>aO t25 (R (.tuple #[(Value.int IntKind.i32 0),t23]) w) (fl 283 t1 0 26 w λt29 w=>Go.Vc.aI (t29) /\
 fl 134 t29 0 100 w λt32 w=>c 56 #[t32,t11] w λt34 w=>x2 t34 w λt35 _ w=>st 127 t35 w λt6 w=>fl 127 t6 4 23 w λt38 w=>v (ln 23 3 t38) w λt39 w=>v (convert 3 21 t39) w λt40 w=>R (.tuple #[t40,(i64 36864)]) w)
theorem aGx (h:JP t0 w R):aC prog 188 #[t0] w R:=dw [dr 0 10 1023 (tk (rg 0 7) (.only 8 (.take 9 .done)))] func188 h
def JO (t0:O) (w:Ω) (R:O->Ω->Prop):Prop:=
 v (box 283 t0) w λt1 w=>aH w λS1 w=>yf S1 283 t1 5 42 λt10=>yi S1 42 t10 (i64 0) 3 λt12=>yf S1 283 t1 5 42 λt14=>yi S1 42 t14 (i64 1) 3 λt16=>v (loadAt 283 t1) w λt17 w=>c 216 #[t17,t12,t16,(i64 1)] w λ_ w=>v (loadAt 283 t1) w λt21 w=>c 218 #[t21,t12,t16,(i64 1)] w λt24 w=>v (et .neq 3 25 t24 (i64 36864)) w λt26 w=>aO t26 (R (.tuple #[(Value.int IntKind.i32 0),t24]) w) (fl 283 t1 0 26 w λt30 w=>Go.Vc.aI (t30) /\
 fl 134 t30 0 100 w λt33 w=>c 219 #[t33,t12,t16] w λt36 w=>x2 t36 w λt37 _ w=>v (convert 5 21 t37) w λt40 w=>R (.tuple #[t40,(i64 36864)]) w)
theorem aGw (h:JO t0 w R):aC prog 189 #[t0] w R:=dw [dr 0 10 1023 (tk (rg 0 9) .done)] func189 h
def JN (t0:O) (w:Ω) (R:O->Ω->Prop):Prop:=
 v (box 283 t0) w λt1 w=>aH w λS1 w=>yf S1 283 t1 5 42 λt8=>yi S1 42 t8 (i64 0) 3 λt10=>yf S1 283 t1 5 42 λt12=>yi S1 42 t12 (i64 1) 3 λt14=>v (loadAt 283 t1) w λt15 w=>c 216 #[t15,t10,t14,(i64 1)] w λ_ w=>v (loadAt 283 t1) w λt19 w=>c 218 #[t19,t10,t14,(i64 1)] w λt22 w=>v (et .neq 3 23 t22 (i64 36864)) w λt24 w=>aO t24 (R (.tuple #[(Value.int IntKind.i32 0),t22]) w) (aH w λS6 w=>yf S6 283 t1 0 26 λt27=>Go.Vc.aI (t27) /\
 yf S6 134 t27 0 100 λt30=>yf S6 283 t1 5 42 λt34=>yi S6 42 t34 (i64 2) 3 λt36=>y S6 (convert 3 5 t36) λt37=>c 220 #[t30,t10,t14,t37] w λ_ w=>S6 w /\
 R (.tuple #[(Value.int IntKind.i32 0),(i64 36864)]) w)
theorem aGv (h:JN t0 w R):aC prog 190 #[t0] w R:=dw [dr 0 10 1023 (tk (rg 0 9) .done),l,l,dr 0 13 8191 (tk (rg 0 11) (.only 12 .done))] func190 h
def JM (t0:O) (w:Ω) (R:O->Ω->Prop):Prop:=
 v (box 283 t0) w λt1 w=>v (loadAt 283 t1) w λt8 w=>c 221 #[t8] w λt9 w=>v (et .neq 3 10 t9 (i64 36864)) w λt11 w=>aO t11 (R (.tuple #[(Value.int IntKind.i32 0),t9]) w) (fl 283 t1 5 42 w λt14 w=>aH w λS5 w=>y S5 (loadAt 283 t1) λt15=>yi S5 42 t14 (i64 2) 3 λt18=>yi S5 42 t14 (i64 3) 3 λt21=>yi S5 42 t14 (i64 4) 3 λt24=>c 222 #[t15,t18,t21,t24] w λt25 w=>S5 w /\
 y S5 (ln 23 3 t25) λt26=>∃ (I1:NP 1) (μ1:NF 1),I1 (i64 0) w /\
 ∀ t27 w9,I1 t27 w9->∀ _f:bQ,v (b .lss t27 t26) w9 λt28 w10=>aO t28 (il 23 t25 t27 5 w10 λt31 w=>aH w λS8 w=>yf S8 283 t1 0 26 λt33=>Go.Vc.aI (t33) /\
 yf S8 134 t33 0 100 λt36=>yi S8 42 t14 (i64 0) 3 λt39=>yi S8 42 t14 (i64 1) 3 λt42=>y S8 (b .add t42 t27) λt44=>c 220 #[t36,t39,t44,t31] w λ_ w=>S8 w /\
 v (b .add t27 (i64 1)) w λt47 w=>I1 t47 w/\μ1 t47 w < μ1 t27 w9) (R (.tuple #[(Value.int IntKind.i32 0),(i64 36864)]) w10))
theorem aGu (h:JM t0 w R):aC prog 191 #[t0] w R:=dw [l,dr 0 13 8191 (tk (rg 0 9++[12]) (.only 10 (.take 11 .done))),l,lo [27],l,dr 0 15 32767 (tk (rg 0 13) (.only 14 .done))] func191 h
def JL (t0:O) (w:Ω) (R:O->Ω->Prop):Prop:=
 v (box 283 t0) w λt1 w=>v (loadAt 283 t1) w λt6 w=>c 221 #[t6] w λt7 w=>v (et .neq 3 8 t7 (i64 36864)) w λt9 w=>aO t9 (R (.tuple #[(Value.int IntKind.i32 0),t7]) w) (fl 283 t1 5 42 w λt12 w=>aH w λS5 w=>y S5 (loadAt 283 t1) λt13=>yi S5 42 t12 (i64 0) 3 λt16=>yi S5 42 t12 (i64 1) 3 λt19=>yi S5 42 t12 (i64 4) 3 λt22=>y S5 (loadAt 283 t1) λt24=>yi S5 42 t12 (i64 2) 3 λt27=>yi S5 42 t12 (i64 3) 3 λt30=>yi S5 42 t12 (i64 4) 3 λt33=>c 222 #[t13,t16,t19,t22] w λt23 w=>S5 w /\
 c 222 #[t24,t27,t30,t33] w λt34 w=>S5 w /\
 c 223 #[t23,t34] w λt35 w=>S5 w /\
 R (.tuple #[t35,(i64 36864)]) w)
theorem aGt (h:JL t0 w R):aC prog 192 #[t0] w R:=dw [l,dr 0 25 33554431 (tk (rg 0 9++rg 11 20) (.only 10 (.only 21 (.only 22 (.take 23 (.take 24 .done))))))] func192 h
def AD (t0:O) (w:Ω) (R:O->Ω->Prop):Prop:=
 v (box 283 t0) w λt1 w=>aH w λS1 w=>yf S1 283 t1 5 42 λt10=>yi S1 42 t10 (i64 0) 3 λt12=>yf S1 283 t1 5 42 λt14=>yi S1 42 t14 (i64 1) 3 λt16=>yf S1 283 t1 5 42 λt18=>yi S1 42 t18 (i64 2) 3 λt20=>v (loadAt 283 t1) w λt21 w=>c 216 #[t21,t12,t16,t20] w λ_ w=>v (loadAt 283 t1) w λt26 w=>c 218 #[t26,t12,t16,t20] w λt30 w=>v (et .neq 3 31 t30 (i64 36864)) w λt32 w=>aO t32 (R (.tuple #[(Value.int IntKind.i32 0),t30]) w) (fl 283 t1 0 26 w λt35 w=>Go.Vc.aI (t35) /\
 v (fieldAt 134 t35 3) w λt37 w=>∃ J1:NP 1,(fl 283 t1 3 3 w λt39 w=>v (et .neq 3 39 t39 (i64 1)) w λt40 w14=>aO t40 (fl 283 t1 0 26 w14 λt42 w=>Go.Vc.aI (t42) /\
 v (fieldAt 134 t42 4) w λt44 w=>J1 t44 w) (J1 t37 w14)) /\
 ∀ t8 w,J1 t8 w->∀ _f:bQ,Go.Vc.aI (t8) /\
 v (loadAt 23 t8) w λt47 w=>v (ln 23 3 t47) w λt48 w=>v (b .add t48 t20) w λt50 w=>v (b .gtr t50 (i64 128)) w λt51 w=>aO t51 (R (.tuple #[(Value.int IntKind.i32 0),(i64 28425)]) w) (aH w λS11 w=>Go.Vc.aI (t8) /\
 y S11 (loadAt 23 t8) λt55=>y S11 (loadAt 283 t1) λt56=>c 222 #[t56,t12,t16,t20] w λt60 w=>S11 w /\
 v (Builtin.append_ #[23,23] 23 #[t55,t60]) w λt61 w=>S11 w /\
 Go.Vc.aI (t8) /\
 u (storeAt 23 t8 t61) w λ_ w=>R (.tuple #[(Value.int IntKind.i32 0),(i64 36864)]) w))
theorem TY (h:AD t0 w R):aC prog 193 #[t0] w R:=dw [dr 0 15 32767 (tk (rg 0 14) .done),l,l,jn [8],l,dr 0 11 2047 (tk (rg 0 7) (.only 8 (.only 9 (.take 10 (.last 11)))))] func193 h
def AC (t0 t1 t2:O) (w:Ω) (R:O->Ω->Prop):Prop:=
 v (et .eql 3 7 t0 (i64 6)) w λt9 w1=>aO t9 (c 163 #[t1,t2] w1 λt12 w=>R t12 w) (v (et .eql 3 7 t0 (i64 7)) w1 λt14 w3=>aO t14 (c 164 #[t1,t2] w3 λt17 w=>R t17 w) (v (et .eql 3 7 t0 (i64 8)) w3 λt19 w5=>aO t19 (c 165 #[t1,t2] w5 λt22 w=>R t22 w) (v (et .eql 3 7 t0 (i64 9)) w5 λt24 w7=>aO t24 (c 166 #[t1,t2] w7 λt27 w=>R t27 w) (v (et .eql 3 7 t0 (i64 10)) w7 λt29 w9=>aO t29 (c 167 #[t1,t2] w9 λt32 w=>R t32 w) (v (et .eql 3 7 t0 (i64 11)) w9 λt34 w11=>aO t34 (c 168 #[t1,t2] w11 λt37 w=>R t37 w) (v (et .eql 3 7 t0 (i64 12)) w11 λt39 w13=>aO t39 (c 169 #[t1,t2] w13 λt42 w=>R t42 w) (v (et .eql 3 7 t0 (i64 13)) w13 λt44 w15=>aO t44 (c 170 #[t1,t2] w15 λt47 w=>R t47 w) (v (et .eql 3 7 t0 (i64 14)) w15 λt49 w17=>aO t49 (c 171 #[t1,t2] w17 λt52 w=>R t52 w) (v (et .eql 3 7 t0 (i64 19)) w17 λt54 w19=>aO t54 (c 172 #[t1,t2] w19 λt57 w=>R t57 w) (v (et .eql 3 7 t0 (i64 20)) w19 λt59 w21=>aO t59 (c 173 #[t1,t2] w21 λt62 w=>R t62 w) (c 174 #[t1,t2] w21 λt65 w=>R t65 w)))))))))))
theorem aGs (h:AC t0 t1 t2 w R):aC prog 194 #[t0,t1,t2] w R:=dw [] func194 h
def JK (w:Ω) (R:O->Ω->Prop):Prop:=
 v (buildSlice 292 40 #[(0,(Value.string { data:=#[] })),(1,(Value.string { data:=#[112,117,115,104] })),(2,(Value.string { data:=#[108,111,97,100] })),(3,(Value.string { data:=#[115,116,111,114,101] })),(4,(Value.string { data:=#[112,111,112] })),(5,(Value.string { data:=#[100,117,112] })),(6,(Value.string { data:=#[97,100,100] })),(7,(Value.string { data:=#[115,117,98] })),(8,(Value.string { data:=#[109,117,108] })),(9,(Value.string { data:=#[97,110,100] })),(10,(Value.string { data:=#[111,114] })),(11,(Value.string { data:=#[120,111,114] })),(12,(Value.string { data:=#[115,104,108] })),(13,(Value.string { data:=#[115,104,114] })),(14,(Value.string { data:=#[115,97,114] })),(15,(Value.string { data:=#[110,101,103] })),(16,(Value.string { data:=#[110,111,116] })),(17,(Value.string { data:=#[100,105,118] })),(18,(Value.string { data:=#[114,101,109] })),(19,(Value.string { data:=#[101,113] })),(20,(Value.string { data:=#[108,116] })),(21,(Value.string { data:=#[98,101,108,111,119] })),(22,(Value.string { data:=#[112,105,99,107] })),(23,(Value.string { data:=#[106,117,109,112] })),(24,(Value.string { data:=#[106,117,109,112,105,102] })),(25,(Value.string { data:=#[110,117,108,108] })),(26,(Value.string { data:=#[105,115,110,117,108,108] })),(27,(Value.string { data:=#[110,101,119] })),(28,(Value.string { data:=#[108,101,110] })),(29,(Value.string { data:=#[103,101,116] })),(30,(Value.string { data:=#[112,117,116] })),(31,(Value.string { data:=#[99,111,112,121] })),(32,(Value.string { data:=#[115,97,109,101] })),(33,(Value.string { data:=#[103,101,116,102] })),(34,(Value.string { data:=#[112,117,116,102] })),(35,(Value.string { data:=#[98,117,102] })),(36,(Value.string { data:=#[115,101,110,100] })),(37,(Value.string { data:=#[99,97,108,108] })),(38,(Value.string { data:=#[99,97,108,108,120] })),(39,(Value.string { data:=#[114,101,116] }))]) w λt1 w=>R t1 w
theorem aGr (h:JK w R):aC prog 196 #[] w R:=dw [] func196 h
def JJ (t0 t1:O) (w:Ω) (R:O->Ω->Prop):Prop:=
 v (e .eql 3 (.tmp 5) (.tmp 6) t0 t1) w λt7 w=>gk t7 true t0 w λt9 w=>gd t7 true (λK=> c 148 #[t9] w K) w λt10 w=>gk t7 true t10 w λt11 w=>gk t11 false t0 w λt12 w=>gd t11 false (λK=> c 147 #[t12] w K) w λt13 w=>gd t7 true (λK=> aN t11 (.bool true) t13 λv=> K v w) w λt14 w=>aN t7 t14 (.bool false) λt15=>gk t15 false t0 w λt17 w=>g t15 false (et .eql 3 17 t17 (i64 1)) w λt18 w=>gk t15 false t18 w λt19 w=>gk t19 true t1 w λt20 w=>g t19 true (et .eql 3 20 t20 (i64 2)) w λt21 w=>gd t15 false (λK=> aN t19 t21 (.bool false) λv=> K v w) w λt22 w=>aN t15 (.bool true) t22 λt23=>R t23 w
theorem aGq (h:JJ t0 t1 w R):aC prog 197 #[t0,t1] w R:=dw [] func197 h
def JI (t0 t1:O) (w:Ω) (R:O->Ω->Prop):Prop:=
 v (et .eql 3 5 t0 (i64 2)) w λt6 w=>gk t6 false t1 w λt8 w=>g t6 false (et .eql 3 8 t8 (i64 2)) w λt9 w=>aN t6 (.bool true) t9 λt10=>aO t10 (R (i64 2) w) (R (i64 1) w)
theorem aGp (h:JI t0 t1 w R):aC prog 198 #[t0,t1] w R:=dw [] func198 h
def JH (t0:O) (w:Ω) (R:O->Ω->Prop):Prop:=
 v (et .eql 3 3 t0 (i64 3)) w λt5 w=>aO t5 (R (i64 1) w) (v (et .eql 3 3 t0 (i64 4)) w λt7 w=>aO t7 (R (i64 2) w) (R (i64 0) w))
theorem aGo (h:JH t0 w R):aC prog 199 #[t0] w R:=dw [] func199 h
def AB (t0:O) (w:Ω) (R:O->Ω->Prop):Prop:=
 Go.Vc.aI (t0) /\
 fl 252 t0 1 42 w λt6 w=>v (ln 42 3 t6) w λt7 w=>v (et .eql 3 7 t7 (i64 0)) w λt8 w=>aO t8 (R (i64 0) w) (Go.Vc.aI (t0) /\
 fl 252 t0 2 3 w λt12 w=>v (b .add t12 (i64 1)) w λt13 w=>Go.Vc.aI (t0) /\
 v (fieldAt 252 t0 2) w λt15 w=>u (storeAt 3 t15 t13) w λ_ w=>aH w λS4 w=>Go.Vc.aI (t0) /\
 yf S4 252 t0 1 42 λt19=>Go.Vc.aI (t0) /\
 yf S4 252 t0 2 3 λt23=>Go.Vc.aI (t0) /\
 yf S4 252 t0 1 42 λt27=>y S4 (ln 42 3 t27) λt28=>y S4 (b .rem t23 t28) λt29=>yi S4 42 t19 t29 3 λt31=>Go.Vc.aI (t0) /\
 yf S4 252 t0 2 3 λt35=>Go.Vc.aI (t0) /\
 yf S4 252 t0 1 42 λt39=>y S4 (ln 42 3 t39) λt40=>y S4 (b .quo t35 t40) λt41=>y S4 (b .add t31 t41) λt42=>R t42 w)
theorem TW (h:AB t0 w R):aC prog 210 #[t0] w R:=dw [l,dr 0 28 268435455 (tk (rg 0 27) .done)] func210 h
def AA (t0 t1:O) (w:Ω) (R:O->Ω->Prop):Prop:=
 ∃ (I1:NP 2) (μ1:NF 2),I1 bT (i64 0) w /\
 ∀ t6 t7 w1,I1 t6 t7 w1->∀ _f:bQ,Go.Vc.aI (t0) /\
 fl 252 t0 3 42 w1 λt12 w=>v (ln 42 3 t12) w λt13 w=>v (b .lss t7 t13) w λt14 w6=>aO t14 (Go.Vc.aI (t0) /\
 fl 252 t0 3 42 w6 λt20 w=>il 42 t20 t7 3 w λt23 w=>v (e .eql 3 (.tmp 23) (.tmp 24) t23 t1) w λt25 w12=>aO t25 (v (buildSlice 42 1 #[(0,t7)]) w12 λt28 w=>v (Builtin.append_ #[42,42] 42 #[t6,t28]) w λt29 w=>v (b .add t7 (i64 1)) w λt16 w=>I1 t29 t16 w/\μ1 t29 t16 w < μ1 t6 t7 w1) (v (b .add t7 (i64 1)) w12 λt16_1 w=>I1 t6 t16_1 w/\μ1 t6 t16_1 w < μ1 t6 t7 w1)) (v (ln 42 3 t6) w6 λt31 w=>v (et .eql 3 31 t31 (i64 0)) w λt32 w=>aO t32 (R (.tuple #[(i64 0),(.bool false)]) w) (c 210 #[t0] w λt35 w=>v (ln 42 3 t6) w λt37 w=>c 11 #[t35,t37] w λt38 w=>il 42 t6 t38 3 w λt40 w=>R (.tuple #[t40,(.bool true)]) w))
theorem TV (h:AA t0 t1 w R):aC prog 211 #[t0,t1] w R:=dw [lo [6,7]] func211 h
def zZ (t0 t1:O) (w:Ω) (R:O->Ω->Prop):Prop:=
 v (ln 24 3 t0) w λt7 w=>∃ (I1:NP 1) (μ1:NF 1),I1 (i64 0) w /\
 ∀ t8 w2,I1 t8 w2->∀ _f:bQ,v (b .lss t8 t7) w2 λt9 w3=>aO t9 (il 24 t0 t8 46 w3 λt15 w=>aTk prog t1 #[t15] w λt16 w=>aO t16 (R t8 w) (v (b .add t8 (i64 1)) w λt18 w=>I1 t18 w/\μ1 t18 w < μ1 t8 w2)) (R (i64 (-1)) w3)
theorem aGn (h:zZ t0 t1 w R):aC prog 212 #[t0,t1] w R:=dw [lo [8]] func212 h
def zY (t0 t1:O) (w:Ω) (R:O->Ω->Prop):Prop:=
 v (box 46 t0) w λt2 w=>fl 46 t2 0 9 w λt5 w=>v (loadAt 9 t1) w λt6 w=>v (e .eql 9 (.tmp 5) (.tmp 6) t5 t6) w λt7 w=>R t7 w
theorem aGm (h:zY t0 t1 w R):aC prog 213 #[t0,t1] w R:=dw [] func213 h
def JG (t0 t1 t2 t3 t4:O) (w:Ω) (R:O->Ω->Prop):Prop:=
 v (box 283 t0) w λt5 w=>fl 283 t5 1 48 w λt11 w=>v (et .neq 48 11 t11 (Value.pointer none)) w λt12 w4=>aO t12 (fl 283 t5 1 48 w4 λt14 w=>c 52 #[t14,t1,t2,t3,t4] w λ_ w=>R (.tuple #[]) w) (R (.tuple #[]) w4)
theorem aGl (h:JG t0 t1 t2 t3 t4 w R):aC prog 214 #[t0,t1,t2,t3,t4] w R:=dw [] func214 h
def JF (t0 t1 t2 t3 t4 t5:O) (w:Ω) (R:O->Ω->Prop):Prop:=
 aH w λS1 w=>y S1 (et .neq 3 14 t2 (i64 3)) λt15=>gx t15 true t2 λt17=>gy t15 true S1 (et .neq 3 17 t17 (i64 4)) λt18=>aN t15 t18 (.bool false) λt19=>gx t19 false t3 λt21=>gy t19 false S1 (b .lss t21 (i64 0)) λt22=>aN t19 (.bool true) t22 λt23=>gx t23 false t3 λt25=>gy t23 false S1 (b .gtr t25 (i64 2)) λt26=>aN t23 (.bool true) t26 λt27=>gx t27 false t5 λt29=>gy t27 false S1 (b .lss t29 (i64 0)) λt30=>aN t27 (.bool true) t30 λt31=>gx t31 false t5 λt33=>gy t31 false S1 (b .gtr t33 (i64 64)) λt34=>aN t31 (.bool true) t34 λt35=>gx t35 false t5 λt37=>gy t35 false S1 (b .add (i64 8) t37) λt38=>gx t35 false t0 λt39=>pN t35 false (λK=> (Go.Vc.aI (t39)/\K (t39))) λt40=>gy t35 false S1 (fieldAt 193 t40 0) λt41=>gy t35 false S1 (loadAt 3 t41) λt42=>gx t35 false t0 λt43=>gd t35 false (λK=> c 239 #[t43] w K) w λt44 w=>S1 w /\
 gy t35 false S1 (b .sub t42 t44) λt45=>gy t35 false S1 (b .gtr t38 t45) λt46=>aN t35 (.bool true) t46 λt47=>aO t47 (R (.tuple #[(i64 0),(.bool false)]) w) (aH w λS3 w=>Go.Vc.aI (t0) /\
 yf S3 193 t0 1 154 λt52=>v (makeSlice 23 t5 t5) w λt58 w=>S3 w /\
 y S3 (build 127 #[(0,t1),(1,t2),(2,t3),(3,t4),(4,t58)]) λt59=>v (buildSlice 154 1 #[(0,t59)]) w λt60 w=>S3 w /\
 v (Builtin.append_ #[154,154] 154 #[t52,t60]) w λt61 w=>S3 w /\
 Go.Vc.aI (t0) /\
 y S3 (fieldAt 193 t0 1) λt63=>u (storeAt 154 t63 t61) w λ_ w=>Go.Vc.aI (t0) /\
 fl 193 t0 1 154 w λt67 w=>v (ln 154 3 t67) w λt68 w=>R (.tuple #[t68,(.bool true)]) w)
theorem aGk (h:JF t0 t1 t2 t3 t4 t5 w R):aC prog 215 #[t0,t1,t2,t3,t4,t5] w R:=dw [dr 0 34 17179869183 (tk (rg 0 29) (.only 30 (tk [31,32,33] .done))),l,l,dr 0 16 65535 (tk (rg 0 9) (.only 10 (.take 11 (.only 12 (.only 13 (.take 14 (.take 15 (.last 16))))))))] func215 h
def JE (t0 t1 t2 t3:O) (w:Ω) (R:O->Ω->Prop):Prop:=
 v (box 283 t0) w λt4 w=>v (loadAt 283 t4) w λt8 w=>c 214 #[t8,(i64 2),t1,t2,t3] w λ_ w=>R (.tuple #[]) w
theorem aGj (h:JE t0 t1 t2 t3 w R):aC prog 216 #[t0,t1,t2,t3] w R:=dw [] func216 h
def JD (t0 t1 t2:O) (w:Ω) (R:O->Ω->Prop):Prop:=
 v (et .eql 100 9 t0 (Value.pointer none)) w λt10 w=>aO t10 (R (i64 27013) w) (c 56 #[t0,t1] w λt14 w=>x2 t14 w λt15 t16 w=>st 127 t15 w λt7 w=>v (Op.unary UnOp.not t16) w λt19 w=>aO t19 (R (i64 28417) w) (v (loadAt 127 t7) w λt21 w=>c 240 #[t21,t2] w λt23 w=>v (Op.unary UnOp.not t23) w λt24 w=>aO t24 (R (i64 28420) w) (R (i64 36864) w)))
theorem aGi (h:JD t0 t1 t2 w R):aC prog 217 #[t0,t1,t2] w R:=dw [] func217 h
def JC (t0 t1 t2 t3:O) (w:Ω) (R:O->Ω->Prop):Prop:=
 v (box 283 t0) w λt4 w=>aH w λS1 w=>yf S1 283 t4 0 26 λt10=>Go.Vc.aI (t10) /\
 yf S1 134 t10 0 100 λt13=>yf S1 283 t4 2 3 λt18=>c 241 #[t13,t1,t2,t3,t18] w λt19 w=>S1 w /\
 R t19 w
theorem aGh (h:JC t0 t1 t2 t3 w R):aC prog 218 #[t0,t1,t2,t3] w R:=dw [dr 0 12 4095 (tk (rg 0 9) (.only 10 (.take 11 .done)))] func218 h
def JA (t0 t1 t2:O) (w:Ω) (R:O->Ω->Prop):Prop:=
 c 97 #[t0,t1] w λt11 w=>v (et .eql 194 12 t11 (Value.pointer none)) w λt13 w=>gk t13 false t2 w λt15 w=>g t13 false (b .lss t15 (i64 0)) w λt16 w=>aN t13 (.bool true) t16 λt17=>gk t17 false t2 w λt19 w=>gk t17 false t11 w λt20 w=>gd t17 false (λK=> (Go.Vc.aI (t20)/\K (t20) w)) w λt21 w=>g t17 false (fieldAt 127 t21 4) w λt22 w=>g t17 false (loadAt 23 t22) w λt23 w=>g t17 false (ln 23 3 t23) w λt24 w=>g t17 false (b .geq t19 t24) w λt25 w=>aN t17 (.bool true) t25 λt26=>aO t26 (R (.tuple #[(Value.int IntKind.u8 0),(.bool false)]) w) (Go.Vc.aI (t11) /\
 fl 127 t11 4 23 w λt30 w=>il 23 t30 t2 5 w λt33 w=>R (.tuple #[t33,(.bool true)]) w)
theorem aGg (h:JA t0 t1 t2 w R):aC prog 219 #[t0,t1,t2] w R:=dw [] func219 h
def IZ (t0 t1 t2 t3:O) (w:Ω) (R:O->Ω->Prop):Prop:=
 c 219 #[t0,t1,t2] w λt15 w=>x2 t15 w λ_ t17 w=>v (Op.unary UnOp.not t17) w λt19 w=>aO t19 (R (.bool false) w) (c 97 #[t0,t1] w λt22 w=>Go.Vc.aI (t22) /\
 fl 127 t22 4 23 w λt25 w=>v (indexAt 23 t25 t2) w λt28 w=>u (storeAt 5 t28 t3) w λ_ w=>R (.bool true) w)
theorem aGf (h:IZ t0 t1 t2 t3 w R):aC prog 220 #[t0,t1,t2,t3] w R:=dw [] func220 h
def IY (t0:O) (w:Ω) (R:O->Ω->Prop):Prop:=
 v (box 283 t0) w λt1 w=>fl 283 t1 5 42 w λt7 w=>il 42 t7 (i64 4) 3 w λt10 w=>aH w λS3 w=>y S3 (loadAt 283 t1) λt11=>yi S3 42 t7 (i64 0) 3 λt14=>yi S3 42 t7 (i64 1) 3 λt17=>c 216 #[t11,t14,t17,t10] w λ_ w=>S3 w /\
 aH w λS4 w=>y S4 (loadAt 283 t1) λt20=>yi S4 42 t7 (i64 2) 3 λt23=>yi S4 42 t7 (i64 3) 3 λt26=>c 216 #[t20,t23,t26,t10] w λ_ w=>S4 w /\
 aH w λS5 w=>y S5 (loadAt 283 t1) λt29=>yi S5 42 t7 (i64 0) 3 λt32=>yi S5 42 t7 (i64 1) 3 λt35=>c 218 #[t29,t32,t35,t10] w λt37 w=>S5 w /\
 v (et .neq 3 38 t37 (i64 36864)) w λt39 w=>aO t39 (R t37 w) (aH w λS8 w=>y S8 (loadAt 283 t1) λt41=>yi S8 42 t7 (i64 2) 3 λt44=>yi S8 42 t7 (i64 3) 3 λt47=>c 218 #[t41,t44,t47,t10] w λt49 w=>S8 w /\
 R t49 w)
theorem aGe (h:IY t0 w R):aC prog 221 #[t0] w R:=dw [dr 0 9 511 (tk (rg 0 7) (.only 8 .done)),l,dr 0 9 511 (tk (rg 0 7) (.only 8 .done)),l,dr 0 10 1023 (tk (rg 0 7) (.only 8 (.take 9 .done))),l,l,dr 0 10 1023 (tk (rg 0 7) (.only 8 (.take 9 .done)))] func221 h
def IX (t0 t1 t2 t3:O) (w:Ω) (R:O->Ω->Prop):Prop:=
 v (box 283 t0) w λt4 w=>fl 283 t4 0 26 w λt13 w=>Go.Vc.aI (t13) /\
 fl 134 t13 0 100 w λt16 w=>c 56 #[t16,t1] w λt18 w=>x2 t18 w λt19 _ w=>st 127 t19 w λt9 w=>fl 127 t9 4 23 w λt22 w=>v (b .add t2 t3) w λt26 w=>v (sliceAt 23 t22 (some t2) (some t26) none) w λt27 w=>R t27 w
theorem aGd (h:IX t0 t1 t2 t3 w R):aC prog 222 #[t0,t1,t2,t3] w R:=dw [] func222 h
def IW (t0 t1:O) (w:Ω) (R:O->Ω->Prop):Prop:=
 v (ln 23 3 t0) w λt8 w=>v (ln 23 3 t1) w λt10 w=>v (e .neq 3 (.tmp 8) (.tmp 10) t8 t10) w λt11 w=>aO t11 (R (Value.int IntKind.i32 0) w) (v (ln 23 3 t0) w λt13 w=>∃ (I1:NP 2) (μ1:NF 2),I1 (Value.int IntKind.u8 0) (i64 0) w /\
 ∀ t5 t14 w5,I1 t5 t14 w5->∀ _f:bQ,v (b .lss t14 t13) w5 λt15 w6=>aO t15 (aH w6 λS7 w=>yi S7 23 t0 t14 5 λt21=>yi S7 23 t1 t14 5 λt25=>y S7 (binOp .xor 5 t21 t25) λt26=>y S7 (binOp .or 5 t5 t26) λt27=>v (b .add t14 (i64 1)) w λt28 w=>I1 t27 t28 w/\μ1 t27 t28 w < μ1 t5 t14 w5) (v (convert 5 21 t5) w6 λt30 w=>c 177 #[t30] w λt31 w=>v (binOp .sub 21 (Value.int IntKind.i32 1) t31) w λt32 w=>R t32 w))
theorem aGc (h:IW t0 t1 w R):aC prog 223 #[t0,t1] w R:=dw [l,lo [5,14],l,dr 0 12 4095 (tk (rg 0 11) .done)] func223 h
def zX (t0:O) (w:Ω) (R:O->Ω->Prop):Prop:=
 v (et .eql 9 5 t0 (Value.string { data:=#[] })) w λt6 w=>gk t6 false t0 w λt8 w=>g t6 false (ln 9 3 t8) w λt9 w=>g t6 false (b .gtr t9 (i64 16)) w λt10 w=>aN t6 (.bool true) t10 λt11=>gk t11 false t0 w λt13 w=>gd t11 false (λK=> c 142 #[t13] w K) w λt14 w=>g t11 false (Op.unary UnOp.not t14) w λt15 w=>aN t11 (.bool true) t15 λt16=>aO t16 (R (.bool false) w) (v (range 9 t0) w λt18 w=>∃ (I1:NP 0) (μ1:NF 0),I1 w /\
 ∀ w11:Ω,I1 w11->∀ _f:bQ,v (next t18 true 0) w11 λt19 w=>v (extract t19 0) w λt20 w13=>aO t20 (v (extract t19 2) w13 λt21 w=>c 242 #[t21] w λt23 w=>v (Op.unary UnOp.not t23) w λt24 w=>aO t24 (R (.bool false) w) (I1 w/\μ1 w < μ1 w11)) (R (.bool true) w13))
theorem aGb (h:zX t0 w R):aC prog 224 #[t0] w R:=dw [l,lo []] func224 h
def IV (t0:O) (w:Ω) (R:O->Ω->Prop):Prop:=
 Go.Vc.aI (t0) /\
 fl 193 t0 1 154 w λt9 w=>v (sliceAt 154 t9 (some (i64 2)) none none) w λt10 w=>v (ln 154 3 t10) w λt11 w=>∃ (I1:NP 2) (μ1:NF 2),I1 (i64 0) (i64 0) w /\
 ∀ t3 t12 w6,I1 t3 t12 w6->∀ _f:bQ,v (b .lss t12 t11) w6 λt13 w7=>aO t13 (il 154 t10 t12 127 w7 λt15 w=>st 127 t15 w λt5 w=>fl 127 t5 4 23 w λt18 w=>v (ln 23 3 t18) w λt19 w=>v (b .add (i64 8) t19) w λt20 w=>v (b .add t3 t20) w λt21 w=>v (b .add t12 (i64 1)) w λt22 w=>I1 t21 t22 w/\μ1 t21 t22 w < μ1 t3 t12 w6) (R t3 w7)
theorem aGa (h:IV t0 w R):aC prog 239 #[t0] w R:=dw [lo [3,12]] func239 h
def IU (t0 t1:O) (w:Ω) (R:O->Ω->Prop):Prop:=
 v (box 127 t0) w λt2 w=>fl 127 t2 0 3 w λt6 w=>v (et .eql 3 6 t6 (i64 (-1))) w λt7 w=>g t7 false (fieldAt 127 t2 0) w λt9 w=>g t7 false (loadAt 3 t9) w λt10 w=>gk t7 false t1 w λt11 w=>g t7 false (e .eql 3 (.tmp 10) (.tmp 11) t10 t11) w λt12 w=>aN t7 (.bool true) t12 λt13=>g t13 false (fieldAt 127 t2 3) w λt15 w=>g t13 false (loadAt 4 t15) w λt16 w=>aN t13 (.bool true) t16 λt17=>R t17 w
theorem aFz (h:IU t0 t1 w R):aC prog 240 #[t0,t1] w R:=dw [] func240 h
def IR (t0 t1 t2 t3 t4:O) (w:Ω) (R:O->Ω->Prop):Prop:=
 c 217 #[t0,t1,t4] w λt17 w=>v (et .neq 3 18 t17 (i64 36864)) w λt19 w=>aO t19 (R t17 w) (c 56 #[t0,t1] w λt24 w=>x2 t24 w λt25 _ w=>st 127 t25 w λt12 w=>v (b .lss t2 (i64 0)) w λt28 w=>gk t28 false t3 w λt30 w=>g t28 false (b .lss t30 (i64 0)) w λt31 w=>aN t28 (.bool true) t31 λt32=>gk t32 false t2 w λt34 w=>g t32 false (fieldAt 127 t12 4) w λt35 w=>g t32 false (loadAt 23 t35) w λt36 w=>g t32 false (ln 23 3 t36) w λt37 w=>g t32 false (b .gtr t34 t37) w λt38 w=>aN t32 (.bool true) t38 λt39=>gk t39 false t3 w λt41 w=>g t39 false (fieldAt 127 t12 4) w λt42 w=>g t39 false (loadAt 23 t42) w λt43 w=>g t39 false (ln 23 3 t43) w λt44 w=>gk t39 false t2 w λt45 w=>g t39 false (b .sub t44 t45) w λt46 w=>g t39 false (b .gtr t41 t46) w λt47 w=>aN t39 (.bool true) t47 λt48=>aO t48 (R (i64 28418) w) (R (i64 36864) w))
theorem aFy (h:IR t0 t1 t2 t3 t4 w R):aC prog 241 #[t0,t1,t2,t3,t4] w R:=dw [] func241 h
def IQ (t0:O) (w:Ω) (R:O->Ω->Prop):Prop:=
 v (binOp .geq 21 t0 (Value.int IntKind.i32 97)) w λt4 w=>gk t4 true t0 w λt6 w=>g t4 true (binOp .leq 21 t6 (Value.int IntKind.i32 122)) w λt7 w=>aN t4 t7 (.bool false) λt8=>gk t8 false t0 w λt10 w=>g t8 false (binOp .geq 21 t10 (Value.int IntKind.i32 48)) w λt11 w=>gk t8 false t11 w λt12 w=>gk t12 true t0 w λt13 w=>g t12 true (binOp .leq 21 t13 (Value.int IntKind.i32 57)) w λt14 w=>gd t8 false (λK=> aN t12 t14 (.bool false) λv=> K v w) w λt15 w=>aN t8 (.bool true) t15 λt16=>gk t16 false t0 w λt18 w=>g t16 false (et .eql 21 18 t18 (Value.int IntKind.i32 45)) w λt19 w=>aN t16 (.bool true) t19 λt20=>gk t20 false t0 w λt22 w=>g t20 false (et .eql 21 22 t22 (Value.int IntKind.i32 46)) w λt23 w=>aN t20 (.bool true) t23 λt24=>gk t24 false t0 w λt26 w=>g t24 false (binOp .geq 21 t26 (Value.int IntKind.i32 224)) w λt27 w=>gk t24 false t27 w λt28 w=>gk t28 true t0 w λt29 w=>g t28 true (binOp .leq 21 t29 (Value.int IntKind.i32 255)) w λt30 w=>gd t24 false (λK=> aN t28 t30 (.bool false) λv=> K v w) w λt31 w=>aN t24 (.bool true) t31 λt32=>R t32 w
theorem aFx (h:IQ t0 w R):aC prog 242 #[t0] w R:=dw [] func242 h
end Go.Proofs.YtgkkecladbmjkaaGreatDoor
