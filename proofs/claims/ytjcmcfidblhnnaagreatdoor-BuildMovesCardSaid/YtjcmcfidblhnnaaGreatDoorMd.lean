/- Each function's body, opened into a plain condition by program (vcgen. -/
import Derived.Test.YtjcmcfidblhnnaaGreatDoorMb
import Derived.Test.YtjcmcfidblhnnaaGreatDoorMc
import Derived.Test.YtjcmcfidblhnnaaGreatDoorProg
import Derived.KernelRfl
namespace Go.Proofs.YtjcmcfidblhnnaaGreatDoor
open Go.Vc Tryz Instr
namespace Dn
abbrev v:=Go.Vc.V prog
abbrev u:=Go.Vc.U prog
abbrev c:=Go.Vc.aB prog
abbrev y:=Go.Vc.aE prog
abbrev e (o:BinOp) (t:TypeId) (x y:Operand) (a b:Value):Sem Value:=do eqGuard o t x y a b;binOp o t a b
abbrev ec (o:BinOp) (t:TypeId) (x:Operand) (a b:Value):Sem Value:=e o t x (.const b) a b
abbrev g (c:Value) (b:Bool) (s:Sem Value) (w:World) (K:Value→World→Prop):Prop:=gd c b (fun K=>v s w K) w K
abbrev gk (c:Value) (b:Bool) (t:Value) (w:World) (K:Value→World→Prop):Prop:=gd c b (fun K=>K t w) w K
abbrev gy (c:Value) (b:Bool) (S:World→Prop) (s:Sem Value) (L:Value→Prop):Prop:=DU c b (fun K=>y S s K) L
abbrev gx (c:Value) (b:Bool) (t:Value) (L:Value→Prop):Prop:=DU c b (fun K=>K t) L
abbrev fl (S:TypeId) (p:Value) (f:Nat) (t:TypeId) (w:World) (K:Value→World→Prop):Prop:=v (fieldAt S p f) w fun q w=>v (loadAt t q) w K
abbrev il (S:TypeId) (p i:Value) (t:TypeId) (w:World) (K:Value→World→Prop):Prop:=v (indexAt S p i) w fun q w=>v (loadAt t q) w K
abbrev jl (S:TypeId) (p i:Value) (s:TypeId) (f:Nat) (t:TypeId) (w:World) (K:Value→World→Prop):Prop:=v (indexAt S p i) w fun q w=>fl s q f t w K
abbrev yf (D:World→Prop) (S:TypeId) (p:Value) (f:Nat) (t:TypeId) (L:Value→Prop):Prop:=y D (fieldAt S p f) fun q=>y D (loadAt t q) L
abbrev yi (D:World→Prop) (S:TypeId) (p i:Value) (t:TypeId) (L:Value→Prop):Prop:=y D (indexAt S p i) fun q=>y D (loadAt t q) L
abbrev al (t:TypeId):Sem Value:=alloc t true (.tuple #[])
abbrev st (t:TypeId) (x:Value) (w:World) (K:Value→World→Prop):Prop:=v (al t) w fun p w=>u (storeAt t p x) w fun _ w=>K p w
abbrev lv (t:TypeId) (p:Value) (w:World) (K:Value→Prop):Prop:=∃ r,(loadVar t (match p with|.pointer (some p)=>p|_=>⟨0,0,none⟩)).run prog w=.ok r w∧(∃ q,p=Value.pointer (some q))∧K r
abbrev b (o:BinOp) (a b:Value):Sem Value:=binOp o 3 a b
abbrev et (o:BinOp) (t:TypeId) (k:Nat) (a b:Value):Sem Value:=ec o t (.tmp k) a b
abbrev ln (t ty:TypeId) (x:Value):Sem Value:=Builtin.len_ #[t] ty #[x]
abbrev x2 (t:Value) (w:World) (K:Value→Value→World→Prop):Prop:=v (extract t 0) w fun a w=>v (extract t 1) w fun b w=>K a b w
abbrev x3 (t:Value) (w:World) (K:Value→Value→Value→World→Prop):Prop:=v (extract t 0) w fun a w=>v (extract t 1) w fun b w=>v (extract t 2) w fun c w=>K a b c w
abbrev h (n:Int):Value:=.int .u16 n
abbrev l:bS:=.leaf
abbrev s:=bS.seq
abbrev cn:=bS.cond
abbrev bk:=bS.block
end Dn
open Dn
open Tryz Instr
variable {t0 t1 t2 t3 t4 t5 t6 t7 t8 t9:Value} {w:World} {R:Value→World→Prop}
open Go.Vc
theorem dw {f:FuncId} {fn:Func} {args:List Value} {D:Prop} (ann:bS) (hf:prog.funcs[f]?=some fn) (h:D)
    (hb:(!(fn.name == "runtime.NumGoroutine")&&fn.body.isSome&&(ok fn.ntmps ann (fn.body.getD .skip)&&CT fn.ntmps fn.results.toList&&Nat.ble args.length fn.ntmps))=true:=by kernel_rfl)
    (hD:D=vc prog ann (fn.body.getD .skip) (aOf prog fn.results.toList R) (uE args) w:=by kernel_rfl):aB prog f args.toArray w R:=aHt aYq ann hf hb hD h
def aKn:bS:=(q (s (q (bk (.join (rg 9 14) [9] (q (cn l (q (cn l (q (cn l (q (cn l l)))))))) (cn (q l) (q (cn (s (.draw [0,1,2,4,0,16,40,64,128,256,1023] [0,1,2,4,0,16,40,64,128,256,512] 0 11 2047 (tk (rg 0 7) (.only 8 (.only 9 (.take 10 .done))))) l) (q (cn (s (.draw [0,1,2,4,8,0,32,80,128,256,512,2047] [0,1,2,4,8,0,32,80,128,256,512,1024] 0 12 4095 (tk (rg 0 8) (.only 9 (.only 10 (.take 11 .done))))) l) (q (cn (s (.draw [0,1,2,0,8,16,36,64,255] [0,1,2,0,8,16,36,64,128] 0 9 511 (tk (rg 0 5) (.only 6 (.only 7 (.take 8 .done))))) l) (.join (rg 52 64) [52] (q (cn l (q (cn l (q (cn l (q (cn l (q (cn l (q (cn l (q (cn l (q (cn l (q (cn l (q (cn l (q (cn l l)))))))))))))))))))))) (cn (s (.draw [0,1,2,0,8,16,36,64,192,511] [0,1,2,0,8,16,36,64,128,256] 0 10 1023 (tk (rg 0 5) (.only 6 (.only 7 (.only 8 (.take 9 .done)))))) l) (.join [74,75,76] [74] (q (cn l l)) (cn (q l) (q (cn (q l) (.join [88,89,90] [88] (q (cn l l)) (cn (q l) (q (cn (q l) (q (cn (s (q (cn (q l) l)) (q l)) (q (cn (q l) (q (cn (s (.draw [0,1,2,4,8,0,32,80,128,256,512,2047] [0,1,2,4,8,0,32,80,128,256,512,1024] 0 12 4095 (tk (rg 0 9) (.only 10 (.take 11 .done)))) l) (q (cn (s (.draw [0,1,2,4,8,0,32,80,128,256,512,2047] [0,1,2,4,8,0,32,80,128,256,512,1024] 0 12 4095 (tk (rg 0 9) (.only 10 (.take 11 .done)))) l) l)))))))))))))))))))))))))))) (q l)))
def OO (t0 t1 t2:Value) (w:World) (R:Value→World→Prop):Prop:=
 v (box 88 t1) w fun t4 w=>fl 88 t4 0 3 w fun t8 w=>∃ J1:NP 1,(v (et .eql 3 8 t8 (i64 1)) w fun t10 w=>aJ t10 (J1 t10 w) (v (et .eql 3 8 t8 (i64 17)) w fun t11 w=>aJ t11 (J1 t11 w) (v (et .eql 3 8 t8 (i64 18)) w fun t12 w=>aJ t12 (J1 t12 w) (v (et .eql 3 8 t8 (i64 26)) w fun t13 w=>aJ t13 (J1 t13 w) (v (et .eql 3 8 t8 (i64 28)) w fun t14 w=>J1 t14 w))))) ∧
 ∀ t9 w9,J1 t9 w9→∀ _f:bN,aJ t9 (v (buildSlice 23 1 #[(0,(i64 1))]) w9 fun t15 w=>c 202 #[t15] w fun t16 w=>R t16 w) (v (et .eql 3 8 t8 (i64 2)) w9 fun t18 w12=>aJ t18 (aM w12 fun S9 w=>Go.Vc.bL (t0) ∧
 yf S9 166 t0 2 23 fun t22=>yf S9 88 t4 1 3 fun t24=>yi S9 23 t22 t24 3 fun t26=>v (buildSlice 23 1 #[(0,t26)]) w fun t27 w=>S9 w ∧
 c 202 #[t27] w fun t28 w=>S9 w ∧
 R t28 w) (v (et .eql 3 8 t8 (i64 33)) w12 fun t30 w16=>aJ t30 (aM w16 fun S11 w=>Go.Vc.bL (t0) ∧
 y S11 (fieldAt 166 t0 0) fun t33=>yf S11 27 t33 1 23 fun t35=>yf S11 88 t4 1 3 fun t37=>yi S11 23 t35 t37 3 fun t39=>v (buildSlice 23 1 #[(0,t39)]) w fun t40 w=>S11 w ∧
 c 202 #[t40] w fun t41 w=>S11 w ∧
 R t41 w) (v (et .eql 3 8 t8 (i64 5)) w16 fun t43 w20=>aJ t43 (aM w20 fun S13 w=>yi S13 23 t2 (i64 0) 3 fun t46=>yi S13 23 t2 (i64 0) 3 fun t49=>v (buildSlice 23 2 #[(0,t46),(1,t49)]) w fun t50 w=>S13 w ∧
 c 202 #[t50] w fun t51 w=>S13 w ∧
 R t51 w) (∃ J2:NP 1,(v (et .eql 3 8 t8 (i64 6)) w20 fun t53 w=>aJ t53 (J2 t53 w) (v (et .eql 3 8 t8 (i64 7)) w fun t54 w=>aJ t54 (J2 t54 w) (v (et .eql 3 8 t8 (i64 8)) w fun t55 w=>aJ t55 (J2 t55 w) (v (et .eql 3 8 t8 (i64 9)) w fun t56 w=>aJ t56 (J2 t56 w) (v (et .eql 3 8 t8 (i64 10)) w fun t57 w=>aJ t57 (J2 t57 w) (v (et .eql 3 8 t8 (i64 11)) w fun t58 w=>aJ t58 (J2 t58 w) (v (et .eql 3 8 t8 (i64 12)) w fun t59 w=>aJ t59 (J2 t59 w) (v (et .eql 3 8 t8 (i64 13)) w fun t60 w=>aJ t60 (J2 t60 w) (v (et .eql 3 8 t8 (i64 14)) w fun t61 w=>aJ t61 (J2 t61 w) (v (et .eql 3 8 t8 (i64 19)) w fun t62 w=>aJ t62 (J2 t62 w) (v (et .eql 3 8 t8 (i64 20)) w fun t63 w=>aJ t63 (J2 t63 w) (v (et .eql 3 8 t8 (i64 21)) w fun t64 w=>J2 t64 w)))))))))))) ∧
 ∀ t52 w36,J2 t52 w36→∀ _f:bN,aJ t52 (aM w36 fun S26 w=>yi S26 23 t2 (i64 0) 3 fun t67=>yi S26 23 t2 (i64 1) 3 fun t70=>c 208 #[t67,t70] w fun t71 w=>S26 w ∧
 v (buildSlice 23 1 #[(0,t71)]) w fun t72 w=>S26 w ∧
 c 202 #[t72] w fun t73 w=>S26 w ∧
 R t73 w) (∃ J3:NP 1,(v (et .eql 3 8 t8 (i64 15)) w36 fun t75 w=>aJ t75 (J3 t75 w) (v (et .eql 3 8 t8 (i64 16)) w fun t76 w=>J3 t76 w)) ∧
 ∀ t74 w43,J3 t74 w43→∀ _f:bN,aJ t74 (il 23 t2 (i64 0) 3 w43 fun t79 w=>v (buildSlice 23 1 #[(0,t79)]) w fun t80 w=>c 202 #[t80] w fun t81 w=>R t81 w) (v (et .eql 3 8 t8 (i64 22)) w43 fun t83 w48=>aJ t83 (c 209 #[t2] w48 fun t85 w=>v (buildSlice 23 1 #[(0,t85)]) w fun t86 w=>c 202 #[t86] w fun t87 w=>R t87 w) (∃ J4:NP 1,(v (et .eql 3 8 t8 (i64 25)) w48 fun t89 w=>aJ t89 (J4 t89 w) (v (et .eql 3 8 t8 (i64 27)) w fun t90 w=>J4 t90 w)) ∧
 ∀ t88 w54,J4 t88 w54→∀ _f:bN,aJ t88 (fl 88 t4 1 3 w54 fun t92 w=>v (buildSlice 23 1 #[(0,t92)]) w fun t93 w=>c 202 #[t93] w fun t94 w=>R t94 w) (v (et .eql 3 8 t8 (i64 29)) w54 fun t96 w59=>aJ t96 (il 23 t2 (i64 0) 3 w59 fun t99 w=>c 210 #[t99] w fun t100 w=>v (buildSlice 23 1 #[(0,t100)]) w fun t101 w=>c 202 #[t101] w fun t102 w=>R t102 w) (v (et .eql 3 8 t8 (i64 32)) w59 fun t104 w65=>aJ t104 (il 23 t2 (i64 0) 3 w65 fun t107 w=>v (et .eql 3 107 t107 (i64 4)) w fun t108 w=>gk t108 false t2 w fun t110 w=>g t108 false (indexAt 23 t110 (i64 2)) w fun t111 w=>g t108 false (loadAt 3 t111) w fun t112 w=>g t108 false (et .eql 3 112 t112 (i64 4)) w fun t113 w72=>aG t108 (.bool true) t113 fun t114=>aJ t114 (v (buildSlice 23 1 #[(0,(i64 2))]) w72 fun t115 w=>c 202 #[t115] w fun t116 w=>R t116 w) (v (buildSlice 23 1 #[(0,(i64 1))]) w72 fun t117 w=>c 202 #[t117] w fun t118 w=>R t118 w)) (v (et .eql 3 8 t8 (i64 35)) w65 fun t120 w78=>aJ t120 (fl 88 t4 1 3 w78 fun t122 w=>v (b .add (i64 3) t122) w fun t123 w=>v (b .sub t123 (i64 1)) w fun t124 w=>v (buildSlice 23 1 #[(0,t124)]) w fun t125 w=>c 202 #[t125] w fun t126 w=>R t126 w) (v (et .eql 3 8 t8 (i64 37)) w78 fun t128 w85=>aJ t128 (aM w85 fun S44 w=>Go.Vc.bL (t0) ∧
 y S44 (fieldAt 166 t0 0) fun t131=>yf S44 27 t131 3 25 fun t133=>yf S44 88 t4 1 3 fun t135=>y S44 (indexAt 25 t133 t135) fun t136=>yf S44 38 t136 1 3 fun t138=>c 203 #[t138] w fun t139 w=>S44 w ∧
 R t139 w) (v (et .eql 3 8 t8 (i64 38)) w85 fun t141 w88=>aJ t141 (aM w88 fun S46 w=>Go.Vc.bL (t0) ∧
 y S46 (fieldAt 166 t0 0) fun t144=>yf S46 27 t144 2 24 fun t146=>yf S46 88 t4 1 3 fun t148=>y S46 (indexAt 24 t146 t148) fun t149=>yf S46 146 t149 3 3 fun t151=>c 203 #[t151] w fun t152 w=>S46 w ∧
 R t152 w) (R aZ w88)))))))))))))
theorem aUz (h:OO t0 t1 t2 w R):aB prog 174 #[t0,t1,t2] w R:=dw aKn func174 h
def aKm:bS:=(q (q l))
def ON (t0 t1:Value) (w:World) (R:Value→World→Prop):Prop:=
 c 211 #[t0,t1] w fun t7 w=>v (b .geq t7 (i64 0)) w fun t8 w=>R t8 w
theorem aUy (h:ON t0 t1 w R):aB prog 175 #[t0,t1] w R:=dw aKm func175 h
def aKl:bS:=(q (q l))
def OM (t0:Value) (w:World) (R:Value→World→Prop):Prop:=
 v (box 180 t0) w fun t1 w=>v (loadAt 180 t1) w fun t3 w=>c 177 #[t3] w fun t4 w=>v (Op.unary UnOp.not t4) w fun t5 w=>R t5 w
theorem aUx (h:OM t0 w R):aB prog 176 #[t0] w R:=dw aKl func176 h
def aKk:bS:=(q (s (q (bk (q (cn (q l) (q (cn (q l) (q (cn (q l) (q (cn (q l) l)))))))))) (q l)))
def OL (t0:Value) (w:World) (R:Value→World→Prop):Prop:=
 v (box 180 t0) w fun t1 w=>fl 180 t1 0 3 w fun t4 w=>v (et .eql 3 4 t4 (i64 1)) w fun t6 w4=>aJ t6 (v (loadAt 180 t1) w4 fun t7 w=>fl 180 t1 1 83 w fun t9 w=>v (build 180 #[(0,(i64 1)),(1,t9)]) w fun t10 w=>v (e .eql 180 (.tmp 7) (.tmp 10) t7 t10) w fun t11 w=>g t11 true (fieldAt 180 t1 1) w fun t13 w=>g t11 true (loadAt 83 t13) w fun t14 w=>gd t11 true (fun K=> c 47 #[t14] w K) w fun t15 w=>aG t11 t15 (.bool false) fun t16=>g t16 true (fieldAt 180 t1 1) w fun t18 w=>g t16 true (loadAt 83 t18) w fun t19 w=>gd t16 true (fun K=> c 212 #[t19] w K) w fun t20 w=>aG t16 t20 (.bool false) fun t21=>R t21 w) (v (et .eql 3 4 t4 (i64 2)) w4 fun t23 w18=>aJ t23 (v (loadAt 180 t1) w18 fun t24 w=>fl 180 t1 2 3 w fun t26 w=>v (build 180 #[(0,(i64 2)),(2,t26)]) w fun t27 w=>v (e .eql 180 (.tmp 24) (.tmp 27) t24 t27) w fun t28 w=>g t28 true (fieldAt 180 t1 2) w fun t30 w=>g t28 true (loadAt 3 t30) w fun t31 w=>g t28 true (b .geq t31 (i64 0)) w fun t32 w=>aG t28 t32 (.bool false) fun t33=>g t33 true (fieldAt 180 t1 2) w fun t35 w=>g t33 true (loadAt 3 t35) w fun t36 w=>g t33 true (b .leq t36 (i64 2000)) w fun t37 w=>aG t33 t37 (.bool false) fun t38=>R t38 w) (v (et .eql 3 4 t4 (i64 3)) w18 fun t40 w32=>aJ t40 (v (loadAt 180 t1) w32 fun t41 w=>fl 180 t1 2 3 w fun t43 w=>fl 180 t1 3 3 w fun t45 w=>v (build 180 #[(0,(i64 3)),(2,t43),(3,t45)]) w fun t46 w=>v (e .eql 180 (.tmp 41) (.tmp 46) t41 t46) w fun t47 w=>g t47 true (fieldAt 180 t1 2) w fun t49 w=>g t47 true (loadAt 3 t49) w fun t50 w=>g t47 true (b .geq t50 (i64 0)) w fun t51 w=>aG t47 t51 (.bool false) fun t52=>g t52 true (fieldAt 180 t1 2) w fun t54 w=>g t52 true (loadAt 3 t54) w fun t55 w=>g t52 true (b .leq t55 (i64 2000)) w fun t56 w=>aG t52 t56 (.bool false) fun t57=>g t57 true (fieldAt 180 t1 3) w fun t59 w=>g t57 true (loadAt 3 t59) w fun t60 w=>g t57 true (b .geq t60 (i64 0)) w fun t61 w=>aG t57 t61 (.bool false) fun t62=>g t62 true (fieldAt 180 t1 3) w fun t64 w=>g t62 true (loadAt 3 t64) w fun t65 w=>g t62 true (b .leq t65 (i64 14)) w fun t66 w=>aG t62 t66 (.bool false) fun t67=>R t67 w) (v (et .eql 3 4 t4 (i64 4)) w32 fun t69 w56=>aJ t69 (v (loadAt 180 t1) w56 fun t70 w=>fl 180 t1 4 3 w fun t72 w=>fl 180 t1 5 21 w fun t74 w=>v (build 180 #[(0,(i64 4)),(4,t72),(5,t74)]) w fun t75 w=>v (e .eql 180 (.tmp 70) (.tmp 75) t70 t75) w fun t76 w=>g t76 true (fieldAt 180 t1 4) w fun t78 w=>g t76 true (loadAt 3 t78) w fun t79 w=>g t76 true (b .geq t79 (i64 0)) w fun t80 w=>aG t76 t80 (.bool false) fun t81=>g t81 true (fieldAt 180 t1 4) w fun t83 w=>g t81 true (loadAt 3 t83) w fun t84 w=>g t81 true (b .lss t84 (i64 8)) w fun t85 w=>aG t81 t85 (.bool false) fun t86=>R t86 w) (R (.bool false) w56))))
theorem aUw (h:OL t0 w R):aB prog 177 #[t0] w R:=dw aKk func177 h
def aKj:bS:=(q (s (q (cn (q (.join [9,13,14] [9] (q (cn l l)) (q l))) l)) (s (q (cn (q l) l)) (q (q l)))))
def EK (t0 t1 t2 t3:Value) (w:World) (R:Value→World→Prop):Prop:=
 v (et .eql 3 11 t0 (i64 14)) w fun t12 w1=>aJ t12 (∃ J1:NP 1,(v (b .gtr t1 (i64 0)) w1 fun t14 w=>aJ t14 (J1 (i64 43) w) (J1 (i64 42) w)) ∧
 ∀ t9 w,J1 t9 w→∀ _f:bN,v (b .sub t3 t2) w fun t18 w=>v (b .sub t18 (i64 4)) w fun t19 w=>v (build 83 #[(0,t9),(4,t19)]) w fun t20 w=>v (buildSlice 230 1 #[(0,t20)]) w fun t21 w=>R t21 w) (v (et .eql 3 22 t1 (i64 0)) w1 fun t23 w8=>aJ t23 (v (b .sub t3 t2) w8 fun t27 w=>v (b .sub t27 (i64 4)) w fun t28 w=>v (build 83 #[(0,(i64 41)),(5,t0),(4,t28)]) w fun t29 w=>v (buildSlice 230 1 #[(0,t29)]) w fun t30 w=>R t30 w) (v (b .sub t1 (i64 1)) w8 fun t32 w=>v (b .add t2 (i64 2)) w fun t34 w=>c 178 #[(i64 14),t32,t34,t3] w fun t36 w=>v (b .xor t0 (i64 1)) w fun t38 w=>il 230 t36 (i64 0) 83 w fun t41 w=>c 213 #[t41] w fun t42 w=>v (b .sub t42 (i64 2)) w fun t43 w=>v (build 83 #[(0,(i64 41)),(5,t38),(4,t43)]) w fun t44 w=>v (buildSlice 230 1 #[(0,t44)]) w fun t45 w=>v (Builtin.append_ #[230,230] 230 #[t45,t36]) w fun t47 w=>R t47 w))
theorem aAa (h:EK t0 t1 t2 t3 w R):aB prog 178 #[t0,t1,t2,t3] w R:=dw aKj func178 h
def aKi:bS:=(q (q l))
def OK (t0:Value) (w:World) (R:Value→World→Prop):Prop:=
 c 214 #[t0,(Value.func (.func 215) #[] #[])] w fun t4 w=>v (Op.unary UnOp.not t4) w fun t5 w=>R t5 w
theorem aUv (h:OK t0 w R):aB prog 179 #[t0] w R:=dw aKi func179 h
def aKh:bS:=(q (s (q (cn (s (.draw [0,1,2,4,0,16,40,64,255] [0,1,2,4,0,16,40,64,128] 0 9 511 (tk [0,1,2,4,5] (.only 3 (.re (tk [6,7,8] .done))))) l) l)) (q (s (q (bk (.loop ([3,5]++rg 21 29) [3,21] (q (s (cn l l) (s (bk (q l)) l)))))) (q l)))))
def OJ (t0:Value) (w:World) (R:Value→World→Prop):Prop:=
 v (box 232 t0) w fun t1 w=>v (fieldAt 232 t1 0) w fun t6 w=>fl 180 t6 0 3 w fun t8 w=>v (et .eql 3 8 t8 (i64 3)) w fun t9 w5=>aJ t9 (aM w5 fun S2 w=>y S2 (fieldAt 232 t1 0) fun t10=>yf S2 180 t10 3 3 fun t12=>yf S2 232 t1 2 3 fun t15=>c 216 #[t12] w fun t13 w=>S2 w ∧
 reS S2 w fun S2_8=>y S2_8 (indexAt 23 t13 t15) fun t16=>y S2_8 (loadAt 3 t16) fun t17=>R t17 w) (fl 232 t1 1 230 w5 fun t19 w=>v (ln 230 3 t19) w fun t20 w=>∃ (I1:NP 2) (μ1:NF 2),I1 (i64 0) (i64 0) w ∧
 ∀ t3 t21 w12,I1 t3 t21 w12→∀ _f:bN,v (b .lss t21 t20) w12 fun t22 w13=>aJ t22 (il 230 t19 t21 83 w13 fun t24 w=>st 83 t24 w fun t5 w=>v (loadAt 83 t5) w fun t26 w=>c 213 #[t26] w fun t27 w=>v (b .add t3 t27) w fun t28 w=>v (b .add t21 (i64 1)) w fun t29 w=>I1 t28 t29 w∧μ1 t28 t29 w < μ1 t3 t21 w12) (R t3 w13))
theorem aUt (h:OJ t0 w R):aB prog 180 #[t0] w R:=dw aKh func180 h
def aKg:bS:=(q (q (q (q l))))
def OI (t0:Value) (w:World) (R:Value→World→Prop):Prop:=
 v (b .lss t0 (i64 0)) w fun t7 w=>c 217 #[t7] w fun t8 w=>v (b .shr t0 (Value.int IntKind.u64 23)) w fun t10 w=>v (b .and t10 (i64 1)) w fun t11 w=>v (b .xor t11 t8) w fun t13 w=>v (b .sub (i64 1) t13) w fun t14 w=>v (b .shr t0 (Value.int IntKind.u64 22)) w fun t16 w=>v (b .and t16 (i64 1)) w fun t17 w=>v (b .xor t17 t8) w fun t19 w=>v (b .sub (i64 1) t19) w fun t20 w=>v (b .shl t8 (Value.int IntKind.u64 10)) w fun t22 w=>v (b .or (i64 61440) t22) w fun t23 w=>v (b .shr t0 (Value.int IntKind.u64 12)) w fun t25 w=>v (b .and t25 (i64 1023)) w fun t26 w=>v (b .or t23 t26) w fun t27 w=>v (convert 3 151 t27) w fun t28 w=>v (b .shl t14 (Value.int IntKind.u64 13)) w fun t30 w=>v (b .or (i64 53248) t30) w fun t31 w=>v (b .shl t20 (Value.int IntKind.u64 11)) w fun t33 w=>v (b .or t31 t33) w fun t34 w=>v (b .shr t0 (Value.int IntKind.u64 1)) w fun t36 w=>v (b .and t36 (i64 2047)) w fun t37 w=>v (b .or t34 t37) w fun t38 w=>v (convert 3 151 t38) w fun t39 w=>v (buildSlice 59 2 #[(0,t28),(1,t39)]) w fun t40 w=>R t40 w
theorem aUs (h:OI t0 w R):aB prog 181 #[t0] w R:=dw aKg func181 h
def aKf:bS:=(q (.join [9,10,11] [] (q (cn l l)) (q (.join (rg 21 27) [] (q (cn l l)) (q (q (s (bk (.loop ([8]++rg 34 46) [8] (s (q (cn l l)) (bk (.draw [0,0,0,6,0,0,48,72,129,511] [0,0,0,6,0,0,48,72,129,293] 0 10 1023 (tk (rg 0 6) (.only 7 (.take 8 (.take 9 .done))))))))) (q l))))))))
def OH (t0 t1:Value) (w:World) (R:Value→World→Prop):Prop:=
 ∃ J1:NP 0,(v (b .lss t1 (i64 0)) w fun t10 w1=>aJ t10 (v (makeInterface 9 (Value.string { data:=#[99,97,110,110,111,116,32,98,101,32,110,101,103,97,116,105,118,101] })) w1 fun _ _=>False) (J1 w1)) ∧
 ∀ w:World,J1 w→∀ _f:bN,v (ln 23 3 t0) w fun t14 w=>v (convert 3 152 t14) w fun t15 w=>v (convert 3 152 t1) w fun t17 w=>c 218 #[t15,t17] w fun t18 w=>x2 t18 w fun t19 t20 w=>∃ J2:NP 0,(v (binOp .gtr 152 t19 (Value.int IntKind.u64 0)) w fun t22 w=>gk t22 false t20 w fun t24 w=>g t22 false (binOp .gtr 152 t24 (Value.int IntKind.u64 9223372036854775807)) w fun t25 w12=>aG t22 (.bool true) t25 fun t26=>aJ t26 (v (makeInterface 9 (Value.string { data:=#[116,104,101,32,114,101,115,117,108,116,32,111,102,32,40,108,101,110,40,120,41,32,42,32,99,111,117,110,116,41,32,111,118,101,114,102,108,111,119,115] })) w12 fun _ _=>False) (J2 w12)) ∧
 ∀ w:World,J2 w→∀ _f:bN,v (convert 152 3 t20) w fun t29 w=>v (makeSlice 23 t29 t29) w fun t30 w=>v (Builtin.copy_ #[23,23] 3 #[t30,t0]) w fun t33 w=>∃ (I3:NP 1) (μ3:NF 1),I3 t33 w ∧
 ∀ t8 w19,I3 t8 w19→∀ _f:bN,v (ln 23 3 t30) w19 fun t36 w=>v (b .lss t8 t36) w fun t37 w21=>aJ t37 (aM w21 fun S9 w=>y S9 (sliceAt 23 t30 (some t8) none none) fun t41=>y S9 (sliceAt 23 t30 none (some t8) none) fun t44=>v (Builtin.copy_ #[23,23] 3 #[t41,t44]) w fun t45 w=>S9 w ∧
 y S9 (b .add t8 t45) fun t46=>I3 t46 w∧μ3 t46 w < μ3 t8 w19) (R t30 w21)
theorem aUr (h:OH t0 t1 w R):aB prog 182 #[t0,t1] w R:=dw aKf func182 h
def aKe:bS:=(q (q l))
def EJ (t0:Value) (w:World) (R:Value→World→Prop):Prop:=
 v (b .geq t0 (i64 6)) w fun t4 w=>gk t4 true t0 w fun t6 w=>g t4 true (b .leq t6 (i64 14)) w fun t7 w=>aG t4 t7 (.bool false) fun t8=>gk t8 false t0 w fun t10 w=>g t8 false (b .geq t10 (i64 19)) w fun t11 w=>gk t8 false t11 w fun t12 w=>gk t12 true t0 w fun t13 w=>g t12 true (b .leq t13 (i64 21)) w fun t14 w=>gd t8 false (fun K=> aG t12 t14 (.bool false) fun v=> K v w) w fun t15 w=>aG t8 (.bool true) t15 fun t16=>R t16 w
theorem aUq (h:EJ t0 w R):aB prog 183 #[t0] w R:=dw aKe func183 h
def aKd:bS:=(q (q l))
def EI (t0:Value) (w:World) (R:Value→World→Prop):Prop:=
 v (et .eql 3 3 t0 (i64 15)) w fun t4 w=>gk t4 false t0 w fun t6 w=>g t4 false (et .eql 3 6 t6 (i64 16)) w fun t7 w=>aG t4 (.bool true) t7 fun t8=>gk t8 false t0 w fun t10 w=>g t8 false (et .eql 3 10 t10 (i64 26)) w fun t11 w=>aG t8 (.bool true) t11 fun t12=>R t12 w
theorem aUp (h:EI t0 w R):aB prog 184 #[t0] w R:=dw aKd func184 h
def aKc:bS:=(q (s (q (bk (.join [4,5,6] [4] (q (cn l l)) (cn (q l) (.join (rg 7 10) [7] (q (cn l (q (cn l l)))) (cn (q l) (.join [11,12,13] [11] (q (cn l l)) (cn (q l) (s (q (cn l l)) (cn (q l) l)))))))))) (q l)))
def OG (t0:Value) (w:World) (R:Value→World→Prop):Prop:=
 ∃ J1:NP 1,(v (et .eql 3 3 t0 (i64 27)) w fun t5 w=>aJ t5 (J1 t5 w) (v (et .eql 3 3 t0 (i64 28)) w fun t6 w=>J1 t6 w)) ∧
 ∀ t4 w,J1 t4 w→∀ _f:bN,aJ t4 (R (i64 1) w) (∃ J2:NP 1,(v (et .eql 3 3 t0 (i64 17)) w fun t8 w=>aJ t8 (J2 t8 w) (v (et .eql 3 3 t0 (i64 18)) w fun t9 w=>aJ t9 (J2 t9 w) (v (et .eql 3 3 t0 (i64 29)) w fun t10 w=>J2 t10 w))) ∧
 ∀ t7 w,J2 t7 w→∀ _f:bN,aJ t7 (R (i64 2) w) (∃ J3:NP 1,(v (et .eql 3 3 t0 (i64 30)) w fun t12 w=>aJ t12 (J3 t12 w) (v (et .eql 3 3 t0 (i64 36)) w fun t13 w=>J3 t13 w)) ∧
 ∀ t11 w,J3 t11 w→∀ _f:bN,aJ t11 (R (i64 3) w) (v (et .eql 3 3 t0 (i64 31)) w fun t15 w=>aJ t15 (aJ t15 (R (i64 5) w) (R (i64 (-1)) w)) (v (et .eql 3 3 t0 (i64 32)) w fun t16 w=>aJ t16 (R (i64 5) w) (R (i64 (-1)) w)))))
theorem aUo (h:OG t0 w R):aB prog 185 #[t0] w R:=dw aKc func185 h
def aKb:bS:=(q l)
def OE (t0:Value) (w:World) (R:Value→World→Prop):Prop:=
 c 68 #[t0,(i64 8),(i64 0),(i64 0)] w fun _ w=>c 67 #[t0,(i64 17),(i64 0),(i64 0)] w fun _ w=>R (.tuple #[]) w
theorem aUn (h:OE t0 w R):aB prog 186 #[t0] w R:=dw aKb func186 h
def aKa:bS:=(q (s (q (cn (q l) l)) (q l)))
def OD (t0:Value) (w:World) (R:Value→World→Prop):Prop:=
 v (et .eql 95 3 t0 aZ) w fun t4 w=>aJ t4 (R aZ w) (v (buildSlice 95 0 #[]) w fun t5 w=>v (Builtin.append_ #[95,95] 95 #[t5,t0]) w fun t7 w=>R t7 w)
theorem aUm (h:OD t0 w R):aB prog 187 #[t0] w R:=dw aKa func187 h
def aJz:bS:=(q (s (q (cn (q l) l)) (q (s (.draw [0,1,2,4,0,16,32,64,0,256,512,1024,2048,4224,8200,16384,0,65536,131072,262144,0,1048576,2097152,4194304,8388608,17301504,33587200,134217727] [0,1,2,4,0,16,32,64,0,256,512,1024,2048,4224,8200,16384,0,65536,131072,262144,0,1048576,2097152,4194304,8388608,17301504,33587200,67108864] 0 28 268435455 (tk (rg 0 27) .done)) l))))
def OC (t0:Value) (w:World) (R:Value→World→Prop):Prop:=
 Go.Vc.bL (t0) ∧
 fl 195 t0 1 23 w fun t6 w=>v (ln 23 3 t6) w fun t7 w=>v (et .eql 3 7 t7 (i64 0)) w fun t8 w=>aJ t8 (R (i64 0) w) (Go.Vc.bL (t0) ∧
 fl 195 t0 2 3 w fun t12 w=>v (b .add t12 (i64 1)) w fun t13 w=>Go.Vc.bL (t0) ∧
 v (fieldAt 195 t0 2) w fun t15 w=>u (storeAt 3 t15 t13) w fun _ w=>aM w fun S4 w=>Go.Vc.bL (t0) ∧
 yf S4 195 t0 1 23 fun t19=>Go.Vc.bL (t0) ∧
 yf S4 195 t0 2 3 fun t23=>Go.Vc.bL (t0) ∧
 yf S4 195 t0 1 23 fun t27=>y S4 (ln 23 3 t27) fun t28=>y S4 (b .rem t23 t28) fun t29=>yi S4 23 t19 t29 3 fun t31=>Go.Vc.bL (t0) ∧
 yf S4 195 t0 2 3 fun t35=>Go.Vc.bL (t0) ∧
 yf S4 195 t0 1 23 fun t39=>y S4 (ln 23 3 t39) fun t40=>y S4 (b .quo t35 t40) fun t41=>y S4 (b .add t31 t41) fun t42=>R t42 w)
theorem aUl (h:OC t0 w R):aB prog 188 #[t0] w R:=dw aJz func188 h
def aJy:bS:=(q (q (s (q (bk (.loop (rg 6 29) [6,7] (s (q (cn l l)) (s (bk (q (cn l l))) l))))) (s (q (cn (q l) l)) (q l)))))
def OB (t0 t1:Value) (w:World) (R:Value→World→Prop):Prop:=
 ∃ (I1:NP 2) (μ1:NF 2),I1 aZ (i64 0) w ∧
 ∀ t6 t7 w1,I1 t6 t7 w1→∀ _f:bN,Go.Vc.bL (t0) ∧
 fl 195 t0 3 23 w1 fun t12 w=>v (ln 23 3 t12) w fun t13 w=>v (b .lss t7 t13) w fun t14 w6=>aJ t14 (Go.Vc.bL (t0) ∧
 fl 195 t0 3 23 w6 fun t20 w=>il 23 t20 t7 3 w fun t23 w=>v (e .eql 3 (.tmp 23) (.tmp 24) t23 t1) w fun t25 w12=>aJ t25 (v (buildSlice 23 1 #[(0,t7)]) w12 fun t28 w=>v (Builtin.append_ #[23,23] 23 #[t6,t28]) w fun t29 w=>v (b .add t7 (i64 1)) w fun t16 w=>I1 t29 t16 w∧μ1 t29 t16 w < μ1 t6 t7 w1) (v (b .add t7 (i64 1)) w12 fun t16_1 w=>I1 t6 t16_1 w∧μ1 t6 t16_1 w < μ1 t6 t7 w1)) (v (ln 23 3 t6) w6 fun t31 w=>v (et .eql 3 31 t31 (i64 0)) w fun t32 w=>aJ t32 (R (.tuple #[(i64 0),(.bool false)]) w) (c 188 #[t0] w fun t35 w=>v (ln 23 3 t6) w fun t37 w=>c 16 #[t35,t37] w fun t38 w=>il 23 t6 t38 3 w fun t40 w=>R (.tuple #[t40,(.bool true)]) w))
theorem aUk (h:OB t0 t1 w R):aB prog 189 #[t0,t1] w R:=dw aJy func189 h
def aJx:bS:=(q (q l))
def OA (w:World) (R:Value→World→Prop):Prop:=
 v (buildSlice 280 40 #[(0,(Value.string { data:=#[] })),(1,(Value.string { data:=#[112,117,115,104] })),(2,(Value.string { data:=#[108,111,97,100] })),(3,(Value.string { data:=#[115,116,111,114,101] })),(4,(Value.string { data:=#[112,111,112] })),(5,(Value.string { data:=#[100,117,112] })),(6,(Value.string { data:=#[97,100,100] })),(7,(Value.string { data:=#[115,117,98] })),(8,(Value.string { data:=#[109,117,108] })),(9,(Value.string { data:=#[97,110,100] })),(10,(Value.string { data:=#[111,114] })),(11,(Value.string { data:=#[120,111,114] })),(12,(Value.string { data:=#[115,104,108] })),(13,(Value.string { data:=#[115,104,114] })),(14,(Value.string { data:=#[115,97,114] })),(15,(Value.string { data:=#[110,101,103] })),(16,(Value.string { data:=#[110,111,116] })),(17,(Value.string { data:=#[100,105,118] })),(18,(Value.string { data:=#[114,101,109] })),(19,(Value.string { data:=#[101,113] })),(20,(Value.string { data:=#[108,116] })),(21,(Value.string { data:=#[98,101,108,111,119] })),(22,(Value.string { data:=#[112,105,99,107] })),(23,(Value.string { data:=#[106,117,109,112] })),(24,(Value.string { data:=#[106,117,109,112,105,102] })),(25,(Value.string { data:=#[110,117,108,108] })),(26,(Value.string { data:=#[105,115,110,117,108,108] })),(27,(Value.string { data:=#[110,101,119] })),(28,(Value.string { data:=#[108,101,110] })),(29,(Value.string { data:=#[103,101,116] })),(30,(Value.string { data:=#[112,117,116] })),(31,(Value.string { data:=#[99,111,112,121] })),(32,(Value.string { data:=#[115,97,109,101] })),(33,(Value.string { data:=#[103,101,116,102] })),(34,(Value.string { data:=#[112,117,116,102] })),(35,(Value.string { data:=#[98,117,102] })),(36,(Value.string { data:=#[115,101,110,100] })),(37,(Value.string { data:=#[99,97,108,108] })),(38,(Value.string { data:=#[99,97,108,108,120] })),(39,(Value.string { data:=#[114,101,116] }))]) w fun t1 w=>R t1 w
theorem aUi (h:OA w R):aB prog 191 #[] w R:=dw aJx func191 h
def aJw:bS:=(q (q l))
def NZ (t0 t1:Value) (w:World) (R:Value→World→Prop):Prop:=
 v (e .eql 3 (.tmp 5) (.tmp 6) t0 t1) w fun t7 w=>gk t7 true t0 w fun t9 w=>gd t7 true (fun K=> c 149 #[t9] w K) w fun t10 w=>gk t7 true t10 w fun t11 w=>gk t11 false t0 w fun t12 w=>gd t11 false (fun K=> c 148 #[t12] w K) w fun t13 w=>gd t7 true (fun K=> aG t11 (.bool true) t13 fun v=> K v w) w fun t14 w=>aG t7 t14 (.bool false) fun t15=>gk t15 false t0 w fun t17 w=>g t15 false (et .eql 3 17 t17 (i64 1)) w fun t18 w=>gk t15 false t18 w fun t19 w=>gk t19 true t1 w fun t20 w=>g t19 true (et .eql 3 20 t20 (i64 2)) w fun t21 w=>gd t15 false (fun K=> aG t19 t21 (.bool false) fun v=> K v w) w fun t22 w=>aG t15 (.bool true) t22 fun t23=>R t23 w
theorem aUh (h:NZ t0 t1 w R):aB prog 192 #[t0,t1] w R:=dw aJw func192 h
def aJv:bS:=(q (s (q (cn (q l) l)) (q l)))
def NY (t0 t1:Value) (w:World) (R:Value→World→Prop):Prop:=
 v (et .eql 3 5 t0 (i64 2)) w fun t6 w=>gk t6 false t1 w fun t8 w=>g t6 false (et .eql 3 8 t8 (i64 2)) w fun t9 w=>aG t6 (.bool true) t9 fun t10=>aJ t10 (R (i64 2) w) (R (i64 1) w)
theorem aUg (h:NY t0 t1 w R):aB prog 193 #[t0,t1] w R:=dw aJv func193 h
def aJu:bS:=(q (s (q (bk (q (cn (q l) (q (cn (q l) l)))))) (q l)))
def NX (t0:Value) (w:World) (R:Value→World→Prop):Prop:=
 v (et .eql 3 3 t0 (i64 3)) w fun t5 w=>aJ t5 (R (i64 1) w) (v (et .eql 3 3 t0 (i64 4)) w fun t7 w=>aJ t7 (R (i64 2) w) (R (i64 0) w))
theorem aUf (h:NX t0 w R):aB prog 194 #[t0] w R:=dw aJu func194 h
def aJt:bS:=(q (s (q (bk (.loop ([4,5]++rg 8 18) [8] (q (s (cn l l) (s (bk (q (q (cn (q l) l)))) l)))))) (q l)))
def NW (t0 t1:Value) (w:World) (R:Value→World→Prop):Prop:=
 v (ln 23 3 t0) w fun t7 w=>∃ (I1:NP 1) (μ1:NF 1),I1 (i64 0) w ∧
 ∀ t8 w2,I1 t8 w2→∀ _f:bN,v (b .lss t8 t7) w2 fun t9 w3=>aJ t9 (il 23 t0 t8 3 w3 fun t15 w=>qY prog t1 #[t15] w fun t16 w=>aJ t16 (R t8 w) (v (b .add t8 (i64 1)) w fun t18 w=>I1 t18 w∧μ1 t18 w < μ1 t8 w2)) (R (i64 (-1)) w3)
theorem aUe (h:NW t0 t1 w R):aB prog 195 #[t0,t1] w R:=dw aJt func195 h
def aJs:bS:=(q (s (q (bk (.loop ([4,5]++rg 8 18) [8] (q (s (cn l l) (s (bk (q (q (cn (q l) l)))) l)))))) (q l)))
def NV (t0 t1:Value) (w:World) (R:Value→World→Prop):Prop:=
 v (ln 24 3 t0) w fun t7 w=>∃ (I1:NP 1) (μ1:NF 1),I1 (i64 0) w ∧
 ∀ t8 w2,I1 t8 w2→∀ _f:bN,v (b .lss t8 t7) w2 fun t9 w3=>aJ t9 (il 24 t0 t8 146 w3 fun t15 w=>qY prog t1 #[t15] w fun t16 w=>aJ t16 (R t8 w) (v (b .add t8 (i64 1)) w fun t18 w=>I1 t18 w∧μ1 t18 w < μ1 t8 w2)) (R (i64 (-1)) w3)
theorem aUd (h:NV t0 t1 w R):aB prog 196 #[t0,t1] w R:=dw aJs func196 h
def aJr:bS:=(q (s (q (bk (.loop ([4,5]++rg 8 18) [8] (q (s (cn l l) (s (bk (q (q (cn (q l) l)))) l)))))) (q l)))
def NU (t0 t1:Value) (w:World) (R:Value→World→Prop):Prop:=
 v (ln 25 3 t0) w fun t7 w=>∃ (I1:NP 1) (μ1:NF 1),I1 (i64 0) w ∧
 ∀ t8 w2,I1 t8 w2→∀ _f:bN,v (b .lss t8 t7) w2 fun t9 w3=>aJ t9 (il 25 t0 t8 38 w3 fun t15 w=>qY prog t1 #[t15] w fun t16 w=>aJ t16 (R t8 w) (v (b .add t8 (i64 1)) w fun t18 w=>I1 t18 w∧μ1 t18 w < μ1 t8 w2)) (R (i64 (-1)) w3)
theorem aUc (h:NU t0 t1 w R):aB prog 197 #[t0,t1] w R:=dw aJr func197 h
def aJq:bS:=(q (q l))
def NT (t0 t1:Value) (w:World) (R:Value→World→Prop):Prop:=
 c 219 #[t0,t1] w fun t7 w=>v (b .geq t7 (i64 0)) w fun t8 w=>R t8 w
theorem aUb (h:NT t0 t1 w R):aB prog 198 #[t0,t1] w R:=dw aJq func198 h
def aJp:bS:=(q (q l))
def NS (t0 t1:Value) (w:World) (R:Value→World→Prop):Prop:=
 v (box 88 t0) w fun t2 w=>v (loadAt 201 t1) w fun t4 w=>v (loadAt 88 t2) w fun t5 w=>qY prog t4 #[t5] w fun t6 w=>v (Op.unary UnOp.not t6) w fun t7 w=>R t7 w
theorem aUa (h:NS t0 t1 w R):aB prog 199 #[t0,t1] w R:=dw aJp func199 h
def aJo:bS:=(q (s (q (bk (q (cn (q l) (.join [7,8,9] [7] (q (cn l l)) (cn (q l) (.join [10,11,12] [10] (q (cn l l)) (cn (q l) (.join [13,14,15] [13] (q (cn l l)) (cn (q l) (.join [16,17,18] [16] (q (cn l l)) (cn (q l) (.join [19,20,21] [19] (q (cn l l)) (cn (q l) (q (cn (q l) (q (cn (q l) l)))))))))))))))))) (q l)))
def NR (t0:Value) (w:World) (R:Value→World→Prop):Prop:=
 v (et .eql 3 4 t0 (i64 1)) w fun t6 w=>aJ t6 (R (.tuple #[(i64 (-2147483648)),(i64 2147483647)]) w) (∃ J1:NP 1,(v (et .eql 3 4 t0 (i64 2)) w fun t8 w=>aJ t8 (J1 t8 w) (v (et .eql 3 4 t0 (i64 3)) w fun t9 w=>J1 t9 w)) ∧
 ∀ t7 w,J1 t7 w→∀ _f:bN,aJ t7 (R (.tuple #[(i64 0),(i64 9)]) w) (∃ J2:NP 1,(v (et .eql 3 4 t0 (i64 23)) w fun t11 w=>aJ t11 (J2 t11 w) (v (et .eql 3 4 t0 (i64 24)) w fun t12 w=>J2 t12 w)) ∧
 ∀ t10 w,J2 t10 w→∀ _f:bN,aJ t10 (R (.tuple #[(i64 0),(i64 119)]) w) (∃ J3:NP 1,(v (et .eql 3 4 t0 (i64 25)) w fun t14 w=>aJ t14 (J3 t14 w) (v (et .eql 3 4 t0 (i64 27)) w fun t15 w=>J3 t15 w)) ∧
 ∀ t13 w,J3 t13 w→∀ _f:bN,aJ t13 (R (.tuple #[(i64 3),(i64 4)]) w) (∃ J4:NP 1,(v (et .eql 3 4 t0 (i64 33)) w fun t17 w=>aJ t17 (J4 t17 w) (v (et .eql 3 4 t0 (i64 34)) w fun t18 w=>J4 t18 w)) ∧
 ∀ t16 w,J4 t16 w→∀ _f:bN,aJ t16 (R (.tuple #[(i64 0),(i64 7)]) w) (∃ J5:NP 1,(v (et .eql 3 4 t0 (i64 35)) w fun t20 w=>aJ t20 (J5 t20 w) (v (et .eql 3 4 t0 (i64 36)) w fun t21 w=>J5 t21 w)) ∧
 ∀ t19 w,J5 t19 w→∀ _f:bN,aJ t19 (R (.tuple #[(i64 1),(i64 2)]) w) (v (et .eql 3 4 t0 (i64 37)) w fun t23 w=>aJ t23 (R (.tuple #[(i64 0),(i64 7)]) w) (v (et .eql 3 4 t0 (i64 38)) w fun t25 w=>aJ t25 (R (.tuple #[(i64 0),(i64 3)]) w) (R (.tuple #[(i64 0),(i64 0)]) w))))))))
theorem aTz (h:NR t0 w R):aB prog 200 #[t0] w R:=dw aJo func200 h
def aJn:bS:=(q (s (bk (q (cn (q l) (q (cn (q l) l))))) (q l)))
def NQ (t0 t1:Value) (w:World) (R:Value→World→Prop):Prop:=
 c 205 #[t0] w fun t8 w=>gk t8 true t1 w fun t10 w=>gd t8 true (fun K=> c 205 #[t10] w K) w fun t11 w3=>aG t8 t11 (.bool false) fun t12=>aJ t12 (c 208 #[t0,t1] w3 fun t15 w=>R (.tuple #[t15,(.bool true)]) w) (c 206 #[t0] w3 fun t18 w=>gk t18 true t0 w fun t20 w=>gk t18 true t1 w fun t21 w=>g t18 true (e .eql 3 (.tmp 20) (.tmp 21) t20 t21) w fun t22 w=>aG t18 t22 (.bool false) fun t23=>aJ t23 (R (.tuple #[t0,(.bool true)]) w) (R (.tuple #[(i64 0),(.bool false)]) w))
theorem aTy (h:NQ t0 t1 w R):aB prog 201 #[t0,t1] w R:=dw aJn func201 h
def aJm:bS:=(q (q l))
def NO (t0:Value) (w:World) (R:Value→World→Prop):Prop:=
 R t0 w
theorem aTx (h:NO t0 w R):aB prog 202 #[t0] w R:=dw aJm func202 h
def aJl:bS:=(q (s (q (cn (q l) l)) (q l)))
def NN (t0:Value) (w:World) (R:Value→World→Prop):Prop:=
 v (et .eql 3 3 t0 (i64 0)) w fun t4 w=>aJ t4 (R aZ w) (v (buildSlice 23 1 #[(0,t0)]) w fun t6 w=>c 202 #[t6] w fun t7 w=>R t7 w)
theorem aTw (h:NN t0 w R):aB prog 203 #[t0] w R:=dw aJl func203 h
def aJk:bS:=(q (s (q (bk (q (cn (q l) (.join [8,9,10] [8] (q (cn l l)) (cn (q l) (q (cn (q l) l)))))))) (q l)))
def NM (t0 t1:Value) (w:World) (R:Value→World→Prop):Prop:=
 v (et .eql 3 5 t1 (i64 (-1))) w fun t7 w=>aJ t7 (R (.bool true) w) (∃ J1:NP 1,(v (et .eql 3 5 t1 (i64 (-2))) w fun t9 w=>aJ t9 (J1 t9 w) (v (et .eql 3 5 t1 (i64 (-3))) w fun t10 w=>J1 t10 w)) ∧
 ∀ t8 w4,J1 t8 w4→∀ _f:bN,aJ t8 (c 205 #[t0] w4 fun t12 w=>R t12 w) (v (et .eql 3 5 t1 (i64 (-4))) w4 fun t14 w6=>aJ t14 (c 206 #[t0] w6 fun t16 w=>R t16 w) (c 205 #[t0] w6 fun t18 w=>gk t18 true t1 w fun t20 w=>gd t18 true (fun K=> c 205 #[t20] w K) w fun t21 w=>aG t18 t21 (.bool false) fun t22=>gk t22 false t0 w fun t24 w=>gk t22 false t1 w fun t25 w=>g t22 false (e .eql 3 (.tmp 24) (.tmp 25) t24 t25) w fun t26 w=>aG t22 (.bool true) t26 fun t27=>R t27 w)))
theorem aTv (h:NM t0 t1 w R):aB prog 204 #[t0,t1] w R:=dw aJk func204 h
def aJj:bS:=(q (q l))
def NL (t0:Value) (w:World) (R:Value→World→Prop):Prop:=
 v (et .eql 3 3 t0 (i64 1)) w fun t4 w=>gk t4 false t0 w fun t6 w=>g t4 false (et .eql 3 6 t6 (i64 2)) w fun t7 w=>aG t4 (.bool true) t7 fun t8=>R t8 w
theorem aTu (h:NL t0 w R):aB prog 205 #[t0] w R:=dw aJj func205 h
def aJi:bS:=(q (q l))
def NK (t0:Value) (w:World) (R:Value→World→Prop):Prop:=
 v (et .eql 3 3 t0 (i64 3)) w fun t4 w=>gk t4 false t0 w fun t6 w=>g t4 false (et .eql 3 6 t6 (i64 4)) w fun t7 w=>aG t4 (.bool true) t7 fun t8=>R t8 w
theorem aTt (h:NK t0 w R):aB prog 206 #[t0] w R:=dw aJi func206 h
def aJh:bS:=(q (q l))
def NJ (t0 t1:Value) (w:World) (R:Value→World→Prop):Prop:=
 v (et .eql 3 5 t1 (i64 (-3))) w fun t6 w=>gk t6 false t1 w fun t8 w=>g t6 false (et .eql 3 8 t8 (i64 1)) w fun t9 w=>aG t6 (.bool true) t9 fun t10=>gk t10 true t0 w fun t12 w=>g t10 true (et .eql 3 12 t12 (i64 2)) w fun t13 w=>aG t10 t13 (.bool false) fun t14=>R t14 w
theorem aTs (h:NJ t0 t1 w R):aB prog 207 #[t0,t1] w R:=dw aJh func207 h
def aJg:bS:=(q (s (q (cn (q l) l)) (q l)))
def NI (t0 t1:Value) (w:World) (R:Value→World→Prop):Prop:=
 v (et .eql 3 5 t0 (i64 2)) w fun t6 w=>gk t6 false t1 w fun t8 w=>g t6 false (et .eql 3 8 t8 (i64 2)) w fun t9 w=>aG t6 (.bool true) t9 fun t10=>aJ t10 (R (i64 2) w) (R (i64 1) w)
theorem aTr (h:NI t0 t1 w R):aB prog 208 #[t0,t1] w R:=dw aJg func208 h
def aJf:bS:=(q (s (q (cn (q l) l)) (s (.draw [0,1,2,0,8,16,0,64,128,288,516,2047] [0,1,2,0,8,16,0,64,128,288,516,1024] 0 12 4095 (tk (rg 0 8) (.only 9 (.only 10 (.take 11 .done))))) l)))
def NH (t0:Value) (w:World) (R:Value→World→Prop):Prop:=
 il 23 t0 (i64 1) 3 w fun t5 w=>c 206 #[t5] w fun t6 w3=>aJ t6 (il 23 t0 (i64 1) 3 w3 fun t9 w=>R t9 w) (aM w3 fun S3 w=>yi S3 23 t0 (i64 0) 3 fun t12=>yi S3 23 t0 (i64 1) 3 fun t15=>yi S3 23 t0 (i64 2) 3 fun t18=>c 208 #[t15,t18] w fun t19 w=>S3 w ∧
 c 208 #[t12,t19] w fun t20 w=>S3 w ∧
 R t20 w)
theorem aTq (h:NH t0 w R):aB prog 209 #[t0] w R:=dw aJf func209 h
def aJe:bS:=(q (s (q (bk (q (cn (q l) (q (cn (q l) l)))))) (q l)))
def NG (t0:Value) (w:World) (R:Value→World→Prop):Prop:=
 v (et .eql 3 3 t0 (i64 3)) w fun t5 w=>aJ t5 (R (i64 1) w) (v (et .eql 3 3 t0 (i64 4)) w fun t7 w=>aJ t7 (R (i64 2) w) (R (i64 0) w))
theorem aTo (h:NG t0 w R):aB prog 210 #[t0] w R:=dw aJe func210 h
def aJd:bS:=(q (s (q (bk (.loop ([4,5]++rg 8 18) [8] (q (s (cn l l) (s (bk (q (q (cn (q l) l)))) l)))))) (q l)))
def NE (t0 t1:Value) (w:World) (R:Value→World→Prop):Prop:=
 v (ln 66 3 t0) w fun t7 w=>∃ (I1:NP 1) (μ1:NF 1),I1 (i64 0) w ∧
 ∀ t8 w2,I1 t8 w2→∀ _f:bN,v (b .lss t8 t7) w2 fun t9 w3=>aJ t9 (il 66 t0 t8 180 w3 fun t15 w=>qY prog t1 #[t15] w fun t16 w=>aJ t16 (R t8 w) (v (b .add t8 (i64 1)) w fun t18 w=>I1 t18 w∧μ1 t18 w < μ1 t8 w2)) (R (i64 (-1)) w3)
theorem aTn (h:NE t0 t1 w R):aB prog 211 #[t0,t1] w R:=dw aJd func211 h
def aJc:bS:=(q (s (q (bk (.join (rg 5 8) [5] (q (cn l (q (cn l l)))) (cn (q l) (q (cn (q l) l)))))) (q l)))
def ND (t0:Value) (w:World) (R:Value→World→Prop):Prop:=
 v (box 83 t0) w fun t1 w=>fl 83 t1 0 3 w fun t4 w=>∃ J1:NP 1,(v (et .eql 3 4 t4 (i64 41)) w fun t6 w=>aJ t6 (J1 t6 w) (v (et .eql 3 4 t4 (i64 42)) w fun t7 w=>aJ t7 (J1 t7 w) (v (et .eql 3 4 t4 (i64 43)) w fun t8 w=>J1 t8 w))) ∧
 ∀ t5 w,J1 t5 w→∀ _f:bN,aJ t5 (R (.bool false) w) (v (et .eql 3 4 t4 (i64 40)) w fun t10 w8=>aJ t10 (fl 83 t1 4 3 w8 fun t12 w=>v (b .and t12 (i64 256)) w fun t13 w=>v (et .eql 3 13 t13 (i64 0)) w fun t14 w=>R t14 w) (R (.bool true) w8))
theorem aTm (h:ND t0 w R):aB prog 212 #[t0] w R:=dw aJc func212 h
def aJb:bS:=(q (s (q (cn (q l) l)) (q l)))
def NC (t0:Value) (w:World) (R:Value→World→Prop):Prop:=
 v (box 83 t0) w fun t1 w=>fl 83 t1 0 3 w fun t4 w=>v (et .eql 3 4 t4 (i64 43)) w fun t5 w=>aJ t5 (R (i64 4) w) (R (i64 2) w)
theorem aTl (h:NC t0 w R):aB prog 213 #[t0] w R:=dw aJb func213 h
def aJa:bS:=(q (q l))
def NB (t0 t1:Value) (w:World) (R:Value→World→Prop):Prop:=
 c 220 #[t0,t1] w fun t7 w=>v (b .geq t7 (i64 0)) w fun t8 w=>R t8 w
theorem aTk (h:NB t0 t1 w R):aB prog 214 #[t0,t1] w R:=dw aJa func214 h
def aIz:bS:=(q (q l))
def NA (t0:Value) (w:World) (R:Value→World→Prop):Prop:=
 v (box 83 t0) w fun t1 w=>v (loadAt 83 t1) w fun t3 w=>c 47 #[t3] w fun t4 w=>v (Op.unary UnOp.not t4) w fun t5 w=>R t5 w
theorem aTj (h:NA t0 w R):aB prog 215 #[t0] w R:=dw aIz func215 h
def aIy:bS:=(q (s (q (cn (q l) l)) (q l)))
def MZ (t0:Value) (w:World) (R:Value→World→Prop):Prop:=
 v (et .eql 3 3 t0 (i64 14)) w fun t4 w1=>aJ t4 (v (buildSlice 23 2 #[(0,(i64 2)),(1,(i64 4))]) w1 fun t5 w=>R t5 w) (v (buildSlice 23 3 #[(0,(i64 2)),(1,(i64 4)),(2,(i64 6))]) w1 fun t6 w=>R t6 w)
theorem aTi (h:MZ t0 w R):aB prog 216 #[t0] w R:=dw aIy func216 h
def aIx:bS:=(q (s (q (cn (q l) l)) (q l)))
def MY (t0:Value) (w:World) (R:Value→World→Prop):Prop:=
 aJ t0 (R (i64 1) w) (R (i64 0) w)
theorem aTh (h:MY t0 w R):aB prog 217 #[t0] w R:=dw aIx func217 h
def aIw:bS:=(q (s (cn (q (q l)) l) (q (q l))))
def MX (t0 t1:Value) (w:World) (R:Value→World→Prop):Prop:=
 aJ (.bool false) (v (convert 152 264 t0) w fun t12 w=>v (convert 152 264 t1) w fun t14 w=>c 221 #[t12,t14] w fun t15 w=>x2 t15 w fun t16 t17 w=>v (convert 264 152 t16) w fun t19 w=>v (convert 264 152 t17) w fun t21 w=>R (.tuple #[t19,t21]) w) (c 222 #[t0,t1] w fun t25 w=>x2 t25 w fun t26 t27 w=>R (.tuple #[t26,t27]) w)
theorem aTg (h:MX t0 t1 w R):aB prog 218 #[t0,t1] w R:=dw aIw func218 h
def aIv:bS:=(q (s (q (bk (.loop ([4,5]++rg 8 18) [8] (q (s (cn l l) (s (bk (q (q (cn (q l) l)))) l)))))) (q l)))
def MW (t0 t1:Value) (w:World) (R:Value→World→Prop):Prop:=
 v (ln 36 3 t0) w fun t7 w=>∃ (I1:NP 1) (μ1:NF 1),I1 (i64 0) w ∧
 ∀ t8 w2,I1 t8 w2→∀ _f:bN,v (b .lss t8 t7) w2 fun t9 w3=>aJ t9 (il 36 t0 t8 88 w3 fun t15 w=>qY prog t1 #[t15] w fun t16 w=>aJ t16 (R t8 w) (v (b .add t8 (i64 1)) w fun t18 w=>I1 t18 w∧μ1 t18 w < μ1 t8 w2)) (R (i64 (-1)) w3)
theorem aTf (h:MW t0 t1 w R):aB prog 219 #[t0,t1] w R:=dw aIv func219 h
def aIu:bS:=(q (s (q (bk (.loop ([4,5]++rg 8 18) [8] (q (s (cn l l) (s (bk (q (q (cn (q l) l)))) l)))))) (q l)))
def MV (t0 t1:Value) (w:World) (R:Value→World→Prop):Prop:=
 v (ln 230 3 t0) w fun t7 w=>∃ (I1:NP 1) (μ1:NF 1),I1 (i64 0) w ∧
 ∀ t8 w2,I1 t8 w2→∀ _f:bN,v (b .lss t8 t7) w2 fun t9 w3=>aJ t9 (il 230 t0 t8 83 w3 fun t15 w=>qY prog t1 #[t15] w fun t16 w=>aJ t16 (R t8 w) (v (b .add t8 (i64 1)) w fun t18 w=>I1 t18 w∧μ1 t18 w < μ1 t8 w2)) (R (i64 (-1)) w3)
theorem aTd (h:MV t0 t1 w R):aB prog 220 #[t0,t1] w R:=dw aIu func220 h
def aIt:bS:=(q (q (q (q (q (q (q (q (q (q (q (q l))))))))))))
def MU (t0 t1:Value) (w:World) (R:Value→World→Prop):Prop:=
 v (binOp .and 296 t0 (Value.int IntKind.u64 4294967295)) w fun t15 w=>v (binOp .shr 296 t0 (Value.int IntKind.u64 32)) w fun t17 w=>v (binOp .and 296 t1 (Value.int IntKind.u64 4294967295)) w fun t19 w=>v (binOp .shr 296 t1 (Value.int IntKind.u64 32)) w fun t21 w=>v (binOp .mul 296 t15 t19) w fun t24 w=>v (binOp .mul 296 t17 t19) w fun t27 w=>v (binOp .shr 296 t24 (Value.int IntKind.u64 32)) w fun t29 w=>v (binOp .add 296 t27 t29) w fun t30 w=>v (binOp .and 296 t30 (Value.int IntKind.u64 4294967295)) w fun t32 w=>v (binOp .shr 296 t30 (Value.int IntKind.u64 32)) w fun t34 w=>v (binOp .mul 296 t15 t21) w fun t38 w=>v (binOp .add 296 t32 t38) w fun t39 w=>v (binOp .mul 296 t17 t21) w fun t42 w=>v (binOp .add 296 t42 t34) w fun t44 w=>v (binOp .shr 296 t39 (Value.int IntKind.u64 32)) w fun t46 w=>v (binOp .add 296 t44 t46) w fun t47 w=>v (binOp .mul 296 t0 t1) w fun t50 w=>R (.tuple #[t47,t50]) w
theorem aTc (h:MU t0 t1 w R):aB prog 222 #[t0,t1] w R:=dw aIt func222 h
end Go.Proofs.YtjcmcfidblhnnaaGreatDoor
